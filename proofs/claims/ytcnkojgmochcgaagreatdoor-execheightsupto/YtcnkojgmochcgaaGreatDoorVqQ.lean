import Derived.Test.YtcnkojgmochcgaaGreatDoorVqM
import Derived.Test.YtcnkojgmochcgaaGreatDoorVbQ
noncomputable section
namespace Go.Proofs.Vq
open Go.Ab Go.Ab.Lf
set_option maxRecDepth 100000
theorem kT{o k lo:Int}(h:decide (o=k)=true)(hk:lo<=k):lo<=o:=by have:=of_decide_eq_true h;omega
theorem kU{o k hi:Int}(h:decide (o=k)=true)(hk:k<=hi):o<=hi:=by have:=of_decide_eq_true h;omega
theorem BL{o lo hi:Int}{p:Prop}[Decidable p](h:(bif decide (lo<=o)then bif decide (o<=hi)then decide p else false else false)=false)(h1:lo<=o)(h2:o<=hi): ¬ p:=by
 rw[decide_eq_true h1,decide_eq_true h2]at h
 exact of_decide_eq_false h
theorem Ki(o x y:Int)(hx:U x)(hy:U y):Ui (o,x,y,())=true/\U (m12 (o,x,y,())).1:=by
 refine fj.km (P:=fun y:aG cS=>U y.1) (ai _) (ai _) ?_
 rw[aaq]
 refine fj.ck (pG o).1 ?_
 have l63: ∀ z,0<=dm .u64 (ao .u64 z) 63:=fun z=>xO (mF z)
 have l31: ∀ z,0<=dm .u64 (ao .u64 z) 31:=fun z=>(qm (mF z) (y:=31) ⟨by decide,by decide⟩).1.1
 repeat' with_reducible first
  |refine fj.bif (fun _=>?_) (fun _=>?_)
  |exact fj.ok (P:=fun y:aG cS=>U y.1) (mF _)
  |exact fj.ok (P:=fun y:aG cS=>U y.1) U0
  |exact fj.ok (P:=fun y:aG cS=>U y.1) U1
  |exact fj.ok (P:=fun y:aG cS=>U y.1) (qm hx hy).1
  |exact fj.ok (P:=fun y:aG cS=>U y.1) (qm hx hy).2.1
  |exact fj.ok (P:=fun y:aG cS=>U y.1) (qm hx hy).2.2
  |exact fj.ok (P:=fun y:aG cS=>U y.1) (aas _ hx)
  |exact fj.ok (P:=fun y:aG cS=>U y.1) (Kh (xO hy))
  |exact fj.ok (P:=fun y:aG cS=>U y.1) (RB hx (xO hy))
  |exact fj.ok (P:=fun y:aG cS=>U y.1) (qm (Kh (l63 _)) (RB hx (RC _ _))).2.1
  |refine fj.ck (decide_eq_true (xO hy)) ?_
  |refine fj.ck (decide_eq_true (RA _)) ?_
  |refine fj.ck (Ej (l63 _)) ?_
  |refine fj.ck (Ej (l31 _)) ?_
  |refine fj.ck (nb (C5 (BL (by assumption) (kT (k:=109) (by assumption) (by decide)) (kU (k:=109) (by assumption) (by decide))))) ?_
  |refine fj.ck (nb (xP (BL (by assumption) (kT (k:=111) (by assumption) (by decide)) (kU (k:=111) (by assumption) (by decide))))) ?_
  |refine fj.ck (nb (BL (lo:=109) (hi:=112) (by assumption) (kT (k:=110) (by assumption) (by decide)) (kU (k:=110) (by assumption) (by decide)))) ?_
  |refine fj.ck (nb (BL (lo:=109) (hi:=112) (by assumption) (kT (k:=112) (by assumption) (by decide)) (kU (k:=112) (by assumption) (by decide)))) ?_
  |refine fj.ck (nb (y8 hy (BL (by assumption) (kT (k:=127) (by assumption) (by decide)) (kU (k:=127) (by assumption) (by decide))))) ?_
  |refine fj.ck (nb (y8 hy (BL (by assumption) (kT (k:=129) (by assumption) (by decide)) (kU (k:=129) (by assumption) (by decide))))) ?_
  |refine fj.ck (nb (BL (lo:=127) (hi:=130) (by assumption) (kT (k:=128) (by assumption) (by decide)) (kU (k:=128) (by assumption) (by decide)))) ?_
  |refine fj.ck (nb (BL (lo:=127) (hi:=130) (by assumption) (kT (k:=130) (by assumption) (by decide)) (kU (k:=130) (by assumption) (by decide)))) ?_
 all_goals (refine fj.ok ?_;show U (fM .u64 _);exact Pt _)
end Go.Proofs.Vq

noncomputable section
namespace Go.Proofs.Vq
open Go.Ab Go.Ab.Lf
set_option maxRecDepth 100000
theorem Ek(x:ks)(a b:Int)(ha:0<=a)(hb:0<=b)(yc:b<=1099511627776)(hl:x.st.length<=1099511627776)(h1:a<=(x.st.length:Int))(h2:(x.st.length:Int) - a+b<=1048576):
 ij (aJ [i64,i64] x (a,b,()))=true/\aF (aJ [i64,i64] x (a,b,()))=(true,aJ [] x ()):=by
 refine cg (ai _) (ai _) ?_
 rw[aam]
 have e1:aV .i64 (x.st.length:Int) a=(x.st.length:Int) - a:=wrap_i64 (by omega) (by omega)
 have e2:bL .i64 ((x.st.length:Int) - a) b=(x.st.length:Int) - a+b:=wrap_i64 (by omega) (by omega)
 rw[e1,e2,decide_eq_false (by omega),decide_eq_false (by omega)]
 rfl
section
variable (g:Cg)(m:Gi)(fu ho de:Int)(f2:den cr)(pc:Int)
end
end Go.Proofs.Vq

noncomputable section
namespace Go.Proofs.Vq
open Go.Ab Go.Ab.Lf
set_option maxRecDepth 100000
theorem df{p:Prop}[Decidable p](h: ¬ p):decide p=false:=decide_eq_false h
theorem dt{p:Prop}[Decidable p](h:p):decide p=true:=decide_eq_true h
section
variable (g:Cg)(m:Gi)(fu ho de:Int)(f2:den cr)(pc:Int)
end
end Go.Proofs.Vq

noncomputable section
namespace Go.Proofs.Vq
open Go.Ab Go.Ab.Lf
set_option maxRecDepth 100000
section
variable (g:Cg)(m:Gi)(fu ho de:Int)(cs:List (den bE))(ms:List Int)
theorem RD{α:Type}{l r:List α}{c:α}{j:Nat}(h:l.drop j=c::r):l.drop (j+1)=r:=by rw[<-List.tail_drop,h];rfl
theorem uj{j:Nat}(h:j<=1099511627776):bL .i64 (j:Int) 1=((j+1:Nat):Int):=afL (by omega)
end
end Go.Proofs.Vq

noncomputable section
namespace Go.Proofs.Vq
open Go.Ab Go.Ab.Lf
set_option maxRecDepth 100000
def mc3(y:aG (wV [i64,i64,.aC u64])):Gi:=⟨y.1,y.2.1,⟨y.2.2.1,y.2.2.2.1,y.2.2.2.2.1,y.2.2.2.2.2.1,(y.2.2.2.2.2.2.1,y.2.2.2.2.2.2.2.1,y.2.2.2.2.2.2.2.2.1,y.2.2.2.2.2.2.2.2.2.1,y.2.2.2.2.2.2.2.2.2.2.1,y.2.2.2.2.2.2.2.2.2.2.2.1,y.2.2.2.2.2.2.2.2.2.2.2.2.1,y.2.2.2.2.2.2.2.2.2.2.2.2.2.1,y.2.2.2.2.2.2.2.2.2.2.2.2.2.2.1,y.2.2.2.2.2.2.2.2.2.2.2.2.2.2.2.1,y.2.2.2.2.2.2.2.2.2.2.2.2.2.2.2.2.1,()),y.2.2.2.2.2.2.2.2.2.2.2.2.2.2.2.2.2.1,y.2.2.2.2.2.2.2.2.2.2.2.2.2.2.2.2.2.2.1⟩,⟨y.2.2.2.2.2.2.2.2.2.2.2.2.2.2.2.2.2.2.2.1,y.2.2.2.2.2.2.2.2.2.2.2.2.2.2.2.2.2.2.2.2.1,y.2.2.2.2.2.2.2.2.2.2.2.2.2.2.2.2.2.2.2.2.2.1⟩,(y.2.2.2.2.2.2.2.2.2.2.2.2.2.2.2.2.2.2.2.2.2.2.1,y.2.2.2.2.2.2.2.2.2.2.2.2.2.2.2.2.2.2.2.2.2.2.2.1,y.2.2.2.2.2.2.2.2.2.2.2.2.2.2.2.2.2.2.2.2.2.2.2.2.1,y.2.2.2.2.2.2.2.2.2.2.2.2.2.2.2.2.2.2.2.2.2.2.2.2.2.1,y.2.2.2.2.2.2.2.2.2.2.2.2.2.2.2.2.2.2.2.2.2.2.2.2.2.2.1,y.2.2.2.2.2.2.2.2.2.2.2.2.2.2.2.2.2.2.2.2.2.2.2.2.2.2.2.1,y.2.2.2.2.2.2.2.2.2.2.2.2.2.2.2.2.2.2.2.2.2.2.2.2.2.2.2.2.1,y.2.2.2.2.2.2.2.2.2.2.2.2.2.2.2.2.2.2.2.2.2.2.2.2.2.2.2.2.2.1,y.2.2.2.2.2.2.2.2.2.2.2.2.2.2.2.2.2.2.2.2.2.2.2.2.2.2.2.2.2.2.1,y.2.2.2.2.2.2.2.2.2.2.2.2.2.2.2.2.2.2.2.2.2.2.2.2.2.2.2.2.2.2.2.1,y.2.2.2.2.2.2.2.2.2.2.2.2.2.2.2.2.2.2.2.2.2.2.2.2.2.2.2.2.2.2.2.2.1,()),y.2.2.2.2.2.2.2.2.2.2.2.2.2.2.2.2.2.2.2.2.2.2.2.2.2.2.2.2.2.2.2.2.2.1⟩
theorem aga(g:Cg)(m:Gi)(f fu:Int)(az:List Int)(fn:den cr)(qN:fn=m.fns.getD f.toNat (aE cr))(sg:den bz)(Q0:sg=m.sigs.getD (fn.2.1:Int).toNat (aE bz))(a:aG jX)(ha:a=gp [i64,i64,.aC u64,.aC i64,i64,i64] m (f,fu,az,sg.1,(sg.1.length:Int),0,()))
 (z:aG jv)(hz:z=je wb jX jv a)(c:aG (rR [i64,.aC u64]))(hc:c=mT [i64,.aC u64] ⟨mc3 z,min (max (z.2.2.2.2.2.2.2.2.2.2.2.2.2.2.2.2.2.2.2.2.2.2.2.2.2.2.2.2.2.2.2.2.2.2.2.1:Int) 0) 100000,0,0,0⟩ (z.2.2.2.2.2.2.2.2.2.2.2.2.2.2.2.2.2.2.2.2.2.2.2.2.2.2.2.2.2.2.2.2.2.2.1,z.2.2.2.2.2.2.2.2.2.2.2.2.2.2.2.2.2.2.2.2.2.2.2.2.2.2.2.2.2.2.2.2.2.2.2.2.1,()))(R:Rn)(hR:R=rnO (g.2 c).2):
 (t23 g (gp [i64,.aC u64,i64] m (f,az,fu,()))).val=
  (let E:=some (aH wc (1,0,[],0,gp [] m ()))
   bif decide (f<0)then E else bif decide ((m.fns.length:Int)<=f)then E else bJ (bF f (m.fns.length:Int)) (bif !decide ((az.length:Int)=fn.2.2.1)then E else
   bif m.bad then some (aH wc (40,0,[],0,gp [] m ()))else
   bJ (decide (az.length<=1099511627776)) (bJ (bF f (m.fns.length:Int)&&bF fn.2.1 (m.sigs.length:Int)) (bJ (zy wb jX jv a) (bJ (g.1 c)
    (bif decide (R.err=0)then some (aH wc (R.err,0,(g.2 c).1,R.fuel,gp [] R.m ()))else bif decide (R.err=28)then some (aH wc (R.err,R.m.h.code,[],R.fuel,gp [] R.m ()))else some (aH wc (R.err,0,[],R.fuel,gp [] R.m ())))))))):=by
 subst hR;subst hc;subst hz;subst ha;subst Q0;subst qN
 show _=_
 kernel_rfl
end Go.Proofs.Vq

noncomputable section
namespace Go.Proofs.Vq
open Go.Ab Go.Ab.Lf
set_option maxRecDepth 100000
theorem agb(ss:List (den bz))(fs:List (den cr))(v sm fi tb sw:List Int)(mo:Int)(h:Ww)(bad:Bool)(hb:bad= !decide ((Rb (ss,fs,())).1=0))(a0:aG mU)(ha:a0=(ss,fs,ss,oJ (n5 (kO [.bool,i64,i64])) ⟨v,sm,fi,tb,dh,sw,mo⟩ (rS (kO [.bool,i64,i64]) h (ui [.bool,i64,i64] dh (bad,(ss.length:Int),0,())))))
 (z0:aG kt)(hz:z0=je xN mU kt a0)(a2:aG ma)(N5:a2=(z0.2.2.1,z0.2.1,z0.2.2.2.1,z0.2.2.2.2.1,z0.2.2.2.2.2.1,z0.2.2.2.2.2.2.1,z0.2.2.2.2.2.2.2.1,z0.2.2.2.2.2.2.2.2.1,z0.2.2.2.2.2.2.2.2.2.1,z0.2.2.2.2.2.2.2.2.2.2.1,z0.2.2.2.2.2.2.2.2.2.2.2.1,z0.2.2.2.2.2.2.2.2.2.2.2.2.1,z0.2.2.2.2.2.2.2.2.2.2.2.2.2.1,z0.2.2.2.2.2.2.2.2.2.2.2.2.2.2.1,z0.2.2.2.2.2.2.2.2.2.2.2.2.2.2.2.1,z0.2.2.2.2.2.2.2.2.2.2.2.2.2.2.2.2.1,z0.2.2.2.2.2.2.2.2.2.2.2.2.2.2.2.2.2.1,z0.2.2.2.2.2.2.2.2.2.2.2.2.2.2.2.2.2.2.1,z0.2.2.2.2.2.2.2.2.2.2.2.2.2.2.2.2.2.2.2.1,z0.2.2.2.2.2.2.2.2.2.2.2.2.2.2.2.2.2.2.2.2.1,z0.2.2.2.2.2.2.2.2.2.2.2.2.2.2.2.2.2.2.2.2.2.1,z0.2.2.2.2.2.2.2.2.2.2.2.2.2.2.2.2.2.2.2.2.2.2.1,z0.2.2.2.2.2.2.2.2.2.2.2.2.2.2.2.2.2.2.2.2.2.2.2.1,z0.2.2.2.2.2.2.2.2.2.2.2.2.2.2.2.2.2.2.2.2.2.2.2.2.1,z0.2.2.2.2.2.2.2.2.2.2.2.2.2.2.2.2.2.2.2.2.2.2.2.2.2.1,z0.2.2.2.2.2.2.2.2.2.2.2.2.2.2.2.2.2.2.2.2.2.2.2.2.2.2.1,z0.2.2.2.2.2.2.2.2.2.2.2.2.2.2.2.2.2.2.2.2.2.2.2.2.2.2.2.1,z0.2.2.2.2.2.2.2.2.2.2.2.2.2.2.2.2.2.2.2.2.2.2.2.2.2.2.2.2.1,z0.2.2.2.2.2.2.2.2.2.2.2.2.2.2.2.2.2.2.2.2.2.2.2.2.2.2.2.2.2.1,z0.2.2.2.2.2.2.2.2.2.2.2.2.2.2.2.2.2.2.2.2.2.2.2.2.2.2.2.2.2.2.1,z0.2.2.2.2.2.2.2.2.2.2.2.2.2.2.2.2.2.2.2.2.2.2.2.2.2.2.2.2.2.2.2.1,z0.2.2.2.2.2.2.2.2.2.2.2.2.2.2.2.2.2.2.2.2.2.2.2.2.2.2.2.2.2.2.2.2.1,z0.2.2.2.2.2.2.2.2.2.2.2.2.2.2.2.2.2.2.2.2.2.2.2.2.2.2.2.2.2.2.2.2.2.1,z0.2.2.2.2.2.2.2.2.2.2.2.2.2.2.2.2.2.2.2.2.2.2.2.2.2.2.2.2.2.2.2.2.2.2.1,(z0.2.1.length:Int),0,())):
 (t22 (ss,fs,oJ (n5 []) ⟨v,sm,fi,tb,dh,sw,mo⟩ (rS [] h ()))).val=
  bJ (GK dh) (bJ (Wv (ss,fs,())) (bJ (decide (ss.length<=1099511627776)) (bJ (zy xN mU kt a0) (bJ (decide (z0.2.1.length<=549755813888)) (bJ (zy we ma ku a2) (some (aH C3 (je we ma ku a2)))))))):=by
 subst N5;subst hz;subst ha;subst hb
 show _=_
 kernel_rfl
section
variable (cs:List (den bE))(v sm fi tb sw:List Int)(mo:Int)(h:Ww)(bad:Bool)
theorem Kj(md:aG tM)(i:Int)(ss:List (den bz))(n:Int)(fs:List (den cr))(sg:List (den bz))(s1:den bz)(BH:s1=sg.getD i.toNat (aE bz)):(xN (aH mU (ss,fs,sg,oJ (n5 (kO [.bool,i64,i64])) ⟨v,sm,fi,tb,md,sw,mo⟩ (rS (kO [.bool,i64,i64]) h (ui [.bool,i64,i64] md (bad,n,i,())))))).val=
 bif decide (i<n)then(bJ (bF i (sg.length:Int)) (bJ (decide (s1.1.length<=1099511627776)) (bJ (decide (s1.2.length<=1099511627776)) (bJ (bF i (sg.length:Int)) (some (.next (aH mU (ss,fs,sg.set i.toNat (s1.1,s1.2),oJ (n5 (kO [.bool,i64,i64])) ⟨v,sm,fi,tb,md,sw,mo⟩ (rS (kO [.bool,i64,i64]) h (ui [.bool,i64,i64] md (bad,n,bL .i64 i 1,())))))))))))else some (.out 0 (aH kt (ss,fs,sg,oJ (n5 (kO [.bool])) ⟨v,sm,fi,tb,md,sw,mo⟩ (rS (kO [.bool]) h (ui [.bool] md (bad,())))))):=by
 subst BH
 show _=_
 kernel_rfl
theorem Kk(m:Gi)(n i:Int)(fn:den cr)(hf:fn=m.fns.getD i.toNat (aE cr)):(we (aH ma (gp [i64,i64] m (n,i,())))).val=
 bif decide (i<n)then(bJ (bF i (m.fns.length:Int)) (bJ (decide (fn.2.2.2.2.2.1.length<=1099511627776)) (bJ (bF i (m.fns.length:Int)) (some (.next (aH ma (gp [i64,i64] {m with fns:=m.fns.set i.toNat (fn.1,fn.2.1,fn.2.2.1,fn.2.2.2.1,fn.2.2.2.2.1,fn.2.2.2.2.2.1,fn.2.2.2.2.2.2)} (n,bL .i64 i 1,()))))))))else some (.out 0 (aH ku (gp [] m ()))):=by
 subst hf
 show _=_
 kernel_rfl
end
end Go.Proofs.Vq

noncomputable section
namespace Go.Proofs.Vq
open Go.Ab Go.Ab.Lf
set_option maxRecDepth 100000
section
variable (cs:List (den bE))
end
end Go.Proofs.Vq

noncomputable section
namespace Go.Proofs.Vq
open Go.Ab Go.Ab.Lf
set_option maxRecDepth 100000
section
variable (cs:List (den bE))
end
end Go.Proofs.Vq

noncomputable section
namespace Go.Proofs.Vq
open Go.Ab Go.Ab.Lf
set_option maxRecDepth 100000
end Go.Proofs.Vq

noncomputable section
namespace Go.Proofs.Vq
open Go.Ab Go.Ab.Lf
set_option maxRecDepth 100000
end Go.Proofs.Vq

noncomputable section
namespace Go.Proofs.Vq
open Go.Ab Go.Ab.Lf
set_option maxRecDepth 100000
end Go.Proofs.Vq

noncomputable section
namespace Go.Proofs.Vq
open Go.Ab Go.Ab.Lf
set_option maxRecDepth 100000
end Go.Proofs.Vq

noncomputable section
namespace Go.Proofs.Vq
open Go.Ab Go.Ab.Lf
set_option maxRecDepth 100000
section
variable (g:Cg)
end
end Go.Proofs.Vq

noncomputable section
namespace Go.Proofs.Vq
open Go.Ab Go.Ab.Lf
set_option maxRecDepth 100000
end Go.Proofs.Vq

noncomputable section
namespace Go.Proofs.Vq
open Go.Ab Go.Ab.Lf
set_option maxRecDepth 100000
end Go.Proofs.Vq

noncomputable section
namespace Go.Proofs.Vq
open Go.Ab Go.Ab.Lf
set_option maxRecDepth 100000
section
variable (g:Cg)
theorem agc{x:ks}{cs:List (den bE)}(hf:cs=x.f.2.2.2.2.2.1)(he:x.r.err=0){pc:Nat}(hp:x.pc=(pc:Int)){c:den bE}{r:List (den bE)}(hd:cs.drop pc=c::r)(f0:den cr)(hf0:cs=f0.2.2.2.2.2.1){x':ks}
 (h:rT g (aJ gG x (c.1,c.2.1,c.2.2,()))=true/\rU g (aJ gG x (c.1,c.2.1,c.2.2,()))=aJ [] x' ()):
 (rV g (aH i1 (cL x.r f0 x.f x.pc x.st x.lo))).val=some (.next (aH i1 (cL x'.r f0 x'.f x'.pc x'.st x'.lo))):=by
 obtain⟨fO,hg⟩:=AQ hd (aE bE)
 refine(Rj g x.r f0 x.f x.pc x.st x.lo cs hf0 c (by rw[hp,Int.toNat_natCast];exact hg.symm) (aJ gG x (c.1,c.2.1,c.2.2,())) rfl x' (by rw[h.2];rfl)).trans ?_
 rw[dt he,hp,dt (show(0:Int)<=(pc:Int) by omega),df (show ¬ (cs.length:Int)<=(pc:Int) by omega),show bF (pc:Int) (cs.length:Int)=true from cZ fO,h.1]
 rfl
end
end Go.Proofs.Vq

noncomputable section
namespace Go.Proofs.Vq
open Go.Ab Go.Ab.Lf
set_option maxRecDepth 100000
section
variable (g:Cg)
end
end Go.Proofs.Vq

noncomputable section
namespace Go.Proofs.Vq
open Go.Ab Go.Ab.Lf
set_option maxRecDepth 100000
section
variable (g:Cg)
end
end Go.Proofs.Vq

noncomputable section
namespace Go.Proofs.Vq
open Go.Ab Go.Ab.Lf
set_option maxRecDepth 100000
end Go.Proofs.Vq

noncomputable section
namespace Go.Proofs.Vq
open Go.Ab Go.Ab.Lf
set_option maxRecDepth 100000
section
variable (n o:Nat)(lo:Int)(cs:List (den bE))
variable {n o lo cs}
end
section
variable (sg:den bz)(fn:den cr)(v sm fi tb sw:List Int)(mo:Int)(h:Ww)(bad:Bool)
end
end Go.Proofs.Vq

noncomputable section
namespace Go.Proofs.Vq
open Go.Ab Go.Ab.Lf
set_option maxRecDepth 100000
theorem tj{f:List Pl->Lf.T Rs}(n:Nat)(st:Nat->List Pl)(p:Nat->Bool)(o0 o1:List Pl)
 (Km: ∀ j,j<n->(f (st j)).val=some (bif p j then .next (st (j+1))else .out 1 o1))(UJ:(f (st n)).val=some (.out 0 o0)):nu f (st 0) (bif (List.range n).all p then 0 else 1) (bif (List.range n).all p then o0 else o1):=by
 have key: ∀ (k j:Nat),j+k=n->nu f (st j) (bif (List.range' j k).all p then 0 else 1) (bif (List.range' j k).all p then o0 else o1):=by
  intro k
  induction k with
  |zero=>
   intro j h
   have:j=n:=by omega
   subst this
   exact .last UJ
  |succ k ih=>
   intro j h
   have hs:=Km j (by omega)
   rw[List.range'_succ,List.all_cons]
   cases hp:p j with
   |true=>rw[hp]at hs;rw[Bool.true_and];exact .more hs (ih (j+1) (by omega))
   |false=>rw[hp]at hs;exact .last hs
 rw[List.range_eq_range']
 exact key n 0 (by omega)
def Be(t:Int):Bool:=bif !decide (t=127)then !decide (t=126)else false
def LK(l:List Int):Bool:=(List.range l.length).all fun j=> !Be (l.getD j 0)
theorem c83(l:List Int)(hl:l.length<=1099511627776):Wt (l,())=true/\Wu (l,())=(LK l,()):=by
 refine cg (ai _) (ai _) ?_
 have r:=tj (f:=vY) l.length (fun j=>aH qi (l,(l.length:Int),(j:Int),())) (fun j=> !Be (l.getD j 0)) (aH nY ()) (aH mC (false,())) (fun j hj=>by
  refine(Rk l (l.length:Int) (j:Int)).trans ?_
  rw[pC hj,show bF (j:Int) (l.length:Int)=true from cZ hj,uj (by omega)]
  show bJ true (bif Be (l.getD j 0)then _ else _)=_
  cases Be (l.getD j 0)<;>rfl) (by
  refine(Rk l (l.length:Int) (l.length:Int)).trans ?_
  rw[mB (Nat.le_refl _)]
  rfl)
 have e:(t83 (l,())).val=bJ (wS vY qi nY mC (l,(l.length:Int),0,())) (bif vW vY qi (l,(l.length:Int),0,())then some (aH AX (true,()))else some (aH AX ((je vY qi mC (l,(l.length:Int),0,())).1,()))):=af7 l
 refine e.trans ?_
 unfold LK
 cases hb:(List.range l.length).all (fun j=> !Be (l.getD j 0))with
 |true=>
  rw[hb]at r
  obtain⟨q1,q2,_⟩:=nW (f:=vY) (ti:=qi) (t0:=nY) (t1:=mC) (y:=()) (x:=(l,(l.length:Int),0,())) r
  rw[q1,q2];rfl
 |false=>
  rw[hb]at r
  obtain⟨q1,q2,q3⟩:=nX (f:=vY) (ti:=qi) (t0:=nY) (t1:=mC) (y:=(false,())) (x:=(l,(l.length:Int),0,())) r
  rw[q1,q2,q3];rfl
theorem UK(o:Int):OB (o,())=true:=by
 refine(fj.km (P:=fun _:aG fe=>True) (ai _) (ai _) ?_).1
 rw[Rl]
 repeat' with_reducible first
  |exact fj.ok (P:=fun _:aG fe=>True) trivial
  |refine fj.bif (fun _=>?_) (fun _=>?_)
  |refine fj.ck (pG o).1 ?_
 all_goals exact fj.ok (P:=fun _:aG fe=>True) trivial
def aau(o:Int):Bool:=(JU (o,())).1
def rW(ns nf:Nat)(i lo:Int)(nc:Nat)(t:Int)(c:den bE):Bool:=
 bif decide (c.1=12)then bif decide (0<=(c.2.1:Int))then decide ((c.2.1:Int)<(nc:Int))else false
 else bif decide (c.1=13)then bif decide (0<=(c.2.1:Int))then decide ((c.2.1:Int)<(nc:Int))else false
 else bif decide (c.1=14)then bif decide (0<=(c.2.1:Int))then decide ((c.2.1:Int)<aV .i64 (aV .i64 (nc:Int) t) 1)else false
 else bif decide (c.1=16)then bif decide (0<=(c.2.1:Int))then decide ((c.2.1:Int)<(nf:Int))else false
 else bif decide (c.1=17)then bif decide (0<=(c.2.1:Int))then decide ((c.2.1:Int)<(ns:Int))else false
 else bif decide (c.1=32)then bif decide (0<=(c.2.1:Int))then decide ((c.2.1:Int)<bL .i64 i lo)else false
 else bif decide (c.1=33)then bif decide (0<=(c.2.1:Int))then decide ((c.2.1:Int)<bL .i64 i lo)else false
 else bif decide (c.1=34)then bif decide (0<=(c.2.1:Int))then decide ((c.2.1:Int)<bL .i64 i lo)else false
 else bif decide (c.1=35)then decide (0<=(c.2.1:Int))
 else bif decide (c.1=36)then decide (0<=(c.2.1:Int))
 else bif decide (c.1=256)then bif decide (0<=(c.2.1:Int))then bif decide ((c.2.1:Int)<=1048576)then decide ((c.2.2:Int)<=1048576)else false else false
 else aau c.1
theorem agd(ss:List (den bz))(fs:List (den cr))(p0 p1 p2 p3 p4:Int)(cs:List (den bE))(ms:List Int)(t:Int)(c:den bE):OE (ss,fs,p0,p1,p2,p3,p4,cs,ms,t,c.1,c.2.1,c.2.2,())=true/\OG (ss,fs,p0,p1,p2,p3,p4,cs,ms,t,c.1,c.2.1,c.2.2,())=(rW ss.length fs.length p2 p4 cs.length t c,()):=by
 refine cg (ai _) (ai _) ?_
 refine(aao ss fs p0 p1 p2 p3 p4 cs ms t c.1 c.2.1 c.2.2).trans ?_
 rw[UK]
 unfold rW
 cases decide (c.1=12)with
 |true=>rfl
 |false=>
 cases decide (c.1=13)with
 |true=>rfl
 |false=>
 cases decide (c.1=14)with
 |true=>rfl
 |false=>
 cases decide (c.1=16)with
 |true=>rfl
 |false=>
 cases decide (c.1=17)with
 |true=>rfl
 |false=>
 cases decide (c.1=32)with
 |true=>rfl
 |false=>
 cases decide (c.1=33)with
 |true=>rfl
 |false=>
 cases decide (c.1=34)with
 |true=>rfl
 |false=>
 cases decide (c.1=35)with
 |true=>rfl
 |false=>
 cases decide (c.1=36)with
 |true=>rfl
 |false=>
 cases decide (c.1=256)with
 |true=>rfl
 |false=>rfl
end Go.Proofs.Vq

noncomputable section
namespace Go.Proofs.Vq
open Go.Ab Go.Ab.Lf
set_option maxRecDepth 100000
section
variable (ss:List (den bz))(fs:List (den cr))
def C6(f:den cr):Bool:=(List.range f.2.2.2.2.2.1.length).all fun j=>rW ss.length fs.length f.2.2.1 f.2.2.2.2.1 f.2.2.2.2.2.1.length (j:Int) (f.2.2.2.2.2.1.getD j (aE bE))
def rX(f:den cr):Bool:=bif decide ((f.1:Int)<(-1))then true else bif decide ((f.2.1:Int)<0)then true else bif decide ((ss.length:Int)<=f.2.1)then true else bif decide ((f.2.2.2.2.1:Int)<0)then true else bif decide (4096<(f.2.2.2.2.1:Int))then true else decide ((f.1:Int)=(-1)) ^^ decide (0<(f.2.2.2.2.2.1.length:Int))
def y9(f:den cr)(s:den bz):Bool:=bif !decide ((f.2.2.1:Int)=(s.1.length:Int))then true else !decide ((f.2.2.2.1:Int)=(s.2.length:Int))
def LL(f:den cr):Bool:=bif rX ss f then false else bif y9 f (ss.getD (f.2.1:Int).toNat (aE bz))then false else C6 ss fs f
theorem c84(f:den cr)(hl:f.2.2.2.2.2.1.length<=1099511627776):k84 (ss,fs,f.1,f.2.1,f.2.2.1,f.2.2.2.1,f.2.2.2.2.1,f.2.2.2.2.2.1,f.2.2.2.2.2.2,())=true/\m84 (ss,fs,f.1,f.2.1,f.2.2.1,f.2.2.2.1,f.2.2.2.2.1,f.2.2.2.2.2.1,f.2.2.2.2.2.2,())=(LL ss fs f,()):=by
 obtain⟨p0,p1,p2,p3,p4,cs,ms⟩:=f
 have hl:cs.length<=1099511627776:=hl
 refine cg (ai _) (ai _) ?_
 have r:=tj (f:=vZ) cs.length (fun j=>aH qj (p0,p1,p2,p3,p4,cs,ms,ss,fs,cs,(cs.length:Int),(j:Int),())) (fun j=>rW ss.length fs.length p2 p4 cs.length (j:Int) (cs.getD j (aE bE))) (aH nZ ()) (aH mD (false,())) (fun j hj=>by
  obtain⟨q1,q2⟩:=agd ss fs p0 p1 p2 p3 p4 cs ms (j:Int) (cs.getD j (aE bE))
  refine(Rm p0 p1 p2 p3 p4 cs ms ss fs cs (cs.length:Int) (j:Int)).trans ?_
  rw[pC hj,show bF (j:Int) (cs.length:Int)=true from cZ hj,uj (by omega),Int.toNat_natCast]
  rw[show OE (ss,fs,p0,p1,p2,p3,p4,cs,ms,(j:Int),(List.getD cs j (aE ((Ty.int .i64).pair ((Ty.int .i64).pair (Ty.int .u64))))).1,(List.getD cs j (aE ((Ty.int .i64).pair ((Ty.int .i64).pair (Ty.int .u64))))).2.1,(List.getD cs j (aE ((Ty.int .i64).pair ((Ty.int .i64).pair (Ty.int .u64))))).2.2,())=true from q1,
   show OG (ss,fs,p0,p1,p2,p3,p4,cs,ms,(j:Int),(List.getD cs j (aE ((Ty.int .i64).pair ((Ty.int .i64).pair (Ty.int .u64))))).1,(List.getD cs j (aE ((Ty.int .i64).pair ((Ty.int .i64).pair (Ty.int .u64))))).2.1,(List.getD cs j (aE ((Ty.int .i64).pair ((Ty.int .i64).pair (Ty.int .u64))))).2.2,())=(rW ss.length fs.length p2 p4 cs.length (j:Int) (cs.getD j (aE bE)),())from q2]
  cases rW ss.length fs.length p2 p4 cs.length (j:Int) (cs.getD j (aE bE))<;>rfl) (by
  refine(Rm p0 p1 p2 p3 p4 cs ms ss fs cs (cs.length:Int) (cs.length:Int)).trans ?_
  rw[mB (Nat.le_refl _)]
  rfl)
 have e:(t84 (ss,fs,p0,p1,p2,p3,p4,cs,ms,())).val=bif rX ss (p0,p1,p2,p3,p4,cs,ms)then some (aH uf (false,()))else bJ (bF p1 (ss.length:Int)) (bif y9 (p0,p1,p2,p3,p4,cs,ms) (ss.getD (p1:Int).toNat (aE bz))then some (aH uf (false,()))else
  bJ (wS vZ qj nZ mD (p0,p1,p2,p3,p4,cs,ms,ss,fs,cs,(cs.length:Int),0,())) (bif vW vZ qj (p0,p1,p2,p3,p4,cs,ms,ss,fs,cs,(cs.length:Int),0,())then some (aH uf (true,()))else some (aH uf ((je vZ qj mD (p0,p1,p2,p3,p4,cs,ms,ss,fs,cs,(cs.length:Int),0,())).1,())))):=(af8 ss fs p0 p1 p2 p3 p4 cs ms).trans (by show _=_;kernel_rfl)
 refine e.trans ?_
 unfold LL
 cases h1:rX ss (p0,p1,p2,p3,p4,cs,ms)with
 |true=>rfl
 |false=>
  have hix:bF p1 (ss.length:Int)=true:=by
   rw[np]
   unfold rX at h1
   dsimp only at h1
   obtain⟨q,hq⟩: ∃ q:Int,q=p1:=⟨p1,rfl⟩
   have h1:(bif decide ((p0:Int)<(-1))then true else bif decide (q<0)then true else bif decide ((ss.length:Int)<=q)then true else bif decide ((p4:Int)<0)then true else bif decide (4096<(p4:Int))then true else decide ((p0:Int)=(-1)) ^^ decide (0<(cs.length:Int)))=false:=by rw[hq];exact h1
   rw[<-hq]
   by_cases a1:(p0:Int)<(-1)
   ·rw[dt a1]at h1;cases h1
   ·by_cases a2:q<0
    ·rw[df a1,dt a2]at h1;cases h1
    ·by_cases a3:(ss.length:Int)<=q
     ·rw[df a1,df a2,dt a3]at h1;cases h1
     ·exact⟨by omega,by omega⟩
  rw[hix]
  cases h2:y9 (p0,p1,p2,p3,p4,cs,ms) (ss.getD (p1:Int).toNat (aE bz))with
  |true=>rfl
  |false=>
   have hc:C6 ss fs (p0,p1,p2,p3,p4,cs,ms)=(List.range cs.length).all fun j=>rW ss.length fs.length p2 p4 cs.length (j:Int) (cs.getD j (aE bE)):=rfl
   rw[hc]
   cases hb:(List.range cs.length).all (fun j=>rW ss.length fs.length p2 p4 cs.length (j:Int) (cs.getD j (aE bE)))with
   |true=>
    rw[hb]at r
    obtain⟨q1,q2,_⟩:=nW (f:=vZ) (ti:=qj) (t0:=nZ) (t1:=mD) (y:=()) (x:=(p0,p1,p2,p3,p4,cs,ms,ss,fs,cs,(cs.length:Int),0,())) r
    rw[q1,q2];rfl
   |false=>
    rw[hb]at r
    obtain⟨q1,q2,q3⟩:=nX (f:=vZ) (ti:=qj) (t0:=nZ) (t1:=mD) (y:=(false,())) (x:=(p0,p1,p2,p3,p4,cs,ms,ss,fs,cs,(cs.length:Int),0,())) r
    rw[q1,q2,q3];rfl
def RE:Bool:=(List.range ss.length).all fun j=>LK (ss.getD j (aE bz)).1&&LK (ss.getD j (aE bz)).2
def Pv:Bool:=(List.range fs.length).all fun j=>LL ss fs (fs.getD j (aE cr))
def rY:Bool:=RE ss&&Pv ss fs
structure Fits:Prop where
 ls:ss.length<=1099511627776
 lf:fs.length<=1099511627776
 s: ∀ s:den bz,s∈ss->s.1.length<=1099511627776/\s.2.length<=1099511627776
 f: ∀ f:den cr,f∈fs->f.2.2.2.2.2.1.length<=1099511627776
theorem jw{α:Type}{l:List α}{j:Nat}(h:j<l.length)(d:α):l.getD j d∈l:=by
 rw[List.getD_eq_getElem?_getD,List.getElem?_eq_getElem h]
 exact List.getElem_mem h
theorem c34(H:Fits ss fs):Wv (ss,fs,())=true/\Rb (ss,fs,())=(bif rY ss fs then 0 else 1,()):=by
 refine cg (ai _) (ai _) ?_
 have r1:=tj (f:=f340) ss.length (fun j=>aH iZ (ss,fs,ss,(ss.length:Int),(j:Int),())) (fun j=>LK (ss.getD j (aE bz)).1&&LK (ss.getD j (aE bz)).2) (aH fH (ss,fs,())) (aH jt (1,())) (fun j hj=>by
  obtain⟨h1,h2⟩:=H.s _ (jw hj (aE bz))
  obtain⟨a1,a2⟩:=c83 _ h1
  obtain⟨b1,b2⟩:=c83 _ h2
  refine(Rp ss fs ss (ss.length:Int) (j:Int)).trans ?_
  rw[pC hj,show bF (j:Int) (ss.length:Int)=true from cZ hj,uj (by have:=H.ls;omega),Int.toNat_natCast]
  refine Eq.trans (b:=bJ (Wt ((ss.getD j (aE bz)).1,())) (bif !(Wu ((ss.getD j (aE bz)).1,())).1 then(some (.out 1 (aH jt (1,()))):Option Rs)else bJ (Wt ((ss.getD j (aE bz)).2,())) (bif !(Wu ((ss.getD j (aE bz)).2,())).1 then some (.out 1 (aH jt (1,())))else some (.next (aH iZ (ss,fs,ss,(ss.length:Int),((j+1:Nat):Int),())))))) (by show _=_;kernel_rfl) ?_
  rw[a1,a2,b1,b2]
  cases LK (ss.getD j (aE bz)).1<;>cases LK (ss.getD j (aE bz)).2<;>rfl) (by
  refine(Rp ss fs ss (ss.length:Int) (ss.length:Int)).trans ?_
  rw[mB (Nat.le_refl _)]
  rfl)
 have r2:=tj (f:=f342) fs.length (fun j=>aH nz (ss,fs,(fs.length:Int),(j:Int),())) (fun j=>LL ss fs (fs.getD j (aE cr))) (aH mE ()) (aH j8 (1,())) (fun j hj=>by
  obtain⟨a1,a2⟩:=c84 ss fs (fs.getD j (aE cr)) (H.f _ (jw hj (aE cr)))
  refine(Rq ss fs (fs.length:Int) (j:Int)).trans ?_
  rw[pC hj,show bF (j:Int) (fs.length:Int)=true from cZ hj,uj (by have:=H.lf;omega),Int.toNat_natCast]
  generalize hF:fs.getD j (aE cr)=F at a1 a2 ⊢
  rw[a1,a2]
  cases LL ss fs F<;>rfl) (by
  refine(Rq ss fs (fs.length:Int) (fs.length:Int)).trans ?_
  rw[mB (Nat.le_refl _)]
  rfl)
 have e:(t34 (ss,fs,())).val=bJ (wS f340 iZ fH jt (ss,fs,ss,(ss.length:Int),0,())) (bif vW f340 iZ (ss,fs,ss,(ss.length:Int),0,())then
  bJ (wS f342 nz mE j8 ((je f340 iZ fH (ss,fs,ss,(ss.length:Int),0,())).1,(je f340 iZ fH (ss,fs,ss,(ss.length:Int),0,())).2.1,((je f340 iZ fH (ss,fs,ss,(ss.length:Int),0,())).2.1.length:Int),0,())) (bif vW f342 nz ((je f340 iZ fH (ss,fs,ss,(ss.length:Int),0,())).1,(je f340 iZ fH (ss,fs,ss,(ss.length:Int),0,())).2.1,((je f340 iZ fH (ss,fs,ss,(ss.length:Int),0,())).2.1.length:Int),0,())then some (aH ug (0,()))
   else some (aH ug ((je f342 nz j8 ((je f340 iZ fH (ss,fs,ss,(ss.length:Int),0,())).1,(je f340 iZ fH (ss,fs,ss,(ss.length:Int),0,())).2.1,((je f340 iZ fH (ss,fs,ss,(ss.length:Int),0,())).2.1.length:Int),0,())).1,())))else some (aH ug ((je f340 iZ jt (ss,fs,ss,(ss.length:Int),0,())).1,()))):=(af9 ss fs).trans (by show _=_;kernel_rfl)
 refine e.trans ?_
 unfold rY RE Pv
 cases hb:(List.range ss.length).all (fun j=>LK (ss.getD j (aE bz)).1&&LK (ss.getD j (aE bz)).2)with
 |true=>
  rw[hb]at r1
  obtain⟨q1,q2,q3⟩:=nW (f:=f340) (ti:=iZ) (t0:=fH) (t1:=jt) (y:=(ss,fs,())) (x:=(ss,fs,ss,(ss.length:Int),0,())) r1
  rw[q1,q2,q3,db rfl,cond_true]
  show bJ (wS f342 nz mE j8 (ss,fs,(fs.length:Int),0,())) (bif vW f342 nz (ss,fs,(fs.length:Int),0,())then some (aH ug (0,()))else some (aH ug ((je f342 nz j8 (ss,fs,(fs.length:Int),0,())).1,())))=_
  cases hc:(List.range fs.length).all (fun j=>LL ss fs (fs.getD j (aE cr)))with
  |true=>
   rw[hc]at r2
   obtain⟨p1,p2,_⟩:=nW (f:=f342) (ti:=nz) (t0:=mE) (t1:=j8) (y:=()) (x:=(ss,fs,(fs.length:Int),0,())) r2
   rw[p1,p2];rfl
  |false=>
   rw[hc]at r2
   obtain⟨p1,p2,p3⟩:=nX (f:=f342) (ti:=nz) (t0:=mE) (t1:=j8) (y:=(1,())) (x:=(ss,fs,(fs.length:Int),0,())) r2
   rw[p1,p2,p3];rfl
 |false=>
  rw[hb]at r1
  obtain⟨q1,q2,q3⟩:=nX (f:=f340) (ti:=iZ) (t0:=fH) (t1:=jt) (y:=(1,())) (x:=(ss,fs,ss,(ss.length:Int),0,())) r1
  rw[q1,q2,q3];rfl
end
end Go.Proofs.Vq

noncomputable section
namespace Go.Proofs.Vq
open Go.Ab Go.Ab.Lf
set_option maxRecDepth 100000
end Go.Proofs.Vq

noncomputable section
namespace Go.Proofs.Vq
open Go.Ab Go.Ab.Lf
set_option maxRecDepth 100000
theorem Kn(m:Gi)(f fu:Int)(az ty:List Int)(n i:Int):(wb (aH jX (gp [i64,i64,.aC u64,.aC i64,i64,i64] m (f,fu,az,ty,n,i,())))).val=
 bif decide (i<n)then(bJ (bF i (ty.length:Int)) (bif decide (ty.getD i.toNat (aE i64)=127)then(bJ (bF i (az.length:Int)) (bJ (bF i (az.length:Int)) (some (.next (aH jX (gp [i64,i64,.aC u64,.aC i64,i64,i64] m (f,fu,az.set i.toNat (dm .u64 (az.getD i.toNat (aE u64)) 4294967295),ty,n,bL .i64 i 1,())))))))else some (.next (aH jX (gp [i64,i64,.aC u64,.aC i64,i64,i64] m (f,fu,az,ty,n,bL .i64 i 1,()))))))else some (.out 0 (aH jv (gp [i64,i64,.aC u64] m (f,fu,az,())))):=by
 show _=_
 kernel_rfl
section
variable (g:Cg)
end
end Go.Proofs.Vq

noncomputable section
namespace Go.Proofs.Vq
open Go.Ab Go.Ab.Lf
set_option maxRecDepth 100000
section
variable (g:Cg)
end
end Go.Proofs.Vq

noncomputable section
namespace Go.Proofs.Vq
open Go.Ab Go.Ab.Lf
set_option maxRecDepth 100000
section
variable (g:Cg)
end
end Go.Proofs.Vq

noncomputable section
namespace Go.Proofs.Vq
open Go.Ab Go.Ab.Lf
set_option maxRecDepth 100000
theorem wh{f:List Pl->Lf.T Rs}(n:Nat)(st:Nat->List Pl)(o0:List Pl)
 (Km: ∀ j,j<n->(f (st j)).val=some (.next (st (j+1))))(UJ:(f (st n)).val=some (.out 0 o0)):nu f (st 0) 0 o0:=by
 have key: ∀ (k j:Nat),j+k=n->nu f (st j) 0 o0:=by
  intro k
  induction k with
  |zero=>
   intro j h
   have:j=n:=by omega
   subst this
   exact .last UJ
  |succ k ih=>exact fun j h=>.more (Km j (by omega)) (ih (j+1) (by omega))
 exact key n 0 (by omega)
theorem Bf{α:Type}(l:List α)(j:Nat)(d:α)(h:j<l.length):l.set j (l.getD j d)=l:=by
 rw[List.getD_eq_getElem?_getD,List.getElem?_eq_getElem h]
 exact List.set_getElem_self h
section
variable (ss:List (den bz))(fs:List (den cr))(v sm fi tb sw:List Int)(mo:Int)(h:Ww)(bad:Bool)
theorem UL(H:Fits ss fs):nu xN (aH mU (ss,fs,ss,oJ (n5 (kO [.bool,i64,i64])) ⟨v,sm,fi,tb,dh,sw,mo⟩ (rS (kO [.bool,i64,i64]) h (ui [.bool,i64,i64] dh (bad,(ss.length:Int),((0:Nat):Int),()))))) 0
 (aH kt (ss,fs,ss,oJ (n5 (kO [.bool])) ⟨v,sm,fi,tb,dh,sw,mo⟩ (rS (kO [.bool]) h (ui [.bool] dh (bad,()))))):=by
 refine wh ss.length (fun j=>aH mU (ss,fs,ss,oJ (n5 (kO [.bool,i64,i64])) ⟨v,sm,fi,tb,dh,sw,mo⟩ (rS (kO [.bool,i64,i64]) h (ui [.bool,i64,i64] dh (bad,(ss.length:Int),(j:Int),()))))) _ (fun j hj=>?_) ?_
 ·obtain⟨h1,h2⟩:=H.s _ (jw hj (aE bz))
  refine(Kj v sm fi tb sw mo h bad dh (j:Int) ss (ss.length:Int) fs ss (ss.getD j (aE bz)) (by rw[Int.toNat_natCast])).trans ?_
  rw[pC hj,show bF (j:Int) (ss.length:Int)=true from cZ hj,dt h1,dt h2,uj (by have:=H.ls;omega),Int.toNat_natCast]
  rw[show ss.set j ((ss.getD j (aE bz)).1,(ss.getD j (aE bz)).2)=ss from Bf ss j (aE bz) hj]
  rfl
 ·refine(Kj v sm fi tb sw mo h bad dh (ss.length:Int) ss (ss.length:Int) fs ss _ rfl).trans ?_
  rw[mB (Nat.le_refl _)]
  rfl
theorem UM(H:Fits ss fs)(m:Gi)(hm:m=⟨ss,fs,⟨v,sm,fi,tb,dh,sw,mo⟩,h,dh,bad⟩):nu we (aH ma (gp [i64,i64] m ((fs.length:Int),((0:Nat):Int),()))) 0 (aH ku (gp [] m ())):=by
 have hfs:m.fns=fs:=by rw[hm]
 refine wh fs.length (fun j=>aH ma (gp [i64,i64] m ((fs.length:Int),(j:Int),()))) _ (fun j hj=>?_) ?_
 ·have hf:=H.f _ (jw hj (aE cr))
  refine(Kk m (fs.length:Int) (j:Int) (fs.getD j (aE cr)) (by rw[hfs,Int.toNat_natCast])).trans ?_
  rw[hfs,pC hj,show bF (j:Int) (fs.length:Int)=true from cZ hj,dt hf,uj (by have:=H.lf;omega),Int.toNat_natCast]
  rw[show fs.set j ((fs.getD j (aE cr)).1,(fs.getD j (aE cr)).2.1,(fs.getD j (aE cr)).2.2.1,(fs.getD j (aE cr)).2.2.2.1,(fs.getD j (aE cr)).2.2.2.2.1,(fs.getD j (aE cr)).2.2.2.2.2.1,(fs.getD j (aE cr)).2.2.2.2.2.2)=fs from Bf fs j (aE cr) hj]
  rw[show({m with fns:=fs}:Gi)=m by rw[<-hfs]]
  rfl
 ·refine(Kk m (fs.length:Int) (fs.length:Int) _ rfl).trans ?_
  rw[mB (Nat.le_refl _)]
  rfl
theorem Pw(H:Fits ss fs)(Xf:fs.length<=549755813888)(hb:bad= !rY ss fs):
 Wy (ss,fs,oJ (n5 []) ⟨v,sm,fi,tb,dh,sw,mo⟩ (rS [] h ()))=true/\m22 (ss,fs,oJ (n5 []) ⟨v,sm,fi,tb,dh,sw,mo⟩ (rS [] h ()))=gp [] ⟨ss,fs,⟨v,sm,fi,tb,dh,sw,mo⟩,h,dh,bad⟩ ():=by
 obtain⟨c1,c2⟩:=c34 ss fs H
 refine cg (ai _) (ai _) ?_
 have q0:=xJ (UL ss fs v sm fi tb sw mo h bad H)
 have q2:=xJ (UM ss fs v sm fi tb sw mo h bad H _ rfl)
 have agh:bad= !decide ((Rb (ss,fs,())).1=0):=by
  rw[hb,c2]
  cases rY ss fs<;>rfl
 refine(agb ss fs v sm fi tb sw mo h bad agh _ rfl _ q0.2.symm _ rfl).trans ?_
 rw[y0,c1,dt H.ls]
 rw[db rfl,db rfl,db rfl]
 show bJ (zy xN mU kt (ss,fs,ss,oJ (n5 (kO [.bool,i64,i64])) ⟨v,sm,fi,tb,dh,sw,mo⟩ (rS (kO [.bool,i64,i64]) h (ui [.bool,i64,i64] dh (bad,(ss.length:Int),((0:Nat):Int),()))))) (bJ (decide (fs.length<=549755813888)) (bJ (zy we ma ku (gp [i64,i64] ⟨ss,fs,⟨v,sm,fi,tb,dh,sw,mo⟩,h,dh,bad⟩ ((fs.length:Int),((0:Nat):Int),()))) (some (aH C3 (je we ma ku (gp [i64,i64] ⟨ss,fs,⟨v,sm,fi,tb,dh,sw,mo⟩,h,dh,bad⟩ ((fs.length:Int),((0:Nat):Int),())))))))=_
 rw[q0.1,q2.1,q2.2,dt Xf]
 rfl
end
def mask(ty az:List Int):Nat->List Int
 |0=>az
 |j+1=>bif decide (ty.getD j 0=127)then(mask ty az j).set j (dm .u64 ((mask ty az j).getD j 0) 4294967295)else mask ty az j
theorem rZ(ty az:List Int): ∀ j,(mask ty az j).length=az.length
 |0=>rfl
 |j+1=>by
  show(bif decide (ty.getD j 0=127)then(mask ty az j).set j _ else mask ty az j).length=_
  cases decide (ty.getD j 0=127)
  ·exact rZ ty az j
  ·rw[cond_true,List.length_set];exact rZ ty az j
theorem UN(m:Gi)(f fu:Int)(az ty:List Int)(hl:ty.length=az.length)(hn:az.length<=1099511627776):nu wb (aH jX (gp [i64,i64,.aC u64,.aC i64,i64,i64] m (f,fu,az,ty,(ty.length:Int),((0:Nat):Int),()))) 0 (aH jv (gp [i64,i64,.aC u64] m (f,fu,mask ty az ty.length,()))):=by
 refine wh ty.length (fun j=>aH jX (gp [i64,i64,.aC u64,.aC i64,i64,i64] m (f,fu,mask ty az j,ty,(ty.length:Int),(j:Int),()))) _ (fun j hj=>?_) ?_
 ·refine(Kn m f fu (mask ty az j) ty (ty.length:Int) (j:Int)).trans ?_
  rw[pC hj,show bF (j:Int) (ty.length:Int)=true from cZ hj,show bF (j:Int) ((mask ty az j).length:Int)=true from cZ (by rw[rZ];omega),uj (by omega),Int.toNat_natCast]
  show bJ true (bif decide (ty.getD j 0=127)then _ else _)=some (Rs.next (aH jX (gp [i64,i64,.aC u64,.aC i64,i64,i64] m (f,fu,(bif decide (ty.getD j 0=127)then(mask ty az j).set j (dm .u64 ((mask ty az j).getD j 0) 4294967295)else mask ty az j),ty,(ty.length:Int),((j+1:Nat):Int),()))))
  cases decide (ty.getD j 0=127)<;>rfl
 ·refine(Kn m f fu (mask ty az ty.length) ty (ty.length:Int) (ty.length:Int)).trans ?_
  rw[mB (Nat.le_refl _)]
  rfl
end Go.Proofs.Vq

noncomputable section
namespace Go.Proofs.Vq
open Go.Ab Go.Ab.Lf
set_option maxRecDepth 100000
section
variable (b:List Int)(mo at_:Int)
abbrev wid(n:Int):Bool:=bif decide (ao .u64 n<=ao .u64 (b.length:Int))then decide (at_<=aV .u64 (ao .u64 (b.length:Int)) (ao .u64 n))else false
abbrev Ko(n:Int):Bool:=bif !decide (n=1)then bif !decide (n=2)then bif !decide (n=4)then !decide (n=8)else false else false else false
def ldF(L:Nat):Nat->Int->Int->Option (List Pl)
 |0,_,_=>none
 |k+1,i,x=>bif decide (i<(L:Int))then bJ (bF i (L:Int)) (bJ (decide (0<=kh .i64 8 i)) (ldF L k (bL .i64 i 1) (IK .u64 x (tX .u64 (ao .u64 (b.getD (at_.toNat+i.toNat) (aE u8))) (kh .i64 8 i)))))else some (aH pE (x,0,b,mo,()))
end
theorem RF(b:List Int)(mo at_ n:Int):(t387 (b,mo,at_,n,())).val=bif Ko n then some (aH pE (0,1,b,mo,()))else bif !wid b at_ n then some (aH pE (0,23,b,mo,()))else
 bJ (dy at_ (bL .u64 at_ (ao .u64 n)) (b.length:Int)) (ldF b mo at_ ((bL .u64 at_ (ao .u64 n)).toNat - at_.toNat) 9 0 0):=by
 kernel_rfl
section
variable (mo at_ n x:Int)
def stF:Nat->Int->List Int->Option (List Pl)
 |0,_,_=>none
 |k+1,i,b=>bif decide (i<n)then bJ (bF (bL .u64 at_ (ao .u64 i)) (b.length:Int)) (bJ (decide (0<=kh .i64 8 i)) (stF k (bL .i64 i 1) (b.set (bL .u64 at_ (ao .u64 i)).toNat (ao .u8 (lj .u64 x (kh .i64 8 i))))))else some (aH qk (0,b,mo,()))
end
theorem RG(b:List Int)(mo at_ n x:Int):(t385 (b,mo,at_,n,x,())).val=bif Ko n then some (aH qk (1,b,mo,()))else bif !wid b at_ n then some (aH qk (23,b,mo,()))else stF mo at_ n x 9 0 b:=by
 kernel_rfl
end Go.Proofs.Vq

noncomputable section
namespace Go.Proofs.Vq
open Go.Ab Go.Ab.Lf
set_option maxRecDepth 100000
abbrev Px(op:Int)(G:Int->Option (List Pl)):Option (List Pl):=
 bif decide (op=44)then G 1 else bif decide (op=45)then G 1 else bif decide (op=48)then G 1 else bif decide (op=49)then G 1 else bif decide (op=58)then G 1 else bif decide (op=60)then G 1 else bif decide (op=46)then G 2 else bif decide (op=47)then G 2 else bif decide (op=50)then G 2 else bif decide (op=51)then G 2 else bif decide (op=59)then G 2 else bif decide (op=61)then G 2 else bif decide (op=40)then G 4 else bif decide (op=52)then G 4 else bif decide (op=53)then G 4 else bif decide (op=54)then G 4 else bif decide (op=62)then G 4 else bif decide (op=41)then G 8 else bif decide (op=55)then G 8 else G 0
abbrev ext(op:Int)(m:aG pE):Option (List Pl):=
 bif decide (op=44)then some (aH pF (ao .u64 (ao .u32 (ao .i8 m.1)),m.2.1,m.2.2.1,m.2.2.2.1,()))
 else bif decide (op=46)then some (aH pF (ao .u64 (ao .u32 (ao .i16 m.1)),m.2.1,m.2.2.1,m.2.2.2.1,()))
 else bif decide (op=48)then some (aH pF (ao .u64 (ao .i8 m.1),m.2.1,m.2.2.1,m.2.2.2.1,()))
 else bif decide (op=50)then some (aH pF (ao .u64 (ao .i16 m.1),m.2.1,m.2.2.1,m.2.2.2.1,()))
 else bif decide (op=52)then some (aH pF (ao .u64 (ao .i32 m.1),m.2.1,m.2.2.1,m.2.2.2.1,()))
 else some (aH pF (m.1,m.2.1,m.2.2.1,m.2.2.2.1,()))
theorem aav(b:List Int)(mo op ad of:Int):(t355 (b,mo,op,ad,of,())).val=Px op fun n=>bJ (OT (b,mo,bL .u64 (dm .u64 ad 4294967295) of,n,())) (ext op (OU (b,mo,bL .u64 (dm .u64 ad 4294967295) of,n,()))):=by
 kernel_rfl
theorem aaw(b:List Int)(mo op ad of x:Int):(t354 (b,mo,op,ad,of,x,())).val=Px op fun n=>bJ (OX (b,mo,bL .u64 (dm .u64 ad 4294967295) of,n,x,())) (some (aH A4 (OY (b,mo,bL .u64 (dm .u64 ad 4294967295) of,n,x,())))):=by
 kernel_rfl
theorem aax(b:List Int)(mo n:Int):(t353 (b,mo,n,())).val=
 bif decide (0<=mo)then
  bif decide (aV .i64 (min (16) mo) (sX .i64 ((b.length:Int)) (65536))<ao .i64 n)then
   some (aH nA (4294967295,b,mo,()))
  else
  bJ (decide (0<=kh .i64 (ao .i64 n) (65536))) (
  bJ (roomy 1 (b.length+(List.replicate (kh .i64 (ao .i64 n) (65536)).toNat (0:Int)).length)) (
  some (aH nA (ao .u32 (sX .i64 ((b.length:Int)) (65536)),app b (List.replicate (kh .i64 (ao .i64 n) (65536)).toNat (0)),mo,()))))
 else
 bif decide (aV .i64 (16) (sX .i64 ((b.length:Int)) (65536))<ao .i64 n)then
  some (aH nA (4294967295,b,mo,()))
 else
 bJ (decide (0<=kh .i64 (ao .i64 n) (65536))) (
 bJ (roomy 1 (b.length+(List.replicate (kh .i64 (ao .i64 n) (65536)).toNat (0:Int)).length)) (
 some (aH nA (ao .u32 (sX .i64 ((b.length:Int)) (65536)),app b (List.replicate (kh .i64 (ao .i64 n) (65536)).toNat (0)),mo,())))):=by kernel_rfl
section
variable (st:List Int)
abbrev pH:Int:=aV .i64 (Int.ofNat (List.length st)) 1
abbrev r5:List Int:=List.take ((pH st).toNat - (0:Int).toNat) (List.drop (0:Int).toNat st)
abbrev kP{α:Type}(X:Option α):Option α:=bJ (bF (pH st) (Int.ofNat (List.length st))) (bJ (dy 0 (pH st) (Int.ofNat (List.length st))) X)
abbrev jK:Int:=List.getD st (pH st).toNat (aE (Ty.int .u64))
abbrev n7:Int:=aV .i64 (Int.ofNat ((pH st).toNat - (0:Int).toNat)) 1
abbrev za:Int:=List.getD st ((0:Int).toNat+(n7 st).toNat) (aE (Ty.int .u64))
abbrev UO:List Int:=List.take ((n7 st).toNat - (0:Int).toNat) (List.drop ((0:Int).toNat+(0:Int).toNat) st)
abbrev zb{α:Type}(X:Option α):Option α:=kP st (bJ (bF (n7 st) (Int.ofNat ((pH st).toNat - (0:Int).toNat))) (bJ (dy 0 (n7 st) (Int.ofNat ((pH st).toNat - (0:Int).toNat))) X))
abbrev mb{α:Type}(v:Int)(X:List Int->Option α):Option α:=bJ (roomy 8 (List.length st+[v].length)) (X (app st [v]))
end
abbrev C7(F:ks)(b:List Int)(mo:Int):ks:={F with r:={F.r with m:={F.r.m with s:={F.r.m.s with bytes:=b,most:=mo}}}}
abbrev Bg{α:Type}(e:Int)(F:ks)(X:ks->Option α):Option α:=bif (bif !decide (e=0)then decide (F.r.err=0)else false)then X {F with r:={F.r with err:=e}}else X F
abbrev Bh(x:ks)(a b:Int)(X:ks->Option (List Pl)):Option (List Pl):=bJ (ij (aJ [i64,i64] x (a,b,()))) (bif (aF (aJ [i64,i64] x (a,b,()))).1 then X (bT (aF (aJ [i64,i64] x (a,b,()))).2)else some (aH (xK []) (aJ [] (bT (aF (aJ [i64,i64] x (a,b,()))).2) ())))
abbrev fin(F:ks):Option (List Pl):=some (aH (xK []) (aJ [] F ()))
theorem El(x:ks)(o a n:Int):(t308 (aJ [i64,i64,u64] x (o,a,n,()))).val=
 bif decide (o=63)then Bh x 0 1 fun F=>mb F.st (ao .u64 (sX .i64 (F.r.m.s.bytes.length:Int) 65536)) fun s=>fin {F with st:=s}
 else bif decide (o=64)then Bh x 1 1 fun F=>kP F.st (bJ (O7 (F.r.m.s.bytes,F.r.m.s.most,ao .u32 (jK F.st),())) (
  mb (r5 F.st) (ao .u64 (Gk (F.r.m.s.bytes,F.r.m.s.most,ao .u32 (jK F.st),())).1) fun s=>fin {C7 F (Gk (F.r.m.s.bytes,F.r.m.s.most,ao .u32 (jK F.st),())).2.1 (Gk (F.r.m.s.bytes,F.r.m.s.most,ao .u32 (jK F.st),())).2.2.1 with st:=s}))
 else bif decide (54<=o)then Bh x 2 0 fun F=>zb F.st (bJ (decide (o=o)) (bJ (decide (n=n)) (bJ (O4 (F.r.m.s.bytes,F.r.m.s.most,o,za F.st,n,jK F.st,())) (
  Bg (Gj (F.r.m.s.bytes,F.r.m.s.most,o,za F.st,n,jK F.st,())).1 {C7 F (Gj (F.r.m.s.bytes,F.r.m.s.most,o,za F.st,n,jK F.st,())).2.1 (Gj (F.r.m.s.bytes,F.r.m.s.most,o,za F.st,n,jK F.st,())).2.2.1 with st:=UO F.st} fin))))
 else Bh x 1 1 fun F=>kP F.st (bJ (decide (o=o)) (bJ (decide (n=n)) (bJ (O1 (F.r.m.s.bytes,F.r.m.s.most,o,jK F.st,n,())) (
  Bg (CY (F.r.m.s.bytes,F.r.m.s.most,o,jK F.st,n,())).2.1 {C7 F (CY (F.r.m.s.bytes,F.r.m.s.most,o,jK F.st,n,())).2.2.1 (CY (F.r.m.s.bytes,F.r.m.s.most,o,jK F.st,n,())).2.2.2.1 with st:=r5 F.st} fun F'=>mb F'.st (CY (F.r.m.s.bytes,F.r.m.s.most,o,jK F.st,n,())).1 fun s=>fin {F' with st:=s})))):=by
 kernel_rfl
end Go.Proofs.Vq

noncomputable section
namespace Go.Proofs.Vq
open Go.Ab Go.Ab.Lf
set_option maxRecDepth 100000
theorem aay(g:Cg)(x:ks)(a:Int)(fn:den cr)(qN:fn=x.r.m.fns.getD a.toNat (aE cr))(F:ks)(hF:F=bT (aF (aJ [i64,i64] x (fn.2.2.1,fn.2.2.2.1,()))).2)(at_:Int)(BJ:at_=aV .i64 (Int.ofNat (List.length F.st)) fn.2.2.1)
 (args:List Int)(lW:args=List.take ((Int.ofNat (List.length F.st)).toNat - at_.toNat) (List.drop at_.toNat F.st))(c:aG (rR [i64,.aC u64]))(hc:c=mT [i64,.aC u64] {F.r with eG:=bL .i64 F.r.eG 1} (a,args,()))(below:List Int)(hb:below=List.take (at_.toNat - (0:Int).toNat) (List.drop (0:Int).toNat F.st)):
 (t234 g (aJ [i64] x (a,()))).val=bJ (bF a (x.r.m.fns.length:Int)) (bJ (ij (aJ [i64,i64] x (fn.2.2.1,fn.2.2.2.1,()))) (bif !(aF (aJ [i64,i64] x (fn.2.2.1,fn.2.2.2.1,()))).1 then fin F else bif decide (F.r.eG=262144)then(bif decide (F.r.err=0)then fin {F with r:={F.r with err:=41}}else fin F)else
  bJ (dy at_ (Int.ofNat (List.length F.st)) (Int.ofNat (List.length F.st))) (bJ (decide (List.length args<=1099511627776)) (bJ (dy 0 at_ (Int.ofNat (List.length F.st))) (bJ (g.1 c) (bJ (dy 0 at_ (Int.ofNat (List.length F.st))) (
  bJ (decide ((0:Int).toNat=(0:Int).toNat)&&decide (at_.toNat - (0:Int).toNat=at_.toNat - (0:Int).toNat)) (bJ (roomy 8 (List.length below+List.length (g.2 c).1)) (fin {F with r:=rnO (g.2 c).2,st:=app below (g.2 c).1,pc:=bL .i64 F.pc 1}))))))))):=by
 subst hb;subst hc;subst lW;subst BJ;subst hF;subst qN
 kernel_rfl
end Go.Proofs.Vq

noncomputable section
namespace Go.Proofs.Vq
open Go.Ab Go.Ab.Lf
set_option maxRecDepth 100000
section
variable {n o:Nat}{lo:Int}{cs:List (den bE)}
variable (g:Cg)
theorem aaz{x:Rn}(f0 f2:den cr){pc:Int}{st lo:List Int}(h:x.err≠0∨pc<0):(rV g (aH i1 (cL x f0 f2 pc st lo))).val=some (.out 0 (aH fW (aJ [] ⟨x,f2,pc,st,lo⟩ ()))):=by
 refine(Rj g x f0 f2 pc st lo _ rfl _ rfl _ rfl _ rfl).trans ?_
 have e:(bif decide (x.err=0)then decide (0<=pc)else false)=false:=by
  rcases h with h|h
  ·rw[df h];rfl
  ·rw[df (show ¬ 0<=pc by omega)];cases decide (x.err=0)<;>rfl
 rw[e]
 rfl
end
end Go.Proofs.Vq

noncomputable section
namespace Go.Proofs.Vq
open Go.Ab Go.Ab.Lf
set_option maxRecDepth 100000
end Go.Proofs.Vq

noncomputable section
namespace Go.Proofs.Vq
open Go.Ab Go.Ab.Lf
set_option maxRecDepth 100000
section
variable {st s:List Int}{w:Int}
theorem pX(h:st=s++[w])(hl:s.length<=1099511627776):pH st=(s.length:Int):=by
 have:List.length st=s.length+1:=by rw[h,List.length_append];rfl
 show aV .i64 ((List.length st:Nat):Int) 1=_
 rw[this]
 exact(wrap_i64 (by omega) (by omega)).trans (by omega)
theorem gh{α:Type}(X:Option α)(h:st=s++[w])(hl:s.length<=1099511627776):kP st X=X:=by
 have hn:List.length st=s.length+1:=by rw[h,List.length_append];rfl
 show bJ (bF (pH st) ((List.length st:Nat):Int)) (bJ (dy 0 (pH st) ((List.length st:Nat):Int)) X)=X
 rw[pX h hl,show bF (s.length:Int) ((List.length st:Nat):Int)=true from cZ (by omega),show dy 0 (s.length:Int) ((List.length st:Nat):Int)=true by unfold dy;simp;omega]
 rfl
theorem lG(h:st=s++[w])(hl:s.length<=1099511627776):r5 st=s:=by
 show List.take ((pH st).toNat - 0) st=s
 rw[pX h hl,h];simp
theorem j9(h:st=s++[w])(hl:s.length<=1099511627776):jK st=w:=by
 show List.getD st (pH st).toNat 0=w
 rw[pX h hl,h];simp[List.getD_eq_getElem?_getD]
end
section
variable {st s:List Int}{v w:Int}
theorem pY(h:st=s++[v,w])(hl:s.length<=1099511627775):n7 st=(s.length:Int):=by
 have h1:st=(s++[v])++[w]:=by rw[h,List.append_assoc];rfl
 have hk:(s++[v]).length=s.length+1:=by rw[List.length_append];rfl
 show aV .i64 (((pH st).toNat - 0:Nat):Int) 1=_
 rw[pX h1 (by omega),hk]
 exact(wrap_i64 (by omega) (by omega)).trans (by omega)
theorem tl{α:Type}(X:Option α)(h:st=s++[v,w])(hl:s.length<=1099511627775):zb st X=X:=by
 have h1:st=(s++[v])++[w]:=by rw[h,List.append_assoc];rfl
 have hk:(s++[v]).length=s.length+1:=by rw[List.length_append];rfl
 show kP st (bJ (bF (n7 st) (((pH st).toNat - 0:Nat):Int)) (bJ (dy 0 (n7 st) (((pH st).toNat - 0:Nat):Int)) X))=X
 rw[gh _ h1 (by omega),pY h hl,pX h1 (by omega),hk]
 rw[show bF (s.length:Int) ((((s.length+1:Nat):Int).toNat - 0:Nat):Int)=true from cZ (by simp),show dy 0 (s.length:Int) ((((s.length+1:Nat):Int).toNat - 0:Nat):Int)=true by unfold dy;simp;omega]
 rfl
theorem Em(h:st=s++[v,w])(hl:s.length<=1099511627775):UO st=s:=by
 show List.take ((n7 st).toNat - 0) (List.drop (0+0) st)=s
 rw[pY h hl,h];simp
theorem zc(h:st=s++[v,w])(hl:s.length<=1099511627775):za st=v:=by
 show List.getD st (0+(n7 st).toNat) 0=v
 rw[pY h hl,h];simp[List.getD_eq_getElem?_getD]
theorem wj(h:st=s++[v,w])(hl:s.length<=1099511627775):jK st=w:=
 j9 (s:=s++[v]) (by rw[h,List.append_assoc];rfl) (by rw[List.length_append];show s.length+1<=_;omega)
end
theorem gi{α:Type}{s:List Int}(v:Int)(X:List Int->Option α)(hl:s.length<=1048576):mb s v X=X (s++[v]):=by
 show bJ (roomy 8 (s.length+1)) (X (app s [v]))=_
 rw[show roomy 8 (s.length+1)=true from pD (by decide) (by omega),dn]
 rfl
theorem fX(x:ks)(a b:Nat)(hl:x.st.length<=1048576)(h1:a<=x.st.length)(h2:x.st.length - a+b<=1048576):
 ij (aJ [i64,i64] x ((a:Int),(b:Int),()))=true/\aF (aJ [i64,i64] x ((a:Int),(b:Int),()))=(true,aJ [] x ()):=
 Ek x (a:Int) (b:Int) (by omega) (by omega) (by omega) (by omega) (by omega) (by omega)
theorem r6(x:ks)(a b:Nat)(X:ks->Option (List Pl))(hl:x.st.length<=1048576)(h1:a<=x.st.length)(h2:x.st.length - a+b<=1048576):Bh x (a:Int) (b:Int) X=X x:=by
 obtain⟨q1,q2⟩:=fX x a b hl h1 h2
 show bJ (ij (aJ [i64,i64] x ((a:Int),(b:Int),()))) (bif (aF (aJ [i64,i64] x ((a:Int),(b:Int),()))).1 then X (bT (aF (aJ [i64,i64] x ((a:Int),(b:Int),()))).2)else _)=_
 rw[q1,q2]
 rfl
theorem r7{α:Type}(e:Int)(F:ks)(X:ks->Option α)(h:F.r.err=0):Bg e F X=X {F with r:={F.r with err:=e}}:=by
 show(bif (bif !decide (e=0)then decide (F.r.err=0)else false)then X {F with r:={F.r with err:=e}}else X F)=_
 rw[h]
 by_cases hz:e=0
 ·rw[dt hz]
  have:({F with r:={F.r with err:=e}}:ks)=F:=by
   obtain⟨⟨m,fu,ho,de,er⟩,f,pc,st,lo⟩:=F
   have h:er=0:=h
   rw[hz,h]
  rw[this];rfl
 ·rw[df hz];rfl
end Go.Proofs.Vq

noncomputable section
namespace Go.Proofs.Vq
open Go.Ab Go.Ab.Lf
set_option maxRecDepth 100000
theorem aaA{i:Nat}(h:i<=1000):kh .i64 8 (i:Int)=((8*i:Nat):Int):=by
 have:kh .i64 8 (i:Int)=fM .i64 (8*(i:Int)):=rfl
 rw[this,show(8:Int)*(i:Int)=((8*i:Nat):Int) by omega]
 exact wrap_i64 (by omega) (by omega)
theorem Bi{k:Nat}(h:k<18446744073709551616):ao .u64 (k:Int)=(k:Int):=by
 have:ao .u64 (k:Int)=(k:Int) % 18446744073709551616:=rfl
 rw[this];omega
theorem agi{a b:Nat}(h:b<=a)(ha:a<18446744073709551616):aV .u64 (a:Int) (b:Int)=((a - b:Nat):Int):=by
 have:aV .u64 (a:Int) (b:Int)=((a:Int) - (b:Int)) % 18446744073709551616:=rfl
 rw[this];omega
theorem aaB{a b:Nat}(h:a+b<18446744073709551616):bL .u64 (a:Int) (b:Int)=((a+b:Nat):Int):=by
 have:bL .u64 (a:Int) (b:Int)=((a:Int)+(b:Int)) % 18446744073709551616:=rfl
 rw[this];omega
theorem Kp{b:List Int}{at_:Nat}{n:Nat}(hb:b.length<=1099511627776)(hn:n<=8):wid b (at_:Int) (n:Int)=decide (at_+n<=b.length):=by
 show(bif decide (ao .u64 (n:Int)<=ao .u64 (b.length:Int))then decide ((at_:Int)<=aV .u64 (ao .u64 (b.length:Int)) (ao .u64 (n:Int)))else false)=_
 rw[Bi (k:=n) (by omega),Bi (k:=b.length) (by omega)]
 by_cases h:n<=b.length
 ·rw[dt (show(n:Int)<=(b.length:Int) by omega),agi h (by omega)]
  by_cases h2:at_+n<=b.length
  ·rw[dt h2,dt (show(at_:Int)<=((b.length - n:Nat):Int) by omega)];rfl
  ·rw[df h2,df (show ¬ (at_:Int)<=((b.length - n:Nat):Int) by omega)];rfl
 ·rw[df (show ¬ (n:Int)<=(b.length:Int) by omega),df (show ¬ at_+n<=b.length by omega)];rfl
theorem Kq(b:List Int)(mo at_:Int)(L:Nat)(hL:L<=8): ∀ (k i:Nat) (x:Int),L<i+k->i<=L->U x-> ∃ x',ldF b mo at_ L k (i:Int) x=some (aH pE (x',0,b,mo,()))/\U x'
 |0,i,x,h1,h2,_=>by omega
 |k+1,i,x,h1,h2,hx=>by
  show ∃ x',(bif decide ((i:Int)<(L:Int))then bJ (bF (i:Int) (L:Int)) (bJ (decide (0<=kh .i64 8 (i:Int))) (ldF b mo at_ L k (bL .i64 (i:Int) 1) (IK .u64 x (tX .u64 (ao .u64 (b.getD (at_.toNat+(i:Int).toNat) (aE u8))) (kh .i64 8 (i:Int))))))else some (aH pE (x,0,b,mo,())))=_/\U x'
  by_cases h:i<L
  ·have hs:U (tX .u64 (ao .u64 (b.getD (at_.toNat+(i:Int).toNat) (aE u8))) ((8*i:Nat):Int)):=Kh (by omega)
   obtain⟨x',q1,q2⟩:=Kq b mo at_ L hL k (i+1) _ (by omega) (by omega) (qm hx hs).2.1
   refine⟨x',?_,q2⟩
   rw[dt (show(i:Int)<(L:Int) by omega),show bF (i:Int) (L:Int)=true from cZ h,aaA (by omega),dt (show(0:Int)<=((8*i:Nat):Int) by omega),uj (by omega)]
   exact q1
  ·exact⟨x,by rw[df (show ¬ (i:Int)<(L:Int) by omega)];rfl,hx⟩
theorem Eo{n:Int}(h:n=1∨n=2∨n=4∨n=8):Ko n=false:=by
 rcases h with rfl|rfl|rfl|rfl<;>rfl
theorem agj(b:List Int)(mo:Int)(at_:Nat)(n:Nat)(hb:b.length<=1099511627776)(hn:n=0∨n=1∨n=2∨n=4∨n=8):OT (b,mo,(at_:Int),(n:Int),())=true/\ ∃ x e,OU (b,mo,(at_:Int),(n:Int),())=(x,e,b,mo,())/\U x/\(e=0∨e=1/\n=0∨e=23):=by
 have key: ∃ x e,(t387 (b,mo,(at_:Int),(n:Int),())).val=some (aH pE (x,e,b,mo,()))/\U x/\(e=0∨e=1/\n=0∨e=23):=by
  rcases hn with rfl|hn
  ·exact⟨0,1,RF b mo (at_:Int) 0,U0,.inr (.inl ⟨rfl,rfl⟩)⟩
  ·have hb8:Ko (n:Int)=false:=Eo (by omega)
   have e:=RF b mo (at_:Int) (n:Int)
   rw[hb8,cond_false,Kp hb (by omega)]at e
   by_cases h:at_+n<=b.length
   ·rw[dt h,Bool.not_true,cond_false,Bi (k:=n) (by omega),aaB (by omega)]at e
    rw[show dy (at_:Int) ((at_+n:Nat):Int) (b.length:Int)=true by unfold dy;simp;omega,db rfl,Int.toNat_natCast,Int.toNat_natCast,show at_+n - at_=n by omega]at e
    obtain⟨x,q1,q2⟩:=Kq b mo (at_:Int) n (by omega) 9 0 0 (by omega) (by omega) U0
    exact⟨x,0,e.trans q1,q2,.inl rfl⟩
   ·rw[df h]at e
    exact⟨0,23,e,U0,.inr (.inr rfl)⟩
 obtain⟨x,e,h1,h2,h3⟩:=key
 obtain⟨a1,a2⟩:=cg (ai _) (ai _) (k:=OT (b,mo,(at_:Int),(n:Int),())) (m:=OU (b,mo,(at_:Int),(n:Int),())) h1
 exact⟨a1,x,e,a2,h2,h3⟩
theorem Ks(mo:Int)(at_ n:Nat)(x:Int)(hn:n<=8): ∀ (k i:Nat) (b:List Int),n<i+k->i<=n->at_+n<=b.length->b.length<=1099511627776-> ∃ b',stF mo (at_:Int) (n:Int) x k (i:Int) b=some (aH qk (0,b',mo,()))/\b'.length=b.length
 |0,i,b,h1,h2,_,_=>by omega
 |k+1,i,b,h1,h2,h3,h4=>by
  show ∃ b',(bif decide ((i:Int)<(n:Int))then bJ (bF (bL .u64 (at_:Int) (ao .u64 (i:Int))) (b.length:Int)) (bJ (decide (0<=kh .i64 8 (i:Int))) (stF mo (at_:Int) (n:Int) x k (bL .i64 (i:Int) 1) (b.set (bL .u64 (at_:Int) (ao .u64 (i:Int))).toNat (ao .u8 (lj .u64 x (kh .i64 8 (i:Int)))))))else some (aH qk (0,b,mo,())))=_/\_
  by_cases h:i<n
  ·rw[Bi (k:=i) (by omega),aaB (a:=at_) (b:=i) (by omega)]
   obtain⟨b',q1,q2⟩:=Ks mo at_ n x hn k (i+1) (b.set ((at_+i:Nat):Int).toNat (ao .u8 (lj .u64 x (kh .i64 8 (i:Int))))) (by omega) (by omega) (by rw[List.length_set];exact h3) (by rw[List.length_set];exact h4)
   refine⟨b',?_,by rw[q2,List.length_set]⟩
   rw[dt (show(i:Int)<(n:Int) by omega),show bF ((at_+i:Nat):Int) (b.length:Int)=true from cZ (by omega),dt (show(0:Int)<=kh .i64 8 (i:Int) by rw[aaA (by omega)];omega),uj (by omega)]
   exact q1
  ·exact⟨b,by rw[df (show ¬ (i:Int)<(n:Int) by omega)];rfl,rfl⟩
theorem agl(b:List Int)(mo:Int)(at_:Nat)(n:Nat)(x:Int)(hb:b.length<=1099511627776)(hn:n=0∨n=1∨n=2∨n=4∨n=8):OX (b,mo,(at_:Int),(n:Int),x,())=true/\ ∃ e b',OY (b,mo,(at_:Int),(n:Int),x,())=(e,b',mo,())/\b'.length=b.length/\(e=0∨e=1/\n=0∨e=23):=by
 have key: ∃ e b',(t385 (b,mo,(at_:Int),(n:Int),x,())).val=some (aH qk (e,b',mo,()))/\b'.length=b.length/\(e=0∨e=1/\n=0∨e=23):=by
  rcases hn with rfl|hn
  ·exact⟨1,b,RG b mo (at_:Int) 0 x,rfl,.inr (.inl ⟨rfl,rfl⟩)⟩
  ·have hb8:Ko (n:Int)=false:=Eo (by omega)
   have e:=RG b mo (at_:Int) (n:Int) x
   rw[hb8,cond_false,Kp hb (by omega)]at e
   by_cases h:at_+n<=b.length
   ·rw[dt h,Bool.not_true,cond_false]at e
    obtain⟨b',q1,q2⟩:=Ks mo at_ n x (by omega) 9 0 b (by omega) (by omega) h hb
    exact⟨0,b',e.trans q1,q2,.inl rfl⟩
   ·rw[df h]at e
    exact⟨23,b,e,rfl,.inr (.inr rfl)⟩
 obtain⟨e,b',h1,h2,h3⟩:=key
 obtain⟨a1,a2⟩:=cg (ai _) (ai _) (k:=OX (b,mo,(at_:Int),(n:Int),x,())) (m:=OY (b,mo,(at_:Int),(n:Int),x,())) h1
 exact⟨a1,e,b',a2,h2,h3⟩
end Go.Proofs.Vq

noncomputable section
namespace Go.Proofs.Vq
open Go.Ab Go.Ab.Lf
set_option maxRecDepth 100000
def qn(op:Int):Bool:=[44,45,48,49,58,60,46,47,50,51,59,61,40,52,53,54,62,41,55].any fun k=>decide (op=k)
theorem Ep(op:Int): ∃ n:Nat,(n=0∨n=1∨n=2∨n=4∨n=8)/\(n=0->qn op=false)/\ ∀ G,Px op G=G (n:Int):=by
 by_cases h0:op=44
 ·subst h0;exact⟨1,by decide,fun h=>absurd h (by decide),fun G=>rfl⟩
 by_cases h1:op=45
 ·subst h1;exact⟨1,by decide,fun h=>absurd h (by decide),fun G=>rfl⟩
 by_cases h2:op=48
 ·subst h2;exact⟨1,by decide,fun h=>absurd h (by decide),fun G=>rfl⟩
 by_cases h3:op=49
 ·subst h3;exact⟨1,by decide,fun h=>absurd h (by decide),fun G=>rfl⟩
 by_cases h4:op=58
 ·subst h4;exact⟨1,by decide,fun h=>absurd h (by decide),fun G=>rfl⟩
 by_cases h5:op=60
 ·subst h5;exact⟨1,by decide,fun h=>absurd h (by decide),fun G=>rfl⟩
 by_cases h6:op=46
 ·subst h6;exact⟨2,by decide,fun h=>absurd h (by decide),fun G=>rfl⟩
 by_cases h7:op=47
 ·subst h7;exact⟨2,by decide,fun h=>absurd h (by decide),fun G=>rfl⟩
 by_cases h8:op=50
 ·subst h8;exact⟨2,by decide,fun h=>absurd h (by decide),fun G=>rfl⟩
 by_cases h9:op=51
 ·subst h9;exact⟨2,by decide,fun h=>absurd h (by decide),fun G=>rfl⟩
 by_cases Kt:op=59
 ·subst Kt;exact⟨2,by decide,fun h=>absurd h (by decide),fun G=>rfl⟩
 by_cases h11:op=61
 ·subst h11;exact⟨2,by decide,fun h=>absurd h (by decide),fun G=>rfl⟩
 by_cases wC:op=40
 ·subst wC;exact⟨4,by decide,fun h=>absurd h (by decide),fun G=>rfl⟩
 by_cases C8:op=52
 ·subst C8;exact⟨4,by decide,fun h=>absurd h (by decide),fun G=>rfl⟩
 by_cases GM:op=53
 ·subst GM;exact⟨4,by decide,fun h=>absurd h (by decide),fun G=>rfl⟩
 by_cases uk:op=54
 ·subst uk;exact⟨4,by decide,fun h=>absurd h (by decide),fun G=>rfl⟩
 by_cases Er:op=62
 ·subst Er;exact⟨4,by decide,fun h=>absurd h (by decide),fun G=>rfl⟩
 by_cases GN:op=41
 ·subst GN;exact⟨8,by decide,fun h=>absurd h (by decide),fun G=>rfl⟩
 by_cases h18:op=55
 ·subst h18;exact⟨8,by decide,fun h=>absurd h (by decide),fun G=>rfl⟩
 refine⟨0,.inl rfl,fun _=>?_,fun G=>?_⟩
 ·unfold qn;simp only[List.any_cons,List.any_nil,df h0,df h1,df h2,df h3,df h4,df h5,df h6,df h7,df h8,df h9,df Kt,df h11,df wC,df C8,df GM,df uk,df Er,df GN,df h18];rfl
 ·unfold Px
  rw[df h0,df h1,df h2,df h3,df h4,df h5,df h6,df h7,df h8,df h9,df Kt,df h11,df wC,df C8,df GM,df uk,df Er,df GN,df h18]
  rfl
theorem Ku{ad of:Int}: ∃ k:Nat,bL .u64 ad of=(k:Int):=⟨(bL .u64 ad of).toNat,by have:=(Pt (ad+of)).1;have e:bL .u64 ad of=fM .u64 (ad+of):=rfl;rw[e];omega⟩
theorem agn(b:List Int)(mo op ad of:Int)(hb:b.length<=1099511627776):O1 (b,mo,op,ad,of,())=true/\ ∃ x e,CY (b,mo,op,ad,of,())=(x,e,b,mo,())/\U x/\(e=0∨e=1/\qn op=false∨e=23):=by
 obtain⟨n,hn,hm,hG⟩:=Ep op
 obtain⟨at_,BJ⟩:=Ku (ad:=dm .u64 ad 4294967295) (of:=of)
 obtain⟨q1,x,e,q2,q3,q4⟩:=agj b mo at_ n hb hn
 have key: ∃ x',(t355 (b,mo,op,ad,of,())).val=some (aH pF (x',e,b,mo,()))/\U x':=by
  have h:=aav b mo op ad of
  rw[BJ,hG,q1,db rfl,q2]at h
  unfold ext at h
  by_cases h1:op=44
  ·rw[dt h1]at h;exact⟨_,h,mF _⟩
  by_cases h2:op=46
  ·rw[df h1,dt h2]at h;exact⟨_,h,mF _⟩
  by_cases h3:op=48
  ·rw[df h1,df h2,dt h3]at h;exact⟨_,h,mF _⟩
  by_cases h4:op=50
  ·rw[df h1,df h2,df h3,dt h4]at h;exact⟨_,h,mF _⟩
  by_cases h5:op=52
  ·rw[df h1,df h2,df h3,df h4,dt h5]at h;exact⟨_,h,mF _⟩
  rw[df h1,df h2,df h3,df h4,df h5]at h
  exact⟨x,h,q3⟩
 obtain⟨x',h1,h2⟩:=key
 obtain⟨a1,a2⟩:=cg (ai _) (ai _) (k:=O1 (b,mo,op,ad,of,())) (m:=CY (b,mo,op,ad,of,())) h1
 refine⟨a1,x',e,a2,h2,?_⟩
 rcases q4 with q|⟨q,q'⟩|q
 ·exact .inl q
 ·exact .inr (.inl ⟨q,hm q'⟩)
 ·exact .inr (.inr q)
theorem ago(b:List Int)(mo op ad of v:Int)(hb:b.length<=1099511627776):O4 (b,mo,op,ad,of,v,())=true/\ ∃ e b',Gj (b,mo,op,ad,of,v,())=(e,b',mo,())/\b'.length=b.length/\(e=0∨e=1/\qn op=false∨e=23):=by
 obtain⟨n,hn,hm,hG⟩:=Ep op
 obtain⟨at_,BJ⟩:=Ku (ad:=dm .u64 ad 4294967295) (of:=of)
 obtain⟨q1,e,b',q2,q3,q4⟩:=agl b mo at_ n v hb hn
 have h:=aaw b mo op ad of v
 rw[BJ,hG,q1,db rfl,q2]at h
 obtain⟨a1,a2⟩:=cg (ai _) (ai _) (k:=O4 (b,mo,op,ad,of,v,())) (m:=Gj (b,mo,op,ad,of,v,())) (y:=(e,b',mo,())) h
 refine⟨a1,e,b',a2,q3,?_⟩
 rcases q4 with q|⟨q,q'⟩|q
 ·exact .inl q
 ·exact .inr (.inl ⟨q,hm q'⟩)
 ·exact .inr (.inr q)
theorem aaD{p:Nat}(h:p<=16):sX .i64 ((65536*p:Nat):Int) 65536=(p:Int):=by
 have e:sX .i64 ((65536*p:Nat):Int) 65536=fM .i64 (Int.tdiv ((65536*p:Nat):Int) 65536):=rfl
 rw[e,Int.tdiv_eq_ediv_of_nonneg (by omega),show((65536*p:Nat):Int) / 65536=(p:Int) by omega]
 exact wrap_i64 (by omega) (by omega)
theorem np1{mo:Int}{n p:Nat}(h: ¬ (min 16 mo - (p:Int)<(n:Int))):n+p<=16/\p+n<=16:=by omega
theorem np2{n p:Nat}(h: ¬ ((16:Int) - (p:Int)<(n:Int))):n+p<=16/\p+n<=16:=by omega
theorem np3{p:Nat}(h:p<=16):(0:Int)<=(p:Int)/\(p:Int)<=4294967295:=by omega
theorem agp(b:List Int)(mo:Int)(n:Nat)(p:Nat)(hp:p<=16)(hb:b.length=65536*p)(hn:n<4294967296):O7 (b,mo,(n:Int),())=true/\ ∃ v k,Gk (b,mo,(n:Int),())=(v,b++List.replicate (65536*k) 0,mo,())/\0<=v/\v<=4294967295/\p+k<=16:=by
 have key: ∃ v k,(t353 (b,mo,(n:Int),())).val=some (aH nA (v,b++List.replicate (65536*k) 0,mo,()))/\0<=v/\v<=4294967295/\p+k<=16:=by
  have h:=aax b mo (n:Int)
  have cn:ao .i64 (n:Int)=(n:Int):=wrap_i64 (by omega) (by omega)
  rw[hb,aaD hp,cn]at h
  have stay: ∃ v k,some (aH nA (4294967295,b,mo,()))=some (aH nA (v,b++List.replicate (65536*k) (0:Int),mo,()))/\0<=v/\v<=4294967295/\p+k<=16:=⟨4294967295,0,by rw[Nat.mul_zero,List.replicate_zero,List.append_nil],by decide,by decide,by omega⟩
  have grow:n+p<=16->bJ (decide (0<=kh .i64 (n:Int) 65536)) (bJ (roomy 1 (65536*p+(List.replicate (kh .i64 (n:Int) 65536).toNat (0:Int)).length)) (some (aH nA (ao .u32 (p:Int),app b (List.replicate (kh .i64 (n:Int) 65536).toNat (0:Int)),mo,()))))=some (aH nA ((p:Int),b++List.replicate (65536*n) (0:Int),mo,())):=by
   intro hnp
   have em:kh .i64 (n:Int) 65536=((65536*n:Nat):Int):=by
    have:kh .i64 (n:Int) 65536=fM .i64 ((n:Int)*65536):=rfl
    rw[this,show(n:Int)*65536=((65536*n:Nat):Int) by omega]
    exact wrap_i64 (by omega) (by omega)
   have ep:ao .u32 (p:Int)=(p:Int):=by
    have:ao .u32 (p:Int)=(p:Int) % 4294967296:=rfl
    rw[this];omega
   rw[em,dt (show(0:Int)<=((65536*n:Nat):Int) by omega),Int.toNat_natCast,ep,show roomy 1 (65536*p+(List.replicate (65536*n) (0:Int)).length)=true from pD (by decide) (by rw[List.length_replicate];omega),dn]
   rfl
  by_cases hm:0<=mo
  ·rw[dt hm,cond_true]at h
   have es:aV .i64 (min 16 mo) (p:Int)=min 16 mo - (p:Int):=wrap_i64 (by omega) (by omega)
   rw[es]at h
   by_cases hc:min 16 mo - (p:Int)<(n:Int)
   ·rw[dt hc,cond_true]at h
    obtain⟨v,k,e1,e2⟩:=stay
    exact⟨v,k,h.trans e1,e2⟩
   ·rw[df hc,cond_false,grow (np1 hc).1]at h
    exact⟨(p:Int),n,h,(np3 hp).1,(np3 hp).2,(np1 hc).2⟩
  ·rw[df hm,cond_false]at h
   have es:aV .i64 16 (p:Int)=16 - (p:Int):=wrap_i64 (by omega) (by omega)
   rw[es]at h
   by_cases hc:16 - (p:Int)<(n:Int)
   ·rw[dt hc,cond_true]at h
    obtain⟨v,k,e1,e2⟩:=stay
    exact⟨v,k,h.trans e1,e2⟩
   ·rw[df hc,cond_false,grow (np2 hc).1]at h
    exact⟨(p:Int),n,h,(np3 hp).1,(np3 hp).2,(np2 hc).2⟩
 obtain⟨v,k,h1,h2⟩:=key
 obtain⟨a1,a2⟩:=cg (ai _) (ai _) (k:=O7 (b,mo,(n:Int),())) (m:=Gk (b,mo,(n:Int),())) h1
 exact⟨a1,v,k,a2,h2⟩
end Go.Proofs.Vq

noncomputable section
namespace Go.Proofs.Vq
open Go.Ab Go.Ab.Lf
set_option maxRecDepth 100000
theorem agq(o x:Int)(hx:U x)(ha:(m11 (o,())).1=1):(m13 (o,x,())).2.1=0:=by
 refine(fj.km (P:=fun y:aG ju=>y.2.1=0) (k:=Up (o,x,())) (ai _) (ai _) ?_).2
 rw[aap]
 refine fj.ck (pG o).1 ?_
 rw[dt ha]
 show fj ju _ (bif false then _ else _)
 rw[cond_false]
 repeat' with_reducible first
  |refine fj.bif (fun _=>?_) (fun _=>?_)
  |refine fj.ck (aar _) ?_
  |refine fj.ck (ckU hx) ?_
  |refine fj.ck (Ru (mV _).1 (mV _).2) ?_
  |refine fj.ck (Rv _) ?_
 all_goals exact fj.ok (P:=fun y:aG ju=>y.2.1=0) rfl
def Kv(e:Int):Prop:=e=0∨e=21∨e=22
theorem aaE(o x y:Int)(hx:U x)(hy:U y)(ha:(m11 (o,())).1=2):Kv (m12 (o,x,y,())).2.1:=by
 refine(fj.km (P:=fun y:aG cS=>Kv y.2.1) (k:=Ui (o,x,y,())) (ai _) (ai _) ?_).2
 rw[aaq]
 refine fj.ck (pG o).1 ?_
 rw[dt ha]
 show fj cS _ (bif false then _ else _)
 rw[cond_false]
 have l63: ∀ z,0<=dm .u64 (ao .u64 z) 63:=fun z=>xO (mF z)
 have l31: ∀ z,0<=dm .u64 (ao .u64 z) 31:=fun z=>(qm (mF z) (y:=31) ⟨by decide,by decide⟩).1.1
 repeat' with_reducible first
  |refine fj.bif (fun _=>?_) (fun _=>?_)
  |refine fj.ck (decide_eq_true (xO hy)) ?_
  |refine fj.ck (decide_eq_true (RA _)) ?_
  |refine fj.ck (Ej (l63 _)) ?_
  |refine fj.ck (Ej (l31 _)) ?_
  |refine fj.ck (nb (C5 (BL (by assumption) (kT (k:=109) (by assumption) (by decide)) (kU (k:=109) (by assumption) (by decide))))) ?_
  |refine fj.ck (nb (xP (BL (by assumption) (kT (k:=111) (by assumption) (by decide)) (kU (k:=111) (by assumption) (by decide))))) ?_
  |refine fj.ck (nb (BL (lo:=109) (hi:=112) (by assumption) (kT (k:=110) (by assumption) (by decide)) (kU (k:=110) (by assumption) (by decide)))) ?_
  |refine fj.ck (nb (BL (lo:=109) (hi:=112) (by assumption) (kT (k:=112) (by assumption) (by decide)) (kU (k:=112) (by assumption) (by decide)))) ?_
  |refine fj.ck (nb (y8 hy (BL (by assumption) (kT (k:=127) (by assumption) (by decide)) (kU (k:=127) (by assumption) (by decide))))) ?_
  |refine fj.ck (nb (y8 hy (BL (by assumption) (kT (k:=129) (by assumption) (by decide)) (kU (k:=129) (by assumption) (by decide))))) ?_
  |refine fj.ck (nb (BL (lo:=127) (hi:=130) (by assumption) (kT (k:=128) (by assumption) (by decide)) (kU (k:=128) (by assumption) (by decide)))) ?_
  |refine fj.ck (nb (BL (lo:=127) (hi:=130) (by assumption) (kT (k:=130) (by assumption) (by decide)) (kU (k:=130) (by assumption) (by decide)))) ?_
 all_goals first
  |exact fj.ok (P:=fun y:aG cS=>Kv y.2.1) (.inl rfl)
  |exact fj.ok (P:=fun y:aG cS=>Kv y.2.1) (.inr (.inl rfl))
  |exact fj.ok (P:=fun y:aG cS=>Kv y.2.1) (.inr (.inr rfl))
end Go.Proofs.Vq

noncomputable section
namespace Go.Proofs.Vq
open Go.Ab Go.Ab.Lf
set_option maxRecDepth 100000
section
variable (x:ks)(a n:Int){s:List Int}{v w y:Int}
theorem agr(hf:x.r.fuel≠0):l9 (aJ gG x (257,a,n,()))=true/\lF (aJ gG x (257,a,n,()))=aJ [] {x with r:={x.r with fuel:=aV .i64 x.r.fuel 1}} ():=by
 refine cg (ai _) (ai _) ?_
 refine(ql x 257 a n).trans ?_
 rw[dt rfl,cond_true,df (show ¬ x.r.2=0 from hf),cond_false]
theorem aaF(hf:x.r.fuel=0)(he:x.r.err=0):l9 (aJ gG x (257,a,n,()))=true/\lF (aJ gG x (257,a,n,()))=aJ [] {x with r:={x.r with err:=27}} ():=by
 refine cg (ai _) (ai _) ?_
 refine(ql x 257 a n).trans ?_
 rw[dt rfl,cond_true,dt (show x.r.2=0 from hf),cond_true,dt (show x.r.5=0 from he),cond_true]
theorem P26(hx:x.st=s++[w])(hl:s.length<=1048575):l9 (aJ gG x (26,a,n,()))=true/\lF (aJ gG x (26,a,n,()))=aJ [] {x with st:=s} ():=by
 have hk:x.st.length=s.length+1:=by rw[hx,List.length_append];rfl
 have hn:=fX x 1 0 (by omega) (by omega) (by omega)
 refine cg (ai _) (ai _) ?_
 refine(ql x 26 a n).trans ?_
 rw[df (show ¬ (26:Int)=257 by decide),df (show ¬ (26:Int)=256 by decide),dt rfl,show ij (aJ [i64,i64] x (1,0,()))=true from hn.1,show aF (aJ [i64,i64] x (1,0,()))=_ from hn.2]
 show bJ true (bif true then kP x.st (some (aH fo (aJ [] {x with st:=r5 x.st} ())))else fin x)=_
 rw[gh _ hx (by omega),lG hx (by omega)]
 rfl
theorem P66(hl:x.st.length<=1048575):l9 (aJ gG x (66,a,n,()))=true/\lF (aJ gG x (66,a,n,()))=aJ [] {x with st:=x.st++[n]} ():=by
 have hn:=fX x 0 1 (by omega) (by omega) (by omega)
 refine cg (ai _) (ai _) ?_
 refine(ql x 66 a n).trans ?_
 rw[df (show ¬ (66:Int)=257 by decide),df (show ¬ (66:Int)=256 by decide),df (show ¬ (66:Int)=26 by decide),df (show ¬ (66:Int)=27 by decide),dt rfl,show ij (aJ [i64,i64] x (0,1,()))=true from hn.1,show aF (aJ [i64,i64] x (0,1,()))=_ from hn.2]
 show bJ true (bif true then mb x.st n (fun s=>some (aH fo (aJ [] {x with st:=s} ())))else fin x)=_
 rw[gi _ _ (by omega)]
 rfl
theorem P27(hx:x.st=s++[v,w,y])(hl:s.length<=1048573):l9 (aJ gG x (27,a,n,()))=true/\lF (aJ gG x (27,a,n,()))=aJ [] {x with st:=s++[bif decide (ao .u32 y=0)then w else v]} ():=by
 have hk:x.st.length=s.length+3:=by rw[hx,List.length_append];rfl
 have hn:=fX x 3 1 (by omega) (by omega) (by omega)
 refine cg (ai _) (ai _) ?_
 refine(ql x 27 a n).trans ?_
 rw[df (show ¬ (27:Int)=257 by decide),df (show ¬ (27:Int)=256 by decide),df (show ¬ (27:Int)=26 by decide),dt rfl,show ij (aJ [i64,i64] x (3,1,()))=true from hn.1,show aF (aJ [i64,i64] x (3,1,()))=_ from hn.2]
 have h2:x.st=(s++[v])++[w,y]:=by rw[hx,List.append_assoc];rfl
 have hk2:(s++[v]).length=s.length+1:=by rw[List.length_append];rfl
 have eI:aV .i64 (Int.ofNat ((n7 x.st).toNat - (0:Int).toNat)) 1=(s.length:Int):=by
  rw[pY h2 (by omega),hk2]
  have e0:Int.ofNat ((((s.length+1:Nat):Int)).toNat - (0:Int).toNat)=((s.length+1:Nat):Int):=by rw[Int.toNat_natCast];rfl
  rw[e0]
  exact(wrap_i64 (by omega) (by omega)).trans (by omega)
 have g0:List.getD x.st ((0:Int).toNat+(0:Int).toNat+(s.length:Int).toNat) (aE (Ty.int .u64))=v:=by
  rw[hx];show List.getD (s++[v,w,y]) (0+0+s.length) 0=v;rw[show 0+0+s.length=s.length by omega];simp[List.getD_eq_getElem?_getD]
 have c1:bF (s.length:Int) (Int.ofNat ((n7 x.st).toNat - (0:Int).toNat))=true:=by rw[pY h2 (by omega),hk2];exact cZ (by show s.length<(((s.length+1:Nat):Int)).toNat - 0;rw[Int.toNat_natCast];omega)
 have c2:dy 0 (s.length:Int) (Int.ofNat ((n7 x.st).toNat - (0:Int).toNat))=true:=by rw[pY h2 (by omega),hk2];unfold dy;simp;omega
 have e3:List.take ((s.length:Int).toNat - (0:Int).toNat) (List.drop ((0:Int).toNat+(0:Int).toNat+(0:Int).toNat) x.st)=s:=by rw[hx];simp
 show bJ true (bif true then zb x.st (bJ (bF (aV .i64 (Int.ofNat ((n7 x.st).toNat - (0:Int).toNat)) 1) (Int.ofNat ((n7 x.st).toNat - (0:Int).toNat))) (bJ (dy 0 (aV .i64 (Int.ofNat ((n7 x.st).toNat - (0:Int).toNat)) 1) (Int.ofNat ((n7 x.st).toNat - (0:Int).toNat)))
  (bif decide (ao .u32 (jK x.st)=0)then mb (List.take ((aV .i64 (Int.ofNat ((n7 x.st).toNat - (0:Int).toNat)) 1).toNat - (0:Int).toNat) (List.drop ((0:Int).toNat+(0:Int).toNat+(0:Int).toNat) x.st)) (za x.st) (fun s=>some (aH fo (aJ [] {x with st:=s} ())))
   else mb (List.take ((aV .i64 (Int.ofNat ((n7 x.st).toNat - (0:Int).toNat)) 1).toNat - (0:Int).toNat) (List.drop ((0:Int).toNat+(0:Int).toNat+(0:Int).toNat) x.st)) (List.getD x.st ((0:Int).toNat+(0:Int).toNat+(aV .i64 (Int.ofNat ((n7 x.st).toNat - (0:Int).toNat)) 1).toNat) (aE (Ty.int .u64))) (fun s=>some (aH fo (aJ [] {x with st:=s} ()))))))else fin x)=_
 rw[tl _ h2 (by omega),wj h2 (by omega),zc h2 (by omega),eI,c1,c2,e3,g0,gi _ _ (by omega),gi _ _ (by omega)]
 cases decide (ao .u32 y=0)<;>rfl
end
end Go.Proofs.Vq
