import Derived.Test.YtcnkojgmochcgaaGreatDoorSwD
import Derived.Test.YtcnkojgmochcgaaGreatDoorVqJ
import Derived.Test.YtcnkojgmochcgaaGreatDoorVrD
noncomputable section
namespace Go.Proofs.Vq
open Go.Ab Go.Ab.Lf
set_option maxRecDepth 100000
section
variable (ss:List (den nd))(fs:List (den pn))
def He(f:den pn):Bool:=(List.range f.2.2.2.2.2.1.length).all fun j=>pW ss.length fs.length f.2.2.1 f.2.2.2.2.1 f.2.2.2.2.2.1.length (j:Int) (f.2.2.2.2.2.1.getD j (cE oi))
def xF(f:den pn):Bool:=bif decide ((f.1:Int)<(-1))then true else bif decide ((f.2.1:Int)<0)then true else bif decide ((ss.length:Int)<=f.2.1)then true else bif decide ((f.2.2.2.2.1:Int)<0)then true else bif decide (4096<(f.2.2.2.2.1:Int))then true else decide ((f.1:Int)=(-1)) ^^ decide (0<(f.2.2.2.2.2.1.length:Int))
def DI(f:den pn)(s:den nd):Bool:=bif !decide ((f.2.2.1:Int)=(s.1.length:Int))then true else !decide ((f.2.2.2.1:Int)=(s.2.length:Int))
def fnB(f:den pn):Bool:=bif xF ss f then false else bif DI f (ss.getD (f.2.1:Int).toNat (cE nd))then false else He ss fs f
theorem c84(f:den pn)(hl:f.2.2.2.2.2.1.length<=1099511627776):k84 (ss,fs,f.1,f.2.1,f.2.2.1,f.2.2.2.1,f.2.2.2.2.1,f.2.2.2.2.2.1,f.2.2.2.2.2.2,())=true/\m84 (ss,fs,f.1,f.2.1,f.2.2.1,f.2.2.2.1,f.2.2.2.2.1,f.2.2.2.2.2.1,f.2.2.2.2.2.2,())=(fnB ss fs f,()):=by
 obtain⟨p0,p1,p2,p3,p4,cs,ms⟩:=f
 have hl:cs.length<=1099511627776:=hl
 refine nm (ca _) (ca _) ?_
 have r:=Hd (f:=Dv) cs.length (fun j=>cp xZ (p0,p1,p2,p3,p4,cs,ms,ss,fs,cs,(cs.length:Int),(j:Int),())) (fun j=>pW ss.length fs.length p2 p4 cs.length (j:Int) (cs.getD j (cE oi))) (cp vG ()) (cp uw (false,())) (fun j hj=>by
  obtain⟨q1,q2⟩:=asy ss fs p0 p1 p2 p3 p4 cs ms (j:Int) (cs.getD j (cE oi))
  refine(abH p0 p1 p2 p3 p4 cs ms ss fs cs (cs.length:Int) (j:Int)).trans ?_
  rw[uI hj,show nh (j:Int) (cs.length:Int)=true from qg hj,Zo (by omega),Int.toNat_natCast]
  rw[show YG (ss,fs,p0,p1,p2,p3,p4,cs,ms,(j:Int),(List.getD cs j (cE ((Ty.int .i64).pair ((Ty.int .i64).pair (Ty.int .u64))))).1,(List.getD cs j (cE ((Ty.int .i64).pair ((Ty.int .i64).pair (Ty.int .u64))))).2.1,(List.getD cs j (cE ((Ty.int .i64).pair ((Ty.int .i64).pair (Ty.int .u64))))).2.2,())=true from q1,
   show YH (ss,fs,p0,p1,p2,p3,p4,cs,ms,(j:Int),(List.getD cs j (cE ((Ty.int .i64).pair ((Ty.int .i64).pair (Ty.int .u64))))).1,(List.getD cs j (cE ((Ty.int .i64).pair ((Ty.int .i64).pair (Ty.int .u64))))).2.1,(List.getD cs j (cE ((Ty.int .i64).pair ((Ty.int .i64).pair (Ty.int .u64))))).2.2,())=(pW ss.length fs.length p2 p4 cs.length (j:Int) (cs.getD j (cE oi)),())from q2]
  cases pW ss.length fs.length p2 p4 cs.length (j:Int) (cs.getD j (cE oi))<;>rfl) (by
  refine(abH p0 p1 p2 p3 p4 cs ms ss fs cs (cs.length:Int) (cs.length:Int)).trans ?_
  rw[rV (Nat.le_refl _)]
  rfl)
 have e:(t84 (ss,fs,p0,p1,p2,p3,p4,cs,ms,())).val=bif xF ss (p0,p1,p2,p3,p4,cs,ms)then some (cp BJ (false,()))else cA (nh p1 (ss.length:Int)) (bif DI (p0,p1,p2,p3,p4,cs,ms) (ss.getD (p1:Int).toNat (cE nd))then some (cp BJ (false,()))else
  cA (HK Dv xZ vG uw (p0,p1,p2,p3,p4,cs,ms,ss,fs,cs,(cs.length:Int),0,())) (bif Fk Dv xZ (p0,p1,p2,p3,p4,cs,ms,ss,fs,cs,(cs.length:Int),0,())then some (cp BJ (true,()))else some (cp BJ ((lo1 Dv xZ uw (p0,p1,p2,p3,p4,cs,ms,ss,fs,cs,(cs.length:Int),0,())).1,())))):=(ar4 ss fs p0 p1 p2 p3 p4 cs ms).trans (by show _=_;kernel_rfl)
 refine e.trans ?_
 unfold fnB
 cases h1:xF ss (p0,p1,p2,p3,p4,cs,ms)with
 |true=>rfl
 |false=>
  have hix:nh p1 (ss.length:Int)=true:=by
   rw[u9]
   unfold xF at h1
   dsimp only at h1
   obtain⟨q,hq⟩: ∃ q:Int,q=p1:=⟨p1,rfl⟩
   have h1:(bif decide ((p0:Int)<(-1))then true else bif decide (q<0)then true else bif decide ((ss.length:Int)<=q)then true else bif decide ((p4:Int)<0)then true else bif decide (4096<(p4:Int))then true else decide ((p0:Int)=(-1)) ^^ decide (0<(cs.length:Int)))=false:=by rw[hq];exact h1
   rw[<-hq]
   by_cases a1:(p0:Int)<(-1)
   ·rw[dt a1]at h1;cases h1
   ·by_cases a2:q<0
    ·rw[df a1,dt a2]at h1;cases h1
    ·by_cases a3:(ss.length:Int)<=q
     ·rw[df a1,df a2,dt a3]at h1;cases h1
     ·exact⟨by omega,by omega⟩
  rw[hix]
  cases h2:DI (p0,p1,p2,p3,p4,cs,ms) (ss.getD (p1:Int).toNat (cE nd))with
  |true=>rfl
  |false=>
   have hc:He ss fs (p0,p1,p2,p3,p4,cs,ms)=(List.range cs.length).all fun j=>pW ss.length fs.length p2 p4 cs.length (j:Int) (cs.getD j (cE oi)):=rfl
   rw[hc]
   cases hb:(List.range cs.length).all (fun j=>pW ss.length fs.length p2 p4 cs.length (j:Int) (cs.getD j (cE oi)))with
   |true=>
    rw[hb]at r
    obtain⟨q1,q2,_⟩:=Dt (f:=Dv) (ti:=xZ) (t0:=vG) (t1:=uw) (y:=()) (x:=(p0,p1,p2,p3,p4,cs,ms,ss,fs,cs,(cs.length:Int),0,())) r
    rw[q1,q2];rfl
   |false=>
    rw[hb]at r
    obtain⟨q1,q2,q3⟩:=GV (f:=Dv) (ti:=xZ) (t0:=vG) (t1:=uw) (y:=(false,())) (x:=(p0,p1,p2,p3,p4,cs,ms,ss,fs,cs,(cs.length:Int),0,())) r
    rw[q1,q2,q3];rfl
def UD:Bool:=(List.range ss.length).all fun j=>PG (ss.getD j (cE nd)).1&&PG (ss.getD j (cE nd)).2
def afe:Bool:=(List.range fs.length).all fun j=>fnB ss fs (fs.getD j (cE pn))
def FD:Bool:=UD ss&&afe ss fs
structure Fits:Prop where
 ls:ss.length<=1099511627776
 lf:fs.length<=1099511627776
 s: ∀ s:den nd,s∈ss->s.1.length<=1099511627776/\s.2.length<=1099511627776
 f: ∀ f:den pn,f∈fs->f.2.2.2.2.2.1.length<=1099511627776
theorem w9{α:Type}{l:List α}{j:Nat}(h:j<l.length)(d:α):l.getD j d∈l:=by
 rw[List.getD_eq_getElem?_getD,List.getElem?_eq_getElem h]
 exact List.getElem_mem h
theorem c34(H:Fits ss fs):k34 (ss,fs,())=true/\m34 (ss,fs,())=(bif FD ss fs then 0 else 1,()):=by
 refine nm (ca _) (ca _) ?_
 have r1:=Hd (f:=f340) ss.length (fun j=>cp qX (ss,fs,ss,(ss.length:Int),(j:Int),())) (fun j=>PG (ss.getD j (cE nd)).1&&PG (ss.getD j (cE nd)).2) (cp po (ss,fs,())) (cp rE (1,())) (fun j hj=>by
  obtain⟨h1,h2⟩:=H.s _ (w9 hj (cE nd))
  obtain⟨a1,a2⟩:=c83 _ h1
  obtain⟨b1,b2⟩:=c83 _ h2
  refine(abI ss fs ss (ss.length:Int) (j:Int)).trans ?_
  rw[uI hj,show nh (j:Int) (ss.length:Int)=true from qg hj,Zo (by have:=H.ls;omega),Int.toNat_natCast]
  refine Eq.trans (b:=cA (k83 ((ss.getD j (cE nd)).1,())) (bif !(m83 ((ss.getD j (cE nd)).1,())).1 then(some (.out 1 (cp rE (1,()))):Option Rs)else cA (k83 ((ss.getD j (cE nd)).2,())) (bif !(m83 ((ss.getD j (cE nd)).2,())).1 then some (.out 1 (cp rE (1,())))else some (.next (cp qX (ss,fs,ss,(ss.length:Int),((j+1:Nat):Int),())))))) (by show _=_;kernel_rfl) ?_
  rw[a1,a2,b1,b2]
  cases PG (ss.getD j (cE nd)).1<;>cases PG (ss.getD j (cE nd)).2<;>rfl) (by
  refine(abI ss fs ss (ss.length:Int) (ss.length:Int)).trans ?_
  rw[rV (Nat.le_refl _)]
  rfl)
 have r2:=Hd (f:=f342) fs.length (fun j=>cp ve (ss,fs,(fs.length:Int),(j:Int),())) (fun j=>fnB ss fs (fs.getD j (cE pn))) (cp ux ()) (cp rW (1,())) (fun j hj=>by
  obtain⟨a1,a2⟩:=c84 ss fs (fs.getD j (cE pn)) (H.f _ (w9 hj (cE pn)))
  refine(abJ ss fs (fs.length:Int) (j:Int)).trans ?_
  rw[uI hj,show nh (j:Int) (fs.length:Int)=true from qg hj,Zo (by have:=H.lf;omega),Int.toNat_natCast]
  generalize hF:fs.getD j (cE pn)=F at a1 a2 ⊢
  rw[a1,a2]
  cases fnB ss fs F<;>rfl) (by
  refine(abJ ss fs (fs.length:Int) (fs.length:Int)).trans ?_
  rw[rV (Nat.le_refl _)]
  rfl)
 have e:(t34 (ss,fs,())).val=cA (HK f340 qX po rE (ss,fs,ss,(ss.length:Int),0,())) (bif Fk f340 qX (ss,fs,ss,(ss.length:Int),0,())then
  cA (HK f342 ve ux rW ((lo1 f340 qX po (ss,fs,ss,(ss.length:Int),0,())).1,(lo1 f340 qX po (ss,fs,ss,(ss.length:Int),0,())).2.1,((lo1 f340 qX po (ss,fs,ss,(ss.length:Int),0,())).2.1.length:Int),0,())) (bif Fk f342 ve ((lo1 f340 qX po (ss,fs,ss,(ss.length:Int),0,())).1,(lo1 f340 qX po (ss,fs,ss,(ss.length:Int),0,())).2.1,((lo1 f340 qX po (ss,fs,ss,(ss.length:Int),0,())).2.1.length:Int),0,())then some (cp BK (0,()))
   else some (cp BK ((lo1 f342 ve rW ((lo1 f340 qX po (ss,fs,ss,(ss.length:Int),0,())).1,(lo1 f340 qX po (ss,fs,ss,(ss.length:Int),0,())).2.1,((lo1 f340 qX po (ss,fs,ss,(ss.length:Int),0,())).2.1.length:Int),0,())).1,())))else some (cp BK ((lo1 f340 qX rE (ss,fs,ss,(ss.length:Int),0,())).1,()))):=(ar5 ss fs).trans (by show _=_;kernel_rfl)
 refine e.trans ?_
 unfold FD UD afe
 cases hb:(List.range ss.length).all (fun j=>PG (ss.getD j (cE nd)).1&&PG (ss.getD j (cE nd)).2)with
 |true=>
  rw[hb]at r1
  obtain⟨q1,q2,q3⟩:=Dt (f:=f340) (ti:=qX) (t0:=po) (t1:=rE) (y:=(ss,fs,())) (x:=(ss,fs,ss,(ss.length:Int),0,())) r1
  rw[q1,q2,q3,vX rfl,cond_true]
  show cA (HK f342 ve ux rW (ss,fs,(fs.length:Int),0,())) (bif Fk f342 ve (ss,fs,(fs.length:Int),0,())then some (cp BK (0,()))else some (cp BK ((lo1 f342 ve rW (ss,fs,(fs.length:Int),0,())).1,())))=_
  cases hc:(List.range fs.length).all (fun j=>fnB ss fs (fs.getD j (cE pn)))with
  |true=>
   rw[hc]at r2
   obtain⟨p1,p2,_⟩:=Dt (f:=f342) (ti:=ve) (t0:=ux) (t1:=rW) (y:=()) (x:=(ss,fs,(fs.length:Int),0,())) r2
   rw[p1,p2];rfl
  |false=>
   rw[hc]at r2
   obtain⟨p1,p2,p3⟩:=GV (f:=f342) (ti:=ve) (t0:=ux) (t1:=rW) (y:=(1,())) (x:=(ss,fs,(fs.length:Int),0,())) r2
   rw[p1,p2,p3];rfl
 |false=>
  rw[hb]at r1
  obtain⟨q1,q2,q3⟩:=GV (f:=f340) (ti:=qX) (t0:=po) (t1:=rE) (y:=(1,())) (x:=(ss,fs,ss,(ss.length:Int),0,())) r1
  rw[q1,q2,q3];rfl
end
end Go.Proofs.Vq

noncomputable section
namespace Go.Proofs.Vq
open Go.Ab Go.Ab.Lf
set_option maxRecDepth 100000
theorem asz(ss:List (den nd))(fs:List (den pn))(v sm fi tb:List Int)(h:Hos)(bad:Bool)(hb:bad= !decide ((m34 (ss,fs,())).1=0))(a0:cf uM)(ha:a0=(ss,fs,ss,uL (ug (sQ [.bool,i64,i64])) ⟨v,sm,fi,tb,ng⟩ (wT (sQ [.bool,i64,i64]) h (BM [.bool,i64,i64] ng (bad,(ss.length:Int),0,())))))
 (z0:cf sr)(hz:z0=lo1 Fp uM sr a0)(a2:cf tY)(ha2:a2=(z0.2.2.1,z0.2.1,z0.2.2.2.1,z0.2.2.2.2.1,z0.2.2.2.2.2.1,z0.2.2.2.2.2.2.1,z0.2.2.2.2.2.2.2.1,z0.2.2.2.2.2.2.2.2.1,z0.2.2.2.2.2.2.2.2.2.1,z0.2.2.2.2.2.2.2.2.2.2.1,z0.2.2.2.2.2.2.2.2.2.2.2.1,z0.2.2.2.2.2.2.2.2.2.2.2.2.1,z0.2.2.2.2.2.2.2.2.2.2.2.2.2.1,z0.2.2.2.2.2.2.2.2.2.2.2.2.2.2.1,z0.2.2.2.2.2.2.2.2.2.2.2.2.2.2.2.1,z0.2.2.2.2.2.2.2.2.2.2.2.2.2.2.2.2.1,z0.2.2.2.2.2.2.2.2.2.2.2.2.2.2.2.2.2.1,z0.2.2.2.2.2.2.2.2.2.2.2.2.2.2.2.2.2.2.1,z0.2.2.2.2.2.2.2.2.2.2.2.2.2.2.2.2.2.2.2.1,z0.2.2.2.2.2.2.2.2.2.2.2.2.2.2.2.2.2.2.2.2.1,z0.2.2.2.2.2.2.2.2.2.2.2.2.2.2.2.2.2.2.2.2.2.1,z0.2.2.2.2.2.2.2.2.2.2.2.2.2.2.2.2.2.2.2.2.2.2.1,z0.2.2.2.2.2.2.2.2.2.2.2.2.2.2.2.2.2.2.2.2.2.2.2.1,z0.2.2.2.2.2.2.2.2.2.2.2.2.2.2.2.2.2.2.2.2.2.2.2.2.1,z0.2.2.2.2.2.2.2.2.2.2.2.2.2.2.2.2.2.2.2.2.2.2.2.2.2.1,z0.2.2.2.2.2.2.2.2.2.2.2.2.2.2.2.2.2.2.2.2.2.2.2.2.2.2.1,z0.2.2.2.2.2.2.2.2.2.2.2.2.2.2.2.2.2.2.2.2.2.2.2.2.2.2.2.1,z0.2.2.2.2.2.2.2.2.2.2.2.2.2.2.2.2.2.2.2.2.2.2.2.2.2.2.2.2.1,z0.2.2.2.2.2.2.2.2.2.2.2.2.2.2.2.2.2.2.2.2.2.2.2.2.2.2.2.2.2.1,z0.2.2.2.2.2.2.2.2.2.2.2.2.2.2.2.2.2.2.2.2.2.2.2.2.2.2.2.2.2.2.1,z0.2.2.2.2.2.2.2.2.2.2.2.2.2.2.2.2.2.2.2.2.2.2.2.2.2.2.2.2.2.2.2.1,z0.2.2.2.2.2.2.2.2.2.2.2.2.2.2.2.2.2.2.2.2.2.2.2.2.2.2.2.2.2.2.2.2.1,(z0.2.1.length:Int),0,())):
 (t22 (ss,fs,uL (ug []) ⟨v,sm,fi,tb,ng⟩ (wT [] h ()))).val=
  cA (Ki ng) (cA (k34 (ss,fs,())) (cA (decide (ss.length<=1099511627776)) (cA (DT Fp uM sr a0) (cA (decide (z0.2.1.length<=549755813888)) (cA (DT Dy tY su a2) (some (cp LF (lo1 Dy tY su a2)))))))):=by
 subst ha2;subst hz;subst ha;subst hb
 show _=_
 kernel_rfl
section
variable (v sm fi tb:List Int)(h:Hos)(bad:Bool)
theorem UE(md:cf tM)(i:Int)(ss:List (den nd))(n:Int)(fs:List (den pn))(sg:List (den nd))(s1:den nd)(Ke:s1=sg.getD i.toNat (cE nd)):(Fp (cp uM (ss,fs,sg,uL (ug (sQ [.bool,i64,i64])) ⟨v,sm,fi,tb,md⟩ (wT (sQ [.bool,i64,i64]) h (BM [.bool,i64,i64] md (bad,n,i,())))))).val=
 bif decide (i<n)then(cA (nh i (sg.length:Int)) (cA (decide (s1.1.length<=1099511627776)) (cA (decide (s1.2.length<=1099511627776)) (cA (nh i (sg.length:Int)) (some (.next (cp uM (ss,fs,sg.set i.toNat (s1.1,s1.2),uL (ug (sQ [.bool,i64,i64])) ⟨v,sm,fi,tb,md⟩ (wT (sQ [.bool,i64,i64]) h (BM [.bool,i64,i64] md (bad,n,nz .i64 i 1,())))))))))))else some (.out 0 (cp sr (ss,fs,sg,uL (ug (sQ [.bool])) ⟨v,sm,fi,tb,md⟩ (wT (sQ [.bool]) h (BM [.bool] md (bad,())))))):=by
 subst Ke
 show _=_
 kernel_rfl
theorem UG(m:Pw)(n i:Int)(fn:den pn)(hf:fn=m.fns.getD i.toNat (cE pn)):(Dy (cp tY (qG [i64,i64] m (n,i,())))).val=
 bif decide (i<n)then(cA (nh i (m.fns.length:Int)) (cA (decide (fn.2.2.2.2.2.1.length<=1099511627776)) (cA (nh i (m.fns.length:Int)) (some (.next (cp tY (qG [i64,i64] {m with fns:=m.fns.set i.toNat (fn.1,fn.2.1,fn.2.2.1,fn.2.2.2.1,fn.2.2.2.2.1,fn.2.2.2.2.2.1,fn.2.2.2.2.2.2)} (n,nz .i64 i 1,()))))))))else some (.out 0 (cp su (qG [] m ()))):=by
 subst hf
 show _=_
 kernel_rfl
end
end Go.Proofs.Vq

noncomputable section
namespace Go.Proofs.Vq
open Go.Ab Go.Ab.Lf
set_option maxRecDepth 100000
theorem UH(m:Pw)(f fu:Int)(az ty:List Int)(n i:Int):(Fm (cp sR (qG [i64,i64,.cq u64,.cq i64,i64,i64] m (f,fu,az,ty,n,i,())))).val=
 bif decide (i<n)then(cA (nh i (ty.length:Int)) (bif decide (ty.getD i.toNat (cE i64)=127)then(cA (nh i (az.length:Int)) (cA (nh i (az.length:Int)) (some (.next (cp sR (qG [i64,i64,.cq u64,.cq i64,i64,i64] m (f,fu,az.set i.toNat (np .u64 (az.getD i.toNat (cE u64)) 4294967295),ty,n,nz .i64 i 1,())))))))else some (.next (cp sR (qG [i64,i64,.cq u64,.cq i64,i64,i64] m (f,fu,az,ty,n,nz .i64 i 1,()))))))else some (.out 0 (cp so (qG [i64,i64,.cq u64] m (f,fu,az,())))):=by
 show _=_
 kernel_rfl
def mc3(y:cf (Ei [i64,i64,.cq u64])):Pw:=⟨y.1,y.2.1,⟨y.2.2.1,y.2.2.2.1,y.2.2.2.2.1,y.2.2.2.2.2.1,(y.2.2.2.2.2.2.1,y.2.2.2.2.2.2.2.1,y.2.2.2.2.2.2.2.2.1,y.2.2.2.2.2.2.2.2.2.1,y.2.2.2.2.2.2.2.2.2.2.1,y.2.2.2.2.2.2.2.2.2.2.2.1,y.2.2.2.2.2.2.2.2.2.2.2.2.1,y.2.2.2.2.2.2.2.2.2.2.2.2.2.1,y.2.2.2.2.2.2.2.2.2.2.2.2.2.2.1,y.2.2.2.2.2.2.2.2.2.2.2.2.2.2.2.1,y.2.2.2.2.2.2.2.2.2.2.2.2.2.2.2.2.1,())⟩,⟨y.2.2.2.2.2.2.2.2.2.2.2.2.2.2.2.2.2.1,y.2.2.2.2.2.2.2.2.2.2.2.2.2.2.2.2.2.2.1,y.2.2.2.2.2.2.2.2.2.2.2.2.2.2.2.2.2.2.2.1⟩,(y.2.2.2.2.2.2.2.2.2.2.2.2.2.2.2.2.2.2.2.2.1,y.2.2.2.2.2.2.2.2.2.2.2.2.2.2.2.2.2.2.2.2.2.1,y.2.2.2.2.2.2.2.2.2.2.2.2.2.2.2.2.2.2.2.2.2.2.1,y.2.2.2.2.2.2.2.2.2.2.2.2.2.2.2.2.2.2.2.2.2.2.2.1,y.2.2.2.2.2.2.2.2.2.2.2.2.2.2.2.2.2.2.2.2.2.2.2.2.1,y.2.2.2.2.2.2.2.2.2.2.2.2.2.2.2.2.2.2.2.2.2.2.2.2.2.1,y.2.2.2.2.2.2.2.2.2.2.2.2.2.2.2.2.2.2.2.2.2.2.2.2.2.2.1,y.2.2.2.2.2.2.2.2.2.2.2.2.2.2.2.2.2.2.2.2.2.2.2.2.2.2.2.1,y.2.2.2.2.2.2.2.2.2.2.2.2.2.2.2.2.2.2.2.2.2.2.2.2.2.2.2.2.1,y.2.2.2.2.2.2.2.2.2.2.2.2.2.2.2.2.2.2.2.2.2.2.2.2.2.2.2.2.2.1,y.2.2.2.2.2.2.2.2.2.2.2.2.2.2.2.2.2.2.2.2.2.2.2.2.2.2.2.2.2.2.1,()),y.2.2.2.2.2.2.2.2.2.2.2.2.2.2.2.2.2.2.2.2.2.2.2.2.2.2.2.2.2.2.2.1⟩
theorem asA(g:Cg)(m:Pw)(f fu:Int)(az:List Int)(fn:den pn)(Zl:fn=m.fns.getD f.toNat (cE pn))(sg:den nd)(hsg:sg=m.sigs.getD (fn.2.1:Int).toNat (cE nd))(a:cf sR)(ha:a=qG [i64,i64,.cq u64,.cq i64,i64,i64] m (f,fu,az,sg.1,(sg.1.length:Int),0,()))
 (z:cf so)(hz:z=lo1 Fm sR so a)(c:cf (AY [i64,.cq u64]))(hc:c=zU [i64,.cq u64] ⟨mc3 z,min (max (z.2.2.2.2.2.2.2.2.2.2.2.2.2.2.2.2.2.2.2.2.2.2.2.2.2.2.2.2.2.2.2.2.2.1:Int) 0) 100000,0,0,0⟩ (z.2.2.2.2.2.2.2.2.2.2.2.2.2.2.2.2.2.2.2.2.2.2.2.2.2.2.2.2.2.2.2.2.1,z.2.2.2.2.2.2.2.2.2.2.2.2.2.2.2.2.2.2.2.2.2.2.2.2.2.2.2.2.2.2.2.2.2.2.1,()))(R:Rn)(hR:R=rnO (g.2 c).2):
 (t23 g (qG [i64,.cq u64,i64] m (f,az,fu,()))).val=
  (let E:=some (cp G3 (1,0,[],0,qG [] m ()))
   bif decide (f<0)then E else bif decide ((m.fns.length:Int)<=f)then E else cA (nh f (m.fns.length:Int)) (bif !decide ((az.length:Int)=fn.2.2.1)then E else
   bif m.bad then some (cp G3 (40,0,[],0,qG [] m ()))else
   cA (decide (az.length<=1099511627776)) (cA (nh f (m.fns.length:Int)&&nh fn.2.1 (m.sigs.length:Int)) (cA (DT Fm sR so a) (cA (g.1 c)
    (bif decide (R.err=0)then some (cp G3 (R.err,0,(g.2 c).1,R.fuel,qG [] R.m ()))else bif decide (R.err=28)then some (cp G3 (R.err,R.m.h.code,[],R.fuel,qG [] R.m ()))else some (cp G3 (R.err,0,[],R.fuel,qG [] R.m ())))))))):=by
 subst hR;subst hc;subst hz;subst ha;subst hsg;subst Zl
 show _=_
 kernel_rfl
end Go.Proofs.Vq

noncomputable section
namespace Go.Proofs.Vq
open Go.Ab Go.Ab.Lf
set_option maxRecDepth 100000
theorem LU{f:List Pl->Lf.T Rs}(n:Nat)(st:Nat->List Pl)(o0:List Pl)
 (zP: ∀ j,j<n->(f (st j)).val=some (.next (st (j+1))))(GS:(f (st n)).val=some (.out 0 o0)):uQ f (st 0) 0 o0:=by
 have key: ∀ (k j:Nat),j+k=n->uQ f (st j) 0 o0:=by
  intro k
  induction k with
  |zero=>
   intro j h
   have:j=n:=by omega
   subst this
   exact .last GS
  |succ k ih=>exact fun j h=>.more (zP j (by omega)) (ih (j+1) (by omega))
 exact key n 0 (by omega)
theorem JP{α:Type}(l:List α)(j:Nat)(d:α)(h:j<l.length):l.set j (l.getD j d)=l:=by
 rw[List.getD_eq_getElem?_getD,List.getElem?_eq_getElem h]
 exact List.set_getElem_self h
section
variable (ss:List (den nd))(fs:List (den pn))(v sm fi tb:List Int)(h:Hos)(bad:Bool)
theorem aff(H:Fits ss fs):uQ Fp (cp uM (ss,fs,ss,uL (ug (sQ [.bool,i64,i64])) ⟨v,sm,fi,tb,ng⟩ (wT (sQ [.bool,i64,i64]) h (BM [.bool,i64,i64] ng (bad,(ss.length:Int),((0:Nat):Int),()))))) 0
 (cp sr (ss,fs,ss,uL (ug (sQ [.bool])) ⟨v,sm,fi,tb,ng⟩ (wT (sQ [.bool]) h (BM [.bool] ng (bad,()))))):=by
 refine LU ss.length (fun j=>cp uM (ss,fs,ss,uL (ug (sQ [.bool,i64,i64])) ⟨v,sm,fi,tb,ng⟩ (wT (sQ [.bool,i64,i64]) h (BM [.bool,i64,i64] ng (bad,(ss.length:Int),(j:Int),()))))) _ (fun j hj=>?_) ?_
 ·obtain⟨h1,h2⟩:=H.s _ (w9 hj (cE nd))
  refine(UE v sm fi tb h bad ng (j:Int) ss (ss.length:Int) fs ss (ss.getD j (cE nd)) (by rw[Int.toNat_natCast])).trans ?_
  rw[uI hj,show nh (j:Int) (ss.length:Int)=true from qg hj,dt h1,dt h2,Zo (by have:=H.ls;omega),Int.toNat_natCast]
  rw[show ss.set j ((ss.getD j (cE nd)).1,(ss.getD j (cE nd)).2)=ss from JP ss j (cE nd) hj]
  rfl
 ·refine(UE v sm fi tb h bad ng (ss.length:Int) ss (ss.length:Int) fs ss _ rfl).trans ?_
  rw[rV (Nat.le_refl _)]
  rfl
theorem afg(H:Fits ss fs)(m:Pw)(hm:m=⟨ss,fs,⟨v,sm,fi,tb,ng⟩,h,ng,bad⟩):uQ Dy (cp tY (qG [i64,i64] m ((fs.length:Int),((0:Nat):Int),()))) 0 (cp su (qG [] m ())):=by
 have hfs:m.fns=fs:=by rw[hm]
 refine LU fs.length (fun j=>cp tY (qG [i64,i64] m ((fs.length:Int),(j:Int),()))) _ (fun j hj=>?_) ?_
 ·have hf:=H.f _ (w9 hj (cE pn))
  refine(UG m (fs.length:Int) (j:Int) (fs.getD j (cE pn)) (by rw[hfs,Int.toNat_natCast])).trans ?_
  rw[hfs,uI hj,show nh (j:Int) (fs.length:Int)=true from qg hj,dt hf,Zo (by have:=H.lf;omega),Int.toNat_natCast]
  rw[show fs.set j ((fs.getD j (cE pn)).1,(fs.getD j (cE pn)).2.1,(fs.getD j (cE pn)).2.2.1,(fs.getD j (cE pn)).2.2.2.1,(fs.getD j (cE pn)).2.2.2.2.1,(fs.getD j (cE pn)).2.2.2.2.2.1,(fs.getD j (cE pn)).2.2.2.2.2.2)=fs from JP fs j (cE pn) hj]
  rw[show({m with fns:=fs}:Pw)=m by rw[<-hfs]]
  rfl
 ·refine(UG m (fs.length:Int) (fs.length:Int) _ rfl).trans ?_
  rw[rV (Nat.le_refl _)]
  rfl
theorem ZI(H:Fits ss fs)(hlf:fs.length<=549755813888)(hb:bad= !FD ss fs):
 k22 (ss,fs,uL (ug []) ⟨v,sm,fi,tb,ng⟩ (wT [] h ()))=true/\m22 (ss,fs,uL (ug []) ⟨v,sm,fi,tb,ng⟩ (wT [] h ()))=qG [] ⟨ss,fs,⟨v,sm,fi,tb,ng⟩,h,ng,bad⟩ ():=by
 obtain⟨c1,c2⟩:=c34 ss fs H
 refine nm (ca _) (ca _) ?_
 have q0:=Fj (aff ss fs v sm fi tb h bad H)
 have q2:=Fj (afg ss fs v sm fi tb h bad H _ rfl)
 have afh:bad= !decide ((m34 (ss,fs,())).1=0):=by
  rw[hb,c2]
  cases FD ss fs<;>rfl
 refine(asz ss fs v sm fi tb h bad afh _ rfl _ q0.2.symm _ rfl).trans ?_
 rw[vH,c1,dt H.ls]
 rw[vX rfl,vX rfl,vX rfl]
 show cA (DT Fp uM sr (ss,fs,ss,uL (ug (sQ [.bool,i64,i64])) ⟨v,sm,fi,tb,ng⟩ (wT (sQ [.bool,i64,i64]) h (BM [.bool,i64,i64] ng (bad,(ss.length:Int),((0:Nat):Int),()))))) (cA (decide (fs.length<=549755813888)) (cA (DT Dy tY su (qG [i64,i64] ⟨ss,fs,⟨v,sm,fi,tb,ng⟩,h,ng,bad⟩ ((fs.length:Int),((0:Nat):Int),()))) (some (cp LF (lo1 Dy tY su (qG [i64,i64] ⟨ss,fs,⟨v,sm,fi,tb,ng⟩,h,ng,bad⟩ ((fs.length:Int),((0:Nat):Int),())))))))=_
 rw[q0.1,q2.1,q2.2,dt hlf]
 rfl
end
def mask(ty az:List Int):Nat->List Int
 |0=>az
 |j+1=>bif decide (ty.getD j 0=127)then(mask ty az j).set j (np .u64 ((mask ty az j).getD j 0) 4294967295)else mask ty az j
theorem DJ(ty az:List Int): ∀ j,(mask ty az j).length=az.length
 |0=>rfl
 |j+1=>by
  show(bif decide (ty.getD j 0=127)then(mask ty az j).set j _ else mask ty az j).length=_
  cases decide (ty.getD j 0=127)
  ·exact DJ ty az j
  ·rw[cond_true,List.length_set];exact DJ ty az j
theorem afi(m:Pw)(f fu:Int)(az ty:List Int)(hl:ty.length=az.length)(hn:az.length<=1099511627776):uQ Fm (cp sR (qG [i64,i64,.cq u64,.cq i64,i64,i64] m (f,fu,az,ty,(ty.length:Int),((0:Nat):Int),()))) 0 (cp so (qG [i64,i64,.cq u64] m (f,fu,mask ty az ty.length,()))):=by
 refine LU ty.length (fun j=>cp sR (qG [i64,i64,.cq u64,.cq i64,i64,i64] m (f,fu,mask ty az j,ty,(ty.length:Int),(j:Int),()))) _ (fun j hj=>?_) ?_
 ·refine(UH m f fu (mask ty az j) ty (ty.length:Int) (j:Int)).trans ?_
  rw[uI hj,show nh (j:Int) (ty.length:Int)=true from qg hj,show nh (j:Int) ((mask ty az j).length:Int)=true from qg (by rw[DJ];omega),Zo (by omega),Int.toNat_natCast]
  show cA true (bif decide (ty.getD j 0=127)then _ else _)=some (Rs.next (cp sR (qG [i64,i64,.cq u64,.cq i64,i64,i64] m (f,fu,(bif decide (ty.getD j 0=127)then(mask ty az j).set j (np .u64 ((mask ty az j).getD j 0) 4294967295)else mask ty az j),ty,(ty.length:Int),((j+1:Nat):Int),()))))
  cases decide (ty.getD j 0=127)<;>rfl
 ·refine(UH m f fu (mask ty az ty.length) ty (ty.length:Int) (ty.length:Int)).trans ?_
  rw[rV (Nat.le_refl _)]
  rfl
end Go.Proofs.Vq

noncomputable section
namespace Go.Proofs.Vq
open Go.Ab Go.Ab.Lf Go.Proofs.Sw
set_option maxRecDepth 100000
def DK(n b:Nat)(l:List Sc):List (den oi):=((List.range n).map Sc.g).map (toC 0)++(l.map (toC (b:Int))++[((15:Int),(0:Int),(0:Int))])
abbrev sA(n o b N:Nat)(l:List Sc):den pn:=((-1:Int),(0:Int),(n:Int),(o:Int),((b - n+N:Nat):Int),DK n b l,[])
theorem NH(xs:List Nat)(lo:Nat->Nat)(h: ∀ i,i<xs.length->lo i=xs.getD i 0): ∀ k,k<=xs.length->run ((List.range k).map Sc.g) [] lo=some ((xs.take k).reverse,lo)
 |0,_=>rfl
 |k+1,hk=>by
  rw[List.range_succ,List.map_append]
  refine(cU _ _ _ _ (NH xs lo h k (by omega))).trans ?_
  show some (lo k::_,lo)=_
  rw[h k (by omega),List.take_add_one,List.getD_eq_getElem?_getD,List.getElem?_eq_getElem (by omega),List.reverse_append]
  rfl
section
variable (g:Cg){xs ys:List Nat}{b N:Nat}{l:List Sc}{nr:Nat->Nat}(hx: ∀ v,v∈xs->v<cN)(hn:xs.length<=b)(hb:b+N<=10000)(hl:l.length<=10000)(EL: ∀ c,c∈l->LQ N c=true)(hr:run l xs.reverse (fun _=>0)=some (ys.reverse,nr))
include hx hn hb hl EL hr
theorem afj(m:Pw)(fu ho de:Int)(NI:List Int)(DP:NI=xs.map (fun(n:Nat)=>(n:Int))++List.replicate (b - xs.length+N) (0:Int)): ∃ pc sx,uQ (BN g) (cp rF (cX (sA xs.length ys.length b N l) ⟨⟨m,fu,ho,de,0⟩,sA xs.length ys.length b N l,((0:Nat):Int),[],NI⟩)) 0
 (cp qo (cy [] ⟨⟨m,fu,ho,de,0⟩,sA xs.length ys.length b N l,pc,ys.map (fun(n:Nat)=>(n:Int)),sx⟩ ())):=by
 obtain⟨f0,Qf⟩: ∃ f0,f0=sA xs.length ys.length b N l:=⟨_,rfl⟩
 rw[<-Qf]
 obtain⟨cs,q8⟩: ∃ cs,cs=f0.2.2.2.2.2.1:=⟨_,rfl⟩
 have AR:cs=DK xs.length b l:=by rw[q8,Qf]
 have hl0:NI.length=b+N:=by rw[DP,List.length_append,List.length_map,List.length_replicate];omega
 have sti: ∀ zs:List Nat,Ap zs.reverse=zs.map (fun(n:Nat)=>(n:Int)):=fun zs=>by unfold Ap;rw[List.reverse_reverse]
 have LV:((List.range xs.length).map Sc.g).length=xs.length:=by rw[List.length_map,List.length_range]
 have hxN: ∀ i,i<xs.length->xs.getD i 0<cN:=fun i hi=>hx _ (by rw[List.getD_eq_getElem?_getD,List.getElem?_eq_getElem hi];exact List.getElem_mem hi)
 have l0: ∀ a,a<b+N->NI.getD (0+a) 0=((if a<xs.length then xs.getD a 0 else 0:Nat):Int):=fun a ha=>by
  rw[Nat.zero_add,DP,List.getD_eq_getElem?_getD]
  by_cases h:a<xs.length
  ·rw[if_pos h,List.getElem?_append_left (by rw[List.length_map];exact h),List.getElem?_map,List.getElem?_eq_getElem h,List.getD_eq_getElem?_getD,List.getElem?_eq_getElem h]
   rfl
  ·rw[if_neg h,List.getElem?_append_right (by rw[List.length_map];omega),List.getElem?_replicate,List.length_map]
   split<;>rfl
 have fin: ∀ sx:List Int,sx.length=b+N->uQ (BN g) (cp rF (cX f0 ⟨⟨m,fu,ho,de,0⟩,f0,((xs.length+l.length:Nat):Int),ys.map (fun(n:Nat)=>(n:Int)),sx⟩)) 0
  (cp qo (cy [] ⟨⟨m,fu,ho,de,0⟩,f0,-1,ys.map (fun(n:Nat)=>(n:Int)),sx⟩ ())):=by
  intro sx _
  have yl:ys.length<=100000:=by
   have: ∀ (l:List Sc) (st:List Nat) (lo:Nat->Nat) (tB:List Nat) (nr:Nat->Nat),run l st lo=some (tB,nr)->tB.length<=st.length+l.length:=by
    intro l
    induction l with
    |nil=>intro st lo tB nr h;cases h;simp
    |cons c l ih=>
     intro st lo tB nr h
     cases c with
     |g a=>have:=ih (lo a::st) lo tB nr h;simp at this ⊢;omega
     |s a=>
      cases st with
      |nil=>cases h
      |cons v st=>have:=ih st _ tB nr h;simp at this ⊢;omega
     |k n=>have:=ih (n::st) lo tB nr h;simp at this ⊢;omega
     |o op=>
      change (match Kk op st with|some st=>run l st lo|none=>none)=some (tB,nr)at h
      cases e:Kk op st with
      |none=>rw[e]at h;cases h
      |some s1=>
       rw[e]at h
       have h1:=ih s1 lo tB nr h
       have h2:=ZH e
       simp at h1 ⊢;omega
   have h:=this l _ _ _ _ hr
   rw[List.length_reverse,List.length_reverse]at h
   omega
  obtain⟨x,hx⟩: ∃ x:xA,x=⟨⟨m,fu,ho,de,0⟩,f0,((xs.length+l.length:Nat):Int),ys.map (fun(n:Nat)=>(n:Int)),sx⟩:=⟨_,rfl⟩
  have vj:x.st.length=ys.length:=by rw[hx];exact List.length_map ..
  have h15:=S15 g x 0 0 ys.length (by rw[hx,Qf]) (by rw[vj];exact Nat.le_refl _) (by rw[vj];omega)
  rw[vj,Nat.sub_self,List.drop_zero]at h15
  have hd:cs.drop (xs.length+l.length)=((15:Int),(0:Int),(0:Int)):: []:=by
   rw[AR]
   unfold DK
   rw[<-List.append_assoc,List.drop_append,List.length_append,List.length_map,LV,List.length_map,Nat.sub_self,List.drop_eq_nil_of_le (by rw[List.length_append,List.length_map,LV,List.length_map];exact Nat.le_refl _)]
   rfl
  have t:=ajJ g (x:=x) (cs:=cs) (by rw[hx];exact q8) (by rw[hx]) (pc:=xs.length+l.length) (by rw[hx]) hd f0 q8 h15
  rw[<-hx]
  refine .more t (.last ?_)
  refine(abD g _ f0 _ _ _ _ cs q8 _ rfl _ rfl _ rfl).trans ?_
  have e:(bif decide (({x with pc:= -1,st:=x.st}:xA).r.err=0)then decide ((0:Int)<=({x with pc:= -1,st:=x.st}:xA).pc)else false)=false:=by
   rw[df (show ¬ (0:Int)<=({x with pc:= -1,st:=x.st}:xA).pc from(by decide: ¬ (0:Int)<= -1))];cases decide (({x with pc:= -1,st:=x.st}:xA).r.err=0)<;>rfl
  rw[e,hx]
  rfl
 have ajY: ∀ lo1:List Int,∃ sx:List Int,lo1.length=NI.length->(∀ a,a<b+N->lo1.getD (0+a) 0=((if a<xs.length then xs.getD a 0 else 0:Nat):Int))->uQ (BN g) (cp rF (cX f0 ⟨⟨m,fu,ho,de,0⟩,f0,((xs.length:Nat):Int),xs.map (fun(n:Nat)=>(n:Int)),lo1⟩)) 0
  (cp qo (cy [] ⟨⟨m,fu,ho,de,0⟩,f0,-1,ys.map (fun(n:Nat)=>(n:Int)),sx⟩ ())):=by
  intro lo1
  by_cases h1:lo1.length=NI.length
  rotate_left
  ·exact⟨[],fun h=>absurd h h1⟩
  by_cases h2: ∀ a,a<b+N->lo1.getD (0+a) 0=((if a<xs.length then xs.getD a 0 else 0:Nat):Int)
  rotate_left
  ·exact⟨[],fun _ h=>absurd h h2⟩
  obtain⟨sx,R⟩:=LS g q8 (b:=b) (N:=N) (by omega) (r:=[((15:Int),(0:Int),(0:Int))]) (q:=fun sx=>cp qo (cy [] ⟨⟨m,fu,ho,de,0⟩,f0,-1,ys.map (fun(n:Nat)=>(n:Int)),sx⟩ ())) l xs.length ⟨⟨m,fu,ho,de,0⟩,f0,((xs.length:Nat):Int),xs.map (fun(n:Nat)=>(n:Int)),lo1⟩ xs.reverse (fun _=>0) ys.reverse nr hr EL
   (fun v hv=>hx v (by simpa using hv)) (fun _ _=>by decide) q8 rfl rfl (by omega) (by
    rw[AR]
    unfold DK
    rw[List.drop_append,List.length_map,LV,Nat.sub_self,List.drop_eq_nil_of_le (by rw[List.length_map,LV];exact Nat.le_refl _)]
    rfl) (sti xs).symm (by rw[List.length_reverse];omega) (by show b+N<=lo1.length;omega) (by omega) (fun a ha=>by
    have:=h2 (b+a) (by omega)
    rw[Nat.zero_add,if_neg (by omega)]at this
    exact this) fun sx hl2 _=>by
    rw[sti]
    exact fin sx (by rw[hl2];show lo1.length=_;omega)
  exact⟨sx,fun _ _=>R⟩
 obtain⟨F,hF⟩:=Classical.axiomOfChoice ajY
 obtain⟨sx,R⟩:=LS g q8 (b:=0) (N:=b+N) (by omega) (r:=l.map (toC (b:Int))++[((15:Int),(0:Int),(0:Int))]) (q:=fun lo1=>cp qo (cy [] ⟨⟨m,fu,ho,de,0⟩,f0,-1,ys.map (fun(n:Nat)=>(n:Int)),F lo1⟩ ())) ((List.range xs.length).map Sc.g) 0 ⟨⟨m,fu,ho,de,0⟩,f0,((0:Nat):Int),[],NI⟩ [] (fun a=>if a<xs.length then xs.getD a 0 else 0) xs.reverse _ (by
  have:=NH xs (fun a=>if a<xs.length then xs.getD a 0 else 0) (fun i hi=>if_pos hi) xs.length (Nat.le_refl _)
  rwa [List.take_of_length_le (Nat.le_refl _)]at this)
  (fun c hc=>by
   obtain⟨i,hi,rfl⟩:=List.mem_map.1 hc
   have:=List.mem_range.1 hi
   show Nat.blt i (b+N)=true
   simp;omega) (fun v hv=>by cases hv) (fun a _=>by
    show(if a<xs.length then xs.getD a 0 else 0)<cN
    split
    ·exact hxN a ‹_›
    ·decide) q8 rfl rfl (by rw[LV];omega) (by rw[AR];rfl) rfl (by rw[LV];simp;omega) (by show 0+(b+N)<=NI.length;omega) (by omega) l0 fun lo1 hl1 hc1=>by
    have:=hF lo1 hl1 hc1
    rw[sti,LV,Nat.zero_add]
    exact this
 exact⟨_,_,R⟩
end
end Go.Proofs.Vq

noncomputable section
namespace Go.Proofs.Vq
open Go.Ab Go.Ab.Lf Go.Proofs.Sw
set_option maxRecDepth 100000
abbrev toI(xs:List Nat):List Int:=xs.map fun(n:Nat)=>(n:Int)
abbrev g1(g:Cg):Cg:=(k73 g,m73 g)
theorem NJ(ty az:List Int)(h: ∀ j,ty.getD j 0≠127): ∀ j,mask ty az j=az
 |0=>rfl
 |j+1=>by
  show(bif decide (ty.getD j 0=127)then(mask ty az j).set j _ else mask ty az j)=az
  rw[df (h j)]
  exact NJ ty az h j
section
variable (g:Cg){xs ys:List Nat}{b N:Nat}{l:List Sc}{nr:Nat->Nat}(hx: ∀ v,v∈xs->v<cN)(hn:xs.length<=b)(hb:b+N<=10000)(hl:l.length<=10000)(EL: ∀ c,c∈l->LQ N c=true)(hr:run l xs.reverse (fun _=>0)=some (ys.reverse,nr))(hy:ys.length<=100000)
include hx hn hb hl EL hr hy
theorem UI(m:Pw)(hm:m.fns=[sA xs.length ys.length b N l])(fu:Int):k73 g (zU [i64,.cq u64] ⟨m,fu,0,0,0⟩ (0,toI xs,()))=true/\m73 g (zU [i64,.cq u64] ⟨m,fu,0,0,0⟩ (0,toI xs,()))=(toI ys,zU [] ⟨m,fu,0,0,0⟩ ()):=by
 obtain⟨pc,sx,r⟩:=afj g hx hn hb hl EL hr m fu 0 1 _ rfl
 obtain⟨f0,Qf⟩: ∃ f0,f0=sA xs.length ys.length b N l:=⟨_,rfl⟩
 rw[<-Qf]at r hm
 obtain⟨k,hk⟩: ∃ k:Nat,k=b - xs.length+N:=⟨_,rfl⟩
 have hfl:(f0.2.2.2.2.1:Int)=(k:Int):=by rw[Qf,hk]
 have hf1:(f0.1:Int)= -1:=by rw[Qf]
 rw[<-hk]at r
 obtain⟨q1,q2⟩:=Fj (f:=BN g) (ti:=rF) (to:=qo) r
 refine nm (ca _) (ca _) ?_
 have e0:app (toI xs) (List.replicate (f0.2.2.2.2.1:Int).toNat (0:Int))=toI xs++List.replicate k 0:=by rw[nD,hfl,Int.toNat_natCast]
 have e:=ar2 g ⟨m,fu,0,0,0⟩ 0 (toI xs) f0 (by rw[hm];rfl) (cL ⟨m,fu,0,1,0⟩ f0 f0 ((0:Nat):Int) [] (toI xs++List.replicate k 0)) (by
  rw[e0]
  show cL ⟨m,fu,0,1,0⟩ f0 f0 0 [] _=cL {(⟨m,fu,0,0,0⟩:Rn)with depth:=nz .i64 0 1} f0 f0 0 [] _
  rw[show nz .i64 0 1=1 from by kernel_rfl]) ⟨⟨m,fu,0,1,0⟩,f0,pc,toI ys,sx⟩ (by rw[q2];rfl)
 refine e.trans ?_
 have lx:(toI xs).length=xs.length:=List.length_map ..
 have ly:(toI ys).length=ys.length:=List.length_map ..
 rw[q1,show nh 0 (m.fns.length:Int)=true by rw[hm];rfl,hf1,hfl,df (show ¬ (0:Int)<= -1 by decide),df (show ¬ (0:Int)=64 by decide),dt (show(toI xs).length<=1099511627776 by rw[lx];omega),dt (rfl:(k:Int)=(k:Int)),dt (show(0:Int)<=(k:Int) by omega),
  show roomy 8 ((toI xs).length+(List.replicate (k:Int).toNat (0:Int)).length)=true from vc (by decide) (by rw[lx,List.length_replicate,Int.toNat_natCast];omega),dt (show(toI ys).length<=1099511627776 by rw[ly];omega)]
 show some (cp Jw (toI ys,zU [] ⟨m,fu,0,cz .i64 1 1,0⟩ ()))=_
 rw[show cz .i64 1 1=0 from by kernel_rfl]
theorem run_seq(m:Pw)(hm:m.fns=[sA xs.length ys.length b N l])(o:Nat)(hs:m.sigs=[(List.replicate xs.length (126:Int),List.replicate o (126:Int))])(afh:m.bad=false):
 k23 (g1 g) (qG [i64,.cq u64,i64] m (0,toI xs,0,()))=true/\m23 (g1 g) (qG [i64,.cq u64,i64] m (0,toI xs,0,()))=(0,0,toI ys,0,qG [] m ()):=by
 obtain⟨c1,c2⟩:=UI g hx hn hb hl EL hr hy m hm 0
 obtain⟨fn,Zl⟩: ∃ fn,fn=sA xs.length ys.length b N l:=⟨_,rfl⟩
 rw[<-Zl]at hm
 obtain⟨ty,hty⟩: ∃ ty,ty=List.replicate xs.length (126:Int):=⟨_,rfl⟩
 rw[<-hty]at hs
 have lx:(toI xs).length=xs.length:=List.length_map ..
 have lty:ty.length=xs.length:=by rw[hty];exact List.length_replicate
 have r:=afi m 0 0 (toI xs) ty (by omega) (by omega)
 rw[NJ ty (toI xs) (fun j=>by
  rw[hty,List.getD_eq_getElem?_getD,List.getElem?_replicate]
  split<;>decide)]at r
 obtain⟨q1,q2⟩:=Fj (f:=Fm) (ti:=sR) (to:=so) r
 have hfi:(fn.2.2.1:Int)=((toI xs).length:Int):=by rw[Zl,lx]
 have hfs:(fn.2.1:Int)=0:=by rw[Zl]
 refine nm (ca _) (ca _) ?_
 have e:=asA (g1 g) m 0 0 (toI xs) fn (by rw[hm];rfl) (ty,List.replicate o (126:Int)) (by rw[hs,hfs];rfl) (qG [i64,i64,.cq u64,.cq i64,i64,i64] m (0,0,toI xs,ty,(ty.length:Int),((0:Nat):Int),())) rfl _ q2.symm (zU [i64,.cq u64] ⟨m,0,0,0,0⟩ (0,toI xs,())) (by show _=_;kernel_rfl) ⟨m,0,0,0,0⟩ (by show _=rnO (m73 g _).2;rw[c2];rfl)
 refine e.trans ?_
 rw[df (show ¬ (0:Int)<0 by decide),hm,show([fn]:List (den pn)).length=1 from rfl,df (show ¬ ((1:Nat):Int)<=0 by decide),hfi,dt (rfl:((toI xs).length:Int)=((toI xs).length:Int)),afh,dt (show(toI xs).length<=1099511627776 by omega),hfs,hs,q1,show(g1 g).1 (zU [i64,.cq u64] ⟨m,0,0,0,0⟩ (0,toI xs,()))=true from c1,show(g1 g).2 (zU [i64,.cq u64] ⟨m,0,0,0,0⟩ (0,toI xs,()))=_ from c2]
 rfl
end
end Go.Proofs.Vq

noncomputable section
namespace Go.Proofs.Vq
open Go.Ab Go.Ab.Lf
set_option maxRecDepth 100000
abbrev tV(l:List Ty):List Ty:=u8::u8::u8::u8::u8::u8::u8::u8::u8::u8::u8::u8::u8::u8::u8::u8::l
abbrev pV:rI:=.ag (Ps [.n .u8,.n .u8,.n .u8,.n .u8,.n .u8,.n .u8,.n .u8,.n .u8,.n .u8,.n .u8,.n .u8,.n .u8,.n .u8,.n .u8,.n .u8,.n .u8])
abbrev cV(l:List Ty)(v:Nat->Int)(r:cf l):cf (tV l):=(v 0,v 1,v 2,v 3,v 4,v 5,v 6,v 7,v 8,v 9,v 10,v 11,v 12,v 13,v 14,v 15,r)
def vO(y:cf (tV [])):Nat->Int
 |0=>y.1
 |1=>y.2.1
 |2=>y.2.2.1
 |3=>y.2.2.2.1
 |4=>y.2.2.2.2.1
 |5=>y.2.2.2.2.2.1
 |6=>y.2.2.2.2.2.2.1
 |7=>y.2.2.2.2.2.2.2.1
 |8=>y.2.2.2.2.2.2.2.2.1
 |9=>y.2.2.2.2.2.2.2.2.2.1
 |10=>y.2.2.2.2.2.2.2.2.2.2.1
 |11=>y.2.2.2.2.2.2.2.2.2.2.2.1
 |12=>y.2.2.2.2.2.2.2.2.2.2.2.2.1
 |13=>y.2.2.2.2.2.2.2.2.2.2.2.2.2.1
 |14=>y.2.2.2.2.2.2.2.2.2.2.2.2.2.2.1
 |15=>y.2.2.2.2.2.2.2.2.2.2.2.2.2.2.2.1
 | _=>0
def qI(v:Nat->Int)(j:Nat):Nat->Int
 |0=>0
 |n+1=>C3 .u64 (qI v j n) (tP .u64 (cb .u64 (v (j+n))) (Int.ofNat (8*n)))
def ZJ(v:Nat->Int)(j n:Nat)(x:Int):Nat->Int:=fun m=>bif Nat.ble j m&&Nat.blt m (j+n)then cb .u8 (px .u64 x (Int.ofNat (8*(m - j))))else v m
def sS(w i:Int):Bool:=(decide (w=8)&&(decide (0<=i)&&decide (i<16)))||((decide (w=16)&&(decide (0<=i)&&decide (i<8)))||((decide (w=32)&&(decide (0<=i)&&decide (i<4)))||(decide (w=64)&&(decide (0<=i)&&decide (i<2)))))
def afk(w i:Int):nK:=pL (Ps [pV,.li .i64 w,.li .i64 i]) [] (Ps [.n .u64]) (tV []) [u64] fun x=>.ok (qI (vO x) (i.toNat*(w.toNat / 8)) (w.toNat / 8),())
def afl(w i:Int):nK:=pL (Ps [pV,.li .i64 w,.li .i64 i,.n .u64]) [] (Ps [pV]) (tV [u64]) (tV []) fun x=>.ok (cV [] (ZJ (vO (x.1,x.2.1,x.2.2.1,x.2.2.2.1,x.2.2.2.2.1,x.2.2.2.2.2.1,x.2.2.2.2.2.2.1,x.2.2.2.2.2.2.2.1,x.2.2.2.2.2.2.2.2.1,x.2.2.2.2.2.2.2.2.2.1,x.2.2.2.2.2.2.2.2.2.2.1,x.2.2.2.2.2.2.2.2.2.2.2.1,x.2.2.2.2.2.2.2.2.2.2.2.2.1,x.2.2.2.2.2.2.2.2.2.2.2.2.2.1,x.2.2.2.2.2.2.2.2.2.2.2.2.2.2.1,x.2.2.2.2.2.2.2.2.2.2.2.2.2.2.2.1,())) (i.toNat*(w.toNat / 8)) (w.toNat / 8) (x.2.2.2.2.2.2.2.2.2.2.2.2.2.2.2.2.1)) ())
theorem FF{p:Int->Int->Prop}{w i:Int}(h:sS w i=true)(H:p 8 0/\p 8 1/\p 8 2/\p 8 3/\p 8 4/\p 8 5/\p 8 6/\p 8 7/\p 8 8/\p 8 9/\p 8 10/\p 8 11/\p 8 12/\p 8 13/\p 8 14/\p 8 15/\p 16 0/\p 16 1/\p 16 2/\p 16 3/\p 16 4/\p 16 5/\p 16 6/\p 16 7/\p 32 0/\p 32 1/\p 32 2/\p 32 3/\p 64 0/\p 64 1):p w i:=by
 unfold sS at h
 simp only[Bool.or_eq_true,Bool.and_eq_true,decide_eq_true_eq]at h
 obtain⟨asD,asE,asF,asG,asH,asI,asJ,asK,asM,asN,ajZ,aj0,aj1,aj2,aj3,aj4,aj5,aj6,aj7,aj8,aj9,aj',aka,akb,akc,akd,ake,akf,akg,akh⟩:=H
 rcases h with⟨rfl,h1,h2⟩|⟨rfl,h1,h2⟩|⟨rfl,h1,h2⟩|⟨rfl,h1,h2⟩
 ·obtain rfl|rfl|rfl|rfl|rfl|rfl|rfl|rfl|rfl|rfl|rfl|rfl|rfl|rfl|rfl|rfl:i=0∨i=1∨i=2∨i=3∨i=4∨i=5∨i=6∨i=7∨i=8∨i=9∨i=10∨i=11∨i=12∨i=13∨i=14∨i=15:=by omega
  ·exact asD
  ·exact asE
  ·exact asF
  ·exact asG
  ·exact asH
  ·exact asI
  ·exact asJ
  ·exact asK
  ·exact asM
  ·exact asN
  ·exact ajZ
  ·exact aj0
  ·exact aj1
  ·exact aj2
  ·exact aj3
  ·exact aj4
 ·obtain rfl|rfl|rfl|rfl|rfl|rfl|rfl|rfl:i=0∨i=1∨i=2∨i=3∨i=4∨i=5∨i=6∨i=7:=by omega
  ·exact aj5
  ·exact aj6
  ·exact aj7
  ·exact aj8
  ·exact aj9
  ·exact aj'
  ·exact aka
  ·exact akb
 ·obtain rfl|rfl|rfl|rfl:i=0∨i=1∨i=2∨i=3:=by omega
  ·exact akc
  ·exact akd
  ·exact ake
  ·exact akf
 ·obtain rfl|rfl:i=0∨i=1:=by omega
  ·exact akg
  ·exact akh
theorem ZK{cr:cu}(W:WQ cr){w i:Int}(h:sS w i=true):(afk w i).Ok 150 cr:=by
 have key: ∀ w i:Int,(∀ v0 v1 v2 v3 v4 v5 v6 v7 v8 v9 v10 v11 v12 LW LX LY:Int,(q9 (Ps [pV,.li .i64 w,.li .i64 i]) [] (Ps [.n .u64]) (fun _=>none) Tryz.aie 12 (qh [] 12) (cp (tV []) (v0,v1,v2,v3,v4,v5,v6,v7,v8,v9,v10,v11,v12,LW,LX,LY,()))).val=some (cp [u64] (qI (vO (v0,v1,v2,v3,v4,v5,v6,v7,v8,v9,v10,v11,v12,LW,LX,LY,())) (i.toNat*(w.toNat / 8)) (w.toNat / 8),())))->(afk w i).Ok 150 cr:=by
  intro w i e
  refine tU (W.in .nil 12) (W.st 150 _ rfl) rfl (cF _) (m:=12) rfl ?_
  rintro⟨v0,v1,v2,v3,v4,v5,v6,v7,v8,v9,v10,v11,v12,LW,LX,LY,⟨⟩⟩ q h
  cases h
  exact e v0 v1 v2 v3 v4 v5 v6 v7 v8 v9 v10 v11 v12 LW LX LY
 refine FF (p:=fun w i=>(afk w i).Ok 150 cr) h ?_
 refine⟨?_,?_,?_,?_,?_,?_,?_,?_,?_,?_,?_,?_,?_,?_,?_,?_,?_,?_,?_,?_,?_,?_,?_,?_,?_,?_,?_,?_,?_,?_⟩<;>(refine key _ _ ?_;intro v0 v1 v2 v3 v4 v5 v6 v7 v8 v9 v10 v11 v12 LW LX LY;kernel_rfl)
theorem ZL{cr:cu}(W:WQ cr){w i:Int}(h:sS w i=true):(afl w i).Ok 249 cr:=by
 have key: ∀ w i:Int,(∀ v0 v1 v2 v3 v4 v5 v6 v7 v8 v9 v10 v11 v12 LW LX LY x:Int,(q9 (Ps [pV,.li .i64 w,.li .i64 i,.n .u64]) [] (Ps [pV]) (fun _=>none) Tryz.aip 12 (qh [] 12) (cp (tV [u64]) (v0,v1,v2,v3,v4,v5,v6,v7,v8,v9,v10,v11,v12,LW,LX,LY,x,()))).val=some (cp (tV []) (cV [] (ZJ (vO (v0,v1,v2,v3,v4,v5,v6,v7,v8,v9,v10,v11,v12,LW,LX,LY,())) (i.toNat*(w.toNat / 8)) (w.toNat / 8) x) ())))->(afl w i).Ok 249 cr:=by
  intro w i e
  refine tU (W.in .nil 12) (W.st 249 _ rfl) rfl (cF _) (m:=12) rfl ?_
  rintro⟨v0,v1,v2,v3,v4,v5,v6,v7,v8,v9,v10,v11,v12,LW,LX,LY,x,⟨⟩⟩ q h
  cases h
  exact e v0 v1 v2 v3 v4 v5 v6 v7 v8 v9 v10 v11 v12 LW LX LY x
 refine FF (p:=fun w i=>(afl w i).Ok 249 cr) h ?_
 refine⟨?_,?_,?_,?_,?_,?_,?_,?_,?_,?_,?_,?_,?_,?_,?_,?_,?_,?_,?_,?_,?_,?_,?_,?_,?_,?_,?_,?_,?_,?_⟩<;>(refine key _ _ ?_;intro v0 v1 v2 v3 v4 v5 v6 v7 v8 v9 v10 v11 v12 LW LX LY x;kernel_rfl)
theorem NK{E:En}{N m:Nat}{k:IntKind}{x:Int}{a:AV}(h:V E N (.c m (.int k) x) a):V E N (.i k x) a:=by
 cases h with
 |c e _=>
  have e:[a]=[AV.int k x]:=e
  injection e with e
  subst e
  exact .i
theorem Hf{P:rI}{ptr:List Nat}{Q:rI}{ti to:List Ty}{g:cf ti->Lf.T (cf to)}{pl q:List Pl}(h:((pL P ptr Q ti to g).f pl).val=some q): ∃ x y,pl=cp ti x/\(g x).val=some y/\q=cp to y:=by
 change (match toT ti pl with|some x=>(g x).map (cp to)|none=>.bad:Lf.T (List Pl)).val=some q at h
 split at h
 ·rename_i x hx
  obtain⟨y,h1,h2⟩:=T.GO h
  exact⟨x,y,rR hx,h1,h2⟩
 ·cases h
def PH:nK:=pL (Ps [pV,.n .i64,.n .i64]) [] (Ps [.n .u64]) (tV [i64,i64]) [u64] fun x=>.ck (sS (x.2.2.2.2.2.2.2.2.2.2.2.2.2.2.2.2.1) (x.2.2.2.2.2.2.2.2.2.2.2.2.2.2.2.2.2.1)) (.ok (qI (vO (x.1,x.2.1,x.2.2.1,x.2.2.2.1,x.2.2.2.2.1,x.2.2.2.2.2.1,x.2.2.2.2.2.2.1,x.2.2.2.2.2.2.2.1,x.2.2.2.2.2.2.2.2.1,x.2.2.2.2.2.2.2.2.2.1,x.2.2.2.2.2.2.2.2.2.2.1,x.2.2.2.2.2.2.2.2.2.2.2.1,x.2.2.2.2.2.2.2.2.2.2.2.2.1,x.2.2.2.2.2.2.2.2.2.2.2.2.2.1,x.2.2.2.2.2.2.2.2.2.2.2.2.2.2.1,x.2.2.2.2.2.2.2.2.2.2.2.2.2.2.2.1,())) ((x.2.2.2.2.2.2.2.2.2.2.2.2.2.2.2.2.2.1:Int).toNat*((x.2.2.2.2.2.2.2.2.2.2.2.2.2.2.2.2.1:Int).toNat / 8)) ((x.2.2.2.2.2.2.2.2.2.2.2.2.2.2.2.2.1:Int).toNat / 8),()))
theorem z7{cr:cu}(W:WQ cr):PH.Ok 150 cr:=by
 intro pl q args H0 E0 h az hf hP hv hS
 obtain⟨x,y,hx,h1,h2⟩:=Hf hf
 ·subst hx
  obtain⟨v0,v1,v2,v3,v4,v5,v6,v7,v8,v9,v10,v11,v12,LW,LX,LY,w,i,⟨⟩⟩:=x
  obtain⟨hl,h1⟩:=Lf.T.cG h1
  cases h1
  subst h2
  cases hP
  cases hv with
  |cons ka kr=>cases kr with
   |cons kw kr=>cases kr with
    |cons ki kr=>
     cases kr
     exact ZK W hl (cp (tV []) (v0,v1,v2,v3,v4,v5,v6,v7,v8,v9,v10,v11,v12,LW,LX,LY,())) _ _ _ E0 h _ (by rfl) (by rfl) (.cons ka (.cons (NK kw) (.cons (NK ki) .nil))) hS
def UJ:nK:=pL (Ps [pV,.n .i64,.n .i64,.n .u64]) [] (Ps [pV]) (tV [i64,i64,u64]) (tV []) fun x=>.ck (sS (x.2.2.2.2.2.2.2.2.2.2.2.2.2.2.2.2.1) (x.2.2.2.2.2.2.2.2.2.2.2.2.2.2.2.2.2.1)) (.ok (cV [] (ZJ (vO (x.1,x.2.1,x.2.2.1,x.2.2.2.1,x.2.2.2.2.1,x.2.2.2.2.2.1,x.2.2.2.2.2.2.1,x.2.2.2.2.2.2.2.1,x.2.2.2.2.2.2.2.2.1,x.2.2.2.2.2.2.2.2.2.1,x.2.2.2.2.2.2.2.2.2.2.1,x.2.2.2.2.2.2.2.2.2.2.2.1,x.2.2.2.2.2.2.2.2.2.2.2.2.1,x.2.2.2.2.2.2.2.2.2.2.2.2.2.1,x.2.2.2.2.2.2.2.2.2.2.2.2.2.2.1,x.2.2.2.2.2.2.2.2.2.2.2.2.2.2.2.1,())) ((x.2.2.2.2.2.2.2.2.2.2.2.2.2.2.2.2.2.1:Int).toNat*((x.2.2.2.2.2.2.2.2.2.2.2.2.2.2.2.2.1:Int).toNat / 8)) ((x.2.2.2.2.2.2.2.2.2.2.2.2.2.2.2.2.1:Int).toNat / 8) (x.2.2.2.2.2.2.2.2.2.2.2.2.2.2.2.2.2.2.1)) ()))
theorem Cm{cr:cu}(W:WQ cr):UJ.Ok 249 cr:=by
 intro pl q args H0 E0 h az hf hP hv hS
 obtain⟨x,y,hx,h1,h2⟩:=Hf hf
 ·subst hx
  obtain⟨v0,v1,v2,v3,v4,v5,v6,v7,v8,v9,v10,v11,v12,LW,LX,LY,w,i,z,⟨⟩⟩:=x
  obtain⟨hl,h1⟩:=Lf.T.cG h1
  cases h1
  subst h2
  cases hP
  cases hv with
  |cons ka kr=>cases kr with
   |cons kw kr=>cases kr with
    |cons ki kr=>
     exact ZL W hl (cp (tV [u64]) (v0,v1,v2,v3,v4,v5,v6,v7,v8,v9,v10,v11,v12,LW,LX,LY,z,())) _ _ _ E0 h _ (by rfl) (by rfl) (.cons ka (.cons (NK kw) (.cons (NK ki) kr))) hS
end Go.Proofs.Vq

noncomputable section
namespace Go.Proofs.Vq
open Go.Ab Go.Ab.Lf
set_option maxRecDepth 100000
abbrev pU:rI:=(Ps [.n .u8,.n .u8,.n .u8,.n .u8,.n .u8,.n .u8,.n .u8,.n .u8,.n .u8,.n .u8,.n .u8,.n .u8,.n .u8,.n .u8,.n .u8,.n .u8])
abbrev JQ:List Ty:=[i64]
abbrev NL:List Ty:=[i64]
def aki:List (Nat×nK):=[]
theorem ZM{cr:cu}(W:WQ cr):n9 cr aki:=.nil
def t246(x:cf JQ):Lf.T (List Pl):=q9 (Ps [.n .i64]) [] (Ps [.n .i64]) (fun _=>none) Tryz.ain 3 (qh aki 3) (cp JQ x)
def JR(x:cf JQ):Bool:=cO (oy NL (t246 x))
def JS(x:cf JQ):cf NL:=cO (nA NL (t246 x))
def LZ:nK:=pL (Ps [.n .i64]) [] (Ps [.n .i64]) JQ NL fun x=>.ck (JR x) (.ok (JS x))
theorem xG{cr:cu}(W:WQ cr):LZ.Ok 246 cr:=
 cZ (W.in (ZM W) 3) (W.st 246 _ rfl) rfl (cF _) (m:=3) rfl (fun _=>ca _) (fun _=>ca _)
abbrev JT:List Ty:=[i64]
abbrev vY:List Ty:=[i64,i64]
def akj:List (Nat×nK):=[]
theorem ZN{cr:cu}(W:WQ cr):n9 cr akj:=.nil
def t250(x:cf JT):Lf.T (List Pl):=q9 (Ps [.n .i64]) [] (Ps [.tu (Ps [.n .i64,.n .i64])]) (fun _=>none) Tryz.aiq 3 (qh akj 3) (cp JT x)
def BO(x:cf JT):Bool:=cO (oy vY (t250 x))
def BP(x:cf JT):cf vY:=cO (nA vY (t250 x))
def ZO:nK:=pL (Ps [.n .i64]) [] (Ps [.tu (Ps [.n .i64,.n .i64])]) JT vY fun x=>.ck (BO x) (.ok (BP x))
theorem Hg{cr:cu}(W:WQ cr):ZO.Ok 250 cr:=
 cZ (W.in (ZN W) 3) (W.st 250 _ rfl) rfl (cF _) (m:=3) rfl (fun _=>ca _) (fun _=>ca _)
abbrev JU:List Ty:=[i64,i64,u64,u64,i64,i64]
abbrev NM:List Ty:=[u64]
def akk:List (Nat×nK):=[]
theorem ZP{cr:cu}(W:WQ cr):n9 cr akk:=.nil
def t253(x:cf JU):Lf.T (List Pl):=q9 (Ps [.n .i64,.n .i64,.n .u64,.n .u64,.n .i64,.n .i64]) [] (Ps [.n .u64]) (fun _=>none) Tryz.air 3 (qh akk 3) (cp JU x)
def afm(x:cf JU):Bool:=cO (oy NM (t253 x))
def afn(x:cf JU):cf NM:=cO (nA NM (t253 x))
def akl:nK:=pL (Ps [.n .i64,.n .i64,.n .u64,.n .u64,.n .i64,.n .i64]) [] (Ps [.n .u64]) JU NM fun x=>.ck (afm x) (.ok (afn x))
theorem ZQ{cr:cu}(W:WQ cr):akl.Ok 253 cr:=
 cZ (W.in (ZP W) 3) (W.st 253 _ rfl) rfl (cF _) (m:=3) rfl (fun _=>ca _) (fun _=>ca _)
abbrev JV:List Ty:=[i64]
abbrev DL:List Ty:=[i64,i64]
def akm:List (Nat×nK):=[]
theorem ZR{cr:cu}(W:WQ cr):n9 cr akm:=.nil
def t254(x:cf JV):Lf.T (List Pl):=q9 (Ps [.n .i64]) [] (Ps [.tu (Ps [.n .i64,.n .i64])]) (fun _=>none) Tryz.ais 3 (qh akm 3) (cp JV x)
def UK(x:cf JV):Bool:=cO (oy DL (t254 x))
def UL(x:cf JV):cf DL:=cO (nA DL (t254 x))
def akn:nK:=pL (Ps [.n .i64]) [] (Ps [.tu (Ps [.n .i64,.n .i64])]) JV DL fun x=>.ck (UK x) (.ok (UL x))
theorem ZS{cr:cu}(W:WQ cr):akn.Ok 254 cr:=
 cZ (W.in (ZR W) 3) (W.st 254 _ rfl) rfl (cF _) (m:=3) rfl (fun _=>ca _) (fun _=>ca _)
abbrev JW:List Ty:=[i64,i64,i64]
abbrev NN:List Ty:=[.bool]
def ako:List (Nat×nK):=[]
theorem ZT{cr:cu}(W:WQ cr):n9 cr ako:=.nil
def t255(x:cf JW):Lf.T (List Pl):=q9 (Ps [.n .i64,.n .i64,.n .i64]) [] (Ps [.bo]) (fun _=>none) Tryz.ait 3 (qh ako 3) (cp JW x)
def ZU(x:cf JW):Bool:=cO (oy NN (t255 x))
def ZV(x:cf JW):cf NN:=cO (nA NN (t255 x))
def akp:nK:=pL (Ps [.n .i64,.n .i64,.n .i64]) [] (Ps [.bo]) JW NN fun x=>.ck (ZU x) (.ok (ZV x))
theorem ZW{cr:cu}(W:WQ cr):akp.Ok 255 cr:=
 cZ (W.in (ZT W) 3) (W.st 255 _ rfl) rfl (cF _) (m:=3) rfl (fun _=>ca _) (fun _=>ca _)
abbrev FG:List Ty:=[u8,u8,u8,u8,u8,u8,u8,u8,u8,u8,u8,u8,u8,u8,u8,u8,i64,i64]
abbrev FH:List Ty:=[i64]
def akq:List (Nat×nK):=[(150,PH),(246,LZ)]
theorem ZX{cr:cu}(W:WQ cr):n9 cr akq:=(.cons (z7 W) (.cons (xG W) .nil))
def t247(x:cf FG):Lf.T (List Pl):=q9 (Ps [.ag pU,.n .i64,.n .i64]) [] (Ps [.n .i64]) (fun _=>none) Tryz.aio 3 (qh akq 3) (cp FG x)
def Em(x:cf FG):Bool:=cO (oy FH (t247 x))
def z8(x:cf FG):cf FH:=cO (nA FH (t247 x))
def PJ:nK:=pL (Ps [.ag pU,.n .i64,.n .i64]) [] (Ps [.n .i64]) FG FH fun x=>.ck (Em x) (.ok (z8 x))
theorem Aa{cr:cu}(W:WQ cr):PJ.Ok 247 cr:=
 cZ (W.in (ZX W) 3) (W.st 247 _ rfl) rfl (cF _) (m:=3) rfl (fun _=>ca _) (fun _=>ca _)
abbrev rX:List Ty:=[u8,u8,u8,u8,u8,u8,u8,u8,u8,u8,u8,u8,u8,u8,u8,u8,u8,u8,u8,u8,u8,u8,u8,u8,u8,u8,u8,u8,u8,u8,u8,u8,u8,u8,u8,u8,u8,u8,u8,u8,u8,u8,u8,u8,u8,u8,u8,u8,i64,i64,i64,u8,u8,u8,u8,u8,u8,u8,u8,u8,u8,u8,u8,u8,u8,u8,u8,i64,i64]
abbrev qY:List Ty:=[u8,u8,u8,u8,u8,u8,u8,u8,u8,u8,u8,u8,u8,u8,u8,u8,i64,u8,u8,u8,u8,u8,u8,u8,u8,u8,u8,u8,u8,u8,u8,u8,u8]
def Hh:Am:=⟨0,xN Tryz.aee.code 0,[4,5,6,7,8,9,10,29,30],(Ps [.pt 0 pU,.pt 0 pU,.pt 0 pU,.n .i64,.n .i64,.n .i64,.pt 0 pU,.n .i64,.n .i64]),[⟨.Ef,[6,7,10],(Ps [.pt 0 pU,.n .i64,.pt 0 pU])⟩]⟩
def UM:List (Nat×nK):=[(150,PH),(247,PJ),(253,akl),(249,UJ)]
theorem PK{cr:cu}(W:WQ cr):n9 cr UM:=(.cons (z7 W) (.cons (Aa W) (.cons (ZQ W) (.cons (Cm W) .nil))))
def yG:List Pl->Lf.T Rs:=Hh.step (fun _=>none) (qh UM 3) 3
def UN:qV:=Eg Hh yG rX qY
theorem PL{cr:cu}(W:WQ cr):rQ Rx.w UN (fun n d=>sF (cr n d) n (.bl 0 (.lp Hh.body))):=tf (W.in (PK W) 3) (cF _) (m:=3) rX qY
def asO:Nat->Option qV:=Je [(0,UN)]
abbrev FI:List Ty:=[i64,u8,u8,u8,u8,u8,u8,u8,u8,u8,u8,u8,u8,u8,u8,u8,u8,u8,u8,u8,u8,u8,u8,u8,u8,u8,u8,u8,u8,u8,u8,u8,u8]
abbrev Ac:List Ty:=[u8,u8,u8,u8,u8,u8,u8,u8,u8,u8,u8,u8,u8,u8,u8,u8,i64]
def akr:List (Nat×nK):=[(246,LZ),(250,ZO)]
theorem ZY{cr:cu}(W:WQ cr):n9 cr akr:=(.cons (xG W) (.cons (Hg W) .nil))
def t157(x:cf FI):Lf.T (List Pl):=q9 (Ps [.n .i64,.ag pU,.ag pU]) [] (Ps [.tu (Ps [.ag pU,.n .i64])]) asO Tryz.aee 3 (qh akr 3) (cp FI x)
def DM(x:cf FI):Bool:=cO (oy Ac (t157 x))
def Ad(x:cf FI):cf Ac:=cO (nA Ac (t157 x))
def asP:nK:=pL (Ps [.n .i64,.ag pU,.ag pU]) [] (Ps [.tu (Ps [.ag pU,.n .i64])]) FI Ac fun x=>.ck (DM x) (.ok (Ad x))
theorem ZZ{cr:cu}(W:WQ cr):asP.Ok 157 cr:=
 cZ (W.in (ZY W) 3) (W.st 157 _ rfl) rfl (vD.xx (.cons (b:=Hh.body) (by kernel_rfl) (PL W) .nil)) (m:=3) rfl (fun _=>ca _) (fun _=>ca _)
abbrev rY:List Ty:=[u32,u8,u8,u8,u8,u8,u8,u8,u8,u8,u8,u8,u8,u8,u8,u8,u8,u8,u8,u8,u8,u8,u8,u8,u8,u8,u8,u8,u8,u8,u8,u8,u8,i64,i64,i64,i64,i64]
abbrev qZ:List Ty:=[u8,u8,u8,u8,u8,u8,u8,u8,u8,u8,u8,u8,u8,u8,u8,u8,u8,u8,u8,u8,u8,u8,u8,u8,u8,u8,u8,u8,u8,u8,u8,u8,i64]
def Hi:Am:=⟨0,xN Tryz.aed.code 0,[2,4,6,7,8,9,33,34],(Ps [.n .u32,.pt 0 pU,.pt 0 pU,.n .i64,.n .i64,.n .i64,.n .i64,.n .i64]),[⟨.Ef,[4,6,7],(Ps [.pt 0 pU,.pt 0 pU,.n .i64])⟩]⟩
def UO:List (Nat×nK):=[(150,PH),(247,PJ),(249,UJ)]
theorem PM{cr:cu}(W:WQ cr):n9 cr UO:=(.cons (z7 W) (.cons (Aa W) (.cons (Cm W) .nil)))
def yH:List Pl->Lf.T Rs:=Hi.step (fun _=>none) (qh UO 3) 3
def UP:qV:=Eg Hi yH rY qZ
theorem PN{cr:cu}(W:WQ cr):rQ Rx.w UP (fun n d=>sF (cr n d) n (.bl 0 (.lp Hi.body))):=tf (W.in (PM W) 3) (cF _) (m:=3) rY qZ
def asQ:Nat->Option qV:=Je [(0,UP)]
abbrev FJ:List Ty:=[i64,u8,u8,u8,u8,u8,u8,u8,u8,u8,u8,u8,u8,u8,u8,u8,u8,u32]
abbrev Bn:List Ty:=[u8,u8,u8,u8,u8,u8,u8,u8,u8,u8,u8,u8,u8,u8,u8,u8,i64]
def aks:List (Nat×nK):=[(246,LZ),(250,ZO)]
theorem Z0{cr:cu}(W:WQ cr):n9 cr aks:=(.cons (xG W) (.cons (Hg W) .nil))
def t156(x:cf FJ):Lf.T (List Pl):=q9 (Ps [.n .i64,.ag pU,.n .u32]) [] (Ps [.tu (Ps [.ag pU,.n .i64])]) asQ Tryz.aed 3 (qh aks 3) (cp FJ x)
def L1(x:cf FJ):Bool:=cO (oy Bn (t156 x))
def Eo(x:cf FJ):cf Bn:=cO (nA Bn (t156 x))
def asR:nK:=pL (Ps [.n .i64,.ag pU,.n .u32]) [] (Ps [.tu (Ps [.ag pU,.n .i64])]) FJ Bn fun x=>.ck (L1 x) (.ok (Eo x))
theorem Z1{cr:cu}(W:WQ cr):asR.Ok 156 cr:=
 cZ (W.in (Z0 W) 3) (W.st 156 _ rfl) rfl (vD.xx (.cons (b:=Hi.body) (by kernel_rfl) (PN W) .nil)) (m:=3) rfl (fun _=>ca _) (fun _=>ca _)
abbrev rZ:List Ty:=[u8,u8,u8,u8,u8,u8,u8,u8,u8,u8,u8,u8,u8,u8,u8,u8,u8,u8,u8,u8,u8,u8,u8,u8,u8,u8,u8,u8,u8,u8,u8,u8,i64,i64,i64,i64,i64]
abbrev q5:List Ty:=[u8,u8,u8,u8,u8,u8,u8,u8,u8,u8,u8,u8,u8,u8,u8,u8,u8,u8,u8,u8,u8,u8,u8,u8,u8,u8,u8,u8,u8,u8,u8,u8,i64]
def Hj:Am:=⟨0,xN Tryz.aec.code 0,[3,4,5,6,7,23,24],(Ps [.pt 0 pU,.pt 0 pU,.n .i64,.n .i64,.n .i64,.n .i64,.n .i64]),[⟨.Ef,[3,4,5],(Ps [.pt 0 pU,.pt 0 pU,.n .i64])⟩]⟩
def UQ:List (Nat×nK):=[(54,s54),(150,PH),(247,PJ),(249,UJ)]
theorem PQ{cr:cu}(W:WQ cr):n9 cr UQ:=(.cons (TB W) (.cons (z7 W) (.cons (Aa W) (.cons (Cm W) .nil))))
def yI:List Pl->Lf.T Rs:=Hj.step (fun _=>none) (qh UQ 3) 3
def UR:qV:=Eg Hj yI rZ q5
theorem PR{cr:cu}(W:WQ cr):rQ Rx.w UR (fun n d=>sF (cr n d) n (.bl 0 (.lp Hj.body))):=tf (W.in (PQ W) 3) (cF _) (m:=3) rZ q5
def asS:Nat->Option qV:=Je [(0,UR)]
abbrev FK:List Ty:=[i64,u8,u8,u8,u8,u8,u8,u8,u8,u8,u8,u8,u8,u8,u8,u8,u8]
abbrev Bo:List Ty:=[u8,u8,u8,u8,u8,u8,u8,u8,u8,u8,u8,u8,u8,u8,u8,u8,i64]
def akt:List (Nat×nK):=[(246,LZ),(250,ZO)]
theorem Z2{cr:cu}(W:WQ cr):n9 cr akt:=(.cons (xG W) (.cons (Hg W) .nil))
def t154(x:cf FK):Lf.T (List Pl):=q9 (Ps [.n .i64,.ag pU]) [] (Ps [.tu (Ps [.ag pU,.n .i64])]) asS Tryz.aec 3 (qh akt 3) (cp FK x)
def L2(x:cf FK):Bool:=cO (oy Bo (t154 x))
def Ep(x:cf FK):cf Bo:=cO (nA Bo (t154 x))
def asU:nK:=pL (Ps [.n .i64,.ag pU]) [] (Ps [.tu (Ps [.ag pU,.n .i64])]) FK Bo fun x=>.ck (L2 x) (.ok (Ep x))
theorem Z3{cr:cu}(W:WQ cr):asU.Ok 154 cr:=
 cZ (W.in (Z2 W) 3) (W.st 154 _ rfl) rfl (vD.xx (.cons (b:=Hj.body) (by kernel_rfl) (PR W) .nil)) (m:=3) rfl (fun _=>ca _) (fun _=>ca _)
abbrev r5:List Ty:=[u8,u8,u8,u8,u8,u8,u8,u8,u8,u8,u8,u8,u8,u8,u8,u8,u8,u8,u8,u8,u8,u8,u8,u8,u8,u8,u8,u8,u8,u8,u8,u8,u8,u8,u8,u8,u8,u8,u8,u8,u8,u8,u8,u8,u8,u8,u8,u8,i64,i64,i64,u8,u8,u8,u8,u8,u8,u8,u8,u8,u8,u8,u8,u8,u8,u8,u8,i64,i64]
abbrev q6:List Ty:=[u8,u8,u8,u8,u8,u8,u8,u8,u8,u8,u8,u8,u8,u8,u8,u8,i64,u8,u8,u8,u8,u8,u8,u8,u8,u8,u8,u8,u8,u8,u8,u8,u8]
def Hk:Am:=⟨0,xN Tryz.aef.code 0,[4,5,6,7,8,9,10,21,22],(Ps [.pt 0 pU,.pt 0 pU,.pt 0 pU,.n .i64,.n .i64,.n .i64,.pt 0 pU,.n .i64,.n .i64]),[⟨.Ef,[6,7,10],(Ps [.pt 0 pU,.n .i64,.pt 0 pU])⟩]⟩
def US:List (Nat×nK):=[(247,PJ),(255,akp),(249,UJ)]
theorem PS{cr:cu}(W:WQ cr):n9 cr US:=(.cons (Aa W) (.cons (ZW W) (.cons (Cm W) .nil)))
def yJ:List Pl->Lf.T Rs:=Hk.step (fun _=>none) (qh US 3) 3
def UT:qV:=Eg Hk yJ r5 q6
theorem PT{cr:cu}(W:WQ cr):rQ Rx.w UT (fun n d=>sF (cr n d) n (.bl 0 (.lp Hk.body))):=tf (W.in (PS W) 3) (cF _) (m:=3) r5 q6
def asV:Nat->Option qV:=Je [(0,UT)]
abbrev FL:List Ty:=[i64,u8,u8,u8,u8,u8,u8,u8,u8,u8,u8,u8,u8,u8,u8,u8,u8,u8,u8,u8,u8,u8,u8,u8,u8,u8,u8,u8,u8,u8,u8,u8,u8]
abbrev Bp:List Ty:=[u8,u8,u8,u8,u8,u8,u8,u8,u8,u8,u8,u8,u8,u8,u8,u8,i64]
def aku:List (Nat×nK):=[(246,LZ),(254,akn)]
theorem Z4{cr:cu}(W:WQ cr):n9 cr aku:=(.cons (xG W) (.cons (ZS W) .nil))
def t158(x:cf FL):Lf.T (List Pl):=q9 (Ps [.n .i64,.ag pU,.ag pU]) [] (Ps [.tu (Ps [.ag pU,.n .i64])]) asV Tryz.aef 3 (qh aku 3) (cp FL x)
def L3(x:cf FL):Bool:=cO (oy Bp (t158 x))
def Er(x:cf FL):cf Bp:=cO (nA Bp (t158 x))
def asW:nK:=pL (Ps [.n .i64,.ag pU,.ag pU]) [] (Ps [.tu (Ps [.ag pU,.n .i64])]) FL Bp fun x=>.ck (L3 x) (.ok (Er x))
theorem Z5{cr:cu}(W:WQ cr):asW.Ok 158 cr:=
 cZ (W.in (Z4 W) 3) (W.st 158 _ rfl) rfl (vD.xx (.cons (b:=Hk.body) (by kernel_rfl) (PT W) .nil)) (m:=3) rfl (fun _=>ca _) (fun _=>ca _)
abbrev qp:List Ty:=[u8,u8,u8,u8,u8,u8,u8,u8,u8,u8,u8,u8,u8,u8,u8,u8,u32,i64,i64,i64,u32,u32,i64,i64]
abbrev pA:List Ty:=[u32,i64,i64,u32,u32]
def Hl:Am:=⟨0,xN Tryz.aeb.code 0,[3,4,5,6,7,8,9,39,40],(Ps [.pt 0 pU,.n .u32,.n .i64,.n .i64,.n .i64,.n .u32,.n .u32,.n .i64,.n .i64]),[⟨.Ef,[4,5,6,8,9],(Ps [.n .u32,.n .i64,.n .i64,.n .u32,.n .u32])⟩]⟩
def UU:List (Nat×nK):=[(247,PJ),(150,PH)]
theorem PU{cr:cu}(W:WQ cr):n9 cr UU:=(.cons (Aa W) (.cons (z7 W) .nil))
def yK:List Pl->Lf.T Rs:=Hl.step (fun _=>none) (qh UU 3) 3
def UW:qV:=Eg Hl yK qp pA
theorem PV{cr:cu}(W:WQ cr):rQ Rx.w UW (fun n d=>sF (cr n d) n (.bl 0 (.lp Hl.body))):=tf (W.in (PU W) 3) (cF _) (m:=3) qp pA
def asX:Nat->Option qV:=Je [(0,UW)]
abbrev FM:List Ty:=[i64,u8,u8,u8,u8,u8,u8,u8,u8,u8,u8,u8,u8,u8,u8,u8,u8]
abbrev xd:List Ty:=[u32,i64]
def akv:List (Nat×nK):=[(246,LZ)]
theorem Z6{cr:cu}(W:WQ cr):n9 cr akv:=(.cons (xG W) .nil)
def t146(x:cf FM):Lf.T (List Pl):=q9 (Ps [.n .i64,.ag pU]) [] (Ps [.tu (Ps [.n .u32,.n .i64])]) asX Tryz.aeb 3 (qh akv 3) (cp FM x)
def Es(x:cf FM):Bool:=cO (oy xd (t146 x))
def Ae(x:cf FM):cf xd:=cO (nA xd (t146 x))
def asY:nK:=pL (Ps [.n .i64,.ag pU]) [] (Ps [.tu (Ps [.n .u32,.n .i64])]) FM xd fun x=>.ck (Es x) (.ok (Ae x))
theorem Z7{cr:cu}(W:WQ cr):asY.Ok 146 cr:=
 cZ (W.in (Z6 W) 3) (W.st 146 _ rfl) rfl (vD.xx (.cons (b:=Hl.body) (by kernel_rfl) (PV W) .nil)) (m:=3) rfl (fun _=>ca _) (fun _=>ca _)
end Go.Proofs.Vq

noncomputable section
namespace Go.Proofs.Vq
open Go.Ab Go.Ab.Lf
set_option maxRecDepth 100000
inductive R2 (a b c:Type) where
 |nx (x:a)
 |o0 (x:b)
 |o1 (x:c)
def rd2(ti t0 t1:List Ty)(o:Rs):Option (R2 (cf ti) (cf t0) (cf t1)):=match o with
 | .next l=>(match toT ti l with
  |some x=>some (.nx x)
  |none=>none)
 | .out 0 l=>(match toT t0 l with
  |some x=>some (.o0 x)
  |none=>none)
 | .out 1 l=>(match toT t1 l with
  |some x=>some (.o1 x)
  |none=>none)
 | _=>none
def wr2(ti t0 t1:List Ty):R2 (cf ti) (cf t0) (cf t1)->Rs
 | .nx x=>.next (cp ti x)
 | .o0 x=>.out 0 (cp t0 x)
 | .o1 x=>.out 1 (cp t1 x)
def tr2(ti t0 t1:List Ty)(x:Lf.T Rs):Option (R2 (cf ti) (cf t0) (cf t1)):=(x.bd fun r=>Lf.T.of (rd2 ti t0 t1 r)).val
theorem Hm{ti t0 t1:List Ty}{x:Lf.T Rs}{r:R2 (cf ti) (cf t0) (cf t1)}(h:tr2 ti t0 t1 x=some r):x.val=some (wr2 ti t0 t1 r):=by
 obtain⟨o,ho,h⟩:=Lf.T.nG h
 rw[ho]
 have h:=Lf.T.rD h
 unfold rd2 at h
 split at h
 ·split at h
  ·rename_i x hx;cases h;rw[rR hx];rfl
  ·cases h
 ·split at h
  ·rename_i x hx;cases h;rw[rR hx];rfl
  ·cases h
 ·split at h
  ·rename_i x hx;cases h;rw[rR hx];rfl
  ·cases h
 ·cases h
end Go.Proofs.Vq

noncomputable section
namespace Go.Proofs.Vq
open Go.Ab Go.Ab.Lf
set_option maxRecDepth 100000
def rG(v:Nat->Int):Bool:=decide (v 0=v 0)&&(decide (v 1=v 1)&&(decide (v 2=v 2)&&(decide (v 3=v 3)&&(decide (v 4=v 4)&&(decide (v 5=v 5)&&(decide (v 6=v 6)&&(decide (v 7=v 7)&&(decide (v 8=v 8)&&(decide (v 9=v 9)&&(decide (v 10=v 10)&&(decide (v 11=v 11)&&(decide (v 12=v 12)&&(decide (v 13=v 13)&&(decide (v 14=v 14)&&(decide (v 15=v 15))))))))))))))))
theorem qJ(v:Nat->Int):rG v=true:=by unfold rG;simp
abbrev jX(w i:Int):Nat:=i.toNat*(w.toNat / 8)
abbrev nX(w:Int):Nat:=w.toNat / 8
abbrev gX(v:Nat->Int)(w i:Int):Int:=qI v (jX w i) (nX w)
abbrev pX(v:Nat->Int)(w i x:Int):Nat->Int:=ZJ v (jX w i) (nX w) x
abbrev sX(v:Nat->Int)(w i:Int):cf FG:=cV [i64,i64] v (w,i,())
abbrev Af:Nat->Int:=fun _=>0
theorem ab3(yv:cf (tV []))(w i:Int):(t247 (sX (vO yv) w i)).val=cA (JR (w,())) (bif decide ((JS (w,())).1=0)then some (cp FH (0,()))else cA (sS w i) (cA (decide (0<=cz .i64 64 w)) (cA (decide (0<=cz .i64 64 w)) (some (cp FH (px .i64 (tP .i64 (cb .i64 (gX (vO yv) w i)) (cz .i64 64 w)) (cz .i64 64 w),())))))):=by kernel_rfl
section
variable (a b r o v:Nat->Int)(ya yb yr yo yv:cf (tV []))(e w k n i op:Int)
abbrev PW:cf rX:=cV (tV (tV (i64::i64::i64::tV [i64,i64]))) a (cV (tV (i64::i64::i64::tV [i64,i64])) b (cV (i64::i64::i64::tV [i64,i64]) r (e,w,k,cV [i64,i64] o (n,i,()))))
theorem NO:tr2 rX qY [] (yG (cp rX (PW (vO ya) (vO yb) (vO yr) (vO yo) e w k n i)))=bif decide (i<n)then
 cA (sS w i) (cA (rG (vO yb)) (cA (sS w i) (cA (Em (sX (vO ya) w i)) (cA (rG (vO yb)) (cA (Em (sX (vO yb) w i)) (cA (afm (w,k,gX (vO ya) w i,gX (vO yb) w i,(z8 (sX (vO ya) w i)).1,(z8 (sX (vO yb) w i)).1,())) (cA (rG (vO yo)) (cA (sS w i)
  (some (.nx ((PW (vO ya) (vO yb) (vO yr) (pX (vO yo) w i (afn (w,k,gX (vO ya) w i,gX (vO yb) w i,(z8 (sX (vO ya) w i)).1,(z8 (sX (vO yb) w i)).1,())).1) e w k n (nz .i64 i 1)))))))))))))
 else some (.o0 ((cV (i64::tV []) (vO yr) (e,cV [] (vO yo) ())))):=by kernel_rfl
theorem ab4(p:cf vY)(hp:p=BP (op,()))(x:cf rX)(hx:x=PW (vO ya) (vO yb) Af Af 0 p.1 p.2.1 (JS (p.1,())).1 0)(y:cf qY)(hy:y=lo1 yG rX qY x):(t157 (op,cV (tV []) (vO ya) (cV [] (vO yb) ()))).val=cA (BO (op,())) (bif (bif decide (p.1=0)then true else decide (p.2.1<14))then some (cp Ac (cV [i64] Af (1,())))else
 cA (JR (p.1,())) (cA (DT yG rX qY x) (some (cp Ac (cV [i64] (vO (y.2.2.2.2.2.2.2.2.2.2.2.2.2.2.2.2.2.1,y.2.2.2.2.2.2.2.2.2.2.2.2.2.2.2.2.2.2.1,y.2.2.2.2.2.2.2.2.2.2.2.2.2.2.2.2.2.2.2.1,y.2.2.2.2.2.2.2.2.2.2.2.2.2.2.2.2.2.2.2.2.1,y.2.2.2.2.2.2.2.2.2.2.2.2.2.2.2.2.2.2.2.2.2.1,y.2.2.2.2.2.2.2.2.2.2.2.2.2.2.2.2.2.2.2.2.2.2.1,y.2.2.2.2.2.2.2.2.2.2.2.2.2.2.2.2.2.2.2.2.2.2.2.1,y.2.2.2.2.2.2.2.2.2.2.2.2.2.2.2.2.2.2.2.2.2.2.2.2.1,y.2.2.2.2.2.2.2.2.2.2.2.2.2.2.2.2.2.2.2.2.2.2.2.2.2.1,y.2.2.2.2.2.2.2.2.2.2.2.2.2.2.2.2.2.2.2.2.2.2.2.2.2.2.1,y.2.2.2.2.2.2.2.2.2.2.2.2.2.2.2.2.2.2.2.2.2.2.2.2.2.2.2.1,y.2.2.2.2.2.2.2.2.2.2.2.2.2.2.2.2.2.2.2.2.2.2.2.2.2.2.2.2.1,y.2.2.2.2.2.2.2.2.2.2.2.2.2.2.2.2.2.2.2.2.2.2.2.2.2.2.2.2.2.1,y.2.2.2.2.2.2.2.2.2.2.2.2.2.2.2.2.2.2.2.2.2.2.2.2.2.2.2.2.2.2.1,y.2.2.2.2.2.2.2.2.2.2.2.2.2.2.2.2.2.2.2.2.2.2.2.2.2.2.2.2.2.2.2.1,y.2.2.2.2.2.2.2.2.2.2.2.2.2.2.2.2.2.2.2.2.2.2.2.2.2.2.2.2.2.2.2.2.1,())) (0,())))))):=by
 subst hy;subst hx;subst hp
 kernel_rfl
abbrev JX(q:Int):cf rY:=(q,cV (tV [i64,i64,i64,i64,i64]) v (cV [i64,i64,i64,i64,i64] r (e,w,k,n,i,())))
theorem NP(q:Int):tr2 rY qZ [] (yH (cp rY (JX (vO yr) (vO yv) e w k n i q)))=bif decide (i<n)then
 cA (sS w i) (cA (decide (0<=q)) (bif decide (k=11)then cA (sS w i) (cA (decide (0<=q)) (cA (sS w i) (some (.nx ((JX (vO yr) (pX (vO yv) w i (tP .u64 (gX (vO yv) w i) q)) e w k n (nz .i64 i 1) q))))))
  else bif decide (k=12)then cA (Em (sX (vO yv) w i)) (cA (decide (0<=q)) (cA (sS w i) (some (.nx ((JX (vO yr) (pX (vO yv) w i (cb .u64 (px .i64 (z8 (sX (vO yv) w i)).1 q))) e w k n (nz .i64 i 1) q))))))
  else cA (sS w i) (some (.nx ((JX (vO yr) (pX (vO yv) w i (px .u64 (gX (vO yv) w i) q)) e w k n (nz .i64 i 1) q))))))
 else some (.o0 ((cV (tV [i64]) (vO yv) (cV [i64] (vO yr) (e,()))))):=by kernel_rfl
theorem akw(q:Int)(p:cf vY)(hp:p=BP (op,()))(x:cf rY)(hx:x=JX Af (vO ya) 0 p.1 p.2.1 (JS (p.1,())).1 0 (we .u32 q (cb .u32 p.1)))(y:cf qZ)(hy:y=lo1 yH rY qZ x):(t156 (op,cV [u32] (vO ya) (q,()))).val=cA (BO (op,())) (bif (bif decide (p.1=0)then true else bif decide (p.2.1<11)then true else decide (13<p.2.1))then some (cp Bn (cV [i64] Af (1,())))else
 cA (!decide (cb .u32 p.1=0)) (cA (JR (p.1,())) (cA (DT yH rY qZ x) (some (cp Bn (cV [i64] (vO (y.1,y.2.1,y.2.2.1,y.2.2.2.1,y.2.2.2.2.1,y.2.2.2.2.2.1,y.2.2.2.2.2.2.1,y.2.2.2.2.2.2.2.1,y.2.2.2.2.2.2.2.2.1,y.2.2.2.2.2.2.2.2.2.1,y.2.2.2.2.2.2.2.2.2.2.1,y.2.2.2.2.2.2.2.2.2.2.2.1,y.2.2.2.2.2.2.2.2.2.2.2.2.1,y.2.2.2.2.2.2.2.2.2.2.2.2.2.1,y.2.2.2.2.2.2.2.2.2.2.2.2.2.2.1,y.2.2.2.2.2.2.2.2.2.2.2.2.2.2.2.1,())) (0,()))))))):=by
 subst hy;subst hx;subst hp
 kernel_rfl
abbrev Hn:cf rZ:=cV (tV [i64,i64,i64,i64,i64]) v (cV [i64,i64,i64,i64,i64] r (e,w,k,n,i,()))
theorem NQ:tr2 rZ q5 [] (yI (cp rZ (Hn (vO yr) (vO yv) e w k n i)))=bif decide (i<n)then
 cA (sS w i) (bif decide (k=2)then cA (k54 (gX (vO yv) w i,())) (cA (sS w i) (some (.nx ((Hn (vO yr) (pX (vO yv) w i (cb .u64 (m54 (gX (vO yv) w i,())).1)) e w k n (nz .i64 i 1))))))
  else bif decide (k=1)then cA (sS w i) (some (.nx ((Hn (vO yr) (pX (vO yv) w i (yt .u64 (gX (vO yv) w i))) e w k n (nz .i64 i 1)))))
  else cA (Em (sX (vO yv) w i)) (bif decide ((z8 (sX (vO yv) w i)).1<0)then cA (sS w i) (some (.nx ((Hn (vO yr) (pX (vO yv) w i (yt .u64 (gX (vO yv) w i))) e w k n (nz .i64 i 1)))))else cA (sS w i) (some (.nx ((Hn (vO yr) (pX (vO yv) w i (gX (vO yv) w i)) e w k n (nz .i64 i 1)))))))
 else some (.o0 ((cV (tV [i64]) (vO yv) (cV [i64] (vO yr) (e,()))))):=by kernel_rfl
theorem akx(p:cf vY)(hp:p=BP (op,()))(x:cf rZ)(hx:x=Hn Af (vO ya) 0 p.1 p.2.1 (JS (p.1,())).1 0)(y:cf q5)(hy:y=lo1 yI rZ q5 x):(t154 (op,cV [] (vO ya) ())).val=cA (BO (op,())) (bif (bif decide (p.1=0)then true else decide (2<p.2.1))then some (cp Bo (cV [i64] Af (1,())))else
 cA (JR (p.1,())) (cA (DT yI rZ q5 x) (some (cp Bo (cV [i64] (vO (y.1,y.2.1,y.2.2.1,y.2.2.2.1,y.2.2.2.2.1,y.2.2.2.2.2.1,y.2.2.2.2.2.2.1,y.2.2.2.2.2.2.2.1,y.2.2.2.2.2.2.2.2.1,y.2.2.2.2.2.2.2.2.2.1,y.2.2.2.2.2.2.2.2.2.2.1,y.2.2.2.2.2.2.2.2.2.2.2.1,y.2.2.2.2.2.2.2.2.2.2.2.2.1,y.2.2.2.2.2.2.2.2.2.2.2.2.2.1,y.2.2.2.2.2.2.2.2.2.2.2.2.2.2.1,y.2.2.2.2.2.2.2.2.2.2.2.2.2.2.2.1,())) (0,())))))):=by
 subst hy;subst hx;subst hp
 kernel_rfl
abbrev L4:cf r5:=cV (tV (tV (i64::i64::i64::tV [i64,i64]))) a (cV (tV (i64::i64::i64::tV [i64,i64])) b (cV (i64::i64::i64::tV [i64,i64]) r (e,w,k,cV [i64,i64] o (n,i,()))))
theorem NR:tr2 r5 q6 [] (yJ (cp r5 (L4 (vO ya) (vO yb) (vO yr) (vO yo) e w k n i)))=bif decide (i<n)then
 cA (Em (sX (vO ya) w i)) (cA (rG (vO yb)) (cA (Em (sX (vO yb) w i)) (cA (ZU (k,(z8 (sX (vO ya) w i)).1,(z8 (sX (vO yb) w i)).1,())) (bif (ZV (k,(z8 (sX (vO ya) w i)).1,(z8 (sX (vO yb) w i)).1,())).1 then cA (sS w i) (some (.nx ((L4 (vO ya) (vO yb) (vO yr) (pX (vO yo) w i 18446744073709551615) e w k n (nz .i64 i 1)))))
  else some (.nx ((L4 (vO ya) (vO yb) (vO yr) (vO yo) e w k n (nz .i64 i 1))))))))
 else some (.o0 ((cV (i64::tV []) (vO yr) (e,cV [] (vO yo) ())))):=by kernel_rfl
theorem aky(p:cf DL)(hp:p=UL (op,()))(x:cf r5)(hx:x=L4 (vO ya) (vO yb) Af Af 0 p.1 p.2.1 (JS (p.1,())).1 0)(y:cf q6)(hy:y=lo1 yJ r5 q6 x):(t158 (op,cV (tV []) (vO ya) (cV [] (vO yb) ()))).val=cA (UK (op,())) (bif decide (p.2.1<0)then some (cp Bp (cV [i64] Af (1,())))else
 cA (JR (p.1,())) (cA (DT yJ r5 q6 x) (some (cp Bp (cV [i64] (vO (y.2.2.2.2.2.2.2.2.2.2.2.2.2.2.2.2.2.1,y.2.2.2.2.2.2.2.2.2.2.2.2.2.2.2.2.2.2.1,y.2.2.2.2.2.2.2.2.2.2.2.2.2.2.2.2.2.2.2.1,y.2.2.2.2.2.2.2.2.2.2.2.2.2.2.2.2.2.2.2.2.1,y.2.2.2.2.2.2.2.2.2.2.2.2.2.2.2.2.2.2.2.2.2.1,y.2.2.2.2.2.2.2.2.2.2.2.2.2.2.2.2.2.2.2.2.2.2.1,y.2.2.2.2.2.2.2.2.2.2.2.2.2.2.2.2.2.2.2.2.2.2.2.1,y.2.2.2.2.2.2.2.2.2.2.2.2.2.2.2.2.2.2.2.2.2.2.2.2.1,y.2.2.2.2.2.2.2.2.2.2.2.2.2.2.2.2.2.2.2.2.2.2.2.2.2.1,y.2.2.2.2.2.2.2.2.2.2.2.2.2.2.2.2.2.2.2.2.2.2.2.2.2.2.1,y.2.2.2.2.2.2.2.2.2.2.2.2.2.2.2.2.2.2.2.2.2.2.2.2.2.2.2.1,y.2.2.2.2.2.2.2.2.2.2.2.2.2.2.2.2.2.2.2.2.2.2.2.2.2.2.2.2.1,y.2.2.2.2.2.2.2.2.2.2.2.2.2.2.2.2.2.2.2.2.2.2.2.2.2.2.2.2.2.1,y.2.2.2.2.2.2.2.2.2.2.2.2.2.2.2.2.2.2.2.2.2.2.2.2.2.2.2.2.2.2.1,y.2.2.2.2.2.2.2.2.2.2.2.2.2.2.2.2.2.2.2.2.2.2.2.2.2.2.2.2.2.2.2.1,y.2.2.2.2.2.2.2.2.2.2.2.2.2.2.2.2.2.2.2.2.2.2.2.2.2.2.2.2.2.2.2.2.1,())) (0,())))))):=by
 subst hy;subst hx;subst hp
 kernel_rfl
abbrev Ho(r4 e5 k6 w7 m8 a9 n i:Int):cf qp:=cV [u32,i64,i64,i64,u32,u32,i64,i64] v (r4,e5,k6,w7,m8,a9,n,i,())
theorem NS(r4 e5 k6 w7 m8 a9:Int):tr2 qp pA [] (yK (cp qp (Ho (vO yv) r4 e5 k6 w7 m8 a9 n i)))=bif decide (i<n)then
 cA (Em (sX (vO yv) w7 i)) (bif decide ((z8 (sX (vO yv) w7 i)).1<0)then cA (decide (0<=i)) (cA (sS w7 i) (bif decide (gX (vO yv) w7 i=0)then some (.nx ((Ho (vO yv) r4 e5 k6 w7 (C3 .u32 m8 (tP .u32 1 i)) 0 n (nz .i64 i 1))))else some (.nx ((Ho (vO yv) r4 e5 k6 w7 (C3 .u32 m8 (tP .u32 1 i)) a9 n (nz .i64 i 1))))))
  else cA (sS w7 i) (bif decide (gX (vO yv) w7 i=0)then some (.nx ((Ho (vO yv) r4 e5 k6 w7 m8 0 n (nz .i64 i 1))))else some (.nx ((Ho (vO yv) r4 e5 k6 w7 m8 a9 n (nz .i64 i 1))))))
 else some (.o0 ((r4,e5,k6,m8,a9,()))):=by kernel_rfl
end
end Go.Proofs.Vq
