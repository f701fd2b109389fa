import Derived.Test.YtcnkojgmochcgaaGreatDoorVqJ
import Derived.Test.YtcnkojgmochcgaaGreatDoorVrD
noncomputable section
namespace Go.Proofs.Vq
open Go.Ab Go.Ab.Lf
set_option maxRecDepth 100000
theorem Gh{f:List Pl->Lf.T Rs}(n:Nat)(st:Nat->List Pl)(p:Nat->Bool)(o0 o1:List Pl)
 (yU: ∀ j,j<n->(f (st j)).val=some (bif p j then .next (st (j+1))else .out 1 o1))(FZ:(f (st n)).val=some (.out 0 o0)):uh f (st 0) (bif (List.range n).all p then 0 else 1) (bif (List.range n).all p then o0 else o1):=by
 have key: ∀ (k j:Nat),j+k=n->uh f (st j) (bif (List.range' j k).all p then 0 else 1) (bif (List.range' j k).all p then o0 else o1):=by
  intro k
  induction k with
  |zero=>
   intro j h
   have:j=n:=by omega
   subst this
   exact .last FZ
  |succ k ih=>
   intro j h
   have hs:=yU j (by omega)
   rw[List.range'_succ,List.all_cons]
   cases hp:p j with
   |true=>rw[hp]at hs;rw[Bool.true_and];exact .more hs (ih (j+1) (by omega))
   |false=>rw[hp]at hs;exact .last hs
 rw[List.range_eq_range']
 exact key n 0 (by omega)
def II(t:Int):Bool:=bif !decide (t=127)then !decide (t=126)else false
def Qm(l:List Int):Bool:=(List.range l.length).all fun j=> !II (l.getD j 0)
theorem c83(l:List Int)(hl:l.length<=1099511627776):k83 (l,())=true/\m83 (l,())=(Qm l,()):=by
 refine mO (ca _) (ca _) ?_
 have r:=Gh (f:=CQ) l.length (fun j=>cq xn (l,(l.length:Int),(j:Int),())) (fun j=> !II (l.getD j 0)) (cq vc ()) (cq tR (false,())) (fun j hj=>by
  refine(acL l (l.length:Int) (j:Int)).trans ?_
  rw[ui hj,show cZ (j:Int) (l.length:Int)=true from pN hj,ad1 (by omega)]
  show cF true (bif II (l.getD j 0)then _ else _)=_
  cases II (l.getD j 0)<;>rfl) (by
  refine(acL l (l.length:Int) (l.length:Int)).trans ?_
  rw[rH (Nat.le_refl _)]
  rfl)
 have e:(t83 (l,())).val=cF (DH CQ xn vc tR (l,(l.length:Int),0,())) (bif CO CQ xn (l,(l.length:Int),0,())then some (cq Ij (true,()))else some (cq Ij ((lo1 CQ xn tR (l,(l.length:Int),0,())).1,()))):=asy l
 refine e.trans ?_
 unfold Qm
 cases hb:(List.range l.length).all (fun j=> !II (l.getD j 0))with
 |true=>
  rw[hb]at r
  obtain⟨q1,q2,_⟩:=z8 (f:=CQ) (ti:=xn) (t0:=vc) (t1:=tR) (y:=()) (x:=(l,(l.length:Int),0,())) r
  rw[q1,q2];rfl
 |false=>
  rw[hb]at r
  obtain⟨q1,q2,q3⟩:=CP (f:=CQ) (ti:=xn) (t0:=vc) (t1:=tR) (y:=(false,())) (x:=(l,(l.length:Int),0,())) r
  rw[q1,q2,q3];rfl
theorem af3(o:Int):ZN (o,())=true:=by
 refine(rm.km (P:=fun _:cf nN=>True) (ca _) (ca _) ?_).1
 rw[akA]
 repeat' with_reducible first
  |exact rm.ok (P:=fun _:cf nN=>True) trivial
  |refine rm.bif (fun _=>?_) (fun _=>?_)
  |refine rm.ck (IB o).1 ?_
 all_goals exact rm.ok (P:=fun _:cf nN=>True) trivial
def sP(o:Int):Bool:=(ZO (o,())).1
def pG(ns nf:Nat)(i lo:Int)(nc:Nat)(t:Int)(c:den nd):Bool:=
 bif decide (c.1=12)then bif decide (0<=(c.2.1:Int))then decide ((c.2.1:Int)<(nc:Int))else false
 else bif decide (c.1=13)then bif decide (0<=(c.2.1:Int))then decide ((c.2.1:Int)<(nc:Int))else false
 else bif decide (c.1=14)then bif decide (0<=(c.2.1:Int))then decide ((c.2.1:Int)<cA .i64 (cA .i64 (nc:Int) t) 1)else false
 else bif decide (c.1=16)then bif decide (0<=(c.2.1:Int))then decide ((c.2.1:Int)<(nf:Int))else false
 else bif decide (c.1=17)then bif decide (0<=(c.2.1:Int))then decide ((c.2.1:Int)<(ns:Int))else false
 else bif decide (c.1=32)then bif decide (0<=(c.2.1:Int))then decide ((c.2.1:Int)<cY .i64 i lo)else false
 else bif decide (c.1=33)then bif decide (0<=(c.2.1:Int))then decide ((c.2.1:Int)<cY .i64 i lo)else false
 else bif decide (c.1=34)then bif decide (0<=(c.2.1:Int))then decide ((c.2.1:Int)<cY .i64 i lo)else false
 else bif decide (c.1=35)then decide (0<=(c.2.1:Int))
 else bif decide (c.1=36)then decide (0<=(c.2.1:Int))
 else bif decide (c.1=256)then bif decide (0<=(c.2.1:Int))then bif decide ((c.2.1:Int)<=1048576)then decide ((c.2.2:Int)<=1048576)else false else false
 else sP c.1
theorem as0(ss:List (den mc))(fs:List (den oW))(p0 p1 p2 p3 p4:Int)(cs:List (den nd))(ms:List Int)(t:Int)(c:den nd):ZR (ss,fs,p0,p1,p2,p3,p4,cs,ms,t,c.1,c.2.1,c.2.2,())=true/\ZS (ss,fs,p0,p1,p2,p3,p4,cs,ms,t,c.1,c.2.1,c.2.2,())=(pG ss.length fs.length p2 p4 cs.length t c,()):=by
 refine mO (ca _) (ca _) ?_
 refine(akB ss fs p0 p1 p2 p3 p4 cs ms t c.1 c.2.1 c.2.2).trans ?_
 rw[af3]
 unfold pG
 cases decide (c.1=12)with
 |true=>rfl
 |false=>
 cases decide (c.1=13)with
 |true=>rfl
 |false=>
 cases decide (c.1=14)with
 |true=>rfl
 |false=>
 cases decide (c.1=16)with
 |true=>rfl
 |false=>
 cases decide (c.1=17)with
 |true=>rfl
 |false=>
 cases decide (c.1=32)with
 |true=>rfl
 |false=>
 cases decide (c.1=33)with
 |true=>rfl
 |false=>
 cases decide (c.1=34)with
 |true=>rfl
 |false=>
 cases decide (c.1=35)with
 |true=>rfl
 |false=>
 cases decide (c.1=36)with
 |true=>rfl
 |false=>
 cases decide (c.1=256)with
 |true=>rfl
 |false=>rfl
end Go.Proofs.Vq

noncomputable section
namespace Go.Proofs.Vq
open Go.Ab Go.Ab.Lf
set_option maxRecDepth 100000
section
variable (ss:List (den mc))(fs:List (den oW))
def Gi(f:den oW):Bool:=(List.range f.2.2.2.2.2.1.length).all fun j=>pG ss.length fs.length f.2.2.1 f.2.2.2.2.1 f.2.2.2.2.2.1.length (j:Int) (f.2.2.2.2.2.1.getD j (cE nd))
def wV(f:den oW):Bool:=bif decide ((f.1:Int)<(-1))then true else bif decide ((f.2.1:Int)<0)then true else bif decide ((ss.length:Int)<=f.2.1)then true else bif decide ((f.2.2.2.2.1:Int)<0)then true else bif decide (4096<(f.2.2.2.2.1:Int))then true else decide ((f.1:Int)=(-1)) ^^ decide (0<(f.2.2.2.2.2.1.length:Int))
def C1(f:den oW)(s:den mc):Bool:=bif !decide ((f.2.2.1:Int)=(s.1.length:Int))then true else !decide ((f.2.2.2.1:Int)=(s.2.length:Int))
def fnB(f:den oW):Bool:=bif wV ss f then false else bif C1 f (ss.getD (f.2.1:Int).toNat (cE mc))then false else Gi ss fs f
theorem c84(f:den oW)(hl:f.2.2.2.2.2.1.length<=1099511627776):k84 (ss,fs,f.1,f.2.1,f.2.2.1,f.2.2.2.1,f.2.2.2.2.1,f.2.2.2.2.2.1,f.2.2.2.2.2.2,())=true/\m84 (ss,fs,f.1,f.2.1,f.2.2.1,f.2.2.2.1,f.2.2.2.2.1,f.2.2.2.2.2.1,f.2.2.2.2.2.2,())=(fnB ss fs f,()):=by
 obtain⟨p0,p1,p2,p3,p4,cs,ms⟩:=f
 have hl:cs.length<=1099511627776:=hl
 refine mO (ca _) (ca _) ?_
 have r:=Gh (f:=CR) cs.length (fun j=>cq xp (p0,p1,p2,p3,p4,cs,ms,ss,fs,cs,(cs.length:Int),(j:Int),())) (fun j=>pG ss.length fs.length p2 p4 cs.length (j:Int) (cs.getD j (cE nd))) (cq ve ()) (cq tT (false,())) (fun j hj=>by
  obtain⟨q1,q2⟩:=as0 ss fs p0 p1 p2 p3 p4 cs ms (j:Int) (cs.getD j (cE nd))
  refine(acM p0 p1 p2 p3 p4 cs ms ss fs cs (cs.length:Int) (j:Int)).trans ?_
  rw[ui hj,show cZ (j:Int) (cs.length:Int)=true from pN hj,ad1 (by omega),Int.toNat_natCast]
  rw[show ZR (ss,fs,p0,p1,p2,p3,p4,cs,ms,(j:Int),(List.getD cs j (cE ((Ty.int .i64).pair ((Ty.int .i64).pair (Ty.int .u64))))).1,(List.getD cs j (cE ((Ty.int .i64).pair ((Ty.int .i64).pair (Ty.int .u64))))).2.1,(List.getD cs j (cE ((Ty.int .i64).pair ((Ty.int .i64).pair (Ty.int .u64))))).2.2,())=true from q1,
   show ZS (ss,fs,p0,p1,p2,p3,p4,cs,ms,(j:Int),(List.getD cs j (cE ((Ty.int .i64).pair ((Ty.int .i64).pair (Ty.int .u64))))).1,(List.getD cs j (cE ((Ty.int .i64).pair ((Ty.int .i64).pair (Ty.int .u64))))).2.1,(List.getD cs j (cE ((Ty.int .i64).pair ((Ty.int .i64).pair (Ty.int .u64))))).2.2,())=(pG ss.length fs.length p2 p4 cs.length (j:Int) (cs.getD j (cE nd)),())from q2]
  cases pG ss.length fs.length p2 p4 cs.length (j:Int) (cs.getD j (cE nd))<;>rfl) (by
  refine(acM p0 p1 p2 p3 p4 cs ms ss fs cs (cs.length:Int) (cs.length:Int)).trans ?_
  rw[rH (Nat.le_refl _)]
  rfl)
 have e:(t84 (ss,fs,p0,p1,p2,p3,p4,cs,ms,())).val=bif wV ss (p0,p1,p2,p3,p4,cs,ms)then some (cq AY (false,()))else cF (cZ p1 (ss.length:Int)) (bif C1 (p0,p1,p2,p3,p4,cs,ms) (ss.getD (p1:Int).toNat (cE mc))then some (cq AY (false,()))else
  cF (DH CR xp ve tT (p0,p1,p2,p3,p4,cs,ms,ss,fs,cs,(cs.length:Int),0,())) (bif CO CR xp (p0,p1,p2,p3,p4,cs,ms,ss,fs,cs,(cs.length:Int),0,())then some (cq AY (true,()))else some (cq AY ((lo1 CR xp tT (p0,p1,p2,p3,p4,cs,ms,ss,fs,cs,(cs.length:Int),0,())).1,())))):=(asz ss fs p0 p1 p2 p3 p4 cs ms).trans (by show _=_;kernel_rfl)
 refine e.trans ?_
 unfold fnB
 cases h1:wV ss (p0,p1,p2,p3,p4,cs,ms)with
 |true=>rfl
 |false=>
  have hix:cZ p1 (ss.length:Int)=true:=by
   rw[tv]
   unfold wV at h1
   dsimp only at h1
   obtain⟨q,hq⟩: ∃ q:Int,q=p1:=⟨p1,rfl⟩
   have h1:(bif decide ((p0:Int)<(-1))then true else bif decide (q<0)then true else bif decide ((ss.length:Int)<=q)then true else bif decide ((p4:Int)<0)then true else bif decide (4096<(p4:Int))then true else decide ((p0:Int)=(-1)) ^^ decide (0<(cs.length:Int)))=false:=by rw[hq];exact h1
   rw[<-hq]
   by_cases a1:(p0:Int)<(-1)
   ·rw[dt a1]at h1;cases h1
   ·by_cases a2:q<0
    ·rw[df a1,dt a2]at h1;cases h1
    ·by_cases a3:(ss.length:Int)<=q
     ·rw[df a1,df a2,dt a3]at h1;cases h1
     ·exact⟨by omega,by omega⟩
  rw[hix]
  cases h2:C1 (p0,p1,p2,p3,p4,cs,ms) (ss.getD (p1:Int).toNat (cE mc))with
  |true=>rfl
  |false=>
   have hc:Gi ss fs (p0,p1,p2,p3,p4,cs,ms)=(List.range cs.length).all fun j=>pG ss.length fs.length p2 p4 cs.length (j:Int) (cs.getD j (cE nd)):=rfl
   rw[hc]
   cases hb:(List.range cs.length).all (fun j=>pG ss.length fs.length p2 p4 cs.length (j:Int) (cs.getD j (cE nd)))with
   |true=>
    rw[hb]at r
    obtain⟨q1,q2,_⟩:=z8 (f:=CR) (ti:=xp) (t0:=ve) (t1:=tT) (y:=()) (x:=(p0,p1,p2,p3,p4,cs,ms,ss,fs,cs,(cs.length:Int),0,())) r
    rw[q1,q2];rfl
   |false=>
    rw[hb]at r
    obtain⟨q1,q2,q3⟩:=CP (f:=CR) (ti:=xp) (t0:=ve) (t1:=tT) (y:=(false,())) (x:=(p0,p1,p2,p3,p4,cs,ms,ss,fs,cs,(cs.length:Int),0,())) r
    rw[q1,q2,q3];rfl
def Va:Bool:=(List.range ss.length).all fun j=>Qm (ss.getD j (cE mc)).1&&Qm (ss.getD j (cE mc)).2
def af4:Bool:=(List.range fs.length).all fun j=>fnB ss fs (fs.getD j (cE oW))
def EI:Bool:=Va ss&&af4 ss fs
structure Fits:Prop where
 ls:ss.length<=1099511627776
 lf:fs.length<=1099511627776
 s: ∀ s:den mc,s∈ss->s.1.length<=1099511627776/\s.2.length<=1099511627776
 f: ∀ f:den oW,f∈fs->f.2.2.2.2.2.1.length<=1099511627776
theorem wx{α:Type}{l:List α}{j:Nat}(h:j<l.length)(d:α):l.getD j d∈l:=by
 rw[List.getD_eq_getElem?_getD,List.getElem?_eq_getElem h]
 exact List.getElem_mem h
theorem c34(H:Fits ss fs):k34 (ss,fs,())=true/\m34 (ss,fs,())=(bif EI ss fs then 0 else 1,()):=by
 refine mO (ca _) (ca _) ?_
 have r1:=Gh (f:=f340) ss.length (fun j=>cq qI (ss,fs,ss,(ss.length:Int),(j:Int),())) (fun j=>Qm (ss.getD j (cE mc)).1&&Qm (ss.getD j (cE mc)).2) (cq oY (ss,fs,())) (cq q7 (1,())) (fun j hj=>by
  obtain⟨h1,h2⟩:=H.s _ (wx hj (cE mc))
  obtain⟨a1,a2⟩:=c83 _ h1
  obtain⟨b1,b2⟩:=c83 _ h2
  refine(acN ss fs ss (ss.length:Int) (j:Int)).trans ?_
  rw[ui hj,show cZ (j:Int) (ss.length:Int)=true from pN hj,ad1 (by have:=H.ls;omega),Int.toNat_natCast]
  refine Eq.trans (b:=cF (k83 ((ss.getD j (cE mc)).1,())) (bif !(m83 ((ss.getD j (cE mc)).1,())).1 then(some (.out 1 (cq q7 (1,()))):Option Rs)else cF (k83 ((ss.getD j (cE mc)).2,())) (bif !(m83 ((ss.getD j (cE mc)).2,())).1 then some (.out 1 (cq q7 (1,())))else some (.next (cq qI (ss,fs,ss,(ss.length:Int),((j+1:Nat):Int),())))))) (by show _=_;kernel_rfl) ?_
  rw[a1,a2,b1,b2]
  cases Qm (ss.getD j (cE mc)).1<;>cases Qm (ss.getD j (cE mc)).2<;>rfl) (by
  refine(acN ss fs ss (ss.length:Int) (ss.length:Int)).trans ?_
  rw[rH (Nat.le_refl _)]
  rfl)
 have r2:=Gh (f:=f342) fs.length (fun j=>cq uJ (ss,fs,(fs.length:Int),(j:Int),())) (fun j=>fnB ss fs (fs.getD j (cE oW))) (cq tU ()) (cq rI (1,())) (fun j hj=>by
  obtain⟨a1,a2⟩:=c84 ss fs (fs.getD j (cE oW)) (H.f _ (wx hj (cE oW)))
  refine(acO ss fs (fs.length:Int) (j:Int)).trans ?_
  rw[ui hj,show cZ (j:Int) (fs.length:Int)=true from pN hj,ad1 (by have:=H.lf;omega),Int.toNat_natCast]
  generalize hF:fs.getD j (cE oW)=F at a1 a2 ⊢
  rw[a1,a2]
  cases fnB ss fs F<;>rfl) (by
  refine(acO ss fs (fs.length:Int) (fs.length:Int)).trans ?_
  rw[rH (Nat.le_refl _)]
  rfl)
 have e:(t34 (ss,fs,())).val=cF (DH f340 qI oY q7 (ss,fs,ss,(ss.length:Int),0,())) (bif CO f340 qI (ss,fs,ss,(ss.length:Int),0,())then
  cF (DH f342 uJ tU rI ((lo1 f340 qI oY (ss,fs,ss,(ss.length:Int),0,())).1,(lo1 f340 qI oY (ss,fs,ss,(ss.length:Int),0,())).2.1,((lo1 f340 qI oY (ss,fs,ss,(ss.length:Int),0,())).2.1.length:Int),0,())) (bif CO f342 uJ ((lo1 f340 qI oY (ss,fs,ss,(ss.length:Int),0,())).1,(lo1 f340 qI oY (ss,fs,ss,(ss.length:Int),0,())).2.1,((lo1 f340 qI oY (ss,fs,ss,(ss.length:Int),0,())).2.1.length:Int),0,())then some (cq AZ (0,()))
   else some (cq AZ ((lo1 f342 uJ rI ((lo1 f340 qI oY (ss,fs,ss,(ss.length:Int),0,())).1,(lo1 f340 qI oY (ss,fs,ss,(ss.length:Int),0,())).2.1,((lo1 f340 qI oY (ss,fs,ss,(ss.length:Int),0,())).2.1.length:Int),0,())).1,())))else some (cq AZ ((lo1 f340 qI q7 (ss,fs,ss,(ss.length:Int),0,())).1,()))):=(asA ss fs).trans (by show _=_;kernel_rfl)
 refine e.trans ?_
 unfold EI Va af4
 cases hb:(List.range ss.length).all (fun j=>Qm (ss.getD j (cE mc)).1&&Qm (ss.getD j (cE mc)).2)with
 |true=>
  rw[hb]at r1
  obtain⟨q1,q2,q3⟩:=z8 (f:=f340) (ti:=qI) (t0:=oY) (t1:=q7) (y:=(ss,fs,())) (x:=(ss,fs,ss,(ss.length:Int),0,())) r1
  rw[q1,q2,q3,vu rfl,cond_true]
  show cF (DH f342 uJ tU rI (ss,fs,(fs.length:Int),0,())) (bif CO f342 uJ (ss,fs,(fs.length:Int),0,())then some (cq AZ (0,()))else some (cq AZ ((lo1 f342 uJ rI (ss,fs,(fs.length:Int),0,())).1,())))=_
  cases hc:(List.range fs.length).all (fun j=>fnB ss fs (fs.getD j (cE oW)))with
  |true=>
   rw[hc]at r2
   obtain⟨p1,p2,_⟩:=z8 (f:=f342) (ti:=uJ) (t0:=tU) (t1:=rI) (y:=()) (x:=(ss,fs,(fs.length:Int),0,())) r2
   rw[p1,p2];rfl
  |false=>
   rw[hc]at r2
   obtain⟨p1,p2,p3⟩:=CP (f:=f342) (ti:=uJ) (t0:=tU) (t1:=rI) (y:=(1,())) (x:=(ss,fs,(fs.length:Int),0,())) r2
   rw[p1,p2,p3];rfl
 |false=>
  rw[hb]at r1
  obtain⟨q1,q2,q3⟩:=CP (f:=f340) (ti:=qI) (t0:=oY) (t1:=q7) (y:=(1,())) (x:=(ss,fs,ss,(ss.length:Int),0,())) r1
  rw[q1,q2,q3];rfl
end
end Go.Proofs.Vq

noncomputable section
namespace Go.Proofs.Vq
open Go.Ab Go.Ab.Lf
set_option maxRecDepth 100000
theorem as3(ss:List (den mc))(fs:List (den oW))(v sm fi tb:List Int)(h:Hos)(bad:Bool)(hb:bad= !decide ((m34 (ss,fs,())).1=0))(a0:cf uk)(ha:a0=(ss,fs,ss,tF (tB (sx [.bool,i64,i64])) ⟨v,sm,fi,tb,mM⟩ (vE (sx [.bool,i64,i64]) h (A1 [.bool,i64,i64] mM (bad,(ss.length:Int),0,())))))
 (z0:cf rV)(hz:z0=lo1 EC uk rV a0)(a2:cf tC)(ha2:a2=(z0.2.2.1,z0.2.1,z0.2.2.2.1,z0.2.2.2.2.1,z0.2.2.2.2.2.1,z0.2.2.2.2.2.2.1,z0.2.2.2.2.2.2.2.1,z0.2.2.2.2.2.2.2.2.1,z0.2.2.2.2.2.2.2.2.2.1,z0.2.2.2.2.2.2.2.2.2.2.1,z0.2.2.2.2.2.2.2.2.2.2.2.1,z0.2.2.2.2.2.2.2.2.2.2.2.2.1,z0.2.2.2.2.2.2.2.2.2.2.2.2.2.1,z0.2.2.2.2.2.2.2.2.2.2.2.2.2.2.1,z0.2.2.2.2.2.2.2.2.2.2.2.2.2.2.2.1,z0.2.2.2.2.2.2.2.2.2.2.2.2.2.2.2.2.1,z0.2.2.2.2.2.2.2.2.2.2.2.2.2.2.2.2.2.1,z0.2.2.2.2.2.2.2.2.2.2.2.2.2.2.2.2.2.2.1,z0.2.2.2.2.2.2.2.2.2.2.2.2.2.2.2.2.2.2.2.1,z0.2.2.2.2.2.2.2.2.2.2.2.2.2.2.2.2.2.2.2.2.1,z0.2.2.2.2.2.2.2.2.2.2.2.2.2.2.2.2.2.2.2.2.2.1,z0.2.2.2.2.2.2.2.2.2.2.2.2.2.2.2.2.2.2.2.2.2.2.1,z0.2.2.2.2.2.2.2.2.2.2.2.2.2.2.2.2.2.2.2.2.2.2.2.1,z0.2.2.2.2.2.2.2.2.2.2.2.2.2.2.2.2.2.2.2.2.2.2.2.2.1,z0.2.2.2.2.2.2.2.2.2.2.2.2.2.2.2.2.2.2.2.2.2.2.2.2.2.1,z0.2.2.2.2.2.2.2.2.2.2.2.2.2.2.2.2.2.2.2.2.2.2.2.2.2.2.1,z0.2.2.2.2.2.2.2.2.2.2.2.2.2.2.2.2.2.2.2.2.2.2.2.2.2.2.2.1,z0.2.2.2.2.2.2.2.2.2.2.2.2.2.2.2.2.2.2.2.2.2.2.2.2.2.2.2.2.1,z0.2.2.2.2.2.2.2.2.2.2.2.2.2.2.2.2.2.2.2.2.2.2.2.2.2.2.2.2.2.1,z0.2.2.2.2.2.2.2.2.2.2.2.2.2.2.2.2.2.2.2.2.2.2.2.2.2.2.2.2.2.2.1,z0.2.2.2.2.2.2.2.2.2.2.2.2.2.2.2.2.2.2.2.2.2.2.2.2.2.2.2.2.2.2.2.1,z0.2.2.2.2.2.2.2.2.2.2.2.2.2.2.2.2.2.2.2.2.2.2.2.2.2.2.2.2.2.2.2.2.1,(z0.2.1.length:Int),0,())):
 (t22 (ss,fs,tF (tB []) ⟨v,sm,fi,tb,mM⟩ (vE [] h ()))).val=
  cF (Qi mM) (cF (k34 (ss,fs,())) (cF (decide (ss.length<=1099511627776)) (cF (ND EC uk rV a0) (cF (decide (z0.2.1.length<=549755813888)) (cF (ND CU tC rW a2) (some (cq KT (lo1 CU tC rW a2)))))))):=by
 subst ha2;subst hz;subst ha;subst hb
 show _=_
 kernel_rfl
section
variable (v sm fi tb:List Int)(h:Hos)(bad:Bool)
theorem Vb(md:cf tM)(i:Int)(ss:List (den mc))(n:Int)(fs:List (den oW))(sg:List (den mc))(s1:den mc)(B5:s1=sg.getD i.toNat (cE mc)):(EC (cq uk (ss,fs,sg,tF (tB (sx [.bool,i64,i64])) ⟨v,sm,fi,tb,md⟩ (vE (sx [.bool,i64,i64]) h (A1 [.bool,i64,i64] md (bad,n,i,())))))).val=
 bif decide (i<n)then(cF (cZ i (sg.length:Int)) (cF (decide (s1.1.length<=1099511627776)) (cF (decide (s1.2.length<=1099511627776)) (cF (cZ i (sg.length:Int)) (some (.next (cq uk (ss,fs,sg.set i.toNat (s1.1,s1.2),tF (tB (sx [.bool,i64,i64])) ⟨v,sm,fi,tb,md⟩ (vE (sx [.bool,i64,i64]) h (A1 [.bool,i64,i64] md (bad,n,cY .i64 i 1,())))))))))))else some (.out 0 (cq rV (ss,fs,sg,tF (tB (sx [.bool])) ⟨v,sm,fi,tb,md⟩ (vE (sx [.bool]) h (A1 [.bool] md (bad,())))))):=by
 subst B5
 show _=_
 kernel_rfl
theorem Vc(m:Qe)(n i:Int)(fn:den oW)(hf:fn=m.fns.getD i.toNat (cE oW)):(CU (cq tC (qn [i64,i64] m (n,i,())))).val=
 bif decide (i<n)then(cF (cZ i (m.fns.length:Int)) (cF (decide (fn.2.2.2.2.2.1.length<=1099511627776)) (cF (cZ i (m.fns.length:Int)) (some (.next (cq tC (qn [i64,i64] {m with fns:=m.fns.set i.toNat (fn.1,fn.2.1,fn.2.2.1,fn.2.2.2.1,fn.2.2.2.2.1,fn.2.2.2.2.2.1,fn.2.2.2.2.2.2)} (n,cY .i64 i 1,()))))))))else some (.out 0 (cq rW (qn [] m ()))):=by
 subst hf
 show _=_
 kernel_rfl
end
end Go.Proofs.Vq

noncomputable section
namespace Go.Proofs.Vq
open Go.Ab Go.Ab.Lf
set_option maxRecDepth 100000
theorem Vd(m:Qe)(f fu:Int)(az ty:List Int)(n i:Int):(EA (cq sy (qn [i64,i64,.cp u64,.cp i64,i64,i64] m (f,fu,az,ty,n,i,())))).val=
 bif decide (i<n)then(cF (cZ i (ty.length:Int)) (bif decide (ty.getD i.toNat (cE i64)=127)then(cF (cZ i (az.length:Int)) (cF (cZ i (az.length:Int)) (some (.next (cq sy (qn [i64,i64,.cp u64,.cp i64,i64,i64] m (f,fu,az.set i.toNat (mN .u64 (az.getD i.toNat (cE u64)) 4294967295),ty,n,cY .i64 i 1,())))))))else some (.next (cq sy (qn [i64,i64,.cp u64,.cp i64,i64,i64] m (f,fu,az,ty,n,cY .i64 i 1,()))))))else some (.out 0 (cq rU (qn [i64,i64,.cp u64] m (f,fu,az,())))):=by
 show _=_
 kernel_rfl
def mc3(y:cf (DJ [i64,i64,.cp u64])):Qe:=⟨y.1,y.2.1,⟨y.2.2.1,y.2.2.2.1,y.2.2.2.2.1,y.2.2.2.2.2.1,(y.2.2.2.2.2.2.1,y.2.2.2.2.2.2.2.1,y.2.2.2.2.2.2.2.2.1,y.2.2.2.2.2.2.2.2.2.1,y.2.2.2.2.2.2.2.2.2.2.1,y.2.2.2.2.2.2.2.2.2.2.2.1,y.2.2.2.2.2.2.2.2.2.2.2.2.1,y.2.2.2.2.2.2.2.2.2.2.2.2.2.1,y.2.2.2.2.2.2.2.2.2.2.2.2.2.2.1,y.2.2.2.2.2.2.2.2.2.2.2.2.2.2.2.1,y.2.2.2.2.2.2.2.2.2.2.2.2.2.2.2.2.1,())⟩,⟨y.2.2.2.2.2.2.2.2.2.2.2.2.2.2.2.2.2.1,y.2.2.2.2.2.2.2.2.2.2.2.2.2.2.2.2.2.2.1,y.2.2.2.2.2.2.2.2.2.2.2.2.2.2.2.2.2.2.2.1⟩,(y.2.2.2.2.2.2.2.2.2.2.2.2.2.2.2.2.2.2.2.2.1,y.2.2.2.2.2.2.2.2.2.2.2.2.2.2.2.2.2.2.2.2.2.1,y.2.2.2.2.2.2.2.2.2.2.2.2.2.2.2.2.2.2.2.2.2.2.1,y.2.2.2.2.2.2.2.2.2.2.2.2.2.2.2.2.2.2.2.2.2.2.2.1,y.2.2.2.2.2.2.2.2.2.2.2.2.2.2.2.2.2.2.2.2.2.2.2.2.1,y.2.2.2.2.2.2.2.2.2.2.2.2.2.2.2.2.2.2.2.2.2.2.2.2.2.1,y.2.2.2.2.2.2.2.2.2.2.2.2.2.2.2.2.2.2.2.2.2.2.2.2.2.2.1,y.2.2.2.2.2.2.2.2.2.2.2.2.2.2.2.2.2.2.2.2.2.2.2.2.2.2.2.1,y.2.2.2.2.2.2.2.2.2.2.2.2.2.2.2.2.2.2.2.2.2.2.2.2.2.2.2.2.1,y.2.2.2.2.2.2.2.2.2.2.2.2.2.2.2.2.2.2.2.2.2.2.2.2.2.2.2.2.2.1,y.2.2.2.2.2.2.2.2.2.2.2.2.2.2.2.2.2.2.2.2.2.2.2.2.2.2.2.2.2.2.1,()),y.2.2.2.2.2.2.2.2.2.2.2.2.2.2.2.2.2.2.2.2.2.2.2.2.2.2.2.2.2.2.2.1⟩
theorem as4(g:Cg)(m:Qe)(f fu:Int)(az:List Int)(fn:den oW)(hfn:fn=m.fns.getD f.toNat (cE oW))(sg:den mc)(hsg:sg=m.sigs.getD (fn.2.1:Int).toNat (cE mc))(a:cf sy)(ha:a=qn [i64,i64,.cp u64,.cp i64,i64,i64] m (f,fu,az,sg.1,(sg.1.length:Int),0,()))
 (z:cf rU)(hz:z=lo1 EA sy rU a)(c:cf (Ac [i64,.cp u64]))(hc:c=y5 [i64,.cp u64] ⟨mc3 z,min (max (z.2.2.2.2.2.2.2.2.2.2.2.2.2.2.2.2.2.2.2.2.2.2.2.2.2.2.2.2.2.2.2.2.2.1:Int) 0) 100000,0,0,0⟩ (z.2.2.2.2.2.2.2.2.2.2.2.2.2.2.2.2.2.2.2.2.2.2.2.2.2.2.2.2.2.2.2.2.1,z.2.2.2.2.2.2.2.2.2.2.2.2.2.2.2.2.2.2.2.2.2.2.2.2.2.2.2.2.2.2.2.2.2.2.1,()))(R:Rn)(hR:R=rnO (g.2 c).2):
 (t23 g (qn [i64,.cp u64,i64] m (f,az,fu,()))).val=
  (let E:=some (cq Ga (1,0,[],0,qn [] m ()))
   bif decide (f<0)then E else bif decide ((m.fns.length:Int)<=f)then E else cF (cZ f (m.fns.length:Int)) (bif !decide ((az.length:Int)=fn.2.2.1)then E else
   bif m.bad then some (cq Ga (40,0,[],0,qn [] m ()))else
   cF (decide (az.length<=1099511627776)) (cF (cZ f (m.fns.length:Int)&&cZ fn.2.1 (m.sigs.length:Int)) (cF (ND EA sy rU a) (cF (g.1 c)
    (bif decide (R.err=0)then some (cq Ga (R.err,0,(g.2 c).1,R.fuel,qn [] R.m ()))else bif decide (R.err=28)then some (cq Ga (R.err,R.m.h.code,[],R.fuel,qn [] R.m ()))else some (cq Ga (R.err,0,[],R.fuel,qn [] R.m ())))))))):=by
 subst hR;subst hc;subst hz;subst ha;subst hsg;subst hfn
 show _=_
 kernel_rfl
end Go.Proofs.Vq

noncomputable section
namespace Go.Proofs.Vq
open Go.Ab Go.Ab.Lf
set_option maxRecDepth 100000
theorem K7{f:List Pl->Lf.T Rs}(n:Nat)(st:Nat->List Pl)(o0:List Pl)
 (yU: ∀ j,j<n->(f (st j)).val=some (.next (st (j+1))))(FZ:(f (st n)).val=some (.out 0 o0)):uh f (st 0) 0 o0:=by
 have key: ∀ (k j:Nat),j+k=n->uh f (st j) 0 o0:=by
  intro k
  induction k with
  |zero=>
   intro j h
   have:j=n:=by omega
   subst this
   exact .last FZ
  |succ k ih=>exact fun j h=>.more (yU j (by omega)) (ih (j+1) (by omega))
 exact key n 0 (by omega)
theorem IJ{α:Type}(l:List α)(j:Nat)(d:α)(h:j<l.length):l.set j (l.getD j d)=l:=by
 rw[List.getD_eq_getElem?_getD,List.getElem?_eq_getElem h]
 exact List.set_getElem_self h
section
variable (ss:List (den mc))(fs:List (den oW))(v sm fi tb:List Int)(h:Hos)(bad:Bool)
theorem af5(H:Fits ss fs):uh EC (cq uk (ss,fs,ss,tF (tB (sx [.bool,i64,i64])) ⟨v,sm,fi,tb,mM⟩ (vE (sx [.bool,i64,i64]) h (A1 [.bool,i64,i64] mM (bad,(ss.length:Int),((0:Nat):Int),()))))) 0
 (cq rV (ss,fs,ss,tF (tB (sx [.bool])) ⟨v,sm,fi,tb,mM⟩ (vE (sx [.bool]) h (A1 [.bool] mM (bad,()))))):=by
 refine K7 ss.length (fun j=>cq uk (ss,fs,ss,tF (tB (sx [.bool,i64,i64])) ⟨v,sm,fi,tb,mM⟩ (vE (sx [.bool,i64,i64]) h (A1 [.bool,i64,i64] mM (bad,(ss.length:Int),(j:Int),()))))) _ (fun j hj=>?_) ?_
 ·obtain⟨h1,h2⟩:=H.s _ (wx hj (cE mc))
  refine(Vb v sm fi tb h bad mM (j:Int) ss (ss.length:Int) fs ss (ss.getD j (cE mc)) (by rw[Int.toNat_natCast])).trans ?_
  rw[ui hj,show cZ (j:Int) (ss.length:Int)=true from pN hj,dt h1,dt h2,ad1 (by have:=H.ls;omega),Int.toNat_natCast]
  rw[show ss.set j ((ss.getD j (cE mc)).1,(ss.getD j (cE mc)).2)=ss from IJ ss j (cE mc) hj]
  rfl
 ·refine(Vb v sm fi tb h bad mM (ss.length:Int) ss (ss.length:Int) fs ss _ rfl).trans ?_
  rw[rH (Nat.le_refl _)]
  rfl
theorem af6(H:Fits ss fs)(m:Qe)(hm:m=⟨ss,fs,⟨v,sm,fi,tb,mM⟩,h,mM,bad⟩):uh CU (cq tC (qn [i64,i64] m ((fs.length:Int),((0:Nat):Int),()))) 0 (cq rW (qn [] m ())):=by
 have hfs:m.fns=fs:=by rw[hm]
 refine K7 fs.length (fun j=>cq tC (qn [i64,i64] m ((fs.length:Int),(j:Int),()))) _ (fun j hj=>?_) ?_
 ·have hf:=H.f _ (wx hj (cE oW))
  refine(Vc m (fs.length:Int) (j:Int) (fs.getD j (cE oW)) (by rw[hfs,Int.toNat_natCast])).trans ?_
  rw[hfs,ui hj,show cZ (j:Int) (fs.length:Int)=true from pN hj,dt hf,ad1 (by have:=H.lf;omega),Int.toNat_natCast]
  rw[show fs.set j ((fs.getD j (cE oW)).1,(fs.getD j (cE oW)).2.1,(fs.getD j (cE oW)).2.2.1,(fs.getD j (cE oW)).2.2.2.1,(fs.getD j (cE oW)).2.2.2.2.1,(fs.getD j (cE oW)).2.2.2.2.2.1,(fs.getD j (cE oW)).2.2.2.2.2.2)=fs from IJ fs j (cE oW) hj]
  rw[show({m with fns:=fs}:Qe)=m by rw[<-hfs]]
  rfl
 ·refine(Vc m (fs.length:Int) (fs.length:Int) _ rfl).trans ?_
  rw[rH (Nat.le_refl _)]
  rfl
theorem aaL(H:Fits ss fs)(hlf:fs.length<=549755813888)(hb:bad= !EI ss fs):
 k22 (ss,fs,tF (tB []) ⟨v,sm,fi,tb,mM⟩ (vE [] h ()))=true/\m22 (ss,fs,tF (tB []) ⟨v,sm,fi,tb,mM⟩ (vE [] h ()))=qn [] ⟨ss,fs,⟨v,sm,fi,tb,mM⟩,h,mM,bad⟩ ():=by
 obtain⟨c1,c2⟩:=c34 ss fs H
 refine mO (ca _) (ca _) ?_
 have q0:=Ie (af5 ss fs v sm fi tb h bad H)
 have q2:=Ie (af6 ss fs v sm fi tb h bad H _ rfl)
 have af7:bad= !decide ((m34 (ss,fs,())).1=0):=by
  rw[hb,c2]
  cases EI ss fs<;>rfl
 refine(as3 ss fs v sm fi tb h bad af7 _ rfl _ q0.2.symm _ rfl).trans ?_
 rw[Bp,c1,dt H.ls]
 rw[vu rfl,vu rfl,vu rfl]
 show cF (ND EC uk rV (ss,fs,ss,tF (tB (sx [.bool,i64,i64])) ⟨v,sm,fi,tb,mM⟩ (vE (sx [.bool,i64,i64]) h (A1 [.bool,i64,i64] mM (bad,(ss.length:Int),((0:Nat):Int),()))))) (cF (decide (fs.length<=549755813888)) (cF (ND CU tC rW (qn [i64,i64] ⟨ss,fs,⟨v,sm,fi,tb,mM⟩,h,mM,bad⟩ ((fs.length:Int),((0:Nat):Int),()))) (some (cq KT (lo1 CU tC rW (qn [i64,i64] ⟨ss,fs,⟨v,sm,fi,tb,mM⟩,h,mM,bad⟩ ((fs.length:Int),((0:Nat):Int),())))))))=_
 rw[q0.1,q2.1,q2.2,dt hlf]
 rfl
end
def mask(ty az:List Int):Nat->List Int
 |0=>az
 |j+1=>bif decide (ty.getD j 0=127)then(mask ty az j).set j (mN .u64 ((mask ty az j).getD j 0) 4294967295)else mask ty az j
theorem C3(ty az:List Int): ∀ j,(mask ty az j).length=az.length
 |0=>rfl
 |j+1=>by
  show(bif decide (ty.getD j 0=127)then(mask ty az j).set j _ else mask ty az j).length=_
  cases decide (ty.getD j 0=127)
  ·exact C3 ty az j
  ·rw[cond_true,List.length_set];exact C3 ty az j
theorem af8(m:Qe)(f fu:Int)(az ty:List Int)(hl:ty.length=az.length)(hn:az.length<=1099511627776):uh EA (cq sy (qn [i64,i64,.cp u64,.cp i64,i64,i64] m (f,fu,az,ty,(ty.length:Int),((0:Nat):Int),()))) 0 (cq rU (qn [i64,i64,.cp u64] m (f,fu,mask ty az ty.length,()))):=by
 refine K7 ty.length (fun j=>cq sy (qn [i64,i64,.cp u64,.cp i64,i64,i64] m (f,fu,mask ty az j,ty,(ty.length:Int),(j:Int),()))) _ (fun j hj=>?_) ?_
 ·refine(Vd m f fu (mask ty az j) ty (ty.length:Int) (j:Int)).trans ?_
  rw[ui hj,show cZ (j:Int) (ty.length:Int)=true from pN hj,show cZ (j:Int) ((mask ty az j).length:Int)=true from pN (by rw[C3];omega),ad1 (by omega),Int.toNat_natCast]
  show cF true (bif decide (ty.getD j 0=127)then _ else _)=some (Rs.next (cq sy (qn [i64,i64,.cp u64,.cp i64,i64,i64] m (f,fu,(bif decide (ty.getD j 0=127)then(mask ty az j).set j (mN .u64 ((mask ty az j).getD j 0) 4294967295)else mask ty az j),ty,(ty.length:Int),((j+1:Nat):Int),()))))
  cases decide (ty.getD j 0=127)<;>rfl
 ·refine(Vd m f fu (mask ty az ty.length) ty (ty.length:Int) (ty.length:Int)).trans ?_
  rw[rH (Nat.le_refl _)]
  rfl
end Go.Proofs.Vq

noncomputable section
namespace Go.Proofs.Vq
open Go.Ab Go.Ab.Lf Go.Proofs.Sw
set_option maxRecDepth 100000
def C4(n b:Nat)(l:List Sc):List (den nd):=((List.range n).map Sc.g).map (toC 0)++(l.map (toC (b:Int))++[((15:Int),(0:Int),(0:Int))])
abbrev rq(n o b N:Nat)(l:List Sc):den oW:=((-1:Int),(0:Int),(n:Int),(o:Int),((b - n+N:Nat):Int),C4 n b l,[])
theorem Oh(xs:List Nat)(lo:Nat->Nat)(h: ∀ i,i<xs.length->lo i=xs.getD i 0): ∀ k,k<=xs.length->run ((List.range k).map Sc.g) [] lo=some ((xs.take k).reverse,lo)
 |0,_=>rfl
 |k+1,hk=>by
  rw[List.range_succ,List.map_append]
  refine(oA _ _ _ _ (Oh xs lo h k (by omega))).trans ?_
  show some (lo k::_,lo)=_
  rw[h k (by omega),List.take_add_one,List.getD_eq_getElem?_getD,List.getElem?_eq_getElem (by omega),List.reverse_append]
  rfl
section
variable (g:Cg){xs ys:List Nat}{b N:Nat}{l:List Sc}{nK:Nat->Nat}(hx: ∀ v,v∈xs->v<nh)(hn:xs.length<=b)(hb:b+N<=10000)(hl:l.length<=10000)(MS: ∀ c,c∈l->Bu N c=true)(hr:run l xs.reverse (fun _=>0)=some (ys.reverse,nK))
include hx hn hb hl MS hr
theorem af9(m:Qe)(fu ho de:Int)(lo0:List Int)(GA:lo0=xs.map (fun(n:Nat)=>(n:Int))++List.replicate (b - xs.length+N) (0:Int)): ∃ pc p',uh (A2 g) (cq q8 (cX (rq xs.length ys.length b N l) ⟨⟨m,fu,ho,de,0⟩,rq xs.length ys.length b N l,((0:Nat):Int),[],lo0⟩)) 0
 (cq pZ (cz [] ⟨⟨m,fu,ho,de,0⟩,rq xs.length ys.length b N l,pc,ys.map (fun(n:Nat)=>(n:Int)),p'⟩ ())):=by
 obtain⟨f0,Q1⟩: ∃ f0,f0=rq xs.length ys.length b N l:=⟨_,rfl⟩
 rw[<-Q1]
 obtain⟨cs,rj⟩: ∃ cs,cs=f0.2.2.2.2.2.1:=⟨_,rfl⟩
 have zX:cs=C4 xs.length b l:=by rw[rj,Q1]
 have hl0:lo0.length=b+N:=by rw[GA,List.length_append,List.length_map,List.length_replicate];omega
 have sti: ∀ zs:List Nat,zn zs.reverse=zs.map (fun(n:Nat)=>(n:Int)):=fun zs=>by unfold zn;rw[List.reverse_reverse]
 have K8:((List.range xs.length).map Sc.g).length=xs.length:=by rw[List.length_map,List.length_range]
 have hxN: ∀ i,i<xs.length->xs.getD i 0<nh:=fun i hi=>hx _ (by rw[List.getD_eq_getElem?_getD,List.getElem?_eq_getElem hi];exact List.getElem_mem hi)
 have l0: ∀ a,a<b+N->lo0.getD (0+a) 0=((if a<xs.length then xs.getD a 0 else 0:Nat):Int):=fun a ha=>by
  rw[Nat.zero_add,GA,List.getD_eq_getElem?_getD]
  by_cases h:a<xs.length
  ·rw[if_pos h,List.getElem?_append_left (by rw[List.length_map];exact h),List.getElem?_map,List.getElem?_eq_getElem h,List.getD_eq_getElem?_getD,List.getElem?_eq_getElem h]
   rfl
  ·rw[if_neg h,List.getElem?_append_right (by rw[List.length_map];omega),List.getElem?_replicate,List.length_map]
   split<;>rfl
 have fin: ∀ p':List Int,p'.length=b+N->uh (A2 g) (cq q8 (cX f0 ⟨⟨m,fu,ho,de,0⟩,f0,((xs.length+l.length:Nat):Int),ys.map (fun(n:Nat)=>(n:Int)),p'⟩)) 0
  (cq pZ (cz [] ⟨⟨m,fu,ho,de,0⟩,f0,-1,ys.map (fun(n:Nat)=>(n:Int)),p'⟩ ())):=by
  intro p' _
  have yl:ys.length<=100000:=by
   have: ∀ (l:List Sc) (st:List Nat) (lo:Nat->Nat) (Bv:List Nat) (nK:Nat->Nat),run l st lo=some (Bv,nK)->Bv.length<=st.length+l.length:=by
    intro l
    induction l with
    |nil=>intro st lo Bv nK h;cases h;simp
    |cons c l ih=>
     intro st lo Bv nK h
     cases c with
     |g a=>have:=ih (lo a::st) lo Bv nK h;simp at this ⊢;omega
     |s a=>
      cases st with
      |nil=>cases h
      |cons v st=>have:=ih st _ Bv nK h;simp at this ⊢;omega
     |k n=>have:=ih (n::st) lo Bv nK h;simp at this ⊢;omega
     |o op=>
      change (match JD op st with|some st=>run l st lo|none=>none)=some (Bv,nK)at h
      cases e:JD op st with
      |none=>rw[e]at h;cases h
      |some s1=>
       rw[e]at h
       have h1:=ih s1 lo Bv nK h
       have h2:=aaK e
       simp at h1 ⊢;omega
   have h:=this l _ _ _ _ hr
   rw[List.length_reverse,List.length_reverse]at h
   omega
  obtain⟨x,hx⟩: ∃ x:wQ,x=⟨⟨m,fu,ho,de,0⟩,f0,((xs.length+l.length:Nat):Int),ys.map (fun(n:Nat)=>(n:Int)),p'⟩:=⟨_,rfl⟩
  have uP:x.st.length=ys.length:=by rw[hx];exact List.length_map ..
  have h15:=S15 g x 0 0 ys.length (by rw[hx,Q1]) (by rw[uP];exact Nat.le_refl _) (by rw[uP];omega)
  rw[uP,Nat.sub_self,List.drop_zero]at h15
  have hd:cs.drop (xs.length+l.length)=((15:Int),(0:Int),(0:Int)):: []:=by
   rw[zX]
   unfold C4
   rw[<-List.append_assoc,List.drop_append,List.length_append,List.length_map,K8,List.length_map,Nat.sub_self,List.drop_eq_nil_of_le (by rw[List.length_append,List.length_map,K8,List.length_map];exact Nat.le_refl _)]
   rfl
  have t:=akJ g (x:=x) (cs:=cs) (by rw[hx];exact rj) (by rw[hx]) (pc:=xs.length+l.length) (by rw[hx]) hd f0 rj h15
  rw[<-hx]
  refine .more t (.last ?_)
  refine(acI g _ f0 _ _ _ _ cs rj _ rfl _ rfl _ rfl).trans ?_
  have e:(bif decide (({x with pc:= -1,st:=x.st}:wQ).r.err=0)then decide ((0:Int)<=({x with pc:= -1,st:=x.st}:wQ).pc)else false)=false:=by
   rw[df (show ¬ (0:Int)<=({x with pc:= -1,st:=x.st}:wQ).pc from(by decide: ¬ (0:Int)<= -1))];cases decide (({x with pc:= -1,st:=x.st}:wQ).r.err=0)<;>rfl
  rw[e,hx]
  rfl
 have akM: ∀ lo1:List Int,∃ p':List Int,lo1.length=lo0.length->(∀ a,a<b+N->lo1.getD (0+a) 0=((if a<xs.length then xs.getD a 0 else 0:Nat):Int))->uh (A2 g) (cq q8 (cX f0 ⟨⟨m,fu,ho,de,0⟩,f0,((xs.length:Nat):Int),xs.map (fun(n:Nat)=>(n:Int)),lo1⟩)) 0
  (cq pZ (cz [] ⟨⟨m,fu,ho,de,0⟩,f0,-1,ys.map (fun(n:Nat)=>(n:Int)),p'⟩ ())):=by
  intro lo1
  by_cases h1:lo1.length=lo0.length
  rotate_left
  ·exact⟨[],fun h=>absurd h h1⟩
  by_cases h2: ∀ a,a<b+N->lo1.getD (0+a) 0=((if a<xs.length then xs.getD a 0 else 0:Nat):Int)
  rotate_left
  ·exact⟨[],fun _ h=>absurd h h2⟩
  obtain⟨p',R⟩:=K6 g rj (b:=b) (N:=N) (by omega) (r:=[((15:Int),(0:Int),(0:Int))]) (q:=fun p'=>cq pZ (cz [] ⟨⟨m,fu,ho,de,0⟩,f0,-1,ys.map (fun(n:Nat)=>(n:Int)),p'⟩ ())) l xs.length ⟨⟨m,fu,ho,de,0⟩,f0,((xs.length:Nat):Int),xs.map (fun(n:Nat)=>(n:Int)),lo1⟩ xs.reverse (fun _=>0) ys.reverse nK hr MS
   (fun v hv=>hx v (by simpa using hv)) (fun _ _=>by decide) rj rfl rfl (by omega) (by
    rw[zX]
    unfold C4
    rw[List.drop_append,List.length_map,K8,Nat.sub_self,List.drop_eq_nil_of_le (by rw[List.length_map,K8];exact Nat.le_refl _)]
    rfl) (sti xs).symm (by rw[List.length_reverse];omega) (by show b+N<=lo1.length;omega) (by omega) (fun a ha=>by
    have:=h2 (b+a) (by omega)
    rw[Nat.zero_add,if_neg (by omega)]at this
    exact this) fun p' JE _=>by
    rw[sti]
    exact fin p' (by rw[JE];show lo1.length=_;omega)
  exact⟨p',fun _ _=>R⟩
 obtain⟨F,hF⟩:=Classical.axiomOfChoice akM
 obtain⟨p',R⟩:=K6 g rj (b:=0) (N:=b+N) (by omega) (r:=l.map (toC (b:Int))++[((15:Int),(0:Int),(0:Int))]) (q:=fun lo1=>cq pZ (cz [] ⟨⟨m,fu,ho,de,0⟩,f0,-1,ys.map (fun(n:Nat)=>(n:Int)),F lo1⟩ ())) ((List.range xs.length).map Sc.g) 0 ⟨⟨m,fu,ho,de,0⟩,f0,((0:Nat):Int),[],lo0⟩ [] (fun a=>if a<xs.length then xs.getD a 0 else 0) xs.reverse _ (by
  have:=Oh xs (fun a=>if a<xs.length then xs.getD a 0 else 0) (fun i hi=>if_pos hi) xs.length (Nat.le_refl _)
  rwa [List.take_of_length_le (Nat.le_refl _)]at this)
  (fun c hc=>by
   obtain⟨i,hi,rfl⟩:=List.mem_map.1 hc
   have:=List.mem_range.1 hi
   show Nat.blt i (b+N)=true
   simp;omega) (fun v hv=>by cases hv) (fun a _=>by
    show(if a<xs.length then xs.getD a 0 else 0)<nh
    split
    ·exact hxN a ‹_›
    ·decide) rj rfl rfl (by rw[K8];omega) (by rw[zX];rfl) rfl (by rw[K8];simp;omega) (by show 0+(b+N)<=lo0.length;omega) (by omega) l0 fun lo1 hl1 hc1=>by
    have:=hF lo1 hl1 hc1
    rw[sti,K8,Nat.zero_add]
    exact this
 exact⟨_,_,R⟩
end
end Go.Proofs.Vq

noncomputable section
namespace Go.Proofs.Vq
open Go.Ab Go.Ab.Lf Go.Proofs.Sw
set_option maxRecDepth 100000
abbrev toI(xs:List Nat):List Int:=xs.map fun(n:Nat)=>(n:Int)
abbrev g1(g:Cg):Cg:=(k73 g,m73 g)
theorem Oi(ty az:List Int)(h: ∀ j,ty.getD j 0≠127): ∀ j,mask ty az j=az
 |0=>rfl
 |j+1=>by
  show(bif decide (ty.getD j 0=127)then(mask ty az j).set j _ else mask ty az j)=az
  rw[df (h j)]
  exact Oi ty az h j
section
variable (g:Cg){xs ys:List Nat}{b N:Nat}{l:List Sc}{nK:Nat->Nat}(hx: ∀ v,v∈xs->v<nh)(hn:xs.length<=b)(hb:b+N<=10000)(hl:l.length<=10000)(MS: ∀ c,c∈l->Bu N c=true)(hr:run l xs.reverse (fun _=>0)=some (ys.reverse,nK))(hy:ys.length<=100000)
include hx hn hb hl MS hr hy
theorem Ve(m:Qe)(hm:m.fns=[rq xs.length ys.length b N l])(fu:Int):k73 g (y5 [i64,.cp u64] ⟨m,fu,0,0,0⟩ (0,toI xs,()))=true/\m73 g (y5 [i64,.cp u64] ⟨m,fu,0,0,0⟩ (0,toI xs,()))=(toI ys,y5 [] ⟨m,fu,0,0,0⟩ ()):=by
 obtain⟨pc,p',r⟩:=af9 g hx hn hb hl MS hr m fu 0 1 _ rfl
 obtain⟨f0,Q1⟩: ∃ f0,f0=rq xs.length ys.length b N l:=⟨_,rfl⟩
 rw[<-Q1]at r hm
 obtain⟨k,hk⟩: ∃ k:Nat,k=b - xs.length+N:=⟨_,rfl⟩
 have hfl:(f0.2.2.2.2.1:Int)=(k:Int):=by rw[Q1,hk]
 have hf1:(f0.1:Int)= -1:=by rw[Q1]
 rw[<-hk]at r
 obtain⟨q1,q2⟩:=Ie (f:=A2 g) (ti:=q8) (to:=pZ) r
 refine mO (ca _) (ca _) ?_
 have e0:app (toI xs) (List.replicate (f0.2.2.2.2.1:Int).toNat (0:Int))=toI xs++List.replicate k 0:=by rw[mP,hfl,Int.toNat_natCast]
 have e:=asx g ⟨m,fu,0,0,0⟩ 0 (toI xs) f0 (by rw[hm];rfl) (cL ⟨m,fu,0,1,0⟩ f0 f0 ((0:Nat):Int) [] (toI xs++List.replicate k 0)) (by
  rw[e0]
  show cL ⟨m,fu,0,1,0⟩ f0 f0 0 [] _=cL {(⟨m,fu,0,0,0⟩:Rn)with depth:=cY .i64 0 1} f0 f0 0 [] _
  rw[show cY .i64 0 1=1 from by kernel_rfl]) ⟨⟨m,fu,0,1,0⟩,f0,pc,toI ys,p'⟩ (by rw[q2];rfl)
 refine e.trans ?_
 have lx:(toI xs).length=xs.length:=List.length_map ..
 have ly:(toI ys).length=ys.length:=List.length_map ..
 rw[q1,show cZ 0 (m.fns.length:Int)=true by rw[hm];rfl,hf1,hfl,df (show ¬ (0:Int)<= -1 by decide),df (show ¬ (0:Int)=64 by decide),dt (show(toI xs).length<=1099511627776 by rw[lx];omega),dt (rfl:(k:Int)=(k:Int)),dt (show(0:Int)<=(k:Int) by omega),
  show roomy 8 ((toI xs).length+(List.replicate (k:Int).toNat (0:Int)).length)=true from rS (by decide) (by rw[lx,List.length_replicate,Int.toNat_natCast];omega),dt (show(toI ys).length<=1099511627776 by rw[ly];omega)]
 show some (cq Iw (toI ys,y5 [] ⟨m,fu,0,cA .i64 1 1,0⟩ ()))=_
 rw[show cA .i64 1 1=0 from by kernel_rfl]
theorem run_seq(m:Qe)(hm:m.fns=[rq xs.length ys.length b N l])(o:Nat)(hs:m.sigs=[(List.replicate xs.length (126:Int),List.replicate o (126:Int))])(af7:m.bad=false):
 k23 (g1 g) (qn [i64,.cp u64,i64] m (0,toI xs,0,()))=true/\m23 (g1 g) (qn [i64,.cp u64,i64] m (0,toI xs,0,()))=(0,0,toI ys,0,qn [] m ()):=by
 obtain⟨c1,c2⟩:=Ve g hx hn hb hl MS hr hy m hm 0
 obtain⟨fn,hfn⟩: ∃ fn,fn=rq xs.length ys.length b N l:=⟨_,rfl⟩
 rw[<-hfn]at hm
 obtain⟨ty,hty⟩: ∃ ty,ty=List.replicate xs.length (126:Int):=⟨_,rfl⟩
 rw[<-hty]at hs
 have lx:(toI xs).length=xs.length:=List.length_map ..
 have lty:ty.length=xs.length:=by rw[hty];exact List.length_replicate
 have r:=af8 m 0 0 (toI xs) ty (by omega) (by omega)
 rw[Oi ty (toI xs) (fun j=>by
  rw[hty,List.getD_eq_getElem?_getD,List.getElem?_replicate]
  split<;>decide)]at r
 obtain⟨q1,q2⟩:=Ie (f:=EA) (ti:=sy) (to:=rU) r
 have hfi:(fn.2.2.1:Int)=((toI xs).length:Int):=by rw[hfn,lx]
 have hfs:(fn.2.1:Int)=0:=by rw[hfn]
 refine mO (ca _) (ca _) ?_
 have e:=as4 (g1 g) m 0 0 (toI xs) fn (by rw[hm];rfl) (ty,List.replicate o (126:Int)) (by rw[hs,hfs];rfl) (qn [i64,i64,.cp u64,.cp i64,i64,i64] m (0,0,toI xs,ty,(ty.length:Int),((0:Nat):Int),())) rfl _ q2.symm (y5 [i64,.cp u64] ⟨m,0,0,0,0⟩ (0,toI xs,())) (by show _=_;kernel_rfl) ⟨m,0,0,0,0⟩ (by show _=rnO (m73 g _).2;rw[c2];rfl)
 refine e.trans ?_
 rw[df (show ¬ (0:Int)<0 by decide),hm,show([fn]:List (den oW)).length=1 from rfl,df (show ¬ ((1:Nat):Int)<=0 by decide),hfi,dt (rfl:((toI xs).length:Int)=((toI xs).length:Int)),af7,dt (show(toI xs).length<=1099511627776 by omega),hfs,hs,q1,show(g1 g).1 (y5 [i64,.cp u64] ⟨m,0,0,0,0⟩ (0,toI xs,()))=true from c1,show(g1 g).2 (y5 [i64,.cp u64] ⟨m,0,0,0,0⟩ (0,toI xs,()))=_ from c2]
 rfl
end
end Go.Proofs.Vq

noncomputable section
namespace Go.Proofs.Vq
open Go.Ab Go.Ab.Lf
set_option maxRecDepth 100000
abbrev tV(l:List Ty):List Ty:=u8::u8::u8::u8::u8::u8::u8::u8::u8::u8::u8::u8::u8::u8::u8::u8::l
abbrev pV:qH:=.ag (Ps [.n .u8,.n .u8,.n .u8,.n .u8,.n .u8,.n .u8,.n .u8,.n .u8,.n .u8,.n .u8,.n .u8,.n .u8,.n .u8,.n .u8,.n .u8,.n .u8])
abbrev cV(l:List Ty)(v:Nat->Int)(r:cf l):cf (tV l):=(v 0,v 1,v 2,v 3,v 4,v 5,v 6,v 7,v 8,v 9,v 10,v 11,v 12,v 13,v 14,v 15,r)
def vO(y:cf (tV [])):Nat->Int
 |0=>y.1
 |1=>y.2.1
 |2=>y.2.2.1
 |3=>y.2.2.2.1
 |4=>y.2.2.2.2.1
 |5=>y.2.2.2.2.2.1
 |6=>y.2.2.2.2.2.2.1
 |7=>y.2.2.2.2.2.2.2.1
 |8=>y.2.2.2.2.2.2.2.2.1
 |9=>y.2.2.2.2.2.2.2.2.2.1
 |10=>y.2.2.2.2.2.2.2.2.2.2.1
 |11=>y.2.2.2.2.2.2.2.2.2.2.2.1
 |12=>y.2.2.2.2.2.2.2.2.2.2.2.2.1
 |13=>y.2.2.2.2.2.2.2.2.2.2.2.2.2.1
 |14=>y.2.2.2.2.2.2.2.2.2.2.2.2.2.2.1
 |15=>y.2.2.2.2.2.2.2.2.2.2.2.2.2.2.2.1
 | _=>0
def pd(v:Nat->Int)(j:Nat):Nat->Int
 |0=>0
 |n+1=>Kk .u64 (pd v j n) (uE .u64 (cb .u64 (v (j+n))) (Int.ofNat (8*n)))
def aaM(v:Nat->Int)(j n:Nat)(x:Int):Nat->Int:=fun m=>bif Nat.ble j m&&Nat.blt m (j+n)then cb .u8 (oP .u64 x (Int.ofNat (8*(m - j))))else v m
def Af(w i:Int):Bool:=(decide (w=8)&&(decide (0<=i)&&decide (i<16)))||((decide (w=16)&&(decide (0<=i)&&decide (i<8)))||((decide (w=32)&&(decide (0<=i)&&decide (i<4)))||(decide (w=64)&&(decide (0<=i)&&decide (i<2)))))
def af'(w i:Int):ny:=pW (Ps [pV,.li .i64 w,.li .i64 i]) [] (Ps [.n .u64]) (tV []) [u64] fun x=>.ok (pd (vO x) (i.toNat*(w.toNat / 8)) (w.toNat / 8),())
def aga(w i:Int):ny:=pW (Ps [pV,.li .i64 w,.li .i64 i,.n .u64]) [] (Ps [pV]) (tV [u64]) (tV []) fun x=>.ok (cV [] (aaM (vO (x.1,x.2.1,x.2.2.1,x.2.2.2.1,x.2.2.2.2.1,x.2.2.2.2.2.1,x.2.2.2.2.2.2.1,x.2.2.2.2.2.2.2.1,x.2.2.2.2.2.2.2.2.1,x.2.2.2.2.2.2.2.2.2.1,x.2.2.2.2.2.2.2.2.2.2.1,x.2.2.2.2.2.2.2.2.2.2.2.1,x.2.2.2.2.2.2.2.2.2.2.2.2.1,x.2.2.2.2.2.2.2.2.2.2.2.2.2.1,x.2.2.2.2.2.2.2.2.2.2.2.2.2.2.1,x.2.2.2.2.2.2.2.2.2.2.2.2.2.2.2.1,())) (i.toNat*(w.toNat / 8)) (w.toNat / 8) (x.2.2.2.2.2.2.2.2.2.2.2.2.2.2.2.2.1)) ())
theorem EJ{p:Int->Int->Prop}{w i:Int}(h:Af w i=true)(H:p 8 0/\p 8 1/\p 8 2/\p 8 3/\p 8 4/\p 8 5/\p 8 6/\p 8 7/\p 8 8/\p 8 9/\p 8 10/\p 8 11/\p 8 12/\p 8 13/\p 8 14/\p 8 15/\p 16 0/\p 16 1/\p 16 2/\p 16 3/\p 16 4/\p 16 5/\p 16 6/\p 16 7/\p 32 0/\p 32 1/\p 32 2/\p 32 3/\p 64 0/\p 64 1):p w i:=by
 unfold Af at h
 simp only[Bool.or_eq_true,Bool.and_eq_true,decide_eq_true_eq]at h
 obtain⟨as8,as9,as',ata,atb,atc,atd,ate,atf,atg,akN,akO,akP,akQ,akR,akS,akT,akU,akV,akW,akX,akY,akZ,ak0,ak1,ak2,ak3,ak4,ak5,ak6⟩:=H
 rcases h with⟨rfl,h1,h2⟩|⟨rfl,h1,h2⟩|⟨rfl,h1,h2⟩|⟨rfl,h1,h2⟩
 ·obtain rfl|rfl|rfl|rfl|rfl|rfl|rfl|rfl|rfl|rfl|rfl|rfl|rfl|rfl|rfl|rfl:i=0∨i=1∨i=2∨i=3∨i=4∨i=5∨i=6∨i=7∨i=8∨i=9∨i=10∨i=11∨i=12∨i=13∨i=14∨i=15:=by omega
  ·exact as8
  ·exact as9
  ·exact as'
  ·exact ata
  ·exact atb
  ·exact atc
  ·exact atd
  ·exact ate
  ·exact atf
  ·exact atg
  ·exact akN
  ·exact akO
  ·exact akP
  ·exact akQ
  ·exact akR
  ·exact akS
 ·obtain rfl|rfl|rfl|rfl|rfl|rfl|rfl|rfl:i=0∨i=1∨i=2∨i=3∨i=4∨i=5∨i=6∨i=7:=by omega
  ·exact akT
  ·exact akU
  ·exact akV
  ·exact akW
  ·exact akX
  ·exact akY
  ·exact akZ
  ·exact ak0
 ·obtain rfl|rfl|rfl|rfl:i=0∨i=1∨i=2∨i=3:=by omega
  ·exact ak1
  ·exact ak2
  ·exact ak3
  ·exact ak4
 ·obtain rfl|rfl:i=0∨i=1:=by omega
  ·exact ak5
  ·exact ak6
theorem aaN{cr:cx}(W:WQ cr){w i:Int}(h:Af w i=true):(af' w i).Ok 150 cr:=by
 have key: ∀ w i:Int,(∀ v0 v1 v2 v3 v4 v5 v6 v7 v8 v9 v10 v11 v12 K9 K' La:Int,(qA (Ps [pV,.li .i64 w,.li .i64 i]) [] (Ps [.n .u64]) (fun _=>none) Tryz.ajg 12 (pY [] 12) (cq (tV []) (v0,v1,v2,v3,v4,v5,v6,v7,v8,v9,v10,v11,v12,K9,K',La,()))).val=some (cq [u64] (pd (vO (v0,v1,v2,v3,v4,v5,v6,v7,v8,v9,v10,v11,v12,K9,K',La,())) (i.toNat*(w.toNat / 8)) (w.toNat / 8),())))->(af' w i).Ok 150 cr:=by
  intro w i e
  refine tw (W.in .nil 12) (W.st 150 _ rfl) rfl (cD _) (m:=12) rfl ?_
  rintro⟨v0,v1,v2,v3,v4,v5,v6,v7,v8,v9,v10,v11,v12,K9,K',La,⟨⟩⟩ q h
  cases h
  exact e v0 v1 v2 v3 v4 v5 v6 v7 v8 v9 v10 v11 v12 K9 K' La
 refine EJ (p:=fun w i=>(af' w i).Ok 150 cr) h ?_
 refine⟨?_,?_,?_,?_,?_,?_,?_,?_,?_,?_,?_,?_,?_,?_,?_,?_,?_,?_,?_,?_,?_,?_,?_,?_,?_,?_,?_,?_,?_,?_⟩<;>(refine key _ _ ?_;intro v0 v1 v2 v3 v4 v5 v6 v7 v8 v9 v10 v11 v12 K9 K' La;kernel_rfl)
theorem aaO{cr:cx}(W:WQ cr){w i:Int}(h:Af w i=true):(aga w i).Ok 249 cr:=by
 have key: ∀ w i:Int,(∀ v0 v1 v2 v3 v4 v5 v6 v7 v8 v9 v10 v11 v12 K9 K' La x:Int,(qA (Ps [pV,.li .i64 w,.li .i64 i,.n .u64]) [] (Ps [pV]) (fun _=>none) Tryz.ajs 12 (pY [] 12) (cq (tV [u64]) (v0,v1,v2,v3,v4,v5,v6,v7,v8,v9,v10,v11,v12,K9,K',La,x,()))).val=some (cq (tV []) (cV [] (aaM (vO (v0,v1,v2,v3,v4,v5,v6,v7,v8,v9,v10,v11,v12,K9,K',La,())) (i.toNat*(w.toNat / 8)) (w.toNat / 8) x) ())))->(aga w i).Ok 249 cr:=by
  intro w i e
  refine tw (W.in .nil 12) (W.st 249 _ rfl) rfl (cD _) (m:=12) rfl ?_
  rintro⟨v0,v1,v2,v3,v4,v5,v6,v7,v8,v9,v10,v11,v12,K9,K',La,x,⟨⟩⟩ q h
  cases h
  exact e v0 v1 v2 v3 v4 v5 v6 v7 v8 v9 v10 v11 v12 K9 K' La x
 refine EJ (p:=fun w i=>(aga w i).Ok 249 cr) h ?_
 refine⟨?_,?_,?_,?_,?_,?_,?_,?_,?_,?_,?_,?_,?_,?_,?_,?_,?_,?_,?_,?_,?_,?_,?_,?_,?_,?_,?_,?_,?_,?_⟩<;>(refine key _ _ ?_;intro v0 v1 v2 v3 v4 v5 v6 v7 v8 v9 v10 v11 v12 K9 K' La x;kernel_rfl)
theorem Oj{E:En}{N m:Nat}{k:IntKind}{x:Int}{a:AV}(h:V E N (.c m (.int k) x) a):V E N (.i k x) a:=by
 cases h with
 |c e _=>
  have e:[a]=[AV.int k x]:=e
  injection e with e
  subst e
  exact .i
theorem Gj{P:qH}{ptr:List Nat}{Q:qH}{ti to:List Ty}{g:cf ti->Lf.T (cf to)}{pl q:List Pl}(h:((pW P ptr Q ti to g).f pl).val=some q): ∃ x y,pl=cq ti x/\(g x).val=some y/\q=cq to y:=by
 change (match toT ti pl with|some x=>(g x).map (cq to)|none=>.bad:Lf.T (List Pl)).val=some q at h
 split at h
 ·rename_i x hx
  obtain⟨y,h1,h2⟩:=T.FX h
  exact⟨x,y,rD hx,h1,h2⟩
 ·cases h
def aaP:ny:=pW (Ps [pV,.n .i64,.n .i64]) [] (Ps [.n .u64]) (tV [i64,i64]) [u64] fun x=>.ck (Af (x.2.2.2.2.2.2.2.2.2.2.2.2.2.2.2.2.1) (x.2.2.2.2.2.2.2.2.2.2.2.2.2.2.2.2.2.1)) (.ok (pd (vO (x.1,x.2.1,x.2.2.1,x.2.2.2.1,x.2.2.2.2.1,x.2.2.2.2.2.1,x.2.2.2.2.2.2.1,x.2.2.2.2.2.2.2.1,x.2.2.2.2.2.2.2.2.1,x.2.2.2.2.2.2.2.2.2.1,x.2.2.2.2.2.2.2.2.2.2.1,x.2.2.2.2.2.2.2.2.2.2.2.1,x.2.2.2.2.2.2.2.2.2.2.2.2.1,x.2.2.2.2.2.2.2.2.2.2.2.2.2.1,x.2.2.2.2.2.2.2.2.2.2.2.2.2.2.1,x.2.2.2.2.2.2.2.2.2.2.2.2.2.2.2.1,())) ((x.2.2.2.2.2.2.2.2.2.2.2.2.2.2.2.2.2.1:Int).toNat*((x.2.2.2.2.2.2.2.2.2.2.2.2.2.2.2.2.1:Int).toNat / 8)) ((x.2.2.2.2.2.2.2.2.2.2.2.2.2.2.2.2.1:Int).toNat / 8),()))
theorem Gk{cr:cx}(W:WQ cr):aaP.Ok 150 cr:=by
 intro pl q args H0 E0 h az hf hP hv hS
 obtain⟨x,y,hx,h1,h2⟩:=Gj hf
 ·subst hx
  obtain⟨v0,v1,v2,v3,v4,v5,v6,v7,v8,v9,v10,v11,v12,K9,K',La,w,i,⟨⟩⟩:=x
  obtain⟨hl,h1⟩:=Lf.T.cP h1
  cases h1
  subst h2
  cases hP
  cases hv with
  |cons ka kr=>cases kr with
   |cons kw kr=>cases kr with
    |cons ki kr=>
     cases kr
     exact aaN W hl (cq (tV []) (v0,v1,v2,v3,v4,v5,v6,v7,v8,v9,v10,v11,v12,K9,K',La,())) _ _ _ E0 h _ (by rfl) (by rfl) (.cons ka (.cons (Oj kw) (.cons (Oj ki) .nil))) hS
def agb:ny:=pW (Ps [pV,.n .i64,.n .i64,.n .u64]) [] (Ps [pV]) (tV [i64,i64,u64]) (tV []) fun x=>.ck (Af (x.2.2.2.2.2.2.2.2.2.2.2.2.2.2.2.2.1) (x.2.2.2.2.2.2.2.2.2.2.2.2.2.2.2.2.2.1)) (.ok (cV [] (aaM (vO (x.1,x.2.1,x.2.2.1,x.2.2.2.1,x.2.2.2.2.1,x.2.2.2.2.2.1,x.2.2.2.2.2.2.1,x.2.2.2.2.2.2.2.1,x.2.2.2.2.2.2.2.2.1,x.2.2.2.2.2.2.2.2.2.1,x.2.2.2.2.2.2.2.2.2.2.1,x.2.2.2.2.2.2.2.2.2.2.2.1,x.2.2.2.2.2.2.2.2.2.2.2.2.1,x.2.2.2.2.2.2.2.2.2.2.2.2.2.1,x.2.2.2.2.2.2.2.2.2.2.2.2.2.2.1,x.2.2.2.2.2.2.2.2.2.2.2.2.2.2.2.1,())) ((x.2.2.2.2.2.2.2.2.2.2.2.2.2.2.2.2.2.1:Int).toNat*((x.2.2.2.2.2.2.2.2.2.2.2.2.2.2.2.2.1:Int).toNat / 8)) ((x.2.2.2.2.2.2.2.2.2.2.2.2.2.2.2.2.1:Int).toNat / 8) (x.2.2.2.2.2.2.2.2.2.2.2.2.2.2.2.2.2.2.1)) ()))
theorem Ol{cr:cx}(W:WQ cr):agb.Ok 249 cr:=by
 intro pl q args H0 E0 h az hf hP hv hS
 obtain⟨x,y,hx,h1,h2⟩:=Gj hf
 ·subst hx
  obtain⟨v0,v1,v2,v3,v4,v5,v6,v7,v8,v9,v10,v11,v12,K9,K',La,w,i,z,⟨⟩⟩:=x
  obtain⟨hl,h1⟩:=Lf.T.cP h1
  cases h1
  subst h2
  cases hP
  cases hv with
  |cons ka kr=>cases kr with
   |cons kw kr=>cases kr with
    |cons ki kr=>
     exact aaO W hl (cq (tV [u64]) (v0,v1,v2,v3,v4,v5,v6,v7,v8,v9,v10,v11,v12,K9,K',La,z,())) _ _ _ E0 h _ (by rfl) (by rfl) (.cons ka (.cons (Oj kw) (.cons (Oj ki) kr))) hS
end Go.Proofs.Vq

noncomputable section
namespace Go.Proofs.Vq
open Go.Ab Go.Ab.Lf
set_option maxRecDepth 100000
abbrev pU:qH:=(Ps [.n .u8,.n .u8,.n .u8,.n .u8,.n .u8,.n .u8,.n .u8,.n .u8,.n .u8,.n .u8,.n .u8,.n .u8,.n .u8,.n .u8,.n .u8,.n .u8])
abbrev IK:List Ty:=[i64]
abbrev Om:List Ty:=[i64]
def ak7:List (Nat×ny):=[]
theorem aaQ{cr:cx}(W:WQ cr):nZ cr ak7:=.nil
def t246(x:cf IK):Lf.T (List Pl):=qA (Ps [.n .i64]) [] (Ps [.n .i64]) (fun _=>none) Tryz.ajq 3 (pY ak7 3) (cq IK x)
def agc(x:cf IK):Bool:=cO (oy Om (t246 x))
def agd(x:cf IK):cf Om:=cO (nq Om (t246 x))
def ak8:ny:=pW (Ps [.n .i64]) [] (Ps [.n .i64]) IK Om fun x=>.ck (agc x) (.ok (agd x))
theorem aaR{cr:cx}(W:WQ cr):ak8.Ok 246 cr:=
 mC (W.in (aaQ W) 3) (W.st 246 _ rfl) rfl (cD _) (m:=3) rfl (fun _=>ca _) (fun _=>ca _)
abbrev C5:List Ty:=[u8,u8,u8,u8,u8,u8,u8,u8,u8,u8,u8,u8,u8,u8,u8,u8,i64,i64]
abbrev C6:List Ty:=[i64]
def ak9:List (Nat×ny):=[(150,aaP),(246,ak8)]
theorem aaS{cr:cx}(W:WQ cr):nZ cr ak9:=(.cons (Gk W) (.cons (aaR W) .nil))
def t247(x:cf C5):Lf.T (List Pl):=qA (Ps [.ag pU,.n .i64,.n .i64]) [] (Ps [.n .i64]) (fun _=>none) Tryz.ajr 3 (pY ak9 3) (cq C5 x)
def Qn(x:cf C5):Bool:=cO (oy C6 (t247 x))
def Qo(x:cf C5):cf C6:=cO (nq C6 (t247 x))
def ath:ny:=pW (Ps [.ag pU,.n .i64,.n .i64]) [] (Ps [.n .i64]) C5 C6 fun x=>.ck (Qn x) (.ok (Qo x))
theorem aaT{cr:cx}(W:WQ cr):ath.Ok 247 cr:=
 mC (W.in (aaS W) 3) (W.st 247 _ rfl) rfl (cD _) (m:=3) rfl (fun _=>ca _) (fun _=>ca _)
end Go.Proofs.Vq

noncomputable section
namespace Go.Proofs.Vq
open Go.Ab Go.Ab.Lf
set_option maxRecDepth 100000
inductive R2 (a b c:Type) where
 |nx (x:a)
 |o0 (x:b)
 |o1 (x:c)
def rd2(ti t0 t1:List Ty)(o:Rs):Option (R2 (cf ti) (cf t0) (cf t1)):=match o with
 | .next l=>(match toT ti l with
  |some x=>some (.nx x)
  |none=>none)
 | .out 0 l=>(match toT t0 l with
  |some x=>some (.o0 x)
  |none=>none)
 | .out 1 l=>(match toT t1 l with
  |some x=>some (.o1 x)
  |none=>none)
 | _=>none
def wr2(ti t0 t1:List Ty):R2 (cf ti) (cf t0) (cf t1)->Rs
 | .nx x=>.next (cq ti x)
 | .o0 x=>.out 0 (cq t0 x)
 | .o1 x=>.out 1 (cq t1 x)
def tr2(ti t0 t1:List Ty)(x:Lf.T Rs):Option (R2 (cf ti) (cf t0) (cf t1)):=(x.bd fun r=>Lf.T.of (rd2 ti t0 t1 r)).val
theorem Ag{ti t0 t1:List Ty}{x:Lf.T Rs}{r:R2 (cf ti) (cf t0) (cf t1)}(h:tr2 ti t0 t1 x=some r):x.val=some (wr2 ti t0 t1 r):=by
 obtain⟨o,ho,h⟩:=Lf.T.mZ h
 rw[ho]
 have h:=Lf.T.qZ h
 unfold rd2 at h
 split at h
 ·split at h
  ·rename_i x hx;cases h;rw[rD hx];rfl
  ·cases h
 ·split at h
  ·rename_i x hx;cases h;rw[rD hx];rfl
  ·cases h
 ·split at h
  ·rename_i x hx;cases h;rw[rD hx];rfl
  ·cases h
 ·cases h
end Go.Proofs.Vq

noncomputable section
namespace Go.Proofs.Vq
open Go.Ab Go.Ab.Lf
set_option maxRecDepth 100000
def o9(v:Nat->Int):Bool:=decide (v 0=v 0)&&(decide (v 1=v 1)&&(decide (v 2=v 2)&&(decide (v 3=v 3)&&(decide (v 4=v 4)&&(decide (v 5=v 5)&&(decide (v 6=v 6)&&(decide (v 7=v 7)&&(decide (v 8=v 8)&&(decide (v 9=v 9)&&(decide (v 10=v 10)&&(decide (v 11=v 11)&&(decide (v 12=v 12)&&(decide (v 13=v 13)&&(decide (v 14=v 14)&&(decide (v 15=v 15))))))))))))))))
theorem rX(v:Nat->Int):o9 v=true:=by unfold o9;simp
abbrev jX(w i:Int):Nat:=i.toNat*(w.toNat / 8)
abbrev nX(w:Int):Nat:=w.toNat / 8
abbrev gX(v:Nat->Int)(w i:Int):Int:=pd v (jX w i) (nX w)
abbrev pX(v:Nat->Int)(w i x:Int):Nat->Int:=aaM v (jX w i) (nX w) x
abbrev sX(v:Nat->Int)(w i:Int):cf C5:=cV [i64,i64] v (w,i,())
abbrev wW:Nat->Int:=fun _=>0
theorem ac1(yv:cf (tV []))(w i:Int):(t247 (sX (vO yv) w i)).val=cF (agc (w,())) (bif decide ((agd (w,())).1=0)then some (cq C6 (0,()))else cF (Af w i) (cF (decide (0<=cA .i64 64 w)) (cF (decide (0<=cA .i64 64 w)) (some (cq C6 (oP .i64 (uE .i64 (cb .i64 (gX (vO yv) w i)) (cA .i64 64 w)) (cA .i64 64 w),())))))):=by kernel_rfl
section
variable (a b r o v:Nat->Int)(ya yb yr yo yv:cf (tV []))(e w k n i op:Int)
end
end Go.Proofs.Vq

noncomputable section
namespace Go.Proofs.Vq
open Go.Ab Go.Ab.Lf Go.Proofs.Sw
set_option maxRecDepth 100000
def Wq(w:Nat):Prop:=w=8∨w=16∨w=32∨w=64
theorem age{w i:Nat}(h:Wq w)(hi:i<128 / w):Af (w:Int) (i:Int)=true:=by
 unfold Af
 have h0:(0:Int)<=(i:Int):=by omega
 rcases h with rfl|rfl|rfl|rfl
 ·have:(i:Int)<16:=by omega
  simp[this]
 ·have:(i:Int)<8:=by omega
  simp[this]
 ·have:(i:Int)<4:=by omega
  simp[this]
 ·have:(i:Int)<2:=by omega
  simp[this]
theorem agf{w:Nat}(h:Wq w):agc ((w:Int),())=true/\agd ((w:Int),())=(((128 / w:Nat):Int),()):=by
 refine mO (ca _) (ca _) ?_
 rcases h with rfl|rfl|rfl|rfl<;>kernel_rfl
abbrev Vy:=cf (tV [])
structure By(y:Vy)(f:Nat->Nat):Prop where
 e: ∀ m,m<16->vO y m=(f m:Int)
 l: ∀ m,f m<256
theorem wy(v:Nat->Int){m:Nat}(h:m<16):vO (cV [] v ()) m=v m:=by
 match m,h with
 |0,_=>rfl|1,_=>rfl|2,_=>rfl|3,_=>rfl|4,_=>rfl|5,_=>rfl|6,_=>rfl|7,_=>rfl
 |8,_=>rfl|9,_=>rfl|10,_=>rfl|11,_=>rfl|12,_=>rfl|13,_=>rfl|14,_=>rfl|15,_=>rfl
 | _+16,h=>exact absurd h (by omega)
theorem zd(w:Nat): ∀ (n:Nat) (f:Nat->Nat),pk w (n+1) f=pk w n f+2 ^ (w*n)*f n
 |0,f=>by simp[pk]
 |n+1,f=>by
  have ih:=zd w n (fun i=>f (i+1))
  show f 0+2 ^ w*pk w (n+1) (fun i=>f (i+1))=f 0+2 ^ w*pk w n (fun i=>f (i+1))+2 ^ (w*(n+1))*f (n+1)
  rw[ih,Nat.mul_add,<-Nat.mul_assoc,<-Nat.pow_add,Nat.mul_succ,Nat.add_comm w]
  omega
theorem Vf(x:Nat):cb .u8 (x:Int)=((x % 256:Nat):Int):=(Int.natCast_emod x 256).symm
theorem Qp{w n x y:Nat}(hx:x<2 ^ (w*n)):x ||| 2 ^ (w*n)*y=x+2 ^ (w*n)*y:=by
 rw[Nat.or_comm,<-Nat.two_pow_add_eq_or_of_lt hx];omega
theorem On{y:Vy}{f:Nat->Nat}(h:By y f)(j:Nat): ∀ n,n<=8->j+n<=16->pd (vO y) j n=((pk 8 n (fun m=>f (j+m)):Nat):Int)
 |0,_,_=>rfl
 |n+1,hn,hj=>by
  have ih:=On h j n (by omega) (by omega)
  have hf:=h.l (j+n)
  have hp:pk 8 n (fun m=>f (j+m))<2 ^ (8*n):=NX fun i _=>h.l _
  have ati:pk 8 n (fun m=>f (j+m))<nh:=Nat.lt_of_lt_of_le hp (Nat.pow_le_pow_right (by decide) (by omega):2 ^ (8*n)<=2 ^ 64)
  show Kk .u64 (pd (vO y) j n) (uE .u64 (cb .u64 (vO y (j+n))) ((8*n:Nat):Int))=_
  rw[ih,h.e _ (by omega),show cb .u64 ((f (j+n):Nat):Int)=((f (j+n):Nat):Int)from wrap_u64 (by omega) (by omega),acY (by omega)]
  have hq:2 ^ (8*n)*f (j+n)<nh:=by
   have h1:2 ^ (8*n)*f (j+n)<2 ^ (8*n)*2 ^ 8:=Nat.mul_lt_mul_of_pos_left hf (Nat.two_pow_pos _)
   rw[<-Nat.pow_add]at h1
   exact Nat.lt_of_lt_of_le h1 (Nat.pow_le_pow_right (by decide) (by omega):2 ^ (8*n+8)<=2 ^ 64)
  rw[Nat.mod_eq_of_lt hq,U9 ati hq,Qp hp,zd]
theorem Oo(c x i:Nat):ln (8*c) x i=pk 8 c (fun m=>ln 8 x (c*i+m)):=by
 have h1:ln (8*c) x i<2 ^ (8*c):=ry _ _
 rw[NY (w:=8) c _ h1]
 refine cS fun m hm=>?_
 unfold ln
 rw[Nat.mul_add,Nat.pow_add,<-Nat.div_div_eq_div_mul,Nat.mul_assoc]
 generalize x / 2 ^ (8*(c*i))=y
 have e:2 ^ (8*c)=2 ^ (8*m)*2 ^ (8*(c - m)):=by rw[<-Nat.pow_add];congr 1;omega
 rw[e,Nat.mod_mul_right_div_self,Nat.mod_mod_of_dvd]
 exact Nat.pow_dvd_pow 2 (by omega)
def rb(lo hi:Nat):Nat->Nat:=fun m=>if m<8 then ln 8 lo m else ln 8 hi (m - 8)
theorem Lb(lo hi m:Nat):rb lo hi m<256:=by unfold rb;split<;>exact ry _ _
def Gl(w lo hi i:Nat):Nat:=if i<64 / w then ln w lo i else ln w hi (i - 64 / w)
theorem Wq.c{w:Nat}(h:Wq w):w=8*(w / 8)/\0<w / 8/\w / 8<=8/\(128 / w)*(w / 8)=16/\(64 / w)*(w / 8)=8/\128 / w=2*(64 / w)/\w*(64 / w)=64:=by
 rcases h with rfl|rfl|rfl|rfl<;>decide
theorem Oq{y:Vy}{lo hi:Nat}(h:By y (rb lo hi)){w i:Nat}(hw:Wq w)(vw:i<128 / w):gX (vO y) (w:Int) (i:Int)=((Gl w lo hi i:Nat):Int):=by
 obtain⟨h1,h2,h3,h4,h5,h6,h7⟩:=hw.c
 show pd (vO y) ((i:Int).toNat*((w:Int).toNat / 8)) ((w:Int).toNat / 8)=_
 rw[Int.toNat_natCast,Int.toNat_natCast]
 have hic:i*(w / 8)+w / 8<=16:=by
  have:(i+1)*(w / 8)<=(128 / w)*(w / 8):=Nat.mul_le_mul_right _ vw
  rw[Nat.succ_mul]at this;omega
 rw[On h _ _ h3 hic]
 congr 1
 unfold Gl
 by_cases GA:i<64 / w
 ·have atj:i*(w / 8)+w / 8<=8:=by
   have:(i+1)*(w / 8)<=(64 / w)*(w / 8):=Nat.mul_le_mul_right _ GA
   rw[Nat.succ_mul]at this;omega
  rw[if_pos GA]
  conv=>rhs;rw[h1,Oo]
  refine cS fun m hm=>?_
  unfold rb
  rw[if_pos (by omega),Nat.mul_comm]
 ·have atj:8<=i*(w / 8):=by
   have:(64 / w)*(w / 8)<=i*(w / 8):=Nat.mul_le_mul_right _ (by omega)
   omega
  have hs:w / 8*(i - 64 / w)=i*(w / 8) - 8:=by rw[Nat.mul_sub,Nat.mul_comm (w / 8) (64 / w),h5,Nat.mul_comm]
  rw[if_neg GA]
  conv=>rhs;rw[h1,Oo]
  refine cS fun m hm=>?_
  unfold rb
  rw[if_neg (by omega)]
  congr 1
  rw[<-h1,hs];omega
theorem agh{w lo hi i:Nat}:Gl w lo hi i<2 ^ w:=by unfold Gl;split<;>exact ry _ _
theorem ak'{A:Int}{k:Nat}(h:k<64):uE .i64 A (k:Int)=(A*((2 ^ k:Nat):Int)+9223372036854775808) % 18446744073709551616 - 9223372036854775808:=by
 show oZ .i64 (Int.mul A (Int.ofNat (2 ^ tW k 64)))=_
 rw[IF h]
 rfl
theorem ala{A:Int}{k:Nat}(h:k<64):oP .i64 A (k:Int)=A / ((2 ^ k:Nat):Int):=by
 show Int.fdiv A ((2 ^ tW k 64:Nat):Int)=_
 rw[IF h,Int.fdiv_eq_ediv_of_nonneg _ (Int.natCast_nonneg _)]
theorem ac2{w x:Nat}(hw:Wq w)(hx:x<2 ^ w):oP .i64 (uE .i64 (cb .i64 (x:Int)) (cA .i64 64 (w:Int))) (cA .i64 64 (w:Int))=sw (w - 1) x:=by
 have atk:x<18446744073709551616:=Nat.lt_of_lt_of_le hx (Nat.pow_le_pow_right (by decide) (by rcases hw with rfl|rfl|rfl|rfl<;>decide):2 ^ w<=2 ^ 64)
 have hs:cA .i64 64 (w:Int)=((64 - w:Nat):Int):=by rcases hw with rfl|rfl|rfl|rfl<;>rfl
 rw[hs,vh atk,ak' (by rcases hw with rfl|rfl|rfl|rfl<;>decide),ala (by rcases hw with rfl|rfl|rfl|rfl<;>decide)]
 unfold xO sw
 rcases hw with rfl|rfl|rfl|rfl
 ·rw[show(2 ^ (64 - 8):Nat)=72057594037927936 from by decide,show(2 ^ (8 - 1):Nat)=128 from by decide,show(2 ^ (8 - 1+1):Nat)=256 from by decide]
  rw[show(2 ^ 8:Nat)=256 from by decide]at hx
  split<;>split<;>omega
 ·rw[show(2 ^ (64 - 16):Nat)=281474976710656 from by decide,show(2 ^ (16 - 1):Nat)=32768 from by decide,show(2 ^ (16 - 1+1):Nat)=65536 from by decide]
  rw[show(2 ^ 16:Nat)=65536 from by decide]at hx
  split<;>split<;>omega
 ·rw[show(2 ^ (64 - 32):Nat)=4294967296 from by decide,show(2 ^ (32 - 1):Nat)=2147483648 from by decide]
  rw[show(2 ^ 32:Nat)=4294967296 from by decide]at hx
  split<;>split<;>omega
 ·rw[show(2 ^ (64 - 64):Nat)=1 from by decide,show(2 ^ (64 - 1):Nat)=9223372036854775808 from by decide,show(2 ^ (64 - 1+1):Nat)=18446744073709551616 from by decide]
  split<;>omega
theorem atl{y:Vy}{lo hi:Nat}(h:By y (rb lo hi)){w i:Nat}(hw:Wq w)(vw:i<128 / w):Qn (sX (vO y) (w:Int) (i:Int))=true/\Qo (sX (vO y) (w:Int) (i:Int))=(sw (w - 1) (Gl w lo hi i),()):=by
 refine mO (ca _) (ca _) ?_
 rw[ac1,(agf hw).1,(agf hw).2,age hw vw,Oq h hw vw,ac2 hw agh]
 have c:(0:Int)<=cA .i64 64 (w:Int):=by rcases hw with rfl|rfl|rfl|rfl<;>decide
 have hn: ¬ (((128 / w:Nat):Int)=0):=by rcases hw with rfl|rfl|rfl|rfl<;>decide
 rw[dt c,df hn]
 rfl
end Go.Proofs.Vq

noncomputable section
namespace Go.Proofs.Vq
open Go.Ab Go.Ab.Lf Go.Proofs.Sw
set_option maxRecDepth 100000
def Bl(c:Nat)(y:Vy)(L:Nat->Nat):Prop:= ∀ m,m<16->vO y m=((ln 8 (L (m / c)) (m % c):Nat):Int)
theorem Bl.by{c:Nat}{y:Vy}{L:Nat->Nat}(h:Bl c y L):By y (fun m=>ln 8 (L (m / c)) (m % c)):=⟨h,fun _=>ry _ _⟩
theorem Bl.cg{c:Nat}{y:Vy}{L M:Nat->Nat}(h:Bl c y L)(e: ∀ j,j<16->L j=M j)(hc:0<c):Bl c y M:=fun m hm=>by
 rw[<-e (m / c) (Nat.lt_of_le_of_lt (Nat.div_le_self _ _) hm)];exact h m hm
theorem agi(c x:Nat):pk 8 c (fun m=>ln 8 x m)=x % 2 ^ (8*c):=by
 have h:=Oo c x 0
 rw[ln,Nat.mul_zero,Nat.pow_zero,Nat.div_one]at h
 rw[h]
 exact cS fun m _=>by rw[Nat.mul_zero,Nat.zero_add]
theorem ac3{c:Nat}(x i:Nat){k:Nat}(hk:k<c):ln 8 (ln (8*c) x i) k=ln 8 x (c*i+k):=by
 rw[Oo]
 exact acX (fun _ _=>ry _ _) k hk
theorem blk{c i k:Nat}(hk:k<c):(i*c+k) / c=i/\(i*c+k) % c=k:=by
 have hc:0<c:=Nat.lt_of_le_of_lt (Nat.zero_le _) hk
 refine⟨?_,?_⟩
 ·rw[Nat.add_comm,Nat.add_mul_div_right _ _ hc,Nat.div_eq_of_lt hk,Nat.zero_add]
 ·rw[Nat.add_comm,Nat.add_mul_mod_self_right,Nat.mod_eq_of_lt hk]
theorem atm{w i:Nat}(hw:Wq w)(hi:i<128 / w):i*(w / 8)+w / 8<=16:=by
 obtain⟨h1,h2,h3,h4,h5,h6,h7⟩:=hw.c
 have:(i+1)*(w / 8)<=(128 / w)*(w / 8):=Nat.mul_le_mul_right _ hi
 rw[Nat.succ_mul]at this;omega
theorem Bl.set{y:Vy}{L:Nat->Nat}{w i:Nat}(hw:Wq w)(h:Bl (w / 8) y L)(_hi:i<128 / w)(X:Nat):Bl (w / 8) (cV [] (pX (vO y) (w:Int) (i:Int) (X:Int)) ()) (fun j=>if j=i then X else L j):=fun m hm=>by
 obtain⟨h1,h2,h3,h4,h5,h6,h7⟩:=hw.c
 rw[wy _ hm]
 show(bif Nat.ble ((i:Int).toNat*((w:Int).toNat / 8)) m&&Nat.blt m ((i:Int).toNat*((w:Int).toNat / 8)+(w:Int).toNat / 8)then cb .u8 (oP .u64 (X:Int) (Int.ofNat (8*(m - (i:Int).toNat*((w:Int).toNat / 8)))))else vO y m)=_
 rw[Int.toNat_natCast,Int.toNat_natCast]
 by_cases Fl:i*(w / 8)<=m/\m<i*(w / 8)+w / 8
 ·have e1:Nat.ble (i*(w / 8)) m=true:=Nat.ble_eq_true_of_le Fl.1
  have e2:Nat.blt m (i*(w / 8)+w / 8)=true:=by unfold Nat.blt;exact Nat.ble_eq_true_of_le Fl.2
  obtain⟨k,hk⟩: ∃ k,m=i*(w / 8)+k:=⟨m - i*(w / 8),by omega⟩
  have hkc:k<w / 8:=by omega
  subst hk
  rw[e1,e2,(blk hkc).1,(blk hkc).2,show(fun j=>if j=i then X else L j) i=X from if_pos rfl]
  show cb .u8 (oP .u64 (X:Int) ((8*(i*(w / 8)+k - i*(w / 8)):Nat):Int))=_
  rw[Og (by omega),Vf,Nat.add_sub_cancel_left]
  rfl
 ·have e:(Nat.ble (i*(w / 8)) m&&Nat.blt m (i*(w / 8)+w / 8))=false:=by
   by_cases a:i*(w / 8)<=m
   ·have b: ¬ (m<i*(w / 8)+w / 8):=fun b=>Fl ⟨a,b⟩
    have:Nat.blt m (i*(w / 8)+w / 8)=false:=by
     unfold Nat.blt
     cases hq:Nat.ble (m+1) (i*(w / 8)+w / 8)with
     |false=>rfl
     |true=>exact absurd (Nat.le_of_ble_eq_true hq) b
    rw[this,Bool.and_false]
   ·cases hq:Nat.ble (i*(w / 8)) m with
    |false=>rfl
    |true=>exact absurd (Nat.le_of_ble_eq_true hq) a
  have xg:m / (w / 8)≠i:=fun he=>Fl (by
   have:=Nat.div_add_mod m (w / 8)
   rw[he,Nat.mul_comm]at this
   have:=Nat.mod_lt m h2
   omega)
  rw[e]
  show vO y m=((ln 8 (if m / (w / 8)=i then X else L (m / (w / 8))) (m % (w / 8)):Nat):Int)
  rw[if_neg xg]
  exact h m hm
theorem Vg(w:Nat): ∀ (a b:Nat) (f:Nat->Nat),pk w (a+b) f=pk w a f+2 ^ (w*a)*pk w b (fun m=>f (a+m))
 |0,b,f=>by simp[pk]
 |a+1,b,f=>by
  have ih:=Vg w a b (fun i=>f (i+1))
  rw[Nat.succ_add]
  show f 0+2 ^ w*pk w (a+b) (fun i=>f (i+1))=f 0+2 ^ w*pk w a (fun i=>f (i+1))+2 ^ (w*(a+1))*pk w b (fun m=>f (a+1+m))
  rw[ih,Nat.mul_add,<-Nat.mul_assoc,<-Nat.pow_add,Nat.mul_succ,Nat.add_comm w,Nat.add_assoc]
  congr 3
  exact cS fun m _=>by congr 1;omega
theorem Vh{c:Nat}(hc:0<c): ∀ (q:Nat) (g:Nat->Nat->Nat),pk 8 (c*q) (fun m=>g (m / c) (m % c))=pk (8*c) q (fun i=>pk 8 c (g i))
 |0,_=>rfl
 |q+1,g=>by
  rw[Nat.mul_succ,Nat.add_comm,Vg]
  show _=pk 8 c (g 0)+2 ^ (8*c)*pk (8*c) q (fun i=>pk 8 c (g (i+1)))
  rw[<-Vh hc q (fun i=>g (i+1))]
  congr 1
  ·exact cS fun m hm=>by rw[Nat.div_eq_of_lt hm,Nat.mod_eq_of_lt hm]
  ·congr 1
   exact cS fun m _=>by rw[Nat.add_div_left _ hc,Nat.add_mod_left]
theorem Ou{w:Nat}(hw:Wq w)(L:Nat->Nat)(b:Nat):pk 8 8 (fun m=>ln 8 (L (b+m / (w / 8))) (m % (w / 8)))=pk w (64 / w) (fun i=>L (b+i) % 2 ^ w):=by
 obtain⟨h1,h2,h3,h4,h5,h6,h7⟩:=hw.c
 have t:=Vh h2 (64 / w) (fun i m=>ln 8 (L (b+i)) m)
 rw[Nat.mul_comm,h5]at t
 refine t.trans ?_
 have u:pk (8*(w / 8)) (64 / w) (fun i=>pk 8 (w / 8) (ln 8 (L (b+i))))=pk (8*(w / 8)) (64 / w) (fun i=>L (b+i) % 2 ^ (8*(w / 8))):=cS fun i _=>agi _ _
 rw[<-h1]at u
 rw[<-h1]
 exact u
theorem Bl.lo{y:Vy}{L:Nat->Nat}{w:Nat}(hw:Wq w)(h:Bl (w / 8) y L):pd (vO y) 0 8=((pk w (64 / w) (fun i=>L i % 2 ^ w):Nat):Int):=by
 refine(On h.by 0 8 (Nat.le_refl _) (by decide)).trans (congrArg Nat.cast ?_)
 refine(cS fun m _=>?_).trans ((Ou hw L 0).trans (cS fun m _=>?_))
 ·rw[Nat.zero_add,Nat.zero_add]
 ·rw[Nat.zero_add]
theorem Bl.hi{y:Vy}{L:Nat->Nat}{w:Nat}(hw:Wq w)(h:Bl (w / 8) y L):pd (vO y) 8 8=((pk w (64 / w) (fun i=>L (64 / w+i) % 2 ^ w):Nat):Int):=by
 refine(On h.by 8 8 (Nat.le_refl _) (by decide)).trans (congrArg Nat.cast ?_)
 refine(cS fun m _=>?_).trans (Ou hw L (64 / w))
 obtain⟨h1,h2,h3,h4,h5,h6,h7⟩:=hw.c
 have e1:(8+m) / (w / 8)=64 / w+m / (w / 8):=by
  have:=Nat.add_mul_div_right m (64 / w) h2
  rw[h5]at this
  rw[Nat.add_comm 8 m,this,Nat.add_comm]
 have e2:(8+m) % (w / 8)=m % (w / 8):=by
  have:=Nat.add_mul_mod_self_right m (64 / w) (w / 8)
  rw[h5]at this
  rw[Nat.add_comm 8 m,this]
 show ln 8 (L ((8+m) / (w / 8))) ((8+m) % (w / 8))=_
 rw[e1,e2]
theorem By.bl{y:Vy}{lo hi:Nat}(h:By y (rb lo hi)){w:Nat}(hw:Wq w):Bl (w / 8) y (Gl w lo hi):=fun m hm=>by
 obtain⟨h1,h2,h3,h4,h5,h6,h7⟩:=hw.c
 rw[h.e m hm]
 congr 1
 have hk:=Nat.mod_lt m h2
 have hd:=Nat.div_add_mod m (w / 8)
 unfold rb Gl
 by_cases a:m<8
 ·have:m / (w / 8)<64 / w:=(Nat.div_lt_iff_lt_mul h2).2 (by rw[h5];exact a)
  rw[if_pos a,if_pos this]
  conv=>rhs;rw[h1,Nat.mul_div_cancel_left _ (by decide:0<8),ac3 _ _ (by rw[<-h1]at*;exact hk)]
  rw[hd]
 ·have: ¬ (m / (w / 8)<64 / w):=fun b=>a (by rw[<-h5];exact(Nat.div_lt_iff_lt_mul h2).1 b)
  rw[if_neg a,if_neg this]
  conv=>rhs;rw[h1,Nat.mul_div_cancel_left _ (by decide:0<8),ac3 _ _ (by rw[<-h1]at*;exact hk)]
  congr 1
  rw[<-h1,Nat.mul_sub,Nat.mul_comm (w / 8) (64 / w),h5]
  have:8<=w / 8*(m / (w / 8)):=by
   have:=Nat.mul_le_mul_left (w / 8) (Nat.le_of_not_lt this)
   rw[Nat.mul_comm (w / 8) (64 / w),h5]at this;exact this
  omega
theorem alb{ti to:List Ty}{f:List Pl->Lf.T Rs}(c N:Nat)(S:Vy->Nat->cf ti)(O:Vy->cf to)(L0 Z:Nat->Nat)
 (hs: ∀ y i,i<N->Bl c y (fun j=>if j<i then Z j else L0 j)-> ∃ y',tr2 ti to [] (f (cq ti (S y i)))=some (.nx (S y' (i+1)))/\Bl c y' (fun j=>if j<i+1 then Z j else L0 j))
 (he: ∀ y,tr2 ti to [] (f (cq ti (S y N)))=some (.o0 (O y))){y0:Vy}(h0:Bl c y0 L0):
 ∃ y',ND f ti to (S y0 0)=true/\lo1 f ti to (S y0 0)=O y'/\Bl c y' (fun j=>if j<N then Z j else L0 j):=by
 have key: ∀ d i y,i+d=N->Bl c y (fun j=>if j<i then Z j else L0 j)-> ∃ y',uh f (cq ti (S y i)) 0 (cq to (O y'))/\Bl c y' (fun j=>if j<N then Z j else L0 j):=by
  intro d
  induction d with
  |zero=>
   intro i y hi hb
   obtain rfl:i=N:=by omega
   exact⟨y,.last (Ag (he y)),hb⟩
  |succ d ih=>
   intro i y hi hb
   obtain⟨y1,h1,h2⟩:=hs y i (by omega) hb
   obtain⟨y2,h3,h4⟩:=ih (i+1) y1 (by omega) h2
   exact⟨y2,.more (Ag h1) h3,h4⟩
 obtain⟨y',h1,h2⟩:=key N 0 y0 (by omega) (by simpa using h0)
 obtain⟨a,b⟩:=Ie h1
 exact⟨y',a,b,h2⟩
end Go.Proofs.Vq

noncomputable section
namespace Go.Proofs.Vq
open Go.Ab Go.Ab.Lf Go.Proofs.Sw
set_option maxRecDepth 100000
theorem Wq.P{w:Nat}(h:Wq w): ∃ P,2 ^ (w - 1)=P/\2 ^ (w - 1+1)=2*P/\2 ^ w=2*P/\((w=8/\P=128)∨(w=16/\P=32768)∨(w=32/\P=2147483648)∨(w=64/\P=9223372036854775808)):=by
 rcases h with rfl|rfl|rfl|rfl
 ·exact⟨128,by decide⟩
 ·exact⟨32768,by decide⟩
 ·exact⟨2147483648,by decide⟩
 ·exact⟨9223372036854775808,by decide⟩
end Go.Proofs.Vq

noncomputable section
namespace Go.Proofs.Vq
open Go.Ab Go.Ab.Lf Go.Proofs.Sw
set_option maxRecDepth 100000
theorem ac4{i:Nat}(h:i<1000):cY .i64 (i:Int) 1=((i+1:Nat):Int):=wrap_i64 (by omega) (by omega)
end Go.Proofs.Vq

noncomputable section
namespace Go.Proofs.Vq
open Go.Ab Go.Ab.Lf Go.Proofs.Sw
set_option maxRecDepth 100000
end Go.Proofs.Vq

noncomputable section
namespace Go.Proofs.Vq
open Go.Ab Go.Ab.Lf Go.Proofs.Sw
set_option maxRecDepth 100000
def Tq(w at':Nat):Prop:=Wq w/\(at'=3∨at'=4)
def oD(g:Nat->Bool):Nat->Bool
 |0=>true
 |n+1=>oD g n&&g n
end Go.Proofs.Vq

noncomputable section
namespace Go.Proofs.Vq
open Go.Ab Go.Ab.Lf Go.Proofs.Sw
set_option maxRecDepth 100000
end Go.Proofs.Vq

noncomputable section
namespace Go.Proofs.Vq
open Go.Ab Go.Ab.Lf Go.Proofs.Sw
set_option maxRecDepth 100000
abbrev qa(a b:Int):Nat->Int:=fun m=>bif Nat.blt m 8 then cb .u8 (oP .u64 a (Int.ofNat (8*m)))else cb .u8 (oP .u64 b (Int.ofNat (8*(m - 8))))
abbrev pjV(y:cf (tV [i64])):Vy:=(y.1,y.2.1,y.2.2.1,y.2.2.2.1,y.2.2.2.2.1,y.2.2.2.2.2.1,y.2.2.2.2.2.2.1,y.2.2.2.2.2.2.2.1,y.2.2.2.2.2.2.2.2.1,y.2.2.2.2.2.2.2.2.2.1,y.2.2.2.2.2.2.2.2.2.2.1,y.2.2.2.2.2.2.2.2.2.2.2.1,y.2.2.2.2.2.2.2.2.2.2.2.2.1,y.2.2.2.2.2.2.2.2.2.2.2.2.2.1,y.2.2.2.2.2.2.2.2.2.2.2.2.2.2.1,y.2.2.2.2.2.2.2.2.2.2.2.2.2.2.2.1,())
abbrev pjE(y:cf (tV [i64])):Int:=y.2.2.2.2.2.2.2.2.2.2.2.2.2.2.2.2.1
end Go.Proofs.Vq
