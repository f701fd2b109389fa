import Derived.Test.YtooeifemoidnoaaDoorVdK1
import Derived.Test.YtooeifemoidnoaaDoorVdN4
noncomputable section
namespace Go.Proofs.Vd
open Go.Ab Go.Ab.Lf
set_option maxRecDepth 100000
theorem eq120(L:List Int)(n i t:Int)(ht:t=L.getD i.toNat (dflt i64)):(f120 (ofT ti120 (L,n,i,()))).val=
 bif decide (i<(L.length:Int))then ckO (ixOk i (L.length:Int)) (bif decide (t=123)then some (Rs.next (ofT ti120 (L,addW .i64 n 1,addW .i64 i 1,())))else some (Rs.next (ofT ti120 (L,n,addW .i64 i 1,()))))else some (Rs.out 0 (ofT to120_0 (n,()))):=by
 subst ht
 kernel_rfl
theorem eq12(L:List Int):(t12 (L,())).val=ckO (lk1 f120 ti120 to120_0 (L,0,0,())) (some (ofT to12 ((lo1 f120 ti120 to120_0 (L,0,0,())).1,()))):=by kernel_rfl
theorem rch120(L:List Int)(hL:L.length<=1073741824):Rch f120 (ofT ti120 (L,0,0,())) 0 (ofT to120_0 (vcs L,())):=by
 have:=rng (f:=f120) (l:=L) (fun(v:Int) j=>ofT ti120 (L,v,(j:Int),())) (fun v t=>.inl (vc1 v t)) (fun v=>(0,ofT to120_0 (v,()))) (fun _ _=>True) (fun v j t r e _=>by
  obtain⟨e1,e2⟩:=drop_get e (dflt i64)
  refine⟨?_,fun _ _=>trivial⟩
  rw[eq120 L v (j:Int) t (by rw[Int.toNat_natCast];exact e2.symm),lt_nat e1,cond_true,ixc e1,add1 (by omega)]
  unfold vc1
  cases decide (t=123)<;>rfl) (fun v j e hj _=>by
  have:j=L.length:=by have:=List.drop_eq_nil_iff.1 e;omega
  subst this
  rw[eq120 L v _ _ rfl,lt_natF (Nat.le_refl _)]
  rfl) L 0 0 rfl (by omega) trivial
 rw[foldX_inl]at this
 exact this
theorem sem12(L:List Int)(hL:L.length<=1073741824):(t12 (L,())).val=some (ofT to12 ((cnt L:Int),())):=by
 obtain⟨a,b⟩:=l1_eq (rch120 L hL)
 rw[eq12,a,b,vcs_cnt (by omega)]
 rfl
theorem eq3x(l:List (den tMk))(c:List (den tI))(i:Int)(a b:List Int)(z:den tMk)(hz:z=l.getD i.toNat (dflt tMk))(f:denT tInf)(hf:f=mOf (c.getD i.toNat (dflt tI)).1)(z2:den tMk)(hz2:z2=l.getD (addW .i64 i 1).toNat (dflt tMk)):
 (f3x (ofT ti3x (l,c,i,a,b,()))).val=
 (let O:Option Rs:=some (Rs.out 1 (ofT to3x_1 (false,())))
 let NX:Option Rs:=some (Rs.next (ofT ti3x (l,c,addW .i64 i 1,a,b,())))
 let X:=ixOk i (l.length:Int)
 let A:=k12 (f.2.2.2.1,())
 let D:=decide (z.2.2=z.2.2)
 let PL:=ckO (ixOk i (c.length:Int)) (ckO X (bif (bif !z.1 then true else !f.2.2.1)then NX else
  ckO (ixOk (addW .i64 i 1) (l.length:Int)) (ckO X (ckO A (ckO D (ckO (k12 (f.2.2.2.2.1,())) (ckO D (ckO X (bif decide (z.2.1<(f.2.2.2.1.length:Int))then O else
  ckO X (ckO A (ckO D (bif decide (z.2.2<(m12 (f.2.2.2.1,())).1)then O else
  ckO X (bif !(!(xor z2.1 true)&&(decide (z2.2.1=addW .i64 (subW .i64 z.2.1 (f.2.2.2.1.length:Int)) (f.2.2.2.2.1.length:Int))&&decide (z2.2.2=addW .i64 (subW .i64 z.2.2 (m12 (f.2.2.2.1,())).1) (m12 (f.2.2.2.2.1,())).1)))then O else NX)))))))))))))
 bif decide (i<(c.length:Int))then ckO X (bif decide (z.2.2<0)then O else ckO X (ckO X (bif decide (z.2.1<z.2.2)then O else ckO X (bif !z.1 then ckO X (bif !(!(xor z.1 false)&&(decide (z.2.1=0)&&decide (z.2.2=0)))then O else PL)else PL))))
 else some (Rs.out 0 (ofT to3x_0 (l,a,b,())))):=by
 subst hz2;subst hf;subst hz
 kernel_rfl
theorem subI{a b:Int}(h1: -1073741824<=a - b)(h2:a - b<=1073741824):subW .i64 a b=a - b:=by
 show wrapF .i64 (a - b)=_
 exact wrap_i64 (by omega) (by omega)
theorem addI{a b:Int}(h1: -1073741824<=a+b)(h2:a+b<=2147483648):addW .i64 a b=a+b:=by
 show wrapF .i64 (a+b)=_
 exact wrap_i64 (by omega) (by omega)
theorem sem12'(L:List Int)(hL:L.length<=1073741824):k12 (L,())=true/\(m12 (L,())).1=(cnt L:Int):=by
 have s:=sem_of (sem12 L hL)
 exact⟨s.1,congrArg Prod.fst s.2⟩
theorem nlt{a b:Int}(h:b<=a):decide (a<b)=false:=decide_eq_false (by omega)
theorem rch3x{l:List (den tMk)}{c:List (den tI)}(a b:List Int)(hl:l.length=c.length)(hc:c.length<=1073741824)(hM: ∀ i x,c[i]? =some x->MkOk l i x):Rch f3x (ofT ti3x (l,c,0,a,b,())) 0 (ofT to3x_0 (l,a,b,())):=by
 have:=rng (f:=f3x) (l:=c) (fun(_:Unit) j=>ofT ti3x (l,c,(j:Int),a,b,())) (fun _ _=>.inl ()) (fun _=>(0,ofT to3x_0 (l,a,b,()))) (fun _ _=>True) (fun u j x r e _=>by
  obtain⟨e1,e2⟩:=drop_get e (dflt tI)
  have hx:c[j]? =some x:=by
   have q:c.getD j (dflt tI)=x:=e2
   rw[List.getD_eq_getElem?_getD,List.getElem?_eq_getElem e1]at q
   rw[List.getElem?_eq_getElem e1]
   exact congrArg some q
  have M:=hM j x hx
  obtain⟨z,hz⟩: ∃ z,z=l.getD j (dflt tMk):=⟨_,rfl⟩
  obtain⟨f,hf⟩: ∃ f,f=mOf x.1:=⟨_,rfl⟩
  obtain⟨m0,m1,m2,m3,m4⟩:=M
  rw[<-hz]at m0 m1 m2 m3 m4
  have m1: @LE.le Int _ z.2.2 z.2.1:=m1
  have m2: @LE.le Int _ z.2.1 1073741824:=m2
  have lm:=of_lim x.1
  rw[<-hf]at m4 lm
  obtain⟨_,la,lb,_,_⟩:=lm
  have ej:addW .i64 (j:Int) 1=((j+1:Nat):Int):=by rw[add1 (by omega)]
  obtain⟨qa,qb⟩:=sem12' f.2.2.2.1 (by omega)
  obtain⟨qc,qd⟩:=sem12' f.2.2.2.2.1 (by omega)
  have c1:=cnt_le f.2.2.2.1
  have c2:=cnt_le f.2.2.2.2.1
  refine⟨?_,fun _ _=>trivial⟩
  rw[eq3x l c (j:Int) a b z (by rw[Int.toNat_natCast];exact hz) f (by rw[Int.toNat_natCast,e2];exact hf) _ rfl,lt_nat e1,cond_true,ixc (show j<l.length by omega),ixc e1,ej]
  dsimp only
  rw[nlt m0,nlt m1,qa,qb,qc,qd,decide_eq_true (show(z.2.2:Int)=z.2.2 from rfl),Int.toNat_natCast]
  simp only[ckO,cond_true,cond_false]
  cases hz1:z.1 with
  |false=>
   have e:=m3 hz1
   rw[e]
   rfl
  |true=>
   simp only[Bool.not_true,cond_false]
   cases hp:f.2.2.1 with
   |false=>rfl
   |true=>
    obtain⟨p1,p2,p3,p4⟩:=m4 hz1 hp
    have p2: @LE.le Int _ (f.2.2.2.1.length:Int) z.2.1:=p2
    have p3: @LE.le Int _ (cnt f.2.2.2.1:Int) z.2.2:=p3
    have ar: ∀ (A B i1 i2 o1 o2:Int),0<=B->B<=A->A<=1073741824->i1<=A->i2<=B->0<=i1->0<=i2->0<=o1->o1<=16->0<=o2->o2<=16->subW .i64 A i1=A - i1/\subW .i64 B i2=B - i2/\addW .i64 (A - i1) o1=A - i1+o1/\addW .i64 (B - i2) o2=B - i2+o2:=fun A B i1 i2 o1 o2 _ _ _ _ _ _ _ _ _ _ _=>⟨subI (by omega) (by omega),subI (by omega) (by omega),addI (by omega) (by omega),addI (by omega) (by omega)⟩
    obtain⟨s1,s2,s3,s4⟩:=ar z.2.1 z.2.2 (f.2.2.2.1.length:Int) (cnt f.2.2.2.1:Int) (f.2.2.2.2.1.length:Int) (cnt f.2.2.2.2.1:Int) m0 m1 m2 p2 p3 (by omega) (by omega) (by omega) (by omega) (by omega) (by omega)
    rw[ixc p1,nlt p2,nlt p3,p4,s1,s2,s3,s4]
    simp only[decide_true]
    rfl) (fun u j e hj _=>by
  have:j=c.length:=by have:=List.drop_eq_nil_iff.1 e;omega
  subst this
  rw[eq3x l c _ a b _ rfl _ rfl _ rfl,lt_natF (Nat.le_refl _)]
  rfl) c 0 () rfl (by omega) trivial
 rw[foldX_inl]at this
 exact this
end Go.Proofs.Vd

noncomputable section
namespace Go.Proofs.Vd
open Go.Ab Go.Ab.Lf
set_option maxRecDepth 100000
abbrev yTM(y:denT tM):denT tM:=(y.1,y.2.1,y.2.2.1,y.2.2.2.1,y.2.2.2.2.1,y.2.2.2.2.2.1,y.2.2.2.2.2.2.1,y.2.2.2.2.2.2.2.1,y.2.2.2.2.2.2.2.2.1,y.2.2.2.2.2.2.2.2.2.1,y.2.2.2.2.2.2.2.2.2.2.1,())
abbrev yTN(y:denT tM)(f:Int):denT tMN:=(y.1,y.2.1,y.2.2.1,y.2.2.2.1,y.2.2.2.2.1,y.2.2.2.2.2.1,y.2.2.2.2.2.2.1,y.2.2.2.2.2.2.2.1,y.2.2.2.2.2.2.2.2.1,y.2.2.2.2.2.2.2.2.2.1,y.2.2.2.2.2.2.2.2.2.2.1,f,())
theorem eq3(V:ByteArray->Bool)(y:denT tM)(f:Int)(gt:Bool)(hgt:gT y.1=gt)(c0:Int)(h0:c0=(m8 V (yTM y)).1)(g:Int)(hg:g=cvtW .i64 (remW .u64 (cvtW .u64 f) (cvtW .u64 (y.2.2.2.2.2.2.2.2.2.1.length:Int))))(a:denT to9)(ha:a=m9 V (yTN y g))(k:Int)(hk:k=addW .i64 (y.2.1.length:Int) g)
 (s:den tSig)(hs:s=mKindS y.1 (mSigK y.2.1 y.2.2.1 k))(C:den tCod)(hC:C=y.2.2.2.2.2.2.2.2.2.1.getD g.toNat (dflt tCod))(z:den tMk)(hz:z=a.1.getD 0 (dflt tMk))(q:denT to3x_0)(hq:q=lo1 f3x ti3x to3x_0 (a.1,C.2,0,s.1,s.2,()))(e:den tMk)(he:e=q.1.getD (subW .i64 (q.1.length:Int) 1).toNat (dflt tMk)):(t3 V (yTN y f)).val=
 (let R:=fun b:Bool=>some (ofT to3 (b,()))
 bif decide ((y.2.2.2.2.2.2.2.2.2.1.length:Int)=0)then ckO (k8 V (yTM y)) (bif !decide (c0=0)then R true else R (decide ((y.2.2.1.length:Int)=0)))else
 ckO (!decide (cvtW .u64 (y.2.2.2.2.2.2.2.2.2.1.length:Int)=0)) (ckO (k9 V (yTN y g)) (
 bif !decide (a.2.1=0)then ckO (k8 V (yTM y)) (bif decide (a.2.1=c0)then R (decide ((a.1.length:Int)=0))else R false)else
 ckO (gt&&(decide (k<9223372036854775808)&&decide (y.2.1.length<=1099511627776))) (
 ckO (ixOk g (y.2.2.2.2.2.2.2.2.2.1.length:Int)) (
 bif !(mKindO y.1 (mSigK y.2.1 y.2.2.1 k))then R false else bif !decide ((a.1.length:Int)=(C.2.length:Int))then R false else
 ckO (ixOk 0 (a.1.length:Int)) (bif !(!(xor z.1 true)&&(decide (z.2.1=0)&&decide (z.2.2=0)))then R false else
 ckO (lk2 f3x ti3x to3x_0 to3x_1 (a.1,C.2,0,s.1,s.2,())) (bif lb2 f3x ti3x (a.1,C.2,0,s.1,s.2,())then
  ckO (ixOk (subW .i64 (q.1.length:Int) 1) (q.1.length:Int)) (bif !e.1 then R true else bif decide (e.2.1=(q.2.2.1.length:Int))then ckO (k12 (q.2.2.1,())) (ckO (decide (e.2.2=e.2.2)) (R (decide (e.2.2=(m12 (q.2.2.1,())).1))))else R false)
 else some (ofT to3 ((lo1 f3x ti3x to3x_1 (a.1,C.2,0,s.1,s.2,())).1,()))))))))):=by
 subst he;subst hq;subst hz;subst hC;subst hs;subst hk;subst ha;subst hg;subst h0;subst hgt
 kernel_rfl
end Go.Proofs.Vd

noncomputable section
variable {V:ByteArray→Bool}
namespace Go.Proofs.Vd
open Go.Ab Go.Ab.Lf
set_option maxRecDepth 100000
theorem pick_of{n:Nat}(h0:n≠0)(hn:n<=1048576)(f:Int):cvtW .u64 (n:Int)=(n:Int)/\ ∃ j:Nat,j<n/\cvtW .i64 (remW .u64 (cvtW .u64 f) (n:Int))=(j:Int):=by
 refine⟨wrap_u64 (by omega) (by omega),?_⟩
 have h1:(0:Int)<=cvtW .u64 f:=Int.emod_nonneg f (by decide)
 obtain⟨a,ha⟩: ∃ a,a=cvtW .u64 f:=⟨_,rfl⟩
 rw[<-ha]at h1 ⊢
 have h2:remW .u64 a (n:Int)=a % (n:Int):=Int.tmod_eq_emod_of_nonneg h1
 have h3:0<=a % (n:Int):=Int.emod_nonneg _ (by omega)
 have h4:a % (n:Int)<(n:Int):=Int.emod_lt_of_pos _ (by omega)
 refine⟨(a % (n:Int)).toNat,by omega,?_⟩
 rw[h2]
 have e:cvtW .i64 (a % (n:Int))=a % (n:Int):=wrap_i64 (by omega) (by omega)
 rw[e]
 omega
theorem kl0{y:denT tM}(h:MOk y)(j:Nat)(hj:j<y.2.2.2.2.2.2.2.2.2.1.length):TK y (pLo y j):=by
 have hC:pCode y j∈y.2.2.2.2.2.2.2.2.2.1:=by
  unfold pCode
  rw[List.getD_eq_getElem?_getD,List.getElem?_eq_getElem hj]
  exact List.getElem_mem hj
 have ht: ∀ s:den tSig,s∈y.1->KL s.1/\KL s.2:=fun s hs=>⟨KL.of (h.tk s hs).1,KL.of (h.tk s hs).2⟩
 refine⟨ht,?_,h.gk⟩
 unfold pLo
 exact(kind_K (lo:=[]) ⟨ht,KL.nil,h.gk⟩ _).1.app (KL.of (h.cd _ hC).2)
theorem li0{y:denT tM}(j:Nat){lo:List Int}(T:TK y lo):LI (pSig y ((y.2.1.length+j:Nat):Int)).2 (pW0 y j):=
 LI.opn (O:=(pSig y ((y.2.1.length+j:Nat):Int)).2) (s:=[]) (bl:=[]) (b:=false) (fun _ h=>by cases h) (fun _ h=>by cases h) (fun _=>KL.nil) (fun r p c t e=>by cases r<;>cases e) (fun c t e=>by cases e) 2 KL.nil (kind_K T _).2 (fun _=>⟨rfl,rfl⟩)
theorem law3{y:denT tM}(hE:okE V y=true)(hx:gNx y.2.2.2.2.2.2.1=true)(hn:y.2.2.2.2.2.2.2.2.2.1.length<=1048576)(f:Int):(t3 V (yTN y f)).val=some (ofT to3 (true,())):=by
 have s8:=sem_of (sem8 hE hx)
 have e8:(m8 V (yTM y)).1=pCheck V y:=congrArg Prod.fst s8.2
 have k8:k8 V (yTM y)=true:=s8.1
 obtain⟨g,hg⟩: ∃ g,g=cvtW .i64 (remW .u64 (cvtW .u64 f) (cvtW .u64 (y.2.2.2.2.2.2.2.2.2.1.length:Int))):=⟨_,rfl⟩
 have s9:=sem_of (sem9 hE hx g)
 have k9:k9 V (yTN y g)=true:=s9.1
 by_cases h0:y.2.2.2.2.2.2.2.2.2.1.length=0
 ·rw[eq3 V y f (gT y.1) rfl _ e8.symm g hg _ s9.2.symm _ rfl _ rfl _ rfl _ rfl _ rfl _ rfl]
  dsimp only
  rw[k8,k9,decide_eq_true (show(y.2.2.2.2.2.2.2.2.2.1.length:Int)=0 by omega)]
  simp only[cond_true,ckO]
  by_cases hc:pCheck V y=0
  ·have h:=(pCheck_ok hE hx hc).1
   rw[decide_eq_true hc,decide_eq_true (show(y.2.2.1.length:Int)=0 by have:=h.fc;omega)]
   rfl
  ·rw[decide_eq_false hc]
   rfl
 ·obtain⟨c1,j,hj,ej⟩:=pick_of h0 hn f
  have hg':=hg
  rw[c1,ej]at hg'
  have c2:decide ((y.2.2.2.2.2.2.2.2.2.1.length:Int)=0)=false:=decide_eq_false (by omega)
  by_cases hc:pCheck V y=0
  ·obtain⟨h,ho,hb⟩:=pCheck_ok hE hx hc
   have hM:pMarks V y g=((pTyped y j).getD [],0):=by
    unfold pMarks
    rw[hc,hg',decide_eq_false (show ¬ (0:Int)=1 by decide),decide_eq_false (show ¬ (j:Int)<0 by omega),decide_eq_false (show ¬ (y.2.2.2.2.2.2.2.2.2.1.length:Int)<=(j:Int) by omega),Int.toNat_natCast]
    rfl
   have hs:(pTyped y j).isSome=true:=List.all_eq_true.1 hb j (List.mem_range.2 hj)
   obtain⟨l,hl⟩:=Option.isSome_iff_exists.1 hs
   rw[hM,hl]at s9
   have hk:((y.2.1.length+j:Nat):Int)=addW .i64 (y.2.1.length:Int) g:=by rw[hg'];exact(addN (by have:=h.li;omega)).symm
   have hC:pCode y j=y.2.2.2.2.2.2.2.2.2.1.getD g.toNat (dflt tCod):=by rw[hg',Int.toNat_natCast];rfl
   have hcd:=code_ok h hj
   have T:=kl0 h j hj
   obtain⟨s,es⟩: ∃ s,s=mKindS y.1 (mSigK y.2.1 y.2.2.1 ((y.2.1.length+j:Nat):Int)):=⟨_,rfl⟩
   have hL:=li0 j T
   rw[show(pSig y ((y.2.1.length+j:Nat):Int)).2=s.2 from by rw[es];rfl]at hL
   obtain⟨r1,⟨l',r2⟩,r3,r4⟩:=marks (O:=s.2) h.ty T (pCode y j).2 0 (pW0 y j) l hl hcd.b.ok (inv0 h.ty j) hL ⟨[],hcd.c,rfl⟩ (by have:=hcd.b.n;omega)
   have hz:((true,0,0):den tMk)=l.getD 0 (dflt tMk):=by rw[r2];rfl
   have ll:1<=l.length:=by rw[r2];simp
   have hcn:=hcd.b.n
   have hso:s.2.length<=32:=by rw[es];exact(kind_len h.ty _).2
   have hkd:mKindO y.1 (mSigK y.2.1 y.2.2.1 ((y.2.1.length+j:Nat):Int))=true:=by
    unfold pOuter at ho
    rw[Bool.and_eq_true]at ho
    exact List.all_eq_true.1 ho.1 (y.2.1.length+j) (List.mem_range.2 (by unfold pFn;have:=h.fc;omega))
   obtain⟨b1,b2,b3⟩:=l2_eq0 (t0:=to3x_0) (t1:=to3x_1) (rch3x (l:=l) (c:=(pCode y j).2) s.1 s.2 r1 (by omega) r3)
   have hsb:subW .i64 (l.length:Int) 1=((l.length - 1:Nat):Int):=sub1 (by omega) (by omega)
   obtain⟨e,he⟩: ∃ e,e=l.getD (l.length - 1) (dflt tMk):=⟨_,rfl⟩
   rw[<-he]at r4
   have he':e=l.getD (subW .i64 (l.length:Int) 1).toNat (dflt tMk):=by rw[hsb,Int.toNat_natCast];exact he
   obtain⟨u1,u2⟩:=sem12' s.2 (by omega)
   rw[eq3 V y f true (gT_of h.ty) _ e8.symm g hg (l,0,()) s9.2.symm _ hk s es (pCode y j) hC (true,0,0) hz (l,s.1,s.2,()) b3.symm e he']
   dsimp only
   rw[k9,c2,c1,c2,hkd,decide_eq_true (show((y.2.1.length+j:Nat):Int)<9223372036854775808 by have:=h.li;omega),decide_eq_true (show y.2.1.length<=1099511627776 by have:=h.li;omega),hg',ixc hj,r1,b1,b2,show ixOk 0 ((pCode y j).2.length:Int)=true from ixc (j:=0) (by omega)]
   rw[<-r1,hsb,ixc (show l.length - 1<l.length by omega),u1,u2]
   simp only[decide_true,Bool.not_true,cond_false,cond_true,ckO,Bool.and_self,Bool.not_false,Bool.xor_self]
   cases h1:e.1 with
   |false=>rfl
   |true=>
    obtain⟨q1,q2⟩:=r4 h1
    rw[decide_eq_true q1,decide_eq_true q2]
    rfl
  ·have hM:pMarks V y g=([],pCheck V y):=by
    unfold pMarks
    by_cases h1:pCheck V y=1
    ·rw[h1];rfl
    ·rw[decide_eq_false h1,hg',decide_eq_false (show ¬ (j:Int)<0 by omega),decide_eq_false (show ¬ (y.2.2.2.2.2.2.2.2.2.1.length:Int)<=(j:Int) by omega),decide_eq_false hc]
     rfl
   rw[hM]at s9
   rw[eq3 V y f (gT y.1) rfl _ e8.symm g hg ([],pCheck V y,()) s9.2.symm _ rfl _ rfl _ rfl _ rfl _ rfl _ rfl]
   dsimp only
   rw[k8,k9,c2,c1,c2,decide_eq_false hc,decide_eq_true (rfl:pCheck V y=pCheck V y)]
   rfl
end Go.Proofs.Vd
