import Derived.Test.YtjeanplhkkpdmaaGreatDoorVvXvvv
import Derived.Test.YtjeanplhkkpdmaaGreatDoorVvXvvx
import Derived.Test.YtjeanplhkkpdmaaGreatDoorVvXexl
import Derived.Test.YtjeanplhkkpdmaaGreatDoorVvXreix
import Derived.Test.YtjeanplhkkpdmaaGreatDoorVvXspi
import Derived.Test.YtjeanplhkkpdmaaGreatDoorVvXsplx
import Derived.Test.YtjeanplhkkpdmaaGreatDoorVvXshf
import Derived.Test.YtjeanplhkkpdmaaGreatDoorVvXsfx
import Derived.Test.YtjeanplhkkpdmaaGreatDoorVvXbad
noncomputable section
namespace Go.Proofs.Vv
open Go.Ab Go.Ab.Lf Go.Proofs.Vd
set_option maxRecDepth 1000000
def z4(a b c d:Int):Bool:=bif decide (a=0)then(bif decide (b=0)then(bif decide (c=0)then decide (d=0)else false)else false)else false
theorem ahJ{a b c d:Int}(h1:a=0)(h2:b=0)(h3:c=0)(h4:d=0):z4 a b c d=true:=by unfold z4;rw[dt h1,dt h2,dt h3,dt h4];rfl
theorem awy(o a b lo hi:Int):(zK (o,a,b,lo,hi,[],1,())).1=z4 a b lo hi:=by kernel_rfl
theorem ap1(o a b lo hi:Int):(zK (o,a,b,lo,hi,[],13,())).1=z4 0 b lo hi:=by kernel_rfl
theorem ap2(o a b lo hi:Int):(zK (o,a,b,lo,hi,[],11,())).1=z4 a b 0 0:=by kernel_rfl
theorem ap3(o a b lo hi:Int):(zK (o,a,b,lo,hi,[],12,())).1=z4 a b 0 0:=by kernel_rfl
theorem awz(op A B lo hi:Int):(t13 (op,A,B,lo,hi,[],())).val=some (cg [.bool] (bif decide (B=0)then(bif decide (0<=A)then(bif decide (A<256)then(bif (bif decide (A=0)then true else bif decide (64789<=op)then decide (op<=64798)else false)then(bif decide (lo=0)then(bif decide (hi=0)then true else bif decide (op=64780)then true else decide (op=64781))else bif decide (op=64780)then true else decide (op=64781))else false)else false)else false)else false,())):=by kernel_rfl
theorem Ni{c x:Bool}(h:(bif c then x else false)=true):c=true/\x=true:=by cases c with|true=>exact⟨rfl,h⟩|false=>cases h
theorem aaw{c x:Bool}(h:(bif c then true else x)=true):c=true∨x=true:=by cases c with|true=>exact .inl rfl|false=>exact .inr h
theorem ahK{op A B lo hi:Int}(h:(ID (op,A,B,lo,hi,[],())).1=true):B=0/\(0<=A/\A<256)/\(A=0∨(64789<=op/\op<=64798))/\((lo=0/\hi=0)∨op=64780∨op=64781):=by
 rw[(lH (cf _) (cf _) (k:=k13 (op,A,B,lo,hi,[],())) (m:=ID (op,A,B,lo,hi,[],())) (awz op A B lo hi)).2]at h;obtain⟨h1,h⟩:=Ni h;obtain⟨h2,h⟩:=Ni h;obtain⟨h3,h⟩:=Ni h;obtain⟨h4,h⟩:=Ni h;refine⟨of_decide_eq_true h1,⟨of_decide_eq_true h2,of_decide_eq_true h3⟩,?_,?_⟩
 ·rcases aaw h4 with q|q
  ·exact .inl (of_decide_eq_true q)
  ·obtain⟨q1,q2⟩:=Ni q;exact .inr ⟨of_decide_eq_true q1,of_decide_eq_true q2⟩
 ·cases hl:decide (lo=0)with
  |true=>
   rw[hl,cond_true]at h;cases hh:decide (hi=0)with
   |true=>exact .inl ⟨of_decide_eq_true hl,of_decide_eq_true hh⟩
   |false=>
    rw[hh,cond_false]at h
    rcases aaw h with q|q
    ·exact .inr (.inl (of_decide_eq_true q))
    ·exact .inr (.inr (of_decide_eq_true q))
  |false=>
   rw[hl,cond_false]at h
   rcases aaw h with q|q
   ·exact .inr (.inl (of_decide_eq_true q))
   ·exact .inr (.inr (of_decide_eq_true q))
theorem xE(op A B lo hi:Int):k13 (op,A,B,lo,hi,[],())=true:=(lH (cf _) (cf _) (k:=k13 (op,A,B,lo,hi,[],())) (m:=ID (op,A,B,lo,hi,[],())) (awz op A B lo hi)).1
theorem AB{I:den kE}{op A B lo hi:Int}(Q:IQ I (op,A,B,lo,hi,[]))(hr:(zK (op,A,B,lo,hi,[],I.1,())).1=true)(hc:QB A lo I.1=true):(j8 (mI (op,A,B,lo,hi,[]))).2=true:=by
 obtain⟨Bs,O,_,hK⟩:=Ms op A B lo hi [] Q.a.1 Q.a.2 (by show 10*0+100<=1099511627776;decide);have e1:j8 (mI (op,A,B,lo,hi,[]))=(Bs,O):=by
  show(zM Prod.mk op A B lo hi []).getD ([],false)=_;rw[show zM Prod.mk op A B lo hi []=some (Bs,O)from hK _ Prod.mk];rfl
 rw[e1]
 have k:=hK Bool fun _ o=>o
 have hm:=of_eq Q.d;have A7:zn op=true:=(@of_decide_eq_true _ (Classical.propDecidable _) Q.d).1;have h1:(kZ op).1=I.1:=by
  have:kZ op=_:=hm;rw[this]
 have hv:decide (64768<=op)=true:=dt Q.g;unfold zM at k;simp only at k;rw[A7,h1,hr,hv]at k;simp only[Bool.not_true,cond_false,cond_true]at k;have k:=J7 (J7 (J7 k));unfold zL at k;simp only at k;rw[h1]at k;show O=true;have ne: ∀ d:Int,¬ ((1:Int)=d)-> ¬ ((11:Int)=d)-> ¬ ((12:Int)=d)-> ¬ ((13:Int)=d)-> ¬ ((I.1:Int)=d):=fun d a b c e q=>by
  rcases Q.f with h|h|h|h
  ·exact a (h.symm.trans q)
  ·exact b (h.symm.trans q)
  ·exact c (h.symm.trans q)
  ·exact e (h.symm.trans q)
 by_cases hf:(I.1:Int)=1
 ·rw[dt hf,cond_true]at k;cases k;rfl
 ·rw[df hf,df (ne 2 (by decide) (by decide) (by decide) (by decide)),df (ne 3 (by decide) (by decide) (by decide) (by decide)),df (ne 5 (by decide) (by decide) (by decide) (by decide)),df (ne 4 (by decide) (by decide) (by decide) (by decide)),df (ne 6 (by decide) (by decide) (by decide) (by decide)),df (ne 7 (by decide) (by decide) (by decide) (by decide)),df (ne 8 (by decide) (by decide) (by decide) (by decide))]at k;simp only[cond_false]at k;have k:=J7 k;rw[hc]at k;cases k;rfl
def zG(v:Nat):Bool:=
 bif decide ((kZ (jG v)).1=1)then !(decide (64789<=jG v)&&decide (jG v<=64798))&& !(decide (jG v=64780)||decide (jG v=64781))else
 bif decide ((kZ (jG v)).1=13)then !(decide (jG v=64780)||decide (jG v=64781))else
 bif decide ((kZ (jG v)).1=11)||decide ((kZ (jG v)).1=12)then !(decide (64789<=jG v)&&decide (jG v<=64798))else true
theorem ahL:(List.range 256).all zG=true:=by kernel_rfl
theorem T3{I:den kE}{v:Nat}(hv:v<256){A B lo hi:Int}(Q:IQ I (jG v,A,B,lo,hi,[]))(h:(ID (jG v,A,B,lo,hi,[],())).1=true):(j8 (mI (jG v,A,B,lo,hi,[]))).2=true:=by
 obtain⟨hB,hA,hl,hh⟩:=ahK h;have c:=List.all_eq_true.1 ahL v (List.mem_range.2 hv);have h1:(kZ (jG v)).1=I.1:=by
  have:kZ (jG v)=_:=of_eq Q.d;rw[this]
 unfold zG at c;rw[h1]at c
 rcases Q.f with f|f|f|f
 ·rw[dt f,cond_true]at c;simp only[Bool.and_eq_true,Bool.not_eq_true',Bool.and_eq_false_iff,Bool.or_eq_false_iff,decide_eq_false_iff_not]at c;obtain⟨c1,c2,c3⟩:=c
  have a0:A=0:=hl.resolve_right fun q=>c1.elim (fun k=>k q.1) fun k=>k q.2
  obtain⟨l0,h0⟩:=hh.resolve_right fun q=>q.elim c2 c3
  refine AB Q ?_ ?_
  ·rw[f];exact(awy _ _ _ _ _).trans (ahJ a0 hB l0 h0)
  ·rw[f];rfl
 ·rw[df (fun q=>absurd (f.symm.trans q) (by decide: ¬ ((11:Int)=1))),df (fun q=>absurd (f.symm.trans q) (by decide: ¬ ((11:Int)=13))),dt f,cond_false,cond_false,Bool.true_or,cond_true]at c;simp only[Bool.not_eq_true',Bool.and_eq_false_iff,decide_eq_false_iff_not]at c
  have a0:A=0:=hl.resolve_right fun q=>c.elim (fun k=>k q.1) fun k=>k q.2
  refine AB Q ?_ ?_
  ·rw[f];exact(ap2 _ _ _ _ _).trans (ahJ a0 hB rfl rfl)
  ·rw[f];rfl
 ·rw[df (fun q=>absurd (f.symm.trans q) (by decide: ¬ ((12:Int)=1))),df (fun q=>absurd (f.symm.trans q) (by decide: ¬ ((12:Int)=13))),dt f,cond_false,cond_false,Bool.or_true,cond_true]at c;simp only[Bool.not_eq_true',Bool.and_eq_false_iff,decide_eq_false_iff_not]at c
  have a0:A=0:=hl.resolve_right fun q=>c.elim (fun k=>k q.1) fun k=>k q.2
  refine AB Q ?_ ?_
  ·rw[f];exact(ap3 _ _ _ _ _).trans (ahJ a0 hB rfl rfl)
  ·rw[f];rfl
 ·rw[df (fun q=>absurd (f.symm.trans q) (by decide: ¬ ((13:Int)=1))),dt f,cond_false,cond_true]at c;simp only[Bool.not_eq_true',Bool.or_eq_false_iff,decide_eq_false_iff_not]at c
  obtain⟨l0,h0⟩:=hh.resolve_right fun q=>q.elim c.1 c.2
  refine AB Q ?_ ?_
  ·rw[f];exact(ap1 _ _ _ _ _).trans (ahJ rfl hB l0 h0)
  ·rw[f];show(bif decide (0<=A)then decide (A<256)else false)=true;rw[dt hA.1,dt hA.2];rfl
abbrev zz:List Pl:=cg to3 (true,())
structure HF(x:Ax)(N:Nat)(W:List Int->List Int):Prop where
 k:k6 (x.op,())=true
 m:(m6 (x.op,())).1=true
 g:64768<=x.op
 b:yH x.I x.op=true
 z:zOk x.Z=true
 wr: ∀ L l:List Int,l.length<6->l.length≠N->x.D.k (dX x L l)=true/\x.D.m (dX x L l)=([],1,())
 ri: ∀ L l:List Int,l.length=N->x.D.k (dX x L l)=true/\x.D.m (dX x L l)=(W l,0,())
 ln: ∀ l:List Int,l.length=N->(W l).length=x.Lr
 cu: ∀ l:List Int,l.length=N->(∀ v,v∈l->U v)->W (Hx x.I.2.2.2.1 l)=W l
section
variable {x:Ax}{N:Nat}{W:List Int->List Int}(F:HF x N W){K:FL}
include F
theorem hI(h:kW zz K):kW zz (qI x K):=.c F.k (.c (by rw[F.m];rfl) h)
theorem hN{L l:List Int}(h6:Nat.ble l.length 5=true)(hn:Nat.beq l.length N=false)(h:kW zz K):kW zz (qN x L l K):=by
 have h6:l.length<6:=Nat.lt_succ_of_le (Nat.le_of_ble_eq_true h6);have hn:l.length≠N:=Nat.ne_of_beq_eq_false hn;obtain⟨a,b⟩:=F.wr L l h6 hn;exact .c a (.c (by rw[b];rfl) h)
theorem hY{L l:List Int}(hn:l.length=N)(h:kW zz K):kW zz (qY x L l K):=by
 obtain⟨a,b⟩:=F.ri L l hn;refine .c a (.c ?_ h);rw[b];show(decide ((0:Int)=0)&&decide ((W l).length=x.Lr))=true;rw[dt rfl,dt (F.ln l hn)];rfl
theorem hOp(h:kW zz K):kW zz (qOp x K):=by
 obtain⟨n2,n3,n4,n5,n11,n32⟩:=Rk F.g;exact .c F.b (.c (df n32) (.c (df n11) (.c (df n2) (.c (df n3) (.c (df n4) (.c (df n5) (.c (df n11) (.c (apF _) h))))))))
theorem KD(h:kW zz K):kW zz (KS x K):=.c (aaq _) (hOp F h)
theorem T8(h:kW zz K):kW zz (qO2 x K):=.c (aaq _) (KD F h)
theorem UO{l h:List Int}(e:W h=W l)(n1:h.length=N)(n2:l.length=N)(k:kW zz K):kW zz (qC1 x l h K):=by
 refine .c ?_ k;rw[(F.ri [] h n1).2,(F.ri x.L l n2).2,e,dt rfl];rfl
theorem zk{l h:List Int}(e:W h=W l)(n1:h.length=N)(n2:l.length=N)(k:kW zz K):kW zz (CB x l h K):=by
 refine UO F e n1 n2 (.c ?_ k);rw[(F.ri [] h n1).2,(F.ri x.L l n2).2,e,dt rfl];rfl
theorem hG{l ts out h:List Int}{g:List (den tI)}{of:Ax->FL->FL}{cm:Ax->List Int->List Int->FL->FL}(hc:gC x (yA x ts out g)=true)(hm:mbB (yA x ts out g)=true)(ho: ∀ K,kW zz K->kW zz (of x K))(hcm: ∀ K,kW zz K->kW zz (cm x l h K))(n1:h.length=N)(hK:kW zz K):kW zz (zZ x l ts out g of cm h K):=by
 obtain⟨n2,n3,n4,n5,n11,n32⟩:=Rk F.g;exact .c hc (.c hm (.c F.z (.c hm (ho _ (.c (by rw[df n5,df n11];rfl) (.c (dt F.g) (hI F (.c (by rw[dt rfl,dt rfl,dt rfl,dt rfl,dt rfl];rfl) (hY F n1 (hcm _ hK))))))))))
end
theorem hR{x:Ax}{ts out:List Int}{g:List (den tI)}{K:FL}(hc:gC x (yA x ts out g)=true)(h:kW zz K):kW zz (lZ x ts out g K):=.c hc h
theorem ap4{a:Int}(h:U a):U (sA a):=by
 obtain⟨n,rfl⟩: ∃ n:Nat,a=n:=⟨a.toNat,by have:=h.1;omega⟩
 have hn:n<18446744073709551616:=by have:=h.2;omega
 have e:sA (n:Int)=((n &&& 4294967295:Nat):Int):=J8 n 4294967295 hn (by decide);have hl:n &&& 4294967295<=n:=Nat.and_le_left;rw[e];exact⟨by omega,by omega⟩
theorem ap5{V Z D op A B lo hi L a b c d e W}(F:HF ⟨V,Z,jB,true,D,2,op,A,B,lo,hi,L⟩ 4 W)(Q:IQ jB (op,A,B,lo,hi,[]))(hG:GI jB A lo hi)(hp:(j8 (mI (op,A,B,lo,hi,[]))).2=true)(ua:U a)(ub:U b)(uc:U c)(ud:U d)(ue:U e):kW zz (EF ⟨V,Z,jB,true,D,2,op,A,B,lo,hi,L⟩ a b c d e):=by
 have ew:W [rj a,rj b,rj c,rj d]=W [a,b,c,d]:=by rw[nC ua,nC ub,nC uc,nC ud]
 exact hI F (hN F rfl rfl (hN F rfl rfl (hN F rfl rfl (hN F rfl rfl (hY F rfl (Vv.hG F (uu Q hG hp) (oi rfl rfl) (fun _ h=>T8 F h) (fun _ h=>zk F ew rfl rfl h) rfl (Vv.hG F (uu Q hG hp) (oi rfl rfl) (fun _ h=>T8 F h) (fun _ h=>zk F ew rfl rfl h) rfl (hN F rfl rfl (.e)))))))))
theorem ahM{V Z D op A B lo hi L a b c d e W}(F:HF ⟨V,Z,jB,false,D,2,op,A,B,lo,hi,L⟩ 4 W)(Q:IQ jB (op,A,B,lo,hi,[]))(hp:(j8 (mI (op,A,B,lo,hi,[]))).2=false)(hc:(ID (op,A,B,lo,hi,[],())).1=false):kW zz (EG ⟨V,Z,jB,false,D,2,op,A,B,lo,hi,L⟩ a b c d e):=hI F (hN F rfl rfl (hN F rfl rfl (hN F rfl rfl (hN F rfl rfl (hY F rfl (hR (cJ nD Q hp) (hR (cJ nD Q hp) (.c (xE _ _ _ _ _) (.c hc (hN F rfl rfl (.e)))))))))))
theorem awA{V Z D op A B lo hi L a b c d e W}(F:HF ⟨V,Z,mX,true,D,2,op,A,B,lo,hi,L⟩ 2 W)(Q:IQ mX (op,A,B,lo,hi,[]))(hG:GI mX A lo hi)(hp:(j8 (mI (op,A,B,lo,hi,[]))).2=true)(ua:U a)(ub:U b)(uc:U c)(ud:U d)(ue:U e):kW zz (aao ⟨V,Z,mX,true,D,2,op,A,B,lo,hi,L⟩ a b c d e):=by
 have ew:W [rj a,rj b]=W [a,b]:=by rw[nC ua,nC ub]
 exact hI F (hN F rfl rfl (hN F rfl rfl (hY F rfl (Vv.hG F (r6 Q hG hp) (oi rfl rfl) (fun _ h=>KD F h) (fun _ h=>zk F ew rfl rfl h) rfl (hR (u4 Q hG hp) (hR (u5 Q hG hp) (hR (u6 Q hG hp) (hR (u7 Q hG hp) (Vv.hG F (r6 Q hG hp) (oi rfl rfl) (fun _ h=>KD F h) (fun _ h=>zk F ew rfl rfl h) rfl (Vv.hG F (r6 Q hG hp) (oi rfl rfl) (fun _ h=>KD F h) (fun _ h=>zk F ew rfl rfl h) rfl (hR (u4 Q hG hp) (hR (u5 Q hG hp) (hR (u6 Q hG hp) (hR (u7 Q hG hp) (Vv.hG F (r6 Q hG hp) (oi rfl rfl) (fun _ h=>KD F h) (fun _ h=>zk F ew rfl rfl h) rfl (hN F rfl rfl (hN F rfl rfl (hN F rfl rfl (.e)))))))))))))))))))
theorem ap6{V Z D op A B lo hi L a b c d e W}(F:HF ⟨V,Z,mX,false,D,2,op,A,B,lo,hi,L⟩ 2 W)(Q:IQ mX (op,A,B,lo,hi,[]))(hp:(j8 (mI (op,A,B,lo,hi,[]))).2=false)(hc:(ID (op,A,B,lo,hi,[],())).1=false):kW zz (Rd ⟨V,Z,mX,false,D,2,op,A,B,lo,hi,L⟩ a b c d e):=hI F (hN F rfl rfl (hN F rfl rfl (hY F rfl (hR (cJ uk Q hp) (hR (cJ um Q hp) (hR (cJ uo Q hp) (hR (cJ uq Q hp) (hR (cJ ur Q hp) (hR (cJ uk Q hp) (hR (cJ uk Q hp) (hR (cJ um Q hp) (hR (cJ uo Q hp) (hR (cJ uq Q hp) (hR (cJ ur Q hp) (hR (cJ uk Q hp) (.c (xE _ _ _ _ _) (.c hc (hN F rfl rfl (hN F rfl rfl (hN F rfl rfl (.e)))))))))))))))))))))
theorem ap7{n:Int}{V Z D op A B lo hi L a b c d e W}(F:HF ⟨V,Z,(mY n 127),true,D,1,op,A,B,lo,hi,L⟩ 2 W)(Q:IQ (mY n 127) (op,A,B,lo,hi,[]))(hG:GI (mY n 127) A lo hi)(hp:(j8 (mI (op,A,B,lo,hi,[]))).2=true)(ua:U a)(ub:U b)(uc:U c)(ud:U d)(ue:U e):kW zz (EH ⟨V,Z,(mY n 127),true,D,1,op,A,B,lo,hi,L⟩ a b c d e):=by
 have ew:W [rj a,rj b]=W [a,b]:=by rw[nC ua,nC ub]
 exact hI F (hN F rfl rfl (hN F rfl rfl (hY F rfl (Vv.hG F (yB Q hG hp) (oi rfl rfl) (fun _ h=>KD F h) (fun _ h=>UO F ew rfl rfl h) rfl (hR (AO Q hG hp) (hR (AP Q hG hp) (hR (AQ Q hG hp) (hR (AR Q hG hp) (Vv.hG F (yB Q hG hp) (oi rfl rfl) (fun _ h=>KD F h) (fun _ h=>UO F ew rfl rfl h) rfl (hR (yC Q hG hp) (hR (AU Q hG hp) (hR (AW Q hG hp) (hR (AX Q hG hp) (hR (AY Q hG hp) (hR (yC Q hG hp) (hN F rfl rfl (hN F rfl rfl (hN F rfl rfl (.e)))))))))))))))))))
theorem ahN{n:Int}{V Z D op A B lo hi L a b c d e W}(F:HF ⟨V,Z,(mY n 127),false,D,1,op,A,B,lo,hi,L⟩ 2 W)(Q:IQ (mY n 127) (op,A,B,lo,hi,[]))(hp:(j8 (mI (op,A,B,lo,hi,[]))).2=false)(hc:(ID (op,A,B,lo,hi,[],())).1=false):kW zz (ze ⟨V,Z,(mY n 127),false,D,1,op,A,B,lo,hi,L⟩ a b c d e):=hI F (hN F rfl rfl (hN F rfl rfl (hY F rfl (hR (cJ nW Q hp) (hR (cJ nE Q hp) (hR (cJ nF Q hp) (hR (cJ nG Q hp) (hR (cJ nH Q hp) (hR (cJ nW Q hp) (hR (cJ nY Q hp) (hR (cJ nI Q hp) (hR (cJ nJ Q hp) (hR (cJ nK Q hp) (hR (cJ nL Q hp) (hR (cJ nY Q hp) (.c (xE _ _ _ _ _) (.c hc (hN F rfl rfl (hN F rfl rfl (hN F rfl rfl (.e)))))))))))))))))))))
theorem ap8{n:Int}{V Z D op A B lo hi L a b c d e W}(F:HF ⟨V,Z,(mY n 126),true,D,1,op,A,B,lo,hi,L⟩ 2 W)(Q:IQ (mY n 126) (op,A,B,lo,hi,[]))(hG:GI (mY n 126) A lo hi)(hp:(j8 (mI (op,A,B,lo,hi,[]))).2=true)(ua:U a)(ub:U b)(uc:U c)(ud:U d)(ue:U e):kW zz (Re ⟨V,Z,(mY n 126),true,D,1,op,A,B,lo,hi,L⟩ a b c d e):=by
 have ew:W [rj a,rj b]=W [a,b]:=by rw[nC ua,nC ub]
 exact hI F (hN F rfl rfl (hN F rfl rfl (hY F rfl (hR (yD Q hG hp) (hR (AZ Q hG hp) (hR (A0 Q hG hp) (hR (A1 Q hG hp) (hR (A2 Q hG hp) (hR (yD Q hG hp) (Vv.hG F (yE Q hG hp) (oi rfl rfl) (fun _ h=>KD F h) (fun _ h=>UO F ew rfl rfl h) rfl (hR (A3 Q hG hp) (hR (A4 Q hG hp) (hR (A5 Q hG hp) (hR (A6 Q hG hp) (Vv.hG F (yE Q hG hp) (oi rfl rfl) (fun _ h=>KD F h) (fun _ h=>UO F ew rfl rfl h) rfl (hN F rfl rfl (hN F rfl rfl (hN F rfl rfl (.e)))))))))))))))))))
theorem ahO{n:Int}{V Z D op A B lo hi L a b c d e W}(F:HF ⟨V,Z,(mY n 126),false,D,1,op,A,B,lo,hi,L⟩ 2 W)(Q:IQ (mY n 126) (op,A,B,lo,hi,[]))(hp:(j8 (mI (op,A,B,lo,hi,[]))).2=false)(hc:(ID (op,A,B,lo,hi,[],())).1=false):kW zz (ze ⟨V,Z,(mY n 126),false,D,1,op,A,B,lo,hi,L⟩ a b c d e):=hI F (hN F rfl rfl (hN F rfl rfl (hY F rfl (hR (cJ nW Q hp) (hR (cJ nE Q hp) (hR (cJ nF Q hp) (hR (cJ nG Q hp) (hR (cJ nH Q hp) (hR (cJ nW Q hp) (hR (cJ nY Q hp) (hR (cJ nI Q hp) (hR (cJ nJ Q hp) (hR (cJ nK Q hp) (hR (cJ nL Q hp) (hR (cJ nY Q hp) (.c (xE _ _ _ _ _) (.c hc (hN F rfl rfl (hN F rfl rfl (hN F rfl rfl (.e)))))))))))))))))))))
theorem ap9{n:Int}{V Z D op A B lo hi L a b c d e W}(F:HF ⟨V,Z,(pg n 127),true,D,2,op,A,B,lo,hi,L⟩ 3 W)(Q:IQ (pg n 127) (op,A,B,lo,hi,[]))(hG:GI (pg n 127) A lo hi)(hp:(j8 (mI (op,A,B,lo,hi,[]))).2=true)(ua:U a)(ub:U b)(uc:U c)(ud:U d)(ue:U e):kW zz (EI ⟨V,Z,(pg n 127),true,D,2,op,A,B,lo,hi,L⟩ a b c d e):=by
 have ew:W [rj a,rj b,rj (sA c)]=W [a,b,c]:=by
  rw[nC ua,nC ub,nC (ap4 uc)];exact F.cu [a,b,c] rfl fun v hv=>by
   simp only[List.mem_cons,List.not_mem_nil,or_false]at hv
   rcases hv with rfl|rfl|rfl
   ·exact ua
   ·exact ub
   ·exact uc
 exact hI F (hN F rfl rfl (hN F rfl rfl (hN F rfl rfl (hY F rfl (Vv.hG F (uv Q hG hp) (oi rfl rfl) (fun _ h=>T8 F h) (fun _ h=>zk F ew rfl rfl h) rfl (hR (uw Q hG hp) (hR (ux Q hG hp) (hR (uy Q hG hp) (Vv.hG F (uv Q hG hp) (oi rfl rfl) (fun _ h=>T8 F h) (fun _ h=>zk F ew rfl rfl h) rfl (hR (uw Q hG hp) (hR (ux Q hG hp) (hR (uy Q hG hp) (hN F rfl rfl (hN F rfl rfl (.e)))))))))))))))
theorem ahP{n:Int}{V Z D op A B lo hi L a b c d e W}(F:HF ⟨V,Z,(pg n 127),false,D,2,op,A,B,lo,hi,L⟩ 3 W)(Q:IQ (pg n 127) (op,A,B,lo,hi,[]))(hp:(j8 (mI (op,A,B,lo,hi,[]))).2=false)(hc:(ID (op,A,B,lo,hi,[],())).1=false):kW zz (zf ⟨V,Z,(pg n 127),false,D,2,op,A,B,lo,hi,L⟩ a b c d e):=hI F (hN F rfl rfl (hN F rfl rfl (hN F rfl rfl (hY F rfl (hR (cJ kS Q hp) (hR (cJ kT Q hp) (hR (cJ kU Q hp) (hR (cJ kV Q hp) (hR (cJ kS Q hp) (hR (cJ kT Q hp) (hR (cJ kU Q hp) (hR (cJ kV Q hp) (.c (xE _ _ _ _ _) (.c hc (hN F rfl rfl (hN F rfl rfl (.e)))))))))))))))))
theorem ap'{n:Int}{V Z D op A B lo hi L a b c d e W}(F:HF ⟨V,Z,(pg n 126),true,D,2,op,A,B,lo,hi,L⟩ 3 W)(Q:IQ (pg n 126) (op,A,B,lo,hi,[]))(hG:GI (pg n 126) A lo hi)(hp:(j8 (mI (op,A,B,lo,hi,[]))).2=true)(ua:U a)(ub:U b)(uc:U c)(ud:U d)(ue:U e):kW zz (Rf ⟨V,Z,(pg n 126),true,D,2,op,A,B,lo,hi,L⟩ a b c d e):=by
 have ew:W [rj a,rj b,rj c]=W [a,b,c]:=by rw[nC ua,nC ub,nC uc]
 exact hI F (hN F rfl rfl (hN F rfl rfl (hN F rfl rfl (hY F rfl (hR (uz Q hG hp) (Vv.hG F (uA Q hG hp) (oi rfl rfl) (fun _ h=>T8 F h) (fun _ h=>zk F ew rfl rfl h) rfl (hR (uB Q hG hp) (hR (uC Q hG hp) (hR (uz Q hG hp) (Vv.hG F (uA Q hG hp) (oi rfl rfl) (fun _ h=>T8 F h) (fun _ h=>zk F ew rfl rfl h) rfl (hR (uB Q hG hp) (hR (uC Q hG hp) (hN F rfl rfl (hN F rfl rfl (.e)))))))))))))))
theorem ahQ{n:Int}{V Z D op A B lo hi L a b c d e W}(F:HF ⟨V,Z,(pg n 126),false,D,2,op,A,B,lo,hi,L⟩ 3 W)(Q:IQ (pg n 126) (op,A,B,lo,hi,[]))(hp:(j8 (mI (op,A,B,lo,hi,[]))).2=false)(hc:(ID (op,A,B,lo,hi,[],())).1=false):kW zz (zf ⟨V,Z,(pg n 126),false,D,2,op,A,B,lo,hi,L⟩ a b c d e):=hI F (hN F rfl rfl (hN F rfl rfl (hN F rfl rfl (hY F rfl (hR (cJ kS Q hp) (hR (cJ kT Q hp) (hR (cJ kU Q hp) (hR (cJ kV Q hp) (hR (cJ kS Q hp) (hR (cJ kT Q hp) (hR (cJ kU Q hp) (hR (cJ kV Q hp) (.c (xE _ _ _ _ _) (.c hc (hN F rfl rfl (hN F rfl rfl (.e)))))))))))))))))
theorem aqa{V Z D op A B lo hi L a b c d e W}(F:HF ⟨V,Z,(pP 127),true,D,2,op,A,B,lo,hi,L⟩ 1 W)(Q:IQ (pP 127) (op,A,B,lo,hi,[]))(hG:GI (pP 127) A lo hi)(hp:(j8 (mI (op,A,B,lo,hi,[]))).2=true)(ua:U a)(ub:U b)(uc:U c)(ud:U d)(ue:U e):kW zz (Rg ⟨V,Z,(pP 127),true,D,2,op,A,B,lo,hi,L⟩ a b c d e):=by
 have ew:W [rj (sA a)]=W [a]:=by
  rw[nC (ap4 ua)];exact F.cu [a] rfl fun v hv=>by
   simp only[List.mem_cons,List.not_mem_nil,or_false]at hv;rw[hv];exact ua
 exact hI F (hN F rfl rfl (hY F rfl (Vv.hG F (rz Q hG hp) (oi rfl rfl) (fun _ h=>KD F h) (fun _ h=>zk F ew rfl rfl h) rfl (hR (rA Q hG hp) (Vv.hG F (rz Q hG hp) (oi rfl rfl) (fun _ h=>KD F h) (fun _ h=>zk F ew rfl rfl h) rfl (hR (rA Q hG hp) (Vv.hG F (rz Q hG hp) (oi rfl rfl) (fun _ h=>KD F h) (fun _ h=>zk F ew rfl rfl h) rfl (hR (rA Q hG hp) (Vv.hG F (rz Q hG hp) (oi rfl rfl) (fun _ h=>KD F h) (fun _ h=>zk F ew rfl rfl h) rfl (hR (rA Q hG hp) (hN F rfl rfl (hN F rfl rfl (hN F rfl rfl (hN F rfl rfl (.e)))))))))))))))
theorem ahR{V Z D op A B lo hi L a b c d e W}(F:HF ⟨V,Z,(pP 127),false,D,2,op,A,B,lo,hi,L⟩ 1 W)(Q:IQ (pP 127) (op,A,B,lo,hi,[]))(hp:(j8 (mI (op,A,B,lo,hi,[]))).2=false)(hc:(ID (op,A,B,lo,hi,[],())).1=false):kW zz (EJ ⟨V,Z,(pP 127),false,D,2,op,A,B,lo,hi,L⟩ a b c d e):=hI F (hN F rfl rfl (hY F rfl (hR (cJ na Q hp) (hR (cJ nc Q hp) (hR (cJ na Q hp) (hR (cJ nc Q hp) (hR (cJ na Q hp) (hR (cJ nc Q hp) (hR (cJ na Q hp) (hR (cJ nc Q hp) (.c (xE _ _ _ _ _) (.c hc (hN F rfl rfl (hN F rfl rfl (hN F rfl rfl (hN F rfl rfl (.e)))))))))))))))))
theorem aqb{V Z D op A B lo hi L a b c d e W}(F:HF ⟨V,Z,(pP 126),true,D,2,op,A,B,lo,hi,L⟩ 1 W)(Q:IQ (pP 126) (op,A,B,lo,hi,[]))(hG:GI (pP 126) A lo hi)(hp:(j8 (mI (op,A,B,lo,hi,[]))).2=true)(ua:U a)(ub:U b)(uc:U c)(ud:U d)(ue:U e):kW zz (Rh ⟨V,Z,(pP 126),true,D,2,op,A,B,lo,hi,L⟩ a b c d e):=by
 have ew:W [rj a]=W [a]:=by rw[nC ua]
 exact hI F (hN F rfl rfl (hY F rfl (hR (rB Q hG hp) (Vv.hG F (rD Q hG hp) (oi rfl rfl) (fun _ h=>KD F h) (fun _ h=>zk F ew rfl rfl h) rfl (hR (rB Q hG hp) (Vv.hG F (rD Q hG hp) (oi rfl rfl) (fun _ h=>KD F h) (fun _ h=>zk F ew rfl rfl h) rfl (hR (rB Q hG hp) (Vv.hG F (rD Q hG hp) (oi rfl rfl) (fun _ h=>KD F h) (fun _ h=>zk F ew rfl rfl h) rfl (hR (rB Q hG hp) (Vv.hG F (rD Q hG hp) (oi rfl rfl) (fun _ h=>KD F h) (fun _ h=>zk F ew rfl rfl h) rfl (hN F rfl rfl (hN F rfl rfl (hN F rfl rfl (hN F rfl rfl (.e)))))))))))))))
theorem ahS{V Z D op A B lo hi L a b c d e W}(F:HF ⟨V,Z,(pP 126),false,D,2,op,A,B,lo,hi,L⟩ 1 W)(Q:IQ (pP 126) (op,A,B,lo,hi,[]))(hp:(j8 (mI (op,A,B,lo,hi,[]))).2=false)(hc:(ID (op,A,B,lo,hi,[],())).1=false):kW zz (EJ ⟨V,Z,(pP 126),false,D,2,op,A,B,lo,hi,L⟩ a b c d e):=hI F (hN F rfl rfl (hY F rfl (hR (cJ na Q hp) (hR (cJ nc Q hp) (hR (cJ na Q hp) (hR (cJ nc Q hp) (hR (cJ na Q hp) (hR (cJ nc Q hp) (hR (cJ na Q hp) (hR (cJ nc Q hp) (.c (xE _ _ _ _ _) (.c hc (hN F rfl rfl (hN F rfl rfl (hN F rfl rfl (hN F rfl rfl (.e)))))))))))))))))
theorem aqc{V Z D op A B lo hi L a b c d e W}(F:HF ⟨V,Z,Dn,true,D,2,op,A,B,lo,hi,L⟩ 0 W)(Q:IQ Dn (op,A,B,lo,hi,[]))(hG:GI Dn A lo hi)(hp:(j8 (mI (op,A,B,lo,hi,[]))).2=true)(ua:U a)(ub:U b)(uc:U c)(ud:U d)(ue:U e):kW zz (Ri ⟨V,Z,Dn,true,D,2,op,A,B,lo,hi,L⟩ a b c d e):=by
 have ew:W []=W []:=by
  rfl
 exact hI F (hY F rfl (Vv.hG F (mZ Q hG hp) (oi rfl rfl) (fun _ h=>hOp F h) (fun _ h=>zk F ew rfl rfl h) rfl (Vv.hG F (mZ Q hG hp) (oi rfl rfl) (fun _ h=>hOp F h) (fun _ h=>zk F ew rfl rfl h) rfl (Vv.hG F (mZ Q hG hp) (oi rfl rfl) (fun _ h=>hOp F h) (fun _ h=>zk F ew rfl rfl h) rfl (Vv.hG F (mZ Q hG hp) (oi rfl rfl) (fun _ h=>hOp F h) (fun _ h=>zk F ew rfl rfl h) rfl (Vv.hG F (mZ Q hG hp) (oi rfl rfl) (fun _ h=>hOp F h) (fun _ h=>zk F ew rfl rfl h) rfl (Vv.hG F (mZ Q hG hp) (oi rfl rfl) (fun _ h=>hOp F h) (fun _ h=>zk F ew rfl rfl h) rfl (Vv.hG F (mZ Q hG hp) (oi rfl rfl) (fun _ h=>hOp F h) (fun _ h=>zk F ew rfl rfl h) rfl (Vv.hG F (mZ Q hG hp) (oi rfl rfl) (fun _ h=>hOp F h) (fun _ h=>zk F ew rfl rfl h) rfl (Vv.hG F (mZ Q hG hp) (oi rfl rfl) (fun _ h=>hOp F h) (fun _ h=>zk F ew rfl rfl h) rfl (hN F rfl rfl (hN F rfl rfl (hN F rfl rfl (hN F rfl rfl (hN F rfl rfl (.e))))))))))))))))
theorem ahT{V Z D op A B lo hi L a b c d e W}(F:HF ⟨V,Z,Dn,false,D,2,op,A,B,lo,hi,L⟩ 0 W)(Q:IQ Dn (op,A,B,lo,hi,[]))(hp:(j8 (mI (op,A,B,lo,hi,[]))).2=false)(hc:(ID (op,A,B,lo,hi,[],())).1=false):kW zz (Rj ⟨V,Z,Dn,false,D,2,op,A,B,lo,hi,L⟩ a b c d e):=hI F (hY F rfl (hR (cJ r5 Q hp) (hR (cJ r5 Q hp) (hR (cJ r5 Q hp) (hR (cJ r5 Q hp) (hR (cJ r5 Q hp) (hR (cJ r5 Q hp) (hR (cJ r5 Q hp) (hR (cJ r5 Q hp) (hR (cJ r5 Q hp) (.c (xE _ _ _ _ _) (.c hc (hN F rfl rfl (hN F rfl rfl (hN F rfl rfl (hN F rfl rfl (hN F rfl rfl (.e))))))))))))))))))
theorem aqd{V Z D op A B lo hi L a b c d e W}(F:HF ⟨V,Z,Dm,true,D,2,op,A,B,lo,hi,L⟩ 4 W)(Q:IQ Dm (op,A,B,lo,hi,[]))(hG:GI Dm A lo hi)(hp:(j8 (mI (op,A,B,lo,hi,[]))).2=true)(ua:U a)(ub:U b)(uc:U c)(ud:U d)(ue:U e):kW zz (EF ⟨V,Z,Dm,true,D,2,op,A,B,lo,hi,L⟩ a b c d e):=by
 have ew:W [rj a,rj b,rj c,rj d]=W [a,b,c,d]:=by rw[nC ua,nC ub,nC uc,nC ud]
 exact hI F (hN F rfl rfl (hN F rfl rfl (hN F rfl rfl (hN F rfl rfl (hY F rfl (Vv.hG F (uD Q hG hp) (oi rfl rfl) (fun _ h=>T8 F h) (fun _ h=>zk F ew rfl rfl h) rfl (Vv.hG F (uD Q hG hp) (oi rfl rfl) (fun _ h=>T8 F h) (fun _ h=>zk F ew rfl rfl h) rfl (hN F rfl rfl (.e)))))))))
theorem ahU{V Z D op A B lo hi L a b c d e W}(F:HF ⟨V,Z,Dm,false,D,2,op,A,B,lo,hi,L⟩ 4 W)(Q:IQ Dm (op,A,B,lo,hi,[]))(hp:(j8 (mI (op,A,B,lo,hi,[]))).2=false)(hc:(ID (op,A,B,lo,hi,[],())).1=false):kW zz (EG ⟨V,Z,Dm,false,D,2,op,A,B,lo,hi,L⟩ a b c d e):=hI F (hN F rfl rfl (hN F rfl rfl (hN F rfl rfl (hN F rfl rfl (hY F rfl (hR (cJ nD Q hp) (hR (cJ nD Q hp) (.c (xE _ _ _ _ _) (.c hc (hN F rfl rfl (.e)))))))))))
theorem awB{V Z D op A B lo hi L a b c d e W}(F:HF ⟨V,Z,Nf,true,D,2,op,A,B,lo,hi,L⟩ 3 W)(Q:IQ Nf (op,A,B,lo,hi,[]))(hG:GI Nf A lo hi)(hp:(j8 (mI (op,A,B,lo,hi,[]))).2=true)(ua:U a)(ub:U b)(uc:U c)(ud:U d)(ue:U e):kW zz (EI ⟨V,Z,Nf,true,D,2,op,A,B,lo,hi,L⟩ a b c d e):=by
 have ew:W [rj a,rj b,rj (sA c)]=W [a,b,c]:=by
  rw[nC ua,nC ub,nC (ap4 uc)];exact F.cu [a,b,c] rfl fun v hv=>by
   simp only[List.mem_cons,List.not_mem_nil,or_false]at hv
   rcases hv with rfl|rfl|rfl
   ·exact ua
   ·exact ub
   ·exact uc
 exact hI F (hN F rfl rfl (hN F rfl rfl (hN F rfl rfl (hY F rfl (Vv.hG F (u9 Q hG hp) (oi rfl rfl) (fun _ h=>T8 F h) (fun _ h=>zk F ew rfl rfl h) rfl (hR (vb Q hG hp) (hR (vc Q hG hp) (hR (ve Q hG hp) (Vv.hG F (u9 Q hG hp) (oi rfl rfl) (fun _ h=>T8 F h) (fun _ h=>zk F ew rfl rfl h) rfl (hR (vb Q hG hp) (hR (vc Q hG hp) (hR (ve Q hG hp) (hN F rfl rfl (hN F rfl rfl (.e)))))))))))))))
theorem aqe{V Z D op A B lo hi L a b c d e W}(F:HF ⟨V,Z,Nf,false,D,2,op,A,B,lo,hi,L⟩ 3 W)(Q:IQ Nf (op,A,B,lo,hi,[]))(hp:(j8 (mI (op,A,B,lo,hi,[]))).2=false)(hc:(ID (op,A,B,lo,hi,[],())).1=false):kW zz (zf ⟨V,Z,Nf,false,D,2,op,A,B,lo,hi,L⟩ a b c d e):=hI F (hN F rfl rfl (hN F rfl rfl (hN F rfl rfl (hY F rfl (hR (cJ kS Q hp) (hR (cJ kT Q hp) (hR (cJ kU Q hp) (hR (cJ kV Q hp) (hR (cJ kS Q hp) (hR (cJ kT Q hp) (hR (cJ kU Q hp) (hR (cJ kV Q hp) (.c (xE _ _ _ _ _) (.c hc (hN F rfl rfl (hN F rfl rfl (.e)))))))))))))))))
theorem awC{V Z D op A B lo hi L a b c d e W}(F:HF ⟨V,Z,tD,true,D,1,op,A,B,lo,hi,L⟩ 2 W)(Q:IQ tD (op,A,B,lo,hi,[]))(hG:GI tD A lo hi)(hp:(j8 (mI (op,A,B,lo,hi,[]))).2=true)(ua:U a)(ub:U b)(uc:U c)(ud:U d)(ue:U e):kW zz (EH ⟨V,Z,tD,true,D,1,op,A,B,lo,hi,L⟩ a b c d e):=by
 have ew:W [rj a,rj b]=W [a,b]:=by rw[nC ua,nC ub]
 exact hI F (hN F rfl rfl (hN F rfl rfl (hY F rfl (Vv.hG F (z6 Q hG hp) (oi rfl rfl) (fun _ h=>KD F h) (fun _ h=>UO F ew rfl rfl h) rfl (hR (Ci Q hG hp) (hR (Cj Q hG hp) (hR (Ck Q hG hp) (hR (Cm Q hG hp) (Vv.hG F (z6 Q hG hp) (oi rfl rfl) (fun _ h=>KD F h) (fun _ h=>UO F ew rfl rfl h) rfl (hR (z7 Q hG hp) (hR (Cn Q hG hp) (hR (Co Q hG hp) (hR (Cp Q hG hp) (hR (Cr Q hG hp) (hR (z7 Q hG hp) (hN F rfl rfl (hN F rfl rfl (hN F rfl rfl (.e)))))))))))))))))))
theorem aqf{V Z D op A B lo hi L a b c d e W}(F:HF ⟨V,Z,tD,false,D,1,op,A,B,lo,hi,L⟩ 2 W)(Q:IQ tD (op,A,B,lo,hi,[]))(hp:(j8 (mI (op,A,B,lo,hi,[]))).2=false)(hc:(ID (op,A,B,lo,hi,[],())).1=false):kW zz (ze ⟨V,Z,tD,false,D,1,op,A,B,lo,hi,L⟩ a b c d e):=hI F (hN F rfl rfl (hN F rfl rfl (hY F rfl (hR (cJ nW Q hp) (hR (cJ nE Q hp) (hR (cJ nF Q hp) (hR (cJ nG Q hp) (hR (cJ nH Q hp) (hR (cJ nW Q hp) (hR (cJ nY Q hp) (hR (cJ nI Q hp) (hR (cJ nJ Q hp) (hR (cJ nK Q hp) (hR (cJ nL Q hp) (hR (cJ nY Q hp) (.c (xE _ _ _ _ _) (.c hc (hN F rfl rfl (hN F rfl rfl (hN F rfl rfl (.e)))))))))))))))))))))
end Go.Proofs.Vv
noncomputable section
namespace Go.Proofs.Vv
open Go.Ab Go.Ab.Lf Go.Proofs.Vd
set_option maxRecDepth 1000000
def isO(op:Int):Bool:=bif zn op then(bif decide (64768<=op)then(bif !decide ((kZ op).1=7)then !decide ((kZ op).1=8)else false)else false)else false
theorem eq6(op:Int):(t6 (op,())).val=some (cg [.bool] (isO op,())):=by kernel_rfl
theorem ajI(op:Int):k6 (op,())=true/\m6 (op,())=(isO op,()):=lH (cf _) (cf _) (eq6 op)
theorem Nj{op:Int}: ∀ rs:List (den ng),(∀ r,r∈rs->(r.2.1:Int)<op)->s9 op rs=none
 | [],_=>rfl
 |r::rs,h=>by
  have e:s9 op (r::rs)=(match(bif (bif decide (op<r.1)then true else decide (r.2.1<op))then Sum.inl ()else Sum.inr (some (JI r)):Unit ⊕ Option (ca sr))with| .inl _=>s9 op rs| .inr q=>q):=by kernel_rfl
  have hr:decide ((r.2.1:Int)<op)=true:=dt (h r List.mem_cons_self);rw[e,hr]
  have q:(bif decide (op<r.1)then true else true)=true:=by cases decide (op<r.1)<;>rfl
  rw[q]
  exact Nj rs fun x hx=>h x (List.mem_cons_of_mem _ hx)
theorem aqg:JH.all (fun r=>decide ((r.2.1:Int)<65024))=true:=by kernel_rfl
theorem aqh{op:Int}(h:65024<=op):isO op=false:=by
 have e:zn op=false:=by
  unfold zn OQ;rw[dt (by omega:(64768:Int)<=op),cond_true,Nj JH fun r hr=>by
   have:=List.all_eq_true.1 aqg r hr;have:=of_decide_eq_true this
   exact Int.lt_of_lt_of_le this h]
  rfl
 unfold isO;rw[e];rfl
theorem aqi{op:Int}(h:op<64768):isO op=false:=by
 unfold isO;rw[df (by omega: ¬ (64768:Int)<=op)];cases zn op<;>rfl
theorem awD{v:Nat}:isO (jG v)=isV v:=by
 unfold isO isV;rw[dt (Dt v),cond_true];cases zn (jG v)<;>cases decide ((kZ (jG v)).1=7)<;>cases decide ((kZ (jG v)).1=8)<;>rfl
def e3n:List (Nat×jJ):=[(5,s5a),(6,s6v false)]
theorem aqj{V cb}(W:WI V cb):j1 cb e3n:=.cons W.aw (.cons (aal W.toWorld false) .nil)
def t3n(x:ca ti3):Lf.T (List Pl):=mN P3 [] (Ps [.bo]) (fun _=>none) Tryz.x3 80 (j7 e3n 80) (cg ti3 x)
theorem aCs(op A B lo hi:Int)(L:List Int)(a b c d e:Int):(t3n (op,A,B,lo,hi,L,a,b,c,d,e,())).val=cy (k6 (op,())) (cy (!(xor false (m6 (op,())).1)) (some zz)):=by kernel_rfl
theorem aax{call:lL}{cb:cx}(C:vu call cb){f:FuncId}{b:Cv}(hb:sJ cb f b)(vU:Nat.ble b.ntmps 512=true){L:Nat->Option mB}(hL:pH Rx.w cb L b.code){m:Nat}{P:n9}{Q:n9}:(⟨P,[],Q,mN P [] Q L b m call⟩:jJ).Ok f cb:=
 aiS C hb (Nat.le_of_ble_eq_true vU) hL (m:=m) (fun g hg=>by cases hg) fun _ _ h=>h
def aay(cb:cx)(x:ca ti3):Prop:= ∃ f:List Pl->Lf.T (List Pl),(⟨P3,[],Ps [.bo],f⟩:jJ).Ok 3 cb/\(f (cg ti3 x)).val=some zz
theorem lQ{V cb}(W:WI V cb){Z:List Int}{I:den kE}{gf:Bool}{D:Dx}{N L:Nat}(hD:(kR PD [] QD rF sx fun x=>.ck (D.k x) (.ok (D.m x))).Ok 7 cb){x:ca ti3}{p:List Nat}{F:FL}(e:Cg (t3 V Z I gf D N L x) p=F)(h:kW zz F):aay cb x:=
 ⟨_,aax (W.toWorld.in (awi W Z I gf hD N L) 80) (W.toWorld.st 3 _ rfl) rfl (cp _) (m:=80),EE (t3 V Z I gf D N L x) p (by rw[e];exact h)⟩
theorem zok{Z:List Int}(h:Z=List.replicate 65536 (0:Int)):zOk Z=true:=by
 unfold zOk;rw[dt h];rfl
theorem awE{I:den kE}{N Lr:Nat}(k:KI I N Lr):((I.1:Int)=1∨(I.1:Int)=11∨(I.1:Int)=12∨(I.1:Int)=13)/\I.2.2.1=true:=by
 cases k<;>exact⟨by simp,rfl⟩
theorem Rl{V cb}(W:WI V cb){D:Dx}{op A B lo hi:Int}(hD:(kR PD [] QD rF sx fun x=>.ck (D.k x) (.ok (D.m x))).Ok 7 cb)(hk:k6 (op,())=true)(hm:(m6 (op,())).1=true)(hr: ∀ L l:List Int,l.length<6->D.k (op,A,B,lo,hi,L,l,())=true/\D.m (op,A,B,lo,hi,L,l,())=([],1,()))(L:List Int)(a b c d e:Int):aay cb (op,A,B,lo,hi,L,a,b,c,d,e,()):=by
 refine lQ W (Z:=[]) (I:=jB) (gf:=true) hD (qn jB V [] D op A B lo hi L a b c d e) ?_;have n: ∀ {l:List Int} {K:FL},l.length<6->kW zz K->kW zz (qN ⟨V,[],jB,true,D,2,op,A,B,lo,hi,L⟩ L l K):=fun{l K} hl h=>by
  obtain⟨p,q⟩:=hr L l hl;have p:D.k (dX ⟨V,[],jB,true,D,2,op,A,B,lo,hi,L⟩ L l)=true:=p;have q:D.m (dX ⟨V,[],jB,true,D,2,op,A,B,lo,hi,L⟩ L l)=([],1,()):=q;exact .c p (.c (by show(decide ((D.m (dX _ L l)).1.length=0)&&decide ((D.m (dX _ L l)).2.1=1))=true;rw[q];rfl) h)
 exact .c hk (.c (by rw[hm];rfl) (n (by show 0<6;decide) (n (by show 1<6;decide) (n (by show 2<6;decide) (n (by show 3<6;decide) (n (by show 4<6;decide) (n (by show 5<6;decide) .e)))))))
theorem awF{V cb}(W:WI V cb){v:Nat}(hv:v<256)(his:isV v=true){A B lo hi:Int}{L:List Int}{a b c d e:Int}(hA: -9223372036854775808<=A/\A<9223372036854775808)(ua:U a)(ub:U b)(uc:U c)(ud:U d)(ue:U e):aay cb (jG v,A,B,lo,hi,L,a,b,c,d,e,()):=by
 obtain⟨Z,hZ⟩: ∃ Z,Z=List.replicate 65536 (0:Int):=⟨_,rfl⟩
 obtain⟨I,N,Lr,hK,hI,kD,mD,DA⟩:=ahs hv his;obtain⟨hk,hm⟩:=ajI (jG v)
 have hm:(m6 (jG v,())).1=true:=by rw[hm];exact awD.trans his
 have hD:(kR PD [] QD rF sx fun x=>.ck ((⟨kD,mD⟩:Dx).k x) (.ok ((⟨kD,mD⟩:Dx).m x))).Ok 7 cb:=DA.ok cb W.toWorld
 have Q:IQ I (jG v,A,B,lo,hi,[]):=⟨(awE hK).1,(awE hK).2,hI,Dt v,hA,rfl⟩
 by_cases h6:N<6
 ·rcases DA.ri h6 A B lo hi with⟨hG,Wf,w1,w2,w3⟩|w
  ·have F: ∀ gf,HF ⟨V,Z,I,gf,⟨kD,mD⟩,Lr,jG v,A,B,lo,hi,L⟩ N Wf:=fun gf=>⟨hk,hm,Dt v,aws hI (Dt v),zok hZ,fun L l=>DA.wr A B lo hi L l,w1,w2,w3⟩
   cases hp:(j8 (mI (jG v,A,B,lo,hi,[]))).2 with
   |true=>
    cases hK with
    |Ds=>exact lQ W (Z:=Z) (gf:=true) hD (apM V Z ⟨kD,mD⟩ (jG v) A B lo hi L a b c d e) (ap5 (F true) Q hG hp ua ub uc ud ue)
    |vv=>exact lQ W (Z:=Z) (gf:=true) hD (awv V Z ⟨kD,mD⟩ (jG v) A B lo hi L a b c d e) (awA (F true) Q hG hp ua ub uc ud ue)
    |exi n=>exact lQ W (Z:=Z) (gf:=true) hD (apO n V Z ⟨kD,mD⟩ (jG v) A B lo hi L a b c d e) (ap7 (F true) Q hG hp ua ub uc ud ue)
    |exl n=>exact lQ W (Z:=Z) (gf:=true) hD (apP n V Z ⟨kD,mD⟩ (jG v) A B lo hi L a b c d e) (ap8 (F true) Q hG hp ua ub uc ud ue)
    |rei n=>exact lQ W (Z:=Z) (gf:=true) hD (apQ n V Z ⟨kD,mD⟩ (jG v) A B lo hi L a b c d e) (ap9 (F true) Q hG hp ua ub uc ud ue)
    |rel n=>exact lQ W (Z:=Z) (gf:=true) hD (apR n V Z ⟨kD,mD⟩ (jG v) A B lo hi L a b c d e) (ap' (F true) Q hG hp ua ub uc ud ue)
    |spi=>exact lQ W (Z:=Z) (gf:=true) hD (apU V Z ⟨kD,mD⟩ (jG v) A B lo hi L a b c d e) (aqa (F true) Q hG hp ua ub uc ud ue)
    |spl=>exact lQ W (Z:=Z) (gf:=true) hD (apV V Z ⟨kD,mD⟩ (jG v) A B lo hi L a b c d e) (aqb (F true) Q hG hp ua ub uc ud ue)
    |cst=>exact lQ W (Z:=Z) (gf:=true) hD (apW V Z ⟨kD,mD⟩ (jG v) A B lo hi L a b c d e) (aqc (F true) Q hG hp ua ub uc ud ue)
    |shf=>exact lQ W (Z:=Z) (gf:=true) hD (apX V Z ⟨kD,mD⟩ (jG v) A B lo hi L a b c d e) (aqd (F true) Q hG hp ua ub uc ud ue)
    |sf=>exact lQ W (Z:=Z) (gf:=true) hD (aww V Z ⟨kD,mD⟩ (jG v) A B lo hi L a b c d e) (awB (F true) Q hG hp ua ub uc ud ue)
    |te=>exact lQ W (Z:=Z) (gf:=true) hD (awx V Z ⟨kD,mD⟩ (jG v) A B lo hi L a b c d e) (awC (F true) Q hG hp ua ub uc ud ue)
    |v3=>exact absurd h6 (by decide)
   |false=>
    have hc:(ID (jG v,A,B,lo,hi,[],())).1=false:=by
     cases h:(ID (jG v,A,B,lo,hi,[],())).1 with
     |false=>rfl
     |true=>rw[T3 hv Q h]at hp;cases hp
    cases hK with
    |Ds=>exact lQ W (Z:=Z) (gf:=false) hD (ahA V Z ⟨kD,mD⟩ (jG v) A B lo hi L a b c d e) (ahM (F false) Q hp hc)
    |vv=>exact lQ W (Z:=Z) (gf:=false) hD (apN V Z ⟨kD,mD⟩ (jG v) A B lo hi L a b c d e) (ap6 (F false) Q hp hc)
    |exi n=>exact lQ W (Z:=Z) (gf:=false) hD (ahB n V Z ⟨kD,mD⟩ (jG v) A B lo hi L a b c d e) (ahN (F false) Q hp hc)
    |exl n=>exact lQ W (Z:=Z) (gf:=false) hD (ahC n V Z ⟨kD,mD⟩ (jG v) A B lo hi L a b c d e) (ahO (F false) Q hp hc)
    |rei n=>exact lQ W (Z:=Z) (gf:=false) hD (ahD n V Z ⟨kD,mD⟩ (jG v) A B lo hi L a b c d e) (ahP (F false) Q hp hc)
    |rel n=>exact lQ W (Z:=Z) (gf:=false) hD (ahE n V Z ⟨kD,mD⟩ (jG v) A B lo hi L a b c d e) (ahQ (F false) Q hp hc)
    |spi=>exact lQ W (Z:=Z) (gf:=false) hD (ahF V Z ⟨kD,mD⟩ (jG v) A B lo hi L a b c d e) (ahR (F false) Q hp hc)
    |spl=>exact lQ W (Z:=Z) (gf:=false) hD (ahG V Z ⟨kD,mD⟩ (jG v) A B lo hi L a b c d e) (ahS (F false) Q hp hc)
    |cst=>exact lQ W (Z:=Z) (gf:=false) hD (ahH V Z ⟨kD,mD⟩ (jG v) A B lo hi L a b c d e) (ahT (F false) Q hp hc)
    |shf=>exact lQ W (Z:=Z) (gf:=false) hD (ahI V Z ⟨kD,mD⟩ (jG v) A B lo hi L a b c d e) (ahU (F false) Q hp hc)
    |sf=>exact lQ W (Z:=Z) (gf:=false) hD (apY V Z ⟨kD,mD⟩ (jG v) A B lo hi L a b c d e) (aqe (F false) Q hp hc)
    |te=>exact lQ W (Z:=Z) (gf:=false) hD (ap0 V Z ⟨kD,mD⟩ (jG v) A B lo hi L a b c d e) (aqf (F false) Q hp hc)
    |v3=>exact absurd h6 (by decide)
  ·refine Rl W hD hk hm (fun L l hl=>?_) L a b c d e;by_cases hn:l.length=N
   ·exact w L l hn
   ·exact DA.wr A B lo hi L l hl hn
 ·exact Rl W hD hk hm (fun L l hl=>DA.wr A B lo hi L l hl (by omega)) L a b c d e
theorem aaz{V cb}(W:WI V cb){op A B lo hi:Int}{L:List Int}{a b c d e:Int}(hA: -9223372036854775808<=A/\A<9223372036854775808)(ua:U a)(ub:U b)(uc:U c)(ud:U d)(ue:U e):aay cb (op,A,B,lo,hi,L,a,b,c,d,e,()):=by
 have no:isO op=false->aay cb (op,A,B,lo,hi,L,a,b,c,d,e,()):=fun h=>by
  obtain⟨hk,hm⟩:=ajI op;refine⟨_,aax (W.toWorld.in (aqj W) 80) (W.toWorld.st 3 _ rfl) rfl (cp _) (m:=80),?_⟩;have e3:=aCs op A B lo hi L a b c d e;rw[hk,hm,h]at e3;exact e3
 by_cases q:op<64768
 ·exact no (aqi q)
 ·by_cases r:65024<=op
  ·exact no (aqh r)
  ·obtain⟨v,rfl,hv⟩: ∃ v:Nat,op=jG v/\v<256:=⟨(op - 64768).toNat,by show op=((64768+(op - 64768).toNat:Nat):Int);omega,by omega⟩
   cases h:isV v with
   |true=>exact awF W hv h hA ua ub uc ud ue
   |false=>exact no (awD.trans h)
end Go.Proofs.Vv
