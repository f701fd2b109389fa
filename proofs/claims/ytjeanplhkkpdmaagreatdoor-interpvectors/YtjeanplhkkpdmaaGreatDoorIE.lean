import Derived.Test.YtjeanplhkkpdmaaGreatDoorVvR
noncomputable section
namespace Go.Proofs.Vd
open Go.Ab Go.Ab.Lf
set_option maxRecDepth 100000
def hfv(a b c d e f g h:Int):Int:=
 let t:=fun(x c:Int) (n:Int)=>Cw .u64 x (FD .u64 (cI .u64 c) n)
 t (t (t (t (t (t (t (t 0 a 0) b 8) c 16) d 24) e 32) f 40) g 48) h 56
def jb(x k:Int):Int:=cI .u8 (qR .u64 x k)
def aCf(x:ca (t16 [])):Lf.T (List Pl):=mN (Ps [.ag pU8]) [] (Ps [.ag (Ps [.n .u64,.n .u64])]) (fun _=>none) Tryz.x17 40 (j7 [] 40) (cg (t16 []) x)
theorem aCg(a0 a1 a2 a3 a4 a5 a6 a7 b0 b1 b2 b3 b4 b5 b6 b7:Int):(aCf (a0,a1,a2,a3,a4,a5,a6,a7,b0,b1,b2,b3,b4,b5,b6,b7,())).val=some (cg [u64,u64] (hfv a0 a1 a2 a3 a4 a5 a6 a7,hfv b0 b1 b2 b3 b4 b5 b6 b7,())):=by kernel_rfl
def awb:jJ:=kR (Ps [.ag pU8]) [] (Ps [.ag (Ps [.n .u64,.n .u64])]) (t16 []) [u64,u64] fun(a0,a1,a2,a3,a4,a5,a6,a7,b0,b1,b2,b3,b4,b5,b6,b7,_)=>.ok (hfv a0 a1 a2 a3 a4 a5 a6 a7,hfv b0 b1 b2 b3 b4 b5 b6 b7,())
theorem aht{V cb}(W:WorldS V cb):awb.Ok 17 cb:=by
 refine j4 (W.toWorld.in .nil 40) (W.toWorld.st 17 _ rfl) rfl (cp _) (m:=40) rfl ?_;rintro⟨a0,a1,a2,a3,a4,a5,a6,a7,b0,b1,b2,b3,b4,b5,b6,b7,⟨⟩⟩ y h;cases h;exact aCg _ _ _ _ _ _ _ _ _ _ _ _ _ _ _ _
def aCh(x:ca [u64,u64]):Lf.T (List Pl):=mN (Ps [.ag (Ps [.n .u64,.n .u64])]) [] (Ps [.ag pU8]) (fun _=>none) Tryz.x39 40 (j7 [] 40) (cg [u64,u64] x)
theorem aCi(x y:Int):(aCh (x,y,())).val=some (cg (t16 []) (jb x 0,jb x 8,jb x 16,jb x 24,jb x 32,jb x 40,jb x 48,jb x 56,jb y 0,jb y 8,jb y 16,jb y 24,jb y 32,jb y 40,jb y 48,jb y 56,())):=by kernel_rfl
def awc:jJ:=kR (Ps [.ag (Ps [.n .u64,.n .u64])]) [] (Ps [.ag pU8]) [u64,u64] (t16 []) fun(x,y,_)=>.ok (jb x 0,jb x 8,jb x 16,jb x 24,jb x 32,jb x 40,jb x 48,jb x 56,jb y 0,jb y 8,jb y 16,jb y 24,jb y 32,jb y 40,jb y 48,jb y 56,())
theorem ahu{V cb}(W:WorldS V cb):awc.Ok 39 cb:=by
 refine j4 (W.toWorld.in .nil 40) (W.toWorld.st 39 _ rfl) rfl (cp _) (m:=40) rfl ?_;rintro⟨x,y,⟨⟩⟩ z h;cases h;exact aCi _ _
end Go.Proofs.Vd
noncomputable section
namespace Go.Proofs.Vv
open Go.Ab Go.Ab.Lf Go.Proofs.Vd
set_option maxRecDepth 1000000
def t6(x:ca [i64]):Lf.T (List Pl):=mN (Ps [.n .i64]) [] (Ps [.bo]) (fun _=>none) Tryz.x6 12 (j7 [(25,s11)] 12) (cg [i64] x)
def k6(x:ca [i64]):Bool:=j5 (mf [.bool] (t6 x))
def m6(x:ca [i64]):ca [.bool]:=j5 (j9 [.bool] (t6 x))
def s6:jJ:=kR (Ps [.n .i64]) [] (Ps [.bo]) [i64] [.bool] fun x=>.ck (k6 x) (.ok (m6 x))
theorem awd{cb:cx}(W:Vd.World cb):s6.Ok 6 cb:=
 jP (W.in (.cons (C6 W) .nil) 12) (W.st 6 _ rfl) rfl (cp _) (m:=12) rfl (fun _=>cf _) (fun _=>cf _)
def s6v(b:Bool):jJ:=kR (Ps [.n .i64]) [] (Ps [.bo]) [i64] [.bool] fun x=>.ck (k6 x) (.ck (!(xor b (m6 x).1)) (.ok (b,())))
theorem aal{cb:cx}(W:Vd.World cb)(b:Bool):(s6v b).Ok 6 cb:=by
 refine oG (awd W) fun x y h=>?_
 obtain⟨hk,h⟩:=Lf.T.cw h;obtain⟨h1,h⟩:=Lf.T.cw h;cases h;show(Lf.T.ck (k6 x) (.ok (m6 x))).val=_;rw[hk];have:(m6 x)=(b,()):=by
  generalize m6 x=z at h1;obtain⟨z,⟨⟩⟩:=z;have h1:(!(xor b z))=true:=h1
  cases b<;>cases z<;>first|rfl|cases h1
 rw[this];rfl
def s7w(kD:ca rF->Bool)(mD:ca rF->ca sx)(N L:Nat):jJ:=kR PD [] QD rF sx fun x=>.ck (kD x) (bif Nat.beq (len x.2.2.2.2.2.2.1) N then
 .ck (decide ((mD x).2.1=0)&&decide ((mD x).1.length=L)) (.ok (bif Nat.beq L 2 then [(mD x).1.getD 0 0,(mD x).1.getD 1 0]else bif Nat.beq L 1 then [(mD x).1.getD 0 0]else(mD x).1,(0,())))
 else .ck (decide ((mD x).1.length=0)&&decide ((mD x).2.1=1)) (.ok ([],(1,()))))
theorem apx{l:List Int}(h:l.length=2):[l.getD 0 0,l.getD 1 0]=l:=by
 match l,h with
 | [_,_],_=>rfl
theorem apy{l:List Int}(h:l.length=1):[l.getD 0 0]=l:=by
 match l,h with
 | [_],_=>rfl
theorem apz{kD:ca rF->Bool}{mD:ca rF->ca sx}{cb:cx}(D:(kR PD [] QD rF sx fun x=>.ck (kD x) (.ok (mD x))).Ok 7 cb)(N L:Nat):(s7w kD mD N L).Ok 7 cb:=by
 refine oG D fun x y h=>?_
 obtain⟨hk,h⟩:=Lf.T.cw h
 obtain⟨l,e,u⟩: ∃ l e,mD x=(l,(e,())):=⟨_,_,rfl⟩
 have key:y=mD x:=by
  rw[u]at h ⊢;simp only at h;cases hb:Nat.beq (len x.2.2.2.2.2.2.1) N with
  |true=>
   rw[hb]at h;obtain⟨h1,h⟩:=Lf.T.cw h;rw[Bool.and_eq_true]at h1;have e0:e=0:=of_decide_eq_true h1.1;have hL:l.length=L:=of_decide_eq_true h1.2;cases h;subst e0;cases h2:Nat.beq L 2 with
   |true=>exact congrArg (fun z:List Int=>((z,(0,())):ca sx)) (apx (hL.trans (Nat.eq_of_beq_eq_true h2)))
   |false=>
    rw[cond_false];cases h3:Nat.beq L 1 with
    |true=>exact congrArg (fun z:List Int=>((z,(0,())):ca sx)) (apy (hL.trans (Nat.eq_of_beq_eq_true h3)))
    |false=>rfl
  |false=>
   rw[hb]at h;obtain⟨h1,h⟩:=Lf.T.cw h;rw[Bool.and_eq_true]at h1;cases h;rw[List.length_eq_zero_iff.1 (of_decide_eq_true h1.1),show e=1 from of_decide_eq_true h1.2]
 subst key;show(Lf.T.ck (kD x) (.ok (mD x))).val=_;rw[hk];rfl
def awe(a b:List Int):Bool:=bif Nat.beq (len a) (len b)then(List.zip a b).all (fun p=>decide (p.1=p.2))else false
def eK(I:den kE)(gf:Bool)(y:ca tM):Int:=bif gf then(match y.1 with
 | [(ts,out)]=>bif awe ts I.2.2.2.1 then(bif awe out I.2.2.2.2 then 0 else 12)else 12
 | _=>12)else 1
def awf(V:ByteArray->Bool)(I:den kE)(gf:Bool):jJ:=kR (Ps [pM]) [] (Ps [.n .i64]) tM [i64] fun y=>.ck (Uk V y&&decide (rN V y=eK I gf y)) (.ok (eK I gf y,()))
theorem ahv{V cb}(W:WorldN V cb)(I:den kE)(gf:Bool):(awf V I gf).Ok 50 cb:=by
 refine oG (anT W) fun y q h=>?_
 obtain⟨h1,h⟩:=Lf.T.cw h;cases h;rw[Bool.and_eq_true,decide_eq_true_eq]at h1;show(Lf.T.ck (Uk V y) (.ok (rN V y,()))).val=_;rw[h1.1,h1.2];rfl
end Go.Proofs.Vv
noncomputable section
namespace Go.Proofs.Vd
open Go.Ab Go.Ab.Lf
set_option maxRecDepth 100000
end Go.Proofs.Vd
noncomputable section
namespace Go.Proofs.Vd
open Go.Ab Go.Ab.Lf
set_option maxRecDepth 100000
end Go.Proofs.Vd
noncomputable section
namespace Go.Proofs.Vd
open Go.Ab Go.Ab.Lf
set_option maxRecDepth 100000
def rj(x:Int):Int:=hfv (jb x 0) (jb x 8) (jb x 16) (jb x 24) (jb x 32) (jb x 40) (jb x 48) (jb x 56)
def zOk(Z:List Int):Bool:=decide ((1:Int)=1)&&(decide ((1:Int)=1)&&decide (Z=List.replicate 65536 (0:Int)))
end Go.Proofs.Vd
noncomputable section
namespace Go.Proofs.Vv
open Go.Ab Go.Ab.Lf Go.Proofs.Vd
set_option maxRecDepth 1000000
abbrev awg:n9:=.ag (Ps [.n .i64,.n .i64,.n .i64,.n .u64,.n .u64,.im i64])
abbrev aam:List Ty:=[i64,i64,i64,u64,u64,.cq i64]
def t13(x:ca aam):Lf.T (List Pl):=mN (Ps [awg]) [] (Ps [.bo]) (fun _=>none) Tryz.x13 12 (j7 [] 12) (cg aam x)
def k13(x:ca aam):Bool:=j5 (mf [.bool] (t13 x))
def ID(x:ca aam):ca [.bool]:=j5 (j9 [.bool] (t13 x))
def s13:jJ:=kR (Ps [awg]) [] (Ps [.bo]) aam [.bool] fun x=>.ck (k13 x) (.ok (ID x))
theorem apB{cb:cx}(W:Vd.World cb):s13.Ok 13 cb:=
 jP (W.in .nil 12) (W.st 13 _ rfl) rfl (cp _) (m:=12) rfl (fun _=>cf _) (fun _=>cf _)
abbrev oV6(J:den kE):ca o25:=(J.1,J.2.1,J.2.2.1,J.2.2.2.1,J.2.2.2.2,true,())
def awh(I:den kE):jJ:=kR (Ps [.n .i64]) [] (Ps [.tu (Ps [.ag (Ps [.n .i64,.n .i64,.bo,.im i64,.im i64]),.bo])]) [i64] o25 fun x=>.ck (yH I x.1) (.br (decide (x.1=(32:Int))) (.ok (oV6 (5,0,false,[],[]))) (.br (decide (x.1=(11:Int))) (.ok (oV6 (1,0,false,[],[]))) (.ok (oV6 I))))
theorem ahw{cb:cx}(W:Vd.World cb)(I:den kE):(awh I).Ok 25 cb:=by
 refine oG (aeY W I) fun x y h=>?_
 obtain⟨h1,h⟩:=Lf.T.cw h;obtain⟨x,⟨⟩⟩:=x;have h1:yH I x=true:=h1;show(Lf.T.ck (yH I x) (.ok ((GC I x).1,(GC I x).2.1,(GC I x).2.2.1,(GC I x).2.2.2.1,(GC I x).2.2.2.2,true,()))).val=some y;rw[h1];have h:(bif decide (x=(32:Int))then some (oV6 (5,0,false,[],[]))else bif decide (x=(11:Int))then some (oV6 (1,0,false,[],[]))else some (oV6 I))=some y:=h;unfold GC;cases d1:decide (x=(32:Int))with
 |true=>rw[d1]at h;exact h
 |false=>
  rw[d1]at h;cases d2:decide (x=(11:Int))with
  |true=>rw[d2]at h;exact h
  |false=>rw[d2]at h;exact h
abbrev ti3:List Ty:=[i64,i64,i64,u64,u64,.cq i64,u64,u64,u64,u64,u64]
abbrev to3:List Ty:=[.bool]
structure Dx where
 k:ca rF->Bool
 m:ca rF->ca sx
def e3(V:ByteArray->Bool)(Z:List Int)(I:den kE)(gf:Bool)(D:Dx)(N L:Nat):List (Nat×jJ):=[(5,s5a),(6,s6v true),(7,s7w D.k D.m N L),(13,s13),(50,awf V I gf),(51,auE),(54,auF Z),(59,pO u64),(29,s10),(25,awh I),(17,awb),(39,awc)]
theorem awi{V cb}(W:WI V cb)(Z:List Int)(I:den kE)(gf:Bool){D:Dx}(hD:(kR PD [] QD rF sx fun x=>.ck (D.k x) (.ok (D.m x))).Ok 7 cb)(N L:Nat):j1 cb (e3 V Z I gf D N L):=.cons W.aw (.cons (aal W.toWorld true) (.cons (apz hD N L) (.cons (apB W.toWorld) (.cons (ahv W.toWorldN I gf) (.cons (aeW W.toWorldS) (.cons (aeX W.toWorldS Z) (.cons W.c59 (.cons (Gs W.toWorldC) (.cons (ahw W.toWorld I) (.cons (aht W.toWorldS) (.cons (ahu W.toWorldS) .nil)))))))))))
abbrev P3:n9:=Ps [.ag (Ps [.n .i64,.n .i64,.n .i64,.n .u64,.n .u64,.im i64]),.ag (Ps [.n .u64,.n .u64,.n .u64,.n .u64,.n .u64])]
def t3(V:ByteArray->Bool)(Z:List Int)(I:den kE)(gf:Bool)(D:Dx)(N L:Nat)(x:ca ti3):Lf.T (List Pl):=mN P3 [] (Ps [.bo]) (fun _=>none) Tryz.x3 80 (j7 (e3 V Z I gf D N L) 80) (cg ti3 x)
inductive FL where
 |e (x:Option (List Pl))
 |c (b v:Bool) (r:FL)
def hd0(p:List Nat):Nat:=List.rec 9 (fun k _ _=>k) p
def Um(p:List Nat):List Nat:=List.rec [] (fun _ r _=>r) p
def Cg(t:T (List Pl)):List Nat->FL:=T.rec (motive:=fun _=>List Nat->FL) (fun _=>.e none) (fun x _=>.e (some x))
 (fun c _ _ x y p=>bif Nat.beq (hd0 p) 0 then(bif c then x (Um p)else y (Um p))else bif Nat.beq (hd0 p) 1 then .c c false (y (Um p))else .c c true (x (Um p)))
 (fun c _ x p=>bif Nat.beq (hd0 p) 0 then(bif c then x (Um p)else .e none)else .c c true (x (Um p))) t
inductive kW (z:List Pl):FL->Prop
 |e:kW z (.e (some z))
 |c {b v:Bool} {r:FL}:b=v->kW z r->kW z (.c b v r)
theorem EE{z:List Pl}: ∀ (t:T (List Pl)) (p:List Nat),kW z (Cg t p)->t.val=some z
 | .bad,p,h=>by cases h
 | .ok x,p,h=>by
  have h:kW z (.e (some x)):=h;cases h;rfl
 | .br c x y,p,h=>by
  have ix:=EE (z:=z) x;have iy:=EE (z:=z) y;have h:kW z (bif Nat.beq (hd0 p) 0 then(bif c then Cg x (Um p)else Cg y (Um p))else bif Nat.beq (hd0 p) 1 then .c c false (Cg y (Um p))else .c c true (Cg x (Um p))):=h;show(bif c then x.val else y.val)=some z;cases h0:Nat.beq (hd0 p) 0 with
  |true=>
   rw[h0,cond_true]at h;cases c with
   |true=>exact ix _ h
   |false=>exact iy _ h
  |false=>
   rw[h0,cond_false]at h;cases h1:Nat.beq (hd0 p) 1 with
   |true=>
    rw[h1,cond_true]at h
    cases h with|c e r=>subst e;exact iy _ r
   |false=>
    rw[h1,cond_false]at h
    cases h with|c e r=>subst e;exact ix _ r
 | .ck c x,p,h=>by
  have ix:=EE (z:=z) x;have h:kW z (bif Nat.beq (hd0 p) 0 then(bif c then Cg x (Um p)else .e none)else .c c true (Cg x (Um p))):=h;show(bif c then x.val else none)=some z;cases h0:Nat.beq (hd0 p) 0 with
  |true=>
   rw[h0,cond_true]at h;cases c with
   |true=>exact ix _ h
   |false=>cases h
  |false=>
   rw[h0,cond_false]at h
   cases h with|c e r=>subst e;exact ix _ r
abbrev gt(k:Int):den tI:=(32,k,0,0,0,[])
abbrev yV(ts out:List Int)(g:List (den tI))(i:den tI):ca tM:=([(ts,out)],[],[0],[],[((1:Int),(1:Int))],gI,[],-1,[],[([],g++[i,iC 11 0 0])],[],())
abbrev g0:List (den tI):=[]
abbrev g1:List (den tI):=[gt 0]
abbrev g2:List (den tI):=[gt 0,gt 1]
structure Ax where
 V:ByteArray->Bool
 Z:List Int
 I:den kE
 gf:Bool
 D:Dx
 Lr:Nat
 op:Int
 A:Int
 B:Int
 lo:Int
 hi:Int
 L:List Int
def dX(a:Ax)(L l:List Int):ca rF:=(a.op,a.A,a.B,a.lo,a.hi,L,l,())
def yA(a:Ax)(ts out:List Int)(g:List (den tI)):ca tM:=yV ts out g (a.op,a.A,a.B,a.lo,a.hi,[])
def qN(a:Ax)(L l:List Int)(K:FL):FL:=.c (a.D.k (dX a L l)) true (.c (decide ((a.D.m (dX a L l)).1.length=0)&&decide ((a.D.m (dX a L l)).2.1=1)) true K)
def qY(a:Ax)(L l:List Int)(K:FL):FL:=.c (a.D.k (dX a L l)) true (.c (decide ((a.D.m (dX a L l)).2.1=0)&&decide ((a.D.m (dX a L l)).1.length=a.Lr)) true K)
def qI(a:Ax)(K:FL):FL:=.c (k6 (a.op,())) true (.c (!(xor true (m6 (a.op,())).1)) true K)
def gC(a:Ax)(y:ca tM):Bool:=Uk a.V y&&decide (rN a.V y=eK a.I a.gf y)
def qOp(a:Ax)(K:FL):FL:=.c (yH a.I a.op) true (.c (decide (a.op=32)) false (.c (decide (a.op=11)) false (.c (decide (a.op=2)) false (.c (decide (a.op=3)) false (.c (decide (a.op=4)) false (.c (decide (a.op=5)) false (.c (decide (a.op=11)) false (.c (yH a.I 11) true K))))))))
def KS(a:Ax)(K:FL):FL:=.c (yH a.I 32) true (qOp a K)
def qO2(a:Ax)(K:FL):FL:=.c (yH a.I 32) true (KS a K)
def qC1(a:Ax)(l h:List Int)(K:FL):FL:=.c (!decide ((a.D.m (dX a [] h)).1.getD 0 0=(a.D.m (dX a a.L l)).1.getD 0 0)) false K
def CB(a:Ax)(l h:List Int)(K:FL):FL:=qC1 a l h (.c (!decide ((a.D.m (dX a [] h)).1.getD 1 0=(a.D.m (dX a a.L l)).1.getD 1 0)) false K)
def lZ(a:Ax)(ts out:List Int)(g:List (den tI))(K:FL):FL:=.c (gC a (yA a ts out g)) true K
def zZ(a:Ax)(l:List Int)(ts out:List Int)(g:List (den tI))(of:Ax->FL->FL)(cm:Ax->List Int->List Int->FL->FL)(h:List Int)(K:FL):FL:=
 .c (gC a (yA a ts out g)) true (.c (mbB (yA a ts out g)) true (.c (zOk a.Z) true (.c (mbB (yA a ts out g)) true (of a (.c (bif !decide (a.op=5)then !decide (a.op=11)else false) true (.c (decide (64768<=a.op)) true
  (qI a (.c (decide (a.op=a.op)&&(decide (a.A=a.A)&&(decide (a.B=a.B)&&(decide (a.lo=a.lo)&&decide (a.hi=a.hi))))) true (qY a [] h (cm a l h K))))))))))
def qE:FL:=.e (some (cg to3 (true,())))
def qCl(a:Ax)(K:FL):FL:=.c (k13 (a.op,a.A,a.B,a.lo,a.hi,[],())) true (.c (ID (a.op,a.A,a.B,a.lo,a.hi,[],())).1 false K)
def EF(x:Ax)(a b c d e:Int):FL:=qI x (qN x x.L [] (qN x x.L [a] (qN x x.L [a,b] (qN x x.L [a,b,c] (qY x x.L [a,b,c,d] (zZ x [a,b,c,d] [123,123] [123] g2 qO2 CB [rj a,rj b,rj c,rj d] (zZ x [a,b,c,d] [123,123] [123] g2 qO2 CB [rj a,rj b,rj c,rj d] (qN x [] [a,b,c,d,e] (qE)))))))))
def EG(x:Ax)(a b c d e:Int):FL:=qI x (qN x x.L [] (qN x x.L [a] (qN x x.L [a,b] (qN x x.L [a,b,c] (qY x x.L [a,b,c,d] (lZ x [123,123] [123] g2 (lZ x [123,123] [123] g2 (qCl x (qN x [] [a,b,c,d,e] (qE))))))))))
def aao(x:Ax)(a b c d e:Int):FL:=qI x (qN x x.L [] (qN x x.L [a] (qY x x.L [a,b] (zZ x [a,b] [123] [123] g1 KS CB [rj a,rj b] (lZ x [127,127] [123] g2 (lZ x [126,127] [123] g2 (lZ x [127,126] [123] g2 (lZ x [126,126] [123] g2 (zZ x [a,b] [123] [123] g1 KS CB [rj a,rj b] (zZ x [a,b] [123] [123] g1 KS CB [rj a,rj b] (lZ x [127,127] [123] g2 (lZ x [126,127] [123] g2 (lZ x [127,126] [123] g2 (lZ x [126,126] [123] g2 (zZ x [a,b] [123] [123] g1 KS CB [rj a,rj b] (qN x [] [a,b,c] (qN x [] [a,b,c,d] (qN x [] [a,b,c,d,e] (qE)))))))))))))))))))
def Rd(x:Ax)(a b c d e:Int):FL:=qI x (qN x x.L [] (qN x x.L [a] (qY x x.L [a,b] (lZ x [123] [123] g1 (lZ x [127,127] [123] g2 (lZ x [126,127] [123] g2 (lZ x [127,126] [123] g2 (lZ x [126,126] [123] g2 (lZ x [123] [123] g1 (lZ x [123] [123] g1 (lZ x [127,127] [123] g2 (lZ x [126,127] [123] g2 (lZ x [127,126] [123] g2 (lZ x [126,126] [123] g2 (lZ x [123] [123] g1 (qCl x (qN x [] [a,b,c] (qN x [] [a,b,c,d] (qN x [] [a,b,c,d,e] (qE))))))))))))))))))))
def EH(x:Ax)(a b c d e:Int):FL:=qI x (qN x x.L [] (qN x x.L [a] (qY x x.L [a,b] (zZ x [a,b] [123] [127] g1 KS qC1 [rj a,rj b] (lZ x [127,127] [127] g2 (lZ x [126,127] [127] g2 (lZ x [127,126] [127] g2 (lZ x [126,126] [127] g2 (zZ x [a,b] [123] [127] g1 KS qC1 [rj a,rj b] (lZ x [123] [126] g1 (lZ x [127,127] [126] g2 (lZ x [126,127] [126] g2 (lZ x [127,126] [126] g2 (lZ x [126,126] [126] g2 (lZ x [123] [126] g1 (qN x [] [a,b,c] (qN x [] [a,b,c,d] (qN x [] [a,b,c,d,e] (qE)))))))))))))))))))
def ze(x:Ax)(a b c d e:Int):FL:=qI x (qN x x.L [] (qN x x.L [a] (qY x x.L [a,b] (lZ x [123] [127] g1 (lZ x [127,127] [127] g2 (lZ x [126,127] [127] g2 (lZ x [127,126] [127] g2 (lZ x [126,126] [127] g2 (lZ x [123] [127] g1 (lZ x [123] [126] g1 (lZ x [127,127] [126] g2 (lZ x [126,127] [126] g2 (lZ x [127,126] [126] g2 (lZ x [126,126] [126] g2 (lZ x [123] [126] g1 (qCl x (qN x [] [a,b,c] (qN x [] [a,b,c,d] (qN x [] [a,b,c,d,e] (qE))))))))))))))))))))
def Re(x:Ax)(a b c d e:Int):FL:=qI x (qN x x.L [] (qN x x.L [a] (qY x x.L [a,b] (lZ x [123] [127] g1 (lZ x [127,127] [127] g2 (lZ x [126,127] [127] g2 (lZ x [127,126] [127] g2 (lZ x [126,126] [127] g2 (lZ x [123] [127] g1 (zZ x [a,b] [123] [126] g1 KS qC1 [rj a,rj b] (lZ x [127,127] [126] g2 (lZ x [126,127] [126] g2 (lZ x [127,126] [126] g2 (lZ x [126,126] [126] g2 (zZ x [a,b] [123] [126] g1 KS qC1 [rj a,rj b] (qN x [] [a,b,c] (qN x [] [a,b,c,d] (qN x [] [a,b,c,d,e] (qE)))))))))))))))))))
def EI(x:Ax)(a b c d e:Int):FL:=qI x (qN x x.L [] (qN x x.L [a] (qN x x.L [a,b] (qY x x.L [a,b,c] (zZ x [a,b,c] [123,127] [123] g2 qO2 CB [rj a,rj b,rj (sA c)] (lZ x [123,126] [123] g2 (lZ x [127,123] [123] g2 (lZ x [126,123] [123] g2 (zZ x [a,b,c] [123,127] [123] g2 qO2 CB [rj a,rj b,rj (sA c)] (lZ x [123,126] [123] g2 (lZ x [127,123] [123] g2 (lZ x [126,123] [123] g2 (qN x [] [a,b,c,d] (qN x [] [a,b,c,d,e] (qE)))))))))))))))
def zf(x:Ax)(a b c d e:Int):FL:=qI x (qN x x.L [] (qN x x.L [a] (qN x x.L [a,b] (qY x x.L [a,b,c] (lZ x [123,127] [123] g2 (lZ x [123,126] [123] g2 (lZ x [127,123] [123] g2 (lZ x [126,123] [123] g2 (lZ x [123,127] [123] g2 (lZ x [123,126] [123] g2 (lZ x [127,123] [123] g2 (lZ x [126,123] [123] g2 (qCl x (qN x [] [a,b,c,d] (qN x [] [a,b,c,d,e] (qE))))))))))))))))
def Rf(x:Ax)(a b c d e:Int):FL:=qI x (qN x x.L [] (qN x x.L [a] (qN x x.L [a,b] (qY x x.L [a,b,c] (lZ x [123,127] [123] g2 (zZ x [a,b,c] [123,126] [123] g2 qO2 CB [rj a,rj b,rj c] (lZ x [127,123] [123] g2 (lZ x [126,123] [123] g2 (lZ x [123,127] [123] g2 (zZ x [a,b,c] [123,126] [123] g2 qO2 CB [rj a,rj b,rj c] (lZ x [127,123] [123] g2 (lZ x [126,123] [123] g2 (qN x [] [a,b,c,d] (qN x [] [a,b,c,d,e] (qE)))))))))))))))
def Rg(x:Ax)(a b c d e:Int):FL:=qI x (qN x x.L [] (qY x x.L [a] (zZ x [a] [127] [123] g1 KS CB [rj (sA a)] (lZ x [126] [123] g1 (zZ x [a] [127] [123] g1 KS CB [rj (sA a)] (lZ x [126] [123] g1 (zZ x [a] [127] [123] g1 KS CB [rj (sA a)] (lZ x [126] [123] g1 (zZ x [a] [127] [123] g1 KS CB [rj (sA a)] (lZ x [126] [123] g1 (qN x [] [a,b] (qN x [] [a,b,c] (qN x [] [a,b,c,d] (qN x [] [a,b,c,d,e] (qE)))))))))))))))
def EJ(x:Ax)(a b c d e:Int):FL:=qI x (qN x x.L [] (qY x x.L [a] (lZ x [127] [123] g1 (lZ x [126] [123] g1 (lZ x [127] [123] g1 (lZ x [126] [123] g1 (lZ x [127] [123] g1 (lZ x [126] [123] g1 (lZ x [127] [123] g1 (lZ x [126] [123] g1 (qCl x (qN x [] [a,b] (qN x [] [a,b,c] (qN x [] [a,b,c,d] (qN x [] [a,b,c,d,e] (qE))))))))))))))))
def Rh(x:Ax)(a b c d e:Int):FL:=qI x (qN x x.L [] (qY x x.L [a] (lZ x [127] [123] g1 (zZ x [a] [126] [123] g1 KS CB [rj a] (lZ x [127] [123] g1 (zZ x [a] [126] [123] g1 KS CB [rj a] (lZ x [127] [123] g1 (zZ x [a] [126] [123] g1 KS CB [rj a] (lZ x [127] [123] g1 (zZ x [a] [126] [123] g1 KS CB [rj a] (qN x [] [a,b] (qN x [] [a,b,c] (qN x [] [a,b,c,d] (qN x [] [a,b,c,d,e] (qE)))))))))))))))
def Ri(x:Ax)(a b c d e:Int):FL:=qI x (qY x x.L [] (zZ x [] [] [123] g0 qOp CB [] (zZ x [] [] [123] g0 qOp CB [] (zZ x [] [] [123] g0 qOp CB [] (zZ x [] [] [123] g0 qOp CB [] (zZ x [] [] [123] g0 qOp CB [] (zZ x [] [] [123] g0 qOp CB [] (zZ x [] [] [123] g0 qOp CB [] (zZ x [] [] [123] g0 qOp CB [] (zZ x [] [] [123] g0 qOp CB [] (qN x [] [a] (qN x [] [a,b] (qN x [] [a,b,c] (qN x [] [a,b,c,d] (qN x [] [a,b,c,d,e] (qE))))))))))))))))
def Rj(x:Ax)(a b c d e:Int):FL:=qI x (qY x x.L [] (lZ x [] [123] g0 (lZ x [] [123] g0 (lZ x [] [123] g0 (lZ x [] [123] g0 (lZ x [] [123] g0 (lZ x [] [123] g0 (lZ x [] [123] g0 (lZ x [] [123] g0 (lZ x [] [123] g0 (qCl x (qN x [] [a] (qN x [] [a,b] (qN x [] [a,b,c] (qN x [] [a,b,c,d] (qN x [] [a,b,c,d,e] (qE)))))))))))))))))
def ahy(x:Ax)(a b c d e:Int):FL:=qI x (qN x x.L [] (qN x x.L [a] (qN x x.L [a,b] (qN x x.L [a,b,c] (qN x x.L [a,b,c,d] (qN x x.L [a,b,c,d,e] (qE)))))))
def dg(n x:Nat):List Nat:=Nat.rec (fun _=>[]) (fun _ r x=>x % 3::r (x / 3)) n x
def LV(F:Ax->Int->Int->Int->Int->Int->FL)(I:den kE)(gf:Bool)(N Lr:Nat)(p:List Nat):Prop:= ∀ (V:ByteArray->Bool) (Z:List Int) (D:Dx) (op A B lo hi:Int) (L:List Int) (a b c d e:Int),Cg (t3 V Z I gf D N Lr (op,A,B,lo,hi,L,a,b,c,d,e,())) p=F ⟨V,Z,I,gf,D,Lr,op,A,B,lo,hi,L⟩ a b c d e
end Go.Proofs.Vv
noncomputable section
namespace Go.Proofs.Vd
open Go.Ab Go.Ab.Lf
set_option maxRecDepth 100000
end Go.Proofs.Vd
noncomputable section
namespace Go.Proofs.Vd
open Go.Ab Go.Ab.Lf
set_option maxRecDepth 100000
theorem apD{a b:Nat}(ha:a<18446744073709551616)(hb:b<18446744073709551616):Cw .u64 (a:Int) (b:Int)=((a ||| b:Nat):Int):=by
 show intOf (bif Nat.blt a 18446744073709551616&&Nat.blt b 18446744073709551616 then some (.int .u64 (.ofNat (Nat.lor a b)))else _)=_;rw[show(Nat.blt a 18446744073709551616)=true by simpa using ha,show(Nat.blt b 18446744073709551616)=true by simpa using hb];rfl
theorem apE(x c n:Nat)(hx:x<2 ^ n):x ||| c*2 ^ n=x+c*2 ^ n:=by
 rw[Nat.or_comm,Nat.mul_comm,<-Nat.two_pow_add_eq_or_of_lt hx,Nat.add_comm]
theorem DN{x c n:Nat}(hn:n<=56)(hx:x<2 ^ n)(hc:c<256):Cw .u64 (x:Int) (kK .u64 (cI .u64 (c:Int)*(2 ^ n:Nat)))=((x+c*2 ^ n:Nat):Int)/\x+c*2 ^ n<2 ^ (n+8):=by
 have h1:2 ^ n<=2 ^ 56:=Nat.pow_le_pow_right (by decide) hn;have h2:c*2 ^ n<=255*2 ^ n:=Nat.mul_le_mul_right _ (by omega)
 have h3:2 ^ (n+8)=256*2 ^ n:=by rw[Nat.pow_add];omega
 refine⟨?_,by omega⟩;have e:kK .u64 (cI .u64 (c:Int)*(2 ^ n:Nat))=((c*2 ^ n:Nat):Int):=by
  show(((c:Int) % 18446744073709551616)*(2 ^ n:Nat)) % 18446744073709551616=_;rw[show(c:Int) % 18446744073709551616=c by omega];have:((c*2 ^ n:Nat):Int)=(c:Int)*((2 ^ n:Nat):Int):=Int.natCast_mul _ _;rw[<-this];exact Int.emod_eq_of_lt (by omega) (by omega)
 rw[e,apD (by omega) (by omega),apE _ _ _ hx]
theorem ahz(a b c d e f g h:Nat)(ha:a<256)(hb:b<256)(hc:c<256)(hd:d<256)(he:e<256)(hf:f<256)(hg:g<256)(hh:h<256):
 hfv a b c d e f g h=((a+b*256+c*65536+d*16777216+e*4294967296+f*1099511627776+g*281474976710656+h*72057594037927936:Nat):Int):=by
 have q:hfv a b c d e f g h=Cw .u64 (Cw .u64 (Cw .u64 (Cw .u64 (Cw .u64 (Cw .u64 (Cw .u64 (Cw .u64 ((0:Nat):Int) (kK .u64 (cI .u64 (a:Int)*(2 ^ 0:Nat)))) (kK .u64 (cI .u64 (b:Int)*(2 ^ 8:Nat)))) (kK .u64 (cI .u64 (c:Int)*(2 ^ 16:Nat)))) (kK .u64 (cI .u64 (d:Int)*(2 ^ 24:Nat)))) (kK .u64 (cI .u64 (e:Int)*(2 ^ 32:Nat)))) (kK .u64 (cI .u64 (f:Int)*(2 ^ 40:Nat)))) (kK .u64 (cI .u64 (g:Int)*(2 ^ 48:Nat)))) (kK .u64 (cI .u64 (h:Int)*(2 ^ 56:Nat))):=by kernel_rfl
 obtain⟨p1,q1⟩:=DN (x:=0) (n:=0) (by decide) (by decide) ha;obtain⟨p2,q2⟩:=DN (n:=8) (by decide) q1 hb;obtain⟨p3,q3⟩:=DN (n:=16) (by decide) q2 hc;obtain⟨p4,q4⟩:=DN (n:=24) (by decide) q3 hd;obtain⟨p5,q5⟩:=DN (n:=32) (by decide) q4 he;obtain⟨p6,q6⟩:=DN (n:=40) (by decide) q5 hf;obtain⟨p7,q7⟩:=DN (n:=48) (by decide) q6 hg;obtain⟨p8,q8⟩:=DN (n:=56) (by decide) q7 hh;rw[q,p1,p2,p3,p4,p5,p6,p7,p8];refine congrArg _ ?_;omega
theorem awj(x k d:Int)(_:qR .u64 x k=x.fdiv d):jb x k=(x.fdiv d) % 256:=by
 unfold jb;rw[‹qR .u64 x k=x.fdiv d›];rfl
theorem yy(x k d:Nat)(_:qR .u64 (x:Int) (k:Int)=(x:Int).fdiv (d:Int)):jb (x:Int) (k:Int)=((x / d % 256:Nat):Int):=by
 rw[awj _ _ _ ‹_›,Int.fdiv_eq_ediv_of_nonneg _ (by omega)];omega
theorem nC{x:Int}(h:U x):rj x=x:=by
 obtain⟨n,rfl,hn⟩:=auD h;unfold rj;rw[show jb (n:Int) 0=((n / 1 % 256:Nat):Int)from yy n 0 1 rfl,show jb (n:Int) 8=((n / 256 % 256:Nat):Int)from yy n 8 256 rfl,show jb (n:Int) 16=((n / 65536 % 256:Nat):Int)from yy n 16 65536 rfl,show jb (n:Int) 24=((n / 16777216 % 256:Nat):Int)from yy n 24 16777216 rfl,show jb (n:Int) 32=((n / 4294967296 % 256:Nat):Int)from yy n 32 4294967296 rfl,show jb (n:Int) 40=((n / 1099511627776 % 256:Nat):Int)from yy n 40 1099511627776 rfl,show jb (n:Int) 48=((n / 281474976710656 % 256:Nat):Int)from yy n 48 281474976710656 rfl,show jb (n:Int) 56=((n / 72057594037927936 % 256:Nat):Int)from yy n 56 72057594037927936 rfl];rw[ahz _ _ _ _ _ _ _ _ (Nat.mod_lt _ (by decide)) (Nat.mod_lt _ (by decide)) (Nat.mod_lt _ (by decide)) (Nat.mod_lt _ (by decide)) (Nat.mod_lt _ (by decide)) (Nat.mod_lt _ (by decide)) (Nat.mod_lt _ (by decide)) (Nat.mod_lt _ (by decide))];refine congrArg _ ?_;omega
end Go.Proofs.Vd
noncomputable section
namespace Go.Proofs.Vd
open Go.Ab Go.Ab.Lf
set_option maxRecDepth 100000
theorem aap{I:den kE}{x:Int}(h:zn x=true)(h1:(kZ x).1=(GC I x).1)(h2:(kZ x).2.1=(GC I x).2.1)(h3:(kZ x).2.2.1=(GC I x).2.2.1)(h4:(kZ x).2.2.2.1=(GC I x).2.2.2.1)(h5:(kZ x).2.2.2.2.1=(GC I x).2.2.2.2):yH I x=true:=
 @decide_eq_true _ (Classical.propDecidable _) ⟨h,h1,h2,h3,h4,h5⟩
theorem aaq(I:den kE):yH I 32=true:=aap (by kernel_rfl) (by kernel_rfl) (by kernel_rfl) (by kernel_rfl) (by kernel_rfl) (by kernel_rfl)
theorem apF(I:den kE):yH I 11=true:=aap (by kernel_rfl) (by kernel_rfl) (by kernel_rfl) (by kernel_rfl) (by kernel_rfl) (by kernel_rfl)
end Go.Proofs.Vd
noncomputable section
namespace Go.Proofs.Vv
open Go.Ab Go.Ab.Lf Go.Proofs.Vd
set_option maxRecDepth 1000000
section
variable {op A B lo hi:Int}
theorem Rk(h:64768<=op): ¬ (op=2)/\ ¬ (op=3)/\ ¬ (op=4)/\ ¬ (op=5)/\ ¬ (op=11)/\ ¬ (op=32):=⟨by omega,by omega,by omega,by omega,by omega,by omega⟩
abbrev bC(g:List (den tI))(i:den tI):List (den tI):=g++[i,iC 11 0 0]
theorem apG(i:den tI)(h:64768<=(i.1:Int)):ly (bC g0 i)=true:=by
 obtain⟨a2,a3,a4,a5,a11,_⟩:=Rk h;have e:zm [] i [iC 11 0 0]=.inl []:=by
  unfold zm;rw[if_neg (by rintro(q|q|q);exact a2 q;exact a3 q;exact a4 q),if_neg a5,if_neg a11]
 have e2:ly (bC g0 i)=(match zm [] i [iC 11 0 0]with| .inl q=>nP zm (fun _=>none) [iC 11 0 0] q| .inr r=>r:Option Bool).getD false:=by kernel_rfl
 have e3:(nP zm (fun _=>(none:Option Bool)) [iC 11 0 0] []).getD false=true:=by kernel_rfl
 rw[e2,e];exact e3
theorem aCk(i:den tI)(h:64768<=(i.1:Int)):ly (bC g1 i)=true:=by
 have e:ly (bC g1 i)=ly (bC g0 i):=by kernel_rfl
 rw[e];exact apG i h
theorem aCl(i:den tI)(h:64768<=(i.1:Int)):ly (bC g2 i)=true:=by
 have e:ly (bC g2 i)=ly (bC g0 i):=by kernel_rfl
 rw[e];exact apG i h
end
structure TY(ts out:List Int):Prop where
 a30:jC XH.ok [(ts,out)]=true
 s30:nU Yb 256 [(ts,out)]=true
 w30:Nat.ble (rE XH.wt [(ts,out)]) 4000=true
structure GS(g:List (den tI)):Prop where
 cl: ∀ i:den tI,64768<=(i.1:Int)->ly (bC g i)=true
 ok: ∀ x,x∈g->Xt (mI x)=true/\(j8 (mI x)).2=true
 wt: ∀ i:den tI,List.length i.2.2.2.2.2=0->Nat.ble (xI (bC g i)) 1000=true
theorem gs0:GS g0:=⟨apG,fun x h=>(by cases h),fun i h=>(by
 have e:xI (bC g0 i)=41+10*List.length i.2.2.2.2.2+(41+0):=rfl
 rw[e,h];rfl)⟩
theorem aar(k:Int)(h:k=0∨k=1):Xt (mI (gt k))=true/\(j8 (mI (gt k))).2=true:=by
 rcases h with rfl|rfl
 ·exact⟨by kernel_rfl,by kernel_rfl⟩
 ·exact⟨by kernel_rfl,by kernel_rfl⟩
theorem gs1:GS g1:=⟨aCk,fun x h=>by rw[List.mem_singleton.1 h];exact aar 0 (.inl rfl),fun i h=>(by
 have e:xI (bC g1 i)=41+(41+10*List.length i.2.2.2.2.2+(41+0)):=rfl
 rw[e,h];rfl)⟩
theorem Ng:GS g2:=⟨aCl,fun x h=>(by
 rcases List.mem_cons.1 h with h|h
 ·rw[h];exact aar 0 (.inl rfl)
 ·rw[List.mem_singleton.1 h];exact aar 1 (.inr rfl)),fun i h=>(by
 have e:xI (bC g2 i)=41+(41+(41+10*List.length i.2.2.2.2.2+(41+0))):=rfl
 rw[e,h];rfl)⟩
theorem ajE:Xt (mI (iC 11 0 0))=true/\(j8 (mI (iC 11 0 0))).2=true:=⟨by kernel_rfl,by kernel_rfl⟩
section
variable {V:ByteArray->Bool}{ts out:List Int}{g:List (den tI)}{i:den tI}
theorem apH(hA: -9223372036854775808<=(i.2.1:Int)/\(i.2.1:Int)<9223372036854775808)(hl:List.length i.2.2.2.2.2=0):Xt (mI i)=true:=by
 show((decide (-9223372036854775808<=(i.2.1:Int))&&decide ((i.2.1:Int)<9223372036854775808))&&decide (10*List.length i.2.2.2.2.2+100<=1099511627776))=true;rw[dt hA.1,dt hA.2,hl];rfl
theorem Ch{α:Type}{f:α->Bool}: ∀ {l:List α},(∀ x,x∈l->f x=true)->jC f l=true
 | [],_=>rfl
 |x::l,h=>by
  show(bif f x then jC f l else false)=true;rw[h x List.mem_cons_self]
  exact Ch fun y hy=>h y (List.mem_cons_of_mem _ hy)
theorem ajF(G:GS g)(hA: -9223372036854775808<=(i.2.1:Int)/\(i.2.1:Int)<9223372036854775808)(hl:List.length i.2.2.2.2.2=0):wI (bC g i)=true:=by
 unfold wI Mt;have h1:jC (fun x=>Xt (mI x)) (bC g i)=true:=Ch fun x hx=>by
  rcases List.mem_append.1 hx with h|h
  ·exact(G.ok x h).1
  ·rcases List.mem_cons.1 h with h|h
   ·rw[h];exact apH hA hl
   ·rw[List.mem_singleton.1 h];exact ajE.1
 have h2:=Nat.le_of_ble_eq_true (G.wt i hl);rw[h1,decide_eq_true (by omega)];rfl
theorem ajG(T:TY ts out)(G:GS g)(hA: -9223372036854775808<=(i.2.1:Int)/\(i.2.1:Int)<9223372036854775808)(hl:List.length i.2.2.2.2.2=0):OX V (yV ts out g i)=true/\8+OW V (yV ts out g i)<=16000:=by
 have hc:=ajF G hA hl;have e1:okM V (yV ts out g i)=(jC XH.ok [(ts,out)]&&(jC (XI V).ok []&&(jC XD.ok [0]&&(jC XJ.ok []&&(jC XK.ok [((1:Int),(1:Int))]&&(jC XL.ok gI&&(jC (XM V).ok []&&(jC SP.ok []&&(jC Nz.ok [(([]:List Int),bC g i)]&&jC SQ.ok []))))))))):=rfl
 have o52:jC Nz.ok [(([]:List Int),bC g i)]=true:=Ch fun x hx=>by rw[List.mem_singleton.1 hx];exact hc
 have hM:okM V (yV ts out g i)=true:=by
  rw[e1,T.a30,o52,show jC (XI V).ok []=true from rfl,show jC XD.ok [0]=true by kernel_rfl,show jC XJ.ok []=true from rfl,show jC XK.ok [((1:Int),(1:Int))]=true by kernel_rfl,show jC XL.ok gI=true by kernel_rfl,show jC (XM V).ok []=true from rfl,show jC SP.ok []=true from rfl,show jC SQ.ok []=true from rfl];rfl
 have hw:8+OW V (yV ts out g i)<=16000:=by
  have e:OW V (yV ts out g i)=0+((21+rE XH.wt [(ts,out)])+((21+rE (XI V).wt [])+((21+rE XD.wt [0])+((21+rE XJ.wt [])+((21+rE XK.wt [((1:Int),(1:Int))])+((21+rE XL.wt gI)+((21+rE (XM V).wt [])+(0+(21+((21+rE SP.wt [])+((21+rE Nz.wt [(([]:List Int),bC g i)])+(21+rE SQ.wt [])))))))))))):=rfl;have b30:=Nat.le_of_ble_eq_true T.w30;have b52:rE Nz.wt [(([]:List Int),bC g i)]=Gp (([]:List Int),bC g i,())+0:=rfl;have bc:=Nat.le_of_ble_eq_true (G.wt i hl)
  have z38:Nat.ble (rE XD.wt [0]) 1000=true:=by kernel_rfl
  have z42:Nat.ble (rE XK.wt [((1:Int),(1:Int))]) 1000=true:=by kernel_rfl
  have z44:Nat.ble (rE XL.wt gI) 4000=true:=by kernel_rfl
  have z38:=Nat.le_of_ble_eq_true z38;have z42:=Nat.le_of_ble_eq_true z42;have z44:=Nat.le_of_ble_eq_true z44;have n35:rE (XI V).wt []=0:=rfl;have n40:rE XJ.wt []=0:=rfl;have n46:rE (XM V).wt []=0:=rfl;have n49:rE SP.wt []=0:=rfl;have n54:rE SQ.wt []=0:=rfl;unfold Gp at b52;simp only at b52;rw[e,n35,n40,n46,n49,n54,b52];simp only[List.length_nil];omega
 refine⟨?_,hw⟩;unfold OX;rw[hM,decide_eq_true (by omega)];rfl
end
end Go.Proofs.Vv
noncomputable section
namespace Go.Proofs.Vv
open Go.Ab Go.Ab.Lf Go.Proofs.Vd
set_option maxRecDepth 1000000
section
variable {V:ByteArray->Bool}{ts out:List Int}{g:List (den tI)}{i:den tI}
theorem Nh: ∀ (c:List (den tI)) (out:List Int),(∃ x,x∈c/\(j8 (mI x)).2=false)->uH c out=none
 | [],_,h=>by obtain⟨x,h,_⟩:=h;cases h
 |x::c,out,h=>by
  have e:uH (x::c) out=(match(bif (j8 (mI x)).2 then Sum.inl (out++(j8 (mI x)).1)else Sum.inr none:List Int ⊕ Option (List Int))with| .inl q=>uH c q| .inr r=>r):=by kernel_rfl
  cases hx:(j8 (mI x)).2 with
  |false=>rw[e,hx];rfl
  |true=>
   rw[e,hx];obtain⟨z,h1,h2⟩:=h
   rcases List.mem_cons.1 h1 with h3|h3
   ·rw[h3,hx]at h2;cases h2
   ·exact Nh c _ ⟨z,h3,h2⟩
theorem awl(G:GS g)(h:64768<=(i.1:Int))(hp:(j8 (mI i)).2=true):uI (bC g i)=0:=by
 refine wr0 (G.cl i h) fun x hx=>?_
 rcases List.mem_append.1 hx with q|q
 ·exact(G.ok x q).2
 ·rcases List.mem_cons.1 q with q|q
  ·rw[q];exact hp
  ·rw[List.mem_singleton.1 q];exact ajE.2
theorem awm(hp:(j8 (mI i)).2=false):uI (bC g i)=1:=by
 unfold uI Mv;rw[Nh (bC g i) [] ⟨i,List.mem_append_right _ List.mem_cons_self,hp⟩];cases ly (bC g i)<;>rfl
theorem aas:enP V (yV ts out g i)=(decide (((1:Nat):Int)=((1:Nat):Int))&&((nU Yb 256 [(ts,out)]&&(nU (Yc V) 512 []&&(nU Yd 512 [0]&&(nU Ye 512 []&&(nU Yf 512 [((1:Int),(1:Int))]&&(nU Yg 512 gI&&nU (Yh V) 512 []))))))&&(stP (-1)&&(nU SY 512 []&&(nU D7 512 [(([]:List Int),bC g i)]&&nU SZ 512 []))))):=rfl
theorem aau:S4 (([]:List Int),bC g i)=(og (kL [] 0)&&(MC [] 0 0&&decide (uI (bC g i)=0))):=rfl
theorem awn(T:TY ts out)(G:GS g)(h:64768<=(i.1:Int))(hA: -9223372036854775808<=(i.2.1:Int)/\(i.2.1:Int)<9223372036854775808)(hl:List.length i.2.2.2.2.2=0)(hp:(j8 (mI i)).2=true):enP V (yV ts out g i)=true:=by
 have a35:nU (Yc V) 512 []=true:=by kernel_rfl
 have zX:nU Yd 512 [0]=true:=by kernel_rfl
 have a40:nU Ye 512 []=true:=by kernel_rfl
 have a42:nU Yf 512 [((1:Int),(1:Int))]=true:=by kernel_rfl
 have a44:nU Yg 512 gI=true:=by kernel_rfl
 have a46:nU (Yh V) 512 []=true:=by kernel_rfl
 have st:stP (-1)=true:=by kernel_rfl
 have a49:nU SY 512 []=true:=by kernel_rfl
 have a54:nU SZ 512 []=true:=by kernel_rfl
 have hc:=ajF G hA hl
 have o52:jC Nz.ok [(([]:List Int),bC g i)]=true:=Ch fun x hx=>by rw[List.mem_singleton.1 hx];exact hc
 have hm:=Nat.le_of_ble_eq_true (G.wt i hl);have hw:rE Nz.wt [(([]:List Int),bC g i)]<=16000:=by
  have e:rE Nz.wt [(([]:List Int),bC g i)]=Gp (([]:List Int),bC g i,())+0:=rfl;rw[e];unfold Gp;simp only[List.length_nil];omega
 have a52:nU D7 512 [(([]:List Int),bC g i)]=true:=by
  refine anU D7 (show(1:Int)<=512 by decide) (show 1<=65536 by decide) o52 (fun x hx=>?_) (by omega)
  obtain rfl:x=(([]:List Int),bC g i):=by simpa using hx
  show(decide ((0:Int)<=512)&&(S4 (([]:List Int),bC g i)&&og ((D6 (([]:List Int),bC g i)).length:Int)))=true;have hl2:=Gk (bC g i) (by unfold wI at hc;rw[Bool.and_eq_true]at hc;exact hc.1);have hcd:(D6 (([]:List Int),bC g i)).length<4294967296:=by
   have hn:=w9 (kL ([]:List Int) 0);unfold D6;have e0:(JR ([]:List Int) 0 0).length=0:=rfl;rw[List.length_append,List.length_append];show(nb (kL [] 0)).length+((JR ([]:List Int) 0 0).length+(wb (bC g i)).length)<_;omega
  rw[Pf hcd,aau,awl G h hp,show og (kL [] 0)=true by kernel_rfl,show MC [] 0 0=true by kernel_rfl];rfl
 rw[aas,T.s30,a35,zX,a40,a42,a44,a46,st,a49,a52,a54,dt (rfl:((1:Nat):Int)=((1:Nat):Int))];rfl
theorem awo(hp:(j8 (mI i)).2=false):enP V (yV ts out g i)=false:=by
 have a52:nU D7 512 [(([]:List Int),bC g i)]=false:=by
  have e:nU D7 512 [(([]:List Int),bC g i)]=(decide ((1:Int)<=512)&&bif decide ((1:Int)=0)then true else((og 1&&((decide ((0:Int)<=512)&&(S4 (([]:List Int),bC g i)&&og ((D6 (([]:List Int),bC g i)).length:Int)))&&true))&&og ((nb 1++Av D7 [(([]:List Int),bC g i)]).length:Int))):=rfl;rw[e,aau,awm hp,df (by decide: ¬ ((1:Int)=0))];simp
 rw[aas,a52];simp
theorem awp(T:TY ts out)(G:GS g)(h:64768<=(i.1:Int))(hA: -9223372036854775808<=(i.2.1:Int)/\(i.2.1:Int)<9223372036854775808)(hl:List.length i.2.2.2.2.2=0)(hp:(j8 (mI i)).2=true)(ho:Dd (yV ts out g i)=true):Uk V (yV ts out g i)=true/\rN V (yV ts out g i)=bif Ho (yV ts out g i)then 0 else 12:=by
 obtain⟨hE,hw⟩:=ajG (V:=V) T G hA hl;refine⟨by unfold Uk;rw[hE];rfl,?_⟩;have h2:uf V (yV ts out g i)=0:=by
  have hn:=X6 hE;unfold uf;have e:(Da V (yV ts out g i)).2=false:=by
   rw[JS hE,awn T G h hA hl hp];rfl
  rw[e,cond_false,df (by omega)];rfl
 unfold rN;rw[h2,ho];rfl
theorem awq(T:TY ts out)(G:GS g)(hA: -9223372036854775808<=(i.2.1:Int)/\(i.2.1:Int)<9223372036854775808)(hl:List.length i.2.2.2.2.2=0)(hp:(j8 (mI i)).2=false):Uk V (yV ts out g i)=true/\rN V (yV ts out g i)=1:=by
 obtain⟨hE,hw⟩:=ajG (V:=V) T G hA hl;refine⟨by unfold Uk;rw[hE];rfl,?_⟩;have h2:uf V (yV ts out g i)=1:=by
  unfold uf;have e:(Da V (yV ts out g i)).2=true:=by
   rw[JS hE,awo hp];rfl
  rw[e,cond_true]
 unfold rN;rw[h2];rfl
end
def fin(y:ca tM)(lo:List Int)(w:W3):Bool:=bif w.2.2 then false else(qH y lo w [iC 11 0 0]).isSome
def wG0(y:ca tM):W3:=Ui y 0
def TZ(y:ca tM):W3:=ku y (DL y 0) (wG0 y) (gt 0)
def Hy(y:ca tM):W3:=ku y (DL y 0) (TZ y) (gt 1)
theorem of_eq{I:den kE}{op:Int}(h:Ul I op=true):kZ op=(I.1,I.2.1,I.2.2.1,I.2.2.2.1,I.2.2.2.2,()):=by
 obtain⟨_,a,b,c,d,e⟩:= @of_decide_eq_true _ (Classical.propDecidable _) h;generalize kZ op=z at*;obtain⟨z1,z2,z3,z4,z5,⟨⟩⟩:=z;simp only at a b c d e;rw[a,b,c,d,e]
theorem aws{I:den kE}{op:Int}(h:Ul I op=true)(hg:64768<=op):yH I op=true:=by
 obtain⟨m,a,b,c,d,e⟩:= @of_decide_eq_true _ (Classical.propDecidable _) h;obtain⟨_,_,_,_,n11,n32⟩:=Rk hg
 have q:GC I op=I:=by unfold GC;rw[df n32,df n11];rfl
 exact aap m (by rw[q];exact a) (by rw[q];exact b) (by rw[q];exact c) (by rw[q];exact d) (by rw[q];exact e)
def awt(y:ca tM)(w:W3)(i:den tI)(I:den kE):W3:=q9 (lX (Ea y w i (I.1,I.2.1,I.2.2.1,I.2.2.2.1,I.2.2.2.2,())) I.2.2.2.1) I.2.2.2.2
theorem awu{I:den kE}{i:den tI}(h:Ul I i.1=true)(hp:I.2.2.1=true)(y:ca tM)(lo:List Int)(w:W3):ku y lo w i=awt y w i I:=by
 have e:ku y lo w i=bif (kZ i.1).2.2.1 then q9 (lX (Ea y w i (kZ i.1)) (kZ i.1).2.2.2.1) (kZ i.1).2.2.2.2.1 else
  (bif decide ((i.1:Int)=2)||(decide ((i.1:Int)=3)||decide ((i.1:Int)=4))then JZ y i (bif decide ((i.1:Int)=4)then jM w 127 else w)else
  bif decide ((i.1:Int)=5)||decide ((i.1:Int)=11)then ug w i.1 else
  bif decide ((i.1:Int)=26)then jM w 0 else
  bif decide ((i.1:Int)=27)then anv w else
  bif decide ((i.1:Int)=16)then(let c:=jO y.1 (kI y.2.1 y.2.2.1 i.2.1);q9 (lX (mh w (kG y.1 (kI y.2.1 y.2.2.1 i.2.1))) c.1) c.2)else
  bif decide ((i.1:Int)=17)then(let d:=jO y.1 i.2.1;q9 (lX (jM (mh w (bif kG y.1 i.2.1 then(bif decide (0<(y.2.2.2.1.length:Int))then decide (i.2.2.1=0)else false)else false)) 127) d.1) d.2)else
  B7 y lo w i):=rfl
 rw[e,of_eq h];show(bif I.2.2.1 then _ else _)=_;rw[hp];rfl
end Go.Proofs.Vv
noncomputable section
namespace Go.Proofs.Vv
open Go.Ab Go.Ab.Lf Go.Proofs.Vd
set_option maxRecDepth 1000000
structure SH(ts out:List Int)(g:List (den tI))(wG:ca tM->W3):Prop where
 t:TY ts out
 gs:GS g
 o: ∀ i:den tI,Dd (yV ts out g i)=true
 b: ∀ i:den tI,Ho (yV ts out g i)=fin (yV ts out g i) (DL (yV ts out g i) 0) (ku (yV ts out g i) (DL (yV ts out g i) 0) (wG (yV ts out g i)) i)
theorem wE(y:ca tM)(lo:List Int)(w:W3)(x:den tI)(r:List (den tI)):(qH y lo w (x::r)).isSome=bif (ku y lo w x).2.2 then false else(qH y lo (ku y lo w x) r).isSome:=by
 show(bif (ku y lo w x).2.2 then none else(qH y lo (ku y lo w x) r).map (YC w:: ·):Option (List (den Aw))).isSome=_;cases(ku y lo w x).2.2 with
 |true=>rfl
 |false=>
  show((qH y lo (ku y lo w x) r).map (YC w:: ·)).isSome=(qH y lo (ku y lo w x) r).isSome;cases qH y lo (ku y lo w x) r<;>rfl
theorem Pv(ts out:List Int)(g:List (den tI))(i:den tI):Ho (yV ts out g i)=(qH (yV ts out g i) (DL (yV ts out g i) 0) (wG0 (yV ts out g i)) (bC g i)).isSome:=by
 have e:Ho (yV ts out g i)=((qH (yV ts out g i) (DL (yV ts out g i) 0) (wG0 (yV ts out g i)) (bC g i)).isSome&&true):=rfl;rw[e,Bool.and_true]
theorem aCp(ts out:List Int)(i:den tI):Ho (yV ts out g0 i)=fin (yV ts out g0 i) (DL (yV ts out g0 i) 0) (ku (yV ts out g0 i) (DL (yV ts out g0 i) 0) (wG0 (yV ts out g0 i)) i):=(Pv ts out g0 i).trans (wE _ _ _ i [iC 11 0 0])
theorem aav(ts out:List Int)(i:den tI)(h:(TZ (yV ts out g1 i)).2.2=false):Ho (yV ts out g1 i)=fin (yV ts out g1 i) (DL (yV ts out g1 i) 0) (ku (yV ts out g1 i) (DL (yV ts out g1 i) 0) (TZ (yV ts out g1 i)) i):=by
 refine(Pv ts out g1 i).trans ((wE _ _ _ (gt 0) [i,iC 11 0 0]).trans ?_);show(bif (TZ (yV ts out g1 i)).2.2 then false else(qH (yV ts out g1 i) (DL (yV ts out g1 i) 0) (TZ (yV ts out g1 i)) [i,iC 11 0 0]).isSome)=_;rw[h];exact wE _ _ _ i [iC 11 0 0]
theorem yz(ts out:List Int)(i:den tI)(h:(TZ (yV ts out g2 i)).2.2=false)(h2:(Hy (yV ts out g2 i)).2.2=false):Ho (yV ts out g2 i)=fin (yV ts out g2 i) (DL (yV ts out g2 i) 0) (ku (yV ts out g2 i) (DL (yV ts out g2 i) 0) (Hy (yV ts out g2 i)) i):=by
 refine(Pv ts out g2 i).trans ((wE _ _ _ (gt 0) [gt 1,i,iC 11 0 0]).trans ?_);show(bif (TZ (yV ts out g2 i)).2.2 then false else(qH (yV ts out g2 i) (DL (yV ts out g2 i) 0) (TZ (yV ts out g2 i)) [gt 1,i,iC 11 0 0]).isSome)=_;rw[h];refine(wE _ _ _ (gt 1) [i,iC 11 0 0]).trans ?_;show(bif (Hy (yV ts out g2 i)).2.2 then false else(qH (yV ts out g2 i) (DL (yV ts out g2 i) 0) (Hy (yV ts out g2 i)) [i,iC 11 0 0]).isSome)=_;rw[h2];exact wE _ _ _ i [iC 11 0 0]
theorem apI(w:W3): ∀ (l:List Int),(∀ c,c∈l->c<32)->l.foldl (fun w c=>mh w (decide (c<32))) w=l.foldl (fun w _=>mh w true) w:=by
 intro l
 induction l generalizing w with
 |nil=>intro _;rfl
 |cons c l ih=>
  intro h;rw[List.foldl_cons,List.foldl_cons,dt (h c List.mem_cons_self)]
  exact ih _ fun d hd=>h d (List.mem_cons_of_mem _ hd)
theorem apJ(lo hi:Int):mVL lo hi=[cN lo hi 0,cN lo hi 1,cN lo hi 2,cN lo hi 3,cN lo hi 4,cN lo hi 5,cN lo hi 6,cN lo hi 7,cN lo hi 8,cN lo hi 9,cN lo hi 10,cN lo hi 11,cN lo hi 12,cN lo hi 13,cN lo hi 14,cN lo hi 15]:=by kernel_rfl
def ajH(w:W3)(i:den tI):W3:=(mVL i.2.2.2.1 i.2.2.2.2.1).foldl (fun w _=>mh w true) w
theorem apK{i:den tI}(h: ∀ j,j<16->cN i.2.2.2.1 i.2.2.2.2.1 j<32)(w:W3):Is w i=ajH w i:=by
 refine apI w _ fun c hc=>?_
 rw[apJ]at hc;simp only[List.mem_cons,List.not_mem_nil,or_false]at hc
 rcases hc with rfl|rfl|rfl|rfl|rfl|rfl|rfl|rfl|rfl|rfl|rfl|rfl|rfl|rfl|rfl|rfl
 ·exact h 0 (by decide)
 ·exact h 1 (by decide)
 ·exact h 2 (by decide)
 ·exact h 3 (by decide)
 ·exact h 4 (by decide)
 ·exact h 5 (by decide)
 ·exact h 6 (by decide)
 ·exact h 7 (by decide)
 ·exact h 8 (by decide)
 ·exact h 9 (by decide)
 ·exact h 10 (by decide)
 ·exact h 11 (by decide)
 ·exact h 12 (by decide)
 ·exact h 13 (by decide)
 ·exact h 14 (by decide)
 ·exact h 15 (by decide)
def fOk(I:den kE)(w:W3)(i:den tI):W3:=bif decide ((I.1:Int)=13)then mh w true else bif decide ((I.1:Int)=12)then ajH w i else w
theorem apL{I:den kE}{i:den tI}(h1:(I.1:Int)=1∨(I.1:Int)=11∨(I.1:Int)=12∨(I.1:Int)=13)(hG:GI I i.2.1 i.2.2.2.1 i.2.2.2.2.1)(y:ca tM)(w:W3):Ea y w i (I.1,I.2.1,I.2.2.1,I.2.2.2.1,I.2.2.2.2,())=fOk I w i:=by
 have e:Ea y w i (I.1,I.2.1,I.2.2.1,I.2.2.2.1,I.2.2.2.2,())=bif decide ((I.1:Int)=7)then _ else bif decide ((I.1:Int)=8)then _ else bif decide ((I.1:Int)=14)then _ else
  bif decide ((I.1:Int)=13)then mh w (decide (i.2.1<I.2.1))else bif decide ((I.1:Int)=12)then Is w i else w:=rfl
 have ne: ∀ d:Int,¬ ((1:Int)=d)-> ¬ ((11:Int)=d)-> ¬ ((12:Int)=d)-> ¬ ((13:Int)=d)-> ¬ ((I.1:Int)=d):=fun d a b c e q=>by
  rcases h1 with h|h|h|h
  ·exact a (h.symm.trans q)
  ·exact b (h.symm.trans q)
  ·exact c (h.symm.trans q)
  ·exact e (h.symm.trans q)
 rw[e,df (ne 7 (by decide) (by decide) (by decide) (by decide)),df (ne 8 (by decide) (by decide) (by decide) (by decide)),df (ne 14 (by decide) (by decide) (by decide) (by decide)),cond_false,cond_false,cond_false];unfold fOk
 rcases h1 with h|h|h|h
 ·rw[df (fun q=>absurd (h.symm.trans q) (by decide: ¬ ((1:Int)=13))),df (fun q=>absurd (h.symm.trans q) (by decide: ¬ ((1:Int)=12)))];rfl
 ·rw[df (fun q=>absurd (h.symm.trans q) (by decide: ¬ ((11:Int)=13))),df (fun q=>absurd (h.symm.trans q) (by decide: ¬ ((11:Int)=12)))];rfl
 ·rw[df (fun q=>absurd (h.symm.trans q) (by decide: ¬ ((12:Int)=13))),dt h,cond_false,cond_true,cond_false,cond_true];exact apK (hG.2 h) w
 ·rw[dt h,cond_true,cond_true]
  have hx:(i.2.1:Int)<I.2.1:=Int.lt_of_not_ge fun q=>hG.1 h (.inr q)
  rw[dt hx]
structure IQ(I:den kE)(i:den tI):Prop where
 f:(I.1:Int)=1∨(I.1:Int)=11∨(I.1:Int)=12∨(I.1:Int)=13
 p:I.2.2.1=true
 d:Ul I i.1=true
 g:64768<=(i.1:Int)
 a: -9223372036854775808<=(i.2.1:Int)/\(i.2.1:Int)<9223372036854775808
 l:List.length i.2.2.2.2.2=0
theorem j3{V:ByteArray->Bool}{ts out:List Int}{g:List (den tI)}{wG:ca tM->W3}{I:den kE}{i:den tI}(S:SH ts out g wG)(Q:IQ I i)(hG:GI I i.2.1 i.2.2.2.1 i.2.2.2.2.1)(hp:(j8 (mI i)).2=true){r:Bool}(hr:fin (yV ts out g i) (DL (yV ts out g i) 0) (q9 (lX (fOk I (wG (yV ts out g i)) i) I.2.2.2.1) I.2.2.2.2)=r)(he:eK I true (yV ts out g i)=bif r then 0 else 12):(Uk V (yV ts out g i)&&decide (rN V (yV ts out g i)=eK I true (yV ts out g i)))=true:=by
 obtain⟨a,b⟩:=awp (V:=V) S.t S.gs Q.g Q.a Q.l hp (S.o i);have e:Ho (yV ts out g i)=r:=by
  rw[S.b,awu Q.d Q.p];unfold awt;rw[apL Q.f hG,hr]
 rw[a,b,e,he,dt rfl];rfl
theorem cJ{V:ByteArray->Bool}{ts out:List Int}{g:List (den tI)}{wG:ca tM->W3}{I:den kE}{i:den tI}(S:SH ts out g wG)(Q:IQ I i)(hp:(j8 (mI i)).2=false):(Uk V (yV ts out g i)&&decide (rN V (yV ts out g i)=eK I false (yV ts out g i)))=true:=by
 obtain⟨a,b⟩:=awq (V:=V) S.t S.gs Q.a Q.l hp;rw[a,b];rfl
theorem aCr{ts out:List Int}{g:List (den tI)}{i:den tI}(h1:ts.length<=2)(h2:out.length<=1)(h3:g.length<=2)(hg: ∀ x,x∈g->List.length x.2.2.2.2.2=0)(hl:List.length i.2.2.2.2.2=0):mbB (yV ts out g i)=true:=by
 refine @decide_eq_true _ (Classical.propDecidable _) ?_;have hb:LI (bC g i):=by
  refine⟨by show(bC g i).length<=1099511627776;rw[List.length_append];show g.length+2<=_;omega,fun x hx=>?_⟩;have:List.length x.2.2.2.2.2=0:=by
   rcases List.mem_append.1 hx with q|q
   ·exact hg x q
   ·rcases List.mem_cons.1 q with q|q
    ·rw[q];exact hl
    ·rw[List.mem_singleton.1 q];rfl
  show List.length x.2.2.2.2.2<=1099511627776;omega
 refine⟨by show 1<=1099511627776;decide,by show 0<=1099511627776;decide,by show 1<=1099511627776;decide,by show 0<=1099511627776;decide,by show 1<=1099511627776;decide,by show 3<=1099511627776;decide,by show 0<=1099511627776;decide,by show 0<=1099511627776;decide,by show 1<=1099511627776;decide,by show 0<=1099511627776;decide,fun x hx=>?_,fun x hx=>?_,fun x hx=>?_,fun x hx=>?_,fun x hx=>?_⟩
 ·rw[show x=(ts,out) by simpa using hx];exact⟨show ts.length<=1099511627776 by omega,show out.length<=1099511627776 by omega⟩
 ·have hx:x∈gI:=hx;simp only[gI,List.mem_cons,List.not_mem_nil,or_false]at hx
  rcases hx with h|h|h
  ·rw[h];exact YZ 65 0 0
  ·rw[h];exact YZ 66 0 0
  ·rw[h];exact YZ 64780 0 0
 ·cases hx
 ·rw[show x=([],bC g i) by simpa using hx];exact⟨Nat.zero_le _,hb⟩
 ·cases hx
theorem oi{ts out:List Int}{g:List (den tI)}{i:den tI}(h:(Nat.ble ts.length 2&&Nat.ble out.length 1&&Nat.ble g.length 2&&g.all fun x=>Nat.beq (List.length x.2.2.2.2.2) 0)=true)(hl:List.length i.2.2.2.2.2=0):mbB (yV ts out g i)=true:=by
 simp only[Bool.and_eq_true]at h;exact aCr (Nat.le_of_ble_eq_true h.1.1.1) (Nat.le_of_ble_eq_true h.1.1.2) (Nat.le_of_ble_eq_true h.1.2) (fun x hx=>Nat.eq_of_beq_eq_true (List.all_eq_true.1 h.2 x hx)) hl
theorem nD:SH [123,123] [123] g2 Hy:=⟨⟨by kernel_rfl,by kernel_rfl,by kernel_rfl⟩,Ng,fun i=>by kernel_rfl,fun i=>yz [123,123] [123] i (by kernel_rfl) (by kernel_rfl)⟩
theorem uk:SH [123] [123] g1 TZ:=⟨⟨by kernel_rfl,by kernel_rfl,by kernel_rfl⟩,gs1,fun i=>by kernel_rfl,fun i=>aav [123] [123] i (by kernel_rfl)⟩
theorem um:SH [127,127] [123] g2 Hy:=⟨⟨by kernel_rfl,by kernel_rfl,by kernel_rfl⟩,Ng,fun i=>by kernel_rfl,fun i=>yz [127,127] [123] i (by kernel_rfl) (by kernel_rfl)⟩
theorem uo:SH [126,127] [123] g2 Hy:=⟨⟨by kernel_rfl,by kernel_rfl,by kernel_rfl⟩,Ng,fun i=>by kernel_rfl,fun i=>yz [126,127] [123] i (by kernel_rfl) (by kernel_rfl)⟩
theorem uq:SH [127,126] [123] g2 Hy:=⟨⟨by kernel_rfl,by kernel_rfl,by kernel_rfl⟩,Ng,fun i=>by kernel_rfl,fun i=>yz [127,126] [123] i (by kernel_rfl) (by kernel_rfl)⟩
theorem ur:SH [126,126] [123] g2 Hy:=⟨⟨by kernel_rfl,by kernel_rfl,by kernel_rfl⟩,Ng,fun i=>by kernel_rfl,fun i=>yz [126,126] [123] i (by kernel_rfl) (by kernel_rfl)⟩
theorem nW:SH [123] [127] g1 TZ:=⟨⟨by kernel_rfl,by kernel_rfl,by kernel_rfl⟩,gs1,fun i=>by kernel_rfl,fun i=>aav [123] [127] i (by kernel_rfl)⟩
theorem nE:SH [127,127] [127] g2 Hy:=⟨⟨by kernel_rfl,by kernel_rfl,by kernel_rfl⟩,Ng,fun i=>by kernel_rfl,fun i=>yz [127,127] [127] i (by kernel_rfl) (by kernel_rfl)⟩
theorem nF:SH [126,127] [127] g2 Hy:=⟨⟨by kernel_rfl,by kernel_rfl,by kernel_rfl⟩,Ng,fun i=>by kernel_rfl,fun i=>yz [126,127] [127] i (by kernel_rfl) (by kernel_rfl)⟩
theorem nG:SH [127,126] [127] g2 Hy:=⟨⟨by kernel_rfl,by kernel_rfl,by kernel_rfl⟩,Ng,fun i=>by kernel_rfl,fun i=>yz [127,126] [127] i (by kernel_rfl) (by kernel_rfl)⟩
theorem nH:SH [126,126] [127] g2 Hy:=⟨⟨by kernel_rfl,by kernel_rfl,by kernel_rfl⟩,Ng,fun i=>by kernel_rfl,fun i=>yz [126,126] [127] i (by kernel_rfl) (by kernel_rfl)⟩
theorem nY:SH [123] [126] g1 TZ:=⟨⟨by kernel_rfl,by kernel_rfl,by kernel_rfl⟩,gs1,fun i=>by kernel_rfl,fun i=>aav [123] [126] i (by kernel_rfl)⟩
theorem nI:SH [127,127] [126] g2 Hy:=⟨⟨by kernel_rfl,by kernel_rfl,by kernel_rfl⟩,Ng,fun i=>by kernel_rfl,fun i=>yz [127,127] [126] i (by kernel_rfl) (by kernel_rfl)⟩
theorem nJ:SH [126,127] [126] g2 Hy:=⟨⟨by kernel_rfl,by kernel_rfl,by kernel_rfl⟩,Ng,fun i=>by kernel_rfl,fun i=>yz [126,127] [126] i (by kernel_rfl) (by kernel_rfl)⟩
theorem nK:SH [127,126] [126] g2 Hy:=⟨⟨by kernel_rfl,by kernel_rfl,by kernel_rfl⟩,Ng,fun i=>by kernel_rfl,fun i=>yz [127,126] [126] i (by kernel_rfl) (by kernel_rfl)⟩
theorem nL:SH [126,126] [126] g2 Hy:=⟨⟨by kernel_rfl,by kernel_rfl,by kernel_rfl⟩,Ng,fun i=>by kernel_rfl,fun i=>yz [126,126] [126] i (by kernel_rfl) (by kernel_rfl)⟩
theorem kS:SH [123,127] [123] g2 Hy:=⟨⟨by kernel_rfl,by kernel_rfl,by kernel_rfl⟩,Ng,fun i=>by kernel_rfl,fun i=>yz [123,127] [123] i (by kernel_rfl) (by kernel_rfl)⟩
theorem kT:SH [123,126] [123] g2 Hy:=⟨⟨by kernel_rfl,by kernel_rfl,by kernel_rfl⟩,Ng,fun i=>by kernel_rfl,fun i=>yz [123,126] [123] i (by kernel_rfl) (by kernel_rfl)⟩
theorem kU:SH [127,123] [123] g2 Hy:=⟨⟨by kernel_rfl,by kernel_rfl,by kernel_rfl⟩,Ng,fun i=>by kernel_rfl,fun i=>yz [127,123] [123] i (by kernel_rfl) (by kernel_rfl)⟩
theorem kV:SH [126,123] [123] g2 Hy:=⟨⟨by kernel_rfl,by kernel_rfl,by kernel_rfl⟩,Ng,fun i=>by kernel_rfl,fun i=>yz [126,123] [123] i (by kernel_rfl) (by kernel_rfl)⟩
theorem na:SH [127] [123] g1 TZ:=⟨⟨by kernel_rfl,by kernel_rfl,by kernel_rfl⟩,gs1,fun i=>by kernel_rfl,fun i=>aav [127] [123] i (by kernel_rfl)⟩
theorem nc:SH [126] [123] g1 TZ:=⟨⟨by kernel_rfl,by kernel_rfl,by kernel_rfl⟩,gs1,fun i=>by kernel_rfl,fun i=>aav [126] [123] i (by kernel_rfl)⟩
theorem r5:SH [] [123] g0 wG0:=⟨⟨by kernel_rfl,by kernel_rfl,by kernel_rfl⟩,gs0,fun i=>by kernel_rfl,fun i=>aCp [] [123] i⟩
abbrev cQ(V:ByteArray->Bool)(I:den kE)(b:Bool)(ts out:List Int)(g:List (den tI))(i:den tI):Prop:=(Uk V (yV ts out g i)&&decide (rN V (yV ts out g i)=eK I b (yV ts out g i)))=true
abbrev cR(V:ByteArray->Bool)(I:den kE)(b:Bool)(ts out:List Int)(g:List (den tI))(i:den tI):Prop:=IQ I i->GI I i.2.1 i.2.2.2.1 i.2.2.2.2.1->(j8 (mI i)).2=true->cQ V I b ts out g i
theorem uu{V i}:cR V jB true [123,123] [123] g2 i:=fun Q hG hp=>j3 nD Q hG hp (r:=true) (by kernel_rfl) (by kernel_rfl)
theorem r6{V i}:cR V mX true [123] [123] g1 i:=fun Q hG hp=>j3 uk Q hG hp (r:=true) (by kernel_rfl) (by kernel_rfl)
theorem u4{V i}:cR V mX true [127,127] [123] g2 i:=fun Q hG hp=>j3 um Q hG hp (r:=false) (by kernel_rfl) (by kernel_rfl)
theorem u5{V i}:cR V mX true [126,127] [123] g2 i:=fun Q hG hp=>j3 uo Q hG hp (r:=false) (by kernel_rfl) (by kernel_rfl)
theorem u6{V i}:cR V mX true [127,126] [123] g2 i:=fun Q hG hp=>j3 uq Q hG hp (r:=false) (by kernel_rfl) (by kernel_rfl)
theorem u7{V i}:cR V mX true [126,126] [123] g2 i:=fun Q hG hp=>j3 ur Q hG hp (r:=false) (by kernel_rfl) (by kernel_rfl)
theorem yB{n V i}:cR V (mY n 127) true [123] [127] g1 i:=fun Q hG hp=>j3 nW Q hG hp (r:=true) (by kernel_rfl) (by kernel_rfl)
theorem AO{n V i}:cR V (mY n 127) true [127,127] [127] g2 i:=fun Q hG hp=>j3 nE Q hG hp (r:=false) (by kernel_rfl) (by kernel_rfl)
theorem AP{n V i}:cR V (mY n 127) true [126,127] [127] g2 i:=fun Q hG hp=>j3 nF Q hG hp (r:=false) (by kernel_rfl) (by kernel_rfl)
theorem AQ{n V i}:cR V (mY n 127) true [127,126] [127] g2 i:=fun Q hG hp=>j3 nG Q hG hp (r:=false) (by kernel_rfl) (by kernel_rfl)
theorem AR{n V i}:cR V (mY n 127) true [126,126] [127] g2 i:=fun Q hG hp=>j3 nH Q hG hp (r:=false) (by kernel_rfl) (by kernel_rfl)
theorem yC{n V i}:cR V (mY n 127) true [123] [126] g1 i:=fun Q hG hp=>j3 nY Q hG hp (r:=false) (by kernel_rfl) (by kernel_rfl)
theorem AU{n V i}:cR V (mY n 127) true [127,127] [126] g2 i:=fun Q hG hp=>j3 nI Q hG hp (r:=false) (by kernel_rfl) (by kernel_rfl)
theorem AW{n V i}:cR V (mY n 127) true [126,127] [126] g2 i:=fun Q hG hp=>j3 nJ Q hG hp (r:=false) (by kernel_rfl) (by kernel_rfl)
theorem AX{n V i}:cR V (mY n 127) true [127,126] [126] g2 i:=fun Q hG hp=>j3 nK Q hG hp (r:=false) (by kernel_rfl) (by kernel_rfl)
theorem AY{n V i}:cR V (mY n 127) true [126,126] [126] g2 i:=fun Q hG hp=>j3 nL Q hG hp (r:=false) (by kernel_rfl) (by kernel_rfl)
theorem yD{n V i}:cR V (mY n 126) true [123] [127] g1 i:=fun Q hG hp=>j3 nW Q hG hp (r:=false) (by kernel_rfl) (by kernel_rfl)
theorem AZ{n V i}:cR V (mY n 126) true [127,127] [127] g2 i:=fun Q hG hp=>j3 nE Q hG hp (r:=false) (by kernel_rfl) (by kernel_rfl)
theorem A0{n V i}:cR V (mY n 126) true [126,127] [127] g2 i:=fun Q hG hp=>j3 nF Q hG hp (r:=false) (by kernel_rfl) (by kernel_rfl)
theorem A1{n V i}:cR V (mY n 126) true [127,126] [127] g2 i:=fun Q hG hp=>j3 nG Q hG hp (r:=false) (by kernel_rfl) (by kernel_rfl)
theorem A2{n V i}:cR V (mY n 126) true [126,126] [127] g2 i:=fun Q hG hp=>j3 nH Q hG hp (r:=false) (by kernel_rfl) (by kernel_rfl)
theorem yE{n V i}:cR V (mY n 126) true [123] [126] g1 i:=fun Q hG hp=>j3 nY Q hG hp (r:=true) (by kernel_rfl) (by kernel_rfl)
theorem A3{n V i}:cR V (mY n 126) true [127,127] [126] g2 i:=fun Q hG hp=>j3 nI Q hG hp (r:=false) (by kernel_rfl) (by kernel_rfl)
theorem A4{n V i}:cR V (mY n 126) true [126,127] [126] g2 i:=fun Q hG hp=>j3 nJ Q hG hp (r:=false) (by kernel_rfl) (by kernel_rfl)
theorem A5{n V i}:cR V (mY n 126) true [127,126] [126] g2 i:=fun Q hG hp=>j3 nK Q hG hp (r:=false) (by kernel_rfl) (by kernel_rfl)
theorem A6{n V i}:cR V (mY n 126) true [126,126] [126] g2 i:=fun Q hG hp=>j3 nL Q hG hp (r:=false) (by kernel_rfl) (by kernel_rfl)
theorem uv{n V i}:cR V (pg n 127) true [123,127] [123] g2 i:=fun Q hG hp=>j3 kS Q hG hp (r:=true) (by kernel_rfl) (by kernel_rfl)
theorem uw{n V i}:cR V (pg n 127) true [123,126] [123] g2 i:=fun Q hG hp=>j3 kT Q hG hp (r:=false) (by kernel_rfl) (by kernel_rfl)
theorem ux{n V i}:cR V (pg n 127) true [127,123] [123] g2 i:=fun Q hG hp=>j3 kU Q hG hp (r:=false) (by kernel_rfl) (by kernel_rfl)
theorem uy{n V i}:cR V (pg n 127) true [126,123] [123] g2 i:=fun Q hG hp=>j3 kV Q hG hp (r:=false) (by kernel_rfl) (by kernel_rfl)
theorem uz{n V i}:cR V (pg n 126) true [123,127] [123] g2 i:=fun Q hG hp=>j3 kS Q hG hp (r:=false) (by kernel_rfl) (by kernel_rfl)
theorem uA{n V i}:cR V (pg n 126) true [123,126] [123] g2 i:=fun Q hG hp=>j3 kT Q hG hp (r:=true) (by kernel_rfl) (by kernel_rfl)
theorem uB{n V i}:cR V (pg n 126) true [127,123] [123] g2 i:=fun Q hG hp=>j3 kU Q hG hp (r:=false) (by kernel_rfl) (by kernel_rfl)
theorem uC{n V i}:cR V (pg n 126) true [126,123] [123] g2 i:=fun Q hG hp=>j3 kV Q hG hp (r:=false) (by kernel_rfl) (by kernel_rfl)
theorem rz{V i}:cR V (pP 127) true [127] [123] g1 i:=fun Q hG hp=>j3 na Q hG hp (r:=true) (by kernel_rfl) (by kernel_rfl)
theorem rA{V i}:cR V (pP 127) true [126] [123] g1 i:=fun Q hG hp=>j3 nc Q hG hp (r:=false) (by kernel_rfl) (by kernel_rfl)
theorem rB{V i}:cR V (pP 126) true [127] [123] g1 i:=fun Q hG hp=>j3 na Q hG hp (r:=false) (by kernel_rfl) (by kernel_rfl)
theorem rD{V i}:cR V (pP 126) true [126] [123] g1 i:=fun Q hG hp=>j3 nc Q hG hp (r:=true) (by kernel_rfl) (by kernel_rfl)
theorem mZ{V i}:cR V Dn true [] [123] g0 i:=fun Q hG hp=>j3 r5 Q hG hp (r:=true) (by kernel_rfl) (by kernel_rfl)
theorem uD{V i}:cR V Dm true [123,123] [123] g2 i:=fun Q hG hp=>j3 nD Q hG hp (r:=true) (by kernel_rfl) (by kernel_rfl)
theorem u9{V i}:cR V Nf true [123,127] [123] g2 i:=fun Q hG hp=>j3 kS Q hG hp (r:=true) (by kernel_rfl) (by kernel_rfl)
theorem vb{V i}:cR V Nf true [123,126] [123] g2 i:=fun Q hG hp=>j3 kT Q hG hp (r:=false) (by kernel_rfl) (by kernel_rfl)
theorem vc{V i}:cR V Nf true [127,123] [123] g2 i:=fun Q hG hp=>j3 kU Q hG hp (r:=false) (by kernel_rfl) (by kernel_rfl)
theorem ve{V i}:cR V Nf true [126,123] [123] g2 i:=fun Q hG hp=>j3 kV Q hG hp (r:=false) (by kernel_rfl) (by kernel_rfl)
theorem z6{V i}:cR V tD true [123] [127] g1 i:=fun Q hG hp=>j3 nW Q hG hp (r:=true) (by kernel_rfl) (by kernel_rfl)
theorem Ci{V i}:cR V tD true [127,127] [127] g2 i:=fun Q hG hp=>j3 nE Q hG hp (r:=false) (by kernel_rfl) (by kernel_rfl)
theorem Cj{V i}:cR V tD true [126,127] [127] g2 i:=fun Q hG hp=>j3 nF Q hG hp (r:=false) (by kernel_rfl) (by kernel_rfl)
theorem Ck{V i}:cR V tD true [127,126] [127] g2 i:=fun Q hG hp=>j3 nG Q hG hp (r:=false) (by kernel_rfl) (by kernel_rfl)
theorem Cm{V i}:cR V tD true [126,126] [127] g2 i:=fun Q hG hp=>j3 nH Q hG hp (r:=false) (by kernel_rfl) (by kernel_rfl)
theorem z7{V i}:cR V tD true [123] [126] g1 i:=fun Q hG hp=>j3 nY Q hG hp (r:=false) (by kernel_rfl) (by kernel_rfl)
theorem Cn{V i}:cR V tD true [127,127] [126] g2 i:=fun Q hG hp=>j3 nI Q hG hp (r:=false) (by kernel_rfl) (by kernel_rfl)
theorem Co{V i}:cR V tD true [126,127] [126] g2 i:=fun Q hG hp=>j3 nJ Q hG hp (r:=false) (by kernel_rfl) (by kernel_rfl)
theorem Cp{V i}:cR V tD true [127,126] [126] g2 i:=fun Q hG hp=>j3 nK Q hG hp (r:=false) (by kernel_rfl) (by kernel_rfl)
theorem Cr{V i}:cR V tD true [126,126] [126] g2 i:=fun Q hG hp=>j3 nL Q hG hp (r:=false) (by kernel_rfl) (by kernel_rfl)
end Go.Proofs.Vv
