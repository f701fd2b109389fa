import Derived.Test.YtooeifemoidnoaaDoorVdX1
noncomputable section
namespace Go.Proofs.Vd
open Go.Ab Go.Ab.Lf
set_option maxRecDepth 100000
abbrev W3:=List Int×List (den tBlk)×Bool
abbrev wk(y:denT tM)(lo:List Int)(w:W3):denT tWk:=(y.1,y.2.1,y.2.2.1,y.2.2.2.1,y.2.2.2.2.1,y.2.2.2.2.2.1,y.2.2.2.2.2.2.1,y.2.2.2.2.2.2.2.1,y.2.2.2.2.2.2.2.2.1,y.2.2.2.2.2.2.2.2.2.1,y.2.2.2.2.2.2.2.2.2.2.1,lo,w.1,w.2.1,w.2.2,())
abbrev wkI(y:denT tM)(lo:List Int)(w:W3)(i:den tI):denT ti62:=(y.1,y.2.1,y.2.2.1,y.2.2.2.1,y.2.2.2.2.1,y.2.2.2.2.2.1,y.2.2.2.2.2.2.1,y.2.2.2.2.2.2.2.1,y.2.2.2.2.2.2.2.2.1,y.2.2.2.2.2.2.2.2.2.1,y.2.2.2.2.2.2.2.2.2.2.1,lo,w.1,w.2.1,w.2.2,i.1,i.2.1,i.2.2.1,i.2.2.2.1,i.2.2.2.2.1,i.2.2.2.2.2,())
abbrev wkL(y:denT tM)(lo:List Int)(w:W3)(l:List Int):denT ti85:=(y.1,y.2.1,y.2.2.1,y.2.2.2.1,y.2.2.2.2.1,y.2.2.2.2.2.1,y.2.2.2.2.2.2.1,y.2.2.2.2.2.2.2.1,y.2.2.2.2.2.2.2.2.1,y.2.2.2.2.2.2.2.2.2.1,y.2.2.2.2.2.2.2.2.2.2.1,lo,w.1,w.2.1,w.2.2,l,())
abbrev wkN(y:denT tM)(lo:List Int)(w:W3)(n:Int):denT ti75:=(y.1,y.2.1,y.2.2.1,y.2.2.2.1,y.2.2.2.2.1,y.2.2.2.2.2.1,y.2.2.2.2.2.2.1,y.2.2.2.2.2.2.2.1,y.2.2.2.2.2.2.2.2.1,y.2.2.2.2.2.2.2.2.2.1,y.2.2.2.2.2.2.2.2.2.2.1,lo,w.1,w.2.1,w.2.2,n,())
end Go.Proofs.Vd

noncomputable section
namespace Go.Proofs.Vd
open Go.Ab Go.Ab.Lf
set_option maxRecDepth 100000
theorem eq75(y:denT tM)(lo:List Int)(w:W3)(n:Int)(B:den tBlk)(hB:B=w.2.1.getD (subW .i64 (w.2.1.length:Int) 1).toNat (dflt tBlk))(bl:List (den tBlk))(hbl:bl=(w.2.1.drop 0).take ((subW .i64 (w.2.1.length:Int) 1).toNat - 0))
 (S:List Int×Bool)(hS:S=mTks B.2.2.2.1 w.2.1 B.2.2.2.1.length w.1 w.2.2)(b1:Bool)(hb:b1=(S.2|| !decide ((S.1.length:Int)=B.2.1))):
 (t75 (wkN y lo w n)).val=ckO (ixOk (subW .i64 (w.2.1.length:Int) 1) (w.2.1.length:Int)) (ckO (decide (B.2.2.2.1.length<=1099511627776)&&okW w.1 w.2.1) (ckO (cutOk 0 (subW .i64 (w.2.1.length:Int) 1) (w.2.1.length:Int))
  (bif b1 then ckO (roomy 72 (bl.length+1)) (some (ofT to75 (wk y lo (S.1,app bl [B],b1))))else
   bif decide (n=5)then ckO (decide (bl.length+1<=549755813888)) (ckO (decide (S.1.length+B.2.2.1.length<=1099511627776)) (some (ofT to75 (wk y lo (S.1++B.2.2.1,mOpen S.1 bl 5 B.2.2.1 B.2.2.2.1,b1)))))else
   bif !decide (B.1=4)then ckO (decide (S.1.length+B.2.2.2.1.length<=1099511627776)) (some (ofT to75 (wk y lo (S.1++B.2.2.2.1,bl,b1|| !true))))else
    ckO (decide (B.2.2.1.length<=1099511627776)) (ckO (decide (S.1.length+B.2.2.2.1.length<=1099511627776)) (some (ofT to75 (wk y lo (S.1++B.2.2.2.1,bl,b1|| !decide (B.2.2.1=B.2.2.2.1))))))))):=by
 subst hB;subst hbl;subst hS;subst hb
 kernel_rfl
abbrev wkA(y:denT tM)(lo:List Int)(w:W3)(l was:List Int)(n:Int):denT ti850:=(y.1,y.2.1,y.2.2.1,y.2.2.2.1,y.2.2.2.2.1,y.2.2.2.2.2.1,y.2.2.2.2.2.2.1,y.2.2.2.2.2.2.2.1,y.2.2.2.2.2.2.2.2.1,y.2.2.2.2.2.2.2.2.2.1,y.2.2.2.2.2.2.2.2.2.2.1,lo,w.1,w.2.1,w.2.2,l,was,n,())
theorem eq850(y:denT tM)(lo:List Int)(w:W3)(L was:List Int)(i:Int):(f850 (ofT ti850 (wkA y lo w L was i))).val=
 bif decide (0<=i)then ckO (ixOk i (L.length:Int)) (ckO (okW w.1 w.2.1) (ckO (roomy 8 (was.length+1)) (some (Rs.next (ofT ti850 (wkA y lo ((mTake w.1 w.2.1 w.2.2 (L.getD i.toNat (dflt i64))).2.1,w.2.1,(mTake w.1 w.2.1 w.2.2 (L.getD i.toNat (dflt i64))).2.2) L (app was [(mTake w.1 w.2.1 w.2.2 (L.getD i.toNat (dflt i64))).1]) (subW .i64 i 1)))))))else some (Rs.out 0 (ofT to850_0 (wkL y lo w was))):=by kernel_rfl
def revK{β:Type}(K:List Int->Option β):Nat->Nat->Int->List Int->Option β
 |0,_,_,_=>none
 |f+1,i,j,x=>bif decide ((i:Int)<j)then ckO (ixOk j (x.length:Int)) (ckO (ixOk (i:Int) (x.length:Int)) (ckO (ixOk (i:Int) (x.length:Int)) (ckO (ixOk j ((x.set i (x.getD j.toNat (dflt i64))).length:Int)) (revK K f (i+1) (subW .i64 j 1) ((x.set i (x.getD j.toNat (dflt i64))).set j.toNat (x.getD i (dflt i64)))))))else K x
theorem eq85(y:denT tM)(lo:List Int)(w:W3)(L:List Int)(z:denT to850_0)(hz:z=lo1 f850 ti850 to850_0 (wkA y lo w L [] (subW .i64 (L.length:Int) 1))):(t85 (wkL y lo w L)).val=
 ckO (lk1 f850 ti850 to850_0 (wkA y lo w L [] (subW .i64 (L.length:Int) 1))) (revK (fun x=>ckO (decide (z.2.2.2.2.2.2.2.2.2.2.2.2.1.length+x.length<=1099511627776)) (some (ofT to85 (z.1,z.2.1,z.2.2.1,z.2.2.2.1,z.2.2.2.2.1,z.2.2.2.2.2.1,z.2.2.2.2.2.2.1,z.2.2.2.2.2.2.2.1,z.2.2.2.2.2.2.2.2.1,z.2.2.2.2.2.2.2.2.2.1,z.2.2.2.2.2.2.2.2.2.2.1,z.2.2.2.2.2.2.2.2.2.2.2.1,z.2.2.2.2.2.2.2.2.2.2.2.2.1++x,z.2.2.2.2.2.2.2.2.2.2.2.2.2.1,z.2.2.2.2.2.2.2.2.2.2.2.2.2.2.1,())))) 18 0 (subW .i64 (z.2.2.2.2.2.2.2.2.2.2.2.2.2.2.2.1.length:Int) 1) z.2.2.2.2.2.2.2.2.2.2.2.2.2.2.2.1):=by
 subst hz
 kernel_rfl
abbrev pTake(w:W3)(t:Int):W3:=((mTake w.1 w.2.1 w.2.2 t).2.1,w.2.1,(mTake w.1 w.2.1 w.2.2 t).2.2)
abbrev pTks(w:W3)(L:List Int):W3:=((mTks L w.2.1 L.length w.1 w.2.2).1,w.2.1,(mTks L w.2.1 L.length w.1 w.2.2).2)
abbrev pDie(w:W3):W3:=(w.1.take (mTop w.2.1).2.1.toNat,w.2.1.set (w.2.1.length - 1) (mDead (mTop w.2.1)),w.2.2)
abbrev pLab(w:W3)(l:Int):W3:=(w.1,w.2.1,bif decide ((w.2.1.length:Int)<=l)then true else w.2.2)
abbrev pGiv(w:W3)(L:List Int):W3:=(w.1++L,w.2.1,w.2.2)
abbrev pMst(w:W3)(c:Bool):W3:=(w.1,w.2.1,w.2.2|| !c)
abbrev cW(w:W3):Bool:=okW w.1 w.2.1
abbrev cT(w:W3)(L:List Int):Bool:=decide (L.length<=1099511627776)&&okW w.1 w.2.1
abbrev cG(w:W3)(L:List Int):Bool:=decide (w.1.length+L.length<=1099511627776)
abbrev cL(w:W3)(l:Int):Bool:=decide (0<=l)&&decide (w.2.1.length<=1099511627776)
theorem eq86(y:denT tM)(lo:List Int)(w:W3)(i:den tI):(t86 (wkI y lo w i)).val=
 (let gl:=y.2.2.2.2.2.1
 let R:=fun(t:Int) (ok:Bool)=>bif (bif !decide (i.1=32)then !decide (i.1=35)else false)then ckO (cW w) (bif (bif !decide (i.1=33)then !decide (i.1=36)else false)then ckO (cG (pTake (pMst w ok) t) [t]) (some (ofT to86 (wk y lo (pGiv (pTake (pMst w ok) t) [t]))))else some (ofT to86 (wk y lo (pTake (pMst w ok) t))))
  else bif (bif !decide (i.1=33)then !decide (i.1=36)else false)then ckO (cG w [t]) (some (ofT to86 (wk y lo (pGiv (pMst w ok) [t]))))else some (ofT to86 (wk y lo (pMst w ok)))
 let G:=ckO (ixOk i.2.1 (gl.length:Int)&&bif decide (i.1=35)then true else ixOk i.2.1 (gl.length:Int)) (R (bif decide (i.1=35)then(gl.getD i.2.1.toNat (dflt tGlo)).1 else(gl.getD i.2.1.toNat (dflt tGlo)).1) (bif decide (i.1=35)then true else(gl.getD i.2.1.toNat (dflt tGlo)).2.1))
 bif (bif decide (i.1<=34)then decide (i.2.1<(lo.length:Int))else false)then ckO (ixOk i.2.1 (lo.length:Int)) (bif (bif decide (34<i.1)then decide (i.2.1<(gl.length:Int))else false)then G else R (lo.getD i.2.1.toNat (dflt i64)) true)
  else bif (bif decide (34<i.1)then decide (i.2.1<(gl.length:Int))else false)then G else R 0 false):=by kernel_rfl
abbrev wkJ(y:denT tM)(lo:List Int)(w:W3)(last l:List Int)(n i:Int):denT ti771:=(y.1,y.2.1,y.2.2.1,y.2.2.2.1,y.2.2.2.2.1,y.2.2.2.2.2.1,y.2.2.2.2.2.2.1,y.2.2.2.2.2.2.2.1,y.2.2.2.2.2.2.2.2.1,y.2.2.2.2.2.2.2.2.2.1,y.2.2.2.2.2.2.2.2.2.2.1,lo,w.1,w.2.1,w.2.2,last,l,n,i,())
theorem eq771(y:denT tM)(lo:List Int)(w:W3)(last L:List Int)(n i:Int)(l:Int)(hl:l=L.getD i.toNat (dflt i64))(u:W3)(hu:u=pMst (pLab w l) (decide (((mLab w.2.1 l).length:Int)=(last.length:Int))))(z:denT to85)(hz:z=m85 (wkL y lo u (mLab w.2.1 l))):(f771 (ofT ti771 (wkJ y lo w last L n i))).val=
 bif decide (i<n)then ckO (ixOk i (L.length:Int)) (ckO (cL w l) (ckO (k85 (wkL y lo u (mLab w.2.1 l))) (some (Rs.next (ofT ti771 (z.1,z.2.1,z.2.2.1,z.2.2.2.1,z.2.2.2.2.1,z.2.2.2.2.2.1,z.2.2.2.2.2.2.1,z.2.2.2.2.2.2.2.1,z.2.2.2.2.2.2.2.2.1,z.2.2.2.2.2.2.2.2.2.1,z.2.2.2.2.2.2.2.2.2.2.1,z.2.2.2.2.2.2.2.2.2.2.2.1,z.2.2.2.2.2.2.2.2.2.2.2.2.1,z.2.2.2.2.2.2.2.2.2.2.2.2.2.1,z.2.2.2.2.2.2.2.2.2.2.2.2.2.2.1,last,L,n,addW .i64 i 1,()))))))
 else some (Rs.out 0 (ofT to771_0 (wkL y lo w last))):=by
 subst hz;subst hu;subst hl
 kernel_rfl
theorem eq77(y:denT tM)(lo:List Int)(w:W3)(i:den tI)(u:W3)(hu:u=pLab (pTake w 127) i.2.1)(T:List Int)(hT:T=mLab w.2.1 i.2.1)(z:denT to771_0)(hz:z=lo1 f771 ti771 to771_0 (wkJ y lo u T i.2.2.2.2.2 (i.2.2.2.2.2.length:Int) 0)):(t77 (wkI y lo w i)).val=
 (let D:=fun v:W3=>ckO (cW v) (some (ofT to77 (wk y lo (pDie v))))
 bif decide (i.1=0)then D w else
 bif decide (i.1=12)then ckO (cL w i.2.1) (ckO (cT (pLab w i.2.1) T) (D (pTks (pLab w i.2.1) T)))else
 bif decide (i.1=13)then ckO (cW w) (ckO (cL (pTake w 127) i.2.1) (ckO (cT u T) (ckO (cG (pTks u T) T) (some (ofT to77 (wk y lo (pGiv (pTks u T) T)))))))else
 bif decide (i.1=14)then ckO (cW w) (ckO (cL (pTake w 127) i.2.1) (ckO (lk1 f771 ti771 to771_0 (wkJ y lo u T i.2.2.2.2.2 (i.2.2.2.2.2.length:Int) 0)) (
  let v:W3:=(z.2.2.2.2.2.2.2.2.2.2.2.2.1,z.2.2.2.2.2.2.2.2.2.2.2.2.2.1,z.2.2.2.2.2.2.2.2.2.2.2.2.2.2.1)
  let S:=pTks v z.2.2.2.2.2.2.2.2.2.2.2.2.2.2.2.1
  ckO (cT v z.2.2.2.2.2.2.2.2.2.2.2.2.2.2.2.1) (ckO (cW S) (some (ofT to77 (z.1,z.2.1,z.2.2.1,z.2.2.2.1,z.2.2.2.2.1,z.2.2.2.2.2.1,z.2.2.2.2.2.2.1,z.2.2.2.2.2.2.2.1,z.2.2.2.2.2.2.2.2.1,z.2.2.2.2.2.2.2.2.2.1,z.2.2.2.2.2.2.2.2.2.2.1,z.2.2.2.2.2.2.2.2.2.2.2.1,(pDie S).1,(pDie S).2.1,(pDie S).2.2,())))))))else
 bif decide (i.1=15)then ckO (ixOk 0 (w.2.1.length:Int)) (let O:=(w.2.1.getD 0 (dflt tBlk)).2.2.2.1;ckO (cT w O) (D (pTks w O)))else
 ckO (k86 (wkI y lo w i)) (some (ofT to77 (m86 (wkI y lo w i))))):=by
 subst hz;subst hu;subst hT
 kernel_rfl
end Go.Proofs.Vd

noncomputable section
namespace Go.Proofs.Vd
open Go.Ab Go.Ab.Lf
set_option maxRecDepth 100000
abbrev wkF(y:denT tM)(lo:List Int)(w:W3)(i:den tI)(f:denT tInf):denT tFi:=(y.1,y.2.1,y.2.2.1,y.2.2.2.1,y.2.2.2.2.1,y.2.2.2.2.2.1,y.2.2.2.2.2.2.1,y.2.2.2.2.2.2.2.1,y.2.2.2.2.2.2.2.2.1,y.2.2.2.2.2.2.2.2.2.1,y.2.2.2.2.2.2.2.2.2.2.1,lo,w.1,w.2.1,w.2.2,i.1,i.2.1,i.2.2.1,i.2.2.2.1,i.2.2.2.2.1,i.2.2.2.2.2,f.1,f.2.1,f.2.2.1,f.2.2.2.1,f.2.2.2.2.1,())
theorem eq62g(gt:Bool)(y:denT tM)(hgt:gt=gT y.1)(lo:List Int)(w:W3)(i:den tI)(f:denT tInf)(hf:f=mOf i.1)(z:denT tWk)(hz:z=mFld (wkF y lo w i f))(g:den tSig)(hg:g=mSgS y.1 i.2.1)(c:den tSig)(hc:c=mKindS y.1 (mSigK y.2.1 y.2.2.1 i.2.1))(d:den tSig)(hd:d=mKindS y.1 i.2.1):(t62 (wkI y lo w i)).val=
 (let o:=i.1
 let a:=i.2.1
 let ret:=fun v:W3=>some (ofT to62 (wk y lo v))
 let B2:=fun v:W3=>(
  let u:W3:=(v.1,v.2.1,mSgB y.1 a v.2.2)
  ckO gt<|ckO (cT u g.1) (let S:=pTks u g.1
   ckO (decide (S.2.1.length+1<=549755813888)) (let Q:W3:=(S.1,mOpen S.1 S.2.1 o g.1 g.2,S.2.2)
    ckO (cG Q g.1) (ret (pGiv Q g.1)))))
 let BODY:=bif decide (o=4)then ckO (cW w) (B2 (pTake w 127))else B2 w
 let CL:=ckO (k75 (wkN y lo w o)) (some (ofT to62 (m75 (wkN y lo w o))))
 let I:=fun ok:Bool=>(let v:=pTake (pMst w ok) 127
  ckO (cW w) (ckO (cT v d.1) (let S:=pTks v d.1
   ckO (cG S d.2) (ret (pGiv S d.2)))))
 bif f.2.2.1 then ckO (gFld (wkF y lo w i f)) (let v:W3:=(z.2.2.2.2.2.2.2.2.2.2.2.2.1,z.2.2.2.2.2.2.2.2.2.2.2.2.2.1,z.2.2.2.2.2.2.2.2.2.2.2.2.2.2.1)
  ckO (cT v f.2.2.2.1) (let S:=pTks v f.2.2.2.1
   ckO (cG S f.2.2.2.2.1) (some (ofT to62 (z.1,z.2.1,z.2.2.1,z.2.2.2.1,z.2.2.2.2.1,z.2.2.2.2.2.1,z.2.2.2.2.2.2.1,z.2.2.2.2.2.2.2.1,z.2.2.2.2.2.2.2.2.1,z.2.2.2.2.2.2.2.2.2.1,z.2.2.2.2.2.2.2.2.2.2.1,z.2.2.2.2.2.2.2.2.2.2.2.1,S.1++f.2.2.2.2.1,S.2.1,S.2.2,())))))
 else bif decide (o=2)then BODY else bif decide (o=3)then BODY else bif decide (o=4)then BODY else
 bif decide (o=5)then CL else bif decide (o=11)then CL else
 bif decide (o=26)then ckO (cW w) (ret (pTake w 0))else
 bif decide (o=27)then ckO (cW w) (let v:=pTake w 127
  ckO (cW v) (let t:=(mTake v.1 v.2.1 v.2.2 0).1
   let u:=pTake v 0
   ckO (cW u) (let r:=(mTake u.1 u.2.1 u.2.2 t).1
    let q:=pTake u t
    ckO (cG q [r]) (ret (pGiv q [r])))))else
 bif decide (o=16)then ckO (gt&&(decide (a<9223372036854775808)&&decide (y.2.1.length<=1099511627776))) (
  let v:=pMst w (mKindO y.1 (mSigK y.2.1 y.2.2.1 a))
  ckO (cT v c.1) (let S:=pTks v c.1
   ckO (cG S c.2) (ret (pGiv S c.2))))else
 bif decide (o=17)then ckO gt (bif mKindO y.1 a then(bif decide (0<(y.2.2.2.1.length:Int))then I (decide (i.2.2.1=0))else I false)else I false)else
 ckO (k77 (wkI y lo w i)) (some (ofT to62 (m77 (wkI y lo w i))))):=by
 subst hgt;subst hf;subst hz;subst hg;subst hc;subst hd
 kernel_rfl
theorem eq62(y:denT tM)(hT:gT y.1=true)(lo:List Int)(w:W3)(i:den tI)(f:denT tInf)(hf:f=mOf i.1)(z:denT tWk)(hz:z=mFld (wkF y lo w i f))(g:den tSig)(hg:g=mSgS y.1 i.2.1)(c:den tSig)(hc:c=mKindS y.1 (mSigK y.2.1 y.2.2.1 i.2.1))(d:den tSig)(hd:d=mKindS y.1 i.2.1):(t62 (wkI y lo w i)).val=
 (let o:=i.1
 let a:=i.2.1
 let ret:=fun v:W3=>some (ofT to62 (wk y lo v))
 let B2:=fun v:W3=>(
  let u:W3:=(v.1,v.2.1,mSgB y.1 a v.2.2)
  ckO (cT u g.1) (let S:=pTks u g.1
   ckO (decide (S.2.1.length+1<=549755813888)) (let Q:W3:=(S.1,mOpen S.1 S.2.1 o g.1 g.2,S.2.2)
    ckO (cG Q g.1) (ret (pGiv Q g.1)))))
 let BODY:=bif decide (o=4)then ckO (cW w) (B2 (pTake w 127))else B2 w
 let CL:=ckO (k75 (wkN y lo w o)) (some (ofT to62 (m75 (wkN y lo w o))))
 let I:=fun ok:Bool=>(let v:=pTake (pMst w ok) 127
  ckO (cW w) (ckO (cT v d.1) (let S:=pTks v d.1
   ckO (cG S d.2) (ret (pGiv S d.2)))))
 bif f.2.2.1 then ckO (gFld (wkF y lo w i f)) (let v:W3:=(z.2.2.2.2.2.2.2.2.2.2.2.2.1,z.2.2.2.2.2.2.2.2.2.2.2.2.2.1,z.2.2.2.2.2.2.2.2.2.2.2.2.2.2.1)
  ckO (cT v f.2.2.2.1) (let S:=pTks v f.2.2.2.1
   ckO (cG S f.2.2.2.2.1) (some (ofT to62 (z.1,z.2.1,z.2.2.1,z.2.2.2.1,z.2.2.2.2.1,z.2.2.2.2.2.1,z.2.2.2.2.2.2.1,z.2.2.2.2.2.2.2.1,z.2.2.2.2.2.2.2.2.1,z.2.2.2.2.2.2.2.2.2.1,z.2.2.2.2.2.2.2.2.2.2.1,z.2.2.2.2.2.2.2.2.2.2.2.1,S.1++f.2.2.2.2.1,S.2.1,S.2.2,())))))
 else bif decide (o=2)then BODY else bif decide (o=3)then BODY else bif decide (o=4)then BODY else
 bif decide (o=5)then CL else bif decide (o=11)then CL else
 bif decide (o=26)then ckO (cW w) (ret (pTake w 0))else
 bif decide (o=27)then ckO (cW w) (let v:=pTake w 127
  ckO (cW v) (let t:=(mTake v.1 v.2.1 v.2.2 0).1
   let u:=pTake v 0
   ckO (cW u) (let r:=(mTake u.1 u.2.1 u.2.2 t).1
    let q:=pTake u t
    ckO (cG q [r]) (ret (pGiv q [r])))))else
 bif decide (o=16)then ckO (decide (a<9223372036854775808)&&decide (y.2.1.length<=1099511627776)) (
  let v:=pMst w (mKindO y.1 (mSigK y.2.1 y.2.2.1 a))
  ckO (cT v c.1) (let S:=pTks v c.1
   ckO (cG S c.2) (ret (pGiv S c.2))))else
 bif decide (o=17)then(bif mKindO y.1 a then(bif decide (0<(y.2.2.2.1.length:Int))then I (decide (i.2.2.1=0))else I false)else I false)else
 ckO (k77 (wkI y lo w i)) (some (ofT to62 (m77 (wkI y lo w i))))):=by
 refine Eq.trans (eq62g true y hT.symm lo w i f hf z hz g hg c hc d hd) ?_
 kernel_rfl
end Go.Proofs.Vd

noncomputable section
namespace Go.Proofs.Vd
open Go.Ab Go.Ab.Lf
set_option maxRecDepth 100000
theorem eq590(a c:List (List Int))(sz n i:Int)(q:Int)(hq:q=addW .i64 sz ((c.getD i.toNat (dflt (.sli i64)):List Int).length:Int)):(f590 (ofT ti590 (a,sz,c,n,i,()))).val=
 bif decide (i<n)then ckO (ixOk i (c.length:Int)) (bif decide (q<0)then none else some (Rs.next (ofT ti590 (a,q,c,n,addW .i64 i 1,()))))else some (Rs.out 0 (ofT to590_0 (a,sz,()))):=by
 subst hq
 kernel_rfl
theorem eq592(o:List Int)(c:List (List Int))(n i:Int)(x:List Int)(hx:x=c.getD i.toNat (dflt (.sli i64))):(f592 (ofT ti592 (o,c,n,i,()))).val=
 bif decide (i<n)then ckO (ixOk i (c.length:Int)) (ckO (roomy 8 (o.length+x.length)) (some (Rs.next (ofT ti592 (app o x,c,n,addW .i64 i 1,())))))else some (Rs.out 0 (ofT to592_0 (o,()))):=by
 subst hx
 kernel_rfl
theorem eq59(c:List (List Int))(z:denT to590_0)(hz:z=lo1 f590 ti590 to590_0 (c,0,c,(c.length:Int),0,())):(t59 (c,())).val=
 ckO (lk1 f590 ti590 to590_0 (c,0,c,(c.length:Int),0,())) (
  let fin:=ckO (lk1 f592 ti592 to592_0 ([],z.1,(z.1.length:Int),0,())) (some (ofT to59 (lo1 f592 ti592 to592_0 ([],z.1,(z.1.length:Int),0,()))))
  bif decide (z.2.1<0)then none else bif decide (0<subW .i64 z.2.1 0)then ckO (decide (0<=subW .i64 z.2.1 0)) (ckO (roomy 8 (0+(List.replicate (subW .i64 z.2.1 0).toNat (0:Int)).length)) (ckO (cutOk 0 0 ((app [] (List.replicate (subW .i64 z.2.1 0).toNat (0:Int))).length:Int)) fin))else fin):=by
 subst hz
 kernel_rfl
abbrev wkV(y:denT tM)(lo:List Int)(w:W3)(mk:List (den tMk))(k:Int)(x:den tI)(c:List (den tI))(n1 i1 v n i:Int):denT ti202:=(y.1,y.2.1,y.2.2.1,y.2.2.2.1,y.2.2.2.2.1,y.2.2.2.2.2.1,y.2.2.2.2.2.2.1,y.2.2.2.2.2.2.2.1,y.2.2.2.2.2.2.2.2.1,y.2.2.2.2.2.2.2.2.2.1,y.2.2.2.2.2.2.2.2.2.2.1,lo,w.1,w.2.1,w.2.2,mk,k,x.1,x.2.1,x.2.2.1,x.2.2.2.1,x.2.2.2.2.1,x.2.2.2.2.2,c,n1,i1,v,n,i,())
abbrev wkV0(y:denT tM)(lo:List Int)(w:W3)(mk:List (den tMk))(k:Int)(x:den tI)(c:List (den tI))(n1 i1 v:Int):denT to202_0:=(y.1,y.2.1,y.2.2.1,y.2.2.2.1,y.2.2.2.2.1,y.2.2.2.2.2.1,y.2.2.2.2.2.2.1,y.2.2.2.2.2.2.2.1,y.2.2.2.2.2.2.2.2.1,y.2.2.2.2.2.2.2.2.2.1,y.2.2.2.2.2.2.2.2.2.2.1,lo,w.1,w.2.1,w.2.2,mk,k,x.1,x.2.1,x.2.2.1,x.2.2.2.1,x.2.2.2.2.1,x.2.2.2.2.2,c,n1,i1,v,())
abbrev wkT(y:denT tM)(lo:List Int)(w:W3)(mk:List (den tMk))(c:List (den tI))(n i:Int):denT ti200:=(y.1,y.2.1,y.2.2.1,y.2.2.2.1,y.2.2.2.2.1,y.2.2.2.2.2.1,y.2.2.2.2.2.2.1,y.2.2.2.2.2.2.2.1,y.2.2.2.2.2.2.2.2.1,y.2.2.2.2.2.2.2.2.2.1,y.2.2.2.2.2.2.2.2.2.2.1,lo,w.1,w.2.1,w.2.2,mk,c,n,i,())
theorem eq202(y:denT tM)(lo:List Int)(w:W3)(mk:List (den tMk))(k:Int)(x:den tI)(c:List (den tI))(n1 i1 v n i:Int):(f202 (ofT ti202 (wkV y lo w mk k x c n1 i1 v n i))).val=
 bif decide (i<n)then ckO (ixOk i (w.1.length:Int)) (bif decide (w.1.getD i.toNat (dflt i64)=123)then some (Rs.next (ofT ti202 (wkV y lo w mk k x c n1 i1 (addW .i64 v 1) n (addW .i64 i 1))))else some (Rs.next (ofT ti202 (wkV y lo w mk k x c n1 i1 v n (addW .i64 i 1)))))else some (Rs.out 0 (ofT to202_0 (wkV0 y lo w mk k x c n1 i1 v))):=by kernel_rfl
theorem eq200(y:denT tM)(lo:List Int)(w:W3)(mk:List (den tMk))(c:List (den tI))(n i:Int)(x:den tI)(hx:x=c.getD i.toNat (dflt tI))(B:den tBlk)(hB:B=w.2.1.getD (subW .i64 (w.2.1.length:Int) 1).toNat (dflt tBlk))
 (z:denT to202_0)(hz:z=lo1 f202 ti202 to202_0 (wkV y lo w mk i x c n i 0 (w.1.length:Int) 0))(u:denT to62)(hu:u=m62 (wkI y lo w x))(q:denT ti62)(hq:q=(z.1,z.2.1,z.2.2.1,z.2.2.2.1,z.2.2.2.2.1,z.2.2.2.2.2.1,z.2.2.2.2.2.2.1,z.2.2.2.2.2.2.2.1,z.2.2.2.2.2.2.2.2.1,z.2.2.2.2.2.2.2.2.2.1,z.2.2.2.2.2.2.2.2.2.2.1,z.2.2.2.2.2.2.2.2.2.2.2.1,z.2.2.2.2.2.2.2.2.2.2.2.2.1,z.2.2.2.2.2.2.2.2.2.2.2.2.2.1,z.2.2.2.2.2.2.2.2.2.2.2.2.2.2.1,z.2.2.2.2.2.2.2.2.2.2.2.2.2.2.2.2.2.1,z.2.2.2.2.2.2.2.2.2.2.2.2.2.2.2.2.2.2.1,z.2.2.2.2.2.2.2.2.2.2.2.2.2.2.2.2.2.2.2.1,z.2.2.2.2.2.2.2.2.2.2.2.2.2.2.2.2.2.2.2.2.1,z.2.2.2.2.2.2.2.2.2.2.2.2.2.2.2.2.2.2.2.2.2.1,z.2.2.2.2.2.2.2.2.2.2.2.2.2.2.2.2.2.2.2.2.2.2.1,()))(r:denT to62)(hr:r=m62 q):(f200 (ofT ti200 (wkT y lo w mk c n i))).val=
 bif decide (i<n)then ckO (ixOk i (c.length:Int)) (ckO (ixOk (subW .i64 (w.2.1.length:Int) 1) (w.2.1.length:Int)) (
  bif (bif B.2.2.2.2.2 then !B.2.2.2.2.1 else false)then
   ckO (lk1 f202 ti202 to202_0 (wkV y lo w mk i x c n i 0 (w.1.length:Int) 0)) (ckO (ixOk z.2.2.2.2.2.2.2.2.2.2.2.2.2.2.2.2.1 (z.2.2.2.2.2.2.2.2.2.2.2.2.2.2.2.1.length:Int)) (ckO (k62 q) (
    bif r.2.2.2.2.2.2.2.2.2.2.2.2.2.2.1 then some (Rs.out 1 (ofT to200_1 ([],false,())))else some (Rs.next (ofT ti200 (r.1,r.2.1,r.2.2.1,r.2.2.2.1,r.2.2.2.2.1,r.2.2.2.2.2.1,r.2.2.2.2.2.2.1,r.2.2.2.2.2.2.2.1,r.2.2.2.2.2.2.2.2.1,r.2.2.2.2.2.2.2.2.2.1,r.2.2.2.2.2.2.2.2.2.2.1,r.2.2.2.2.2.2.2.2.2.2.2.1,r.2.2.2.2.2.2.2.2.2.2.2.2.1,r.2.2.2.2.2.2.2.2.2.2.2.2.2.1,r.2.2.2.2.2.2.2.2.2.2.2.2.2.2.1,z.2.2.2.2.2.2.2.2.2.2.2.2.2.2.2.1.set z.2.2.2.2.2.2.2.2.2.2.2.2.2.2.2.2.1.toNat (true,(z.2.2.2.2.2.2.2.2.2.2.2.2.1.length:Int),z.2.2.2.2.2.2.2.2.2.2.2.2.2.2.2.2.2.2.2.2.2.2.2.2.2.2.1),z.2.2.2.2.2.2.2.2.2.2.2.2.2.2.2.2.2.2.2.2.2.2.2.1,z.2.2.2.2.2.2.2.2.2.2.2.2.2.2.2.2.2.2.2.2.2.2.2.2.1,addW .i64 z.2.2.2.2.2.2.2.2.2.2.2.2.2.2.2.2.2.2.2.2.2.2.2.2.2.1 1,()))))))
  else ckO (k62 (wkI y lo w x)) (bif u.2.2.2.2.2.2.2.2.2.2.2.2.2.2.1 then some (Rs.out 1 (ofT to200_1 ([],false,())))else some (Rs.next (ofT ti200 (u.1,u.2.1,u.2.2.1,u.2.2.2.1,u.2.2.2.2.1,u.2.2.2.2.2.1,u.2.2.2.2.2.2.1,u.2.2.2.2.2.2.2.1,u.2.2.2.2.2.2.2.2.1,u.2.2.2.2.2.2.2.2.2.1,u.2.2.2.2.2.2.2.2.2.2.1,u.2.2.2.2.2.2.2.2.2.2.2.1,u.2.2.2.2.2.2.2.2.2.2.2.2.1,u.2.2.2.2.2.2.2.2.2.2.2.2.2.1,u.2.2.2.2.2.2.2.2.2.2.2.2.2.2.1,mk,c,n,addW .i64 i 1,()))))))
 else some (Rs.out 0 (ofT to200_0 (mk,()))):=by
 subst hq;subst hr;subst hu;subst hz;subst hB;subst hx
 kernel_rfl
theorem eq20g(gt:Bool)(y:denT tM)(hgt:gt=gT y.1)(i:Int)(k:Int)(hk:k=addW .i64 (y.2.1.length:Int) i)(s:den tSig)(hs:s=mKindS y.1 (mSigK y.2.1 y.2.2.1 k))(C:den tCod)(hC:C=y.2.2.2.2.2.2.2.2.2.1.getD i.toNat (dflt tCod))(lo:List Int)(hlo:lo=(m59 ([s.1,C.1],())).1)(w:W3)(hw:w=([],mOpen [] [] 2 [] s.2,false))(a:denT ti200)(ha:a=wkT y lo w (List.replicate C.2.length (false,0,0)) C.2 (C.2.length:Int) 0):(t20 (y.1,y.2.1,y.2.2.1,y.2.2.2.1,y.2.2.2.2.1,y.2.2.2.2.2.1,y.2.2.2.2.2.2.1,y.2.2.2.2.2.2.2.1,y.2.2.2.2.2.2.2.2.1,y.2.2.2.2.2.2.2.2.2.1,y.2.2.2.2.2.2.2.2.2.2.1,i,())).val=
 ckO (gt&&(decide (k<9223372036854775808)&&decide (y.2.1.length<=1099511627776))) (ckO (ixOk i (y.2.2.2.2.2.2.2.2.2.1.length:Int)) (ckO (k59 ([s.1,C.1],())) (ckO (decide (y.2.2.2.2.2.2.2.1=y.2.2.2.2.2.2.2.1)) (ckO (decide (([]:List (den tBlk)).length+1<=549755813888)) (ckO (ixOk i (y.2.2.2.2.2.2.2.2.2.1.length:Int)) (
  ckO ((decide (0<=(C.2.length:Int))&&decide ((C.2.length:Int)<=(C.2.length:Int)))&&decide ((C.2.length:Int).toNat*24<=70368744177664)) (ckO (ixOk i (y.2.2.2.2.2.2.2.2.2.1.length:Int)) (
   ckO (lk2 f200 ti200 to200_0 to200_1 a) (bif lb2 f200 ti200 a then some (ofT to20 ((lo1 f200 ti200 to200_0 a).1,true,()))else some (ofT to20 ((lo1 f200 ti200 to200_1 a).1,(lo1 f200 ti200 to200_1 a).2.1,()))))))))))):=by
 subst hgt;subst ha;subst hw;subst hlo;subst hC;subst hs;subst hk
 kernel_rfl
theorem eq20(y:denT tM)(hT:gT y.1=true)(i:Int)(k:Int)(hk:k=addW .i64 (y.2.1.length:Int) i)(s:den tSig)(hs:s=mKindS y.1 (mSigK y.2.1 y.2.2.1 k))(C:den tCod)(hC:C=y.2.2.2.2.2.2.2.2.2.1.getD i.toNat (dflt tCod))(lo:List Int)(hlo:lo=(m59 ([s.1,C.1],())).1)(w:W3)(hw:w=([],mOpen [] [] 2 [] s.2,false))(a:denT ti200)(ha:a=wkT y lo w (List.replicate C.2.length (false,0,0)) C.2 (C.2.length:Int) 0):(t20 (y.1,y.2.1,y.2.2.1,y.2.2.2.1,y.2.2.2.2.1,y.2.2.2.2.2.1,y.2.2.2.2.2.2.1,y.2.2.2.2.2.2.2.1,y.2.2.2.2.2.2.2.2.1,y.2.2.2.2.2.2.2.2.2.1,y.2.2.2.2.2.2.2.2.2.2.1,i,())).val=
 ckO (decide (k<9223372036854775808)&&decide (y.2.1.length<=1099511627776)) (ckO (ixOk i (y.2.2.2.2.2.2.2.2.2.1.length:Int)) (ckO (k59 ([s.1,C.1],())) (ckO (decide (y.2.2.2.2.2.2.2.1=y.2.2.2.2.2.2.2.1)) (ckO (decide (([]:List (den tBlk)).length+1<=549755813888)) (ckO (ixOk i (y.2.2.2.2.2.2.2.2.2.1.length:Int)) (
  ckO ((decide (0<=(C.2.length:Int))&&decide ((C.2.length:Int)<=(C.2.length:Int)))&&decide ((C.2.length:Int).toNat*24<=70368744177664)) (ckO (ixOk i (y.2.2.2.2.2.2.2.2.2.1.length:Int)) (
   ckO (lk2 f200 ti200 to200_0 to200_1 a) (bif lb2 f200 ti200 a then some (ofT to20 ((lo1 f200 ti200 to200_0 a).1,true,()))else some (ofT to20 ((lo1 f200 ti200 to200_1 a).1,(lo1 f200 ti200 to200_1 a).2.1,()))))))))))):=by
 refine Eq.trans (eq20g true y hT.symm i k hk s hs C hC lo hlo w hw a ha) ?_
 kernel_rfl
end Go.Proofs.Vd
