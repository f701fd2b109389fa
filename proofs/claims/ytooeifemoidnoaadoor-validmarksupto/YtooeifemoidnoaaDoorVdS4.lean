import Derived.Test.YtooeifemoidnoaaDoorVdT4
noncomputable section
namespace Go.Proofs.Vd
open Go.Ab Go.Ab.Lf
set_option maxRecDepth 100000
theorem eq582(fn:Int)(y:denT tM)(E:List (den tEle))(n1 i1:Int)(L:List Int)(n i:Int):(f582 (ofT ti582 (fn,y.1,y.2.1,y.2.2.1,y.2.2.2.1,y.2.2.2.2.1,y.2.2.2.2.2.1,y.2.2.2.2.2.2.1,y.2.2.2.2.2.2.2.1,y.2.2.2.2.2.2.2.2.1,y.2.2.2.2.2.2.2.2.2.1,y.2.2.2.2.2.2.2.2.2.2.1,E,n1,i1,L,n,i,()))).val=
 bif decide (i<n)then ckO (ixOk i (L.length:Int)) (bif decide (fn<=L.getD i.toNat (dflt i64))then some (Rs.out 1 (ofT to582_1 (false,())))else some (Rs.next (ofT ti582 (fn,y.1,y.2.1,y.2.2.1,y.2.2.2.1,y.2.2.2.2.1,y.2.2.2.2.2.1,y.2.2.2.2.2.2.1,y.2.2.2.2.2.2.2.1,y.2.2.2.2.2.2.2.2.1,y.2.2.2.2.2.2.2.2.2.1,y.2.2.2.2.2.2.2.2.2.2.1,E,n1,i1,L,n,addW .i64 i 1,()))))else some (Rs.out 0 (ofT to582_0 (fn,y.1,y.2.1,y.2.2.1,y.2.2.2.1,y.2.2.2.2.1,y.2.2.2.2.2.1,y.2.2.2.2.2.2.1,y.2.2.2.2.2.2.2.1,y.2.2.2.2.2.2.2.2.1,y.2.2.2.2.2.2.2.2.2.1,y.2.2.2.2.2.2.2.2.2.2.1,E,n1,i1,()))):=by kernel_rfl
theorem eq580(fn:Int)(y:denT tM)(E:List (den tEle))(n i:Int)(x:den tEle)(hx:x=E.getD i.toNat (dflt tEle))(a:denT ti582)(ha:a=(fn,y.1,y.2.1,y.2.2.1,y.2.2.2.1,y.2.2.2.2.1,y.2.2.2.2.2.1,y.2.2.2.2.2.2.1,y.2.2.2.2.2.2.2.1,y.2.2.2.2.2.2.2.2.1,y.2.2.2.2.2.2.2.2.2.1,y.2.2.2.2.2.2.2.2.2.2.1,E,n,i,x.2,(x.2.length:Int),0,()))(z:denT to582_0)(hz:z=lo1 f582 ti582 to582_0 a):(f580 (ofT ti580 (fn,y.1,y.2.1,y.2.2.1,y.2.2.2.1,y.2.2.2.2.1,y.2.2.2.2.2.1,y.2.2.2.2.2.2.1,y.2.2.2.2.2.2.2.1,y.2.2.2.2.2.2.2.2.1,y.2.2.2.2.2.2.2.2.2.1,y.2.2.2.2.2.2.2.2.2.2.1,E,n,i,()))).val=
 bif decide (i<n)then ckO (ixOk i (E.length:Int)) (let F:=some (Rs.out 1 (ofT to580_1 (false,())))
  bif decide ((y.2.2.2.1.length:Int)=0)then F else bif !mOne x.1 127 then F else
  ckO (lk2 f582 ti582 to582_0 to582_1 a) (bif lb2 f582 ti582 a then some (Rs.next (ofT ti580 (z.1,z.2.1,z.2.2.1,z.2.2.2.1,z.2.2.2.2.1,z.2.2.2.2.2.1,z.2.2.2.2.2.2.1,z.2.2.2.2.2.2.2.1,z.2.2.2.2.2.2.2.2.1,z.2.2.2.2.2.2.2.2.2.1,z.2.2.2.2.2.2.2.2.2.2.1,z.2.2.2.2.2.2.2.2.2.2.2.1,z.2.2.2.2.2.2.2.2.2.2.2.2.1,z.2.2.2.2.2.2.2.2.2.2.2.2.2.1,addW .i64 z.2.2.2.2.2.2.2.2.2.2.2.2.2.2.1 1,())))else some (Rs.out 1 (ofT to580_1 ((lo1 f582 ti582 to582_1 a).1,())))))else some (Rs.out 0 (ofT to580_0 (y.1,y.2.1,y.2.2.1,y.2.2.2.1,y.2.2.2.2.1,y.2.2.2.2.2.1,y.2.2.2.2.2.2.1,y.2.2.2.2.2.2.2.1,y.2.2.2.2.2.2.2.2.1,y.2.2.2.2.2.2.2.2.2.1,y.2.2.2.2.2.2.2.2.2.2.1,()))):=by
 subst hz;subst ha;subst hx
 kernel_rfl
theorem eq584(y:denT tM)(D:List (den tDat))(n i:Int)(x:den tDat)(hx:x=D.getD i.toNat (dflt tDat)):(f584 (ofT ti584 (y.1,y.2.1,y.2.2.1,y.2.2.2.1,y.2.2.2.2.1,y.2.2.2.2.2.1,y.2.2.2.2.2.2.1,y.2.2.2.2.2.2.2.1,y.2.2.2.2.2.2.2.2.1,y.2.2.2.2.2.2.2.2.2.1,y.2.2.2.2.2.2.2.2.2.2.1,D,n,i,()))).val=
 bif decide (i<n)then ckO (ixOk i (D.length:Int)) (let F:=some (Rs.out 1 (ofT to584_1 (false,())))
  bif decide ((y.2.2.2.2.1.length:Int)=0)then F else bif !mOne x.1 127 then F else some (Rs.next (ofT ti584 (y.1,y.2.1,y.2.2.1,y.2.2.2.1,y.2.2.2.2.1,y.2.2.2.2.2.1,y.2.2.2.2.2.2.1,y.2.2.2.2.2.2.2.1,y.2.2.2.2.2.2.2.2.1,y.2.2.2.2.2.2.2.2.2.1,y.2.2.2.2.2.2.2.2.2.2.1,D,n,addW .i64 i 1,()))))else some (Rs.out 0 (ofT to584_0 ())):=by
 subst hx
 kernel_rfl
theorem eq58(y:denT tM)(fn:Int)(a:denT ti580)(ha:a=(fn,y.1,y.2.1,y.2.2.1,y.2.2.2.1,y.2.2.2.2.1,y.2.2.2.2.2.1,y.2.2.2.2.2.2.1,y.2.2.2.2.2.2.2.1,y.2.2.2.2.2.2.2.2.1,y.2.2.2.2.2.2.2.2.2.1,y.2.2.2.2.2.2.2.2.2.2.1,y.2.2.2.2.2.2.2.2.1,(y.2.2.2.2.2.2.2.2.1.length:Int),0,()))(z:denT to580_0)(hz:z=lo1 f580 ti580 to580_0 a)(b:denT ti584)(hb:b=(z.1,z.2.1,z.2.2.1,z.2.2.2.1,z.2.2.2.2.1,z.2.2.2.2.2.1,z.2.2.2.2.2.2.1,z.2.2.2.2.2.2.2.1,z.2.2.2.2.2.2.2.2.1,z.2.2.2.2.2.2.2.2.2.1,z.2.2.2.2.2.2.2.2.2.2.1,z.2.2.2.2.2.2.2.2.2.2.1,(z.2.2.2.2.2.2.2.2.2.2.1.length:Int),0,())):(t58 (y.1,y.2.1,y.2.2.1,y.2.2.2.1,y.2.2.2.2.1,y.2.2.2.2.2.1,y.2.2.2.2.2.2.1,y.2.2.2.2.2.2.2.1,y.2.2.2.2.2.2.2.2.1,y.2.2.2.2.2.2.2.2.2.1,y.2.2.2.2.2.2.2.2.2.2.1,fn,())).val=
 ckO (lk2 f580 ti580 to580_0 to580_1 a) (bif lb2 f580 ti580 a then ckO (lk2 f584 ti584 to584_0 to584_1 b) (bif lb2 f584 ti584 b then some (ofT to58 (true,()))else some (ofT to58 ((lo1 f584 ti584 to584_1 b).1,())))else some (ofT to58 ((lo1 f580 ti580 to580_1 a).1,()))):=by
 subst hb;subst hz;subst ha
 kernel_rfl
theorem eq550(a c:List (List (den tLim)))(sz n i:Int)(q:Int)(hq:q=addW .i64 sz ((c.getD i.toNat (dflt (.sli tLim)):List (den tLim)).length:Int)):(f550 (ofT ti550 (a,sz,c,n,i,()))).val=
 bif decide (i<n)then ckO (ixOk i (c.length:Int)) (bif decide (q<0)then none else some (Rs.next (ofT ti550 (a,q,c,n,addW .i64 i 1,()))))else some (Rs.out 0 (ofT to550_0 (a,sz,()))):=by
 subst hq
 kernel_rfl
theorem eq552(o:List (den tLim))(c:List (List (den tLim)))(n i:Int)(x:List (den tLim))(hx:x=c.getD i.toNat (dflt (.sli tLim))):(f552 (ofT ti552 (o,c,n,i,()))).val=
 bif decide (i<n)then ckO (ixOk i (c.length:Int)) (ckO (roomy 16 (o.length+x.length)) (some (Rs.next (ofT ti552 (app o x,c,n,addW .i64 i 1,())))))else some (Rs.out 0 (ofT to552_0 (o,()))):=by
 subst hx
 kernel_rfl
theorem eq55(c:List (List (den tLim)))(z:denT to550_0)(hz:z=lo1 f550 ti550 to550_0 (c,0,c,(c.length:Int),0,())):(t55 (c,())).val=
 ckO (lk1 f550 ti550 to550_0 (c,0,c,(c.length:Int),0,())) (
  let fin:=ckO (lk1 f552 ti552 to552_0 ([],z.1,(z.1.length:Int),0,())) (some (ofT to55 (lo1 f552 ti552 to552_0 ([],z.1,(z.1.length:Int),0,()))))
  bif decide (z.2.1<0)then none else bif decide (0<subW .i64 z.2.1 0)then ckO (decide (0<=subW .i64 z.2.1 0)) (ckO (roomy 16 (0+(List.replicate (subW .i64 z.2.1 0).toNat ((0,0):den tLim)).length)) (ckO (cutOk 0 0 ((app [] (List.replicate (subW .i64 z.2.1 0).toNat ((0,0):den tLim))).length:Int)) fin))else fin):=by
 subst hz
 kernel_rfl
theorem eq190g(gt:Bool)(fn:Int)(y:denT tM)(hgt:gt=gT y.1)(n i:Int):(f190 (ofT ti190 (fn,y.1,y.2.1,y.2.2.1,y.2.2.2.1,y.2.2.2.2.1,y.2.2.2.2.2.1,y.2.2.2.2.2.2.1,y.2.2.2.2.2.2.2.1,y.2.2.2.2.2.2.2.2.1,y.2.2.2.2.2.2.2.2.2.1,y.2.2.2.2.2.2.2.2.2.2.1,n,i,()))).val=
 bif decide (i<n)then ckO (gt&&(decide (i<9223372036854775808)&&decide (y.2.1.length<=1099511627776))) (bif !mKindO y.1 (mSigK y.2.1 y.2.2.1 i)then some (Rs.out 1 (ofT to190_1 (false,())))else some (Rs.next (ofT ti190 (fn,y.1,y.2.1,y.2.2.1,y.2.2.2.1,y.2.2.2.2.1,y.2.2.2.2.2.1,y.2.2.2.2.2.2.1,y.2.2.2.2.2.2.2.1,y.2.2.2.2.2.2.2.2.1,y.2.2.2.2.2.2.2.2.2.1,y.2.2.2.2.2.2.2.2.2.2.1,n,addW .i64 i 1,()))))else some (Rs.out 0 (ofT to190_0 (fn,y.1,y.2.1,y.2.2.1,y.2.2.2.1,y.2.2.2.2.1,y.2.2.2.2.2.1,y.2.2.2.2.2.2.1,y.2.2.2.2.2.2.2.1,y.2.2.2.2.2.2.2.2.1,y.2.2.2.2.2.2.2.2.2.1,y.2.2.2.2.2.2.2.2.2.2.1,()))):=by
 subst hgt
 kernel_rfl
theorem eq190(fn:Int)(y:denT tM)(hT:gT y.1=true)(n i:Int):(f190 (ofT ti190 (fn,y.1,y.2.1,y.2.2.1,y.2.2.2.1,y.2.2.2.2.1,y.2.2.2.2.2.1,y.2.2.2.2.2.2.1,y.2.2.2.2.2.2.2.1,y.2.2.2.2.2.2.2.2.1,y.2.2.2.2.2.2.2.2.2.1,y.2.2.2.2.2.2.2.2.2.2.1,n,i,()))).val=
 bif decide (i<n)then ckO (decide (i<9223372036854775808)&&decide (y.2.1.length<=1099511627776)) (bif !mKindO y.1 (mSigK y.2.1 y.2.2.1 i)then some (Rs.out 1 (ofT to190_1 (false,())))else some (Rs.next (ofT ti190 (fn,y.1,y.2.1,y.2.2.1,y.2.2.2.1,y.2.2.2.2.1,y.2.2.2.2.2.1,y.2.2.2.2.2.2.1,y.2.2.2.2.2.2.2.1,y.2.2.2.2.2.2.2.2.1,y.2.2.2.2.2.2.2.2.2.1,y.2.2.2.2.2.2.2.2.2.2.1,n,addW .i64 i 1,()))))else some (Rs.out 0 (ofT to190_0 (fn,y.1,y.2.1,y.2.2.1,y.2.2.2.1,y.2.2.2.2.1,y.2.2.2.2.2.1,y.2.2.2.2.2.2.1,y.2.2.2.2.2.2.2.1,y.2.2.2.2.2.2.2.2.1,y.2.2.2.2.2.2.2.2.2.1,y.2.2.2.2.2.2.2.2.2.2.1,()))):=by
 refine Eq.trans (eq190g true fn y hT.symm n i) ?_
 kernel_rfl
theorem eq192(fn:Int)(y:denT tM)(L:List (den tLim))(n i:Int)(x:den tLim)(hx:x=L.getD i.toNat (dflt tLim)):(f192 (ofT ti192 (fn,y.1,y.2.1,y.2.2.1,y.2.2.2.1,y.2.2.2.2.1,y.2.2.2.2.2.1,y.2.2.2.2.2.2.1,y.2.2.2.2.2.2.2.1,y.2.2.2.2.2.2.2.2.1,y.2.2.2.2.2.2.2.2.2.1,y.2.2.2.2.2.2.2.2.2.2.1,L,n,i,()))).val=
 bif decide (i<n)then ckO (ixOk i (L.length:Int)) (bif (bif !decide (x.2= -1)then decide (x.2<x.1)else false)then some (Rs.out 1 (ofT to192_1 (false,())))else some (Rs.next (ofT ti192 (fn,y.1,y.2.1,y.2.2.1,y.2.2.2.1,y.2.2.2.2.1,y.2.2.2.2.2.1,y.2.2.2.2.2.2.1,y.2.2.2.2.2.2.2.1,y.2.2.2.2.2.2.2.2.1,y.2.2.2.2.2.2.2.2.2.1,y.2.2.2.2.2.2.2.2.2.2.1,L,n,addW .i64 i 1,()))))else some (Rs.out 0 (ofT to192_0 (fn,y.1,y.2.1,y.2.2.1,y.2.2.2.1,y.2.2.2.2.1,y.2.2.2.2.2.1,y.2.2.2.2.2.2.1,y.2.2.2.2.2.2.2.1,y.2.2.2.2.2.2.2.2.1,y.2.2.2.2.2.2.2.2.2.1,y.2.2.2.2.2.2.2.2.2.2.1,()))):=by
 subst hx
 kernel_rfl
theorem eq194(fn:Int)(y:denT tM)(L:List (den tGlo))(n i:Int)(x:den tGlo)(hx:x=L.getD i.toNat (dflt tGlo)):(f194 (ofT ti194 (fn,y.1,y.2.1,y.2.2.1,y.2.2.2.1,y.2.2.2.2.1,y.2.2.2.2.2.1,y.2.2.2.2.2.2.1,y.2.2.2.2.2.2.2.1,y.2.2.2.2.2.2.2.2.1,y.2.2.2.2.2.2.2.2.2.1,y.2.2.2.2.2.2.2.2.2.2.1,L,n,i,()))).val=
 bif decide (i<n)then ckO (ixOk i (L.length:Int)) (bif !mOne x.2.2 x.1 then some (Rs.out 1 (ofT to194_1 (false,())))else some (Rs.next (ofT ti194 (fn,y.1,y.2.1,y.2.2.1,y.2.2.2.1,y.2.2.2.2.1,y.2.2.2.2.2.1,y.2.2.2.2.2.2.1,y.2.2.2.2.2.2.2.1,y.2.2.2.2.2.2.2.2.1,y.2.2.2.2.2.2.2.2.2.1,y.2.2.2.2.2.2.2.2.2.2.1,L,n,addW .i64 i 1,()))))else some (Rs.out 0 (ofT to194_0 (fn,y.1,y.2.1,y.2.2.1,y.2.2.2.1,y.2.2.2.2.1,y.2.2.2.2.2.1,y.2.2.2.2.2.2.1,y.2.2.2.2.2.2.2.1,y.2.2.2.2.2.2.2.2.1,y.2.2.2.2.2.2.2.2.2.1,y.2.2.2.2.2.2.2.2.2.2.1,()))):=by
 subst hx
 kernel_rfl
end Go.Proofs.Vd

noncomputable section
namespace Go.Proofs.Vd
open Go.Ab Go.Ab.Lf
set_option maxRecDepth 100000
theorem eq19(y:denT tM)(fn:Int)(hf:addW .i64 (y.2.1.length:Int) (y.2.2.1.length:Int)=fn)(a:denT ti190)(ha:a=(fn,y.1,y.2.1,y.2.2.1,y.2.2.2.1,y.2.2.2.2.1,y.2.2.2.2.2.1,y.2.2.2.2.2.2.1,y.2.2.2.2.2.2.2.1,y.2.2.2.2.2.2.2.2.1,y.2.2.2.2.2.2.2.2.2.1,y.2.2.2.2.2.2.2.2.2.2.1,fn,0,()))(z:denT to190_0)(hz:z=lo1 f190 ti190 to190_0 a)
 (L:List (den tLim))(hL:L=(m55 ([z.2.2.2.2.1,z.2.2.2.2.2.1],())).1)(b:denT ti192)(hb:b=(z.1,z.2.1,z.2.2.1,z.2.2.2.1,z.2.2.2.2.1,z.2.2.2.2.2.1,z.2.2.2.2.2.2.1,z.2.2.2.2.2.2.2.1,z.2.2.2.2.2.2.2.2.1,z.2.2.2.2.2.2.2.2.2.1,z.2.2.2.2.2.2.2.2.2.2.1,z.2.2.2.2.2.2.2.2.2.2.2.1,L,(L.length:Int),0,()))(u:denT to192_0)(hu:u=lo1 f192 ti192 to192_0 b)
 (c:denT ti194)(hc:c=(u.1,u.2.1,u.2.2.1,u.2.2.2.1,u.2.2.2.2.1,u.2.2.2.2.2.1,u.2.2.2.2.2.2.1,u.2.2.2.2.2.2.2.1,u.2.2.2.2.2.2.2.2.1,u.2.2.2.2.2.2.2.2.2.1,u.2.2.2.2.2.2.2.2.2.2.1,u.2.2.2.2.2.2.2.2.2.2.2.1,u.2.2.2.2.2.2.1,(u.2.2.2.2.2.2.1.length:Int),0,()))(v:denT to194_0)(hv:v=lo1 f194 ti194 to194_0 c):(t19 (y.1,y.2.1,y.2.2.1,y.2.2.2.1,y.2.2.2.2.1,y.2.2.2.2.2.1,y.2.2.2.2.2.2.1,y.2.2.2.2.2.2.2.1,y.2.2.2.2.2.2.2.2.1,y.2.2.2.2.2.2.2.2.2.1,y.2.2.2.2.2.2.2.2.2.2.1,())).val=
 ckO (lk2 f190 ti190 to190_0 to190_1 a) (bif lb2 f190 ti190 a then(
  bif (bif decide (1<(z.2.2.2.2.1.length:Int))then true else decide (1<(z.2.2.2.2.2.1.length:Int)))then some (ofT to19 (false,()))else
  ckO (k55 ([z.2.2.2.2.1,z.2.2.2.2.2.1],())) (ckO (lk2 f192 ti192 to192_0 to192_1 b) (bif lb2 f192 ti192 b then(
   ckO (bif decide ((u.2.2.2.2.2.1.length:Int)=1)then ixOk 0 (u.2.2.2.2.2.1.length:Int)else true) (bif (bif decide ((u.2.2.2.2.2.1.length:Int)=1)then decide (65536<(u.2.2.2.2.2.1.getD 0 (dflt tLim)).2)else false)then some (ofT to19 (false,()))else
   ckO (lk2 f194 ti194 to194_0 to194_1 c) (bif lb2 f194 ti194 c then(
    ckO (okNm (v.2.1,v.2.2.1,v.2.2.2.1,v.2.2.2.2.1,v.2.2.2.2.2.1,v.2.2.2.2.2.2.1,v.2.2.2.2.2.2.2.1,v.2.2.2.2.2.2.2.2.1,v.2.2.2.2.2.2.2.2.2.1,v.2.2.2.2.2.2.2.2.2.2.1,v.2.2.2.2.2.2.2.2.2.2.2.1,v.1,())) (bif mNm (v.2.1,v.2.2.1,v.2.2.2.1,v.2.2.2.2.1,v.2.2.2.2.2.1,v.2.2.2.2.2.2.1,v.2.2.2.2.2.2.2.1,v.2.2.2.2.2.2.2.2.1,v.2.2.2.2.2.2.2.2.2.1,v.2.2.2.2.2.2.2.2.2.2.1,v.2.2.2.2.2.2.2.2.2.2.2.1,v.1,())then ckO (k58 (v.2.1,v.2.2.1,v.2.2.2.1,v.2.2.2.2.1,v.2.2.2.2.2.1,v.2.2.2.2.2.2.1,v.2.2.2.2.2.2.2.1,v.2.2.2.2.2.2.2.2.1,v.2.2.2.2.2.2.2.2.2.1,v.2.2.2.2.2.2.2.2.2.2.1,v.2.2.2.2.2.2.2.2.2.2.2.1,v.1,())) (some (ofT to19 ((m58 (v.2.1,v.2.2.1,v.2.2.2.1,v.2.2.2.2.1,v.2.2.2.2.2.1,v.2.2.2.2.2.2.1,v.2.2.2.2.2.2.2.1,v.2.2.2.2.2.2.2.2.1,v.2.2.2.2.2.2.2.2.2.1,v.2.2.2.2.2.2.2.2.2.2.1,v.2.2.2.2.2.2.2.2.2.2.2.1,v.1,())).1,())))else some (ofT to19 (false,()))))
   else some (ofT to19 ((lo1 f194 ti194 to194_1 c).1,())))))
  else some (ofT to19 ((lo1 f192 ti192 to192_1 b).1,())))))
 else some (ofT to19 ((lo1 f190 ti190 to190_1 a).1,()))):=by
 subst hv;subst hc;subst hu;subst hb;subst hL;subst hz;subst ha;subst hf
 kernel_rfl
theorem eq8x(y:denT tM)(n i:Int):(f8x (ofT ti8x (y.1,y.2.1,y.2.2.1,y.2.2.2.1,y.2.2.2.2.1,y.2.2.2.2.2.1,y.2.2.2.2.2.2.1,y.2.2.2.2.2.2.2.1,y.2.2.2.2.2.2.2.2.1,y.2.2.2.2.2.2.2.2.2.1,y.2.2.2.2.2.2.2.2.2.2.1,n,i,()))).val=
 bif decide (i<n)then ckO (k20 (y.1,y.2.1,y.2.2.1,y.2.2.2.1,y.2.2.2.2.1,y.2.2.2.2.2.1,y.2.2.2.2.2.2.1,y.2.2.2.2.2.2.2.1,y.2.2.2.2.2.2.2.2.1,y.2.2.2.2.2.2.2.2.2.1,y.2.2.2.2.2.2.2.2.2.2.1,i,())) (bif !(m20 (y.1,y.2.1,y.2.2.1,y.2.2.2.1,y.2.2.2.2.1,y.2.2.2.2.2.1,y.2.2.2.2.2.2.1,y.2.2.2.2.2.2.2.1,y.2.2.2.2.2.2.2.2.1,y.2.2.2.2.2.2.2.2.2.1,y.2.2.2.2.2.2.2.2.2.2.1,i,())).2.1 then some (Rs.out 1 (ofT to8x_1 (12,())))else some (Rs.next (ofT ti8x (y.1,y.2.1,y.2.2.1,y.2.2.2.1,y.2.2.2.2.1,y.2.2.2.2.2.1,y.2.2.2.2.2.2.1,y.2.2.2.2.2.2.2.1,y.2.2.2.2.2.2.2.2.1,y.2.2.2.2.2.2.2.2.2.1,y.2.2.2.2.2.2.2.2.2.2.1,n,addW .i64 i 1,()))))else some (Rs.out 0 (ofT to8x_0 ())):=by kernel_rfl
theorem eq8(V:ByteArray->Bool)(y:denT tM):(t8 V (y.1,y.2.1,y.2.2.1,y.2.2.2.1,y.2.2.2.2.1,y.2.2.2.2.2.1,y.2.2.2.2.2.2.1,y.2.2.2.2.2.2.2.1,y.2.2.2.2.2.2.2.2.1,y.2.2.2.2.2.2.2.2.2.1,y.2.2.2.2.2.2.2.2.2.2.1,())).val=
 ckO (okE V (y.1,y.2.1,y.2.2.1,y.2.2.2.1,y.2.2.2.2.1,y.2.2.2.2.2.1,y.2.2.2.2.2.2.1,y.2.2.2.2.2.2.2.1,y.2.2.2.2.2.2.2.2.1,y.2.2.2.2.2.2.2.2.2.1,y.2.2.2.2.2.2.2.2.2.2.1,())) (bif !decide (mEncE V (y.1,y.2.1,y.2.2.1,y.2.2.2.1,y.2.2.2.2.1,y.2.2.2.2.2.1,y.2.2.2.2.2.2.1,y.2.2.2.2.2.2.2.1,y.2.2.2.2.2.2.2.2.1,y.2.2.2.2.2.2.2.2.2.1,y.2.2.2.2.2.2.2.2.2.2.1,())=0)then some (ofT to8 (mEncE V (y.1,y.2.1,y.2.2.1,y.2.2.2.1,y.2.2.2.2.1,y.2.2.2.2.2.1,y.2.2.2.2.2.2.1,y.2.2.2.2.2.2.2.1,y.2.2.2.2.2.2.2.2.1,y.2.2.2.2.2.2.2.2.2.1,y.2.2.2.2.2.2.2.2.2.2.1,()),()))else ckO (k19 (y.1,y.2.1,y.2.2.1,y.2.2.2.1,y.2.2.2.2.1,y.2.2.2.2.2.1,y.2.2.2.2.2.2.1,y.2.2.2.2.2.2.2.1,y.2.2.2.2.2.2.2.2.1,y.2.2.2.2.2.2.2.2.2.1,y.2.2.2.2.2.2.2.2.2.2.1,())) (bif !(m19 (y.1,y.2.1,y.2.2.1,y.2.2.2.1,y.2.2.2.2.1,y.2.2.2.2.2.1,y.2.2.2.2.2.2.1,y.2.2.2.2.2.2.2.1,y.2.2.2.2.2.2.2.2.1,y.2.2.2.2.2.2.2.2.2.1,y.2.2.2.2.2.2.2.2.2.2.1,())).1 then some (ofT to8 (12,()))else
  ckO (lk2 f8x ti8x to8x_0 to8x_1 (y.1,y.2.1,y.2.2.1,y.2.2.2.1,y.2.2.2.2.1,y.2.2.2.2.2.1,y.2.2.2.2.2.2.1,y.2.2.2.2.2.2.2.1,y.2.2.2.2.2.2.2.2.1,y.2.2.2.2.2.2.2.2.2.1,y.2.2.2.2.2.2.2.2.2.2.1,(y.2.2.2.2.2.2.2.2.2.1.length:Int),0,())) (bif lb2 f8x ti8x (y.1,y.2.1,y.2.2.1,y.2.2.2.1,y.2.2.2.2.1,y.2.2.2.2.2.1,y.2.2.2.2.2.2.1,y.2.2.2.2.2.2.2.1,y.2.2.2.2.2.2.2.2.1,y.2.2.2.2.2.2.2.2.2.1,y.2.2.2.2.2.2.2.2.2.2.1,(y.2.2.2.2.2.2.2.2.2.1.length:Int),0,())then some (ofT to8 (0,()))else some (ofT to8 ((lo1 f8x ti8x to8x_1 (y.1,y.2.1,y.2.2.1,y.2.2.2.1,y.2.2.2.2.1,y.2.2.2.2.2.1,y.2.2.2.2.2.2.1,y.2.2.2.2.2.2.2.1,y.2.2.2.2.2.2.2.2.1,y.2.2.2.2.2.2.2.2.2.1,y.2.2.2.2.2.2.2.2.2.2.1,(y.2.2.2.2.2.2.2.2.2.1.length:Int),0,())).1,()))))):=by kernel_rfl
theorem eq9(V:ByteArray->Bool)(y:denT tM)(f:Int)(e:Int)(he:e=(m8 V (y.1,y.2.1,y.2.2.1,y.2.2.2.1,y.2.2.2.2.1,y.2.2.2.2.2.1,y.2.2.2.2.2.2.1,y.2.2.2.2.2.2.2.1,y.2.2.2.2.2.2.2.2.1,y.2.2.2.2.2.2.2.2.2.1,y.2.2.2.2.2.2.2.2.2.2.1,())).1):(t9 V (y.1,y.2.1,y.2.2.1,y.2.2.2.1,y.2.2.2.2.1,y.2.2.2.2.2.1,y.2.2.2.2.2.2.1,y.2.2.2.2.2.2.2.1,y.2.2.2.2.2.2.2.2.1,y.2.2.2.2.2.2.2.2.2.1,y.2.2.2.2.2.2.2.2.2.2.1,f,())).val=
 ckO (k8 V (y.1,y.2.1,y.2.2.1,y.2.2.2.1,y.2.2.2.2.1,y.2.2.2.2.2.1,y.2.2.2.2.2.2.1,y.2.2.2.2.2.2.2.1,y.2.2.2.2.2.2.2.2.1,y.2.2.2.2.2.2.2.2.2.1,y.2.2.2.2.2.2.2.2.2.2.1,())) (bif (bif decide (e=1)then true else bif decide (f<0)then true else decide ((y.2.2.2.2.2.2.2.2.2.1.length:Int)<=f))then some (ofT to9 ([],1,()))else bif !decide (e=0)then some (ofT to9 ([],e,()))else
  ckO (k20 (y.1,y.2.1,y.2.2.1,y.2.2.2.1,y.2.2.2.2.1,y.2.2.2.2.2.1,y.2.2.2.2.2.2.1,y.2.2.2.2.2.2.2.1,y.2.2.2.2.2.2.2.2.1,y.2.2.2.2.2.2.2.2.2.1,y.2.2.2.2.2.2.2.2.2.2.1,f,())) (some (ofT to9 ((m20 (y.1,y.2.1,y.2.2.1,y.2.2.2.1,y.2.2.2.2.1,y.2.2.2.2.2.1,y.2.2.2.2.2.2.1,y.2.2.2.2.2.2.2.1,y.2.2.2.2.2.2.2.2.1,y.2.2.2.2.2.2.2.2.2.1,y.2.2.2.2.2.2.2.2.2.2.1,f,())).1,0,())))):=by
 subst he
 kernel_rfl
end Go.Proofs.Vd
