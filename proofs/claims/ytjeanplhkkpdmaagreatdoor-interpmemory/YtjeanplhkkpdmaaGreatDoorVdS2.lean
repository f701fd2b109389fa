import Derived.Test.YtjeanplhkkpdmaaGreatDoorVdV4
noncomputable section
namespace Go.Proofs.Vd
open Go.Ab Go.Ab.Lf
set_option maxRecDepth 100000
abbrev ZN(y:cb tM)(lo:List Int)(w:W3)(i:den tI)(f:cb oN):cb tFi:=(y.1,y.2.1,y.2.2.1,y.2.2.2.1,y.2.2.2.2.1,y.2.2.2.2.2.1,y.2.2.2.2.2.2.1,y.2.2.2.2.2.2.2.1,y.2.2.2.2.2.2.2.2.1,y.2.2.2.2.2.2.2.2.2.1,y.2.2.2.2.2.2.2.2.2.2.1,lo,w.1,w.2.1,w.2.2,i.1,i.2.1,i.2.2.1,i.2.2.2.1,i.2.2.2.2.1,i.2.2.2.2.2,f.1,f.2.1,f.2.2.1,f.2.2.2.1,f.2.2.2.2.1,())
theorem ais(gt:Bool)(y:cb tM)(hgt:gt=gT y.1)(lo:List Int)(w:W3)(i:den tI)(f:cb oN)(hf:f=kM i.1)(z:cb zu)(hz:z=WQ (ZN y lo w i f))(g:den cF)(hg:g=kg y.1 i.2.1)(c:den cF)(hc:c=iB y.1 (jj y.2.1 y.2.2.1 i.2.1))(d:den cF)(hd:d=iB y.1 i.2.1):(t62 (sF y lo w i)).val=
 (let o:=i.1
 let a:=i.2.1
 let ret:=fun v:W3=>some (cp ph (wk y lo v))
 let B2:=fun v:W3=>(
  let u:W3:=(v.1,v.2.1,oB y.1 a v.2.2)
  cz gt<|cz (cT u g.1) (let S:=j7 u g.1
   cz (decide (S.2.1.length+1<=549755813888)) (let Q:W3:=(S.1,jR S.1 S.2.1 o g.1 g.2,S.2.2)
    cz (cG Q g.1) (ret (pz Q g.1)))))
 let Bf:=bif decide (o=4)then cz (cW w) (B2 (iz w 127))else B2 w
 let CL:=cz (k75 (TL y lo w o)) (some (cp ph (m75 (TL y lo w o))))
 let I:=fun ok:Bool=>(let v:=iz (kh w ok) 127
  cz (cW w) (cz (cT v d.1) (let S:=j7 v d.1
   cz (cG S d.2) (ret (pz S d.2)))))
 bif f.2.2.1 then cz (WR (ZN y lo w i f)) (let v:W3:=(z.2.2.2.2.2.2.2.2.2.2.2.2.1,z.2.2.2.2.2.2.2.2.2.2.2.2.2.1,z.2.2.2.2.2.2.2.2.2.2.2.2.2.2.1)
  cz (cT v f.2.2.2.1) (let S:=j7 v f.2.2.2.1
   cz (cG S f.2.2.2.2.1) (some (cp ph (z.1,z.2.1,z.2.2.1,z.2.2.2.1,z.2.2.2.2.1,z.2.2.2.2.2.1,z.2.2.2.2.2.2.1,z.2.2.2.2.2.2.2.1,z.2.2.2.2.2.2.2.2.1,z.2.2.2.2.2.2.2.2.2.1,z.2.2.2.2.2.2.2.2.2.2.1,z.2.2.2.2.2.2.2.2.2.2.2.1,S.1++f.2.2.2.2.1,S.2.1,S.2.2,())))))
 else bif decide (o=2)then Bf else bif decide (o=3)then Bf else bif decide (o=4)then Bf else
 bif decide (o=5)then CL else bif decide (o=11)then CL else
 bif decide (o=26)then cz (cW w) (ret (iz w 0))else
 bif decide (o=27)then cz (cW w) (let v:=iz w 127
  cz (cW v) (let t:=(jQ v.1 v.2.1 v.2.2 0).1
   let u:=iz v 0
   cz (cW u) (let r:=(jQ u.1 u.2.1 u.2.2 t).1
    let q:=iz u t
    cz (cG q [r]) (ret (pz q [r])))))else
 bif decide (o=16)then cz (gt&&(decide (a<9223372036854775808)&&decide (y.2.1.length<=1099511627776))) (
  let v:=kh w (jh y.1 (jj y.2.1 y.2.2.1 a))
  cz (cT v c.1) (let S:=j7 v c.1
   cz (cG S c.2) (ret (pz S c.2))))else
 bif decide (o=17)then cz gt (bif jh y.1 a then(bif decide (0<(y.2.2.2.1.length:Int))then I (decide (i.2.2.1=0))else I false)else I false)else
 cz (k77 (sF y lo w i)) (some (cp ph (m77 (sF y lo w i))))):=by
 subst hgt;subst hf;subst hz;subst hg;subst hc;subst hd
 kernel_rfl
theorem anT(y:cb tM)(hT:gT y.1=true)(lo:List Int)(w:W3)(i:den tI)(f:cb oN)(hf:f=kM i.1)(z:cb zu)(hz:z=WQ (ZN y lo w i f))(g:den cF)(hg:g=kg y.1 i.2.1)(c:den cF)(hc:c=iB y.1 (jj y.2.1 y.2.2.1 i.2.1))(d:den cF)(hd:d=iB y.1 i.2.1):(t62 (sF y lo w i)).val=
 (let o:=i.1
 let a:=i.2.1
 let ret:=fun v:W3=>some (cp ph (wk y lo v))
 let B2:=fun v:W3=>(
  let u:W3:=(v.1,v.2.1,oB y.1 a v.2.2)
  cz (cT u g.1) (let S:=j7 u g.1
   cz (decide (S.2.1.length+1<=549755813888)) (let Q:W3:=(S.1,jR S.1 S.2.1 o g.1 g.2,S.2.2)
    cz (cG Q g.1) (ret (pz Q g.1)))))
 let Bf:=bif decide (o=4)then cz (cW w) (B2 (iz w 127))else B2 w
 let CL:=cz (k75 (TL y lo w o)) (some (cp ph (m75 (TL y lo w o))))
 let I:=fun ok:Bool=>(let v:=iz (kh w ok) 127
  cz (cW w) (cz (cT v d.1) (let S:=j7 v d.1
   cz (cG S d.2) (ret (pz S d.2)))))
 bif f.2.2.1 then cz (WR (ZN y lo w i f)) (let v:W3:=(z.2.2.2.2.2.2.2.2.2.2.2.2.1,z.2.2.2.2.2.2.2.2.2.2.2.2.2.1,z.2.2.2.2.2.2.2.2.2.2.2.2.2.2.1)
  cz (cT v f.2.2.2.1) (let S:=j7 v f.2.2.2.1
   cz (cG S f.2.2.2.2.1) (some (cp ph (z.1,z.2.1,z.2.2.1,z.2.2.2.1,z.2.2.2.2.1,z.2.2.2.2.2.1,z.2.2.2.2.2.2.1,z.2.2.2.2.2.2.2.1,z.2.2.2.2.2.2.2.2.1,z.2.2.2.2.2.2.2.2.2.1,z.2.2.2.2.2.2.2.2.2.2.1,z.2.2.2.2.2.2.2.2.2.2.2.1,S.1++f.2.2.2.2.1,S.2.1,S.2.2,())))))
 else bif decide (o=2)then Bf else bif decide (o=3)then Bf else bif decide (o=4)then Bf else
 bif decide (o=5)then CL else bif decide (o=11)then CL else
 bif decide (o=26)then cz (cW w) (ret (iz w 0))else
 bif decide (o=27)then cz (cW w) (let v:=iz w 127
  cz (cW v) (let t:=(jQ v.1 v.2.1 v.2.2 0).1
   let u:=iz v 0
   cz (cW u) (let r:=(jQ u.1 u.2.1 u.2.2 t).1
    let q:=iz u t
    cz (cG q [r]) (ret (pz q [r])))))else
 bif decide (o=16)then cz (decide (a<9223372036854775808)&&decide (y.2.1.length<=1099511627776)) (
  let v:=kh w (jh y.1 (jj y.2.1 y.2.2.1 a))
  cz (cT v c.1) (let S:=j7 v c.1
   cz (cG S c.2) (ret (pz S c.2))))else
 bif decide (o=17)then(bif jh y.1 a then(bif decide (0<(y.2.2.2.1.length:Int))then I (decide (i.2.2.1=0))else I false)else I false)else
 cz (k77 (sF y lo w i)) (some (cp ph (m77 (sF y lo w i))))):=by
 refine Eq.trans (ais true y hT.symm lo w i f hf z hz g hg c hc d hd) ?_
 kernel_rfl
end Go.Proofs.Vd

noncomputable section
namespace Go.Proofs.Vd
open Go.Ab Go.Ab.Lf
set_option maxRecDepth 100000
theorem ZO(a c:List (List Int))(sz n i:Int)(q:Int)(hq:q=iA .i64 sz ((c.getD i.toNat (cr (.ca i64)):List Int).length:Int)):(Iz (cp w7 (a,sz,c,n,i,()))).val=
 bif decide (i<n)then cz (ij i (c.length:Int)) (bif decide (q<0)then none else some (Rs.next (cp w7 (a,q,c,n,iA .i64 i 1,()))))else some (Rs.out 0 (cp pj (a,sz,()))):=by
 subst hq
 kernel_rfl
theorem ZP(o:List Int)(c:List (List Int))(n i:Int)(x:List Int)(hx:x=c.getD i.toNat (cr (.ca i64))):(Gz (cp u7 (o,c,n,i,()))).val=
 bif decide (i<n)then cz (ij i (c.length:Int)) (cz (roomy 8 (o.length+x.length)) (some (Rs.next (cp u7 (app o x,c,n,iA .i64 i 1,())))))else some (Rs.out 0 (cp pn (o,()))):=by
 subst hx
 kernel_rfl
theorem anU(c:List (List Int))(z:cb pj)(hz:z=oG Iz w7 pj (c,0,c,(c.length:Int),0,())):(t59 (c,())).val=
 cz (xi Iz w7 pj (c,0,c,(c.length:Int),0,())) (
  let fin:=cz (xi Gz u7 pn ([],z.1,(z.1.length:Int),0,())) (some (cp IA (oG Gz u7 pn ([],z.1,(z.1.length:Int),0,()))))
  bif decide (z.2.1<0)then none else bif decide (0<il .i64 z.2.1 0)then cz (decide (0<=il .i64 z.2.1 0)) (cz (roomy 8 (0+(List.replicate (il .i64 z.2.1 0).toNat (0:Int)).length)) (cz (jy 0 0 ((app [] (List.replicate (il .i64 z.2.1 0).toNat (0:Int))).length:Int)) fin))else fin):=by
 subst hz
 kernel_rfl
abbrev wkV(y:cb tM)(lo:List Int)(w:W3)(mk:List (den vP))(k:Int)(x:den tI)(c:List (den tI))(n1 i1 v n i:Int):cb vb:=(y.1,y.2.1,y.2.2.1,y.2.2.2.1,y.2.2.2.2.1,y.2.2.2.2.2.1,y.2.2.2.2.2.2.1,y.2.2.2.2.2.2.2.1,y.2.2.2.2.2.2.2.2.1,y.2.2.2.2.2.2.2.2.2.1,y.2.2.2.2.2.2.2.2.2.2.1,lo,w.1,w.2.1,w.2.2,mk,k,x.1,x.2.1,x.2.2.1,x.2.2.2.1,x.2.2.2.2.1,x.2.2.2.2.2,c,n1,i1,v,n,i,())
abbrev aed(y:cb tM)(lo:List Int)(w:W3)(mk:List (den vP))(k:Int)(x:den tI)(c:List (den tI))(n1 i1 v:Int):cb px:=(y.1,y.2.1,y.2.2.1,y.2.2.2.1,y.2.2.2.2.1,y.2.2.2.2.2.1,y.2.2.2.2.2.2.1,y.2.2.2.2.2.2.2.1,y.2.2.2.2.2.2.2.2.1,y.2.2.2.2.2.2.2.2.2.1,y.2.2.2.2.2.2.2.2.2.2.1,lo,w.1,w.2.1,w.2.2,mk,k,x.1,x.2.1,x.2.2.1,x.2.2.2.1,x.2.2.2.2.1,x.2.2.2.2.2,c,n1,i1,v,())
abbrev ZQ(y:cb tM)(lo:List Int)(w:W3)(mk:List (den vP))(c:List (den tI))(n i:Int):cb la:=(y.1,y.2.1,y.2.2.1,y.2.2.2.1,y.2.2.2.2.1,y.2.2.2.2.2.1,y.2.2.2.2.2.2.1,y.2.2.2.2.2.2.2.1,y.2.2.2.2.2.2.2.2.1,y.2.2.2.2.2.2.2.2.2.1,y.2.2.2.2.2.2.2.2.2.2.1,lo,w.1,w.2.1,w.2.2,mk,c,n,i,())
theorem ZR(y:cb tM)(lo:List Int)(w:W3)(mk:List (den vP))(k:Int)(x:den tI)(c:List (den tI))(n1 i1 v n i:Int):(f202 (cp vb (wkV y lo w mk k x c n1 i1 v n i))).val=
 bif decide (i<n)then cz (ij i (w.1.length:Int)) (bif decide (w.1.getD i.toNat (cr i64)=123)then some (Rs.next (cp vb (wkV y lo w mk k x c n1 i1 (iA .i64 v 1) n (iA .i64 i 1))))else some (Rs.next (cp vb (wkV y lo w mk k x c n1 i1 v n (iA .i64 i 1)))))else some (Rs.out 0 (cp px (aed y lo w mk k x c n1 i1 v))):=by kernel_rfl
theorem ZS(y:cb tM)(lo:List Int)(w:W3)(mk:List (den vP))(c:List (den tI))(n i:Int)(x:den tI)(hx:x=c.getD i.toNat (cr tI))(B:den iF)(hB:B=w.2.1.getD (il .i64 (w.2.1.length:Int) 1).toNat (cr iF))
 (z:cb px)(hz:z=oG f202 vb px (wkV y lo w mk i x c n i 0 (w.1.length:Int) 0))(u:cb ph)(hu:u=CH (sF y lo w x))(q:cb Iy)(hq:q=(z.1,z.2.1,z.2.2.1,z.2.2.2.1,z.2.2.2.2.1,z.2.2.2.2.2.1,z.2.2.2.2.2.2.1,z.2.2.2.2.2.2.2.1,z.2.2.2.2.2.2.2.2.1,z.2.2.2.2.2.2.2.2.2.1,z.2.2.2.2.2.2.2.2.2.2.1,z.2.2.2.2.2.2.2.2.2.2.2.1,z.2.2.2.2.2.2.2.2.2.2.2.2.1,z.2.2.2.2.2.2.2.2.2.2.2.2.2.1,z.2.2.2.2.2.2.2.2.2.2.2.2.2.2.1,z.2.2.2.2.2.2.2.2.2.2.2.2.2.2.2.2.2.1,z.2.2.2.2.2.2.2.2.2.2.2.2.2.2.2.2.2.2.1,z.2.2.2.2.2.2.2.2.2.2.2.2.2.2.2.2.2.2.2.1,z.2.2.2.2.2.2.2.2.2.2.2.2.2.2.2.2.2.2.2.2.1,z.2.2.2.2.2.2.2.2.2.2.2.2.2.2.2.2.2.2.2.2.2.1,z.2.2.2.2.2.2.2.2.2.2.2.2.2.2.2.2.2.2.2.2.2.2.1,()))(r:cb ph)(hr:r=CH q):(f200 (cp la (ZQ y lo w mk c n i))).val=
 bif decide (i<n)then cz (ij i (c.length:Int)) (cz (ij (il .i64 (w.2.1.length:Int) 1) (w.2.1.length:Int)) (
  bif (bif B.2.2.2.2.2 then !B.2.2.2.2.1 else false)then
   cz (xi f202 vb px (wkV y lo w mk i x c n i 0 (w.1.length:Int) 0)) (cz (ij z.2.2.2.2.2.2.2.2.2.2.2.2.2.2.2.2.1 (z.2.2.2.2.2.2.2.2.2.2.2.2.2.2.2.1.length:Int)) (cz (k62 q) (
    bif r.2.2.2.2.2.2.2.2.2.2.2.2.2.2.1 then some (Rs.out 1 (cp lh ([],false,())))else some (Rs.next (cp la (r.1,r.2.1,r.2.2.1,r.2.2.2.1,r.2.2.2.2.1,r.2.2.2.2.2.1,r.2.2.2.2.2.2.1,r.2.2.2.2.2.2.2.1,r.2.2.2.2.2.2.2.2.1,r.2.2.2.2.2.2.2.2.2.1,r.2.2.2.2.2.2.2.2.2.2.1,r.2.2.2.2.2.2.2.2.2.2.2.1,r.2.2.2.2.2.2.2.2.2.2.2.2.1,r.2.2.2.2.2.2.2.2.2.2.2.2.2.1,r.2.2.2.2.2.2.2.2.2.2.2.2.2.2.1,z.2.2.2.2.2.2.2.2.2.2.2.2.2.2.2.1.set z.2.2.2.2.2.2.2.2.2.2.2.2.2.2.2.2.1.toNat (true,(z.2.2.2.2.2.2.2.2.2.2.2.2.1.length:Int),z.2.2.2.2.2.2.2.2.2.2.2.2.2.2.2.2.2.2.2.2.2.2.2.2.2.2.1),z.2.2.2.2.2.2.2.2.2.2.2.2.2.2.2.2.2.2.2.2.2.2.2.1,z.2.2.2.2.2.2.2.2.2.2.2.2.2.2.2.2.2.2.2.2.2.2.2.2.1,iA .i64 z.2.2.2.2.2.2.2.2.2.2.2.2.2.2.2.2.2.2.2.2.2.2.2.2.2.1 1,()))))))
  else cz (k62 (sF y lo w x)) (bif u.2.2.2.2.2.2.2.2.2.2.2.2.2.2.1 then some (Rs.out 1 (cp lh ([],false,())))else some (Rs.next (cp la (u.1,u.2.1,u.2.2.1,u.2.2.2.1,u.2.2.2.2.1,u.2.2.2.2.2.1,u.2.2.2.2.2.2.1,u.2.2.2.2.2.2.2.1,u.2.2.2.2.2.2.2.2.1,u.2.2.2.2.2.2.2.2.2.1,u.2.2.2.2.2.2.2.2.2.2.1,u.2.2.2.2.2.2.2.2.2.2.2.1,u.2.2.2.2.2.2.2.2.2.2.2.2.1,u.2.2.2.2.2.2.2.2.2.2.2.2.2.1,u.2.2.2.2.2.2.2.2.2.2.2.2.2.2.1,mk,c,n,iA .i64 i 1,()))))))
 else some (Rs.out 0 (cp kp (mk,()))):=by
 subst hq;subst hr;subst hu;subst hz;subst hB;subst hx
 kernel_rfl
theorem aiu(gt:Bool)(y:cb tM)(hgt:gt=gT y.1)(i:Int)(k:Int)(hk:k=iA .i64 (y.2.1.length:Int) i)(s:den cF)(hs:s=iB y.1 (jj y.2.1 y.2.2.1 k))(C:den cK)(hC:C=y.2.2.2.2.2.2.2.2.2.1.getD i.toNat (cr cK))(lo:List Int)(hlo:lo=(m59 ([s.1,C.1],())).1)(w:W3)(hw:w=([],jR [] [] 2 [] s.2,false))(a:cb la)(ha:a=ZQ y lo w (List.replicate C.2.length (false,0,0)) C.2 (C.2.length:Int) 0):(t20 (y.1,y.2.1,y.2.2.1,y.2.2.2.1,y.2.2.2.2.1,y.2.2.2.2.2.1,y.2.2.2.2.2.2.1,y.2.2.2.2.2.2.2.1,y.2.2.2.2.2.2.2.2.1,y.2.2.2.2.2.2.2.2.2.1,y.2.2.2.2.2.2.2.2.2.2.1,i,())).val=
 cz (gt&&(decide (k<9223372036854775808)&&decide (y.2.1.length<=1099511627776))) (cz (ij i (y.2.2.2.2.2.2.2.2.2.1.length:Int)) (cz (k59 ([s.1,C.1],())) (cz (decide (y.2.2.2.2.2.2.2.1=y.2.2.2.2.2.2.2.1)) (cz (decide (([]:List (den iF)).length+1<=549755813888)) (cz (ij i (y.2.2.2.2.2.2.2.2.2.1.length:Int)) (
  cz ((decide (0<=(C.2.length:Int))&&decide ((C.2.length:Int)<=(C.2.length:Int)))&&decide ((C.2.length:Int).toNat*24<=70368744177664)) (cz (ij i (y.2.2.2.2.2.2.2.2.2.1.length:Int)) (
   cz (DN f200 la kp lh a) (bif BO f200 la a then some (cp D4 ((oG f200 la kp a).1,true,()))else some (cp D4 ((oG f200 la lh a).1,(oG f200 la lh a).2.1,()))))))))))):=by
 subst hgt;subst ha;subst hw;subst hlo;subst hC;subst hs;subst hk
 kernel_rfl
theorem anV(y:cb tM)(hT:gT y.1=true)(i:Int)(k:Int)(hk:k=iA .i64 (y.2.1.length:Int) i)(s:den cF)(hs:s=iB y.1 (jj y.2.1 y.2.2.1 k))(C:den cK)(hC:C=y.2.2.2.2.2.2.2.2.2.1.getD i.toNat (cr cK))(lo:List Int)(hlo:lo=(m59 ([s.1,C.1],())).1)(w:W3)(hw:w=([],jR [] [] 2 [] s.2,false))(a:cb la)(ha:a=ZQ y lo w (List.replicate C.2.length (false,0,0)) C.2 (C.2.length:Int) 0):(t20 (y.1,y.2.1,y.2.2.1,y.2.2.2.1,y.2.2.2.2.1,y.2.2.2.2.2.1,y.2.2.2.2.2.2.1,y.2.2.2.2.2.2.2.1,y.2.2.2.2.2.2.2.2.1,y.2.2.2.2.2.2.2.2.2.1,y.2.2.2.2.2.2.2.2.2.2.1,i,())).val=
 cz (decide (k<9223372036854775808)&&decide (y.2.1.length<=1099511627776)) (cz (ij i (y.2.2.2.2.2.2.2.2.2.1.length:Int)) (cz (k59 ([s.1,C.1],())) (cz (decide (y.2.2.2.2.2.2.2.1=y.2.2.2.2.2.2.2.1)) (cz (decide (([]:List (den iF)).length+1<=549755813888)) (cz (ij i (y.2.2.2.2.2.2.2.2.2.1.length:Int)) (
  cz ((decide (0<=(C.2.length:Int))&&decide ((C.2.length:Int)<=(C.2.length:Int)))&&decide ((C.2.length:Int).toNat*24<=70368744177664)) (cz (ij i (y.2.2.2.2.2.2.2.2.2.1.length:Int)) (
   cz (DN f200 la kp lh a) (bif BO f200 la a then some (cp D4 ((oG f200 la kp a).1,true,()))else some (cp D4 ((oG f200 la lh a).1,(oG f200 la lh a).2.1,()))))))))))):=by
 refine Eq.trans (aiu true y hT.symm i k hk s hs C hC lo hlo w hw a ha) ?_
 kernel_rfl
end Go.Proofs.Vd

noncomputable section
namespace Go.Proofs.Vd
open Go.Ab Go.Ab.Lf
set_option maxRecDepth 100000
theorem uE{op:Int}{f:cb oN}: ∀ {rs:List (den kA)},qM op rs=some f-> ∃ r,r∈rs/\(r.1<=op/\op<=r.2.1)/\f=Gj r
 | [],h=>by cases h
 |r::rs,h=>by
  have h:(match BR op () r rs with| .inl s=>kY (BR op) (fun _=>none) rs s| .inr o=>o)=some f:=by
   have e:qM op (r::rs)=(match BR op () r rs with| .inl s=>kY (BR op) (fun _=>none) rs s| .inr o=>o):=by
    show kY (BR op) (fun _=>none) (r::rs) ()=_
    rw[kY]
    cases BR op () r rs<;>rfl
   rw[<-e];exact h
  unfold BR at h
  by_cases h1:op<r.1
  ·rw[decide_eq_true h1]at h
   obtain⟨q,a,b⟩:=uE (rs:=rs) h
   exact⟨q,List.mem_cons_of_mem _ a,b⟩
  ·by_cases h2:r.2.1<op
   ·rw[decide_eq_false h1,decide_eq_true h2]at h
    obtain⟨q,a,b⟩:=uE (rs:=rs) h
    exact⟨q,List.mem_cons_of_mem _ a,b⟩
   ·rw[decide_eq_false h1,decide_eq_false h2]at h
    cases h
    exact⟨r,List.mem_cons_self,⟨Int.not_lt.1 h1,Int.not_lt.1 h2⟩,rfl⟩
theorem rJ{α:Type}{p:α->Bool}: ∀ {l:List α},iD p l=true-> ∀ x,x∈l->p x=true
 | [],_,x,hx=>by cases hx
 |a::l,h,x,hx=>by
  obtain⟨h1,h2⟩:=nc h
  rcases List.mem_cons.1 hx with e|e
  ·subst e;exact h1
  ·exact rJ h2 x e
def npP(o f:Int):Bool:=
 bif decide (f=1)then decide (o=0)||(decide (o=5)||(decide (o=11)||(decide (o=15)||(decide (o=26)||decide (o=27)))))else
 bif decide (f=2)then decide (o=2)||(decide (o=3)||decide (o=4))else
 bif decide (f=3)then decide (o=12)||decide (o=13)else
 bif decide (f=4)then decide (o=14)else
 bif decide (f=5)then decide (o=16)||(decide (32<=o)&&decide (o<=36))else
 bif decide (f=6)then decide (o=17)else false
def plP(lo hi:Int):Bool:=(decide (hi<2)||decide (5<lo))&&(decide (hi<11)||decide (11<lo))
def L9(r:den kA):Bool:=
 (decide (0<=r.2.2.2.1)&&(decide ((BQ (LU r)).1.length<=16)&&decide ((BQ (LU r)).2.length<=16)))&&(((BQ (LU r)).1.all uB&&(BQ (LU r)).2.all uB)&&
  bif eqStr r.2.2.2.2 ⟨#[]⟩then iD (fun k:Nat=>npP (r.1+(k:Int)) r.2.2.1) (List.range (r.2.1 - r.1+1).toNat)else plP r.1 r.2.1)
theorem XC:(iD L9 Ig&&iD L9 Ih)=true:=by kernel_rfl
theorem IF{o:Int}(h:A0 o=true): ∃ r,L9 r=true/\(r.1<=o/\o<=r.2.1)/\kM o=Gj r:=by
 unfold A0 at h
 unfold kM
 cases hf:LV o with
 |none=>rw[hf]at h;cases h
 |some f=>
  have hr:=XC
  rw[Bool.and_eq_true]at hr
  unfold LV at hf
  cases hc:decide (64768<=o)with
  |true=>
   rw[hc]at hf
   obtain⟨r,a,b,c⟩:=uE hf
   exact⟨r,rJ hr.2 r a,b,c⟩
  |false=>
   rw[hc]at hf
   obtain⟨r,a,b,c⟩:=uE hf
   exact⟨r,rJ hr.1 r a,b,c⟩
theorem Q6{o:Int}(h:A0 o=false):kM o=(0,0,false,[],[],()):=by
 unfold A0 at h
 unfold kM
 cases hf:LV o with
 |none=>rfl
 |some f=>rw[hf]at h;cases h
theorem Q7(o:Int):0<=(kM o).2.1/\(kM o).2.2.2.1.length<=16/\(kM o).2.2.2.2.1.length<=16/\(kM o).2.2.2.1.all uB=true/\(kM o).2.2.2.2.1.all uB=true:=by
 cases h:A0 o with
 |false=>rw[Q6 h];decide
 |true=>
  obtain⟨r,a,_,c⟩:=IF h
  rw[c]
  unfold L9 at a
  simp only[Bool.and_eq_true,decide_eq_true_eq]at a
  obtain⟨⟨a1,a2,a3⟩,⟨a4,a5⟩,_⟩:=a
  exact⟨a1,a2,a3,a4,a5⟩
theorem aiv{o:Int}(h:A0 o=true)(hp:(kM o).2.2.1=false):npP o (kM o).1=true:=by
 obtain⟨r,a,b,c⟩:=IF h
 rw[c]at hp ⊢
 unfold L9 at a
 rw[Bool.and_eq_true,Bool.and_eq_true (_&&_)]at a
 have a:=a.2.2
 have hp:(!eqStr r.2.2.2.2 ⟨#[]⟩)=false:=hp
 have hq:eqStr r.2.2.2.2 ⟨#[]⟩=true:=by revert hp;cases eqStr r.2.2.2.2 ⟨#[]⟩<;>simp
 rw[hq,cond_true]at a
 have key: ∀ lo hi:Int,lo<=o->o<=hi->(o - lo).toNat<(hi - lo+1).toNat/\lo+(((o - lo).toNat:Nat):Int)=o:=fun lo hi _ _=>by omega
 obtain⟨k1,k2⟩:=key r.1 r.2.1 b.1 b.2
 have:=rJ a (o - r.1).toNat (List.mem_range.2 k1)
 rw[k2]at this
 exact this
theorem aiw{o:Int}(hp:(kM o).2.2.1=true): ¬ (2<=o/\o<=5)/\o≠11:=by
 cases h:A0 o with
 |false=>rw[Q6 h]at hp;cases hp
 |true=>
  obtain⟨r,a,b,c⟩:=IF h
  rw[c]at hp
  unfold L9 at a
  rw[Bool.and_eq_true,Bool.and_eq_true (_&&_)]at a
  have a:=a.2.2
  have hp:(!eqStr r.2.2.2.2 ⟨#[]⟩)=true:=hp
  have hq:eqStr r.2.2.2.2 ⟨#[]⟩=false:=by revert hp;cases eqStr r.2.2.2.2 ⟨#[]⟩<;>simp
  rw[hq,cond_false]at a
  unfold plP at a
  simp only[Bool.and_eq_true,Bool.or_eq_true,decide_eq_true_eq]at a
  have key: ∀ lo hi:Int,lo<=o->o<=hi->((hi<2∨5<lo)/\(hi<11∨11<lo))-> ¬ (2<=o/\o<=5)/\o≠11:=fun lo hi _ _ _=>by omega
  exact key r.1 r.2.1 b.1 b.2 a
end Go.Proofs.Vd

noncomputable section
namespace Go.Proofs.Vd
open Go.Ab Go.Ab.Lf
set_option maxRecDepth 100000
structure Inv(k m:Nat)(w:W3):Prop where
 ne:w.2.1≠[]
 pw:w.2.1.Pairwise (fun a b=>(a.2.1:Int)<=b.2.1)
 ht: ∀ b,b∈w.2.1->(0:Int)<=b.2.1/\(b.2.1:Int)<=(w.1.length:Int)
 io: ∀ b,b∈w.2.1->b.2.2.1.length<=32/\b.2.2.2.1.length<=32
 sk:w.1.length<=k
 sb:w.2.1.length<=m
theorem uF(l:List (den iF))(B:den iF):iY (l++[B])=B:=by
 unfold iY
 simp
theorem xd{l:List (den iF)}(h:l≠[]): ∃ r B,l=r++[B]:=⟨l.dropLast,l.getLast h,(List.dropLast_concat_getLast h).symm⟩
theorem XD{a:Int}{n:Nat}(h1:0<=a)(h2:a<=(n:Int))(h3: ¬ (n:Int)=a):a<=((n - 1:Nat):Int):=by omega
theorem aee{a:Int}{n:Nat}(h1:0<=a)(h2:a<=(n:Int)):((min a.toNat n:Nat):Int)=a:=by omega
section
variable {k m:Nat}{w:W3}
theorem Inv.mem(h:Inv k m w):iY w.2.1∈w.2.1:=by
 obtain⟨r,B,e⟩:=xd h.ne
 rw[e,uF]
 simp
theorem Inv.top(h:Inv k m w): ∀ b,b∈w.2.1->(b.2.1:Int)<=(iY w.2.1).2.1:=by
 obtain⟨r,B,e⟩:=xd h.ne
 have hp:=h.pw
 rw[e]at hp ⊢
 rw[uF]
 intro b hb
 rw[List.pairwise_append]at hp
 rcases List.mem_append.1 hb with hb|hb
 ·exact hp.2.2 b hb B (by simp)
 ·have:b=B:=by simpa using hb
  rw[this]
  exact Int.le_refl _
theorem Inv.len(h:Inv k m w):0<w.2.1.length:=List.length_pos_iff.2 h.ne
theorem Inv.cW(h:Inv k m w)(hk:k<=1099511627776)(hm:m<=1099511627776):cW w=true:=by
 obtain⟨h1,h2⟩:=h.ht _ h.mem
 have h3:=h.len
 have h4:=h.sk
 have h5:=h.sb
 unfold Vd.cW okW
 simp only[Bool.and_eq_true,decide_eq_true_eq]
 exact⟨⟨h3,by omega,by omega⟩,h1,h2⟩
theorem Inv.cT(h:Inv k m w)(hk:k<=1099511627776)(hm:m<=1099511627776){L:List Int}(hL:L.length<=1099511627776):cT w L=true:=by
 have:=h.cW hk hm
 unfold Vd.cW at this
 unfold Vd.cT
 rw[this,decide_eq_true hL]
 rfl
theorem Inv.bad(h:Inv k m w)(b:Bool):Inv k m (w.1,w.2.1,b):=⟨h.ne,h.pw,h.ht,h.io,h.sk,h.sb⟩
theorem Inv.cut(h:Inv k m w){s:List Int}(h1:((iY w.2.1).2.1:Int)<=(s.length:Int))(h2:s.length<=w.1.length)(b:Bool):Inv k m (s,w.2.1,b):=
 ⟨h.ne,h.pw,fun c hc=>⟨(h.ht c hc).1,Int.le_trans (h.top c hc) h1⟩,h.io,Nat.le_trans h2 h.sk,h.sb⟩
theorem Inv.take(h:Inv k m w)(t:Int):Inv k m (iz w t):=by
 obtain⟨h1,h2⟩:=h.ht _ h.mem
 unfold iz jQ
 cases hh:decide ((w.1.length:Int)=(iY w.2.1).2.1)with
 |true=>exact h.bad _
 |false=>
  have nd: ¬ (w.1.length:Int)=(iY w.2.1).2.1:=of_decide_eq_false hh
  have e:(w.1.take (w.1.length - 1)).length=w.1.length - 1:=by rw[List.length_take];omega
  exact h.cut (by show _<=((w.1.take (w.1.length - 1)).length:Int);rw[e];exact XD h1 h2 nd) (by show(w.1.take (w.1.length - 1)).length<=_;rw[e];omega) _
theorem Inv.aix(L:List Int): ∀ (n:Nat) {w:W3},Inv k m w->Inv k m ((uO L w.2.1 n w.1 w.2.2).1,w.2.1,(uO L w.2.1 n w.1 w.2.2).2)
 |0,_,h=>h
 |n+1,w,h=>Inv.aix L n (h.take (L.getD n (cr i64)))
theorem Inv.GC(h:Inv k m w)(L:List Int):Inv k m (j7 w L):=Inv.aix L L.length h
theorem Inv.ZT(h:Inv k m w)(L:List Int):Inv (k+L.length) m (pz w L):=by
 have:=h.sk
 exact⟨h.ne,h.pw,fun b hb=>⟨(h.ht b hb).1,Int.le_trans (h.ht b hb).2 (by show(w.1.length:Int)<=((w.1++L).length:Int);rw[List.length_append];omega)⟩,h.io,by show(w.1++L).length<=_;rw[List.length_append];omega,h.sb⟩
theorem Inv.le(h:Inv k m w){k' m':Nat}(hk:k<=k')(hm:m<=m'):Inv k' m' w:=⟨h.ne,h.pw,h.ht,h.io,Nat.le_trans h.sk hk,Nat.le_trans h.sb hm⟩
theorem Inv.opn(h:Inv k m w)(op:Int){i o:List Int}(hi:i.length<=32)(ho:o.length<=32):Inv k (m+1) (w.1,jR w.1 w.2.1 op i o,w.2.2):=by
 have:=h.sb
 refine⟨by unfold jR;simp,?_,?_,?_,h.sk,by show(jR _ _ _ _ _).length<=_;unfold jR;simp;exact this⟩
 ·show(jR _ _ _ _ _).Pairwise _
  unfold jR
  rw[List.pairwise_append]
  refine⟨h.pw,List.pairwise_singleton _ _,fun a ha b hb=>?_⟩
  have:b=(op,(w.1.length:Int),i,o,false,yo w.2.1):=by simpa using hb
  rw[this]
  exact(h.ht a ha).2
 ·intro b hb
  unfold jR at hb
  rcases List.mem_append.1 hb with hb|hb
  ·exact h.ht b hb
  ·have:b=(op,(w.1.length:Int),i,o,false,yo w.2.1):=by simpa using hb
   rw[this]
   exact⟨Int.natCast_nonneg _,Int.le_refl _⟩
 ·intro b hb
  unfold jR at hb
  rcases List.mem_append.1 hb with hb|hb
  ·exact h.io b hb
  ·have:b=(op,(w.1.length:Int),i,o,false,yo w.2.1):=by simpa using hb
   rw[this]
   exact⟨hi,ho⟩
theorem Q8(l:List (den iF))(B C:den iF):(l++[B]).set ((l++[B]).length - 1) C=l++[C]:=by
 simp
theorem Inv.die(h:Inv k m w):Inv k m (vF w):=by
 obtain⟨h1,h2⟩:=h.ht _ h.mem
 obtain⟨s,bl,bad⟩:=w
 obtain⟨r,B,e⟩:=xd h.ne
 have e:bl=r++[B]:=e
 subst e
 have ht:=h.top
 have hp:=h.pw
 have hi:=h.io
 have hh:=h.ht
 have eT:iY (r++[B])=B:=uF r B
 have ht: ∀ b,b∈r++[B]->(b.2.1:Int)<=B.2.1:=fun b hb=>by have:=ht b hb;rw[show(s,r++[B],bad).2.1=r++[B]from rfl,eT]at this;exact this
 have h1:(0:Int)<=B.2.1:=by rw[show(s,r++[B],bad).2.1=r++[B]from rfl,eT]at h1;exact h1
 have h2:(B.2.1:Int)<=(s.length:Int):=by rw[show(s,r++[B],bad).2.1=r++[B]from rfl,eT]at h2;exact h2
 have hl:((s.take B.2.1.toNat).length:Int)=B.2.1:=by rw[List.length_take];exact aee h1 h2
 have eD:vF (s,r++[B],bad)=(s.take B.2.1.toNat,r++[wX B],bad):=by
  show(s.take (iY (r++[B])).2.1.toNat,(r++[B]).set ((r++[B]).length - 1) (wX (iY (r++[B]))),bad)=_
  rw[eT,Q8]
 rw[eD]
 have hm: ∀ b,b∈r++[wX B]-> ∃ c,c∈r++[B]/\(b.2.1:Int)=c.2.1/\b.2.2.1=c.2.2.1/\b.2.2.2.1=c.2.2.2.1:=by
  intro b hb
  rcases List.mem_append.1 hb with hb|hb
  ·exact⟨b,List.mem_append_left _ hb,rfl,rfl,rfl⟩
  ·have:b=wX B:=by simpa using hb
   rw[this]
   exact⟨B,by simp,rfl,rfl,rfl⟩
 refine⟨by simp,?_,?_,?_,?_,?_⟩
 ·show(r++[wX B]).Pairwise _
  have hp:(r++[B]).Pairwise _:=hp
  rw[List.pairwise_append]at hp ⊢
  refine⟨hp.1,List.pairwise_singleton _ _,fun a ha b hb=>?_⟩
  have:b=wX B:=by simpa using hb
  rw[this]
  exact hp.2.2 a ha B (by simp)
 ·intro b hb
  obtain⟨c,c1,c2,_,_⟩:=hm b hb
  rw[c2]
  exact⟨(hh c c1).1,by show(c.2.1:Int)<=((s.take B.2.1.toNat).length:Int);rw[hl];exact ht c c1⟩
 ·intro b hb
  obtain⟨c,c1,_,c3,c4⟩:=hm b hb
  rw[c3,c4]
  exact hi c c1
 ·have:=h.sk
  show(s.take _).length<=_
  rw[List.length_take]
  have this:s.length<=k:=this
  omega
 ·have:=h.sb
  simpa using this
end
theorem Kc(L:List Int)(bl:List (den iF)): ∀ (n:Nat) (s:List Int) (b:Bool),(uO L bl n s b).1.length<=s.length
 |0,_,_=>Nat.le_refl _
 |n+1,s,b=>by
  refine Nat.le_trans (Kc L bl n _ _) ?_
  unfold jQ
  cases decide ((s.length:Int)=(iY bl).2.1)with
  |true=>exact Nat.le_refl _
  |false=>show(s.take _).length<=_;rw[List.length_take];omega
end Go.Proofs.Vd

noncomputable section
namespace Go.Proofs.Vd
open Go.Ab Go.Ab.Lf
set_option maxRecDepth 100000
section
variable {k m:Nat}{w:W3}
theorem Inv.sub(h:Inv k m w)(hm:m<=1073741824):il .i64 (w.2.1.length:Int) 1=((w.2.1.length - 1:Nat):Int):=DL h.len (by have:=h.sb;omega)
theorem Inv.ix(h:Inv k m w):ij ((w.2.1.length - 1:Nat):Int) (w.2.1.length:Int)=true:=iX (by have:=h.len;omega)
end
theorem D6{j n:Nat}(h:j<n):ij (j:Int) (n:Int)=true:=iX h
theorem D7{j n:Nat}(h:j<=n):jy 0 (j:Int) (n:Int)=true:=by
 unfold jy
 simp only[Bool.and_eq_true,decide_eq_true_eq]
 omega
def pA(w:W3):List Int×Bool:=uO (iY w.2.1).2.2.2.1 w.2.1 (iY w.2.1).2.2.2.1.length w.1 w.2.2
def D8(w:W3):Bool:=(pA w).2|| !decide (((pA w).1.length:Int)=(iY w.2.1).2.1)
def vG(w:W3):List (den iF):=w.2.1.take (w.2.1.length - 1)
def qP(w:W3)(n:Int):W3:=bif D8 w then((pA w).1,vG w++[iY w.2.1],D8 w)else
 bif decide (n=5)then((pA w).1++(iY w.2.1).2.2.1,jR (pA w).1 (vG w) 5 (iY w.2.1).2.2.1 (iY w.2.1).2.2.2.1,D8 w)else
 ((pA w).1++(iY w.2.1).2.2.2.1,vG w,D8 w|| !(bif !decide ((iY w.2.1).1=4)then true else decide ((iY w.2.1).2.2.1=(iY w.2.1).2.2.2.1)))
theorem Q9(w:W3):(pA w).1.length<=w.1.length:=Kc _ _ _ _ _
theorem Ra(w:W3):(vG w).length<=w.2.1.length:=by unfold vG;rw[List.length_take];omega
theorem aiy{k m:Nat}{w:W3}(h:Inv k m w)(hk:k<=1073741824)(hm:m<=1073741824)(y:cb tM)(lo:List Int)(n:Int):(t75 (TL y lo w n)).val=some (cp D3 (wk y lo (qP w n))):=by
 have hs:=h.sub hm
 have hio:=h.io _ h.mem
 have hsk:=h.sk
 have hsb:=h.sb
 have l1:=Q9 w
 have l2:=Ra w
 have eB:iY w.2.1=w.2.1.getD (il .i64 (w.2.1.length:Int) 1).toNat (cr iF):=by rw[hs,Int.toNat_natCast];rfl
 have eC:vG w=(w.2.1.drop 0).take ((il .i64 (w.2.1.length:Int) 1).toNat - 0):=by rw[hs,Int.toNat_natCast];rfl
 rw[anQ y lo w n (iY w.2.1) eB (vG w) eC (pA w) rfl (D8 w) rfl,hs,h.ix,D7 (Nat.sub_le _ _)]
 have c1:(decide ((iY w.2.1).2.2.2.1.length<=1099511627776)&&okW w.1 w.2.1)=true:=h.cT (by omega) (by omega) (by omega)
 have c2:roomy 72 ((vG w).length+1)=true:=by rw[pH];constructor<;>omega
 have c3:decide ((vG w).length+1<=549755813888)=true:=decide_eq_true (by omega)
 have c4:decide ((pA w).1.length+(iY w.2.1).2.2.1.length<=1099511627776)=true:=decide_eq_true (by omega)
 have c5:decide ((pA w).1.length+(iY w.2.1).2.2.2.1.length<=1099511627776)=true:=decide_eq_true (by omega)
 have c6:decide ((iY w.2.1).2.2.1.length<=1099511627776)=true:=decide_eq_true (by omega)
 rw[c1,c2,c3,c4,c5,c6]
 simp only[cz,cond_true,cX]
 unfold qP
 cases D8 w with
 |true=>rfl
 |false=>
  cases decide (n=5)with
  |true=>rfl
  |false=>cases decide ((iY w.2.1).1=4)<;>rfl
def sG(L:List Int)(bl:List (den iF)):Nat->List Int->List Int->Bool->List Int×List Int×Bool
 |0,s,w9,bad=>(s,w9,bad)
 |n+1,s,w9,bad=>sG L bl n (jQ s bl bad (L.getD n (cr i64))).2.1 (w9++[(jQ s bl bad (L.getD n (cr i64))).1]) (jQ s bl bad (L.getD n (cr i64))).2.2
def IG(w:W3)(L:List Int):W3:=let z:=sG L w.2.1 L.length w.1 [] w.2.2
 (z.1++z.2.1.reverse,w.2.1,z.2.2)
theorem Bg(L:List Int)(bl:List (den iF)): ∀ (n:Nat) (s w9:List Int) (b:Bool),(sG L bl n s w9 b).2.1.length=w9.length+n
 |0,_,_,_=>rfl
 |n+1,s,w9,b=>by
  show(sG L bl n _ _ _).2.1.length=_
  rw[Bg L bl n]
  simp only[List.length_append,List.length_cons,List.length_nil]
  omega
theorem Inv.agF{k m:Nat}(L:List Int): ∀ (n:Nat) (w9:List Int) {w:W3},Inv k m w->Inv k m ((sG L w.2.1 n w.1 w9 w.2.2).1,w.2.1,(sG L w.2.1 n w.1 w9 w.2.2).2.2)
 |0,_,_,h=>h
 |n+1,w9,w,h=>Inv.agF L n (w9++[(jQ w.1 w.2.1 w.2.2 (L.getD n (cr i64))).1]) (h.take (L.getD n (cr i64)))
theorem Inv.again{k m:Nat}{w:W3}(h:Inv k m w)(L:List Int):Inv (k+L.length) m (IG w L):=by
 have h1:=(h.agF L L.length []).ZT (sG L w.2.1 L.length w.1 [] w.2.2).2.1.reverse
 refine h1.le ?_ (Nat.le_refl _)
 rw[List.length_reverse,Bg]
 simp
theorem Rb{k m:Nat}(y:cb tM)(lo L:List Int)(hk:k<=1073741824)(hm:m<=1073741824)(hL:L.length<=1073741824): ∀ (n:Nat) {w:W3} (w9:List Int),n<=L.length->w9.length+n<=L.length->Inv k m w->
 mm QX (cp yp (wkA y lo w L w9 ((n:Int) - 1))) 0 (cp sA (TK y lo ((sG L w.2.1 n w.1 w9 w.2.2).1,w.2.1,(sG L w.2.1 n w.1 w9 w.2.2).2.2) (sG L w.2.1 n w.1 w9 w.2.2).2.1))
 |0,w,w9,_,_,_=>by
  refine .last ?_
  rw[ZL,decide_eq_false (by omega)]
  rfl
 |n+1,w,w9,hn,hw,h=>by
  have e:((n+1:Nat):Int) - 1=(n:Int):=by omega
  rw[e]
  have es:il .i64 (n:Int) 1=(n:Int) - 1:=by
   show ja .i64 ((n:Int) - 1)=_
   exact wrap_i64 (by omega) (by omega)
  refine .more ?_ (Rb y lo L hk hm hL n (w9++[(jQ w.1 w.2.1 w.2.2 (L.getD n (cr i64))).1]) (by omega) (by simp only[List.length_append,List.length_cons,List.length_nil];omega) (h.take (L.getD n (cr i64))))
  have c:okW w.1 w.2.1=true:=h.cW (by omega) (by omega)
  have r:roomy 8 (w9.length+1)=true:=iE (by omega) (by omega)
  rw[ZL,decide_eq_true (show(0:Int)<=(n:Int) by omega),D6 (show n<L.length by omega),c,r,Int.toNat_natCast,es,cX]
  rfl
theorem Ke{β:Type}(K:List Int->Option β): ∀ (f:Nat) (a mid b:List Int),a.length=b.length->mid.length<2*f->a.length+mid.length+b.length<=1073741824->Q5 K f a.length (((a.length+mid.length:Nat):Int) - 1) (a++mid++b)=K (a++mid.reverse++b)
 |0,a,mid,b,_,h,_=>by omega
 |f+1,a,mid,b,hab,h,hs=>by
  by_cases h2:mid.length<2
  ·have e:decide ((a.length:Int)<(((a.length+mid.length:Nat):Int) - 1))=false:=decide_eq_false (by omega)
   have er:mid.reverse=mid:=by
    match mid,h2 with
    | [],_=>rfl
    | [x],_=>rfl
   unfold Q5
   rw[e,er]
   rfl
  ·match mid with
   | []=>simp at h2
   |c::t=>
    obtain⟨m',d,rfl⟩: ∃ m' d,t=m'++[d]:=by
     have:t≠[]:=fun e=>by subst e;simp at h2
     exact⟨t.dropLast,t.getLast this,(List.dropLast_concat_getLast this).symm⟩
    simp only[List.length_cons,List.length_append,List.length_nil]at h hs
    have el:(a++(c::(m'++[d]))++b).length=a.length+(m'.length+2)+b.length:=by simp;omega
    have ej:(((a.length+(c::(m'++[d])).length:Nat):Int) - 1)=((a.length+m'.length+1:Nat):Int):=by simp;omega
    have gi:(a++(c::(m'++[d]))++b).getD a.length (cr i64)=c:=by
     rw[List.getD_eq_getElem?_getD,List.append_assoc,List.getElem?_append_right (Nat.le_refl _)]
     simp
    have gj:(a++(c::(m'++[d]))++b).getD (a.length+m'.length+1) (cr i64)=d:=by
     have e:a++(c::(m'++[d]))++b=(a++(c::m'))++(d::b):=by simp
     rw[e,List.getD_eq_getElem?_getD,List.getElem?_append_right (by simp;omega)]
     have:a.length+m'.length+1 - (a++(c::m')).length=0:=by simp;omega
     rw[this]
     rfl
    have s1:(a++(c::(m'++[d]))++b).set a.length d=a++(d::(m'++[d]))++b:=by
     rw[List.append_assoc,List.set_append_right _ _ (Nat.le_refl _)]
     simp
    have s2:(a++(d::(m'++[d]))++b).set (a.length+m'.length+1) c=(a++[d])++m'++(c::b):=by
     have e:a++(d::(m'++[d]))++b=(a++(d::m'))++(d::b):=by simp
     rw[e,List.set_append_right _ _ (by simp;omega)]
     have:a.length+m'.length+1 - (a++(d::m')).length=0:=by simp;omega
     rw[this]
     simp
    have es:il .i64 ((a.length+m'.length+1:Nat):Int) 1=(((a++[d]).length+m'.length:Nat):Int) - 1:=by
     rw[DL (by omega) (by omega)]
     simp
     omega
    have ih:=Ke K f (a++[d]) m' (c::b) (by simp;omega) (by omega) (by simp;omega)
    have sl:((a++(c::(m'++[d]))++b).set a.length d).length=a.length+(m'.length+2)+b.length:=by rw[List.length_set,el]
    rw[ej]
    unfold Q5
    rw[decide_eq_true (by omega),Int.toNat_natCast,gj,gi,sl,el,s1,s2,D6 (show a.length+m'.length+1<a.length+(m'.length+2)+b.length by omega),D6 (show a.length<a.length+(m'.length+2)+b.length by omega),es]
    simp only[cz,cond_true]
    have e0:(a++[d]).length=a.length+1:=by simp
    rw[e0]at ih
    rw[e0,ih]
    simp
theorem aiz{k m:Nat}{w:W3}(h:Inv k m w)(hk:k<=1073741824)(hm:m<=1073741824)(y:cb tM)(lo L:List Int)(hL:L.length<=32):(t85 (TK y lo w L)).val=some (cp Gy (wk y lo (IG w L))):=by
 have es:il .i64 (L.length:Int) 1=(L.length:Int) - 1:=by
  show ja .i64 ((L.length:Int) - 1)=_
  exact wrap_i64 (by omega) (by omega)
 have r:=Rb y lo L hk hm (by omega) L.length [] (Nat.le_refl _) (by simp) h
 rw[<-es]at r
 obtain⟨a,b⟩:=ru r
 rw[anR y lo w L _ b.symm,a]
 have hl:=Bg L w.2.1 L.length w.1 [] w.2.2
 have hi:=(h.agF L L.length []).sk
 have e2:il .i64 ((sG L w.2.1 L.length w.1 [] w.2.2).2.1.length:Int) 1=((([]:List Int).length+(sG L w.2.1 L.length w.1 [] w.2.2).2.1.length:Nat):Int) - 1:=by
  rw[hl]
  simp only[List.length_nil,Nat.zero_add]
  exact es
 have e3:=Ke (fun x=>cz (decide ((sG L w.2.1 L.length w.1 [] w.2.2).1.length+x.length<=1099511627776)) (some (cp Gy (wk y lo ((sG L w.2.1 L.length w.1 [] w.2.2).1++x,w.2.1,(sG L w.2.1 L.length w.1 [] w.2.2).2.2))))) 18 [] (sG L w.2.1 L.length w.1 [] w.2.2).2.1 [] rfl (by rw[hl];simp;omega) (by rw[hl];simp;omega)
 rw[<-e2]at e3
 simp only[List.append_nil,List.nil_append]at e3
 refine Eq.trans e3 ?_
 have c:decide ((sG L w.2.1 L.length w.1 [] w.2.2).1.length+(sG L w.2.1 L.length w.1 [] w.2.2).2.1.reverse.length<=1099511627776)=true:=by
  refine decide_eq_true ?_
  rw[List.length_reverse,hl]
  have hi:(sG L w.2.1 L.length w.1 [] w.2.2).1.length<=k:=hi
  simp
  omega
 rw[c]
 rfl
end Go.Proofs.Vd

noncomputable section
namespace Go.Proofs.Vd
open Go.Ab Go.Ab.Lf
set_option maxRecDepth 100000
theorem ve{a b c:Int}(h:a=b)(k:b≠c): ¬ a=c:=fun e=>k (h▸e)
def L'(y:cb tM)(lo:List Int)(w:W3)(i:den tI):W3:=
 let gl:=y.2.2.2.2.2.1
 let ok:Bool:=bif (bif decide (i.1<=34)then decide (i.2.1<(lo.length:Int))else false)then true else bif (bif decide (34<i.1)then decide (i.2.1<(gl.length:Int))else false)then(bif decide (i.1=35)then true else(gl.getD i.2.1.toNat (cr cI)).2.1)else false
 let t:Int:=bif (bif decide (i.1<=34)then decide (i.2.1<(lo.length:Int))else false)then lo.getD i.2.1.toNat (cr i64)else bif (bif decide (34<i.1)then decide (i.2.1<(gl.length:Int))else false)then(gl.getD i.2.1.toNat (cr cI)).1 else 0
 let v:=bif (bif !decide (i.1=32)then !decide (i.1=35)else false)then iz (kh w ok) t else kh w ok
 bif (bif !decide (i.1=33)then !decide (i.1=36)else false)then pz v [t]else v
theorem Inv.XE{k m:Nat}{w:W3}(h:Inv k m w)(c:Bool):Inv k m (kh w c):=h.bad _
theorem Inv.XF{k m:Nat}{w:W3}(h:Inv k m w)(l:Int):Inv k m (yS w l):=h.bad _
theorem Inv.cG{k m:Nat}{w:W3}(h:Inv k m w)(hk:k<=1073741824){L:List Int}(hL:L.length<=1073741824):cG w L=true:=by
 have:=h.sk
 unfold Vd.cG
 exact decide_eq_true (by omega)
theorem Inv.var{k m:Nat}{w:W3}(h:Inv k m w)(y:cb tM)(lo:List Int)(i:den tI):Inv (k+1) m (L' y lo w i):=by
 unfold L'
 dsimp only
 generalize (bif (bif decide (i.1<=34)then decide (i.2.1<(lo.length:Int))else false)then true else bif (bif decide (34<i.1)then decide (i.2.1<(y.2.2.2.2.2.1.length:Int))else false)then(bif decide (i.1=35)then true else(y.2.2.2.2.2.1.getD i.2.1.toNat (cr cI)).2.1)else false)=ok
 generalize (bif (bif decide (i.1<=34)then decide (i.2.1<(lo.length:Int))else false)then lo.getD i.2.1.toNat (cr i64)else bif (bif decide (34<i.1)then decide (i.2.1<(y.2.2.2.2.2.1.length:Int))else false)then(y.2.2.2.2.2.1.getD i.2.1.toNat (cr cI)).1 else 0)=t
 have h1:Inv k m (bif (bif !decide (i.1=32)then !decide (i.1=35)else false)then iz (kh w ok) t else kh w ok):=by
  cases(bif !decide (i.1=32)then !decide (i.1=35)else false)
  ·exact h.XE _
  ·exact(h.XE _).take _
 cases(bif !decide (i.1=33)then !decide (i.1=36)else false)
 ·exact h1.le (Nat.le_succ _) (Nat.le_refl _)
 ·exact h1.ZT [t]
theorem aiA{k m:Nat}{w:W3}(h:Inv k m w)(hk:k<=1073741824)(hm:m<=1073741824)(y:cb tM)(lo:List Int)(i:den tI)(ha:(0:Int)<=i.2.1):(t86 (sF y lo w i)).val=some (cp wZ (wk y lo (L' y lo w i))):=by
 rw[anS]
 dsimp only
 unfold L'
 dsimp only
 have fin: ∀ (t:Int) (ok:Bool),(bif (bif !decide (i.1=32)then !decide (i.1=35)else false)then cz (cW w) (bif (bif !decide (i.1=33)then !decide (i.1=36)else false)then cz (cG (iz (kh w ok) t) [t]) (some (cp wZ (wk y lo (pz (iz (kh w ok) t) [t]))))else some (cp wZ (wk y lo (iz (kh w ok) t))))
  else bif (bif !decide (i.1=33)then !decide (i.1=36)else false)then cz (cG w [t]) (some (cp wZ (wk y lo (pz (kh w ok) [t]))))else some (cp wZ (wk y lo (kh w ok))))=
  some (cp wZ (wk y lo (bif (bif !decide (i.1=33)then !decide (i.1=36)else false)then pz (bif (bif !decide (i.1=32)then !decide (i.1=35)else false)then iz (kh w ok) t else kh w ok) [t]else(bif (bif !decide (i.1=32)then !decide (i.1=35)else false)then iz (kh w ok) t else kh w ok)))):=by
  intro t ok
  rw[h.cW (by omega) (by omega),((h.XE ok).take t).cG hk (L:=[t]) (by simp),h.cG hk (L:=[t]) (by simp)]
  generalize (bif !decide (i.1=32)then !decide (i.1=35)else false)=c1
  generalize (bif !decide (i.1=33)then !decide (i.1=36)else false)=c2
  cases c1<;>cases c2<;>rfl
 simp only[fin]
 by_cases h1:i.1<=(34:Int)
 ·have h2: ¬ (34:Int)<i.1:=Int.not_lt.2 h1
  rw[decide_eq_true h1,decide_eq_false h2]
  simp only[cond_true,cond_false]
  by_cases h3:i.2.1<(lo.length:Int)
  ·have hx:ij i.2.1 (lo.length:Int)=true:=lI.2 ⟨ha,h3⟩
   rw[decide_eq_true h3,hx]
   rfl
  ·rw[decide_eq_false h3]
   rfl
 ·have h2:(34:Int)<i.1:=Int.not_le.1 h1
  rw[decide_eq_true h2,decide_eq_false h1]
  simp only[cond_true,cond_false]
  by_cases h3:i.2.1<(y.2.2.2.2.2.1.length:Int)
  ·have hx:ij i.2.1 (y.2.2.2.2.2.1.length:Int)=true:=lI.2 ⟨ha,h3⟩
   rw[decide_eq_true h3,hx]
   cases decide (i.1=35)<;>rfl
  ·rw[decide_eq_false h3]
   rfl
theorem rK{k m:Nat}{w:W3}(h:Inv k m w)(hm:m<=1073741824){l:Int}(hl:0<=l):(lN w.2.1 l).length<=32:=by
 unfold lN
 cases hd:decide ((w.2.1.length:Int)<=l)with
 |true=>exact Nat.zero_le _
 |false=>
  have hd: ¬ (w.2.1.length:Int)<=l:=of_decide_eq_false hd
  have hx:=ZJ hl hd (by have:=h.sb;omega)
  rw[lI]at hx
  have key: ∀ (a:Int) (n:Nat),0<=a->a<Int.ofNat n->a.toNat<n:=fun a n h1 h2=>by have e:Int.ofNat n=(n:Int):=rfl;omega
  have hj:=key _ _ hx.1 hx.2
  have K8:w.2.1.getD (il .i64 (il .i64 (Int.ofNat w.2.1.length) 1) l).toNat (cr iF)∈w.2.1:=by
   rw[List.getD_eq_getElem?_getD,List.getElem?_eq_getElem hj]
   exact List.getElem_mem hj
  obtain⟨a,b⟩:=h.io _ K8
  simp only[cond_false]
  cases decide ((w.2.1.getD (il .i64 (il .i64 (Int.ofNat w.2.1.length) 1) l).toNat (cr iF)).1=3)with
  |true=>exact a
  |false=>exact b
theorem Inv.cL{k m:Nat}{w:W3}(h:Inv k m w)(hm:m<=1073741824){l:Int}(hl:0<=l):cL w l=true:=by
 have:=h.sb
 unfold Vd.cL
 rw[decide_eq_true hl,decide_eq_true (by omega)]
 rfl
def pJ(last:List Int)(w:W3)(l:Int):W3:=IG (kh (yS w l) (decide (((lN w.2.1 l).length:Int)=(last.length:Int)))) (lN w.2.1 l)
theorem Rd(y:cb tM)(lo last L:List Int)(m K:Nat)(hK:K<=1073741824)(hm:m<=1073741824)(h0: ∀ l,l∈L->(0:Int)<=l)(hL:L.length<=1073741824){k:Nat}{w:W3}(h:Inv k m w)(hk:k+32*L.length<=K):
 mm L5 (cp w6 (wkJ y lo w last L (L.length:Int) 0)) 0 (cp qp (TK y lo (L.foldl (pJ last) w) last))/\Inv (k+32*L.length) m (L.foldl (pJ last) w):=by
 constructor
 ·have:=LP (f:=L5) (l:=L) (fun(s:W3) j=>cp w6 (wkJ y lo s last L (L.length:Int) (j:Int))) (fun s x=>.inl (pJ last s x)) (fun s=>(0,cp qp (TK y lo s last))) (fun s r=>(∃ k,Inv k m s/\k+32*r.length<=K)/\ ∀ l,l∈r->(0:Int)<=l) (fun s j x r e hi=>by
   obtain⟨⟨k,i1,i2⟩,i3⟩:=hi
   obtain⟨e1,e2⟩:=iT e (cr i64)
   simp only[List.length_cons]at i2
   have hx:=i3 x List.mem_cons_self
   have hl:=rK i1 hm hx
   have i4:=(i1.XF x).XE (decide (((lN s.2.1 x).length:Int)=(last.length:Int)))
   have s85:=mT (aiz i4 (by omega) hm y lo (lN s.2.1 x) hl)
   refine⟨?_,fun s' e=>?_⟩
   ·rw[ZM y lo s last L _ _ x (by rw[Int.toNat_natCast];exact e2.symm) _ rfl _ s85.2.symm,jq e1,cond_true,D6 e1,i1.cL hm hx,show k85 (TK y lo (kh (yS s x) (decide (((lN s.2.1 x).length:Int)=(last.length:Int)))) (lN s.2.1 x))=true from s85.1,nQ (by omega)]
    rfl
   ·cases e
    exact⟨⟨k+32,(i4.again (lN s.2.1 x)).le (by omega) (Nat.le_refl _),by omega⟩,fun l hl=>i3 l (List.mem_cons_of_mem _ hl)⟩) (fun s j e hj hi=>by
   have:j=L.length:=by have:=List.drop_eq_nil_iff.1 e;omega
   subst this
   rw[ZM y lo s last L _ _ _ rfl _ rfl _ rfl,iQ (Nat.le_refl _)]
   rfl) L 0 w rfl (by omega) ⟨⟨k,h,hk⟩,h0⟩
  rw[j8]at this
  exact this
 ·clear hL hk
  induction L generalizing k w with
  |nil=>exact h.le (by simp) (Nat.le_refl _)
  |cons x r ih=>
   have hx:=h0 x List.mem_cons_self
   have hl:=rK h hm hx
   have i4:=(h.XF x).XE (decide (((lN w.2.1 x).length:Int)=(last.length:Int)))
   have:=ih (fun l hl=>h0 l (List.mem_cons_of_mem _ hl)) ((i4.again (lN w.2.1 x)).le (k':=k+32) (by omega) (Nat.le_refl _))
   exact this.le (by simp only[List.length_cons];omega) (Nat.le_refl _)
def II(w:W3)(i:den tI):W3:=i.2.2.2.2.2.foldl (pJ (lN w.2.1 i.2.1)) (yS (iz w 127) i.2.1)
def yq(y:cb tM)(lo:List Int)(w:W3)(i:den tI):W3:=
 let T:=lN w.2.1 i.2.1
 let u:=yS (iz w 127) i.2.1
 bif decide (i.1=0)then vF w else
 bif decide (i.1=12)then vF (j7 (yS w i.2.1) T)else
 bif decide (i.1=13)then pz (j7 u T) T else
 bif decide (i.1=14)then vF (j7 (II w i) T)else
 bif decide (i.1=15)then vF (j7 w (w.2.1.getD 0 (cr iF)).2.2.2.1)else L' y lo w i
def BkA(a:Int):Prop:=a= -64∨a= -1∨a= -2∨a= -5∨(0:Int)<=a
structure IOk(i:den tI):Prop where
 a: ∀ f,f=(kM i.1).1->(f=3∨f=4∨f=5∨f=6)->(0:Int)<=i.2.1/\(i.2.1:Int)<4294967296
 l:(kM i.1).1=4-> ∀ x,x∈i.2.2.2.2.2->(0:Int)<=x
 n:i.2.2.2.2.2.length<=16777216
 is:A0 i.1=true
 k:(kM i.1).1=2->BkA i.2.1
theorem Re{k m:Nat}{w:W3}(h:Inv k m w):(w.2.1.getD 0 (cr iF)).2.2.2.1.length<=32:=by
 have hl:=h.len
 have K8:w.2.1.getD 0 (cr iF)∈w.2.1:=by
  rw[List.getD_eq_getElem?_getD,List.getElem?_eq_getElem hl]
  exact List.getElem_mem hl
 exact(h.io _ K8).2
theorem Inv.jump{k m:Nat}{w:W3}(h:Inv k m w)(hm:m<=1073741824)(y:cb tM)(lo:List Int)(i:den tI)(ha:i.1=12∨i.1=13∨i.1=14->(0:Int)<=i.2.1)(hl:i.1=14-> ∀ x,x∈i.2.2.2.2.2->(0:Int)<=x)(hk:k+32*i.2.2.2.2.2.length<=1073741824)(hn:i.2.2.2.2.2.length<=16777216):Inv (k+32) m (yq y lo w i):=by
 unfold yq
 dsimp only
 by_cases h0:(i.1:Int)=0
 ·rw[decide_eq_true h0];exact h.die.le (by omega) (Nat.le_refl _)
 rw[decide_eq_false h0,cond_false]
 by_cases h1:(i.1:Int)=12
 ·rw[decide_eq_true h1];exact((h.XF _).GC _).die.le (by omega) (Nat.le_refl _)
 rw[decide_eq_false h1,cond_false]
 by_cases h2:(i.1:Int)=13
 ·rw[decide_eq_true h2]
  have:=rK h hm (ha (.inr (.inl h2)))
  exact((((h.take 127).XF _).GC _).ZT _).le (by omega) (Nat.le_refl _)
 rw[decide_eq_false h2,cond_false]
 by_cases h3:(i.1:Int)=14
 ·rw[decide_eq_true h3]
  have r:=(Rd y lo (lN w.2.1 i.2.1) i.2.2.2.2.2 m 1073741824 (by omega) hm (hl h3) (by omega) ((h.take 127).XF i.2.1) hk).2
  have q:=(r.GC (lN w.2.1 i.2.1)).die
  have hle:(vF (j7 (II w i) (lN w.2.1 i.2.1))).1.length<=k+32:=by
   have eb: ∀ (L:List Int) (v:W3),(L.foldl (pJ (lN w.2.1 i.2.1)) v).2.1=v.2.1:=by
    intro L
    induction L with
    |nil=>intro v;rfl
    |cons x L ih=>intro v;exact(ih (pJ (lN w.2.1 i.2.1) v x)).trans rfl
   have e2:(II w i).2.1=w.2.1:=eb _ _
   show(List.take (iY (II w i).2.1).2.1.toNat _).length<=_
   rw[e2,List.length_take]
   have key: ∀ (a:Int) (n q:Nat),a<=(n:Int)->n<=k->min a.toNat q<=k+32:=fun a n q _ _=>by omega
   exact key _ _ _ (h.ht _ h.mem).2 h.sk
  exact⟨q.ne,q.pw,q.ht,q.io,hle,q.sb⟩
 rw[decide_eq_false h3,cond_false]
 by_cases h4:(i.1:Int)=15
 ·rw[decide_eq_true h4];exact(h.GC _).die.le (by omega) (Nat.le_refl _)
 rw[decide_eq_false h4,cond_false]
 exact(h.var y lo i).le (by omega) (Nat.le_refl _)
theorem aiC{k m:Nat}{w:W3}(h:Inv k m w)(hm:m<=1073741824)(y:cb tM)(lo:List Int)(i:den tI)(hk:k+32*i.2.2.2.2.2.length<=1073741824)(hn:i.2.2.2.2.2.length<=16777216)
 (ha:i.1=12∨i.1=13∨i.1=14->(0:Int)<=i.2.1)(hl:i.1=14-> ∀ x,x∈i.2.2.2.2.2->(0:Int)<=x)(hv: ¬ i.1=0-> ¬ i.1=15->(0:Int)<=i.2.1):(t77 (sF y lo w i)).val=some (cp Be (wk y lo (yq y lo w i))):=by
 have hD: ∀ {k m:Nat} {v:W3},Inv k m v->k<=1073741824->m<=1073741824->cz (cW v) (some (cp Be (wk y lo (vF v))))=some (cp Be (wk y lo (vF v))):=fun hi hk hm=>by rw[hi.cW (by omega) (by omega)];rfl
 have k0:k<=1073741824:=by omega
 by_cases h3:(i.1:Int)=14
 ·have r:=Rd y lo (lN w.2.1 i.2.1) i.2.2.2.2.2 m 1073741824 (by omega) hm (hl h3) (by omega) ((h.take 127).XF i.2.1) hk
  obtain⟨a,b⟩:=ru r.1
  rw[air y lo w i _ rfl _ rfl _ b.symm]
  unfold yq
  have hT:=rK h hm (ha (.inr (.inr h3)))
  have c1:=r.2.cT (L:=lN w.2.1 i.2.1) (by omega) (by omega) (by omega)
  have c2:=(r.2.GC (lN w.2.1 i.2.1)).cW (by omega) (by omega)
  dsimp only
  rw[decide_eq_true h3,h.cW (by omega) (by omega),(h.take 127).cL hm (ha (.inr (.inr h3))),a,decide_eq_false (ve h3 (c:=0) (by decide)),decide_eq_false (ve h3 (c:=12) (by decide)),decide_eq_false (ve h3 (c:=13) (by decide))]
  simp only[cond_true,cond_false,cz]
  refine Eq.trans (b:=bif cT (i.2.2.2.2.2.foldl (pJ (lN w.2.1 i.2.1)) (yS (iz w 127) i.2.1)) (lN w.2.1 i.2.1)then _ else none) rfl ?_
  rw[c1,cond_true]
  refine Eq.trans (b:=bif cW (j7 (i.2.2.2.2.2.foldl (pJ (lN w.2.1 i.2.1)) (yS (iz w 127) i.2.1)) (lN w.2.1 i.2.1))then _ else none) rfl ?_
  rw[c2,cond_true]
  rfl
 ·rw[air y lo w i _ rfl _ rfl _ rfl]
  unfold yq
  dsimp only
  rw[decide_eq_false h3,cond_false,cond_false]
  by_cases h0:(i.1:Int)=0
  ·rw[decide_eq_true h0];exact hD h k0 hm
  rw[decide_eq_false h0,cond_false,cond_false]
  by_cases h1:(i.1:Int)=12
  ·have hT:=rK h hm (ha (.inl h1))
   rw[decide_eq_true h1,h.cL hm (ha (.inl h1)),(h.XF i.2.1).cT (by omega) (by omega) (L:=lN w.2.1 i.2.1) (by omega)]
   exact hD ((h.XF i.2.1).GC _) k0 hm
  rw[decide_eq_false h1,cond_false,cond_false]
  by_cases h2:(i.1:Int)=13
  ·have hT:=rK h hm (ha (.inr (.inl h2)))
   have q:=(h.take 127).XF i.2.1
   rw[decide_eq_true h2,h.cW (by omega) (by omega),(h.take 127).cL hm (ha (.inr (.inl h2))),q.cT (by omega) (by omega) (L:=lN w.2.1 i.2.1) (by omega),(q.GC _).cG k0 (L:=lN w.2.1 i.2.1) (by omega)]
   rfl
  rw[decide_eq_false h2,cond_false,cond_false]
  by_cases h4:(i.1:Int)=15
  ·have hT:=Re h
   rw[decide_eq_true h4,show ij 0 (w.2.1.length:Int)=true from D6 (j:=0) h.len,h.cT (by omega) (by omega) (L:=(w.2.1.getD 0 (cr iF)).2.2.2.1) (by omega)]
   exact hD (h.GC _) k0 hm
  rw[decide_eq_false h4,cond_false,cond_false]
  have s86:=mT (aiA h k0 hm y lo i (hv h0 h4))
  rw[show k86 (sF y lo w i)=true from s86.1,show m86 (sF y lo w i)=_ from s86.2]
  rfl
end Go.Proofs.Vd

noncomputable section
namespace Go.Proofs.Vd
open Go.Ab Go.Ab.Lf
set_option maxRecDepth 100000
def Kf(w:W3)(i:den tI):W3:=(mVL i.2.2.2.1 i.2.2.2.2.1).foldl (fun w c=>kh w (decide (c<32))) w
theorem anY(y:cb tM)(lo:List Int)(w:W3)(i:den tI)(f:cb oN):(t70 (ZN y lo w i f)).val=
 (let ret:=fun v:W3=>some (cp zu (wk y lo v))
 let M2:=fun v:W3=>bif !decide (f.1=8)then ret (kh v true)else cz (decide (0<=f.2.1)) (ret (kh v (decide (i.2.2.2.1<pX .u64 16 f.2.1))))
 let M:=bif decide (0<(y.2.2.2.2.1.length:Int))then M2 (kh w (decide (i.2.1<=f.2.1)))else M2 (kh w false)
 bif decide (f.1=7)then M else bif decide (f.1=8)then M else bif decide (f.1=14)then M else
 bif decide (f.1=13)then ret (kh w (decide (i.2.1<f.2.1)))else
 bif decide (f.1=12)then ret (Kf w i)else ret w):=by kernel_rfl
def GD(y:cb tM)(w:W3)(i:den tI)(f:cb oN):W3:=
 let M:=kh (kh w (bif decide (0<(y.2.2.2.2.1.length:Int))then decide (i.2.1<=f.2.1)else false)) (bif !decide (f.1=8)then true else decide (i.2.2.2.1<pX .u64 16 f.2.1))
 bif decide (f.1=7)then M else bif decide (f.1=8)then M else bif decide (f.1=14)then M else
 bif decide (f.1=13)then kh w (decide (i.2.1<f.2.1))else bif decide (f.1=12)then Kf w i else w
theorem aiD(y:cb tM)(lo:List Int)(w:W3)(i:den tI)(f:cb oN)(hf:(0:Int)<=f.2.1):WQ (ZN y lo w i f)=wk y lo (GD y w i f):=by
 refine(mT (t:=t70 (ZN y lo w i f)) ?_).2
 rw[anY]
 unfold GD
 dsimp only
 rw[decide_eq_true hf]
 generalize decide (f.1=7)=c1
 generalize decide (f.1=8)=c2
 generalize decide (f.1=14)=c3
 generalize decide (f.1=13)=c4
 generalize decide (f.1=12)=c5
 generalize decide (0<(y.2.2.2.2.1.length:Int))=c6
 cases c1<;>cases c2<;>cases c3<;>cases c4<;>cases c5<;>cases c6<;>rfl
theorem IJ(w:W3)(i:den tI): ∃ b,Kf w i=(w.1,w.2.1,b):=by
 unfold Kf
 have key: ∀ (l:List Int) (v:W3),(∃ b,v=(w.1,w.2.1,b))-> ∃ b,l.foldl (fun w c=>kh w (decide (c<32))) v=(w.1,w.2.1,b):=by
  intro l
  induction l with
  |nil=>intro v h;exact h
  |cons x l ih=>
   intro v h
   obtain⟨b,rfl⟩:=h
   exact ih _ ⟨_,rfl⟩
 exact key _ w ⟨_,rfl⟩
theorem xX(y:cb tM)(w:W3)(i:den tI)(f:cb oN): ∃ b,GD y w i f=(w.1,w.2.1,b):=by
 unfold GD
 dsimp only
 cases decide (f.1=7)with
 |true=>exact⟨_,rfl⟩
 |false=>
  cases decide (f.1=8)with
  |true=>exact⟨_,rfl⟩
  |false=>
   cases decide (f.1=14)with
   |true=>exact⟨_,rfl⟩
   |false=>
    cases decide (f.1=13)with
    |true=>exact⟨_,rfl⟩
    |false=>
     cases decide (f.1=12)with
     |true=>exact IJ w i
     |false=>exact⟨_,rfl⟩
theorem Inv.fld{k m:Nat}{w:W3}(h:Inv k m w)(y:cb tM)(i:den tI)(f:cb oN):Inv k m (GD y w i f):=by
 obtain⟨b,e⟩:=xX y w i f
 rw[e]
 exact h.bad b
def GF(y:cb tM)(i:den tI)(v:W3):W3:=
 let g:=kg y.1 i.2.1
 let S:=j7 (v.1,v.2.1,oB y.1 i.2.1 v.2.2) g.1
 pz (S.1,jR S.1 S.2.1 i.1 g.1 g.2,S.2.2) g.1
def aiE(w:W3):W3:=
 let v:=iz w 127
 let t:=(jQ v.1 v.2.1 v.2.2 0).1
 let u:=iz v 0
 pz (iz u t) [(jQ u.1 u.2.1 u.2.2 t).1]
def aef(y:cb tM)(w:W3)(i:den tI):W3:=pz (j7 (GD y w i (kM i.1)) (kM i.1).2.2.2.1) (kM i.1).2.2.2.2.1
def j6(y:cb tM)(lo:List Int)(w:W3)(i:den tI):W3:=
 bif (kM i.1).2.2.1 then aef y w i else
 bif decide (i.1=2)||(decide (i.1=3)||decide (i.1=4))then GF y i (bif decide (i.1=4)then iz w 127 else w)else
 bif decide (i.1=5)||decide (i.1=11)then qP w i.1 else
 bif decide (i.1=26)then iz w 0 else
 bif decide (i.1=27)then aiE w else
 bif decide (i.1=16)then(let c:=iB y.1 (jj y.2.1 y.2.2.1 i.2.1);pz (j7 (kh w (jh y.1 (jj y.2.1 y.2.2.1 i.2.1))) c.1) c.2)else
 bif decide (i.1=17)then(let d:=iB y.1 i.2.1;pz (j7 (iz (kh w (bif jh y.1 i.2.1 then(bif decide (0<(y.2.2.2.1.length:Int))then decide (i.2.2.1=0)else false)else false)) 127) d.1) d.2)else
 yq y lo w i
def BW(y:cb tM):Prop:= ∀ s:den cF,s∈y.1->List.length s.1<=32/\List.length s.2<=32
theorem GG{y:cb tM}(h:BW y):gT y.1=true:=by
 unfold gT
 rw[List.all_eq_true]
 intro s hs
 obtain⟨h1,h2⟩:=h s hs
 rw[decide_eq_true (by omega),decide_eq_true (by omega)]
 rfl
theorem qe{y:cb tM}(h:BW y)(k:Int):List.length (iB y.1 k).1<=32/\List.length (iB y.1 k).2<=32:=by
 unfold iB
 cases hk:jh y.1 k with
 |false=>exact⟨Nat.zero_le _,Nat.zero_le _⟩
 |true=>
  unfold jh at hk
  have h1: ¬ k<0:=fun e=>by rw[decide_eq_true e]at hk;cases hk
  have h2: ¬ (y.1.length:Int)<=k:=fun e=>by rw[decide_eq_false h1,decide_eq_true e]at hk;cases hk
  have hj:k.toNat<y.1.length:=by omega
  refine h _ ?_
  rw[List.getD_eq_getElem?_getD,List.getElem?_eq_getElem hj]
  exact List.getElem_mem hj
theorem Kg{y:cb tM}(h:BW y)(a:Int):List.length (kg y.1 a).1<=32/\List.length (kg y.1 a).2<=32:=by
 unfold kg
 cases decide (0<=a)with
 |true=>exact qe h a
 |false=>
  cases decide (a= -64)with
  |true=>exact⟨Nat.zero_le _,Nat.zero_le _⟩
  |false=>exact⟨Nat.zero_le _,by show List.length [_]<=32;simp⟩
theorem Inv.blk{k m:Nat}{w:W3}(h:Inv k m w){y:cb tM}(ht:BW y)(i:den tI):Inv (k+32) (m+1) (GF y i w):=by
 obtain⟨a,b⟩:=Kg ht i.2.1
 have q:=((h.bad (oB y.1 i.2.1 w.2.2)).GC (kg y.1 i.2.1).1).opn i.1 a b
 exact(q.ZT (kg y.1 i.2.1).1).le (by omega) (Nat.le_refl _)
theorem Inv.Ex{k m:Nat}{w:W3}(h:Inv k m w):Inv (k+1) m (aiE w):=(((h.take 127).take 0).take _).ZT [_]
theorem Inv.pln{k m:Nat}{w:W3}(h:Inv k m w)(y:cb tM)(i:den tI):Inv (k+16) m (aef y w i):=
 (((h.fld y i (kM i.1)).GC _).ZT _).le (by have:=(Q7 i.1).2.2.1;omega) (Nat.le_refl _)
theorem Inv.close{k m:Nat}{w:W3}(h:Inv k m w)(n:Int)(nd:(qP w n).2.1≠[]):Inv (k+32) m (qP w n):=by
 have hio:=h.io _ h.mem
 have hS:Inv k m ((pA w).1,w.2.1,(pA w).2):=h.GC (iY w.2.1).2.2.2.1
 unfold qP at nd ⊢
 obtain⟨r,B,e⟩:=xd h.ne
 have ec:vG w=r:=by unfold vG;rw[e];simp
 have et:iY w.2.1=B:=by rw[e,uF]
 cases hb:D8 w with
 |true=>
  rw[ec,et,cond_true,<-e]
  exact(hS.bad true).le (by omega) (Nat.le_refl _)
 |false=>
  rw[hb]at nd
  simp only[cond_false]at nd ⊢
  have hh:((pA w).1.length:Int)=(iY w.2.1).2.1:=by
   unfold D8 at hb
   rw[Bool.or_eq_false_iff]at hb
   have:=hb.2
   simpa using this
  have hp:=h.pw
  have hht:=h.ht
  have aeg:=h.io
  have hsb:=h.sb
  have hsk:=hS.sk
  rw[e]at hp hht aeg hsb
  rw[List.pairwise_append]at hp
  rw[ec]at nd ⊢
  have hr: ∀ b,b∈r->(b.2.1:Int)<=((pA w).1.length:Int):=fun b hb=>by rw[hh,et];exact hp.2.2 b hb B (by simp)
  have hsk:(pA w).1.length<=k:=hsk
  cases hn5:decide (n=5)with
  |true=>
   rw[hn5]at nd
   simp only[cond_true]at nd ⊢
   refine⟨nd,?_,?_,?_,?_,?_⟩
   ·show(jR _ _ _ _ _).Pairwise _
    unfold jR
    rw[List.pairwise_append]
    refine⟨hp.1,List.pairwise_singleton _ _,fun a ha b hb=>?_⟩
    have:b=(5,((pA w).1.length:Int),(iY w.2.1).2.2.1,(iY w.2.1).2.2.2.1,false,yo r):=by simpa using hb
    rw[this]
    exact hr a ha
   ·intro b hb
    unfold jR at hb
    rcases List.mem_append.1 hb with hb|hb
    ·exact⟨(hht b (List.mem_append_left _ hb)).1,Int.le_trans (hr b hb) (by show _<=(((pA w).1++(iY w.2.1).2.2.1).length:Int);rw[List.length_append];omega)⟩
    ·have:b=(5,((pA w).1.length:Int),(iY w.2.1).2.2.1,(iY w.2.1).2.2.2.1,false,yo r):=by simpa using hb
     rw[this]
     exact⟨Int.natCast_nonneg _,by show((pA w).1.length:Int)<=(((pA w).1++(iY w.2.1).2.2.1).length:Int);rw[List.length_append];omega⟩
   ·intro b hb
    unfold jR at hb
    rcases List.mem_append.1 hb with hb|hb
    ·exact aeg b (List.mem_append_left _ hb)
    ·have:b=(5,((pA w).1.length:Int),(iY w.2.1).2.2.1,(iY w.2.1).2.2.2.1,false,yo r):=by simpa using hb
     rw[this]
     exact hio
   ·show((pA w).1++(iY w.2.1).2.2.1).length<=_
    rw[List.length_append]
    omega
   ·show(jR _ _ _ _ _).length<=_
    unfold jR
    simpa using hsb
  |false=>
   rw[hn5]at nd
   simp only[cond_false]at nd ⊢
   refine⟨nd,hp.1,fun b hb=>?_,fun b hb=>aeg b (List.mem_append_left _ hb),?_,?_⟩
   ·exact⟨(hht b (List.mem_append_left _ hb)).1,Int.le_trans (hr b hb) (by show _<=(((pA w).1++(iY w.2.1).2.2.2.1).length:Int);rw[List.length_append];omega)⟩
   ·show((pA w).1++(iY w.2.1).2.2.2.1).length<=_
    rw[List.length_append]
    omega
   ·have:(r++[B]).length<=m:=hsb
    rw[List.length_append]at this
    show r.length<=m
    omega
end Go.Proofs.Vd

noncomputable section
namespace Go.Proofs.Vd
open Go.Ab Go.Ab.Lf
set_option maxRecDepth 100000
theorem IOk.np{i:den tI}(h:IOk i)(hp:(kM i.1).2.2.1=false):(¬ (2<=(i.1:Int)/\(i.1:Int)<=5)-> ¬ (i.1:Int)=0-> ¬ (i.1:Int)=11-> ¬ (i.1:Int)=15-> ¬ (i.1:Int)=26-> ¬ (i.1:Int)=27->(0:Int)<=i.2.1/\(i.2.1:Int)<4294967296)/\((i.1:Int)=14-> ∀ x,x∈i.2.2.2.2.2->(0:Int)<=x):=by
 have hn:=aiv h.is hp
 have key: ∀ (o f:Int),npP o f=true->(f=3∨f=4∨f=5∨f=6∨((2<=o/\o<=5)∨o=0∨o=11∨o=15∨o=26∨o=27))/\(o=14->f=4):=by
  intro o f h
  unfold npP at h
  by_cases f1:f=1
  ·rw[decide_eq_true f1]at h
   simp only[cond_true,Bool.or_eq_true,decide_eq_true_eq]at h
   omega
  rw[decide_eq_false f1,cond_false]at h
  by_cases f2:f=2
  ·rw[decide_eq_true f2]at h
   simp only[cond_true,Bool.or_eq_true,decide_eq_true_eq]at h
   omega
  rw[decide_eq_false f2,cond_false]at h
  by_cases f3:f=3
  ·rw[decide_eq_true f3]at h
   simp only[cond_true,Bool.or_eq_true,decide_eq_true_eq]at h
   omega
  rw[decide_eq_false f3,cond_false]at h
  by_cases f4:f=4
  ·rw[decide_eq_true f4]at h
   simp only[cond_true,decide_eq_true_eq]at h
   omega
  rw[decide_eq_false f4,cond_false]at h
  by_cases f5:f=5
  ·rw[decide_eq_true f5]at h
   simp only[cond_true,Bool.or_eq_true,Bool.and_eq_true,decide_eq_true_eq]at h
   omega
  rw[decide_eq_false f5,cond_false]at h
  by_cases f6:f=6
  ·rw[decide_eq_true f6]at h
   simp only[cond_true,decide_eq_true_eq]at h
   omega
  rw[decide_eq_false f6]at h
  cases h
 obtain⟨k1,k2⟩:=key _ _ hn
 refine⟨fun a b c d e f=>?_,fun e=>h.l (k2 e)⟩
 rcases k1 with q|q|q|q|q|q|q|q|q|q
 ·exact h.a _ rfl (.inl q)
 ·exact h.a _ rfl (.inr (.inl q))
 ·exact h.a _ rfl (.inr (.inr (.inl q)))
 ·exact h.a _ rfl (.inr (.inr (.inr q)))
 ·exact(a q).elim
 ·exact(b q).elim
 ·exact(c q).elim
 ·exact(d q).elim
 ·exact(e q).elim
 ·exact(f q).elim
theorem Inv.step{k m:Nat}{w:W3}(h:Inv k m w){y:cb tM}(ht:BW y)(lo:List Int){i:den tI}(hi:IOk i)(hk:k+32*i.2.2.2.2.2.length<=1073741824)(hm:m<=1073741824)(nd:(j6 y lo w i).2.1≠[]):Inv (k+32) (m+1) (j6 y lo w i):=by
 unfold j6 at nd ⊢
 cases hp:(kM i.1).2.2.1 with
 |true=>exact(h.pln y i).le (by omega) (by omega)
 |false=>
  rw[hp]at nd
  simp only[cond_false]at nd ⊢
  obtain⟨n1,n2⟩:=hi.np hp
  cases c1:decide (i.1=2)||(decide (i.1=3)||decide (i.1=4))with
  |true=>
   simp only[cond_true]
   cases decide (i.1=4)with
   |true=>exact(h.take 127).blk ht i
   |false=>exact h.blk ht i
  |false=>
   rw[c1]at nd
   simp only[cond_false]at nd ⊢
   cases c2:decide (i.1=5)||decide (i.1=11)with
   |true=>
    rw[c2]at nd
    exact(h.close i.1 nd).le (by omega) (by omega)
   |false=>
    rw[c2]at nd
    simp only[cond_false]at nd ⊢
    cases c3:decide (i.1=26)with
    |true=>exact(h.take 0).le (by omega) (by omega)
    |false=>
     simp only[cond_false]
     cases c4:decide (i.1=27)with
     |true=>exact h.Ex.le (by omega) (by omega)
     |false=>
      simp only[cond_false]
      cases c5:decide (i.1=16)with
      |true=>
       have:=qe ht (jj y.2.1 y.2.2.1 i.2.1)
       exact(((h.XE _).GC _).ZT _).le (by omega) (by omega)
      |false=>
       simp only[cond_false]
       cases c6:decide (i.1=17)with
       |true=>
        have:=qe ht i.2.1
        exact((((h.XE _).take 127).GC _).ZT _).le (by omega) (by omega)
       |false=>
        simp only[cond_false]
        simp only[Bool.or_eq_false_iff,decide_eq_false_iff_not]at c1 c2 c3 c4 c5 c6
        have key: ∀ o:Int,(¬ o=2/\ ¬ o=3/\ ¬ o=4)->(¬ o=5/\ ¬ o=11)-> ¬ (2<=o/\o<=5):=fun o _ _=>by omega
        refine(h.jump hm y lo i (fun e=>?_) n2 hk hi.n).le (Nat.le_refl _) (Nat.le_succ _)
        have ne0: ∀ o:Int,o=12∨o=13∨o=14-> ¬ o=0/\ ¬ o=15:=fun o _=>by omega
        exact(n1 (key _ c1 c2) (ne0 _ e).1 c2.2 (ne0 _ e).2 c3 c4).1
theorem aiG{k m:Nat}{w:W3}(h:Inv k m w){y:cb tM}(ht:BW y)(lo:List Int){i:den tI}(hi:IOk i)(hk:k+32*i.2.2.2.2.2.length<=1073741823)(hm:m<=1073741823)(K9:y.2.1.length<=1099511627776):(t62 (sF y lo w i)).val=some (cp ph (wk y lo (j6 y lo w i))):=by
 obtain⟨l1,l2,l3,_,_⟩:=Q7 i.1
 have k0:k<=1073741823:=by omega
 have hz:=aiD y lo w i (kM i.1) l1
 rw[anT y (GG ht) lo w i _ rfl _ hz.symm _ rfl _ rfl _ rfl]
 unfold j6
 dsimp only
 cases hp:(kM i.1).2.2.1 with
 |true=>
  have q:=h.fld y i (kM i.1)
  have e:WR (ZN y lo w i (kM i.1))=true:=decide_eq_true l1
  simp only[cond_true]
  rw[e]
  obtain⟨b,eb⟩:=xX y w i (kM i.1)
  have c1:=q.cT (L:=(kM i.1).2.2.2.1) (by omega) (by omega) (by omega)
  have c2:=(q.GC (kM i.1).2.2.2.1).cG (by omega) (L:=(kM i.1).2.2.2.2.1) (by omega)
  refine Eq.trans (b:=bif cT (GD y w i (kM i.1)) (kM i.1).2.2.2.1 then _ else none) rfl ?_
  rw[c1,cond_true]
  refine Eq.trans (b:=bif cG (j7 (GD y w i (kM i.1)) (kM i.1).2.2.2.1) (kM i.1).2.2.2.2.1 then _ else none) rfl ?_
  rw[c2,cond_true]
  rfl
 |false=>
  simp only[cond_false]
  obtain⟨n1,n2⟩:=hi.np hp
  have B2: ∀ {k m:Nat} {v:W3},Inv k m v->k<=1073741823->m<=1073741823->cz (cT (v.1,v.2.1,oB y.1 i.2.1 v.2.2) (kg y.1 i.2.1).1) (
   cz (decide ((j7 (v.1,v.2.1,oB y.1 i.2.1 v.2.2) (kg y.1 i.2.1).1).2.1.length+1<=549755813888)) (
    cz (cG ((j7 (v.1,v.2.1,oB y.1 i.2.1 v.2.2) (kg y.1 i.2.1).1).1,jR (j7 (v.1,v.2.1,oB y.1 i.2.1 v.2.2) (kg y.1 i.2.1).1).1 (j7 (v.1,v.2.1,oB y.1 i.2.1 v.2.2) (kg y.1 i.2.1).1).2.1 i.1 (kg y.1 i.2.1).1 (kg y.1 i.2.1).2,(j7 (v.1,v.2.1,oB y.1 i.2.1 v.2.2) (kg y.1 i.2.1).1).2.2) (kg y.1 i.2.1).1)
     (some (cp ph (wk y lo (GF y i v))))))=some (cp ph (wk y lo (GF y i v))):=by
   intro k m v q hk hm
   obtain⟨a,b⟩:=Kg ht i.2.1
   have q1:=q.bad (oB y.1 i.2.1 v.2.2)
   have q2:=q1.GC (kg y.1 i.2.1).1
   have q3:=q2.opn i.1 a b
   have hb:v.2.1.length<=m:=q.sb
   have c0:decide ((j7 (v.1,v.2.1,oB y.1 i.2.1 v.2.2) (kg y.1 i.2.1).1).2.1.length+1<=549755813888)=true:=decide_eq_true (by show v.2.1.length+1<=_;omega)
   rw[q1.cT (by omega) (by omega) (L:=(kg y.1 i.2.1).1) (by omega),c0,q3.cG (by omega) (L:=(kg y.1 i.2.1).1) (by omega)]
   rfl
  have Bf:(bif decide (i.1=4)then cz (cW w) (cz (cT ((iz w 127).1,(iz w 127).2.1,oB y.1 i.2.1 (iz w 127).2.2) (kg y.1 i.2.1).1) (
   cz (decide ((j7 ((iz w 127).1,(iz w 127).2.1,oB y.1 i.2.1 (iz w 127).2.2) (kg y.1 i.2.1).1).2.1.length+1<=549755813888)) (
    cz (cG ((j7 ((iz w 127).1,(iz w 127).2.1,oB y.1 i.2.1 (iz w 127).2.2) (kg y.1 i.2.1).1).1,jR (j7 ((iz w 127).1,(iz w 127).2.1,oB y.1 i.2.1 (iz w 127).2.2) (kg y.1 i.2.1).1).1 (j7 ((iz w 127).1,(iz w 127).2.1,oB y.1 i.2.1 (iz w 127).2.2) (kg y.1 i.2.1).1).2.1 i.1 (kg y.1 i.2.1).1 (kg y.1 i.2.1).2,(j7 ((iz w 127).1,(iz w 127).2.1,oB y.1 i.2.1 (iz w 127).2.2) (kg y.1 i.2.1).1).2.2) (kg y.1 i.2.1).1)
     (some (cp ph (wk y lo (GF y i (iz w 127))))))))else cz (cT (w.1,w.2.1,oB y.1 i.2.1 w.2.2) (kg y.1 i.2.1).1) (
   cz (decide ((j7 (w.1,w.2.1,oB y.1 i.2.1 w.2.2) (kg y.1 i.2.1).1).2.1.length+1<=549755813888)) (
    cz (cG ((j7 (w.1,w.2.1,oB y.1 i.2.1 w.2.2) (kg y.1 i.2.1).1).1,jR (j7 (w.1,w.2.1,oB y.1 i.2.1 w.2.2) (kg y.1 i.2.1).1).1 (j7 (w.1,w.2.1,oB y.1 i.2.1 w.2.2) (kg y.1 i.2.1).1).2.1 i.1 (kg y.1 i.2.1).1 (kg y.1 i.2.1).2,(j7 (w.1,w.2.1,oB y.1 i.2.1 w.2.2) (kg y.1 i.2.1).1).2.2) (kg y.1 i.2.1).1)
     (some (cp ph (wk y lo (GF y i w)))))))=some (cp ph (wk y lo (GF y i (bif decide (i.1=4)then iz w 127 else w)))):=by
   cases decide (i.1=4)with
   |true=>rw[cond_true,cond_true,h.cW (by omega) (by omega)];exact B2 (h.take 127) k0 hm
   |false=>exact B2 h k0 hm
  by_cases d2:(i.1:Int)=2
  ·rw[decide_eq_true d2,cond_true];exact Bf
  rw[decide_eq_false d2,cond_false]
  by_cases d3:(i.1:Int)=3
  ·rw[decide_eq_true d3,cond_true];exact Bf
  rw[decide_eq_false d3,cond_false]
  by_cases d4:(i.1:Int)=4
  ·have:=Bf
   rw[decide_eq_true d4]at this ⊢
   exact this
  rw[decide_eq_false d4,cond_false]
  simp only[Bool.false_or,cond_false]
  have s75:=mT (aiy h (by omega) (by omega) y lo i.1)
  have e75:cz (k75 (TL y lo w i.1)) (some (cp ph (m75 (TL y lo w i.1))))=some (cp ph (wk y lo (qP w i.1))):=by
   rw[show k75 (TL y lo w i.1)=true from s75.1,show m75 (TL y lo w i.1)=_ from s75.2]
   rfl
  by_cases d5:(i.1:Int)=5
  ·rw[decide_eq_true d5,cond_true];exact e75
  rw[decide_eq_false d5,cond_false]
  by_cases d11:(i.1:Int)=11
  ·rw[decide_eq_true d11,cond_true];exact e75
  rw[decide_eq_false d11,cond_false]
  simp only[Bool.false_or,cond_false]
  by_cases d26:(i.1:Int)=26
  ·rw[decide_eq_true d26,h.cW (by omega) (by omega)];rfl
  rw[decide_eq_false d26]
  simp only[cond_false]
  by_cases d27:(i.1:Int)=27
  ·have q1:=h.take 127
   have q2:=q1.take 0
   have q3:=q2.take ((jQ (iz w 127).1 (iz w 127).2.1 (iz w 127).2.2 0).1)
   rw[decide_eq_true d27,h.cW (by omega) (by omega),q1.cW (by omega) (by omega),q2.cW (by omega) (by omega),q3.cG (by omega) (L:=[_]) (by simp)]
   rfl
  rw[decide_eq_false d27]
  simp only[cond_false]
  have key: ∀ o:Int,¬ o=2-> ¬ o=3-> ¬ o=4-> ¬ o=5-> ¬ (2<=o/\o<=5):=fun o _ _ _ _=>by omega
  by_cases d16:(i.1:Int)=16
  ·have ha:=n1 (key _ d2 d3 d4 d5) (ve d16 (by decide)) (ve d16 (by decide)) (ve d16 (by decide)) d26 d27
   obtain⟨a,b⟩:=qe ht (jj y.2.1 y.2.2.1 i.2.1)
   have q:=h.XE (jh y.1 (jj y.2.1 y.2.2.1 i.2.1))
   have c0:(decide (i.2.1<9223372036854775808)&&decide (y.2.1.length<=1099511627776))=true:=by
    rw[decide_eq_true (show(i.2.1:Int)<9223372036854775808 from Int.lt_trans ha.2 (by decide)),decide_eq_true K9];rfl
   rw[decide_eq_true d16,c0,q.cT (by omega) (by omega) (L:=(iB y.1 (jj y.2.1 y.2.2.1 i.2.1)).1) (by omega),(q.GC _).cG (by omega) (L:=(iB y.1 (jj y.2.1 y.2.2.1 i.2.1)).2) (by omega)]
   rfl
  rw[decide_eq_false d16]
  simp only[cond_false]
  by_cases d17:(i.1:Int)=17
  ·obtain⟨a,b⟩:=qe ht i.2.1
   have I: ∀ ok:Bool,cz (cW w) (cz (cT (iz (kh w ok) 127) (iB y.1 i.2.1).1) (cz (cG (j7 (iz (kh w ok) 127) (iB y.1 i.2.1).1) (iB y.1 i.2.1).2) (some (cp ph (wk y lo (pz (j7 (iz (kh w ok) 127) (iB y.1 i.2.1).1) (iB y.1 i.2.1).2))))))=some (cp ph (wk y lo (pz (j7 (iz (kh w ok) 127) (iB y.1 i.2.1).1) (iB y.1 i.2.1).2))):=by
    intro ok
    have q:=(h.XE ok).take 127
    rw[h.cW (by omega) (by omega),q.cT (by omega) (by omega) (L:=(iB y.1 i.2.1).1) (by omega),(q.GC _).cG (by omega) (L:=(iB y.1 i.2.1).2) (by omega)]
    rfl
   rw[decide_eq_true d17]
   simp only[cond_true,I]
   cases jh y.1 i.2.1 with
   |false=>rfl
   |true=>cases decide (0<(y.2.2.2.1.length:Int))<;>rfl
  rw[decide_eq_false d17]
  simp only[cond_false]
  have s77:=mT (aiC h (by omega) y lo i (by omega) hi.n (fun e=>?_) n2 (fun e0 e15=>(n1 (key _ d2 d3 d4 d5) e0 d11 e15 d26 d27).1))
  ·rw[show k77 (sF y lo w i)=true from s77.1,show m77 (sF y lo w i)=_ from s77.2]
   rfl
  ·have ne0: ∀ o:Int,o=12∨o=13∨o=14-> ¬ o=0/\ ¬ o=15:=fun o _=>by omega
   exact(n1 (key _ d2 d3 d4 d5) (ne0 _ e).1 d11 (ne0 _ e).2 d26 d27).1
end Go.Proofs.Vd
