import Derived.Test.YtbplobpobnagkaaGreatDoorVdV4
noncomputable section
namespace Go.Proofs.Vd
open Go.Ab Go.Ab.Lf
set_option maxRecDepth 100000
abbrev V5(y:aj tM)(lo:List Int)(w:W3)(i:den tI)(f:aj lz):aj tFi:=(y.1,y.2.1,y.2.2.1,y.2.2.2.1,y.2.2.2.2.1,y.2.2.2.2.2.1,y.2.2.2.2.2.2.1,y.2.2.2.2.2.2.2.1,y.2.2.2.2.2.2.2.2.1,y.2.2.2.2.2.2.2.2.2.1,y.2.2.2.2.2.2.2.2.2.2.1,lo,w.1,w.2.1,w.2.2,i.1,i.2.1,i.2.2.1,i.2.2.2.1,i.2.2.2.2.1,i.2.2.2.2.2,f.1,f.2.1,f.2.2.1,f.2.2.2.1,f.2.2.2.2.1,())
theorem aeb(gt:Bool)(y:aj tM)(hgt:gt=gT y.1)(lo:List Int)(w:W3)(i:den tI)(f:aj lz)(hf:f=kB i.1)(z:aj xh)(hz:z=Ts (V5 y lo w i f))(g:den aI)(hg:g=fV y.1 i.2.1)(c:den aI)(hc:c=cb y.1 (dR y.2.1 y.2.2.1 i.2.1))(d:den aI)(hd:d=cb y.1 i.2.1):(t62 (pW y lo w i)).val=
 (let o:=i.1
 let a:=i.2.1
 let ret:=fun v:W3=>some (aB lT (wk y lo v))
 let B2:=fun v:W3=>(
  let u:W3:=(v.1,v.2.1,kU y.1 a v.2.2)
  aT gt<|aT (cT u g.1) (let S:=fG u g.1
   aT (decide (S.2.1.length+1<=549755813888)) (let Q:W3:=(S.1,fe S.1 S.2.1 o g.1 g.2,S.2.2)
    aT (cG Q g.1) (ret (l8 Q g.1)))))
 let yX:=bif decide (o=4)then aT (cW w) (B2 (bW w 127))else B2 w
 let CL:=aT (k75 (Qj y lo w o)) (some (aB lT (m75 (Qj y lo w o))))
 let I:=fun ok:Bool=>(let v:=bW (fW w ok) 127
  aT (cW w) (aT (cT v d.1) (let S:=fG v d.1
   aT (cG S d.2) (ret (l8 S d.2)))))
 bif f.2.2.1 then aT (Tt (V5 y lo w i f)) (let v:W3:=(z.2.2.2.2.2.2.2.2.2.2.2.2.1,z.2.2.2.2.2.2.2.2.2.2.2.2.2.1,z.2.2.2.2.2.2.2.2.2.2.2.2.2.2.1)
  aT (cT v f.2.2.2.1) (let S:=fG v f.2.2.2.1
   aT (cG S f.2.2.2.2.1) (some (aB lT (z.1,z.2.1,z.2.2.1,z.2.2.2.1,z.2.2.2.2.1,z.2.2.2.2.2.1,z.2.2.2.2.2.2.1,z.2.2.2.2.2.2.2.1,z.2.2.2.2.2.2.2.2.1,z.2.2.2.2.2.2.2.2.2.1,z.2.2.2.2.2.2.2.2.2.2.1,z.2.2.2.2.2.2.2.2.2.2.2.1,S.1++f.2.2.2.2.1,S.2.1,S.2.2,())))))
 else bif decide (o=2)then yX else bif decide (o=3)then yX else bif decide (o=4)then yX else
 bif decide (o=5)then CL else bif decide (o=11)then CL else
 bif decide (o=26)then aT (cW w) (ret (bW w 0))else
 bif decide (o=27)then aT (cW w) (let v:=bW w 127
  aT (cW v) (let t:=(e9 v.1 v.2.1 v.2.2 0).1
   let u:=bW v 0
   aT (cW u) (let r:=(e9 u.1 u.2.1 u.2.2 t).1
    let q:=bW u t
    aT (cG q [r]) (ret (l8 q [r])))))else
 bif decide (o=16)then aT (gt&&(decide (a<9223372036854775808)&&decide (y.2.1.length<=1099511627776))) (
  let v:=fW w (dP y.1 (dR y.2.1 y.2.2.1 a))
  aT (cT v c.1) (let S:=fG v c.1
   aT (cG S c.2) (ret (l8 S c.2))))else
 bif decide (o=17)then aT gt (bif dP y.1 a then(bif decide (0<(y.2.2.2.1.length:Int))then I (decide (i.2.2.1=0))else I false)else I false)else
 aT (k77 (pW y lo w i)) (some (aB lT (m77 (pW y lo w i))))):=by
 subst hgt;subst hf;subst hz;subst hg;subst hc;subst hd
 kernel_rfl
theorem ajt(y:aj tM)(hT:gT y.1=true)(lo:List Int)(w:W3)(i:den tI)(f:aj lz)(hf:f=kB i.1)(z:aj xh)(hz:z=Ts (V5 y lo w i f))(g:den aI)(hg:g=fV y.1 i.2.1)(c:den aI)(hc:c=cb y.1 (dR y.2.1 y.2.2.1 i.2.1))(d:den aI)(hd:d=cb y.1 i.2.1):(t62 (pW y lo w i)).val=
 (let o:=i.1
 let a:=i.2.1
 let ret:=fun v:W3=>some (aB lT (wk y lo v))
 let B2:=fun v:W3=>(
  let u:W3:=(v.1,v.2.1,kU y.1 a v.2.2)
  aT (cT u g.1) (let S:=fG u g.1
   aT (decide (S.2.1.length+1<=549755813888)) (let Q:W3:=(S.1,fe S.1 S.2.1 o g.1 g.2,S.2.2)
    aT (cG Q g.1) (ret (l8 Q g.1)))))
 let yX:=bif decide (o=4)then aT (cW w) (B2 (bW w 127))else B2 w
 let CL:=aT (k75 (Qj y lo w o)) (some (aB lT (m75 (Qj y lo w o))))
 let I:=fun ok:Bool=>(let v:=bW (fW w ok) 127
  aT (cW w) (aT (cT v d.1) (let S:=fG v d.1
   aT (cG S d.2) (ret (l8 S d.2)))))
 bif f.2.2.1 then aT (Tt (V5 y lo w i f)) (let v:W3:=(z.2.2.2.2.2.2.2.2.2.2.2.2.1,z.2.2.2.2.2.2.2.2.2.2.2.2.2.1,z.2.2.2.2.2.2.2.2.2.2.2.2.2.2.1)
  aT (cT v f.2.2.2.1) (let S:=fG v f.2.2.2.1
   aT (cG S f.2.2.2.2.1) (some (aB lT (z.1,z.2.1,z.2.2.1,z.2.2.2.1,z.2.2.2.2.1,z.2.2.2.2.2.1,z.2.2.2.2.2.2.1,z.2.2.2.2.2.2.2.1,z.2.2.2.2.2.2.2.2.1,z.2.2.2.2.2.2.2.2.2.1,z.2.2.2.2.2.2.2.2.2.2.1,z.2.2.2.2.2.2.2.2.2.2.2.1,S.1++f.2.2.2.2.1,S.2.1,S.2.2,())))))
 else bif decide (o=2)then yX else bif decide (o=3)then yX else bif decide (o=4)then yX else
 bif decide (o=5)then CL else bif decide (o=11)then CL else
 bif decide (o=26)then aT (cW w) (ret (bW w 0))else
 bif decide (o=27)then aT (cW w) (let v:=bW w 127
  aT (cW v) (let t:=(e9 v.1 v.2.1 v.2.2 0).1
   let u:=bW v 0
   aT (cW u) (let r:=(e9 u.1 u.2.1 u.2.2 t).1
    let q:=bW u t
    aT (cG q [r]) (ret (l8 q [r])))))else
 bif decide (o=16)then aT (decide (a<9223372036854775808)&&decide (y.2.1.length<=1099511627776)) (
  let v:=fW w (dP y.1 (dR y.2.1 y.2.2.1 a))
  aT (cT v c.1) (let S:=fG v c.1
   aT (cG S c.2) (ret (l8 S c.2))))else
 bif decide (o=17)then(bif dP y.1 a then(bif decide (0<(y.2.2.2.1.length:Int))then I (decide (i.2.2.1=0))else I false)else I false)else
 aT (k77 (pW y lo w i)) (some (aB lT (m77 (pW y lo w i))))):=by
 refine Eq.trans (aeb true y hT.symm lo w i f hf z hz g hg c hc d hd) ?_
 kernel_rfl
end Go.Proofs.Vd

noncomputable section
namespace Go.Proofs.Vd
open Go.Ab Go.Ab.Lf
set_option maxRecDepth 100000
theorem V6(a c:List (List Int))(sz n i:Int)(q:Int)(hq:q=cr .i64 sz ((c.getD i.toNat (aq (.ae i64)):List Int).length:Int)):(Gn (aB uI (a,sz,c,n,i,()))).val=
 bif decide (i<n)then aT (bm i (c.length:Int)) (bif decide (q<0)then none else some (Rs.next (aB uI (a,q,c,n,cr .i64 i 1,()))))else some (Rs.out 0 (aB lU (a,sz,()))):=by
 subst hq
 kernel_rfl
theorem V7(o:List Int)(c:List (List Int))(n i:Int)(x:List Int)(hx:x=c.getD i.toNat (aq (.ae i64))):(D3 (aB so (o,c,n,i,()))).val=
 bif decide (i<n)then aT (bm i (c.length:Int)) (aT (roomy 8 (o.length+x.length)) (some (Rs.next (aB so (app o x,c,n,cr .i64 i 1,())))))else some (Rs.out 0 (aB lV (o,()))):=by
 subst hx
 kernel_rfl
theorem aju(c:List (List Int))(z:aj lU)(hz:z=gP Gn uI lU (c,0,c,(c.length:Int),0,())):(t59 (c,())).val=
 aT (qh Gn uI lU (c,0,c,(c.length:Int),0,())) (
  let fin:=aT (qh D3 so lV ([],z.1,(z.1.length:Int),0,())) (some (aB Gp (gP D3 so lV ([],z.1,(z.1.length:Int),0,()))))
  bif decide (z.2.1<0)then none else bif decide (0<bN .i64 z.2.1 0)then aT (decide (0<=bN .i64 z.2.1 0)) (aT (roomy 8 (0+(List.replicate (bN .i64 z.2.1 0).toNat (0:Int)).length)) (aT (dV 0 0 ((app [] (List.replicate (bN .i64 z.2.1 0).toNat (0:Int))).length:Int)) fin))else fin):=by
 subst hz
 kernel_rfl
abbrev wkV(y:aj tM)(lo:List Int)(w:W3)(mk:List (den tp))(k:Int)(x:den tI)(c:List (den tI))(n1 i1 v n i:Int):aj su:=(y.1,y.2.1,y.2.2.1,y.2.2.2.1,y.2.2.2.2.1,y.2.2.2.2.2.1,y.2.2.2.2.2.2.1,y.2.2.2.2.2.2.2.1,y.2.2.2.2.2.2.2.2.1,y.2.2.2.2.2.2.2.2.2.1,y.2.2.2.2.2.2.2.2.2.2.1,lo,w.1,w.2.1,w.2.2,mk,k,x.1,x.2.1,x.2.2.1,x.2.2.2.1,x.2.2.2.2.1,x.2.2.2.2.2,c,n1,i1,v,n,i,())
abbrev aae(y:aj tM)(lo:List Int)(w:W3)(mk:List (den tp))(k:Int)(x:den tI)(c:List (den tI))(n1 i1 v:Int):aj lY:=(y.1,y.2.1,y.2.2.1,y.2.2.2.1,y.2.2.2.2.1,y.2.2.2.2.2.1,y.2.2.2.2.2.2.1,y.2.2.2.2.2.2.2.1,y.2.2.2.2.2.2.2.2.1,y.2.2.2.2.2.2.2.2.2.1,y.2.2.2.2.2.2.2.2.2.2.1,lo,w.1,w.2.1,w.2.2,mk,k,x.1,x.2.1,x.2.2.1,x.2.2.2.1,x.2.2.2.2.1,x.2.2.2.2.2,c,n1,i1,v,())
abbrev V8(y:aj tM)(lo:List Int)(w:W3)(mk:List (den tp))(c:List (den tI))(n i:Int):aj ik:=(y.1,y.2.1,y.2.2.1,y.2.2.2.1,y.2.2.2.2.1,y.2.2.2.2.2.1,y.2.2.2.2.2.2.1,y.2.2.2.2.2.2.2.1,y.2.2.2.2.2.2.2.2.1,y.2.2.2.2.2.2.2.2.2.1,y.2.2.2.2.2.2.2.2.2.2.1,lo,w.1,w.2.1,w.2.2,mk,c,n,i,())
theorem V9(y:aj tM)(lo:List Int)(w:W3)(mk:List (den tp))(k:Int)(x:den tI)(c:List (den tI))(n1 i1 v n i:Int):(f202 (aB su (wkV y lo w mk k x c n1 i1 v n i))).val=
 bif decide (i<n)then aT (bm i (w.1.length:Int)) (bif decide (w.1.getD i.toNat (aq i64)=123)then some (Rs.next (aB su (wkV y lo w mk k x c n1 i1 (cr .i64 v 1) n (cr .i64 i 1))))else some (Rs.next (aB su (wkV y lo w mk k x c n1 i1 v n (cr .i64 i 1)))))else some (Rs.out 0 (aB lY (aae y lo w mk k x c n1 i1 v))):=by kernel_rfl
theorem V'(y:aj tM)(lo:List Int)(w:W3)(mk:List (den tp))(c:List (den tI))(n i:Int)(x:den tI)(hx:x=c.getD i.toNat (aq tI))(B:den cw)(hB:B=w.2.1.getD (bN .i64 (w.2.1.length:Int) 1).toNat (aq cw))
 (z:aj lY)(hz:z=gP f202 su lY (wkV y lo w mk i x c n i 0 (w.1.length:Int) 0))(u:aj lT)(hu:u=AD (pW y lo w x))(q:aj Gm)(hq:q=(z.1,z.2.1,z.2.2.1,z.2.2.2.1,z.2.2.2.2.1,z.2.2.2.2.2.1,z.2.2.2.2.2.2.1,z.2.2.2.2.2.2.2.1,z.2.2.2.2.2.2.2.2.1,z.2.2.2.2.2.2.2.2.2.1,z.2.2.2.2.2.2.2.2.2.2.1,z.2.2.2.2.2.2.2.2.2.2.2.1,z.2.2.2.2.2.2.2.2.2.2.2.2.1,z.2.2.2.2.2.2.2.2.2.2.2.2.2.1,z.2.2.2.2.2.2.2.2.2.2.2.2.2.2.1,z.2.2.2.2.2.2.2.2.2.2.2.2.2.2.2.2.2.1,z.2.2.2.2.2.2.2.2.2.2.2.2.2.2.2.2.2.2.1,z.2.2.2.2.2.2.2.2.2.2.2.2.2.2.2.2.2.2.2.1,z.2.2.2.2.2.2.2.2.2.2.2.2.2.2.2.2.2.2.2.2.1,z.2.2.2.2.2.2.2.2.2.2.2.2.2.2.2.2.2.2.2.2.2.1,z.2.2.2.2.2.2.2.2.2.2.2.2.2.2.2.2.2.2.2.2.2.2.1,()))(r:aj lT)(hr:r=AD q):(f200 (aB ik (V8 y lo w mk c n i))).val=
 bif decide (i<n)then aT (bm i (c.length:Int)) (aT (bm (bN .i64 (w.2.1.length:Int) 1) (w.2.1.length:Int)) (
  bif (bif B.2.2.2.2.2 then !B.2.2.2.2.1 else false)then
   aT (qh f202 su lY (wkV y lo w mk i x c n i 0 (w.1.length:Int) 0)) (aT (bm z.2.2.2.2.2.2.2.2.2.2.2.2.2.2.2.2.1 (z.2.2.2.2.2.2.2.2.2.2.2.2.2.2.2.1.length:Int)) (aT (k62 q) (
    bif r.2.2.2.2.2.2.2.2.2.2.2.2.2.2.1 then some (Rs.out 1 (aB il ([],false,())))else some (Rs.next (aB ik (r.1,r.2.1,r.2.2.1,r.2.2.2.1,r.2.2.2.2.1,r.2.2.2.2.2.1,r.2.2.2.2.2.2.1,r.2.2.2.2.2.2.2.1,r.2.2.2.2.2.2.2.2.1,r.2.2.2.2.2.2.2.2.2.1,r.2.2.2.2.2.2.2.2.2.2.1,r.2.2.2.2.2.2.2.2.2.2.2.1,r.2.2.2.2.2.2.2.2.2.2.2.2.1,r.2.2.2.2.2.2.2.2.2.2.2.2.2.1,r.2.2.2.2.2.2.2.2.2.2.2.2.2.2.1,z.2.2.2.2.2.2.2.2.2.2.2.2.2.2.2.1.set z.2.2.2.2.2.2.2.2.2.2.2.2.2.2.2.2.1.toNat (true,(z.2.2.2.2.2.2.2.2.2.2.2.2.1.length:Int),z.2.2.2.2.2.2.2.2.2.2.2.2.2.2.2.2.2.2.2.2.2.2.2.2.2.2.1),z.2.2.2.2.2.2.2.2.2.2.2.2.2.2.2.2.2.2.2.2.2.2.2.1,z.2.2.2.2.2.2.2.2.2.2.2.2.2.2.2.2.2.2.2.2.2.2.2.2.1,cr .i64 z.2.2.2.2.2.2.2.2.2.2.2.2.2.2.2.2.2.2.2.2.2.2.2.2.2.1 1,()))))))
  else aT (k62 (pW y lo w x)) (bif u.2.2.2.2.2.2.2.2.2.2.2.2.2.2.1 then some (Rs.out 1 (aB il ([],false,())))else some (Rs.next (aB ik (u.1,u.2.1,u.2.2.1,u.2.2.2.1,u.2.2.2.2.1,u.2.2.2.2.2.1,u.2.2.2.2.2.2.1,u.2.2.2.2.2.2.2.1,u.2.2.2.2.2.2.2.2.1,u.2.2.2.2.2.2.2.2.2.1,u.2.2.2.2.2.2.2.2.2.2.1,u.2.2.2.2.2.2.2.2.2.2.2.1,u.2.2.2.2.2.2.2.2.2.2.2.2.1,u.2.2.2.2.2.2.2.2.2.2.2.2.2.1,u.2.2.2.2.2.2.2.2.2.2.2.2.2.2.1,mk,c,n,cr .i64 i 1,()))))))
 else some (Rs.out 0 (aB gb (mk,()))):=by
 subst hq;subst hr;subst hu;subst hz;subst hB;subst hx
 kernel_rfl
theorem aed(gt:Bool)(y:aj tM)(hgt:gt=gT y.1)(i:Int)(k:Int)(hk:k=cr .i64 (y.2.1.length:Int) i)(s:den aI)(hs:s=cb y.1 (dR y.2.1 y.2.2.1 k))(C:den aK)(hC:C=y.2.2.2.2.2.2.2.2.2.1.getD i.toNat (aq aK))(lo:List Int)(WZ:lo=(m59 ([s.1,C.1],())).1)(w:W3)(hw:w=([],fe [] [] 2 [] s.2,false))(a:aj ik)(ha:a=V8 y lo w (List.replicate C.2.length (false,0,0)) C.2 (C.2.length:Int) 0):(t20 (y.1,y.2.1,y.2.2.1,y.2.2.2.1,y.2.2.2.2.1,y.2.2.2.2.2.1,y.2.2.2.2.2.2.1,y.2.2.2.2.2.2.2.1,y.2.2.2.2.2.2.2.2.1,y.2.2.2.2.2.2.2.2.2.1,y.2.2.2.2.2.2.2.2.2.2.1,i,())).val=
 aT (gt&&(decide (k<9223372036854775808)&&decide (y.2.1.length<=1099511627776))) (aT (bm i (y.2.2.2.2.2.2.2.2.2.1.length:Int)) (aT (k59 ([s.1,C.1],())) (aT (decide (y.2.2.2.2.2.2.2.1=y.2.2.2.2.2.2.2.1)) (aT (decide (([]:List (den cw)).length+1<=549755813888)) (aT (bm i (y.2.2.2.2.2.2.2.2.2.1.length:Int)) (
  aT ((decide (0<=(C.2.length:Int))&&decide ((C.2.length:Int)<=(C.2.length:Int)))&&decide ((C.2.length:Int).toNat*24<=70368744177664)) (aT (bm i (y.2.2.2.2.2.2.2.2.2.1.length:Int)) (
   aT (rP f200 ik gb il a) (bif qQ f200 ik a then some (aB BP ((gP f200 ik gb a).1,true,()))else some (aB BP ((gP f200 ik il a).1,(gP f200 ik il a).2.1,()))))))))))):=by
 subst hgt;subst ha;subst hw;subst WZ;subst hC;subst hs;subst hk
 kernel_rfl
theorem ajv(y:aj tM)(hT:gT y.1=true)(i:Int)(k:Int)(hk:k=cr .i64 (y.2.1.length:Int) i)(s:den aI)(hs:s=cb y.1 (dR y.2.1 y.2.2.1 k))(C:den aK)(hC:C=y.2.2.2.2.2.2.2.2.2.1.getD i.toNat (aq aK))(lo:List Int)(WZ:lo=(m59 ([s.1,C.1],())).1)(w:W3)(hw:w=([],fe [] [] 2 [] s.2,false))(a:aj ik)(ha:a=V8 y lo w (List.replicate C.2.length (false,0,0)) C.2 (C.2.length:Int) 0):(t20 (y.1,y.2.1,y.2.2.1,y.2.2.2.1,y.2.2.2.2.1,y.2.2.2.2.2.1,y.2.2.2.2.2.2.1,y.2.2.2.2.2.2.2.1,y.2.2.2.2.2.2.2.2.1,y.2.2.2.2.2.2.2.2.2.1,y.2.2.2.2.2.2.2.2.2.2.1,i,())).val=
 aT (decide (k<9223372036854775808)&&decide (y.2.1.length<=1099511627776)) (aT (bm i (y.2.2.2.2.2.2.2.2.2.1.length:Int)) (aT (k59 ([s.1,C.1],())) (aT (decide (y.2.2.2.2.2.2.2.1=y.2.2.2.2.2.2.2.1)) (aT (decide (([]:List (den cw)).length+1<=549755813888)) (aT (bm i (y.2.2.2.2.2.2.2.2.2.1.length:Int)) (
  aT ((decide (0<=(C.2.length:Int))&&decide ((C.2.length:Int)<=(C.2.length:Int)))&&decide ((C.2.length:Int).toNat*24<=70368744177664)) (aT (bm i (y.2.2.2.2.2.2.2.2.2.1.length:Int)) (
   aT (rP f200 ik gb il a) (bif qQ f200 ik a then some (aB BP ((gP f200 ik gb a).1,true,()))else some (aB BP ((gP f200 ik il a).1,(gP f200 ik il a).2.1,()))))))))))):=by
 refine Eq.trans (aed true y hT.symm i k hk s hs C hC lo WZ w hw a ha) ?_
 kernel_rfl
end Go.Proofs.Vd

noncomputable section
namespace Go.Proofs.Vd
open Go.Ab Go.Ab.Lf
set_option maxRecDepth 100000
theorem rH{op:Int}{f:aj lz}: ∀ {rs:List (den gu)},nS op rs=some f-> ∃ r,r∈rs/\(r.1<=op/\op<=r.2.1)/\f=DI r
 | [],h=>by cases h
 |r::rs,h=>by
  have h:(match zG op () r rs with| .inl s=>gq (zG op) (fun _=>none) rs s| .inr o=>o)=some f:=by
   have e:nS op (r::rs)=(match zG op () r rs with| .inl s=>gq (zG op) (fun _=>none) rs s| .inr o=>o):=by
    show gq (zG op) (fun _=>none) (r::rs) ()=_
    rw[gq]
    cases zG op () r rs<;>rfl
   rw[<-e];exact h
  unfold zG at h
  by_cases h1:op<r.1
  ·rw[decide_eq_true h1]at h
   obtain⟨q,a,b⟩:=rH (rs:=rs) h
   exact⟨q,List.mem_cons_of_mem _ a,b⟩
  ·by_cases h2:r.2.1<op
   ·rw[decide_eq_false h1,decide_eq_true h2]at h
    obtain⟨q,a,b⟩:=rH (rs:=rs) h
    exact⟨q,List.mem_cons_of_mem _ a,b⟩
   ·rw[decide_eq_false h1,decide_eq_false h2]at h
    cases h
    exact⟨r,List.mem_cons_self,⟨Int.not_lt.1 h1,Int.not_lt.1 h2⟩,rfl⟩
theorem oQ{α:Type}{p:α->Bool}: ∀ {l:List α},cf p l=true-> ∀ x,x∈l->p x=true
 | [],_,x,hx=>by cases hx
 |a::l,h,x,hx=>by
  obtain⟨h1,h2⟩:=jM h
  rcases List.mem_cons.1 hx with e|e
  ·subst e;exact h1
  ·exact oQ h2 x e
def npP(o f:Int):Bool:=
 bif decide (f=1)then decide (o=0)||(decide (o=5)||(decide (o=11)||(decide (o=15)||(decide (o=26)||decide (o=27)))))else
 bif decide (f=2)then decide (o=2)||(decide (o=3)||decide (o=4))else
 bif decide (f=3)then decide (o=12)||decide (o=13)else
 bif decide (f=4)then decide (o=14)else
 bif decide (f=5)then decide (o=16)||(decide (32<=o)&&decide (o<=36))else
 bif decide (f=6)then decide (o=17)else false
def plP(lo hi:Int):Bool:=(decide (hi<2)||decide (5<lo))&&(decide (hi<11)||decide (11<lo))
def JQ(r:den gu):Bool:=
 (decide (0<=r.2.2.2.1)&&(decide ((zF (JE r)).1.length<=16)&&decide ((zF (JE r)).2.length<=16)))&&(((zF (JE r)).1.all qt&&(zF (JE r)).2.all qt)&&
  bif eqStr r.2.2.2.2 ⟨#[]⟩then cf (fun k:Nat=>npP (r.1+(k:Int)) r.2.2.1) (List.range (r.2.1 - r.1+1).toNat)else plP r.1 r.2.1)
theorem Ui:(cf JQ F3&&cf JQ F4)=true:=by kernel_rfl
theorem Gu{o:Int}(h:Cm o=true): ∃ r,JQ r=true/\(r.1<=o/\o<=r.2.1)/\kB o=DI r:=by
 unfold Cm at h
 unfold kB
 cases hf:JF o with
 |none=>rw[hf]at h;cases h
 |some f=>
  have hr:=Ui
  rw[Bool.and_eq_true]at hr
  unfold JF at hf
  cases hc:decide (64768<=o)with
  |true=>
   rw[hc]at hf
   obtain⟨r,a,b,c⟩:=rH hf
   exact⟨r,oQ hr.2 r a,b,c⟩
  |false=>
   rw[hc]at hf
   obtain⟨r,a,b,c⟩:=rH hf
   exact⟨r,oQ hr.1 r a,b,c⟩
theorem Ou{o:Int}(h:Cm o=false):kB o=(0,0,false,[],[],()):=by
 unfold Cm at h
 unfold kB
 cases hf:JF o with
 |none=>rfl
 |some f=>rw[hf]at h;cases h
theorem Ov(o:Int):0<=(kB o).2.1/\(kB o).2.2.2.1.length<=16/\(kB o).2.2.2.2.1.length<=16/\(kB o).2.2.2.1.all qt=true/\(kB o).2.2.2.2.1.all qt=true:=by
 cases h:Cm o with
 |false=>rw[Ou h];decide
 |true=>
  obtain⟨r,a,_,c⟩:=Gu h
  rw[c]
  unfold JQ at a
  simp only[Bool.and_eq_true,decide_eq_true_eq]at a
  obtain⟨⟨a1,a2,a3⟩,⟨a4,a5⟩,_⟩:=a
  exact⟨a1,a2,a3,a4,a5⟩
theorem aee{o:Int}(h:Cm o=true)(hp:(kB o).2.2.1=false):npP o (kB o).1=true:=by
 obtain⟨r,a,b,c⟩:=Gu h
 rw[c]at hp ⊢
 unfold JQ at a
 rw[Bool.and_eq_true,Bool.and_eq_true (_&&_)]at a
 have a:=a.2.2
 have hp:(!eqStr r.2.2.2.2 ⟨#[]⟩)=false:=hp
 have hq:eqStr r.2.2.2.2 ⟨#[]⟩=true:=by revert hp;cases eqStr r.2.2.2.2 ⟨#[]⟩<;>simp
 rw[hq,cond_true]at a
 have key: ∀ lo hi:Int,lo<=o->o<=hi->(o - lo).toNat<(hi - lo+1).toNat/\lo+(((o - lo).toNat:Nat):Int)=o:=fun lo hi _ _=>by omega
 obtain⟨k1,k2⟩:=key r.1 r.2.1 b.1 b.2
 have:=oQ a (o - r.1).toNat (List.mem_range.2 k1)
 rw[k2]at this
 exact this
theorem aef{o:Int}(hp:(kB o).2.2.1=true): ¬ (2<=o/\o<=5)/\o≠11:=by
 cases h:Cm o with
 |false=>rw[Ou h]at hp;cases hp
 |true=>
  obtain⟨r,a,b,c⟩:=Gu h
  rw[c]at hp
  unfold JQ at a
  rw[Bool.and_eq_true,Bool.and_eq_true (_&&_)]at a
  have a:=a.2.2
  have hp:(!eqStr r.2.2.2.2 ⟨#[]⟩)=true:=hp
  have hq:eqStr r.2.2.2.2 ⟨#[]⟩=false:=by revert hp;cases eqStr r.2.2.2.2 ⟨#[]⟩<;>simp
  rw[hq,cond_false]at a
  unfold plP at a
  simp only[Bool.and_eq_true,Bool.or_eq_true,decide_eq_true_eq]at a
  have key: ∀ lo hi:Int,lo<=o->o<=hi->((hi<2∨5<lo)/\(hi<11∨11<lo))-> ¬ (2<=o/\o<=5)/\o≠11:=fun lo hi _ _ _=>by omega
  exact key r.1 r.2.1 b.1 b.2 a
end Go.Proofs.Vd

noncomputable section
namespace Go.Proofs.Vd
open Go.Ab Go.Ab.Lf
set_option maxRecDepth 100000
structure Inv(k m:Nat)(w:W3):Prop where
 ne:w.2.1≠[]
 pw:w.2.1.Pairwise (fun a b=>(a.2.1:Int)<=b.2.1)
 ht: ∀ b,b∈w.2.1->(0:Int)<=b.2.1/\(b.2.1:Int)<=(w.1.length:Int)
 io: ∀ b,b∈w.2.1->b.2.2.1.length<=32/\b.2.2.2.1.length<=32
 sk:w.1.length<=k
 sb:w.2.1.length<=m
theorem rI(l:List (den cw))(B:den cw):dy (l++[B])=B:=by
 unfold dy
 simp
theorem uM{l:List (den cw)}(h:l≠[]): ∃ r B,l=r++[B]:=⟨l.dropLast,l.getLast h,(List.dropLast_concat_getLast h).symm⟩
theorem Uj{a:Int}{n:Nat}(h1:0<=a)(h2:a<=(n:Int))(h3: ¬ (n:Int)=a):a<=((n - 1:Nat):Int):=by omega
theorem aaf{a:Int}{n:Nat}(h1:0<=a)(h2:a<=(n:Int)):((min a.toNat n:Nat):Int)=a:=by omega
section
variable {k m:Nat}{w:W3}
theorem Inv.mem(h:Inv k m w):dy w.2.1∈w.2.1:=by
 obtain⟨r,B,e⟩:=uM h.ne
 rw[e,rI]
 simp
theorem Inv.top(h:Inv k m w): ∀ b,b∈w.2.1->(b.2.1:Int)<=(dy w.2.1).2.1:=by
 obtain⟨r,B,e⟩:=uM h.ne
 have hp:=h.pw
 rw[e]at hp ⊢
 rw[rI]
 intro b hb
 rw[List.pairwise_append]at hp
 rcases List.mem_append.1 hb with hb|hb
 ·exact hp.2.2 b hb B (by simp)
 ·have:b=B:=by simpa using hb
  rw[this]
  exact Int.le_refl _
theorem Inv.len(h:Inv k m w):0<w.2.1.length:=List.length_pos_iff.2 h.ne
theorem Inv.cW(h:Inv k m w)(hk:k<=1099511627776)(hm:m<=1099511627776):cW w=true:=by
 obtain⟨h1,h2⟩:=h.ht _ h.mem
 have h3:=h.len
 have h4:=h.sk
 have h5:=h.sb
 unfold Vd.cW okW
 simp only[Bool.and_eq_true,decide_eq_true_eq]
 exact⟨⟨h3,by omega,by omega⟩,h1,h2⟩
theorem Inv.cT(h:Inv k m w)(hk:k<=1099511627776)(hm:m<=1099511627776){L:List Int}(hL:L.length<=1099511627776):cT w L=true:=by
 have:=h.cW hk hm
 unfold Vd.cW at this
 unfold Vd.cT
 rw[this,decide_eq_true hL]
 rfl
theorem Inv.bad(h:Inv k m w)(b:Bool):Inv k m (w.1,w.2.1,b):=⟨h.ne,h.pw,h.ht,h.io,h.sk,h.sb⟩
theorem Inv.cut(h:Inv k m w){s:List Int}(h1:((dy w.2.1).2.1:Int)<=(s.length:Int))(h2:s.length<=w.1.length)(b:Bool):Inv k m (s,w.2.1,b):=
 ⟨h.ne,h.pw,fun c hc=>⟨(h.ht c hc).1,Int.le_trans (h.top c hc) h1⟩,h.io,Nat.le_trans h2 h.sk,h.sb⟩
theorem Inv.take(h:Inv k m w)(t:Int):Inv k m (bW w t):=by
 obtain⟨h1,h2⟩:=h.ht _ h.mem
 unfold bW e9
 cases hh:decide ((w.1.length:Int)=(dy w.2.1).2.1)with
 |true=>exact h.bad _
 |false=>
  have jN: ¬ (w.1.length:Int)=(dy w.2.1).2.1:=of_decide_eq_false hh
  have e:(w.1.take (w.1.length - 1)).length=w.1.length - 1:=by rw[List.length_take];omega
  exact h.cut (by show _<=((w.1.take (w.1.length - 1)).length:Int);rw[e];exact Uj h1 h2 jN) (by show(w.1.take (w.1.length - 1)).length<=_;rw[e];omega) _
theorem Inv.aeg(L:List Int): ∀ (n:Nat) {w:W3},Inv k m w->Inv k m ((rV L w.2.1 n w.1 w.2.2).1,w.2.1,(rV L w.2.1 n w.1 w.2.2).2)
 |0,_,h=>h
 |n+1,w,h=>Inv.aeg L n (h.take (L.getD n (aq i64)))
theorem Inv.D6(h:Inv k m w)(L:List Int):Inv k m (fG w L):=Inv.aeg L L.length h
theorem Inv.Wa(h:Inv k m w)(L:List Int):Inv (k+L.length) m (l8 w L):=by
 have:=h.sk
 exact⟨h.ne,h.pw,fun b hb=>⟨(h.ht b hb).1,Int.le_trans (h.ht b hb).2 (by show(w.1.length:Int)<=((w.1++L).length:Int);rw[List.length_append];omega)⟩,h.io,by show(w.1++L).length<=_;rw[List.length_append];omega,h.sb⟩
theorem Inv.le(h:Inv k m w){k' m':Nat}(hk:k<=k')(hm:m<=m'):Inv k' m' w:=⟨h.ne,h.pw,h.ht,h.io,Nat.le_trans h.sk hk,Nat.le_trans h.sb hm⟩
theorem Inv.opn(h:Inv k m w)(op:Int){i o:List Int}(hi:i.length<=32)(ho:o.length<=32):Inv k (m+1) (w.1,fe w.1 w.2.1 op i o,w.2.2):=by
 have:=h.sb
 refine⟨by unfold fe;simp,?_,?_,?_,h.sk,by show(fe _ _ _ _ _).length<=_;unfold fe;simp;exact this⟩
 ·show(fe _ _ _ _ _).Pairwise _
  unfold fe
  rw[List.pairwise_append]
  refine⟨h.pw,List.pairwise_singleton _ _,fun a ha b hb=>?_⟩
  have:b=(op,(w.1.length:Int),i,o,false,wa w.2.1):=by simpa using hb
  rw[this]
  exact(h.ht a ha).2
 ·intro b hb
  unfold fe at hb
  rcases List.mem_append.1 hb with hb|hb
  ·exact h.ht b hb
  ·have:b=(op,(w.1.length:Int),i,o,false,wa w.2.1):=by simpa using hb
   rw[this]
   exact⟨Int.natCast_nonneg _,Int.le_refl _⟩
 ·intro b hb
  unfold fe at hb
  rcases List.mem_append.1 hb with hb|hb
  ·exact h.io b hb
  ·have:b=(op,(w.1.length:Int),i,o,false,wa w.2.1):=by simpa using hb
   rw[this]
   exact⟨hi,ho⟩
theorem Ow(l:List (den cw))(B C:den cw):(l++[B]).set ((l++[B]).length - 1) C=l++[C]:=by
 simp
theorem Inv.die(h:Inv k m w):Inv k m (sZ w):=by
 obtain⟨h1,h2⟩:=h.ht _ h.mem
 obtain⟨s,bl,bad⟩:=w
 obtain⟨r,B,e⟩:=uM h.ne
 have e:bl=r++[B]:=e
 subst e
 have ht:=h.top
 have hp:=h.pw
 have hi:=h.io
 have hh:=h.ht
 have eT:dy (r++[B])=B:=rI r B
 have ht: ∀ b,b∈r++[B]->(b.2.1:Int)<=B.2.1:=fun b hb=>by have:=ht b hb;rw[show(s,r++[B],bad).2.1=r++[B]from rfl,eT]at this;exact this
 have h1:(0:Int)<=B.2.1:=by rw[show(s,r++[B],bad).2.1=r++[B]from rfl,eT]at h1;exact h1
 have h2:(B.2.1:Int)<=(s.length:Int):=by rw[show(s,r++[B],bad).2.1=r++[B]from rfl,eT]at h2;exact h2
 have hl:((s.take B.2.1.toNat).length:Int)=B.2.1:=by rw[List.length_take];exact aaf h1 h2
 have eD:sZ (s,r++[B],bad)=(s.take B.2.1.toNat,r++[uE B],bad):=by
  show(s.take (dy (r++[B])).2.1.toNat,(r++[B]).set ((r++[B]).length - 1) (uE (dy (r++[B]))),bad)=_
  rw[eT,Ow]
 rw[eD]
 have hm: ∀ b,b∈r++[uE B]-> ∃ c,c∈r++[B]/\(b.2.1:Int)=c.2.1/\b.2.2.1=c.2.2.1/\b.2.2.2.1=c.2.2.2.1:=by
  intro b hb
  rcases List.mem_append.1 hb with hb|hb
  ·exact⟨b,List.mem_append_left _ hb,rfl,rfl,rfl⟩
  ·have:b=uE B:=by simpa using hb
   rw[this]
   exact⟨B,by simp,rfl,rfl,rfl⟩
 refine⟨by simp,?_,?_,?_,?_,?_⟩
 ·show(r++[uE B]).Pairwise _
  have hp:(r++[B]).Pairwise _:=hp
  rw[List.pairwise_append]at hp ⊢
  refine⟨hp.1,List.pairwise_singleton _ _,fun a ha b hb=>?_⟩
  have:b=uE B:=by simpa using hb
  rw[this]
  exact hp.2.2 a ha B (by simp)
 ·intro b hb
  obtain⟨c,c1,c2,_,_⟩:=hm b hb
  rw[c2]
  exact⟨(hh c c1).1,by show(c.2.1:Int)<=((s.take B.2.1.toNat).length:Int);rw[hl];exact ht c c1⟩
 ·intro b hb
  obtain⟨c,c1,_,c3,c4⟩:=hm b hb
  rw[c3,c4]
  exact hi c c1
 ·have:=h.sk
  show(s.take _).length<=_
  rw[List.length_take]
  have this:s.length<=k:=this
  omega
 ·have:=h.sb
  simpa using this
end
theorem H6(L:List Int)(bl:List (den cw)): ∀ (n:Nat) (s:List Int) (b:Bool),(rV L bl n s b).1.length<=s.length
 |0,_,_=>Nat.le_refl _
 |n+1,s,b=>by
  refine Nat.le_trans (H6 L bl n _ _) ?_
  unfold e9
  cases decide ((s.length:Int)=(dy bl).2.1)with
  |true=>exact Nat.le_refl _
  |false=>show(s.take _).length<=_;rw[List.length_take];omega
end Go.Proofs.Vd

noncomputable section
namespace Go.Proofs.Vd
open Go.Ab Go.Ab.Lf
set_option maxRecDepth 100000
section
variable {k m:Nat}{w:W3}
theorem Inv.sub(h:Inv k m w)(hm:m<=1073741824):bN .i64 (w.2.1.length:Int) 1=((w.2.1.length - 1:Nat):Int):=BB h.len (by have:=h.sb;omega)
theorem Inv.ix(h:Inv k m w):bm ((w.2.1.length - 1:Nat):Int) (w.2.1.length:Int)=true:=cN (by have:=h.len;omega)
end
theorem BR{j n:Nat}(h:j<n):bm (j:Int) (n:Int)=true:=cN h
theorem BS{j n:Nat}(h:j<=n):dV 0 (j:Int) (n:Int)=true:=by
 unfold dV
 simp only[Bool.and_eq_true,decide_eq_true_eq]
 omega
def mb(w:W3):List Int×Bool:=rV (dy w.2.1).2.2.2.1 w.2.1 (dy w.2.1).2.2.2.1.length w.1 w.2.2
def BU(w:W3):Bool:=(mb w).2|| !decide (((mb w).1.length:Int)=(dy w.2.1).2.1)
def s5(w:W3):List (den cw):=w.2.1.take (w.2.1.length - 1)
def nV(w:W3)(n:Int):W3:=bif BU w then((mb w).1,s5 w++[dy w.2.1],BU w)else
 bif decide (n=5)then((mb w).1++(dy w.2.1).2.2.1,fe (mb w).1 (s5 w) 5 (dy w.2.1).2.2.1 (dy w.2.1).2.2.2.1,BU w)else
 ((mb w).1++(dy w.2.1).2.2.2.1,s5 w,BU w|| !(bif !decide ((dy w.2.1).1=4)then true else decide ((dy w.2.1).2.2.1=(dy w.2.1).2.2.2.1)))
theorem Oy(w:W3):(mb w).1.length<=w.1.length:=H6 _ _ _ _ _
theorem Oz(w:W3):(s5 w).length<=w.2.1.length:=by unfold s5;rw[List.length_take];omega
theorem aeh{k m:Nat}{w:W3}(h:Inv k m w)(hk:k<=1073741824)(hm:m<=1073741824)(y:aj tM)(lo:List Int)(n:Int):(t75 (Qj y lo w n)).val=some (aB BO (wk y lo (nV w n))):=by
 have hs:=h.sub hm
 have hio:=h.io _ h.mem
 have hsk:=h.sk
 have hsb:=h.sb
 have l1:=Oy w
 have l2:=Oz w
 have eB:dy w.2.1=w.2.1.getD (bN .i64 (w.2.1.length:Int) 1).toNat (aq cw):=by rw[hs,Int.toNat_natCast];rfl
 have eC:s5 w=(w.2.1.drop 0).take ((bN .i64 (w.2.1.length:Int) 1).toNat - 0):=by rw[hs,Int.toNat_natCast];rfl
 rw[ajq y lo w n (dy w.2.1) eB (s5 w) eC (mb w) rfl (BU w) rfl,hs,h.ix,BS (Nat.sub_le _ _)]
 have c1:(decide ((dy w.2.1).2.2.2.1.length<=1099511627776)&&okW w.1 w.2.1)=true:=h.cT (by omega) (by omega) (by omega)
 have c2:roomy 72 ((s5 w).length+1)=true:=by rw[mm];constructor<;>omega
 have c3:decide ((s5 w).length+1<=549755813888)=true:=decide_eq_true (by omega)
 have c4:decide ((mb w).1.length+(dy w.2.1).2.2.1.length<=1099511627776)=true:=decide_eq_true (by omega)
 have c5:decide ((mb w).1.length+(dy w.2.1).2.2.2.1.length<=1099511627776)=true:=decide_eq_true (by omega)
 have c6:decide ((dy w.2.1).2.2.1.length<=1099511627776)=true:=decide_eq_true (by omega)
 rw[c1,c2,c3,c4,c5,c6]
 simp only[aT,cond_true,bp]
 unfold nV
 cases BU w with
 |true=>rfl
 |false=>
  cases decide (n=5)with
  |true=>rfl
  |false=>cases decide ((dy w.2.1).1=4)<;>rfl
def pX(L:List Int)(bl:List (den cw)):Nat->List Int->List Int->Bool->List Int×List Int×Bool
 |0,s,uL,bad=>(s,uL,bad)
 |n+1,s,uL,bad=>pX L bl n (e9 s bl bad (L.getD n (aq i64))).2.1 (uL++[(e9 s bl bad (L.getD n (aq i64))).1]) (e9 s bl bad (L.getD n (aq i64))).2.2
def Gv(w:W3)(L:List Int):W3:=let z:=pX L w.2.1 L.length w.1 [] w.2.2
 (z.1++z.2.1.reverse,w.2.1,z.2.2)
theorem yY(L:List Int)(bl:List (den cw)): ∀ (n:Nat) (s uL:List Int) (b:Bool),(pX L bl n s uL b).2.1.length=uL.length+n
 |0,_,_,_=>rfl
 |n+1,s,uL,b=>by
  show(pX L bl n _ _ _).2.1.length=_
  rw[yY L bl n]
  simp only[List.length_append,List.length_cons,List.length_nil]
  omega
theorem Inv.agF{k m:Nat}(L:List Int): ∀ (n:Nat) (uL:List Int) {w:W3},Inv k m w->Inv k m ((pX L w.2.1 n w.1 uL w.2.2).1,w.2.1,(pX L w.2.1 n w.1 uL w.2.2).2.2)
 |0,_,_,h=>h
 |n+1,uL,w,h=>Inv.agF L n (uL++[(e9 w.1 w.2.1 w.2.2 (L.getD n (aq i64))).1]) (h.take (L.getD n (aq i64)))
theorem Inv.again{k m:Nat}{w:W3}(h:Inv k m w)(L:List Int):Inv (k+L.length) m (Gv w L):=by
 have h1:=(h.agF L L.length []).Wa (pX L w.2.1 L.length w.1 [] w.2.2).2.1.reverse
 refine h1.le ?_ (Nat.le_refl _)
 rw[List.length_reverse,yY]
 simp
theorem OA{k m:Nat}(y:aj tM)(lo L:List Int)(hk:k<=1073741824)(hm:m<=1073741824)(hL:L.length<=1073741824): ∀ (n:Nat) {w:W3} (uL:List Int),n<=L.length->uL.length+n<=L.length->Inv k m w->
 gM Og (aB wb (wkA y lo w L uL ((n:Int) - 1))) 0 (aB pQ (Qi y lo ((pX L w.2.1 n w.1 uL w.2.2).1,w.2.1,(pX L w.2.1 n w.1 uL w.2.2).2.2) (pX L w.2.1 n w.1 uL w.2.2).2.1))
 |0,w,uL,_,_,_=>by
  refine .last ?_
  rw[V3,decide_eq_false (by omega)]
  rfl
 |n+1,w,uL,hn,hw,h=>by
  have e:((n+1:Nat):Int) - 1=(n:Int):=by omega
  rw[e]
  have es:bN .i64 (n:Int) 1=(n:Int) - 1:=by
   show eX .i64 ((n:Int) - 1)=_
   exact wrap_i64 (by omega) (by omega)
  refine .more ?_ (OA y lo L hk hm hL n (uL++[(e9 w.1 w.2.1 w.2.2 (L.getD n (aq i64))).1]) (by omega) (by simp only[List.length_append,List.length_cons,List.length_nil];omega) (h.take (L.getD n (aq i64))))
  have c:okW w.1 w.2.1=true:=h.cW (by omega) (by omega)
  have r:roomy 8 (uL.length+1)=true:=bO (by omega) (by omega)
  rw[V3,decide_eq_true (show(0:Int)<=(n:Int) by omega),BR (show n<L.length by omega),c,r,Int.toNat_natCast,es,bp]
  rfl
theorem H7{β:Type}(K:List Int->Option β): ∀ (f:Nat) (a mid b:List Int),a.length=b.length->mid.length<2*f->a.length+mid.length+b.length<=1073741824->Oq K f a.length (((a.length+mid.length:Nat):Int) - 1) (a++mid++b)=K (a++mid.reverse++b)
 |0,a,mid,b,_,h,_=>by omega
 |f+1,a,mid,b,hab,h,hs=>by
  by_cases h2:mid.length<2
  ·have e:decide ((a.length:Int)<(((a.length+mid.length:Nat):Int) - 1))=false:=decide_eq_false (by omega)
   have er:mid.reverse=mid:=by
    match mid,h2 with
    | [],_=>rfl
    | [x],_=>rfl
   unfold Oq
   rw[e,er]
   rfl
  ·match mid with
   | []=>simp at h2
   |c::t=>
    obtain⟨m',d,rfl⟩: ∃ m' d,t=m'++[d]:=by
     have:t≠[]:=fun e=>by subst e;simp at h2
     exact⟨t.dropLast,t.getLast this,(List.dropLast_concat_getLast this).symm⟩
    simp only[List.length_cons,List.length_append,List.length_nil]at h hs
    have el:(a++(c::(m'++[d]))++b).length=a.length+(m'.length+2)+b.length:=by simp;omega
    have ej:(((a.length+(c::(m'++[d])).length:Nat):Int) - 1)=((a.length+m'.length+1:Nat):Int):=by simp;omega
    have gi:(a++(c::(m'++[d]))++b).getD a.length (aq i64)=c:=by
     rw[List.getD_eq_getElem?_getD,List.append_assoc,List.getElem?_append_right (Nat.le_refl _)]
     simp
    have gj:(a++(c::(m'++[d]))++b).getD (a.length+m'.length+1) (aq i64)=d:=by
     have e:a++(c::(m'++[d]))++b=(a++(c::m'))++(d::b):=by simp
     rw[e,List.getD_eq_getElem?_getD,List.getElem?_append_right (by simp;omega)]
     have:a.length+m'.length+1 - (a++(c::m')).length=0:=by simp;omega
     rw[this]
     rfl
    have s1:(a++(c::(m'++[d]))++b).set a.length d=a++(d::(m'++[d]))++b:=by
     rw[List.append_assoc,List.set_append_right _ _ (Nat.le_refl _)]
     simp
    have s2:(a++(d::(m'++[d]))++b).set (a.length+m'.length+1) c=(a++[d])++m'++(c::b):=by
     have e:a++(d::(m'++[d]))++b=(a++(d::m'))++(d::b):=by simp
     rw[e,List.set_append_right _ _ (by simp;omega)]
     have:a.length+m'.length+1 - (a++(d::m')).length=0:=by simp;omega
     rw[this]
     simp
    have es:bN .i64 ((a.length+m'.length+1:Nat):Int) 1=(((a++[d]).length+m'.length:Nat):Int) - 1:=by
     rw[BB (by omega) (by omega)]
     simp
     omega
    have ih:=H7 K f (a++[d]) m' (c::b) (by simp;omega) (by omega) (by simp;omega)
    have sl:((a++(c::(m'++[d]))++b).set a.length d).length=a.length+(m'.length+2)+b.length:=by rw[List.length_set,el]
    rw[ej]
    unfold Oq
    rw[decide_eq_true (by omega),Int.toNat_natCast,gj,gi,sl,el,s1,s2,BR (show a.length+m'.length+1<a.length+(m'.length+2)+b.length by omega),BR (show a.length<a.length+(m'.length+2)+b.length by omega),es]
    simp only[aT,cond_true]
    have e0:(a++[d]).length=a.length+1:=by simp
    rw[e0]at ih
    rw[e0,ih]
    simp
theorem aei{k m:Nat}{w:W3}(h:Inv k m w)(hk:k<=1073741824)(hm:m<=1073741824)(y:aj tM)(lo L:List Int)(hL:L.length<=32):(t85 (Qi y lo w L)).val=some (aB D2 (wk y lo (Gv w L))):=by
 have es:bN .i64 (L.length:Int) 1=(L.length:Int) - 1:=by
  show eX .i64 ((L.length:Int) - 1)=_
  exact wrap_i64 (by omega) (by omega)
 have r:=OA y lo L hk hm (by omega) L.length [] (Nat.le_refl _) (by simp) h
 rw[<-es]at r
 obtain⟨a,b⟩:=kq r
 rw[ajr y lo w L _ b.symm,a]
 have hl:=yY L w.2.1 L.length w.1 [] w.2.2
 have hi:=(h.agF L L.length []).sk
 have e2:bN .i64 ((pX L w.2.1 L.length w.1 [] w.2.2).2.1.length:Int) 1=((([]:List Int).length+(pX L w.2.1 L.length w.1 [] w.2.2).2.1.length:Nat):Int) - 1:=by
  rw[hl]
  simp only[List.length_nil,Nat.zero_add]
  exact es
 have e3:=H7 (fun x=>aT (decide ((pX L w.2.1 L.length w.1 [] w.2.2).1.length+x.length<=1099511627776)) (some (aB D2 (wk y lo ((pX L w.2.1 L.length w.1 [] w.2.2).1++x,w.2.1,(pX L w.2.1 L.length w.1 [] w.2.2).2.2))))) 18 [] (pX L w.2.1 L.length w.1 [] w.2.2).2.1 [] rfl (by rw[hl];simp;omega) (by rw[hl];simp;omega)
 rw[<-e2]at e3
 simp only[List.append_nil,List.nil_append]at e3
 refine Eq.trans e3 ?_
 have c:decide ((pX L w.2.1 L.length w.1 [] w.2.2).1.length+(pX L w.2.1 L.length w.1 [] w.2.2).2.1.reverse.length<=1099511627776)=true:=by
  refine decide_eq_true ?_
  rw[List.length_reverse,hl]
  have hi:(pX L w.2.1 L.length w.1 [] w.2.2).1.length<=k:=hi
  simp
  omega
 rw[c]
 rfl
end Go.Proofs.Vd

noncomputable section
namespace Go.Proofs.Vd
open Go.Ab Go.Ab.Lf
set_option maxRecDepth 100000
theorem sx{a b c:Int}(h:a=b)(k:b≠c): ¬ a=c:=fun e=>k (h▸e)
def JR(y:aj tM)(lo:List Int)(w:W3)(i:den tI):W3:=
 let gl:=y.2.2.2.2.2.1
 let ok:Bool:=bif (bif decide (i.1<=34)then decide (i.2.1<(lo.length:Int))else false)then true else bif (bif decide (34<i.1)then decide (i.2.1<(gl.length:Int))else false)then(bif decide (i.1=35)then true else(gl.getD i.2.1.toNat (aq aC)).2.1)else false
 let t:Int:=bif (bif decide (i.1<=34)then decide (i.2.1<(lo.length:Int))else false)then lo.getD i.2.1.toNat (aq i64)else bif (bif decide (34<i.1)then decide (i.2.1<(gl.length:Int))else false)then(gl.getD i.2.1.toNat (aq aC)).1 else 0
 let v:=bif (bif !decide (i.1=32)then !decide (i.1=35)else false)then bW (fW w ok) t else fW w ok
 bif (bif !decide (i.1=33)then !decide (i.1=36)else false)then l8 v [t]else v
theorem Inv.Uk{k m:Nat}{w:W3}(h:Inv k m w)(c:Bool):Inv k m (fW w c):=h.bad _
theorem Inv.Ul{k m:Nat}{w:W3}(h:Inv k m w)(l:Int):Inv k m (wL w l):=h.bad _
theorem Inv.cG{k m:Nat}{w:W3}(h:Inv k m w)(hk:k<=1073741824){L:List Int}(hL:L.length<=1073741824):cG w L=true:=by
 have:=h.sk
 unfold Vd.cG
 exact decide_eq_true (by omega)
theorem Inv.var{k m:Nat}{w:W3}(h:Inv k m w)(y:aj tM)(lo:List Int)(i:den tI):Inv (k+1) m (JR y lo w i):=by
 unfold JR
 dsimp only
 generalize (bif (bif decide (i.1<=34)then decide (i.2.1<(lo.length:Int))else false)then true else bif (bif decide (34<i.1)then decide (i.2.1<(y.2.2.2.2.2.1.length:Int))else false)then(bif decide (i.1=35)then true else(y.2.2.2.2.2.1.getD i.2.1.toNat (aq aC)).2.1)else false)=ok
 generalize (bif (bif decide (i.1<=34)then decide (i.2.1<(lo.length:Int))else false)then lo.getD i.2.1.toNat (aq i64)else bif (bif decide (34<i.1)then decide (i.2.1<(y.2.2.2.2.2.1.length:Int))else false)then(y.2.2.2.2.2.1.getD i.2.1.toNat (aq aC)).1 else 0)=t
 have h1:Inv k m (bif (bif !decide (i.1=32)then !decide (i.1=35)else false)then bW (fW w ok) t else fW w ok):=by
  cases(bif !decide (i.1=32)then !decide (i.1=35)else false)
  ·exact h.Uk _
  ·exact(h.Uk _).take _
 cases(bif !decide (i.1=33)then !decide (i.1=36)else false)
 ·exact h1.le (Nat.le_succ _) (Nat.le_refl _)
 ·exact h1.Wa [t]
theorem aej{k m:Nat}{w:W3}(h:Inv k m w)(hk:k<=1073741824)(hm:m<=1073741824)(y:aj tM)(lo:List Int)(i:den tI)(ha:(0:Int)<=i.2.1):(t86 (pW y lo w i)).val=some (aB uG (wk y lo (JR y lo w i))):=by
 rw[ajs]
 dsimp only
 unfold JR
 dsimp only
 have fin: ∀ (t:Int) (ok:Bool),(bif (bif !decide (i.1=32)then !decide (i.1=35)else false)then aT (cW w) (bif (bif !decide (i.1=33)then !decide (i.1=36)else false)then aT (cG (bW (fW w ok) t) [t]) (some (aB uG (wk y lo (l8 (bW (fW w ok) t) [t]))))else some (aB uG (wk y lo (bW (fW w ok) t))))
  else bif (bif !decide (i.1=33)then !decide (i.1=36)else false)then aT (cG w [t]) (some (aB uG (wk y lo (l8 (fW w ok) [t]))))else some (aB uG (wk y lo (fW w ok))))=
  some (aB uG (wk y lo (bif (bif !decide (i.1=33)then !decide (i.1=36)else false)then l8 (bif (bif !decide (i.1=32)then !decide (i.1=35)else false)then bW (fW w ok) t else fW w ok) [t]else(bif (bif !decide (i.1=32)then !decide (i.1=35)else false)then bW (fW w ok) t else fW w ok)))):=by
  intro t ok
  rw[h.cW (by omega) (by omega),((h.Uk ok).take t).cG hk (L:=[t]) (by simp),h.cG hk (L:=[t]) (by simp)]
  generalize (bif !decide (i.1=32)then !decide (i.1=35)else false)=c1
  generalize (bif !decide (i.1=33)then !decide (i.1=36)else false)=c2
  cases c1<;>cases c2<;>rfl
 simp only[fin]
 by_cases h1:i.1<=(34:Int)
 ·have h2: ¬ (34:Int)<i.1:=Int.not_lt.2 h1
  rw[decide_eq_true h1,decide_eq_false h2]
  simp only[cond_true,cond_false]
  by_cases h3:i.2.1<(lo.length:Int)
  ·have hx:bm i.2.1 (lo.length:Int)=true:=iF.2 ⟨ha,h3⟩
   rw[decide_eq_true h3,hx]
   rfl
  ·rw[decide_eq_false h3]
   rfl
 ·have h2:(34:Int)<i.1:=Int.not_le.1 h1
  rw[decide_eq_true h2,decide_eq_false h1]
  simp only[cond_true,cond_false]
  by_cases h3:i.2.1<(y.2.2.2.2.2.1.length:Int)
  ·have hx:bm i.2.1 (y.2.2.2.2.2.1.length:Int)=true:=iF.2 ⟨ha,h3⟩
   rw[decide_eq_true h3,hx]
   cases decide (i.1=35)<;>rfl
  ·rw[decide_eq_false h3]
   rfl
theorem oS{k m:Nat}{w:W3}(h:Inv k m w)(hm:m<=1073741824){l:Int}(hl:0<=l):(iK w.2.1 l).length<=32:=by
 unfold iK
 cases hd:decide ((w.2.1.length:Int)<=l)with
 |true=>exact Nat.zero_le _
 |false=>
  have hd: ¬ (w.2.1.length:Int)<=l:=of_decide_eq_false hd
  have hx:=V2 hl hd (by have:=h.sb;omega)
  rw[iF]at hx
  have key: ∀ (a:Int) (n:Nat),0<=a->a<Int.ofNat n->a.toNat<n:=fun a n h1 h2=>by have e:Int.ofNat n=(n:Int):=rfl;omega
  have hj:=key _ _ hx.1 hx.2
  have I1:w.2.1.getD (bN .i64 (bN .i64 (Int.ofNat w.2.1.length) 1) l).toNat (aq cw)∈w.2.1:=by
   rw[List.getD_eq_getElem?_getD,List.getElem?_eq_getElem hj]
   exact List.getElem_mem hj
  obtain⟨a,b⟩:=h.io _ I1
  simp only[cond_false]
  cases decide ((w.2.1.getD (bN .i64 (bN .i64 (Int.ofNat w.2.1.length) 1) l).toNat (aq cw)).1=3)with
  |true=>exact a
  |false=>exact b
theorem Inv.cL{k m:Nat}{w:W3}(h:Inv k m w)(hm:m<=1073741824){l:Int}(hl:0<=l):cL w l=true:=by
 have:=h.sb
 unfold Vd.cL
 rw[decide_eq_true hl,decide_eq_true (by omega)]
 rfl
def pJ(last:List Int)(w:W3)(l:Int):W3:=Gv (fW (wL w l) (decide (((iK w.2.1 l).length:Int)=(last.length:Int)))) (iK w.2.1 l)
theorem OB(y:aj tM)(lo last L:List Int)(m K:Nat)(hK:K<=1073741824)(hm:m<=1073741824)(h0: ∀ l,l∈L->(0:Int)<=l)(hL:L.length<=1073741824){k:Nat}{w:W3}(h:Inv k m w)(hk:k+32*L.length<=K):
 gM JN (aB uH (wkJ y lo w last L (L.length:Int) 0)) 0 (aB nn (Qi y lo (L.foldl (pJ last) w) last))/\Inv (k+32*L.length) m (L.foldl (pJ last) w):=by
 constructor
 ·have:=JD (f:=JN) (l:=L) (fun(s:W3) j=>aB uH (wkJ y lo s last L (L.length:Int) (j:Int))) (fun s x=>.inl (pJ last s x)) (fun s=>(0,aB nn (Qi y lo s last))) (fun s r=>(∃ k,Inv k m s/\k+32*r.length<=K)/\ ∀ l,l∈r->(0:Int)<=l) (fun s j x r e hi=>by
   obtain⟨⟨k,i1,i2⟩,i3⟩:=hi
   obtain⟨e1,e2⟩:=dm e (aq i64)
   simp only[List.length_cons]at i2
   have hx:=i3 x List.mem_cons_self
   have hl:=oS i1 hm hx
   have i4:=(i1.Ul x).Uk (decide (((iK s.2.1 x).length:Int)=(last.length:Int)))
   have s85:=jE (aei i4 (by omega) hm y lo (iK s.2.1 x) hl)
   refine⟨?_,fun s' e=>?_⟩
   ·rw[V4 y lo s last L _ _ x (by rw[Int.toNat_natCast];exact e2.symm) _ rfl _ s85.2.symm,ed e1,cond_true,BR e1,i1.cL hm hx,show k85 (Qi y lo (fW (wL s x) (decide (((iK s.2.1 x).length:Int)=(last.length:Int)))) (iK s.2.1 x))=true from s85.1,kv (by omega)]
    rfl
   ·cases e
    exact⟨⟨k+32,(i4.again (iK s.2.1 x)).le (by omega) (Nat.le_refl _),by omega⟩,fun l hl=>i3 l (List.mem_cons_of_mem _ hl)⟩) (fun s j e hj hi=>by
   have:j=L.length:=by have:=List.drop_eq_nil_iff.1 e;omega
   subst this
   rw[V4 y lo s last L _ _ _ rfl _ rfl _ rfl,di (Nat.le_refl _)]
   rfl) L 0 w rfl (by omega) ⟨⟨k,h,hk⟩,h0⟩
  rw[fH]at this
  exact this
 ·clear hL hk
  induction L generalizing k w with
  |nil=>exact h.le (by simp) (Nat.le_refl _)
  |cons x r ih=>
   have hx:=h0 x List.mem_cons_self
   have hl:=oS h hm hx
   have i4:=(h.Ul x).Uk (decide (((iK w.2.1 x).length:Int)=(last.length:Int)))
   have:=ih (fun l hl=>h0 l (List.mem_cons_of_mem _ hl)) ((i4.again (iK w.2.1 x)).le (k':=k+32) (by omega) (Nat.le_refl _))
   exact this.le (by simp only[List.length_cons];omega) (Nat.le_refl _)
def Gw(w:W3)(i:den tI):W3:=i.2.2.2.2.2.foldl (pJ (iK w.2.1 i.2.1)) (wL (bW w 127) i.2.1)
def wc(y:aj tM)(lo:List Int)(w:W3)(i:den tI):W3:=
 let T:=iK w.2.1 i.2.1
 let u:=wL (bW w 127) i.2.1
 bif decide (i.1=0)then sZ w else
 bif decide (i.1=12)then sZ (fG (wL w i.2.1) T)else
 bif decide (i.1=13)then l8 (fG u T) T else
 bif decide (i.1=14)then sZ (fG (Gw w i) T)else
 bif decide (i.1=15)then sZ (fG w (w.2.1.getD 0 (aq cw)).2.2.2.1)else JR y lo w i
def BkA(a:Int):Prop:=a= -64∨a= -1∨a= -2∨a= -5∨(0:Int)<=a
structure IOk(i:den tI):Prop where
 a: ∀ f,f=(kB i.1).1->(f=3∨f=4∨f=5∨f=6)->(0:Int)<=i.2.1/\(i.2.1:Int)<4294967296
 l:(kB i.1).1=4-> ∀ x,x∈i.2.2.2.2.2->(0:Int)<=x
 n:i.2.2.2.2.2.length<=16777216
 is:Cm i.1=true
 k:(kB i.1).1=2->BkA i.2.1
theorem OC{k m:Nat}{w:W3}(h:Inv k m w):(w.2.1.getD 0 (aq cw)).2.2.2.1.length<=32:=by
 have hl:=h.len
 have I1:w.2.1.getD 0 (aq cw)∈w.2.1:=by
  rw[List.getD_eq_getElem?_getD,List.getElem?_eq_getElem hl]
  exact List.getElem_mem hl
 exact(h.io _ I1).2
theorem Inv.jump{k m:Nat}{w:W3}(h:Inv k m w)(hm:m<=1073741824)(y:aj tM)(lo:List Int)(i:den tI)(ha:i.1=12∨i.1=13∨i.1=14->(0:Int)<=i.2.1)(hl:i.1=14-> ∀ x,x∈i.2.2.2.2.2->(0:Int)<=x)(hk:k+32*i.2.2.2.2.2.length<=1073741824)(hn:i.2.2.2.2.2.length<=16777216):Inv (k+32) m (wc y lo w i):=by
 unfold wc
 dsimp only
 by_cases h0:(i.1:Int)=0
 ·rw[decide_eq_true h0];exact h.die.le (by omega) (Nat.le_refl _)
 rw[decide_eq_false h0,cond_false]
 by_cases h1:(i.1:Int)=12
 ·rw[decide_eq_true h1];exact((h.Ul _).D6 _).die.le (by omega) (Nat.le_refl _)
 rw[decide_eq_false h1,cond_false]
 by_cases h2:(i.1:Int)=13
 ·rw[decide_eq_true h2]
  have:=oS h hm (ha (.inr (.inl h2)))
  exact((((h.take 127).Ul _).D6 _).Wa _).le (by omega) (Nat.le_refl _)
 rw[decide_eq_false h2,cond_false]
 by_cases h3:(i.1:Int)=14
 ·rw[decide_eq_true h3]
  have r:=(OB y lo (iK w.2.1 i.2.1) i.2.2.2.2.2 m 1073741824 (by omega) hm (hl h3) (by omega) ((h.take 127).Ul i.2.1) hk).2
  have q:=(r.D6 (iK w.2.1 i.2.1)).die
  have hle:(sZ (fG (Gw w i) (iK w.2.1 i.2.1))).1.length<=k+32:=by
   have eb: ∀ (L:List Int) (v:W3),(L.foldl (pJ (iK w.2.1 i.2.1)) v).2.1=v.2.1:=by
    intro L
    induction L with
    |nil=>intro v;rfl
    |cons x L ih=>intro v;exact(ih (pJ (iK w.2.1 i.2.1) v x)).trans rfl
   have e2:(Gw w i).2.1=w.2.1:=eb _ _
   show(List.take (dy (Gw w i).2.1).2.1.toNat _).length<=_
   rw[e2,List.length_take]
   have key: ∀ (a:Int) (n q:Nat),a<=(n:Int)->n<=k->min a.toNat q<=k+32:=fun a n q _ _=>by omega
   exact key _ _ _ (h.ht _ h.mem).2 h.sk
  exact⟨q.ne,q.pw,q.ht,q.io,hle,q.sb⟩
 rw[decide_eq_false h3,cond_false]
 by_cases h4:(i.1:Int)=15
 ·rw[decide_eq_true h4];exact(h.D6 _).die.le (by omega) (Nat.le_refl _)
 rw[decide_eq_false h4,cond_false]
 exact(h.var y lo i).le (by omega) (Nat.le_refl _)
theorem ael{k m:Nat}{w:W3}(h:Inv k m w)(hm:m<=1073741824)(y:aj tM)(lo:List Int)(i:den tI)(hk:k+32*i.2.2.2.2.2.length<=1073741824)(hn:i.2.2.2.2.2.length<=16777216)
 (ha:i.1=12∨i.1=13∨i.1=14->(0:Int)<=i.2.1)(hl:i.1=14-> ∀ x,x∈i.2.2.2.2.2->(0:Int)<=x)(hv: ¬ i.1=0-> ¬ i.1=15->(0:Int)<=i.2.1):(t77 (pW y lo w i)).val=some (aB yW (wk y lo (wc y lo w i))):=by
 have hD: ∀ {k m:Nat} {v:W3},Inv k m v->k<=1073741824->m<=1073741824->aT (cW v) (some (aB yW (wk y lo (sZ v))))=some (aB yW (wk y lo (sZ v))):=fun hi hk hm=>by rw[hi.cW (by omega) (by omega)];rfl
 have k0:k<=1073741824:=by omega
 by_cases h3:(i.1:Int)=14
 ·have r:=OB y lo (iK w.2.1 i.2.1) i.2.2.2.2.2 m 1073741824 (by omega) hm (hl h3) (by omega) ((h.take 127).Ul i.2.1) hk
  obtain⟨a,b⟩:=kq r.1
  rw[aea y lo w i _ rfl _ rfl _ b.symm]
  unfold wc
  have hT:=oS h hm (ha (.inr (.inr h3)))
  have c1:=r.2.cT (L:=iK w.2.1 i.2.1) (by omega) (by omega) (by omega)
  have c2:=(r.2.D6 (iK w.2.1 i.2.1)).cW (by omega) (by omega)
  dsimp only
  rw[decide_eq_true h3,h.cW (by omega) (by omega),(h.take 127).cL hm (ha (.inr (.inr h3))),a,decide_eq_false (sx h3 (c:=0) (by decide)),decide_eq_false (sx h3 (c:=12) (by decide)),decide_eq_false (sx h3 (c:=13) (by decide))]
  simp only[cond_true,cond_false,aT]
  refine Eq.trans (b:=bif cT (i.2.2.2.2.2.foldl (pJ (iK w.2.1 i.2.1)) (wL (bW w 127) i.2.1)) (iK w.2.1 i.2.1)then _ else none) rfl ?_
  rw[c1,cond_true]
  refine Eq.trans (b:=bif cW (fG (i.2.2.2.2.2.foldl (pJ (iK w.2.1 i.2.1)) (wL (bW w 127) i.2.1)) (iK w.2.1 i.2.1))then _ else none) rfl ?_
  rw[c2,cond_true]
  rfl
 ·rw[aea y lo w i _ rfl _ rfl _ rfl]
  unfold wc
  dsimp only
  rw[decide_eq_false h3,cond_false,cond_false]
  by_cases h0:(i.1:Int)=0
  ·rw[decide_eq_true h0];exact hD h k0 hm
  rw[decide_eq_false h0,cond_false,cond_false]
  by_cases h1:(i.1:Int)=12
  ·have hT:=oS h hm (ha (.inl h1))
   rw[decide_eq_true h1,h.cL hm (ha (.inl h1)),(h.Ul i.2.1).cT (by omega) (by omega) (L:=iK w.2.1 i.2.1) (by omega)]
   exact hD ((h.Ul i.2.1).D6 _) k0 hm
  rw[decide_eq_false h1,cond_false,cond_false]
  by_cases h2:(i.1:Int)=13
  ·have hT:=oS h hm (ha (.inr (.inl h2)))
   have q:=(h.take 127).Ul i.2.1
   rw[decide_eq_true h2,h.cW (by omega) (by omega),(h.take 127).cL hm (ha (.inr (.inl h2))),q.cT (by omega) (by omega) (L:=iK w.2.1 i.2.1) (by omega),(q.D6 _).cG k0 (L:=iK w.2.1 i.2.1) (by omega)]
   rfl
  rw[decide_eq_false h2,cond_false,cond_false]
  by_cases h4:(i.1:Int)=15
  ·have hT:=OC h
   rw[decide_eq_true h4,show bm 0 (w.2.1.length:Int)=true from BR (j:=0) h.len,h.cT (by omega) (by omega) (L:=(w.2.1.getD 0 (aq cw)).2.2.2.1) (by omega)]
   exact hD (h.D6 _) k0 hm
  rw[decide_eq_false h4,cond_false,cond_false]
  have s86:=jE (aej h k0 hm y lo i (hv h0 h4))
  rw[show k86 (pW y lo w i)=true from s86.1,show m86 (pW y lo w i)=_ from s86.2]
  rfl
end Go.Proofs.Vd

noncomputable section
namespace Go.Proofs.Vd
open Go.Ab Go.Ab.Lf
set_option maxRecDepth 100000
def H8(w:W3)(i:den tI):W3:=(YE i.2.2.2.1 i.2.2.2.2.1).foldl (fun w c=>fW w (decide (c<32))) w
theorem ajy(y:aj tM)(lo:List Int)(w:W3)(i:den tI)(f:aj lz):(t70 (V5 y lo w i f)).val=
 (let ret:=fun v:W3=>some (aB xh (wk y lo v))
 let M2:=fun v:W3=>bif !decide (f.1=8)then ret (fW v true)else aT (decide (0<=f.2.1)) (ret (fW v (decide (i.2.2.2.1<rO .u64 16 f.2.1))))
 let M:=bif decide (0<(y.2.2.2.2.1.length:Int))then M2 (fW w (decide (i.2.1<=f.2.1)))else M2 (fW w false)
 bif decide (f.1=7)then M else bif decide (f.1=8)then M else bif decide (f.1=14)then M else
 bif decide (f.1=13)then ret (fW w (decide (i.2.1<f.2.1)))else
 bif decide (f.1=12)then ret (H8 w i)else ret w):=by kernel_rfl
def D7(y:aj tM)(w:W3)(i:den tI)(f:aj lz):W3:=
 let M:=fW (fW w (bif decide (0<(y.2.2.2.2.1.length:Int))then decide (i.2.1<=f.2.1)else false)) (bif !decide (f.1=8)then true else decide (i.2.2.2.1<rO .u64 16 f.2.1))
 bif decide (f.1=7)then M else bif decide (f.1=8)then M else bif decide (f.1=14)then M else
 bif decide (f.1=13)then fW w (decide (i.2.1<f.2.1))else bif decide (f.1=12)then H8 w i else w
theorem aem(y:aj tM)(lo:List Int)(w:W3)(i:den tI)(f:aj lz)(hf:(0:Int)<=f.2.1):Ts (V5 y lo w i f)=wk y lo (D7 y w i f):=by
 refine(jE (t:=t70 (V5 y lo w i f)) ?_).2
 rw[ajy]
 unfold D7
 dsimp only
 rw[decide_eq_true hf]
 generalize decide (f.1=7)=c1
 generalize decide (f.1=8)=c2
 generalize decide (f.1=14)=c3
 generalize decide (f.1=13)=c4
 generalize decide (f.1=12)=c5
 generalize decide (0<(y.2.2.2.2.1.length:Int))=c6
 cases c1<;>cases c2<;>cases c3<;>cases c4<;>cases c5<;>cases c6<;>rfl
theorem Gx(w:W3)(i:den tI): ∃ b,H8 w i=(w.1,w.2.1,b):=by
 unfold H8
 have key: ∀ (l:List Int) (v:W3),(∃ b,v=(w.1,w.2.1,b))-> ∃ b,l.foldl (fun w c=>fW w (decide (c<32))) v=(w.1,w.2.1,b):=by
  intro l
  induction l with
  |nil=>intro v h;exact h
  |cons x l ih=>
   intro v h
   obtain⟨b,rfl⟩:=h
   exact ih _ ⟨_,rfl⟩
 exact key _ w ⟨_,rfl⟩
theorem vC(y:aj tM)(w:W3)(i:den tI)(f:aj lz): ∃ b,D7 y w i f=(w.1,w.2.1,b):=by
 unfold D7
 dsimp only
 cases decide (f.1=7)with
 |true=>exact⟨_,rfl⟩
 |false=>
  cases decide (f.1=8)with
  |true=>exact⟨_,rfl⟩
  |false=>
   cases decide (f.1=14)with
   |true=>exact⟨_,rfl⟩
   |false=>
    cases decide (f.1=13)with
    |true=>exact⟨_,rfl⟩
    |false=>
     cases decide (f.1=12)with
     |true=>exact Gx w i
     |false=>exact⟨_,rfl⟩
theorem Inv.fld{k m:Nat}{w:W3}(h:Inv k m w)(y:aj tM)(i:den tI)(f:aj lz):Inv k m (D7 y w i f):=by
 obtain⟨b,e⟩:=vC y w i f
 rw[e]
 exact h.bad b
def D8(y:aj tM)(i:den tI)(v:W3):W3:=
 let g:=fV y.1 i.2.1
 let S:=fG (v.1,v.2.1,kU y.1 i.2.1 v.2.2) g.1
 l8 (S.1,fe S.1 S.2.1 i.1 g.1 g.2,S.2.2) g.1
def aen(w:W3):W3:=
 let v:=bW w 127
 let t:=(e9 v.1 v.2.1 v.2.2 0).1
 let u:=bW v 0
 l8 (bW u t) [(e9 u.1 u.2.1 u.2.2 t).1]
def aag(y:aj tM)(w:W3)(i:den tI):W3:=l8 (fG (D7 y w i (kB i.1)) (kB i.1).2.2.2.1) (kB i.1).2.2.2.2.1
def fC(y:aj tM)(lo:List Int)(w:W3)(i:den tI):W3:=
 bif (kB i.1).2.2.1 then aag y w i else
 bif decide (i.1=2)||(decide (i.1=3)||decide (i.1=4))then D8 y i (bif decide (i.1=4)then bW w 127 else w)else
 bif decide (i.1=5)||decide (i.1=11)then nV w i.1 else
 bif decide (i.1=26)then bW w 0 else
 bif decide (i.1=27)then aen w else
 bif decide (i.1=16)then(let c:=cb y.1 (dR y.2.1 y.2.2.1 i.2.1);l8 (fG (fW w (dP y.1 (dR y.2.1 y.2.2.1 i.2.1))) c.1) c.2)else
 bif decide (i.1=17)then(let d:=cb y.1 i.2.1;l8 (fG (bW (fW w (bif dP y.1 i.2.1 then(bif decide (0<(y.2.2.2.1.length:Int))then decide (i.2.2.1=0)else false)else false)) 127) d.1) d.2)else
 wc y lo w i
def zL(y:aj tM):Prop:= ∀ s:den aI,s∈y.1->List.length s.1<=32/\List.length s.2<=32
theorem D9{y:aj tM}(h:zL y):gT y.1=true:=by
 unfold gT
 rw[List.all_eq_true]
 intro s hs
 obtain⟨h1,h2⟩:=h s hs
 rw[decide_eq_true (by omega),decide_eq_true (by omega)]
 rfl
theorem mQ{y:aj tM}(h:zL y)(k:Int):List.length (cb y.1 k).1<=32/\List.length (cb y.1 k).2<=32:=by
 unfold cb
 cases hk:dP y.1 k with
 |false=>exact⟨Nat.zero_le _,Nat.zero_le _⟩
 |true=>
  unfold dP at hk
  have h1: ¬ k<0:=fun e=>by rw[decide_eq_true e]at hk;cases hk
  have h2: ¬ (y.1.length:Int)<=k:=fun e=>by rw[decide_eq_false h1,decide_eq_true e]at hk;cases hk
  have hj:k.toNat<y.1.length:=by omega
  refine h _ ?_
  rw[List.getD_eq_getElem?_getD,List.getElem?_eq_getElem hj]
  exact List.getElem_mem hj
theorem H9{y:aj tM}(h:zL y)(a:Int):List.length (fV y.1 a).1<=32/\List.length (fV y.1 a).2<=32:=by
 unfold fV
 cases decide (0<=a)with
 |true=>exact mQ h a
 |false=>
  cases decide (a= -64)with
  |true=>exact⟨Nat.zero_le _,Nat.zero_le _⟩
  |false=>exact⟨Nat.zero_le _,by show List.length [_]<=32;simp⟩
theorem Inv.blk{k m:Nat}{w:W3}(h:Inv k m w){y:aj tM}(ht:zL y)(i:den tI):Inv (k+32) (m+1) (D8 y i w):=by
 obtain⟨a,b⟩:=H9 ht i.2.1
 have q:=((h.bad (kU y.1 i.2.1 w.2.2)).D6 (fV y.1 i.2.1).1).opn i.1 a b
 exact(q.Wa (fV y.1 i.2.1).1).le (by omega) (Nat.le_refl _)
theorem Inv.Cd{k m:Nat}{w:W3}(h:Inv k m w):Inv (k+1) m (aen w):=(((h.take 127).take 0).take _).Wa [_]
theorem Inv.pln{k m:Nat}{w:W3}(h:Inv k m w)(y:aj tM)(i:den tI):Inv (k+16) m (aag y w i):=
 (((h.fld y i (kB i.1)).D6 _).Wa _).le (by have:=(Ov i.1).2.2.1;omega) (Nat.le_refl _)
theorem Inv.close{k m:Nat}{w:W3}(h:Inv k m w)(n:Int)(jN:(nV w n).2.1≠[]):Inv (k+32) m (nV w n):=by
 have hio:=h.io _ h.mem
 have hS:Inv k m ((mb w).1,w.2.1,(mb w).2):=h.D6 (dy w.2.1).2.2.2.1
 unfold nV at jN ⊢
 obtain⟨r,B,e⟩:=uM h.ne
 have ec:s5 w=r:=by unfold s5;rw[e];simp
 have et:dy w.2.1=B:=by rw[e,rI]
 cases hb:BU w with
 |true=>
  rw[ec,et,cond_true,<-e]
  exact(hS.bad true).le (by omega) (Nat.le_refl _)
 |false=>
  rw[hb]at jN
  simp only[cond_false]at jN ⊢
  have hh:((mb w).1.length:Int)=(dy w.2.1).2.1:=by
   unfold BU at hb
   rw[Bool.or_eq_false_iff]at hb
   have:=hb.2
   simpa using this
  have hp:=h.pw
  have hht:=h.ht
  have aah:=h.io
  have hsb:=h.sb
  have hsk:=hS.sk
  rw[e]at hp hht aah hsb
  rw[List.pairwise_append]at hp
  rw[ec]at jN ⊢
  have hr: ∀ b,b∈r->(b.2.1:Int)<=((mb w).1.length:Int):=fun b hb=>by rw[hh,et];exact hp.2.2 b hb B (by simp)
  have hsk:(mb w).1.length<=k:=hsk
  cases hn5:decide (n=5)with
  |true=>
   rw[hn5]at jN
   simp only[cond_true]at jN ⊢
   refine⟨jN,?_,?_,?_,?_,?_⟩
   ·show(fe _ _ _ _ _).Pairwise _
    unfold fe
    rw[List.pairwise_append]
    refine⟨hp.1,List.pairwise_singleton _ _,fun a ha b hb=>?_⟩
    have:b=(5,((mb w).1.length:Int),(dy w.2.1).2.2.1,(dy w.2.1).2.2.2.1,false,wa r):=by simpa using hb
    rw[this]
    exact hr a ha
   ·intro b hb
    unfold fe at hb
    rcases List.mem_append.1 hb with hb|hb
    ·exact⟨(hht b (List.mem_append_left _ hb)).1,Int.le_trans (hr b hb) (by show _<=(((mb w).1++(dy w.2.1).2.2.1).length:Int);rw[List.length_append];omega)⟩
    ·have:b=(5,((mb w).1.length:Int),(dy w.2.1).2.2.1,(dy w.2.1).2.2.2.1,false,wa r):=by simpa using hb
     rw[this]
     exact⟨Int.natCast_nonneg _,by show((mb w).1.length:Int)<=(((mb w).1++(dy w.2.1).2.2.1).length:Int);rw[List.length_append];omega⟩
   ·intro b hb
    unfold fe at hb
    rcases List.mem_append.1 hb with hb|hb
    ·exact aah b (List.mem_append_left _ hb)
    ·have:b=(5,((mb w).1.length:Int),(dy w.2.1).2.2.1,(dy w.2.1).2.2.2.1,false,wa r):=by simpa using hb
     rw[this]
     exact hio
   ·show((mb w).1++(dy w.2.1).2.2.1).length<=_
    rw[List.length_append]
    omega
   ·show(fe _ _ _ _ _).length<=_
    unfold fe
    simpa using hsb
  |false=>
   rw[hn5]at jN
   simp only[cond_false]at jN ⊢
   refine⟨jN,hp.1,fun b hb=>?_,fun b hb=>aah b (List.mem_append_left _ hb),?_,?_⟩
   ·exact⟨(hht b (List.mem_append_left _ hb)).1,Int.le_trans (hr b hb) (by show _<=(((mb w).1++(dy w.2.1).2.2.2.1).length:Int);rw[List.length_append];omega)⟩
   ·show((mb w).1++(dy w.2.1).2.2.2.1).length<=_
    rw[List.length_append]
    omega
   ·have:(r++[B]).length<=m:=hsb
    rw[List.length_append]at this
    show r.length<=m
    omega
end Go.Proofs.Vd

noncomputable section
namespace Go.Proofs.Vd
open Go.Ab Go.Ab.Lf
set_option maxRecDepth 100000
theorem IOk.np{i:den tI}(h:IOk i)(hp:(kB i.1).2.2.1=false):(¬ (2<=(i.1:Int)/\(i.1:Int)<=5)-> ¬ (i.1:Int)=0-> ¬ (i.1:Int)=11-> ¬ (i.1:Int)=15-> ¬ (i.1:Int)=26-> ¬ (i.1:Int)=27->(0:Int)<=i.2.1/\(i.2.1:Int)<4294967296)/\((i.1:Int)=14-> ∀ x,x∈i.2.2.2.2.2->(0:Int)<=x):=by
 have hn:=aee h.is hp
 have key: ∀ (o f:Int),npP o f=true->(f=3∨f=4∨f=5∨f=6∨((2<=o/\o<=5)∨o=0∨o=11∨o=15∨o=26∨o=27))/\(o=14->f=4):=by
  intro o f h
  unfold npP at h
  by_cases f1:f=1
  ·rw[decide_eq_true f1]at h
   simp only[cond_true,Bool.or_eq_true,decide_eq_true_eq]at h
   omega
  rw[decide_eq_false f1,cond_false]at h
  by_cases f2:f=2
  ·rw[decide_eq_true f2]at h
   simp only[cond_true,Bool.or_eq_true,decide_eq_true_eq]at h
   omega
  rw[decide_eq_false f2,cond_false]at h
  by_cases f3:f=3
  ·rw[decide_eq_true f3]at h
   simp only[cond_true,Bool.or_eq_true,decide_eq_true_eq]at h
   omega
  rw[decide_eq_false f3,cond_false]at h
  by_cases f4:f=4
  ·rw[decide_eq_true f4]at h
   simp only[cond_true,decide_eq_true_eq]at h
   omega
  rw[decide_eq_false f4,cond_false]at h
  by_cases f5:f=5
  ·rw[decide_eq_true f5]at h
   simp only[cond_true,Bool.or_eq_true,Bool.and_eq_true,decide_eq_true_eq]at h
   omega
  rw[decide_eq_false f5,cond_false]at h
  by_cases f6:f=6
  ·rw[decide_eq_true f6]at h
   simp only[cond_true,decide_eq_true_eq]at h
   omega
  rw[decide_eq_false f6]at h
  cases h
 obtain⟨k1,k2⟩:=key _ _ hn
 refine⟨fun a b c d e f=>?_,fun e=>h.l (k2 e)⟩
 rcases k1 with q|q|q|q|q|q|q|q|q|q
 ·exact h.a _ rfl (.inl q)
 ·exact h.a _ rfl (.inr (.inl q))
 ·exact h.a _ rfl (.inr (.inr (.inl q)))
 ·exact h.a _ rfl (.inr (.inr (.inr q)))
 ·exact(a q).elim
 ·exact(b q).elim
 ·exact(c q).elim
 ·exact(d q).elim
 ·exact(e q).elim
 ·exact(f q).elim
theorem Inv.step{k m:Nat}{w:W3}(h:Inv k m w){y:aj tM}(ht:zL y)(lo:List Int){i:den tI}(hi:IOk i)(hk:k+32*i.2.2.2.2.2.length<=1073741824)(hm:m<=1073741824)(jN:(fC y lo w i).2.1≠[]):Inv (k+32) (m+1) (fC y lo w i):=by
 unfold fC at jN ⊢
 cases hp:(kB i.1).2.2.1 with
 |true=>exact(h.pln y i).le (by omega) (by omega)
 |false=>
  rw[hp]at jN
  simp only[cond_false]at jN ⊢
  obtain⟨n1,n2⟩:=hi.np hp
  cases c1:decide (i.1=2)||(decide (i.1=3)||decide (i.1=4))with
  |true=>
   simp only[cond_true]
   cases decide (i.1=4)with
   |true=>exact(h.take 127).blk ht i
   |false=>exact h.blk ht i
  |false=>
   rw[c1]at jN
   simp only[cond_false]at jN ⊢
   cases c2:decide (i.1=5)||decide (i.1=11)with
   |true=>
    rw[c2]at jN
    exact(h.close i.1 jN).le (by omega) (by omega)
   |false=>
    rw[c2]at jN
    simp only[cond_false]at jN ⊢
    cases c3:decide (i.1=26)with
    |true=>exact(h.take 0).le (by omega) (by omega)
    |false=>
     simp only[cond_false]
     cases c4:decide (i.1=27)with
     |true=>exact h.Cd.le (by omega) (by omega)
     |false=>
      simp only[cond_false]
      cases c5:decide (i.1=16)with
      |true=>
       have:=mQ ht (dR y.2.1 y.2.2.1 i.2.1)
       exact(((h.Uk _).D6 _).Wa _).le (by omega) (by omega)
      |false=>
       simp only[cond_false]
       cases c6:decide (i.1=17)with
       |true=>
        have:=mQ ht i.2.1
        exact((((h.Uk _).take 127).D6 _).Wa _).le (by omega) (by omega)
       |false=>
        simp only[cond_false]
        simp only[Bool.or_eq_false_iff,decide_eq_false_iff_not]at c1 c2 c3 c4 c5 c6
        have key: ∀ o:Int,(¬ o=2/\ ¬ o=3/\ ¬ o=4)->(¬ o=5/\ ¬ o=11)-> ¬ (2<=o/\o<=5):=fun o _ _=>by omega
        refine(h.jump hm y lo i (fun e=>?_) n2 hk hi.n).le (Nat.le_refl _) (Nat.le_succ _)
        have ne0: ∀ o:Int,o=12∨o=13∨o=14-> ¬ o=0/\ ¬ o=15:=fun o _=>by omega
        exact(n1 (key _ c1 c2) (ne0 _ e).1 c2.2 (ne0 _ e).2 c3 c4).1
theorem aep{k m:Nat}{w:W3}(h:Inv k m w){y:aj tM}(ht:zL y)(lo:List Int){i:den tI}(hi:IOk i)(hk:k+32*i.2.2.2.2.2.length<=1073741823)(hm:m<=1073741823)(I2:y.2.1.length<=1099511627776):(t62 (pW y lo w i)).val=some (aB lT (wk y lo (fC y lo w i))):=by
 obtain⟨l1,l2,l3,_,_⟩:=Ov i.1
 have k0:k<=1073741823:=by omega
 have hz:=aem y lo w i (kB i.1) l1
 rw[ajt y (D9 ht) lo w i _ rfl _ hz.symm _ rfl _ rfl _ rfl]
 unfold fC
 dsimp only
 cases hp:(kB i.1).2.2.1 with
 |true=>
  have q:=h.fld y i (kB i.1)
  have e:Tt (V5 y lo w i (kB i.1))=true:=decide_eq_true l1
  simp only[cond_true]
  rw[e]
  obtain⟨b,eb⟩:=vC y w i (kB i.1)
  have c1:=q.cT (L:=(kB i.1).2.2.2.1) (by omega) (by omega) (by omega)
  have c2:=(q.D6 (kB i.1).2.2.2.1).cG (by omega) (L:=(kB i.1).2.2.2.2.1) (by omega)
  refine Eq.trans (b:=bif cT (D7 y w i (kB i.1)) (kB i.1).2.2.2.1 then _ else none) rfl ?_
  rw[c1,cond_true]
  refine Eq.trans (b:=bif cG (fG (D7 y w i (kB i.1)) (kB i.1).2.2.2.1) (kB i.1).2.2.2.2.1 then _ else none) rfl ?_
  rw[c2,cond_true]
  rfl
 |false=>
  simp only[cond_false]
  obtain⟨n1,n2⟩:=hi.np hp
  have B2: ∀ {k m:Nat} {v:W3},Inv k m v->k<=1073741823->m<=1073741823->aT (cT (v.1,v.2.1,kU y.1 i.2.1 v.2.2) (fV y.1 i.2.1).1) (
   aT (decide ((fG (v.1,v.2.1,kU y.1 i.2.1 v.2.2) (fV y.1 i.2.1).1).2.1.length+1<=549755813888)) (
    aT (cG ((fG (v.1,v.2.1,kU y.1 i.2.1 v.2.2) (fV y.1 i.2.1).1).1,fe (fG (v.1,v.2.1,kU y.1 i.2.1 v.2.2) (fV y.1 i.2.1).1).1 (fG (v.1,v.2.1,kU y.1 i.2.1 v.2.2) (fV y.1 i.2.1).1).2.1 i.1 (fV y.1 i.2.1).1 (fV y.1 i.2.1).2,(fG (v.1,v.2.1,kU y.1 i.2.1 v.2.2) (fV y.1 i.2.1).1).2.2) (fV y.1 i.2.1).1)
     (some (aB lT (wk y lo (D8 y i v))))))=some (aB lT (wk y lo (D8 y i v))):=by
   intro k m v q hk hm
   obtain⟨a,b⟩:=H9 ht i.2.1
   have q1:=q.bad (kU y.1 i.2.1 v.2.2)
   have q2:=q1.D6 (fV y.1 i.2.1).1
   have q3:=q2.opn i.1 a b
   have hb:v.2.1.length<=m:=q.sb
   have c0:decide ((fG (v.1,v.2.1,kU y.1 i.2.1 v.2.2) (fV y.1 i.2.1).1).2.1.length+1<=549755813888)=true:=decide_eq_true (by show v.2.1.length+1<=_;omega)
   rw[q1.cT (by omega) (by omega) (L:=(fV y.1 i.2.1).1) (by omega),c0,q3.cG (by omega) (L:=(fV y.1 i.2.1).1) (by omega)]
   rfl
  have yX:(bif decide (i.1=4)then aT (cW w) (aT (cT ((bW w 127).1,(bW w 127).2.1,kU y.1 i.2.1 (bW w 127).2.2) (fV y.1 i.2.1).1) (
   aT (decide ((fG ((bW w 127).1,(bW w 127).2.1,kU y.1 i.2.1 (bW w 127).2.2) (fV y.1 i.2.1).1).2.1.length+1<=549755813888)) (
    aT (cG ((fG ((bW w 127).1,(bW w 127).2.1,kU y.1 i.2.1 (bW w 127).2.2) (fV y.1 i.2.1).1).1,fe (fG ((bW w 127).1,(bW w 127).2.1,kU y.1 i.2.1 (bW w 127).2.2) (fV y.1 i.2.1).1).1 (fG ((bW w 127).1,(bW w 127).2.1,kU y.1 i.2.1 (bW w 127).2.2) (fV y.1 i.2.1).1).2.1 i.1 (fV y.1 i.2.1).1 (fV y.1 i.2.1).2,(fG ((bW w 127).1,(bW w 127).2.1,kU y.1 i.2.1 (bW w 127).2.2) (fV y.1 i.2.1).1).2.2) (fV y.1 i.2.1).1)
     (some (aB lT (wk y lo (D8 y i (bW w 127))))))))else aT (cT (w.1,w.2.1,kU y.1 i.2.1 w.2.2) (fV y.1 i.2.1).1) (
   aT (decide ((fG (w.1,w.2.1,kU y.1 i.2.1 w.2.2) (fV y.1 i.2.1).1).2.1.length+1<=549755813888)) (
    aT (cG ((fG (w.1,w.2.1,kU y.1 i.2.1 w.2.2) (fV y.1 i.2.1).1).1,fe (fG (w.1,w.2.1,kU y.1 i.2.1 w.2.2) (fV y.1 i.2.1).1).1 (fG (w.1,w.2.1,kU y.1 i.2.1 w.2.2) (fV y.1 i.2.1).1).2.1 i.1 (fV y.1 i.2.1).1 (fV y.1 i.2.1).2,(fG (w.1,w.2.1,kU y.1 i.2.1 w.2.2) (fV y.1 i.2.1).1).2.2) (fV y.1 i.2.1).1)
     (some (aB lT (wk y lo (D8 y i w)))))))=some (aB lT (wk y lo (D8 y i (bif decide (i.1=4)then bW w 127 else w)))):=by
   cases decide (i.1=4)with
   |true=>rw[cond_true,cond_true,h.cW (by omega) (by omega)];exact B2 (h.take 127) k0 hm
   |false=>exact B2 h k0 hm
  by_cases d2:(i.1:Int)=2
  ·rw[decide_eq_true d2,cond_true];exact yX
  rw[decide_eq_false d2,cond_false]
  by_cases d3:(i.1:Int)=3
  ·rw[decide_eq_true d3,cond_true];exact yX
  rw[decide_eq_false d3,cond_false]
  by_cases d4:(i.1:Int)=4
  ·have:=yX
   rw[decide_eq_true d4]at this ⊢
   exact this
  rw[decide_eq_false d4,cond_false]
  simp only[Bool.false_or,cond_false]
  have s75:=jE (aeh h (by omega) (by omega) y lo i.1)
  have e75:aT (k75 (Qj y lo w i.1)) (some (aB lT (m75 (Qj y lo w i.1))))=some (aB lT (wk y lo (nV w i.1))):=by
   rw[show k75 (Qj y lo w i.1)=true from s75.1,show m75 (Qj y lo w i.1)=_ from s75.2]
   rfl
  by_cases d5:(i.1:Int)=5
  ·rw[decide_eq_true d5,cond_true];exact e75
  rw[decide_eq_false d5,cond_false]
  by_cases d11:(i.1:Int)=11
  ·rw[decide_eq_true d11,cond_true];exact e75
  rw[decide_eq_false d11,cond_false]
  simp only[Bool.false_or,cond_false]
  by_cases d26:(i.1:Int)=26
  ·rw[decide_eq_true d26,h.cW (by omega) (by omega)];rfl
  rw[decide_eq_false d26]
  simp only[cond_false]
  by_cases d27:(i.1:Int)=27
  ·have q1:=h.take 127
   have q2:=q1.take 0
   have q3:=q2.take ((e9 (bW w 127).1 (bW w 127).2.1 (bW w 127).2.2 0).1)
   rw[decide_eq_true d27,h.cW (by omega) (by omega),q1.cW (by omega) (by omega),q2.cW (by omega) (by omega),q3.cG (by omega) (L:=[_]) (by simp)]
   rfl
  rw[decide_eq_false d27]
  simp only[cond_false]
  have key: ∀ o:Int,¬ o=2-> ¬ o=3-> ¬ o=4-> ¬ o=5-> ¬ (2<=o/\o<=5):=fun o _ _ _ _=>by omega
  by_cases d16:(i.1:Int)=16
  ·have ha:=n1 (key _ d2 d3 d4 d5) (sx d16 (by decide)) (sx d16 (by decide)) (sx d16 (by decide)) d26 d27
   obtain⟨a,b⟩:=mQ ht (dR y.2.1 y.2.2.1 i.2.1)
   have q:=h.Uk (dP y.1 (dR y.2.1 y.2.2.1 i.2.1))
   have c0:(decide (i.2.1<9223372036854775808)&&decide (y.2.1.length<=1099511627776))=true:=by
    rw[decide_eq_true (show(i.2.1:Int)<9223372036854775808 from Int.lt_trans ha.2 (by decide)),decide_eq_true I2];rfl
   rw[decide_eq_true d16,c0,q.cT (by omega) (by omega) (L:=(cb y.1 (dR y.2.1 y.2.2.1 i.2.1)).1) (by omega),(q.D6 _).cG (by omega) (L:=(cb y.1 (dR y.2.1 y.2.2.1 i.2.1)).2) (by omega)]
   rfl
  rw[decide_eq_false d16]
  simp only[cond_false]
  by_cases d17:(i.1:Int)=17
  ·obtain⟨a,b⟩:=mQ ht i.2.1
   have I: ∀ ok:Bool,aT (cW w) (aT (cT (bW (fW w ok) 127) (cb y.1 i.2.1).1) (aT (cG (fG (bW (fW w ok) 127) (cb y.1 i.2.1).1) (cb y.1 i.2.1).2) (some (aB lT (wk y lo (l8 (fG (bW (fW w ok) 127) (cb y.1 i.2.1).1) (cb y.1 i.2.1).2))))))=some (aB lT (wk y lo (l8 (fG (bW (fW w ok) 127) (cb y.1 i.2.1).1) (cb y.1 i.2.1).2))):=by
    intro ok
    have q:=(h.Uk ok).take 127
    rw[h.cW (by omega) (by omega),q.cT (by omega) (by omega) (L:=(cb y.1 i.2.1).1) (by omega),(q.D6 _).cG (by omega) (L:=(cb y.1 i.2.1).2) (by omega)]
    rfl
   rw[decide_eq_true d17]
   simp only[cond_true,I]
   cases dP y.1 i.2.1 with
   |false=>rfl
   |true=>cases decide (0<(y.2.2.2.1.length:Int))<;>rfl
  rw[decide_eq_false d17]
  simp only[cond_false]
  have s77:=jE (ael h (by omega) y lo i (by omega) hi.n (fun e=>?_) n2 (fun e0 e15=>(n1 (key _ d2 d3 d4 d5) e0 d11 e15 d26 d27).1))
  ·rw[show k77 (pW y lo w i)=true from s77.1,show m77 (pW y lo w i)=_ from s77.2]
   rfl
  ·have ne0: ∀ o:Int,o=12∨o=13∨o=14-> ¬ o=0/\ ¬ o=15:=fun o _=>by omega
   exact(n1 (key _ d2 d3 d4 d5) (ne0 _ e).1 d11 (ne0 _ e).2 d26 d27).1
end Go.Proofs.Vd
