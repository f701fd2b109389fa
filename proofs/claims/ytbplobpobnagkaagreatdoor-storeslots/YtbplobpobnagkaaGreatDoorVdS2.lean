import Derived.Test.YtbplobpobnagkaaGreatDoorVdV4
noncomputable section
namespace Go.Proofs.Vd
open Go.Ab Go.Ab.Lf
set_option maxRecDepth 100000
abbrev Wt(y:aj tM)(lo:List Int)(w:W3)(i:den tI)(f:aj lF):aj tFi:=(y.1,y.2.1,y.2.2.1,y.2.2.2.1,y.2.2.2.2.1,y.2.2.2.2.2.1,y.2.2.2.2.2.2.1,y.2.2.2.2.2.2.2.1,y.2.2.2.2.2.2.2.2.1,y.2.2.2.2.2.2.2.2.2.1,y.2.2.2.2.2.2.2.2.2.2.1,lo,w.1,w.2.1,w.2.2,i.1,i.2.1,i.2.2.1,i.2.2.2.1,i.2.2.2.2.1,i.2.2.2.2.2,f.1,f.2.1,f.2.2.1,f.2.2.2.1,f.2.2.2.2.1,())
theorem aeS(gt:Bool)(y:aj tM)(hgt:gt=gT y.1)(lo:List Int)(w:W3)(i:den tI)(f:aj lF)(hf:f=kG i.1)(z:aj xz)(hz:z=Tz (Wt y lo w i f))(g:den aH)(hg:g=fU y.1 i.2.1)(c:den aH)(hc:c=cr y.1 (dO y.2.1 y.2.2.1 i.2.1))(d:den aH)(hd:d=cr y.1 i.2.1):(t62 (qe y lo w i)).val=
 (let o:=i.1
 let a:=i.2.1
 let ret:=fun v:W3=>some (aA l8 (wk y lo v))
 let B2:=fun v:W3=>(
  let u:W3:=(v.1,v.2.1,kX y.1 a v.2.2)
  aM gt<|aM (cT u g.1) (let S:=fH u g.1
   aM (decide (S.2.1.length+1<=549755813888)) (let Q:W3:=(S.1,fe S.1 S.2.1 o g.1 g.2,S.2.2)
    aM (cG Q g.1) (ret (mq Q g.1)))))
 let zh:=bif decide (o=4)then aM (cW w) (B2 (ca w 127))else B2 w
 let CL:=aM (k75 (Qr y lo w o)) (some (aA l8 (m75 (Qr y lo w o))))
 let I:=fun ok:Bool=>(let v:=ca (fV w ok) 127
  aM (cW w) (aM (cT v d.1) (let S:=fH v d.1
   aM (cG S d.2) (ret (mq S d.2)))))
 bif f.2.2.1 then aM (TA (Wt y lo w i f)) (let v:W3:=(z.2.2.2.2.2.2.2.2.2.2.2.2.1,z.2.2.2.2.2.2.2.2.2.2.2.2.2.1,z.2.2.2.2.2.2.2.2.2.2.2.2.2.2.1)
  aM (cT v f.2.2.2.1) (let S:=fH v f.2.2.2.1
   aM (cG S f.2.2.2.2.1) (some (aA l8 (z.1,z.2.1,z.2.2.1,z.2.2.2.1,z.2.2.2.2.1,z.2.2.2.2.2.1,z.2.2.2.2.2.2.1,z.2.2.2.2.2.2.2.1,z.2.2.2.2.2.2.2.2.1,z.2.2.2.2.2.2.2.2.2.1,z.2.2.2.2.2.2.2.2.2.2.1,z.2.2.2.2.2.2.2.2.2.2.2.1,S.1++f.2.2.2.2.1,S.2.1,S.2.2,())))))
 else bif decide (o=2)then zh else bif decide (o=3)then zh else bif decide (o=4)then zh else
 bif decide (o=5)then CL else bif decide (o=11)then CL else
 bif decide (o=26)then aM (cW w) (ret (ca w 0))else
 bif decide (o=27)then aM (cW w) (let v:=ca w 127
  aM (cW v) (let t:=(e9 v.1 v.2.1 v.2.2 0).1
   let u:=ca v 0
   aM (cW u) (let r:=(e9 u.1 u.2.1 u.2.2 t).1
    let q:=ca u t
    aM (cG q [r]) (ret (mq q [r])))))else
 bif decide (o=16)then aM (gt&&(decide (a<9223372036854775808)&&decide (y.2.1.length<=1099511627776))) (
  let v:=fV w (dM y.1 (dO y.2.1 y.2.2.1 a))
  aM (cT v c.1) (let S:=fH v c.1
   aM (cG S c.2) (ret (mq S c.2))))else
 bif decide (o=17)then aM gt (bif dM y.1 a then(bif decide (0<(y.2.2.2.1.length:Int))then I (decide (i.2.2.1=0))else I false)else I false)else
 aM (k77 (qe y lo w i)) (some (aA l8 (m77 (qe y lo w i))))):=by
 subst hgt;subst hf;subst hz;subst hg;subst hc;subst hd
 kernel_rfl
theorem aj3(y:aj tM)(hT:gT y.1=true)(lo:List Int)(w:W3)(i:den tI)(f:aj lF)(hf:f=kG i.1)(z:aj xz)(hz:z=Tz (Wt y lo w i f))(g:den aH)(hg:g=fU y.1 i.2.1)(c:den aH)(hc:c=cr y.1 (dO y.2.1 y.2.2.1 i.2.1))(d:den aH)(hd:d=cr y.1 i.2.1):(t62 (qe y lo w i)).val=
 (let o:=i.1
 let a:=i.2.1
 let ret:=fun v:W3=>some (aA l8 (wk y lo v))
 let B2:=fun v:W3=>(
  let u:W3:=(v.1,v.2.1,kX y.1 a v.2.2)
  aM (cT u g.1) (let S:=fH u g.1
   aM (decide (S.2.1.length+1<=549755813888)) (let Q:W3:=(S.1,fe S.1 S.2.1 o g.1 g.2,S.2.2)
    aM (cG Q g.1) (ret (mq Q g.1)))))
 let zh:=bif decide (o=4)then aM (cW w) (B2 (ca w 127))else B2 w
 let CL:=aM (k75 (Qr y lo w o)) (some (aA l8 (m75 (Qr y lo w o))))
 let I:=fun ok:Bool=>(let v:=ca (fV w ok) 127
  aM (cW w) (aM (cT v d.1) (let S:=fH v d.1
   aM (cG S d.2) (ret (mq S d.2)))))
 bif f.2.2.1 then aM (TA (Wt y lo w i f)) (let v:W3:=(z.2.2.2.2.2.2.2.2.2.2.2.2.1,z.2.2.2.2.2.2.2.2.2.2.2.2.2.1,z.2.2.2.2.2.2.2.2.2.2.2.2.2.2.1)
  aM (cT v f.2.2.2.1) (let S:=fH v f.2.2.2.1
   aM (cG S f.2.2.2.2.1) (some (aA l8 (z.1,z.2.1,z.2.2.1,z.2.2.2.1,z.2.2.2.2.1,z.2.2.2.2.2.1,z.2.2.2.2.2.2.1,z.2.2.2.2.2.2.2.1,z.2.2.2.2.2.2.2.2.1,z.2.2.2.2.2.2.2.2.2.1,z.2.2.2.2.2.2.2.2.2.2.1,z.2.2.2.2.2.2.2.2.2.2.2.1,S.1++f.2.2.2.2.1,S.2.1,S.2.2,())))))
 else bif decide (o=2)then zh else bif decide (o=3)then zh else bif decide (o=4)then zh else
 bif decide (o=5)then CL else bif decide (o=11)then CL else
 bif decide (o=26)then aM (cW w) (ret (ca w 0))else
 bif decide (o=27)then aM (cW w) (let v:=ca w 127
  aM (cW v) (let t:=(e9 v.1 v.2.1 v.2.2 0).1
   let u:=ca v 0
   aM (cW u) (let r:=(e9 u.1 u.2.1 u.2.2 t).1
    let q:=ca u t
    aM (cG q [r]) (ret (mq q [r])))))else
 bif decide (o=16)then aM (decide (a<9223372036854775808)&&decide (y.2.1.length<=1099511627776)) (
  let v:=fV w (dM y.1 (dO y.2.1 y.2.2.1 a))
  aM (cT v c.1) (let S:=fH v c.1
   aM (cG S c.2) (ret (mq S c.2))))else
 bif decide (o=17)then(bif dM y.1 a then(bif decide (0<(y.2.2.2.1.length:Int))then I (decide (i.2.2.1=0))else I false)else I false)else
 aM (k77 (qe y lo w i)) (some (aA l8 (m77 (qe y lo w i))))):=by
 refine Eq.trans (aeS true y hT.symm lo w i f hf z hz g hg c hc d hd) ?_
 kernel_rfl
end Go.Proofs.Vd

noncomputable section
namespace Go.Proofs.Vd
open Go.Ab Go.Ab.Lf
set_option maxRecDepth 100000
theorem Wu(a c:List (List Int))(sz n i:Int)(q:Int)(hq:q=bw .i64 sz ((c.getD i.toNat (ao (.ae i64)):List Int).length:Int)):(GK (aA ve (a,sz,c,n,i,()))).val=
 bif decide (i<n)then aM (aU i (c.length:Int)) (bif decide (q<0)then none else some (Rs.next (aA ve (a,q,c,n,bw .i64 i 1,()))))else some (Rs.out 0 (aA mb (a,sz,()))):=by
 subst hq
 kernel_rfl
theorem Wv(o:List Int)(c:List (List Int))(n i:Int)(x:List Int)(hx:x=c.getD i.toNat (ao (.ae i64))):(Ef (aA sP (o,c,n,i,()))).val=
 bif decide (i<n)then aM (aU i (c.length:Int)) (aM (roomy 8 (o.length+x.length)) (some (Rs.next (aA sP (app o x,c,n,bw .i64 i 1,())))))else some (Rs.out 0 (aA mc (o,()))):=by
 subst hx
 kernel_rfl
theorem aj4(c:List (List Int))(z:aj mb)(hz:z=gM GK ve mb (c,0,c,(c.length:Int),0,())):(t59 (c,())).val=
 aM (rk GK ve mb (c,0,c,(c.length:Int),0,())) (
  let fin:=aM (rk Ef sP mc ([],z.1,(z.1.length:Int),0,())) (some (aA GL (gM Ef sP mc ([],z.1,(z.1.length:Int),0,()))))
  bif decide (z.2.1<0)then none else bif decide (0<bQ .i64 z.2.1 0)then aM (decide (0<=bQ .i64 z.2.1 0)) (aM (roomy 8 (0+(List.replicate (bQ .i64 z.2.1 0).toNat (0:Int)).length)) (aM (eK 0 0 ((app [] (List.replicate (bQ .i64 z.2.1 0).toNat (0:Int))).length:Int)) fin))else fin):=by
 subst hz
 kernel_rfl
abbrev wkV(y:aj tM)(lo:List Int)(w:W3)(mk:List (den tU))(k:Int)(x:den tI)(c:List (den tI))(n1 i1 v n i:Int):aj sR:=(y.1,y.2.1,y.2.2.1,y.2.2.2.1,y.2.2.2.2.1,y.2.2.2.2.2.1,y.2.2.2.2.2.2.1,y.2.2.2.2.2.2.2.1,y.2.2.2.2.2.2.2.2.1,y.2.2.2.2.2.2.2.2.2.1,y.2.2.2.2.2.2.2.2.2.2.1,lo,w.1,w.2.1,w.2.2,mk,k,x.1,x.2.1,x.2.2.1,x.2.2.2.1,x.2.2.2.2.1,x.2.2.2.2.2,c,n1,i1,v,n,i,())
abbrev aaF(y:aj tM)(lo:List Int)(w:W3)(mk:List (den tU))(k:Int)(x:den tI)(c:List (den tI))(n1 i1 v:Int):aj mh:=(y.1,y.2.1,y.2.2.1,y.2.2.2.1,y.2.2.2.2.1,y.2.2.2.2.2.1,y.2.2.2.2.2.2.1,y.2.2.2.2.2.2.2.1,y.2.2.2.2.2.2.2.2.1,y.2.2.2.2.2.2.2.2.2.1,y.2.2.2.2.2.2.2.2.2.2.1,lo,w.1,w.2.1,w.2.2,mk,k,x.1,x.2.1,x.2.2.1,x.2.2.2.1,x.2.2.2.2.1,x.2.2.2.2.2,c,n1,i1,v,())
abbrev Ww(y:aj tM)(lo:List Int)(w:W3)(mk:List (den tU))(c:List (den tI))(n i:Int):aj ig:=(y.1,y.2.1,y.2.2.1,y.2.2.2.1,y.2.2.2.2.1,y.2.2.2.2.2.1,y.2.2.2.2.2.2.1,y.2.2.2.2.2.2.2.1,y.2.2.2.2.2.2.2.2.1,y.2.2.2.2.2.2.2.2.2.1,y.2.2.2.2.2.2.2.2.2.2.1,lo,w.1,w.2.1,w.2.2,mk,c,n,i,())
theorem Wy(y:aj tM)(lo:List Int)(w:W3)(mk:List (den tU))(k:Int)(x:den tI)(c:List (den tI))(n1 i1 v n i:Int):(J4 (aA sR (wkV y lo w mk k x c n1 i1 v n i))).val=
 bif decide (i<n)then aM (aU i (w.1.length:Int)) (bif decide (w.1.getD i.toNat (ao i64)=123)then some (Rs.next (aA sR (wkV y lo w mk k x c n1 i1 (bw .i64 v 1) n (bw .i64 i 1))))else some (Rs.next (aA sR (wkV y lo w mk k x c n1 i1 v n (bw .i64 i 1)))))else some (Rs.out 0 (aA mh (aaF y lo w mk k x c n1 i1 v))):=by kernel_rfl
theorem Wz(y:aj tM)(lo:List Int)(w:W3)(mk:List (den tU))(c:List (den tI))(n i:Int)(x:den tI)(hx:x=c.getD i.toNat (ao tI))(B:den cI)(hB:B=w.2.1.getD (bQ .i64 (w.2.1.length:Int) 1).toNat (ao cI))
 (z:aj mh)(hz:z=gM J4 sR mh (wkV y lo w mk i x c n i 0 (w.1.length:Int) 0))(u:aj l8)(hu:u=AR (qe y lo w x))(q:aj GJ)(hq:q=(z.1,z.2.1,z.2.2.1,z.2.2.2.1,z.2.2.2.2.1,z.2.2.2.2.2.1,z.2.2.2.2.2.2.1,z.2.2.2.2.2.2.2.1,z.2.2.2.2.2.2.2.2.1,z.2.2.2.2.2.2.2.2.2.1,z.2.2.2.2.2.2.2.2.2.2.1,z.2.2.2.2.2.2.2.2.2.2.2.1,z.2.2.2.2.2.2.2.2.2.2.2.2.1,z.2.2.2.2.2.2.2.2.2.2.2.2.2.1,z.2.2.2.2.2.2.2.2.2.2.2.2.2.2.1,z.2.2.2.2.2.2.2.2.2.2.2.2.2.2.2.2.2.1,z.2.2.2.2.2.2.2.2.2.2.2.2.2.2.2.2.2.2.1,z.2.2.2.2.2.2.2.2.2.2.2.2.2.2.2.2.2.2.2.1,z.2.2.2.2.2.2.2.2.2.2.2.2.2.2.2.2.2.2.2.2.1,z.2.2.2.2.2.2.2.2.2.2.2.2.2.2.2.2.2.2.2.2.2.1,z.2.2.2.2.2.2.2.2.2.2.2.2.2.2.2.2.2.2.2.2.2.2.1,()))(r:aj l8)(hr:r=AR q):(tF (aA ig (Ww y lo w mk c n i))).val=
 bif decide (i<n)then aM (aU i (c.length:Int)) (aM (aU (bQ .i64 (w.2.1.length:Int) 1) (w.2.1.length:Int)) (
  bif (bif B.2.2.2.2.2 then !B.2.2.2.2.1 else false)then
   aM (rk J4 sR mh (wkV y lo w mk i x c n i 0 (w.1.length:Int) 0)) (aM (aU z.2.2.2.2.2.2.2.2.2.2.2.2.2.2.2.2.1 (z.2.2.2.2.2.2.2.2.2.2.2.2.2.2.2.1.length:Int)) (aM (k62 q) (
    bif r.2.2.2.2.2.2.2.2.2.2.2.2.2.2.1 then some (Rs.out 1 (aA ij ([],false,())))else some (Rs.next (aA ig (r.1,r.2.1,r.2.2.1,r.2.2.2.1,r.2.2.2.2.1,r.2.2.2.2.2.1,r.2.2.2.2.2.2.1,r.2.2.2.2.2.2.2.1,r.2.2.2.2.2.2.2.2.1,r.2.2.2.2.2.2.2.2.2.1,r.2.2.2.2.2.2.2.2.2.2.1,r.2.2.2.2.2.2.2.2.2.2.2.1,r.2.2.2.2.2.2.2.2.2.2.2.2.1,r.2.2.2.2.2.2.2.2.2.2.2.2.2.1,r.2.2.2.2.2.2.2.2.2.2.2.2.2.2.1,z.2.2.2.2.2.2.2.2.2.2.2.2.2.2.2.1.set z.2.2.2.2.2.2.2.2.2.2.2.2.2.2.2.2.1.toNat (true,(z.2.2.2.2.2.2.2.2.2.2.2.2.1.length:Int),z.2.2.2.2.2.2.2.2.2.2.2.2.2.2.2.2.2.2.2.2.2.2.2.2.2.2.1),z.2.2.2.2.2.2.2.2.2.2.2.2.2.2.2.2.2.2.2.2.2.2.2.1,z.2.2.2.2.2.2.2.2.2.2.2.2.2.2.2.2.2.2.2.2.2.2.2.2.1,bw .i64 z.2.2.2.2.2.2.2.2.2.2.2.2.2.2.2.2.2.2.2.2.2.2.2.2.2.1 1,()))))))
  else aM (k62 (qe y lo w x)) (bif u.2.2.2.2.2.2.2.2.2.2.2.2.2.2.1 then some (Rs.out 1 (aA ij ([],false,())))else some (Rs.next (aA ig (u.1,u.2.1,u.2.2.1,u.2.2.2.1,u.2.2.2.2.1,u.2.2.2.2.2.1,u.2.2.2.2.2.2.1,u.2.2.2.2.2.2.2.1,u.2.2.2.2.2.2.2.2.1,u.2.2.2.2.2.2.2.2.2.1,u.2.2.2.2.2.2.2.2.2.2.1,u.2.2.2.2.2.2.2.2.2.2.2.1,u.2.2.2.2.2.2.2.2.2.2.2.2.1,u.2.2.2.2.2.2.2.2.2.2.2.2.2.1,u.2.2.2.2.2.2.2.2.2.2.2.2.2.2.1,mk,c,n,bw .i64 i 1,()))))))
 else some (Rs.out 0 (aA gf (mk,()))):=by
 subst hq;subst hr;subst hu;subst hz;subst hB;subst hx
 kernel_rfl
theorem aeU(gt:Bool)(y:aj tM)(hgt:gt=gT y.1)(i:Int)(k:Int)(hk:k=bw .i64 (y.2.1.length:Int) i)(s:den aH)(hs:s=cr y.1 (dO y.2.1 y.2.2.1 k))(C:den aL)(hC:C=y.2.2.2.2.2.2.2.2.2.1.getD i.toNat (ao aL))(lo:List Int)(Xm:lo=(m59 ([s.1,C.1],())).1)(w:W3)(hw:w=([],fe [] [] 2 [] s.2,false))(a:aj ig)(ha:a=Ww y lo w (List.replicate C.2.length (false,0,0)) C.2 (C.2.length:Int) 0):(t20 (y.1,y.2.1,y.2.2.1,y.2.2.2.1,y.2.2.2.2.1,y.2.2.2.2.2.1,y.2.2.2.2.2.2.1,y.2.2.2.2.2.2.2.1,y.2.2.2.2.2.2.2.2.1,y.2.2.2.2.2.2.2.2.2.1,y.2.2.2.2.2.2.2.2.2.2.1,i,())).val=
 aM (gt&&(decide (k<9223372036854775808)&&decide (y.2.1.length<=1099511627776))) (aM (aU i (y.2.2.2.2.2.2.2.2.2.1.length:Int)) (aM (k59 ([s.1,C.1],())) (aM (decide (y.2.2.2.2.2.2.2.1=y.2.2.2.2.2.2.2.1)) (aM (decide (([]:List (den cI)).length+1<=549755813888)) (aM (aU i (y.2.2.2.2.2.2.2.2.2.1.length:Int)) (
  aM ((decide (0<=(C.2.length:Int))&&decide ((C.2.length:Int)<=(C.2.length:Int)))&&decide ((C.2.length:Int).toNat*24<=70368744177664)) (aM (aU i (y.2.2.2.2.2.2.2.2.2.1.length:Int)) (
   aM (r5 tF ig gf ij a) (bif qK tF ig a then some (aA Ca ((gM tF ig gf a).1,true,()))else some (aA Ca ((gM tF ig ij a).1,(gM tF ig ij a).2.1,()))))))))))):=by
 subst hgt;subst ha;subst hw;subst Xm;subst hC;subst hs;subst hk
 kernel_rfl
theorem aj5(y:aj tM)(hT:gT y.1=true)(i:Int)(k:Int)(hk:k=bw .i64 (y.2.1.length:Int) i)(s:den aH)(hs:s=cr y.1 (dO y.2.1 y.2.2.1 k))(C:den aL)(hC:C=y.2.2.2.2.2.2.2.2.2.1.getD i.toNat (ao aL))(lo:List Int)(Xm:lo=(m59 ([s.1,C.1],())).1)(w:W3)(hw:w=([],fe [] [] 2 [] s.2,false))(a:aj ig)(ha:a=Ww y lo w (List.replicate C.2.length (false,0,0)) C.2 (C.2.length:Int) 0):(t20 (y.1,y.2.1,y.2.2.1,y.2.2.2.1,y.2.2.2.2.1,y.2.2.2.2.2.1,y.2.2.2.2.2.2.1,y.2.2.2.2.2.2.2.1,y.2.2.2.2.2.2.2.2.1,y.2.2.2.2.2.2.2.2.2.1,y.2.2.2.2.2.2.2.2.2.2.1,i,())).val=
 aM (decide (k<9223372036854775808)&&decide (y.2.1.length<=1099511627776)) (aM (aU i (y.2.2.2.2.2.2.2.2.2.1.length:Int)) (aM (k59 ([s.1,C.1],())) (aM (decide (y.2.2.2.2.2.2.2.1=y.2.2.2.2.2.2.2.1)) (aM (decide (([]:List (den cI)).length+1<=549755813888)) (aM (aU i (y.2.2.2.2.2.2.2.2.2.1.length:Int)) (
  aM ((decide (0<=(C.2.length:Int))&&decide ((C.2.length:Int)<=(C.2.length:Int)))&&decide ((C.2.length:Int).toNat*24<=70368744177664)) (aM (aU i (y.2.2.2.2.2.2.2.2.2.1.length:Int)) (
   aM (r5 tF ig gf ij a) (bif qK tF ig a then some (aA Ca ((gM tF ig gf a).1,true,()))else some (aA Ca ((gM tF ig ij a).1,(gM tF ig ij a).2.1,()))))))))))):=by
 refine Eq.trans (aeU true y hT.symm i k hk s hs C hC lo Xm w hw a ha) ?_
 kernel_rfl
end Go.Proofs.Vd

noncomputable section
namespace Go.Proofs.Vd
open Go.Ab Go.Ab.Lf
set_option maxRecDepth 100000
theorem r9{op:Int}{f:aj lF}: ∀ {rs:List (den gu)},n4 op rs=some f-> ∃ r,r∈rs/\(r.1<=op/\op<=r.2.1)/\f=DV r
 | [],h=>by cases h
 |r::rs,h=>by
  have h:(match zT op () r rs with| .inl s=>gq (zT op) (fun _=>none) rs s| .inr o=>o)=some f:=by
   have e:n4 op (r::rs)=(match zT op () r rs with| .inl s=>gq (zT op) (fun _=>none) rs s| .inr o=>o):=by
    show gq (zT op) (fun _=>none) (r::rs) ()=_
    rw[gq]
    cases zT op () r rs<;>rfl
   rw[<-e];exact h
  unfold zT at h
  by_cases h1:op<r.1
  ·rw[decide_eq_true h1]at h
   obtain⟨q,a,b⟩:=r9 (rs:=rs) h
   exact⟨q,List.mem_cons_of_mem _ a,b⟩
  ·by_cases h2:r.2.1<op
   ·rw[decide_eq_false h1,decide_eq_true h2]at h
    obtain⟨q,a,b⟩:=r9 (rs:=rs) h
    exact⟨q,List.mem_cons_of_mem _ a,b⟩
   ·rw[decide_eq_false h1,decide_eq_false h2]at h
    cases h
    exact⟨r,List.mem_cons_self,⟨Int.not_lt.1 h1,Int.not_lt.1 h2⟩,rfl⟩
theorem pf{α:Type}{p:α->Bool}: ∀ {l:List α},cu p l=true-> ∀ x,x∈l->p x=true
 | [],_,x,hx=>by cases hx
 |a::l,h,x,hx=>by
  obtain⟨h1,h2⟩:=jP h
  rcases List.mem_cons.1 hx with e|e
  ·subst e;exact h1
  ·exact pf h2 x e
def npP(o f:Int):Bool:=
 bif decide (f=1)then decide (o=0)||(decide (o=5)||(decide (o=11)||(decide (o=15)||(decide (o=26)||decide (o=27)))))else
 bif decide (f=2)then decide (o=2)||(decide (o=3)||decide (o=4))else
 bif decide (f=3)then decide (o=12)||decide (o=13)else
 bif decide (f=4)then decide (o=14)else
 bif decide (f=5)then decide (o=16)||(decide (32<=o)&&decide (o<=36))else
 bif decide (f=6)then decide (o=17)else false
def plP(lo hi:Int):Bool:=(decide (hi<2)||decide (5<lo))&&(decide (hi<11)||decide (11<lo))
def J6(r:den gu):Bool:=
 (decide (0<=r.2.2.2.1)&&(decide ((zR (JS r)).1.length<=16)&&decide ((zR (JS r)).2.length<=16)))&&(((zR (JS r)).1.all qF&&(zR (JS r)).2.all qF)&&
  bif eqStr r.2.2.2.2 ⟨#[]⟩then cu (fun k:Nat=>npP (r.1+(k:Int)) r.2.2.1) (List.range (r.2.1 - r.1+1).toNat)else plP r.1 r.2.1)
theorem Uq:(cu J6 Gq&&cu J6 Gr)=true:=by kernel_rfl
theorem GS{o:Int}(h:CE o=true): ∃ r,J6 r=true/\(r.1<=o/\o<=r.2.1)/\kG o=DV r:=by
 unfold CE at h
 unfold kG
 cases hf:JT o with
 |none=>rw[hf]at h;cases h
 |some f=>
  have hr:=Uq
  rw[Bool.and_eq_true]at hr
  unfold JT at hf
  cases hc:decide (64768<=o)with
  |true=>
   rw[hc]at hf
   obtain⟨r,a,b,c⟩:=r9 hf
   exact⟨r,pf hr.2 r a,b,c⟩
  |false=>
   rw[hc]at hf
   obtain⟨r,a,b,c⟩:=r9 hf
   exact⟨r,pf hr.1 r a,b,c⟩
theorem OE{o:Int}(h:CE o=false):kG o=(0,0,false,[],[],()):=by
 unfold CE at h
 unfold kG
 cases hf:JT o with
 |none=>rfl
 |some f=>rw[hf]at h;cases h
theorem OG(o:Int):0<=(kG o).2.1/\(kG o).2.2.2.1.length<=16/\(kG o).2.2.2.2.1.length<=16/\(kG o).2.2.2.1.all qF=true/\(kG o).2.2.2.2.1.all qF=true:=by
 cases h:CE o with
 |false=>rw[OE h];decide
 |true=>
  obtain⟨r,a,_,c⟩:=GS h
  rw[c]
  unfold J6 at a
  simp only[Bool.and_eq_true,decide_eq_true_eq]at a
  obtain⟨⟨a1,a2,a3⟩,⟨a4,a5⟩,_⟩:=a
  exact⟨a1,a2,a3,a4,a5⟩
theorem aeV{o:Int}(h:CE o=true)(hp:(kG o).2.2.1=false):npP o (kG o).1=true:=by
 obtain⟨r,a,b,c⟩:=GS h
 rw[c]at hp ⊢
 unfold J6 at a
 rw[Bool.and_eq_true,Bool.and_eq_true (_&&_)]at a
 have a:=a.2.2
 have hp:(!eqStr r.2.2.2.2 ⟨#[]⟩)=false:=hp
 have hq:eqStr r.2.2.2.2 ⟨#[]⟩=true:=by revert hp;cases eqStr r.2.2.2.2 ⟨#[]⟩<;>simp
 rw[hq,cond_true]at a
 have key: ∀ lo hi:Int,lo<=o->o<=hi->(o - lo).toNat<(hi - lo+1).toNat/\lo+(((o - lo).toNat:Nat):Int)=o:=fun lo hi _ _=>by omega
 obtain⟨k1,k2⟩:=key r.1 r.2.1 b.1 b.2
 have:=pf a (o - r.1).toNat (List.mem_range.2 k1)
 rw[k2]at this
 exact this
theorem aeW{o:Int}(hp:(kG o).2.2.1=true): ¬ (2<=o/\o<=5)/\o≠11:=by
 cases h:CE o with
 |false=>rw[OE h]at hp;cases hp
 |true=>
  obtain⟨r,a,b,c⟩:=GS h
  rw[c]at hp
  unfold J6 at a
  rw[Bool.and_eq_true,Bool.and_eq_true (_&&_)]at a
  have a:=a.2.2
  have hp:(!eqStr r.2.2.2.2 ⟨#[]⟩)=true:=hp
  have hq:eqStr r.2.2.2.2 ⟨#[]⟩=false:=by revert hp;cases eqStr r.2.2.2.2 ⟨#[]⟩<;>simp
  rw[hq,cond_false]at a
  unfold plP at a
  simp only[Bool.and_eq_true,Bool.or_eq_true,decide_eq_true_eq]at a
  have key: ∀ lo hi:Int,lo<=o->o<=hi->((hi<2∨5<lo)/\(hi<11∨11<lo))-> ¬ (2<=o/\o<=5)/\o≠11:=fun lo hi _ _ _=>by omega
  exact key r.1 r.2.1 b.1 b.2 a
end Go.Proofs.Vd

noncomputable section
namespace Go.Proofs.Vd
open Go.Ab Go.Ab.Lf
set_option maxRecDepth 100000
structure Inv(k m:Nat)(w:W3):Prop where
 ne:w.2.1≠[]
 pw:w.2.1.Pairwise (fun a b=>(a.2.1:Int)<=b.2.1)
 ht: ∀ b,b∈w.2.1->(0:Int)<=b.2.1/\(b.2.1:Int)<=(w.1.length:Int)
 io: ∀ b,b∈w.2.1->b.2.2.1.length<=32/\b.2.2.2.1.length<=32
 sk:w.1.length<=k
 sb:w.2.1.length<=m
theorem sd(l:List (den cI))(B:den cI):dA (l++[B])=B:=by
 unfold dA
 simp
theorem vh{l:List (den cI)}(h:l≠[]): ∃ r B,l=r++[B]:=⟨l.dropLast,l.getLast h,(List.dropLast_concat_getLast h).symm⟩
theorem Ur{a:Int}{n:Nat}(h1:0<=a)(h2:a<=(n:Int))(h3: ¬ (n:Int)=a):a<=((n - 1:Nat):Int):=by omega
theorem aaG{a:Int}{n:Nat}(h1:0<=a)(h2:a<=(n:Int)):((min a.toNat n:Nat):Int)=a:=by omega
section
variable {k m:Nat}{w:W3}
theorem Inv.mem(h:Inv k m w):dA w.2.1∈w.2.1:=by
 obtain⟨r,B,e⟩:=vh h.ne
 rw[e,sd]
 simp
theorem Inv.top(h:Inv k m w): ∀ b,b∈w.2.1->(b.2.1:Int)<=(dA w.2.1).2.1:=by
 obtain⟨r,B,e⟩:=vh h.ne
 have hp:=h.pw
 rw[e]at hp ⊢
 rw[sd]
 intro b hb
 rw[List.pairwise_append]at hp
 rcases List.mem_append.1 hb with hb|hb
 ·exact hp.2.2 b hb B (by simp)
 ·have:b=B:=by simpa using hb
  rw[this]
  exact Int.le_refl _
theorem Inv.len(h:Inv k m w):0<w.2.1.length:=List.length_pos_iff.2 h.ne
theorem Inv.cW(h:Inv k m w)(hk:k<=1099511627776)(hm:m<=1099511627776):cW w=true:=by
 obtain⟨h1,h2⟩:=h.ht _ h.mem
 have h3:=h.len
 have h4:=h.sk
 have h5:=h.sb
 unfold Vd.cW okW
 simp only[Bool.and_eq_true,decide_eq_true_eq]
 exact⟨⟨h3,by omega,by omega⟩,h1,h2⟩
theorem Inv.cT(h:Inv k m w)(hk:k<=1099511627776)(hm:m<=1099511627776){L:List Int}(hL:L.length<=1099511627776):cT w L=true:=by
 have:=h.cW hk hm
 unfold Vd.cW at this
 unfold Vd.cT
 rw[this,decide_eq_true hL]
 rfl
theorem Inv.bad(h:Inv k m w)(b:Bool):Inv k m (w.1,w.2.1,b):=⟨h.ne,h.pw,h.ht,h.io,h.sk,h.sb⟩
theorem Inv.cut(h:Inv k m w){s:List Int}(h1:((dA w.2.1).2.1:Int)<=(s.length:Int))(h2:s.length<=w.1.length)(b:Bool):Inv k m (s,w.2.1,b):=
 ⟨h.ne,h.pw,fun c hc=>⟨(h.ht c hc).1,Int.le_trans (h.top c hc) h1⟩,h.io,Nat.le_trans h2 h.sk,h.sb⟩
theorem Inv.take(h:Inv k m w)(t:Int):Inv k m (ca w t):=by
 obtain⟨h1,h2⟩:=h.ht _ h.mem
 unfold ca e9
 cases hh:decide ((w.1.length:Int)=(dA w.2.1).2.1)with
 |true=>exact h.bad _
 |false=>
  have jR: ¬ (w.1.length:Int)=(dA w.2.1).2.1:=of_decide_eq_false hh
  have e:(w.1.take (w.1.length - 1)).length=w.1.length - 1:=by rw[List.length_take];omega
  exact h.cut (by show _<=((w.1.take (w.1.length - 1)).length:Int);rw[e];exact Ur h1 h2 jR) (by show(w.1.take (w.1.length - 1)).length<=_;rw[e];omega) _
theorem Inv.aeX(L:List Int): ∀ (n:Nat) {w:W3},Inv k m w->Inv k m ((sD L w.2.1 n w.1 w.2.2).1,w.2.1,(sD L w.2.1 n w.1 w.2.2).2)
 |0,_,h=>h
 |n+1,w,h=>Inv.aeX L n (h.take (L.getD n (ao i64)))
theorem Inv.Ej(h:Inv k m w)(L:List Int):Inv k m (fH w L):=Inv.aeX L L.length h
theorem Inv.WA(h:Inv k m w)(L:List Int):Inv (k+L.length) m (mq w L):=by
 have:=h.sk
 exact⟨h.ne,h.pw,fun b hb=>⟨(h.ht b hb).1,Int.le_trans (h.ht b hb).2 (by show(w.1.length:Int)<=((w.1++L).length:Int);rw[List.length_append];omega)⟩,h.io,by show(w.1++L).length<=_;rw[List.length_append];omega,h.sb⟩
theorem Inv.le(h:Inv k m w){k' m':Nat}(hk:k<=k')(hm:m<=m'):Inv k' m' w:=⟨h.ne,h.pw,h.ht,h.io,Nat.le_trans h.sk hk,Nat.le_trans h.sb hm⟩
theorem Inv.opn(h:Inv k m w)(op:Int){i o:List Int}(hi:i.length<=32)(ho:o.length<=32):Inv k (m+1) (w.1,fe w.1 w.2.1 op i o,w.2.2):=by
 have:=h.sb
 refine⟨by unfold fe;simp,?_,?_,?_,h.sk,by show(fe _ _ _ _ _).length<=_;unfold fe;simp;exact this⟩
 ·show(fe _ _ _ _ _).Pairwise _
  unfold fe
  rw[List.pairwise_append]
  refine⟨h.pw,List.pairwise_singleton _ _,fun a ha b hb=>?_⟩
  have:b=(op,(w.1.length:Int),i,o,false,wF w.2.1):=by simpa using hb
  rw[this]
  exact(h.ht a ha).2
 ·intro b hb
  unfold fe at hb
  rcases List.mem_append.1 hb with hb|hb
  ·exact h.ht b hb
  ·have:b=(op,(w.1.length:Int),i,o,false,wF w.2.1):=by simpa using hb
   rw[this]
   exact⟨Int.natCast_nonneg _,Int.le_refl _⟩
 ·intro b hb
  unfold fe at hb
  rcases List.mem_append.1 hb with hb|hb
  ·exact h.io b hb
  ·have:b=(op,(w.1.length:Int),i,o,false,wF w.2.1):=by simpa using hb
   rw[this]
   exact⟨hi,ho⟩
theorem OH(l:List (den cI))(B C:den cI):(l++[B]).set ((l++[B]).length - 1) C=l++[C]:=by
 simp
theorem Inv.die(h:Inv k m w):Inv k m (tH w):=by
 obtain⟨h1,h2⟩:=h.ht _ h.mem
 obtain⟨s,bl,bad⟩:=w
 obtain⟨r,B,e⟩:=vh h.ne
 have e:bl=r++[B]:=e
 subst e
 have ht:=h.top
 have hp:=h.pw
 have hi:=h.io
 have hh:=h.ht
 have eT:dA (r++[B])=B:=sd r B
 have ht: ∀ b,b∈r++[B]->(b.2.1:Int)<=B.2.1:=fun b hb=>by have:=ht b hb;rw[show(s,r++[B],bad).2.1=r++[B]from rfl,eT]at this;exact this
 have h1:(0:Int)<=B.2.1:=by rw[show(s,r++[B],bad).2.1=r++[B]from rfl,eT]at h1;exact h1
 have h2:(B.2.1:Int)<=(s.length:Int):=by rw[show(s,r++[B],bad).2.1=r++[B]from rfl,eT]at h2;exact h2
 have hl:((s.take B.2.1.toNat).length:Int)=B.2.1:=by rw[List.length_take];exact aaG h1 h2
 have eD:tH (s,r++[B],bad)=(s.take B.2.1.toNat,r++[u7 B],bad):=by
  show(s.take (dA (r++[B])).2.1.toNat,(r++[B]).set ((r++[B]).length - 1) (u7 (dA (r++[B]))),bad)=_
  rw[eT,OH]
 rw[eD]
 have hm: ∀ b,b∈r++[u7 B]-> ∃ c,c∈r++[B]/\(b.2.1:Int)=c.2.1/\b.2.2.1=c.2.2.1/\b.2.2.2.1=c.2.2.2.1:=by
  intro b hb
  rcases List.mem_append.1 hb with hb|hb
  ·exact⟨b,List.mem_append_left _ hb,rfl,rfl,rfl⟩
  ·have:b=u7 B:=by simpa using hb
   rw[this]
   exact⟨B,by simp,rfl,rfl,rfl⟩
 refine⟨by simp,?_,?_,?_,?_,?_⟩
 ·show(r++[u7 B]).Pairwise _
  have hp:(r++[B]).Pairwise _:=hp
  rw[List.pairwise_append]at hp ⊢
  refine⟨hp.1,List.pairwise_singleton _ _,fun a ha b hb=>?_⟩
  have:b=u7 B:=by simpa using hb
  rw[this]
  exact hp.2.2 a ha B (by simp)
 ·intro b hb
  obtain⟨c,c1,c2,_,_⟩:=hm b hb
  rw[c2]
  exact⟨(hh c c1).1,by show(c.2.1:Int)<=((s.take B.2.1.toNat).length:Int);rw[hl];exact ht c c1⟩
 ·intro b hb
  obtain⟨c,c1,_,c3,c4⟩:=hm b hb
  rw[c3,c4]
  exact hi c c1
 ·have:=h.sk
  show(s.take _).length<=_
  rw[List.length_take]
  have this:s.length<=k:=this
  omega
 ·have:=h.sb
  simpa using this
end
theorem Ip(L:List Int)(bl:List (den cI)): ∀ (n:Nat) (s:List Int) (b:Bool),(sD L bl n s b).1.length<=s.length
 |0,_,_=>Nat.le_refl _
 |n+1,s,b=>by
  refine Nat.le_trans (Ip L bl n _ _) ?_
  unfold e9
  cases decide ((s.length:Int)=(dA bl).2.1)with
  |true=>exact Nat.le_refl _
  |false=>show(s.take _).length<=_;rw[List.length_take];omega
end Go.Proofs.Vd

noncomputable section
namespace Go.Proofs.Vd
open Go.Ab Go.Ab.Lf
set_option maxRecDepth 100000
section
variable {k m:Nat}{w:W3}
theorem Inv.sub(h:Inv k m w)(hm:m<=1073741824):bQ .i64 (w.2.1.length:Int) 1=((w.2.1.length - 1:Nat):Int):=BU h.len (by have:=h.sb;omega)
theorem Inv.ix(h:Inv k m w):aU ((w.2.1.length - 1:Nat):Int) (w.2.1.length:Int)=true:=bX (by have:=h.len;omega)
end
theorem Cc{j n:Nat}(h:j<n):aU (j:Int) (n:Int)=true:=bX h
theorem Cd{j n:Nat}(h:j<=n):eK 0 (j:Int) (n:Int)=true:=by
 unfold eK
 simp only[Bool.and_eq_true,decide_eq_true_eq]
 omega
def mr(w:W3):List Int×Bool:=sD (dA w.2.1).2.2.2.1 w.2.1 (dA w.2.1).2.2.2.1.length w.1 w.2.2
def Ce(w:W3):Bool:=(mr w).2|| !decide (((mr w).1.length:Int)=(dA w.2.1).2.1)
def tJ(w:W3):List (den cI):=w.2.1.take (w.2.1.length - 1)
def n6(w:W3)(n:Int):W3:=bif Ce w then((mr w).1,tJ w++[dA w.2.1],Ce w)else
 bif decide (n=5)then((mr w).1++(dA w.2.1).2.2.1,fe (mr w).1 (tJ w) 5 (dA w.2.1).2.2.1 (dA w.2.1).2.2.2.1,Ce w)else
 ((mr w).1++(dA w.2.1).2.2.2.1,tJ w,Ce w|| !(bif !decide ((dA w.2.1).1=4)then true else decide ((dA w.2.1).2.2.1=(dA w.2.1).2.2.2.1)))
theorem OI(w:W3):(mr w).1.length<=w.1.length:=Ip _ _ _ _ _
theorem OJ(w:W3):(tJ w).length<=w.2.1.length:=by unfold tJ;rw[List.length_take];omega
theorem aeY{k m:Nat}{w:W3}(h:Inv k m w)(hk:k<=1073741824)(hm:m<=1073741824)(y:aj tM)(lo:List Int)(n:Int):(t75 (Qr y lo w n)).val=some (aA B9 (wk y lo (n6 w n))):=by
 have hs:=h.sub hm
 have hio:=h.io _ h.mem
 have hsk:=h.sk
 have hsb:=h.sb
 have l1:=OI w
 have l2:=OJ w
 have eB:dA w.2.1=w.2.1.getD (bQ .i64 (w.2.1.length:Int) 1).toNat (ao cI):=by rw[hs,Int.toNat_natCast];rfl
 have eC:tJ w=(w.2.1.drop 0).take ((bQ .i64 (w.2.1.length:Int) 1).toNat - 0):=by rw[hs,Int.toNat_natCast];rfl
 rw[aj0 y lo w n (dA w.2.1) eB (tJ w) eC (mr w) rfl (Ce w) rfl,hs,h.ix,Cd (Nat.sub_le _ _)]
 have c1:(decide ((dA w.2.1).2.2.2.1.length<=1099511627776)&&okW w.1 w.2.1)=true:=h.cT (by omega) (by omega) (by omega)
 have c2:roomy 72 ((tJ w).length+1)=true:=by rw[mC];constructor<;>omega
 have c3:decide ((tJ w).length+1<=549755813888)=true:=decide_eq_true (by omega)
 have c4:decide ((mr w).1.length+(dA w.2.1).2.2.1.length<=1099511627776)=true:=decide_eq_true (by omega)
 have c5:decide ((mr w).1.length+(dA w.2.1).2.2.2.1.length<=1099511627776)=true:=decide_eq_true (by omega)
 have c6:decide ((dA w.2.1).2.2.1.length<=1099511627776)=true:=decide_eq_true (by omega)
 rw[c1,c2,c3,c4,c5,c6]
 simp only[aM,cond_true,bp]
 unfold n6
 cases Ce w with
 |true=>rfl
 |false=>
  cases decide (n=5)with
  |true=>rfl
  |false=>cases decide ((dA w.2.1).1=4)<;>rfl
def qf(L:List Int)(bl:List (den cI)):Nat->List Int->List Int->Bool->List Int×List Int×Bool
 |0,s,vg,bad=>(s,vg,bad)
 |n+1,s,vg,bad=>qf L bl n (e9 s bl bad (L.getD n (ao i64))).2.1 (vg++[(e9 s bl bad (L.getD n (ao i64))).1]) (e9 s bl bad (L.getD n (ao i64))).2.2
def GU(w:W3)(L:List Int):W3:=let z:=qf L w.2.1 L.length w.1 [] w.2.2
 (z.1++z.2.1.reverse,w.2.1,z.2.2)
theorem zi(L:List Int)(bl:List (den cI)): ∀ (n:Nat) (s vg:List Int) (b:Bool),(qf L bl n s vg b).2.1.length=vg.length+n
 |0,_,_,_=>rfl
 |n+1,s,vg,b=>by
  show(qf L bl n _ _ _).2.1.length=_
  rw[zi L bl n]
  simp only[List.length_append,List.length_cons,List.length_nil]
  omega
theorem Inv.agF{k m:Nat}(L:List Int): ∀ (n:Nat) (vg:List Int) {w:W3},Inv k m w->Inv k m ((qf L w.2.1 n w.1 vg w.2.2).1,w.2.1,(qf L w.2.1 n w.1 vg w.2.2).2.2)
 |0,_,_,h=>h
 |n+1,vg,w,h=>Inv.agF L n (vg++[(e9 w.1 w.2.1 w.2.2 (L.getD n (ao i64))).1]) (h.take (L.getD n (ao i64)))
theorem Inv.again{k m:Nat}{w:W3}(h:Inv k m w)(L:List Int):Inv (k+L.length) m (GU w L):=by
 have h1:=(h.agF L L.length []).WA (qf L w.2.1 L.length w.1 [] w.2.2).2.1.reverse
 refine h1.le ?_ (Nat.le_refl _)
 rw[List.length_reverse,zi]
 simp
theorem OK{k m:Nat}(y:aj tM)(lo L:List Int)(hk:k<=1073741824)(hm:m<=1073741824)(hL:L.length<=1073741824): ∀ (n:Nat) {w:W3} (vg:List Int),n<=L.length->vg.length+n<=L.length->Inv k m w->
 gG Ou (aA wG (wkA y lo w L vg ((n:Int) - 1))) 0 (aA p' (Qq y lo ((qf L w.2.1 n w.1 vg w.2.2).1,w.2.1,(qf L w.2.1 n w.1 vg w.2.2).2.2) (qf L w.2.1 n w.1 vg w.2.2).2.1))
 |0,w,vg,_,_,_=>by
  refine .last ?_
  rw[Wq,decide_eq_false (by omega)]
  rfl
 |n+1,w,vg,hn,hw,h=>by
  have e:((n+1:Nat):Int) - 1=(n:Int):=by omega
  rw[e]
  have es:bQ .i64 (n:Int) 1=(n:Int) - 1:=by
   show eZ .i64 ((n:Int) - 1)=_
   exact wrap_i64 (by omega) (by omega)
  refine .more ?_ (OK y lo L hk hm hL n (vg++[(e9 w.1 w.2.1 w.2.2 (L.getD n (ao i64))).1]) (by omega) (by simp only[List.length_append,List.length_cons,List.length_nil];omega) (h.take (L.getD n (ao i64))))
  have c:okW w.1 w.2.1=true:=h.cW (by omega) (by omega)
  have r:roomy 8 (vg.length+1)=true:=bJ (by omega) (by omega)
  rw[Wq,decide_eq_true (show(0:Int)<=(n:Int) by omega),Cc (show n<L.length by omega),c,r,Int.toNat_natCast,es,bp]
  rfl
theorem Iq{β:Type}(K:List Int->Option β): ∀ (f:Nat) (a mid b:List Int),a.length=b.length->mid.length<2*f->a.length+mid.length+b.length<=1073741824->OD K f a.length (((a.length+mid.length:Nat):Int) - 1) (a++mid++b)=K (a++mid.reverse++b)
 |0,a,mid,b,_,h,_=>by omega
 |f+1,a,mid,b,hab,h,hs=>by
  by_cases h2:mid.length<2
  ·have e:decide ((a.length:Int)<(((a.length+mid.length:Nat):Int) - 1))=false:=decide_eq_false (by omega)
   have er:mid.reverse=mid:=by
    match mid,h2 with
    | [],_=>rfl
    | [x],_=>rfl
   unfold OD
   rw[e,er]
   rfl
  ·match mid with
   | []=>simp at h2
   |c::t=>
    obtain⟨m',d,rfl⟩: ∃ m' d,t=m'++[d]:=by
     have:t≠[]:=fun e=>by subst e;simp at h2
     exact⟨t.dropLast,t.getLast this,(List.dropLast_concat_getLast this).symm⟩
    simp only[List.length_cons,List.length_append,List.length_nil]at h hs
    have el:(a++(c::(m'++[d]))++b).length=a.length+(m'.length+2)+b.length:=by simp;omega
    have ej:(((a.length+(c::(m'++[d])).length:Nat):Int) - 1)=((a.length+m'.length+1:Nat):Int):=by simp;omega
    have gi:(a++(c::(m'++[d]))++b).getD a.length (ao i64)=c:=by
     rw[List.getD_eq_getElem?_getD,List.append_assoc,List.getElem?_append_right (Nat.le_refl _)]
     simp
    have gj:(a++(c::(m'++[d]))++b).getD (a.length+m'.length+1) (ao i64)=d:=by
     have e:a++(c::(m'++[d]))++b=(a++(c::m'))++(d::b):=by simp
     rw[e,List.getD_eq_getElem?_getD,List.getElem?_append_right (by simp;omega)]
     have:a.length+m'.length+1 - (a++(c::m')).length=0:=by simp;omega
     rw[this]
     rfl
    have s1:(a++(c::(m'++[d]))++b).set a.length d=a++(d::(m'++[d]))++b:=by
     rw[List.append_assoc,List.set_append_right _ _ (Nat.le_refl _)]
     simp
    have s2:(a++(d::(m'++[d]))++b).set (a.length+m'.length+1) c=(a++[d])++m'++(c::b):=by
     have e:a++(d::(m'++[d]))++b=(a++(d::m'))++(d::b):=by simp
     rw[e,List.set_append_right _ _ (by simp;omega)]
     have:a.length+m'.length+1 - (a++(d::m')).length=0:=by simp;omega
     rw[this]
     simp
    have es:bQ .i64 ((a.length+m'.length+1:Nat):Int) 1=(((a++[d]).length+m'.length:Nat):Int) - 1:=by
     rw[BU (by omega) (by omega)]
     simp
     omega
    have ih:=Iq K f (a++[d]) m' (c::b) (by simp;omega) (by omega) (by simp;omega)
    have sl:((a++(c::(m'++[d]))++b).set a.length d).length=a.length+(m'.length+2)+b.length:=by rw[List.length_set,el]
    rw[ej]
    unfold OD
    rw[decide_eq_true (by omega),Int.toNat_natCast,gj,gi,sl,el,s1,s2,Cc (show a.length+m'.length+1<a.length+(m'.length+2)+b.length by omega),Cc (show a.length<a.length+(m'.length+2)+b.length by omega),es]
    simp only[aM,cond_true]
    have e0:(a++[d]).length=a.length+1:=by simp
    rw[e0]at ih
    rw[e0,ih]
    simp
theorem aeZ{k m:Nat}{w:W3}(h:Inv k m w)(hk:k<=1073741824)(hm:m<=1073741824)(y:aj tM)(lo L:List Int)(hL:L.length<=32):(t85 (Qq y lo w L)).val=some (aA Ee (wk y lo (GU w L))):=by
 have es:bQ .i64 (L.length:Int) 1=(L.length:Int) - 1:=by
  show eZ .i64 ((L.length:Int) - 1)=_
  exact wrap_i64 (by omega) (by omega)
 have r:=OK y lo L hk hm (by omega) L.length [] (Nat.le_refl _) (by simp) h
 rw[<-es]at r
 obtain⟨a,b⟩:=lM r
 rw[aj1 y lo w L _ b.symm,a]
 have hl:=zi L w.2.1 L.length w.1 [] w.2.2
 have hi:=(h.agF L L.length []).sk
 have e2:bQ .i64 ((qf L w.2.1 L.length w.1 [] w.2.2).2.1.length:Int) 1=((([]:List Int).length+(qf L w.2.1 L.length w.1 [] w.2.2).2.1.length:Nat):Int) - 1:=by
  rw[hl]
  simp only[List.length_nil,Nat.zero_add]
  exact es
 have e3:=Iq (fun x=>aM (decide ((qf L w.2.1 L.length w.1 [] w.2.2).1.length+x.length<=1099511627776)) (some (aA Ee (wk y lo ((qf L w.2.1 L.length w.1 [] w.2.2).1++x,w.2.1,(qf L w.2.1 L.length w.1 [] w.2.2).2.2))))) 18 [] (qf L w.2.1 L.length w.1 [] w.2.2).2.1 [] rfl (by rw[hl];simp;omega) (by rw[hl];simp;omega)
 rw[<-e2]at e3
 simp only[List.append_nil,List.nil_append]at e3
 refine Eq.trans e3 ?_
 have c:decide ((qf L w.2.1 L.length w.1 [] w.2.2).1.length+(qf L w.2.1 L.length w.1 [] w.2.2).2.1.reverse.length<=1099511627776)=true:=by
  refine decide_eq_true ?_
  rw[List.length_reverse,hl]
  have hi:(qf L w.2.1 L.length w.1 [] w.2.2).1.length<=k:=hi
  simp
  omega
 rw[c]
 rfl
end Go.Proofs.Vd

noncomputable section
namespace Go.Proofs.Vd
open Go.Ab Go.Ab.Lf
set_option maxRecDepth 100000
theorem sV{a b c:Int}(h:a=b)(k:b≠c): ¬ a=c:=fun e=>k (h▸e)
def J7(y:aj tM)(lo:List Int)(w:W3)(i:den tI):W3:=
 let gl:=y.2.2.2.2.2.1
 let ok:Bool:=bif (bif decide (i.1<=34)then decide (i.2.1<(lo.length:Int))else false)then true else bif (bif decide (34<i.1)then decide (i.2.1<(gl.length:Int))else false)then(bif decide (i.1=35)then true else(gl.getD i.2.1.toNat (ao aC)).2.1)else false
 let t:Int:=bif (bif decide (i.1<=34)then decide (i.2.1<(lo.length:Int))else false)then lo.getD i.2.1.toNat (ao i64)else bif (bif decide (34<i.1)then decide (i.2.1<(gl.length:Int))else false)then(gl.getD i.2.1.toNat (ao aC)).1 else 0
 let v:=bif (bif !decide (i.1=32)then !decide (i.1=35)else false)then ca (fV w ok) t else fV w ok
 bif (bif !decide (i.1=33)then !decide (i.1=36)else false)then mq v [t]else v
theorem Inv.Us{k m:Nat}{w:W3}(h:Inv k m w)(c:Bool):Inv k m (fV w c):=h.bad _
theorem Inv.Ut{k m:Nat}{w:W3}(h:Inv k m w)(l:Int):Inv k m (w9 w l):=h.bad _
theorem Inv.cG{k m:Nat}{w:W3}(h:Inv k m w)(hk:k<=1073741824){L:List Int}(hL:L.length<=1073741824):cG w L=true:=by
 have:=h.sk
 unfold Vd.cG
 exact decide_eq_true (by omega)
theorem Inv.var{k m:Nat}{w:W3}(h:Inv k m w)(y:aj tM)(lo:List Int)(i:den tI):Inv (k+1) m (J7 y lo w i):=by
 unfold J7
 dsimp only
 generalize (bif (bif decide (i.1<=34)then decide (i.2.1<(lo.length:Int))else false)then true else bif (bif decide (34<i.1)then decide (i.2.1<(y.2.2.2.2.2.1.length:Int))else false)then(bif decide (i.1=35)then true else(y.2.2.2.2.2.1.getD i.2.1.toNat (ao aC)).2.1)else false)=ok
 generalize (bif (bif decide (i.1<=34)then decide (i.2.1<(lo.length:Int))else false)then lo.getD i.2.1.toNat (ao i64)else bif (bif decide (34<i.1)then decide (i.2.1<(y.2.2.2.2.2.1.length:Int))else false)then(y.2.2.2.2.2.1.getD i.2.1.toNat (ao aC)).1 else 0)=t
 have h1:Inv k m (bif (bif !decide (i.1=32)then !decide (i.1=35)else false)then ca (fV w ok) t else fV w ok):=by
  cases(bif !decide (i.1=32)then !decide (i.1=35)else false)
  ·exact h.Us _
  ·exact(h.Us _).take _
 cases(bif !decide (i.1=33)then !decide (i.1=36)else false)
 ·exact h1.le (Nat.le_succ _) (Nat.le_refl _)
 ·exact h1.WA [t]
theorem ae0{k m:Nat}{w:W3}(h:Inv k m w)(hk:k<=1073741824)(hm:m<=1073741824)(y:aj tM)(lo:List Int)(i:den tI)(ha:(0:Int)<=i.2.1):(t86 (qe y lo w i)).val=some (aA vb (wk y lo (J7 y lo w i))):=by
 rw[aj2]
 dsimp only
 unfold J7
 dsimp only
 have fin: ∀ (t:Int) (ok:Bool),(bif (bif !decide (i.1=32)then !decide (i.1=35)else false)then aM (cW w) (bif (bif !decide (i.1=33)then !decide (i.1=36)else false)then aM (cG (ca (fV w ok) t) [t]) (some (aA vb (wk y lo (mq (ca (fV w ok) t) [t]))))else some (aA vb (wk y lo (ca (fV w ok) t))))
  else bif (bif !decide (i.1=33)then !decide (i.1=36)else false)then aM (cG w [t]) (some (aA vb (wk y lo (mq (fV w ok) [t]))))else some (aA vb (wk y lo (fV w ok))))=
  some (aA vb (wk y lo (bif (bif !decide (i.1=33)then !decide (i.1=36)else false)then mq (bif (bif !decide (i.1=32)then !decide (i.1=35)else false)then ca (fV w ok) t else fV w ok) [t]else(bif (bif !decide (i.1=32)then !decide (i.1=35)else false)then ca (fV w ok) t else fV w ok)))):=by
  intro t ok
  rw[h.cW (by omega) (by omega),((h.Us ok).take t).cG hk (L:=[t]) (by simp),h.cG hk (L:=[t]) (by simp)]
  generalize (bif !decide (i.1=32)then !decide (i.1=35)else false)=c1
  generalize (bif !decide (i.1=33)then !decide (i.1=36)else false)=c2
  cases c1<;>cases c2<;>rfl
 simp only[fin]
 by_cases h1:i.1<=(34:Int)
 ·have h2: ¬ (34:Int)<i.1:=Int.not_lt.2 h1
  rw[decide_eq_true h1,decide_eq_false h2]
  simp only[cond_true,cond_false]
  by_cases h3:i.2.1<(lo.length:Int)
  ·have hx:aU i.2.1 (lo.length:Int)=true:=iE.2 ⟨ha,h3⟩
   rw[decide_eq_true h3,hx]
   rfl
  ·rw[decide_eq_false h3]
   rfl
 ·have h2:(34:Int)<i.1:=Int.not_le.1 h1
  rw[decide_eq_true h2,decide_eq_false h1]
  simp only[cond_true,cond_false]
  by_cases h3:i.2.1<(y.2.2.2.2.2.1.length:Int)
  ·have hx:aU i.2.1 (y.2.2.2.2.2.1.length:Int)=true:=iE.2 ⟨ha,h3⟩
   rw[decide_eq_true h3,hx]
   cases decide (i.1=35)<;>rfl
  ·rw[decide_eq_false h3]
   rfl
theorem pg{k m:Nat}{w:W3}(h:Inv k m w)(hm:m<=1073741824){l:Int}(hl:0<=l):(iK w.2.1 l).length<=32:=by
 unfold iK
 cases hd:decide ((w.2.1.length:Int)<=l)with
 |true=>exact Nat.zero_le _
 |false=>
  have hd: ¬ (w.2.1.length:Int)<=l:=of_decide_eq_false hd
  have hx:=Wp hl hd (by have:=h.sb;omega)
  rw[iE]at hx
  have key: ∀ (a:Int) (n:Nat),0<=a->a<Int.ofNat n->a.toNat<n:=fun a n h1 h2=>by have e:Int.ofNat n=(n:Int):=rfl;omega
  have hj:=key _ _ hx.1 hx.2
  have Jf:w.2.1.getD (bQ .i64 (bQ .i64 (Int.ofNat w.2.1.length) 1) l).toNat (ao cI)∈w.2.1:=by
   rw[List.getD_eq_getElem?_getD,List.getElem?_eq_getElem hj]
   exact List.getElem_mem hj
  obtain⟨a,b⟩:=h.io _ Jf
  simp only[cond_false]
  cases decide ((w.2.1.getD (bQ .i64 (bQ .i64 (Int.ofNat w.2.1.length) 1) l).toNat (ao cI)).1=3)with
  |true=>exact a
  |false=>exact b
theorem Inv.cL{k m:Nat}{w:W3}(h:Inv k m w)(hm:m<=1073741824){l:Int}(hl:0<=l):cL w l=true:=by
 have:=h.sb
 unfold Vd.cL
 rw[decide_eq_true hl,decide_eq_true (by omega)]
 rfl
def pJ(last:List Int)(w:W3)(l:Int):W3:=GU (fV (w9 w l) (decide (((iK w.2.1 l).length:Int)=(last.length:Int)))) (iK w.2.1 l)
theorem OL(y:aj tM)(lo last L:List Int)(m K:Nat)(hK:K<=1073741824)(hm:m<=1073741824)(h0: ∀ l,l∈L->(0:Int)<=l)(hL:L.length<=1073741824){k:Nat}{w:W3}(h:Inv k m w)(hk:k+32*L.length<=K):
 gG J2 (aA vc (wkJ y lo w last L (L.length:Int) 0)) 0 (aA nC (Qq y lo (L.foldl (pJ last) w) last))/\Inv (k+32*L.length) m (L.foldl (pJ last) w):=by
 constructor
 ·have:=JR (f:=J2) (l:=L) (fun(s:W3) j=>aA vc (wkJ y lo s last L (L.length:Int) (j:Int))) (fun s x=>.inl (pJ last s x)) (fun s=>(0,aA nC (Qq y lo s last))) (fun s r=>(∃ k,Inv k m s/\k+32*r.length<=K)/\ ∀ l,l∈r->(0:Int)<=l) (fun s j x r e hi=>by
   obtain⟨⟨k,i1,i2⟩,i3⟩:=hi
   obtain⟨e1,e2⟩:=dr e (ao i64)
   simp only[List.length_cons]at i2
   have hx:=i3 x List.mem_cons_self
   have hl:=pg i1 hm hx
   have i4:=(i1.Ut x).Us (decide (((iK s.2.1 x).length:Int)=(last.length:Int)))
   have s85:=jJ (aeZ i4 (by omega) hm y lo (iK s.2.1 x) hl)
   refine⟨?_,fun s' e=>?_⟩
   ·rw[Ws y lo s last L _ _ x (by rw[Int.toNat_natCast];exact e2.symm) _ rfl _ s85.2.symm,dX e1,cond_true,Cc e1,i1.cL hm hx,show k85 (Qq y lo (fV (w9 s x) (decide (((iK s.2.1 x).length:Int)=(last.length:Int)))) (iK s.2.1 x))=true from s85.1,kE (by omega)]
    rfl
   ·cases e
    exact⟨⟨k+32,(i4.again (iK s.2.1 x)).le (by omega) (Nat.le_refl _),by omega⟩,fun l hl=>i3 l (List.mem_cons_of_mem _ hl)⟩) (fun s j e hj hi=>by
   have:j=L.length:=by have:=List.drop_eq_nil_iff.1 e;omega
   subst this
   rw[Ws y lo s last L _ _ _ rfl _ rfl _ rfl,dn (Nat.le_refl _)]
   rfl) L 0 w rfl (by omega) ⟨⟨k,h,hk⟩,h0⟩
  rw[fI]at this
  exact this
 ·clear hL hk
  induction L generalizing k w with
  |nil=>exact h.le (by simp) (Nat.le_refl _)
  |cons x r ih=>
   have hx:=h0 x List.mem_cons_self
   have hl:=pg h hm hx
   have i4:=(h.Ut x).Us (decide (((iK w.2.1 x).length:Int)=(last.length:Int)))
   have:=ih (fun l hl=>h0 l (List.mem_cons_of_mem _ hl)) ((i4.again (iK w.2.1 x)).le (k':=k+32) (by omega) (Nat.le_refl _))
   exact this.le (by simp only[List.length_cons];omega) (Nat.le_refl _)
def GV(w:W3)(i:den tI):W3:=i.2.2.2.2.2.foldl (pJ (iK w.2.1 i.2.1)) (w9 (ca w 127) i.2.1)
def wH(y:aj tM)(lo:List Int)(w:W3)(i:den tI):W3:=
 let T:=iK w.2.1 i.2.1
 let u:=w9 (ca w 127) i.2.1
 bif decide (i.1=0)then tH w else
 bif decide (i.1=12)then tH (fH (w9 w i.2.1) T)else
 bif decide (i.1=13)then mq (fH u T) T else
 bif decide (i.1=14)then tH (fH (GV w i) T)else
 bif decide (i.1=15)then tH (fH w (w.2.1.getD 0 (ao cI)).2.2.2.1)else J7 y lo w i
def BkA(a:Int):Prop:=a= -64∨a= -1∨a= -2∨a= -5∨(0:Int)<=a
structure IOk(i:den tI):Prop where
 a: ∀ f,f=(kG i.1).1->(f=3∨f=4∨f=5∨f=6)->(0:Int)<=i.2.1/\(i.2.1:Int)<4294967296
 l:(kG i.1).1=4-> ∀ x,x∈i.2.2.2.2.2->(0:Int)<=x
 n:i.2.2.2.2.2.length<=16777216
 is:CE i.1=true
 k:(kG i.1).1=2->BkA i.2.1
theorem OM{k m:Nat}{w:W3}(h:Inv k m w):(w.2.1.getD 0 (ao cI)).2.2.2.1.length<=32:=by
 have hl:=h.len
 have Jf:w.2.1.getD 0 (ao cI)∈w.2.1:=by
  rw[List.getD_eq_getElem?_getD,List.getElem?_eq_getElem hl]
  exact List.getElem_mem hl
 exact(h.io _ Jf).2
theorem Inv.jump{k m:Nat}{w:W3}(h:Inv k m w)(hm:m<=1073741824)(y:aj tM)(lo:List Int)(i:den tI)(ha:i.1=12∨i.1=13∨i.1=14->(0:Int)<=i.2.1)(hl:i.1=14-> ∀ x,x∈i.2.2.2.2.2->(0:Int)<=x)(hk:k+32*i.2.2.2.2.2.length<=1073741824)(hn:i.2.2.2.2.2.length<=16777216):Inv (k+32) m (wH y lo w i):=by
 unfold wH
 dsimp only
 by_cases h0:(i.1:Int)=0
 ·rw[decide_eq_true h0];exact h.die.le (by omega) (Nat.le_refl _)
 rw[decide_eq_false h0,cond_false]
 by_cases h1:(i.1:Int)=12
 ·rw[decide_eq_true h1];exact((h.Ut _).Ej _).die.le (by omega) (Nat.le_refl _)
 rw[decide_eq_false h1,cond_false]
 by_cases h2:(i.1:Int)=13
 ·rw[decide_eq_true h2]
  have:=pg h hm (ha (.inr (.inl h2)))
  exact((((h.take 127).Ut _).Ej _).WA _).le (by omega) (Nat.le_refl _)
 rw[decide_eq_false h2,cond_false]
 by_cases h3:(i.1:Int)=14
 ·rw[decide_eq_true h3]
  have r:=(OL y lo (iK w.2.1 i.2.1) i.2.2.2.2.2 m 1073741824 (by omega) hm (hl h3) (by omega) ((h.take 127).Ut i.2.1) hk).2
  have q:=(r.Ej (iK w.2.1 i.2.1)).die
  have hle:(tH (fH (GV w i) (iK w.2.1 i.2.1))).1.length<=k+32:=by
   have eb: ∀ (L:List Int) (v:W3),(L.foldl (pJ (iK w.2.1 i.2.1)) v).2.1=v.2.1:=by
    intro L
    induction L with
    |nil=>intro v;rfl
    |cons x L ih=>intro v;exact(ih (pJ (iK w.2.1 i.2.1) v x)).trans rfl
   have e2:(GV w i).2.1=w.2.1:=eb _ _
   show(List.take (dA (GV w i).2.1).2.1.toNat _).length<=_
   rw[e2,List.length_take]
   have key: ∀ (a:Int) (n q:Nat),a<=(n:Int)->n<=k->min a.toNat q<=k+32:=fun a n q _ _=>by omega
   exact key _ _ _ (h.ht _ h.mem).2 h.sk
  exact⟨q.ne,q.pw,q.ht,q.io,hle,q.sb⟩
 rw[decide_eq_false h3,cond_false]
 by_cases h4:(i.1:Int)=15
 ·rw[decide_eq_true h4];exact(h.Ej _).die.le (by omega) (Nat.le_refl _)
 rw[decide_eq_false h4,cond_false]
 exact(h.var y lo i).le (by omega) (Nat.le_refl _)
theorem ae2{k m:Nat}{w:W3}(h:Inv k m w)(hm:m<=1073741824)(y:aj tM)(lo:List Int)(i:den tI)(hk:k+32*i.2.2.2.2.2.length<=1073741824)(hn:i.2.2.2.2.2.length<=16777216)
 (ha:i.1=12∨i.1=13∨i.1=14->(0:Int)<=i.2.1)(hl:i.1=14-> ∀ x,x∈i.2.2.2.2.2->(0:Int)<=x)(hv: ¬ i.1=0-> ¬ i.1=15->(0:Int)<=i.2.1):(t77 (qe y lo w i)).val=some (aA zg (wk y lo (wH y lo w i))):=by
 have hD: ∀ {k m:Nat} {v:W3},Inv k m v->k<=1073741824->m<=1073741824->aM (cW v) (some (aA zg (wk y lo (tH v))))=some (aA zg (wk y lo (tH v))):=fun hi hk hm=>by rw[hi.cW (by omega) (by omega)];rfl
 have k0:k<=1073741824:=by omega
 by_cases h3:(i.1:Int)=14
 ·have r:=OL y lo (iK w.2.1 i.2.1) i.2.2.2.2.2 m 1073741824 (by omega) hm (hl h3) (by omega) ((h.take 127).Ut i.2.1) hk
  obtain⟨a,b⟩:=lM r.1
  rw[aeR y lo w i _ rfl _ rfl _ b.symm]
  unfold wH
  have hT:=pg h hm (ha (.inr (.inr h3)))
  have c1:=r.2.cT (L:=iK w.2.1 i.2.1) (by omega) (by omega) (by omega)
  have c2:=(r.2.Ej (iK w.2.1 i.2.1)).cW (by omega) (by omega)
  dsimp only
  rw[decide_eq_true h3,h.cW (by omega) (by omega),(h.take 127).cL hm (ha (.inr (.inr h3))),a,decide_eq_false (sV h3 (c:=0) (by decide)),decide_eq_false (sV h3 (c:=12) (by decide)),decide_eq_false (sV h3 (c:=13) (by decide))]
  simp only[cond_true,cond_false,aM]
  refine Eq.trans (b:=bif cT (i.2.2.2.2.2.foldl (pJ (iK w.2.1 i.2.1)) (w9 (ca w 127) i.2.1)) (iK w.2.1 i.2.1)then _ else none) rfl ?_
  rw[c1,cond_true]
  refine Eq.trans (b:=bif cW (fH (i.2.2.2.2.2.foldl (pJ (iK w.2.1 i.2.1)) (w9 (ca w 127) i.2.1)) (iK w.2.1 i.2.1))then _ else none) rfl ?_
  rw[c2,cond_true]
  rfl
 ·rw[aeR y lo w i _ rfl _ rfl _ rfl]
  unfold wH
  dsimp only
  rw[decide_eq_false h3,cond_false,cond_false]
  by_cases h0:(i.1:Int)=0
  ·rw[decide_eq_true h0];exact hD h k0 hm
  rw[decide_eq_false h0,cond_false,cond_false]
  by_cases h1:(i.1:Int)=12
  ·have hT:=pg h hm (ha (.inl h1))
   rw[decide_eq_true h1,h.cL hm (ha (.inl h1)),(h.Ut i.2.1).cT (by omega) (by omega) (L:=iK w.2.1 i.2.1) (by omega)]
   exact hD ((h.Ut i.2.1).Ej _) k0 hm
  rw[decide_eq_false h1,cond_false,cond_false]
  by_cases h2:(i.1:Int)=13
  ·have hT:=pg h hm (ha (.inr (.inl h2)))
   have q:=(h.take 127).Ut i.2.1
   rw[decide_eq_true h2,h.cW (by omega) (by omega),(h.take 127).cL hm (ha (.inr (.inl h2))),q.cT (by omega) (by omega) (L:=iK w.2.1 i.2.1) (by omega),(q.Ej _).cG k0 (L:=iK w.2.1 i.2.1) (by omega)]
   rfl
  rw[decide_eq_false h2,cond_false,cond_false]
  by_cases h4:(i.1:Int)=15
  ·have hT:=OM h
   rw[decide_eq_true h4,show aU 0 (w.2.1.length:Int)=true from Cc (j:=0) h.len,h.cT (by omega) (by omega) (L:=(w.2.1.getD 0 (ao cI)).2.2.2.1) (by omega)]
   exact hD (h.Ej _) k0 hm
  rw[decide_eq_false h4,cond_false,cond_false]
  have s86:=jJ (ae0 h k0 hm y lo i (hv h0 h4))
  rw[show k86 (qe y lo w i)=true from s86.1,show m86 (qe y lo w i)=_ from s86.2]
  rfl
end Go.Proofs.Vd

noncomputable section
namespace Go.Proofs.Vd
open Go.Ab Go.Ab.Lf
set_option maxRecDepth 100000
def Ir(w:W3)(i:den tI):W3:=(YY i.2.2.2.1 i.2.2.2.2.1).foldl (fun w c=>fV w (decide (c<32))) w
theorem aj8(y:aj tM)(lo:List Int)(w:W3)(i:den tI)(f:aj lF):(t70 (Wt y lo w i f)).val=
 (let ret:=fun v:W3=>some (aA xz (wk y lo v))
 let M2:=fun v:W3=>bif !decide (f.1=8)then ret (fV v true)else aM (decide (0<=f.2.1)) (ret (fV v (decide (i.2.2.2.1<sw .u64 16 f.2.1))))
 let M:=bif decide (0<(y.2.2.2.2.1.length:Int))then M2 (fV w (decide (i.2.1<=f.2.1)))else M2 (fV w false)
 bif decide (f.1=7)then M else bif decide (f.1=8)then M else bif decide (f.1=14)then M else
 bif decide (f.1=13)then ret (fV w (decide (i.2.1<f.2.1)))else
 bif decide (f.1=12)then ret (Ir w i)else ret w):=by kernel_rfl
def Ek(y:aj tM)(w:W3)(i:den tI)(f:aj lF):W3:=
 let M:=fV (fV w (bif decide (0<(y.2.2.2.2.1.length:Int))then decide (i.2.1<=f.2.1)else false)) (bif !decide (f.1=8)then true else decide (i.2.2.2.1<sw .u64 16 f.2.1))
 bif decide (f.1=7)then M else bif decide (f.1=8)then M else bif decide (f.1=14)then M else
 bif decide (f.1=13)then fV w (decide (i.2.1<f.2.1))else bif decide (f.1=12)then Ir w i else w
theorem ae3(y:aj tM)(lo:List Int)(w:W3)(i:den tI)(f:aj lF)(hf:(0:Int)<=f.2.1):Tz (Wt y lo w i f)=wk y lo (Ek y w i f):=by
 refine(jJ (t:=t70 (Wt y lo w i f)) ?_).2
 rw[aj8]
 unfold Ek
 dsimp only
 rw[decide_eq_true hf]
 generalize decide (f.1=7)=c1
 generalize decide (f.1=8)=c2
 generalize decide (f.1=14)=c3
 generalize decide (f.1=13)=c4
 generalize decide (f.1=12)=c5
 generalize decide (0<(y.2.2.2.2.1.length:Int))=c6
 cases c1<;>cases c2<;>cases c3<;>cases c4<;>cases c5<;>cases c6<;>rfl
theorem GW(w:W3)(i:den tI): ∃ b,Ir w i=(w.1,w.2.1,b):=by
 unfold Ir
 have key: ∀ (l:List Int) (v:W3),(∃ b,v=(w.1,w.2.1,b))-> ∃ b,l.foldl (fun w c=>fV w (decide (c<32))) v=(w.1,w.2.1,b):=by
  intro l
  induction l with
  |nil=>intro v h;exact h
  |cons x l ih=>
   intro v h
   obtain⟨b,rfl⟩:=h
   exact ih _ ⟨_,rfl⟩
 exact key _ w ⟨_,rfl⟩
theorem v8(y:aj tM)(w:W3)(i:den tI)(f:aj lF): ∃ b,Ek y w i f=(w.1,w.2.1,b):=by
 unfold Ek
 dsimp only
 cases decide (f.1=7)with
 |true=>exact⟨_,rfl⟩
 |false=>
  cases decide (f.1=8)with
  |true=>exact⟨_,rfl⟩
  |false=>
   cases decide (f.1=14)with
   |true=>exact⟨_,rfl⟩
   |false=>
    cases decide (f.1=13)with
    |true=>exact⟨_,rfl⟩
    |false=>
     cases decide (f.1=12)with
     |true=>exact GW w i
     |false=>exact⟨_,rfl⟩
theorem Inv.fld{k m:Nat}{w:W3}(h:Inv k m w)(y:aj tM)(i:den tI)(f:aj lF):Inv k m (Ek y w i f):=by
 obtain⟨b,e⟩:=v8 y w i f
 rw[e]
 exact h.bad b
def El(y:aj tM)(i:den tI)(v:W3):W3:=
 let g:=fU y.1 i.2.1
 let S:=fH (v.1,v.2.1,kX y.1 i.2.1 v.2.2) g.1
 mq (S.1,fe S.1 S.2.1 i.1 g.1 g.2,S.2.2) g.1
def ae4(w:W3):W3:=
 let v:=ca w 127
 let t:=(e9 v.1 v.2.1 v.2.2 0).1
 let u:=ca v 0
 mq (ca u t) [(e9 u.1 u.2.1 u.2.2 t).1]
def aaH(y:aj tM)(w:W3)(i:den tI):W3:=mq (fH (Ek y w i (kG i.1)) (kG i.1).2.2.2.1) (kG i.1).2.2.2.2.1
def fD(y:aj tM)(lo:List Int)(w:W3)(i:den tI):W3:=
 bif (kG i.1).2.2.1 then aaH y w i else
 bif decide (i.1=2)||(decide (i.1=3)||decide (i.1=4))then El y i (bif decide (i.1=4)then ca w 127 else w)else
 bif decide (i.1=5)||decide (i.1=11)then n6 w i.1 else
 bif decide (i.1=26)then ca w 0 else
 bif decide (i.1=27)then ae4 w else
 bif decide (i.1=16)then(let c:=cr y.1 (dO y.2.1 y.2.2.1 i.2.1);mq (fH (fV w (dM y.1 (dO y.2.1 y.2.2.1 i.2.1))) c.1) c.2)else
 bif decide (i.1=17)then(let d:=cr y.1 i.2.1;mq (fH (ca (fV w (bif dM y.1 i.2.1 then(bif decide (0<(y.2.2.2.1.length:Int))then decide (i.2.2.1=0)else false)else false)) 127) d.1) d.2)else
 wH y lo w i
def zY(y:aj tM):Prop:= ∀ s:den aH,s∈y.1->List.length s.1<=32/\List.length s.2<=32
theorem Em{y:aj tM}(h:zY y):gT y.1=true:=by
 unfold gT
 rw[List.all_eq_true]
 intro s hs
 obtain⟨h1,h2⟩:=h s hs
 rw[decide_eq_true (by omega),decide_eq_true (by omega)]
 rfl
theorem na{y:aj tM}(h:zY y)(k:Int):List.length (cr y.1 k).1<=32/\List.length (cr y.1 k).2<=32:=by
 unfold cr
 cases hk:dM y.1 k with
 |false=>exact⟨Nat.zero_le _,Nat.zero_le _⟩
 |true=>
  unfold dM at hk
  have h1: ¬ k<0:=fun e=>by rw[decide_eq_true e]at hk;cases hk
  have h2: ¬ (y.1.length:Int)<=k:=fun e=>by rw[decide_eq_false h1,decide_eq_true e]at hk;cases hk
  have hj:k.toNat<y.1.length:=by omega
  refine h _ ?_
  rw[List.getD_eq_getElem?_getD,List.getElem?_eq_getElem hj]
  exact List.getElem_mem hj
theorem Is{y:aj tM}(h:zY y)(a:Int):List.length (fU y.1 a).1<=32/\List.length (fU y.1 a).2<=32:=by
 unfold fU
 cases decide (0<=a)with
 |true=>exact na h a
 |false=>
  cases decide (a= -64)with
  |true=>exact⟨Nat.zero_le _,Nat.zero_le _⟩
  |false=>exact⟨Nat.zero_le _,by show List.length [_]<=32;simp⟩
theorem Inv.blk{k m:Nat}{w:W3}(h:Inv k m w){y:aj tM}(ht:zY y)(i:den tI):Inv (k+32) (m+1) (El y i w):=by
 obtain⟨a,b⟩:=Is ht i.2.1
 have q:=((h.bad (kX y.1 i.2.1 w.2.2)).Ej (fU y.1 i.2.1).1).opn i.1 a b
 exact(q.WA (fU y.1 i.2.1).1).le (by omega) (Nat.le_refl _)
theorem Inv.Cw{k m:Nat}{w:W3}(h:Inv k m w):Inv (k+1) m (ae4 w):=(((h.take 127).take 0).take _).WA [_]
theorem Inv.pln{k m:Nat}{w:W3}(h:Inv k m w)(y:aj tM)(i:den tI):Inv (k+16) m (aaH y w i):=
 (((h.fld y i (kG i.1)).Ej _).WA _).le (by have:=(OG i.1).2.2.1;omega) (Nat.le_refl _)
theorem Inv.close{k m:Nat}{w:W3}(h:Inv k m w)(n:Int)(jR:(n6 w n).2.1≠[]):Inv (k+32) m (n6 w n):=by
 have hio:=h.io _ h.mem
 have hS:Inv k m ((mr w).1,w.2.1,(mr w).2):=h.Ej (dA w.2.1).2.2.2.1
 unfold n6 at jR ⊢
 obtain⟨r,B,e⟩:=vh h.ne
 have ec:tJ w=r:=by unfold tJ;rw[e];simp
 have et:dA w.2.1=B:=by rw[e,sd]
 cases hb:Ce w with
 |true=>
  rw[ec,et,cond_true,<-e]
  exact(hS.bad true).le (by omega) (Nat.le_refl _)
 |false=>
  rw[hb]at jR
  simp only[cond_false]at jR ⊢
  have hh:((mr w).1.length:Int)=(dA w.2.1).2.1:=by
   unfold Ce at hb
   rw[Bool.or_eq_false_iff]at hb
   have:=hb.2
   simpa using this
  have hp:=h.pw
  have hht:=h.ht
  have aaI:=h.io
  have hsb:=h.sb
  have hsk:=hS.sk
  rw[e]at hp hht aaI hsb
  rw[List.pairwise_append]at hp
  rw[ec]at jR ⊢
  have hr: ∀ b,b∈r->(b.2.1:Int)<=((mr w).1.length:Int):=fun b hb=>by rw[hh,et];exact hp.2.2 b hb B (by simp)
  have hsk:(mr w).1.length<=k:=hsk
  cases hn5:decide (n=5)with
  |true=>
   rw[hn5]at jR
   simp only[cond_true]at jR ⊢
   refine⟨jR,?_,?_,?_,?_,?_⟩
   ·show(fe _ _ _ _ _).Pairwise _
    unfold fe
    rw[List.pairwise_append]
    refine⟨hp.1,List.pairwise_singleton _ _,fun a ha b hb=>?_⟩
    have:b=(5,((mr w).1.length:Int),(dA w.2.1).2.2.1,(dA w.2.1).2.2.2.1,false,wF r):=by simpa using hb
    rw[this]
    exact hr a ha
   ·intro b hb
    unfold fe at hb
    rcases List.mem_append.1 hb with hb|hb
    ·exact⟨(hht b (List.mem_append_left _ hb)).1,Int.le_trans (hr b hb) (by show _<=(((mr w).1++(dA w.2.1).2.2.1).length:Int);rw[List.length_append];omega)⟩
    ·have:b=(5,((mr w).1.length:Int),(dA w.2.1).2.2.1,(dA w.2.1).2.2.2.1,false,wF r):=by simpa using hb
     rw[this]
     exact⟨Int.natCast_nonneg _,by show((mr w).1.length:Int)<=(((mr w).1++(dA w.2.1).2.2.1).length:Int);rw[List.length_append];omega⟩
   ·intro b hb
    unfold fe at hb
    rcases List.mem_append.1 hb with hb|hb
    ·exact aaI b (List.mem_append_left _ hb)
    ·have:b=(5,((mr w).1.length:Int),(dA w.2.1).2.2.1,(dA w.2.1).2.2.2.1,false,wF r):=by simpa using hb
     rw[this]
     exact hio
   ·show((mr w).1++(dA w.2.1).2.2.1).length<=_
    rw[List.length_append]
    omega
   ·show(fe _ _ _ _ _).length<=_
    unfold fe
    simpa using hsb
  |false=>
   rw[hn5]at jR
   simp only[cond_false]at jR ⊢
   refine⟨jR,hp.1,fun b hb=>?_,fun b hb=>aaI b (List.mem_append_left _ hb),?_,?_⟩
   ·exact⟨(hht b (List.mem_append_left _ hb)).1,Int.le_trans (hr b hb) (by show _<=(((mr w).1++(dA w.2.1).2.2.2.1).length:Int);rw[List.length_append];omega)⟩
   ·show((mr w).1++(dA w.2.1).2.2.2.1).length<=_
    rw[List.length_append]
    omega
   ·have:(r++[B]).length<=m:=hsb
    rw[List.length_append]at this
    show r.length<=m
    omega
end Go.Proofs.Vd

noncomputable section
namespace Go.Proofs.Vd
open Go.Ab Go.Ab.Lf
set_option maxRecDepth 100000
theorem IOk.np{i:den tI}(h:IOk i)(hp:(kG i.1).2.2.1=false):(¬ (2<=(i.1:Int)/\(i.1:Int)<=5)-> ¬ (i.1:Int)=0-> ¬ (i.1:Int)=11-> ¬ (i.1:Int)=15-> ¬ (i.1:Int)=26-> ¬ (i.1:Int)=27->(0:Int)<=i.2.1/\(i.2.1:Int)<4294967296)/\((i.1:Int)=14-> ∀ x,x∈i.2.2.2.2.2->(0:Int)<=x):=by
 have hn:=aeV h.is hp
 have key: ∀ (o f:Int),npP o f=true->(f=3∨f=4∨f=5∨f=6∨((2<=o/\o<=5)∨o=0∨o=11∨o=15∨o=26∨o=27))/\(o=14->f=4):=by
  intro o f h
  unfold npP at h
  by_cases f1:f=1
  ·rw[decide_eq_true f1]at h
   simp only[cond_true,Bool.or_eq_true,decide_eq_true_eq]at h
   omega
  rw[decide_eq_false f1,cond_false]at h
  by_cases f2:f=2
  ·rw[decide_eq_true f2]at h
   simp only[cond_true,Bool.or_eq_true,decide_eq_true_eq]at h
   omega
  rw[decide_eq_false f2,cond_false]at h
  by_cases f3:f=3
  ·rw[decide_eq_true f3]at h
   simp only[cond_true,Bool.or_eq_true,decide_eq_true_eq]at h
   omega
  rw[decide_eq_false f3,cond_false]at h
  by_cases f4:f=4
  ·rw[decide_eq_true f4]at h
   simp only[cond_true,decide_eq_true_eq]at h
   omega
  rw[decide_eq_false f4,cond_false]at h
  by_cases f5:f=5
  ·rw[decide_eq_true f5]at h
   simp only[cond_true,Bool.or_eq_true,Bool.and_eq_true,decide_eq_true_eq]at h
   omega
  rw[decide_eq_false f5,cond_false]at h
  by_cases f6:f=6
  ·rw[decide_eq_true f6]at h
   simp only[cond_true,decide_eq_true_eq]at h
   omega
  rw[decide_eq_false f6]at h
  cases h
 obtain⟨k1,k2⟩:=key _ _ hn
 refine⟨fun a b c d e f=>?_,fun e=>h.l (k2 e)⟩
 rcases k1 with q|q|q|q|q|q|q|q|q|q
 ·exact h.a _ rfl (.inl q)
 ·exact h.a _ rfl (.inr (.inl q))
 ·exact h.a _ rfl (.inr (.inr (.inl q)))
 ·exact h.a _ rfl (.inr (.inr (.inr q)))
 ·exact(a q).elim
 ·exact(b q).elim
 ·exact(c q).elim
 ·exact(d q).elim
 ·exact(e q).elim
 ·exact(f q).elim
theorem Inv.step{k m:Nat}{w:W3}(h:Inv k m w){y:aj tM}(ht:zY y)(lo:List Int){i:den tI}(hi:IOk i)(hk:k+32*i.2.2.2.2.2.length<=1073741824)(hm:m<=1073741824)(jR:(fD y lo w i).2.1≠[]):Inv (k+32) (m+1) (fD y lo w i):=by
 unfold fD at jR ⊢
 cases hp:(kG i.1).2.2.1 with
 |true=>exact(h.pln y i).le (by omega) (by omega)
 |false=>
  rw[hp]at jR
  simp only[cond_false]at jR ⊢
  obtain⟨n1,n2⟩:=hi.np hp
  cases c1:decide (i.1=2)||(decide (i.1=3)||decide (i.1=4))with
  |true=>
   simp only[cond_true]
   cases decide (i.1=4)with
   |true=>exact(h.take 127).blk ht i
   |false=>exact h.blk ht i
  |false=>
   rw[c1]at jR
   simp only[cond_false]at jR ⊢
   cases c2:decide (i.1=5)||decide (i.1=11)with
   |true=>
    rw[c2]at jR
    exact(h.close i.1 jR).le (by omega) (by omega)
   |false=>
    rw[c2]at jR
    simp only[cond_false]at jR ⊢
    cases c3:decide (i.1=26)with
    |true=>exact(h.take 0).le (by omega) (by omega)
    |false=>
     simp only[cond_false]
     cases c4:decide (i.1=27)with
     |true=>exact h.Cw.le (by omega) (by omega)
     |false=>
      simp only[cond_false]
      cases c5:decide (i.1=16)with
      |true=>
       have:=na ht (dO y.2.1 y.2.2.1 i.2.1)
       exact(((h.Us _).Ej _).WA _).le (by omega) (by omega)
      |false=>
       simp only[cond_false]
       cases c6:decide (i.1=17)with
       |true=>
        have:=na ht i.2.1
        exact((((h.Us _).take 127).Ej _).WA _).le (by omega) (by omega)
       |false=>
        simp only[cond_false]
        simp only[Bool.or_eq_false_iff,decide_eq_false_iff_not]at c1 c2 c3 c4 c5 c6
        have key: ∀ o:Int,(¬ o=2/\ ¬ o=3/\ ¬ o=4)->(¬ o=5/\ ¬ o=11)-> ¬ (2<=o/\o<=5):=fun o _ _=>by omega
        refine(h.jump hm y lo i (fun e=>?_) n2 hk hi.n).le (Nat.le_refl _) (Nat.le_succ _)
        have ne0: ∀ o:Int,o=12∨o=13∨o=14-> ¬ o=0/\ ¬ o=15:=fun o _=>by omega
        exact(n1 (key _ c1 c2) (ne0 _ e).1 c2.2 (ne0 _ e).2 c3 c4).1
theorem ae6{k m:Nat}{w:W3}(h:Inv k m w){y:aj tM}(ht:zY y)(lo:List Int){i:den tI}(hi:IOk i)(hk:k+32*i.2.2.2.2.2.length<=1073741823)(hm:m<=1073741823)(Jg:y.2.1.length<=1099511627776):(t62 (qe y lo w i)).val=some (aA l8 (wk y lo (fD y lo w i))):=by
 obtain⟨l1,l2,l3,_,_⟩:=OG i.1
 have k0:k<=1073741823:=by omega
 have hz:=ae3 y lo w i (kG i.1) l1
 rw[aj3 y (Em ht) lo w i _ rfl _ hz.symm _ rfl _ rfl _ rfl]
 unfold fD
 dsimp only
 cases hp:(kG i.1).2.2.1 with
 |true=>
  have q:=h.fld y i (kG i.1)
  have e:TA (Wt y lo w i (kG i.1))=true:=decide_eq_true l1
  simp only[cond_true]
  rw[e]
  obtain⟨b,eb⟩:=v8 y w i (kG i.1)
  have c1:=q.cT (L:=(kG i.1).2.2.2.1) (by omega) (by omega) (by omega)
  have c2:=(q.Ej (kG i.1).2.2.2.1).cG (by omega) (L:=(kG i.1).2.2.2.2.1) (by omega)
  refine Eq.trans (b:=bif cT (Ek y w i (kG i.1)) (kG i.1).2.2.2.1 then _ else none) rfl ?_
  rw[c1,cond_true]
  refine Eq.trans (b:=bif cG (fH (Ek y w i (kG i.1)) (kG i.1).2.2.2.1) (kG i.1).2.2.2.2.1 then _ else none) rfl ?_
  rw[c2,cond_true]
  rfl
 |false=>
  simp only[cond_false]
  obtain⟨n1,n2⟩:=hi.np hp
  have B2: ∀ {k m:Nat} {v:W3},Inv k m v->k<=1073741823->m<=1073741823->aM (cT (v.1,v.2.1,kX y.1 i.2.1 v.2.2) (fU y.1 i.2.1).1) (
   aM (decide ((fH (v.1,v.2.1,kX y.1 i.2.1 v.2.2) (fU y.1 i.2.1).1).2.1.length+1<=549755813888)) (
    aM (cG ((fH (v.1,v.2.1,kX y.1 i.2.1 v.2.2) (fU y.1 i.2.1).1).1,fe (fH (v.1,v.2.1,kX y.1 i.2.1 v.2.2) (fU y.1 i.2.1).1).1 (fH (v.1,v.2.1,kX y.1 i.2.1 v.2.2) (fU y.1 i.2.1).1).2.1 i.1 (fU y.1 i.2.1).1 (fU y.1 i.2.1).2,(fH (v.1,v.2.1,kX y.1 i.2.1 v.2.2) (fU y.1 i.2.1).1).2.2) (fU y.1 i.2.1).1)
     (some (aA l8 (wk y lo (El y i v))))))=some (aA l8 (wk y lo (El y i v))):=by
   intro k m v q hk hm
   obtain⟨a,b⟩:=Is ht i.2.1
   have q1:=q.bad (kX y.1 i.2.1 v.2.2)
   have q2:=q1.Ej (fU y.1 i.2.1).1
   have q3:=q2.opn i.1 a b
   have hb:v.2.1.length<=m:=q.sb
   have c0:decide ((fH (v.1,v.2.1,kX y.1 i.2.1 v.2.2) (fU y.1 i.2.1).1).2.1.length+1<=549755813888)=true:=decide_eq_true (by show v.2.1.length+1<=_;omega)
   rw[q1.cT (by omega) (by omega) (L:=(fU y.1 i.2.1).1) (by omega),c0,q3.cG (by omega) (L:=(fU y.1 i.2.1).1) (by omega)]
   rfl
  have zh:(bif decide (i.1=4)then aM (cW w) (aM (cT ((ca w 127).1,(ca w 127).2.1,kX y.1 i.2.1 (ca w 127).2.2) (fU y.1 i.2.1).1) (
   aM (decide ((fH ((ca w 127).1,(ca w 127).2.1,kX y.1 i.2.1 (ca w 127).2.2) (fU y.1 i.2.1).1).2.1.length+1<=549755813888)) (
    aM (cG ((fH ((ca w 127).1,(ca w 127).2.1,kX y.1 i.2.1 (ca w 127).2.2) (fU y.1 i.2.1).1).1,fe (fH ((ca w 127).1,(ca w 127).2.1,kX y.1 i.2.1 (ca w 127).2.2) (fU y.1 i.2.1).1).1 (fH ((ca w 127).1,(ca w 127).2.1,kX y.1 i.2.1 (ca w 127).2.2) (fU y.1 i.2.1).1).2.1 i.1 (fU y.1 i.2.1).1 (fU y.1 i.2.1).2,(fH ((ca w 127).1,(ca w 127).2.1,kX y.1 i.2.1 (ca w 127).2.2) (fU y.1 i.2.1).1).2.2) (fU y.1 i.2.1).1)
     (some (aA l8 (wk y lo (El y i (ca w 127))))))))else aM (cT (w.1,w.2.1,kX y.1 i.2.1 w.2.2) (fU y.1 i.2.1).1) (
   aM (decide ((fH (w.1,w.2.1,kX y.1 i.2.1 w.2.2) (fU y.1 i.2.1).1).2.1.length+1<=549755813888)) (
    aM (cG ((fH (w.1,w.2.1,kX y.1 i.2.1 w.2.2) (fU y.1 i.2.1).1).1,fe (fH (w.1,w.2.1,kX y.1 i.2.1 w.2.2) (fU y.1 i.2.1).1).1 (fH (w.1,w.2.1,kX y.1 i.2.1 w.2.2) (fU y.1 i.2.1).1).2.1 i.1 (fU y.1 i.2.1).1 (fU y.1 i.2.1).2,(fH (w.1,w.2.1,kX y.1 i.2.1 w.2.2) (fU y.1 i.2.1).1).2.2) (fU y.1 i.2.1).1)
     (some (aA l8 (wk y lo (El y i w)))))))=some (aA l8 (wk y lo (El y i (bif decide (i.1=4)then ca w 127 else w)))):=by
   cases decide (i.1=4)with
   |true=>rw[cond_true,cond_true,h.cW (by omega) (by omega)];exact B2 (h.take 127) k0 hm
   |false=>exact B2 h k0 hm
  by_cases d2:(i.1:Int)=2
  ·rw[decide_eq_true d2,cond_true];exact zh
  rw[decide_eq_false d2,cond_false]
  by_cases d3:(i.1:Int)=3
  ·rw[decide_eq_true d3,cond_true];exact zh
  rw[decide_eq_false d3,cond_false]
  by_cases d4:(i.1:Int)=4
  ·have:=zh
   rw[decide_eq_true d4]at this ⊢
   exact this
  rw[decide_eq_false d4,cond_false]
  simp only[Bool.false_or,cond_false]
  have s75:=jJ (aeY h (by omega) (by omega) y lo i.1)
  have e75:aM (k75 (Qr y lo w i.1)) (some (aA l8 (m75 (Qr y lo w i.1))))=some (aA l8 (wk y lo (n6 w i.1))):=by
   rw[show k75 (Qr y lo w i.1)=true from s75.1,show m75 (Qr y lo w i.1)=_ from s75.2]
   rfl
  by_cases d5:(i.1:Int)=5
  ·rw[decide_eq_true d5,cond_true];exact e75
  rw[decide_eq_false d5,cond_false]
  by_cases d11:(i.1:Int)=11
  ·rw[decide_eq_true d11,cond_true];exact e75
  rw[decide_eq_false d11,cond_false]
  simp only[Bool.false_or,cond_false]
  by_cases d26:(i.1:Int)=26
  ·rw[decide_eq_true d26,h.cW (by omega) (by omega)];rfl
  rw[decide_eq_false d26]
  simp only[cond_false]
  by_cases d27:(i.1:Int)=27
  ·have q1:=h.take 127
   have q2:=q1.take 0
   have q3:=q2.take ((e9 (ca w 127).1 (ca w 127).2.1 (ca w 127).2.2 0).1)
   rw[decide_eq_true d27,h.cW (by omega) (by omega),q1.cW (by omega) (by omega),q2.cW (by omega) (by omega),q3.cG (by omega) (L:=[_]) (by simp)]
   rfl
  rw[decide_eq_false d27]
  simp only[cond_false]
  have key: ∀ o:Int,¬ o=2-> ¬ o=3-> ¬ o=4-> ¬ o=5-> ¬ (2<=o/\o<=5):=fun o _ _ _ _=>by omega
  by_cases d16:(i.1:Int)=16
  ·have ha:=n1 (key _ d2 d3 d4 d5) (sV d16 (by decide)) (sV d16 (by decide)) (sV d16 (by decide)) d26 d27
   obtain⟨a,b⟩:=na ht (dO y.2.1 y.2.2.1 i.2.1)
   have q:=h.Us (dM y.1 (dO y.2.1 y.2.2.1 i.2.1))
   have c0:(decide (i.2.1<9223372036854775808)&&decide (y.2.1.length<=1099511627776))=true:=by
    rw[decide_eq_true (show(i.2.1:Int)<9223372036854775808 from Int.lt_trans ha.2 (by decide)),decide_eq_true Jg];rfl
   rw[decide_eq_true d16,c0,q.cT (by omega) (by omega) (L:=(cr y.1 (dO y.2.1 y.2.2.1 i.2.1)).1) (by omega),(q.Ej _).cG (by omega) (L:=(cr y.1 (dO y.2.1 y.2.2.1 i.2.1)).2) (by omega)]
   rfl
  rw[decide_eq_false d16]
  simp only[cond_false]
  by_cases d17:(i.1:Int)=17
  ·obtain⟨a,b⟩:=na ht i.2.1
   have I: ∀ ok:Bool,aM (cW w) (aM (cT (ca (fV w ok) 127) (cr y.1 i.2.1).1) (aM (cG (fH (ca (fV w ok) 127) (cr y.1 i.2.1).1) (cr y.1 i.2.1).2) (some (aA l8 (wk y lo (mq (fH (ca (fV w ok) 127) (cr y.1 i.2.1).1) (cr y.1 i.2.1).2))))))=some (aA l8 (wk y lo (mq (fH (ca (fV w ok) 127) (cr y.1 i.2.1).1) (cr y.1 i.2.1).2))):=by
    intro ok
    have q:=(h.Us ok).take 127
    rw[h.cW (by omega) (by omega),q.cT (by omega) (by omega) (L:=(cr y.1 i.2.1).1) (by omega),(q.Ej _).cG (by omega) (L:=(cr y.1 i.2.1).2) (by omega)]
    rfl
   rw[decide_eq_true d17]
   simp only[cond_true,I]
   cases dM y.1 i.2.1 with
   |false=>rfl
   |true=>cases decide (0<(y.2.2.2.1.length:Int))<;>rfl
  rw[decide_eq_false d17]
  simp only[cond_false]
  have s77:=jJ (ae2 h (by omega) y lo i (by omega) hi.n (fun e=>?_) n2 (fun e0 e15=>(n1 (key _ d2 d3 d4 d5) e0 d11 e15 d26 d27).1))
  ·rw[show k77 (qe y lo w i)=true from s77.1,show m77 (qe y lo w i)=_ from s77.2]
   rfl
  ·have ne0: ∀ o:Int,o=12∨o=13∨o=14-> ¬ o=0/\ ¬ o=15:=fun o _=>by omega
   exact(n1 (key _ d2 d3 d4 d5) (ne0 _ e).1 d11 (ne0 _ e).2 d26 d27).1
end Go.Proofs.Vd
