import Derived.Test.YtcnkojgmochcgaaGreatDoorLfN
import Derived.Test.YtcnkojgmochcgaaGreatDoorVtA
import Derived.Test.YtcnkojgmochcgaaGreatDoorVqJ
noncomputable section
namespace Go.Proofs.Vq
open Go.Ab Go.Ab.Lf
set_option maxRecDepth 100000
abbrev pe:Ty:=.pair i64 (.pair i64 (.pair i64 (.pair i64 .str)))
abbrev xP:List Ty:=[i64,i64,.bool,.cp i64,.cp i64]
def Gm:List (den pe):=(nq [.cp pe] (qA .nil [] (Ps [.im pe]) (fun _=>none) Tryz.ae7 3 (pY [] 3) [])).1
def aaU:List (den pe):=(nq [.cp pe] (qA .nil [] (Ps [.im pe]) (fun _=>none) Tryz.ae8 3 (pY [] 3) [])).1
def sg0:ByteArray:=⟨#[58,118]⟩
def sg1:ByteArray:=⟨#[105,58,118]⟩
def sg2:ByteArray:=⟨#[105,118,58]⟩
def sg3:ByteArray:=⟨#[105,118,58,118]⟩
def sg4:ByteArray:=⟨#[108,58,118]⟩
def sg5:ByteArray:=⟨#[118,58,105]⟩
def sg6:ByteArray:=⟨#[118,58,108]⟩
def sg7:ByteArray:=⟨#[118,58,118]⟩
def sg8:ByteArray:=⟨#[118,105,58,118]⟩
def sg9:ByteArray:=⟨#[118,108,58,118]⟩
def uN:ByteArray:=⟨#[118,118,58,118]⟩
def atn:ByteArray:=⟨#[118,118,118,58,118]⟩
def C7:List (den pe):=[(64768,64768,7,4,sg1),(64769,64774,7,3,sg1),(64775,64775,7,0,sg1),(64776,64776,7,1,sg1),(64777,64777,7,2,sg1),(64778,64778,7,3,sg1),(64779,64779,7,4,sg2),(64780,64780,11,0,sg0),(64781,64781,12,0,uN),(64782,64782,1,0,uN),(64783,64785,1,0,sg1),(64786,64786,1,0,sg4),(64789,64790,13,16,sg5),(64791,64791,13,16,sg8),(64792,64793,13,8,sg5),(64794,64794,13,8,sg8),(64795,64795,13,4,sg5),(64796,64796,13,4,sg8),(64797,64797,13,2,sg6),(64798,64798,13,2,sg9),(64803,64832,1,0,uN),(64845,64845,1,0,sg7),(64846,64849,1,0,uN),(64850,64850,1,0,atn),(64851,64851,1,0,sg5),(64852,64852,8,0,sg3),(64853,64853,8,1,sg3),(64854,64854,8,2,sg3),(64855,64855,8,3,sg3),(64856,64856,8,0,sg2),(64857,64857,8,1,sg2),(64858,64858,8,2,sg2),(64859,64859,8,3,sg2),(64860,64860,7,2,sg1),(64861,64861,7,3,sg1),(64864,64866,1,0,sg7),(64867,64868,1,0,sg5),(64869,64870,1,0,uN),(64875,64877,1,0,sg8),(64878,64883,1,0,uN),(64886,64889,1,0,uN),(64891,64891,1,0,uN),(64892,64897,1,0,sg7),(64898,64898,1,0,uN),(64899,64900,1,0,sg5),(64901,64902,1,0,uN),(64903,64906,1,0,sg7),(64907,64909,1,0,sg8),(64910,64915,1,0,uN),(64917,64921,1,0,uN),(64923,64927,1,0,uN),(64928,64929,1,0,sg7),(64931,64932,1,0,sg5),(64935,64938,1,0,sg7),(64939,64941,1,0,sg8),(64942,64942,1,0,uN),(64945,64945,1,0,uN),(64949,64954,1,0,uN),(64956,64959,1,0,uN),(64960,64961,1,0,sg7),(64963,64964,1,0,sg5),(64967,64970,1,0,sg7),(64971,64973,1,0,sg8),(64974,64974,1,0,uN),(64977,64977,1,0,uN),(64981,64991,1,0,uN)]
theorem aaW:aaU=C7:=by kernel_rfl
def ale:ny:=pW .nil [] (Ps [.im pe]) [] [.cp pe] fun _=>.ok (Gm,())
def alf:ny:=pW .nil [] (Ps [.im pe]) [] [.cp pe] fun _=>.ok (aaU,())
theorem aaX{cr:cx}(W:WQ cr):ale.Ok 144 cr:=by
 refine tw (W.in .nil 3) (W.st 144 _ rfl) rfl (cD _) (m:=3) rfl ?_
 rintro⟨⟩ q h
 cases h
 exact CN (to:=[.cp pe]) (x:=qA .nil [] (Ps [.im pe]) (fun _=>none) Tryz.ae7 3 (pY [] 3) []) (by kernel_rfl)
theorem aaY{cr:cx}(W:WQ cr):alf.Ok 145 cr:=by
 refine tw (W.in .nil 3) (W.st 145 _ rfl) rfl (cD _) (m:=3) rfl ?_
 rintro⟨⟩ q h
 cases h
 exact CN (to:=[.cp pe]) (x:=qA .nil [] (Ps [.im pe]) (fun _=>none) Tryz.ae8 3 (pY [] 3) []) (by kernel_rfl)
abbrev pB:qH:=.pt 0 (Ps [.n .i64,.n .i64,.bo,.im i64,.im i64])
abbrev pC:qH:=.pt 0 (Ps [.n .i64,.n .i64,.bo,.ow i64,.ow i64])
abbrev vv:List Ty:=[i64,i64,.bool,.cp i64,.cp i64,i64,i64,.bool,.cp i64,.cp i64,.bool,.cp u8,i64,i64]
def C8:AN:=⟨2,zZ Tryz.x88.code 2,[2,7,8,42,43,44],Ps [pB,pC,.bo,.im u8,.n .i64,.n .i64],[⟨.GG,[2,7],Ps [pB,pC]⟩]⟩
def Ov(s:Bool×List Int×List Int)(c:Int):Bool×List Int×List Int:=
 if c=58 then(true,s.2)else(if s.1 then(s.1,s.2.1,s.2.2++[if c=108 then 126 else if c=118 then 123 else 127])else(s.1,s.2.1++[if c=108 then 126 else if c=118 then 123 else 127],s.2.2))
def Qq(s:List Int):List Int×List Int:=(s.foldl Ov (false,[],[])).2
theorem EK(f l:Int)(p:Bool)(a b:List Int)(f2 l2:Int)(p2:Bool)(a2 b2:List Int)(o:Bool)(s:List Int)(n i:Int):C8.step (fun _=>none) (pY [] 3) 3 (cq vv (f,l,p,a,b,f2,l2,p2,a2,b2,o,s,n,i,()))=
 .br (decide (i<n)) (.ck (cZ i (Int.ofNat s.length)) (let x:=s.getD i.toNat (cE u8)
  let nx:=fun(t:Int)=>T.br o (.ck (roomy 8 (b2.length+1)) (.ok (Rs.next (cq vv (f,l,p,a,b,f2,l2,p2,a2,app b2 [t],o,s,n,cY .i64 i 1,())))))
   (.ck (roomy 8 (a2.length+1)) (.ok (Rs.next (cq vv (f,l,p,a,b,f2,l2,p2,app a2 [t],b2,o,s,n,cY .i64 i 1,())))))
  .br (decide (x=58)) (.ok (Rs.next (cq vv (f,l,p,a,b,f2,l2,p2,a2,b2,true,s,n,cY .i64 i 1,())))) (.br (decide (x=108)) (nx 126) (.br (decide (x=118)) (nx 123) (nx 127)))))
  (.ok (.out 0 (cq [i64,i64,.bool,.cp i64,.cp i64,i64,i64,.bool,.cp i64,.cp i64] (f,l,p,a,b,f2,l2,p2,a2,b2,())))):=by kernel_rfl
theorem Vi(f l:Int)(p:Bool)(a b:List Int)(f2 l2:Int)(p2:Bool)(s:List Int)(hs:s.length<=1000):
 uh (C8.step (fun _=>none) (pY [] 3) 3) (cq vv (f,l,p,a,b,f2,l2,p2,[],[],false,s,(s.length:Int),0,())) 0 (cq [i64,i64,.bool,.cp i64,.cp i64,i64,i64,.bool,.cp i64,.cp i64] (f,l,p,a,b,f2,l2,p2,(Qq s).1,(Qq s).2,())):=by
 have:=rng (f:=C8.step (fun _=>none) (pY [] 3) 3) (l:=s) (fun(q:Bool×List Int×List Int) j=>cq vv (f,l,p,a,b,f2,l2,p2,q.2.1,q.2.2,q.1,s,(s.length:Int),(j:Int),())) (fun q x=>.inl (Ov q x)) (fun q=>(0,cq [i64,i64,.bool,.cp i64,.cp i64,i64,i64,.bool,.cp i64,.cp i64] (f,l,p,a,b,f2,l2,p2,q.2.1,q.2.2,())))
  (fun q r=>(q.2.1.length+r.length<=2000/\q.2.2.length+r.length<=2000)) (fun q j x r h hi=>by
  obtain⟨o,a2,b2⟩:=q
  obtain⟨h1,h2⟩:=yW h (cE u8)
  simp only[List.length_cons]at hi
  have hj:j<4611686018427387904:=by omega
  have r1:roomy 8 (a2.length+1)=true:=rS (by omega) (by omega)
  have r2:roomy 8 (b2.length+1)=true:=rS (by omega) (by omega)
  refine⟨?_,fun s' e=>?_⟩
  ·rw[EK,Lf.T.wb,ui h1,cond_true,Lf.T.FK,pN h1,cond_true,Int.toNat_natCast,h2,afd hj]
   unfold Ov
   simp only[Lf.T.wb,Lf.T.FK,Lf.T.aep,r1,r2,mP,cond_true]
   by_cases x1:x=58
   ·simp[x1,Ud]
   ·by_cases x2:x=108
    ·cases o<;>simp[x2,Ud]
    ·by_cases x3:x=118
     ·cases o<;>simp[x3,Ud]
     ·cases o<;>simp[x1,x2,x3,Ud]
  ·cases e
   unfold Ov
   split
   ·simp only;omega
   ·split<;>simp<;>omega) (fun q j h hj hi=>by
  have:j=s.length:=by have:=List.drop_eq_nil_iff.1 h;omega
  subst this
  rw[EK,Lf.T.wb,rH (Nat.le_refl _)]
  rfl) s 0 (false,[],[]) rfl (by omega) (by simp;omega)
 rw[Qa]at this
 exact this
def aaZ:cf vv->T (Nat×List Pl):=fun x=>.ck (((decide (x.2.2.2.2.2.2.2.2.1.length=0)&&decide (x.2.2.2.2.2.2.2.2.2.1.length=0))&& !x.2.2.2.2.2.2.2.2.2.2.1)&&((decide (x.2.2.2.2.2.2.2.2.2.2.2.2.1=(x.2.2.2.2.2.2.2.2.2.2.2.1.length:Int))&&decide (x.2.2.2.2.2.2.2.2.2.2.2.2.2.1=0))&&decide (x.2.2.2.2.2.2.2.2.2.2.2.1.length<=1000)))
 (.ok (0,cq [i64,i64,.bool,.cp i64,.cp i64,i64,i64,.bool,.cp i64,.cp i64] (x.1,x.2.1,x.2.2.1,x.2.2.2.1,x.2.2.2.2.1,x.2.2.2.2.2.1,x.2.2.2.2.2.2.1,x.2.2.2.2.2.2.2.1,(Qq x.2.2.2.2.2.2.2.2.2.2.2.1).1,(Qq x.2.2.2.2.2.2.2.2.2.2.2.1).2,())))
theorem Ow(x:cf vv)(k:Nat)(q:List Pl)(h:(aaZ x).val=some (k,q)):uh (C8.step (fun _=>none) (pY [] 3) 3) (cq vv x) k q:=by
 obtain⟨f,l,p,a,b,f2,l2,p2,a2,b2,o,s,n,i,⟨⟩⟩:=x
 obtain⟨h1,h2⟩:=Lf.T.cP h
 cases h2
 simp only[Bool.and_eq_true,decide_eq_true_eq,Bool.not_eq_true']at h1
 obtain⟨⟨⟨b1,b2'⟩,b3⟩,⟨b4,b5⟩,b6⟩:=h1
 have b1:=List.eq_nil_of_length_eq_zero b1
 have b2':=List.eq_nil_of_length_eq_zero b2'
 subst b1;subst b2';subst b3;subst b4;subst b5
 exact Vi f l p a b f2 l2 p2 s b6
abbrev Ah:List Ty:=[i64,i64,i64,.bool,.cp i64,.cp i64,.bool,.cp pe,i64,i64]
def Oy:AN:=⟨0,zZ Tryz.x88.code 0,[0,2,3,16,17,18],Ps [.n .i64,pB,.bo,.im pe,.n .i64,.n .i64],[⟨.GG,[2],Ps [pB]⟩,⟨.rt,[2,3],Ps [pC,.bo]⟩]⟩
def mBy(r:den pe):List Int:=r.2.2.2.2.data.toList.map fun b=>Int.ofNat b.toNat
def Qr(r:den pe):cf xP:=(r.2.2.1,r.2.2.2.1,!(eqStr r.2.2.2.2 ⟨#[]⟩),(Qq (mBy r)).1,(Qq (mBy r)).2,())
def agk(op:Int)(_:Unit)(r:den pe)(_:List (den pe)):Unit ⊕ Option (cf xP):=bif (bif decide (op<r.1)then true else decide (r.2.1<op))then .inl ()else .inr (some (Qr r))
def sQ(op:Int)(rs:List (den pe)):Option (cf xP):=yV (agk op) (fun _=>none) rs ()
def L88:Nat->Option rk:=JB [(2,QZ C8 vv aaZ)]
theorem IL(op f l:Int)(p:Bool)(a b:List Int)(ok:Bool)(rs:List (den pe))(n i:Int):(Oy.step L88 (pY [] 3) 3 (cq Ah (op,f,l,p,a,b,ok,rs,n,i,()))).val=
 bif decide (i<n)then(bif cZ i (Int.ofNat rs.length)then(bif (bif decide (op<(rs.getD i.toNat (cE pe)).1)then true else decide ((rs.getD i.toNat (cE pe)).2.1<op))then some (Rs.next (cq Ah (op,f,l,p,a,b,ok,rs,n,cY .i64 i 1,())))
  else(bif ((true&&true)&&true)&&((decide (((mBy (rs.getD i.toNat (cE pe))).length:Int)=((mBy (rs.getD i.toNat (cE pe))).length:Int))&&true)&&decide ((mBy (rs.getD i.toNat (cE pe))).length<=1000))then some (Rs.out 1 (cq [i64,i64,.bool,.cp i64,.cp i64,.bool] ((Qr (rs.getD i.toNat (cE pe))).1,(Qr (rs.getD i.toNat (cE pe))).2.1,(Qr (rs.getD i.toNat (cE pe))).2.2.1,(Qr (rs.getD i.toNat (cE pe))).2.2.2.1,(Qr (rs.getD i.toNat (cE pe))).2.2.2.2.1,true,())))else none))else none)else some (.out 0 (cq xP (f,l,p,a,b,()))):=by kernel_rfl
def um(rs:List (den pe)):Bool:=Go.Ab.oD (fun r=>decide ((mBy r).length<=1000)) rs
theorem IM{r:den pe}{rs:List (den pe)}(h:um (r::rs)=true):(mBy r).length<=1000/\um rs=true:=by
 have h:(bif decide ((mBy r).length<=1000)then um rs else false)=true:=h
 by_cases q:(mBy r).length<=1000
 ·rw[decide_eq_true q]at h;exact⟨q,h⟩
 ·rw[decide_eq_false q]at h;cases h
theorem aa1(op f l:Int)(p:Bool)(a b:List Int)(ok:Bool)(rs:List (den pe))(hl:rs.length<=1000)(hs:um rs=true):
 uh (Oy.step L88 (pY [] 3) 3) (cq Ah (op,f,l,p,a,b,ok,rs,(rs.length:Int),0,())) (match sQ op rs with|none=>0|some _=>1) (match sQ op rs with|none=>cq xP (f,l,p,a,b,())|some y=>cq [i64,i64,.bool,.cp i64,.cp i64,.bool] (y.1,y.2.1,y.2.2.1,y.2.2.2.1,y.2.2.2.2.1,true,())):=by
 have:=ajx (f:=Oy.step L88 (pY [] 3) 3) (l:=rs) (fun(_:Unit) j=>cq Ah (op,f,l,p,a,b,ok,rs,(rs.length:Int),(j:Int),())) (agk op) (fun _=>(none:Option (cf xP)))
  (fun o=>(match o with|none=>0|some _=>1,match o with|none=>cq xP (f,l,p,a,b,())|some y=>cq [i64,i64,.bool,.cp i64,.cp i64,.bool] (y.1,y.2.1,y.2.2.1,y.2.2.2.1,y.2.2.2.2.1,true,()))) (fun _ r=>um r=true) (fun q j x r h hi=>by
  obtain⟨h1,h2⟩:=yW h (cE pe)
  have hj:j<4611686018427387904:=by omega
  obtain⟨k1,k2⟩:=IM hi
  refine⟨?_,fun _ _=>k2⟩
  rw[IL,ui h1,cond_true,pN h1,cond_true,Int.toNat_natCast,h2,afd hj]
  unfold agk
  cases hc:(bif decide (op<x.1)then true else decide (x.2.1<op))with
  |true=>simp only[cond_true,rsR]
  |false=>simp only[cond_false,rsR,decide_eq_true k1,decide_true,Bool.and_self,cond_true]) (fun q j h hj hi=>by
  have:j=rs.length:=by have:=List.drop_eq_nil_iff.1 h;omega
  subst this
  rw[IL,rH (Nat.le_refl _)]
  rfl) rs 0 () rfl (by omega) hs
 exact this
def g88:cf Ah->T (Nat×List Pl):=fun x=>.ck ((decide (x.2.2.2.2.2.2.2.2.1=(x.2.2.2.2.2.2.2.1.length:Int))&&decide (x.2.2.2.2.2.2.2.2.2.1=0))&&(decide (x.2.2.2.2.2.2.2.1.length<=1000)&&um x.2.2.2.2.2.2.2.1))
 (.br (sQ x.1 x.2.2.2.2.2.2.2.1).isNone (.ok (0,cq xP (x.2.1,x.2.2.1,x.2.2.2.1,x.2.2.2.2.1,x.2.2.2.2.2.1,()))) (let y:=(sQ x.1 x.2.2.2.2.2.2.2.1).getD (wq xP); .ok (1,cq [i64,i64,.bool,.cp i64,.cp i64,.bool] (y.1,y.2.1,y.2.2.1,y.2.2.2.1,y.2.2.2.2.1,true,()))))
theorem Vj(x:cf Ah)(k:Nat)(q:List Pl)(h:(g88 x).val=some (k,q)):uh (Oy.step L88 (pY [] 3) 3) (cq Ah x) k q:=by
 obtain⟨op,f,l,p,a,b,ok,rs,n,i,⟨⟩⟩:=x
 obtain⟨h1,h2⟩:=Lf.T.cP h
 simp only[Bool.and_eq_true,decide_eq_true_eq]at h1
 obtain⟨⟨b1,b2⟩,b3,b4⟩:=h1
 subst b1;subst b2
 have:=aa1 op f l p a b ok rs b3 b4
 rw[Lf.T.wb]at h2
 cases hm:sQ op rs with
 |none=>rw[hm]at h2 this;cases h2;exact this
 |some y=>rw[hm]at h2 this;cases h2;exact this
def oV(op:Int):Option (cf xP):=sQ op C7
def agm:List (Nat×ny):=[(144,ale),(145,alf)]
theorem Oz{cr:cx}(W:WQ cr):nZ cr agm:=.cons (aaX W) (.cons (aaY W) .nil)
abbrev alg:List Ty:=[i64]
abbrev Qs:List Ty:=[i64,i64,.bool,.cp i64,.cp i64,.bool]
def O1(op:Int):cf Qs:=match oV op with
 |some y=>(y.1,y.2.1,y.2.2.1,y.2.2.2.1,y.2.2.2.2.1,true,())
 |none=>(0,0,false,[],[],false,())
def Lc:ny:=pW (Ps [.n .i64]) [] (Ps [.tu (Ps [.ag (Ps [.n .i64,.n .i64,.bo,.ow i64,.ow i64]),.bo])]) alg Qs fun x=>.ck (decide (64768<=x.1)) (.ok (O1 x.1))
theorem Vk:(um C7&&Nat.ble C7.length 1000)=true:=by kernel_rfl
abbrev o88:List Ty:=[i64,i64,.bool,.cp i64,.cp i64,.bool]
def r88(op:Int)(rs:List (den pe)):Option (List Pl):=bif (decide ((rs.length:Int)=(rs.length:Int))&&decide ((0:Int)=0))&&(decide (rs.length<=1000)&&um rs)then
 (bif (sQ op rs).isNone then some (cq o88 (0,0,false,[],[],false,()))else some (cq o88 (((sQ op rs).getD (wq xP)).1,((sQ op rs).getD (wq xP)).2.1,((sQ op rs).getD (wq xP)).2.2.1,((sQ op rs).getD (wq xP)).2.2.2.1,((sQ op rs).getD (wq xP)).2.2.2.2.1,true,())))else none
theorem Vl(op:Int)(rs:List (den pe))(h1:rs.length<=1000)(h2:um rs=true):r88 op rs=some (cq o88 (((sQ op rs).getD (0,0,false,[],[],())).1,((sQ op rs).getD (0,0,false,[],[],())).2.1,((sQ op rs).getD (0,0,false,[],[],())).2.2.1,((sQ op rs).getD (0,0,false,[],[],())).2.2.2.1,((sQ op rs).getD (0,0,false,[],[],())).2.2.2.2.1,(sQ op rs).isSome,())):=by
 unfold r88
 rw[decide_eq_true h1,h2]
 cases sQ op rs with
 |none=>simp
 |some y=>simp
theorem wX{cr:cx}(W:WQ cr):Lc.Ok 88 cr:=by
 have C:=W.in (Oz W) 3
 have C0:=W.in .nil 3
 have hi:rQ Rx.w (QZ C8 vv aaZ) (fun n d=>su (cr n d) n (.bl 2 (.lp C8.body))):=zY C0 (cD _) (m:=3) Ow
 have ho:rQ Rx.w (QZ Oy Ah g88) (fun n d=>su (cr n d) n (.bl 0 (.lp Oy.body))):=zY C0 (L:=L88) (vD.wL (.cons (b:=C8.body) (by kernel_rfl) hi .nil)) (m:=3) Vj
 refine tw C (W.st 88 _ rfl) rfl (L:=JB [(0,QZ Oy Ah g88)]) (vD.wL (.cons (b:=Oy.body) (by kernel_rfl) ho .nil)) (m:=3) rfl ?_
 rintro⟨op,⟨⟩⟩ q h
 obtain⟨hv,h⟩:=Lf.T.cP h
 cases h
 have e:(qA (Ps [.n .i64]) [] (Ps [.tu (Ps [.ag (Ps [.n .i64,.n .i64,.bo,.ow i64,.ow i64]),.bo])]) (JB [(0,QZ Oy Ah g88)]) Tryz.x88 3 (pY agm 3) (cq [i64] (op,()))).val=
  bif decide (64768<=op)then r88 op aaU else r88 op Gm:=by kernel_rfl
 have hs:=Vk
 rw[Bool.and_eq_true]at hs
 have hv:decide (64768<=op)=true:=hv
 rw[e,hv,cond_true,aaW,Vl op C7 (Nat.le_of_ble_eq_true hs.2) hs.1]
 show _=some (cq Qs (match sQ op C7 with
  |some y=>(y.1,y.2.1,y.2.2.1,y.2.2.2.1,y.2.2.2.2.1,true,())
  |none=>(0,0,false,[],[],false,())))
 cases sQ op C7<;>rfl
end Go.Proofs.Vq

noncomputable section
namespace Go.Proofs.Vq
open Go.Ab Go.Ab.Lf Go.Proofs.Sw
set_option maxRecDepth 100000
theorem OA{P:qH}{ptr:List Nat}{Q:qH}{ti to:List Ty}{g g':cf ti->Lf.T (cf to)}{k:Nat}{cr:cx}(h:(pW P ptr Q ti to g).Ok k cr)(e: ∀ x y,(g' x).val=some y->(g x).val=some y):(pW P ptr Q ti to g').Ok k cr:=by
 intro pl q args H0 E0 h0 az hf hP hv hS
 obtain⟨x,y,hx,h1,h2⟩:=Gj hf
 subst hx;subst h2
 refine h (cq ti x) (cq to y) args H0 E0 h0 az ?_ hP hv hS
 show(match toT ti (cq ti x)with|some x=>(g x).map (cq to)|none=>.bad:Lf.T (List Pl)).val=some (cq to y)
 rw[tx]
 show((g x).map (cq to)).val=_
 show(((g x).bd fun a=>.ok (cq to a)):Lf.T (List Pl)).val=_
 rw[Lf.T.Kv,e x y h1]
 rfl
end Go.Proofs.Vq

noncomputable section
namespace Go.Proofs.Vq
open Go.Ab Go.Ab.Lf Go.Proofs.Sw
set_option maxRecDepth 100000
abbrev Cl:=List Int×List Int×Int×Bool
end Go.Proofs.Vq

noncomputable section
namespace Go.Proofs.Vq
open Go.Ab Go.Ab.Lf Go.Proofs.Sw
set_option maxRecDepth 1000000
end Go.Proofs.Vq

noncomputable section
namespace Go.Proofs.Vq
open Go.Ab Go.Ab.Lf Go.Proofs.Sw
set_option maxRecDepth 1000000
end Go.Proofs.Vq

noncomputable section
namespace Go.Proofs.Sw
def ac8(w:Nat):Nat:=match w with|8=>9259542123273814144|16=>9223512776490647552|32=>9223372039002259456| _=>9223372036854775808
def alh(w:Nat):Nat:=M64 - ac8 w
def ali(w:Nat):Nat:=match w with|8=>72340172838076673|16=>281479271743489|32=>4294967297| _=>1
end Go.Proofs.Sw

noncomputable section
namespace Go.Proofs.Vq
open Go.Ab Go.Ab.Lf Go.Proofs.Sw
set_option maxRecDepth 100000
abbrev DN:List Ty:=[i64,i64,i64,u64,u64,.cp i64,i64]
abbrev tG:List Ty:=[.cp nd,i64,i64]
def e43:List (Nat×ny):=[(88,Lc)]
theorem agn{cr:cx}(W:WQ cr):nZ cr e43:=.cons (wX W) .nil
end Go.Proofs.Vq

noncomputable section
namespace Go.Proofs.Vq
open Go.Ab Go.Ab.Lf Go.Proofs.Sw
set_option maxRecDepth 100000
theorem Vm{l:List Int}(h:l.length=2):l=[l.getD 0 0,l.getD 1 0]:=by
 match l,h with
 | [a,b],_=>rfl
theorem Vn{l:List Int}(h:l.length=1):l=[l.getD 0 0]:=by
 match l,h with
 | [a],_=>rfl
abbrev zq:List Ty:=[.bool]
end Go.Proofs.Vq

noncomputable section
namespace Go.Proofs.Vq
open Go.Ab Go.Ab.Lf Go.Proofs.Sw
set_option maxRecDepth 1000000
abbrev Vo(z:cf KT)(l:List Int):cf Qh:=(z.1,z.2.1,z.2.2.1,z.2.2.2.1,z.2.2.2.2.1,z.2.2.2.2.2.1,z.2.2.2.2.2.2.1,z.2.2.2.2.2.2.2.1,z.2.2.2.2.2.2.2.2.1,z.2.2.2.2.2.2.2.2.2.1,z.2.2.2.2.2.2.2.2.2.2.1,z.2.2.2.2.2.2.2.2.2.2.2.1,z.2.2.2.2.2.2.2.2.2.2.2.2.1,z.2.2.2.2.2.2.2.2.2.2.2.2.2.1,z.2.2.2.2.2.2.2.2.2.2.2.2.2.2.1,z.2.2.2.2.2.2.2.2.2.2.2.2.2.2.2.1,z.2.2.2.2.2.2.2.2.2.2.2.2.2.2.2.2.1,z.2.2.2.2.2.2.2.2.2.2.2.2.2.2.2.2.2.1,z.2.2.2.2.2.2.2.2.2.2.2.2.2.2.2.2.2.2.1,z.2.2.2.2.2.2.2.2.2.2.2.2.2.2.2.2.2.2.2.1,z.2.2.2.2.2.2.2.2.2.2.2.2.2.2.2.2.2.2.2.2.1,z.2.2.2.2.2.2.2.2.2.2.2.2.2.2.2.2.2.2.2.2.2.1,z.2.2.2.2.2.2.2.2.2.2.2.2.2.2.2.2.2.2.2.2.2.2.1,z.2.2.2.2.2.2.2.2.2.2.2.2.2.2.2.2.2.2.2.2.2.2.2.1,z.2.2.2.2.2.2.2.2.2.2.2.2.2.2.2.2.2.2.2.2.2.2.2.2.1,z.2.2.2.2.2.2.2.2.2.2.2.2.2.2.2.2.2.2.2.2.2.2.2.2.2.1,z.2.2.2.2.2.2.2.2.2.2.2.2.2.2.2.2.2.2.2.2.2.2.2.2.2.2.1,z.2.2.2.2.2.2.2.2.2.2.2.2.2.2.2.2.2.2.2.2.2.2.2.2.2.2.2.1,z.2.2.2.2.2.2.2.2.2.2.2.2.2.2.2.2.2.2.2.2.2.2.2.2.2.2.2.2.1,z.2.2.2.2.2.2.2.2.2.2.2.2.2.2.2.2.2.2.2.2.2.2.2.2.2.2.2.2.2.1,z.2.2.2.2.2.2.2.2.2.2.2.2.2.2.2.2.2.2.2.2.2.2.2.2.2.2.2.2.2.2.1,z.2.2.2.2.2.2.2.2.2.2.2.2.2.2.2.2.2.2.2.2.2.2.2.2.2.2.2.2.2.2.2.1,0,l,0,())
def aa2(g:Cg)(n:Int)(cs:List (den nd))(tn:List Int)(l w to:List Int)(loc:Int)(q:cf tG)(X:cf DL):Option (List Pl):=
 bif !decide (q.2.2.1=0)then some (cq zq (false,()))else
 cF (roomy 24 (cs.length+q.1.length)) (cF (roomy 24 ((app cs q.1).length+1)) (cF (decide (Int.ofNat w.length=Int.ofNat w.length)&&decide (loc=loc)) (cF (k22 X) (cF (k23 g (Vo (m22 X) l)) (
  bif decide ((m23 g (Vo (m22 X) l)).1=0)then cF (k25 ((m23 g (Vo (m22 X) l)).2.2.1,w,())) (some (cq zq (m25 ((m23 g (Vo (m22 X) l)).2.2.1,w,()))))else some (cq zq (false,())))))))
abbrev OB(n:Int)(cs:List (den nd))(tn w to:List Int)(loc:Int)(q:cf tG):cf DL:=([(tn,to)],[((-1:Int),(0:Int),n,Int.ofNat w.length,loc,app (app cs q.1) [((15:Int),(0:Int),(0:Int))],[])],tF (tB []) Ix (vE [] ⟨[],[],0⟩ ()))
abbrev ze(a:Int):Int:=mN .u64 a 4294967295
end Go.Proofs.Vq

noncomputable section
namespace Go.Proofs.Vq
open Go.Ab Go.Ab.Lf Go.Proofs.Sw
set_option maxRecDepth 1000000
theorem ac9(a:List Int)(hl:a.length<=1099511627776): ∀ (r:List Int) (j:Nat),a.drop j=r->j<=a.length->uh y7 (cq wu (a,a,(j:Int),())) 0 (cq uL ())
 | [],j,hd,hj=>by
  have h1:=List.drop_eq_nil_iff.1 hd
  refine .last ((UY a a (j:Int)).trans ?_)
  rw[rH h1]
  rfl
 |v::r,j,hd,hj=>by
  obtain⟨h1,_⟩:=yW hd 0
  have e:=UY a a (j:Int)
  rw[ui h1,show(cZ (j:Int) (a.length:Int)&&cZ (j:Int) (a.length:Int))=true by rw[show cZ (j:Int) (a.length:Int)=true from pN h1];rfl,dt rfl,ad1 (by omega)]at e
  exact .more e (ac9 a hl r (j+1) (acV hd) h1)
theorem ago(a:List Int)(hl:a.length<=1099511627776):k25 (a,a,())=true/\m25 (a,a,())=(true,()):=by
 obtain⟨q1,q2,_⟩:=z8 (f:=y7) (ti:=wu) (t0:=uL) (t1:=wv) (y:=()) (x:=(a,a,0,())) (ac9 a hl a 0 rfl (Nat.zero_le _))
 refine mO (ca _) (ca _) ?_
 refine(asB a a).trans ?_
 rw[dt rfl]
 show cF (DH y7 wu uL wv (a,a,0,())) (bif CO y7 wu (a,a,0,())then _ else _)=_
 rw[q1,q2]
 rfl
theorem agp(i lo:Int)(nc:Nat)(t A:Int):pG 1 1 i lo nc t (32,A,0)=bif decide (0<=A)then decide (A<cY .i64 i lo)else false:=by kernel_rfl
theorem agq(i lo:Int)(nc:Nat)(t A:Int):pG 1 1 i lo nc t (33,A,0)=bif decide (0<=A)then decide (A<cY .i64 i lo)else false:=by kernel_rfl
theorem OC{o:Int}(h:(t245 (o,())).val=some (cq nN (true,()))):sP o=true:=by
 have:=(mO (k:=ZN (o,())) (m:=ZO (o,())) (ca _) (ca _) h).2
 unfold sP
 rw[this]
theorem rY{o n:Int}(ha:wP (o,())=true/\(m11 (o,())).1=n)(hn:0<n)(h:(t245 (o,())).val=cF (wP (o,())) (bif decide (0<(m11 (o,())).1)then cF (wP (o,())) (some (cq nN (true,())))else some (cq nN (bif decide (o=15)then true else bif decide (o=16)then true else bif decide (o=17)then true else decide (o=256),())))):sP o=true:=by
 refine OC (h.trans ?_)
 rw[ha.1,ha.2,dt hn];rfl
theorem alj:wP (15,())=true/\(m11 (15,())).1=0:=GK (by kernel_rfl)
theorem OD(i lo:Int)(nc:Nat)(t:Int){o:Int}(v:Int)(ho:o=66∨o=15∨o=27∨o=124∨o=125∨o=126∨o=131∨o=132∨o=133∨o=134∨o=135∨o=136∨o=81∨o=83∨o=84∨o=85∨o=69∨o=80∨o=167∨o=173):pG 1 1 i lo nc t (o,0,v)=true:=by
 rcases ho with rfl|rfl|rfl|rfl|rfl|rfl|rfl|rfl|rfl|rfl|rfl|rfl|rfl|rfl|rfl|rfl|rfl|rfl|rfl|rfl
 ·exact(show pG 1 1 i lo nc t (66,0,v)=sP 66 by kernel_rfl).trans (OC (by kernel_rfl))
 ·exact(show pG 1 1 i lo nc t (15,0,v)=sP 15 by kernel_rfl).trans ((by
  refine OC ((show(t245 (15,())).val=cF (wP (15,())) (bif decide (0<(m11 (15,())).1)then cF (wP (15,())) (some (cq nN (true,())))else some (cq nN (true,()))) by kernel_rfl).trans ?_)
  rw[alj.1,alj.2];rfl))
 ·exact(show pG 1 1 i lo nc t (27,0,v)=sP 27 by kernel_rfl).trans (OC (by kernel_rfl))
 ·exact(show pG 1 1 i lo nc t (124,0,v)=sP 124 by kernel_rfl).trans (rY N2 (by decide) (by kernel_rfl))
 ·exact(show pG 1 1 i lo nc t (125,0,v)=sP 125 by kernel_rfl).trans (rY N3 (by decide) (by kernel_rfl))
 ·exact(show pG 1 1 i lo nc t (126,0,v)=sP 126 by kernel_rfl).trans (rY N5 (by decide) (by kernel_rfl))
 ·exact(show pG 1 1 i lo nc t (131,0,v)=sP 131 by kernel_rfl).trans (rY N6 (by decide) (by kernel_rfl))
 ·exact(show pG 1 1 i lo nc t (132,0,v)=sP 132 by kernel_rfl).trans (rY N7 (by decide) (by kernel_rfl))
 ·exact(show pG 1 1 i lo nc t (133,0,v)=sP 133 by kernel_rfl).trans (rY N8 (by decide) (by kernel_rfl))
 ·exact(show pG 1 1 i lo nc t (134,0,v)=sP 134 by kernel_rfl).trans (rY N9 (by decide) (by kernel_rfl))
 ·exact(show pG 1 1 i lo nc t (135,0,v)=sP 135 by kernel_rfl).trans (rY Oa (by decide) (by kernel_rfl))
 ·exact(show pG 1 1 i lo nc t (136,0,v)=sP 136 by kernel_rfl).trans (rY Ob (by decide) (by kernel_rfl))
 ·exact(show pG 1 1 i lo nc t (81,0,v)=sP 81 by kernel_rfl).trans (rY aaD (by decide) (by kernel_rfl))
 ·exact(show pG 1 1 i lo nc t (83,0,v)=sP 83 by kernel_rfl).trans (rY aaE (by decide) (by kernel_rfl))
 ·exact(show pG 1 1 i lo nc t (84,0,v)=sP 84 by kernel_rfl).trans (rY aaF (by decide) (by kernel_rfl))
 ·exact(show pG 1 1 i lo nc t (85,0,v)=sP 85 by kernel_rfl).trans (rY aaG (by decide) (by kernel_rfl))
 ·exact(show pG 1 1 i lo nc t (69,0,v)=sP 69 by kernel_rfl).trans (rY aaH (by decide) (by kernel_rfl))
 ·exact(show pG 1 1 i lo nc t (80,0,v)=sP 80 by kernel_rfl).trans (rY aaI (by decide) (by kernel_rfl))
 ·exact(show pG 1 1 i lo nc t (167,0,v)=sP 167 by kernel_rfl).trans (rY Oe (by decide) (by kernel_rfl))
 ·exact(show pG 1 1 i lo nc t (173,0,v)=sP 173 by kernel_rfl).trans (rY Of (by decide) (by kernel_rfl))
theorem agr(i lo:Int)(nc:Nat)(t v:Int):pG 1 1 i lo nc t (66,0,v)=true:=OD i lo nc t v (.inl rfl)
theorem ags(i lo:Int)(nc:Nat)(t:Int):pG 1 1 i lo nc t (15,0,0)=true:=OD i lo nc t 0 (.inr (.inl rfl))
theorem Gn{k a:Nat}(h:k+a<=10000):cY .i64 (k:Int) (a:Int)=((k+a:Nat):Int):=(wrap_i64 (by omega) (by omega)).trans (by omega)
theorem C9{n b N:Nat}(hn:n<=b)(hb:b+N<=10000)(t:Int)(nc:Nat){op:Int}{k a:Nat}(ho:op=32∨op=33)(h:k+a<b+N):pG 1 1 (n:Int) ((b - n+N:Nat):Int) nc t (op,cY .i64 (k:Int) (a:Int),0)=true:=by
 have p1:(0:Int)<=((k+a:Nat):Int):=Int.natCast_nonneg _
 have p2:((k+a:Nat):Int)<((n+(b - n+N):Nat):Int):=Int.ofNat_lt.2 (by omega)
 have h1:k+a<=10000:=by omega
 have h2:n+(b - n+N)<=10000:=by omega
 rcases ho with rfl|rfl
 ·rw[agp,Gn h1,Gn h2,dt p1,dt p2];rfl
 ·rw[agq,Gn h1,Gn h2,dt p1,dt p2];rfl
theorem agt{op:Nat}(h:U' op=true)(i lo:Int)(nc:Nat)(t:Int):pG 1 1 i lo nc t ((op:Int),0,0)=true:=by
 unfold U' at h
 simp only[Bool.or_eq_true,List.elem_eq_mem,List.mem_cons,List.not_mem_nil,or_false,decide_eq_true_eq]at h
 rcases h with h|(rfl|rfl|rfl|rfl|rfl|rfl|rfl|rfl|rfl|rfl|rfl|rfl|rfl)|(rfl|rfl|rfl|rfl)
 ·obtain rfl:=Nat.eq_of_beq_eq_true h;exact OD i lo nc t 0 (by decide)
 all_goals exact OD i lo nc t 0 (by decide)
theorem agu{n b N:Nat}(hn:n<=b)(hb:b+N<=10000){l:List Sc}(MS: ∀ c,c∈l->Bu N c=true)(t:Int)(nc:Nat): ∀ c,c∈C4 n b l->pG 1 1 (n:Int) ((b - n+N:Nat):Int) nc t c=true:=by
 intro c hc
 unfold C4 at hc
 rcases List.mem_append.1 hc with hc|hc
 ·obtain⟨s,hs,rfl⟩:=List.mem_map.1 hc
  obtain⟨i,hi,rfl⟩:=List.mem_map.1 hs
  have:=List.mem_range.1 hi
  exact C9 hn hb t nc (k:=0) (a:=i) (.inl rfl) (by omega)
 ·rcases List.mem_append.1 hc with hc|hc
  ·obtain⟨s,hs,rfl⟩:=List.mem_map.1 hc
   have h:=MS s hs
   cases s with
   |g a=>exact C9 hn hb t nc (k:=b) (a:=a) (.inl rfl) (Nat.add_lt_add_left (Nat.le_of_ble_eq_true (h:Nat.ble (a+1) N=true)) b)
   |s a=>exact C9 hn hb t nc (k:=b) (a:=a) (.inr rfl) (Nat.add_lt_add_left (Nat.le_of_ble_eq_true (h:Nat.ble (a+1) N=true)) b)
   |k v=>exact agr _ _ _ _ _
   |o op=>exact agt h _ _ _ _
  ·obtain rfl:=List.mem_singleton.1 hc
   exact ags _ _ _ _
theorem Vp{n b:Nat}(l:List Sc):(C4 n b l).length=n+l.length+1:=by
 unfold C4;simp only[List.length_append,List.length_map,List.length_range,List.length_cons,List.length_nil];omega
theorem aa3{n o b N:Nat}(hn:n<=b)(hb:b+N<=4000)(hn6:n<=6)(ho:o<=2){l:List Sc}(hl:l.length<=10000)(MS: ∀ c,c∈l->Bu N c=true):
 Fits [(List.replicate n (126:Int),List.replicate o (126:Int))] [rq n o b N l]/\EI [(List.replicate n (126:Int),List.replicate o (126:Int))] [rq n o b N l]=true:=by
 have hlen:=Vp (n:=n) (b:=b) l
 refine⟨⟨(by decide:1<=1099511627776),(by decide:1<=1099511627776),fun s hs=>?_,fun f hf=>?_⟩,?_⟩
 ·obtain rfl:=List.mem_singleton.1 hs
  exact⟨by rw[List.length_replicate];omega,by rw[List.length_replicate];omega⟩
 ·obtain rfl:=List.mem_singleton.1 hf
  show(C4 n b l).length<=_
  omega
 ·have p: ∀ k,k<=6->Qm (List.replicate k (126:Int))=true:=by
   intro k hk
   obtain rfl|rfl|rfl|rfl|rfl|rfl|rfl:k=0∨k=1∨k=2∨k=3∨k=4∨k=5∨k=6:=by omega
   all_goals kernel_rfl
  have s:Va [(List.replicate n (126:Int),List.replicate o (126:Int))]=true:=by
   show(Qm (List.replicate n (126:Int))&&Qm (List.replicate o (126:Int))&&true)=true
   rw[p n hn6,p o (by omega)];rfl
  have hc:Gi [(List.replicate n (126:Int),List.replicate o (126:Int))] [rq n o b N l] (rq n o b N l)=true:=by
   unfold Gi
   rw[List.all_eq_true]
   intro j hj
   have hj:=List.mem_range.1 hj
   exact agu hn (by omega) MS (j:Int) (C4 n b l).length _ (wx hj (cE nd))
  have hb1:wV [(List.replicate n (126:Int),List.replicate o (126:Int))] (rq n o b N l)=false:=by
   have e:wV [(List.replicate n (126:Int),List.replicate o (126:Int))] (rq n o b N l)=bif decide (((b - n+N:Nat):Int)<0)then true else bif decide (4096<((b - n+N:Nat):Int))then true else true ^^ decide (0<((C4 n b l).length:Int)):=by kernel_rfl
   rw[e,df (by omega),df (by omega),dt (by omega)]
   rfl
  have ht:C1 (rq n o b N l) (List.replicate n (126:Int),List.replicate o (126:Int))=false:=by
   unfold C1
   show(bif !decide ((n:Int)=((List.replicate n (126:Int)).length:Int))then true else !decide ((o:Int)=((List.replicate o (126:Int)).length:Int)))=false
   rw[List.length_replicate,List.length_replicate,dt rfl,dt rfl]
   rfl
  have f:af4 [(List.replicate n (126:Int),List.replicate o (126:Int))] [rq n o b N l]=true:=by
   show(fnB [(List.replicate n (126:Int),List.replicate o (126:Int))] [rq n o b N l] (rq n o b N l)&&true)=true
   unfold fnB
   rw[hb1,cond_false,show [(List.replicate n (126:Int),List.replicate o (126:Int))].getD ((rq n o b N l).2.1:Int).toNat (cE mc)=(List.replicate n (126:Int),List.replicate o (126:Int))from rfl,ht,hc]
   rfl
  unfold EI
  rw[s,f];rfl
end Go.Proofs.Vq

noncomputable section
namespace Go.Proofs.Vq
open Go.Ab Go.Ab.Lf Go.Proofs.Sw
set_option maxRecDepth 1000000
theorem Vr(g:Cg){xs ys:List Nat}{b N:Nat}{l:List Sc}{nK:Nat->Nat}(n6:xs.length<=6)(o2:ys.length<=2)(hx: ∀ v,v∈xs->v<nh)(hn:xs.length<=b)(hb:b+N<=4000)(hl:l.length<=10000)(MS: ∀ c,c∈l->Bu N c=true)(hr:run l xs.reverse (fun _=>0)=some (ys.reverse,nK))
 (n:Int)(cs:List (den nd))(tn to:List Int)(loc:Int)(q:cf tG)(X:cf DL)(rj:cs.length<=6)(hq:q=(l.map (toC (b:Int)),(N:Int),0,()))
 (hX:X=([(List.replicate xs.length (126:Int),List.replicate ys.length (126:Int))],[rq xs.length ys.length b N l],tF (tB []) Ix (vE [] ⟨[],[],0⟩ ()))):
 aa2 (g1 g) n cs tn (toI xs) (toI ys) to loc q X=some (cq zq (true,())):=by
 obtain⟨F,P⟩:=aa3 hn hb n6 o2 hl MS
 obtain⟨a1,a2⟩:=aaL _ _ [] [] [] [] ⟨[],[],0⟩ false F (by decide:1<=549755813888) (by rw[P];rfl)
 subst hX
 obtain⟨r1,r2⟩:=run_seq g hx hn (by omega) hl MS hr (by omega) ⟨[(List.replicate xs.length (126:Int),List.replicate ys.length (126:Int))],[rq xs.length ys.length b N l],⟨[],[],[],[],mM⟩,⟨[],[],0⟩,mM,false⟩ rfl ys.length rfl rfl
 obtain⟨s1,s2⟩:=ago (toI ys) (by rw[show(toI ys).length=ys.length from List.length_map ..];omega)
 have lq:q.1.length=l.length:=by rw[hq];exact List.length_map ..
 have e0:q.2.2.1=0:=by rw[hq]
 have la:(app cs q.1).length=cs.length+q.1.length:=by rw[mP,List.length_append]
 unfold aa2
 rw[e0,dt rfl,rS (by decide) (show cs.length+q.1.length<=1099511627776 by omega),rS (by decide) (show(app cs q.1).length+1<=1099511627776 by omega),dt rfl,dt rfl]
 have a1:k22 ([(List.replicate xs.length (126:Int),List.replicate ys.length (126:Int))],[rq xs.length ys.length b N l],tF (tB []) Ix (vE [] ⟨[],[],0⟩ ()))=true:=a1
 have a2:m22 ([(List.replicate xs.length (126:Int),List.replicate ys.length (126:Int))],[rq xs.length ys.length b N l],tF (tB []) Ix (vE [] ⟨[],[],0⟩ ()))=_:=a2
 rw[a1,a2]
 have r1:k23 (g1 g) (Vo (qn [] ⟨[(List.replicate xs.length (126:Int),List.replicate ys.length (126:Int))],[rq xs.length ys.length b N l],⟨[],[],[],[],mM⟩,⟨[],[],0⟩,mM,false⟩ ()) (toI xs))=true:=r1
 have r2:m23 (g1 g) (Vo (qn [] ⟨[(List.replicate xs.length (126:Int),List.replicate ys.length (126:Int))],[rq xs.length ys.length b N l],⟨[],[],[],[],mM⟩,⟨[],[],0⟩,mM,false⟩ ()) (toI xs))=_:=r2
 show(bif !true then _ else cF true (cF true (cF (true&&true) (cF true (cF (k23 (g1 g) (Vo (qn [] ⟨[(List.replicate xs.length (126:Int),List.replicate ys.length (126:Int))],[rq xs.length ys.length b N l],⟨[],[],[],[],mM⟩,⟨[],[],0⟩,mM,false⟩ ()) (toI xs))) _)))))=_
 rw[r1,r2,dt rfl,s1,s2]
 rfl
end Go.Proofs.Vq

noncomputable section
namespace Go.Proofs.Sw
structure Wn(w p n:Nat):Prop extends Wd w p n where
 T:ac8 w=asG p n
 R:alh w=rest p n
 O:ali w=asH p n
 h:64 / w=n
 e: ∃ e,w=2 ^ e
 c:(w=8/\p=7/\n=8)∨(w=16/\p=15/\n=4)∨(w=32/\p=31/\n=2)∨(w=64/\p=63/\n=1)
end Go.Proofs.Sw

noncomputable section
namespace Go.Proofs.Sw
section
variable {w p n:Nat}(W:Wn w p n){al ah bl bh:Nat}(hal:al<nh)(hah:ah<nh)(Zw:bl<nh)(hbh:bh<nh)
include W hal hah Zw hbh
omit Zw hbh
end
end Go.Proofs.Sw

noncomputable section
namespace Go.Proofs.Sw
section
variable {w p n:Nat}(W:Wn w p n){al ah:Nat}(hal:al<nh)(hah:ah<nh)
include W hal hah
end
end Go.Proofs.Sw

noncomputable section
namespace Go.Proofs.Vq
open Go.Ab Go.Ab.Lf Go.Proofs.Sw
set_option maxRecDepth 1000000
theorem nO{x y:Nat}:By (cV [] (qa (x:Int) (y:Int)) ()) (rb x y):=⟨fun m hm=>by
 rw[wy _ hm]
 show(bif Nat.blt m 8 then cb .u8 (oP .u64 (x:Int) ((8*m:Nat):Int))else cb .u8 (oP .u64 (y:Int) ((8*(m - 8):Nat):Int)))=_
 unfold rb
 by_cases h:m<8
 ·rw[show Nat.blt m 8=true by unfold Nat.blt;exact Nat.ble_eq_true_of_le h,if_pos h,cond_true,Og (by omega),Vf];rfl
 ·rw[show Nat.blt m 8=false by
   unfold Nat.blt
   cases hq:Nat.ble (m+1) 8 with
   |false=>rfl
   |true=>exact absurd (Nat.le_of_ble_eq_true hq) h,if_neg h,cond_false,Og (by omega),Vf];rfl,Lb x y⟩
end Go.Proofs.Vq

noncomputable section
namespace Go.Proofs.Sw
def uo(a w i:Nat)(sd:Bool):List Sc:=.g a::(if w=64 then []else if sd then [.k (64 - w - w*i),.o 134,.k (64 - w),.o 135]else(if 0<i then [.k (w*i),.o 136]else [])++[.k (2 ^ w - 1),.o 131])
def xQ(w i:Nat):List Sc:=(if w<64 then [.k (2 ^ w - 1),.o 131]else [])++(if 0<i then [.k (w*i),.o 134,.o 132]else [])
def oM(w per:Nat)(one:Nat->List Sc):Nat->Nat->List Sc
 |0,_=>[]
 |k+1,i=>one i++(xQ w (i % per)++oM w per one k (i+1))
theorem zd(w:Nat): ∀ (n:Nat) (f:Nat->Nat),pk w (n+1) f=pk w n f+2 ^ (w*n)*f n
 |0,f=>by simp[pk]
 |n+1,f=>by
  have ih:=zd w n (fun i=>f (i+1))
  show f 0+2 ^ w*pk w (n+1) (fun i=>f (i+1))=f 0+2 ^ w*pk w n (fun i=>f (i+1))+2 ^ (w*(n+1))*f (n+1)
  rw[ih,Nat.mul_add,Nat.mul_succ,Nat.pow_add,Nat.mul_comm (2 ^ (w*n)) (2 ^ w),Nat.mul_assoc,Nat.add_assoc]
theorem aa4(x c n:Nat)(hx:x<2 ^ n):x ||| 2 ^ n*c=x+2 ^ n*c:=by
 rw[Nat.or_comm,<-Nat.two_pow_add_eq_or_of_lt hx,Nat.add_comm]
theorem vi:nh=2 ^ 64:=rfl
theorem Qt{w:Nat}(hw:w<=64){z:Nat}(hz:z<nh)(st:List Nat)(lo:Nat->Nat):run (xQ w 0) (z::st) lo=some (z % 2 ^ w::st,lo):=by
 unfold xQ
 by_cases h:w<64
 ·rw[if_pos h,if_neg (Nat.lt_irrefl 0)]
  show some ((z &&& (2 ^ w - 1))::st,lo)=_
  rw[Gg]
 ·rw[if_neg h,if_neg (Nat.lt_irrefl 0)]
  have:w=64:=by omega
  subst this
  show some (z::st,lo)=_
  rw[Nat.mod_eq_of_lt (by rw[<-vi];exact hz)]
theorem Vt{w i:Nat}(hi:0<i)(h0:0<w)(hw:w*(i+1)<=64){z acc:Nat}(ha:acc<2 ^ (w*i))(st:List Nat)(lo:Nat->Nat):run (xQ w i) (z::acc::st) lo=some ((acc+2 ^ (w*i)*(z % 2 ^ w))::st,lo):=by
 have hwi:w*i<64:=by rw[Nat.mul_succ]at hw;omega
 have atu:w<64:=by
  have:w*1<=w*i:=Nat.mul_le_mul_left _ hi
  omega
 unfold xQ
 rw[if_pos atu,if_pos hi]
 show some ((acc ||| 2 ^ (w*i % 64)*(z &&& (2 ^ w - 1)) % nh)::st,lo)=_
 rw[Gg,Nat.mod_eq_of_lt hwi]
 have h1:z % 2 ^ w<2 ^ w:=Nat.mod_lt _ (Nat.two_pow_pos w)
 have h2:2 ^ (w*i)*(z % 2 ^ w)<nh:=by
  have h3:2 ^ (w*i)*(z % 2 ^ w)<2 ^ (w*i)*2 ^ w:=(Nat.mul_lt_mul_left (Nat.two_pow_pos _)).2 h1
  rw[<-Nat.pow_add,<-Nat.mul_succ]at h3
  exact Nat.lt_of_lt_of_le h3 (by rw[vi];exact Nat.pow_le_pow_right (by decide) hw)
 rw[Nat.mod_eq_of_lt h2,aa4 _ _ _ ha]
theorem EL{w per b:Nat}{one:Nat->List Sc}{lo:Nat->Nat}{m:Nat}{a:Nat->Nat}(h0:0<w)(hp:w*per<=64)(hb: ∀ i,i<per->(b+i) % per=i)
 (h: ∀ i,i<per-> ∀ lo1:Nat->Nat,(∀ j,j<m->lo1 j=lo j)->Ev (one (b+i)) lo1 m fun z=>z<nh/\z % 2 ^ w=a i):
 ∀ (k i:Nat),0<i->i+k=per-> ∀ (st:List Nat) (lo1:Nat->Nat),(∀ j,j<m->lo1 j=lo j)-> ∃ nK,run (oM w per one k (b+i)) (pk w i a::st) lo1=some (pk w per a::st,nK)/\ ∀ j,j<m->nK j=lo j
 |0,i,_,hk,st,lo1,hl=>by
  obtain rfl:i=per:=by omega
  exact⟨lo1,rfl,hl⟩
 |k+1,i,hi,hk,st,lo1,hl=>by
  obtain⟨z,p',r,⟨_,hz⟩,JE⟩:=h i (by omega) lo1 hl (pk w i a::st)
  have Vu: ∀ j,j<m->p' j=lo j:=fun j hj=>(JE j hj).trans (hl j hj)
  have oI:pk w i a<2 ^ (w*i):=NX fun j hj=>by
   obtain⟨z,_,_,⟨_,hz⟩,_⟩:=h j (by omega) lo (fun _ _=>rfl) []
   rw[<-hz]
   exact Nat.mod_lt _ (Nat.two_pow_pos w)
  have hw:w*(i+1)<=64:=Nat.le_trans (Nat.mul_le_mul_left _ (by omega)) hp
  have r2:=Vt (z:=z) hi h0 hw oI st p'
  obtain⟨Bw,r4,hl4⟩:=EL h0 hp hb h k (i+1) (Nat.succ_pos _) (by omega) st p' Vu
  refine⟨Bw,?_,hl4⟩
  show run (one (b+i)++(xQ w ((b+i) % per)++oM w per one k (b+i+1))) (pk w i a::st) lo1=_
  rw[oA _ _ _ _ r,hb i (by omega),oA _ _ _ _ r2,hz,<-zd]
  exact r4
theorem IP{w per b:Nat}{one:Nat->List Sc}{lo:Nat->Nat}{m:Nat}{a:Nat->Nat}(h0:0<w)(h1:0<per)(hp:w*per<=64)(hb: ∀ i,i<per->(b+i) % per=i)
 (h: ∀ i,i<per-> ∀ lo1:Nat->Nat,(∀ j,j<m->lo1 j=lo j)->Ev (one (b+i)) lo1 m fun z=>z<nh/\z % 2 ^ w=a i):Ev (oM w per one per b) lo m fun z=>z=pk w per a:=fun st=>by
 obtain⟨k,rfl⟩: ∃ k,per=k+1:=⟨per - 1,by omega⟩
 obtain⟨z,p',r,⟨hz0,hz⟩,JE⟩:=h 0 (by omega) lo (fun _ _=>rfl) st
 have hw:w<=64:=Nat.le_trans (by have:=Nat.mul_le_mul_left w h1;rwa [Nat.mul_one]at this) hp
 have r2:=Qt hw hz0 st p'
 obtain⟨Bw,r4,hl4⟩:=EL h0 hp hb h k 1 (by decide) (by omega) st p' JE
 refine⟨_,Bw,?_,rfl,hl4⟩
 show run (one b++(xQ w (b % (k+1))++oM w (k+1) one k (b+1))) st lo=_
 have hb0:=hb 0 (by omega)
 rw[Nat.add_zero]at hb0 r
 rw[oA _ _ _ _ r,hb0,oA _ _ _ _ r2,hz]
 have e:pk w 1 a=a 0:=by simp[pk]
 rw[<-e]
 exact r4
theorem EM(w per:Nat)(one:Nat->List Sc): ∀ (k l i:Nat),oM w per one (k+l) i=oM w per one k i++oM w per one l (i+k)
 |0,l,i=>by rw[Nat.zero_add];rfl
 |k+1,l,i=>by
  rw[show k+1+l=(k+l)+1 by omega]
  show one i++(xQ w (i % per)++oM w per one (k+l) (i+1))=(one i++(xQ w (i % per)++oM w per one k (i+1)))++oM w per one l (i+(k+1))
  rw[EM w per one k l (i+1),show i+1+k=i+(k+1) by omega]
  simp only[List.append_assoc]
theorem Da{w per:Nat}{one:Nat->List Sc}{lo:Nat->Nat}{m:Nat}{a:Nat->Nat}(h0:0<w)(h1:0<per)(hp:w*per<=64)
 (h: ∀ i,i<2*per-> ∀ lo1:Nat->Nat,(∀ j,j<m->lo1 j=lo j)->Ev (one i) lo1 m fun z=>z<nh/\z % 2 ^ w=a i)(st:List Nat):
 ∃ nK,run (oM w per one (2*per) 0) st lo=some (pk w per (fun i=>a (per+i))::pk w per a::st,nK):=by
 obtain⟨z1,lo1,r1,e1,l1⟩:=IP (one:=one) (b:=0) (a:=a) (lo:=lo) (m:=m) h0 h1 hp (fun i hi=>by rw[Nat.zero_add];exact Nat.mod_eq_of_lt hi) (fun i hi lo1 hl=>by rw[Nat.zero_add];exact h i (by omega) lo1 hl) st
 obtain⟨z2,p',r2,e2,l2⟩:=IP (one:=one) (b:=per) (a:=fun i=>a (per+i)) (lo:=lo1) (m:=m) h0 h1 hp (fun i hi=>by rw[Nat.add_mod_left];exact Nat.mod_eq_of_lt hi) (fun i hi lo3 hl=>h (per+i) (by omega) lo3 fun j hj=>(hl j hj).trans (l1 j hj)) (z1::st)
 refine⟨p',?_⟩
 rw[Nat.two_mul,EM,oA _ _ _ _ r1,Nat.zero_add,r2,e1,e2]
end Go.Proofs.Sw

noncomputable section
namespace Go.Proofs.Sw
def nz(x:Int):Nat:=(x % 18446744073709551616).toNat
theorem alk(x:Int):nz x<nh:=by
 unfold nz
 have h1:=Int.emod_lt_of_pos x (show(0:Int)<18446744073709551616 by decide)
 have h2:=Int.emod_nonneg x (show(18446744073709551616:Int)≠0 by decide)
 show(x % 18446744073709551616).toNat<18446744073709551616
 omega
theorem xR(x:Int):((nz x:Nat):Int)=x % 18446744073709551616:=Int.toNat_of_nonneg (Int.emod_nonneg x (by decide))
theorem Db{n:Nat}(h:n<nh):nz (n:Int)=n:=by
 unfold nz
 have:(n:Int) % 18446744073709551616=n:=Int.emod_eq_of_lt (by omega) (by have:n<18446744073709551616:=h;omega)
 rw[this];rfl
theorem ac'{z:Nat}{x:Int}(h:(z:Int) % 18446744073709551616=x % 18446744073709551616)(hz:z<nh):z=nz x:=by
 rw[<-Db hz]
 unfold nz
 rw[h]
theorem Ld(x y:Int):(nz x+nz y) % nh=nz (x+y):=by
 refine ac' ?_ (Nat.mod_lt _ (by decide))
 rw[Int.natCast_emod,Int.natCast_add,xR,xR]
 show(x % 18446744073709551616+y % 18446744073709551616) % 18446744073709551616 % 18446744073709551616=_
 rw[Int.emod_emod_of_dvd _ (Int.dvd_refl _),<-Int.add_emod]
theorem Vv(x y:Int):nz x*nz y % nh=nz (x*y):=by
 refine ac' ?_ (Nat.mod_lt _ (by decide))
 rw[Int.natCast_emod,Int.natCast_mul,xR,xR]
 show(x % 18446744073709551616*(y % 18446744073709551616)) % 18446744073709551616 % 18446744073709551616=_
 rw[Int.emod_emod_of_dvd _ (Int.dvd_refl _),<-Int.mul_emod]
theorem Le(x:Int){W:Nat}(h:W<=64):nz x % 2 ^ W=(x % ((2 ^ W:Nat):Int)).toNat:=by
 have e:((nz x % 2 ^ W:Nat):Int)=x % ((2 ^ W:Nat):Int):=by
  rw[Int.natCast_emod,xR]
  refine Int.emod_emod_of_dvd _ ?_
  rw[show(18446744073709551616:Int)=((2 ^ 64:Nat):Int)from rfl]
  exact Int.natCast_dvd_natCast.2 (Nat.pow_dvd_pow 2 h)
 rw[<-e];rfl
theorem Dc{x:Int}(h0: -9223372036854775808<=x)(h1:x<9223372036854775808):xO (nz x)=x:=by
 unfold xO nz
 by_cases h:0<=x
 ·have e:x % 18446744073709551616=x:=Int.emod_eq_of_lt h (by omega)
  rw[e,if_pos (by omega)];omega
 ·have e:x % 18446744073709551616=x+18446744073709551616:=by omega
  rw[e,if_neg (by omega)];omega
def iv(w:Nat)(sd:Bool)(v:Nat):Int:=if sd then sw (w - 1) v else(v:Int)
theorem Vw{w i a m:Nat}{lo:Nat->Nat}(h0:0<w)(hw:w*(i+1)<=64)(Q3:w<64):Ev (uo a w i false) lo m fun z=>z=ln w (lo a) i:=fun st=>by
 have hwi:w*i<64:=by rw[Nat.mul_succ]at hw;omega
 refine⟨_,lo,?_,rfl,fun _ _=>rfl⟩
 unfold uo
 rw[if_neg (by omega)]
 by_cases hi:0<i
 ·rw[if_pos hi]
  show some ((lo a / 2 ^ (w*i % 64) &&& (2 ^ w - 1))::st,lo)=_
  rw[Gg,Nat.mod_eq_of_lt hwi]
  rfl
 ·rw[if_neg hi]
  obtain rfl:i=0:=by omega
  show some ((lo a &&& (2 ^ w - 1))::st,lo)=_
  rw[Gg]
  unfold ln
  rw[Nat.mul_zero,Nat.pow_zero,Nat.div_one]
theorem alm{w i x:Nat}(h0:0<w)(hw:w*(i+1)<=64):xO (2 ^ (64 - w - w*i)*x % nh) / ((2 ^ (64 - w):Nat):Int)=sw (w - 1) (ln w x i):=by
 have hs:64 - w - w*i+w*(i+1)=64:=by rw[Nat.mul_succ]at hw ⊢;omega
 have hs2:64 - w - w*i+w*i=64 - w:=by rw[Nat.mul_succ]at hw;omega
 generalize hS:64 - w - w*i=s at*
 have e1:2 ^ s*x % nh=2 ^ s*(x % 2 ^ (w*(i+1))):=by
  rw[vi,<-hs,Nat.pow_add,Nat.mul_mod_mul_left]
 have e2:x % 2 ^ (w*(i+1))=ln w x i*2 ^ (w*i)+x % 2 ^ (w*i):=by
  unfold ln
  rw[Nat.mul_succ,Nat.pow_add,Nat.mod_mul,Nat.mul_comm (2 ^ (w*i)),Nat.add_comm]
 have hr:x % 2 ^ (w*i)<2 ^ (w*i):=Nat.mod_lt _ (Nat.two_pow_pos _)
 have ht:2 ^ s*(x % 2 ^ (w*i))<2 ^ (64 - w):=by
  rw[<-hs2,Nat.pow_add]
  exact(Nat.mul_lt_mul_left (Nat.two_pow_pos _)).2 hr
 have e3:2 ^ s*x % nh=ln w x i*2 ^ (64 - w)+2 ^ s*(x % 2 ^ (w*i)):=by
  rw[e1,e2,Nat.mul_add,<-hs2,Nat.pow_add,Nat.mul_left_comm]
 rw[e3]
 generalize 2 ^ s*(x % 2 ^ (w*i))=t at ht
 have hl:ln w x i<2 ^ w:=ry _ _
 generalize ln w x i=v at hl
 have hw1:w<=64:=by rw[Nat.mul_succ]at hw;omega
 have hp:2 ^ (w - 1)*2 ^ (64 - w)=9223372036854775808:=by rw[<-Nat.pow_add,show w - 1+(64 - w)=63 by omega]
 have hp2:2 ^ (w - 1+1)*2 ^ (64 - w)=18446744073709551616:=by rw[<-Nat.pow_add,show w - 1+1+(64 - w)=64 by omega]
 generalize 2 ^ (64 - w)=D at*
 have hD:0<D:=by omega
 unfold xO sw
 by_cases hv:v<2 ^ (w - 1)
 ·have h1:v*D+D<=2 ^ (w - 1)*D:=by rw[<-Nat.succ_mul];exact Nat.mul_le_mul_right _ hv
  rw[if_pos hv,if_pos (by omega)]
  have e:((v*D+t:Nat):Int) / (D:Int)=((v*D+t) / D:Nat):=(Int.natCast_ediv _ _).symm
  rw[e,Nat.add_comm,Nat.add_mul_div_right _ _ hD,Nat.div_eq_of_lt ht,Nat.zero_add]
 ·have h1:2 ^ (w - 1)*D<=v*D:=Nat.mul_le_mul_right _ (Nat.le_of_not_lt hv)
  rw[if_neg hv,if_neg (by omega)]
  have e:((v*D+t:Nat):Int) - 18446744073709551616=(t:Int)+((v:Int) - (2 ^ (w - 1+1):Nat))*(D:Int):=by
   rw[Int.sub_mul,<-Int.natCast_mul,<-Int.natCast_mul,hp2]
   omega
  rw[e,Int.add_mul_ediv_right _ _ (by omega)]
  have:(t:Int) / (D:Int)=0:=Int.ediv_eq_zero_of_lt (by omega) (by omega)
  omega
theorem aln{w i a m:Nat}{lo:Nat->Nat}(h0:0<w)(hw:w*(i+1)<=64)(Q3:w<64):Ev (uo a w i true) lo m fun z=>z=nz (sw (w - 1) (ln w (lo a) i)):=fun st=>by
 refine⟨_,lo,?_,rfl,fun _ _=>rfl⟩
 unfold uo
 rw[if_neg (by omega),if_pos rfl]
 show some (((xO (2 ^ ((64 - w - w*i) % 64)*lo a % nh) / ((2 ^ ((64 - w) % 64):Nat):Int)) % 18446744073709551616).toNat::st,lo)=_
 rw[Nat.mod_eq_of_lt (show 64 - w - w*i<64 by omega),Nat.mod_eq_of_lt (show 64 - w<64 by omega),alm h0 hw]
 rfl
theorem Vx{w i a m:Nat}{lo:Nat->Nat}(sd:Bool)(h0:0<w)(hw:w*(i+1)<=64)(Q3:w<64):Ev (uo a w i sd) lo m fun z=>z=nz (iv w sd (ln w (lo a) i)):=by
 cases sd with
 |true=>exact aln h0 hw Q3
 |false=>
  refine(Vw h0 hw Q3).imp fun z hz=>?_
  rw[hz]
  refine(Db ?_).symm
  exact Nat.lt_of_lt_of_le (ry _ _) (by rw[vi];exact Nat.pow_le_pow_right (by decide) (by omega))
end Go.Proofs.Sw

noncomputable section
namespace Go.Proofs.Sw
variable {w n m:Nat}
def l2(w x y i:Nat):Nat:=if i<64 / w then ln w x i else ln w y (i - 64 / w)
def EN(vec w i:Nat)(sd:Bool):List Sc:=uo (vec+i / (64 / w)) w (i % (64 / w)) sd
structure Wp(w:Nat):Prop where
 q:w=8∨w=16∨w=32
theorem Wp.f(h:Wp w):0<w/\w<64/\0<64 / w/\w*(64 / w)=64/\2*w<=64/\64 / w=2*(64 / (2*w))/\0<64 / (2*w)/\2*w*(64 / (2*w))=64:=by
 rcases h.q with rfl|rfl|rfl<;>decide
theorem wz(W:Wp w){vec i m:Nat}{lo lo1:Nat->Nat}(sd:Bool)(hi:i<2*(64 / w))(hm:vec+1<m)(hl: ∀ j,j<m->lo1 j=lo j):Ev (EN vec w i sd) lo1 m fun z=>z=nz (iv w sd (l2 w (lo vec) (lo (vec+1)) i)):=by
 obtain⟨h0,Q3,hp,hpw,_⟩:=W.f
 have MG:i % (64 / w)<64 / w:=Nat.mod_lt _ hp
 have hw:w*(i % (64 / w)+1)<=64:=Nat.le_trans (Nat.mul_le_mul_left w MG) (Nat.le_of_eq hpw)
 unfold EN l2
 rw[<-hl vec (by omega),<-hl (vec+1) hm]
 by_cases h:i<64 / w
 ·rw[Nat.div_eq_of_lt h,Nat.add_zero,if_pos h,Nat.mod_eq_of_lt h]
  exact Vx sd h0 (by rw[Nat.mod_eq_of_lt h]at hw;exact hw) Q3
 ·have e:i / (64 / w)=1:=by
   refine(Nat.div_eq_iff hp).2 ?_
   omega
  have e2:i % (64 / w)=i - 64 / w:=by
   rw[Nat.mod_eq_sub_mod (by omega),Nat.mod_eq_of_lt (by omega)]
  rw[e,if_neg h,e2]
  exact Vx sd h0 (by rw[e2]at hw;exact hw) Q3
theorem Ev.two{c d o:List Sc}{lo:Nat->Nat}{P Q R:Nat->Prop}(h:Ev c lo m P)(k: ∀ lo1:Nat->Nat,(∀ j,j<m->lo1 j=lo j)->Ev d lo1 m Q)(ho: ∀ x y,P x->Q y-> ∀ st lo1,∃ z,run o (y::x::st) lo1=some (z::st,lo1)/\R z):Ev (c++(d++o)) lo m R:=fun st=>by
 obtain⟨x,lo1,r1,p1,l1⟩:=h st
 obtain⟨y,p',r2,p2,l2⟩:=k lo1 l1 (x::st)
 obtain⟨z,r3,p3⟩:=ho x y p1 p2 st p'
 exact⟨z,p',by rw[oA _ _ _ _ r1,oA _ _ _ _ r2,r3],p3,fun j hj=>(l2 j hj).trans (l1 j hj)⟩
theorem Vz(x y:Int)(st:List Nat)(lo:Nat->Nat):run [.o 124] (nz y::nz x::st) lo=some (nz (x+y)::st,lo):=by
 show some ((nz x+nz y) % nh::st,lo)=_
 rw[Ld]
theorem Lg(x y:Int)(st:List Nat)(lo:Nat->Nat):run [.o 126] (nz y::nz x::st) lo=some (nz (x*y)::st,lo):=by
 show some ((nz x*nz y % nh)::st,lo)=_
 rw[Vv]
theorem aa5{W per:Nat}{one:Nat->List Sc}{lo:Nat->Nat}{f:Nat->Int}(h0:0<W)(h1:0<per)(hp:W*per=64)(h: ∀ i,i<2*per-> ∀ lo1:Nat->Nat,(∀ j,j<m->lo1 j=lo j)->Ev (one i) lo1 m fun z=>z=nz (f i))(st:List Nat):
 ∃ nK,run (oM W per one (2*per) 0) st lo=some (pk W per (fun i=>(f (per+i) % ((2 ^ W:Nat):Int)).toNat)::pk W per (fun i=>(f i % ((2 ^ W:Nat):Int)).toNat)::st,nK):=by
 refine Da (a:=fun i=>(f i % ((2 ^ W:Nat):Int)).toNat) h0 h1 (Nat.le_of_eq hp) (fun i hi lo1 hl=>(h i hi lo1 hl).imp fun z hz=>?_) st
 have hW:W<=64:=by
  have:=Nat.mul_le_mul_left W h1
  omega
 rw[hz]
 exact⟨alk _,Le _ hW⟩
def qJ(W:Nat)(f:Nat->Int):List Nat:=[pk W (64 / W) (fun i=>(f (64 / W+i) % ((2 ^ W:Nat):Int)).toNat),pk W (64 / W) (fun i=>(f i % ((2 ^ W:Nat):Int)).toNat)]
def p'(x0 x1:Nat):Nat->Nat:=rh (rh (fun _=>0) 1 x1) 0 x0
def Bw(x0 x1 x2 x3:Nat):Nat->Nat:=rh (rh (rh (rh (fun _=>0) 3 x3) 2 x2) 1 x1) 0 x0
theorem sv2(c:List Sc)(x0 x1:Nat):run ([.s 1,.s 0]++c) [x1,x0] (fun _=>0)=run c [] (p' x0 x1):=rfl
theorem sv4(c:List Sc)(x0 x1 x2 x3:Nat):run ([.s 3,.s 2,.s 1,.s 0]++c) [x3,x2,x1,x0] (fun _=>0)=run c [] (Bw x0 x1 x2 x3):=rfl
theorem Ai{W m:Nat}{one:Nat->List Sc}{lo:Nat->Nat}{f:Nat->Int}(h0:0<W)(h1:0<64 / W)(hp:W*(64 / W)=64)(h: ∀ i,i<2*(64 / W)-> ∀ lo1:Nat->Nat,(∀ j,j<m->lo1 j=lo j)->Ev (one i) lo1 m fun z=>z=nz (f i)):
 ∃ nK,run (oM W (64 / W) one (2*(64 / W)) 0) [] lo=some (qJ W f,nK):=aa5 h0 h1 hp h []
def VA(w:Nat)(sd:Bool):List Sc:=[.s 1,.s 0]++oM (2*w) (64 / (2*w)) (fun i=>EN 0 w (2*i) sd++(EN 0 w (2*i+1) sd++[.o 124])) (2*(64 / (2*w))) 0
theorem agw(W:Wp w)(sd:Bool)(x0 x1:Nat): ∃ nK,run (VA w sd) [x1,x0] (fun _=>0)=some (qJ (2*w) (fun i=>iv w sd (l2 w x0 x1 (2*i))+iv w sd (l2 w x0 x1 (2*i+1))),nK):=by
 obtain⟨h0,Q3,hp,hpw,h2,hq,hq0,hqw⟩:=W.f
 unfold VA
 rw[sv2]
 refine Ai (m:=2) (by omega) hq0 hqw fun i hi lo1 hl=>?_
 refine Ev.two (wz W (lo:=p' x0 x1) sd (by omega) (by decide) hl) (fun lo3 Vu=>wz W (lo:=p' x0 x1) sd (by omega) (by decide) fun j hj=>(Vu j hj).trans (hl j hj)) fun x y hx hy st Bw=>?_
 subst hx;subst hy
 exact⟨_,Vz _ _ _ _,rfl⟩
def agx(w:Nat)(sd:Bool)(b:Nat):List Sc:=[.s 1,.s 0]++oM (2*w) (64 / (2*w)) (fun i=>EN 0 w (i+b*(64 / w)) sd) (2*(64 / (2*w))) 0
theorem alq(W:Wp w)(sd:Bool){b:Nat}(hb:b<2)(x0 x1:Nat): ∃ nK,run (agx w sd b) [x1,x0] (fun _=>0)=some (qJ (2*w) (fun i=>iv w sd (l2 w x0 x1 (i+b*(64 / w)))),nK):=by
 obtain⟨h0,Q3,hp,hpw,h2,hq,hq0,hqw⟩:=W.f
 unfold agx
 rw[sv2]
 refine Ai (m:=2) (by omega) hq0 hqw fun i hi lo1 hl=>?_
 have:b=0∨b=1:=by omega
 exact wz W (lo:=p' x0 x1) sd (by rcases this with rfl|rfl<;>omega) (by decide) hl
def agy(w:Nat)(sd:Bool)(b:Nat):List Sc:=[.s 3,.s 2,.s 1,.s 0]++oM (2*w) (64 / (2*w)) (fun i=>EN 0 w (i+b*(64 / w)) sd++(EN 2 w (i+b*(64 / w)) sd++[.o 126])) (2*(64 / (2*w))) 0
theorem alr(W:Wp w)(sd:Bool){b:Nat}(hb:b<2)(x0 x1 x2 x3:Nat): ∃ nK,run (agy w sd b) [x3,x2,x1,x0] (fun _=>0)=some (qJ (2*w) (fun i=>iv w sd (l2 w x0 x1 (i+b*(64 / w)))*iv w sd (l2 w x2 x3 (i+b*(64 / w)))),nK):=by
 obtain⟨h0,Q3,hp,hpw,h2,hq,hq0,hqw⟩:=W.f
 unfold agy
 rw[sv4]
 refine Ai (m:=4) (by omega) hq0 hqw fun i hi lo1 hl=>?_
 have:b=0∨b=1:=by omega
 have hb:i+b*(64 / w)<2*(64 / w):=by rcases this with rfl|rfl<;>omega
 refine Ev.two (wz W (vec:=0) (lo:=Bw x0 x1 x2 x3) sd hb (by decide) hl) (fun lo3 Vu=>wz W (vec:=2) (lo:=Bw x0 x1 x2 x3) sd hb (by decide) fun j hj=>(Vu j hj).trans (hl j hj)) fun x y hx hy st Bw=>?_
 subst hx;subst hy
 exact⟨_,Lg _ _ _ _,rfl⟩
def agz:List Sc:=[.s 3,.s 2,.s 1,.s 0]++oM 32 2 (fun i=>(EN 0 16 (2*i) true++(EN 2 16 (2*i) true++[.o 126]))++((EN 0 16 (2*i+1) true++(EN 2 16 (2*i+1) true++[.o 126]))++[.o 124])) 4 0
theorem alu(x0 x1 x2 x3:Nat): ∃ nK,run agz [x3,x2,x1,x0] (fun _=>0)=some (qJ 32 (fun i=>iv 16 true (l2 16 x0 x1 (2*i))*iv 16 true (l2 16 x2 x3 (2*i))+iv 16 true (l2 16 x0 x1 (2*i+1))*iv 16 true (l2 16 x2 x3 (2*i+1))),nK):=by
 have W:Wp 16:=⟨.inr (.inl rfl)⟩
 unfold agz
 rw[sv4]
 refine Ai (W:=32) (m:=4) (by decide) (by decide) (by decide) fun i hi lo1 hl=>?_
 have pr: ∀ k,k<8-> ∀ p':Nat->Nat,(∀ j,j<4->p' j=Bw x0 x1 x2 x3 j)->Ev (EN 0 16 k true++(EN 2 16 k true++[.o 126])) p' 4 fun z=>z=nz (iv 16 true (l2 16 x0 x1 k)*iv 16 true (l2 16 x2 x3 k)):=fun k hk p' JE=>by
  refine Ev.two (wz W (vec:=0) (lo:=Bw x0 x1 x2 x3) true hk (by decide) JE) (fun lo3 Vu=>wz W (vec:=2) (lo:=Bw x0 x1 x2 x3) true hk (by decide) fun j hj=>(Vu j hj).trans (JE j hj)) fun x y hx hy st Bw=>?_
  subst hx;subst hy
  exact⟨_,Lg _ _ _ _,rfl⟩
 have hi:i<4:=hi
 refine Ev.two (pr (2*i) (by omega) lo1 hl) (fun lo3 Vu=>pr (2*i+1) (by omega) lo3 fun j hj=>(Vu j hj).trans (hl j hj)) fun x y hx hy st Bw=>?_
 subst hx;subst hy
 exact⟨_,Vz _ _ _ _,rfl⟩
def OE(t:Nat)(n:Nat):List Sc:=[.s t,.g t,.k n,.g t,.k n,.o 83,.o 27]
def Lh(t:Nat)(n:Nat):List Sc:=[.s t,.g t,.k n,.g t,.k n,.o 85,.o 27]
theorem VB(c:Bool)(a b:Nat)(st:List Nat):JD 27 (Q2 c::b::a::st)=some ((if c then a else b)::st):=by
 cases c<;>rfl
theorem OG{c:List Sc}{lo:Nat->Nat}{t:Nat}{x N:Int}(ht:m<=t)(x0: -9223372036854775808<=x)(x1:x<9223372036854775808)(n0: -9223372036854775808<=N)(n1:N<9223372036854775808)(h:Ev c lo m fun z=>z=nz x):Ev (c++OE t (nz N)) lo m fun z=>z=nz (min x N):=fun st=>by
 obtain⟨z,lo1,r,rfl,hl⟩:=h st
 refine⟨_,rh lo1 t (nz x),?_,rfl,fun j hj=>by rw[rB _ _ (by omega)];exact hl j hj⟩
 rw[oA _ _ _ _ r]
 show(match JD 27 (Q2 (decide (xO (rh lo1 t (nz x) t)<xO (nz N)))::nz N::rh lo1 t (nz x) t::st)with|some st=>some (st,rh lo1 t (nz x))|none=>none)=_
 rw[qk,VB,Dc x0 x1,Dc n0 n1]
 by_cases h:x<N
 ·rw[decide_eq_true h,Int.min_eq_left (by omega)];rfl
 ·rw[decide_eq_false h,Int.min_eq_right (by omega)];rfl
theorem VC{c:List Sc}{lo:Nat->Nat}{t:Nat}{x N:Int}(ht:m<=t)(x0: -9223372036854775808<=x)(x1:x<9223372036854775808)(n0: -9223372036854775808<=N)(n1:N<9223372036854775808)(h:Ev c lo m fun z=>z=nz x):Ev (c++Lh t (nz N)) lo m fun z=>z=nz (max x N):=fun st=>by
 obtain⟨z,lo1,r,rfl,hl⟩:=h st
 refine⟨_,rh lo1 t (nz x),?_,rfl,fun j hj=>by rw[rB _ _ (by omega)];exact hl j hj⟩
 rw[oA _ _ _ _ r]
 show(match JD 27 (Q2 (decide (xO (nz N)<xO (rh lo1 t (nz x) t)))::nz N::rh lo1 t (nz x) t::st)with|some st=>some (st,rh lo1 t (nz x))|none=>none)=_
 rw[qk,VB,Dc x0 x1,Dc n0 n1]
 by_cases h:N<x
 ·rw[decide_eq_true h,Int.max_eq_left (by omega)];rfl
 ·rw[decide_eq_false h,Int.max_eq_right (by omega)];rfl
end Go.Proofs.Sw

noncomputable section
namespace Go.Proofs.Sw
variable {w n m:Nat}
theorem Dd{p a:Nat}(hp:p<63)(h:a<2 ^ (p+1)): -(2 ^ p:Nat)<=sw p a/\sw p a<(2 ^ p:Nat):=by
 unfold sw
 have:2 ^ (p+1)=2*2 ^ p:=p2 p
 split<;>omega
def agA(w:Nat)(lo hi:Int):List Sc:=[.s 3,.s 2,.s 1,.s 0]++oM w (64 / w) (fun i=>(EN (2*(i / (64 / w))) (2*w) (i % (64 / w)) true++Lh 4 (nz lo))++OE 5 (nz hi)) (2*(64 / w)) 0
theorem AB(w x y i:Nat):l2 w x y i<2 ^ w:=by unfold l2;split<;>exact ry _ _
theorem OH(W:Wp (2*w)){lo hi:Int}(Q3:2*w - 1<63)(l0: -9223372036854775808<=lo)(l1:lo<9223372036854775808)(h0: -9223372036854775808<=hi)(h1:hi<9223372036854775808){L lo1:Nat->Nat}(hl: ∀ j,j<4->lo1 j=L j){vec k v:Nat}(hv:vec+1<4)(hk:k<2*(64 / (2*w)))(e:l2 (2*w) (L vec) (L (vec+1)) k=v):
 Ev ((EN vec (2*w) k true++Lh 4 (nz lo))++OE 5 (nz hi)) lo1 4 fun z=>z=nz (min (max (iv (2*w) true v) lo) hi):=by
 have g:=wz W (lo:=L) (lo1:=lo1) (m:=4) true hk hv hl
 rw[e]at g
 have oI:v<2 ^ (2*w - 1+1):=by
  have:=W.f.1
  rw[<-e,show 2*w - 1+1=2*w by omega]
  exact AB _ _ _ _
 have r:=Dd Q3 oI
 have hp:2 ^ (2*w - 1)<=2 ^ 62:=Nat.pow_le_pow_right (by decide) (by omega)
 have e62:(2 ^ 62:Nat)=4611686018427387904:=by decide
 rw[e62]at hp
 have ei:iv (2*w) true v=sw (2*w - 1) v:=rfl
 rw[ei]at g ⊢
 generalize sw (2*w - 1) v=x at*
 have r1: -9223372036854775808<=x:=by omega
 have r2:x<9223372036854775808:=by omega
 have g2:=VC (t:=4) (Nat.le_refl 4) r1 r2 l0 l1 g
 exact OG (t:=5) (by decide) (Int.le_trans l0 (Int.le_max_right _ _)) (Int.max_lt.2 ⟨r2,l1⟩) h0 h1 g2
theorem alv{lo hi:Int}(hw:w=8∨w=16)(l0: -9223372036854775808<=lo)(l1:lo<9223372036854775808)(h0: -9223372036854775808<=hi)(h1:hi<9223372036854775808)(x0 x1 x2 x3:Nat):
 ∃ nK,run (agA w lo hi) [x3,x2,x1,x0] (fun _=>0)=some (qJ w (fun i=>min (max (iv (2*w) true (if i<64 / w then l2 (2*w) x0 x1 i else l2 (2*w) x2 x3 (i - 64 / w))) lo) hi),nK):=by
 have W:Wp (2*w):=⟨by rcases hw with rfl|rfl<;>decide⟩
 have hq:0<64 / w/\w*(64 / w)=64/\0<w/\64 / w=2*(64 / (2*w))/\2*w - 1<63:=by rcases hw with rfl|rfl<;>decide
 obtain⟨q1,q2,q3,q4,q5⟩:=hq
 unfold agA
 rw[sv4]
 refine Ai (m:=4) q3 q1 q2 fun i hi lo1 hl=>?_
 by_cases h:i<64 / w
 ·rw[if_pos h,Nat.div_eq_of_lt h,Nat.mod_eq_of_lt h]
  exact OH W q5 l0 l1 h0 h1 hl (vec:=2*0) (by decide) (by omega) rfl
 ·have e:i / (64 / w)=1:=(Nat.div_eq_iff q1).2 (by omega)
  have e2:i % (64 / w)=i - 64 / w:=by rw[Nat.mod_eq_sub_mod (by omega),Nat.mod_eq_of_lt (by omega)]
  rw[if_neg h,e,e2]
  exact OH W q5 l0 l1 h0 h1 hl (vec:=2*1) (by decide) (by omega) rfl
def agB:List Sc:=[.s 3,.s 2,.s 1,.s 0]++oM 16 4 (fun i=>((EN 0 16 i true++(EN 2 16 i true++[.o 126]))++[.k 16384,.o 124,.k 15,.o 135])++OE (4+i) (nz 32767)) 8 0
theorem alw(x0 x1 x2 x3:Nat): ∃ nK,run agB [x3,x2,x1,x0] (fun _=>0)=some (qJ 16 (fun i=>min ((iv 16 true (l2 16 x0 x1 i)*iv 16 true (l2 16 x2 x3 i)+16384) / 32768) 32767),nK):=by
 have W:Wp 16:=⟨.inr (.inl rfl)⟩
 unfold agB
 rw[sv4]
 refine Ai (W:=16) (m:=4) (by decide) (by decide) (by decide) fun i hi lo1 hl=>?_
 have hi:i<8:=hi
 have a1:=Dd (p:=15) (by decide) (AB 16 x0 x1 i)
 have a2:=Dd (p:=15) (by decide) (AB 16 x2 x3 i)
 have e1:iv 16 true (l2 16 x0 x1 i)=sw 15 (l2 16 x0 x1 i):=rfl
 have e2:iv 16 true (l2 16 x2 x3 i)=sw 15 (l2 16 x2 x3 i):=rfl
 have pr:Ev (EN 0 16 i true++(EN 2 16 i true++[.o 126])) lo1 4 fun z=>z=nz (iv 16 true (l2 16 x0 x1 i)*iv 16 true (l2 16 x2 x3 i)):=by
  refine Ev.two (wz W (vec:=0) (lo:=Bw x0 x1 x2 x3) true hi (by decide) hl) (fun lo3 Vu=>wz W (vec:=2) (lo:=Bw x0 x1 x2 x3) true hi (by decide) fun j hj=>(Vu j hj).trans (hl j hj)) fun x y hx hy st Bw=>?_
  subst hx;subst hy
  exact⟨_,Lg _ _ _ _,rfl⟩
 rw[e1,e2]at pr ⊢
 generalize sw 15 (l2 16 x0 x1 i)=x at*
 generalize sw 15 (l2 16 x2 x3 i)=y at*
 have c15:((2 ^ 15:Nat):Int)=32768:=by decide
 rw[c15]at a1 a2
 have b1: -1073741824<=x*y/\x*y<=1073741824:=by
  have hx:x.natAbs<=32768:=by omega
  have hy:y.natAbs<=32768:=by omega
  have h:=Nat.mul_le_mul hx hy
  rw[<-Int.natAbs_mul]at h
  omega
 generalize x*y=q at*
 refine OG (m:=4) (t:=4+i) (x:=(q+16384) / 32768) (by omega) (by omega) (by omega) (by decide) (by decide) fun st=>?_
 obtain⟨z,p',r,rfl,JE⟩:=pr st
 refine⟨_,p',?_,rfl,JE⟩
 rw[oA _ _ _ _ r]
 show some (((xO ((nz q+16384) % nh) / ((2 ^ 15:Nat):Int)) % 18446744073709551616).toNat::st,p')=_
 have e3:(nz q+16384) % nh=nz (q+16384):=Ld q 16384
 rw[e3,Dc (by omega) (by omega),c15]
 rfl
def DO(qw:Nat->Nat):List Sc:=[.s 3,.s 2,.s 1,.s 0]++oM 8 8 (fun j=>uo (qw j / 8) 8 (qw j % 8) false) 16 0
def Xg(x0 x1 x2 x3 c:Nat):Nat:=ln 8 (Bw x0 x1 x2 x3 (c / 8)) (c % 8)
theorem alx(qw:Nat->Nat)(hs: ∀ j,j<16->qw j<32)(x0 x1 x2 x3:Nat): ∃ nK,run (DO qw) [x3,x2,x1,x0] (fun _=>0)=some ([pk 8 8 (fun j=>Xg x0 x1 x2 x3 (qw (8+j))),pk 8 8 (fun j=>Xg x0 x1 x2 x3 (qw j))],nK):=by
 unfold DO
 rw[sv4]
 refine Da (w:=8) (per:=8) (m:=4) (lo:=Bw x0 x1 x2 x3) (a:=fun j=>Xg x0 x1 x2 x3 (qw j)) (by decide) (by decide) (by decide) (fun i hi lo1 hl=>?_) []
 have h:=hs i hi
 refine(Vw (by decide) (by omega) (by decide)).imp fun z hz=>?_
 rw[hz,hl _ (by omega)]
 have:=ry (w:=8) (Bw x0 x1 x2 x3 (qw i / 8)) (qw i % 8)
 exact⟨Nat.lt_trans this (by decide),Nat.mod_eq_of_lt this⟩
def Li(w:Nat):List Sc:=[.s 0,.g 0]++((if w<64 then [.k (2 ^ w - 1),.o 131,.k (pk w (64 / w) fun _=>1),.o 126]else [])++[.s 0,.g 0,.g 0])
theorem aly(hw:w=8∨w=16∨w=32∨w=64){x:Nat}(hx:x<nh): ∃ nK,run (Li w) [x] (fun _=>0)=some ([pk w (64 / w) (fun _=>x % 2 ^ w),pk w (64 / w) (fun _=>x % 2 ^ w)],nK):=by
 by_cases h:w<64
 ·have e:(x &&& (2 ^ w - 1))*(pk w (64 / w) fun _=>1) % nh=pk w (64 / w) (fun _=>x % 2 ^ w):=by
   rw[Gg,K3]
   have e1:pk w (64 / w) (fun _=>x % 2 ^ w*1)=pk w (64 / w) (fun _=>x % 2 ^ w):=cS fun _ _=>Nat.mul_one _
   rw[e1,Nat.mod_eq_of_lt]
   have:pk w (64 / w) (fun _=>x % 2 ^ w)<2 ^ (w*(64 / w)):=NX fun _ _=>Nat.mod_lt _ (Nat.two_pow_pos w)
   have e2:w*(64 / w)=64:=by rcases hw with rfl|rfl|rfl|rfl<;>decide
   rw[e2]at this
   exact this
  refine⟨rh (rh (fun _=>0) 0 x) 0 (pk w (64 / w) fun _=>x % 2 ^ w),?_⟩
  unfold Li
  rw[if_pos h]
  show some ([(x &&& (2 ^ w - 1))*(pk w (64 / w) fun _=>1) % nh,(x &&& (2 ^ w - 1))*(pk w (64 / w) fun _=>1) % nh],rh (rh (fun _=>0) 0 x) 0 ((x &&& (2 ^ w - 1))*(pk w (64 / w) fun _=>1) % nh))=_
  rw[e]
 ·obtain rfl:w=64:=by omega
  refine⟨rh (rh (fun _=>0) 0 x) 0 x,?_⟩
  have e:pk 64 (64 / 64) (fun _=>x % 2 ^ 64)=x:=by
   show x % 2 ^ 64+2 ^ 64*0=x
   rw[Nat.mod_eq_of_lt hx]
   omega
  rw[e]
  rfl
end Go.Proofs.Sw

noncomputable section
namespace Go.Proofs.Sw
variable {w n m:Nat}
def nB(w i:Nat)(sd:Bool):List Sc:=[.s 1,.s 0]++(uo (i / (64 / w)) w (i % (64 / w)) sd++if sd then [.o 167]else [])
theorem ada(W:Wp w)(sd:Bool){i:Nat}(hi:i<2*(64 / w))(x0 x1:Nat): ∃ nK,run (nB w i sd) [x1,x0] (fun _=>0)=some ([if sd then nz (sw (w - 1) (l2 w x0 x1 i)) % 4294967296 else l2 w x0 x1 i],nK):=by
 have g:=wz W (vec:=0) (m:=2) (lo:=p' x0 x1) (lo1:=p' x0 x1) sd hi (by decide) fun _ _=>rfl
 unfold EN at g
 rw[Nat.zero_add]at g
 obtain⟨z,nK,r,rfl,_⟩:=g []
 refine⟨nK,?_⟩
 unfold nB
 rw[sv2,oA _ _ _ _ r]
 cases sd with
 |true=>rfl
 |false=>
  have e:nz (iv w false (l2 w (p' x0 x1 0) (p' x0 x1 (0+1)) i))=l2 w x0 x1 i:=Db (Nat.lt_of_lt_of_le (AB _ _ _ _) (by rw[vi];exact Nat.pow_le_pow_right (by decide) (by have:=W.f.2.1;omega)))
  rw[e]
  rfl
theorem aa6{i:Nat}(hi:i<2)(x0 x1:Nat): ∃ nK,run (nB 64 i false) [x1,x0] (fun _=>0)=some ([if i=0 then x0 else x1],nK):=by
 have:i=0∨i=1:=by omega
 rcases this with rfl|rfl<;>exact⟨p' x0 x1,rfl⟩
def qb(w i:Nat):List Sc:=[.s 2,.s 1,.s 0]++[.g (i / (64 / w)),.k (18446744073709551615 - (2 ^ w - 1)*2 ^ (w*(i % (64 / w)))),.o 131,.g 2,.k (2 ^ w - 1),.o 131,.k (w*(i % (64 / w))),.o 134,.o 132,.s (i / (64 / w)),.g 0,.g 1]
theorem Lj(w:Nat)(v:Nat): ∀ (n k:Nat),k<n->pk w n (fun j=>if j=k then v else 0)=v*2 ^ (w*k)
 |n+1,0,_=>by
  have e:pk w n (fun i=>if i+1=0 then v else 0)=0:=by
   have:pk w n (fun i=>if i+1=0 then v else 0)=pk w n (fun _=>0*0):=cS fun i _=>by rw[if_neg (Nat.succ_ne_zero i)]
   rw[this,<-K3,Nat.zero_mul]
  show(if 0=0 then v else 0)+2 ^ w*pk w n (fun i=>if i+1=0 then v else 0)=_
  rw[e,if_pos rfl]
  simp
 |n+1,k+1,h=>by
  have ih:=Lj w v n k (by omega)
  have e:pk w n (fun i=>if i+1=k+1 then v else 0)=pk w n (fun i=>if i=k then v else 0):=cS fun i _=>by simp only[Nat.add_right_cancel_iff]
  show(if 0=k+1 then v else 0)+2 ^ w*pk w n (fun i=>if i+1=k+1 then v else 0)=_
  rw[e,ih,if_neg (Nat.succ_ne_zero k).symm,Nat.zero_add,Nat.mul_succ,Nat.pow_add,Nat.mul_left_comm,Nat.mul_comm (2 ^ w)]
theorem IQ(h0:0<w)(hn:w*n=64){k:Nat}(hk:k<n){h x:Nat}(hh:h<nh):(h &&& (18446744073709551615 - (2 ^ w - 1)*2 ^ (w*k))) ||| (2 ^ (w*k % 64)*(x &&& (2 ^ w - 1)) % nh)=pk w n (fun j=>if j=k then x % 2 ^ w else ln w h j):=by
 have hp:=Nat.two_pow_pos w
 have e1:18446744073709551615 - (2 ^ w - 1)*2 ^ (w*k)=pk w n (fun j=>if j=k then 0 else 2 ^ w - 1):=by
  rw[<-Lj w (2 ^ w - 1) n k hk,show(18446744073709551615:Nat)=pk w n (fun _=>2 ^ w - 1) by rw[aaC,hn],afZ _ _ _ fun i _=>by split<;>omega]
  exact cS fun i _=>by split<;>omega
 have e2:2 ^ (w*k % 64)*(x &&& (2 ^ w - 1)) % nh=pk w n (fun j=>if j=k then x % 2 ^ w else 0):=by
  have hx:x % 2 ^ w<2 ^ w:=Nat.mod_lt _ hp
  have hwk:w*k+w<=64:=by
   rw[<-hn,<-Nat.mul_succ]
   exact Nat.mul_le_mul_left w hk
  rw[Gg,Nat.mod_eq_of_lt (show w*k<64 by omega),Lj w (x % 2 ^ w) n k hk,Nat.mul_comm,Nat.mod_eq_of_lt]
  have h3:x % 2 ^ w*2 ^ (w*k)<2 ^ w*2 ^ (w*k):=(Nat.mul_lt_mul_right (Nat.two_pow_pos _)).2 hx
  rw[<-Nat.pow_add]at h3
  exact Nat.lt_of_lt_of_le h3 (by rw[vi];exact Nat.pow_le_pow_right (by decide) (by omega))
 have e3:h=pk w n (ln w h):=NY n h (by rw[hn];exact hh)
 have l1: ∀ i,i<n->ln w h i<2 ^ w:=fun i _=>ry _ _
 have l2': ∀ i,i<n->(if i=k then 0 else 2 ^ w - 1)<2 ^ w:=fun i _=>by split<;>omega
 have l3: ∀ i,i<n->(if i=k then x % 2 ^ w else 0)<2 ^ w:=fun i _=>by
  split
  ·exact Nat.mod_lt _ hp
  ·exact hp
 rw[e1,e2]
 conv=>lhs;rw[e3]
 rw[af0 h0 l1 l2',akK h0 (fun i hi=>Nat.and_lt_two_pow _ (l2' i hi)) l3]
 refine cS fun i _=>?_
 by_cases hik:i=k
 ·rw[if_pos hik,if_pos hik,if_pos hik,Nat.and_zero,Nat.zero_or]
 ·rw[if_neg hik,if_neg hik,if_neg hik,Nat.or_zero,Gg,Nat.mod_eq_of_lt (ry _ _)]
theorem alz(hw:w=8∨w=16∨w=32∨w=64){i:Nat}(hi:i<2*(64 / w)){x0 x1 x2:Nat}(h0:x0<nh)(h1:x1<nh): ∃ nK,run (qb w i) [x2,x1,x0] (fun _=>0)=some ([pk w (64 / w) (fun j=>if 64 / w+j=i then x2 % 2 ^ w else ln w x1 j),pk w (64 / w) (fun j=>if j=i then x2 % 2 ^ w else ln w x0 j)],nK):=by
 have q:0<w/\0<64 / w/\w*(64 / w)=64:=by rcases hw with rfl|rfl|rfl|rfl<;>decide
 obtain⟨q0,q1,q2⟩:=q
 have AF: ∀ h,h<nh-> ∀ c:Nat->Prop,∀ _:DecidablePred c,(∀ j,j<64 / w-> ¬ c j)->pk w (64 / w) (fun j=>if c j then x2 % 2 ^ w else ln w h j)=h:=fun h hh c _ hc=>by
  rw[show pk w (64 / w) (fun j=>if c j then x2 % 2 ^ w else ln w h j)=pk w (64 / w) (ln w h)from cS fun j hj=>if_neg (hc j hj)]
  exact(NY _ _ (by rw[q2];exact hh)).symm
 by_cases h:i<64 / w
 ·have k1:=AF x1 h1 (fun j=>64 / w+j=i) (fun _=>inferInstance) fun j hj=>by omega
  have p0:=IQ (x:=x2) q0 q2 h h0
  refine⟨rh (rh (rh (rh (fun _=>0) 2 x2) 1 x1) 0 x0) 0 ((x0 &&& (18446744073709551615 - (2 ^ w - 1)*2 ^ (w*i))) ||| (2 ^ (w*i % 64)*(x2 &&& (2 ^ w - 1)) % nh)),?_⟩
  rw[k1,<-p0]
  unfold qb
  rw[Nat.div_eq_of_lt h,Nat.mod_eq_of_lt h]
  rfl
 ·have e:i / (64 / w)=1:=(Nat.div_eq_iff q1).2 (by omega)
  have e2:i % (64 / w)=i - 64 / w:=by rw[Nat.mod_eq_sub_mod (by omega),Nat.mod_eq_of_lt (by omega)]
  have k1:=AF x0 h0 (fun j=>j=i) (fun _=>inferInstance) fun j hj=>by omega
  have p0:=IQ (x:=x2) q0 q2 (k:=i - 64 / w) (by omega) h1
  have p1:pk w (64 / w) (fun j=>if 64 / w+j=i then x2 % 2 ^ w else ln w x1 j)=pk w (64 / w) (fun j=>if j=i - 64 / w then x2 % 2 ^ w else ln w x1 j):=cS fun j hj=>by
   by_cases G7:64 / w+j=i
   ·rw[if_pos G7,if_pos (by omega)]
   ·rw[if_neg G7,if_neg (by omega)]
  refine⟨rh (rh (rh (rh (fun _=>0) 2 x2) 1 x1) 0 x0) 1 ((x1 &&& (18446744073709551615 - (2 ^ w - 1)*2 ^ (w*(i - 64 / w)))) ||| (2 ^ (w*(i - 64 / w) % 64)*(x2 &&& (2 ^ w - 1)) % nh)),?_⟩
  rw[k1,p1,<-p0]
  unfold qb
  rw[e,e2]
  rfl
def agC:List Sc:=[.s 4,.g 0,.g 1,.g 4,.k 8,.o 84,.o 27,.g 4,.k 7,.o 131,.k 3,.o 134,.o 136,.k 255,.o 131,.g 4,.k 16,.o 84,.o 173,.o 126]
def aa7:List Sc:=[.s 3,.s 2,.s 1,.s 0]++oM 8 8 (fun j=>uo (2+j / 8) 8 (j % 8) false++agC) 16 0
theorem VD{t:Nat}(ht:t<256)(st:List Nat)(lo:Nat->Nat):run agC (t::st) lo=some ((if t<16 then ln 8 (if t<8 then lo 0 else lo 1) (t % 8)else 0)::st,rh lo 4 t):=by
 show(match JD 27 (Q2 (decide (t<8))::lo 1::lo 0::st)with|some st=>run [.g 4,.k 7,.o 131,.k 3,.o 134,.o 136,.k 255,.o 131,.g 4,.k 16,.o 84,.o 173,.o 126] st (rh lo 4 t)|none=>none)=_
 rw[VB]
 show some (((if decide (t<8)=true then lo 0 else lo 1) / 2 ^ (2 ^ (3 % 64)*(t &&& 7) % nh % 64) &&& 255)*(Q2 (decide (t<16)) % 4294967296) % nh::st,rh lo 4 t)=_
 have e1:t &&& 7=t % 8:=Gg (p:=3) t
 have e2:2 ^ (3 % 64)*(t % 8) % nh % 64=8*(t % 8):=by
  show 8*(t % 8) % 18446744073709551616 % 64=_
  omega
 rw[e1,e2]
 have e3: ∀ y,y &&& 255=y % 2 ^ 8:=Gg (p:=8)
 rw[e3]
 have hl: ∀ y,y / 2 ^ (8*(t % 8)) % 2 ^ 8=ln 8 y (t % 8):=fun _=>rfl
 rw[hl]
 have oI: ∀ y,ln 8 y (t % 8)<256:=fun y=>ry _ _
 by_cases h:t<16
 ·rw[decide_eq_true h,if_pos h]
  have e4:(if decide (t<8)=true then lo 0 else lo 1)=if t<8 then lo 0 else lo 1:=by simp only[decide_eq_true_eq]
  rw[e4]
  have:=oI (if t<8 then lo 0 else lo 1)
  show some ((_*1) % 18446744073709551616::st,_)=_
  rw[Nat.mul_one,Nat.mod_eq_of_lt (by omega)]
 ·rw[decide_eq_false h,if_neg h]
  show some ((_*0) % 18446744073709551616::st,_)=_
  rw[Nat.mul_zero]
def vF(x0 x1 t:Nat):Nat:=if t<16 then ln 8 (if t<8 then x0 else x1) (t % 8)else 0
theorem alA(x0 x1 x2 x3:Nat): ∃ nK,run aa7 [x3,x2,x1,x0] (fun _=>0)=some ([pk 8 8 (fun j=>vF x0 x1 (ln 8 x3 j)),pk 8 8 (fun j=>vF x0 x1 (ln 8 x2 j))],nK):=by
 unfold aa7
 rw[sv4]
 obtain⟨nK,r⟩:=Da (w:=8) (per:=8) (m:=4) (one:=fun j=>uo (2+j / 8) 8 (j % 8) false++agC) (lo:=Bw x0 x1 x2 x3) (a:=fun j=>vF x0 x1 (ln 8 (Bw x0 x1 x2 x3 (2+j / 8)) (j % 8))) (by decide) (by decide) (by decide) (fun i hi lo1 hl st=>by
  obtain⟨z,p',r,e,JE⟩:=Vw (w:=8) (i:=i % 8) (a:=2+i / 8) (m:=4) (lo:=lo1) (by decide) (by omega) (by decide) st
  have hz:z<256:=by rw[e];exact ry _ _
  rw[hl _ (by omega)]at e
  have hb:vF x0 x1 z<256:=by
   unfold vF
   split
   ·exact ry _ _
   ·decide
  refine⟨vF x0 x1 z,rh p' 4 z,?_,⟨Nat.lt_trans hb (by decide),by rw[Nat.mod_eq_of_lt hb,e]⟩,fun j hj=>by rw[rB _ _ (by omega)];exact JE j hj⟩
  rw[oA _ _ _ _ r,VD hz]
  have q0:p' 0=x0:=(JE 0 (by decide)).trans (hl 0 (by decide))
  have q1:p' 1=x1:=(JE 1 (by decide)).trans (hl 1 (by decide))
  rw[q0,q1]
  rfl) []
 refine⟨nK,r.trans ?_⟩
 have e1:pk 8 8 (fun i=>vF x0 x1 (ln 8 (Bw x0 x1 x2 x3 (2+(8+i) / 8)) ((8+i) % 8)))=pk 8 8 (fun j=>vF x0 x1 (ln 8 x3 j)):=cS fun i hi=>by rw[show(8+i) / 8=1 by omega,show(8+i) % 8=i by omega];rfl
 have e2:pk 8 8 (fun i=>vF x0 x1 (ln 8 (Bw x0 x1 x2 x3 (2+i / 8)) (i % 8)))=pk 8 8 (fun j=>vF x0 x1 (ln 8 x2 j)):=cS fun i hi=>by rw[show i / 8=0 by omega,show i % 8=i by omega];rfl
 rw[e1,e2]
end Go.Proofs.Sw

noncomputable section
namespace Go.Proofs.Vq
open Go.Ab Go.Ab.Lf Go.Proofs.Sw
set_option maxRecDepth 100000
def adb:ny:=pW (Ps [.ag pU,.n .i64,.n .i64]) [] (Ps [.n .i64]) C5 C6 fun x=>.ck (Af x.2.2.2.2.2.2.2.2.2.2.2.2.2.2.2.2.1 x.2.2.2.2.2.2.2.2.2.2.2.2.2.2.2.2.2.1) (.ok (Qo x))
theorem alB{w i:Int}(h:Af w i=true): ∃ W I:Nat,w=W/\i=I/\Wq W/\I<128 / W:=by
 unfold Af at h
 simp only[Bool.or_eq_true,Bool.and_eq_true,decide_eq_true_eq]at h
 rcases h with⟨rfl,h1,h2⟩|⟨rfl,h1,h2⟩|⟨rfl,h1,h2⟩|⟨rfl,h1,h2⟩
 ·exact⟨8,i.toNat,rfl,by omega,.inl rfl,by show i.toNat<16;omega⟩
 ·exact⟨16,i.toNat,rfl,by omega,.inr (.inl rfl),by show i.toNat<8;omega⟩
 ·exact⟨32,i.toNat,rfl,by omega,.inr (.inr (.inl rfl)),by show i.toNat<4;omega⟩
 ·exact⟨64,i.toNat,rfl,by omega,.inr (.inr (.inr rfl)),by show i.toNat<2;omega⟩
theorem agD{w i:Int}(y:Vy)(h:Af w i=true):Qn (sX (vO y) w i)=true:=by
 obtain⟨W,I,rfl,rfl,hW,hI⟩:=alB h
 have e:=ac1 y (W:Int) (I:Int)
 obtain⟨q1,q2⟩:=agf hW
 have hs:cA .i64 64 (W:Int)=((64 - W:Nat):Int):=by rcases hW with rfl|rfl|rfl|rfl<;>kernel_rfl
 have hn:decide (((128 / W:Nat):Int)=0)=false:=by rcases hW with rfl|rfl|rfl|rfl<;>rfl
 have h0:decide ((0:Int)<=((64 - W:Nat):Int))=true:=decide_eq_true (by omega)
 rw[q1,q2]at e
 dsimp only at e
 rw[hn,h,hs,h0]at e
 exact(mO (ca _) (ca _) (k:=Qn (sX (vO y) W I)) (m:=Qo (sX (vO y) W I)) e).1
theorem VE{cr:cx}(W:WQ cr):adb.Ok 247 cr:=by
 refine OA (aaT W) ?_
 rintro⟨a0,a1,a2,a3,a4,a5,a6,a7,a8,a9,aa,ab,ac,ad,ae,af,w,i,⟨⟩⟩ y h
 obtain⟨h1,h⟩:=Lf.T.cP h
 cases h
 have e:=agD (a0,a1,a2,a3,a4,a5,a6,a7,a8,a9,aa,ab,ac,ad,ae,af,()) (w:=w) (i:=i) h1
 have e:Qn (a0,a1,a2,a3,a4,a5,a6,a7,a8,a9,aa,ab,ac,ad,ae,af,w,i,())=true:=e
 show(Lf.T.ck (Qn (a0,a1,a2,a3,a4,a5,a6,a7,a8,a9,aa,ab,ac,ad,ae,af,w,i,())) (.ok (Qo (a0,a1,a2,a3,a4,a5,a6,a7,a8,a9,aa,ab,ac,ad,ae,af,w,i,())))).val=_
 rw[e]
 rfl
def eWd:List (Nat×ny):=[(150,aaP),(249,agb),(247,adb)]
theorem VF{cr:cx}(W:WQ cr):nZ cr eWd:=.cons (Gk W) (.cons (Ol W) (.cons (VE W) .nil))
abbrev IU:List Ty:=i64::tV []
abbrev qK:List Ty:=tV [i64]
def t155(x:cf IU):Lf.T (List Pl):=qA (Ps [.n .i64,.ag pU]) [] (Ps [.tu (Ps [.ag pU,.n .i64])]) (fun _=>none) Tryz.ajh 40 (pY eWd 40) (cq IU x)
def Qu(x:cf IU):Bool:=cO (oy qK (t155 x))
def IV(x:cf IU):cf qK:=cO (nq qK (t155 x))
def alC:ny:=pW (Ps [.n .i64,.ag pU]) [] (Ps [.tu (Ps [.ag pU,.n .i64])]) IU qK fun x=>.ck (Qu x) (.ok (IV x))
theorem aa8{cr:cx}(W:WQ cr):alC.Ok 155 cr:=
 mC (W.in (VF W) 40) (W.st 155 _ rfl) rfl (cD _) (m:=40) rfl (fun _=>ca _) (fun _=>ca _)
abbrev IW:List Ty:=i64::tV (tV [])
def t159(x:cf IW):Lf.T (List Pl):=qA (Ps [.n .i64,.ag pU,.ag pU]) [] (Ps [.tu (Ps [.ag pU,.n .i64])]) (fun _=>none) Tryz.aji 40 (pY eWd 40) (cq IW x)
def IX(x:cf IW):Bool:=cO (oy qK (t159 x))
def DP(x:cf IW):cf qK:=cO (nq qK (t159 x))
def alD:ny:=pW (Ps [.n .i64,.ag pU,.ag pU]) [] (Ps [.tu (Ps [.ag pU,.n .i64])]) IW qK fun x=>.ck (IX x) (.ok (DP x))
theorem aa9{cr:cx}(W:WQ cr):alD.Ok 159 cr:=
 mC (W.in (VF W) 40) (W.st 159 _ rfl) rfl (cD _) (m:=40) rfl (fun _=>ca _) (fun _=>ca _)
end Go.Proofs.Vq

noncomputable section
namespace Go.Proofs.Vq
open Go.Ab Go.Ab.Lf Go.Proofs.Sw
set_option maxRecDepth 100000
abbrev q9:List Ty:=tV (tV (tV (tV [i64])))
abbrev sR:List Ty:=tV (tV [])
def Gp:AN:=⟨0,zZ Tryz.ae'.code 0,[2,4,5,8,9],(Ps [.pt 0 pU,.pt 0 pU,.pt 0 pU,.ag pU,.n .i64]),[⟨.GG,[4,5],(Ps [.pt 0 pU,.pt 0 pU])⟩]⟩
def xS:List Pl->Lf.T Rs:=Gp.step (fun _=>none) (pY [] 3) 3
def VG:rk:=Qb Gp xS q9 sR
theorem Qv{cr:cx}(W:WQ cr):rQ Rx.w VG (fun n d=>su (cr n d) n (.bl 0 (.lp Gp.body))):=yX (W.in .nil 3) (cD _) (m:=3) q9 sR
def aty:Nat->Option rk:=JB [(0,VG)]
def brF{β:Type}(n:Int)(F:Nat->Option β):Nat->Nat->Option β
 |0,_=>none
 |f+1,j=>bif Nat.beq f 0 then cF (decide (n=Int.ofNat j)) (F j)else bif decide (n=Int.ofNat j)then F j else brF n F f (j+1)
abbrev Lk(a r v b:Nat->Int)(i:Int):cf q9:=cV (tV (tV (tV [i64]))) a (cV (tV (tV [i64])) r (cV (tV [i64]) v (cV [i64] b (i,()))))
def Gq(v:Nat->Int)(m:Nat)(x:Int):Nat->Int:=fun j=>bif Nat.beq j m then x else v j
def Gr(b:Nat->Int):List Int:=[b 0,b 1,b 2,b 3,b 4,b 5,b 6,b 7,b 8,b 9,b 10,b 11,b 12,b 13,b 14,b 15]
theorem OI(ya yr yv yb:cf (tV []))(i:Int):tr2 q9 sR [] (xS (cq q9 (Lk (vO ya) (vO yr) (vO yv) (vO yb) i)))=bif decide (i<16)then
 cF (cZ i 16) (bif decide ((Gr (vO yb)).getD i.toNat 0<16)then brF ((Gr (vO yb)).getD i.toNat 0) (fun j=>brF i (fun m=>some (.nx (Lk (vO ya) (vO yr) (Gq (vO yv) m (vO ya j)) (vO yb) (cY .i64 i 1)))) 16 0) 16 0
  else some (.nx (Lk (vO ya) (vO yr) (vO yv) (vO yb) (cY .i64 i 1))))
 else some (.o0 (cV (tV []) (vO yr) (cV [] (vO yv) ()))):=by kernel_rfl
end Go.Proofs.Vq

noncomputable section
namespace Go.Proofs.Vq
open Go.Ab Go.Ab.Lf Go.Proofs.Sw
set_option maxRecDepth 100000
def ckN{α:Type}:List Bool->Option α->Option α
 | [],x=>x
 |c::l,x=>cF c (ckN l x)
def goW(W:Int)(C:Nat->Vy->List Bool)(X:Nat->Int):Nat->Nat->Vy->Option (List Pl)
 |0,_,o=>some (cq qK (cV [i64] (vO o) (0,())))
 |f+1,i,o=>ckN (C i o) (goW W C X f (i+1) (cV [] (pX (vO o) W (i:Int) (X i)) ()))
abbrev zV:Vy:=cV [] wW ()
def Qw(y:Vy)(w i:Int):Int:=(Qo (sX (vO y) w i)).1
def exX(y:Vy)(w:Nat)(sd:Bool)(b i:Nat):Int:=bif sd then cb .u64 (Qw y (w:Int) ((i+b*(64 / w):Nat):Int))else gX (vO y) (w:Int) ((i+b*(64 / w):Nat):Int)
def ckE(i:Nat)(o:Vy):List Bool:=bif Nat.beq i 0 then []else [o9 (vO o)]
def adX(y:Vy)(w:Nat)(sd:Bool)(i:Nat):Int:=bif sd then cb .u64 (cY .i64 (Qw y (w:Int) ((2*i:Nat):Int)) (Qw y (w:Int) ((2*i+1:Nat):Int)))else cY .u64 (gX (vO y) (w:Int) ((2*i:Nat):Int)) (gX (vO y) (w:Int) ((2*i+1:Nat):Int))
def UnP(op:Int)(W N:Nat)(C:Vy->Nat->Vy->List Bool)(X:Vy->Nat->Int):Prop:= ∀ y:Vy,(t155 (op,y)).val=goW (W:Int) (C y) (X y) N 0 zV
def BnP(op:Int)(W N:Nat)(C:Vy->Vy->Nat->Vy->List Bool)(X:Vy->Vy->Nat->Int):Prop:= ∀ a b:Vy,(t159 (op,cV (tV []) (vO a) (cV [] (vO b) ()))).val=goW (W:Int) (C a b) (X a b) N 0 zV
def agF(a b:Vy)(i:Nat):Int:=cb .u64 (min (oP .i64 (cY .i64 (w7 .i64 (Qw a 16 (i:Int)) (Qw b 16 (i:Int))) 16384) 15) 32767)
def agG(a b:Vy)(i:Nat):Int:=cb .u64 (cY .i64 (w7 .i64 (Qw a 16 ((2*i:Nat):Int)) (Qw b 16 ((2*i:Nat):Int))) (w7 .i64 (Qw a 16 ((2*i+1:Nat):Int)) (Qw b 16 ((2*i+1:Nat):Int))))
def goN(w:Nat)(X Y:Nat->Int):Nat->Nat->Vy->Option (List Pl)
 |0,_,o=>some (cq qK (cV [i64] (vO o) (0,())))
 |f+1,i,o=>ckN (ckE i o) (let o1:Vy:=cV [] (pX (vO o) (w:Int) (i:Int) (X i)) ();ckN [o9 (vO o1)] (goN w X Y f (i+1) (cV [] (pX (vO o1) (w:Int) ((64 / w+i:Nat):Int) (Y i)) ())))
def naX(y:Vy)(w:Nat)(lo hi:Int)(i:Nat):Int:=cb .u64 (min (max (Qw y ((2*w:Nat):Int) (i:Int)) lo) hi)
def NaP(op:Int)(w:Nat)(lo hi:Int):Prop:= ∀ a b:Vy,(t159 (op,cV (tV []) (vO a) (cV [] (vO b) ()))).val=goN w (naX a w lo hi) (naX b w lo hi) (64 / w) 0 zV
end Go.Proofs.Vq
