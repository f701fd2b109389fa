import Derived.Test.YtjeanplhkkpdmaaGreatDoorVdT6
noncomputable section
namespace Go.Proofs.Vd
open Go.Ab Go.Ab.Lf
set_option maxRecDepth 100000
structure WorldS(V:ByteArray->Bool)(cb:cx):Prop extends WorldN V cb where
 c31:(pO jK).Ok 84 cb
 c33:(pO kg).Ok 86 cb
 c34:(pO cF).Ok 87 cb
 c35:(pO jQ).Ok 88 cb
 c37:(pO kf).Ok 90 cb
 c38:(pO jS).Ok 91 cb
 c39:(pO jV).Ok 92 cb
 c40:(pO jZ).Ok 93 cb
 c41:(pO u8).Ok 94 cb
 c79:(pO tI).Ok 144 cb
abbrev ra:List Ty:=[.cq tI,i64,i64]
abbrev po:List Ty:=[.cq tI]
def J1:qV:=⟨0,mV Tryz.x89.code 0,[3,8,9],(Ps [.ow tI,.n .i64,.n .i64]),[⟨.s7,[3],(Ps [.ow tI])⟩]⟩
def YM:List (Nat×jJ):=[(85,s63)]
theorem Tf{V cb}(W:WorldS V cb):j1 cb YM:=(.cons W.cl .nil)
def yx:List Pl->Lf.T Rs:=J1.step (fun _=>none) (j7 YM 3) 3
def YN:mB:=vY J1 yx ra po
theorem Tg{V cb}(W:WorldS V cb):lE Rx.w YN (fun n d=>nO (cb n d) n (.bl 0 (.lp J1.body))):=mg (W.toWorld.in (Tf W) 3) (cp _) (m:=3) ra po
def aBo:Nat->Option mB:=vF [(0,YN)]
abbrev MK:List Ty:=[.cq tI]
abbrev ML:List Ty:=[.cq tI]
def auz:List (Nat×jJ):=[(144,pO tI)]
theorem aeT{V cb}(W:WorldS V cb):j1 cb auz:=(.cons W.c79 .nil)
def anJ(x:ca MK):Lf.T (List Pl):=mN (Ps [.im tI]) [] (Ps [.ow tI]) aBo Tryz.x89 3 (j7 auz 3) (cg MK x)
def Th(x:ca MK):Bool:=j5 (mf ML (anJ x))
def Ti(x:ca MK):ca ML:=j5 (j9 ML (anJ x))
def YO:jJ:=kR (Ps [.im tI]) [] (Ps [.ow tI]) MK ML fun x=>.ck (Th x) (.ok (Ti x))
theorem ED{V cb}(W:WorldS V cb):YO.Ok 89 cb:=
 jP (W.toWorld.in (aeT W) 3) (W.toWorld.st 89 _ rfl) rfl (mz.pH (.cons (b:=J1.body) (by kernel_rfl) (Tg W) .nil)) (m:=3) rfl (fun _=>cf _) (fun _=>cf _)
abbrev rb:List Ty:=.cq jK::.cq kg::.cq i64::.cq cF::.cq cF::.cq jQ::.cq kf::i64::.cq jS::.cq jV::.cq jZ::mT [i64,i64]
abbrev px:List Ty:=.cq jK::.cq kg::.cq i64::.cq cF::.cq cF::.cq jQ::.cq kf::i64::.cq jS::.cq jV::.cq jZ::mT []
def J2:qV:=⟨0,mV Tryz.x51.code 0,[1,2,3,19,20,21],(Ps [.pt 0 (Ps [.im jK,.im kg,.im i64,.im cF,.im cF,.im jQ,.im kf,.n .i64,.im jS,.im jV,.im jZ]),.pt 0 (Ps [lY,lY,lY,lY,lY,lY,lY,.li .i64 0,lY,lY,lY]),.pt 0 (Ps [.ow jK,.im kg,.im i64,.im cF,.im cF,.im jQ,.im kf,.n .i64,.im jS,.im jV,.im jZ]),.oo 13 2,.n .i64,.n .i64]),[⟨.s7,[1,2,3],(Ps [.pt 0 (Ps [.im jK,.im kg,.im i64,.im cF,.im cF,.im jQ,.im kf,.n .i64,.im jS,.im jV,.im jZ]),.pt 0 (Ps [lY,lY,lY,lY,lY,lY,lY,.li .i64 0,lY,lY,lY]),.pt 0 (Ps [.ow jK,.im kg,.im i64,.im cF,.im cF,.im jQ,.im kf,.n .i64,.im jS,.im jV,.im jZ])])⟩]⟩
def YP:List (Nat×jJ):=[(85,s63)]
theorem Tj{V cb}(W:WorldS V cb):j1 cb YP:=(.cons W.cl .nil)
def AD:List Pl->Lf.T Rs:=J2.step (fun _=>none) (j7 YP 3) 3
def YQ:mB:=vY J2 AD rb px
theorem Tk{V cb}(W:WorldS V cb):lE Rx.w YQ (fun n d=>nO (cb n d) n (.bl 0 (.lp J2.body))):=mg (W.toWorld.in (Tj W) 3) (cp _) (m:=3) rb px
abbrev rh:List Ty:=.cq jK::.cq kg::.cq i64::.cq cF::.cq cF::.cq jQ::.cq kf::i64::.cq jS::.cq jV::.cq jZ::mT [i64,i64]
abbrev py:List Ty:=.cq jK::.cq kg::.cq i64::.cq cF::.cq cF::.cq jQ::.cq kf::i64::.cq jS::.cq jV::.cq jZ::mT []
def J3:qV:=⟨2,mV Tryz.x51.code 2,[1,2,3,60,61],(Ps [.pt 0 (Ps [.im jK,.im kg,.im i64,.im cF,.im cF,.im jQ,.im kf,.n .i64,.im jS,.im jV,.im jZ]),.pt 0 (Ps [lY,lY,lY,lY,lY,lY,lY,.li .i64 0,lY,lY,lY]),.pt 0 (Ps [.im jK,.im kg,.im i64,.im cF,.im cF,.ow jQ,.im kf,.n .i64,.im jS,.im jV,.im jZ]),.n .i64,.n .i64]),[⟨.s7,[1,2,3],(Ps [.pt 0 (Ps [.im jK,.im kg,.im i64,.im cF,.im cF,.im jQ,.im kf,.n .i64,.im jS,.im jV,.im jZ]),.pt 0 (Ps [lY,lY,lY,lY,lY,lY,lY,.li .i64 0,lY,lY,lY]),.pt 0 (Ps [.im jK,.im kg,.im i64,.im cF,.im cF,.ow jQ,.im kf,.n .i64,.im jS,.im jV,.im jZ])])⟩]⟩
def YR:List (Nat×jJ):=[(89,YO)]
theorem Tl{V cb}(W:WorldS V cb):j1 cb YR:=(.cons (ED W) .nil)
def AE:List Pl->Lf.T Rs:=J3.step (fun _=>none) (j7 YR 3) 3
def YS:mB:=vY J3 AE rh py
theorem Tn{V cb}(W:WorldS V cb):lE Rx.w YS (fun n d=>nO (cb n d) n (.bl 2 (.lp J3.body))):=mg (W.toWorld.in (Tl W) 3) (cp _) (m:=3) rh py
abbrev rk:List Ty:=.cq jK::.cq kg::.cq i64::.cq cF::.cq cF::.cq jQ::.cq kf::i64::.cq jS::.cq jV::.cq jZ::mT [i64,i64]
abbrev pz:List Ty:=.cq jK::.cq kg::.cq i64::.cq cF::.cq cF::.cq jQ::.cq kf::i64::.cq jS::.cq jV::.cq jZ::mT []
def J4:qV:=⟨4,mV Tryz.x51.code 4,[1,2,3,86,87,88],(Ps [.pt 0 (Ps [.im jK,.im kg,.im i64,.im cF,.im cF,.im jQ,.im kf,.n .i64,.im jS,.im jV,.im jZ]),.pt 0 (Ps [lY,lY,lY,lY,lY,lY,lY,.li .i64 0,lY,lY,lY]),.pt 0 (Ps [.im jK,.im kg,.im i64,.im cF,.im cF,.im jQ,.im kf,.n .i64,.ow jS,.im jV,.im jZ]),.oo 20 2,.n .i64,.n .i64]),[⟨.s7,[1,2,3],(Ps [.pt 0 (Ps [.im jK,.im kg,.im i64,.im cF,.im cF,.im jQ,.im kf,.n .i64,.im jS,.im jV,.im jZ]),.pt 0 (Ps [lY,lY,lY,lY,lY,lY,lY,.li .i64 0,lY,lY,lY]),.pt 0 (Ps [.im jK,.im kg,.im i64,.im cF,.im cF,.im jQ,.im kf,.n .i64,.ow jS,.im jV,.im jZ])])⟩]⟩
def YT:List (Nat×jJ):=[(85,s63),(89,YO)]
theorem To{V cb}(W:WorldS V cb):j1 cb YT:=(.cons W.cl (.cons (ED W) .nil))
def AF:List Pl->Lf.T Rs:=J4.step (fun _=>none) (j7 YT 3) 3
def YU:mB:=vY J4 AF rk pz
theorem Tp{V cb}(W:WorldS V cb):lE Rx.w YU (fun n d=>nO (cb n d) n (.bl 4 (.lp J4.body))):=mg (W.toWorld.in (To W) 3) (cp _) (m:=3) rk pz
abbrev rm:List Ty:=.cq jK::.cq kg::.cq i64::.cq cF::.cq cF::.cq jQ::.cq kf::i64::.cq jS::.cq jV::.cq jZ::mT [i64,i64]
abbrev pA:List Ty:=.cq jK::.cq kg::.cq i64::.cq cF::.cq cF::.cq jQ::.cq kf::i64::.cq jS::.cq jV::.cq jZ::mT []
def J5:qV:=⟨6,mV Tryz.x51.code 6,[1,2,3,110,111,112],(Ps [.pt 0 (Ps [.im jK,.im kg,.im i64,.im cF,.im cF,.im jQ,.im kf,.n .i64,.im jS,.im jV,.im jZ]),.pt 0 (Ps [lY,lY,lY,lY,lY,lY,lY,.li .i64 0,lY,lY,lY]),.pt 0 (Ps [.im jK,.im kg,.im i64,.im cF,.im cF,.im jQ,.im kf,.n .i64,.im jS,.ow jV,.im jZ]),.oo 21 2,.n .i64,.n .i64]),[⟨.s7,[1,2,3],(Ps [.pt 0 (Ps [.im jK,.im kg,.im i64,.im cF,.im cF,.im jQ,.im kf,.n .i64,.im jS,.im jV,.im jZ]),.pt 0 (Ps [lY,lY,lY,lY,lY,lY,lY,.li .i64 0,lY,lY,lY]),.pt 0 (Ps [.im jK,.im kg,.im i64,.im cF,.im cF,.im jQ,.im kf,.n .i64,.im jS,.ow jV,.im jZ])])⟩]⟩
def YV:List (Nat×jJ):=[(85,s63),(89,YO)]
theorem Ts{V cb}(W:WorldS V cb):j1 cb YV:=(.cons W.cl (.cons (ED W) .nil))
def AG:List Pl->Lf.T Rs:=J5.step (fun _=>none) (j7 YV 3) 3
def YW:mB:=vY J5 AG rm pA
theorem Tt{V cb}(W:WorldS V cb):lE Rx.w YW (fun n d=>nO (cb n d) n (.bl 6 (.lp J5.body))):=mg (W.toWorld.in (Ts W) 3) (cp _) (m:=3) rm pA
abbrev rq:List Ty:=mT [i64,i64]
abbrev pD:List Ty:=mT []
def J6:qV:=⟨8,mV Tryz.x51.code 8,[2,3,134,135,136],(Ps [.pt 0 (Ps [lY,lY,lY,lY,lY,lY,lY,.li .i64 0,lY,lY,lY]),.pt 0 (Ps [.im jK,.im kg,.im i64,.im cF,.im cF,.im jQ,.im kf,.n .i64,.im jS,.im jV,.ow jZ]),.oo 11 2,.n .i64,.n .i64]),[⟨.s7,[2,3],(Ps [.pt 0 (Ps [lY,lY,lY,lY,lY,lY,lY,.li .i64 0,lY,lY,lY]),.pt 0 (Ps [.im jK,.im kg,.im i64,.im cF,.im cF,.im jQ,.im kf,.n .i64,.im jS,.im jV,.ow jZ])])⟩]⟩
def YX:List (Nat×jJ):=[(89,YO),(94,pO u8)]
theorem Tu{V cb}(W:WorldS V cb):j1 cb YX:=(.cons (ED W) (.cons W.c41 .nil))
def AH:List Pl->Lf.T Rs:=J6.step (fun _=>none) (j7 YX 3) 3
def YY:mB:=vY J6 AH rq pD
theorem Tv{V cb}(W:WorldS V cb):lE Rx.w YY (fun n d=>nO (cb n d) n (.bl 8 (.lp J6.body))):=mg (W.toWorld.in (Tu W) 3) (cp _) (m:=3) rq pD
def aBp:Nat->Option mB:=vF [(0,YQ),(2,YS),(4,YU),(6,YW),(8,YY)]
abbrev GA:List Ty:=mT []
abbrev Iu:List Ty:=mT []
def auA:List (Nat×jJ):=[(84,pO jK),(86,pO kg),(85,s63),(87,pO cF),(88,pO jQ),(90,pO kf),(91,pO jS),(92,pO jV),(93,pO jZ)]
theorem aeU{V cb}(W:WorldS V cb):j1 cb auA:=(.cons W.c31 (.cons W.c33 (.cons W.cl (.cons W.c34 (.cons W.c35 (.cons W.c37 (.cons W.c38 (.cons W.c39 (.cons W.c40 .nil)))))))))
def anK(x:ca GA):Lf.T (List Pl):=mN (Ps [.ag (Ps [.im jK,.im kg,.im i64,.im cF,.im cF,.im jQ,.im kf,.n .i64,.im jS,.im jV,.im jZ])]) [] (Ps [.ag (Ps [.im jK,.im kg,.im i64,.im cF,.im cF,.im jQ,.im kf,.n .i64,.im jS,.im jV,.im jZ])]) aBp Tryz.x51 3 (j7 auA 3) (cg GA x)
def anL(x:ca GA):Bool:=j5 (mf Iu (anK x))
def anM(x:ca GA):ca Iu:=j5 (j9 Iu (anK x))
def aBq:jJ:=kR (Ps [.ag (Ps [.im jK,.im kg,.im i64,.im cF,.im cF,.im jQ,.im kf,.n .i64,.im jS,.im jV,.im jZ])]) [] (Ps [.ag (Ps [.im jK,.im kg,.im i64,.im cF,.im cF,.im jQ,.im kf,.n .i64,.im jS,.im jV,.im jZ])]) GA Iu fun x=>.ck (anL x) (.ok (anM x))
theorem aeV{V cb}(W:WorldS V cb):aBq.Ok 51 cb:=
 jP (W.toWorld.in (aeU W) 3) (W.toWorld.st 51 _ rfl) rfl (mz.pH (.cons (b:=J2.body) (by kernel_rfl) (Tk W) (.cons (b:=J3.body) (by kernel_rfl) (Tn W) (.cons (b:=J4.body) (by kernel_rfl) (Tp W) (.cons (b:=J5.body) (by kernel_rfl) (Tt W) (.cons (b:=J6.body) (by kernel_rfl) (Tv W) .nil)))))) (m:=3) rfl (fun _=>cf _) (fun _=>cf _)
theorem QR(l:List (den tI))(n i:Int):(yx (cg ra (l,n,i,()))).val=bif decide (i<n)then cy (jA i (l.length:Int)) (cy (decide (List.length (l.getD i.toNat (cr tI)).2.2.2.2.2<=1099511627776)) (cy (jA i (l.length:Int))
 (some (.next (cg ra (l.set i.toNat ((l.getD i.toNat (cr tI)).1,(l.getD i.toNat (cr tI)).2.1,(l.getD i.toNat (cr tI)).2.2.1,(l.getD i.toNat (cr tI)).2.2.2.1,(l.getD i.toNat (cr tI)).2.2.2.2.1,(l.getD i.toNat (cr tI)).2.2.2.2.2),n,jR .i64 i 1,()))))))else some (.out 0 (cg po (l,()))):=by kernel_rfl
theorem auB(l:List (den tI)):(anJ (l,())).val=cy (decide (l.length<=1099511627776)) (cy (uF yx ra po (l,(l.length:Int),0,())) (some (cg ML (qb yx ra po (l,(l.length:Int),0,()))))):=by kernel_rfl
theorem QS(o1:List (den jK))(o2:List (den kg))(o3:List Int)(o4:List (den cF))(o5:List (den cF))(o6:List (den jQ))(o7:List (den kf))(o8:Int)(o9:List (den jS))(xm:List (den jV))(vA:List (den jZ))(m1:List (den jK))(m2:List (den kg))(m3:List Int)(m4:List (den cF))(m5:List (den cF))(m6:List (den jQ))(m7:List (den kf))(m8:Int)(m9:List (den jS))(la:List (den jV))(lh:List (den jZ))(n i:Int):(AD (cg rb (o1,o2,o3,o4,o5,o6,o7,o8,o9,xm,vA,m1,m2,m3,m4,m5,m6,m7,m8,m9,la,lh,n,i,()))).val=bif decide (i<n)then cy (jA i (m1.length:Int)) (cy (decide (List.length (m1.getD i.toNat (cr jK)).1<=1099511627776)) (cy (decide (List.length (m1.getD i.toNat (cr jK)).2<=1099511627776)) (cy (jA i (m1.length:Int)) (some (.next (cg rb (o1,o2,o3,o4,o5,o6,o7,o8,o9,xm,vA,m1.set i.toNat ((m1.getD i.toNat (cr jK)).1,(m1.getD i.toNat (cr jK)).2),m2,m3,m4,m5,m6,m7,m8,m9,la,lh,n,jR .i64 i 1,())))))))else some (.out 0 (cg px (o1,o2,o3,o4,o5,o6,o7,o8,o9,xm,vA,m1,m2,m3,m4,m5,m6,m7,m8,m9,la,lh,()))):=by kernel_rfl
theorem QT(o1:List (den jK))(o2:List (den kg))(o3:List Int)(o4:List (den cF))(o5:List (den cF))(o6:List (den jQ))(o7:List (den kf))(o8:Int)(o9:List (den jS))(xm:List (den jV))(vA:List (den jZ))(m1:List (den jK))(m2:List (den kg))(m3:List Int)(m4:List (den cF))(m5:List (den cF))(m6:List (den jQ))(m7:List (den kf))(m8:Int)(m9:List (den jS))(la:List (den jV))(lh:List (den jZ))(n i:Int):(AE (cg rh (o1,o2,o3,o4,o5,o6,o7,o8,o9,xm,vA,m1,m2,m3,m4,m5,m6,m7,m8,m9,la,lh,n,i,()))).val=bif decide (i<n)then cy (jA i (m6.length:Int)) (cy (Th ((m6.getD i.toNat (cr jQ)).2.2,())) (cy (jA i (m6.length:Int)) (some (.next (cg rh (o1,o2,o3,o4,o5,o6,o7,o8,o9,xm,vA,m1,m2,m3,m4,m5,m6.set i.toNat ((m6.getD i.toNat (cr jQ)).1,(m6.getD i.toNat (cr jQ)).2.1,(Ti ((m6.getD i.toNat (cr jQ)).2.2,())).1),m7,m8,m9,la,lh,n,jR .i64 i 1,()))))))else some (.out 0 (cg py (o1,o2,o3,o4,o5,o6,o7,o8,o9,xm,vA,m1,m2,m3,m4,m5,m6,m7,m8,m9,la,lh,()))):=by kernel_rfl
theorem QU(o1:List (den jK))(o2:List (den kg))(o3:List Int)(o4:List (den cF))(o5:List (den cF))(o6:List (den jQ))(o7:List (den kf))(o8:Int)(o9:List (den jS))(xm:List (den jV))(vA:List (den jZ))(m1:List (den jK))(m2:List (den kg))(m3:List Int)(m4:List (den cF))(m5:List (den cF))(m6:List (den jQ))(m7:List (den kf))(m8:Int)(m9:List (den jS))(la:List (den jV))(lh:List (den jZ))(n i:Int):(AF (cg rk (o1,o2,o3,o4,o5,o6,o7,o8,o9,xm,vA,m1,m2,m3,m4,m5,m6,m7,m8,m9,la,lh,n,i,()))).val=bif decide (i<n)then cy (jA i (m9.length:Int)) (cy (Th ((m9.getD i.toNat (cr jS)).1,())) (cy (decide (List.length (m9.getD i.toNat (cr jS)).2<=1099511627776)) (cy (jA i (m9.length:Int)) (some (.next (cg rk (o1,o2,o3,o4,o5,o6,o7,o8,o9,xm,vA,m1,m2,m3,m4,m5,m6,m7,m8,m9.set i.toNat ((Ti ((m9.getD i.toNat (cr jS)).1,())).1,(m9.getD i.toNat (cr jS)).2),la,lh,n,jR .i64 i 1,())))))))else some (.out 0 (cg pz (o1,o2,o3,o4,o5,o6,o7,o8,o9,xm,vA,m1,m2,m3,m4,m5,m6,m7,m8,m9,la,lh,()))):=by kernel_rfl
theorem QV(o1:List (den jK))(o2:List (den kg))(o3:List Int)(o4:List (den cF))(o5:List (den cF))(o6:List (den jQ))(o7:List (den kf))(o8:Int)(o9:List (den jS))(xm:List (den jV))(vA:List (den jZ))(m1:List (den jK))(m2:List (den kg))(m3:List Int)(m4:List (den cF))(m5:List (den cF))(m6:List (den jQ))(m7:List (den kf))(m8:Int)(m9:List (den jS))(la:List (den jV))(lh:List (den jZ))(n i:Int):(AG (cg rm (o1,o2,o3,o4,o5,o6,o7,o8,o9,xm,vA,m1,m2,m3,m4,m5,m6,m7,m8,m9,la,lh,n,i,()))).val=bif decide (i<n)then cy (jA i (la.length:Int)) (cy (decide (List.length (la.getD i.toNat (cr jV)).1<=1099511627776)) (cy (Th ((la.getD i.toNat (cr jV)).2,())) (cy (jA i (la.length:Int)) (some (.next (cg rm (o1,o2,o3,o4,o5,o6,o7,o8,o9,xm,vA,m1,m2,m3,m4,m5,m6,m7,m8,m9,la.set i.toNat ((la.getD i.toNat (cr jV)).1,(Ti ((la.getD i.toNat (cr jV)).2,())).1),lh,n,jR .i64 i 1,())))))))else some (.out 0 (cg pA (o1,o2,o3,o4,o5,o6,o7,o8,o9,xm,vA,m1,m2,m3,m4,m5,m6,m7,m8,m9,la,lh,()))):=by kernel_rfl
theorem QW(m1:List (den jK))(m2:List (den kg))(m3:List Int)(m4:List (den cF))(m5:List (den cF))(m6:List (den jQ))(m7:List (den kf))(m8:Int)(m9:List (den jS))(la:List (den jV))(lh:List (den jZ))(n i:Int):(AH (cg rq (m1,m2,m3,m4,m5,m6,m7,m8,m9,la,lh,n,i,()))).val=bif decide (i<n)then cy (jA i (lh.length:Int)) (cy (Th ((lh.getD i.toNat (cr jZ)).1,())) (cy (decide (List.length (lh.getD i.toNat (cr jZ)).2<=1099511627776)) (cy (jA i (lh.length:Int)) (some (.next (cg rq (m1,m2,m3,m4,m5,m6,m7,m8,m9,la,lh.set i.toNat ((Ti ((lh.getD i.toNat (cr jZ)).1,())).1,(lh.getD i.toNat (cr jZ)).2),n,jR .i64 i 1,())))))))else some (.out 0 (cg pD (m1,m2,m3,m4,m5,m6,m7,m8,m9,la,lh,()))):=by kernel_rfl
theorem auC(m1:List (den jK))(m2:List (den kg))(m3:List Int)(m4:List (den cF))(m5:List (den cF))(m6:List (den jQ))(m7:List (den kf))(m8:Int)(m9:List (den jS))(la:List (den jV))(lh:List (den jZ))(X0:ca rb)(hX0:X0=(m1,m2,m3,m4,m5,m6,m7,m8,m9,la,lh,m1,m2,m3,m4,m5,m6,m7,m8,m9,la,lh,(m1.length:Int),0,()))(z0:ca px)(hz0:z0=qb AD rb px X0)(X1:ca rh)(hX1:X1=(mF z0 (z0.2.2.2.2.2.2.2.2.2.2.2.1,z0.2.1,z0.2.2.1,z0.2.2.2.1,z0.2.2.2.2.1,z0.2.2.2.2.2.1,z0.2.2.2.2.2.2.2.2.2.2.2.2.2.2.2.2.2.1,z0.2.2.2.2.2.2.2.2.2.2.2.2.2.2.2.2.2.2.1,z0.2.2.2.2.2.2.2.2.2.2.2.2.2.2.2.2.2.2.2.1,z0.2.2.2.2.2.2.2.2.2.2.2.2.2.2.2.2.2.2.2.2.1,z0.2.2.2.2.2.2.2.2.2.2.2.2.2.2.2.2.2.2.2.2.2.1,(List.length z0.2.2.2.2.2.1:Int),0,())))(z1:ca py)(hz1:z1=qb AE rh py X1)(X2:ca rk)(hX2:X2=(mF z1 (z1.2.2.2.2.2.2.2.2.2.2.2.1,z1.2.2.2.2.2.2.2.2.2.2.2.2.1,z1.2.2.2.2.2.2.2.2.2.2.2.2.2.1,z1.2.2.2.2.2.2.2.2.2.2.2.2.2.2.1,z1.2.2.2.2.2.2.2.2.2.2.2.2.2.2.2.1,z1.2.2.2.2.2.2.2.2.2.2.2.2.2.2.2.2.1,z1.2.2.2.2.2.2.1,z1.2.2.2.2.2.2.2.2.2.2.2.2.2.2.2.2.2.2.1,z1.2.2.2.2.2.2.2.2.1,z1.2.2.2.2.2.2.2.2.2.2.2.2.2.2.2.2.2.2.2.2.1,z1.2.2.2.2.2.2.2.2.2.2.2.2.2.2.2.2.2.2.2.2.2.1,(List.length z1.2.2.2.2.2.2.2.2.1:Int),0,())))(z2:ca pz)(hz2:z2=qb AF rk pz X2)(X3:ca rm)(hX3:X3=(mF z2 (z2.2.2.2.2.2.2.2.2.2.2.2.1,z2.2.2.2.2.2.2.2.2.2.2.2.2.1,z2.2.2.2.2.2.2.2.2.2.2.2.2.2.1,z2.2.2.2.2.2.2.2.2.2.2.2.2.2.2.1,z2.2.2.2.2.2.2.2.2.2.2.2.2.2.2.2.1,z2.2.2.2.2.2.2.2.2.2.2.2.2.2.2.2.2.1,z2.2.2.2.2.2.2.2.2.2.2.2.2.2.2.2.2.2.1,z2.2.2.2.2.2.2.2.2.2.2.2.2.2.2.2.2.2.2.1,z2.2.2.2.2.2.2.2.2.2.2.2.2.2.2.2.2.2.2.2.1,z2.2.2.2.2.2.2.2.2.2.1,z2.2.2.2.2.2.2.2.2.2.2.2.2.2.2.2.2.2.2.2.2.2.1,(List.length z2.2.2.2.2.2.2.2.2.2.1:Int),0,())))(z3:ca pA)(hz3:z3=qb AG rm pA X3)(X4:ca rq)(hX4:X4=(z3.2.2.2.2.2.2.2.2.2.2.2.1,z3.2.2.2.2.2.2.2.2.2.2.2.2.1,z3.2.2.2.2.2.2.2.2.2.2.2.2.2.1,z3.2.2.2.2.2.2.2.2.2.2.2.2.2.2.1,z3.2.2.2.2.2.2.2.2.2.2.2.2.2.2.2.1,z3.2.2.2.2.2.2.2.2.2.2.2.2.2.2.2.2.1,z3.2.2.2.2.2.2.2.2.2.2.2.2.2.2.2.2.2.1,z3.2.2.2.2.2.2.2.2.2.2.2.2.2.2.2.2.2.2.1,z3.2.2.2.2.2.2.2.2.2.2.2.2.2.2.2.2.2.2.2.1,z3.2.2.2.2.2.2.2.2.2.2.2.2.2.2.2.2.2.2.2.2.1,z3.2.2.2.2.2.2.2.2.2.2.1,(List.length z3.2.2.2.2.2.2.2.2.2.2.1:Int),0,()))(z4:ca pD)(hz4:z4=qb AH rq pD X4):(anK (m1,m2,m3,m4,m5,m6,m7,m8,m9,la,lh,())).val=cy (decide (List.length m1<=1099511627776)) (cy (uF AD rb px X0) (cy (decide (List.length z0.2.1<=1099511627776)) (cy (decide (List.length z0.2.2.1<=1099511627776)) (cy (decide (List.length z0.2.2.2.1<=1099511627776)) (cy (decide (List.length z0.2.2.2.2.1<=1099511627776)) (cy (decide (List.length z0.2.2.2.2.2.1<=1099511627776)) (cy (uF AE rh py X1) (cy (decide (List.length z1.2.2.2.2.2.2.1<=1099511627776)) (cy (decide (List.length z1.2.2.2.2.2.2.2.2.1<=1099511627776)) (cy (uF AF rk pz X2) (cy (decide (List.length z2.2.2.2.2.2.2.2.2.2.1<=1099511627776)) (cy (uF AG rm pA X3) (cy (decide (List.length z3.2.2.2.2.2.2.2.2.2.2.1<=1099511627776)) (cy (uF AH rq pD X4) (some (cg Iu z4)))))))))))))))):=by
 subst hz4;subst hX4;subst hz3;subst hX3;subst hz2;subst hX2;subst hz1;subst hX1;subst hz0;subst hX0
 kernel_rfl
def LI(l:List (den tI)):Prop:=l.length<=1099511627776/\ ∀ x:den tI,x∈l->x.2.2.2.2.2.length<=1099511627776
theorem anN(l:List (den tI))(h:LI l):oU yx (cg ra (l,(l.length:Int),((0:Nat):Int),())) 0 (cg po (l,())):=by
 refine De l.length (fun j=>cg ra (l,(l.length:Int),(j:Int),())) _ (fun j hj=>?_) ?_
 ·refine(QR l (l.length:Int) (j:Int)).trans ?_;rw[Int.toNat_natCast,dt (show(j:Int)<(l.length:Int) by omega),show jA (j:Int) (l.length:Int)=true from kF hj,ad1 (by have:=h.1;omega),dt (h.2 _ (wA hj _))];rw[show l.set j ((l.getD j (cr tI)).1,(l.getD j (cr tI)).2.1,(l.getD j (cr tI)).2.2.1,(l.getD j (cr tI)).2.2.2.1,(l.getD j (cr tI)).2.2.2.2.1,(l.getD j (cr tI)).2.2.2.2.2)=l from wz l j (cr tI) hj];rfl
 ·refine(QR l (l.length:Int) (l.length:Int)).trans ?_;rw[df (show ¬ (l.length:Int)<(l.length:Int) by omega)];rfl
theorem MM(l:List (den tI))(h:LI l):Th (l,())=true/\Ti (l,())=(l,()):=by
 refine lH (cf _) (cf _) ?_;have r:=anN l h;obtain⟨q1,q2⟩:=uT (f:=yx) (ti:=ra) (to:=po) r;refine(auB l).trans ?_;rw[dt h.1,show uF yx ra po (l,(l.length:Int),0,())=true from q1,show qb yx ra po (l,(l.length:Int),0,())=_ from q2];rfl
structure MB(m1:List (den jK))(m2:List (den kg))(m3:List Int)(m4:List (den cF))(m5:List (den cF))(m6:List (den jQ))(m7:List (den kf))(m8:Int)(m9:List (den jS))(la:List (den jV))(lh:List (den jZ)):Prop where
 l1:m1.length<=1099511627776
 l2:m2.length<=1099511627776
 l3:m3.length<=1099511627776
 l4:m4.length<=1099511627776
 l5:m5.length<=1099511627776
 l6:m6.length<=1099511627776
 l7:m7.length<=1099511627776
 l9:m9.length<=1099511627776
 l10:la.length<=1099511627776
 Ug:lh.length<=1099511627776
 t: ∀ x:den jK,x∈m1->x.1.length<=1099511627776/\x.2.length<=1099511627776
 g: ∀ x:den jQ,x∈m6->LI x.2.2
 e: ∀ x:den jS,x∈m9->LI x.1/\x.2.length<=1099511627776
 c: ∀ x:den jV,x∈la->x.1.length<=1099511627776/\LI x.2
 d: ∀ x:den jZ,x∈lh->LI x.1/\x.2.length<=1099511627776
section
variable (m1:List (den jK))(m2:List (den kg))(m3:List Int)(m4:List (den cF))(m5:List (den cF))(m6:List (den jQ))(m7:List (den kf))(m8:Int)(m9:List (den jS))(la:List (den jV))(lh:List (den jZ))
theorem anO(o1:List (den jK))(o2:List (den kg))(o3:List Int)(o4:List (den cF))(o5:List (den cF))(o6:List (den jQ))(o7:List (den kf))(o8:Int)(o9:List (den jS))(xm:List (den jV))(vA:List (den jZ))(H:MB m1 m2 m3 m4 m5 m6 m7 m8 m9 la lh):oU AD (cg rb (o1,o2,o3,o4,o5,o6,o7,o8,o9,xm,vA,m1,m2,m3,m4,m5,m6,m7,m8,m9,la,lh,(m1.length:Int),((0:Nat):Int),())) 0 (cg px (o1,o2,o3,o4,o5,o6,o7,o8,o9,xm,vA,m1,m2,m3,m4,m5,m6,m7,m8,m9,la,lh,())):=by
 refine De m1.length (fun j=>cg rb (o1,o2,o3,o4,o5,o6,o7,o8,o9,xm,vA,m1,m2,m3,m4,m5,m6,m7,m8,m9,la,lh,(m1.length:Int),(j:Int),())) _ (fun j hj=>?_) ?_
 ·have hx:=H.t _ (wA hj (cr jK));refine(QS o1 o2 o3 o4 o5 o6 o7 o8 o9 xm vA m1 m2 m3 m4 m5 m6 m7 m8 m9 la lh (m1.length:Int) (j:Int)).trans ?_;rw[Int.toNat_natCast,dt (show(j:Int)<(m1.length:Int) by omega),show jA (j:Int) (m1.length:Int)=true from kF hj,ad1 (by have:=H.l1;omega),dt hx.1,dt hx.2];rw[show m1.set j ((m1.getD j (cr jK)).1,(m1.getD j (cr jK)).2)=m1 from wz m1 j (cr jK) hj];rfl
 ·refine(QS o1 o2 o3 o4 o5 o6 o7 o8 o9 xm vA m1 m2 m3 m4 m5 m6 m7 m8 m9 la lh (m1.length:Int) (m1.length:Int)).trans ?_;rw[df (show ¬ (m1.length:Int)<(m1.length:Int) by omega)];rfl
theorem anP(o1:List (den jK))(o2:List (den kg))(o3:List Int)(o4:List (den cF))(o5:List (den cF))(o6:List (den jQ))(o7:List (den kf))(o8:Int)(o9:List (den jS))(xm:List (den jV))(vA:List (den jZ))(H:MB m1 m2 m3 m4 m5 m6 m7 m8 m9 la lh):oU AE (cg rh (o1,o2,o3,o4,o5,o6,o7,o8,o9,xm,vA,m1,m2,m3,m4,m5,m6,m7,m8,m9,la,lh,(m6.length:Int),((0:Nat):Int),())) 0 (cg py (o1,o2,o3,o4,o5,o6,o7,o8,o9,xm,vA,m1,m2,m3,m4,m5,m6,m7,m8,m9,la,lh,())):=by
 refine De m6.length (fun j=>cg rh (o1,o2,o3,o4,o5,o6,o7,o8,o9,xm,vA,m1,m2,m3,m4,m5,m6,m7,m8,m9,la,lh,(m6.length:Int),(j:Int),())) _ (fun j hj=>?_) ?_
 ·have hx:=H.g _ (wA hj (cr jQ));refine(QT o1 o2 o3 o4 o5 o6 o7 o8 o9 xm vA m1 m2 m3 m4 m5 m6 m7 m8 m9 la lh (m6.length:Int) (j:Int)).trans ?_;rw[Int.toNat_natCast,dt (show(j:Int)<(m6.length:Int) by omega),show jA (j:Int) (m6.length:Int)=true from kF hj,ad1 (by have:=H.l6;omega),(MM _ hx).1,(MM _ hx).2];rw[show m6.set j ((m6.getD j (cr jQ)).1,(m6.getD j (cr jQ)).2.1,(m6.getD j (cr jQ)).2.2)=m6 from wz m6 j (cr jQ) hj];rfl
 ·refine(QT o1 o2 o3 o4 o5 o6 o7 o8 o9 xm vA m1 m2 m3 m4 m5 m6 m7 m8 m9 la lh (m6.length:Int) (m6.length:Int)).trans ?_;rw[df (show ¬ (m6.length:Int)<(m6.length:Int) by omega)];rfl
theorem anQ(o1:List (den jK))(o2:List (den kg))(o3:List Int)(o4:List (den cF))(o5:List (den cF))(o6:List (den jQ))(o7:List (den kf))(o8:Int)(o9:List (den jS))(xm:List (den jV))(vA:List (den jZ))(H:MB m1 m2 m3 m4 m5 m6 m7 m8 m9 la lh):oU AF (cg rk (o1,o2,o3,o4,o5,o6,o7,o8,o9,xm,vA,m1,m2,m3,m4,m5,m6,m7,m8,m9,la,lh,(m9.length:Int),((0:Nat):Int),())) 0 (cg pz (o1,o2,o3,o4,o5,o6,o7,o8,o9,xm,vA,m1,m2,m3,m4,m5,m6,m7,m8,m9,la,lh,())):=by
 refine De m9.length (fun j=>cg rk (o1,o2,o3,o4,o5,o6,o7,o8,o9,xm,vA,m1,m2,m3,m4,m5,m6,m7,m8,m9,la,lh,(m9.length:Int),(j:Int),())) _ (fun j hj=>?_) ?_
 ·have hx:=H.e _ (wA hj (cr jS));refine(QU o1 o2 o3 o4 o5 o6 o7 o8 o9 xm vA m1 m2 m3 m4 m5 m6 m7 m8 m9 la lh (m9.length:Int) (j:Int)).trans ?_;rw[Int.toNat_natCast,dt (show(j:Int)<(m9.length:Int) by omega),show jA (j:Int) (m9.length:Int)=true from kF hj,ad1 (by have:=H.l9;omega),(MM _ hx.1).1,(MM _ hx.1).2,dt hx.2];rw[show m9.set j ((m9.getD j (cr jS)).1,(m9.getD j (cr jS)).2)=m9 from wz m9 j (cr jS) hj];rfl
 ·refine(QU o1 o2 o3 o4 o5 o6 o7 o8 o9 xm vA m1 m2 m3 m4 m5 m6 m7 m8 m9 la lh (m9.length:Int) (m9.length:Int)).trans ?_;rw[df (show ¬ (m9.length:Int)<(m9.length:Int) by omega)];rfl
theorem anR(o1:List (den jK))(o2:List (den kg))(o3:List Int)(o4:List (den cF))(o5:List (den cF))(o6:List (den jQ))(o7:List (den kf))(o8:Int)(o9:List (den jS))(xm:List (den jV))(vA:List (den jZ))(H:MB m1 m2 m3 m4 m5 m6 m7 m8 m9 la lh):oU AG (cg rm (o1,o2,o3,o4,o5,o6,o7,o8,o9,xm,vA,m1,m2,m3,m4,m5,m6,m7,m8,m9,la,lh,(la.length:Int),((0:Nat):Int),())) 0 (cg pA (o1,o2,o3,o4,o5,o6,o7,o8,o9,xm,vA,m1,m2,m3,m4,m5,m6,m7,m8,m9,la,lh,())):=by
 refine De la.length (fun j=>cg rm (o1,o2,o3,o4,o5,o6,o7,o8,o9,xm,vA,m1,m2,m3,m4,m5,m6,m7,m8,m9,la,lh,(la.length:Int),(j:Int),())) _ (fun j hj=>?_) ?_
 ·have hx:=H.c _ (wA hj (cr jV));refine(QV o1 o2 o3 o4 o5 o6 o7 o8 o9 xm vA m1 m2 m3 m4 m5 m6 m7 m8 m9 la lh (la.length:Int) (j:Int)).trans ?_;rw[Int.toNat_natCast,dt (show(j:Int)<(la.length:Int) by omega),show jA (j:Int) (la.length:Int)=true from kF hj,ad1 (by have:=H.l10;omega),(MM _ hx.2).1,(MM _ hx.2).2,dt hx.1];rw[show la.set j ((la.getD j (cr jV)).1,(la.getD j (cr jV)).2)=la from wz la j (cr jV) hj];rfl
 ·refine(QV o1 o2 o3 o4 o5 o6 o7 o8 o9 xm vA m1 m2 m3 m4 m5 m6 m7 m8 m9 la lh (la.length:Int) (la.length:Int)).trans ?_;rw[df (show ¬ (la.length:Int)<(la.length:Int) by omega)];rfl
theorem anS(H:MB m1 m2 m3 m4 m5 m6 m7 m8 m9 la lh):oU AH (cg rq (m1,m2,m3,m4,m5,m6,m7,m8,m9,la,lh,(lh.length:Int),((0:Nat):Int),())) 0 (cg pD (m1,m2,m3,m4,m5,m6,m7,m8,m9,la,lh,())):=by
 refine De lh.length (fun j=>cg rq (m1,m2,m3,m4,m5,m6,m7,m8,m9,la,lh,(lh.length:Int),(j:Int),())) _ (fun j hj=>?_) ?_
 ·have hx:=H.d _ (wA hj (cr jZ));refine(QW m1 m2 m3 m4 m5 m6 m7 m8 m9 la lh (lh.length:Int) (j:Int)).trans ?_;rw[Int.toNat_natCast,dt (show(j:Int)<(lh.length:Int) by omega),show jA (j:Int) (lh.length:Int)=true from kF hj,ad1 (by have:=H.Ug;omega),(MM _ hx.1).1,(MM _ hx.1).2,dt hx.2];rw[show lh.set j ((lh.getD j (cr jZ)).1,(lh.getD j (cr jZ)).2)=lh from wz lh j (cr jZ) hj];rfl
 ·refine(QW m1 m2 m3 m4 m5 m6 m7 m8 m9 la lh (lh.length:Int) (lh.length:Int)).trans ?_;rw[df (show ¬ (lh.length:Int)<(lh.length:Int) by omega)];rfl
theorem aBr(H:MB m1 m2 m3 m4 m5 m6 m7 m8 m9 la lh):anL (m1,m2,m3,m4,m5,m6,m7,m8,m9,la,lh,())=true/\anM (m1,m2,m3,m4,m5,m6,m7,m8,m9,la,lh,())=(m1,m2,m3,m4,m5,m6,m7,m8,m9,la,lh,()):=by
 have q0:=uT (f:=AD) (ti:=rb) (to:=px) (anO m1 m2 m3 m4 m5 m6 m7 m8 m9 la lh m1 m2 m3 m4 m5 m6 m7 m8 m9 la lh H);have q2:=uT (f:=AE) (ti:=rh) (to:=py) (anP m1 m2 m3 m4 m5 m6 m7 m8 m9 la lh m1 m2 m3 m4 m5 m6 m7 m8 m9 la lh H);have q4:=uT (f:=AF) (ti:=rk) (to:=pz) (anQ m1 m2 m3 m4 m5 m6 m7 m8 m9 la lh m1 m2 m3 m4 m5 m6 m7 m8 m9 la lh H);have q6:=uT (f:=AG) (ti:=rm) (to:=pA) (anR m1 m2 m3 m4 m5 m6 m7 m8 m9 la lh m1 m2 m3 m4 m5 m6 m7 m8 m9 la lh H);have q8:=uT (f:=AH) (ti:=rq) (to:=pD) (anS m1 m2 m3 m4 m5 m6 m7 m8 m9 la lh H);refine lH (cf _) (cf _) ?_;refine(auC m1 m2 m3 m4 m5 m6 m7 m8 m9 la lh _ rfl (m1,m2,m3,m4,m5,m6,m7,m8,m9,la,lh,m1,m2,m3,m4,m5,m6,m7,m8,m9,la,lh,()) q0.2.symm _ rfl (m1,m2,m3,m4,m5,m6,m7,m8,m9,la,lh,m1,m2,m3,m4,m5,m6,m7,m8,m9,la,lh,()) q2.2.symm _ rfl (m1,m2,m3,m4,m5,m6,m7,m8,m9,la,lh,m1,m2,m3,m4,m5,m6,m7,m8,m9,la,lh,()) q4.2.symm _ rfl (m1,m2,m3,m4,m5,m6,m7,m8,m9,la,lh,m1,m2,m3,m4,m5,m6,m7,m8,m9,la,lh,()) q6.2.symm _ rfl (m1,m2,m3,m4,m5,m6,m7,m8,m9,la,lh,()) q8.2.symm).trans ?_;dsimp only;rw[dt H.l1,dt H.l2,dt H.l3,dt H.l4,dt H.l5,dt H.l6,dt H.l7,dt H.l9,dt H.l10,dt H.Ug,show uF AD rb px (m1,m2,m3,m4,m5,m6,m7,m8,m9,la,lh,m1,m2,m3,m4,m5,m6,m7,m8,m9,la,lh,(m1.length:Int),0,())=true from q0.1,show uF AE rh py (m1,m2,m3,m4,m5,m6,m7,m8,m9,la,lh,m1,m2,m3,m4,m5,m6,m7,m8,m9,la,lh,(m6.length:Int),0,())=true from q2.1,show uF AF rk pz (m1,m2,m3,m4,m5,m6,m7,m8,m9,la,lh,m1,m2,m3,m4,m5,m6,m7,m8,m9,la,lh,(m9.length:Int),0,())=true from q4.1,show uF AG rm pA (m1,m2,m3,m4,m5,m6,m7,m8,m9,la,lh,m1,m2,m3,m4,m5,m6,m7,m8,m9,la,lh,(la.length:Int),0,())=true from q6.1,show uF AH rq pD (m1,m2,m3,m4,m5,m6,m7,m8,m9,la,lh,(lh.length:Int),0,())=true from q8.1];rfl
end
end Go.Proofs.Vd
noncomputable section
namespace Go.Proofs.Vd
open Go.Ab Go.Ab.Lf
set_option maxRecDepth 100000
theorem Df{P:n9}{ptr:List Nat}{Q:n9}{ti to:List Ty}{g:ca ti->Lf.T (ca to)}{pl q:List Pl}(h:((kR P ptr Q ti to g).f pl).val=some q): ∃ x y,pl=cg ti x/\(g x).val=some y/\q=cg to y:=by
 change (match toT ti pl with|some x=>(g x).map (cg to)|none=>.bad).val=some q at h
 split at h
 ·rename_i x hx
  obtain⟨y,h1,h2⟩:=T.JB h;exact⟨x,y,rL hx,h1,h2⟩
 ·cases h
theorem GB{P:n9}{ptr:List Nat}{Q:n9}{ti to:List Ty}{g:ca ti->Lf.T (ca to)}{x:ca ti}{y:ca to}(h:(g x).val=some y):((kR P ptr Q ti to g).f (cg ti x)).val=some (cg to y):=by
 show(match toT ti (cg ti x)with|some x=>(g x).map (cg to)|none=>.bad).val=_;rw[vw];show((g x).bd fun a=>Lf.T.ok (cg to a)).val=_;rw[Lf.T.Ou,h];rfl
def Uk(V:ByteArray->Bool)(y:ca tM):Bool:=OX V y&&gNx y.2.2.2.2.2.2.1
def s8c(V:ByteArray->Bool):jJ:=kR (Ps [pM]) [] (Ps [.n .i64]) tM [i64] fun y=>.ck (Uk V y) (.ok (rN V y,()))
theorem anT{V cb}(W:WorldN V cb):(s8c V).Ok 50 cb:=by
 intro pl q args H0 E0 h az e hP hv hS;obtain⟨x,y,rfl,h1,rfl⟩:=Df e;obtain⟨h2,h3⟩:=Lf.T.cw h1;injection h3 with h3;obtain⟨y1,y2,y3,y4,y5,y6,y7,y8,y9,y10,y11,⟨⟩⟩:=x;unfold Uk at h2;rw[Bool.and_eq_true]at h2;have s:=qo (aBn (V:=V) (y:=(y1,y2,y3,y4,y5,y6,y7,y8,y9,y10,y11,())) h2.1 h2.2);refine at4 W _ _ args H0 E0 h az (GB (g:=fun x=>.ck (k8 V x) (.ok (m8 V x))) (y:=y) ?_) hP hv hS;show(bif k8 V _ then some (m8 V _)else none)=some y;rw[show k8 V (y1,y2,y3,y4,y5,y6,y7,y8,y9,y10,y11,())=true from s.1,show m8 V (y1,y2,y3,y4,y5,y6,y7,y8,y9,y10,y11,())=_ from s.2,<-h3];rfl
end Go.Proofs.Vd
noncomputable section
namespace Go.Proofs.Vd
open Go.Ab Go.Ab.Lf
set_option maxRecDepth 100000
end Go.Proofs.Vd
noncomputable section
namespace Go.Proofs.Vd
open Go.Ab Go.Ab.Lf
set_option maxRecDepth 100000
end Go.Proofs.Vd
noncomputable section
namespace Go.Proofs.Vd
open Go.Ab Go.Ab.Lf
set_option maxRecDepth 100000
end Go.Proofs.Vd
noncomputable section
namespace Go.Proofs.Vd
open Go.Ab Go.Ab.Lf
set_option maxRecDepth 100000
abbrev iC(o lo hi:Int):den tI:=(o,0,0,lo,hi,[])
abbrev eC(o lo hi:Int):List (den tI):=[iC o lo hi,(11,0,0,0,0,[])]
theorem Pf{n:Nat}(h:n<4294967296):og (n:Int)=true:=by
 unfold og;rw[decide_eq_true (by omega),decide_eq_true (by omega)];rfl
theorem anU{α:Type}{A:Item α}(B:Iq A){most:Int}{l:List α}(hl:(l.length:Int)<=most)(hl2:l.length<=65536)(ho:jC A.ok l=true)(hp: ∀ x,x∈l->B.p x=true)(hw:rE A.wt l<=4294960000):nU B most l=true:=by
 have hr:=Gv B l ho;have hn:=w9 (l.length:Int);unfold nU;rw[decide_eq_true hl,Pf (n:=l.length) (by omega),List.all_eq_true.2 hp,Pf (n:=(nb (l.length:Int)++Av B l).length) (by rw[List.length_append];omega)];cases decide ((l.length:Int)=0)<;>rfl
structure cC(c:List (den tI))(t o lo hi:Int):Prop where
 c:c=eC o lo hi
 o:(o=65/\t=127/\0<=lo/\lo<4294967296/\hi=0)∨(o=66/\t=126/\hi=0)∨(o=64780/\t=123)
end Go.Proofs.Vd
noncomputable section
namespace Go.Proofs.Vd
open Go.Ab Go.Ab.Lf
set_option maxRecDepth 100000
end Go.Proofs.Vd
noncomputable section
namespace Go.Proofs.Vd
open Go.Ab Go.Ab.Lf
set_option maxRecDepth 100000
end Go.Proofs.Vd
noncomputable section
namespace Go.Proofs.Vd
open Go.Ab Go.Ab.Lf
set_option maxRecDepth 100000
end Go.Proofs.Vd
noncomputable section
namespace Go.Proofs.Vd
open Go.Ab Go.Ab.Lf
set_option maxRecDepth 100000
theorem YZ(o lo hi:Int):LI (eC o lo hi):=⟨(show 2<=1099511627776 by decide),fun x hx=>by
 rcases List.mem_cons.1 hx with q|q
 ·rw[q];exact Nat.zero_le _
 ·rw[show x=(11,0,0,0,0,[]) by simpa using q];exact Nat.zero_le _⟩
abbrev gI:List (den jQ):=[(127,true,[iC 65 0 0,iC 11 0 0]),(126,true,[iC 66 0 0,iC 11 0 0]),(123,true,[iC 64780 0 0,iC 11 0 0])]
theorem MN: ∀ (c:List (den tI)) (out:List Int),(∀ x,x∈c->(j8 (mI x)).2=true)->(uH c out).isSome=true
 | [],out,_=>rfl
 |x::c,out,h=>by
  have h1:=h x List.mem_cons_self
  have e:uH (x::c) out=(match(bif (j8 (mI x)).2 then Sum.inl (out++(j8 (mI x)).1)else Sum.inr none:List Int ⊕ Option (List Int))with| .inl q=>uH c q| .inr r=>r):=by kernel_rfl
  rw[e,h1]
  exact MN c _ fun y hy=>h y (List.mem_cons_of_mem _ hy)
theorem wr0{c:List (den tI)}(hc:ly c=true)(h: ∀ x,x∈c->(j8 (mI x)).2=true):uI c=0:=by
 unfold uI Mv;rw[hc,cond_true,MN c [] h];rfl
theorem J7{α:Type}{c:Bool}{X:Option α}{y:α}(h:cy c X=some y):X=some y:=by
 cases c
 ·cases h
 ·exact h
def U(z:Int):Prop:=0<=z/\z<=18446744073709551615
theorem auD{x:Int}(h:U x): ∃ a:Nat,x=a/\a<18446744073709551616:=⟨x.toNat,by have:=h.1;omega,by have:=h.2;have:=h.1;omega⟩
theorem J8(a b:Nat)(ha:a<18446744073709551616)(hb:b<18446744073709551616):wY .u64 (a:Int) (b:Int)=((a &&& b:Nat):Int):=by
 show intOf (bif Nat.blt a 18446744073709551616&&Nat.blt b 18446744073709551616 then some (.int .u64 (.ofNat (Nat.land a b)))else _)=_;rw[show(Nat.blt a 18446744073709551616)=true by simpa using ha,show(Nat.blt b 18446744073709551616)=true by simpa using hb];rfl
section
variable (b:List Int)(mo at_:Int)
end
section
variable (mo at_ n x:Int)
end
end Go.Proofs.Vd
noncomputable section
namespace Go.Proofs.Vd
open Go.Ab Go.Ab.Lf
set_option maxRecDepth 100000
abbrev u32:Ty:=.int .u32
abbrev pU8:n9:=Ps [.n .u8,.n .u8,.n .u8,.n .u8,.n .u8,.n .u8,.n .u8,.n .u8,.n .u8,.n .u8,.n .u8,.n .u8,.n .u8,.n .u8,.n .u8,.n .u8]
abbrev t16(l:List Ty):List Ty:=u8::u8::u8::u8::u8::u8::u8::u8::u8::u8::u8::u8::u8::u8::u8::u8::l
abbrev aBu(a:Nat):n9:=.pt a (Ps [.ow u8,.n .i64])
theorem oG{P:n9}{ptr:List Nat}{Q:n9}{ti to:List Ty}{g g':ca ti->Lf.T (ca to)}{k:Nat}{cb:cx}(h:(kR P ptr Q ti to g).Ok k cb)(e: ∀ x y,(g' x).val=some y->(g x).val=some y):(kR P ptr Q ti to g').Ok k cb:=by
 intro pl q args H0 E0 h0 az hf hP hv hS;obtain⟨x,y,hx,h1,h2⟩:=Df hf;subst hx;subst h2;refine h (cg ti x) (cg to y) args H0 E0 h0 az ?_ hP hv hS;show(match toT ti (cg ti x)with|some x=>(g x).map (cg to)|none=>.bad:Lf.T (List Pl)).val=some (cg to y);rw[vw];show((g x).map (cg to)).val=_;show(((g x).bd fun a=>.ok (cg to a)):Lf.T (List Pl)).val=_;rw[Lf.T.Ou,e x y h1];rfl
def mbB(x:ca GA):Bool:= @decide (MB x.1 x.2.1 x.2.2.1 x.2.2.2.1 x.2.2.2.2.1 x.2.2.2.2.2.1 x.2.2.2.2.2.2.1 x.2.2.2.2.2.2.2.1 x.2.2.2.2.2.2.2.2.1 x.2.2.2.2.2.2.2.2.2.1 x.2.2.2.2.2.2.2.2.2.2.1) (Classical.propDecidable _)
def auE:jJ:=kR (Ps [.ag (Ps [.im jK,.im kg,.im i64,.im cF,.im cF,.im jQ,.im kf,.n .i64,.im jS,.im jV,.im jZ])]) [] (Ps [.ag (Ps [.im jK,.im kg,.im i64,.im cF,.im cF,.im jQ,.im kf,.n .i64,.im jS,.im jV,.im jZ])]) GA Iu fun x=>.ck (mbB x) (.ok x)
theorem aeW{V cb}(W:WorldS V cb):auE.Ok 51 cb:=by
 refine oG (aeV W) fun x y h=>?_
 obtain⟨h1,h⟩:=Lf.T.cw h;cases h;obtain⟨m1,m2,m3,m4,m5,m6,m7,m8,m9,la,lh,⟨⟩⟩:=x;have H:= @of_decide_eq_true _ (Classical.propDecidable _) h1;obtain⟨c1,c2⟩:=aBr m1 m2 m3 m4 m5 m6 m7 m8 m9 la lh H;show(Lf.T.ck (anL (m1,m2,m3,m4,m5,m6,m7,m8,m9,la,lh,())) (.ok (anM (m1,m2,m3,m4,m5,m6,m7,m8,m9,la,lh,())))).val=_;rw[c1,c2];rfl
def auF(Z:List Int):jJ:=kR (Ps [.n .i64,.n .i64]) [] (Ps [.tu (Ps [aBu 0,.n .i64])]) [i64,i64] [.cq u8,i64,i64] fun x=>.ck (decide (x.1=1)&&(decide (x.2.1=1)&&decide (Z=List.replicate 65536 (0:Int)))) (.ok (Z,1,0,()))
theorem aeX{V cb}(W:WorldS V cb)(Z:List Int):(auF Z).Ok 54 cb:=by
 refine j4 (W.toWorld.in .nil 3) (W.toWorld.st 54 _ rfl) rfl (cp _) (m:=3) rfl ?_;rintro⟨a,b,⟨⟩⟩ y h;obtain⟨h1,h⟩:=Lf.T.cw h;cases h;simp only[Bool.and_eq_true,decide_eq_true_eq]at h1;obtain⟨rfl,rfl,rfl⟩:=h1
 kernel_rfl
abbrev kE:Ty:=.pair i64 (.pair i64 (.pair .bool (.pair (.cq i64) (.cq i64))))
abbrev o25:List Ty:=[i64,i64,.bool,.cq i64,.cq i64,.bool]
def GC(I:den kE)(x:Int):den kE:=bif decide (x=32)then(5,0,false,[],[])else bif decide (x=11)then(1,0,false,[],[])else I
def yH(I:den kE)(x:Int):Bool:= @decide (zn x=true/\(kZ x).1=(GC I x).1/\(kZ x).2.1=(GC I x).2.1/\(kZ x).2.2.1=(GC I x).2.2.1/\(kZ x).2.2.2.1=(GC I x).2.2.2.1/\(kZ x).2.2.2.2.1=(GC I x).2.2.2.2) (Classical.propDecidable _)
def aBv(I:den kE):jJ:=kR (Ps [.n .i64]) [] (Ps [.tu (Ps [.ag (Ps [.n .i64,.n .i64,.bo,.im i64,.im i64]),.bo])]) [i64] o25 fun x=>.ck (yH I x.1) (.ok ((GC I x.1).1,(GC I x.1).2.1,(GC I x.1).2.2.1,(GC I x.1).2.2.2.1,(GC I x.1).2.2.2.2,true,()))
theorem aeY{cb:cx}(W:World cb)(I:den kE):(aBv I).Ok 25 cb:=by
 refine oG (C6 W) fun x y h=>?_
 obtain⟨h1,h⟩:=Lf.T.cw h;cases h;obtain⟨a,b,c,d,e,f⟩:= @of_decide_eq_true _ (Classical.propDecidable _) h1;show some ((kZ x.1).1,(kZ x.1).2.1,(kZ x.1).2.2.1,(kZ x.1).2.2.2.1,(kZ x.1).2.2.2.2.1,zn x.1,())=_;rw[a,b,c,d,e,f]
def s5a:jJ:=kR (Ps []) [] (Ps [.bo]) [] [.bool] fun _=>.ok (true,())
structure WI(V:ByteArray->Bool)(cb:cx):Prop extends WorldS V cb where
 aw:s5a.Ok 5 cb
 c59:(pO u64).Ok 59 cb
inductive R2 (a b c:Type) where
 |nx (x:a)
 |o0 (x:b)
 |o1 (x:c)
def rd2(ti t0 t1:List Ty)(o:Rs):Option (R2 (ca ti) (ca t0) (ca t1)):=match o with
 | .next l=>(match toT ti l with
  |some x=>some (.nx x)
  |none=>none)
 | .out 0 l=>(match toT t0 l with
  |some x=>some (.o0 x)
  |none=>none)
 | .out 1 l=>(match toT t1 l with
  |some x=>some (.o1 x)
  |none=>none)
 | _=>none
def wr2(ti t0 t1:List Ty):R2 (ca ti) (ca t0) (ca t1)->Rs
 | .nx x=>.next (cg ti x)
 | .o0 x=>.out 0 (cg t0 x)
 | .o1 x=>.out 1 (cg t1 x)
def Tw(ti t0 t1:List Ty)(x:Lf.T Rs):Option (R2 (ca ti) (ca t0) (ca t1)):=(x.bd fun r=>Lf.T.of (rd2 ti t0 t1 r)).val
theorem Dg{ti t0 t1:List Ty}{x:Lf.T Rs}{r:R2 (ca ti) (ca t0) (ca t1)}(h:Tw ti t0 t1 x=some r):x.val=some (wr2 ti t0 t1 r):=by
 obtain⟨o,ho,h⟩:=Lf.T.kj h;rw[ho];have h:=Lf.T.qX h;unfold rd2 at h;split at h
 ·split at h
  ·rename_i x hx;cases h;rw[rL hx];rfl
  ·cases h
 ·split at h
  ·rename_i x hx;cases h;rw[rL hx];rfl
  ·cases h
 ·split at h
  ·rename_i x hx;cases h;rw[rL hx];rfl
  ·cases h
 ·cases h
end Go.Proofs.Vd
noncomputable section
namespace Go.Proofs.Vv
open Go.Ab Go.Ab.Lf Go.Proofs.Vd
set_option maxRecDepth 100000
abbrev tV(l:List Ty):List Ty:=u8::u8::u8::u8::u8::u8::u8::u8::u8::u8::u8::u8::u8::u8::u8::u8::l
abbrev pV:n9:=.ag (Ps [.n .u8,.n .u8,.n .u8,.n .u8,.n .u8,.n .u8,.n .u8,.n .u8,.n .u8,.n .u8,.n .u8,.n .u8,.n .u8,.n .u8,.n .u8,.n .u8])
abbrev cV(l:List Ty)(v:Nat->Int)(r:ca l):ca (tV l):=(v 0,v 1,v 2,v 3,v 4,v 5,v 6,v 7,v 8,v 9,v 10,v 11,v 12,v 13,v 14,v 15,r)
def vO(y:ca (tV [])):Nat->Int
 |0=>y.1
 |1=>y.2.1
 |2=>y.2.2.1
 |3=>y.2.2.2.1
 |4=>y.2.2.2.2.1
 |5=>y.2.2.2.2.2.1
 |6=>y.2.2.2.2.2.2.1
 |7=>y.2.2.2.2.2.2.2.1
 |8=>y.2.2.2.2.2.2.2.2.1
 |9=>y.2.2.2.2.2.2.2.2.2.1
 |10=>y.2.2.2.2.2.2.2.2.2.2.1
 |11=>y.2.2.2.2.2.2.2.2.2.2.2.1
 |12=>y.2.2.2.2.2.2.2.2.2.2.2.2.1
 |13=>y.2.2.2.2.2.2.2.2.2.2.2.2.2.1
 |14=>y.2.2.2.2.2.2.2.2.2.2.2.2.2.2.1
 |15=>y.2.2.2.2.2.2.2.2.2.2.2.2.2.2.2.1
 | _=>0
def n6(v:Nat->Int)(j:Nat):Nat->Int
 |0=>0
 |n+1=>Cw .u64 (n6 v j n) (FD .u64 (cI .u64 (v (j+n))) (Int.ofNat (8*n)))
def aeZ(v:Nat->Int)(j n:Nat)(x:Int):Nat->Int:=fun m=>bif Nat.ble j m&&Nat.blt m (j+n)then cI .u8 (qR .u64 x (Int.ofNat (8*(m - j))))else v m
def qe(w i:Int):Bool:=(decide (w=8)&&(decide (0<=i)&&decide (i<16)))||((decide (w=16)&&(decide (0<=i)&&decide (i<8)))||((decide (w=32)&&(decide (0<=i)&&decide (i<4)))||(decide (w=64)&&(decide (0<=i)&&decide (i<2)))))
def anV(w i:Int):jJ:=kR (Ps [pV,.li .i64 w,.li .i64 i]) [] (Ps [.n .u64]) (tV []) [u64] fun x=>.ok (n6 (vO x) (i.toNat*(w.toNat / 8)) (w.toNat / 8),())
def anW(w i:Int):jJ:=kR (Ps [pV,.li .i64 w,.li .i64 i,.n .u64]) [] (Ps [pV]) (tV [u64]) (tV []) fun x=>.ok (cV [] (aeZ (vO (mF x (x.2.2.2.2.2.2.2.2.2.2.2.1,x.2.2.2.2.2.2.2.2.2.2.2.2.1,x.2.2.2.2.2.2.2.2.2.2.2.2.2.1,x.2.2.2.2.2.2.2.2.2.2.2.2.2.2.1,x.2.2.2.2.2.2.2.2.2.2.2.2.2.2.2.1,()))) (i.toNat*(w.toNat / 8)) (w.toNat / 8) (x.2.2.2.2.2.2.2.2.2.2.2.2.2.2.2.2.1)) ())
theorem Iv{p:Int->Int->Prop}{w i:Int}(h:qe w i=true)(H:p 8 0/\p 8 1/\p 8 2/\p 8 3/\p 8 4/\p 8 5/\p 8 6/\p 8 7/\p 8 8/\p 8 9/\p 8 10/\p 8 11/\p 8 12/\p 8 13/\p 8 14/\p 8 15/\p 16 0/\p 16 1/\p 16 2/\p 16 3/\p 16 4/\p 16 5/\p 16 6/\p 16 7/\p 32 0/\p 32 1/\p 32 2/\p 32 3/\p 64 0/\p 64 1):p w i:=by
 unfold qe at h;simp only[Bool.or_eq_true,Bool.and_eq_true,decide_eq_true_eq]at h;obtain⟨aBw,aBx,aBy,aBz,aBA,aBB,aBC,aBD,aBE,aBF,auI,auJ,auK,auL,auM,auN,auO,auP,auQ,auR,auS,auT,auU,auV,auW,auX,auY,auZ,au0,au1⟩:=H
 rcases h with⟨rfl,h1,h2⟩|⟨rfl,h1,h2⟩|⟨rfl,h1,h2⟩|⟨rfl,h1,h2⟩
 ·obtain rfl|rfl|rfl|rfl|rfl|rfl|rfl|rfl|rfl|rfl|rfl|rfl|rfl|rfl|rfl|rfl:i=0∨i=1∨i=2∨i=3∨i=4∨i=5∨i=6∨i=7∨i=8∨i=9∨i=10∨i=11∨i=12∨i=13∨i=14∨i=15:=by omega
  ·exact aBw
  ·exact aBx
  ·exact aBy
  ·exact aBz
  ·exact aBA
  ·exact aBB
  ·exact aBC
  ·exact aBD
  ·exact aBE
  ·exact aBF
  ·exact auI
  ·exact auJ
  ·exact auK
  ·exact auL
  ·exact auM
  ·exact auN
 ·obtain rfl|rfl|rfl|rfl|rfl|rfl|rfl|rfl:i=0∨i=1∨i=2∨i=3∨i=4∨i=5∨i=6∨i=7:=by omega
  ·exact auO
  ·exact auP
  ·exact auQ
  ·exact auR
  ·exact auS
  ·exact auT
  ·exact auU
  ·exact auV
 ·obtain rfl|rfl|rfl|rfl:i=0∨i=1∨i=2∨i=3:=by omega
  ·exact auW
  ·exact auX
  ·exact auY
  ·exact auZ
 ·obtain rfl|rfl:i=0∨i=1:=by omega
  ·exact au0
  ·exact au1
theorem ae0{cb:cx}(W:Vd.World cb){w i:Int}(h:qe w i=true):(anV w i).Ok 37 cb:=by
 have key: ∀ w i:Int,(∀ v0 v1 v2 v3 v4 v5 v6 v7 v8 v9 v10 v11 Pg Ph Pj Pk:Int,(mN (Ps [pV,.li .i64 w,.li .i64 i]) [] (Ps [.n .u64]) (fun _=>none) Tryz.x37 12 (j7 [] 12) (cg (tV []) (v0,v1,v2,v3,v4,v5,v6,v7,v8,v9,v10,v11,Pg,Ph,Pj,Pk,()))).val=some (cg [u64] (n6 (vO (v0,v1,v2,v3,v4,v5,v6,v7,v8,v9,v10,v11,Pg,Ph,Pj,Pk,())) (i.toNat*(w.toNat / 8)) (w.toNat / 8),())))->(anV w i).Ok 37 cb:=by
  intro w i e;refine j4 (W.in .nil 12) (W.st 37 _ rfl) rfl (cp _) (m:=12) rfl ?_;rintro⟨v0,v1,v2,v3,v4,v5,v6,v7,v8,v9,v10,v11,Pg,Ph,Pj,Pk,⟨⟩⟩ q h;cases h;exact e v0 v1 v2 v3 v4 v5 v6 v7 v8 v9 v10 v11 Pg Ph Pj Pk
 refine Iv (p:=fun w i=>(anV w i).Ok 37 cb) h ?_
 refine⟨?_,?_,?_,?_,?_,?_,?_,?_,?_,?_,?_,?_,?_,?_,?_,?_,?_,?_,?_,?_,?_,?_,?_,?_,?_,?_,?_,?_,?_,?_⟩<;>(refine key _ _ ?_;intro v0 v1 v2 v3 v4 v5 v6 v7 v8 v9 v10 v11 Pg Ph Pj Pk;kernel_rfl)
theorem ae1{cb:cx}(W:Vd.World cb){w i:Int}(h:qe w i=true):(anW w i).Ok 42 cb:=by
 have key: ∀ w i:Int,(∀ v0 v1 v2 v3 v4 v5 v6 v7 v8 v9 v10 v11 Pg Ph Pj Pk x:Int,(mN (Ps [pV,.li .i64 w,.li .i64 i,.n .u64]) [] (Ps [pV]) (fun _=>none) Tryz.x42 12 (j7 [] 12) (cg (tV [u64]) (v0,v1,v2,v3,v4,v5,v6,v7,v8,v9,v10,v11,Pg,Ph,Pj,Pk,x,()))).val=some (cg (tV []) (cV [] (aeZ (vO (v0,v1,v2,v3,v4,v5,v6,v7,v8,v9,v10,v11,Pg,Ph,Pj,Pk,())) (i.toNat*(w.toNat / 8)) (w.toNat / 8) x) ())))->(anW w i).Ok 42 cb:=by
  intro w i e;refine j4 (W.in .nil 12) (W.st 42 _ rfl) rfl (cp _) (m:=12) rfl ?_;rintro⟨v0,v1,v2,v3,v4,v5,v6,v7,v8,v9,v10,v11,Pg,Ph,Pj,Pk,x,⟨⟩⟩ q h;cases h;exact e v0 v1 v2 v3 v4 v5 v6 v7 v8 v9 v10 v11 Pg Ph Pj Pk x
 refine Iv (p:=fun w i=>(anW w i).Ok 42 cb) h ?_
 refine⟨?_,?_,?_,?_,?_,?_,?_,?_,?_,?_,?_,?_,?_,?_,?_,?_,?_,?_,?_,?_,?_,?_,?_,?_,?_,?_,?_,?_,?_,?_⟩<;>(refine key _ _ ?_;intro v0 v1 v2 v3 v4 v5 v6 v7 v8 v9 v10 v11 Pg Ph Pj Pk x;kernel_rfl)
theorem QX{E:En}{N m:Nat}{k:IntKind}{x:Int}{a:AV}(h:V E N (.c m (.int k) x) a):V E N (.i k x) a:=by
 cases h with
 |c e _=>
  have e:[a]=[AV.int k x]:=e;injection e with e;subst e;exact .i
theorem QY{P:n9}{ptr:List Nat}{Q:n9}{ti to:List Ty}{g:ca ti->Lf.T (ca to)}{pl q:List Pl}(h:((kR P ptr Q ti to g).f pl).val=some q): ∃ x y,pl=cg ti x/\(g x).val=some y/\q=cg to y:=by
 change (match toT ti pl with|some x=>(g x).map (cg to)|none=>.bad:Lf.T (List Pl)).val=some q at h
 split at h
 ·rename_i x hx
  obtain⟨y,h1,h2⟩:=T.JB h;exact⟨x,y,rL hx,h1,h2⟩
 ·cases h
def J9:jJ:=kR (Ps [pV,.n .i64,.n .i64]) [] (Ps [.n .u64]) (tV [i64,i64]) [u64] fun x=>.ck (qe (x.2.2.2.2.2.2.2.2.2.2.2.2.2.2.2.2.1) (x.2.2.2.2.2.2.2.2.2.2.2.2.2.2.2.2.2.1)) (.ok (n6 (vO (mF x (x.2.2.2.2.2.2.2.2.2.2.2.1,x.2.2.2.2.2.2.2.2.2.2.2.2.1,x.2.2.2.2.2.2.2.2.2.2.2.2.2.1,x.2.2.2.2.2.2.2.2.2.2.2.2.2.2.1,x.2.2.2.2.2.2.2.2.2.2.2.2.2.2.2.1,()))) ((x.2.2.2.2.2.2.2.2.2.2.2.2.2.2.2.2.2.1:Int).toNat*((x.2.2.2.2.2.2.2.2.2.2.2.2.2.2.2.2.1:Int).toNat / 8)) ((x.2.2.2.2.2.2.2.2.2.2.2.2.2.2.2.2.1:Int).toNat / 8),()))
theorem u0{cb:cx}(W:Vd.World cb):J9.Ok 37 cb:=by
 intro pl q args H0 E0 h az hf hP hv hS;obtain⟨x,y,hx,h1,h2⟩:=QY hf
 ·subst hx;obtain⟨v0,v1,v2,v3,v4,v5,v6,v7,v8,v9,v10,v11,Pg,Ph,Pj,Pk,w,i,⟨⟩⟩:=x;obtain⟨hl,h1⟩:=Lf.T.cw h1;cases h1;subst h2;cases hP;cases hv with
  |cons ka kr=>cases kr with
   |cons kw kr=>cases kr with
    |cons ki kr=>
     cases kr;exact ae0 W hl (cg (tV []) (v0,v1,v2,v3,v4,v5,v6,v7,v8,v9,v10,v11,Pg,Ph,Pj,Pk,())) _ _ _ E0 h _ (by rfl) (by rfl) (.cons ka (.cons (QX kw) (.cons (QX ki) .nil))) hS
def MO:jJ:=kR (Ps [pV,.n .i64,.n .i64,.n .u64]) [] (Ps [pV]) (tV [i64,i64,u64]) (tV []) fun x=>.ck (qe (x.2.2.2.2.2.2.2.2.2.2.2.2.2.2.2.2.1) (x.2.2.2.2.2.2.2.2.2.2.2.2.2.2.2.2.2.1)) (.ok (cV [] (aeZ (vO (mF x (x.2.2.2.2.2.2.2.2.2.2.2.1,x.2.2.2.2.2.2.2.2.2.2.2.2.1,x.2.2.2.2.2.2.2.2.2.2.2.2.2.1,x.2.2.2.2.2.2.2.2.2.2.2.2.2.2.1,x.2.2.2.2.2.2.2.2.2.2.2.2.2.2.2.1,()))) ((x.2.2.2.2.2.2.2.2.2.2.2.2.2.2.2.2.2.1:Int).toNat*((x.2.2.2.2.2.2.2.2.2.2.2.2.2.2.2.2.1:Int).toNat / 8)) ((x.2.2.2.2.2.2.2.2.2.2.2.2.2.2.2.2.1:Int).toNat / 8) (x.2.2.2.2.2.2.2.2.2.2.2.2.2.2.2.2.2.2.1)) ()))
theorem xn{cb:cx}(W:Vd.World cb):MO.Ok 42 cb:=by
 intro pl q args H0 E0 h az hf hP hv hS;obtain⟨x,y,hx,h1,h2⟩:=QY hf
 ·subst hx;obtain⟨v0,v1,v2,v3,v4,v5,v6,v7,v8,v9,v10,v11,Pg,Ph,Pj,Pk,w,i,z,⟨⟩⟩:=x;obtain⟨hl,h1⟩:=Lf.T.cw h1;cases h1;subst h2;cases hP;cases hv with
  |cons ka kr=>cases kr with
   |cons kw kr=>cases kr with
    |cons ki kr=>
     exact ae1 W hl (cg (tV [u64]) (v0,v1,v2,v3,v4,v5,v6,v7,v8,v9,v10,v11,Pg,Ph,Pj,Pk,z,())) _ _ _ E0 h _ (by rfl) (by rfl) (.cons ka (.cons (QX kw) (.cons (QX ki) kr))) hS
abbrev pU:n9:=(Ps [.n .u8,.n .u8,.n .u8,.n .u8,.n .u8,.n .u8,.n .u8,.n .u8,.n .u8,.n .u8,.n .u8,.n .u8,.n .u8,.n .u8,.n .u8,.n .u8])
abbrev Y0:List Ty:=[u64]
abbrev ae2:List Ty:=[i64]
def t54(x:ca Y0):Lf.T (List Pl):=mN (Ps [.n .u64]) [] (Ps [.n .i64]) (fun _=>none) Tryz.x98 3 (j7 [] 3) (cg Y0 x)
def k54(x:ca Y0):Bool:=j5 (mf ae2 (t54 x))
def m54(x:ca Y0):ca ae2:=j5 (j9 ae2 (t54 x))
def s54:jJ:=kR (Ps [.n .u64]) [] (Ps [.n .i64]) Y0 ae2 fun x=>.ck (k54 x) (.ok (m54 x))
theorem OT{cb:cx}(W:Vd.World cb):s54.Ok 98 cb:=
 jP (W.in .nil 3) (W.st 98 _ rfl) rfl (cp _) (m:=3) rfl (fun _=>cf _) (fun _=>cf _)
abbrev MP:List Ty:=[i64]
abbrev zT:List Ty:=[i64]
def au2:List (Nat×jJ):=[]
theorem ae3{cb:cx}(W:Vd.World cb):j1 cb au2:=.nil
def t246(x:ca MP):Lf.T (List Pl):=mN (Ps [.n .i64]) [] (Ps [.n .i64]) (fun _=>none) Tryz.x41 3 (j7 au2 3) (cg MP x)
def Hr(x:ca MP):Bool:=j5 (mf zT (t246 x))
def uJ(x:ca MP):ca zT:=j5 (j9 zT (t246 x))
def Pm:jJ:=kR (Ps [.n .i64]) [] (Ps [.n .i64]) MP zT fun x=>.ck (Hr x) (.ok (uJ x))
theorem zc{cb:cx}(W:Vd.World cb):Pm.Ok 41 cb:=
 jP (W.in (ae3 W) 3) (W.st 41 _ rfl) rfl (cp _) (m:=3) rfl (fun _=>cf _) (fun _=>cf _)
abbrev MQ:List Ty:=[i64]
abbrev GD:List Ty:=[i64,i64]
def au3:List (Nat×jJ):=[]
theorem ae4{cb:cx}(W:Vd.World cb):j1 cb au3:=.nil
def t250(x:ca MQ):Lf.T (List Pl):=mN (Ps [.n .i64]) [] (Ps [.tu (Ps [.n .i64,.n .i64])]) (fun _=>none) Tryz.x97 3 (j7 au3 3) (cg MQ x)
def Tx(x:ca MQ):Bool:=j5 (mf GD (t250 x))
def Tz(x:ca MQ):ca GD:=j5 (j9 GD (t250 x))
def ae5:jJ:=kR (Ps [.n .i64]) [] (Ps [.tu (Ps [.n .i64,.n .i64])]) MQ GD fun x=>.ck (Tx x) (.ok (Tz x))
theorem J'{cb:cx}(W:Vd.World cb):ae5.Ok 97 cb:=
 jP (W.in (ae4 W) 3) (W.st 97 _ rfl) rfl (cp _) (m:=3) rfl (fun _=>cf _) (fun _=>cf _)
abbrev MR:List Ty:=[i64,i64,u64,u64,i64,i64]
abbrev QZ:List Ty:=[u64]
def au4:List (Nat×jJ):=[]
theorem ae6{cb:cx}(W:Vd.World cb):j1 cb au4:=.nil
def t253(x:ca MR):Lf.T (List Pl):=mN (Ps [.n .i64,.n .i64,.n .u64,.n .u64,.n .i64,.n .i64]) [] (Ps [.n .u64]) (fun _=>none) Tryz.asH 3 (j7 au4 3) (cg MR x)
def anX(x:ca MR):Bool:=j5 (mf QZ (t253 x))
def anY(x:ca MR):ca QZ:=j5 (j9 QZ (t253 x))
def au5:jJ:=kR (Ps [.n .i64,.n .i64,.n .u64,.n .u64,.n .i64,.n .i64]) [] (Ps [.n .u64]) MR QZ fun x=>.ck (anX x) (.ok (anY x))
theorem ae7{cb:cx}(W:Vd.World cb):au5.Ok 101 cb:=
 jP (W.in (ae6 W) 3) (W.st 101 _ rfl) rfl (cp _) (m:=3) rfl (fun _=>cf _) (fun _=>cf _)
abbrev MS:List Ty:=[i64]
abbrev MT:List Ty:=[i64,i64]
def au6:List (Nat×jJ):=[]
theorem ae8{cb:cx}(W:Vd.World cb):j1 cb au6:=.nil
def t254(x:ca MS):Lf.T (List Pl):=mN (Ps [.n .i64]) [] (Ps [.tu (Ps [.n .i64,.n .i64])]) (fun _=>none) Tryz.asI 3 (j7 au6 3) (cg MS x)
def ae9(x:ca MS):Bool:=j5 (mf MT (t254 x))
def ae'(x:ca MS):ca MT:=j5 (j9 MT (t254 x))
def au7:jJ:=kR (Ps [.n .i64]) [] (Ps [.tu (Ps [.n .i64,.n .i64])]) MS MT fun x=>.ck (ae9 x) (.ok (ae' x))
theorem afa{cb:cx}(W:Vd.World cb):au7.Ok 102 cb:=
 jP (W.in (ae8 W) 3) (W.st 102 _ rfl) rfl (cp _) (m:=3) rfl (fun _=>cf _) (fun _=>cf _)
abbrev MU:List Ty:=[i64,i64,i64]
abbrev Q0:List Ty:=[.bool]
def au8:List (Nat×jJ):=[]
theorem afb{cb:cx}(W:Vd.World cb):j1 cb au8:=.nil
def t255(x:ca MU):Lf.T (List Pl):=mN (Ps [.n .i64,.n .i64,.n .i64]) [] (Ps [.bo]) (fun _=>none) Tryz.asJ 3 (j7 au8 3) (cg MU x)
def anZ(x:ca MU):Bool:=j5 (mf Q0 (t255 x))
def an0(x:ca MU):ca Q0:=j5 (j9 Q0 (t255 x))
def au9:jJ:=kR (Ps [.n .i64,.n .i64,.n .i64]) [] (Ps [.bo]) MU Q0 fun x=>.ck (anZ x) (.ok (an0 x))
theorem afc{cb:cx}(W:Vd.World cb):au9.Ok 103 cb:=
 jP (W.in (afb W) 3) (W.st 103 _ rfl) rfl (cp _) (m:=3) rfl (fun _=>cf _) (fun _=>cf _)
abbrev GF:List Ty:=[u8,u8,u8,u8,u8,u8,u8,u8,u8,u8,u8,u8,u8,u8,u8,u8,i64,i64]
abbrev GG:List Ty:=[i64]
def au':List (Nat×jJ):=[(37,J9),(41,Pm)]
theorem afd{cb:cx}(W:Vd.World cb):j1 cb au':=(.cons (u0 W) (.cons (zc W) .nil))
def t247(x:ca GF):Lf.T (List Pl):=mN (Ps [.ag pU,.n .i64,.n .i64]) [] (Ps [.n .i64]) (fun _=>none) Tryz.x80 3 (j7 au' 3) (cg GF x)
def B8(x:ca GF):Bool:=j5 (mf GG (t247 x))
def sw(x:ca GF):ca GG:=j5 (j9 GG (t247 x))
def TA:jJ:=kR (Ps [.ag pU,.n .i64,.n .i64]) [] (Ps [.n .i64]) GF GG fun x=>.ck (B8 x) (.ok (sw x))
theorem zd{cb:cx}(W:Vd.World cb):TA.Ok 80 cb:=
 jP (W.in (afd W) 3) (W.st 80 _ rfl) rfl (cp _) (m:=3) rfl (fun _=>cf _) (fun _=>cf _)
abbrev rV:List Ty:=[u8,u8,u8,u8,u8,u8,u8,u8,u8,u8,u8,u8,u8,u8,u8,u8,u8,u8,u8,u8,u8,u8,u8,u8,u8,u8,u8,u8,u8,u8,u8,u8,u8,u8,u8,u8,u8,u8,u8,u8,u8,u8,u8,u8,u8,u8,u8,u8,i64,i64,i64,u8,u8,u8,u8,u8,u8,u8,u8,u8,u8,u8,u8,u8,u8,u8,u8,i64,i64]
abbrev qA:List Ty:=[u8,u8,u8,u8,u8,u8,u8,u8,u8,u8,u8,u8,u8,u8,u8,u8,i64,u8,u8,u8,u8,u8,u8,u8,u8,u8,u8,u8,u8,u8,u8,u8,u8]
def Ka:qV:=⟨0,mV Tryz.x72.code 0,[4,5,6,7,8,9,10,29,30],(Ps [.pt 0 pU,.pt 0 pU,.pt 0 pU,.n .i64,.n .i64,.n .i64,.pt 0 pU,.n .i64,.n .i64]),[⟨.s7,[6,7,10],(Ps [.pt 0 pU,.n .i64,.pt 0 pU])⟩]⟩
def Y1:List (Nat×jJ):=[(37,J9),(80,TA),(101,au5),(42,MO)]
theorem TC{cb:cx}(W:Vd.World cb):j1 cb Y1:=(.cons (u0 W) (.cons (zd W) (.cons (ae7 W) (.cons (xn W) .nil))))
def Dh:List Pl->Lf.T Rs:=Ka.step (fun _=>none) (j7 Y1 3) 3
def Y2:mB:=vY Ka Dh rV qA
theorem TD{cb:cx}(W:Vd.World cb):lE Rx.w Y2 (fun n d=>nO (cb n d) n (.bl 0 (.lp Ka.body))):=mg (W.in (TC W) 3) (cp _) (m:=3) rV qA
def aBI:Nat->Option mB:=vF [(0,Y2)]
abbrev Iw:List Ty:=[i64,u8,u8,u8,u8,u8,u8,u8,u8,u8,u8,u8,u8,u8,u8,u8,u8,u8,u8,u8,u8,u8,u8,u8,u8,u8,u8,u8,u8,u8,u8,u8,u8]
abbrev B9:List Ty:=[u8,u8,u8,u8,u8,u8,u8,u8,u8,u8,u8,u8,u8,u8,u8,u8,i64]
def ava:List (Nat×jJ):=[(41,Pm),(97,ae5)]
theorem afe{cb:cx}(W:Vd.World cb):j1 cb ava:=(.cons (zc W) (.cons (J' W) .nil))
def t157(x:ca Iw):Lf.T (List Pl):=mN (Ps [.n .i64,.ag pU,.ag pU]) [] (Ps [.tu (Ps [.ag pU,.n .i64])]) aBI Tryz.x72 3 (j7 ava 3) (cg Iw x)
def MV(x:ca Iw):Bool:=j5 (mf B9 (t157 x))
def Ca(x:ca Iw):ca B9:=j5 (j9 B9 (t157 x))
def aBJ:jJ:=kR (Ps [.n .i64,.ag pU,.ag pU]) [] (Ps [.tu (Ps [.ag pU,.n .i64])]) Iw B9 fun x=>.ck (MV x) (.ok (Ca x))
theorem aff{cb:cx}(W:Vd.World cb):aBJ.Ok 72 cb:=
 jP (W.in (afe W) 3) (W.st 72 _ rfl) rfl (mz.pH (.cons (b:=Ka.body) (by kernel_rfl) (TD W) .nil)) (m:=3) rfl (fun _=>cf _) (fun _=>cf _)
abbrev rW:List Ty:=[u32,u8,u8,u8,u8,u8,u8,u8,u8,u8,u8,u8,u8,u8,u8,u8,u8,u8,u8,u8,u8,u8,u8,u8,u8,u8,u8,u8,u8,u8,u8,u8,u8,i64,i64,i64,i64,i64]
abbrev qB:List Ty:=[u8,u8,u8,u8,u8,u8,u8,u8,u8,u8,u8,u8,u8,u8,u8,u8,u8,u8,u8,u8,u8,u8,u8,u8,u8,u8,u8,u8,u8,u8,u8,u8,i64]
def Kb:qV:=⟨0,mV Tryz.x71.code 0,[2,4,6,7,8,9,33,34],(Ps [.n .u32,.pt 0 pU,.pt 0 pU,.n .i64,.n .i64,.n .i64,.n .i64,.n .i64]),[⟨.s7,[4,6,7],(Ps [.pt 0 pU,.pt 0 pU,.n .i64])⟩]⟩
def Y3:List (Nat×jJ):=[(37,J9),(80,TA),(42,MO)]
theorem TF{cb:cx}(W:Vd.World cb):j1 cb Y3:=(.cons (u0 W) (.cons (zd W) (.cons (xn W) .nil)))
def Di:List Pl->Lf.T Rs:=Kb.step (fun _=>none) (j7 Y3 3) 3
def Y4:mB:=vY Kb Di rW qB
theorem TG{cb:cx}(W:Vd.World cb):lE Rx.w Y4 (fun n d=>nO (cb n d) n (.bl 0 (.lp Kb.body))):=mg (W.in (TF W) 3) (cp _) (m:=3) rW qB
def aBK:Nat->Option mB:=vF [(0,Y4)]
abbrev Ix:List Ty:=[i64,u8,u8,u8,u8,u8,u8,u8,u8,u8,u8,u8,u8,u8,u8,u8,u8,u32]
abbrev Cb:List Ty:=[u8,u8,u8,u8,u8,u8,u8,u8,u8,u8,u8,u8,u8,u8,u8,u8,i64]
def avb:List (Nat×jJ):=[(41,Pm),(97,ae5)]
theorem afg{cb:cx}(W:Vd.World cb):j1 cb avb:=(.cons (zc W) (.cons (J' W) .nil))
def t156(x:ca Ix):Lf.T (List Pl):=mN (Ps [.n .i64,.ag pU,.n .u32]) [] (Ps [.tu (Ps [.ag pU,.n .i64])]) aBK Tryz.x71 3 (j7 avb 3) (cg Ix x)
def TH(x:ca Ix):Bool:=j5 (mf Cb (t156 x))
def Dj(x:ca Ix):ca Cb:=j5 (j9 Cb (t156 x))
def aBL:jJ:=kR (Ps [.n .i64,.ag pU,.n .u32]) [] (Ps [.tu (Ps [.ag pU,.n .i64])]) Ix Cb fun x=>.ck (TH x) (.ok (Dj x))
theorem afh{cb:cx}(W:Vd.World cb):aBL.Ok 71 cb:=
 jP (W.in (afg W) 3) (W.st 71 _ rfl) rfl (mz.pH (.cons (b:=Kb.body) (by kernel_rfl) (TG W) .nil)) (m:=3) rfl (fun _=>cf _) (fun _=>cf _)
abbrev rX:List Ty:=[u8,u8,u8,u8,u8,u8,u8,u8,u8,u8,u8,u8,u8,u8,u8,u8,u8,u8,u8,u8,u8,u8,u8,u8,u8,u8,u8,u8,u8,u8,u8,u8,i64,i64,i64,i64,i64]
abbrev qC:List Ty:=[u8,u8,u8,u8,u8,u8,u8,u8,u8,u8,u8,u8,u8,u8,u8,u8,u8,u8,u8,u8,u8,u8,u8,u8,u8,u8,u8,u8,u8,u8,u8,u8,i64]
def Kc:qV:=⟨0,mV Tryz.x69.code 0,[3,4,5,6,7,23,24],(Ps [.pt 0 pU,.pt 0 pU,.n .i64,.n .i64,.n .i64,.n .i64,.n .i64]),[⟨.s7,[3,4,5],(Ps [.pt 0 pU,.pt 0 pU,.n .i64])⟩]⟩
def Y5:List (Nat×jJ):=[(98,s54),(37,J9),(80,TA),(42,MO)]
theorem TI{cb:cx}(W:Vd.World cb):j1 cb Y5:=(.cons (OT W) (.cons (u0 W) (.cons (zd W) (.cons (xn W) .nil))))
def Dk:List Pl->Lf.T Rs:=Kc.step (fun _=>none) (j7 Y5 3) 3
def Y6:mB:=vY Kc Dk rX qC
theorem TJ{cb:cx}(W:Vd.World cb):lE Rx.w Y6 (fun n d=>nO (cb n d) n (.bl 0 (.lp Kc.body))):=mg (W.in (TI W) 3) (cp _) (m:=3) rX qC
def aBM:Nat->Option mB:=vF [(0,Y6)]
abbrev Iy:List Ty:=[i64,u8,u8,u8,u8,u8,u8,u8,u8,u8,u8,u8,u8,u8,u8,u8,u8]
abbrev Cc:List Ty:=[u8,u8,u8,u8,u8,u8,u8,u8,u8,u8,u8,u8,u8,u8,u8,u8,i64]
def avc:List (Nat×jJ):=[(41,Pm),(97,ae5)]
theorem afi{cb:cx}(W:Vd.World cb):j1 cb avc:=(.cons (zc W) (.cons (J' W) .nil))
def t154(x:ca Iy):Lf.T (List Pl):=mN (Ps [.n .i64,.ag pU]) [] (Ps [.tu (Ps [.ag pU,.n .i64])]) aBM Tryz.x69 3 (j7 avc 3) (cg Iy x)
def TK(x:ca Iy):Bool:=j5 (mf Cc (t154 x))
def GH(x:ca Iy):ca Cc:=j5 (j9 Cc (t154 x))
def aBN:jJ:=kR (Ps [.n .i64,.ag pU]) [] (Ps [.tu (Ps [.ag pU,.n .i64])]) Iy Cc fun x=>.ck (TK x) (.ok (GH x))
theorem afj{cb:cx}(W:Vd.World cb):aBN.Ok 69 cb:=
 jP (W.in (afi W) 3) (W.st 69 _ rfl) rfl (mz.pH (.cons (b:=Kc.body) (by kernel_rfl) (TJ W) .nil)) (m:=3) rfl (fun _=>cf _) (fun _=>cf _)
abbrev rY:List Ty:=[u8,u8,u8,u8,u8,u8,u8,u8,u8,u8,u8,u8,u8,u8,u8,u8,u8,u8,u8,u8,u8,u8,u8,u8,u8,u8,u8,u8,u8,u8,u8,u8,u8,u8,u8,u8,u8,u8,u8,u8,u8,u8,u8,u8,u8,u8,u8,u8,i64,i64,i64,u8,u8,u8,u8,u8,u8,u8,u8,u8,u8,u8,u8,u8,u8,u8,u8,i64,i64]
abbrev qD:List Ty:=[u8,u8,u8,u8,u8,u8,u8,u8,u8,u8,u8,u8,u8,u8,u8,u8,i64,u8,u8,u8,u8,u8,u8,u8,u8,u8,u8,u8,u8,u8,u8,u8,u8]
def Ke:qV:=⟨0,mV Tryz.x73.code 0,[4,5,6,7,8,9,10,21,22],(Ps [.pt 0 pU,.pt 0 pU,.pt 0 pU,.n .i64,.n .i64,.n .i64,.pt 0 pU,.n .i64,.n .i64]),[⟨.s7,[6,7,10],(Ps [.pt 0 pU,.n .i64,.pt 0 pU])⟩]⟩
def Y7:List (Nat×jJ):=[(80,TA),(103,au9),(42,MO)]
theorem TL{cb:cx}(W:Vd.World cb):j1 cb Y7:=(.cons (zd W) (.cons (afc W) (.cons (xn W) .nil)))
def Dl:List Pl->Lf.T Rs:=Ke.step (fun _=>none) (j7 Y7 3) 3
def Y8:mB:=vY Ke Dl rY qD
theorem TM{cb:cx}(W:Vd.World cb):lE Rx.w Y8 (fun n d=>nO (cb n d) n (.bl 0 (.lp Ke.body))):=mg (W.in (TL W) 3) (cp _) (m:=3) rY qD
def aBO:Nat->Option mB:=vF [(0,Y8)]
abbrev Iz:List Ty:=[i64,u8,u8,u8,u8,u8,u8,u8,u8,u8,u8,u8,u8,u8,u8,u8,u8,u8,u8,u8,u8,u8,u8,u8,u8,u8,u8,u8,u8,u8,u8,u8,u8]
abbrev Cd:List Ty:=[u8,u8,u8,u8,u8,u8,u8,u8,u8,u8,u8,u8,u8,u8,u8,u8,i64]
def avd:List (Nat×jJ):=[(41,Pm),(102,au7)]
theorem afk{cb:cx}(W:Vd.World cb):j1 cb avd:=(.cons (zc W) (.cons (afa W) .nil))
def t158(x:ca Iz):Lf.T (List Pl):=mN (Ps [.n .i64,.ag pU,.ag pU]) [] (Ps [.tu (Ps [.ag pU,.n .i64])]) aBO Tryz.x73 3 (j7 avd 3) (cg Iz x)
def TN(x:ca Iz):Bool:=j5 (mf Cd (t158 x))
def GJ(x:ca Iz):ca Cd:=j5 (j9 Cd (t158 x))
def aBP:jJ:=kR (Ps [.n .i64,.ag pU,.ag pU]) [] (Ps [.tu (Ps [.ag pU,.n .i64])]) Iz Cd fun x=>.ck (TN x) (.ok (GJ x))
theorem afl{cb:cx}(W:Vd.World cb):aBP.Ok 73 cb:=
 jP (W.in (afk W) 3) (W.st 73 _ rfl) rfl (mz.pH (.cons (b:=Ke.body) (by kernel_rfl) (TM W) .nil)) (m:=3) rfl (fun _=>cf _) (fun _=>cf _)
abbrev rr:List Ty:=[u8,u8,u8,u8,u8,u8,u8,u8,u8,u8,u8,u8,u8,u8,u8,u8,u32,i64,i64,i64,u32,u32,i64,i64]
abbrev pE:List Ty:=[u32,i64,i64,u32,u32]
def Kf:qV:=⟨0,mV Tryz.x62.code 0,[3,4,5,6,7,8,9,39,40],(Ps [.pt 0 pU,.n .u32,.n .i64,.n .i64,.n .i64,.n .u32,.n .u32,.n .i64,.n .i64]),[⟨.s7,[4,5,6,8,9],(Ps [.n .u32,.n .i64,.n .i64,.n .u32,.n .u32])⟩]⟩
def Y9:List (Nat×jJ):=[(80,TA),(37,J9)]
theorem TO{cb:cx}(W:Vd.World cb):j1 cb Y9:=(.cons (zd W) (.cons (u0 W) .nil))
def AJ:List Pl->Lf.T Rs:=Kf.step (fun _=>none) (j7 Y9 3) 3
def Y':mB:=vY Kf AJ rr pE
theorem TP{cb:cx}(W:Vd.World cb):lE Rx.w Y' (fun n d=>nO (cb n d) n (.bl 0 (.lp Kf.body))):=mg (W.in (TO W) 3) (cp _) (m:=3) rr pE
def aBQ:Nat->Option mB:=vF [(0,Y')]
abbrev IA:List Ty:=[i64,u8,u8,u8,u8,u8,u8,u8,u8,u8,u8,u8,u8,u8,u8,u8,u8]
abbrev wB:List Ty:=[u32,i64]
def ave:List (Nat×jJ):=[(41,Pm)]
theorem afm{cb:cx}(W:Vd.World cb):j1 cb ave:=(.cons (zc W) .nil)
def t146(x:ca IA):Lf.T (List Pl):=mN (Ps [.n .i64,.ag pU]) [] (Ps [.tu (Ps [.n .u32,.n .i64])]) aBQ Tryz.x62 3 (j7 ave 3) (cg IA x)
def Eb(x:ca IA):Bool:=j5 (mf wB (t146 x))
def zu(x:ca IA):ca wB:=j5 (j9 wB (t146 x))
def aBR:jJ:=kR (Ps [.n .i64,.ag pU]) [] (Ps [.tu (Ps [.n .u32,.n .i64])]) IA wB fun x=>.ck (Eb x) (.ok (zu x))
theorem afn{cb:cx}(W:Vd.World cb):aBR.Ok 62 cb:=
 jP (W.in (afm W) 3) (W.st 62 _ rfl) rfl (mz.pH (.cons (b:=Kf.body) (by kernel_rfl) (TP W) .nil)) (m:=3) rfl (fun _=>cf _) (fun _=>cf _)
def kb(v:Nat->Int):Bool:=decide (v 0=v 0)&&(decide (v 1=v 1)&&(decide (v 2=v 2)&&(decide (v 3=v 3)&&(decide (v 4=v 4)&&(decide (v 5=v 5)&&(decide (v 6=v 6)&&(decide (v 7=v 7)&&(decide (v 8=v 8)&&(decide (v 9=v 9)&&(decide (v 10=v 10)&&(decide (v 11=v 11)&&(decide (v 12=v 12)&&(decide (v 13=v 13)&&(decide (v 14=v 14)&&(decide (v 15=v 15))))))))))))))))
theorem mJ(v:Nat->Int):kb v=true:=by unfold kb;simp
abbrev jX(w i:Int):Nat:=i.toNat*(w.toNat / 8)
abbrev nX(w:Int):Nat:=w.toNat / 8
abbrev gX(v:Nat->Int)(w i:Int):Int:=n6 v (jX w i) (nX w)
abbrev pX(v:Nat->Int)(w i x:Int):Nat->Int:=aeZ v (jX w i) (nX w) x
abbrev sX(v:Nat->Int)(w i:Int):ca GF:=cV [i64,i64] v (w,i,())
abbrev rZ:Nat->Int:=fun _=>0
theorem ajs(yv:ca (tV []))(w i:Int):(t247 (sX (vO yv) w i)).val=cy (Hr (w,())) (bif decide ((uJ (w,())).1=0)then some (cg GG (0,()))else cy (qe w i) (cy (decide (0<=jF .i64 64 w)) (cy (decide (0<=jF .i64 64 w)) (some (cg GG (qR .i64 (FD .i64 (cI .i64 (gX (vO yv) w i)) (jF .i64 64 w)) (jF .i64 64 w),())))))):=by kernel_rfl
section
variable (a b r o v:Nat->Int)(ya yb yr yo yv:ca (tV []))(e w k n i op:Int)
abbrev Pn:ca rV:=cV (tV (tV (i64::i64::i64::tV [i64,i64]))) a (cV (tV (i64::i64::i64::tV [i64,i64])) b (cV (i64::i64::i64::tV [i64,i64]) r (e,w,k,cV [i64,i64] o (n,i,()))))
theorem Kg:Tw rV qA [] (Dh (cg rV (Pn (vO ya) (vO yb) (vO yr) (vO yo) e w k n i)))=bif decide (i<n)then
 cy (qe w i) (cy (kb (vO yb)) (cy (qe w i) (cy (B8 (sX (vO ya) w i)) (cy (kb (vO yb)) (cy (B8 (sX (vO yb) w i)) (cy (anX (w,k,gX (vO ya) w i,gX (vO yb) w i,(sw (sX (vO ya) w i)).1,(sw (sX (vO yb) w i)).1,())) (cy (kb (vO yo)) (cy (qe w i)
  (some (.nx ((Pn (vO ya) (vO yb) (vO yr) (pX (vO yo) w i (anY (w,k,gX (vO ya) w i,gX (vO yb) w i,(sw (sX (vO ya) w i)).1,(sw (sX (vO yb) w i)).1,())).1) e w k n (jR .i64 i 1)))))))))))))
 else some (.o0 ((cV (i64::tV []) (vO yr) (e,cV [] (vO yo) ())))):=by kernel_rfl
theorem avf(p:ca GD)(hp:p=Tz (op,()))(x:ca rV)(hx:x=Pn (vO ya) (vO yb) rZ rZ 0 p.1 p.2.1 (uJ (p.1,())).1 0)(y:ca qA)(hy:y=qb Dh rV qA x):(t157 (op,cV (tV []) (vO ya) (cV [] (vO yb) ()))).val=cy (Tx (op,())) (bif (bif decide (p.1=0)then true else decide (p.2.1<14))then some (cg B9 (cV [i64] rZ (1,())))else
 cy (Hr (p.1,())) (cy (uF Dh rV qA x) (some (cg B9 (cV [i64] (vO (mF y.2.2.2.2.2.2.2.2.2.2.2.2.2.2.2.2.2 (y.2.2.2.2.2.2.2.2.2.2.2.2.2.2.2.2.2.2.2.2.2.2.2.2.2.2.2.2.1,y.2.2.2.2.2.2.2.2.2.2.2.2.2.2.2.2.2.2.2.2.2.2.2.2.2.2.2.2.2.1,y.2.2.2.2.2.2.2.2.2.2.2.2.2.2.2.2.2.2.2.2.2.2.2.2.2.2.2.2.2.2.1,y.2.2.2.2.2.2.2.2.2.2.2.2.2.2.2.2.2.2.2.2.2.2.2.2.2.2.2.2.2.2.2.1,y.2.2.2.2.2.2.2.2.2.2.2.2.2.2.2.2.2.2.2.2.2.2.2.2.2.2.2.2.2.2.2.2.1,()))) (0,())))))):=by
 subst hy;subst hx;subst hp
 kernel_rfl
abbrev Kh(q:Int):ca rW:=(q,cV (tV [i64,i64,i64,i64,i64]) v (cV [i64,i64,i64,i64,i64] r (e,w,k,n,i,())))
theorem Ki(q:Int):Tw rW qB [] (Di (cg rW (Kh (vO yr) (vO yv) e w k n i q)))=bif decide (i<n)then
 cy (qe w i) (cy (decide (0<=q)) (bif decide (k=11)then cy (qe w i) (cy (decide (0<=q)) (cy (qe w i) (some (.nx ((Kh (vO yr) (pX (vO yv) w i (FD .u64 (gX (vO yv) w i) q)) e w k n (jR .i64 i 1) q))))))
  else bif decide (k=12)then cy (B8 (sX (vO yv) w i)) (cy (decide (0<=q)) (cy (qe w i) (some (.nx ((Kh (vO yr) (pX (vO yv) w i (cI .u64 (qR .i64 (sw (sX (vO yv) w i)).1 q))) e w k n (jR .i64 i 1) q))))))
  else cy (qe w i) (some (.nx ((Kh (vO yr) (pX (vO yv) w i (qR .u64 (gX (vO yv) w i) q)) e w k n (jR .i64 i 1) q))))))
 else some (.o0 ((cV (tV [i64]) (vO yv) (cV [i64] (vO yr) (e,()))))):=by kernel_rfl
theorem avg(q:Int)(p:ca GD)(hp:p=Tz (op,()))(x:ca rW)(hx:x=Kh rZ (vO ya) 0 p.1 p.2.1 (uJ (p.1,())).1 0 (Sn .u32 q (cI .u32 p.1)))(y:ca qB)(hy:y=qb Di rW qB x):(t156 (op,cV [u32] (vO ya) (q,()))).val=cy (Tx (op,())) (bif (bif decide (p.1=0)then true else bif decide (p.2.1<11)then true else decide (13<p.2.1))then some (cg Cb (cV [i64] rZ (1,())))else
 cy (!decide (cI .u32 p.1=0)) (cy (Hr (p.1,())) (cy (uF Di rW qB x) (some (cg Cb (cV [i64] (vO (mF y (y.2.2.2.2.2.2.2.2.2.2.2.1,y.2.2.2.2.2.2.2.2.2.2.2.2.1,y.2.2.2.2.2.2.2.2.2.2.2.2.2.1,y.2.2.2.2.2.2.2.2.2.2.2.2.2.2.1,y.2.2.2.2.2.2.2.2.2.2.2.2.2.2.2.1,()))) (0,()))))))):=by
 subst hy;subst hx;subst hp
 kernel_rfl
abbrev Hs:ca rX:=cV (tV [i64,i64,i64,i64,i64]) v (cV [i64,i64,i64,i64,i64] r (e,w,k,n,i,()))
theorem Kj:Tw rX qC [] (Dk (cg rX (Hs (vO yr) (vO yv) e w k n i)))=bif decide (i<n)then
 cy (qe w i) (bif decide (k=2)then cy (k54 (gX (vO yv) w i,())) (cy (qe w i) (some (.nx ((Hs (vO yr) (pX (vO yv) w i (cI .u64 (m54 (gX (vO yv) w i,())).1)) e w k n (jR .i64 i 1))))))
  else bif decide (k=1)then cy (qe w i) (some (.nx ((Hs (vO yr) (pX (vO yv) w i (So .u64 (gX (vO yv) w i))) e w k n (jR .i64 i 1)))))
  else cy (B8 (sX (vO yv) w i)) (bif decide ((sw (sX (vO yv) w i)).1<0)then cy (qe w i) (some (.nx ((Hs (vO yr) (pX (vO yv) w i (So .u64 (gX (vO yv) w i))) e w k n (jR .i64 i 1)))))else cy (qe w i) (some (.nx ((Hs (vO yr) (pX (vO yv) w i (gX (vO yv) w i)) e w k n (jR .i64 i 1)))))))
 else some (.o0 ((cV (tV [i64]) (vO yv) (cV [i64] (vO yr) (e,()))))):=by kernel_rfl
theorem avh(p:ca GD)(hp:p=Tz (op,()))(x:ca rX)(hx:x=Hs rZ (vO ya) 0 p.1 p.2.1 (uJ (p.1,())).1 0)(y:ca qC)(hy:y=qb Dk rX qC x):(t154 (op,cV [] (vO ya) ())).val=cy (Tx (op,())) (bif (bif decide (p.1=0)then true else decide (2<p.2.1))then some (cg Cc (cV [i64] rZ (1,())))else
 cy (Hr (p.1,())) (cy (uF Dk rX qC x) (some (cg Cc (cV [i64] (vO (mF y (y.2.2.2.2.2.2.2.2.2.2.2.1,y.2.2.2.2.2.2.2.2.2.2.2.2.1,y.2.2.2.2.2.2.2.2.2.2.2.2.2.1,y.2.2.2.2.2.2.2.2.2.2.2.2.2.2.1,y.2.2.2.2.2.2.2.2.2.2.2.2.2.2.2.1,()))) (0,())))))):=by
 subst hy;subst hx;subst hp
 kernel_rfl
abbrev MW:ca rY:=cV (tV (tV (i64::i64::i64::tV [i64,i64]))) a (cV (tV (i64::i64::i64::tV [i64,i64])) b (cV (i64::i64::i64::tV [i64,i64]) r (e,w,k,cV [i64,i64] o (n,i,()))))
theorem Kk:Tw rY qD [] (Dl (cg rY (MW (vO ya) (vO yb) (vO yr) (vO yo) e w k n i)))=bif decide (i<n)then
 cy (B8 (sX (vO ya) w i)) (cy (kb (vO yb)) (cy (B8 (sX (vO yb) w i)) (cy (anZ (k,(sw (sX (vO ya) w i)).1,(sw (sX (vO yb) w i)).1,())) (bif (an0 (k,(sw (sX (vO ya) w i)).1,(sw (sX (vO yb) w i)).1,())).1 then cy (qe w i) (some (.nx ((MW (vO ya) (vO yb) (vO yr) (pX (vO yo) w i 18446744073709551615) e w k n (jR .i64 i 1)))))
  else some (.nx ((MW (vO ya) (vO yb) (vO yr) (vO yo) e w k n (jR .i64 i 1))))))))
 else some (.o0 ((cV (i64::tV []) (vO yr) (e,cV [] (vO yo) ())))):=by kernel_rfl
theorem avi(p:ca MT)(hp:p=ae' (op,()))(x:ca rY)(hx:x=MW (vO ya) (vO yb) rZ rZ 0 p.1 p.2.1 (uJ (p.1,())).1 0)(y:ca qD)(hy:y=qb Dl rY qD x):(t158 (op,cV (tV []) (vO ya) (cV [] (vO yb) ()))).val=cy (ae9 (op,())) (bif decide (p.2.1<0)then some (cg Cd (cV [i64] rZ (1,())))else
 cy (Hr (p.1,())) (cy (uF Dl rY qD x) (some (cg Cd (cV [i64] (vO (mF y.2.2.2.2.2.2.2.2.2.2.2.2.2.2.2.2.2 (y.2.2.2.2.2.2.2.2.2.2.2.2.2.2.2.2.2.2.2.2.2.2.2.2.2.2.2.2.1,y.2.2.2.2.2.2.2.2.2.2.2.2.2.2.2.2.2.2.2.2.2.2.2.2.2.2.2.2.2.1,y.2.2.2.2.2.2.2.2.2.2.2.2.2.2.2.2.2.2.2.2.2.2.2.2.2.2.2.2.2.2.1,y.2.2.2.2.2.2.2.2.2.2.2.2.2.2.2.2.2.2.2.2.2.2.2.2.2.2.2.2.2.2.2.1,y.2.2.2.2.2.2.2.2.2.2.2.2.2.2.2.2.2.2.2.2.2.2.2.2.2.2.2.2.2.2.2.2.1,()))) (0,())))))):=by
 subst hy;subst hx;subst hp
 kernel_rfl
abbrev GK(r4 e5 k6 w7 m8 a9 n i:Int):ca rr:=cV [u32,i64,i64,i64,u32,u32,i64,i64] v (r4,e5,k6,w7,m8,a9,n,i,())
theorem Km(r4 e5 k6 w7 m8 a9:Int):Tw rr pE [] (AJ (cg rr (GK (vO yv) r4 e5 k6 w7 m8 a9 n i)))=bif decide (i<n)then
 cy (B8 (sX (vO yv) w7 i)) (bif decide ((sw (sX (vO yv) w7 i)).1<0)then cy (decide (0<=i)) (cy (qe w7 i) (bif decide (gX (vO yv) w7 i=0)then some (.nx ((GK (vO yv) r4 e5 k6 w7 (Cw .u32 m8 (FD .u32 1 i)) 0 n (jR .i64 i 1))))else some (.nx ((GK (vO yv) r4 e5 k6 w7 (Cw .u32 m8 (FD .u32 1 i)) a9 n (jR .i64 i 1))))))
  else cy (qe w7 i) (bif decide (gX (vO yv) w7 i=0)then some (.nx ((GK (vO yv) r4 e5 k6 w7 m8 0 n (jR .i64 i 1))))else some (.nx ((GK (vO yv) r4 e5 k6 w7 m8 a9 n (jR .i64 i 1))))))
 else some (.o0 ((r4,e5,k6,m8,a9,()))):=by kernel_rfl
end
end Go.Proofs.Vv
