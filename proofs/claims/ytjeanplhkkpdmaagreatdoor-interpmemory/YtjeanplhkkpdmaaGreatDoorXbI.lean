import Derived.Test.YtjeanplhkkpdmaaGreatDoorAb35
namespace Go.Proofs
set_option maxRecDepth 100000
noncomputable section
open Go.Ab.X
open Go.Ab (xF Od AV jz uX qR BF UF RV)
namespace Y
abbrev R'(k:Nat)(r:Nat->uX):qR:=.rg (r k)
abbrev E':Nat->uX:=fun _=>.fi
abbrev S'(a:Nat->jz)(r:Nat->uX):Nat->uX:=fun k=>.st k (a k) (r (Nat.succ k))
abbrev D'(j:Nat)(a:Nat->jz)(r:Nat->uX):Nat->uX:=fun k=>.st j (a k) (r k)
abbrev N'(a:Nat->jz)(r:Nat->uX):Nat->uX:=fun k=>.sn (a k) (r k)
abbrev Q'(s:Nat->Od)(a:Nat->jz)(r:Nat->uX):Nat->uX:=fun k=>.ck (s k) (a k) (r k)
abbrev cL':=qR.lp
abbrev fB(n:Nat)(r:List RV)(b:qR):xF:=⟨n,r,b⟩
abbrev Gb(a:jz):Nat->jz:=fun _=>a
abbrev q'(j:Nat):Nat->Od:=fun _=>.t j
abbrev DO(v:AV):Nat->Od:=fun _=>.c v
abbrev oX':Nat->Od:=fun _=>.zz
abbrev wO'(a:Nat->Od):Nat->Od:=fun k=>.w (a k)
abbrev Zt:Nat->Option Od:=fun _=>none
abbrev TF(a:Nat->Od):Nat->Option Od:=fun k=>some (a k)
abbrev gF'(a:Nat->Od)(b:Bool)(f:Nat->jz):Nat->jz:=fun k=>.gd (a k) b (f k)
abbrev wR(z:List AV)(a:Nat->Od):Nat->jz:=fun k=>.rw 1 1 z [(0,a k)]
abbrev p1:Nat->Od:=fun k=>.t (Nat.sub k 1)
abbrev p2:Nat->Od:=fun k=>.t (Nat.sub k 2)
abbrev p3:Nat->Od:=fun k=>.t (Nat.sub k 3)
abbrev p4:Nat->Od:=fun k=>.t (Nat.sub k 4)
abbrev p5:Nat->Od:=fun k=>.t (Nat.sub k 5)
abbrev p6:Nat->Od:=fun k=>.t (Nat.sub k 6)
abbrev p7:Nat->Od:=fun k=>.t (Nat.sub k 7)
abbrev p8:Nat->Od:=fun k=>.t (Nat.sub k 8)
abbrev p9:Nat->Od:=fun k=>.t (Nat.sub k 9)
abbrev kC0(f:Nat):Nat->jz:=fun k=>.call f []
abbrev kC1(f:Nat)(a:Nat->Od):Nat->jz:=fun k=>.call f [a k]
abbrev Zu(f:Nat)(a b:Nat->Od):Nat->jz:=fun k=>.call f [a k,b k]
abbrev kC3(f:Nat)(a b d:Nat->Od):Nat->jz:=fun k=>.call f [a k,b k,d k]
abbrev Gc(f:Nat)(a b d e:Nat->Od):Nat->jz:=fun k=>.call f [a k,b k,d k,e k]
abbrev TG(f:Nat)(a b d e g:Nat->Od):Nat->jz:=fun k=>.call f [a k,b k,d k,e k,g k]
abbrev kC6(f:Nat)(a b d e g h:Nat->Od):Nat->jz:=fun k=>.call f [a k,b k,d k,e k,g k,h k]
abbrev kC7(f:Nat)(a b d e g h i:Nat->Od):Nat->jz:=fun k=>.call f [a k,b k,d k,e k,g k,h k,i k]
abbrev kC8(f:Nat)(a b d e g h i j:Nat->Od):Nat->jz:=fun k=>.call f [a k,b k,d k,e k,g k,h k,i k,j k]
abbrev kC9(f:Nat)(a b d e g h i j l:Nat->Od):Nat->jz:=fun k=>.call f [a k,b k,d k,e k,g k,h k,i k,j k,l k]
abbrev mU(a:Nat->Od):Nat->jz:=fun k=>mC (a k)
abbrev P1(a:Nat->Od)(b:Nat->Od)(d:Nat->Od):Nat->jz:=fun k=>sN (a k) (b k) (d k)
abbrev AO(a:Nat->Od):Nat->jz:=fun k=>Bw (a k)
abbrev P2(a:Nat)(b:Bool)(d:Nat->Od):Nat->jz:=fun k=>og a b (d k)
abbrev Wg(a:Nat)(b:Nat->Od)(d:Nat->Od):Nat->jz:=fun k=>pL a (b k) (d k)
abbrev tQ(a:Nat->Od):Nat->jz:=fun k=>zK (a k)
abbrev P3(a:BF)(b:Nat->Od)(d:Nat->Od):Nat->jz:=fun k=>sZ a (b k) (d k)
abbrev Wh(a:UF)(b:Nat->Od):Nat->jz:=fun k=>EH a (b k)
abbrev Wi(a:Nat->Od):Nat->jz:=fun k=>rT (a k)
abbrev lL(a:Nat)(b:Nat->Od):Nat->jz:=fun k=>jk a (b k)
abbrev Wj(a:Nat)(b:Nat)(d:Bool)(e:Nat->Od):Nat->jz:=fun k=>pN a b d (e k)
abbrev u0(a:Nat)(b:Nat->Od)(d:Nat->Od):Nat->jz:=fun k=>vT a (b k) (d k)
abbrev JX(a:Nat)(b:Nat)(d:Nat->Od)(e:Nat->Od):Nat->jz:=fun k=>yx a b (d k) (e k)
abbrev Wk(a:Nat)(b:Nat)(d:Bool)(e:Nat->Od)(f:Nat->Od):Nat->jz:=fun k=>oI a b d (e k) (f k)
abbrev lX(a:Nat->Od)(b:Nat):Nat->jz:=fun k=>lC (a k) b
abbrev abN(a:Nat->Od):Nat->jz:=fun k=>sO (a k)
abbrev ag8(a:Nat->Od):Nat->jz:=fun k=>zN (a k)
abbrev LQ(a:Nat)(b:Nat)(d:Nat->Od)(e:Nat->Od):Nat->jz:=fun k=>ka a b (d k) (e k)
abbrev abO(a:Nat)(b:Nat->Od)(d:Nat->Od):Nat->jz:=fun k=>vV a (b k) (d k)
abbrev abP(a:Nat->Od):Nat->jz:=fun k=>uS (a k)
abbrev P4(a:Nat->Od)(b:Nat->Od):Nat->jz:=fun k=>Bx (a k) (b k)
abbrev ag9(a:Nat->Od)(b:Nat->Od):Nat->jz:=fun k=>Bz (a k) (b k)
abbrev ag'(a:Nat->Od):Nat->jz:=fun k=>zM (a k)
abbrev abQ(a:Nat)(b:Nat->Od)(d:Nat->Od):Nat->jz:=fun k=>oQ a (b k) (d k)
abbrev AP(a:Nat)(b:Nat->Od)(d:Nat->Option Od)(e:Nat->Option Od):Nat->jz:=fun k=>j9 a (b k) (d k) (e k)
abbrev tR(a:Nat)(b:Nat)(d:Nat->Od)(e:Nat->Option Od)(f:Nat->Option Od):Nat->jz:=fun k=>lQ a b (d k) (e k) (f k)
abbrev a:=fun x1 x2 x3=>S' x1 (S' x2 x3)
abbrev b:=fun x1=>AV.int IntKind.i64 x1
abbrev d:=fun x1=>mU (q' x1)
abbrev e:=fun x1 x2 x3=>jw (R' x1 x2) x3
abbrev f:=fun x1 x2=>P2 x1 false x2
abbrev h:=fun x1 x2 x3=>D' x1 (mU x2) x3
abbrev i:=fun x1 x2 x3=>P3 x1 x2 (DO x3)
abbrev j:=fun x1 x2=>lL x1 (q' x2)
abbrev k:=fun x1 x2 x3=>AV.sc (Value.slice x1 x2 x3)
abbrev l:=fun x1 x2 x3 x4 x5=>a x1 x2 (a x3 x4 x5)
abbrev m:=fun x1=>mU (DO x1)
abbrev o:=fun x1=>lL x1 p1
abbrev p:=fun x1 x2 x3=>TZ (Od.t x1) x2 x3
abbrev q:=fun x1=>AV.sc (Value.string x1)
abbrev r:=fun x1=>AV.int IntKind.u8 x1
abbrev s:=yb false
abbrev t:=fun x1=>ag8 (wO' x1)
abbrev u:=fun x1 x2=>Gb (qC x1 x2)
abbrev v:=fun x1=>oC (b x1)
abbrev w:=fun x1 x2 x3 x4=>e x1 (S' x2 x3) x4
abbrev x:=fun x1 x2=>k none x1 x2
abbrev y:=tQ p1
abbrev z:=fun x1 x2 x3 x4=>N' (Wg x1 x2 x3) x4
abbrev A:=fun x1 x2=>gF' x1 true x2
abbrev B:=AV.bool false
abbrev D:=fun x1=>AV.int IntKind.u64 x1
abbrev E:=fun x1 x2=>P2 x1 true x2
abbrev F:=fun x1 x2 x3=>i x1 x2 (b x3)
abbrev H:=fun x1 x2 x3 x4 x5=>l (d x1) x2 x3 x4 x5
abbrev I:=fun x1=>f x1 p1
abbrev J:=fun x1 x2=>h x1 x2 E'
abbrev L:=fun x1 x2 x3 x4 x5=>e x1 (a x2 x3 x4) x5
abbrev M:=fun x1 x2=>Wh (zL x1) x2
abbrev O:=fun x1 x2=>gF' x1 false x2
abbrev P:=fun x1 x2=>P3 x1 x2 p1
abbrev R:=fun x1=>J x1 p1
abbrev U:=fun x1=>Gb (mn x1)
abbrev W:=fun x1 x2 x3 x4 x5=>l (mU x1) x2 x3 x4 x5
abbrev Y:=fun x1 x2 x3 x4 x5 x6 x7=>e x1 (H x2 x3 x4 x5 x6) x7
abbrev Z:=fun x1 x2 x3=>jw x1 (jw x2 x3)
abbrev C:=b 0
abbrev N:=fun x1 x2 x3=>P1 x1 x2 (DO x3)
abbrev aa:=fun x1=>Gb (Ha x1)
abbrev ab:=fun x1 x2=>U (jz.call x1 x2)
abbrev ad:=mU p1
abbrev ae:=fun x1 x2=>S' x1 (R x2)
abbrev af:=q ⟨#[]⟩
abbrev ag:=AV.bool true
abbrev ah:=I 1
abbrev ai:=fun x1 x2=>p x1 x2 uT
abbrev aj:=fun x1 x2 x3 x4=>a x1 (lX x2 x3) x4
abbrev ak:=fun x1=>AV.sc (Value.pointer x1)
abbrev al:=fun x1 x2=>P3 sM x1 x2
abbrev am:=fun x1 x2=>B0 x1 (cL' x2)
abbrev ao:=fun x1 x2=>Zu x1 x2 p1
abbrev ap:=fun x1 x2 x3 x4 x5=>L x1 (mU x2) x3 x4 x5
abbrev aq:=fun x1 x2 x3 x4 x5=>aj (lX x1 x2) x3 x4 x5
abbrev ar:=fun x1 x2 x3=>w x1 x2 E' x3
abbrev au:=fun x1 x2 x3=>P1 x1 (DO x2) x3
abbrev av:=fun x1 x2 x3=>F x1 (q' x2) x3
abbrev aw:=q ⟨#[118,118,58,118]⟩
abbrev ax:=yb true
abbrev ay:=fun x1 x2 x3=>ar x1 (m x2) x3
abbrev az:=fun x1 x2=>F x1 p1 x2
abbrev aA:=fun x1=>S' x1 E'
abbrev aB:=fun x1 x2 x3 x4 x5=>L x1 (d x2) x3 x4 x5
abbrev aD:=fun x1 x2 x3=>LQ x1 x2 x3 p1
abbrev aE:=fun x1 x2 x3 x4 x5 x6=>R' x1 (H x2 x3 x4 x5 x6)
abbrev aF:=fun x1 x2 x3 x4=>w x1 x2 (R x3) x4
abbrev aG:=fun x1 x2 x3 x4=>Gb (zJ x1 x2 x3 x4)
abbrev aH:=fun x1 x2 x3 x4 x5=>D' x1 x2 (D' x3 x4 x5)
abbrev aI:=fun x1=>DO (b x1)
abbrev aJ:=fun x1 x2 x3 x4 x5 x6 x7 x8 x9=>l x1 x2 x3 x4 (l x5 x6 x7 x8 x9)
abbrev aK:=fun x1 x2 x3=>pL x1 (Od.t x2) x3
abbrev aL:=fun x1=>x 0 x1
abbrev aM:=fun x1 x2=>E x1 (q' x2)
abbrev aO:=fun x1 x2 x3=>p x1 x2 (YU x3)
abbrev aP:=fun x1 x2 x3 x4=>Z x1 (B0 x2 x3) x4
abbrev aQ:=aL 0
abbrev aR:=fun x1=>kC1 x1 p1
abbrev aS:=fun x1 x2 x3=>R' x1 (ae x2 x3)
abbrev aT:=fun x1 x2 x3 x4 x5 x6=>aF x1 x2 x3 (p x4 x5 x6)
abbrev aU:=fun x1 x2 x3=>D' x1 (aa x2) x3
abbrev aV:=fun x1 x2=>u0 1 x1 x2
abbrev aW:=fun x1 x2 x3 x4=>z x1 (q' x2) x3 x4
abbrev aX:=fun x1 x2=>ay x1 x2 jn
abbrev aY:=fun x1=>oC (q x1)
abbrev aZ:=fun x1 x2 x3 x4 x5 x6 x7=>Y x1 x2 (d x3) x4 x5 x6 x7
abbrev aC:=fun x1 x2 x3 x4=>am x1 (ar x2 x3 x4)
abbrev aN:=fun x1 x2=>aO x1 uT x2
abbrev a0:=r 0
abbrev a1:=t p1
abbrev a2:=fun x1 x2 x3 x4 x5=>aP (aN x1 x2) x3 x4 x5
abbrev a3:=fun x1 x2 x3=>ai x1 (aX x2 x3)
abbrev a4:=fun x1 x2 x3 x4 x5=>aC x1 x2 (al x3 x4) x5
abbrev a5:=fun x1 x2 x3 x4 x5 x6 x7 x8 x9 DP DQ=>aT x1 x2 x3 x4 x5 (aT x6 x7 x8 x9 DP DQ)
abbrev a6:=fun x1 x2 x3 x4=>ay x1 x2 (jw x3 x4)
abbrev a7:=fun x1 x2=>J x1 (DO x2)
abbrev a8:=fun x1 x2=>aA (ao x1 x2)
abbrev a9:=fun x1 x2=>u0 2 x1 x2
abbrev ac:=fun x1 x2=>av qi x1 x2
abbrev an:=fun x1=>wR x1 p1
abbrev ba:=fun x1 x2 x3 x4 x5 x6 x7=>a2 x1 x2 x3 x4 (aS x5 x6 x7)
abbrev bb:=fun x1 x2 x3 x4 x5 x6=>aB x1 x2 x3 x4 (ai x5 x6)
abbrev bd:=fun x1 x2 x3 x4=>ka x1 x2 (Od.t x3) x4
abbrev be:=fun x1=>lL 0 x1
abbrev bf:=fun x1 x2 x3 x4=>S' x1 (h x2 x3 x4)
abbrev bg:=fun x1 x2 x3 x4 x5 x6 x7 x8 x9 DP DQ=>a4 x1 x2 x3 x4 (ba x5 x6 x7 x8 x9 DP DQ)
abbrev bh:=ak none
abbrev bi:=fun x1=>az nK x1
abbrev bj:=fun x1 x2 x3 x4=>AP x1 x2 x3 (TF x4)
abbrev bk:=fun x1 x2 x3=>aK x1 x2 (Od.t x3)
abbrev bl:=fun x1 x2 x3=>aW x1 x2 p1 x3
abbrev bm:=fun x1 x2 x3 x4 x5 x6=>aE x1 x2 (d x3) x4 x5 x6
abbrev bo:=fun x1 x2 x3 x4 x5 x6 x7=>Y x1 x2 x3 (o x4) x5 x6 x7
abbrev bp:=fun x1=>AV.int IntKind.u32 x1
abbrev bq:=fun x1=>aA (m x1)
abbrev br:=fun x1=>Wh KA x1
abbrev bs:=fun x1 x2 x3 x4=>Q' x1 (f x2 x3) x4
abbrev bt:=fun x1=>az oe x1
abbrev bu:=fun x1 x2=>bl x1 x2 E'
abbrev bv:=fun x1 x2 x3 x4 x5 x6 x7=>e x1 (W x2 x3 x4 x5 x6) x7
abbrev bw:=fun x1=>M IntKind.u64 x1
abbrev bx:=fun x1 x2 x3 x4=>R' x1 (a x2 x3 x4)
abbrev bz:=fun x1 x2 x3 x4 x5 x6 x7 x8 x9 DP DQ x12=>bg x1 x2 x3 x4 x5 x6 x7 x8 x9 (ac DP DQ) x12
abbrev bA:=fun x1 x2=>N' (U x1) x2
abbrev bB:=CR false
abbrev bD:=fun x1 x2 x3 x4 x5 x6=>bo x1 x2 x3 x4 ah x5 x6
abbrev bE:=fun x1 x2 x3 x4 x5 x6=>l (j x1 x2) x3 x4 x5 x6
abbrev bF:=fun x1=>tQ (q' x1)
abbrev bG:=AO p1
abbrev bH:=fun x1 x2 x3 x4=>bA (bk x1 x2 x3) x4
abbrev bI:=fun x1=>az sM x1
abbrev bJ:=fun x1 x2 x3 x4=>aU x1 x2 (bu x3 x4)
abbrev bK:=fun x1 x2 x3 x4 x5=>bE x1 x2 ah x3 x4 x5
abbrev bL:=fun x1 x2=>A x1 (d x2)
abbrev bM:=aY ⟨#[105,58,118]⟩
abbrev bO:=fun x1 x2=>i x1 p1 x2
abbrev bP:=mU p9
abbrev bQ:=fun x1 x2=>wR x1 (DO x2)
abbrev bR:=D 0
abbrev bS:=fun x1 x2 x3 x4 x5 x6 x7=>e x1 (bK x2 x3 x4 x5 x6) x7
abbrev bT:=fun x1=>az s x1
abbrev bU:=aY ⟨#[118,105,58,118]⟩
abbrev bV:=fun x1 x2=>au x1 ag x2
abbrev bW:=fun x1 x2=>a x1 x2 E'
abbrev bX:=fun x1 x2 x3 x4 x5=>L x1 x2 (m x3) x4 x5
abbrev bY:=fun x1=>ao x1 p3
abbrev bZ:=fun x1 x2 x3 x4=>bx x1 (d x2) x3 x4
abbrev bC:=bw p1
abbrev bN:=fun x1=>P x1 p2
abbrev b0:=mU p6
abbrev b1:=fun x1=>lL 1 x1
abbrev b2:=fun x1 x2 x3 x4 x5=>bX x1 (m x2) x3 x4 x5
abbrev b3:=fun x1=>az xZ x1
abbrev b4:=fun x1=>bV x1 p1
abbrev b5:=fun x1 x2=>av s x1 x2
abbrev b6:=aY ⟨#[118,58,105]⟩
abbrev b7:=fun x1 x2 x3 x4 x5=>aB x1 x2 (d x3) x4 x5
abbrev b8:=AO p2
abbrev b9:=fun x1 x2 x3 x4 x5 x6 x7=>jw (bb x1 x2 x3 x4 x5 x6) x7
abbrev bc:=fun x1 x2 x3=>a x1 x2 (R x3)
abbrev bn:=fun x1 x2 x3=>bW x1 (ao x2 x3)
abbrev da:=fun x1 x2 x3=>z x1 x2 x3 E'
abbrev db:=fun x1 x2=>da x1 p1 x2
abbrev dd:=aY ⟨#[118,58,118]⟩
abbrev de:=fun x1=>az tc x1
abbrev df:=fun x1=>A p2 x1
abbrev dg:=fun x1 x2 x3=>bf x1 x2 p1 x3
abbrev dh:=fun x1 x2 x3=>S' x1 (db x2 x3)
abbrev di:=fun x1=>az qi x1
abbrev dj:=fun x1 x2=>O x1 (d x2)
abbrev dk:=fun x1 x2 x3 x4=>b2 x1 x2 x3 E' x4
abbrev dl:=aY ⟨#[105,58,105]⟩
abbrev dm:=fun x1 x2=>bO x1 (D x2)
abbrev dp:=fun x1 x2 x3 x4=>aF x1 (mU x2) x3 x4
abbrev dq:=fun x1 x2=>Gb (jz.callV x1 x2)
abbrev dr:=fun x1 x2 x3=>h x1 x2 (R x3)
abbrev ds:=fun x1 x2 x3 x4 x5=>bD x1 x2 y x3 x4 x5
abbrev dt:=fun x1 x2 x3 x4=>bd x1 x2 x3 (Od.t x4)
abbrev du:=fun x1 x2=>N x1 p1 x2
abbrev dv:=fun x1 x2 x3 x4 x5 x6 x7=>aq x1 x2 x3 x4 (dr x5 x6 x7)
abbrev dw:=fun x1 x2 x3=>dk x1 x2 x3 jn
abbrev dx:=fun x1 x2 x3 x4=>dg x1 x2 (a7 x3 x4)
abbrev dy:=fun x1=>az ax x1
abbrev dz:=o 0
abbrev dA:=fun x1 x2 x3 x4 x5 x6 x7 x8=>Y x1 x2 (j x3 x4) x5 x6 x7 x8
abbrev dB:=fun x1 x2 x3 x4 x5 x6 x7 x8=>a6 x1 x2 (ap x3 x4 x5 x6 x7) x8
abbrev dD:=fun x1 x2 x3=>bH x1 x2 x3 E'
abbrev dE:=zE false
abbrev dF:=fun x1=>du x1 B
abbrev dG:=fun x1 x2 x3=>kC3 x1 x2 x3 p1
abbrev dH:=fun x1 x2 x3 x4 x5 x6 x7=>dA x1 x2 x3 x4 ah x5 x6 x7
abbrev dI:=fun x1 x2 x3 x4 x5 x6=>aZ x1 x2 x3 x4 x5 x6 jn
abbrev dJ:=fun x1=>bL p1 x1
abbrev dK:=fun x1=>P x1 p3
abbrev dL:=fun x1 x2 x3 x4=>ae (aD x1 x2 x3) x4
abbrev dM:=mU p8
abbrev dO:=fun x1=>aA (bT x1)
abbrev dP:=df ah
abbrev dQ:=fun x1 x2 x3=>bs x1 1 x2 x3
abbrev dR:=fun x1=>aV x1 p1
abbrev dS:=fun x1 x2 x3 x4 x5=>aB x1 x2 x3 (R x4) x5
abbrev dT:=fun x1 x2 x3=>A x1 (j x2 x3)
abbrev dU:=fun x1 x2 x3 x4 x5 x6 x7 x8 x9 DP DQ=>bz x1 x2 x3 p2 x4 x5 x6 x7 x8 x9 DP DQ
abbrev dV:=dF p3
abbrev dW:=fun x1=>E x1 p1
abbrev dX:=dR p2
abbrev dY:=fun x1 x2=>P x1 (aI x2)
abbrev dZ:=fun x1 x2 x3=>dw x1 x2 (b x3)
abbrev dC:=fun x1=>M IntKind.i64 x1
abbrev dN:=fun x1 x2 x3=>dQ x1 (q' x2) x3
abbrev d0:=aY ⟨#[105,118,58]⟩
abbrev d1:=DO C
abbrev d2:=fun x1 x2 x3 x4=>U (dt x1 x2 x3 x4)
abbrev d3:=fun x1 x2 x3 x4=>a x1 x2 (ae x3 x4)
abbrev d4:=bN xZ
abbrev d5:=Gb iw
abbrev d6:=fun x1 x2 x3 x4 x5 x6 x7 x8 x9 DP=>dU x1 x2 p1 x3 x4 x5 x6 x7 x8 x9 DP
abbrev d7:=fun x1=>a8 x1 p2
abbrev d8:=aY ⟨#[105,58,108]⟩
abbrev d9:=fun x1 x2=>F qi x1 x2
abbrev dc:=fun x1=>aM 16 x1
abbrev dn:=fun x1 x2 x3 x4 x5=>aB x1 x2 x3 (bq x4) x5
abbrev ea:=fun x1 x2 x3 x4=>jw x1 (p x2 x3 x4)
abbrev eb:=fun x1=>O x1 ah
abbrev ed:=fun x1 x2 x3 x4 x5 x6 x7 x8 x9 DP DQ x12=>a5 x1 x2 x3 x4 x5 x6 (b5 x7 x8) x9 DP DQ x12
abbrev ee:=fun x1=>B0 0 x1
abbrev ef:=br p1
abbrev eg:=aY ⟨#[105,118,58,118]⟩
abbrev eh:=fun x1 x2 x3 x4=>L x1 x2 ah x3 x4
abbrev ei:=v 0
abbrev ej:=fun x1 x2 x3=>D' x1 (d x2) x3
abbrev ek:=fun x1 x2 x3 x4 x5 x6 x7 x8 x9=>aH x1 x2 x3 x4 (aH x5 x6 x7 x8 x9)
abbrev el:=fun x1 x2 x3=>dN (q' x1) x2 x3
abbrev em:=fun x1=>df (b3 x1)
abbrev eo:=fun x1 x2 x3=>aF x1 x2 x3 jn
abbrev ep:=fun x1=>dm ya x1
abbrev er:=fun x1 x2=>h x1 p1 x2
abbrev es:=fun x1 x2 x3 x4 x5=>eh x1 (j x2 x3) x4 x5
abbrev et:=fun x1 x2 x3=>eo x1 (d x2) x3
abbrev eu:=fun x1 x2 x3 x4 x5 x6=>aZ x1 0 x2 x3 x4 x5 x6
abbrev ev:=fun x1 x2=>bn x1 x2 p5
abbrev ew:=fun x1 x2 x3=>er x1 (a7 x2 x3)
abbrev ex:=fun x1=>dj p1 x1
abbrev ey:=fun x1 x2=>dT p1 x1 x2
abbrev ez:=bN qi
abbrev eA:=dK vR
abbrev eB:=fun x1=>db x1 p2
abbrev eD:=fun x1 x2 x3 x4 x5 x6 x7 x8 x9 DP DQ=>e x1 (aJ x2 x3 x4 x5 x6 x7 x8 x9 DP) DQ
abbrev eE:=v 1
abbrev eF:=fun x1 x2=>DO (AV.fn x1 x2)
abbrev eG:=fun x1 x2 x3=>dh (o x1) x2 x3
abbrev eH:=fun x1 x2=>u0 3 x1 x2
abbrev eI:=mU p5
abbrev eJ:=fun x1 x2 x3 x4 x5=>L x1 x2 (dW x3) x4 x5
abbrev eK:=fun x1=>dY sL x1
abbrev eL:=fun x1 x2 x3 x4 x5 x6 x7 x8=>eJ x1 x2 x3 (bJ x4 x5 x6 x7) x8
abbrev eM:=fun x1 x2 x3 x4 x5 x6=>dv x1 x2 x3 x4 x5 p2 x6
abbrev eO:=dC p1
abbrev eP:=fun x1 x2=>u0 6 x1 x2
abbrev eQ:=mU p7
abbrev eR:=aY ⟨#[105,108,58]⟩
abbrev eS:=oC aw
abbrev eT:=fun x1 x2 x3=>D' x1 (AO x2) x3
abbrev eU:=fun x1 x2 x3=>ar x1 (aa x2) x3
abbrev eV:=fun x1 x2 x3 x4=>b7 x1 x2 x3 x4 jn
abbrev eW:=fun x1 x2 x3 x4=>l ah x1 x2 x3 x4
abbrev eX:=fun x1=>bO bB x1
abbrev eY:=fun x1 x2=>dG x1 x2 p2
abbrev eZ:=eX bh
abbrev eC:=fun x1 x2=>bW x1 (b4 x2)
abbrev eN:=fun x1 x2 x3 x4 x5 x6 x7 x8 x9 DP DQ x12 x13=>ed x1 (b5 x2 x3) x4 x5 x6 x7 x8 x9 DP DQ x12 x13
abbrev e0:=fun x1 x2 x3 x4=>ds x1 0 x2 x3 x4
abbrev e1:=bt 1
abbrev e2:=fun x1=>M x1 p1
abbrev e3:=fun x1=>a8 113 x1
abbrev e4:=fun x1 x2 x3 x4 x5=>eh x1 (aV x2 x3) x4 x5
abbrev e5:=fun x1 x2 x3=>O x1 (j x2 x3)
abbrev e6:=fun x1 x2 x3=>bj x1 x2 Zt x3
abbrev e7:=fun x1 x2 x3 x4=>dx (bN x1) x2 x3 x4
abbrev e8:=fun x1=>ao x1 p2
abbrev e9:=fun x1=>eY x1 p3
abbrev ec:=e2 IntKind.u32
abbrev en:=fun x1 x2=>p x1 uT x2
abbrev fa:=fun x1 x2 x3=>ai x1 (R' x2 x3)
abbrev fb:=fun x1 x2=>bW x1 (m x2)
abbrev fd:=fun x1 x2=>S' (dW x1) x2
abbrev fe:=fun x1=>A p3 x1
abbrev ff:=fun x1 x2 x3 x4 x5 x6=>bS x1 x2 x3 a1 x4 x5 x6
abbrev fg:=fun x1=>DO (r x1)
abbrev fh:=fun x1 x2 x3 x4 x5=>bm x1 0 x2 x3 x4 x5
abbrev fj:=dF p4
abbrev fk:=fun x1 x2 x3=>a x1 (tQ x2) x3
abbrev fl:=fun x1 x2=>a3 x1 x2 B
abbrev fm:=fun x1=>P sM x1
abbrev fo:=fun x1 x2 x3 x4=>D' x1 (ab x2 x3) x4
abbrev fp:=ep 4294967295
abbrev fq:=d 1
abbrev fr:=fun x1 x2 x3 x4 x5 x6=>ff x1 x2 x3 (m x4) x5 x6
abbrev fs:=fun x1 x2 x3 x4=>dg (ab x1 x2) x3 x4
abbrev ft:=fun x1 x2 x3=>Wj x1 x2 false x3
abbrev fu:=Od.t 41
abbrev fv:=fun x1 x2=>ae (bT x1) x2
abbrev fw:=fun x1 x2 x3 x4 x5 x6=>jw (dn x1 x2 x3 x4 x5) x6
abbrev fx:=e2 IntKind.u8
abbrev fy:=fun x1 x2 x3 x4 x5 x6 x7 x8 x9=>d6 x1 x2 x3 x4 x5 x6 x7 x8 1 x9
abbrev fz:=fun x1 x2 x3 x4 x5 x6 x7=>aT x1 (b5 x2 x3) x4 x5 x6 x7
abbrev fA:=fun x1 x2 x3 x4 x5 x6 x7=>er x1 (eM x2 x3 x4 x5 x6 x7)
abbrev fD:=fun x1 x2 x3=>w x1 x2 x3 jn
abbrev fE:=fun x1=>O p2 x1
abbrev fF:=fun x1=>a9 x1 p1
abbrev fG:=fun x1=>aM 11 x1
abbrev fH:=AO p3
abbrev fI:=fun x1 x2 x3 x4=>fD x1 x2 (bu x3 x4)
abbrev fJ:=fun x1 x2 x3 x4=>bZ x1 x2 x3 (d7 x4)
abbrev fK:=fun x1 x2 x3 x4 x5 x6 x7 x8 x9 DP=>dB x1 x2 x3 x4 x5 x6 (a3 x7 x8 x9) DP
abbrev fL:=fun x1 x2 x3 x4 x5 x6 x7=>aE x1 x2 (j x3 x4) x5 x6 x7
abbrev fM:List AV:=[C,C,C,C,af]
abbrev hK:=d 10
abbrev gP:=fh 44 1 hK (e9 128) E'
abbrev gL:List AV:=[aQ,aQ]
abbrev gR:=dq (Od.t 39) [Od.t 40,fu]
abbrev hQ:=bm 39 4 10 (aM 2 12) gR E'
abbrev g2:=d9 p8 1
abbrev gQ:=d 2
abbrev gW:=ev d4 109
abbrev gU:=a9 p4 p2
abbrev gO:=an [C]
abbrev gZ:=e3 p4
abbrev gM:=bc (u [aQ,B] [(1,1,Od.t 25)]) bG 10
abbrev fO:=eu 13 3 a1 gQ gW (b9 19 3 a1 (dO 0) 21 jn (e0 22 1 gM (aZ 28 10 3 a1 gO gZ (fw 33 3 a1 C (bg 0 36 p1 p2 36 0 1 (eL 37 gU 2 12 gL 2 12 hQ) 43 g2 35) gP))))
abbrev fP:List AV:=[a0,a0,a0,a0,a0,a0,a0,a0,a0,a0,a0,a0,a0,a0,a0,a0]
abbrev fQ:List AV:=[C,C,C,bR,bR,aQ]
abbrev fR:List AV:=[aQ,aQ,aQ,aQ,aQ,aQ,aQ,C,aQ,aQ,aQ]
abbrev gS:=bO dE aQ
abbrev fS:=fK 2 aQ 3 p3 gS E' 4 2 aQ (L 5 (aG 0 2 gL []) b0 (dL 2 48 p2 2) jn)
abbrev gT:=R 5
abbrev hx:=dK qi
abbrev gX:=S' d5 (N' d5 E')
abbrev gC:=bI 0
abbrev fT:=fy 0 12 12 0 1 (e4 13 p4 p2 gT (aZ 15 3 5 a1 hx (R 3) (bb 19 3 gC E' 20 (R' 21 gX)))) 22 11 11
abbrev g1:=b4 p3
abbrev gV:=l (eb p6) (O p7 a1) (O p8 (P nK p7)) (b4 p9) E'
abbrev fU:=aJ (fE gC) g1 ad (ex 1) (dj p2 0) (O p3 y) (O p4 dz) (O p5 dz) gV
abbrev fV:List AV:=[bR,bR]
abbrev hj:=bp 0
abbrev fW:List AV:=[C,hj,aQ,C]
abbrev fX:=bm 39 4 10 (aM 3 12) gR E'
abbrev fY:=o 1
abbrev fZ:=d 0
abbrev fC:=ew 6 7 C
abbrev fN:=bv 6 p6 a1 eQ a1 (aA (dK ax)) (fl 10 4)
abbrev f0:=AP 1 p2 (TF p1) Zt
abbrev f1:=Zu 170 p1 (aI 127)
abbrev f2:=an [bR]
abbrev f3:=o 3
abbrev f4:=H 19 bC (dm sL 81985529216486895) (Gc 16 p6 p4 (aI 8) p1) E'
abbrev f5:=a9 p1 d1
abbrev f6:=bT 0
abbrev f7:=eB 1
abbrev f8:=bO ya (bp 31)
abbrev f9:List AV:=[C,C,B,aQ,aQ]
abbrev fc:=o 2
abbrev fn:=l (dj p2 1) (O p3 (aR 41)) (O p4 (dK nK)) (b4 p5) E'
abbrev ga:=R 6
abbrev gb:=eb p2
abbrev gd:=bq C
abbrev ge:=di 1
abbrev g0:=an [a0]
abbrev gf:=bc g0 (aD 1 1 p5) 3
abbrev gg:=dm vR 32
abbrev gh:=abQ 1 (wO' p2) (wO' p1)
abbrev gi:=A p4 ah
abbrev gj:=eG 2 1 p3
abbrev gk:List AV:=[aQ,aQ,aQ,aQ,aQ,aQ,aQ]
abbrev gl:=aR 177
abbrev gm:=aW 16 8 p2 (R 9)
abbrev go:=bQ [a0] a0
abbrev gp:=bl 16 8 (a7 9 C)
abbrev gq:=ap 5 p4 gC E' (fa 6 7 gX)
abbrev gr:=fF p2
abbrev gs:=v 7
abbrev gt:=bN sL
abbrev gu:=bN oe
abbrev gv:=dy 0
abbrev gw:=e2 IntKind.i32
abbrev gx:=ev gO 113
abbrev gy:=tQ p7
abbrev gz:=tQ p8
abbrev gA:=aI 512
abbrev gB:=ft 0 1 p1
abbrev gD:=oC af
abbrev gE:=ag' (wO' p1)
abbrev gG:=aY ⟨#[105,105,58]⟩
abbrev gH:=d 6
abbrev gI:List AV:=[C,C,aQ,aQ,B,B]
abbrev gJ:=dJ 0
abbrev gK:=de 0
abbrev gY:=o 13
abbrev hL:=dK sM
abbrev gN:=bv 11 p6 fZ a1 hL E' (aN 14 0)
abbrev g3:=j 0 3
abbrev g4:=o 5
abbrev g5:=aM 6 3
abbrev g6:=bN sM
abbrev g7:=ey 0 3
abbrev g8:=a9 p1 (aI 1)
abbrev g9:=Od.t 21
abbrev gc:=Od.t 23
abbrev gn:=aD 1 1 p2
abbrev ha:=d 4
abbrev hb:=d 7
abbrev hd:=dF p6
abbrev he:=e5 p1 0 3
abbrev hf:=u fQ [(0,1,v 32)]
abbrev hg:=O p1 bP
abbrev hh:=bY 169
abbrev hi:=bi 0
abbrev hk:=d 5
abbrev hl:=d3 a1 (dK oe) (P oe p6) 1
abbrev hm:=d7 112
abbrev ho:=db 1 p3
abbrev hp:=o 12
abbrev hq:=DO aQ
abbrev hr:=Od.t 20
abbrev hs:=Od.t 22
abbrev ht:=Od.t 24
abbrev hu:=a9 p5 p3
abbrev hv:=aR 15
abbrev hw:=d 8
abbrev hy:=dK uQ
abbrev hz:=dW 11
abbrev hA:=eH p4 p2
abbrev hB:=eP p1 d1
abbrev hD:=P qi p4
abbrev hE:=eK 8
abbrev hF:=O p3 (Zu 137 p1 (aI 127))
abbrev hG:=aR 142
abbrev hH:=eV 26 1 2 (e7 oe 6 7 C)
abbrev hI:=eV 31 1 2 (e7 sL 6 7 C)
abbrev hJ:=aq p4 0 p5 1 (aU 4 f9 (aW 5 4 p2 gT))
abbrev hM:=H 1 hk dX ah (aA (P ax p5))
abbrev hO:=aR 158
abbrev hP:=aU 9 gL (aW 2 9 p2 (R 10))
abbrev hR:=eV 50 1 2 (e7 oO 6 7 C)
abbrev hS:=eV 65 1 2 (e7 vQ 6 7 C)
abbrev hT:=eV 70 1 2 (e7 ya 6 7 C)
abbrev hU:=eV 80 1 2 (e7 EG 6 7 C)
abbrev hV:=Od.t 28
abbrev hW:=Od.t 29
abbrev hX:=Od.t 30
abbrev hY:=Od.t 31
abbrev hZ:=Od.t 36
abbrev hC:=R 4
abbrev hN:=aD 1 8 p3
abbrev h0:=aX 4 ag
abbrev h1:=aY ⟨#[105,105,58,105]⟩
abbrev h2:=d 9
abbrev h3:=dJ 2
abbrev h4:=dm s 18446744073709551615
abbrev h5:=eV 75 1 2 (e7 zG 6 7 C)
abbrev h6:=j 1 1
abbrev h7:=j 1 3
abbrev h8:=mU p4
abbrev h9:=q' 58
abbrev hc:=v 13
abbrev hn:=v 2
abbrev ia:List AV:=[C,B,aQ]
abbrev ib:=df (bO s bR)
abbrev ie:=eV 21 1 2 (dx ez 6 7 C)
abbrev ig:=eW a1 gO (ao 113 p7) E'
abbrev ih:=eW fq dX ah (ew 4 5 ag)
end Y
open Y
def Tryz.x4:=fB 207 [.tmp 6]<|e 5 (eT 3 p5 (fb fH B)) (jw (L 26 (kC0 5) ef E' (fl 27 6)) (es 28 0 3 (ae (aR 14) 7) (jw (Y 31 7 f6 ad (e5 p1 2 3) (aJ gb (O p3 gC) (b4 p4) ad (e5 p1 2 3) gb (O p3 (bi 4294967296)) (b4 p4) (W p1 he gb (O p3 (bi 64852)) (aJ (O p4 ad) g7 dP (fe (bI 64860)) (O p8 fj) (O p9 ad) (ey 3 3) dP (l (bL p3 7) (A p4 (dY oO 16)) (A p5 bC) (A p6 (P nK p4)) (eC (O (q' 43) (dF p7)) (q' 43)))))) (a3 60 6 ag)) (bS 61 0 3 (j 2 3) ah (a (j 3 3) ah (S' (u fQ [(0,1,.t 62),(2,1,.t 64),(3,1,.t 66)]) (bu 6 3))) (jw (eD 68 g3 ah (bI 64852) ad he gb (O p3 (bi 64860)) (b4 p4) E' (fa 75 76 (dh (j 3 3) 1 (DO bR)))) (eD 77 g3 ah (bT 64779) ad he gb (O p3 (bi 64856)) (O p4 ad) (l g7 dP (fe (bI 64860)) (O p8 fj) (ae (b4 p9) 8)) (Y 90 8 ad he gb (l (O p3 (bi 64852)) (O p4 ad) g7 dP (d3 (fe (bI 64856)) (O p8 fj) (b4 p9) 9)) (L 101 hf g5 (ae (aG 2 6 fQ [(0,.t 101),(1,.t 102)]) 10) (jw (ar 104 h2 (fa 104 105 (l hf (u fQ [(0,1,v 32),(1,1,eE)]) g5 (aG 3 6 fQ [(0,.t 105),(1,.t 106),(2,.t 107)]) (R 10)))) (aF 109 (wR [C] (aI 123)) 11 (jw (ar 110 hw (fa 110 11 (bq aQ))) (e 111 (l (aG 2 1 [C] [(0,v 127),(1,v 123)]) (d 11) hK (e9 10) (bJ 12 fR 11 12)) (L 116 (fG 12) (Zu 9 p1 hq) (er 115 (aq p3 0 p4 1 (bf (lX p5 2) 13 p3 (dr 14 p2 15)))) (L 122 (fG 12) (Zu 9 p1 hq) (er 121 (aq p3 0 p4 1 (bf (lX p5 2) 16 p3 (dr 17 p2 18)))) (Z (Y 127 13 eZ ad (ex 16) (eC (fE eZ) p3) (fl 132 6)) (ay 19 C (am 0 (aP (aB 133 19 (bI 64) E' (aN 134 0)) 1 (Y 137 13 hv (d 19) bC f4 (aE 145 16 hv (d 19) bC f4)) (bZ 135 19 (di 8) (R 19))))) (L 153 (dc 5) (aR 17) (bJ 20 fV 2 20) (aZ 155 15 1 bC (j 0 20) (eW (j 1 20) ah (aG 3 1 [bR] [(0,.t 157),(1,.t 159),(2,.t 161)]) (S' (Gc 11 p8 d1 p1 (aI 50)) (bJ 21 fW 4 21))) (Y 164 10 a1 (dY oe 50) (u fW [(3,1,.t 166)]) (bJ 22 fW 4 22) (jw (ar 168 hw (p 168 (R' 171 (ej 169 16 (a g5 fq (S' (dc 5) (fo 170 15 [.t 169] (Q' p3 g5 (Q' p1 (dc 5) (a (ab 18 [.t 170,.t 171,.t 172,.t 173]) (j 0 22) (dD 1 175 174))))))))) (e 179 (ej 177 16 (a g5 fq (S' (dc 5) (fo 178 15 [.t 177] (Q' p3 g5 (Q' p1 (dc 5) (fs 19 [.t 178,.t 179,.t 180,.t 181] 176 (aq p7 0 p8 1 (aU 23 fP (bH 16 23 183 (R 24))))))))))) (aB 185 24 (j 0 22) f7 (bb 187 24 f6 E' 188 (L 189 (dc 23) (aR 17) (bJ 25 fV 2 25) (R' 191 (bK 0 25 (j 1 25) ah (a (aG 2 1 [bR] [(0,.t 192),(1,.t 194)]) (j 2 22) f7))))))))) (eD 197 (aM 4 21) (aM 4 22) (e8 12) ad (dJ 13) (bL p2 16) (bL p3 17) (bL p4 17) (bc (A p5 (Gc 20 p4 p3 p2 p1)) hd 6) jn))))))))))))))))))))
def Tryz.x5:=fB 39 [.tmp 0]<|ay 0 B (L 6 (kC0 22) (aR 21) (fA 5 p3 0 p4 1 1 2) (jw (bv 10 p9 eZ ad (ex 2) (eC (fE gv) p3) (fl 15 0)) (aB 16 1 (kC1 24 hq) (ae (e8 23) 3) (aB 19 3 (bQ [bR] (D 41)) (S' (Gc 11 p2 d1 p1 (aI 3)) (bJ 4 fW 4 4)) (e 22 (l (aM 4 4) (bQ [bR] (D 42)) (u fW [(2,1,gc)]) (bY 12) (W p1 (dJ 3) (df (bQ [bR] (D 41))) (fe (Gc 11 p2 d1 p1 (aI 2))) (aJ (A p4 (u fW [(0,1,v 27)])) (A p5 (e8 12)) hd ad (dJ 3) (df (Gc 11 p1 (aI 1) hq (aI 9))) (fe gB) (A p4 (bT 1)) (ae (dF p5) 0)))) jn)))))
def Tryz.x6:=fB 25 [.tmp 2]<|ay 2 B (ap 6 p6 (aR 25) (er 5 (aq p3 0 p4 1 (aU 3 f9 (z 5 p7 p2 hC)))) (bv 10 p6 ad gJ (df (bi 64768)) (aJ dV ad g7 dP (fe (dy 7)) fj ad g7 (d3 dP (fe (dy 8)) fj 2)) jn))
def Tryz.x9:=fB 28 [.tmp 4,.tmp 5,.tmp 6]<|e 4 (eT 2 p4 (a (m bh) (m bh) (bq bh))) (L 11 (E 11 p9) (aR 21) (fA 10 p3 0 p4 1 7 8) (jw (bv 15 p8 eZ ad (ex 8) (eC (fE gv) p3) (ai 20 (b2 4 bh bh (bq bh) jn))) (dS 21 1 (aR 24) 9 (dI 23 7 9 hb h2 (bf (e8 23) 4 p5 (dr 5 p4 6))))))
def Tryz.DP:=fB 41 [.cell 6 11 true]<|eU 6 fR (w 9 (u fQ [(0,1,v 11)]) (aU 7 fQ (da 6 p3 p1)) (e 20 (ek 10 fZ 11 fq 12 (u gL [(0,1,.t 10),(1,1,.t 11)]) 15 (u [C,C] [(0,1,eE),(1,1,eE)]) (ej 18 2 (S' (aM 6 7) (aH 17 (aG 0 6 fQ []) 19 (d2 6 64 17 18) (Q' p1 (aM 6 7) (a (aG 1 6 fQ [(0,hr)]) (d2 6 64 19 21) (S' (u gL [(1,1,hs)]) (aH 13 (aG 1 2 gL [(0,.t 12)]) 14 (bQ [C] C) (D' 16 (aG 1 2 [C,C] [(0,.t 15)]) (a (aG 1 2 gL [(0,gc)]) (u fR [(7,1,v (-1)),(0,1,.t 13),(2,1,.t 14),(4,1,.t 16),(9,1,ht)]) (aU 8 fR (dD 11 8 25)))))))))))) (eD 26 (u fQ [(0,1,v 65)]) (aM 6 7) (aG 2 6 fQ [(0,.t 26),(1,.t 27)]) (u ia [(0,1,v 127),(1,1,oC ag),(2,1,hV)]) (u fQ [(0,1,v 66)]) (aM 6 7) (aG 2 6 fQ [(0,hX),(1,hY)]) (u ia [(0,1,v 126),(1,1,oC ag),(2,1,.t 32)]) (l (u fQ [(0,1,v 64780)]) (aM 6 7) (aG 2 6 fQ [(0,.t 34),(1,.t 35)]) (u ia [(0,1,v 123),(1,1,oC ag),(2,1,hZ)]) (a (aG 3 3 ia [(0,hW),(1,.t 33),(2,.t 37)]) (j 5 8) f7)) (fI 40 (fG 8) 11 6))))
def Tryz.DQ:=fB 109 [.cell 8 4 true]<|eU 8 fW (jw (Y 19 0 eZ ad (ex 0) (aJ (fE y) (O p3 dz) (eb p4) (O p5 eZ) (b4 p6) ad (ex 0) (fE y) (l (O p3 fY) (eb p4) (O p5 eZ) (b4 p6) E')) (ai 34 (fI 35 (u fW [(0,1,hn)]) 4 8))) (bo 37 0 y 2 hz (a fq (e8 29) (er 36 (aq p7 0 p8 1 hP))) (b9 45 10 ef E' 46 (fI 47 (u fW [(0,1,eE)]) 4 8) (bS 49 0 9 gQ (e8 26) (fA 48 p5 0 p6 1 11 12) (b9 55 12 gv E' 56 (fI 57 (u fW [(0,1,eE)]) 4 8) (eu 58 3 (ag9 p1 d1) (P4 p1 (aI 100000)) (bc (u [bh,C,C,C] [(0,1,.t 58),(1,1,.t 61)]) bG 13) (a6 14 aQ (dn 64 11 a1 C (bg 0 67 p1 p2 67 0 1 (eL 68 (u0 16 p4 p2) 16 16 fP 16 16 (aE 70 14 (dc 16) (aR 17) (aG 1 2 fV [(0,.t 72)]) (dL 2 16 p4 14))) 75 (d9 p9 1) 66)) (aZ 76 13 1 (d 14) (e9 30) (R 17) (ds 80 13 3 (H 13 y fY ah (S' (u fW [(0,1,.t 83),(3,1,.t 87)]) (aU 18 fW (dD 4 18 88)))) (jw (ds 89 13 3 E' (B0 2 (aT 94 (F s p2 0) 93 93 (R' 95 (bK 1 9 (d 17) (e8 31) (dh (j 2 18) 1 p2))) (aF 101 (F s p9 28) 100 (ai 100 (aE 102 0 y fY ah (a (aR 32) (j 1 18) f7))))))) (fI 108 (aM 4 18) 4 8)))))))))))
def Tryz.x12:=fB 31 [.tmp 4]<|L 2 b8 b8 (bq B) (eD 5 (be p3) ah (be p4) ah (dK s) ad (A p1 (b1 p9)) dP (l (dT p3 1 3) gi (A p5 (dK s)) hd (W p1 (ey 3 2) dP (dT p3 3 3) (aJ gi (A p5 (dK s)) hd ad (ey 2 2) dP (dT p3 2 3) gi (bc (A p5 (bY 33)) hd 4)))) jn)
def Tryz.x14:=fB 43 [.tmp 2]<|ay 2 C (ap 4 p4 (bt 64768) (R 3) (jw (ee (ea (ap 7 p4 f6 ga (en 6 (bx 9 b0 (bT 11) ga))) 6 (aX 2 (b 16)) (ea (bv 12 p9 (bi 1) ad (dJ 3) (bc (em 6) dV 11) (en 11 (bZ 18 3 (bT 93) (R 11)))) 11 (aX 2 (b 8)) (Y 21 3 (bi 7) ad (dJ 3) (bc (em 10) dV 20) (p 20 (aB 27 3 (bt 7) (ae (dY uQ 1) 2) jn) (Y 31 3 (bi 84) ad (dJ 3) (bc (em 91) dV 30) (p 30 (aB 37 3 (az vQ 4) (ae (dY uQ 1) 2) jn) (dS 41 3 (bT 92) 40 (a3 40 2 (b 4)))))))))) (aX 2 C)))
def Tryz.x15:=fB 9 [.tmp 2]<|fK 2 bh 3 p3 eZ E' 4 2 bh (bv 5 p5 y (o 15) ah (R 2) jn)
def Tryz.x16:=fB 37 [.tmp 8]<|ay 8 C (Z (eu 11 1 gQ (e9 34) (R 9) (ap 15 p6 gv E' (ai 16 (dp 17 p8 8 jn)))) (aB 18 2 (m C) E' (fy 0 20 20 0 1 (dp 21 p2 10 (aE 22 0 y dz ah (H 1 hK bC hx (H 3 hK hE eA (a fx (aV (q' 25) p6) (dD 1 35 34)))))) 36 19 19)) (aX 8 C))
def Tryz.x17:=fB 8 [.cell 2 2 true]<|L 1 bG (aa fV) E' (e 5 (D' 3 (tR 16 1 p4 Zt (TF (aI 8))) (S' (tR 16 1 p4 (TF (aI 8)) Zt) (fo 4 35 [.t 3] (Q' p1 (tR 16 1 p5 (TF (aI 8)) Zt) (a (ab 35 [.t 5]) (u fV [(0,1,.t 4),(1,1,.t 6)]) (dD 2 2 7)))))) jn)
def Tryz.x18:=fB 56 [.tmp 8]<|e 7 (eT 5 p6 (fb (AO p4) C)) (Y 15 0 (aM 6 5) gQ (Gc 36 p3 p2 p1 (DO ag)) (fA 14 p5 0 p6 1 9 10) (b9 21 10 gv E' 22 (et 23 10 8) (es 24 0 5 (ae (aR 14) 11) (b9 27 11 (bI 16) E' 28 (dI 29 0 9 (d 11) (dc 7) (H 11 hE (j 3 5) ah (d3 eO (dG 37 p6 p4) (Gc 16 (q' 29) p9 p8 p1) 8))) (L 40 (dc 7) (aR 17) (bJ 12 fV 2 12) (jw (eu 42 9 (dm qi 8) (j 1 12) (bc ah (Gc 16 p5 p3 (aI 8) p1) 13) (bb 48 13 gv E' 49 (et 50 13 8))) (dI 51 0 9 (j 0 12) ah (ae (Gc 16 p4 p3 (aI 8) p1) 8))))))))
def Tryz.x19:=fB 115 [.cell 8 16 true,.tmp 9]<|e 7 (eT 5 p6 (a (AO p4) (aa fP) gd)) (Y 21 0 (aM 6 5) gQ (Gc 36 p3 p2 p1 (DO B)) (fA 20 p5 0 p6 1 10 11) (b9 27 11 gv E' 28 (L 29 (u fP []) (d 11) gm jn) (es 31 0 5 (ae (aR 14) 12) (b9 34 12 (bT 16) E' 35 (eu 37 10 (dm qi 8) (kC3 38 p3 p1 (aI 8)) (fA 36 p5 0 p6 1 13 14) (b9 43 14 gv E' 44 (L 45 (u fP []) (d 14) gm jn) (b7 48 0 10 (dg (kC3 38 p2 p1 (aI 8)) 47 (eM p4 0 p5 1 15 14)) (dI 53 15 13 (u fV [(0,1,.t 53),(1,1,.t 54)]) (aR 39) (S' (d 14) gm))))) (eu 59 10 (d 12) (e9 38) (fA 58 p5 0 p6 1 16 11) (b9 65 11 gv E' 66 (L 67 (u fP []) (d 11) gm jn) (es 69 0 5 (ae (bt 64768) 17) (jw (ee (dS 73 17 (b3 6) 72 (p 72 (dI 75 16 17 e1 (az oO 2) (l (dY uQ 8) (d 17) (az vQ 2) (bT 1) (S' (dG 40 p8 p4) gp))) (dS 85 17 (b3 10) 84 (p 84 (eU 18 fP (jw (Y 87 12 hE (aR 41) (m C) E' (bg 1 91 p1 p2 91 1 2 (dp 92 p2 19 (R' 93 (l (dc 18) (d 12) hE (d 19) (a (d 16) (Gc 42 p5 p3 p2 p1) (bu 16 18))))) 99 (d9 p9 1) 90)) (fD 100 (dc 18) gp))) (bb 102 17 (bI 92) (R 101) 101 (eD 104 (dc 7) (d 12) hE (j 3 5) ah eO (d 16) (Gc 42 p7 p5 p2 p1) gp jn))))))) (aB 112 16 f2 (S' (ao 43 (aI 64)) gp) jn)))))))))
def Tryz.x20:=fB 94 [.tmp 8]<|ay 8 B (Z (Y 19 0 hv (aR 44) fq (aJ hv (aR 44) (P ax p4) ad (ex 2) (fE (aR 46)) (dj p3 3) (O p4 (aR 46)) (aJ (O p5 (bY 45)) (O p6 ef) (b4 p7) ad (ex 2) (fE (aR 47)) (dj p3 3) (O p4 (aR 47)) (eC (O p5 (dK ax)) p6))) (fl 40 8)) (ay 9 C (am 0 (aP (aB 41 9 (bI 2000) E' (aN 42 0)) 1 (b7 46 0 9 (dg (e8 48) 45 (eM p4 0 p5 1 10 11)) (b7 52 1 9 (dg (e8 48) 51 (eM p4 0 p5 1 12 13)) (jw (aZ 57 10 12 (bN ax) ad (l (ex 11) (dj p2 13) (O p3 (bN (Bq true))) (b4 p4) E') (fl 64 8)) (bb 65 11 ef E' 66 (YU 0))))) (bZ 43 9 ge (R 9))))) (jw (ay 14 C (am 2 (aP (aZ 67 14 0 hv (aR 44) (bW (az sL 65536) (fm p5)) (aN 72 2)) 3 (Y 76 0 hv (d 14) (kC3 49 p2 p1 (aI 4096)) (fA 75 p5 0 p6 1 15 16) (Y 83 1 hv (d 14) (kC3 49 p2 p1 (aI 4096)) (fA 82 p5 0 p6 1 17 18) (Y 89 15 (Gb (yz (.t 89))) (d 17) (Gb (yz (.t 91))) (aA (dK (Br true))) (fl 93 8)))) (bZ 73 14 (di 4096) (R 14))))) (aX 8 ag)))
def Tryz.x21:=fB 117 [.tmp 2,.tmp 3]<|bX 1 bG bh gd (jw (L 12 (fG 1) (aR 50) hC (bb 14 4 gv E' 15 (e 2 (ej 16 4 (bW (m bh) (d 16))) jn))) (e 17 (l (fG 1) (aR 51) (u [aQ,aQ,aQ,aQ,aQ,aQ,aQ,aQ,aQ,aQ,aQ,C,aQ,aQ,aQ,bh] [(4,11,.t 18)]) bG gT) (Z (fr 21 5 1 C E' (fy 0 25 25 0 1 (eL 26 hA 3 7 ia 3 7 (aE 28 5 y dz (j 0 7) (eW (j 2 7) ah hB (bW (dW 6) (ab 52 [hX,.t 32,hZ]))))) 38 24 24)) (ff 39 3 1 gK E' (ai 42 (aE 43 5 (wR [C] (aI (-1))) (j 3 1) ah (l f5 dz ah (ao 53 p6) (a gz f3 (dh dz 1 p4)))))) (Z (ff 54 4 1 gK E' (ai 57 (fL 59 5 4 1 ah f5 (aJ dz ah (j 4 1) ah f5 fY ah (ab 54 [.t 64,.t 69]) (er 58 (l (lX h9 0) (lX h9 1) (bF 59) (o 15) (dD 1 74 71))))))) (fr 75 8 1 C E' (fy 2 79 79 2 3 (eL 80 gU 2 9 gL 2 9 (bo 82 5 y 3 (j 0 9) (aJ ah hB f3 ah (j 1 9) ah (ab 55 [.t 84,.t 89,.t 91]) ef E') (ai 93 (dZ 2 bh 13)))) 94 78 78)) (jw (fr 95 10 1 C E' (fy 4 99 99 4 5 (eL 100 gU 2 11 gL 2 11 (ds 102 5 15 (aJ (j 0 11) ah hB f3 ah (j 1 11) ah (ab 56 [.t 105,.t 110,.t 112]) (aA gv)) (ai 114 (dZ 2 bh 14)))) 115 98 98)) (e 2 (ej 116 5 (fb (d 116) C)) jn))))))
def Tryz.x22:=fB 14 [.cell 0 11 true]<|eU 0 fR (eD 1 (wR [C] (aI 127)) (wR [C] (aI 127)) (u gL [(0,1,.t 1),(1,1,.t 2)]) (aG 1 2 gL [(0,.t 3)]) (bQ [C] C) hf (u fQ [(0,1,v 65),(3,1,oC (D 1))]) (u fQ [(0,1,v 106)]) (l (u fQ [(0,1,v 11)]) (aG 4 6 fQ [(0,.t 6),(1,.t 7),(2,.t 8),(3,.t 9)]) (u gL [(1,1,.t 10)]) (aG 1 2 gL [(0,.t 11)]) (S' (u fR [(7,1,v (-1)),(0,1,.t 4),(2,1,.t 5),(9,1,.t 12)]) (bu 11 0))) jn)
def Tryz.x23:=fB 57 [.tmp 4]<|ay 4 bh (eu 10 1 fZ (aR 57) (bc (u [bh,bh,aQ,aQ,aQ,aQ,aQ,aQ,aQ,C,aQ,aQ,aQ,aQ] [(0,1,.t 10),(1,1,.t 11),(2,11,.t 13)]) bG 5) (jw (bo 16 5 y 2 (o 9) (a ah a1 gd) (fy 0 23 23 0 1 (ap 24 p2 hu (fd 2 (aU 7 gL (h 6 p3 (bu 2 7)))) (bo 28 5 y 2 hz (H 5 y fc fY (eW a1 gH ez (fs 29 [hY,.t 39] 27 (aq (q' 27) 0 (q' 27) 1 (aU 8 gL (bH 2 8 41 (R 9))))))) (bm 43 5 5 y gY (eW (aM 2 8) (aM 2 7) (ab 58 [.t 48,.t 49]) (dQ p4 p5 (l (aG 1 7 gk [(0,.t 50)]) (d2 7 168 47 51) (bF 43) gY (dD 1 54 52))))))) 55 22 22)) (et 56 5 4)))
def Tryz.x24:=fB 11 [.tmp 2]<|ay 2 bh (bv 3 p3 h8 a1 (P4 p1 (aI 4096)) (l (e6 1 p4 p1) (aR 59) (u [aQ,aQ,hj] [(0,1,.t 8)]) bG (R 2)) jn)
def Tryz.x25:=fB 72 [.cell 2 5 true,.tmp 3]<|bX 2 (aa f9) B E' (aF 12 (kC0 60) 4 (Z (bb 13 0 (bi 64768) E' 14 (aS 15 (kC0 61) 4)) (dn 16 4 a1 C (fy 0 19 19 0 1 (eL 20 (u0 5 p4 p2) 5 6 fM 5 6 (jw (dH 22 0 0 6 hL (W p1 (ex 0) (e5 p2 1 6) (eb p3) (eC (O p4 (dK tc)) p5)) (ai 31 (YU 1))) (eD 32 (j 2 6) ah (j 3 6) ah (j 4 6) ah (bO (Br true) af) (u f9 [(0,1,.t 33),(1,1,.t 35),(2,1,.t 38)]) (bJ 7 f9 5 7) (a6 8 B (bS 40 4 6 (Wi p1) a1 gd (fy 2 45 45 2 3 (e4 46 p4 p2 (R 10) (a6 11 (b 127) (ar 48 hK (B0 4 (a5 50 (i s p2 (r 58)) 49 49 (ay 8 ag (YU 3)) 52 (i s p4 (r 108)) 51 51 (R' 11 (bq (b 126))) (aF 54 (i s p6 (r 118)) 53 (fa 53 11 (bq (b 123))))))) (ar 55 hw (p 55 (R' 56 (bK 4 7 (d 11) gO (a hN (j 4 7) f7))) (R' 62 (bK 3 7 (d 11) gO (a hN (j 3 7) f7))))))) 68 44 44)) (fD 69 (aM 5 7) (bl 5 2 (a7 3 ag))))))) 70 18 18)) (fD 71 (u f9 []) (bl 5 2 (a7 3 B)))))
def Tryz.x26:=fB 56 [.tmp 4,.tmp 5]<|dk 4 aQ C (ay 6 aQ (Z (dn 11 0 a1 C (fy 0 14 14 0 1 (e4 15 p4 p2 (R 8) (ay 9 (b 1) (Z (ar 17 bP (B0 2 (ea (aT 19 (F s p2 127) 18 18 uT (aS 20 (F s p3 126) 18)) 18 uT (aT 22 (F s p5 123) 21 21 (R' 9 (bq (b 2))) (dZ 4 aQ 1))))) (Y 23 1 a1 h2 g6 E' (ai 26 (dZ 4 aQ 1))) (Y 27 1 (aV p1 d1) ah (u fV [(0,1,hW)]) (bJ 10 fV 2 10) (Z (bb 31 8 (bT 127) E' 32 (R' 33 (bK 0 10 fp (j 0 10) f7))) (bb 37 9 (bT 2) E' 38 (aE 39 1 (aV p1 (aI 1)) ah (j 1 10) f7)) (Y 43 6 (aM 2 10) (aR 39) (aG 1 16 fP [(0,.t 45)]) (dL 16 16 p4 6) (bZ 48 1 h2 (ae f0 1)))))))) 51 13 13)) (bb 52 1 a1 (aA gK) 54 (dZ 4 aQ 1)) (e 4 (ej 55 6 (fb (d 55) C)) jn)))
def Tryz.x29:=fB 50 [.cell 4 2 true,.tmp 5]<|e 4 (eT 2 p4 (fb (aa gL) B)) (a6 6 (b (-1)) (eh 8 (b1 p6) (ae a1 7) (ee (Y 12 1 hi ad (dJ 1) (d3 (df bP) (fe g6) fj 11) (p 11 (R' 19 (bK 1 2 fq (eH p2 p1) (bc fc ah 6))) (aZ 26 1 7 (bN nK) ad (aJ (dJ 1) (bL p2 7) (fe gu) (dT p4 2 2) (A p5 ah) (A p6 a1) (A p7 (fm p4)) (dF p8) (R 25)) (fa 25 38 (bK 2 2 fq hb (d3 gu (dR p4) ah 6)))))))) (e 45 (l (fG 2) gH (e8 75) (lX p1 0) (S' (lX p2 1) (aW 2 4 p2 gT))) jn))
def Tryz.x30:=fB 98 [.tmp 6]<|ay 6 aQ (Z (bv 9 p8 fZ y dz (eW y fc fY (a ah a1 (aA (fm (q' 9))))) (ai 19 (dI 20 0 1 gQ (e9 76) ga))) (e0 24 2 (dO 64) (ai 28 (aB 29 0 y (eG 3 1 (aI 26)) (aX 6 aQ)))) (e0 32 0 (l y gY ah fq (H 0 y dz ah (l y fc fY ah (d3 a1 (P oe (q' 39)) (u0 7 (q' 38) p1) 7)))) (e 56 (aH 51 fZ 52 hb (ej 54 2 (H 7 y fc ah (S' a1 (aH 53 (aG 0 2 fV []) 55 (d2 2 16 53 54) (dQ p2 p3 (d3 (U (tf 2 16 fV (.t 55) (.t 60))) (u [bh,bh,C,aQ,aQ,aQ] [(0,1,.t 51),(1,1,.t 52),(4,1,.t 61)]) bG 8))))))) (aZ 64 8 7 y f3 (aJ ah a1 e1 hb y dz fY ah (bW a1 (ab 77 [.t 64,.t 70,ei,.t 76]))) (e0 78 2 (fk ge p5 gj) (aB 85 8 (aR 78) E' (e0 87 2 (fk e1 p5 gj) (ds 94 8 3 ga jn))))))))
def Tryz.x31:=fB 35 [.tmp 4]<|ay 4 aQ (dB 5 aQ 8 p8 a1 gd (fy 0 11 11 0 1 (ap 12 p2 (aV p5 p3) (bf ah 6 p3 (R 7)) (aZ 15 5 1 gH gr (l dz ah f2 (aD 1 8 p7) gT) (bb 23 7 (bT 123) E' 24 (bm 25 5 1 gH gr (l fY ah f2 (aD 1 8 p7) gT))))) 33 10 10) (et 34 5 4))
def Tryz.x32:=fB 9 [.tmp 2]<|fK 2 hj 3 p3 eZ E' 4 2 hj (bv 5 p5 y fc ah (R 2) jn)
def Tryz.x33:=fB 26 [.tmp 4]<|ay 4 B (Z fN (ay 5 C (am 0 (aP gN 1 (eu 17 5 dX ah hM (fl 25 4)) (bZ 15 5 ge gT)))) h0)
def Tryz.x34:=fB 31 [.tmp 6]<|a6 6 C (ee (ap 8 p8 eZ (R 7) (p 7 (aX 6 (b 2)) (bv 11 p9 (dy 1) ad h3 (aJ (df (dy 2)) dV ad h3 (df (dy 4)) dV ad h3 (bc (df (dy 8)) dV 10)) (p 10 (aX 6 (b 1)) (eu 26 1 gQ (e9 79) (ae ef 25) (a3 25 6 (b 23)))))))) (aX 6 C)
def Tryz.x35:=fB 22 [.tmp 2]<|ay 2 bR (dB 3 bR 6 p6 a1 gd (fy 0 9 9 0 1 (ap 10 p2 (aV p5 p3) (bf ah 4 p3 gT) (aE 13 3 bP bC ha (d3 hE hy (P zG p6) 3))) 20 8 8) (et 21 3 2))
def Tryz.x36:=fB 67 [.tmp 8,.tmp 9]<|e 8 (eT 5 p7 (fb (m bR) C)) (eh 14 (be p9) (ae (bt 64768) 10) (bv 17 p7 (bi 84) ad (dJ 10) (bc (em 91) dV 11) (Y 23 10 (bT 11) ad (ex 10) (l (fE (bi 88)) (O p3 ad) (dJ 10) (em 91) (bc (O p6 dV) (b4 p7) 12)) (es 33 0 5 (ae (aR 14) 13) (jw (ee (ea (dS 37 13 f6 36 (en 36 (b7 39 12 3 (ae (bN (Bq true)) 36) (en 36 (es 42 2 5 (ae gC 36) (en 36 (bx 45 (j 2 5) ah (ae (bi 4294967296) 36)))))))) 36 (dZ 8 bR 1) (Y 49 11 ad (ey 3 5) dP (l (bL p3 13) (A p4 (dY oO 16)) (A p5 bC) (A p6 (P nK p4)) (ae (dF p7) 48)) (p 48 (dZ 8 bR 1) (bb 59 0 eZ (R 58) 58 (dZ 8 bR 2)))))) (Y 61 2 bC (j 2 5) ah (a bC hD (ew 8 9 C)) jn))))))
def Tryz.x37:=fB 28 [.tmp 6]<|w 3 fH (a7 6 bR) (jw (bv 8 p6 gC ad hg fn (a3 15 6 bR)) (dS 16 1 (az oO 8) 7 (dI 18 2 7 gt gQ (H 7 gt hb ez (bc (tR 16 1 (q' 3) (TF p6) (TF p1)) (aR 35) 6)))))
def Tryz.x38:=fB 44 [.tmp 6,.tmp 7]<|dk 6 bR C (jw (eu 12 1 gQ (e9 34) (R 8) (ap 16 p8 gv E' (ai 17 (e 6 (ej 18 8 (bW (m bR) (d 18))) jn)))) (a6 9 bR (e0 19 0 (H 1 fq gQ bC (l hx (bj 1 p6 (TF p5) p1) a1 (m C) E')) (fy 0 31 31 0 1 (ap 32 p2 (aV p5 p3) (bf ah 10 p3 (R 11)) (bm 35 9 11 bC hK (d3 hE hy (P zG p6) 9))) 42 30 30)) (e 6 (ej 43 9 (fb (d 43) C)) jn)))
def Tryz.x39:=fB 27 [.cell 2 16 true]<|L 1 bG (aa fP) E' (eU 3 fP (jw (ay 5 C (aC 0 6 (bI 8) (ba 6 0 1 (dp 7 p2 4 (bv 8 p4 (be p8) ah eQ (l hE eA fx (JX 16 1 (q' 3) p7) f7) (aE 16 4 (dY qi 8) h6 ah (H 4 hE eA fx (dh (JX 16 1 (q' 3) p7) 1 p2))))) 25 (ac 5 1) 5))) (fI 26 (dc 3) 16 2)))
def Tryz.x40:=fB 37 [.cell 6 16 true]<|eU 6 fP (aB 11 0 f2 (S' (ao 43 (aI 64)) (aU 7 fP (da 16 p7 p1))) (eU 8 fP (fw 14 1 (dY oO 64) C (fy 0 17 17 0 1 (dp 18 p2 9 (e 19 (l (dc 7) fq h2 (e9 37) (R 10)) (jw (ar 23 gQ (fa 23 24 (l (dc 7) fq h2 (e9 80) (ae bC 10)))) (R' 29 (l (dc 8) fq (eK 2) h2 (a hK (Gc 42 p5 p3 p2 p1) (bu 16 8))))))) 35 16 16) (fI 36 (dc 8) 16 6))))
def Tryz.x41:=fB 11 [.tmp 2]<|a6 2 C (ar 3 (mU p3) (ee (jw (a5 5 (F s p2 8) 4 4 uT 6 (F s p3 16) 4 4 uT (aT 7 (F s p4 32) 4 4 uT (aS 8 (F s p5 64) 4))) (ai 4 (ap 9 p9 (dY oO 128) (R 2) jn))))) (aX 2 C)
def Tryz.x42:=fB 38 [.cell 8 16 true]<|w 4 (AO p4) (aU 8 fP E') (Z (bv 10 p8 gC ad (ex 2) fn (ai 17 (fI 18 (dc 4) 16 8))) (dn 19 1 (az oO 8) C (fy 0 22 22 0 1 (dp 23 p2 9 (bm 24 2 1 (az oO 8) (dK sL) (H 9 ez (d 3) h2 (l hE eA fx (JX 16 1 (q' 4) p6) f7)))) 36 21 21)) (fI 37 (dc 4) 16 8))
def Tryz.x43:=fB 28 [.cell 4 16 true]<|eU 4 fP (eU 5 fP (jw (bv 8 p7 dM a1 fZ (l (aR 41) (P4 p3 p1) (e6 1 p6 p1) a1 gd) (fy 0 17 17 0 1 (ap 18 p2 (aV p5 p3) (bf ah 6 p3 (R 7)) (R' 21 (l (dc 5) fZ gH hb (S' (Gc 42 p4 p3 p2 p1) (bu 16 5))))) 26 16 16)) (fI 27 (dc 5) 16 4)))
def Tryz.x44:=fB 11 [.tmp 2]<|fK 2 C 3 p3 eZ E' 4 2 C (bv 5 p5 y dz ah (bc a1 (az oO 65536) 2) jn)
def Tryz.x45:=fB 42 [.tmp 4]<|ay 4 B (Z fN (ay 5 C (am 0 (aP gN 1 (eu 17 5 gr dz (aJ ah fq hk gr dz ah (P ax p6) ad (aJ (ex 0) (dj p2 5) (O p3 gr) (O p4 fY) (eb p5) (dj p6 1) (dj p7 5) (O p8 gr) (l (O p9 fY) (eb (q' 28)) (U (gF hV false (jz.call 33 [.t 33,.t 38]))) (O (q' 28) ef) (aA (b4 (q' 28)))))) (fl 41 4)) (bZ 15 5 ge gT)))) h0)
def Tryz.x46:=fB 28 [.tmp 2]<|fK 2 aQ 6 p6 eZ E' 7 2 aQ (a6 3 aQ (bv 8 p8 y fY ah (fb a1 C) (fy 0 14 14 0 1 (eL 15 gU 2 5 [C,aQ] 2 5 (fL 17 3 0 5 ah (j 1 5) (a ah (ab 59 [g9]) (dQ p4 p5 (d3 (u [C,aQ] [(0,1,.t 19),(1,1,hs)]) (aG 1 2 [C,aQ] [(0,gc)]) (d2 2 32 17 24) 3))))) 26 13 13)) (et 27 3 2))
def Tryz.x47:=fB 10 [.tmp 2]<|fK 2 C 3 p3 eZ E' 4 2 C (bv 5 p5 y dz ah (ae a1 2) jn)
def Tryz.x48:=fB 30 [.tmp 4,.tmp 5]<|dk 4 bR B (jw (bv 6 p6 eZ ad (O p1 dM) fU (ai 21 (dw 4 bR B))) (bo 22 0 y 0 dz ih jn))
def Tryz.x49:=fB 39 [.tmp 6,.tmp 7]<|dk 6 aQ C (jw (ee (ap 9 p9 eZ (R 8) (p 8 (dZ 6 aQ 2) (Y 12 1 gC ad (ex 2) (l (fE gC) g1 ad (ex 2) (bc (fE (de 4096)) g1 11)) (p 11 (dZ 6 aQ 1) (eu 23 1 bC gQ (bc (eY 79 p4) ef 22) (ai 22 (dZ 6 aQ 23)))))))) (e0 29 0 (H 1 fq gQ ez (a (bj 1 p5 (TF p4) p1) (aD 1 1 hq) fC)) jn))
def Tryz.x50:=fB 34 [.tmp 2]<|bX 1 bG C E' (Z (L 9 (E 11 p8) (aR 81) (fA 8 p3 0 p4 1 3 4) (ap 13 p9 gv E' (ai 14 (et 15 4 2)))) (L 16 (fG 1) (aR 82) (aA ef) (a3 18 2 (b 12))) (jw (fr 19 9 1 C E' (fy 0 23 23 0 1 (dp 24 p2 5 (L 26 (fG 1) hk (dg (e8 83) 25 (eM p4 0 p5 1 6 7)) (aB 31 7 ef E' (a3 32 2 (b 12))))) 33 22 22)) (aX 2 C)))
def Tryz.x51:=fB 154 [.cell 2 11 true]<|L 1 bG (aa fR) E' (w 13 (fG 1) (bJ 3 fR 11 3) (bS 14 0 1 (aR 84) g3 f7 (jw (fr 18 0 3 C E' (fy 0 22 22 0 1 (ap 23 p2 hu (fd 2 (aU 5 gL (h 4 p3 (bu 2 5)))) (R' 26 (bK 0 3 ha (j 0 5) (S' ah (aH 32 (j 1 5) 33 (f 1 (q' 32)) (S' (ab 85 [hX]) (dQ p5 p6 (el 33 32 (fo 34 85 [.t 33] (dQ p5 p6 (aH 35 (u gL [(0,1,hY),(1,1,.t 34)]) 36 (a9 p5 p4) (dD 2 36 35)))))))))))) 37 21 21)) (bS 38 1 1 (aR 86) h7 f7 (bS 42 2 1 (aR 85) (j 2 3) f7 (bS 46 3 1 (aR 87) (j 3 3) f7 (bS 50 4 1 (aR 87) (j 4 3) f7 (bS 54 5 1 (aR 88) (j 5 3) f7 (jw (fr 58 5 3 C E' (fy 2 62 62 2 3 (dp 63 p2 6 (R' 64 (aJ (j 5 3) ah gH (j 5 3) ah gH (eH p2 p1) fc (a ah (ab 89 [.t 72]) (dN p9 64 (a (eH p9 p8) fc (dD 1 75 73))))))) 76 61 61)) (bS 77 6 1 (aR 90) (j 6 3) f7 (bS 81 8 1 (aR 91) (j 8 3) f7 (jw (fr 85 8 3 C E' (fy 4 89 89 4 5 (ap 90 p2 hu (fd 2 (aU 8 gL (h 7 p3 (bu 2 8)))) (R' 93 (bK 8 3 hb (j 0 8) (S' ah (aH 99 (j 1 8) 100 (f 1 (q' 99)) (S' (ab 89 [.t 97]) (dQ p5 p6 (el 100 99 (fo 101 85 [.t 100] (dQ p5 p6 (aH 102 (u gL [(0,1,.t 98),(1,1,.t 101)]) 103 (a9 p5 p4) (dD 2 103 102)))))))))))) 104 88 88)) (bS 105 9 1 (aR 92) (j 9 3) f7 (jw (fr 109 9 3 C E' (fy 6 113 113 6 7 (ap 114 p2 hu (fd 2 (aU 10 gL (h 9 p3 (bu 2 10)))) (R' 117 (bK 9 3 h2 (j 0 10) (S' ah (aH 123 (j 1 10) 124 (f 1 (q' 123)) (S' (ab 85 [.t 121]) (dQ p5 p6 (el 124 123 (fo 125 89 [.t 124] (dQ p5 p6 (aH 126 (u gL [(0,1,.t 122),(1,1,.t 125)]) 127 (a9 p5 p4) (dD 2 127 126)))))))))))) 128 112 112)) (bS 129 10 1 (aR 93) (j 10 3) f7 (jw (fr 133 10 3 C E' (fy 8 137 137 8 9 (ap 138 p2 hu (fd 2 (aU 12 gL (h 11 p3 (bu 2 12)))) (R' 141 (bK 10 3 (d 11) (j 0 12) (S' ah (aH 147 (j 1 12) 148 (f 1 (q' 147)) (S' (ab 89 [.t 145]) (dQ p5 p6 (el 148 147 (fo 149 94 [.t 148] (dQ p5 p6 (aH 150 (u gL [(0,1,.t 146),(1,1,.t 149)]) 151 (a9 p5 p4) (dD 2 151 150)))))))))))) 152 136 136)) (fI 153 (fG 3) 11 2)))))))))))))))))
def Tryz.x52:=fB 66 []<|ar 5 fH (bv 7 p7 dM y fc (aJ ah fZ y dz ah a1 gO (d2 1 8 11 17) (a (bF 7) fc (dD 1 20 18))) (a6 6 C (bb 21 1 (bT 127) E' 22 (R' 6 (bq (b 1)))) (eu 23 0 y dz (eW (j 3 5) ah f2 (fk (d2 1 8 27 30) p9 (S' dz (dD 1 33 31)))) (eu 34 0 y fY (eW gH gO hN (a gz fY ho)) (bb 44 1 (bT 123) E' 45 (eu 46 0 y dz (eW (j 4 5) ah f2 (fk (d2 1 8 50 53) p9 (S' dz (dD 1 56 54)))) (fh 57 0 y fY (eW (bQ [C] C) (aD 1 8 p2) gy (eG 1 1 p3)))))))))
def Tryz.x53:=fB 48 [.tmp 4]<|dB 4 aQ 9 p8 gC E' (fa 10 11 gX) (Y 13 0 a1 bC fq (a bC (bY 95) (fA 12 p7 0 p8 1 5 6)) (jw (Y 21 5 (bO tc bR) ad (ex 6) (eC (fE (dm tc 9223372036854775807)) p3) (fa 26 27 gX)) (aB 28 6 eO (ae (Gb (oP 1 8 [C] hW hW)) 7) (b7 31 7 0 (ae gh 8) (jw (am 0 (jw (aZ 34 8 7 a1 hL E' (aN 37 0)) (B0 1 (bm 38 8 7 hw f0 (H 7 hw (e6 1 p2 p1) (U (oQ 1 (wO fu) (wO (.t 44)))) (ae (P qi p8) 8)))))) (et 47 7 4))))))
def Tryz.x54:=fB 27 [.tmp 4,.tmp 5]<|dk 4 bh C (jw (ee (ea (ap 7 p7 gC ga (en 6 (ap 9 p8 (bI (-1)) ga (en 6 (aE 11 1 hi ad (dJ 1) (d3 (bL p2 0) (fe g6) fj 6)))))) 6 (dZ 4 bh 1) (bb 19 0 (de 16) (R 18) 18 (dZ 4 bh 3)))) (Y 21 0 (az sL 65536) (Gb (oP 1 1 [a0] hs hs)) fq (a (u [aQ,C] [(0,1,gc),(1,1,ht)]) bG (ew 4 5 C)) jn))
def Tryz.x55:=fB 27 [.tmp 6]<|a6 6 B (bv 7 p6 b0 a1 bC (aJ hD fZ y dz ah a1 bC (P tc p7) E') (fl 18 6)) (e0 19 0 (H 1 f0 gQ gh E') (aX 6 ag))
def Tryz.x56:=fB 23 [.tmp 6]<|ay 6 C (Z (ap 7 p7 eZ E' (a3 8 6 (b 2))) (bv 9 p9 bP bP a1 (bW (dG 79 p4 p3) ef) (a3 14 6 (b 23))) (e0 15 0 (H 1 f0 gQ gh E') (aX 6 C)))
def Tryz.x57:=fB 11 [.cell 2 11 true]<|eU 2 fR (jw (ap 3 p3 eZ E' (ai 4 (fD 5 (u fR []) (da 11 p4 p1)))) (bv 6 p6 y (o 4) hz (S' (aR 51) (da 11 p9 p1)) jn))
def Tryz.x58:=fB 104 [.cell 4 7 true]<|L 2 b8 b8 (aA (aa gk)) (eh 11 (b1 p8) (ae a1 5) (e 14 (l (aM 2 2) g3 ah h7 (a ah hk (aH 21 hk 23 hk (S' (Gb (oP 5 72 f9 (.t 19) (.t 19))) (ek 22 (Gb (oP 1 8 [C] g9 g9)) 24 (Gb (oP 1 8 [C] gc gc)) 25 (u gk [(0,2,.t 14),(2,1,.t 16),(3,1,.t 18),(4,1,hr),(5,1,hs),(6,1,ht)]) 6 (aa gk) (dD 7 6 25)))))) (a6 7 aQ (fr 26 1 3 C E' (fy 0 30 30 0 1 (ap 31 p2 (eP p5 p3) (fd 6 (aU 9 fQ (h 8 p3 (bu 6 9)))) (bS 35 4 6 hw (j 0 9) (a ah (ab 25 [.t 39]) (dQ p5 p6 (er 34 (aq p7 0 p8 1 (S' (u0 5 p7 p6) (dD 5 43 41)))))) (es 44 0 9 E' (B0 2 (ea (a5 47 (F s p2 2) 46 46 uT 48 (F s p3 3) 46 46 uT (aS 49 (F s p4 4) 46)) 46 (bm 50 7 8 gO hN (R 7)) (fz 55 45 5 54 54 (R' 56 (aJ (j 6 6) ah hb hb a1 e1 (dR p4) ah (a hw (aV p8 p2) (dD 1 65 64)))) (aF 67 (b5 45 11) 66 (ai 66 (bb 68 7 a1 (aA gK) 70 (aZ 71 7 7 a1 e1 (bc (dR p4) ah 10) (aZ 77 7 7 a1 e1 (ae (e6 1 p4 p1) 7) (bS 82 5 6 hK hw (dh (aV p3 p2) 1 p2) (bS 87 6 6 hK dX (bW ah gK) (fa 92 93 (bK 5 6 (j 6 6) ah (H 10 dX ah hw (S' (aV p7 p2) (dD 1 101 100)))))))))))))))))) 102 29 29)) (fI 103 (aM 7 6) 7 4))))
def Tryz.x59:=fB 8 [.tmp 2]<|fK 2 aQ 3 p3 gS E' 4 2 aQ (L 5 (aG 0 1 [bR] []) b0 (dL 1 8 p2 2) jn)
def Tryz.x60:=fB 44 [.tmp 0]<|ay 0 aQ (eD 1 (u fM [(0,1,ei),(1,1,ei),(2,1,eE),(3,1,ei),(4,1,gD)]) (u fM [(0,1,eE),(1,1,eE),(2,1,eE),(3,1,ei),(4,1,aY ⟨#[58]⟩)]) (u fM [(0,1,hn),(1,1,v 4),(2,1,hn),(3,1,ei),(4,1,gD)]) (u fM [(0,1,v 5),(1,1,v 5),(2,1,eE),(3,1,ei),(4,1,gD)]) (u fM [(0,1,v 11),(1,1,v 11),(2,1,eE),(3,1,ei),(4,1,gD)]) (u fM [(0,1,v 12),(1,1,hc),(2,1,v 3),(3,1,ei),(4,1,gD)]) (u fM [(0,1,v 14),(1,1,v 14),(2,1,v 4),(3,1,ei),(4,1,gD)]) (u fM [(0,1,v 15),(1,1,v 15),(2,1,eE),(3,1,ei),(4,1,gD)]) (aJ (u fM [(0,1,v 16),(1,1,v 16),(2,1,v 5),(3,1,ei),(4,1,gD)]) (u fM [(0,1,v 17),(1,1,v 17),(2,1,v 6),(3,1,ei),(4,1,gD)]) (u fM [(0,1,v 26),(1,1,v 27),(2,1,eE),(3,1,ei),(4,1,gD)]) (u fM [(0,1,v 32),(1,1,v 36),(2,1,v 5),(3,1,ei),(4,1,gD)]) (u fM [(0,1,v 40),(1,1,v 40),(2,1,gs),(3,1,hn),(4,1,dl)]) (u fM [(0,1,v 41),(1,1,v 41),(2,1,gs),(3,1,v 3),(4,1,d8)]) (u fM [(0,1,v 44),(1,1,v 45),(2,1,gs),(3,1,ei),(4,1,dl)]) (u fM [(0,1,v 46),(1,1,v 47),(2,1,gs),(3,1,eE),(4,1,dl)]) (aJ (u fM [(0,1,v 48),(1,1,v 49),(2,1,gs),(3,1,ei),(4,1,d8)]) (u fM [(0,1,v 50),(1,1,v 51),(2,1,gs),(3,1,eE),(4,1,d8)]) (u fM [(0,1,v 52),(1,1,v 53),(2,1,gs),(3,1,hn),(4,1,d8)]) (u fM [(0,1,v 54),(1,1,v 54),(2,1,gs),(3,1,hn),(4,1,gG)]) (u fM [(0,1,v 55),(1,1,v 55),(2,1,gs),(3,1,v 3),(4,1,eR)]) (u fM [(0,1,v 58),(1,1,v 58),(2,1,gs),(3,1,ei),(4,1,gG)]) (u fM [(0,1,v 59),(1,1,v 59),(2,1,gs),(3,1,eE),(4,1,gG)]) (u fM [(0,1,v 60),(1,1,v 60),(2,1,gs),(3,1,ei),(4,1,eR)]) (aJ (u fM [(0,1,v 61),(1,1,v 61),(2,1,gs),(3,1,eE),(4,1,eR)]) (u fM [(0,1,v 62),(1,1,v 62),(2,1,gs),(3,1,hn),(4,1,eR)]) (u fM [(0,1,v 63),(1,1,v 63),(2,1,v 14),(3,1,ei),(4,1,aY ⟨#[58,105]⟩)]) (u fM [(0,1,v 64),(1,1,v 64),(2,1,v 14),(3,1,ei),(4,1,dl)]) (u fM [(0,1,v 65),(1,1,v 65),(2,1,v 9),(3,1,ei),(4,1,aY ⟨#[58,105]⟩)]) (u fM [(0,1,v 66),(1,1,v 66),(2,1,v 10),(3,1,ei),(4,1,aY ⟨#[58,108]⟩)]) (u fM [(0,1,v 69),(1,1,v 69),(2,1,eE),(3,1,ei),(4,1,dl)]) (u fM [(0,1,v 70),(1,1,v 79),(2,1,eE),(3,1,ei),(4,1,h1)]) (aJ (u fM [(0,1,v 80),(1,1,v 80),(2,1,eE),(3,1,ei),(4,1,aY ⟨#[108,58,105]⟩)]) (u fM [(0,1,v 81),(1,1,v 90),(2,1,eE),(3,1,ei),(4,1,aY ⟨#[108,108,58,105]⟩)]) (u fM [(0,1,v 103),(1,1,v 105),(2,1,eE),(3,1,ei),(4,1,dl)]) (u fM [(0,1,v 106),(1,1,v 120),(2,1,eE),(3,1,ei),(4,1,h1)]) (u fM [(0,1,v 121),(1,1,v 123),(2,1,eE),(3,1,ei),(4,1,aY ⟨#[108,58,108]⟩)]) (u fM [(0,1,v 124),(1,1,v 138),(2,1,eE),(3,1,ei),(4,1,aY ⟨#[108,108,58,108]⟩)]) (u fM [(0,1,v 167),(1,1,v 167),(2,1,eE),(3,1,ei),(4,1,aY ⟨#[108,58,105]⟩)]) (u fM [(0,1,v 172),(1,1,v 173),(2,1,eE),(3,1,ei),(4,1,d8)]) (d3 (u fM [(0,1,v 192),(1,1,v 193),(2,1,eE),(3,1,ei),(4,1,dl)]) (u fM [(0,1,v 194),(1,1,v 196),(2,1,eE),(3,1,ei),(4,1,aY ⟨#[108,58,108]⟩)]) (aG 42 5 fM [(0,.t 1),(1,.t 2),(2,.t 3),(3,.t 4),(4,.t 5),(5,.t 6),(6,.t 7),(7,.t 8),(8,.t 9),(9,.t 10),(10,.t 11),(11,.t 12),(12,.t 13),(13,.t 14),(14,.t 15),(15,.t 16),(16,.t 17),(17,.t 18),(18,.t 19),(19,hr),(20,g9),(21,hs),(22,gc),(23,ht),(24,.t 25),(25,.t 26),(26,.t 27),(27,hV),(28,hW),(29,hX),(30,hY),(31,.t 32),(32,.t 33),(33,.t 34),(34,.t 35),(35,hZ),(36,.t 37),(37,.t 38),(38,.t 39),(39,.t 40),(40,fu),(41,.t 42)]) 0))))) jn)
def Tryz.x61:=fB 68 [.tmp 0]<|ay 0 aQ (eD 1 (u fM [(0,1,v 64768),(1,1,v 64768),(2,1,gs),(3,1,v 4),(4,1,bM)]) (u fM [(0,1,v 64769),(1,1,v 64774),(2,1,gs),(3,1,v 3),(4,1,bM)]) (u fM [(0,1,v 64775),(1,1,v 64775),(2,1,gs),(3,1,ei),(4,1,bM)]) (u fM [(0,1,v 64776),(1,1,v 64776),(2,1,gs),(3,1,eE),(4,1,bM)]) (u fM [(0,1,v 64777),(1,1,v 64777),(2,1,gs),(3,1,hn),(4,1,bM)]) (u fM [(0,1,v 64778),(1,1,v 64778),(2,1,gs),(3,1,v 3),(4,1,bM)]) (u fM [(0,1,v 64779),(1,1,v 64779),(2,1,gs),(3,1,v 4),(4,1,d0)]) (u fM [(0,1,v 64780),(1,1,v 64780),(2,1,v 11),(3,1,ei),(4,1,aY ⟨#[58,118]⟩)]) (aJ (u fM [(0,1,v 64781),(1,1,v 64781),(2,1,v 12),(3,1,ei),(4,1,eS)]) (u fM [(0,1,v 64782),(1,1,v 64782),(2,1,eE),(3,1,ei),(4,1,eS)]) (u fM [(0,1,v 64783),(1,1,v 64785),(2,1,eE),(3,1,ei),(4,1,bM)]) (u fM [(0,1,v 64786),(1,1,v 64786),(2,1,eE),(3,1,ei),(4,1,aY ⟨#[108,58,118]⟩)]) (u fM [(0,1,v 64789),(1,1,v 64790),(2,1,hc),(3,1,v 16),(4,1,b6)]) (u fM [(0,1,v 64791),(1,1,v 64791),(2,1,hc),(3,1,v 16),(4,1,bU)]) (u fM [(0,1,v 64792),(1,1,v 64793),(2,1,hc),(3,1,v 8),(4,1,b6)]) (u fM [(0,1,v 64794),(1,1,v 64794),(2,1,hc),(3,1,v 8),(4,1,bU)]) (aJ (u fM [(0,1,v 64795),(1,1,v 64795),(2,1,hc),(3,1,v 4),(4,1,b6)]) (u fM [(0,1,v 64796),(1,1,v 64796),(2,1,hc),(3,1,v 4),(4,1,bU)]) (u fM [(0,1,v 64797),(1,1,v 64797),(2,1,hc),(3,1,hn),(4,1,aY ⟨#[118,58,108]⟩)]) (u fM [(0,1,v 64798),(1,1,v 64798),(2,1,hc),(3,1,hn),(4,1,aY ⟨#[118,108,58,118]⟩)]) (u fM [(0,1,v 64803),(1,1,v 64832),(2,1,eE),(3,1,ei),(4,1,eS)]) (u fM [(0,1,v 64845),(1,1,v 64845),(2,1,eE),(3,1,ei),(4,1,dd)]) (u fM [(0,1,v 64846),(1,1,v 64849),(2,1,eE),(3,1,ei),(4,1,eS)]) (u fM [(0,1,v 64850),(1,1,v 64850),(2,1,eE),(3,1,ei),(4,1,aY ⟨#[118,118,118,58,118]⟩)]) (aJ (u fM [(0,1,v 64851),(1,1,v 64851),(2,1,eE),(3,1,ei),(4,1,b6)]) (u fM [(0,1,v 64852),(1,1,v 64852),(2,1,v 8),(3,1,ei),(4,1,eg)]) (u fM [(0,1,v 64853),(1,1,v 64853),(2,1,v 8),(3,1,eE),(4,1,eg)]) (u fM [(0,1,v 64854),(1,1,v 64854),(2,1,v 8),(3,1,hn),(4,1,eg)]) (u fM [(0,1,v 64855),(1,1,v 64855),(2,1,v 8),(3,1,v 3),(4,1,eg)]) (u fM [(0,1,v 64856),(1,1,v 64856),(2,1,v 8),(3,1,ei),(4,1,d0)]) (u fM [(0,1,v 64857),(1,1,v 64857),(2,1,v 8),(3,1,eE),(4,1,d0)]) (u fM [(0,1,v 64858),(1,1,v 64858),(2,1,v 8),(3,1,hn),(4,1,d0)]) (aJ (u fM [(0,1,v 64859),(1,1,v 64859),(2,1,v 8),(3,1,v 3),(4,1,d0)]) (u fM [(0,1,v 64860),(1,1,v 64860),(2,1,gs),(3,1,hn),(4,1,bM)]) (u fM [(0,1,v 64861),(1,1,v 64861),(2,1,gs),(3,1,v 3),(4,1,bM)]) (u fM [(0,1,v 64864),(1,1,v 64866),(2,1,eE),(3,1,ei),(4,1,dd)]) (u fM [(0,1,v 64867),(1,1,v 64868),(2,1,eE),(3,1,ei),(4,1,b6)]) (u fM [(0,1,v 64869),(1,1,v 64870),(2,1,eE),(3,1,ei),(4,1,eS)]) (u fM [(0,1,v 64875),(1,1,v 64877),(2,1,eE),(3,1,ei),(4,1,bU)]) (u fM [(0,1,v 64878),(1,1,v 64883),(2,1,eE),(3,1,ei),(4,1,eS)]) (aJ (u fM [(0,1,v 64886),(1,1,v 64889),(2,1,eE),(3,1,ei),(4,1,eS)]) (u fM [(0,1,v 64891),(1,1,v 64891),(2,1,eE),(3,1,ei),(4,1,eS)]) (u fM [(0,1,v 64892),(1,1,v 64897),(2,1,eE),(3,1,ei),(4,1,dd)]) (u fM [(0,1,v 64898),(1,1,v 64898),(2,1,eE),(3,1,ei),(4,1,eS)]) (u fM [(0,1,v 64899),(1,1,v 64900),(2,1,eE),(3,1,ei),(4,1,b6)]) (u fM [(0,1,v 64901),(1,1,v 64902),(2,1,eE),(3,1,ei),(4,1,eS)]) (u fM [(0,1,v 64903),(1,1,v 64906),(2,1,eE),(3,1,ei),(4,1,dd)]) (u fM [(0,1,v 64907),(1,1,v 64909),(2,1,eE),(3,1,ei),(4,1,bU)]) (aJ (u fM [(0,1,v 64910),(1,1,v 64915),(2,1,eE),(3,1,ei),(4,1,eS)]) (u fM [(0,1,v 64917),(1,1,v 64921),(2,1,eE),(3,1,ei),(4,1,eS)]) (u fM [(0,1,v 64923),(1,1,v 64927),(2,1,eE),(3,1,ei),(4,1,eS)]) (u fM [(0,1,v 64928),(1,1,v 64929),(2,1,eE),(3,1,ei),(4,1,dd)]) (u fM [(0,1,v 64931),(1,1,v 64932),(2,1,eE),(3,1,ei),(4,1,b6)]) (u fM [(0,1,v 64935),(1,1,v 64938),(2,1,eE),(3,1,ei),(4,1,dd)]) (u fM [(0,1,v 64939),(1,1,v 64941),(2,1,eE),(3,1,ei),(4,1,bU)]) (u fM [(0,1,v 64942),(1,1,v 64942),(2,1,eE),(3,1,ei),(4,1,eS)]) (aJ (u fM [(0,1,v 64945),(1,1,v 64945),(2,1,eE),(3,1,ei),(4,1,eS)]) (u fM [(0,1,v 64949),(1,1,v 64954),(2,1,eE),(3,1,ei),(4,1,eS)]) (u fM [(0,1,v 64956),(1,1,v 64959),(2,1,eE),(3,1,ei),(4,1,eS)]) (u fM [(0,1,v 64960),(1,1,v 64961),(2,1,eE),(3,1,ei),(4,1,dd)]) (u fM [(0,1,v 64963),(1,1,v 64964),(2,1,eE),(3,1,ei),(4,1,b6)]) (u fM [(0,1,v 64967),(1,1,v 64970),(2,1,eE),(3,1,ei),(4,1,dd)]) (u fM [(0,1,v 64971),(1,1,v 64973),(2,1,eE),(3,1,ei),(4,1,bU)]) (u fM [(0,1,v 64974),(1,1,v 64974),(2,1,eE),(3,1,ei),(4,1,eS)]) (d3 (u fM [(0,1,v 64977),(1,1,v 64977),(2,1,eE),(3,1,ei),(4,1,eS)]) (u fM [(0,1,v 64981),(1,1,v 64991),(2,1,eE),(3,1,ei),(4,1,eS)]) (aG 66 5 fM [(0,.t 1),(1,.t 2),(2,.t 3),(3,.t 4),(4,.t 5),(5,.t 6),(6,.t 7),(7,.t 8),(8,.t 9),(9,.t 10),(10,.t 11),(11,.t 12),(12,.t 13),(13,.t 14),(14,.t 15),(15,.t 16),(16,.t 17),(17,.t 18),(18,.t 19),(19,hr),(20,g9),(21,hs),(22,gc),(23,ht),(24,.t 25),(25,.t 26),(26,.t 27),(27,hV),(28,hW),(29,hX),(30,hY),(31,.t 32),(32,.t 33),(33,.t 34),(34,.t 35),(35,hZ),(36,.t 37),(37,.t 38),(38,.t 39),(39,.t 40),(40,fu),(41,.t 42),(42,.t 43),(43,.t 44),(44,.t 45),(45,.t 46),(46,.t 47),(47,.t 48),(48,.t 49),(49,.t 50),(50,.t 51),(51,.t 52),(52,.t 53),(53,.t 54),(54,.t 55),(55,.t 56),(56,.t 57),(57,.t 58),(58,.t 59),(59,.t 60),(60,.t 61),(61,.t 62),(62,.t 63),(63,.t 64),(64,.t 65),(65,.t 66)]) 0)))))))) jn)
def Tryz.x75:=fB 29 [.cell 4 2 true,.tmp 5]<|e 4 (eT 2 p4 (fb (aa gL) B)) (jw (bv 7 p6 gC ad hg (l (fE (be p9)) (eb p3) (O p4 a1) (O p5 (P nK p4)) (aA (b4 p6))) (ai 15 (fD 16 (u gL []) (bl 2 4 (a7 5 B))))) (bS 17 0 2 fq gr (fd 2 (bJ 6 gL 2 6)) (e 25 (aH 22 (j 0 6) 23 (f 1 p3) (a (j 1 6) ah (fo 24 85 [gc] (dQ p1 p2 (a (ab 85 [.t 26]) (u gL [(0,1,ht),(1,1,.t 27)]) (bH 2 4 28 (a7 5 ag))))))) jn)))
def Tryz.x76:=fB 62 [.tmp 6]<|ay 6 aQ (e0 11 0 (l y fc fY ah (a fq (eH p2 p1) (fd 3 (bJ 7 [af,af,C] 3 7)))) (e0 22 0 (aJ y fc dz ah (j 2 7) ah (fF p3) (dW 2) (aU 8 gL (dD 2 8 33))) (e0 35 0 (aJ y fY ah fq (aM 3 7) (aM 2 8) (j 0 8) ah (a gQ (ab 31 [.t 46,.t 47]) (el 38 37 (dQ p8 p9 (Q' p6 (aM 3 7) (Q' p5 (aM 2 8) (fs 105 [fu,.t 42,.t 43,.t 44,.t 48] 34 (eM (q' 34) 0 (q' 34) 1 9 10)))))))) (b9 52 10 gv E' 53 (eu 54 10 (tQ p2) f3 ho (aX 6 aQ)) (bS 58 1 8 h2 (e8 106) ga jn)))))
def Tryz.x77:=fB 21 []<|R' 8 (W p8 bP y g4 (aJ ah fq gQ (d 3) (u [C,C,C] [(0,1,.t 13),(1,1,.t 14),(2,1,.t 15)]) (aG 1 3 [C,C,C] [(0,.t 16)]) (aD 3 24 p6) (bF 8) (eG 5 1 p3)))
def Tryz.x78:=fB 105 []<|am 0 (jw (bv 4 p4 y dz ah (l y f3 ah f6 (W p1 gJ (df y) (fe fc) (aJ gi (bL p5 0) (A p6 y) (A p7 fY) (A p8 ah) (A p9 y) (A (q' 12) f3) (A (q' 12) ah) (a (A (q' 12) a1) (A (q' 12) (fm p9)) (aA (dF (q' 12))))))) (aN 26 0)) (B0 1 (e0 27 1 (aJ y f3 ah fZ y fc ah (eP p5 p1) (R 2)) (jw (ds 39 2 0 (aJ (dy 5) ad h3 (df y) (fe dz) gi (A p5 (dy 11)) hd E') (ai 50 (jw (e0 51 0 (l y fY ah f6 E') (ai 58 (e0 59 0 (a y f3 (db 1 (aI 27))) jn))) (aE 65 0 y dz ah (l y fY ah e1 (a (tQ p5) fY ho)))))) (e0 75 1 (aJ y (o 4) ah fZ y fc ah (u0 5 p5 p1) (R 3)) (ds 87 3 2 E' (p 90 (eu 91 2 (d 3) (e9 107) E' (aE 95 0 y fc ah (fk ge p5 gj))) (fJ 102 0 gQ 108))))))))
def Tryz.x79:=fB 26 [.tmp 6]<|ay 6 B (bv 8 p8 y dz ah (bc a1 bC 7) (Y 14 2 bC bP d4 (W p1 (dJ 1) (bL p2 7) (bL p3 2) (l (A p4 bC) (A p5 (dK oe)) (A p6 (P xZ p5)) (dF p7) ga)) jn))
def Tryz.x80:=fB 21 [.tmp 6]<|w 3 fH (a7 6 C) (jw (ap 7 p6 (aR 41) (dO 0) (a3 9 6 C)) (eD 10 (E 16 p7) fq gQ (e9 37) eO fq (dY oe 64) hy (d3 fq (dY oe 64) eA 6) jn))
def Tryz.x81:=fB 93 [.tmp 2,.tmp 3]<|bX 1 bG aQ gd (e 6 (l (aG 8 1 [a0] [(0,oC a0),(1,oC (r 97)),(2,oC (r 115)),(3,oC (r 109)),(4,oC (r 1)),(5,oC a0),(6,oC a0),(7,oC a0)]) (abP p1) (u [aQ,B] [(0,1,.t 7)]) bG hC) (bv 10 p6 (j 2 1) ah a1 (bK 9 1 a1 (P s p4) (a8 109 p8)) (dH 19 4 0 1 (TG 110 p3 (fg 1) (aI 256) p1 (eF 111 [])) E' (dH 23 4 1 1 (TG 115 p3 (fg 2) gA p1 (eF 116 [])) E' (dH 27 4 2 1 (TG 118 p3 (fg 3) gA p1 (eF 119 [])) E' (dH 31 4 3 1 (TG 120 p3 (fg 4) gA p1 (eF 121 [])) E' (dH 35 4 4 1 (TG 120 p3 (fg 5) gA p1 (eF 123 [])) E' (dH 39 4 5 1 (TG 124 p3 (fg 6) gA p1 (eF 125 [])) E' (dH 43 4 6 1 (TG 126 p3 (fg 7) gA p1 (eF 127 [])) E' (dH 47 4 7 1 (bi (-1)) (a8 109 p4) (jw (es 52 7 1 (aA hi) (ai 54 (L 55 (u [aQ,B] []) bG gT (dH 57 5 7 1 gO gZ (bZ 62 4 hk (aA (dG 128 p2 (fg 8)))))))) (dH 65 4 8 1 (TG 129 p3 (fg 9) gA p1 (eF 130 [])) E' (dH 69 4 9 1 (TG 132 p3 (fg 10) gA p1 (eF 133 [])) E' (dH 73 4 10 1 (TG 134 p3 (fg 11) gA p1 (eF 135 [])) E' (jw (ee (ds 78 4 1 (R 77) (p 77 (dZ 2 aQ 1) (ds 83 4 0 (bc a1 (de 16384) 82) (ai 82 (dZ 2 aQ 4)))))) (ds 89 4 0 (ew 2 3 C) jn))))))))))))))))
def Tryz.x82:=fB 97 [.tmp 2]<|bX 1 bG B E' (ff 11 1 1 (j 2 1) (d3 ah a1 hD 3) (Z (aB 18 3 (m C) E' (fy 0 20 20 0 1 (dp 21 p2 4 (L 23 (fG 1) ha (dg (e8 29) 22 (aq p4 0 p5 1 (aU 5 gL (aW 2 5 p2 ga)))) (aB 28 6 ef E' (fl 29 2)))) 30 19 19)) (ff 31 3 1 (de 1) (W p1 (e5 p1 4 1) gb (O p3 a1) (eC (O p4 (de 1)) p5)) (fl 40 2)) (Z (eD 41 (j 3 1) ah (j 4 1) ah (aG 2 1 [aQ] [(0,.t 42),(1,.t 44)]) (aR 136) a1 (m C) E' (fy 2 49 49 2 3 (eL 50 gU 2 8 [C,C] 2 8 (eD 52 (j 1 8) ah (dy (-1)) ad (ey 1 8) dP (dT p3 0 8) gi (bW (A p5 hL) hd) (fl 61 2))) 62 48 48)) (ff 63 4 1 (bT 1) (W p1 (ey 4 1) dP (fe f5) (l (A p4 fY) (A p5 ah) (A p6 (de 65536)) (dF p7) E')) (fl 74 2)) (jw (fr 75 5 1 C E' (fy 4 79 79 4 5 (eL 80 hA 3 10 ia 3 10 (bS 82 2 10 (j 0 10) ah (bW (bY 137) ef) (fl 87 2))) 88 78 78)) (eD 89 (fG 1) (d 3) (e8 138) ad (A p1 (fG 1)) (bL p2 3) (fe (e8 139)) fj (R 2) jn)))))
def Tryz.x83:=fB 110 [.tmp 4,.tmp 5]<|e 4 (eT 2 p4 (fb (m aQ) B)) (e 17 (l (fG 2) (j 1 2) ah a1 (a fq ez (dg (ao 29 p6) 16 (aq p8 0 p9 1 (aU 6 gL (aW 2 6 p2 (R 7))))))) (eD 26 (fG 2) (j 0 6) ah (j 9 2) ah fq gr dz (a ah (aG 2 1 [aQ] [(0,hV),(1,.t 34)]) (S' (ab 140 [.t 35]) (Q' (q' 26) (fG 2) (bc (u [aQ,aQ,aQ,aQ,aQ,aQ,aQ,C,aQ,aQ,aQ,aQ,aQ,aQ,B] [(0,11,.t 26),(11,1,hZ)]) bG 8)))) (dH 39 8 1 6 (u gL [(1,1,fu)]) (aA (dG 141 p4 (aI 2))) (eD 44 (j 9 2) ah fq gr fY ah a1 (Gb (oP 3 24 [B,C,C] (.t 50) (.t 50))) (R 9) (a6 10 C (eD 52 (j 9 2) ah fq gr fY ah a1 (m C) E' (fy 0 60 60 0 1 (ap 61 p2 (eP p5 p3) (fd 6 (aU 12 fQ (h 11 p3 (bu 6 12)))) (jw (dS 64 8 hG 13 (ds 66 13 5 (W p1 (dJ 13) (df y) (fe (o 4)) (a gi (A p5 ef) (aA hd))) (ai 76 (a6 10 C (ds 77 8 12 (fb a1 C) (bg 2 83 p1 p2 83 2 3 (e4 84 p4 p2 (R 15) (bb 86 15 (bT 123) E' 87 (bZ 88 10 ge (R 10)))) 90 g2 82)) (bm 91 9 11 hw y (l hp ah a1 hK (a (u [B,C,C] [(0,1,oC ag),(1,1,.t 97),(2,1,.t 98)]) (eH p9 p8) (eB 3)))))))) (aB 101 8 (aM 6 12) (d7 143) (ds 104 8 14 E' (ai 107 (dw 4 aQ B)))))) 108 59 59)) (e 4 (ej 109 9 (fb (d 109) ag)) jn))))))
def Tryz.x84:=fB 8 [.tmp 2]<|fS
def Tryz.x85:=fB 8 [.tmp 2]<|fK 2 aQ 3 p3 gS E' 4 2 aQ (L 5 (aG 0 1 [C] []) b0 (dL 1 8 p2 2) jn)
def Tryz.x86:=fB 8 [.tmp 2]<|fK 2 aQ 3 p3 gS E' 4 2 aQ (L 5 (aG 0 3 [af,af,C] []) b0 (dL 3 40 p2 2) jn)
def Tryz.x87:=fB 8 [.tmp 2]<|fK 2 aQ 3 p3 gS E' 4 2 aQ (L 5 (aG 0 2 [C,C] []) b0 (dL 2 16 p2 2) jn)
def Tryz.x88:=fB 8 [.tmp 2]<|fK 2 aQ 3 p3 gS E' 4 2 aQ (L 5 (aG 0 3 ia []) b0 (dL 3 40 p2 2) jn)
def Tryz.x89:=fB 24 [.tmp 2]<|ay 2 aQ (ap 5 p5 (aR 144) (R 3) (jw (ap 7 p4 a1 gd (fy 0 10 10 0 1 (dp 11 p2 4 (R' 12 (W p9 bP (d 3) ha (l (eP p2 p1) g4 ah (aR 85) (a (eP p8 p7) g4 ho))))) 22 9 9)) (et 23 3 2)))
def Tryz.x90:=fB 8 [.tmp 2]<|fK 2 aQ 3 p3 gS E' 4 2 aQ (L 5 (aG 0 3 [af,C,C] []) b0 (dL 3 32 p2 2) jn)
def Tryz.x91:=fB 8 [.tmp 2]<|fS
def Tryz.x92:=fB 8 [.tmp 2]<|fS
def Tryz.x93:=fB 8 [.tmp 2]<|fS
def Tryz.x94:=fB 8 [.tmp 2]<|fK 2 aQ 3 p3 gS E' 4 2 aQ (L 5 (aG 0 1 [a0] []) b0 (dL 1 1 p2 2) jn)
def Tryz.x95:=fB 30 [.tmp 4,.tmp 5]<|dk 4 bR bR (jw (TZ (oC B) (Y 11 0 ec fq ec (dg (bY 145) 10 (eM p6 0 p7 1 6 7)) (Y 18 6 bC hb bC (dr 4 p3 5) jn)) uT) (b7 23 0 1 (dg (e8 146) 22 (eM p4 0 p5 1 8 9)) (eV 28 8 9 (dr 4 p2 5))))
def Tryz.amn:=fB 29 [.tmp 4]<|ay 4 aQ (b7 11 0 1 (dg (e8 26) 10 (eM p4 0 p5 1 5 6)) (a6 7 aQ (dn 16 5 a1 C (bg 0 19 p1 p2 19 0 1 (eL 20 (u0 16 p4 p2) 16 9 fP 16 9 (aE 22 7 (dc 9) (aR 17) (aG 1 2 fV [(0,ht)]) (dL 2 16 p4 7))) 27 (d9 p9 1) 18)) (et 28 7 4)))
def Tryz.amo:=fB 210 []<|bv 9 p9 dM y f3 (d3 ah a1 (ao 149 p6) 6) (ay 7 bR (a6 8 C (ee (ds 33 1 0 (ae (bi 64768) 32) (p 32 (dI 38 0 1 gQ gH (aA (Gc 150 p4 p3 p2 p1))) (ds 44 1 0 (fv 1 43) (p 43 jn (ea (ds 50 1 0 (fv 65 49) (en 49 (aE 55 1 y dz ah (fv 66 49)))) 49 (aE 60 1 y f3 ah (R 7)) (ds 65 1 0 (fv 63 64) (p 64 (aE 70 0 y dz ah (aJ y dz ah y dz ah hv (aR 44) (ae bC 7))) (ds 84 1 0 (fv 64 83) (p 83 (aE 89 0 y dz ah (l y dz ah y (a dz ah (ek 100 gH 101 (a9 (q' 100) d1) 102 (j 0 101) 103 (f 1 (q' 102)) (D' 104 (M .u32 (q' 103)) (S' (ab 15 [.t 98]) (el 103 102 (aH 105 (ab 151 [.t 99,.t 104]) 106 (bw (q' 105)) (ej 7 106 E'))))))))) (ds 108 2 0 (aJ (bT 7) ad h3 (df y) (fe (o 4)) gi (A p5 a1) (A p6 f6) (ae (dF p7) 107)) (p 107 (e 133 (ek 121 fZ 122 fZ 123 (bF 122) 124 (j 0 123) (ek 125 (f 1 p9) 126 gz 127 (be p7) 128 (f 1 p6) (aH 129 (tQ p5) 130 (be p4) (D' 131 (f 1 p3) (H 1 y dz ah (H 6 f5 dz ah (H 1 y fc ah (l bC gH g8 dz (S' ah (fo 132 15 [.t 131] (el 136 135 (el 140 139 (dQ p6 p7 (dQ p1 p2 (bW (ab 153 [.t 132,.t 136,.t 140,.t 145,.t 149]) (ab 152 [.t 121,.t 150])))))))))))))))) jn) (ds 153 2 0 (fv 7 152) (p 152 (R' 170 (ek 159 fZ 160 (bF 159) 161 (j 0 160) 162 (f 1 p9) (ek 163 gz 164 (be p7) 165 (f 1 p6) 166 (tQ p5) (aH 167 (be p4) 168 (f 1 p3) (H 1 y dz ah (H 6 f5 dz ah (H 1 y fc ah (S' bC (fo 169 15 [.t 168] (el 173 172 (dQ p6 p7 (dQ p2 p3 (fs 154 [.t 169,.t 173,.t 177,.t 182] 158 (eM (q' 158) 0 (q' 158) 1 7 8)))))))))))))) (aB 187 6 a1 (fv 1 186) (p 186 (aE 191 1 y dz ah (H 6 f5 dz ah (fs 155 [.t 194,.t 198] 190 (eM (q' 190) 0 (q' 190) 1 7 8)))) (aE 17 1 y dz ah (H 6 f5 dz ah (H 6 g8 dz ah (fs 156 [hr,ht,hV] 16 (eM (q' 16) 0 (q' 16) 1 7 8))))))))))))))))))))) (b7 202 0 8 (d7 152) (fh 205 7 (u fV [(0,1,.t 206)]) (aG 1 2 fV [(0,.t 207)]) (a8 157 p4)))))
def Tryz.amp:=fB 225 []<|e0 10 2 hC (e0 14 2 (fk ge p5 gj) (ds 21 1 0 E' (ee (aT 29 (F s p5 0) 28 28 (aE 30 0 y dz ah (a y f3 (db 1 (aI 20)))) (ea (eN 37 24 2 36 36 uT 38 24 3 36 36 uT (aS 39 (b5 24 4) 36)) 36 (ds 40 1 0 (l (dy 4) ad (ex 0) (fE hO) (d3 (O p3 gB) (O p4 (bO ax bR)) (b4 p5) 5)) (eu 52 1 y fY (a ah (ao 159 p5) (fA 51 p7 0 p8 1 6 7)) (jw (ds 60 1 0 (dO 3) (ai 64 (eu 65 4 ge fZ (l y f3 ah a1 (H 6 gu gH (Gc 77 (q' 65) p9 p2 p1) E')) (YU 0)))) (eu 77 0 y fY (eW y g4 ah (H 4 dX ah fZ (l y f3 ah a1 (H 6 gu hb (ab 77 [.t 77,.t 87,.t 94,.t 95]) E')))) (bb 97 5 ef E' 98 (eu 99 0 y fY (eW y g4 ah (H 4 dX ah (bF 99) gj)) (e0 112 1 (l y (o 6) ah ha (a dX ah (aA gK))) (ai 122 (fh 123 0 y fY (eW y (o 6) ah (H 4 dX ah ge (a (bF 123) fc ho)))))))))))) (eN 138 24 5 137 137 (fh 139 0 y fY (eW y g4 ah (H 4 dX ah (bF 139) gj))) 153 24 11 152 152 (fh 154 0 y g4 (aJ ah fZ y g4 ah a1 e1 (e6 3 p7 p1) (a (bF 154) g4 (dD 1 167 165)))) (eN 169 24 12 168 168 (fh 170 1 y fY (ev ah 160)) 177 24 13 176 176 (Y 178 0 hO gB (bO ax bR) E' (ai 181 (fh 182 1 y fY (ev ah 160)))) (eN 189 24 14 188 188 (ds 190 1 1 (R 8) (jw (aB 194 0 hO (ae gB 9) (aZ 197 9 1 y g4 (eW a1 bC (fm p7) E') (ai 204 (aE 205 1 y g4 ah (d3 h2 dX ah 8))))) (fJ 212 0 hw 160))) 216 24 15 215 215 (fh 217 0 y g4 (eW a1 e1 (ao 160 p7) E')) (fJ 25 0 fq 161)))))))))
def Tryz.amq:=fB 15 []<|R' 4 (W p4 eI y fY (eW ad hg (fE ef) (fk g1 p9 (eG 1 1 p3))))
def Tryz.abT:=fB 48 []<|fO
def Tryz.amr:=fB 39 []<|ar 3 b8 (bv 4 p4 (be p2) ah a1 (aJ (b3 32) ad (A p1 (b1 p7)) dP (fe a1) (A p4 (b3 32)) (dF p5) (ao 109 (q' 4)) E') (aB 16 0 (bQ [a0] (r 96)) hm (dH 19 0 0 3 a1 gx (dH 25 0 0 3 (bY 114) E' (dH 29 0 1 3 a1 gx (fL 35 0 1 3 ah (bY 114) E'))))))
def Tryz.ahb:=fB 13 []<|R' 4 (W p4 eI y dz (eW dM gn gy (dh dz 1 p3)))
def Tryz.abU:=fB 33 []<|ap 6 p5 a1 gd (fy 0 9 9 0 1 (e4 10 p4 p2 gT (Y 12 0 dM hi ad (l (dJ 5) (df (bI 4294967296)) dV (ao 109 p7) E') (fh 20 0 y dz (eW hk bC f2 (S' (ab 162 [.t 27]) (dQ p5 p6 (a (d2 1 1 24 28) (bF 20) (S' dz (dD 1 31 29))))))))) 32 8 8)
def Tryz.abV:=fB 30 []<|ap 6 p5 a1 gd (fy 0 9 9 0 1 (e4 10 p4 p2 gT (Y 12 0 dM (bT 127) ad (aJ (ex 5) (fE (bT 126)) g1 ad (ex 5) (fE (bT 123)) g1 (ao 109 (q' 12)) E') (fh 24 5 fx g0 (a8 112 p4)))) 29 8 8)
def Tryz.abW:=fB 48 []<|eu 13 3 a1 gQ gW (b9 19 3 a1 (dO 0) 21 jn (e0 22 1 gM (aZ 28 10 3 a1 gO gZ (fw 33 3 a1 C (bg 0 36 p1 p2 36 0 1 (eL 37 hA 3 12 [af,af,C] 3 12 fX) 43 g2 35) gP))))
def Tryz.ams:=fB 20 []<|ar 3 b8 (bv 4 p4 (be p2) ah (bY 117) E' (bv 8 p8 (b1 p6) ah (bY 117) E' (aB 12 0 go hm (fL 15 0 2 3 ah gO gZ))))
def Tryz.amt:=fB 22 []<|bv 4 p4 h8 (aR 163) (bY 109) E' (bv 8 p8 dM (abN p1) gO gZ (fh 13 0 y dz (eW fq (abO 1 p2 p1) gy (dh dz 1 p3))))
def Tryz.abX:=fB 48 []<|eu 13 3 a1 gQ gW (b9 19 3 a1 (dO 0) 21 jn (e0 22 1 gM (aZ 28 10 3 a1 gO gZ (fw 33 3 a1 C (bg 0 36 p1 p2 36 0 1 (e4 37 p4 p2 (R 12) (bm 39 4 10 (d 12) gR E')) 43 g2 35) gP))))
def Tryz.amu:=fB 8 []<|R' 4 (W p4 h8 gO (bY 113) E')
def Tryz.P5:=fB 48 []<|eu 13 3 a1 gQ gW (b9 19 3 a1 (dO 0) 21 jn (e0 22 1 gM (aZ 28 10 3 a1 gO gZ (fw 33 3 a1 C (bg 0 36 p1 p2 36 0 1 (eL 37 gU 2 12 [C,C] 2 12 hQ) 43 g2 35) gP))))
def Tryz.amv:=fB 10 []<|ar 3 b8 (ap 4 p4 (bQ [a0] (r 112)) hm (bx 7 eQ (E 2 p5) (aA (kC3 122 p2 p1 (aI 1024)))))
def Tryz.amw:=fB 33 []<|ar 4 fH (bv 6 p6 (be p3) ah eQ gW (jw (eh 12 (b1 p8) (dO (-1)) (ai 14 (aB 15 0 go hm (dH 18 0 0 4 gO gZ jn)))) (aB 23 0 (bQ [a0] (r 1)) hm (fL 26 0 0 4 ah (j 1 4) (a ah (aG 2 1 [C] [(0,hV),(1,hX)]) (e3 p6))))))
def Tryz.amx:=fB 7 []<|ar 3 b8 (bx 4 h8 (E 2 p2) (aA (kC3 122 p2 p1 (aI 16))))
def Tryz.abY:=fB 48 []<|eu 13 3 a1 gQ gW (b9 19 3 a1 (dO 0) 21 jn (e0 22 1 gM (aZ 28 10 3 a1 gO gZ (fw 33 3 a1 C (bg 0 36 p1 p2 36 0 1 (eL 37 hA 3 12 ia 3 12 fX) 43 g2 35) gP))))
def Tryz.amy:=fB 21 []<|ar 3 b8 (bv 4 p4 (be p2) ah gO (a8 114 p4) (jw (eh 9 (b1 p6) E' (p 10 (fJ 11 0 (bQ [a0] (r 1)) 112) (fJ 14 0 go 112))) (fL 17 0 2 3 ah (bY 131) E')))
def Tryz.abZ:=fB 48 []<|eu 13 3 a1 gQ gW (b9 19 3 a1 (dO 0) 21 jn (e0 22 1 gM (aZ 28 10 3 a1 gO gZ (fw 33 3 a1 C (bg 0 36 p1 p2 36 0 1 (eL 37 hA 3 12 [af,C,C] 3 12 fX) 43 g2 35) gP))))
def Tryz.amz:=fB 29 []<|ar 3 b8 (bv 4 p4 (b1 p2) ah hi (W p1 (A p1 (b1 p6)) dP (fe (b3 3)) (bn fj 109 p9)) (dH 14 0 0 3 (bY 117) E' (dH 18 0 1 3 fx (ev g0 112) (fL 24 0 2 3 ah gO gZ))))
def Tryz.amA:=fB 37 []<|bv 6 p6 eI y fY (a ah ef (a8 109 p6)) (eu 13 1 g0 (bY 112) E' (eu 17 2 y dz ig (fh 25 0 y dz (aJ ah gQ y dz ah (d2 1 1 29 33) (bF 25) dz (dD 1 36 34)))))
def Tryz.ab0:=fB 48 []<|fO
def Tryz.amB:=fB 27 []<|ar 3 b8 (bv 4 p4 (b1 p2) ah a1 (ev (b3 1024) 109) (aB 10 0 go hm (dH 13 0 0 3 (bY 131) E' (dH 17 0 1 3 a1 gx (fL 23 0 1 3 ah (bY 113) E')))))
def Tryz.amC:=fB 24 []<|ap 7 p6 (aR 164) (fA 6 p3 0 p4 1 4 5) (Y 11 0 eQ f6 (bY 109) E' (fh 15 0 y dz (eW ha gn gy (dh dz 1 p3))))
def Tryz.ab1:=fB 48 []<|fO
def Tryz.P6:=fB 121 []<|ar 3 b8 (bv 9 p9 (be p7) ah a1 (ev (b3 512) 109) (L 15 (u [aQ,B] []) bG hC (a6 5 C (fr 17 0 3 C E' (fy 0 21 21 0 1 (dp 22 p2 6 (Y 23 6 f6 ad he (aJ gb (dj p3 6) (O p4 dX) (eb p5) (e5 p6 0 3) (eb p7) (dj p8 6) (O p9 e1) (l (O (q' 25) (dR p3)) (eb (q' 25)) (O (q' 25) (P ax p7)) (b4 (q' 25)) E')) (ai 38 (bZ 39 5 ge gT)))) 41 20 20)) (aZ 42 4 5 gO (bY 113) E' (jw (ay 7 C (am 2 (jw (dH 46 7 0 3 a1 (aA (fm p4)) (aN 50 2)) (B0 3 (a6 8 (b 1) (am 4 (jw (aZ 51 7 8 ez g3 (aJ ah a1 (fm p4) ad g7 dP (bL p3 7) (bL p4 8) (aJ (A p5 ez) (A p6 (dR p4)) (A p7 ah) (dT p8 0 3) (A p9 ah) (bL h9 7) (A h9 dX) (A h9 ah) (bW (A h9 (P s p6)) (dF h9)))) (aN 72 4)) (B0 5 (bZ 73 8 ge (R 8))))) (aZ 75 4 8 gO (bY 113) E' (dH 79 4 0 3 hb (l dX ah gO (ao 114 p7) E') (bZ 87 7 hw (ae ez 7))))))))) (dH 90 4 1 3 (bY 131) E' (eu 94 4 y fY (a ah ef (a8 109 p6)) (eu 101 4 y dz ig (fh 109 0 y dz (aJ ah ha y dz ah (d2 1 1 113 117) (bF 109) dz (dD 1 120 118)))))))))))
def Tryz.ab2:=fB 48 []<|fO
def Tryz.amD:=fB 21 []<|ar 3 b8 (ap 4 p4 go hm (bv 7 p7 (be p5) ah (bY 131) E' (Y 11 0 (b1 p9) ah a1 gx (fL 17 0 1 3 ah (bY 112) E'))))
def Tryz.Wl:=fB 36 [.tmp 2]<|ay 2 aQ (dB 3 C 9 p9 a1 gd fT (dS 23 3 (ao 165 hq) 6 (fw 25 0 a1 C (bg 2 28 p1 p2 28 2 3 (e4 29 p4 p2 (R 8) (bZ 31 6 hw (dL 2 16 p2 6))) 34 (d9 p7 1) 27) (et 35 6 2))))
def Tryz.ahc:=fB 24 [.tmp 4]<|ay 4 B (Z (ap 5 p5 a1 (aA (dy 2)) (fl 7 4)) (bv 8 p8 hB dz ah E' (ee (a5 13 (F s p2 65) 12 12 (dS 14 1 (bT 127) 4 jn) 17 (F s p6 66) 16 16 (dS 18 1 (bT 126) 4 jn) (aF 21 (b5 11 64780) 20 (ai 20 (dS 22 1 (bT 123) 4 jn)))))) (aX 4 B))
def Tryz.ab3:=fB 74 [.tmp 4]<|w 2 b8 (a7 4 B) (dH 11 1 3 2 a1 (bK 4 2 a1 (j 5 2) (a ah a1 (S' (u [C,C,C,C] [(0,1,.t 11),(1,1,.t 14),(2,1,.t 17),(3,1,hr)]) (bJ 5 [C,C,C,C] 4 5)))) (aF 22 (Gb KC) 6 (Z (fr 23 6 2 C E' (fy 0 27 27 0 1 (ap 28 p2 (eH p5 p3) (fd 3 (aU 8 [af,C,C] (h 7 p3 (bu 3 8)))) (jw (dH 31 6 0 8 (U iw) (aJ gK ad (e5 p1 2 8) gb (e5 p3 1 8) (eb p4) (O p5 (JX 4 1 (q' 5) p1)) (eb p6) (eC (O p7 (P nK p5)) p8)) (fl 44 4)) (fL 45 6 0 8 ah hb (S' ge (N' d5 E'))))) 50 26 26)) (es 51 7 2 (dO (-1)) (a3 53 4 ag)) (e 55 (l (fG 2) (j 7 2) ah (bY 29) (er 54 (aq p5 0 p6 1 hP))) (Y 61 10 ad (ey 0 9) dP (aJ (fe a1) (A p4 f6) (dF p5) ad (ey 1 9) dP (fe a1) (A p4 f6) (ae (dF p5) 4)) jn)))))
def Tryz.P7:=fB 58 [.tmp 4]<|w 2 b8 (a7 4 B) (Z (e 11 (l (lL 8 p9) ah a1 (m C) E') (fy 0 15 15 0 1 (eL 16 gU 2 6 gL 2 6 (jw (ff 18 3 2 f6 (W p1 (e5 p1 0 6) gb hF (eC (O p4 ef) p5)) (fl 27 4)) (fr 28 1 6 C E' (bg 2 32 p1 p2 32 2 3 (e4 33 p4 p2 (R 8) (b7 35 8 1 (aA (bN nK)) (fl 37 4))) 38 (d9 p7 1) 31)))) 39 14 14)) (fr 40 10 2 C E' (fy 4 44 44 4 5 (eL 45 gU 2 10 gL 2 10 (ff 47 4 2 f6 (W p1 (e5 p1 0 10) gb hF (eC (O p4 ef) p5)) (fl 56 4))) 57 43 43)) h0)
def Tryz.Wm:=fB 36 [.tmp 2]<|ay 2 aQ (dB 3 C 9 p9 a1 gd fT (dS 23 3 (ao 166 hq) 6 (fw 25 0 a1 C (bg 2 28 p1 p2 28 2 3 (e4 29 p4 p2 (R 8) (bZ 31 6 hw (dL 1 8 p2 6))) 34 (d9 p7 1) 27) (et 35 6 2))))
def Tryz.ahd:=fB 47 []<|ar 5 fH (a6 6 ag (bv 7 p7 y gY ah (bW a1 gK) (ai 12 (aE 13 0 hG y g4 (aJ ah ad gJ (df hG) (fe y) (A p4 (o 4)) (A p5 ah) (A p6 ef) (ae (dF p7) 6))))) (fh 26 0 y gY (aJ ah fq fZ y hp ah a1 (j 0 5) (aJ ah (j 1 5) ah gH (u gI [(0,1,hY),(1,1,hZ),(2,1,.t 38),(3,1,.t 40),(5,1,fu)]) (aG 1 6 gI [(0,.t 42)]) (d2 6 72 30 43) (bF 26) (S' gY (dD 1 46 44))))))
def Tryz.amE:=fB 14 [.tmp 2]<|ay 2 bh (bv 3 p3 y gY ah (W p7 y gY ah (d3 a1 e1 (eP p7 p1) 2)) jn)
def Tryz.ahe:=fB 148 []<|ar 3 b8 (es 13 0 3 (dg (aR 25) 12 hJ) (jw (es 18 2 4 E' (ai 19 (Y 20 0 g5 (aM 5 4) (e9 167) E' (dH 24 0 3 4 (bY 168) E' (dH 28 0 4 4 hh E' jn))))) (es 32 0 3 E' (ee (ea (a5 38 (F s p5 2) 37 37 uT 39 (F s p6 3) 37 37 uT (aS 40 (F s p7 4) 37)) 37 (jw (es 41 0 3 (dO 4) (ai 43 (bZ 44 0 f1 E'))) (dH 46 0 1 3 (bY 171) (bJ 6 gL 2 6) (dH 50 0 0 6 (bY 168) E' (dH 54 0 0 3 (aM 2 6) (aA (eY 141 p4)) (fL 59 0 0 6 ah hh E'))))) (ea (fz 64 33 5 63 63 uT (aS 65 (b5 33 11) 63)) 63 (fL 66 0 0 3 ah (bY 172) E') (eN 71 33 26 70 70 (bZ 72 0 (Zu 170 p1 d1) E') 75 33 27 74 74 (aB 76 0 f1 E' (dS 78 0 (Zu 170 p1 d1) 7 (fh 80 0 hb (e8 170) (ev gO 169)))) (eN 87 33 16 86 86 (bo 89 0 y 0 hz (a h7 ah (fs 29 [.t 92,.t 94] 88 (aq p8 0 p9 1 (aU 8 gL (bH 2 8 96 (R 9)))))) (b7 98 0 9 (d7 173) (dH 101 0 0 8 (bY 168) E' (fL 105 0 1 8 ah hh E')))) 110 33 17 109 109 (bo 112 0 y 0 hz (a h7 ah (fs 75 [.t 115,.t 117] 111 (aq p8 0 p9 1 (aU 10 gL (bH 2 10 119 (R 11)))))) (eu 121 11 ad gJ (aJ (df y) (fe dz) (A p4 f3) (A p5 ah) (A p6 a1) (A p7 gK) (dF p8) ad (l (ey 2 3) dP (fe f6) fj (a8 173 (q' 121)))) (aB 138 0 f1 E' (dH 140 0 0 10 (bY 168) E' (fL 144 0 1 10 ah hh E'))))) (fJ 34 0 g5 174)))))))))
def Tryz.ab4:=fB 8 [.tmp 2]<|fK 2 aQ 3 p3 gS E' 4 2 aQ (L 5 (aG 0 6 fQ []) b0 (dL 6 64 p2 2) jn)
def Tryz.amF:=fB 17 [.tmp 4,.tmp 5]<|dk 4 hj hj (bv 7 p7 bC dM bC (ae (dK sL) 6) (bv 12 p6 gg ec bP (bf ec 4 p3 gT) jn))
def Tryz.amG:=fB 51 [.tmp 4,.tmp 5]<|dk 4 bR bR (dS 14 0 fp 6 (dS 16 0 gg 7 (dS 18 1 fp 8 (dS 20 1 gg 9 (b7 22 6 8 (ae gt 10) (aZ 25 7 8 gt hK (bc gg hx 11) (dS 31 11 fp 12 (dS 33 11 gg 13 (aZ 35 12 6 h2 gt (ae hD 12) (aZ 40 7 9 gt (d 13) (l ez (d 12) gg hx hC) (eV 48 0 1 (ae gt 5))))))))))))
def Tryz.amH:=fB 32 [.tmp 4]<|ay 4 aQ (bv 7 p7 y f3 ah (d3 a1 fq gu 5) (eD 14 (aG 0 2 fV []) fZ y f3 ah hk (AP 2 p2 (TF p1) Zt) (aD 2 16 p7) ga (eu 22 0 y f3 (eW hk (e6 2 p2 p1) gy (eG 3 1 p3)) (et 31 6 4))))
def Tryz.amI:=fB 117 []<|jw (ds 13 1 0 (aA (aR 6)) (ai 17 (Y 19 1 y (dW 6) gQ (l y f3 ah (d 3) (S' (ab 31 [.t 25,.t 26]) (Q' p7 (E 6 p8) (fs 7 [g9,.t 27] 18 (eM (q' 18) 0 (q' 18) 1 8 9))))) (b7 31 0 9 (d7 152) (Y 34 8 (aV p1 d1) ah (u fV [(0,1,hZ)]) (bJ 10 fV 2 10) (b9 38 8 a1 (aA (de 1)) 40 (aE 41 8 (aV p1 (aI 1)) ah (j 1 10) f7) (Y 45 0 (aM 2 10) (aG 1 2 fV [(0,.t 46)]) (bY 157) E' jn))))))) (eU 11 fP (Z (bb 49 3 a1 (aA (de 1)) 51 (aE 52 3 g8 (dW 2) (aR 39) (bu 16 11))) (ds 56 2 4 (bW a1 f6) (ai 61 (dI 62 0 0 y dz (eW y dz ah (a y dz (S' ah (ek 74 fq 75 (bF 74) 76 (aM 6 75) 77 (d 3) (ek 78 (a9 (q' 77) d1) 79 (j 0 78) 80 (f 1 (q' 79)) 81 (M .u32 (q' 80)) (D' 82 (dc 11) (S' (ab 15 [.t 72]) (Q' (q' 76) (aM 6 75) (el 80 79 (Q' (q' 82) (dc 11) (aH 83 (ab 18 [.t 73,.t 76,.t 81,.t 82]) 84 (ab 152 [.t 62,.t 83]) E')))))))))))))) (e 97 (ek 86 fZ 87 (bF 86) 88 (j 0 87) 89 (f 1 p9) (ek 90 gz 91 (be p7) 92 (f 1 p6) 93 (tQ p5) (aH 94 (be p4) 95 (f 1 p3) (H 1 y (dW 6) (d 3) (l f5 dz ah ec (S' (dc 11) (fo 96 15 [.t 95] (Q' p7 (E 6 p8) (dQ p3 p4 (Q' p1 (dc 11) (fs 19 [.t 96,.t 99,.t 104,.t 105] 85 (aq (q' 85) 0 (q' 85) 1 (bH 16 11 107 (R 12)))))))))))))) (b7 109 0 12 (d7 152) (aE 112 0 (dc 11) (aR 17) (aG 1 2 fV [(0,.t 114)]) (a8 157 p4))))))
def Tryz.amJ:=fB 13 []<|ap 4 p3 gv E' (fa 5 6 (W p6 y dz ah (fk bP p2 (eG 3 1 p3))))
def Tryz.amK:=fB 56 [.tmp 6,.tmp 7]<|dk 6 bR C (aP (bb 10 0 (aR 176) (aA (dy 2)) 12 (dZ 6 bR 1)) 0 (dS 14 0 (b3 79) 13 (p 13 (Y 16 0 (bt 70) fq gw (l eO gQ gw eO (dx (dG 184 p7 p4) 6 7 C)) jn) (dS 26 0 (b3 90) 25 (p 25 (Y 28 0 (bt 81) fq eO (a gQ eO (dx (dG 184 p5 p3) 6 7 C)) jn) (bb 36 0 (b3 120) (R 35) 35 (eu 39 1 ec gQ (a ec (dG 185 p5 p3) (fA 38 p7 0 p8 1 8 9)) (aB 47 8 bC (bf h2 6 p2 (R 7)) jn))))))) (dI 50 0 1 gQ (e9 186) (eM p1 0 p2 1 6 7)))
def Tryz.amL:=fB 13 []<|R' 4 (W p4 eI y f3 (eW dM (aD 2 16 p2) gy (eG 3 1 p3)))
def Tryz.amM:=fB 31 [.cell 2 2 true]<|eU 2 fV (bv 4 p4 y f3 ah (W p8 y f3 ah (l a1 e1 (fF p7) (dW 2) (aU 3 fV (dD 2 3 15)))) (eu 16 0 y f3 (aJ ah fZ y f3 ah a1 e1 (e6 2 p7 p1) (a (bF 16) f3 (dD 1 29 27))) (fI 30 (aM 2 3) 2 2)))
def Tryz.amN:=fB 44 [.tmp 4,.tmp 5]<|dk 4 C C (jw (ee (ap 7 p6 hi ga (p 6 (bv 9 p9 y dz ah (aJ y dz ah y fc dz ah fq (l gr dz ah a1 (H 0 y dz ah (aJ y dz ah y fc dz ah fq (l gr fY ah a1 (ej 4 24 gT)))))) jn) (bb 42 1 (bT (-64)) (R 41) 41 (dw 4 C C))))) (dZ 4 C 1))
def Tryz.amO:=fB 53 []<|bv 7 p7 y g4 ah (l a1 e1 fq gu hC) (e0 15 5 (a ha (eH p2 p1) (fd 3 (bJ 5 [C,C,C] 3 5))) (dH 22 0 2 5 (bY 149) ga (eu 26 0 y f3 (eW (j 1 5) ah (e6 2 p3 p1) (H 6 (d2 2 16 33 34) (bF 26) f3 (dD 1 37 35))) (dH 38 0 0 5 (tQ p3) gj (fh 43 0 y g4 (eW ha ge (e6 3 p3 p1) (a gz g4 ho)))))))
def Tryz.amP:=fB 213 []<|ds 12 1 0 E' (ee (ed 20 (F s p5 16) 19 19 (e0 22 0 (aJ y dz ah y fc hz fq y (a fY ah (fs 29 [hY,.t 35] 21 (aq (q' 21) 0 (q' 21) 1 (aU 4 gL (bH 2 4 37 gT)))))) (fh 39 0 y dz (aJ ah fq y fY ah fZ (j 0 4) ah (a a1 (ab 149 [.t 48,.t 51]) (el 43 42 (dQ p6 p7 (bW (ab 30 [.t 43,.t 47,.t 52]) (ab 157 [.t 39,.t 53])))))))) 56 15 17 55 55 (e0 58 0 (aJ y dz ah y dz ah fZ (ab 158 [.t 68]) (dN p9 60 (dQ p6 p7 (dQ p3 p4 (a gB ec (fs 187 [.t 67,.t 71] 57 (eM (q' 57) 0 (q' 57) 1 6 7))))))) (b9 75 7 ef E' 76 (e0 77 0 (a y f3 (db 1 (aI 24))) jn) (e0 84 0 (aJ y dz ah y fc hz gH (e8 29) (er 83 (aq (q' 83) 0 (q' 83) 1 (aU 8 gL (aW 2 8 p2 (R 9)))))) (jw (eD 98 (aM 2 8) fZ y dz ah y dz ah (l y fc dz ah (H 1 y fY ah (l (fF p5) (dW 2) (ab 188 [.t 98,.t 115]) ef E'))) (ai 117 (e0 118 0 (a y f3 (db 1 (aI 25))) jn))) (fh 124 0 y dz (eW gH fZ (j 0 8) (a ah a1 (S' (ab 149 [.t 130,.t 133]) (dQ p7 p8 (bW (ab 30 [.t 128,.t 129,.t 134]) (ab 157 [.t 124,.t 135]))))))))))) (eN 138 15 26 137 137 (bZ 139 0 hO E') 142 15 27 141 141 (Y 143 0 hO gB (bO ax bR) (R 10) (dS 147 0 (Zu 149 p1 (aI 2)) 11 (ar 149 hK (p 149 (fh 150 11 f5 (dW 2) (ev (aG 1 2 fV [(0,.t 153)]) 157)) (fh 156 11 g8 (dW 2) (ev (aG 1 2 fV [(0,.t 159)]) 157)))))) (eN 163 15 32 162 162 (fh 164 0 y (o 4) (aJ ah fq y fY ah (fF p5) (dW 2) (aG 1 2 fV [(0,.t 174)]) (aA (ab 157 [.t 164,.t 175])))) 178 15 33 177 177 (aE 179 0 y (o 4) ah (H 1 y fY ah (a fZ (ab 158 [.t 187]) (dQ p7 p8 (dQ p3 p4 (S' (a9 p7 p3) (dD 2 189 188))))))) (fz 191 15 34 190 190 (aE 192 0 y (o 4) ah (H 1 y fY ah (H 0 y f3 ah (H 0 y f3 ah (l a1 e1 (fF p7) (dW 2) (S' (a9 (q' 195) (q' 199)) (dD 2 212 211))))))) (fJ 16 0 fq 189))))))
def Tryz.ab5:=fB 29 [.tmp 2]<|ay 2 aQ (dB 3 aQ 6 p6 a1 gd (fy 0 9 9 0 1 (e4 10 p4 p2 gT (jw (am 2 (jw (ap 12 p7 (dm nK 128) E' (aN 13 2)) (B0 3 (aZ 14 3 5 fx (bO zG (r 128)) gf (bZ 20 5 (dm vR 7) gT))))) (bm 22 3 5 fx g0 (dL 1 1 p4 3)))) 27 8 8) (et 28 3 2))
def Tryz.ab6:=fB 30 [.tmp 2,.tmp 3]<|dk 2 aQ C (jw (ap 9 p9 (aR 191) (aA ef) (ai 11 (dZ 2 aQ 1))) (a6 4 aQ (dn 12 0 a1 C (fy 0 15 15 0 1 (eL 16 (eP p4 p2) 6 6 fQ 6 6 (L 19 (aM 6 6) (aR 192) (fA 18 p3 0 p4 1 7 8) (b9 23 8 ef E' 24 (dZ 2 aQ 1) (bZ 25 4 hb (dL 1 1 p2 4))))) 28 14 14)) (e 2 (ej 29 4 (fb (d 29) C)) jn)))
def Tryz.amQ:=fB 27 [.tmp 4]<|ay 4 aQ (Z gq (bv 8 p7 bP gE fZ hl (bb 15 1 gK E' 16 (fh 17 0 gE (e6 2 p3 p1) (H 1 (Gb (tf 2 16 [C,C] hr g9)) fZ a1 (ae (e6 2 p3 p1) 0))))) (et 26 0 4))
def Tryz.amR:=fB 27 [.tmp 4]<|ay 4 aQ (Z gq (bv 8 p7 bP gE fZ hl (bb 15 1 gK E' 16 (fh 17 0 gE (e6 1 p3 p1) (H 1 (Gb (tf 1 8 [C] hr g9)) fZ a1 (ae (e6 1 p3 p1) 0))))) (et 26 0 4))
def Tryz.ahf:=fB 68 []<|L 4 fH fH E' (eh 8 (be p3) E' (ee (ea (a5 11 (F s p2 7) 10 10 uT 12 (F s p3 8) 10 10 uT (aS 13 (F s p4 14) 10)) 10 (eu 14 0 y dz (l (o 4) ah a1 gK (W p1 (ey 1 4) dP (dT p3 1 5) (l gi (A p5 (dK xZ)) hd (ao 173 (q' 14)) E'))) (fL 30 0 0 5 ah (dy 8) (W p1 (e5 p1 3 4) gb (e5 p3 1 5) (l (eb p4) (O p5 (P vR (DO (D 16)))) (O p6 (fm p4)) (b4 p7) (aA (ab 173 [hX,fu])))))) (fz 44 9 13 43 43 (fL 45 0 1 4 ah (j 1 5) (a ah hL (a8 173 p6))) (aF 53 (b5 9 12) 52 (ai 52 (bS 54 3 4 (j 4 4) ah (a (u fV [(0,1,.t 55),(1,1,.t 57)]) (aR 39) gd) (aC 1 61 (bI 16) (ba 61 1 2 (aF 62 (Wk 16 1 false p3 p2) 7 (fh 63 7 (bO sM (r 32)) (bY 173) E')) 67 (d9 p7 1) 60)))))))))
def Tryz.ab7:=fB 18 []<|ap 5 p4 a1 (ae e1 4) (am 0 (aP (ap 8 p4 hi E' (aN 9 0)) 1 (fh 12 1 ha dX (ev ah 170)) (bx 10 b0 e1 hC)))
def Tryz.ahg:=fB 13 []<|R' 4 (W p4 eI y hp (eW dM (aD 1 8 p2) gy (eG 12 1 p3)))
def Tryz.ahh:=fB 69 [.tmp 4]<|ay 4 C (ap 7 p7 hG gT (jw (bv 9 p9 y hp ah (l a1 bP y fY (bW ah (P s p5))) (ai 18 (eu 19 5 y (o 4) (ev ah 173) (et 25 1 4)))) (e0 26 12 (H 0 y hp ah (l a1 e1 (dR p7) ah ga)) (eu 38 0 y hp (aJ ah fZ y hp ah a1 e1 (e6 1 p7 p1) (a (bF 38) hp (dD 1 51 49))) (eu 52 6 fq (bN s) (W p1 (ex 6) (fE f6) g1 (W p1 (ex 1) (fE f6) g1 (a8 173 (q' 52)))) (b9 65 6 f6 E' 66 (et 67 1 4) (et 68 6 4)))))))
def Tryz.ahi:=fB 31 [.cell 4 2 true]<|eU 4 gL (jw (ee (ap 8 p7 hi (R 7) (p 7 (bo 11 0 y 0 hz (a fq (e8 75) (er 10 (aq p7 0 p8 1 (aU 5 gL (aW 2 5 p2 ga))))) (b7 19 0 6 (d7 173) (fI 22 (aM 2 5) 2 4))) (bb 24 1 (bT (-64)) (R 23) 23 (fI 26 (u gL []) 2 4))))) (Y 27 1 (di 128) gO (u gL [(1,1,hW)]) (bu 2 4) jn))
def Tryz.ahj:=fB 80 []<|bv 5 p5 hG y (dW 6) (aU 4 gI (da 6 p5 p1)) (bv 9 p9 (lL 3 p6) ah (bY 168) E' (eu 13 0 y hp (eW a1 (j 1 4) ah (bW (dK s) (ab 173 [.t 13,g9]))) (eu 23 0 y gY (aJ ah fZ y gY ah a1 e1 (e6 6 p7 p1) (a (bF 23) gY (dD 1 36 34))) (Z (e0 37 14 E' (ai 40 (dI 41 0 0 y gY (eW (aM 6 4) (aG 1 6 gI [(0,.t 46)]) (d2 6 72 45 47) (a gz gY (dD 1 50 48)))))) (bb 51 1 (bT 5) E' 52 (dH 53 0 2 4 (j 3 4) (a ah (u gL [(0,1,.t 55),(1,1,.t 57)]) (aA (dG 141 p6 (aI 5)))) (dH 60 0 2 4 hh E' jn))) (dH 64 0 0 4 (dy 4) (W p1 (e5 p1 2 4) gb (e5 p3 3 4) (l (eb p4) (O p5 (bY 193)) (b4 p6) (ao 173 (q' 64)) E')) (fL 76 0 3 4 ah hh E'))))))
def Tryz.amS:=fB 15 []<|R' 4 (W p4 eI y (o 14) (eW ad hg (fE ef) (fk g1 p9 (eG 14 1 p3))))
def Tryz.ab8:=fB 89 []<|ar 3 b8 (eh 9 (be p6) E' (ee (a5 15 (F s p5 0) 14 14 (bZ 16 0 (aR 194) E') 19 (F s p9 12) 18 18 (eu 20 0 h7 ah (ev (bY 195) 168) (bZ 26 0 (aR 194) E')) (eN 29 10 13 28 28 (aB 30 0 f1 E' (dH 32 0 1 3 (bY 195) hC (b7 36 0 4 (d7 168) (fJ 39 0 ha 169)))) 43 10 14 42 42 (aB 44 0 f1 E' (dH 46 0 1 3 (bY 195) gT (jw (fr 50 5 3 C E' (fy 1 54 54 1 2 (e4 55 p4 p2 (R 7) (b7 57 0 7 (ae (e8 195) 8) (eu 60 8 a1 hk (a a1 (dK s) (a8 173 p6)) (fJ 67 0 hw 196)))) 70 53 53)) (b7 71 0 5 (d7 168) (bZ 74 0 (aR 194) E'))))) (fz 77 10 15 76 76 (eu 78 0 y gY (eW hB f3 ah (a8 168 p8)) (bZ 87 0 (aR 194) E')) (fJ 11 0 (E 6 p9) 197))))))
def Tryz.amT:=fB 57 [.tmp 2]<|a6 2 C (ee (ea (ap 4 p4 (bT 69) (R 3) (en 3 (ap 6 p6 (bT 80) (R 3) (en 3 (bv 8 p8 (bi 103) ad gJ (bc (em 105) dV 3) (en 3 (Y 14 0 (bi 121) ad gJ (bc (em 123) dV 3) (en 3 (dS 20 0 (bT 167) 3 (en 3 (dS 22 0 (bT 172) 3 (en 3 (dS 24 0 (bT 173) 3 (en 3 (aE 26 0 (bi 192) ad gJ (bc (em 196) dV 3)))))))))))))))) 3 (aX 2 (b 1)) (jw (Y 33 0 (bi 70) ad gJ (bc (em 79) dV 32) (en 32 (Y 39 0 (bi 81) ad gJ (bc (em 90) dV 32) (en 32 (Y 45 0 (bi 106) ad gJ (bc (em 120) dV 32) (en 32 (aE 51 0 (bi 124) ad gJ (bc (em 138) dV 32)))))))) (a3 32 2 (b 2))))) (aX 2 C)
def Tryz.amU:=fB 4 [.tmp 2]<|a6 2 bR (ar 3 (mU p3) (a3 3 2 (D 1))) (aX 2 bR)
def Tryz.amV:=fB 72 [.tmp 6]<|ay 6 bR (bv 9 p8 bC bP bC (dr 7 p3 8) (jw (ar 13 fZ (ee (a5 15 (F s p2 0) 14 14 (dI 16 1 2 (bN s) gl ga) 21 (F s p8 1) 20 20 (dI 22 1 2 (bN ax) gl ga) (eN 27 13 2 26 26 (dI 28 1 2 g6 gl ga) 33 13 3 32 32 (dI 34 7 8 g6 gl ga) (eN 39 13 4 38 38 (dI 40 1 2 (bN tc) gl ga) 45 13 5 44 44 (dI 46 7 8 (bN tc) gl ga) (eN 51 13 6 50 50 (dI 52 1 2 d4 gl ga) 57 13 7 56 56 (dI 58 7 8 d4 gl ga) (aF 63 (b5 13 8) 62 (ai 62 (dI 64 1 2 (bN nK) gl ga))))))))) (dI 68 7 8 (bN nK) gl ga)))
def Tryz.amW:=fB 116 [.tmp 6,.tmp 7]<|dk 6 hj C (Z (bv 8 p8 (bi 109) ad gJ (l (em 112) dV ad h3 (bW (df (bO s hj)) dV)) (ai 17 (dZ 6 hj 21))) (ar 18 fZ (ee (a5 20 (F s p2 106) 19 19 ie 25 (F s p7 107) 24 24 hH (eN 30 18 108 29 29 hI 35 18 109 34 34 (jw (Y 36 1 (bO s (bp 2147483648)) ad h3 (bW (df (bO s (bp 4294967295))) dV) (ai 41 (dZ 6 hj 22))) (Y 42 1 gw gQ gw (a (dK oO) ec fC) jn)) (eN 49 18 110 48 48 hR 54 18 111 53 53 (Y 55 1 gw eO gQ (l gw eO (P vQ p4) ec fC) jn) (eN 64 18 112 63 63 hS 69 18 113 68 68 hT (eN 74 18 114 73 73 h5 79 18 115 78 78 hU (eN 84 18 116 83 83 (dI 85 1 2 f8 hy fC) 90 18 117 89 89 (Y 91 1 gw gQ f8 (a eA ec fC) jn) (fz 98 18 118 97 97 (dI 99 1 2 f8 eA fC) (aF 104 (b5 18 119) 103 (ai 103 (dI 105 1 2 f8 eO (dx (ao 200 p4) 6 7 C))))))))))))) (dI 110 1 2 f8 eO (a (Wh G9 p1) (ao 200 p5) fC)))
def Tryz.amX:=fB 116 [.tmp 6,.tmp 7]<|dk 6 bR C (Z (bv 8 p8 (bi 127) ad gJ (l (em 130) dV ad h3 (bW ib dV)) (ai 17 (dZ 6 bR 21))) (ar 18 fZ (ee (a5 20 (F s p2 124) 19 19 ie 25 (F s p7 125) 24 24 hH (eN 30 18 126 29 29 hI 35 18 127 34 34 (jw (Y 36 1 (dm s 9223372036854775808) ad h3 (bW (df h4) dV) (ai 41 (dZ 6 bR 22))) (Y 42 1 eO gQ eO (a (dK oO) bC fC) jn)) (eN 49 18 128 48 48 hR 54 18 129 53 53 (b9 55 2 h4 E' 56 (dw 6 bR C) (Y 57 1 eO gQ eO (a (dK vQ) bC fC) jn)) (eN 64 18 130 63 63 hS 69 18 131 68 68 hT (eN 74 18 132 73 73 h5 79 18 133 78 78 hU (eN 84 18 134 83 83 (dI 85 1 2 (ep 63) hy fC) 90 18 135 89 89 (Y 91 1 eO gQ (ep 63) (a eA bC fC) jn) (fz 98 18 136 97 97 (dI 99 1 2 (ep 63) eA fC) (aF 104 (b5 18 137) 103 (ai 103 (dI 105 1 2 (ep 63) eO (dx (ao 201 p4) 6 7 C))))))))))))) (dI 110 1 2 (ep 63) eO (a (Wh G9 p1) (ao 201 p5) fC)))
def Tryz.amY:=fB 39 [.tmp 4,.tmp 5]<|dk 4 C B (jw (bv 6 p6 eZ ad (O p1 dM) (aJ (fE bC) (dj p3 0) (O p4 y) (O p5 f3) (O p6 dz) (eb p7) (O p8 a1) (O p9 bC) (aJ (O (q' 8) (P nK p8)) (b4 (q' 8)) ad (ex 0) (fE y) (O p3 f3) (O p4 dz) (eb p5) (l (dj p6 1) (O p7 dX) (eb p8) (O p9 gC) (aA (b4 (q' 20)))))) (ai 30 (dw 4 C B))) (bo 31 0 y 3 dz ih jn))
def Tryz.amZ:=fB 59 [.tmp 4]<|L 2 b8 b8 (bq B) (Z (eD 7 (be p5) ah a1 (be p7) ah a1 (P ax p4) ad (aJ (e5 p1 1 2) gb (O p3 a1) (e5 p4 1 3) (eb p5) (O p6 a1) (O p7 (P ax p4)) (b4 p8) E') (fl 22 4)) (fr 23 0 2 C E' (fy 0 27 27 0 1 (dp 28 p2 5 (eD 29 (j 0 2) ah hk dX ah g3 ah hk (a dX ah (aA (P ax p6))) (fl 39 4))) 40 26 26)) (jw (fr 41 1 2 C E' (fy 2 45 45 2 3 (dp 46 p2 6 (eD 47 (j 1 2) ah gH dX ah h7 ah gH (a dX ah (aA (P ax p6))) (fl 57 4))) 58 44 44)) h0))
def Tryz.am0:=fB 103 []<|bv 9 p9 y dz ah (aJ y dz ah y dz ah fq y (a fY ah (fs 202 [.t 18,hs] 8 (eM (q' 8) 0 (q' 8) 1 4 5)))) (jw (ds 26 1 0 (dO 35) (ai 30 (eU 6 fV (e0 32 0 (aJ y dz ah y dz ah ha (e8 48) (er 31 (aq (q' 31) 0 (q' 31) 1 (dh (j 0 6) 1 p3)))) (b9 47 5 (bT 2) E' 48 (aE 50 0 y dz ah (aJ y dz ah y dz ah ha ge (dg (bY 48) 49 (aq (q' 49) 0 (q' 49) 1 (dh (j 1 6) 1 p3))))) (Y 66 0 (aM 2 6) (aG 1 2 fV [(0,.t 67)]) (bY 157) E' jn)))))) (aB 70 0 hO (bJ 7 fV 2 7) (e0 72 0 (aJ y dz ah y dz ah ha (j 0 7) (bW ah (ab 203 [.t 81,.t 82,.t 84]))) (bb 86 5 (bT 2) E' 87 (aE 88 0 y dz ah (aJ y dz ah y dz ah ha ge (a (j 1 7) ah (aA (ab 203 [.t 97,.t 99,.t 101])))))))))
def Tryz.ab9:=fB 59 [.tmp 2]<|ay 2 B (dB 3 aQ 7 p7 a1 gd (fy 0 10 10 0 1 (ap 11 p2 (eP p5 p3) (fd 6 (aU 5 fQ (h 4 p3 (da 6 p9 p1)))) (dS 14 3 a1 6 (es 16 0 5 E' (B0 2 (ea (a5 19 (F s p2 2) 18 18 uT 20 (F s p3 3) 18 18 uT (aS 21 (F s p4 4) 18)) 18 (jw (aB 22 6 (bT 128) E' (fl 23 2)) (fL 24 3 0 5 ah gO (dL 1 8 p4 3))) (fz 30 17 5 29 29 (jw (Y 31 6 f6 ad (ex 3) (l (dj p2 6) (O p3 e1) (O p4 (dR p3)) (eb p5) (eC (O p6 (dy 4)) p7)) (fl 40 2)) (bm 41 3 6 e1 (dR p3) (db 1 (aI 5)))) (aF 46 (b5 17 11) 45 (ai 45 (b9 47 6 f6 E' 48 (dI 49 4 0 a1 e1 (ae (P s p4) 2)) (bm 54 3 6 e1 (e6 1 p3 p1) (R 3))))))))))) 58 9 9) (aX 2 B))
def Tryz.ab':=fB 185 [.tmp 2,.tmp 3]<|bX 1 bG aQ (bq B) (es 11 0 1 (dg (aR 25) 10 hJ) (jw (Y 16 5 ef ad (O p1 (aM 6 1)) (l (e5 p2 0 4) (eb p3) (O p4 (bY 204)) (O p5 ef) (aA (b4 p6))) (ai 24 (dw 2 aQ B))) (bS 25 0 1 fx g0 ga (jw (es 29 0 1 (aA (bi 64768)) (fa 31 32 (aJ (bQ [a0] (r 253)) (j 0 1) ah (bt 64768) bC f2 (aR 162) (aD 1 1 p7) ga))) (bS 40 1 1 bC f2 (ae (aR 162) 7) (jw (es 45 0 4 E' (ee (a5 48 (F s p2 1) 47 47 (e 2 (ej 49 6 (fb (d 49) ag)) jn) 51 (F s p5 2) 50 50 (jw (B0 1 (jw (es 53 1 1 (fv (-64) 52) (en 52 (es 56 1 1 (fv (-1) 52) (en 52 (es 59 1 1 (fv (-2) 52) (en 52 (bx 62 h6 ah (fv (-5) 52)))))))) (ai 52 (dH 65 6 1 1 (di 128) (a fx g0 (dx (aD 1 1 p6) 2 3 ag)) jn)))) (aB 72 6 h6 (S' ah (aH 78 h6 79 (f 1 (q' 78)) (a gO (ab 205 [.t 75]) (el 79 78 (S' (d2 1 1 72 76) (el 79 78 (fo 80 206 [.t 79] (er 2 (ej 3 80 E'))))))))) jn)) (ea (fz 82 46 3 81 81 uT (aS 83 (b5 46 5) 81)) 81 (eV 84 6 7 (aH 87 h6 88 (f 1 (q' 87)) (S' (d2 1 1 84 85) (el 88 87 (fo 89 206 [.t 88] (er 2 (ej 3 89 E'))))))) (fz 91 46 4 90 90 (dH 92 6 5 1 a1 (l bC f2 (aR 162) (aD 1 1 p7) ga) (jw (fr 100 5 1 C E' (fy 2 104 104 2 3 (e4 105 p4 p2 (R 9) (aZ 107 6 9 bC f2 (bc (aR 162) (aD 1 1 p5) 6) (aE 113 5 ad (dJ 9) (df (aR 206)) (ae dV 5)))) 118 103 103)) (dI 119 6 7 gn hk (W p1 (ey 1 1) dP (fe (aR 206)) (bf fj 2 p7 (R 3)))))) (ea (fz 129 46 6 128 128 uT (aS 130 (b5 46 7) 128)) 128 (e 140 (ek 131 gH 132 hb 134 (j 2 1) 135 (f 1 p6) (D' 136 (bw p5) (a h6 ah (D' 133 (d2 1 1 131 132) (dQ p7 p8 (dQ p1 p2 (aH 137 (wR [bR] p6) 138 (ab 162 [.t 137]) (dQ p1 p2 (D' 139 (d2 1 1 133 138) (dQ p1 p2 (l (ab 206 [.t 141]) ad (ey 2 1) dP (a (U (gF (.t 143) true (jz.call 206 [.t 145]))) fj (dr 2 p9 3))))))))))))) jn) (aF 149 (b5 46 8) 148 (ai 148 (e 153 (aH 150 gH 151 hb (a (j 2 1) ah (S' bC (D' 152 (d2 1 1 150 151) (dQ p2 p3 (d3 f2 (ab 162 [.t 156]) (d2 1 1 152 157) 6)))))) (e 165 (ek 159 gH 160 (j 3 1) 161 (f 1 p5) 162 (M .u8 p4) (a h6 ah (aH 163 (wR [a0] p5) 164 (d2 1 1 159 163) (dQ p1 p2 (aJ (ab 206 [.t 166]) ad (ey 2 1) dP (U (gF (.t 168) true (jz.call 206 [.t 170]))) fj ad (ey 3 1) (a dP (fe (dm sM 256)) (S' fj (ej 2 164 (R 3))))))))) jn)))))))))) (Y 178 6 (aM 6 1) (j 0 4) ah (aj (dG 207 p4 p3) p1 0 (bf (lX p2 1) 2 p2 (R 3))) jn)))))))
def Tryz.aca:=fB 26 [.tmp 4]<|ay 4 B (Z fN (dn 11 0 a1 C (fy 0 14 14 0 1 (dp 15 p2 5 (eu 16 5 dX ah hM (fl 24 4))) 25 13 13)) h0)
def Tryz.ahk:=fB 20 []<|ap 3 p3 hG (R 2) (bv 5 p5 b0 y hp (aJ ah dM y fY ah (e6 1 p5 p1) (bF 5) hp (dD 1 16 14)) (bZ 17 2 y (eG 4 1 (DO ag))))
def Tryz.ahl:=fB 37 [.tmp 4]<|a6 4 aQ (bv 6 p5 eQ y gY (a ah a1 (aA (P nK p6))) (ai 12 (aB 13 0 y (eG 14 1 (DO ag)) (aX 4 aQ)))) (e0 16 13 (H 0 y gY ah (l a1 e1 fq gu (a (eP p9 p1) (dW 6) (aU 5 gI (dD 6 5 29))))) (jw (es 30 0 5 (dO 3) (ai 32 (es 33 2 5 hC jn))) (es 35 3 5 hC jn)))
def Tryz.acb:=fB 27 []<|dB 4 aQ 6 p5 a1 (ae e1 5) (am 0 (aP (ap 9 p4 hi E' (aN 10 0)) 1 (R' 13 (W p9 fZ fq hk (l dX ah (ao 170 p5) gO (dL 1 8 p8 4)))) (bx 11 b0 e1 gT))) (aB 22 4 (aR 208) E' (fJ 24 0 ha 169))
def Tryz.ahm:=fB 92 []<|ar 3 b8 (dk 4 C B (Z (eD 6 (be p3) ah (b3 34) ad (A p1 (b1 p7)) dP (bL p3 0) (A p4 y) (l (A p5 (o 11)) (A p6 ah) (A p7 a1) (A p8 (fm p6)) (aA (dF p9))) (ai 18 (aE 19 0 y (o 11) ah (bK 1 3 (dR p3) ah (ew 4 5 ag))))) (eD 27 g3 ah (de 34) ad (ey 1 3) dP (bL p3 0) (A p4 y) (l (A p5 dz) (A p6 g4) (A p7 ah) (A p8 a1) (bW (A p9 (fm p7)) (dF (q' 30)))) (ai 40 (aE 41 0 y dz g4 (aJ ah h7 ah (eH p3 p1) dz ah g3 ah (aJ (bT 35) ad (ex 0) (fE y) (O p3 dz) (O p4 g4) (eb p5) (e5 p6 1 3) (l (eb p7) (O p8 (eH p3 p1)) (O p9 fY) (eb (q' 54)) (S' (b4 (q' 54)) (ej 4 50 gT)))))))) (b7 66 0 5 (d7 173) (jw (eD 69 g3 ah (dy 32) ad g7 dP (fe (dy 35)) fj E' (ai 76 (fJ 77 0 ha 170))) (eD 80 g3 ah (dy 33) ad g7 dP (fe (dy 36)) fj E' (ai 87 (fh 88 4 gO hh E')))))))
def Tryz.am1:=fB 17 [.tmp 4]<|ay 4 hj (ap 6 p5 bC (ae (ep 31) 5) (bv 9 p9 eI (bN uQ) fZ (W p8 (P oe (DO (D 32))) eA (P zG p5) hC) jn))
def Tryz.am2:=fB 17 [.tmp 4]<|ay 4 bR (ap 6 p5 bC (ae (ep 63) 5) (bv 9 p9 eI (bN uQ) fZ (W p8 (P oe (DO (D 64))) eA (P zG p5) hC) jn))
def Tryz.am3:=fB 65 [.tmp 4,.tmp 5]<|dk 4 C C (jw (bv 7 p7 eZ ad hg (aJ (fE gC) g1 ad (ex 1) (dj p2 0) (O p3 y) (O p4 dz) (O p5 fc) gV) (ai 22 (dw 4 C C))) (bo 23 0 y 0 dz (bc ah a1 6) (jw (Y 29 1 ge fZ y (l dz fc ah a1 (aA (fm p7))) (ai 37 (aE 38 0 y dz fc (eW fq ge (dR p3) (ae ah 6))))) (bo 47 0 y 0 fc (eW fq dX ah (H 6 fZ y dz (l fc ah fq dX (a ah (P oe p9) (ej 4 54 gT))))) jn))))
def Tryz.am4:=fB 42 [.tmp 6]<|ay 6 B (Z (bv 7 p7 eZ ad hg fU (fl 22 6)) (bo 23 0 y 0 fY (eW fq dX ah (dO 1)) (ai 31 (bZ 32 2 fp (R 2)))) (bo 34 0 y 0 dz (eW fq gQ (aV p3 p2) f7) (aX 6 ag)))
def Tryz.acd:=fB 57 [.tmp 4]<|w 2 b8 (a7 4 B) (jw (bv 9 p8 (dy 4) ad (ey 5 2) (l dP (fe a1) (A p4 gK) (dF p5) E') (fl 16 4)) (eD 17 (j 1 2) ah (j 2 2) ah (j 3 2) ah (j 4 2) ah (h 5 p7 (h 6 p5 (dr 7 p3 8))) (jw (ar 25 fq (ee (ea (a5 27 (F s p2 2) 26 26 uT 28 (F s p3 3) 26 26 uT (a5 29 (F s p4 5) 26 26 uT 30 (F s p5 4) 26 26 uT (aS 31 (F s p6 13) 26))) 26 (R' 5 gd) (ea (aT 33 (F s p8 6) 32 32 uT (aS 34 (F s p9 7) 32)) 32 (bx 5 (m C) (m C) E') (fz 36 25 8 35 35 (bx 5 (m C) (m C) (bq bR)) (ea (fz 38 25 9 37 37 uT (aS 39 (b5 25 10) 37)) 37 (R' 7 (bq bR)) (jw (fz 41 25 11 40 40 uT (aS 42 (b5 25 12) 40)) (ai 40 (bx 7 (m bR) (m bR) E'))))))))) (Y 43 5 f6 ad (dJ 6) (aJ (df f6) dV ad (dJ 7) ib dV ad (dJ 8) (bc ib dV 4)) jn))))
def Tryz.ace:=fB 34 [.tmp 2]<|ay 2 aQ (dB 3 aQ 6 p6 a1 gd (fy 0 9 9 0 1 (e4 10 p4 p2 gT (jw (am 2 (jw (bv 12 p7 (bI (-64)) ad (ex 5) (eC (fE (de 63)) p3) (aN 17 2)) (B0 3 (aZ 18 3 5 fx (bO zG (r 128)) gf (bZ 24 5 (dm vR 7) gT))))) (bm 26 3 5 (az ya 127) fx gf))) 32 8 8) (et 33 3 2))
def Tryz.am5:=fB 9 [.tmp 2]<|ay 2 B (bv 3 p3 hi ad (A p1 b0) (bc (df (bI 4294967296)) dV 2) jn)
def Tryz.ahn:=fB 62 [.tmp 6,.tmp 7]<|e 6 (eT 4 p5 (fb (m aQ) B)) (jw (ar 9 eQ (ee (ed 11 (F s p2 9) 10 10 (Y 12 0 (lL 3 p9) ah gw (S' eO (aH 20 (j 3 4) 21 (f 1 (q' 20)) (D' 22 (i sM (q' 21) (D 4294967296)) (a gO (ab 205 [.t 17]) (el 21 20 (S' (d2 1 1 12 18) (el 21 20 (er 6 (ej 7 22 E'))))))))) jn) 24 9 10 23 23 (dH 25 0 3 4 eO (a gO (aR 205) (dx (aD 1 1 p6) 6 7 ag)) jn) (fz 33 9 13 32 32 (e 40 (ek 34 fZ 35 (j 1 4) 36 (f 1 p5) 37 (M .u8 p4) (a (j 1 4) ah (S' hi (aH 38 (wR [a0] p6) 39 (d2 1 1 34 38) (dQ p2 p3 (W p1 (ey 1 4) dP (fe (bI 256)) (bf fj 6 p9 (R 7)))))))) jn) (aF 49 (b5 9 14) 48 (ai 48 (aB 50 0 go (dx gn 6 7 ag) jn))))))) (bS 53 3 4 (j 4 4) ah (a (u fV [(0,1,.t 54),(1,1,.t 56)]) (aR 39) (bJ 8 fP 16 8)) (aB 59 0 (tR 16 1 (q' 8) Zt Zt) (dx gn 6 7 ag) jn)))
def Tryz.am6:=fB 28 []<|ap 4 p4 a1 (bf e1 2 d1 (R 3)) (am 0 (aP (ap 7 p5 eI (aA g6) (aN 9 0)) 1 (fh 14 2 fZ (d 3) (H 0 (d 3) dX ah (H 0 gQ dX ah (S' (aV (q' 14) (q' 15)) (bH 1 26 21 (S' (aV (q' 16) (q' 17)) (dD 1 27 25))))))) (R' 10 (W p8 ge bP e1 (dr 2 p3 3)))))
end
end Go.Proofs
