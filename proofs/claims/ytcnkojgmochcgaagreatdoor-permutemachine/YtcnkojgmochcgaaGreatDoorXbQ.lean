import Derived.Test.YtcnkojgmochcgaaGreatDoorAb24
namespace Go.Proofs
set_option maxRecDepth 100000
noncomputable section
open Go.Ab.X
open Go.Ab (Dj Od AV nT xk uq BF UF RV)
namespace Y
abbrev R'(k:Nat)(r:Nat->xk):uq:=.rg (r k)
abbrev E':Nat->xk:=fun _=>.fi
abbrev S'(a:Nat->nT)(r:Nat->xk):Nat->xk:=fun k=>.st k (a k) (r (Nat.succ k))
abbrev D'(j:Nat)(a:Nat->nT)(r:Nat->xk):Nat->xk:=fun k=>.st j (a k) (r k)
abbrev N'(a:Nat->nT)(r:Nat->xk):Nat->xk:=fun k=>.sn (a k) (r k)
abbrev Q'(s:Nat->Od)(a:Nat->nT)(r:Nat->xk):Nat->xk:=fun k=>.ck (s k) (a k) (r k)
abbrev cL':=uq.lp
abbrev fB(n:Nat)(r:List RV)(b:uq):Dj:=⟨n,r,b⟩
abbrev Ex(a:nT):Nat->nT:=fun _=>a
abbrev q'(j:Nat):Nat->Od:=fun _=>.t j
abbrev GJ(v:AV):Nat->Od:=fun _=>.c v
abbrev oX':Nat->Od:=fun _=>.zz
abbrev wO'(a:Nat->Od):Nat->Od:=fun k=>.w (a k)
abbrev P6:Nat->Option Od:=fun _=>none
abbrev T8(a:Nat->Od):Nat->Option Od:=fun k=>some (a k)
abbrev gF'(a:Nat->Od)(b:Bool)(f:Nat->nT):Nat->nT:=fun k=>.gd (a k) b (f k)
abbrev wk(z:List AV)(a:Nat->Od):Nat->nT:=fun k=>.rw 1 1 z [(0,a k)]
abbrev p1:Nat->Od:=fun k=>.t (Nat.sub k 1)
abbrev p2:Nat->Od:=fun k=>.t (Nat.sub k 2)
abbrev p3:Nat->Od:=fun k=>.t (Nat.sub k 3)
abbrev p4:Nat->Od:=fun k=>.t (Nat.sub k 4)
abbrev p5:Nat->Od:=fun k=>.t (Nat.sub k 5)
abbrev p6:Nat->Od:=fun k=>.t (Nat.sub k 6)
abbrev p7:Nat->Od:=fun k=>.t (Nat.sub k 7)
abbrev p8:Nat->Od:=fun k=>.t (Nat.sub k 8)
abbrev p9:Nat->Od:=fun k=>.t (Nat.sub k 9)
abbrev kC0(f:Nat):Nat->nT:=fun k=>.call f []
abbrev kC1(f:Nat)(a:Nat->Od):Nat->nT:=fun k=>.call f [a k]
abbrev kC2(f:Nat)(a b:Nat->Od):Nat->nT:=fun k=>.call f [a k,b k]
abbrev kC3(f:Nat)(a b d:Nat->Od):Nat->nT:=fun k=>.call f [a k,b k,d k]
abbrev P7(f:Nat)(a b d e:Nat->Od):Nat->nT:=fun k=>.call f [a k,b k,d k,e k]
abbrev kC5(f:Nat)(a b d e g:Nat->Od):Nat->nT:=fun k=>.call f [a k,b k,d k,e k,g k]
abbrev kC6(f:Nat)(a b d e g h:Nat->Od):Nat->nT:=fun k=>.call f [a k,b k,d k,e k,g k,h k]
abbrev kC7(f:Nat)(a b d e g h i:Nat->Od):Nat->nT:=fun k=>.call f [a k,b k,d k,e k,g k,h k,i k]
abbrev kC8(f:Nat)(a b d e g h i j:Nat->Od):Nat->nT:=fun k=>.call f [a k,b k,d k,e k,g k,h k,i k,j k]
abbrev kC9(f:Nat)(a b d e g h i j l:Nat->Od):Nat->nT:=fun k=>.call f [a k,b k,d k,e k,g k,h k,i k,j k,l k]
abbrev q6(a:Nat->Od):Nat->nT:=fun k=>qg (a k)
abbrev T9(a:Nat->Od)(b:Nat->Od)(d:Nat->Od):Nat->nT:=fun k=>vk (a k) (b k) (d k)
abbrev Aw(a:Nat->Od):Nat->nT:=fun k=>Dq (a k)
abbrev Ua(a:Nat)(b:Bool)(d:Nat->Od):Nat->nT:=fun k=>rL a b (d k)
abbrev ZC(a:Nat)(b:Nat->Od)(d:Nat->Od):Nat->nT:=fun k=>s6 a (b k) (d k)
abbrev wm(a:Nat->Od):Nat->nT:=fun k=>BM (a k)
abbrev wo(a:BF)(b:Nat->Od)(d:Nat->Od):Nat->nT:=fun k=>vz a (b k) (d k)
abbrev Ub(a:UF)(b:Nat->Od):Nat->nT:=fun k=>GP a (b k)
abbrev ZD(a:Nat->Od):Nat->nT:=fun k=>uQ (a k)
abbrev ph(a:Nat)(b:Nat->Od):Nat->nT:=fun k=>nD a (b k)
abbrev xl(a:Nat)(b:Nat->Od)(d:Nat->Od):Nat->nT:=fun k=>xY a (b k) (d k)
abbrev Ax(a:Nat)(b:Nat)(d:Nat->Od)(e:Nat->Od):Nat->nT:=fun k=>w4 a b (d k) (e k)
abbrev ZE(a:Nat)(b:Nat)(d:Bool)(e:Nat->Od)(f:Nat->Od):Nat->nT:=fun k=>sf a b d (e k) (f k)
abbrev Ia(a:Nat->Od)(b:Nat->Od):Nat->nT:=fun k=>qP (a k) (b k)
abbrev uH(a:Nat->Od)(b:Nat):Nat->nT:=fun k=>pI (a k) b
abbrev KM(a:Nat->Od):Nat->nT:=fun k=>vm (a k)
abbrev ai9(a:Nat->Od):Nat->nT:=fun k=>BP (a k)
abbrev P9(a:Nat)(b:Nat)(d:Nat->Od)(e:Nat->Od):Nat->nT:=fun k=>oF a b (d k) (e k)
abbrev aeV(a:Nat)(b:Nat->Od)(d:Nat->Od):Nat->nT:=fun k=>yc a (b k) (d k)
abbrev aeW(a:Nat->Od):Nat->nT:=fun k=>xf (a k)
abbrev yR(a:Nat->Od)(b:Nat->Od):Nat->nT:=fun k=>Dr (a k) (b k)
abbrev Ey(a:Nat->Od)(b:Nat->Od):Nat->nT:=fun k=>Ds (a k) (b k)
abbrev ai'(a:Nat->Od):Nat->nT:=fun k=>BO (a k)
abbrev aeX(a:Nat)(b:Nat->Od)(d:Nat->Od):Nat->nT:=fun k=>sE a (b k) (d k)
abbrev Ib(a:Nat)(b:Nat->Od)(d:Nat->Option Od)(e:Nat->Option Od):Nat->nT:=fun k=>oE a (b k) (d k) (e k)
abbrev uI(a:Nat)(b:Nat)(d:Nat->Od)(e:Nat->Option Od)(f:Nat->Option Od):Nat->nT:=fun k=>pP a b (d k) (e k) (f k)
abbrev Uc(a:Nat->Od)(b:Nat->Option Od)(d:Nat->Option Od):Nat->nT:=fun k=>qO (a k) (b k) (d k)
abbrev a:=fun x1 x2 x3=>S' x1 (S' x2 x3)
abbrev b:=fun x1=>AV.int IntKind.i64 x1
abbrev d:=fun x1=>q6 (q' x1)
abbrev e:=fun x1 x2 x3=>nu (R' x1 x2) x3
abbrev f:=fun x1 x2 x3=>D' x1 (q6 x2) x3
abbrev h:=fun x1 x2=>Ua x1 false x2
abbrev i:=fun x1 x2 x3=>wo x1 x2 (GJ x3)
abbrev j:=fun x1=>ph x1 p1
abbrev k:=fun x1 x2 x3 x4 x5=>a x1 x2 (a x3 x4 x5)
abbrev l:=fun x1=>q6 (GJ x1)
abbrev m:=fun x1=>AV.int IntKind.u8 x1
abbrev o:=fun x1 x2 x3=>W4 (Od.t x1) x2 x3
abbrev p:=fun x1 x2=>ph x1 (q' x2)
abbrev q:=Ak false
abbrev r:=fun x1 x2 x3=>AV.sc (Value.slice x1 x2 x3)
abbrev s:=fun x1 x2=>gF' x1 false x2
abbrev t:=fun x1 x2 x3 x4=>e x1 (S' x2 x3) x4
abbrev u:=fun x1 x2 x3=>i x1 x2 (b x3)
abbrev v:=wm p1
abbrev w:=fun x1=>AV.sc (Value.string x1)
abbrev x:=fun x1=>GJ (AV.bool x1)
abbrev y:=fun x1 x2 x3 x4=>N' (ZC x1 x2 x3) x4
abbrev z:=fun x1 x2=>f x1 x2 E'
abbrev A:=fun x1=>AV.int IntKind.u64 x1
abbrev B:=fun x1 x2=>Ua x1 true x2
abbrev D:=fun x1 x2=>Ub (BN x1) x2
abbrev E:=fun x1=>ai9 (wO' x1)
abbrev F:=fun x1 x2=>wo x1 x2 p1
abbrev H:=fun x1 x2=>gF' x1 true x2
abbrev I:=w ⟨#[0,1,1,2,1,2,2,3,1,2,2,3,2,3,3,4,1,2,2,3,2,3,3,4,2,3,3,4,3,4,4,5,1,2,2,3,2,3,3,4,2,3,3,4,3,4,4,5,2,3,3,4,3,4,4,5,3,4,4,5,4,5,5,6,1,2,2,3,2,3,3,4,2,3,3,4,3,4,4,5,2,3,3,4,3,4,4,5,3,4,4,5,4,5,5,6,2,3,3,4,3,4,4,5,3,4,4,5,4,5,5,6,3,4,4,5,4,5,5,6,4,5,5,6,5,6,6,7,1,2,2,3,2,3,3,4,2,3,3,4,3,4,4,5,2,3,3,4,3,4,4,5,3,4,4,5,4,5,5,6,2,3,3,4,3,4,4,5,3,4,4,5,4,5,5,6,3,4,4,5,4,5,5,6,4,5,5,6,5,6,6,7,2,3,3,4,3,4,4,5,3,4,4,5,4,5,5,6,3,4,4,5,4,5,5,6,4,5,5,6,5,6,6,7,3,4,4,5,4,5,5,6,4,5,5,6,5,6,6,7,4,5,5,6,5,6,6,7,5,6,6,7,6,7,7,8]⟩
abbrev J:=fun x1=>oC (b x1)
abbrev L:=fun x1 x2 x3 x4 x5=>e x1 (a x2 x3 x4) x5
abbrev M:=fun x1 x2=>Ex (tZ x1 x2)
abbrev O:=fun x1 x2 x3 x4 x5=>k (d x1) x2 x3 x4 x5
abbrev P:=fun x1=>GJ (b x1)
abbrev R:=fun x1=>z x1 p1
abbrev U:=fun x1 x2=>r none x1 x2
abbrev W:=fun x1=>Ex (mn x1)
abbrev Y:=fun x1 x2 x3=>nu x1 (nu x2 x3)
abbrev Z:=fun x1 x2 x3 x4 x5=>k (q6 x1) x2 x3 x4 x5
abbrev C:=fun x1=>h x1 p1
abbrev N:=fun x1 x2=>W (nT.call x1 x2)
abbrev aa:=fun x1 x2 x3 x4 x5 x6 x7=>e x1 (O x2 x3 x4 x5 x6) x7
abbrev ab:=AV.bool false
abbrev ad:=fun x1 x2=>S' x1 (R x2)
abbrev ae:=q6 p1
abbrev af:=fun x1=>l (b x1)
abbrev ag:=fun x1 x2 x3=>T9 x1 (x x2) x3
abbrev ah:=fun x1 x2=>o x1 x2 xt
abbrev ai:=fun x1 x2 x3 x4 x5=>L x1 (d x2) x3 x4 x5
abbrev aj:=fun x1 x2=>u x1 p1 x2
abbrev ak:=fun x1 x2 x3 x4 x5=>L x1 (q6 x2) x3 x4 x5
abbrev al:=fun x1 x2 x3=>T9 x1 x2 (x x3)
abbrev am:=fun x1=>S' x1 E'
abbrev ao:=fun x1=>Ex (JL x1)
abbrev ap:=fun x1 x2 x3 x4=>t x1 x2 (R x3) x4
abbrev aq:=C 1
abbrev ar:=fun x1 x2 x3 x4=>a x1 (uH x2 x3) x4
abbrev au:=fun x1 x2=>xV x1 (cL' x2)
abbrev av:=w ⟨#[0,1,2,2,3,3,3,3,4,4,4,4,4,4,4,4,5,5,5,5,5,5,5,5,5,5,5,5,5,5,5,5,6,6,6,6,6,6,6,6,6,6,6,6,6,6,6,6,6,6,6,6,6,6,6,6,6,6,6,6,6,6,6,6,7,7,7,7,7,7,7,7,7,7,7,7,7,7,7,7,7,7,7,7,7,7,7,7,7,7,7,7,7,7,7,7,7,7,7,7,7,7,7,7,7,7,7,7,7,7,7,7,7,7,7,7,7,7,7,7,7,7,7,7,7,7,7,7,8,8,8,8,8,8,8,8,8,8,8,8,8,8,8,8,8,8,8,8,8,8,8,8,8,8,8,8,8,8,8,8,8,8,8,8,8,8,8,8,8,8,8,8,8,8,8,8,8,8,8,8,8,8,8,8,8,8,8,8,8,8,8,8,8,8,8,8,8,8,8,8,8,8,8,8,8,8,8,8,8,8,8,8,8,8,8,8,8,8,8,8,8,8,8,8,8,8,8,8,8,8,8,8,8,8,8,8,8,8,8,8,8,8,8,8,8,8,8,8,8,8,8,8,8,8,8,8]⟩
abbrev aw:=fun x1 x2 x3=>u x1 (q' x2) x3
abbrev ax:=fun x1 x2=>kC2 x1 x2 p1
abbrev ay:=fun x1 x2 x3 x4 x5=>ar (uH x1 x2) x3 x4 x5
abbrev az:=fun x1 x2 x3=>t x1 x2 E' x3
abbrev aA:=b 0
abbrev aB:=fun x1 x2 x3 x4 x5 x6=>ap x1 x2 x3 (o x4 x5 x6)
abbrev aD:=fun x1 x2 x3=>s6 x1 (Od.t x2) x3
abbrev aE:=fun x1 x2=>al x1 x2 false
abbrev aF:=fun x1 x2 x3 x4 x5 x6 x7 x8 x9=>k x1 x2 x3 x4 (k x5 x6 x7 x8 x9)
abbrev aG:=fun x1 x2 x3 x4 x5 x6=>R' x1 (O x2 x3 x4 x5 x6)
abbrev aH:=fun x1 x2=>wo qN x1 x2
abbrev aI:=w ⟨#[]⟩
abbrev aJ:=fun x1 x2 x3=>az x1 (l x2) x3
abbrev aK:=m 0
abbrev aL:=fun x1 x2=>ag x1 true x2
abbrev aM:=fun x1 x2 x3 x4 x5 x6 x7 x8=>aB x1 (aw x2 x3 x4) x5 x6 x7 x8
abbrev aO:=fun x1=>kC1 x1 p1
abbrev aP:=fun x1 x2=>B x1 (q' x2)
abbrev aQ:=fun x1 x2 x3 x4 x5 x6 x7=>aa x1 x2 (d x3) x4 x5 x6 x7
abbrev aR:=fun x1=>AV.sc (Value.pointer x1)
abbrev aS:=fun x1 x2 x3=>o x1 x2 (Q9 x3)
abbrev aT:=fun x1 x2=>xl 1 x1 x2
abbrev aU:=fun x1 x2 x3=>R' x1 (ad x2 x3)
abbrev aV:=fun x1 x2 x3 x4 x5 x6=>ai x1 x2 (aj x3 x4) x5 x6
abbrev aW:=fun x1 x2 x3=>P9 x1 x2 x3 p1
abbrev aX:=Ak true
abbrev aY:=fun x1 x2 x3=>az x1 (af x2) x3
abbrev aZ:=fun x1 x2 x3 x4=>Y x1 (xV x2 x3) x4
abbrev aC:=fun x1 x2 x3 x4 x5=>D' x1 x2 (D' x3 x4 x5)
abbrev aN:=fun x1 x2 x3 x4 x5 x6 x7=>aa x1 x2 x3 (j x4) x5 x6 x7
abbrev a0:=fun x1 x2=>aS x1 xt x2
abbrev a1:=fun x1=>aj qD x1
abbrev a2:=fun x1=>D IntKind.u64 x1
abbrev a3:=fun x1 x2 x3 x4=>y x1 (q' x2) x3 x4
abbrev a4:=w ⟨#[118,118,58,118]⟩
abbrev a5:=fun x1 x2 x3 x4=>R' x1 (a x2 x3 x4)
abbrev a6:=fun x1=>wk x1 p1
abbrev a7:=fun x1=>aj sC x1
abbrev a8:=fun x1 x2 x3 x4=>au x1 (az x2 x3 x4)
abbrev a9:=fun x1 x2 x3 x4 x5=>aZ (a0 x1 x2) x3 x4 x5
abbrev ac:=fun x1 x2 x3=>aD x1 x2 (Od.t x3)
abbrev an:=fun x1 x2 x3 x4 x5 x6 x7 x8 x9 CM Dl NC Q0 x14 x15=>aM x1 x2 x3 x4 x5 x6 x7 (aM x8 x9 CM Dl NC Q0 x14 x15)
abbrev ba:=fun x1 x2=>aw s0 x1 x2
abbrev bb:=fun x1 x2 x3 x4=>Ex (BL x1 x2 x3 x4)
abbrev bd:=fun x1 x2 x3=>D' x1 (ao x2) x3
abbrev be:=fun x1 x2 x3 x4=>S' x1 (f x2 x3 x4)
abbrev bf:=fun x1 x2=>am (ax x1 x2)
abbrev bg:=E p1
abbrev bh:=fun x1 x2 x3 x4 x5 x6 x7=>a9 x1 x2 x3 x4 (aU x5 x6 x7)
abbrev bi:=fun x1=>aj qN x1
abbrev bj:=fun x1=>am (af x1)
abbrev bk:=fun x1=>U 0 x1
abbrev bl:=fun x1 x2 x3 x4 x5=>a8 x1 x2 (aH x3 x4) x5
abbrev bm:=fun x1 x2=>s x1 (d x2)
abbrev bo:=fun x1 x2 x3=>i x1 x2 (A x3)
abbrev bp:=fun x1=>F s0 x1
abbrev bq:=fun x1=>AV.int IntKind.u32 x1
abbrev br:=fun x1 x2 x3 x4 x5 x6 x7=>e x1 (Z x2 x3 x4 x5 x6) x7
abbrev bs:=fun x1 x2=>N' (W x1) x2
abbrev bt:=bk 0
abbrev bu:=fun x1 x2 x3 x4=>bs (ac x1 x2 x3) x4
abbrev bv:=fun x1=>aL x1 p1
abbrev bw:=fun x1 x2 x3 x4 x5 x6=>aG x1 x2 (d x3) x4 x5 x6
abbrev bx:=fun x1 x2 x3 x4 x5=>L x1 x2 (af x3) x4 x5
abbrev bz:=fun x1 x2 x3 x4 x5 x6 x7 x8 x9 CM Dl=>bl x1 x2 x3 x4 (bh x5 x6 x7 x8 x9 CM Dl)
abbrev bA:=fun x1 x2=>h x1 (q' x2)
abbrev bB:=fun x1 x2=>aJ x1 x2 nI
abbrev bD:=fun x1=>Ub O2 x1
abbrev bE:=fun x1 x2 x3 x4 x5 x6 x7=>e x1 (k x2 x3 x4 x5 x6) x7
abbrev bF:=fun x1 x2 x3 x4 x5 x6=>aN x1 x2 x3 x4 aq x5 x6
abbrev bG:=fun x1 x2 x3 x4=>oF x1 x2 (Od.t x3) x4
abbrev bH:=fun x1=>oC (w x1)
abbrev bI:=fun x1=>aE x1 p1
abbrev bJ:=fun x1 x2 x3 x4=>a5 x1 (d x2) x3 x4
abbrev bK:=fun x1 x2 x3 x4=>ai x1 x2 x3 x4 nI
abbrev bL:=fun x1=>aj rK x1
abbrev bM:=fun x1=>aP 16 x1
abbrev bO:=fun x1 x2 x3 x4 x5 x6=>nu (ak x1 x2 x3 x4 x5) x6
abbrev bP:=fun x1 x2=>z x1 (P x2)
abbrev bQ:=AV.bool true
abbrev bR:=fun x1=>F sC x1
abbrev bS:=fun x1 x2 x3=>ah x1 (bB x2 x3)
abbrev bT:=fun x1 x2=>a x1 x2 E'
abbrev bU:=fun x1 x2 x3 x4=>ap x1 (q6 x2) x3 x4
abbrev bV:=fun x1 x2=>bo x1 p1 x2
abbrev bW:=fun x1 x2=>H x1 (d x2)
abbrev bX:=fun x1=>aj s0 x1
abbrev bY:=fun x1=>F tJ x1
abbrev bZ:=fun x1 x2 x3 x4 x5 x6 x7 x8=>bE x1 (p x2 x3) x4 x5 x6 x7 x8
abbrev bC:=aR none
abbrev bN:=fun x1 x2 x3 x4=>Ib x1 x2 x3 (T8 x4)
abbrev b0:=fun x1 x2 x3=>a x1 x2 (R x3)
abbrev b1:=fun x1 x2=>S' (j x1) x2
abbrev b2:=fun x1 x2=>Ia x1 (P x2)
abbrev b3:=fun x1 x2 x3 x4 x5 x6 x7 x8 x9 CM Dl NC=>bz x1 x2 x3 x4 x5 x6 x7 x8 x9 (ba CM Dl) NC
abbrev b4:=fun x1 x2 x3 x4 x5 x6=>nu (ai x1 x2 x3 x4 x5) x6
abbrev b5:=a2 p1
abbrev b6:=fun x1=>aj q x1
abbrev b7:=fun x1=>F qN x1
abbrev b8:=fun x1 x2 x3 x4 x5 x6 x7=>aV x1 x2 x3 x4 x5 (ah x6 x7)
abbrev b9:=fun x1=>ph 0 x1
abbrev bc:=fun x1 x2 x3 x4 x5 x6 x7 x8=>aB x1 (u x2 x3 x4) x5 x6 x7 x8
abbrev bn:=fun x1 x2 x3 x4 x5 x6=>bd x1 x2 (a3 x3 x4 x5 x6)
abbrev da:=fun x1 x2 x3 x4=>Ax x1 x2 (q' x3) x4
abbrev db:=fun x1 x2 x3 x4=>bx x1 x2 x3 x4 nI
abbrev dd:=q6 p6
abbrev de:=fun x1=>s p2 x1
abbrev df:=fun x1 x2 x3=>f x1 x2 (R x3)
abbrev dg:=fun x1 x2 x3=>kC3 x1 x2 x3 p1
abbrev dh:=fun x1=>aj qf x1
abbrev di:=fun x1=>wm (q' x1)
abbrev dj:=q6 p9
abbrev dk:=fun x1=>H p2 x1
abbrev dl:=fun x1 x2 x3=>Uc x1 (T8 x2) x3
abbrev dm:=Dm false
abbrev dp:=fun x1 x2 x3 x4 x5 x6=>aV x1 x2 x3 x4 (R x5) x6
abbrev dq:=fun x1 x2 x3=>y x1 x2 x3 E'
abbrev dr:=fun x1 x2=>dq x1 p1 x2
abbrev ds:=fun x1 x2=>xl x1 x2 p1
abbrev dt:=fun x1 x2 x3=>b1 x1 (dr x2 x3)
abbrev du:=Aw p2
abbrev dv:=bI p3
abbrev dw:=fun x1 x2 x3 x4 x5=>bF x1 x2 v x3 x4 x5
abbrev dx:=fun x1=>F BH x1
abbrev dy:=q6 p8
abbrev dz:=fun x1=>bm p1 x1
abbrev dA:=fun x1 x2 x3 x4 x5 x6 x7=>ay x1 x2 x3 x4 (df x5 x6 x7)
abbrev dB:=fun x1 x2 x3=>bu x1 x2 x3 E'
abbrev dD:=fun x1 x2 x3 x4 x5=>ah x1 (db x2 x3 x4 x5)
abbrev dE:=fun x1 x2 x3=>xl x1 x2 (P x3)
abbrev dF:=j 0
abbrev dG:=fun x1 x2 x3 x4 x5 x6 x7=>bZ x1 x2 x3 aq x4 x5 x6 x7
abbrev dH:=fun x1=>bV DW x1
abbrev dI:=fun x1 x2 x3 x4=>bK x1 x2 (d x3) x4
abbrev dJ:=fun x1=>dk (bL x1)
abbrev dK:=fun x1=>bW p1 x1
abbrev dL:=fun x1 x2 x3=>kC2 x1 x2 (P x3)
abbrev dM:=fun x1 x2 x3 x4=>Q' x1 (h x2 x3) x4
abbrev dO:=fun x1 x2 x3 x4=>bJ x1 x2 x3 (R x4)
abbrev dP:=fun x1 x2 x3 x4 x5 x6 x7 x8=>aa x1 x2 (p x3 x4) x5 x6 x7 x8
abbrev dQ:=bv p3
abbrev dR:=fun x1=>D IntKind.i64 x1
abbrev dS:=fun x1 x2 x3 x4 x5 x6 x7 x8 x9 CM Dl=>e x1 (aF x2 x3 x4 x5 x6 x7 x8 x9 CM) Dl
abbrev dT:=Aw p1
abbrev dU:=fun x1 x2=>wk x1 (P x2)
abbrev dV:=fun x1=>ax x1 p3
abbrev dW:=fun x1=>F qD x1
abbrev dX:=fun x1 x2 x3 x4=>dw x1 0 x2 x3 x4
abbrev dY:=fun x1=>bA 1 x1
abbrev dZ:=fun x1 x2 x3 x4 x5 x6=>aQ x1 x2 x3 x4 x5 x6 nI
abbrev dC:=fun x1 x2 x3 x4 x5=>be x1 x2 x3 (bP x4 x5)
abbrev dN:=fun x1 x2 x3 x4 x5=>k x1 (d x2) x3 x4 x5
abbrev d0:=bH ⟨#[105,58,118]⟩
abbrev d1:=fun x1 x2 x3 x4 x5 x6 x7=>t x1 x2 (a3 x3 x4 x5 x6) x7
abbrev d2:=fun x1=>bV sD x1
abbrev d3:=Aw p3
abbrev d4:=af 0
abbrev d5:=fun x1 x2 x3 x4 x5 x6=>d1 x1 x2 x3 x4 x5 x6 nI
abbrev d6:=fun x1=>am (b6 x1)
abbrev d7:=bH ⟨#[118,105,58,118]⟩
abbrev d8:=fun x1=>aT x1 p1
abbrev d9:=fun x1 x2 x3 x4=>nu x1 (o x2 x3 x4)
abbrev dc:=fun x1=>ax x1 p2
abbrev dn:=fun x1 x2 x3=>Q' (q' x1) x2 x3
abbrev ea:=fun x1 x2 x3=>a x1 (wm x2) x3
abbrev eb:=fun x1 x2 x3 x4=>D' x1 x2 (bT x3 x4)
abbrev ed:=fun x1 x2 x3 x4=>bG x1 x2 x3 (Od.t x4)
abbrev ee:=fun x1 x2=>aY x1 x2 nI
abbrev ef:=A 0
abbrev eg:=fun x1=>de (b6 x1)
abbrev eh:=fun x1 x2=>f x1 p1 x2
abbrev ei:=fun x1 x2=>dg x1 x2 p2
abbrev ej:=fun x1 x2=>o x1 xt x2
abbrev ek:=bH ⟨#[118,58,105]⟩
abbrev el:=fun x1 x2=>aJ x1 bt x2
abbrev em:=fun x1=>s p3 x1
abbrev eo:=fun x1 x2 x3 x4=>ap x1 (d x2) x3 x4
abbrev ep:=fun x1=>aj aX x1
abbrev er:=fun x1 x2 x3 x4=>L x1 x2 aq x3 x4
abbrev es:=fun x1 x2=>i x1 p1 x2
abbrev et:=fun x1 x2 x3 x4 x5=>er x1 (p x2 x3) x4 x5
abbrev eu:=bH ⟨#[118,58,118]⟩
abbrev ev:=fun x1 x2 x3=>eh x1 (bP x2 x3)
abbrev ew:=fun x1 x2 x3=>eo x1 x2 x3 nI
abbrev ex:=fun x1 x2 x3 x4 x5 x6 x7 x8 x9 CM Dl=>b3 x1 x2 x3 p2 x4 x5 x6 x7 x8 x9 CM Dl
abbrev ey:=fun x1=>xV 0 x1
abbrev ez:=fun x1 x2 x3 x4 x5 x6=>aa x1 x2 x3 ae x4 x5 x6
abbrev eA:=fun x1 x2 x3 x4 x5 x6 x7=>dP x1 x2 x3 x4 aq x5 x6 x7
abbrev eB:=fun x1 x2=>aT x1 (P x2)
abbrev eD:=fun x1 x2=>Ex (nT.callV x1 x2)
abbrev eE:=q6 p5
abbrev eF:=bD p1
abbrev eG:=fun x1 x2 x3 x4 x5 x6=>ez x1 x2 x3 (dK x4) x5 x6
abbrev eH:=fun x1 x2 x3 x4=>ai x1 0 x2 x3 x4
abbrev eI:=d2 4294967295
abbrev eJ:=fun x1 x2 x3 x4=>a x1 x2 (ad x3 x4)
abbrev eK:=fun x1 x2 x3 x4 x5=>dD x1 x2 (l x3) x4 x5
abbrev eL:=bH ⟨#[105,58,105]⟩
abbrev eM:=fun x1=>ei x1 p3
abbrev eO:=fun x1=>ph 1 x1
abbrev eP:=fun x1 x2 x3 x4=>Ib x1 x2 (T8 x3) x4
abbrev eQ:=fun x1 x2 x3 x4 x5 x6 x7=>d5 x1 x2 x3 x4 x5 (bP x6 x7)
abbrev eR:=fun x1=>D IntKind.u32 x1
abbrev eS:=fun x1=>B x1 p1
abbrev eT:=fun x1 x2=>aY x1 0 x2
abbrev eU:=fun x1=>F GN x1
abbrev eV:=q6 p7
abbrev eW:=BE false
abbrev eX:=fun x1=>dr x1 p2
abbrev eY:=fun x1 x2 x3 x4 x5 x6=>b8 x1 x2 x3 x4 E' x5 x6
abbrev eZ:=fun x1=>GJ (A x1)
abbrev eC:=fun x1 x2 x3 x4 x5 x6 x7 x8=>nu (br x1 x2 x3 x4 x5 x6 x7) x8
abbrev eN:=fun x1 x2 x3 x4 x5=>dI x1 x2 x3 (ad x4 x5)
abbrev e0:=fun x1=>bY (P x1)
abbrev e1:=fun x1 x2 x3=>b0 (dJ x1) x2 x3
abbrev e2:=fun x1 x2 x3 x4 x5 x6 x7 x8 x9 CM=>ex x1 x2 p1 x3 x4 x5 x6 x7 x8 x9 CM
abbrev e3:=bj 0
abbrev e4:=fun x1=>F DW x1
abbrev e5:=fun x1 x2 x3=>bT x1 (ax x2 x3)
abbrev e6:=dk aq
abbrev e7:=fun x1 x2 x3 x4 x5 x6 x7 x8=>eh x1 (dA x2 x3 x4 x5 x6 x7 x8)
abbrev e8:=fun x1 x2 x3 x4=>gF x1 x2 (nT.call x3 x4)
abbrev e9:=fun x1=>p 1 x1
abbrev ec:=fun x1 x2 x3=>S' (N x1 x2) x3
abbrev en:=fun x1 x2 x3 x4=>W (ed x1 x2 x3 x4)
abbrev fa:=fun x1 x2 x3 x4 x5=>au x1 (aZ x2 x3 x4 x5)
abbrev fb:=fun x1 x2=>xl x1 p4 x2
abbrev fd:=dR p1
abbrev fe:=fun x1=>F uv x1
abbrev ff:=fun x1 x2 x3 x4 x5=>aG x1 0 x2 x3 x4 x5
abbrev fg:=a7 1
abbrev fh:=fun x1 x2 x3 x4 x5=>bn x1 x2 x3 x4 x5 E'
abbrev fj:=fun x1 x2 x3 x4 x5 x6 x7=>dp x1 x2 x3 x4 x5 (ej x6 x7)
abbrev fk:=fun x1 x2 x3 x4 x5=>be (uH x1 x2) x3 x4 x5
abbrev fl:=fun x1=>s p4 x1
abbrev fm:=fun x1 x2 x3 x4 x5=>ap x1 x2 x3 (ah x4 x5)
abbrev fo:=fun x1 x2 x3 x4 x5 x6 x7=>bc x1 q x2 x3 x4 x5 x6 x7
abbrev fp:=fun x1 x2 x3 x4=>ad (aW x1 x2 x3) x4
abbrev fq:=fun x1 x2 x3 x4=>kC3 x1 x2 x3 (P x4)
abbrev fr:=fun x1 x2 x3 x4=>fh x1 x2 x3 x4 p1
abbrev fs:=J 0
abbrev ft:=fun x1 x2 x3 x4 x5 x6=>aa x1 x2 x3 x4 x5 x6 nI
abbrev fu:=fun x1 x2 x3=>ah x1 (ee x2 x3)
abbrev fv:=fun x1 x2 x3=>dn x1 (dY x2) x3
abbrev fw:=fun x1=>GJ (m x1)
abbrev fx:=fun x1 x2 x3 x4 x5 x6=>bw x1 x2 x3 (d x4) x5 x6
abbrev fy:=fun x1 x2 x3 x4 x5 x6 x7=>dX x1 x2 x3 (dX x4 x5 x6 x7)
abbrev fz:=fun x1 x2 x3 x4 x5 x6=>e x1 (eb x2 x3 x4 x5) x6
abbrev fA:=d8 p2
abbrev fD:=fun x1 x2=>u s0 x1 x2
abbrev fE:=fun x1 x2 x3 x4 x5=>er x1 (aT x2 x3) x4 x5
abbrev fF:=fun x1 x2=>dL x1 p1 x2
abbrev fG:=fun x1 x2 x3 x4 x5 x6=>aQ x1 0 x2 x3 x4 x5 x6
abbrev fH:=fun x1 x2 x3 x4 x5 x6 x7 x8 x9=>aF x1 (d x2) x3 x4 x5 x6 x7 x8 x9
abbrev fI:=fun x1=>bf x1 p2
abbrev fJ:=fun x1=>H p3 x1
abbrev fK:=fun x1 x2 x3 x4 x5 x6=>fo x1 x2 x3 x4 x5 xt x6
abbrev fL:=fun x1 x2 x3 x4=>dO x1 x2 (bX x3) x4
abbrev fM:=Ex cW
abbrev fO:=fun x1 x2=>dt x1 1 x2
abbrev fP:=fun x1 x2 x3 x4 x5 x6 x7=>bO x1 x2 (es x3 x4) x5 x6 x7
abbrev fQ:=fun x1 x2=>aJ x1 ef x2
abbrev fR:=fun x1 x2 x3 x4=>nu (az x1 x2 x3) x4
abbrev fS:=fun x1 x2 x3=>be x1 x2 p1 x3
abbrev fT:=fun x1=>ds x1 p2
abbrev fU:=fun x1=>F rK x1
abbrev fV:=fun x1 x2=>H (q' x1) x2
abbrev fW:=fun x1 x2 x3 x4=>D' x1 (N x2 x3) x4
abbrev fX:=fun x1 x2 x3 x4 x5=>L x1 x2 (l x3) x4 x5
abbrev fY:=fun x1=>aj s5 x1
abbrev fZ:=fun x1=>fO x1 p3
abbrev fC:=fun x1 x2 x3 x4 x5=>k x1 x2 (d x3) x4 x5
abbrev fN:=fun x1=>am (bv x1)
abbrev f0:=fun x1 x2 x3 x4 x5 x6=>eG x1 x2 (a1 x3) x4 x5 x6
abbrev f1:=fun x1 x2 x3 x4=>eK x1 x2 x3 x4 E'
abbrev f2:=fun x1=>eB p1 x1
abbrev f3:=bp p2
abbrev f4:=J 1
abbrev f5:=bI p4
abbrev f6:=eS 16
abbrev f7:=fun x1 x2 x3=>a (wm x1) x2 x3
abbrev f8:=fun x1 x2 x3=>ea x1 x2 (fZ x3)
abbrev f9:=fun x1=>aj uv x1
abbrev fc:=bH ⟨#[105,118,58]⟩
abbrev fn:=fun x1 x2 x3 x4 x5 x6=>br x1 x2 x3 x4 x5 x6 nI
abbrev ga:=fun x1 x2=>es x1 (bq x2)
abbrev gb:=fun x1 x2 x3 x4=>ff x1 x2 x3 aq x4
abbrev gd:=fun x1 x2 x3 x4=>dC x1 x2 p1 x3 x4
abbrev ge:=j 1
abbrev gf:=bH ⟨#[105,58,108]⟩
abbrev gg:=fun x1 x2=>bS x1 x2 ab
abbrev gh:=de aq
abbrev gi:=fun x1 x2 x3 x4 x5 x6 x7=>fm x1 (aw x2 x3 x4) x5 x6 x7
abbrev gj:=Aw p4
abbrev gk:=fun x1 x2 x3 x4 x5=>ah x1 (eH x2 x3 x4 x5)
abbrev gl:=fun x1 x2=>xl x1 p5 x2
abbrev gm:=fun x1=>am (l x1)
abbrev go:=fun x1=>p 0 x1
abbrev gp:=bR p2
abbrev gq:=eR p1
abbrev gr:=fun x1 x2 x3=>dM x1 1 x2 x3
abbrev gs:=bH ⟨#[105,118,58,118]⟩
abbrev gt:=wm p7
abbrev gu:=dz 0
abbrev gv:=fun x1 x2 x3 x4 x5 x6 x7 x8=>nu (dG x1 x2 x3 x4 x5 x6 x7) x8
abbrev gw:=fun x1=>dx (P x1)
abbrev gx:=fun x1 x2 x3 x4=>bx x1 x2 x3 E' x4
abbrev gy:=fun x1 x2 x3=>ah x1 (R' x2 x3)
abbrev gz:=fun x1 x2 x3 x4 x5=>ak x1 x2 x3 (R x4) x5
abbrev gA:=fun x1 x2=>ad (b6 x1) x2
abbrev gB:=fun x1=>bV x1 4294967296
abbrev gD:=fun x1=>s p1 x1
abbrev gE:=fun x1 x2=>dB 1 x1 x2
abbrev gG:=fun x1 x2 x3 x4 x5=>fE x1 x2 x3 (R x4) x5
abbrev gH:=fun x1 x2 x3=>bU x1 p2 x2 x3
abbrev gI:=fun x1 x2 x3 x4 x5 x6 x7 x8 x9 CM=>dS x1 x2 aq x3 x4 x5 x6 x7 x8 x9 CM
abbrev gJ:=x true
abbrev gK:=fun x1 x2 x3 x4 x5 x6 x7=>eQ x1 (bM x2) x3 x4 x5 x6 x7
abbrev gL:=fun x1 x2 x3=>bN x1 x2 P6 x3
abbrev gM:=fun x1 x2 x3=>nu (eT x1 x2) x3
abbrev gO:=fun x1 x2 x3 x4=>fX x1 x2 x3 E' x4
abbrev gP:=fun x1 x2 x3 x4 x5 x6 x7 x8 x9 CM Dl NC Q0 x14 x15 x16 x17=>aF x1 x2 x3 x4 x5 x6 x7 x8 (aF x9 CM Dl NC Q0 x14 x15 x16 x17)
abbrev gQ:=fun x1=>F qf x1
abbrev gR:=fun x1=>H p1 x1
abbrev gS:=fun x1 x2 x3 x4 x5 x6 x7 x8 x9=>e2 x1 x2 x3 x4 x5 x6 x7 x8 1 x9
abbrev gT:=fun x1 x2 x3 x4=>dN aq x1 x2 x3 x4
abbrev gU:=d 2
abbrev gV:=fun x1 x2=>dl x1 x2 P6
abbrev gW:=fun x1 x2=>aJ x1 ab x2
abbrev gX:=fun x1=>s p5 x1
abbrev gY:=fun x1 x2=>GJ (AV.fn x1 x2)
abbrev gZ:=fun x1 x2=>dE x1 p1 x2
abbrev gC:=fun x1=>uH x1 1
abbrev gN:=fun x1=>gR (e9 x1)
abbrev g0:=fun x1 x2 x3 x4 x5=>dN (bM x1) x2 x3 x4 x5
abbrev g1:=fun x1 x2=>gV x1 (P x2)
abbrev g2:=fun x1=>bf x1 p4
abbrev g3:=eX 1
abbrev g4:=fun x1=>b2 p1 x1
abbrev g5:=fun x1 x2 x3 x4=>fq x1 x2 (P x3) x4
abbrev g6:=fun x1 x2 x3 x4 x5=>aC x1 x2 x3 (d x4) x5
abbrev g7:=fun x1=>bV BH x1
abbrev g8:=fun x1 x2=>e1 x1 dv x2
abbrev g9:=bH ⟨#[105,108,58]⟩
abbrev gc:=Od.t 41
abbrev gn:=oC a4
abbrev ha:=fun x1 x2=>Ia (GJ x1) x2
abbrev hb:=fun x1=>D x1 p1
abbrev hd:=fun x1 x2=>aW 1 x1 x2
abbrev he:=d 0
abbrev hf:=fun x1 x2 x3=>da 16 x1 x2 x3
abbrev hg:=fun x1 x2 x3 x4 x5=>fz x1 x2 x3 x4 x5 nI
abbrev hh:=fun x1 x2=>R' x1 (bj x2)
abbrev hi:=fun x1 x2=>bT (de x1) x2
abbrev hj:=fun x1=>fe (P x1)
abbrev hk:=fun x1 x2 x3 x4 x5 x6 x7=>dI x1 x2 x3 (gd x4 x5 x6 x7)
abbrev hl:=fun x1 x2=>e5 x1 x2 p5
abbrev hm:=fun x1 x2 x3 x4 x5 x6 x7=>ey (fo x1 x2 x3 x4 x5 x6 x7)
abbrev ho:=fun x1=>gD (e9 x1)
abbrev hp:=hb IntKind.u8
abbrev hq:=fun x1 x2 x3 x4 x5=>hg x1 x2 (d x3) x4 x5
abbrev hr:=b6 0
abbrev hs:=fun x1 x2 x3 x4=>a x1 x2 (S' x3 x4)
abbrev ht:=go 3
abbrev hu:=g2 189
abbrev hv:=fun x1 x2 x3 x4 x5=>eH x1 x2 x3 (ah x4 x5)
abbrev hw:=fun x1 x2 x3 x4 x5 x6 x7 x8 x9 CM Dl=>gS x1 x2 x3 x4 x5 (gH x6 x7 x8) x9 CM Dl
abbrev hx:=fun x1 x2 x3 x4=>ZE x1 x2 false x3 x4
abbrev hy:=fun x1 x2 x3 x4=>bJ x1 x2 x3 (fI x4)
abbrev hz:=bi 0
abbrev hA:=d 10
abbrev hB:=fun x1=>H p4 x1
abbrev hD:=b7 p3
abbrev hE:=fun x1 x2=>bT x1 (bv x2)
abbrev hF:=fun x1 x2 x3 x4=>be x1 x2 x3 (R x4)
abbrev hG:=e9 3
abbrev hH:=fun x1 x2 x3 x4 x5=>L x1 x2 (eS x3) x4 x5
abbrev hI:=fun x1=>es x1 bC
abbrev hJ:=fun x1=>gZ 16 x1
abbrev hK:=fun x1=>fF 133 x1
abbrev hL:=fun x1 x2 x3 x4 x5 x6=>hH x1 (fb x2 x3) x4 x5 x6
abbrev hM:=d 1
abbrev hO:=hI dm
abbrev hP:=fun x1 x2 x3 x4=>k x1 x2 x3 x4 E'
abbrev hQ:=bq 0
abbrev hR:=fun x1 x2 x3=>g5 232 x1 x2 x3
abbrev hS:=fun x1 x2 x3=>gO x1 x2 x3 nI
abbrev hT:=bY p2
abbrev hU:=fun x1 x2 x3 x4 x5=>aU x1 (aw x2 x3 x4) x5
abbrev hV:=fun x1 x2 x3 x4 x5=>b4 x1 x2 bg x3 x4 x5
abbrev hW:=fun x1=>F s5 x1
abbrev hX:=fun x1 x2 x3=>gb x1 x2 dF x3
abbrev hY:=fun x1 x2 x3 x4 x5 x6 x7=>nu (eY x1 x2 x3 x4 x5 x6) x7
abbrev hZ:=fun x1 x2=>es x1 (m x2)
abbrev hC:=fun x1 x2 x3 x4 x5 x6 x7=>e7 x1 x2 x3 x4 x5 x6 p2 x7
abbrev hN:=hb IntKind.i32
abbrev h0:=a1 0
abbrev h1:=fun x1 x2 x3 x4=>gx x1 (l x2) x3 x4
abbrev h2:=fun x1 x2 x3 x4=>ak x1 x2 x3 E' x4
abbrev h3:=fun x1 x2 x3=>az x1 (ao x2) x3
abbrev h4:=fun x1 x2 x3=>b1 x1 (gE x2 x3)
abbrev h5:=fun x1 x2 x3 x4 x5 x6 x7 x8 x9=>fP x1 x2 x3 x4 x5 (bS x6 x7 x8) x9
abbrev h6:=fun x1 x2 x3 x4=>gG x1 p4 x2 x3 x4
abbrev h7:=fun x1 x2 x3 x4 x5 x6 x7 x8 x9=>hL x1 x2 x3 x4 (fr x5 x6 x7 x8) x9
abbrev h8:=fun x1 x2=>gr p5 x1 x2
abbrev h9:=Od.t 25
abbrev hc:=fun x1 x2 x3=>h6 x1 p2 x2 x3
abbrev hn:=fun x1=>h8 p6 x1
abbrev ia:=fun x1 x2=>df x1 p2 x2
abbrev ib:=fl aq
abbrev ie:=eZ 18446744073709551615
abbrev ig:=dz 1
abbrev ih:=f2 0
abbrev ii:=fun x1=>am (hK x1)
abbrev ij:=fun x1=>dk (ep x1)
abbrev ik:=fun x1 x2 x3 x4 x5 x6 x7=>f0 x1 x2 x3 x4 (g8 x5 x6) x7
abbrev il:=fun x1 x2 x3 x4 x5 x6 x7 x8 x9 CM Dl NC Q0 x14=>an x1 q x2 x3 x4 x5 x6 x7 x8 x9 CM Dl NC Q0 x14
abbrev im:=q6 p4
abbrev io:=Aw p5
abbrev ip:=fun x1 x2 x3 x4 x5 x6=>eh x1 (ay x2 x3 x4 x5 x6)
abbrev iq:=fun x1 x2 x3 x4 x5 x6 x7 x8 x9 CM Dl NC Q0=>il x1 x2 x3 x4 x5 x6 x7 q x8 x9 CM Dl NC Q0
abbrev ir:=fU p2
abbrev it:=fun x1 x2 x3 x4 x5 x6 x7 x8 x9 CM Dl NC Q0 x14 x15 x16 x17 x18 x19 x20 x21 x22 x23 x24 x25=>iq x1 x2 x3 x4 x5 x6 x7 x8 x9 CM Dl NC (iq Q0 x14 x15 x16 x17 x18 x19 x20 x21 x22 x23 x24 x25)
abbrev iu:=fun x1=>a0 x1 0
abbrev iv:=fun x1 x2 x3 x4 x5 x6=>et x1 x2 x3 (gA x4 x5) x6
abbrev iw:=fun x1 x2 x3 x4 x5 x6=>kC5 x1 x2 x3 (P x4) x5 x6
abbrev ix:=fun x1 x2 x3 x4=>ff x1 x2 aq x3 x4
abbrev iy:=d2 9259542123273814144
abbrev iz:=fun x1 x2=>az x1 du x2
abbrev iA:=fun x1 x2 x3 x4 x5=>fC x1 x2 x3 (a6 x4) x5
abbrev iB:=fun x1 x2=>gL x1 x2 p1
abbrev iD:=fun x1 x2=>s (q' x1) x2
abbrev iE:=b7 p2
abbrev iF:=fun x1=>H p5 x1
abbrev iG:=fun x1 x2 x3 x4=>ix x1 x2 (dV x3) x4
abbrev iH:=fun x1=>uH x1 0
abbrev iI:=fun x1 x2=>fO x1 (P x2)
abbrev iJ:=fun x1 x2 x3 x4=>a8 x1 x2 (bi x3) x4
abbrev iK:=fun x1 x2 x3=>a3 x1 x2 p1 x3
abbrev iL:List AV:=[aK,aK,aK,aK,aK,aK,aK,aK,aK,aK,aK,aK,aK,aK,aK,aK]
abbrev iM:List AV:=[aA,aA,aA,aA,aI]
abbrev jR:=eD (Od.t 39) [Od.t 40,gc]
abbrev lW:=bw 39 4 10 (aP 2 12) jR E'
abbrev kC:List AV:=[aA]
abbrev jK:=a6 kC
abbrev jL:List AV:=[bt,bt]
abbrev jV:=hl ir 185
abbrev jO:=fx 44 0 1 10 (eM 204) E'
abbrev mf:=d6 0
abbrev kd:=ah 21 nI
abbrev jM:=b0 (M [bt,ab] [(1,1,h9)]) dT 10
abbrev jT:=fD p8 1
abbrev iO:=fG 13 3 bg gU jV (hV 19 3 mf kd (dX 22 1 jM (aQ 28 10 3 bg jK hu (hV 33 3 e3 (bz 0 36 p1 p2 36 0 1 (h7 37 2 p2 2 12 jL 2 12 lW) 43 jT 35) jO))))
abbrev iP:=el 2 (h5 3 p3 eW bt E' 4 2 bt (L 5 (bb 0 2 jL []) dd (fp 2 48 p2 2) nI))
abbrev iQ:List AV:=[aA,aA,aA,aA,aA,aA,aA,aA,aA,aA,aA,aA,aA,aA,aA,aA,aA,aA,aA,aA,aA,aA,aA,aA,aA,aA,aA,aA,aA,aA,aA,aA,aA,aA,aA,aA,aA,aA,aA,aA,aA,aA,aA,aA,aA,aA,aA,aA,aA,aA,aA,aA,aA,aA,aA,aA,aA,aA,aA,aA,aA,aA,aA,aA,aA,aA,aA,aA,aA,aA,aA,aA]
abbrev iR:=a6 [ef]
abbrev iS:List AV:=[aA,aA,aA]
abbrev iT:List AV:=[bt,bt,bt,bt,bt,bt,bt,aA,bt,bt,bt]
abbrev jQ:=S' fM (N' fM E')
abbrev jU:=bp p3
abbrev iU:=gS 0 12 12 0 1 (hc 13 5 (aQ 15 3 5 bg jU (R 3) (eY 19 3 qN 0 20 (R' 21 jQ)))) 22 11 11
abbrev iV:List AV:=[aA,aA,ab,bt,bt]
abbrev iW:List AV:=[aA,aA,aA,aA,aA,bt,bt]
abbrev lp:=s p7 bg
abbrev lo:=s p6 aq
abbrev iX:=aF (de hz) dQ ae ig (bm p2 0) (em v) (fl dF) (gX dF) (hP lo lp (s p8 (dW p7)) (bv p9))
abbrev iY:=ev 6 7 0
abbrev iZ:=bw 39 4 10 (aP 3 12) jR E'
abbrev iC:=dr 1 p3
abbrev iN:=wk [aK] (GJ aK)
abbrev i0:List AV:=[aA,aA,ef]
abbrev i1:=eP 1 p2 p1 P6
abbrev ma:=bf 170 p3
abbrev i2:=iA v dF 4 kC ma
abbrev lL:=fl (dW p3)
abbrev i3:=aF (dz 2) (de hz) dQ ae (dz 2) (bm p2 1) (em (aO 140)) lL (fN p5)
abbrev i4:=j 2
abbrev i5:=eT 2 (fP 3 p3 dm bC E' (fu 4 2 0) (fn 5 p5 v dF aq (b0 bg (f9 65536) 2)))
abbrev i6:=bV q 0
abbrev i7:List AV:=[aA,aA,aA,ef,ef,bt]
abbrev i8:=R 6
abbrev i9:=d 8
abbrev ic:=Ub O3 p1
abbrev ja:=bX 1
abbrev jb:=d 11
abbrev jd:=dU kC 131
abbrev je:=j 3
abbrev jf:=bR (P 64)
abbrev jg:=ev 4 5 0
abbrev jh:=M jL []
abbrev ji:=d 3
abbrev jj:=d 7
abbrev jk:=P7 249 p4 p3 p2 p1
abbrev jl:=l bt
abbrev jm:=Od.t 30
abbrev jo:=Od.t 35
abbrev jp:=J 2
abbrev jq:List AV:=[aA,aA,bt,bt,ab,ab]
abbrev jr:=bM 5
abbrev js:=dK 0
abbrev jt:=aO 246
abbrev ju:=dU kC 126
abbrev jv:=gd b5 4 5 0
abbrev jw:=aeX 1 (wO' p2) (wO' p1)
abbrev jx:=Od.t 28
abbrev jy:=Od.t 31
abbrev jz:=F aX p3
abbrev jA:List AV:=[aA,hQ,bt,aA]
abbrev jB:=a6 [aK]
abbrev jD:=bV q 18446744073709551615
abbrev jE:=bv p4
abbrev jF:=dh 0
abbrev jG:=dx (eZ 1)
abbrev jH:=e0 2
abbrev jI:=e4 p3
abbrev jJ:=eU p5
abbrev jP:=M iL []
abbrev jS:=ao iL
abbrev lK:=dY 1
abbrev jW:=aF lK v dF aq v dF (dU kC 124) (dc 169) E'
abbrev jX:=fJ (es (BD false) (w ⟨#[101,120,105,116]⟩))
abbrev mz:=q6 p3
abbrev jY:=fQ 2 (fR 3 mz (bS 3 2 (A 1)) (bB 2 ef))
abbrev jZ:=d 6
abbrev jC:=bM 4
abbrev jN:=dY 3
abbrev j0:=e9 5
abbrev j1:=Od.t 32
abbrev j2:=J 7
abbrev j3:=aO 48
abbrev j4:=hj 64
abbrev j5:=aP 11 1
abbrev lm:=yR p2 p1
abbrev j6:=dN (Ey p2 p1) 14 lm b5 (R 12)
abbrev j7:=es (BD false) (w ⟨#[104,111,115,116]⟩)
abbrev j8:=hd 8 p2
abbrev j9:=Od.t 29
abbrev jc:=Od.t 34
abbrev jn:=Od.t 52
abbrev ka:=R 4
abbrev kb:=aO 233
abbrev ke:=bv p6
abbrev kf:=ga sD 31
abbrev kg:=hB aq
abbrev kh:=hP (bm p2 1) (em jt) lL (bv p5)
abbrev ki:=KM p1
abbrev kj:=oC aI
abbrev kk:=j 13
abbrev kl:=ai' (wO' p1)
abbrev km:=bH ⟨#[105,105,58]⟩
abbrev ko:=d 4
abbrev kp:=wo tJ (P 2) p3
abbrev kq:=Od.t 14
abbrev kr:=Od.t 27
abbrev ks:=Od.t 33
abbrev kt:=Od.t 36
abbrev ku:=Od.t 37
abbrev kv:=Od.t 38
abbrev kw:=Od.t 42
abbrev kx:=Od.t 45
abbrev ky:=bm p3 0
abbrev kz:=d 12
abbrev kA:=d8 p3
abbrev lC:=GJ bt
abbrev kB:=fC v dF 1 (kC3 161 p2 p1 lC) E'
abbrev kD:=fF 279 127
abbrev kE:=hx 16 1 p4 p3
abbrev kF:=j 12
abbrev kG:=p 2 3
abbrev kH:=z 4 (x false)
abbrev kI:=a7 64768
abbrev kJ:=aO 390
abbrev kK:=ee 2 0
abbrev kL:=gB s5
abbrev mD:=R 5
abbrev kM:=ay p4 0 p5 1 (bn 4 iV 5 4 p2 mD)
abbrev kO:=d 5
abbrev kP:=eJ (iF bg) (H p6 (b7 p4)) (bI p7) 8
abbrev kQ:=bM 3
abbrev kR:=bW (q' 45) 0
abbrev kS:=br 6 p6 bg eV bg (am jz) (gg 10 4)
abbrev kT:=eS 2
abbrev kU:=fT 7
abbrev kV:=hJ 0
abbrev kW:=Od.t 13
abbrev kX:=Od.t 20
abbrev kY:=Od.t 26
abbrev kZ:=R 7
abbrev kN:=b0 jB (hd 1 p5) 3
abbrev k0:=em (hZ qN 128)
abbrev k1:=gm bQ
abbrev k2:=hR p1 1 0
abbrev k3:=hf 1 9 p1
abbrev k4:=j 4
abbrev k5:=j 5
abbrev k6:=a (gX bg) (s p6 (dW p4)) (fN p7)
abbrev k7:=gT 12 fg (iB 1 p3) (f7 p8 dF iC)
abbrev k8:=uI 4 1 (q' 7) P6 (T8 p1)
abbrev k9:=J 16
abbrev kc:=bB 6 bt
abbrev kn:=d 9
abbrev la:=dY 2
abbrev lb:=e9 7
abbrev ld:=eM 150
abbrev lf:=em (b7 (fw 191))
abbrev lg:=fI 188
abbrev lh:=fV 45 (g1 p2 24)
abbrev li:=gT 12 hA gp (f8 (iB 1 p4) p9 0)
abbrev lj:=go 6
abbrev lk:=hd 8 p3
abbrev ll:=iI 7 40
abbrev lq:=k v ge (fF 178 1) ih (ad aq 4)
abbrev lr:=Od.t 22
abbrev ls:=Od.t 23
abbrev lu:=Od.t 24
abbrev lv:=Od.t 44
abbrev lw:=Od.t 46
abbrev lx:=Od.t 49
abbrev ly:=J 8
abbrev lz:=aT p5 p3
abbrev lA:=bI p6
abbrev lB:=dH 32
abbrev lD:=gD dj
abbrev lE:=wm p2
abbrev lF:=J 13
abbrev lG:=ah 26 (eQ 27 jP 16 6 p1 7 1)
abbrev lH:=bV Aj 9223372036854775808
abbrev lI:=d 13
abbrev lJ:=dK 2
abbrev lM:=go 9
abbrev lO:=hk 70 1 2 (F sD p2) 6 7 0
abbrev lP:=hk 80 1 2 (F Aj p2) 6 7 0
abbrev lQ:=l ef
abbrev lR:=O 1 kO fA aq (am (F aX p5))
abbrev lS:=aj tJ 65536
abbrev lT:=F q p2
abbrev lU:=aO 219
abbrev lV:=aP 6 2
abbrev lX:=dc 391
abbrev lY:=gT 1 fA aq (eh 4 (z 5 gJ))
abbrev lZ:=h 1 p6
abbrev lN:=Od.t 16
abbrev l0:=Od.t 17
abbrev l1:=Od.t 21
abbrev l2:=Od.t 43
abbrev l3:=Od.t 54
abbrev l4:=Od.t 55
abbrev l5:=Od.t 56
abbrev l6:List AV:=[ef,ef]
abbrev l7:=aP 11 2
abbrev l8:=bB 2 ab
abbrev l9:=bB 2 bQ
abbrev lc:=bH ⟨#[105,105,58,105]⟩
abbrev ln:=bI p5
abbrev mb:=bf 179 p3
abbrev md:=bp p4
abbrev me:=bq 4294967295
abbrev mg:=dW p2
abbrev mh:=de (g4 2)
abbrev mi:=de v
abbrev mj:=e0 8
abbrev mk:=fY 32
abbrev ml:=gC p2
abbrev mm:=gQ p2
abbrev mo:=gR ht
abbrev mp:=gl 2 p3
abbrev mq:=gl 2 p4
abbrev mr:=gm ab
abbrev ms:=gw 8
abbrev mt:=hE (fl eF) p5
abbrev mu:=hR p1 0 1
abbrev mv:=hR p1 1 1
abbrev mw:=hd 1 p2
abbrev mx:=hf 1 8 p6
abbrev my:=hl jK 189
abbrev mA:=oC (A 361700864190383365)
abbrev mB:=J 4
abbrev mE:=da 24 3 4 p1
abbrev mF:=eJ bg (bR p3) (bR p6) 1
abbrev mG:=fr 8 iL 16 8
abbrev mH:=ga sD 255
abbrev mI:=hP aq bg jK (ax 189 p7)
abbrev mJ:=hk 50 1 2 (fe p2) 6 7 0
abbrev mK:=hk 65 1 2 (hW p2) 6 7 0
abbrev mL:=hk 75 1 2 (eU p2) 6 7 0
end Y
open Y
def Tryz.x8:=fB 94 [.tmp 4]<|L 2 du du mr (Y (L 15 (kC0 36) eF E' (gg 16 4)) (dG 17 0 2 (aO 37) eF E' (bS 20 4 bQ)) (gI 21 (go 2) (a1 64783) ae (gR (go 2)) e6 (fJ (bL 64785)) f5 (Z p1 (gD (go 2)) gh (em (b6 64791)) (aF jE ae (gD (go 2)) gh (em (b6 64794)) jE ae (gD (go 2)) (eJ gh (em (b6 64796)) jE 5))) (gM 6 (fa 0 (aV 44 6 rK 4 E' (iu 45)) 1 (t 48 (aP 4 3) (fr 7 [ef,ef,ef,ef] 4 7) (nu (aa 49 5 ae (dK 6) (dk jF) (am dv) (ah 53 (aG 54 6 fg jZ fg (k (da 4 1 7 p1) aq eI (da 4 1 7 p6) g3)))) (bE 63 lV jZ k8 (N 38 [.t 63,.t 65]) (hC 62 p5 0 p6 1 8 9) (hY 69 9 aX 0 70 (Q9 1) (bE 72 lV jZ k8 i9 (a bg (N 39 [.t 72,.t 74,.t 76]) (hC 71 p7 0 p8 1 10 11)) (ft 80 11 ae (dK 10) (bW p2 8) (b0 (fJ (dc 25)) f5 4))))))) (fL 46 6 1 6)) (L 87 lV (fF 40 0) (ip 86 p3 0 p4 1 (fk p5 2 12 p3 (ia 13 14))) (dp 92 14 q 1 4 nI)))))
def Tryz.Dl:=fB 57 [.tmp 2]<|eT 2 (nu (ey (bO 4 p4 (b6 69) (R 3) (ej 3 (gz 6 p6 (b6 80) 3 (ej 3 (br 8 p8 (a1 103) ae js (g8 105 3) (ej 3 (ik 14 0 121 0 123 3 (ej 3 (fj 20 0 q 167 3 3 (fj 22 0 q 172 3 3 (fj 24 0 q 173 3 3 (ff 26 (a1 192) ae js (g8 196 3)))))))))))) (o 3 (ee 2 1) (nu (ik 33 0 70 0 79 32 (ej 32 (ik 39 0 81 0 90 32 (ej 32 (ik 45 0 106 0 120 32 (ej 32 (ff 51 (a1 124) ae js (g8 138 32)))))))) (fu 32 2 2))))) kK)
def Tryz.NC:=fB 56 [.tmp 6,.tmp 7]<|h1 6 ef 0 (aZ (eH 10 (aO 11) (am (ep 2)) (f1 12 6 ef 1)) 0 (dp 14 0 rK 79 13 (o 13 (ft 16 0 (a7 70) hM hN (dN fd 2 hN fd (gd (dg 45 p7 p4) 6 7 0))) (dp 26 0 rK 90 25 (o 25 (ft 28 0 (a7 81) hM fd (a gU fd (gd (dg 45 p5 p3) 6 7 0))) (b8 36 0 rK 120 (R 35) 35 (fG 39 1 gq gU (a gq (dg 46 p5 p3) (hC 38 p7 0 p8 1 8 9)) (bK 47 8 b5 (hF kn 6 p2 7)))))))) (dZ 50 0 1 gU (eM 47) (dA p1 0 p2 1 6 p2 7)))
def Tryz.Q0:=fB 56 [.tmp 4,.tmp 5]<|h1 4 ef 0 (bO 7 p7 (aO 11) (am (ep 1)) (f1 9 4 ef 1) (gz 10 p9 gq 6 (fR 12 he (hm 14 p2 69 13 13 (ak 15 p9 (ga q 0) (gd j3 4 5 0) nI) (fo 19 p7 80 18 18 (bK 20 1 i6 (gd j3 4 5 0)) (it 24 12 103 23 23 (bK 25 6 (aO 49) jv) 29 12 104 28 28 (bK 30 6 (aO 50) jv) 34 12 105 33 33 (bK 35 6 (aO 51) jv) 39 12 121 38 38 (bK 40 1 (aO 52) jv) (aM 44 q 12 122 43 43 (bK 45 1 (aO 53) jv) (gi 49 q 12 123 48 48 (bK 50 1 (aO 54) jv)))))) (hk 53 0 1 (dc 55) 4 5 0))))
def Tryz.x18:=fB 117 [.tmp 2,.tmp 3]<|fX 1 dT bC e3 (nu (L 12 j5 (aO 56) ka (eY 14 4 aX 0 15 (hq 2 16 4 (l bC) (d 16)))) (bE 17 j5 (aO 57) (M [bt,bt,bt,bt,bt,bt,bt,bt,bt,bt,bt,aA,bt,bt,bt,bC] [(4,11,.t 18)]) dT mD (Y (dG 21 5 1 bg d4 E' (gS 0 25 25 0 1 (h7 26 3 p2 3 7 [aA,ab,bt] 3 7 (aG 28 5 v dF (go 7) (k aq (p 2 7) aq (gZ 6 0) (bT (eS 6) (N 58 [jm,j1,kt]))))) 38 24 24)) (dG 39 3 1 bg jF E' (ah 42 (aG 43 5 (dU kC (-1)) (p 3 1) aq (k (gZ 2 0) dF aq (ax 59 p6) (f7 p8 je (fO 0 p4)))))) (Y (dG 54 4 1 bg jF E' (ah 57 (aG 59 5 (p 4 1) aq (gZ 2 0) (aF dF aq (p 4 1) aq (gZ 2 0) ge aq (N 60 [.t 64,.t 69]) (eh 58 (k (iH (q' 58)) (gC (q' 58)) (di 59) (j 15) (gE 74 71))))))) (dG 75 8 1 bg d4 E' (gS 2 79 79 2 3 (h7 80 2 p2 2 9 jL 2 9 (aN 82 5 v 3 lM (aF aq (gZ 6 0) je aq (e9 9) aq (N 61 [.t 84,.t 89,.t 91]) eF E') (f1 93 2 bC 13))) 94 78 78)) (gv 95 10 1 bg d4 E' (gS 4 99 99 4 5 (h7 100 2 p2 2 11 jL 2 11 (dw 102 5 15 (aF (go 11) aq (gZ 6 0) je aq (e9 11) aq (N 62 [.t 105,.t 110,.t 112]) (am (ep 0))) (f1 114 2 bC 14))) 115 98 98) (hq 2 116 5 (d 116) d4))))))
def Tryz.x20:=fB 11 [.tmp 2]<|aJ 2 bC (fn 3 p3 im bg (yR p1 (P 4096)) (k (iB 1 p4) (aO 67) (M [bt,bt,hQ] [(0,1,.t 8)]) dT (R 2)))
def Tryz.x22:=fB 89 [.tmp 6]<|t 3 d3 (z 6 (GJ bC)) (e 15 (aC 11 hM 12 gU (D' 13 hM (S' (aP 2 3) (fW 14 68 [kW] (Q' p1 (aP 2 3) (k (N 34 [.t 15]) (ep 0) (M [bt,bt,bC,bC,bt,bt,bt,bt,bt,bt,bt,aA,bt,bt,bt,ab] [(2,1,.t 11),(3,1,.t 12),(4,11,kq),(15,1,l0)]) dT kZ)))))) (eA 20 7 0 3 (aO 69) (f7 p4 dF (fO 0 p4)) (nu (aN 27 7 v 0 dF (a aq bg e3) (gS 0 34 34 0 1 (ak 35 p2 mp (S' kT (bd 9 jL (f 8 p3 (iK 2 9 E')))) (aG 38 7 v dF dF (gT 8 lM aq (aC 47 (e9 9) 48 (dY 47) (ec 70 [kx] (hn (fv 48 47 (fW 49 70 [.t 48] (hn (aC 50 (M jL [(0,1,lw),(1,1,lx)]) 51 mq (dB 2 51 50))))))))))) 52 33 33)) (eA 53 7 1 3 (aO 71) (f7 p4 dF (fO 1 p4)) (nu (aN 60 7 v 0 ge (a aq bg e3) (hw 2 67 67 2 3 68 10 (aG 69 7 v dF ge (fH aq 10 jj v dF ge aq hA (k kU k5 aq (N 72 [.t 83]) (fv 73 72 (a (xl 7 (q' 73) (q' 74)) k5 (gE 86 84)))))) 87 66 66)) (ew 88 7 6))))))
def Tryz.x23:=fB 129 [.cell 8 4 true]<|h3 8 jA (nu (ey (b4 16 0 hO (R 15) (ej 15 (dX 18 2 (ad hO 15) (ej 15 (gb 23 v je (ad hO 15))))) (o 15 (d5 28 (M jA [(0,1,jp)]) 4 8 p1 E') (d9 (fj 30 1 qN 0 29 29 (aQ 32 1 0 v dF (k ge aq bg (dW p7) (R 29)) (ej 29 (aG 40 2 bg he v (aF dF ge aq hM kU i4 aq (F aX (q' 41)) (R 29)))))) 29 (d5 52 (M jA [(0,1,f4)]) 4 8 p1 E') (dX 54 15 (R 53) (ah 53 (d5 58 (M jA [(0,1,J 40)]) 4 8 p1 E'))))))) (ai 59 2 (aO 67) (R 9) (nu (aN 61 0 v 0 dF (fH aq 0 v dF ge aq hM kU (k ge aq (ds 2 (q' 65)) dF (a aq bg e3))) (gS 1 80 80 1 2 (ak 81 p2 lz (hF aq 10 p3 11) (eY 84 11 q 127 85 (bw 86 9 10 fA aq (a eI (aT p5 p4) g3)))) 92 79 79)) (fG 93 3 (Ey p1 (P 0)) (yR p1 (P 100000)) (b0 (M [bC,aA,aA,aA,aA] [(0,1,.t 93),(1,1,.t 96)]) dT 12) (aQ 99 12 1 kn (eM 73) (R 13) (dw 103 12 4 (O 12 v ge aq (S' (M jA [(0,1,.t 106),(3,1,.t 110)]) (bd 14 jA (dB 4 14 111)))) (nu (dw 112 12 4 E' (xV 3 (fo 117 p2 0 116 116 (bJ 118 13 (p 2 14) g3) (fm 121 (u q p6 28) 120 120 (gb 122 v je (a (aO 74) (e9 14) g3)))))) (d5 128 (aP 4 14) 4 8 p1 E'))))))))
def Tryz.x25:=fB 26 [.tmp 4]<|gW 4 (Y kS (eT 5 (fa 0 (br 11 p6 he bg hD E' (iu 14)) 1 (fG 17 5 fA aq lR (gg 25 4)) (fL 15 5 1 5))) (bB 4 bQ))
def Tryz.x26:=fB 30 [.tmp 4,.tmp 5]<|gO 4 lQ ab (eC 6 p6 hO ae (gD dy) iX (ah 21 (hS 4 lQ ab)) (aN 22 0 v 0 dF lY nI))
def Tryz.x27:=fB 27 [.tmp 4,.tmp 5]<|gO 4 lQ ab (eH 10 hM (fS (dc 77) 9 (ay p4 0 p5 1 (fk p6 2 6 p3 (ia 7 8)))) (bO 16 p8 eF E' (ah 17 (hS 4 lQ ab)) (dX 18 13 (O 6 (fT 16) f6 jj (fS (dg 78 p2 (P 64)) 4 (z 5 gJ))) nI)))
def Tryz.x31:=fB 9 [.tmp 2]<|aJ 2 bC (h5 3 p3 dm bC E' 4 2 bC (fn 5 p5 v (j 15) aq (R 2)))
def Tryz.x34:=fB 38 [.tmp 2]<|gx 1 dT 0 (Y (bE 6 (b9 p5) aq bg d4 E' (gS 0 10 10 0 1 (hL 11 2 p2 2 (bd 4 jL (dq 2 p9 p1)) (bE 13 (b9 p9) aq (aO 83) eF (Z p1 (ho 4) gh (em (aO 83)) mt) (fu 22 2 1))) 23 9 9)) (dG 24 1 1 bg d4 E' (hw 2 28 28 2 3 29 5 (bE 30 (aP 2 1) (e9 1) aq kO (a kU (N 84 [jm,jc]) (am eF)) (fu 36 2 1)) 37 27 27)) kK)
def Tryz.x36:=fB 56 [.tmp 0]<|gW 0 (L 11 (M i7 [(0,1,J 64783)]) (fF 40 1) (ip 10 p3 0 p4 1 (fk p5 2 1 p3 (ia 2 3))) (aa 17 1 (bb 2 1 [ef] [(0,oC (A 9)),(1,oC (A 2147483653))]) (Ex (tK 1 8 [ef] (J 65) (J 65))) (eM 87) (ip 16 p5 0 p6 1 (fk p7 2 4 p3 (ia 5 6))) (L 25 (M i7 [(0,1,J 64789),(1,1,k9)]) (fF 40 0) (ip 24 p3 0 p4 1 (fk p5 2 7 p3 (ia 8 9))) (eG 30 3 hr 2 (gP (dk h0) dv ae lJ (dJ 64) dv ae (dK 6) (dk hr) dv ae (dK 4) (dk (bb 3 1 [ef] [(0,oC (A 9)),(1,mA),(2,mA)])) (fJ (dc 25)) f5 ae (k (dK 9) (dk (b6 1)) dv ae (b0 (gR (kC1 37 (P 64783))) (bI p2) 0))) nI))))
def Tryz.x37:=fB 75 [.tmp 2]<|gW 2 (gz 6 p6 kI 3 (aZ (ak 9 p9 (aO 88) (ip 8 p3 0 p4 1 (bd 4 iV (y 5 p9 p2 mD))) (h2 13 p8 eF (gg 14 2))) 0 (d9 (ik 16 3 12 3 30 15 (ej 15 (ik 22 3 101 3 102 15 (ej 15 (ik 28 3 124 3 127 15 (ej 15 (fj 34 3 q 130 15 15 (aG 36 3 (a1 133) ae (dK 3) (g8 138 15))))))))) 15 l9 (nu (ik 43 3 156 3 159 42 (ej 42 (ik 49 3 167 3 170 42 (ej 42 (fj 55 3 q 186 42 42 (ik 57 3 188 3 191 42 (ej 42 (ik 63 3 199 3 202 42 (ej 42 (aG 69 3 (a1 220) ae (dK 3) (g8 223 42))))))))))) (bS 42 2 bQ))) l8))
def Tryz.x38:=fB 69 [.tmp 4,.tmp 5]<|fz 4 2 gj jl d4 (gv 14 0 2 (aO 89) eF E' (f1 17 4 bt 1) (et 19 0 2 (fS (aO 88) 18 (ay p4 0 p5 1 (bn 6 iV 5 6 p2 kZ))) (dG 25 3 6 hM (dc 90) (hC 24 p5 0 p6 1 8 9) (Y (eY 31 9 aX 0 32 (hq 4 33 9 jl (d 33))) (dG 34 4 6 ih aq (am (ep 123)) (ah 38 (bE 40 lV i9 kV f6 (fS (N 91 [.t 40,l2]) 39 (dA p6 0 p7 1 10 p2 11)) (hY 47 11 aX 0 48 (hq 4 49 11 jl (d 49)) (bK 50 10 iR jg))))) (bE 53 lV (aP 5 6) i9 (eM 92) (ip 52 p5 0 p6 1 (bn 12 iL 16 12 p2 (R 9))) (hY 59 9 aX 0 60 (hq 4 61 9 jl (d 61)) (L 62 (bM 12) (aO 93) (fr 13 l6 2 13) (dG 64 0 13 (e9 13) aq (gd (bb 2 1 [ef] [(0,.t 65),(1,.t 67)]) 4 5 0) nI))))))))
def Tryz.x39:=fB 97 [.tmp 6,.tmp 7]<|fz 6 3 (Aw p6) jl (l ab) (ai 19 1 bg (R 8) (L 22 (aP 6 3) i9 (fS (dc 40) 21 (ay p4 0 p5 1 (fk p6 2 9 p3 (ia 10 11)))) (L 29 (M iT [(7,1,J (-1))]) (aO 18) (hC 28 p3 0 p4 1 12 13) (nu (ez 33 11 (ep 0) (dz 12) (hi hO dQ) (ah 38 (hS 6 jl ab))) (aQ 39 8 2 hA (M iW [(0,1,J (-1)),(2,1,.t 39),(3,1,.t 40),(4,1,gc)]) (fr 14 iW 7 14) (t 43 jh (fr 15 jL 2 15) (Y (eT 16 (fa 0 (ai 44 16 i9 (am iE) (iu 46)) 1 (dG 49 5 14 (d 16) (M i0 [(0,1,J 32),(1,1,.t 51)]) (hs (bb 1 3 i0 [(0,jn)]) (aW 3 24 p4) (p 5 14) g3) (R' 56 (k (go 15) aq ju j8 (S' (go 15) g3)))) (fL 47 16 1 16))) (eT 17 (fa 2 (ai 61 17 gU (am iE) (a0 63 2)) 3 (R' 66 (k (e9 15) aq ju j8 (S' (e9 15) g3))) (fL 64 17 1 17))) (dG 71 5 14 kn (aW 3 24 p2) (S' (p 5 14) g3) (dG 76 5 14 (M i0 [(0,1,J 15)]) (bb 1 3 i0 [(0,.t 78)]) (a (aW 3 24 p3) (p 5 14) g3) (e 84 (D' 82 (aP 2 15) (S' (aP 7 14) (g6 87 kz 90 1 (fW 88 20 [oC bt] (Q' p3 (aP 2 15) (Q' p1 (aP 7 14) (D' 83 (bb 1 2 jL [(0,.t 82)]) (a (bb 1 7 iW [(0,.t 84)]) (M jL [(0,1,.t 83),(1,1,.t 85)]) (aC 89 (N 22 [.t 86,.t 87,.t 88]) 91 (N 23 [.t 89,fs,.t 90,fs]) (bd 18 jA (dB 4 18 91))))))))))) (dG 92 2 18 (go 18) aq (hF hr 6 p4 7) nI)))))))))))
def Tryz.x40:=fB 93 [.tmp 4,.tmp 5,.tmp 6]<|e 4 (D' 2 gj (a jl d4 e3)) (et 15 0 2 (fS (aO 88) 14 (ay p4 0 p5 1 (bn 7 iV 5 7 p2 (R 8)))) (dG 20 3 2 (p 4 2) aq (a (M l6 [(0,1,l1),(1,1,ls)]) (aO 94) (fr 9 iL 16 9)) (dG 26 0 2 (aO 37) eF (Z p1 ig (de hz) dQ (Z p1 ig (de (dh 4032)) dQ (R 10))) (Y (et 38 0 7 (d6 13) (ah 40 (aG 41 10 ae (ho 2) gh (aF (em hz) jE ae (ho 2) gh (em lb) ib (gX (dW p3)) (ad ke 10))))) (et 54 0 7 (d6 12) (ah 56 (gx 57 (bM 9) 0 (iJ 0 59 16 (bh 59 0 1 (ap 60 (hx 16 1 p3 p2) 12 (aG 61 10 ae (dz 12) (de (hZ qf 31)) (ad dQ 10))) 66 jT 58))))) (fR 67 hA (eK 67 4 bt 0 (bj 1)) (aa 68 1 (aO 95) (M [bC,bt] [(0,1,.t 69)]) dT (R 13) (aa 72 13 lV (aP 5 7) (bM 9) (am (P7 96 p4 p3 p2 p1)) (dw 77 13 0 (k v dF dF aq (O 13 v dF aq (k v ge ge aq (f 4 p9 (ev 5 6 0))))) nI))))))))
def Tryz.x45:=fB 72 [.tmp 6]<|fQ 6 (br 9 p8 b5 dj b5 (df 7 p3 8) (fR 13 he (hm 15 p2 0 14 14 (dZ 16 1 2 lT j3 i8) (fo 21 p8 1 20 20 (dZ 22 1 2 (F aX p2) j3 i8) (it 27 13 2 26 26 (dZ 28 1 2 iE j3 i8) 33 13 3 32 32 (dZ 34 7 8 iE j3 i8) 39 13 4 38 38 (dZ 40 1 2 mm j3 i8) 45 13 5 44 44 (dZ 46 7 8 mm j3 i8) (iq 51 13 6 50 50 (dZ 52 1 2 ir j3 i8) 57 13 7 56 56 (dZ 58 7 8 ir j3 i8) (gi 63 q 13 8 62 62 (dZ 64 1 2 mg j3 i8)))))) (dZ 68 7 8 mg j3 i8)))
def Tryz.x46:=fB 116 [.tmp 6,.tmp 7]<|h1 6 hQ 0 (Y (br 8 p8 (a1 109) ae js (k (dJ 112) dv ae lJ (bT (dk (ga q 0)) dv)) (f1 17 6 hQ 21)) (az 18 he (hm 20 p2 106 19 19 (hk 21 1 2 f3 6 7 0) (fo 25 p7 107 24 24 (hk 26 1 2 gp 6 7 0) (it 30 18 108 29 29 (hk 31 1 2 hT 6 7 0) 35 18 109 34 34 (nu (eG 36 1 (ga q 2147483648) 2 (bT (dk (ga q 4294967295)) dv) (f1 41 6 hQ 22)) (ft 42 1 hN gU hN (a (fe p3) gq iY))) 49 18 110 48 48 mJ 54 18 111 53 53 (ft 55 1 hN fd gU (k hN fd (hW p4) gq iY)) (it 64 18 112 63 63 mK 69 18 113 68 68 lO 74 18 114 73 73 mL 79 18 115 78 78 lP (iq 84 18 116 83 83 (dZ 85 1 2 kf (dx p3) iY) 90 18 117 89 89 (ft 91 1 hN gU kf (a jI gq iY)) (aM 98 q 18 118 97 97 (dZ 99 1 2 kf jI iY) (gi 104 q 18 119 103 103 (dZ 105 1 2 kf fd (gd (ax 109 p4) 6 7 0)))))))))) (dZ 110 1 2 kf fd (a ic (ax 109 p5) iY)))
def Tryz.x47:=fB 116 [.tmp 6,.tmp 7]<|h1 6 ef 0 (Y (br 8 p8 (a1 127) ae js (k (dJ 130) dv ae lJ (bT (dk i6) dv)) (f1 17 6 ef 21)) (az 18 he (hm 20 p2 124 19 19 (hk 21 1 2 f3 6 7 0) (fo 25 p7 125 24 24 (hk 26 1 2 gp 6 7 0) (it 30 18 126 29 29 (hk 31 1 2 hT 6 7 0) 35 18 127 34 34 (nu (eG 36 1 (bV q 9223372036854775808) 2 (bT (dk jD) dv) (f1 41 6 ef 22)) (ft 42 1 fd gU fd (a (fe p3) b5 iY))) 49 18 128 48 48 mJ 54 18 129 53 53 (b4 55 2 jD E' (f1 56 6 ef 0) (ft 57 1 fd gU fd (a (hW p3) b5 iY))) (it 64 18 130 63 63 mK 69 18 131 68 68 lO 74 18 132 73 73 mL 79 18 133 78 78 lP (iq 84 18 134 83 83 (dZ 85 1 2 (d2 63) (dx p3) iY) 90 18 135 89 89 (ft 91 1 fd gU (d2 63) (a jI b5 iY)) (aM 98 q 18 136 97 97 (dZ 99 1 2 (d2 63) jI iY) (gi 104 q 18 137 103 103 (dZ 105 1 2 (d2 63) fd (gd (ax 110 p4) 6 7 0)))))))))) (dZ 110 1 2 (d2 63) fd (a ic (ax 110 p5) iY)))
def Tryz.x48:=fB 4 [.tmp 2]<|jY
def Tryz.x49:=fB 6 [.tmp 2]<|eT 2 (ak 3 p3 (aO 111) (ad (bR (P 32)) 2) nI)
def Tryz.x50:=fB 14 [.tmp 2]<|eT 2 (fP 3 p3 q hQ E' (fu 4 2 32) (fn 5 p5 dd ic (F sD p3) (k (ga tJ 125613361) (dH 27) (Ax 32 1 oX' p1) aq (ad fd 2))))
def Tryz.x51:=fB 21 [.tmp 2]<|eT 2 (fn 3 p3 (dH 24) (ha I p1) dd (k (dH 16) mH (ha I p1) (bp p5) (O 0 (dH 8) mH (ha I p1) (dN (bp p5) 0 mH (ha I p1) (b0 md fd 2)))))
def Tryz.x52:=fB 6 [.tmp 2]<|eT 2 (ak 3 p3 (aO 112) (ad jf 2) nI)
def Tryz.x53:=fB 14 [.tmp 2]<|eT 2 (bO 3 p3 i6 E' (fu 4 2 64) (fn 5 p5 dd ic (F sD p3) (k (bV tJ 285870213051353865) (dH 58) (Ax 64 1 oX' p1) aq (ad fd 2))))
def Tryz.x54:=fB 35 [.tmp 2]<|eT 2 (br 3 p3 (dH 1) (d2 6148914691236517205) dd (b0 (d2 6148914691236517205) jU 0) (br 9 p9 (dH 2) (d2 3689348814741910323) he (b0 (d2 3689348814741910323) jU 0) (aa 15 0 (dH 4) he f3 (ad (d2 1085102592571150095) 0) (fG 20 0 (dH 8) jU (R 0) (fG 24 0 (dH 16) jU (R 0) (fG 28 0 lB jU (R 0) (bK 32 0 fd (ad (aj sD 127) 2))))))))
def Tryz.x55:=fB 37 [.tmp 4]<|fQ 4 (fR 5 eE (ey (d9 (fK 7 p2 172 6 6 (aU 8 (u q p3 196) 6)) 6 (ak 9 p8 hN (ad b5 4) nI) (fo 13 p8 192 12 12 (ft 14 1 (hb .i8) gq b5 ka) (iq 19 5 193 18 18 (ft 20 1 (hb .i16) gq b5 ka) 25 5 194 24 24 (bK 26 1 (hb .i8) (ad b5 4)) (gi 30 q 5 195 29 29 (bK 31 1 (hb .i16) (ad b5 4))))))) (bK 34 1 gq (ad b5 4)))
def Tryz.x56:=fB 34 [.tmp 2]<|gx 1 dT 0 (Y (L 9 (B 11 p8) (aO 113) (hC 8 p3 0 p4 1 3 4) (h2 13 p9 (ep 0) (ah 14 (ew 15 4 2)))) (L 16 j5 (aO 114) (am eF) (fu 18 2 12)) (gv 19 9 1 bg d4 E' (hw 0 23 23 0 1 24 5 (L 26 j5 kO (fS (dc 115) 25 (dA p4 0 p5 1 6 p2 7)) (ai 31 7 eF E' (fu 32 2 12))) 33 22 22) kK))
def Tryz.x57:=fB 154 [.cell 2 11 true]<|L 1 dT (ao iT) E' (t 13 j5 (fr 3 iT 11 3) (dG 14 0 1 (aO 69) ht g3 (gv 18 0 3 bg d4 E' (gS 0 22 22 0 1 (ak 23 p2 mp (S' kT (bd 5 jL (f 4 p3 (iK 2 5 E')))) (R' 26 (fC ht aq 4 (go 5) (S' aq (aC 32 j0 33 (dY 32) (ec 70 [jm] (hn (fv 33 32 (fW 34 70 [ks] (hn (aC 35 (M jL [(0,1,jy),(1,1,jc)]) 36 mq (dB 2 36 35)))))))))))) 37 21 21) (dG 38 1 1 (aO 116) hG g3 (dG 42 2 1 (aO 70) kG g3 (dG 46 3 1 (aO 117) (p 3 3) g3 (dG 50 4 1 (aO 117) (p 4 3) g3 (dG 54 5 1 (aO 118) (p 5 3) g3 (gv 58 5 3 bg d4 E' (hw 2 62 62 2 3 63 6 (R' 64 (aF (p 5 3) aq jZ (p 5 3) aq jZ (fT 3) i4 (a aq (N 119 [.t 72]) (Q' p9 (dY 64) (a (xl 3 p9 p8) i4 (gE 75 73)))))) 76 61 61) (dG 77 6 1 (aO 120) (p 6 3) g3 (dG 81 8 1 (aO 121) (p 8 3) g3 (gv 85 8 3 bg d4 E' (gS 4 89 89 4 5 (ak 90 p2 mp (S' kT (bd 8 jL (f 7 p3 (iK 2 8 E')))) (R' 93 (fC (p 8 3) aq 7 (go 8) (S' aq (aC 99 (e9 8) 100 (dY 99) (ec 119 [.t 97] (hn (fv 100 99 (fW 101 70 [.t 100] (hn (aC 102 (M jL [(0,1,.t 98),(1,1,.t 101)]) 103 mq (dB 2 103 102)))))))))))) 104 88 88) (dG 105 9 1 (aO 122) (p 9 3) g3 (gv 109 9 3 bg d4 E' (gS 6 113 113 6 7 (ak 114 p2 mp (S' kT (bd 10 jL (f 9 p3 (iK 2 10 E')))) (R' 117 (fC (p 9 3) aq 9 (go 10) (S' aq (aC 123 (e9 10) 124 (dY 123) (ec 70 [.t 121] (hn (fv 124 123 (fW 125 119 [.t 124] (hn (aC 126 (M jL [(0,1,.t 122),(1,1,.t 125)]) 127 mq (dB 2 127 126)))))))))))) 128 112 112) (dG 129 10 1 (aO 123) (p 10 3) g3 (gv 133 10 3 bg d4 E' (gS 8 137 137 8 9 (ak 138 p2 mp (S' kT (bd 12 jL (f 11 p3 (iK 2 12 E')))) (R' 141 (fC (p 10 3) aq 11 (go 12) (S' aq (aC 147 (e9 12) 148 (dY 147) (ec 119 [.t 145] (hn (fv 148 147 (fW 149 124 [.t 148] (hn (aC 150 (M jL [(0,1,.t 146),(1,1,.t 149)]) 151 mq (dB 2 151 150)))))))))))) 152 136 136) (d5 153 (aP 11 3) 11 2 p1 E')))))))))))))))))
def Tryz.x58:=fB 66 []<|az 5 d3 (br 7 p7 dy v i4 (fH aq 0 v dF aq bg jK (en 1 8 11 17) (a (di 7) i4 (gE 20 18))) (eT 6 (hY 21 1 q 127 22 (hh 6 1) (fG 23 0 v dF (k aq (p 3 5) aq iR (ea (en 1 8 27 30) p9 (h4 0 33 31))) (fG 34 0 v ge (gT 6 jK lk (f7 p8 ge iC)) (eY 44 1 q 123 45 (fG 46 0 v dF (k aq (p 4 5) aq iR (ea (en 1 8 50 53) p9 (h4 0 56 54))) (bw 57 0 0 v ge (k aq (dU kC 0) j8 gt (fZ 1))))))))))
def Tryz.x59:=fB 48 [.tmp 4]<|el 4 (bO 9 p8 hz E' (gy 10 11 jQ) (aa 13 0 bg b5 hM (a b5 (dV 125) (hC 12 p7 0 p8 1 5 6)) (nu (ez 21 5 (bV qf 0) (dz 6) (hi (bV qf 9223372036854775807) dQ) (gy 26 27 jQ)) (ai 28 6 fd (ad (Ex (tK 1 8 kC j9 j9)) 7) (ai 31 7 he (ad jw 8) (nu (au 0 (nu (aQ 34 8 7 bg hD E' (iu 37)) (xV 1 (fx 38 8 7 8 i1 (O 7 i9 (iB 1 p2) (W (sE 1 (wO gc) (wO lv))) (ad (bp p8) 8)))))) (ew 47 7 4)))))))
def Tryz.x60:=fB 27 [.tmp 4,.tmp 5]<|h1 4 bC 0 (nu (ey (bO 7 p7 hz i8 (ej 6 (gz 9 p8 (bi (-1)) 6 (ej 6 (aG 11 1 h0 ae (dK 1) (eJ (bW p2 0) (fJ iE) f5 6))))) (o 6 (db 4 (l bC) 1 E') (b8 19 0 qf 16 (R 18) 18 (db 4 (l bC) 3 E'))))) (ft 21 0 lS (Ex (tK 1 1 [aK] lr lr)) hM (a (M [bt,aA] [(0,1,ls),(1,1,lu)]) dT jg)))
def Tryz.x61:=fB 27 [.tmp 6]<|gW 6 (eC 7 p6 dd bg b5 (fH md 0 v dF aq bg b5 (gQ p7) E') (gg 18 6) (dX 19 0 (O 1 i1 gU jw E') (bB 6 bQ)))
def Tryz.x62:=fB 23 [.tmp 6]<|eT 6 (Y (h2 7 p7 hO (fu 8 6 2)) (br 9 p9 dj dj bg (bT (dg 126 p4 p3) eF) (fu 14 6 23)) (dX 15 0 (O 1 i1 gU jw E') (ee 6 0)))
def Tryz.x67:=fB 8 [.tmp 2]<|el 2 (h5 3 p3 eW bt E' 4 2 bt (L 5 (bb 0 1 [ef] []) dd (fp 1 8 p2 2) nI))
def Tryz.x68:=fB 11 [.cell 2 11 true]<|h3 2 iT (fP 3 p3 dm bC E' (ah 4 (t 5 (M iT []) (dq 11 p4 p1) nI)) (fn 6 p6 v k4 (eS 11) (S' (aO 57) (dq 11 p9 p1))))
def Tryz.x69:=fB 8 [.tmp 2]<|iP
def Tryz.x70:=fB 8 [.tmp 2]<|el 2 (h5 3 p3 eW bt E' 4 2 bt (L 5 (bb 0 1 kC []) dd (fp 1 8 p2 2) nI))
def Tryz.x71:=fB 8 [.tmp 2]<|el 2 (h5 3 p3 eW bt E' 4 2 bt (L 5 (bb 0 7 iW []) dd (fp 7 88 p2 2) nI))
def Tryz.x72:=fB 8 [.tmp 2]<|el 2 (h5 3 p3 eW bt E' 4 2 bt (L 5 (bb 0 3 i0 []) dd (fp 3 24 p2 2) nI))
def Tryz.x73:=fB 101 [.tmp 6]<|el 6 (br 9 p9 v dF aq (k v dF ge aq (b0 hM kU 7)) (Y (dw 19 7 0 (am h0) (ah 23 (dZ 24 0 7 gU (eM 132) i8))) (dX 28 3 (d6 64) (gk 32 33 (hK 26) E' kc)) (e 39 (g6 35 he 36 7 (D' 37 gU (O 7 v k4 aq (fW 38 67 [ku] (gr p1 p2 (eJ (W (tL 1 8 [ef] kv kw)) (M [bC,bC,aA,bt,bt] [(0,1,jo),(1,1,kt),(4,1,l2)]) dT 8)))))) (dX 46 3 (f8 ja p5 3) (nu (au 0 (nu (dX 53 4 (aF hr ae (dK 8) (dk v) (fJ i4) kg (iF h0) lA E') (iu 64)) (xV 1 (nu (dw 65 8 2 (O 7 v k5 aq (bT bg (dW p6))) (gk 74 75 (hK 40) E' (Q9 0))) (bw 77 8 7 v k5 (fH aq 8 v i4 aq (ds 3 p5) (eS 3) (N 134 [.t 77,.t 87]) E')))))) (dX 89 3 (f8 fg p5 3) (dw 96 8 3 (ad (aO 67) 6) nI)))))))
def Tryz.x74:=fB 9 [.tmp 2]<|aJ 2 hQ (h5 3 p3 dm bC E' 4 2 hQ (fn 5 p5 v i4 aq (R 2)))
def Tryz.x76:=fB 94 [.tmp 6]<|el 6 (aN 10 0 v 0 ge (gT 1 kU (eS 7) (fr 7 iW 7 7)) (Y (et 18 0 7 (am h0) (ah 20 (ft 21 0 (aP 7 7) gU (eM 137) i8))) (dX 25 6 (am (a1 64)) (gk 29 30 v (iI 7 26) kc)) (L 33 jh dT (R 8) (aQ 35 8 8 v ge (gT 2 j8 gt (fZ 1)) (aQ 44 8 8 v ge (k aq (p 4 7) aq (W (tL 1 8 [ef] (.t 48) (.t 50))) (f7 p8 ge (gE 53 51))) (dX 54 6 (f8 ja p5 6) (eT 9 (nu (au 0 (nu (dX 61 7 (k hr ae (dK 9) (dk h0) (am dv)) (iu 69)) (xV 1 (nu (eA 70 9 5 7 bg (am (dW p4)) (gk 74 75 v ll (Q9 0))) (fx 78 0 8 1 kn (ad (P7 138 p4 p3 p2 p1) 9)))))) (dX 83 6 (f8 fg p5 6) (dw 90 8 0 i8 nI))))))))))
def Tryz.x77:=fB 42 [.tmp 4,.tmp 5,.tmp 6]<|bx 4 d4 0 mr (Y (br 9 p9 hO ae ig (hi hz dQ) (dD 14 4 d4 0 mr)) (eT 7 (fa 0 (br 15 p8 he v kk (a aq bg (am (b7 p6))) (iu 21)) 1 (aN 24 0 v 0 k5 (gT 7 (fT 3) dF (b0 aq (aO 139) 8)) (b4 34 1 i9 (am iE) (ah 36 (e 4 (D' 37 jj (f 38 p3 (a (d 37) (d 38) k1))) nI)) (bJ 39 1 i9 (ad gp 1)))) (fL 22 7 1 7))) (db 4 d4 0 mr))
def Tryz.x78:=fB 42 [.tmp 6]<|t 3 d3 (z 6 (GJ ef)) (eC 9 p8 (aO 140) hr ae i3 (bS 21 6 ef) (fQ 7 (nu (aV 22 1 uv 8 (ad fg 8) (fa 0 (aV 25 8 qD 0 E' (iu 26)) 1 (aG 29 7 (bV tJ 256) gU hM (aF (f9 8) (bY p3) i9 f3 (hf 1 3 p1) aq b5 (bp (q' 30)) kZ)) (dO 27 8 fg 8))) (ew 41 7 6))))
def Tryz.x79:=fB 11 [.tmp 2]<|i5
def Tryz.x80:=fB 11 [.tmp 2]<|i5
def Tryz.x83:=fB 18 [.tmp 2]<|gW 2 (bO 5 p5 bg e3 (gS 0 8 8 0 1 (hc 9 4 (br 11 p7 (ep 127) ae (dK 4) (bT (ij 126) dv) (gg 16 2))) 17 7 7) l9)
def Tryz.x84:=fB 101 [.tmp 4]<|t 2 du kH (Y (br 8 p7 v dF aq (aF (bi (-1)) ae ig mi (em ge) ib (gX hz) ke (Z p1 ig mi (em ge) (gP ib (gX (go 2)) lo lp (s p8 (dW p4)) (bv p9) ae ig mi (em k4) ib (gX hz) ke ae ig mi (k (em k4) ib (gX (dh 4096)) ke (Z p1 ig mi (em dF) (aF ib (gX (b6 (-1))) (bm p6 1) (s p7 v) (s p8 k5) (s p9 aq) (iD 44 bg) (iD 44 jF) (hE (iD 44 (F (EU true) p7)) (q' 44)))))))) (gg 57 4)) (gI 58 (go 2) hM v ge aq (ds 2 p5) kT (bd 5 jL (dB 2 5 65)) (dw 66 1 2 (k (go 5) aq bg (F aX p4) (Z p1 ig mi (em je) (k ib (gX j0) lo lp (hE (s p8 (F aX p4)) p9)))) (gg 83 4))) (nu (dw 84 1 5 (bT bg d4) (gS 0 90 90 0 1 (ak 91 p2 (gl 3 p3) (S' (eS 3) (bd 7 i0 (f 6 p3 (iK 3 7 E')))) (bE 94 (aP 2 2) hM jZ (aP 3 7) (bT (P7 141 p4 p3 p2 p1) eF) (gg 99 4))) 100 89 89)) (bB 4 bQ)))
def Tryz.x87:=fB 16 [.tmp 6,.tmp 7,.tmp 8]<|fX 6 jl bt e3 (fn 9 p9 dj dj (P7 143 (GJ bC) p3 p2 p1) (ay p1 0 p2 1 (fk p3 2 6 p3 (ia 7 8))))
def Tryz.x88:=fB 72 [.cell 2 5 true,.tmp 3]<|gO 2 (ao iV) ab (ap 12 (kC0 144) 4 (Y (eY 13 0 qD 64768 14 (aU 15 (kC0 145) 4)) (ai 16 4 bg e3 (gS 0 19 19 0 1 (h7 20 5 p2 5 6 iM 5 6 (nu (eA 22 0 0 6 hD (Z p1 gu (de (e9 6)) (em aq) (hE (fl (gQ p3)) p5)) (ah 31 (Q9 1))) (gI 32 (p 2 6) (p 3 6) aq (p 4 6) aq (es (BD true) aI) (M iV [(0,1,ks),(1,1,jo),(2,1,kv)]) (fr 7 iV 5 7) (gW 8 (gv 40 4 6 (ZD p1) bg e3 (gS 2 45 45 2 3 (hc 46 10 (aY 11 127 (fR 48 hA (xV 4 (aB 50 (i q p2 (m 58)) 49 49 (aJ 8 bQ (Q9 3)) (aB 52 (i q p4 (m 108)) 51 51 (hh 11 126) (fm 54 (i q p6 (m 118)) 53 53 (hh 11 123))))) (az 55 i9 (o 55 (R' 56 (iA (p 4 7) aq 11 kC (a lk (p 4 7) g3))) (R' 62 (iA (p 3 7) aq 11 kC (a lk (p 3 7) g3)))))))) 68 44 44) (d5 69 (aP 5 7) 5 2 p1 (z 3 gJ))))))) 70 18 18)) (d5 71 (M iV []) 5 2 p1 (z 3 (x false)))))
def Tryz.x89:=fB 25 [.tmp 2]<|gW 2 (ak 6 p6 (aO 88) (ip 5 p3 0 p4 1 (bd 3 iV (y 5 p7 p2 ka))) (fn 10 p6 ae js (dk (a1 64768)) (aF dv ae mo e6 (fJ (ep 7)) f5 ae mo (eJ e6 (fJ (ep 8)) f5 2))))
def Tryz.x90:=fB 56 [.tmp 4,.tmp 5]<|h1 4 bt 0 (el 6 (Y (eH 11 bg e3 (gS 0 14 14 0 1 (hc 15 8 (aY 9 1 (Y (az 17 dj (xV 2 (d9 (fK 19 p2 127 18 18 (aU 20 (u q p3 126) 18)) 18 xt (fo 22 p5 123 21 21 (hh 9 2) (db 4 jl 1 E'))))) (aa 23 1 bg kn iE E' (f1 26 4 bt 1)) (aa 27 1 ih aq (M l6 [(0,1,j9)]) (fr 10 l6 2 10) (Y (eY 31 8 q 127 32 (R' 33 (k (go 10) aq eI (go 10) g3))) (eY 37 9 q 2 38 (aG 39 1 (f2 1) aq (e9 10) g3)) (aa 43 6 (aP 2 10) (aO 94) (bb 1 16 iL [(0,kx)]) (fp 16 16 p4 6) (bJ 48 1 kn (ad i1 1)))))))) 51 13 13)) (ai 52 1 bg (am jF) (f1 54 4 bt 1)) (hq 4 55 6 (d 55) d4)))
def Tryz.x91:=fB 27 [.tmp 4,.tmp 5]<|bE 2 du du lQ d4 E' (nu (bE 9 (b9 p7) aq (B 16 p8) (dc 146) (hC 8 p5 0 p6 1 6 7) (h2 15 p8 hr (ah 16 (bK 17 6 b5 jg)))) (gI 19 (go 2) (e9 2) aq kQ (ei 147 p4) (iH p1) ml (ia 4 5) nI))
def Tryz.x92:=fB 178 [.cell 6 16 true,.tmp 7]<|L 3 d3 d3 (bd 6 iL (bP 7 0)) (dG 17 3 3 (p 4 3) aq (a (M l6 [(0,1,.t 18),(1,1,kX)]) (aO 94) mG) (Y (ey (iv 24 0 4 11 23 (o 23 (gK 27 8 16 6 p1 7 0) (iv 29 0 4 12 28 (o 28 (bE 32 (bM 8) gU kV f6 (O 2 (hJ 1) f6 (N 148 [j1,jo,kv]) (ay p1 0 p2 1 (bu 16 6 40 kZ))) nI) (iv 43 0 4 13 42 (o 42 (dG 46 0 3 hG aq (O 2 kV f6 gU (a (hJ 1) f6 (ec 150 [l4,J 64,fs] (fv 47 46 (gr p8 p9 (Q' p5 (B 16 p6) (ar (N 149 [.t 47,lx,jn,l5]) p1 0 (S' ml (bu 16 6 58 kZ))))))))) nI) (iv 61 0 3 64782 60 (o 60 (ft 64 2 kV f6 gU (a (hJ 1) f6 (ec 151 [.t 66,.t 69] (bu 16 6 70 (bP 7 0))))) (dG 72 3 4 ih aq (ad (ep 123) 71) (ah 71 (dG 77 0 3 gU kV (a f6 (N 150 [.t 81,J 64,fs]) (hn (ar (N 152 [.t 78,.t 82]) p1 0 (S' ml (bu 16 6 84 kZ))))) nI)))))))))))) (dG 87 0 3 gU (dc 153) (ip 86 p5 0 p6 1 (bn 9 iL 16 9 p2 (R 10))) (eY 93 10 q 0 94 (gK 95 9 16 6 p1 7 0))) (Y (ai 96 2 bg (d6 1) (ah 98 (gv 100 0 3 gU kV (a f6 (N 154 [.t 101,.t 104]) (ip 99 p7 0 p8 1 (bd 11 iL (bu 16 11 106 (R 12))))) (eY 108 12 q 0 109 (gK 110 11 16 6 p1 7 0)) (gI 111 ht gU kV f6 (N 155 [.t 112,.t 115]) (iH p1) ml (bu 16 6 117 kZ) nI)))) (dG 119 3 4 (f2 1) aq (d6 127) (ah 123 (gI 124 ht gU kV f6 gU (hJ 1) f6 (ec 150 [.t 131,J 32,fs] (gr p8 p9 (Q' p5 (B 16 p6) (k gq (N 156 [.t 125,.t 128,.t 133]) (iH p1) ml (bu 16 6 135 kZ))))) nI))) (Y (gI 138 ht gU kV f6 gU (hJ 1) f6 (fS (N 157 [.t 139,.t 142,.t 145]) 137 (ay (q' 137) 0 (q' 137) 1 (bd 13 iL (bu 16 13 147 (R 14))))) (eY 149 14 q 0 150 (gK 151 13 16 6 p1 7 0))) (gI 153 ht gU kV f6 gU (hJ 1) f6 (fS (N 158 [.t 154,.t 157,.t 160]) 152 (ay (q' 152) 0 (q' 152) 1 (bd 15 iL (bu 16 15 162 (R 16))))) (eY 164 16 q 0 165 (gK 166 15 16 6 p1 7 0))) (gI 167 ht gU kV f6 gU (hJ 1) f6 (ar (N 159 [.t 168,.t 171,.t 174]) p1 0 (S' ml (bu 16 6 176 kZ))) nI)))))
def Tryz.x93:=fB 8 [.cell 2 2 true]<|L 1 dT (ao l6) E' (e 5 (D' 3 (uI 16 1 p4 P6 (T8 (P 8))) (S' (uI 16 1 p4 (T8 (P 8)) P6) (fW 4 160 [.t 3] (Q' p1 (uI 16 1 p5 (T8 (P 8)) P6) (a (N 160 [.t 5]) (M l6 [(0,1,.t 4),(1,1,.t 6)]) (dB 2 2 7)))))) nI)
def Tryz.x94:=fB 27 [.cell 2 16 true]<|L 1 dT jS E' (h3 3 iL (gM 5 (iJ 0 6 8 (bh 6 0 1 (gH 7 4 (br 8 p4 (b9 p8) aq eV (k mj jI hp (hf 1 3 p7) g3) (aG 16 4 (bp (P 8)) (e9 1) aq (O 4 mj jI hp (S' (hf 1 3 p7) g3))))) 25 (ba 5 1) 5)) (d5 26 kQ 16 2 p1 E')))
def Tryz.x95:=fB 7 [.tmp 2]<|aJ 2 bC (fn 3 p3 (M [aA,aA] [(0,1,.t 3)]) (M [bt,aA,aA] [(1,2,.t 4)]) dT (R 2))
def Tryz.x96:=fB 89 []<|L 5 gj gj (am gj) (nu (er 12 (b9 p6) (d6 11) (ah 14 (fy 15 0 (k v dF (p 3 5) aq (am (N 161 [kX,lr,oC bt]))) 24 0 (k v dF (p 4 5) aq (am (N 161 [j9,jy,oC bt]))) nI))) (eT 8 (gv 33 3 6 bg d4 E' (gS 0 37 37 0 1 (hc 38 10 (dp 40 8 s0 1 8 (eY 42 10 q 123 43 (fL 44 8 1 8)))) 46 36 36) (fG 47 0 v dF (gT 8 (dc 104) gt (fZ 1)) (et 56 0 5 (ad kI 11) (xV 2 (dp 63 11 q 13 62 (o 62 (hy 65 0 (bM 7) 162) (dp 69 11 q 14 68 (o 68 (bJ 71 0 (aO 163) E') (dp 74 11 rK 18 73 (o 73 (bw 76 0 11 (a7 15) ms (g2 164)) (dp 82 11 rK 30 81 (o 81 (bw 84 0 11 j0 aq (am (dg 165 p4 p3))) (hy 59 0 jb 166)))))))))))))))
def Tryz.aoO:=fB 17 [.tmp 4]<|el 4 (br 6 p6 v ge dy (ad (dc 178) 5) (aN 11 0 v 0 dj (fI 179) (ew 16 5 4)))
def Tryz.aoP:=fB 17 [.tmp 4]<|aJ 4 hQ (ak 6 p5 b5 (ad (d2 31) 5) (fn 9 p9 eE (dx p2) he (Z p8 (bR (eZ 32)) jI jJ ka)))
def Tryz.aoQ:=fB 17 [.tmp 4]<|fQ 4 (ak 6 p5 b5 (ad (d2 63) 5) (fn 9 p9 eE (dx p2) he (Z p8 (bR (eZ 64)) jI jJ ka)))
def Tryz.aoR:=fB 19 [.tmp 2]<|eT 2 (Y (h2 3 p3 (ga qD 65536) (ah 4 (gz 5 p5 (dH 16) 0 (hh 2 16)))) (h2 7 p7 (ga qD 256) (ah 8 (gz 9 p9 (dH 8) 0 (a5 11 dj (bX 8) (R 2))))) (dZ 13 2 0 hp (ha av p1) (b0 fd (bp p5) 2)))
def Tryz.aoS:=fB 25 [.tmp 2]<|eT 2 (Y (h2 3 p3 (gB qD) (ah 4 (gz 5 p5 lB 0 (hh 2 32)))) (h2 7 p7 (bV qD 65536) (ah 8 (gz 9 p9 (dH 16) 0 (a5 11 dj (bX 16) (R 2))))) (b4 13 0 (bV qD 256) E' (gk 14 15 (dH 8) (R 0) (fL 17 2 8 2)) (dZ 19 2 0 hp (ha av p1) (b0 fd (bp p5) 2))))
def Tryz.aoT:=fB 93 [.tmp 2,.tmp 3]<|fX 1 dT bt e3 (bE 6 (bb 8 1 [aK] [(0,oC aK),(1,oC (m 97)),(2,oC (m 115)),(3,oC (m 109)),(4,oC (m 1)),(5,oC aK),(6,oC aK),(7,oC aK)]) (aeW p1) (M [bt,ab] [(0,1,.t 7)]) dT ka (br 10 p6 (p 2 1) aq bg (k (p 9 1) aq bg (F q p4) (bf 185 p8)) (eA 19 4 0 1 (iw 186 p3 (fw 1) 256 p1 (gY 187 [])) E' (eA 23 4 1 1 (iw 191 p3 (fw 2) 512 p1 (gY 192 [])) E' (eA 27 4 2 1 (iw 194 p3 (fw 3) 512 p1 (gY 195 [])) E' (eA 31 4 3 1 (iw 196 p3 (fw 4) 512 p1 (gY 197 [])) E' (eA 35 4 4 1 (iw 196 p3 (fw 5) 512 p1 (gY 199 [])) E' (eA 39 4 5 1 (iw 200 p3 (fw 6) 512 p1 (gY 201 [])) E' (eA 43 4 6 1 (iw 202 p3 (fw 7) 512 p1 (gY 203 [])) E' (eA 47 4 7 1 (a1 (-1)) (g2 185) (nu (et 52 7 1 (am h0) (ah 54 (L 55 (M [bt,ab] []) dT mD (eA 57 5 7 1 jK hu (bJ 62 4 kO (am (dg 204 p2 (fw 8)))))))) (eA 65 4 8 1 (iw 205 p3 (fw 9) 512 p1 (gY 206 [])) E' (eA 69 4 9 1 (iw 208 p3 (fw 10) 512 p1 (gY 209 [])) E' (eA 73 4 10 1 (iw 210 p3 (fw 11) 512 p1 (gY 211 [])) E' (nu (ey (dw 78 4 1 (R 77) (o 77 (db 2 jl 1 E') (dw 83 4 0 (b0 bg (dh 16384) 82) (f1 82 2 bt 4))))) (dw 89 4 0 (ev 2 3 0) nI))))))))))))))))
def Tryz.aoU:=fB 97 [.tmp 2]<|gO 1 dT ab (dG 11 1 1 bg (p 2 1) (eJ aq bg md 3) (Y (ai 18 3 d4 E' (hw 0 20 20 0 1 21 4 (L 23 j5 ko (fS (dc 212) 22 (ay p4 0 p5 1 (bn 5 jL 2 5 p2 i8))) (ai 28 6 eF E' (gg 29 2))) 30 19 19)) (dG 31 3 1 bg (dh 1) (Z p1 (gD (p 4 1)) gh (em bg) (hE (fl (dh 1)) p5)) (gg 40 2)) (Y (gI 41 (p 3 1) (p 4 1) aq (bb 2 1 [bt] [(0,kw),(1,lv)]) (aO 213) bg d4 E' (gS 2 49 49 2 3 (h7 50 2 p2 2 8 [aA,aA] 2 8 (gI 52 (e9 8) (ep (-1)) ae (gN 8) e6 (fJ (go 8)) kg (bT (iF hD) lA) (gg 61 2))) 62 48 48)) (dG 63 4 1 bg (b6 1) (Z p1 (gR (p 4 1)) e6 (fJ (gZ 2 0)) (hP (hB ge) (iF aq) (H p6 (dh 65536)) (bI p7))) (gg 74 2)) (gv 75 5 1 bg d4 E' (gS 4 79 79 4 5 (h7 80 3 p2 3 10 [aA,ab,bt] 3 10 (dG 82 2 10 (go 10) aq (bT (dV 214) eF) (gg 87 2))) 88 78 78) (dS 89 j5 ji (dc 215) ae (gR j5) (bW p2 3) (fJ (dc 216)) f5 (R 2) nI)))))
def Tryz.aoV:=fB 110 [.tmp 4,.tmp 5]<|fz 4 2 gj jl (l ab) (bE 17 l7 (e9 2) aq bg (a hM f3 (fS (ax 212 p6) 16 (ay p8 0 p9 1 (bn 6 jL 2 6 p2 kZ)))) (dS 26 l7 lj aq (p 9 2) aq hM (fT 2) dF (a aq (bb 2 1 [bt] [(0,jx),(1,jc)]) (ec 217 [jo] (dn 26 l7 (b0 (M [bt,bt,bt,bt,bt,bt,bt,aA,bt,bt,bt,bt,bt,bt,ab] [(0,11,kY),(11,1,kt)]) dT 8)))) (eA 39 8 1 6 (M jL [(1,1,gc)]) (am (dg 218 p4 (P 2))) (gI 44 (p 9 2) hM (fT 2) ge aq bg (Ex (tK 3 24 [ab,aA,aA] (.t 50) (.t 50))) (R 9) (eT 10 (nu (gI 52 (p 9 2) hM (fT 2) ge aq bg d4 E' (gS 0 60 60 0 1 (ak 61 p2 (gl 6 p3) (S' (eS 6) (bd 12 i7 (f 11 p3 (iK 6 12 E')))) (b4 64 8 lU (R 13) (dw 66 13 5 (Z p1 (dK 13) (dk v) (fJ k4) (a kg (iF eF) (am lA))) (ah 76 (eT 10 (nu (dw 77 8 12 (bT bg d4) (bz 2 83 p1 p2 83 2 3 (hc 84 15 (eY 86 15 q 123 87 (fL 88 10 1 10))) 90 jT 82)) (fx 91 9 11 8 v (k kF aq bg hA (a (M [ab,aA,aA] [(0,1,oC bQ),(1,1,.t 97),(2,1,.t 98)]) (xl 3 p9 p8) (eX 3)))))))) (ai 101 8 (aP 6 12) (fI 220) (dw 104 8 14 E' (ah 107 (hS 4 jl ab)))))) 108 59 59)) (hq 4 109 9 (d 109) (l bQ))))))))
def Tryz.aeZ:=fB 8 [.tmp 2]<|el 2 (h5 3 p3 eW bt E' 4 2 bt (L 5 (bb 0 3 [aI,aI,aA] []) dd (fp 3 40 p2 2) nI))
def Tryz.ae0:=fB 8 [.tmp 2]<|el 2 (h5 3 p3 eW bt E' 4 2 bt (L 5 (bb 0 2 [aA,aA] []) dd (fp 2 16 p2 2) nI))
def Tryz.ae1:=fB 8 [.tmp 2]<|el 2 (h5 3 p3 eW bt E' 4 2 bt (L 5 (bb 0 3 [aA,ab,bt] []) dd (fp 3 40 p2 2) nI))
def Tryz.aoW:=fB 24 [.tmp 2]<|el 2 (gz 5 p5 (aO 221) 3 (bO 7 p4 bg e3 (hw 0 10 10 0 1 11 4 (R' 12 (Z p9 dj ji ko (k (fT 6) k5 aq (aO 70) (a (xl 6 p8 p7) k5 iC)))) 22 9 9) (ew 23 3 2)))
def Tryz.ae2:=fB 8 [.tmp 2]<|el 2 (h5 3 p3 eW bt E' 4 2 bt (L 5 (bb 0 3 [aI,aA,aA] []) dd (fp 3 32 p2 2) nI))
def Tryz.ae3:=fB 8 [.tmp 2]<|iP
def Tryz.ae4:=fB 8 [.tmp 2]<|iP
def Tryz.ae5:=fB 8 [.tmp 2]<|iP
def Tryz.ae6:=fB 8 [.tmp 2]<|el 2 (h5 3 p3 eW bt E' 4 2 bt (L 5 (bb 0 1 [aK] []) dd (fp 1 1 p2 2) nI))
def Tryz.aoX:=fB 30 [.tmp 4,.tmp 5]<|gO 4 lQ ef (nu (W4 (oC ab) (aa 11 0 gq hM gq (fS (dV 222) 10 (dA p6 0 p7 1 6 p2 7)) (ft 18 6 b5 jj b5 (df 4 p3 5))) xt) (eH 23 hM (fS (dc 223) 22 (dA p4 0 p5 1 8 p2 9)) (dI 28 8 9 (ia 4 5))))
def Tryz.aoY:=fB 26 [.tmp 6]<|gW 6 (br 8 p8 v dF aq (b0 bg b5 7) (ft 14 2 b5 dj ir (Z p1 (dK 1) (bW p2 7) (bW p3 2) (k (hB b5) (iF (bR p3)) (H p6 (fU p5)) (bI p7) i8))))
def Tryz.aoZ:=fB 43 [.cell 8 16 true]<|t 4 gj (bd 8 iL E') (Y (br 10 p9 (aO 140) hr ae i3 (ah 22 (d5 23 jC 16 8 p1 E'))) (eT 9 (fa 0 (aQ 24 9 1 (f9 8) hD E' (iu 27)) 1 (aQ 30 2 1 (f9 8) (bY p3) (O 9 f3 ji (bV s5 256) (a hp (hf 1 4 p4) g3)) (dO 40 3 (bV uv 256) 3)) (fL 28 9 1 9))) (d5 42 jC 16 8 p1 E'))
def Tryz.ao0:=fB 28 [.tmp 6]<|gW 6 (fn 7 p6 dy v dF (k aq bg b5 (gQ p7) (Z p1 (dz 2) (de b5) ky (aF (fl v) (gX dF) lo lp (s p8 b5) (bm p9 1) (iD 15 gp) (iD 15 (gQ p9)) (ad (bv (q' 15)) 6)))))
def Tryz.ao1:=fB 95 [.tmp 6]<|el 6 (nu (dw 11 1 0 (O 0 v dF aq (k v k4 ge aq (bT bg (dW (q' 14))))) (gk 24 25 (hK 40) E' kc)) (fy 27 0 (k v k4 ge aq (O 1 v dF aq (a (ds 3 p5) (eS 3) (bd 7 [aI,aI,aA] (dB 3 7 40))))) 41 0 (aF v k4 dF aq (p 2 7) aq (ds 2 p3) kT (bd 8 jL (dB 2 8 52))) (nu (e 56 (aC 53 (go 8) 54 (h 1 p3) (O 1 v i4 aq (fW 55 229 [l3] (gr p1 p2 (k (F aX p5) ae (ho 8) gh (aC 65 (bm p3 1) 66 (em (di 65)) (aC 67 (em (p 3 66)) 68 (em (dY 67)) (S' (W (e8 (.t 61) false 229 [.t 63])) (dn 68 (fl (dY 67)) (aC 69 (fl (wo aX p1 (q' 68))) 70 (aL p4 (q' 69)) E')))))))))) (gk 70 71 (hK 40) E' kc)) (dX 74 0 (aF v je aq hM v dF aq (aP 3 7) (a (aP 2 8) gU (fS (N 230 [.t 80,.t 84,.t 85,.t 86,.t 87]) 73 (dA (q' 73) 0 (q' 73) 1 9 p2 10)))) (eH 91 hA (fI 133) (ew 94 9 6))))))
def Tryz.ao2:=fB 17 []<|br 4 p3 (ep 0) ae (gR eV) (k (dk v) (fJ k4) kg (iF hr) (am lA)) (ah 12 (bw 13 0 1 lE k4 iC))
def Tryz.aje:=fB 116 []<|iz 3 (er 4 dF E' (ey (it 17 5 0 16 16 (hX 18 v (ii 20)) 24 5 12 23 23 (iG 25 hG 231 E') 30 5 13 29 29 (hv 31 k2 E' 32 (aa 33 0 kb gq (ga aX 0) E' (o 36 (iG 37 hG 231 E') (gb 41 v i4 (f8 ja p5 2))))) 49 5 14 48 48 (eH 50 k2 E' (gy 51 60 (aC 52 he 53 (wm p8) (aC 54 (ph 2 p7) 55 lZ (D' 56 he (hs hG aq b5 (fW 57 233 [l5] (gr p8 p9 (gr p2 p3 (aC 58 (eR p6) 59 (a2 p5) (k (yR p4 p1) fd (bp (P 1)) (bp (q' 55)) (a (di 52) i4 (gE 68 66))))))))))))) (iq 70 5 15 69 69 (fG 71 0 v ge (k aq v je aq (am (fq 232 p8 p1 0))) (ah 79 (fG 80 0 v je (fH aq 0 v je aq bg he v (aF ge aq v je aq (bR p8) (eP 1 (q' 84) p1 P6) (di 80) (h4 3 100 98))) (bJ 101 0 v (iI 2 (-1)))))) 105 5 16 104 104 (iG 106 hG 234 E') (aM 111 q 5 17 110 110 (iG 112 hG 235 E') (ak 6 p6 (B 3 p4) (fI 236) (R' 9 (Z p9 v i4 aq (f8 ja p5 2)))))))))
def Tryz.ao3:=fB 85 [.tmp 6]<|t 4 d3 (z 6 lC) (nu (gI 11 (b9 p7) he v i4 aq v dF (hP ge aq bg (dW (q' 12))) (gk 22 23 v ll kc)) (fy 26 2 (aF v dF ge aq (go 4) aq (ds 3 p3) (eS 3) (bd 7 [aI,aI,aA] (dB 3 7 37))) 38 2 (aF v dF dF aq (p 2 7) aq (ds 2 p3) kT (bd 8 jL (dB 2 8 49))) (nu (e 53 (aC 50 (go 8) 51 (h 1 p3) (a (p 2 4) aq (fW 52 238 [.t 51] (gr p1 p2 (k jz ae (ho 8) gh (aC 60 (em (p 3 4)) 61 (em (dY 60)) (S' (W (e8 l5 false 238 [.t 58])) (dn 61 (fl (dY 60)) (aC 62 (fl (wo aX p1 (q' 61))) 63 (aL p4 (q' 62)) E'))))))))) (gk 63 64 v ll kc)) (dX 68 3 (k (go 4) aq (aP 3 7) (aP 2 8) (a gU (N 239 [.t 71,.t 73,.t 74,.t 75,.t 76]) (hC 67 (q' 67) 0 (q' 67) 1 9 10))) (fG 80 10 lE (j 7) iC (ew 84 9 6))))))
def Tryz.ao4:=fB 304 [.tmp 8]<|eT 8 (aN 19 0 v 0 ge (fH aq 2 kU k5 aq ji (fT 3) (eS 3) (fr 9 i0 3 9)) (aN 32 0 v 0 kT (a gU (aP 3 9) (fS (N 240 [jo,kt,ku]) 31 (dA p8 0 p9 1 10 p2 11))) (dw 41 1 0 (ad bg 12) (dX 47 2 (a (e9 9) aq (fS (N 27 [.t 50,jn]) 46 (dA p8 0 p9 1 13 p2 14))) (nu (aQ 56 10 12 mm ae (gP (dz 12) (bm p2 10) (em gp) (bm p4 11) (gX f3) (s p6 (dh 1048576)) (bv p7) ae (gD lM) gh (em (b6 35)) (fl ae) (gD lM) gh (em (b6 36)) (s p8 jE) (gP (s p9 ae) (dK 14) (dk eF) (iD 67 dv) (bv (q' 67)) ae (gD lM) gh (em (a1 40)) (fl ae) (gR lM) e6 (fJ (bL 64)) (s p8 f5) (s p9 ae) js (aF (dk v) (fJ i4) kg (iF v) (H p6 (j 11)) (H p7 aq) (H p8 hO) (iD 81 (bI p9)) (fN (q' 81))))) (gk 100 101 v ll (ew 104 3 8))) (el 15 (aQ 105 15 1 v dF (gT 12 hA gp (b0 (eP 1 p4 p1 P6) (hd 8 p9) 15)) (fQ 16 (Y (eY 115 10 qf 0 116 (bw 117 15 10 fg kA (b0 aq kL 16))) (et 123 0 9 E' (hm 126 p2 0 125 125 (eH 127 v (iI 7 20) (ew 130 3 8)) (d9 (fK 132 p8 12 131 131 (aU 133 (u q p9 13) 131)) 131 (aQ 134 1 1 v dF li (Y (dG 145 0 9 (b6 13) ae (a (dK 16) (dk i6) (am dv)) (ah 151 (dp 152 3 s0 1 8 nI))) (dG 154 1 9 ji ir (Z p1 js (dk (aO 241)) (fJ eF) (am f5)) (ah 162 (ew 163 3 8))) (et 164 1 9 (R 8) nI))) (it 167 124 14 166 166 (aQ 168 1 1 v dF k7 (nu (eA 178 16 1 9 b5 (am (gQ p4)) (ah 182 (a5 183 (e9 9) aq (ad b5 16)))) (ft 186 3 ja (d 16) fd (ad jU 8)))) 192 124 15 191 191 (aQ 193 1 15 lE dF iC (ee 8 (-1))) 198 124 16 197 197 (fG 199 1 (e9 9) aq (am (dg 242 p4 p3)) (dp 204 3 s0 1 8 nI)) 207 124 17 206 206 (aQ 208 1 1 v dF k7 (dX 219 2 (a (d 16) gq (fS (dV 243) 218 (dA p8 0 p9 1 17 p2 18))) (b4 228 18 eF E' (o 229 (bJ 230 0 v (iI 7 24)) (aQ 233 17 0 v dF (hP ge aq bg (dW p7)) (o 240 (bJ 241 0 v ll) (aN 244 0 v 0 ge (fH aq 17 kU ge aq (e9 9) aq jz E') (o 255 (bJ 256 0 v (iI 7 25)) (fx 259 0 1 17 (eM 242) E')))))) (dp 263 3 s0 1 8 nI)))) (gi 266 q 124 257 265 265 (nu (dX 267 4 mf (gk 271 272 v (iI 7 27) (ew 275 3 8))) (dX 276 4 (f8 fg p5 4) (dp 283 3 s0 1 8 nI)))))))) (aQ 285 1 1 v dF li (fG 296 1 (aP 3 9) (d 15) (bT (d 16) (kC5 244 p5 p4 p3 p2 p1)) (dp 302 3 s0 1 8 nI))))))))))))
def Tryz.ao5:=fB 11 [.tmp 2]<|eT 2 (Y (br 3 p3 (b6 127) ae (gD dd) (bT (eg 126) dQ) (fu 8 2 1)) (h2 9 p9 (b6 123) (fu 10 2 2)) kK)
def Tryz.ao6:=fB 19 [.tmp 2]<|eT 2 (eC 3 p3 (b6 8) ae (gD dd) (aF (eg 16) dQ ae gu (eg 32) dQ ae gu (bT (eg 64) dQ)) (ah 16 (bK 17 0 (hj 128) (R 2))) kK)
def Tryz.ajf:=fB 116 [.tmp 8]<|fz 7 4 (Aw p7) gj (l ab) (nu (er 9 (b9 p2) E' (ey (d9 (fK 12 p2 12 11 11 (aU 13 (u q p3 13) 11)) 11 (gI 14 (eO p7) h0 ae (gN 7) e6 (bW p3 1) (hB v) (k (iF k5) (H p6 aq) (H p7 bg) (H p8 (b7 p6)) (ad (bI p9) 8)) nI) (iq 28 10 14 27 27 (gI 29 lb h0 ae (gN 7) e6 (bW p3 1) (hB v) (aF (iF k5) (H p6 aq) (H p7 bg) (bW p8 2) (H p9 gp) (fV 32 fg) (fV 32 (b7 p9)) (bI (q' 32)) (R 8)) nI) 46 10 16 45 45 (gI 47 lb h0 ae (gN 7) e6 (fJ (e9 4)) kg kP nI) (aM 59 q 10 17 58 58 (gI 60 lb h0 ae (gN 7) e6 (fJ (go 4)) kg kP nI) (d9 (iq 72 10 32 71 71 xt 73 10 33 71 71 xt (hU 74 q 10 34 71)) 71 (gI 75 lb h0 ae (gN 7) e6 (bW p3 1) (hB v) (aF (iF i4) (H p6 aq) (bW p7 1) (H p8 v) (H p9 k4) (fV 78 aq) (fV 78 (bp p5)) (fV 78 (b7 (q' 80))) (ad (bI (q' 78)) 8)) nI) (d9 (aM 93 q 10 35 92 92 xt (hU 94 q 10 36 92)) 92 (et 95 1 7 (ad h0 8) nI) (gi 99 q 10 256 98 98 (gI 100 lb h0 ae (gN 7) e6 (fJ (bL 1048576)) f5 (Z p1 (gR (p 2 7)) e6 (fJ (bV rK 1048576)) (ad f5 8)) nI))))))))) (et 113 0 7 (ad (aO 245) 8) nI))
def Tryz.ao7:=fB 67 [.tmp 2,.tmp 3,.tmp 4]<|bx 2 d4 0 mr (nu (ey (bO 6 p6 hr mD (ej 5 (gz 8 p8 (b6 12) 5 (ej 5 (dO 10 0 (b6 257) 5)))) (o 5 (db 2 d4 0 k1) (d9 (fj 13 0 q 13 12 12 (fj 15 0 q 14 12 12 (fj 17 0 q 26 12 12 (fj 19 0 q 33 12 12 (dO 21 0 (b6 36) 12))))) 12 (db 2 (af 1) 0 k1) (dp 24 0 q 27 23 (o 23 (db 2 (af 3) 1 k1) (d9 (fj 27 0 q 32 26 26 (fj 29 0 q 35 26 26 (fj 31 0 q 63 26 26 (dO 33 0 (b6 66) 26)))) 26 (db 2 d4 1 k1) (d9 (fj 36 0 q 34 35 35 (fj 38 0 q 64 35 35 (fj 40 0 q 40 35 35 (fj 42 0 q 41 35 35 (ff 44 (a1 44) ae js (g8 53 35)))))) 35 (db 2 (af 1) 1 k1) (d9 (fj 51 0 q 54 50 50 (fj 53 0 q 55 50 50 (ff 55 (a1 58) ae js (g8 62 50)))) 50 (db 2 (af 2) 0 k1) (hv 62 (aO 11) (ad jF 61) 61 (e 2 (f 65 p2 (D' 66 (kC1 11 (q' 65)) (a (d 66) (af 1) k1))) nI))))))))))) (db 2 d4 0 mr))
def Tryz.ao8:=fB 128 [.tmp 8,.tmp 9,.tmp 10]<|fX 8 jl bt e3 (eH 15 (M [bt,bt,bC,bC,aA,aA,aA,aA] [(2,1,.t 15)]) (ad dT 11) (b4 18 0 hO E' (gy 19 20 (Z p9 (M [bt,bt,bt,bt,bt,bt,bt,aA,bt,bt,bt,bC,bt,bt] []) dT (wm p3) (fZ 2))) (aa 25 11 jh (bb 1 2 jL [(0,kY)]) hM (k (M iW [(0,1,J (-1)),(5,1,jx)]) (bb 1 7 iW [(0,j9)]) (M jL [(0,1,kr),(1,1,jm)]) gt (dt 0 2 p3)) (L 34 jh dT (R 12) (aQ 36 12 12 v dF (gT 2 j8 gt (fZ 0)) (aQ 45 12 12 v ge (gT 3 j8 gt (fZ 1)) (gM 13 (fa 0 (aQ 54 13 1 bg hD (Z p1 (dK 11) (dk v) (fJ (j 7)) (a kg (iF hr) (am lA))) (iu 64)) 1 (aQ 67 1 13 (fT 3) dF (ad aq 14) (nu (ez 72 14 (bi 26) (dz 14) (gP (de (dh 256)) dQ ae (dz 14) (de (aO 237)) (em eF) jE ae (dz 14) (de (a1 32)) (em ae) (dK 14) (dJ 34) (s p6 dv) (s p7 ae) (dK 1) (gP (bW p2 13) (fJ (fT 3)) (hB ge) (iF aq) (H p6 hz) (H p7 ae) ig (bm p2 13) (em (fT 3)) (fl ge) (gX aq) (bm p6 3) lp (s p8 (dW p3)) (fV 90 (bv p9)) (iD 83 (bI (q' 90))) (fN (q' 83)))) (ah 108 (ai 109 11 v ll (Q9 0)))) (fx 112 11 12 13 (P7 138 p3 p2 (P 0) p1) E'))) (fL 65 13 1 13)) (dw 116 12 0 (O 12 v ge aq (O 11 v (j 7) aq (f 8 p9 (df 9 p5 10)))) nI))))))))
def Tryz.ae7:=fB 44 [.tmp 0]<|el 0 (dS 1 (M iM [(0,1,fs),(1,1,fs),(2,1,f4),(3,1,fs),(4,1,kj)]) (M iM [(0,1,f4),(1,1,f4),(2,1,f4),(3,1,fs),(4,1,bH ⟨#[58]⟩)]) (M iM [(0,1,jp),(1,1,mB),(2,1,jp),(3,1,fs),(4,1,kj)]) (M iM [(0,1,J 5),(1,1,J 5),(2,1,f4),(3,1,fs),(4,1,kj)]) (M iM [(0,1,J 11),(1,1,J 11),(2,1,f4),(3,1,fs),(4,1,kj)]) (M iM [(0,1,J 12),(1,1,lF),(2,1,J 3),(3,1,fs),(4,1,kj)]) (M iM [(0,1,J 14),(1,1,J 14),(2,1,mB),(3,1,fs),(4,1,kj)]) (M iM [(0,1,J 15),(1,1,J 15),(2,1,f4),(3,1,fs),(4,1,kj)]) (gP (M iM [(0,1,k9),(1,1,k9),(2,1,J 5),(3,1,fs),(4,1,kj)]) (M iM [(0,1,J 17),(1,1,J 17),(2,1,J 6),(3,1,fs),(4,1,kj)]) (M iM [(0,1,J 26),(1,1,J 27),(2,1,f4),(3,1,fs),(4,1,kj)]) (M iM [(0,1,J 32),(1,1,J 36),(2,1,J 5),(3,1,fs),(4,1,kj)]) (M iM [(0,1,J 40),(1,1,J 40),(2,1,j2),(3,1,jp),(4,1,eL)]) (M iM [(0,1,J 41),(1,1,J 41),(2,1,j2),(3,1,J 3),(4,1,gf)]) (M iM [(0,1,J 44),(1,1,J 45),(2,1,j2),(3,1,fs),(4,1,eL)]) (M iM [(0,1,J 46),(1,1,J 47),(2,1,j2),(3,1,f4),(4,1,eL)]) (M iM [(0,1,J 48),(1,1,J 49),(2,1,j2),(3,1,fs),(4,1,gf)]) (M iM [(0,1,J 50),(1,1,J 51),(2,1,j2),(3,1,f4),(4,1,gf)]) (M iM [(0,1,J 52),(1,1,J 53),(2,1,j2),(3,1,jp),(4,1,gf)]) (M iM [(0,1,J 54),(1,1,J 54),(2,1,j2),(3,1,jp),(4,1,km)]) (M iM [(0,1,J 55),(1,1,J 55),(2,1,j2),(3,1,J 3),(4,1,g9)]) (M iM [(0,1,J 58),(1,1,J 58),(2,1,j2),(3,1,fs),(4,1,km)]) (M iM [(0,1,J 59),(1,1,J 59),(2,1,j2),(3,1,f4),(4,1,km)]) (M iM [(0,1,J 60),(1,1,J 60),(2,1,j2),(3,1,fs),(4,1,g9)]) (gP (M iM [(0,1,J 61),(1,1,J 61),(2,1,j2),(3,1,f4),(4,1,g9)]) (M iM [(0,1,J 62),(1,1,J 62),(2,1,j2),(3,1,jp),(4,1,g9)]) (M iM [(0,1,J 63),(1,1,J 63),(2,1,J 14),(3,1,fs),(4,1,bH ⟨#[58,105]⟩)]) (M iM [(0,1,J 64),(1,1,J 64),(2,1,J 14),(3,1,fs),(4,1,eL)]) (M iM [(0,1,J 65),(1,1,J 65),(2,1,J 9),(3,1,fs),(4,1,bH ⟨#[58,105]⟩)]) (M iM [(0,1,J 66),(1,1,J 66),(2,1,J 10),(3,1,fs),(4,1,bH ⟨#[58,108]⟩)]) (M iM [(0,1,J 69),(1,1,J 69),(2,1,f4),(3,1,fs),(4,1,eL)]) (M iM [(0,1,J 70),(1,1,J 79),(2,1,f4),(3,1,fs),(4,1,lc)]) (M iM [(0,1,J 80),(1,1,J 80),(2,1,f4),(3,1,fs),(4,1,bH ⟨#[108,58,105]⟩)]) (M iM [(0,1,J 81),(1,1,J 90),(2,1,f4),(3,1,fs),(4,1,bH ⟨#[108,108,58,105]⟩)]) (M iM [(0,1,J 103),(1,1,J 105),(2,1,f4),(3,1,fs),(4,1,eL)]) (M iM [(0,1,J 106),(1,1,J 120),(2,1,f4),(3,1,fs),(4,1,lc)]) (M iM [(0,1,J 121),(1,1,J 123),(2,1,f4),(3,1,fs),(4,1,bH ⟨#[108,58,108]⟩)]) (M iM [(0,1,J 124),(1,1,J 138),(2,1,f4),(3,1,fs),(4,1,bH ⟨#[108,108,58,108]⟩)]) (M iM [(0,1,J 167),(1,1,J 167),(2,1,f4),(3,1,fs),(4,1,bH ⟨#[108,58,105]⟩)]) (M iM [(0,1,J 172),(1,1,J 173),(2,1,f4),(3,1,fs),(4,1,gf)]) (eJ (M iM [(0,1,J 192),(1,1,J 193),(2,1,f4),(3,1,fs),(4,1,eL)]) (M iM [(0,1,J 194),(1,1,J 196),(2,1,f4),(3,1,fs),(4,1,bH ⟨#[108,58,108]⟩)]) (bb 42 5 iM [(0,.t 1),(1,.t 2),(2,.t 3),(3,.t 4),(4,.t 5),(5,.t 6),(6,.t 7),(7,.t 8),(8,.t 9),(9,.t 10),(10,.t 11),(11,.t 12),(12,kW),(13,kq),(14,.t 15),(15,lN),(16,l0),(17,.t 18),(18,.t 19),(19,kX),(20,l1),(21,lr),(22,ls),(23,lu),(24,h9),(25,kY),(26,kr),(27,jx),(28,j9),(29,jm),(30,jy),(31,j1),(32,ks),(33,jc),(34,jo),(35,kt),(36,ku),(37,kv),(38,.t 39),(39,.t 40),(40,gc),(41,kw)]) 0))) nI)
def Tryz.ae8:=fB 68 [.tmp 0]<|el 0 (dS 1 (M iM [(0,1,J 64768),(1,1,J 64768),(2,1,j2),(3,1,mB),(4,1,d0)]) (M iM [(0,1,J 64769),(1,1,J 64774),(2,1,j2),(3,1,J 3),(4,1,d0)]) (M iM [(0,1,J 64775),(1,1,J 64775),(2,1,j2),(3,1,fs),(4,1,d0)]) (M iM [(0,1,J 64776),(1,1,J 64776),(2,1,j2),(3,1,f4),(4,1,d0)]) (M iM [(0,1,J 64777),(1,1,J 64777),(2,1,j2),(3,1,jp),(4,1,d0)]) (M iM [(0,1,J 64778),(1,1,J 64778),(2,1,j2),(3,1,J 3),(4,1,d0)]) (M iM [(0,1,J 64779),(1,1,J 64779),(2,1,j2),(3,1,mB),(4,1,fc)]) (M iM [(0,1,J 64780),(1,1,J 64780),(2,1,J 11),(3,1,fs),(4,1,bH ⟨#[58,118]⟩)]) (gP (M iM [(0,1,J 64781),(1,1,J 64781),(2,1,J 12),(3,1,fs),(4,1,gn)]) (M iM [(0,1,J 64782),(1,1,J 64782),(2,1,f4),(3,1,fs),(4,1,gn)]) (M iM [(0,1,J 64783),(1,1,J 64785),(2,1,f4),(3,1,fs),(4,1,d0)]) (M iM [(0,1,J 64786),(1,1,J 64786),(2,1,f4),(3,1,fs),(4,1,bH ⟨#[108,58,118]⟩)]) (M iM [(0,1,J 64789),(1,1,J 64790),(2,1,lF),(3,1,k9),(4,1,ek)]) (M iM [(0,1,J 64791),(1,1,J 64791),(2,1,lF),(3,1,k9),(4,1,d7)]) (M iM [(0,1,J 64792),(1,1,J 64793),(2,1,lF),(3,1,ly),(4,1,ek)]) (M iM [(0,1,J 64794),(1,1,J 64794),(2,1,lF),(3,1,ly),(4,1,d7)]) (M iM [(0,1,J 64795),(1,1,J 64795),(2,1,lF),(3,1,mB),(4,1,ek)]) (M iM [(0,1,J 64796),(1,1,J 64796),(2,1,lF),(3,1,mB),(4,1,d7)]) (M iM [(0,1,J 64797),(1,1,J 64797),(2,1,lF),(3,1,jp),(4,1,bH ⟨#[118,58,108]⟩)]) (M iM [(0,1,J 64798),(1,1,J 64798),(2,1,lF),(3,1,jp),(4,1,bH ⟨#[118,108,58,118]⟩)]) (M iM [(0,1,J 64803),(1,1,J 64832),(2,1,f4),(3,1,fs),(4,1,gn)]) (M iM [(0,1,J 64845),(1,1,J 64845),(2,1,f4),(3,1,fs),(4,1,eu)]) (M iM [(0,1,J 64846),(1,1,J 64849),(2,1,f4),(3,1,fs),(4,1,gn)]) (M iM [(0,1,J 64850),(1,1,J 64850),(2,1,f4),(3,1,fs),(4,1,bH ⟨#[118,118,118,58,118]⟩)]) (gP (M iM [(0,1,J 64851),(1,1,J 64851),(2,1,f4),(3,1,fs),(4,1,ek)]) (M iM [(0,1,J 64852),(1,1,J 64852),(2,1,ly),(3,1,fs),(4,1,gs)]) (M iM [(0,1,J 64853),(1,1,J 64853),(2,1,ly),(3,1,f4),(4,1,gs)]) (M iM [(0,1,J 64854),(1,1,J 64854),(2,1,ly),(3,1,jp),(4,1,gs)]) (M iM [(0,1,J 64855),(1,1,J 64855),(2,1,ly),(3,1,J 3),(4,1,gs)]) (M iM [(0,1,J 64856),(1,1,J 64856),(2,1,ly),(3,1,fs),(4,1,fc)]) (M iM [(0,1,J 64857),(1,1,J 64857),(2,1,ly),(3,1,f4),(4,1,fc)]) (M iM [(0,1,J 64858),(1,1,J 64858),(2,1,ly),(3,1,jp),(4,1,fc)]) (M iM [(0,1,J 64859),(1,1,J 64859),(2,1,ly),(3,1,J 3),(4,1,fc)]) (M iM [(0,1,J 64860),(1,1,J 64860),(2,1,j2),(3,1,jp),(4,1,d0)]) (M iM [(0,1,J 64861),(1,1,J 64861),(2,1,j2),(3,1,J 3),(4,1,d0)]) (M iM [(0,1,J 64864),(1,1,J 64866),(2,1,f4),(3,1,fs),(4,1,eu)]) (M iM [(0,1,J 64867),(1,1,J 64868),(2,1,f4),(3,1,fs),(4,1,ek)]) (M iM [(0,1,J 64869),(1,1,J 64870),(2,1,f4),(3,1,fs),(4,1,gn)]) (M iM [(0,1,J 64875),(1,1,J 64877),(2,1,f4),(3,1,fs),(4,1,d7)]) (M iM [(0,1,J 64878),(1,1,J 64883),(2,1,f4),(3,1,fs),(4,1,gn)]) (gP (M iM [(0,1,J 64886),(1,1,J 64889),(2,1,f4),(3,1,fs),(4,1,gn)]) (M iM [(0,1,J 64891),(1,1,J 64891),(2,1,f4),(3,1,fs),(4,1,gn)]) (M iM [(0,1,J 64892),(1,1,J 64897),(2,1,f4),(3,1,fs),(4,1,eu)]) (M iM [(0,1,J 64898),(1,1,J 64898),(2,1,f4),(3,1,fs),(4,1,gn)]) (M iM [(0,1,J 64899),(1,1,J 64900),(2,1,f4),(3,1,fs),(4,1,ek)]) (M iM [(0,1,J 64901),(1,1,J 64902),(2,1,f4),(3,1,fs),(4,1,gn)]) (M iM [(0,1,J 64903),(1,1,J 64906),(2,1,f4),(3,1,fs),(4,1,eu)]) (M iM [(0,1,J 64907),(1,1,J 64909),(2,1,f4),(3,1,fs),(4,1,d7)]) (M iM [(0,1,J 64910),(1,1,J 64915),(2,1,f4),(3,1,fs),(4,1,gn)]) (M iM [(0,1,J 64917),(1,1,J 64921),(2,1,f4),(3,1,fs),(4,1,gn)]) (M iM [(0,1,J 64923),(1,1,J 64927),(2,1,f4),(3,1,fs),(4,1,gn)]) (M iM [(0,1,J 64928),(1,1,J 64929),(2,1,f4),(3,1,fs),(4,1,eu)]) (M iM [(0,1,J 64931),(1,1,J 64932),(2,1,f4),(3,1,fs),(4,1,ek)]) (M iM [(0,1,J 64935),(1,1,J 64938),(2,1,f4),(3,1,fs),(4,1,eu)]) (M iM [(0,1,J 64939),(1,1,J 64941),(2,1,f4),(3,1,fs),(4,1,d7)]) (M iM [(0,1,J 64942),(1,1,J 64942),(2,1,f4),(3,1,fs),(4,1,gn)]) (aF (M iM [(0,1,J 64945),(1,1,J 64945),(2,1,f4),(3,1,fs),(4,1,gn)]) (M iM [(0,1,J 64949),(1,1,J 64954),(2,1,f4),(3,1,fs),(4,1,gn)]) (M iM [(0,1,J 64956),(1,1,J 64959),(2,1,f4),(3,1,fs),(4,1,gn)]) (M iM [(0,1,J 64960),(1,1,J 64961),(2,1,f4),(3,1,fs),(4,1,eu)]) (M iM [(0,1,J 64963),(1,1,J 64964),(2,1,f4),(3,1,fs),(4,1,ek)]) (M iM [(0,1,J 64967),(1,1,J 64970),(2,1,f4),(3,1,fs),(4,1,eu)]) (M iM [(0,1,J 64971),(1,1,J 64973),(2,1,f4),(3,1,fs),(4,1,d7)]) (M iM [(0,1,J 64974),(1,1,J 64974),(2,1,f4),(3,1,fs),(4,1,gn)]) (eJ (M iM [(0,1,J 64977),(1,1,J 64977),(2,1,f4),(3,1,fs),(4,1,gn)]) (M iM [(0,1,J 64981),(1,1,J 64991),(2,1,f4),(3,1,fs),(4,1,gn)]) (bb 66 5 iM [(0,.t 1),(1,.t 2),(2,.t 3),(3,.t 4),(4,.t 5),(5,.t 6),(6,.t 7),(7,.t 8),(8,.t 9),(9,.t 10),(10,.t 11),(11,.t 12),(12,kW),(13,kq),(14,.t 15),(15,lN),(16,l0),(17,.t 18),(18,.t 19),(19,kX),(20,l1),(21,lr),(22,ls),(23,lu),(24,h9),(25,kY),(26,kr),(27,jx),(28,j9),(29,jm),(30,jy),(31,j1),(32,ks),(33,jc),(34,jo),(35,kt),(36,ku),(37,kv),(38,.t 39),(39,.t 40),(40,gc),(41,kw),(42,l2),(43,lv),(44,kx),(45,lw),(46,.t 47),(47,.t 48),(48,lx),(49,.t 50),(50,.t 51),(51,jn),(52,.t 53),(53,l3),(54,l4),(55,l5),(56,.t 57),(57,.t 58),(58,.t 59),(59,.t 60),(60,.t 61),(61,.t 62),(62,.t 63),(63,.t 64),(64,.t 65),(65,.t 66)]) 0))))) nI)
def Tryz.ao9:=fB 63 [.tmp 4,.tmp 5]<|fX 3 du hQ e3 (dp 11 0 sC 64768 6 (Y (h2 13 p7 (b6 83) (ah 14 (nu (L 15 kQ jP (am (F (BI true [true,true,true,true,true,true,true,true,true,true,true,true,true,true,true,true]) p2)) (f1 17 4 (bq 1) 0)) (db 4 (l hQ) 0 E')))) (ez 18 6 (bi 99) (dz 6) (aF (de (dh 196)) dQ ae (dz 6) (de mk) (em (ep 3)) (fl ae) (dK 6) (hP (dk mk) (fJ (ep 4)) (s p8 f5) (bv p9))) (f1 33 4 hQ 1)) (aa 34 6 (a7 96) (f9 32) ms kZ (gO 8 (l hQ) (bq 1) (Y (ai 38 7 jt e3 (hw 0 41 41 0 1 42 10 (nu (bE 43 kQ jj hA (eM 247) (am hz) (ah 47 (bw 48 8 10 (dx (GJ (bq 1))) (eU p3) (R 8)))) (bE 52 kQ jj hA ld (am i6) (gy 56 9 (gm hQ)))) 57 40 40)) (b8 58 6 s5 32 (d6 3) 60 (hq 4 61 9 (d 61) d4)) (hq 4 62 8 (d 62) d4))))))
def Tryz.ao':=fB 46 [.tmp 6,.tmp 7]<|fX 5 d3 ef e3 (eH 11 (aO 248) (hC 10 p3 0 p4 1 8 9) (Y (br 15 p7 hr ae lD (aF (bv p2) ae ig (de hz) dQ ae ig (bm p2 8) (a (em jt) lL (fN p5))) (f1 29 6 ef 1)) (ez 30 0 (b6 64789) gu (bT (eg 64792) dQ) (ah 35 (bE 36 jr i9 hM (eM 247) (a gq b5 iY) nI))) (bE 42 jr i9 hM ld iY nI)))
def Tryz.ae9:=fB 36 [.cell 6 16 true,.tmp 7]<|bE 3 d3 d3 d3 jS e3 (h3 8 iL (nu (gx 11 (B 16 p8) 0 (iJ 0 13 16 (bh 13 0 1 (ak 14 p2 kE (ia 9 10) (xV 2 (ai 22 10 (hZ qD 32) (R 21) (o 21 (eQ 24 jP 16 6 p1 7 1) (ai 26 10 (hZ qD 16) (R 25) (o 25 (bw 28 9 10 (hZ sC 16) (hf 1 5 p1) (a aq (hf 1 8 p5) g3)) (R' 16 (Z p7 eV (hf 1 4 p1) aq (S' (hf 1 8 p4) g3))))))))) 34 (ba 12 1) 12))) (gK 35 8 16 6 p1 7 0)))
def Tryz.apa:=fB 39 [.cell 8 16 true,.tmp 9]<|fz 8 6 (Aw p6) jS d4 (eH 13 (aO 248) (hC 12 p3 0 p4 1 10 11) (eC 17 p7 hr ae lD (aF (de eF) dQ ae ig (de hz) dQ ae ig (hP (bm p2 10) (em jt) lL (bv p5))) (ah 32 (eQ 33 jP 16 8 p1 9 1)) (bE 34 (bM 6) hA hM ji (S' jk (iK 16 8 (bP 9 0))) nI)))
def Tryz.ajg:=fB 28 [.tmp 6]<|t 3 d3 (z 6 (GJ ef)) (eC 8 p6 hz ae lD kh (bS 15 6 ef) (dp 16 1 uv 8 7 (dZ 18 2 7 hT gU (O 7 hT jj f3 (b0 (uI 16 1 (q' 3) (T8 p6) (T8 p1)) (aO 160) 6)))))
def Tryz.ae':=fB 22 [.cell 4 16 true]<|L 2 du du (am jS) (h3 5 iL (nu (gx 8 (B 16 p5) 0 (iJ 0 10 16 (bh 10 0 1 (ak 11 p2 kE (ia 6 7) (h2 13 p6 (hZ qN 16) (gy 14 15 (Z p9 dj (hf 1 2 p1) aq (S' (hf 1 5 p4) g3))))) 20 (ba 9 1) 9))) (d5 21 jr 16 4 p1 E')))
def Tryz.apb:=fB 34 [.cell 4 16 true,.tmp 5]<|gx 4 jS 0 (aV 10 0 sC 64768 (ad (a7 15) 6) (eC 13 p7 hz ae (dz 6) (hi (dh 3) dQ) (ah 18 (eQ 19 jP 16 4 p1 5 1)) (h3 7 iL (ai 20 6 ms (R 8) (b4 22 8 jt e3 (bz 0 25 p1 p2 25 0 1 (gH 26 9 (R' 27 (g0 7 8 kn hM (S' jk (iK 16 7 E'))))) 32 jT 24) (gK 33 7 16 4 p1 5 0))))))
def Tryz.apc:=fB 112 [.cell 4 16 true,.tmp 5]<|gx 4 jS 0 (dp 13 0 sC 64768 6 (aY 7 2 (Y (ey (ez 16 6 (bi 77) (dz 6) (b0 (de (dh 82)) dQ 15) (o 15 (eQ 22 jP 16 4 p1 5 1) (dp 24 6 q 77 23 (o 23 (hh 7 1) (b8 27 6 q 82 (R 26) 26 (hh 7 3))))))) (aa 29 1 bg jj (F aX p2) E' (ah 32 (eQ 33 jP 16 4 p1 5 1))) (ai 34 1 kV (S' f6 mG) (aQ 37 1 7 (f9 2) (ds 16 p3) (dN f6 1 jj fg (a (ds 16 p3) f6 (aC 9 jS 10 jS (bu 16 9 41 (Q' p1 (B 16 p2) (dB 16 10 46)))))) (nu (gx 47 (bM 8) 0 (iJ 1 49 16 (bh 49 1 2 (ak 50 p2 kE (ia 11 12) (az 52 jZ (xV 3 (it 69 52 77 68 68 (bw 70 11 12 (Ub GO p1) (hf 1 8 p3) g3) 75 52 78 74 74 (fx 76 11 12 11 k3 (hs aq (F sD p4) mx g3)) 84 52 79 83 83 (fx 85 11 12 11 k3 (hs aq (F sI p4) mx g3)) 93 52 80 92 92 (fx 94 11 12 11 k3 (hs aq (eU p4) mx g3)) (aM 102 q 52 81 101 101 (fx 103 11 12 11 k3 (hs aq (F Aj p4) mx g3)) (fx 53 11 12 11 (hf 1 10 p1) (aF aq (F sD p4) jb k3 aq jb (hf 1 10 p1) aq (hs (F sI p4) (eU p8) (hf 1 8 (q' 53)) (gE 67 66))))))))) 110 (ba 48 1) 48))) (gK 111 8 16 4 p1 5 0)))))))
def Tryz.apd:=fB 56 [.cell 4 16 true,.tmp 5]<|L 3 du jS e3 (eH 11 (aO 250) (hC 10 p3 0 p4 1 6 7) (Y (br 15 p9 hr ae (dz 7) (hi (dh 2) dQ) (ah 20 (eQ 21 jP 16 4 p1 5 1))) (ai 22 6 jt e3 (hw 0 25 25 0 1 26 8 (bE 27 kQ jZ i9 ld (R 9) (nu (xV 2 (dp 32 7 q 2 31 (o 31 (bJ 34 9 (aO 54) (ad b5 9)) (ez 38 7 (b6 1) (gD kQ) (k (bm p2 6) (bm p3 8) (fl (eM 247)) (gX hz) (ad ke 37)) (ah 37 (dO 47 9 ic 9)))))) (R' 49 (g0 3 6 i9 kn (S' jk (iK 16 3 E')))))) 54 24 24)) (gK 55 3 16 4 p1 5 0)))
def Tryz.ajh:=fB 90 [.cell 4 16 true,.tmp 5]<|L 3 du jS e3 (dp 14 0 sC 64768 6 (h3 7 iL (Y (ai 17 6 (fF 251 135) (hC 16 p3 0 p4 1 8 9) (eY 21 8 qf 0 22 (b4 23 8 j4 e3 (hw 0 26 26 0 1 27 10 (R' 28 (fH (bM 7) 8 jH hA kQ i9 kn hA (ec 252 [j1,ks,jc,jo] (Q' p9 (bM 7) (ec 249 [jx,jm,jy,kt] (dB 16 7 37)))))) 38 25 25) (gK 39 7 16 4 p1 5 0)))) (ez 40 6 (bi 124) (dz 6) (hi (dh 127) dQ) (ah 45 (gK 46 7 16 4 p1 5 1))) (aY 11 8 (Y (eY 47 6 qD 126 48 (hh 11 16)) (ai 49 11 j4 e3 (hw 2 52 52 2 3 53 12 (e 59 (g6 54 kQ 55 11 (aC 56 kz 57 kp (g0 3 11 kz jH (S' ja (fW 58 150 [l3,l4,.t 57] (Q' p5 kQ (b0 (N 150 [.t 59,.t 60,.t 63]) (bp p7) 13))))))) (nu (b8 66 6 s5 2 mf 68 (R' 74 (g6 69 kQ 70 11 (aC 71 kz 72 kp (g0 3 11 kz jH (S' ja (fW 73 247 [.t 69,.t 70,.t 72] (Q' p5 kQ (eJ (N 247 [.t 74,.t 75,.t 78]) (bp p7) b5 13))))))))) (R' 82 (g0 7 11 jH kz (a lI (P7 249 p5 p3 p2 p1) (iK 16 7 E')))))) 88 51 51)) (gK 89 7 16 4 p1 5 0))))))
def Tryz.ape:=fB 68 [.cell 6 16 true,.tmp 7]<|fz 6 4 io jS d4 (eH 13 (aO 250) (hC 12 p3 0 p4 1 8 9) (eC 17 p9 hr ae (dz 9) (k (de (bi 11)) dQ ae (dz 9) (hi (dh 13) dQ)) lG (aQ 28 2 8 gq (hW p3) (R 2) (b4 32 8 jt e3 (hw 0 35 35 0 1 36 10 (bE 37 jC i9 hA ld (b0 gU (e4 p2) 11) (fR 43 kn (xV 2 (fo 45 p2 11 44 44 (R' 46 (g0 4 8 hA ld (b0 gU (dx p2) 11))) (gi 53 q 43 12 52 52 (R' 54 (g0 4 8 hA (eM 247) (eJ gU (e4 p2) b5 11)))))) (R' 61 (g0 4 8 hA jb (S' jk (iK 16 4 E')))))) 66 34 34) (gK 67 4 16 6 p1 7 0)))))
def Tryz.apf:=fB 62 [.cell 6 16 true,.tmp 7]<|bE 4 d3 d3 jS d4 E' (eH 17 (aO 250) (hC 16 p3 0 p4 1 8 9) (nu (ez 21 8 hr (dz 9) (hi (bi 14) dQ) lG) (h3 10 iL (b4 28 8 jt e3 (hw 0 31 31 0 1 32 11 (L 33 jC i9 (S' jb (g6 37 jr 38 8 (D' 39 jb (ec 150 [ks,jc,jo] (dn 37 jr (fW 40 150 [ku,kv,.t 39] (eh 12 (D' 13 (d 40) E')))))))) (L 41 jC i9 (S' jb (g6 45 jr 46 8 (D' 47 jb (ec 247 [gc,kw,l2] (dn 45 jr (fW 48 247 [kx,lw,.t 47] (eh 14 (D' 15 (d 48) E')))))))) (R' 49 (g0 10 8 jb i9 (O 9 kz lI (d 14) (a (d 15) (N 253 [jn,.t 53,l3,l4,l5,.t 57]) (dn 49 (bM 10) (ec 249 [lx,.t 50,.t 51,.t 58] (dB 16 10 59))))))))) 60 30 30) (gK 61 10 16 6 p1 7 0)))))
def Tryz.apg:=fB 41 [.cell 6 16 true,.tmp 7]<|bE 4 d3 d3 jS d4 E' (eH 13 (aO 254) (hC 12 p3 0 p4 1 8 9) (bO 17 p8 hz E' (ah 18 (eQ 19 jP 16 6 p1 7 1)) (h3 10 iL (b4 20 8 jt e3 (hw 0 23 23 0 1 24 11 (aa 25 9 jC i9 jb (g6 30 jr 31 8 (D' 32 jb (ec 247 [kY,kr,jx] (dn 30 jr (aC 33 (N 247 [jm,jy,j1]) 34 (N 255 [h9,j9,ks]) E'))))) (gy 34 35 (g0 10 8 jb (P7 249 p3 p2 p1 ie) (iK 16 10 E')))) 39 22 22) (gK 40 10 16 6 p1 7 0)))))
def Tryz.aji:=fB 117 [.cell 6 16 true,.tmp 7]<|bE 4 d3 d3 jS d4 E' (dp 18 0 sC 64768 8 (h3 9 iL (Y (ai 21 8 (fF 251 156) (hC 20 p3 0 p4 1 10 11) (eY 25 10 qf 0 26 (b4 27 10 j4 e3 (hw 0 30 30 0 1 31 12 (R' 32 (fH (bM 9) 10 jH kz jC hA jb kz (g6 41 jr 42 10 (g6 43 jb 44 12 (ec 252 [kt,ku,kv,.t 39] (Q' p9 (bM 9) (dn 41 jr (fW 45 252 [gc,kw,l2,lv] (Q' p9 (bM 9) (aC 46 (wo tJ p1 (q' 45)) 47 (N 249 [j1,jc,jo,lw]) (dB 16 9 47))))))))))) 48 29 29) (gK 49 9 16 6 p1 7 0)))) (az 50 i9 (xV 2 (d9 (fK 52 p2 101 51 51 (fK 53 p3 102 51 51 (fK 54 p4 133 51 51 (aU 55 (u q p5 134) 51)))) 51 (ft 56 8 jC jr (eM 256) (iK 16 6 (bP 7 0))) (aM 61 q 50 130 60 60 (gM 62 (iJ 3 63 8 (bh 63 3 4 (gH 64 13 (e 68 (g6 65 jC 66 13 (a jr lI (fW 67 247 [.t 65,k9,.t 66] (Q' p2 jr (eJ (N 247 [.t 68,k9,.t 69]) (bY p4) (bX 16384) 14))))) (R' 73 (g0 9 13 (d 14) (dH 15) (hs (yR p1 (P 32767)) b5 (P7 249 p6 (P 16) p5 p1) (iK 16 9 E')))))) 80 (ba 62 1) 62)) (gK 81 9 16 6 p1 7 0)) (gi 83 q 50 186 82 82 (gM 84 (iJ 5 85 4 (bh 85 5 6 (gH 86 15 (e 91 (g6 87 jC 88 15 (D' 89 kp (hs jr (d 15) jH (fW 90 247 [.t 87,k9,.t 89] (Q' p3 jr (b0 (N 247 [.t 91,k9,.t 93]) (bY p5) 16)))))) (e 101 (g6 96 jC 97 15 (aC 98 (wo tJ (P 2) p4) 99 (fD p3 1) (g0 5 15 jH ja (fW 100 247 [.t 96,k9,.t 99] (Q' p4 jr (b0 (N 247 [.t 101,k9,.t 104]) (bY p6) 17)))))) (R' 107 (g0 9 15 (d 16) (d 17) (hs f3 b5 (P7 249 p6 (P 32) p5 p1) (iK 16 9 E'))))))) 114 (ba 84 1) 84)) (gK 115 9 16 6 p1 7 0))))))) (gK 116 9 16 6 p1 7 1))))
def Tryz.aph:=fB 22 [.tmp 2]<|fQ 2 (fQ 3 (bO 6 p6 bg e3 (gS 0 9 9 0 1 (ak 10 p2 lz (hF aq 4 p3 5) (aG 13 3 dj b5 ko (eJ mj (dx p3) (eU p6) 3))) 20 8 8) (ew 21 3 2)))
def Tryz.api:=fB 14 []<|br 6 p6 dd (M i0 [(0,1,J 66),(2,1,.t 7)]) (bb 1 3 i0 [(0,.t 8)]) (g2 257) (hy 11 0 gU 169)
def Tryz.ajj:=fB 35 []<|iz 3 (gx 6 (B 16 p3) 0 (iJ 0 8 16 (bh 8 0 1 (ak 9 p2 kE (ia 4 5) (dX 11 0 (O 0 v ge aq (O 5 (hZ uv 8) kA aq (O 5 (hZ s5 8) fd (N 258 [kq,lr,ly,h9,oC ab]) E'))) (hX 27 v (a ko (fY 8) (am (dg 259 p3 (P 8))))))) 34 (ba 7 1) 7)))
def Tryz.apj:=fB 128 []<|br 4 p4 v dF aq (k v ge (fF 178 1) ih (ad aq 2)) (eT 13 (iJ 0 14 16 (bh 14 0 1 (gH 15 3 (fy 16 0 (O 0 v ge aq (O 3 (f9 8) (bp (P 2)) (d8 p4) (gT 3 (fY 8) (N 258 [.t 19,jx,ly,jm,oC ab]) E'))) 32 0 (iA v dF 2 kC mb) (fy 41 0 (aF v dF he v ge aq ih aq (O 0 v ge aq (fC (f2 1) aq 2 (bb 3 1 kC [(0,jn),(1,.t 58),(2,.t 59)]) (am (N 170 [lw,.t 60]))))) 62 0 (hP v dF (bb 2 1 kC [(0,J 84),(1,J 27)]) (dg 161 p2 (eZ 8))) (fy 70 0 (iA v dF 2 kC ma) 79 0 (hP v dF jd (dg 161 p2 (eZ 7))) (fy 87 0 (hP v dF (bb 2 1 kC [(0,J 134),(1,J 136)]) (dg 161 p2 (eZ 3))) 95 0 (hP v dF jd (dg 161 p2 (eZ 255))) (fy 103 0 (iA v dF 2 kC ma) 112 0 (hP v dF (bb 3 1 kC [(0,J 84),(1,J 173),(2,J 126)]) (dg 161 p2 (eZ 16))) (hX 120 v (a ji (fY 8) (am (dg 259 p3 (P 8))))))))))) 127 (ba 13 1) 13)))
def Tryz.apk:=fB 74 []<|br 4 p4 v dF aq (aF v dF he v ge aq ih aq (bT jK (N 170 [.t 9,lN]))) (hY 18 1 qN 64 19 (dX 20 0 (fC v dF 1 (N 172 [kY]) (hn (bT jd (N 161 [h9,kr,jx])))) (hX 30 v (fC v dF 1 (N 167 [kt,oC (A 1)]) (hn (bT ju (N 161 [jo,ku,kv])))))) (dX 40 0 (aF v dF he v ge aq ih aq (bT jK (N 179 [kx,jn]))) (hX 54 v (aF v dF he v ge aq ih aq (O 0 v ge aq (hP ih aq (bb 2 1 kC [(0,.t 65),(1,.t 71)]) (N 170 [.t 59,.t 72])))))))
def Tryz.apl:=fB 155 []<|aY 6 64 (nu (ey (gz 10 p9 (bL 23) 9 (o 9 (hh 6 8) (dp 13 1 rK 26 12 (o 12 (hh 6 16) (b8 16 1 rK 28 (R 15) 15 (hh 6 32))))))) (dX 18 1 (O 2 jZ j4 (fe p3) (fC (d8 p5) aq 2 jZ (a j4 (hW p3) (df 7 p5 8)))) (nu (dX 32 1 (bT bg (b6 2)) (ah 37 (dX 38 0 (O 7 jZ i9 hM (k (b6 21) ae ig (eg 24) (bT dQ (kC5 258 (q' 41) p9 p8 p7 p1)))) (nu (ez 52 1 (b6 21) ig (bT (eg 24) dQ) (ah 57 (hX 58 v (hP v dF (dU kC 167) (dc 169))))) nI)))) (fy 66 0 (iA v dF 7 kC ma) 75 0 (hs v dF jZ (g6 83 jZ 84 8 (D' 85 (wo tJ (q' 83) (q' 84)) (ec 172 [.t 81] (hn (aC 86 (wo BH p1 (q' 85)) 87 (Ub GO (q' 86)) (aC 88 jd 89 (N 161 [.t 80,.t 87,.t 88]) E'))))))) (fy 90 0 (aF v dF he v ge aq (f2 2) aq (bT jK (N 170 [.t 95,.t 102]))) 104 0 (fC v dF 6 (N 172 [.t 110]) (hn (bT jd (N 161 [.t 109,.t 111,.t 112])))) (fy 114 0 (aF v dF jZ i9 hT b5 (bb 2 1 kC [(0,J 134),(1,J 132)]) (ei 161 p6) E') 126 0 (iA v dF 7 kC mb) (hX 135 v (aF v dF he v ge aq ih aq (O 0 v ge aq (hP (f2 1) aq (bb 2 1 kC [(0,.t 146),(1,.t 152)]) (N 170 [.t 140,.t 153])))))))))))
def Tryz.apm:=fB 54 []<|L 2 du du E' (ey (bE 9 lZ (a1 124) ae (gR (h 1 p9)) (g8 127 8) (o 8 (bE 15 jN (a7 124) (f9 2) ms (fr 4 kC 1 4) (R' 19 (k la (dY 4) jH (Ex (JM 261 [.t 2,.t 4,.t 3])) (am (ei 260 p4))))) (L 25 jN (b6 130) (R 24) (o 24 (a5 27 la (Ex (JM 263 [.t 2])) (am (dg 260 p2 (P 16)))) (L 31 jN (b6 186) (R 30) (o 30 (a5 33 la (Ex (JM 265 [.t 2])) (am (dg 260 p2 (P 32)))) (dS 37 jN mk (b6 5) ae (gD jN) (de mk) (em (b6 6)) jE (R 36) (o 36 (R' 45 (aF la jN (a7 101) (f9 32) ms jN mk (b6 5) (am (N 266 [kx,lx,jn])))) (a5 5 (h 1 p3) (h 1 p3) (fI 267)))))))))))
def Tryz.apn:=fB 18 [.tmp 4]<|fQ 4 (fQ 5 (gM 6 (fa 0 (L 7 ae (bi 64) E' (iu 8)) 1 (R' 12 (Z p7 hM dy (dx p2) (ad (eU p4) 5))) (a5 9 mz he (ad f3 6))) (ew 17 5 4)))
def Tryz.apo:=fB 18 []<|ak 6 p5 bg e3 (bz 0 9 p1 p2 9 0 1 (hc 10 5 (ff 12 dy (M i0 [(0,1,kW)]) (bb 1 3 i0 [(0,kq)]) (g2 257))) 17 (fD p9 1) 8)
def Tryz.apq:=fB 18 []<|ak 6 p5 bg e3 (bz 0 9 p1 p2 9 0 1 (hc 10 5 (ff 12 dy (M i0 [(0,1,J 32),(1,1,kW)]) (bb 1 3 i0 [(0,kq)]) (g2 257))) 17 (fD p9 1) 8)
def Tryz.apr:=fB 6 [.tmp 2]<|fQ 2 (ak 3 p3 jf (ad (e4 ie) 2) nI)
def Tryz.aps:=fB 30 [.tmp 4]<|el 4 (el 5 (bO 6 p5 d4 E' (gS 0 8 8 0 1 (br 9 p4 he v dF (fH aq 0 v ge aq (bp p5) jK (en 1 8 9 19) mD) (gb 21 v ge (f8 ja p5 1))) 28 7 7) (ew 29 5 4)))
def Tryz.apt:=fB 20 []<|ak 5 p4 bg (ad fg 4) (fa 0 (h2 8 p4 h0 (iu 9)) 1 (fx 12 0 1 4 fA (hP aq (M i0 [(0,1,J 33),(1,1,lN)]) (bb 1 3 i0 [(0,l0)]) (ax 257 p7))) (a5 10 dd fg ka))
def Tryz.apu:=fB 15 []<|R' 4 (Z p4 eE v ge (k aq ae lD (de eF) (f8 dQ p9 1)))
def Tryz.apv:=fB 48 []<|iO
def Tryz.apw:=fB 39 []<|iz 3 (br 4 p4 (b9 p2) aq bg (aF (bL 32) ae (gR (eO p7)) e6 (fJ bg) (hB (bL 32)) ln (ax 185 (q' 4)) E') (eH 16 (wk [aK] (fw 96)) lg (eA 19 0 0 3 bg my (eA 25 0 0 3 (dV 190) E' (eA 29 0 1 3 bg my (iG 35 hG 190 E'))))))
def Tryz.apx:=fB 13 []<|R' 4 (Z p4 eE v dF (k aq dy mw gt (fZ 0)))
def Tryz.apy:=fB 33 []<|ak 6 p5 bg e3 (gS 0 9 9 0 1 (hc 10 5 (aa 12 0 dy h0 ae (hP (dK 5) (dk (bi 4294967296)) dv (ax 185 p7)) (bw 20 0 0 v dF (gT 5 b5 iR (ec 270 [kr] (hn (a (en 1 1 24 28) (di 20) (h4 0 31 29)))))))) 32 8 8)
def Tryz.apz:=fB 30 []<|ak 6 p5 bg e3 (gS 0 9 9 0 1 (hc 10 5 (aa 12 0 dy (b6 127) ae (aF (dz 5) (eg 126) dQ ae (dz 5) (eg 123) dQ (ax 185 (q' 12)) E') (bw 24 0 5 hp jB (g2 188)))) 29 8 8)
def Tryz.apA:=fB 48 []<|fG 13 3 bg gU jV (hV 19 3 mf kd (dX 22 1 jM (aQ 28 10 3 bg jK hu (hV 33 3 e3 (bz 0 36 p1 p2 36 0 1 (h7 37 3 p2 3 12 [aI,aI,aA] 3 12 iZ) 43 jT 35) jO))))
def Tryz.apB:=fB 20 []<|iz 3 (br 4 p4 (b9 p2) aq (dV 193) E' (br 8 p8 (eO p6) aq (dV 193) E' (eH 12 iN lg (ix 15 kG jK hu))))
def Tryz.apC:=fB 22 []<|br 4 p4 im (aO 271) (dV 185) E' (br 8 p8 dy ki jK hu (bw 13 0 0 v dF (gT 1 (aeV 1 p2 p1) gt (fZ 0))))
def Tryz.apD:=fB 48 []<|fG 13 3 bg gU jV (hV 19 3 mf kd (dX 22 1 jM (aQ 28 10 3 bg jK hu (hV 33 3 e3 (bz 0 36 p1 p2 36 0 1 (hc 37 12 (fx 39 4 10 12 jR E')) 43 jT 35) jO))))
def Tryz.apE:=fB 8 []<|R' 4 (Z p4 im jK (dV 189) E')
def Tryz.apF:=fB 48 []<|fG 13 3 bg gU jV (hV 19 3 mf kd (dX 22 1 jM (aQ 28 10 3 bg jK hu (hV 33 3 e3 (bz 0 36 p1 p2 36 0 1 (h7 37 2 p2 2 12 [aA,aA] 2 12 lW) 43 jT 35) jO))))
def Tryz.apG:=fB 10 []<|iz 3 (ak 4 p4 (wk [aK] (fw 112)) lg (a5 7 eV (B 2 p5) (am (fq 198 p2 p1 1024))))
def Tryz.apH:=fB 33 []<|az 4 d3 (br 6 p6 (b9 p3) aq eV jV (nu (er 12 (eO p8) (d6 (-1)) (gk 14 15 iN lg (eA 18 0 0 4 jK hu nI))) (eH 23 (wk [aK] (fw 1)) lg (ix 26 (go 4) (e9 4) (a aq (bb 2 1 kC [(0,jx),(1,jm)]) (bf 189 p6))))))
def Tryz.apI:=fB 7 []<|iz 3 (a5 4 im (B 2 p2) (am (fq 198 p2 p1 16)))
def Tryz.apJ:=fB 48 []<|fG 13 3 bg gU jV (hV 19 3 mf kd (dX 22 1 jM (aQ 28 10 3 bg jK hu (hV 33 3 e3 (bz 0 36 p1 p2 36 0 1 (h7 37 3 p2 3 12 [aA,ab,bt] 3 12 iZ) 43 jT 35) jO))))
def Tryz.apK:=fB 21 []<|iz 3 (br 4 p4 (b9 p2) aq jK (g2 190) (nu (er 9 (eO p6) E' (o 10 (hy 11 0 (wk [aK] (fw 1)) 188) (hy 14 0 iN 188))) (iG 17 kG 207 E')))
def Tryz.apL:=fB 48 []<|fG 13 3 bg gU jV (hV 19 3 mf kd (dX 22 1 jM (aQ 28 10 3 bg jK hu (hV 33 3 e3 (bz 0 36 p1 p2 36 0 1 (h7 37 3 p2 3 12 [aI,aA,aA] 3 12 iZ) 43 jT 35) jO))))
def Tryz.apM:=fB 29 []<|iz 3 (br 4 p4 (eO p2) aq h0 (Z p1 (gR (eO p6)) e6 (fJ (bL 3)) (e5 f5 185 p9)) (eA 14 0 0 3 (dV 193) E' (eA 18 0 1 3 hp (hl jB 188) (ix 24 kG jK hu))))
def Tryz.apN:=fB 37 []<|br 6 p6 eE v ge (a aq eF (bf 185 p6)) (fG 13 1 jB (dV 188) E' (fG 17 2 v dF mI (bw 25 0 0 v dF (fH aq 2 v dF aq (en 1 1 29 33) (di 25) dF (gE 36 34)))))
def Tryz.apO:=fB 48 []<|iO
def Tryz.apP:=fB 27 []<|iz 3 (br 4 p4 (eO p2) aq bg (hl (bL 1024) 185) (eH 10 iN lg (eA 13 0 0 3 (dV 207) E' (eA 17 0 1 3 bg my (iG 23 hG 189 E')))))
def Tryz.apQ:=fB 24 []<|ak 7 p6 (aO 272) (hC 6 p3 0 p4 1 4 5) (aa 11 0 eV hr (dV 185) E' (bw 15 0 0 v dF (gT 4 mw gt (fZ 0))))
def Tryz.apR:=fB 48 []<|iO
def Tryz.apU:=fB 121 []<|iz 3 (br 9 p9 (b9 p7) aq bg (hl (bL 512) 185) (L 15 (M [bt,ab] []) dT ka (eT 5 (gv 17 0 3 bg d4 E' (hw 0 21 21 0 1 22 6 (ez 23 6 hr (gD ht) (aF gh (bm p3 6) (fl fA) (gX aq) (s p6 ht) (s p7 aq) (bm p8 6) (s p9 fg) (hP (iD 25 kA) (iD 25 aq) (iD 25 (F aX p7)) (bv (q' 25)))) (ah 38 (fL 39 5 1 5))) 41 20 20) (aQ 42 4 5 jK (dV 189) E' (gM 7 (au 2 (nu (eA 46 7 0 3 bg (am (b7 p4)) (a0 50 2)) (xV 3 (aY 8 1 (nu (au 4 (nu (aQ 51 7 8 f3 ht (gP aq bg (b7 p4) ae mo e6 (bW p3 7) (bW p4 8) (iF f3) (H p6 (d8 p4)) (H p7 aq) (H p8 ht) (H p9 aq) (bW (q' 58) 7) (fV 58 fA) (fV 58 aq) (bT (fV 58 (F q p6)) (bI (q' 58)))) (a0 72 4)) (xV 5 (fL 73 8 1 8)))) (aQ 75 4 8 jK (dV 189) E' (eA 79 4 0 3 jj (hP fA aq jK (ax 190 p7)) (bJ 87 7 i9 (ad f3 7))))))))) (eA 90 4 1 3 (dV 207) E' (fG 94 4 v ge (a aq eF (bf 185 p6)) (fG 101 4 v dF mI (bw 109 0 0 v dF (fH aq 4 v dF aq (en 1 1 113 117) (di 109) dF (gE 120 118))))))))))))
def Tryz.apV:=fB 48 []<|iO
def Tryz.apW:=fB 21 []<|iz 3 (ak 4 p4 iN lg (br 7 p7 (b9 p5) aq (dV 207) E' (aa 11 0 (eO p9) aq bg my (iG 17 hG 188 E'))))
def Tryz.apX:=fB 50 [.cell 4 2 true,.tmp 5]<|fz 4 2 gj (ao jL) (l ab) (aY 6 (-1) (nu (er 8 (eO p6) (ad bg 7) (ey (f0 12 1 0 1 (eJ (dk dj) (fJ iE) f5 11) (o 11 (R' 19 (fC (e9 2) aq 1 (fT 3) (b0 i4 aq 6))) (aQ 26 1 7 mg ae (aF (dK 1) (bW p2 7) (fJ gp) (hB (p 2 2)) (iF aq) (H p6 bg) (H p7 (b7 p4)) (bI p8) (R 25)) (gy 25 38 (fC (p 2 2) aq 1 jj (eJ gp (d8 p4) aq 6)))))))) (bE 45 l7 jZ (dc 273) (iH p1) (S' ml (a3 2 4 p2 mD)) nI)))
def Tryz.apY:=fB 36 [.tmp 2]<|el 2 (eT 3 (bO 9 p9 bg e3 iU (ai 23 3 (ax 274 lC) i8 (hV 25 0 e3 (bz 2 28 p1 p2 28 2 3 (hc 29 8 (bJ 31 6 i9 (fp 2 16 p2 6))) 34 (fD p7 1) 27) (ew 35 6 2)))))
def Tryz.ap0:=fB 24 [.tmp 4]<|gW 4 (Y (ak 5 p5 bg (am (ep 2)) (gg 7 4)) (br 8 p8 (gZ 6 0) dF aq E' (hm 13 p2 65 12 12 (dp 14 1 q 127 4 nI) (fo 17 p6 66 16 16 (dp 18 1 q 126 4 nI) (gi 21 q 11 64780 20 20 (dp 22 1 q 123 4 nI))))) (bB 4 ab))
def Tryz.ap1:=fB 74 [.tmp 4]<|t 2 du kH (eA 11 1 3 2 bg (k (p 4 2) aq bg (p 5 2) (hs aq bg (M [aA,aA,aA,aA] [(0,1,.t 11),(1,1,kq),(2,1,l0),(3,1,kX)]) (fr 5 [aA,aA,aA,aA] 4 5))) (ap 22 (Ex O4) 6 (Y (dG 23 6 2 bg d4 E' (gS 0 27 27 0 1 (ak 28 p2 (gl 3 p3) (S' (eS 3) (bd 8 [aI,aA,aA] (f 7 p3 (iK 3 8 E')))) (nu (eA 31 6 0 8 (W cW) (aF jF ae (gD (p 2 8)) gh (em (e9 8)) ib (gX (da 4 1 5 p1)) lo (hE (s p7 (dW p5)) p8)) (gg 44 4)) (aG 45 6 (go 8) aq jj (S' ja (N' fM E'))))) 50 26 26)) (et 51 7 2 (d6 (-1)) (bS 53 4 bQ)) (bE 55 l7 (p 7 2) aq (dV 212) (ip 54 p5 0 p6 1 (bn 9 jL 2 9 p2 (R 10))) (ft 61 10 ae (gR lM) e6 (aF (fJ bg) (hB hr) ln ae (gN 9) e6 (fJ bg) (hB hr) (ad ln 4)))))))
def Tryz.ap2:=fB 58 [.tmp 4]<|t 2 du kH (Y (bE 11 (ph 8 p9) aq bg d4 E' (gS 0 15 15 0 1 (h7 16 2 p2 2 6 jL 2 6 (gv 18 3 2 bg hr (Z p1 (gD lj) gh (em (fF 214 127)) mt) (gg 27 4) (dG 28 1 6 bg d4 E' (bz 2 32 p1 p2 32 2 3 (hc 33 8 (ai 35 8 hM (am mg) (gg 37 4))) 38 (fD p7 1) 31)))) 39 14 14)) (dG 40 10 2 bg d4 E' (gS 4 44 44 4 5 (h7 45 2 p2 2 10 jL 2 10 (dG 47 4 2 bg hr (Z p1 (gD (go 10)) gh (em (fF 214 127)) mt) (gg 56 4))) 57 43 43)) (bB 4 bQ))
def Tryz.ap3:=fB 36 [.tmp 2]<|el 2 (eT 3 (bO 9 p9 bg e3 iU (ai 23 3 (ax 275 lC) i8 (hV 25 0 e3 (bz 2 28 p1 p2 28 2 3 (hc 29 8 (bJ 31 6 i9 (fp 1 8 p2 6))) 34 (fD p7 1) 27) (ew 35 6 2)))))
def Tryz.ap4:=fB 47 []<|az 5 d3 (aJ 6 bQ (eC 7 p7 v kk aq (bT bg jF) (ah 12 (ff 13 lU v k5 (aF aq ae js (dk lU) (fJ v) (hB k4) (iF aq) (H p6 eF) (ad (bI p7) 6)))) (bw 26 0 0 v kk (fH aq 1 he v kF aq bg (go 5) (aF aq j0 aq jZ (M jq [(0,1,jy),(1,1,kt),(2,1,kv),(3,1,.t 40),(5,1,gc)]) (bb 1 6 jq [(0,kw)]) (en 6 72 30 43) (di 26) (h4 13 46 44))))))
def Tryz.ap5:=fB 14 [.tmp 2]<|aJ 2 bC (fn 3 p3 v kk aq (Z p7 v kk aq (eJ bg fg (ds 6 p7) 2)))
def Tryz.ap6:=fB 148 []<|iz 3 (et 13 0 3 (fS (aO 88) 12 kM) (nu (et 18 2 4 E' (ah 19 (aa 20 0 (aP 6 3) (aP 5 4) (eM 276) E' (eA 24 0 3 4 (dV 277) E' (eA 28 0 4 4 (dV 278) E' nI))))) (et 32 0 3 E' (ey (d9 (fK 38 p5 2 37 37 (fK 39 p6 3 37 37 (aU 40 (u q p7 4) 37))) 37 (nu (et 41 0 3 (d6 4) (ah 43 (bJ 44 0 kD E'))) (eA 46 0 1 3 (dV 280) (fr 6 jL 2 6) (eA 50 0 0 6 (dV 277) E' (eA 54 0 0 3 (aP 2 6) (am (ei 218 p4)) (iG 59 lj 278 E'))))) (d9 (aM 64 q 33 5 63 63 xt (hU 65 q 33 11 63)) 63 (iG 66 ht 281 E') (it 71 33 26 70 70 (bJ 72 0 (fF 279 0) E') 75 33 27 74 74 (eH 76 kD E' (eH 78 (fF 279 0) kZ (fx 80 0 0 7 (dc 279) (hl jK 278)))) 87 33 16 86 86 (aN 89 0 v 0 (eS 11) (a hG aq (fS (N 212 [.t 92,.t 94]) 88 (ay p8 0 p9 1 (bd 8 jL (bu 2 8 96 (R 9)))))) (eH 98 kn (fI 282) (eA 101 0 0 8 (dV 277) E' (iG 105 (e9 8) 278 E')))) 110 33 17 109 109 (aN 112 0 v 0 (eS 11) (a hG aq (fS (N 273 [.t 115,.t 117]) 111 (ay p8 0 p9 1 (bd 10 jL (bu 2 10 119 (R 11)))))) (fG 121 11 ae js (aF (dk v) (fJ dF) (hB je) (iF aq) (H p6 bg) (H p7 jF) (bI p8) ae (k (gR kG) e6 (fJ hr) f5 (bf 282 (q' 121)))) (eH 138 kD E' (eA 140 0 0 10 (dV 277) E' (iG 144 (e9 10) 278 E'))))) (hy 34 0 (aP 6 3) 283))))))))
def Tryz.afa:=fB 8 [.tmp 2]<|el 2 (h5 3 p3 eW bt E' 4 2 bt (L 5 (bb 0 6 i7 []) dd (fp 6 64 p2 2) nI))
def Tryz.ap7:=fB 17 [.tmp 4,.tmp 5]<|gO 4 (l hQ) hQ (br 7 p7 b5 dy b5 (ad (bY p3) 6) (fn 12 p6 lB gq dj (hF gq 4 p3 5)))
def Tryz.ap8:=fB 51 [.tmp 4,.tmp 5]<|gO 4 lQ ef (eH 14 eI i8 (eH 16 lB kZ (ai 18 1 eI (R 8) (ai 20 1 lB (R 9) (ai 22 6 i9 (ad hT 10) (aQ 25 7 8 hT hA (b0 lB jU 11) (ai 31 11 eI (R 12) (ai 33 11 lB (R 13) (aQ 35 12 6 kn hT (ad md 12) (aQ 40 7 9 hT lI (dN f3 12 lB jU ka) (eN 48 0 1 hT 5)))))))))))
def Tryz.ap9:=fB 20 [.tmp 2]<|eT 2 (gz 6 p6 bg 3 (bO 8 p8 bg e3 (bz 0 11 p1 p2 11 0 1 (hc 12 5 (h2 14 p9 (b6 123) (ah 15 (fL 16 3 1 3)))) 18 jT 10) (ew 19 3 2)))
def Tryz.ap':=fB 120 [.tmp 10,.tmp 11]<|L 7 io io (f 10 lC (bP 11 0)) (b4 21 0 hO E' (f1 22 10 bt 2) (dG 24 0 8 ko (dc 90) (hC 23 p5 0 p6 1 12 13) (Y (dG 30 1 8 bg d4 E' (gS 0 34 34 0 1 (hc 35 15 (eG 37 15 (ep 127) 15 (k (ij 126) dv ae (dK 15) (bT (ij 123) dv)) (gy 46 13 (bj 1)))) 47 33 33)) (eY 48 13 aX 0 49 (hq 10 50 13 jl (d 50))) (nu (dX 51 1 (bT bg (a1 1024)) (f1 56 10 bt 29)) (dG 58 0 8 kz (dc 301) (hC 57 p5 0 p6 1 16 17) (fG 64 0 v ge (fH aq 1 (d 16) (M [aA,bt] [(0,1,.t 69),(1,1,.t 70)]) (bb 1 2 [aA,bt] [(0,.t 71)]) (aW 2 32 p5) (di 64) ge iC) (nu (gI 76 (go 7) j7 ae (gN 7) e6 jX f5 E' (gk 83 84 v (fO 2 (GJ hQ)) (hV 87 16 (am jF) (ah 89 (bw 90 0 16 ih aq (f8 gq p5 2))) (db 10 jl 28 E')))) (el 18 (gv 97 1 8 bg d4 E' (gS 2 101 101 2 3 (hc 102 20 (aQ 104 18 0 (d 20) (dc 302) (b0 iR (hd 8 p5) 18) (eY 110 20 q 123 111 (fx 112 18 0 20 (dc 302) (b0 iR (hd 8 p5) 18))))) 118 100 100) (hq 10 119 18 (d 119) d4))))))))))
def Tryz.ajk:=fB 18 []<|br 4 p3 eE v i4 (k aq (gQ p5) ae gu (hi (aO 303) dQ)) (ah 13 (bw 14 0 1 lE i4 iC))
def Tryz.ajl:=fB 29 [.tmp 6]<|gW 6 (br 8 p8 v je aq (ad bg 7) (nu (aa 13 1 eV mm ae (k (dz 7) (bm p2 1) (em gp) (bm p4 2) (a (gX f3) (s p6 (dh 1048576)) (fN p7))) (ah 23 (dX 24 0 (ii 40) (bB 6 ab)))) (bB 6 bQ)))
def Tryz.aqa:=fB 31 [.tmp 2]<|fQ 2 (br 4 p4 v je aq (Z p8 v je aq (k bg fg (d8 p7) aq (R 3))) (fG 16 0 v je (fH aq 0 v je aq bg fg (iB 1 p7) (a (di 16) je (gE 29 27))) (ew 30 3 2)))
def Tryz.ajm:=fB 77 []<|br 7 p7 v dF aq (aF v dF aq v dF ge aq hM (ad kU 4)) (nu (fG 20 4 v i4 (fH aq 4 v je aq (N 232 [kX,lu,jx]) eF ae (hP gu (W (e8 jy false 303 [j1])) (em eF) jE)) (ah 35 nI)) (fy 36 3 (dN bg 4 v i4 (b0 aq (bR p5) 5)) 46 3 (eJ kO i1 (aO 67) 6) (fG 53 0 v je (fH aq 5 (iB 1 p2) he v dF aq hM (a jZ (N 73 [.t 63,.t 64,.t 65]) (fv 57 56 (Q' p8 (gL 1 (q' 57) p9) (a (en 1 8 59 66) (di 53) (h4 3 69 67)))))) (gb 70 v i4 (f8 ja p5 2)))))
def Tryz.ajn:=fB 102 []<|br 7 p7 v dF aq (aF v dF aq v dF dF aq hM (a (fT 2) kT (fr 4 jL 2 4))) (nu (eA 21 0 0 4 bg (k (bp (P 1)) (e9 4) aq bg (bT (dg 232 p8 p4) eF)) (ah 30 nI)) (dX 32 0 (aF v dF aq v i4 aq he (N 233 [kw]) (Q' p9 (dY 34) (gr p6 p7 (gr p3 p4 (a gq (N 304 [gc,lv]) (hC 31 (q' 31) 0 (q' 31) 1 5 6)))))) (ey (ai 52 6 eF (R 51) (o 51 (hX 54 v (ii 24)) (aQ 60 5 0 v dF (aF aq v dF aq v dF ge aq (b0 bg (dW (q' 60)) 59)) (o 59 (hX 74 v (ii 40)) (dX 80 0 (aF v dF aq v dF ge aq kO (k kU ge aq hM (ad (F aX p2) 79))) (o 79 (hX 97 v (ii 25)) (hy 48 0 kO 234))))))))))
def Tryz.ajo:=fB 189 []<|iz 3 (ey (iv 39 0 3 257 38 (o 38 (nu (dX 42 0 (hP v ge aq hr) (ah 49 (dX 50 0 (ii 27) nI))) (hX 55 v (k v ge aq fg (f7 p5 ge iC)))) (iv 66 0 3 256 65 (o 65 (eA 69 0 1 3 kG (k aq fd md hG (bT aq (dg 232 p9 p3))) (ah 78 (dX 79 3 (k bg hG aq (bR p3) ka) (bw 87 0 0 v je (fH aq 4 kG aq fd (bR p4) ko (N 305 [.t 91,.t 96,.t 97]) (a (di 87) je (gE 100 98))))))) (iv 102 0 3 26 101 (o 101 (hv 105 k2 E' 106 (bJ 107 0 kb E')) (iv 110 0 3 27 109 (o 109 (hv 113 (hR p1 3 1) E' 114 (aa 115 0 kb he kb (a he kb (f 5 p5 (df 6 p3 7))) (b4 121 5 gq (am (ga q 0)) (ah 123 (aU 124 jZ 7)) (bw 125 0 7 iR (dV 306) E')))) (iv 130 0 3 66 129 (o 129 (hv 133 mu E' 134 (ix 135 kG iR (g2 306))) (gI 141 ht (a1 32) ae mo e6 (fJ (bL 36)) f5 (R 140) (o 140 (hy 149 0 (aP 3 3) 307) (gI 153 ht (a1 40) ae mo e6 (fJ (bL 64)) f5 (R 152) (o 152 (hy 161 0 (aP 3 3) 308) (dG 165 0 3 (aO 11) (b6 1) (R 164) (o 164 (hv 169 mv E' 170 (dG 172 0 3 he (N 233 [.t 174]) (gr p3 p4 (fS (N 13 [.t 173,.t 175]) 171 (dA p6 0 p7 1 8 p2 9))) (dX 179 0 (bT kn (dc 133)) (bw 185 0 8 iR (dV 306) E')))) (hv 14 (hR p1 2 1) E' 15 (aa 16 0 kb he kb (df 10 p3 11) (dG 21 0 3 jb hA (fS (eM 12) 20 (dA p6 0 p7 1 12 p2 13)) (dX 28 0 (bT lI (dc 133)) (bw 34 0 12 iR (dV 306) E'))))))))))))))))))))))
def Tryz.aqb:=fB 28 [.tmp 2]<|gW 2 (ak 6 p6 (aO 309) (hC 5 p3 0 p4 1 3 4) (fn 10 p7 h0 ae gu (aF (eg 15) dQ ae gu (eg 16) dQ ae gu (k (eg 17) dQ ae gu (b0 (eg 256) dQ 2)))))
def Tryz.aqc:=fB 25 [.tmp 2]<|eT 2 (eT 3 (gM 4 (fa 0 (br 5 p1 dd bg hD E' (iu 8)) 1 (nu (aa 11 0 dy fA aq (bT (aO 139) hr) (fu 16 2 (-1))) (fx 17 3 0 4 fA (eJ aq (aO 139) (bp p6) 3))) (a5 9 eE ja ka)) (ew 24 3 2)))
def Tryz.aqd:=fB 114 [.tmp 10,.tmp 11]<|L 7 io io (f 10 lC (bP 11 0)) (Y (eH 19 hO E' (f1 20 10 bt 2)) (gI 21 (go 8) (aO 238) ko bg jz ae (ho 8) (hP gh (em (aO 238)) (fl hz) (bv p5)) (f1 32 10 bt 1)) (nu (dX 33 2 (bT bg (a1 1024)) (f1 38 10 bt 29)) (dG 40 0 8 ko (dc 310) (hC 39 p5 0 p6 1 12 13) (dG 47 0 8 kz (dc 311) (hC 46 p5 0 p6 1 14 15) (fG 53 0 v i4 (fH aq 1 (d 14) (M [aA,bt] [(0,1,.t 58),(1,1,.t 59)]) (bb 1 2 [aA,bt] [(0,.t 60)]) (aW 2 32 p5) (di 53) i4 iC) (nu (gI 65 (go 7) j7 ae (gN 7) e6 jX f5 E' (gk 72 73 v (fO 3 (GJ hQ)) (hV 76 14 (am jF) (ah 78 (bw 79 0 14 ih aq (f8 gq p5 3))) (db 10 jl 28 E')))) (el 16 (gM 17 (fa 0 (eA 86 17 1 8 bg (am (b7 p4)) (iu 90)) 1 (eT 18 (fa 2 (eA 93 18 1 8 (d 17) (hP fA aq (aO 139) (b7 p7)) (a0 100 2)) 3 (bw 103 16 0 (e9 8) aq (O 17 fA aq (ax 312 p6) (b0 iR (hd 8 p9) 16))) (fL 101 18 1 18))) (fL 91 17 1 17)) (hq 10 113 16 (d 113) d4)))))))))
def Tryz.aqe:=fB 110 [.tmp 6,.tmp 7]<|e 5 (D' 3 io (a d3 d4 e3)) (nu (er 10 (b9 p5) E' (hm 13 p2 15 12 12 (dG 14 1 3 hM kU (a je aq iY) nI) (iq 21 11 16 20 20 (nu (gI 22 j0 hz ae (ho 5) gh (em hG) ib k6 (dD 32 6 d4 0 E')) (gI 33 hG j0 aq (ds 7 p3) i4 aq hG (k aq j0 aq (ds 7 p3) (a je aq (df 6 p8 7))) nI)) 48 11 17 47 47 (nu (gI 49 j0 hz ae (ho 5) gh (em ht) ib k6 (dD 59 6 d4 0 E')) (gI 60 ht j0 aq (ds 2 p3) dF aq bg (aF ja ht aq j0 aq (ds 2 p3) ge aq (hF bg 6 p9 7)) nI)) (gi 78 q 11 256 77 77 (nu (gI 79 j0 hz ae (ho 5) gh (em (dh 1048576)) jE (Z p1 (gD (p 2 5)) gh (em (bV qf 1048576)) (fN p4)) (dD 91 6 d4 0 E')) (gI 92 j0 (p 2 5) aq fd md j0 aq (df 6 p3 7) nI)))))) (et 101 0 5 (fS (aO 309) 100 (dA p4 0 p5 1 8 p2 9)) (hY 106 8 qN 0 107 (db 6 d4 0 E') (dI 108 8 9 (ia 6 7)))))
def Tryz.aqf:=fB 18 [.tmp 2]<|gW 2 (eC 3 p3 v k5 aq (am (a1 262144)) (ah 7 (ak 8 p8 v (iI 7 41) l8)) (dX 11 5 (f8 ja p5 5) l9))
def Tryz.aqg:=fB 48 []<|bO 8 p8 (aO 241) (am eF) (ah 10 nI) (dw 11 1 0 (fH bg 0 v dF ge aq gU kU (eJ i4 aq (bR (q' 15)) 6)) (el 7 (aQ 26 7 1 v dF (gT 6 i1 (hd 8 p7) kZ) (bw 34 1 1 v dF (gT 6 (iB 1 p2) he (a gU jj (ec 76 [gc,kw,l2] (gr p7 p8 (Q' p5 (gL 1 p7 p6) (a (en 1 8 40 44) (di 34) (h4 0 47 45)))))))))))
def Tryz.aqh:=fB 35 [.tmp 4,.tmp 5]<|gO 4 d4 ab (eC 6 p6 hO ae (gD dy) (aF (de fd) ky (fl v) (gX kF) lo lp (s p8 (dW p6)) (bv p9) (Z p1 gu mi (em kF) (k ib (bm p5 1) (s p6 fA) (s p7 aq) (hE (s p8 (b6 (-1))) p9)))) (ah 27 (hS 4 d4 ab)) (dX 28 12 (a hM fA (fS aq 4 (z 5 gJ))) nI))
def Tryz.aqi:=fB 207 []<|az 7 io (er 12 (b9 p5) E' (hm 20 p7 26 19 19 nI (fo 22 p9 27 21 21 (ai 23 4 (bV aX 0) E' (o 24 (bw 25 1 1 v dF (fH aq 3 ih aq iR (en 1 8 29 33) (di 25) dF (gE 36 34))) (bw 37 1 1 v dF (fH aq 3 (f2 1) aq iR (en 1 8 41 45) (di 37) dF (gE 48 46))))) (it 50 13 32 49 49 (bw 51 1 1 v dF (fH aq 1 v ge aq lb aq kA (k aq iR (en 1 8 55 64) (di 51) (h4 0 67 65)))) 69 13 33 68 68 (aG 70 1 v ge aq (fC lb aq 3 ih (a aq (aT p6 p4) (gE 79 78)))) 81 13 34 80 80 (dw 82 1 1 (fC lb aq 3 ih (a aq (aT p6 p4) (gE 91 90))) (bw 92 1 1 v dF (fH aq 3 ih aq iR (en 1 8 96 100) (di 92) dF (gE 103 101)))) 105 13 35 104 104 (dX 107 2 (a lb aq (fS (N 27 [.t 110,.t 112]) 106 (dA p8 0 p9 1 10 p2 11))) (bw 116 1 1 v dF (gT 10 iR lk (f7 p8 dF iC)))) (it 127 13 36 126 126 (gb 128 v i4 (fC lb aq 3 ih (bT aq (N 313 [.t 131,.t 133,.t 136])))) 139 13 63 138 138 (bw 140 1 1 v dF (fH aq 0 v i4 aq v (j 11) aq (ec 80 [.t 151] (Q' p9 (dY 143) (k b5 iR (en 1 8 144 154) (di 140) (h4 0 157 155)))))) 159 13 64 158 158 (bw 160 1 1 v dF (fH aq 0 v i4 aq v (j 11) aq (a ko gq (ec 314 [.t 171,.t 173] (fv 164 163 (k b5 iR (en 1 8 164 176) (di 160) (h4 0 179 177))))))) 181 13 66 180 180 (bw 182 1 1 v dF (k aq (p 2 7) aq iR (ea (en 1 8 186 189) p9 (h4 0 192 190)))) (aM 194 q 13 256 193 193 (bw 195 1 1 v dF (fH aq 3 (p 2 7) aq (eP 1 p3 p1 P6) (en 1 8 199 203) (di 195) dF (gE 206 204))) (bw 14 0 1 (B 3 p9) ji (am (P7 315 p4 p3 p2 p1)))))))))
def Tryz.ajp:=fB 29 [.tmp 2]<|gW 2 (ak 7 p7 (aO 142) (ip 6 p3 0 p4 1 (fk p5 2 3 p3 (ia 4 5))) (fn 12 p7 ae gu (eg 15) (aF dQ ae gu (eg 16) dQ ae gu (eg 17) (k dQ ae gu (eg 256) (ad dQ 2)))))
def Tryz.ajq:=fB 11 [.tmp 2]<|eT 2 (fR 3 mz (ey (nu (fK 5 p2 8 4 4 (fK 6 p3 16 4 4 (fK 7 p4 32 4 4 (aU 8 (u q p5 64) 4)))) (ah 4 (gz 9 p9 (hj 128) 2 nI)))) kK)
def Tryz.ajr:=fB 21 [.tmp 6]<|t 3 d3 (bP 6 0) (bO 7 p6 jt mf (fu 9 6 0) (dS 10 (B 16 p7) hM gU ld fd hM jf (dx p3) (eJ hM jf jI 6) nI))
def Tryz.aqj:=fB 24 [.tmp 2,.tmp 3]<|gO 2 d4 ab (bO 4 p4 kI E' (ey (d9 (fK 7 p2 21 6 6 (aU 8 (u q p3 22) 6)) 6 (hS 2 (af 8) ab) (fo 10 p5 23 9 9 (hS 2 (af 8) bQ) (d9 (fK 12 p7 24 11 11 (aU 13 (u q p8 25) 11)) 11 (hS 2 (af 16) ab) (it 15 5 26 14 14 (hS 2 (af 16) bQ) 17 5 27 16 16 (hS 2 (af 32) ab) 19 5 28 18 18 (hS 2 (af 32) bQ) 21 5 29 20 20 (hS 2 (af 64) ab) (gi 23 q 5 30 22 22 (hS 2 (af 64) bQ))))))) (hS 2 d4 ab))
def Tryz.ajs:=fB 38 [.cell 8 16 true]<|t 4 gj (bd 8 iL E') (Y (br 10 p8 hz ae (dz 2) kh (ah 17 (d5 18 jC 16 8 p1 E'))) (aV 19 1 uv 8 e3 (hw 0 22 22 0 1 23 9 (bw 24 2 1 (f9 8) (bY p3) (O 9 f3 ji kn (k mj jI hp (hf 1 4 p6) g3))) 36 21 21)) (d5 37 jC 16 8 p1 E'))
def Tryz.aqk:=fB 68 [.tmp 2,.tmp 3]<|gx 2 d4 0 (ak 7 p7 kI (ad (a7 96) 4) (eC 10 p6 hz ae lD (hi (a1 128) dQ) (dD 15 2 d4 0 E') (aa 16 4 (f9 32) ms ko (hF mk 5 p3 4) (gW 6 (Y (ey (d9 (fj 22 4 rK 1 21 21 (ik 24 4 11 4 14 21 (ej 21 (dO 30 4 (b6 17) 21)))) 21 (R' 6 k1) (dp 33 4 q 2 32 (o 32 (dO 35 5 (b6 8) 6) (d9 (fj 38 4 q 15 37 37 (fj 40 4 q 16 37 37 (fj 42 4 q 18 37 37 (fj 44 4 q 19 37 37 (dO 46 4 (b6 27) 37))))) 37 (dO 48 5 (bL 16) 6) (dp 51 4 q 21 50 (o 50 (dO 53 5 (dh 8) 6) (ik 56 4 22 4 25 55 (ah 55 (dO 62 5 (bL 32) 6)))))))))) (ai 64 6 eF E' (dD 65 2 d4 0 E')) (dI 66 5 4 (ia 2 3)))))))
def Tryz.aql:=fB 27 [.tmp 4,.tmp 5]<|gx 4 d4 0 (gM 8 (iJ 0 9 3 (bh 9 0 1 (gH 10 6 (fG 11 1 gp dy (b0 (e0 32) (bR p3) 7) (f0 17 7 0 7 (bT (dk (bi 4)) dv) (ah 22 (bK 23 6 ms (hF jj 4 p2 5)))))) 26 (ba 8 1) 8)) (db 4 d4 0 E'))
def Tryz.aqm:=fB 27 [.tmp 8]<|t 4 gj (z 8 (GJ ef)) (br 9 p6 dy (fY 2) hM (eJ j4 (bY p3) (bp p6) 3) (hY 16 2 qN 2 17 (bE 18 jC hM ji (eM 247) (ad b5 8) nI) (bE 23 jC hM ji ld (R 8) nI)))
def Tryz.aqn:=fB 101 [.tmp 12]<|fQ 12 (aa 15 0 fg (gw (-1)) he (a fg (gw 1) (hF fg 13 p5 14)) (fR 22 hM (hm 24 p2 14 23 23 (eN 25 2 3 f3 12) (fo 29 p7 15 28 28 (dZ 30 4 5 f3 lI j6) (it 39 22 16 38 38 (dZ 40 2 3 f3 he (eJ jG (bV sC 1) (yR p4 p1) 12)) 48 22 17 47 47 (eN 49 2 3 gp 12) 53 22 18 52 52 (dZ 54 4 5 gp lI j6) 63 22 19 62 62 (dZ 64 2 2 ji lm (ad (bR p4) 12)) (it 70 22 21 69 69 (eN 71 2 3 hT 12) 75 22 22 74 74 (dZ 76 4 5 lm b5 (R 12)) 81 22 23 80 80 (eN 82 2 3 lm 12) 86 22 24 85 85 (dZ 87 4 5 (Ey p2 p1) b5 (R 12)) (gi 92 q 22 25 91 91 (eN 93 2 3 (Ey p2 p1) 12)))))) (dZ 96 2 3 f3 (bV s0 1) (ad (bV uv 2) 12))))
def Tryz.aqo:=fB 30 [.tmp 2,.tmp 3]<|gx 2 d4 0 (gz 5 p5 kI 4 (Y (br 7 p3 (a1 35) ae (gR dd) (bT (dJ 64) dv) (ah 12 (fn 13 p9 (a7 35) (f9 10) ms (a ko (a7 35) (hF (fY 10) 2 p4 3))))) (f0 20 4 214 4 (bT (dJ 219) dv) (ah 25 (bE 26 (M [aA,aA,aA,aA,aA,aA] [(0,1,fs),(1,1,f4),(2,1,jp),(3,1,mB),(4,1,J 6),(5,1,ly)]) ko (a7 214) (hx 6 1 p3 p1) (df 2 (P 64) 3) nI))) (db 2 d4 (-1) E')))
def Tryz.aqp:=fB 62 [.tmp 6]<|gW 6 (br 9 p8 b5 dj b5 (df 7 p3 8) (fR 13 he (hm 15 p2 0 14 14 (eN 16 1 2 lT 6) (fo 20 p7 1 19 19 (eN 21 1 2 (F aX p2) 6) (it 25 13 2 24 24 (eN 26 1 2 iE 6) 30 13 3 29 29 (eN 31 7 8 iE 6) 35 13 4 34 34 (eN 36 1 2 mm 6) 40 13 5 39 39 (eN 41 7 8 mm 6) (iq 45 13 6 44 44 (eN 46 1 2 ir 6) 50 13 7 49 49 (eN 51 7 8 ir 6) (gi 55 q 13 8 54 54 (eN 56 1 2 mg 6)))))) (eN 59 7 8 mg 6)))
def Tryz.aqq:=fB 65 [.cell 6 16 true]<|L 4 d3 d3 (am jS) (aY 7 8 (hY 12 0 qf 102 13 (hh 7 16) (br 14 p7 fg (gw (-1)) jj (a fg (gw 1) (hF fg 8 p5 9)) (nu (b8 21 0 s5 32 (d6 6) 23 (bJ 24 7 (gw 1) (hF fg 8 (P 0) 9))) (h3 10 iL (b4 27 7 j4 e3 (hw 0 30 30 0 1 31 11 (bE 32 (bM 10) jj jb jC (hs jj jH jb (g6 40 i9 42 9 (ec 247 [jo,ku,kv] (Q' p8 (bM 10) (aC 41 (Ey p1 (q' 40)) 43 (yR (q' 41) (q' 42)) (aC 44 (a2 (q' 43)) 45 (N 249 [j1,ks,jc,lv]) (dB 16 10 45))))))) (R' 46 (g0 10 7 jj j4 (O 11 f3 jr jj (a jH jb (g6 57 i9 59 9 (ec 247 [jn,l3,l4] (dn 46 (bM 10) (aC 58 (Ey p1 (q' 57)) 60 (yR (q' 58) (q' 59)) (aC 61 (a2 (q' 60)) 62 (N 249 [lw,.t 47,.t 51,.t 61]) (dB 16 10 62))))))))))) 63 29 29) (d5 64 (bM 10) 16 6 p1 E')))))))
def Tryz.aqr:=fB 13 []<|R' 4 (Z p4 eE v dF (k aq dy (aW 3 24 p2) gt (fZ 0)))
def Tryz.ajt:=fB 59 []<|aN 10 0 v 0 hM (bT jK (dV 170)) (ey (fj 35 2 q 64 34 34 (aB 38 ko 37 37 (aN 39 0 v 0 gU (fH jf 2 ji hT (bR p4) b5 (dU kC 134) (ei 161 p9) E') (ff 51 v dF gU (hP jf b5 (dU kC 135) (ei 161 p5)))) (hY 16 3 qf 0 17 (ff 18 v dF gU (O 3 hT b5 (dU kC 136) (am (ei 161 p6)))) (ff 27 v dF gU (a (N 172 [jm]) jd (am (N 161 [j9,jy,j1]))))))))
def Tryz.aqs:=fB 31 []<|bO 6 p5 (bi 64) E' (gy 7 8 (Z p8 v dF hM (a (N 172 [.t 11]) jd (am (N 161 [.t 10,.t 12,kW]))))) (eY 15 2 qf 0 16 (aN 17 0 v 0 hM (O 2 hT b5 (dU kC 134) (am (ei 161 p6))) (ff 26 v dF (dU kC 132) (fI 169))))
def Tryz.aqt:=fB 26 []<|ak 7 p6 (hj 128) e3 (hw 0 10 10 0 1 11 6 (ai 12 2 eV (am (eD (.t 12) [kW])) (hX 15 v (O 1 jZ hM j4 (bT (hW p3) (N 259 [.t 18,.t 19,ls]))))) 25 9 9)
def Tryz.aqu:=fB 30 []<|dS 5 (h 1 p4) (h 1 p4) eV jH lZ (fY 2) hr (kC5 262 p7 (P 0) p6 p4 p1) E' (dS 13 lK la he jH ja jN (fY 2) hr (am (kC5 262 p8 (P 0) p7 p4 p1)) (R' 22 jW))
def Tryz.aqv:=fB 34 []<|gz 11 p9 j4 10 (hX 13 v (O 0 v ge aq (O 1 ji hA (fe p2) (k md (d8 p6) aq gU (O 3 hA (hW p2) ko (am (N 258 [lN,kr,jx,jy,j1])))))))
def Tryz.aqw:=fB 35 []<|L 3 (h 1 p2) im (am (iw 262 p2 (P 0) 16 p1 gJ)) (L 6 (h 1 p5) eV (am (iw 262 p2 (P 2) 16 p1 gJ)) (dS 9 (h 1 p8) v dF aq v dF ju (dc 169) E' (dS 17 lK v dF aq v dF (dU kC 124) (dg 161 p2 (eZ 16384)) E' (dS 25 lK v dF aq v dF (dU kC 135) (dg 161 p2 (eZ 15)) E' (a5 33 lK (kC2 264 p1 (eZ 32767)) E')))))
def Tryz.aqx:=fB 58 []<|br 5 p5 v dF aq lq (fy 14 0 (iA v dF 4 kC mb) 23 0 i2 (fy 32 0 kB 40 0 i2 (hX 49 v (fC v dF 1 (bb 2 1 kC [(0,J 83),(1,J 27)]) (am (eM 161))))))
def Tryz.aqy:=fB 36 []<|gM 4 (iJ 0 5 2 (bh 5 0 1 (gH 6 3 (bE 7 lZ dy jH eV (bT f3 (iw 262 p5 (P 0) 16 p1 gJ)) (bE 13 lK he jH ji (bT f3 (iw 262 p5 (P 2) 16 p1 gJ)) (R' 19 (aF lK v dF aq v dF ju (dc 169) E'))))) 27 (ba 4 1) 4)) (R' 28 jW)
def Tryz.aqz:=fB 41 []<|L 3 d3 d3 E' (L 9 (h 1 p5) (gw 1) (S' fg (aC 6 (ao kC) 7 (ao kC) (bs (aD 1 6 fs) (gr p3 p8 (gE 7 11))))) (fR 12 gU (gy 12 13 (k (h 1 p9) fg (gw (-1)) (dY 4) (hs fg (gw 1) fg (bu 1 6 15 (Q' p4 (dY 4) (gE 7 19)))))) (dS 20 jN v dF aq v ge ge aq (fr 8 kC 1 8) (bE 28 jN (dY 4) (Ex (JM 316 [.t 4,.t 3,.t 8,.t 6,.t 7])) (eM 260) E' (R' 32 (aF jN v dF aq (dY 8) (bX 2) (wm p3) ge (h4 1 40 37)))))))
def Tryz.aqA:=fB 27 []<|iz 2 (aY 4 135 (nu (bE 7 (h 1 p5) v ge aq (bT bg (b6 4)) (gy 12 4 (bj 156))) (aQ 13 1 4 gp (f9 32) (dN ms 1 ko gp (S' mk (aC 5 (ao kC) 6 (ao kC) (a3 1 5 p5 (iK 1 6 E'))))) (R' 22 (k la (dY 5) jH (Ex (JM 318 [.t 6,.t 5,.t 2])) (am (ei 260 p4)))))))
def Tryz.aqB:=fB 29 [.tmp 2]<|el 2 (el 3 (bO 6 p6 bg e3 (gS 0 9 9 0 1 (hc 10 5 (nu (au 2 (bO 12 p7 (bV qD 128) E' (a0 13 2) (xV 3 (aQ 14 3 5 hp (hZ GN 128) kN (dO 20 5 (dH 7) 5))))) (bw 22 3 5 hp jB (fp 1 1 p4 3)))) 27 8 8) (ew 28 3 2)))
def Tryz.aqC:=fB 169 [.tmp 2]<|gW 2 (nu (au 0 (bO 7 p7 ki (am jF) (iu 9) (xV 1 (eH 10 (g4 0) (R 3) (fP 12 p9 qN (m 128) E' (gk 13 14 (g1 p1 1) (R 0) (nu (aa 16 0 ki (dh 8) ae (k js (dk (aO 319)) (fJ iy) (hB i6) (am ln)) (gk 24 25 (g1 p1 8) (R 0) (e 33 (aC 27 he 28 (KM p6) (D' 29 (u qf p5 16) (f 30 p4 (D' 31 (bW p3 0) (a (bW p3 0) (hB (g1 p1 8)) (D' 32 (W (e8 jm true 319 [jy])) (Q' p1 (iF (g1 p2 8)) (k (W (e8 jm true 319 [jc])) (H p6 (eU p4)) (H p7 iy) (H p8 i6) (am (bI p9)))))))))) (gk 39 40 (g1 p1 16) (R 0) (au 2 (nu (e 55 (aC 42 he 43 (KM (q' 42)) (g6 44 (aw qf 43 32) 45 44 (aC 46 kR 48 kR (aC 49 (fV 45 (g1 p7 8)) 52 kR (D' 53 (fV 45 (g1 p3 16)) (a kR (fV 45 (g1 p1 24)) (D' 47 (W (e8 kx true 319 [lw])) (Q' p8 (fV 45 (g1 p9 8)) (Q' p4 (fV 45 (g1 p5 16)) (Q' p1 lh (D' 50 (W (e8 kx true 319 [lx])) (Q' p4 (fV 45 (g1 p5 16)) (Q' p1 lh (aC 51 (fV 45 (wo GN (q' 47) p7)) 54 (W (e8 kx true 319 [.t 53])) (Q' p1 lh (k (W (e8 kx true 319 [l5])) (fV 45 (eU p4)) (fV 45 (eU p8)) (fV 45 iy) (bT (fV 45 i6) (bI (q' 45))))))))))))))))))) (a0 62 2)) (xV 3 (dO 63 0 (g1 p1 32) 0)))))))) (Q9 1))) (ai 65 3 (Ax 256 1 oX' p1) (ad aq 4) (ai 68 4 (hZ sD 7) (ad fd 5) (aa 71 4 (dH 4) (Ax 16 2 oX' p1) kT (fr 6 [aK,aK] 2 6) (az 75 kO (xV 4 (fo 77 p2 2 76 76 (nu (aa 78 0 ki (bi 2) ae (aF gu (de (g4 1)) (em lj) ib (gX hD) ke ae (ho 6) (k gh ky (fl (g4 1)) (gX hD) (fN p6))) (gg 94 2)) (dO 95 0 (g1 p1 2) 0)) (iq 98 75 3 97 97 (nu (aa 99 0 ki (bi 3) ae (gP gu (de (g4 1)) (em lj) ib (gX hD) ke ae (ho 6) gh ky (fl (g4 1)) (gX hD) ke ae gu mh (k k0 jE ae gu (a mh lf (fN p4)))) (gg 125 2)) (dO 126 0 (g1 p1 3) 0)) 129 75 4 128 128 (nu (aa 130 0 ki (bi 4) ae (gP gu (de (g4 1)) (em lj) ib (gX hD) ke ae (ho 6) gh ky (fl (g4 1)) (gX hD) ke ae gu mh (aF k0 jE ae gu mh lf jE ae (k gu (de (g4 3)) k0 jE (Z p1 gu (de (g4 3)) lf (fN p4))))) (gg 166 2)) (dO 167 0 (g1 p1 4) 0)) l8)))))))))))) l9)
def Tryz.aqD:=fB 30 [.tmp 2,.tmp 3]<|h1 2 bt 0 (bO 9 p9 (aO 320) (am eF) (f1 11 2 bt 1) (el 4 (hV 12 0 e3 (gS 0 15 15 0 1 (h7 16 6 p2 6 6 i7 6 6 (L 19 (aP 6 6) (aO 321) (hC 18 p3 0 p4 1 7 8) (b4 23 8 eF E' (f1 24 2 bt 1) (bJ 25 4 jj (fp 1 1 p2 4))))) 28 14 14) (hq 2 29 4 (d 29) d4))))
def Tryz.aqE:=fB 29 [.cell 4 2 true,.tmp 5]<|fz 4 2 gj (ao jL) (l ab) (eC 7 p6 hz ae lD (k (de (b9 p9)) (em aq) (fl bg) (gX (dW p4)) (fN p6)) (ah 15 (d5 16 jh 2 4 p1 (z 5 (x false)))) (dG 17 0 2 hM (fT 2) (S' kT (fr 6 jL 2 6)) (e 25 (aC 22 lj 23 (h 1 p3) (a (e9 6) aq (fW 24 70 [ls] (gr p1 p2 (a (N 70 [kY]) (M jL [(0,1,lu),(1,1,kr)]) (bu 2 4 28 (z 5 gJ))))))) nI)))
def Tryz.aqF:=fB 27 [.tmp 4]<|el 4 (Y (h2 5 p4 hz (gy 6 7 jQ)) (br 8 p7 dj kl he mF (eY 15 1 qf 0 16 (bw 17 0 0 kl (iB 2 p3) (O 1 (Ex (tL 2 16 [aA,aA] kX l1)) he bg (ad (iB 2 p3) 0))))) (ew 26 0 4))
def Tryz.aqG:=fB 27 [.tmp 4]<|el 4 (Y (h2 5 p4 hz (gy 6 7 jQ)) (br 8 p7 dj kl he mF (eY 15 1 qf 0 16 (bw 17 0 0 kl (iB 1 p3) (O 1 (Ex (tL 1 8 kC kX l1)) he bg (ad (iB 1 p3) 0))))) (ew 26 0 4))
def Tryz.aqH:=fB 68 []<|L 4 d3 d3 E' (er 8 (b9 p3) E' (ey (d9 (fK 11 p2 7 10 10 (fK 12 p3 8 10 10 (aU 13 (u q p4 14) 10))) 10 (fG 14 0 v dF (k k4 aq bg jF (Z p1 (gN 4) e6 (fJ j0) (hP kg (iF (fU p3)) lA (ax 282 (q' 14))))) (ix 30 (go 5) (ep 8) (Z p1 (gD (p 3 4)) gh (em j0) (k ib (gX (e4 (eZ 16))) (s p6 (b7 p4)) (bv p7) (am (N 282 [jm,gc])))))) (aM 44 q 9 13 43 43 (ix 45 (e9 4) j0 (a aq hD (bf 282 p6))) (gi 53 q 9 12 52 52 (dG 54 3 4 (p 4 4) aq (a (M l6 [(0,1,l4),(1,1,.t 57)]) (aO 94) e3) (iJ 1 61 16 (bh 61 1 2 (ap 62 (hx 16 1 p3 p2) 7 (bw 63 0 7 (hZ qN 32) (dV 282) E')) 67 (fD p7 1) 60))))))))
def Tryz.aqI:=fB 18 []<|ak 5 p4 bg (ad fg 4) (fa 0 (h2 8 p4 h0 (iu 9)) 1 (fx 12 0 1 4 fA (hl aq 279)) (a5 10 dd fg ka))
def Tryz.aqJ:=fB 13 []<|R' 4 (Z p4 eE v kF (k aq dy j8 gt (fZ 12)))
def Tryz.aqK:=fB 69 [.tmp 4]<|eT 4 (gz 7 p7 lU 5 (eC 9 p9 v kF aq (k bg dj v ge (bT aq (F q p5))) (ah 18 (fG 19 5 v k4 (hl aq 282) (ew 25 1 4))) (dX 26 12 (O 0 v kF aq (k bg fg (d8 p7) aq i8)) (fG 38 0 v kF (fH aq 0 v kF aq bg fg (iB 1 p7) (a (di 38) kF (gE 51 49))) (fG 52 6 hM lT (Z p1 (dz 6) (eg 0) dQ (Z p1 ig (eg 0) dQ (bf 282 (q' 52)))) (hY 65 6 q 0 66 (ew 67 1 4) (ew 68 6 4)))))))
def Tryz.aqL:=fB 31 [.cell 4 2 true]<|h3 4 jL (nu (ey (gz 8 p7 h0 7 (o 7 (aN 11 0 v 0 (eS 11) (a hM (dc 273) (ip 10 p7 0 p8 1 (bn 5 jL 2 5 p2 i8))) (eH 19 jZ (fI 282) (d5 22 (aP 2 5) 2 4 p1 E'))) (b8 24 1 q (-64) (R 23) 23 (d5 26 jh 2 4 p1 E'))))) (ft 27 1 (bX 128) jK (M jL [(1,1,j9)]) (iK 2 4 E')))
def Tryz.aqM:=fB 80 []<|br 5 p5 lU v (eS 6) (bd 4 jq (dq 6 p5 p1)) (br 9 p9 (ph 3 p6) aq (dV 277) E' (fG 13 0 v kF (k aq bg (e9 4) aq (bT (F q p3) (N 282 [kW,l1]))) (fG 23 0 v kk (fH aq 0 v kk aq bg fg (iB 6 p7) (a (di 23) kk (gE 36 34))) (Y (dX 37 14 E' (ah 40 (dZ 41 0 0 v kk (k aq (aP 6 4) (bb 1 6 jq [(0,lw)]) (en 6 72 45 47) (f7 p8 kk (gE 50 48)))))) (eY 51 1 q 5 52 (eA 53 0 2 4 (p 3 4) (a aq (M jL [(0,1,l4),(1,1,.t 57)]) (am (dg 218 p6 (P 5)))) (eA 60 0 2 4 (dV 278) E' nI))) (eA 64 0 0 4 (ep 4) (Z p1 (gD (p 2 4)) gh (em (p 3 4)) (hP ib (gX (dV 322)) ke (ax 282 (q' 64)))) (iG 76 (p 3 4) 278 E'))))))
def Tryz.aqN:=fB 15 []<|R' 4 (Z p4 eE v (j 14) (k aq ae lD (de eF) (f8 dQ p9 14)))
def Tryz.aqO:=fB 89 []<|iz 3 (er 9 (b9 p6) E' (hm 15 p5 0 14 14 (bJ 16 0 (aO 323) E') (fo 19 p9 12 18 18 (fG 20 0 hG aq (hl (dV 324) 277) (bJ 26 0 (aO 323) E')) (iq 29 10 13 28 28 (eH 30 kD E' (eA 32 0 1 3 (dV 324) ka (eH 36 ko (fI 277) (hy 39 0 ko 278)))) 43 10 14 42 42 (eH 44 kD E' (eA 46 0 1 3 (dV 324) mD (gv 50 5 3 bg d4 E' (gS 1 54 54 1 2 (hc 55 7 (eH 57 jj (ad (dc 324) 8) (fG 60 8 bg kO (a bg (F q p3) (bf 282 p6)) (hy 67 0 i9 325)))) 70 53 53) (eH 71 kO (fI 277) (bJ 74 0 (aO 323) E'))))) (aM 77 q 10 15 76 76 (fG 78 0 v kk (k aq (gZ 6 0) je aq (bf 277 p8)) (bJ 87 0 (aO 323) E')) (hy 11 0 (B 6 p9) 326))))))
def Tryz.aqP:=fB 54 [.tmp 4,.tmp 5]<|h1 4 bt 0 (nu (aa 10 0 bg hM bg (am jz) (f1 14 4 bt 1)) (el 6 (hV 15 0 e3 (gS 0 18 18 0 1 (ak 19 p2 lz (hF aq 7 p3 8) (aQ 22 1 7 (fT 16) f6 (S' (aO 93) (fr 9 l6 2 9)) (az 27 i9 (xV 2 (fo 29 p2 127 28 28 (aG 30 6 lM aq eI (b0 iR (hd 8 p5) 6)) (iq 37 27 126 36 36 (aG 38 6 lM aq iR (fp 1 8 p4 6)) 44 27 123 43 43 (aG 45 6 lM aq (e9 9) (eJ aq (bb 2 1 [ef] [(0,.t 47),(1,lx)]) (hd 8 p6) 6)) (db 4 jl 1 E'))))))) 52 17 17) (hq 4 53 6 (d 53) d4))))
def Tryz.aqQ:=fB 31 [.tmp 4]<|fQ 4 (fQ 5 (Y (br 6 p6 v dF aq (bT bg jF) (ah 11 (dX 12 0 (b0 ih aq 5) (bw 18 0 0 v dF (k aq (eP 1 p1 (P 1) P6) (wm p6) dF iC))))) (eY 26 1 q 127 27 (dO 28 5 eI 5)) (ew 30 5 4)))
def Tryz.aqR:=fB 26 [.tmp 2]<|gW 2 (eC 3 p3 v dF aq (hP v i4 aq (b6 262144)) (ah 10 (dX 11 0 (ii 41) l8)) (dX 16 0 (k v i4 aq ja (f7 p5 i4 iC)) l9))
def Tryz.aqS:=fB 39 [.tmp 4,.tmp 5]<|gO 4 d4 ab (eC 6 p6 hO ae (gD dy) (gP (de b5) ky (fl v) (gX je) (s p6 dF) (s p7 aq) (s p8 bg) (s p9 b5) (iD 8 (dW p8)) (bv (q' 8)) ae gu mi (em je) (fl dF) (gX aq) (k (bm p6 1) (s p7 fA) (s p8 aq) (s p9 hz) (fN (q' 20)))) (ah 30 (hS 4 d4 ab)) (aN 31 0 v 3 dF lY nI))
def Tryz.aqT:=fB 33 [.tmp 6]<|el 6 (br 8 p8 dy dy he (bT bg fM) (b4 14 1 gU (am lT) (ah 16 (ew 17 0 6)) (eH 18 bg kZ (fG 20 1 (iB 1 p2) he (eJ gU i1 (en 1 8 22 25) 0) (fG 27 0 bg jj (S' (bN 1 p4 (T8 p2) p1) (N' fM E')) (ew 32 0 6))))))
def Tryz.aqU:=fB 13 []<|R' 4 (Z p4 eE v je (k aq dy j8 gt (fZ 3)))
def Tryz.aju:=fB 134 []<|iz 3 (er 8 (b9 p5) E' (hm 11 p2 32 10 10 (hv 12 mu E' 13 (bw 14 0 0 v k4 (k aq hG aq kA (a aq iR (am (N 306 [kq,ls])))))) (iq 26 9 33 25 25 (hv 27 k2 E' 28 (gb 29 v k4 (fC hG aq 0 (N 233 [jo]) (hn (gr p3 p4 (S' lz (gE 37 36))))))) 39 9 34 38 38 (hv 40 mv E' 41 (gb 42 v k4 (aF hG aq he v je aq he v (k je aq bg fg (hs (d8 p7) aq (aT (q' 45) (q' 47)) (gE 60 59)))))) (aM 62 q 9 35 61 61 (dX 64 0 (aF v dF aq v i4 aq hG aq (fS (N 26 [.t 73,.t 75]) 63 (dA (q' 63) 0 (q' 63) 1 4 p2 5))) (ai 79 5 eF E' (o 80 (hX 81 v (ii 40)) (hv 86 mu E' 87 (bw 88 0 4 iR (dV 306) E'))))) (gi 93 q 9 36 92 92 (dX 95 0 (aF v dF aq v i4 aq hG aq (fS (N 26 [.t 104,.t 106]) 94 (dA (q' 94) 0 (q' 94) 1 6 p2 7))) (ai 110 7 eF E' (o 111 (hX 112 v (ii 40)) (hv 117 k2 E' 118 (hX 119 v (aF v dF aq v i4 aq hG aq (a he (N 233 [.t 131]) (fv 122 121 (gr p8 p9 (hn (gr p3 p4 (am (N 352 [.t 128,.t 130,.t 132]))))))))))))))))))
def Tryz.ajv:=fB 99 []<|iz 3 (br 8 p8 v dF aq (k v dF aq v (eJ i4 aq (aO 31) 4)) (ey (ai 43 4 hO (R 42) (o 42 (hX 45 v (ii 40)) (iv 51 0 3 63 50 (o 50 (hv 54 mu E' 55 (bw 56 0 4 (aO 79) b5 (hl iR 306))) (iv 63 0 3 64 62 (o 62 (hv 66 mv E' 67 (fx 68 0 4 0 kb (k gq (ax 353 p4) b5 iR (bf 306 p8)))) (et 78 0 3 (ad (a1 54) 77) (o 77 (eH 81 (hR p1 2 0) E' (gk 82 83 kb mD (hX 85 v (O 4 ht aq he (aC 94 kG 95 (dY 94) (D' 96 kO (ec 233 [.t 92] (gr p6 p7 (gr p3 p4 (fv 95 94 (fW 97 354 [.t 89,.t 91,.t 93,.t 95,.t 96] (gr p6 p7 (fW 98 133 [.t 88,.t 97] E'))))))))))))) (hv 19 mv E' 20 (eA 22 4 0 3 he (aC 27 kG 28 (dY 27) (ec 233 [h9] (gr p3 p4 (fv 28 27 (g6 29 (N 355 [lr,lu,kY,jx]) 21 29 (aC 30 (iH p6) 31 (gC p6) (g6 6 (d 30) 7 31 E'))))))) (dX 32 0 (bT jj (dc 133)) (bw 38 0 6 iR (dV 306) E'))))))))))))))
def Tryz.aqV:=fB 60 [.tmp 2,.tmp 3]<|gx 2 d4 0 (dS 6 (M iS [(0,1,fs),(1,1,fs),(2,1,fs)]) (M iS [(0,1,J 12),(1,1,fs),(2,1,fs)]) (M iS [(0,1,lF),(1,1,f4),(2,1,fs)]) (M iS [(0,1,J 14),(1,1,f4),(2,1,fs)]) (M iS [(0,1,J 26),(1,1,f4),(2,1,fs)]) (M iS [(0,1,J 27),(1,1,J 3),(2,1,f4)]) (M iS [(0,1,J 32),(1,1,fs),(2,1,f4)]) (M iS [(0,1,J 33),(1,1,f4),(2,1,fs)]) (gP (M iS [(0,1,J 34),(1,1,f4),(2,1,f4)]) (M iS [(0,1,J 35),(1,1,fs),(2,1,f4)]) (M iS [(0,1,J 36),(1,1,f4),(2,1,fs)]) (M iS [(0,1,J 40),(1,1,f4),(2,1,f4)]) (M iS [(0,1,J 41),(1,1,f4),(2,1,f4)]) (M iS [(0,1,J 54),(1,1,jp),(2,1,fs)]) (M iS [(0,1,J 55),(1,1,jp),(2,1,fs)]) (M iS [(0,1,J 58),(1,1,jp),(2,1,fs)]) (M iS [(0,1,J 59),(1,1,jp),(2,1,fs)]) (M iS [(0,1,J 60),(1,1,jp),(2,1,fs)]) (M iS [(0,1,J 61),(1,1,jp),(2,1,fs)]) (M iS [(0,1,J 62),(1,1,jp),(2,1,fs)]) (M iS [(0,1,J 63),(1,1,fs),(2,1,f4)]) (M iS [(0,1,J 64),(1,1,f4),(2,1,f4)]) (M iS [(0,1,J 66),(1,1,fs),(2,1,f4)]) (M iS [(0,1,J 257),(1,1,fs),(2,1,fs)]) (S' (M iQ [(0,3,.t 6),(3,3,.t 7),(6,3,.t 8),(9,3,.t 9),(12,3,.t 10),(15,3,.t 11),(18,3,.t 12),(21,3,kW),(24,3,kq),(27,3,.t 15),(30,3,lN),(33,3,l0),(36,3,.t 18),(39,3,.t 19),(42,3,kX),(45,3,l1),(48,3,lr),(51,3,ls),(54,3,lu),(57,3,h9),(60,3,kY),(63,3,kr),(66,3,jx),(69,3,j9)]) (fr 4 iQ 72 4))) (Y (eT 5 (fa 0 (aV 31 5 qN 24 E' (iu 32)) 1 (aa 35 5 mE (Ax 3 1 p1 (P 0)) aq (bT he lT) (ah 40 (ft 41 5 mE (Ax 3 1 p1 (P 1)) aq (O 5 mE (Ax 3 1 p1 (P 2)) aq (df 2 p5 3))))) (fL 33 5 1 5))) (f0 49 0 44 0 (bT (dJ 53) dv) (dD 54 2 (af 1) 1 E')) (b4 55 0 (aO 356) (am jF) (ah 57 (bK 58 0 (aO 356) (ev 2 3 1))) (db 2 (af (-1)) (-1) E'))))
def Tryz.aqW:=fB 63 [.tmp 4,.tmp 5]<|h1 4 bt 0 (nu (aa 10 0 (aO 238) hM bg (am jz) (f1 14 4 bt 1)) (el 6 (eT 7 (gM 8 (fa 0 (br 15 p7 he bg hD E' (iu 18)) 1 (t 21 jP (fr 9 iL 16 9) (Y (fG 22 8 fA aq (d6 127) (o 26 (R' 27 (g0 9 1 jj fA (a aq (N 130 [kr,J 32,fs,jy]) (dB 16 9 32)))) (R' 33 (g0 9 1 jj fA (a aq (N 130 [ks,J 64,fs,ku]) (dB 16 9 38)))))) (fG 39 8 fA aq (d6 123) (gy 43 44 (g0 9 1 jj ja (a kA aq (ec 130 [lv,J 64,f4,lx] (dB 16 9 50)))))) (aa 51 6 (bM 9) (bb 1 16 iL [(0,jn)]) (aW 16 16 p3) i8 (fx 55 7 0 8 fA (eJ aq (aO 139) (bp p6) 7))))) (fL 19 8 1 8)) (hq 4 62 6 (d 62) d4)))))
def Tryz.aqX:=fB 58 [.tmp 4,.tmp 5]<|h1 4 bt 0 (eC 9 p9 bg hM bg (k jz ae gu (de (aO 238)) (hE (em hz) p4)) (f1 18 4 bt 1) (el 6 (gM 7 (fa 0 (aQ 19 7 0 bg hD E' (iu 22)) 1 (aQ 25 1 7 (fT 16) f6 (ad (g5 78 p1 64 0) 8) (nu (fG 30 7 fA aq (d6 127) (ah 34 (bw 35 1 7 (fT 16) f6 (ad (g5 78 p1 32 0) 8)))) (aQ 40 6 8 iR lk i8 (fG 44 7 fA aq (d6 123) (ah 48 (fx 49 6 1 7 (fT 16) (k f6 (g5 78 p1 64 1) iR (hd 8 p7) i8))))))) (fL 23 7 1 7)) (hq 4 57 6 (d 57) d4))))
def Tryz.aqY:=fB 31 [.tmp 4]<|fQ 4 (fQ 5 (Y (ak 6 p6 (aO 357) (am jF) (ah 8 (br 9 p9 v dF aq (O 0 v ge aq (b0 (d8 p5) aq 5)) (gb 19 v ge (f8 ja p5 1))))) (eY 26 1 q 127 27 (bK 28 5 kL ka)) (ew 30 5 4)))
def Tryz.aqZ:=fB 47 [.tmp 6]<|gW 6 (eH 11 hM (fS (dc 77) 10 (ay p4 0 p5 1 (fk p6 2 7 p3 (ia 8 9)))) (Y (h2 17 p8 eF (gg 18 6)) (aN 19 0 v 0 k5 (gT 7 (fT 3) dF (bT aq (b6 127))) (ah 28 (dO 29 2 kL 2))) (dX 31 13 (O 7 he v kk (gT 7 (fT 16) f6 (a i9 gU (ec 130 [kw,J 64,l2,lv] (fv 34 33 (S' (xl 16 (q' 34) (q' 35)) (dB 16 46 45))))))) (bB 6 bQ))))
def Tryz.aq0:=fB 57 [.tmp 4]<|aJ 4 hQ (aY 5 16 (Y (br 8 p8 (hI (Dm true)) ae js (aF (dk v) (fJ ge) kg (iF (ep (-1))) lA ae js (dk v) (hP (fJ ge) kg (iF (bi 16)) lA)) (ah 23 (gb 24 v ge mD))) (ez 28 0 hO ig (k (de fd) ky (fl (aO 80)) (gX jU) (a (bm p6 5) (s p7 mm) (fN p8))) (bS 38 4 me)) (eH 39 (aO 80) i8 (el 7 (aQ 41 7 0 v dF (b0 aq (hd 1 p5) 7) (fG 47 7 hM fd (k lS (Ex (tL 1 1 [aK] (.t 48) (.t 51))) (wm p6) dF iC) (bK 55 6 gq ka)))))))
def Tryz.aq1:=fB 105 []<|az 6 gj (fQ 8 (Y (gI 9 (b9 p3) (a1 54) ae (gR (b9 p7)) e6 (fJ (bL 62)) f5 E' (ah 16 (dZ 17 0 0 v i4 (k aq v (j 11) aq (O 3 ih aq kL (k (p 2 6) aq jU lj (S' aq (aC 35 ji 36 (eB (q' 35) 1) (D' 37 (dY 36) (ec 359 [ks] (fv 21 20 (fv 24 23 (gr p8 p9 (hn (fv 37 36 (aC 38 (N 358 [lu,jy,jc,ku]) 39 (di 17) (D' 40 (p 7 39) (gE 40 38)))))))))))))))))) (et 41 0 6 (am (bL 53)) (o 43 (bw 45 0 0 v i4 (aF aq v (j 11) aq lj aq ji ih (k aq (p 2 6) aq (N 360 [jn,l3,.t 57,.t 59]) (ip 44 (q' 44) 0 (q' 44) 1 (f 8 p2 (a (di 45) (j 7) (gE 64 62))))))) (ai 65 3 bg (d6 1) (o 67 (ix 69 lj ji (a ih aq (fS (N 361 [.t 71,.t 74]) 68 (ay p8 0 p9 1 (f 8 p2 (f7 p9 (j 7) (gE 79 77))))))) (ix 81 lj ji (fC ih aq 3 (f2 1) (a aq (N 362 [.t 83,.t 86,.t 89]) (ip 80 (q' 80) 0 (q' 80) 1 (f 8 p2 (a (di 81) (j 7) (gE 94 92))))))))))) (bw 95 1 1 v dF (gT 8 iR lk (f7 p8 dF iC)))))
def Tryz.aq2:=fB 37 []<|L 8 (h 1 p7) j4 kZ (dS 10 (h 1 p8) he eE (fe p2) jH lK jH he (a jj (hW p2) (am (N 262 [.t 10,kq,lN,.t 19,oC bQ]))) (dS 21 la v dF aq jN lE ge ge (gE 28 25) (bE 29 la (dY 4) b5 (dV 317) E' (R' 33 (hP la (dY 5) b5 (dV 264))))))
def Tryz.aq3:=fB 58 []<|br 5 p5 v dF aq lq (fy 14 0 (iA v dF 4 kC mb) 23 0 i2 (fy 32 0 kB 40 0 i2 (hX 49 v (fC v dF 1 (bb 2 1 kC [(0,J 85),(1,J 27)]) (am (eM 161))))))
def Tryz.aq4:=fB 39 []<|br 6 p6 lZ (fY 2) (h 1 p7) (eJ j4 (bY p3) (bp p6) 5) (bE 13 jN la kO lK (bT (bi 2) (kC5 262 p5 (P 0) p4 p3 p1)) (bE 19 jN v ge aq (bT bg (b6 4)) (ah 24 (bE 25 jN la kO lK (bT (bi 2) (kC5 262 p5 (P 2) p4 p3 p1)) (R' 31 (aF jN v dF aq v dF ju (dc 169) E'))))))
def Tryz.aq5:=fB 59 [.tmp 2]<|fQ 2 (nu (W4 (oC ab) (fn 3 p3 (g4 0) b5 dd (k (g4 1) b5 (g7 8) jJ (O 0 (g4 2) b5 (g7 16) (dN jJ 0 (g4 3) b5 (b0 (g7 24) jJ 2))))) xt) (ft 21 0 (g4 0) b5 he (k (g4 1) b5 (g7 8) jJ (O 0 (g4 2) b5 (g7 16) (fH jJ 0 (g4 3) b5 (g7 24) jJ he (g4 4) (aF b5 (g7 32) jJ he (g4 5) b5 (g7 40) jJ (O 0 (g4 6) b5 (g7 48) (dN jJ 0 (g4 7) b5 (b0 (g7 56) jJ 2)))))))))
def Tryz.aq6:=fB 59 [.tmp 2]<|gW 2 (el 3 (bO 7 p7 bg e3 (gS 0 10 10 0 1 (ak 11 p2 (gl 6 p3) (S' (eS 6) (bd 5 i7 (f 4 p3 (dq 6 p9 p1)))) (ai 14 3 bg i8 (et 16 0 5 E' (xV 2 (d9 (fK 19 p2 2 18 18 (fK 20 p3 3 18 18 (aU 21 (u q p4 4) 18))) 18 (nu (aV 22 6 q 128 E' (gg 23 2)) (aG 24 3 (go 5) aq jK (fp 1 8 p4 3))) (aM 30 q 17 5 29 29 (nu (ez 31 6 hr (dz 3) (k (bm p2 6) (em fg) (fl kA) (gX aq) (hE (s p6 (ep 4)) p7)) (gg 40 2)) (bw 41 3 6 fg kA (dr 1 (P 5)))) (gi 46 q 17 11 45 45 (hY 47 6 q 0 48 (dZ 49 4 0 bg fg (ad (F q p4) 2)) (bw 54 3 6 fg (iB 1 p3) (R 3)))))))))) 58 9 9) l8))
def Tryz.aq7:=fB 185 [.tmp 2,.tmp 3]<|fX 1 dT bt mr (et 11 0 1 (fS (aO 88) 10 kM) (nu (ez 16 5 eF (gD (aP 6 1)) (k (de (go 4)) (em aq) (fl (dV 363)) (gX eF) (fN p6)) (ah 24 (hS 2 jl ab))) (dG 25 0 1 hp jB i8 (nu (et 29 0 1 (am (a1 64768)) (gy 31 32 (aF (wk [aK] (fw 253)) (go 1) aq kI b5 iR (aO 270) (hd 1 p7) i8))) (dG 40 1 1 b5 iR (ad (aO 270) 7) (nu (et 45 0 4 E' (hm 48 p2 1 47 47 (hq 2 49 6 (d 49) (l bQ)) (fo 51 p5 2 50 50 (nu (xV 1 (nu (iv 53 1 1 (-64) 52 (ej 52 (iv 56 1 1 (-1) 52 (ej 52 (iv 59 1 1 (-2) 52 (ej 52 (a5 62 (e9 1) aq (gA (-5) 52)))))))) (ah 52 (eA 65 6 1 1 (bX 128) (a hp jB (fS (hd 1 p6) 2 (z 3 gJ))) nI)))) (bK 72 6 (e9 1) (S' aq (aC 78 (e9 1) 79 (dY 78) (a jK (N 364 [.t 75]) (fv 79 78 (S' (en 1 1 72 76) (fv 79 78 (fW 80 365 [.t 79] (eh 2 (D' 3 (d 80) E'))))))))))) (d9 (aM 82 q 46 3 81 81 xt (hU 83 q 46 5 81)) 81 (dI 84 6 7 (aC 87 (e9 1) 88 (dY 87) (S' (en 1 1 84 85) (fv 88 87 (fW 89 365 [.t 88] (eh 2 (D' 3 (d 89) E'))))))) (aM 91 q 46 4 90 90 (eA 92 6 5 1 bg (k b5 iR (aO 270) (hd 1 p7) i8) (gv 100 5 1 bg d4 E' (gS 2 104 104 2 3 (hc 105 9 (aQ 107 6 9 b5 iR (b0 (aO 270) (hd 1 p5) 6) (aG 113 5 ae (dK 9) (dk (aO 365)) (ad dv 5)))) 118 103 103) (dZ 119 6 7 mw kO (Z p1 (gN 1) e6 (fJ (aO 365)) (hF f5 2 p7 3))))) (d9 (aM 129 q 46 6 128 128 xt (hU 130 q 46 7 128)) 128 (e 140 (g6 131 jZ 132 7 (aC 134 (p 2 1) 135 lZ (D' 136 (a2 p5) (a (e9 1) aq (D' 133 (en 1 1 131 132) (gr p7 p8 (gr p1 p2 (aC 137 (wk [ef] p6) 138 (N 270 [.t 137]) (gr p1 p2 (D' 139 (en 1 1 133 138) (gr p1 p2 (k (N 365 [.t 141]) ae (gR (p 2 1)) e6 (a (W (e8 (.t 143) true 365 [.t 145])) f5 (df 2 p9 3)))))))))))))) nI) (gi 149 q 46 8 148 148 (e 153 (g6 150 jZ 151 7 (hs (p 2 1) aq b5 (D' 152 (en 1 1 150 151) (gr p2 p3 (eJ iR (N 270 [.t 156]) (en 1 1 152 157) 6))))) (e 165 (aC 159 jZ 160 (p 3 1) (aC 161 (h 1 p5) 162 (D .u8 p4) (a (e9 1) aq (aC 163 (wk [aK] p5) 164 (en 1 1 159 163) (gr p1 p2 (aF (N 365 [.t 166]) ae (gR (p 2 1)) e6 (W (e8 (.t 168) true 365 [.t 170])) f5 ae (gR (p 3 1)) (hs e6 (fJ (bV qN 256)) f5 (D' 2 (d 164) (R 3))))))))) nI))))))))) (ft 178 6 (aP 6 1) (go 4) aq (ar (dg 366 p4 p3) p1 0 (fk p2 1 2 p2 (R 3))))))))))
def Tryz.aq8:=fB 26 [.tmp 4]<|gW 4 (Y kS (eH 11 bg e3 (hw 0 14 14 0 1 15 5 (fG 16 5 fA aq lR (gg 24 4)) 25 13 13)) (bB 4 bQ))
def Tryz.aq9:=fB 20 []<|gz 3 p3 lU 2 (br 5 p5 dd v kF (aF aq dy v ge aq (iB 1 p5) (di 5) kF (gE 16 14)) (bJ 17 2 v (fO 4 gJ)))
def Tryz.aq':=fB 37 [.tmp 4]<|el 4 (eC 6 p5 eV v kk (a aq bg (am (dW p6))) (gk 12 13 v (fO 14 gJ) (bB 4 bt)) (dX 16 13 (O 0 v kk aq (fC bg fg 1 gp (a (ds 6 p9) (eS 6) (bd 5 jq (dB 6 5 29))))) (nu (et 30 0 5 (d6 3) (ah 32 (et 33 2 5 ka nI))) (et 35 3 5 ka nI))))
def Tryz.ara:=fB 27 []<|el 4 (bO 6 p5 bg (ad fg 5) (fa 0 (h2 9 p4 h0 (iu 10)) 1 (R' 13 (Z p9 he hM kO (k fA aq (ax 279 p5) jK (fp 1 8 p8 4)))) (a5 11 dd fg mD)) (ai 22 4 (aO 367) E' (hy 24 0 ko 278)))
def Tryz.arb:=fB 92 []<|iz 3 (gO 4 d4 ab (Y (gI 6 (b9 p3) (bL 34) ae (gR (eO p7)) e6 (bW p3 0) (hB v) (k (iF (j 11)) (H p6 aq) (H p7 bg) (H p8 (b7 p6)) (am (bI p9))) (ah 18 (gb 19 v (j 11) (k hG aq kA aq (eh 4 (z 5 gJ)))))) (gI 27 ht (dh 34) ae (gN 3) e6 (bW p3 0) (hB v) (k (iF dF) (H p6 k5) (H p7 aq) (H p8 bg) (bT (H p9 (b7 p7)) (bI (q' 30)))) (ah 40 (ff 41 v dF k5 (gP aq hG aq (ds 3 p3) dF aq ht aq (b6 35) ae gu mi (em dF) (fl k5) (gX aq) (s p6 hG) (k (s p7 aq) (s p8 (ds 3 p3)) (s p9 ge) (iD 54 aq) (S' (bv (q' 54)) (D' 4 (d 50) mD))))))) (eH 66 kO (fI 282) (nu (gI 69 ht (ep 32) ae mo e6 (fJ (ep 35)) f5 E' (ah 76 (hy 77 0 ko 279))) (gI 80 ht (ep 33) ae mo e6 (fJ (ep 36)) f5 E' (ah 87 (bw 88 0 4 jK (dV 278) E')))))))
def Tryz.arc:=fB 42 [.tmp 6]<|gW 6 (Y (br 7 p7 hO ae lD iX (gg 22 6)) (aN 23 0 v 0 ge (gT 1 fA aq (d6 1)) (ah 31 (dO 32 2 eI 2))) (aN 34 0 v 0 dF (gT 1 gU (aT p3 p2) g3) (bB 6 bQ)))
def Tryz.ard:=fB 41 [.tmp 4]<|aJ 4 hQ (h5 7 p7 dm bC E' 8 4 me (ak 9 p9 (aO 79) (ev 5 6 16) (Y (dX 11 1 (am h0) (ah 15 (bw 16 6 0 v ge (b0 aq (yR p5 p1) 6)))) (aa 22 1 fd jZ kO (bT gp (gQ p4)) (bS 27 4 me)) (fG 28 0 v dF (gT 1 fd lS (f8 (Ex (tL 1 1 [aK] j1 jo)) p9 0)) (bK 39 5 gq ka)))))
def Tryz.arf:=fB 20 [.tmp 10]<|eT 10 (dZ 11 0 2 eI ji (dN f3 1 (aO 386) ko (ad (P7 385 p8 p4 p2 p1) 10)))
def Tryz.arh:=fB 53 [.tmp 8,.tmp 9]<|h1 8 ef 0 (fG 13 2 eI ji (dN f3 1 (aO 386) (dg 387 p7 p3) (hC 12 p9 0 (q' 12) 1 10 11)) (fR 23 hM (hm 25 p2 44 24 24 (aG 26 10 (hb .i8) gq b5 (R 10)) (fo 31 p8 46 30 30 (aG 32 10 (hb .i16) gq b5 (R 10)) (iq 37 23 48 36 36 (bJ 38 10 (hb .i8) (ad b5 10)) 42 23 50 41 41 (bJ 43 10 (hb .i16) (ad b5 10)) (gi 47 q 23 52 46 46 (bJ 48 10 hN (ad b5 10)))))) (dI 51 10 11 (ia 8 9))))
def Tryz.ari:=fB 48 [.tmp 2]<|eT 2 (ap 5 (bb 16 1 kC [(0,J 69),(1,J 80),(2,J 103),(3,J 104),(4,J 105),(5,J 121),(6,J 122),(7,J 123),(8,J 167),(9,J 172),(10,J 173),(11,J 192),(12,J 193),(13,J 194),(14,J 195),(15,J 196)]) 3 (Y (eT 4 (fa 0 (br 6 p2 im bg hD E' (iu 9)) 1 (br 12 p9 dj fA aq (bT he lT) (fu 17 2 1)) (a5 10 dd ja ka))) (f0 18 0 70 0 (gP (dJ 79) dv ae gu (de (a1 81)) (em ae) js (dJ 90) (s p6 dv) (bv p7) ae gu (de (a1 106)) (em ae) js (dJ 120) (aF (s p6 dv) (bv p7) ae gu (de (a1 124)) (em ae) js (dJ 138) (hE (s p6 dv) p7))) (fu 47 2 2)) kK))
def Tryz.arj:=fB 15 [.tmp 2]<|eT 2 (fP 3 p3 dm bC E' (fu 4 2 0) (fn 5 p5 v dF aq (dN bg 0 v ge (b0 aq (bR p5) 2))))
def Tryz.ark:=fB 41 [.tmp 8]<|eT 8 (fG 13 1 gU (eM 388) (hC 12 p5 0 p6 1 9 10) (Y (h2 19 p9 (ep 0) (ah 20 (ew 21 10 8))) (eT 11 (fa 0 (ai 22 11 gU (am iE) (iu 24)) 1 (dX 27 0 (O 1 fd jb f3 (O 3 (bV s5 256) hp (aT p8 p4) g3)) (dO 39 3 (bV uv 256) 3)) (fL 25 11 1 11))) (ee 8 0)))
def Tryz.arl:=fB 16 [.tmp 2]<|eT 2 (ap 4 (bb 23 1 kC [(0,mB),(1,ly),(2,fs),(3,fs),(4,f4),(5,f4),(6,jp),(7,jp),(8,f4),(9,f4),(10,jp),(11,jp),(12,mB),(13,mB),(14,mB),(15,ly),(16,fs),(17,fs),(18,f4),(19,jp),(20,f4),(21,jp),(22,mB)]) 3 (eC 5 p5 (bi 40) ae (gD dy) (hi (dh 62) dQ) (fu 10 2 0) (fn 11 p8 he (a7 40) kA (ad aq 2))))
def Tryz.arn:=fB 60 [.tmp 8,.tmp 9]<|h1 8 ef 0 (ai 14 1 (aO 359) (R 10) (fG 17 2 kL ji (a f3 hA (fS (ei 388 p6) 16 (dA p8 0 p9 1 11 p2 12))) (ez 26 1 (b6 44) ig (aF (eg 46) dQ ae ig (eg 48) dQ ae ig (k (eg 50) dQ ae ig (b0 (eg 52) dQ 13))) (Y (az 44 lI (ah 44 (bw 45 11 10 mj (dV 389) (ad b5 11)))) (eG 50 1 (bi 48) 1 (bT (ij 41) dv) (ah 55 (dO 56 11 kL 11))) (dI 58 11 12 (ia 8 9))))))
def Tryz.aro:=fB 80 [.tmp 4,.tmp 5]<|h1 4 ef 0 (aZ (ak 6 p6 (aO 356) (am (ep 1)) (f1 8 4 ef 1)) 0 (dp 10 0 q 69 9 (o 9 (ft 12 1 (fF 391 32) i6 kJ jg) (dp 17 0 q 80 16 (o 16 (bK 19 1 i6 (gd kJ 4 5 0)) (ik 23 0 103 0 105 22 (o 22 (dZ 29 1 0 (a7 103) (dg 392 p3 (P 32)) jg) (ik 34 0 121 0 123 33 (o 33 (dZ 40 1 0 (a7 121) (dg 392 p3 (P 64)) jg) (ez 45 0 (b6 167) gu (b0 (eg 173) dQ 44) (o 44 (bK 51 1 (fF 391 32) jg) (ez 54 0 (b6 172) gu (b0 (eg 196) dQ 53) (o 53 (bK 60 1 (fF 393 32) jg) (ez 63 0 (b6 192) gu (b0 (eg 193) dQ 62) (ah 62 (dZ 69 1 0 (a7 191) mj (a (ax 393 p4) (fF 391 32) jg)))))))))))))))) (dZ 75 1 0 (a7 193) mj (gd (ax 393 p4) 4 5 0)))
def Tryz.arp:=fB 72 [.tmp 6,.tmp 7]<|h1 6 ef 0 (b4 10 0 (aO 356) (am (ep 2)) (f1 12 6 ef 1) (aY 8 32 (dp 13 0 sC 106 9 (Y (eY 15 0 qD 124 16 (aY 8 64 (dO 17 0 (a7 124) 9))) (eY 19 0 rK 90 20 (hY 21 0 qD 81 22 (ft 23 0 (a7 81) hM gU (gd (eM 394) 6 7 0)) (ft 28 0 (a7 70) hM (fF 393 32) (a gU (fF 393 32) (gd (dg 394 p5 p3) 6 7 0))))) (Y (f0 35 9 3 9 (aF (dJ 6) dv ae lJ (bW p2 8) (fJ lX) (hB i6) ln E') (f1 46 6 ef 21)) (eG 47 9 (b6 3) 1 (aF (bW p2 8) (fJ lX) (bW p4 8) (iF fg) (H p6 b5) (H p7 jG) (H p8 (F q p5)) (bI p9) (Z p1 lJ (bW p2 8) (fJ (dc 393)) (bT (hB jD) ln))) (f1 64 6 ef 22)) (dZ 65 9 1 gU i9 (a (P7 395 p4 p3 p2 p1) i9 (gd lX 6 7 0))))))))
def Tryz.arq:=fB 57 [.tmp 4]<|t 2 du kH (eC 9 p8 (ep 4) ae (gR (p 5 2)) (hP e6 (fJ bg) (hB jF) ln) (gg 16 4) (gI 17 (e9 2) (p 2 2) aq (p 3 2) aq (p 4 2) aq (f 5 p7 (f 6 p5 (df 7 p3 8))) (fR 25 hM (ey (d9 (fK 27 p2 2 26 26 (fK 28 p3 3 26 26 (fK 29 p4 5 26 26 (fK 30 p5 4 26 26 (aU 31 (u q p6 13) 26))))) 26 (R' 5 e3) (d9 (fK 33 p8 6 32 32 (aU 34 (u q p9 7) 32)) 32 (a5 5 d4 d4 E') (aM 36 q 25 8 35 35 (a5 5 d4 d4 (gm ef)) (d9 (aM 38 q 25 9 37 37 xt (hU 39 q 25 10 37)) 37 (R' 7 (gm ef)) (nu (aM 41 q 25 11 40 40 xt (hU 42 q 25 12 40)) (ah 40 (a5 7 lQ lQ E')))))))) (eG 43 5 hr 6 (aF (dk hr) dv ae (dK 7) (dk i6) dv ae (dK 8) (b0 (dk i6) dv 4)) nI))))
def Tryz.ars:=fB 34 [.tmp 2]<|el 2 (el 3 (bO 6 p6 bg e3 (gS 0 9 9 0 1 (hc 10 5 (nu (au 2 (eC 12 p7 (bi (-64)) ae (dz 5) (hi (dh 63) dQ) (a0 17 2) (xV 3 (aQ 18 3 5 hp (hZ GN 128) kN (dO 24 5 (dH 7) 5))))) (bw 26 3 5 (aj sD 127) hp kN))) 32 8 8) (ew 33 3 2)))
def Tryz.art:=fB 9 [.tmp 2]<|gW 2 (fn 3 p3 h0 ae (gR dd) (b0 (dk (bi 4294967296)) dv 2))
def Tryz.aru:=fB 62 [.tmp 6,.tmp 7]<|fz 6 4 io jl (l ab) (fR 9 eV (hm 11 p2 9 10 10 (ft 12 0 (ph 3 p9) aq hN (S' fd (aC 20 (p 3 4) 21 (dY 20) (D' 22 (bo qN (q' 21) 4294967296) (a jK (N 364 [l0]) (fv 21 20 (S' (en 1 1 12 18) (fv 21 20 (eh 6 (D' 7 (d 22) E')))))))))) (iq 24 9 10 23 23 (eA 25 0 3 4 fd (a jK (aO 364) (fS (hd 1 p6) 6 (z 7 gJ))) nI) 33 9 13 32 32 (e 40 (aC 34 he 35 (e9 4) (aC 36 (h 1 p5) 37 (D .u8 p4) (hs (e9 4) aq h0 (aC 38 (wk [aK] p6) 39 (en 1 1 34 38) (gr p2 p3 (Z p1 (gN 4) e6 (fJ (bi 256)) (hF f5 6 p9 7))))))) nI) (gi 49 q 9 14 48 48 (bK 50 0 iN (fS mw 6 (z 7 gJ)))))) (dG 53 3 4 (p 4 4) aq (a (M l6 [(0,1,l3),(1,1,l5)]) (aO 94) mG) (bK 59 0 (uI 16 1 (q' 8) P6 P6) (fS mw 6 (z 7 gJ)))))
def Tryz.arv:=fB 28 []<|ak 4 p4 bg (hF fg 2 (P 0) 3) (fa 0 (ak 7 p5 eE (am iE) (iu 9)) 1 (fx 14 0 2 0 ji (O 0 ji fA aq (O 0 gU fA aq (S' (aT (q' 14) (q' 15)) (bu 1 26 21 (S' (aT (q' 16) (q' 17)) (gE 27 25))))))) (R' 10 (Z p8 ja dj fg (df 2 p3 3))))
def Tryz.arw:=fB 37 [.tmp 8]<|eT 8 (Y (fG 11 1 gU (eM 400) (R 9) (h2 15 p6 (ep 0) (ah 16 (bU 17 p8 8 nI)))) (ai 18 2 d4 E' (hw 0 20 20 0 1 21 10 (hX 22 v (O 1 hA b5 jU (O 3 hA mj jI (a hp (aT (q' 25) p6) (gE 35 34))))) 36 19 19)) (ee 8 0))
def Tryz.arx:=fB 27 [.tmp 2]<|eT 2 (fR 3 mz (ey (d9 (fK 5 p2 44 4 4 (fK 6 p3 45 4 4 (fK 7 p4 48 4 4 (fK 8 p5 49 4 4 (fK 9 p6 58 4 4 (aU 10 (u q p7 60) 4)))))) 4 (ee 2 1) (d9 (fK 12 p9 46 11 11 (it 13 3 47 11 11 xt 14 3 50 11 11 xt 15 3 51 11 11 xt 16 3 59 11 11 xt (hU 17 q 3 61 11))) 11 (ee 2 2) (d9 (it 19 3 40 18 18 xt 20 3 52 18 18 xt 21 3 53 18 18 xt 22 3 54 18 18 xt (hU 23 q 3 62 18)) 18 (ee 2 4) (nu (aM 25 q 3 41 24 24 xt (hU 26 q 3 55 24)) (fu 24 2 8)))))) kK)
def Tryz.ary:=fB 44 [.tmp 6,.tmp 7]<|h1 6 ef 0 (nu (fG 12 1 gU (eM 400) (R 8) (h2 16 p8 (ep 0) (ah 17 (hq 6 18 8 lQ (d 18))))) (fQ 9 (nu (dX 19 0 (O 1 hM gU b5 (hP jU (bN 1 p6 (T8 p5) p1) bg d4)) (gS 0 31 31 0 1 (ak 32 p2 lz (hF aq 10 p3 11) (bw 35 9 11 b5 hA (eJ mj (dx p3) (eU p6) 9))) 42 30 30)) (hq 6 43 9 (d 43) d4))))
def Tryz.arz:=fB 51 [.tmp 6,.tmp 7]<|h1 6 ef 0 (Y (eH 10 hO E' (f1 11 6 ef 2)) (eG 12 2 (ep 1) 2 (aF (ij 2) dv ae lJ (ij 4) dv ae lJ (bT (ij 8) dv)) (f1 25 6 ef 1)) (nu (fG 26 1 gU (eM 131) E' (f1 29 6 ef 23)) (fQ 8 (nu (dp 30 2 sC 1 9 (fa 0 (aV 32 9 qD 0 E' (iu 33)) 1 (aG 36 8 (bV tJ 256) he v (fC dF aq 1 fd (O 9 f3 (d8 p5) aq (b0 b5 (bp (q' 37)) 8)))) (dO 34 9 fg 9))) (hq 6 50 8 (d 50) d4)))))
def Tryz.arA:=fB 28 [.tmp 4]<|eT 4 (bO 5 p4 (a1 64) E' (ah 6 (gz 7 p7 fd 4 nI)) (br 9 p9 dj b5 jG (ad (hW p4) 0) (nu (fG 14 1 fg b5 (bT jG (dW p5)) (ah 19 (ft 20 0 fd hM b5 (b0 (gw 1) (bR p4) 4)))) (bK 26 0 fd ka))))
def Tryz.arB:=fB 4 [.tmp 2]<|jY
def Tryz.arC:=fB 14 [.tmp 4]<|fQ 4 (fn 5 p5 eE jf b5 (k (dx p4) dj jf b5 (ad (e4 p4) 4)))
def Tryz.arD:=fB 41 [.tmp 6]<|fQ 6 (eT 7 (eT 8 (Y (eT 9 (fa 0 (ak 11 p2 hM (am iE) (iu 13)) 1 (bU 16 p7 10 (hY 17 2 q 0 18 (aG 19 1 fg kn gp (R 10)) (fG 23 10 b5 jI (bT (bV s5 2) (bV q 1)) (o 28 (fL 29 8 1 8) (eY 31 8 q 0 32 (fL 33 7 1 7)))))) (a5 14 eE ja (R 9)))) (eY 35 2 q 2 36 (bK 37 8 b5 i8)) (bK 39 7 b5 i8))))
def Tryz.arE:=fB 24 [.tmp 4]<|fQ 4 (ak 5 p5 eE (ad lX 0) (eC 8 p8 dy fg b5 (k (e4 p4) (bV q 1) ae (dK 1) (bT (dk (bi 64)) dv)) (ah 17 (dZ 18 0 1 b5 jG (ad (bR p4) 4))) (ew 23 0 4)))
def Tryz.arF:=fB 71 [.tmp 6]<|fQ 6 (ak 9 p8 dy (ad (dc 401) 7) (ai 12 2 hM (ad (dc 401) 8) (Y (ez 15 0 (b6 3) gu (aF (eg 5) dQ ae gu (eg 7) dQ ae gu (bT (eg 9) dQ)) (ah 28 (ai 29 1 gU (ad iE 7) (bJ 32 2 hM (ad iE 8))))) (az 35 he (hm 37 p2 0 36 36 (eG 38 7 eF 8 (eJ (dk eF) dv kJ 6) nI) (aM 46 q 35 1 45 45 (ft 47 7 ae (dz 8) (bv p2) (ad kJ 6)) (d9 (aM 53 q 35 2 52 52 xt (hU 54 q 35 3 52)) 52 (bK 55 7 kJ i8) (d9 (aM 58 q 35 4 57 57 xt (hU 59 q 35 5 57)) 57 (bK 60 8 kJ i8) (nu (aM 63 q 35 6 62 62 xt (hU 64 q 35 7 62)) (ah 62 (bK 65 8 eF (ad kJ 6))))))))) (bK 68 7 eF (ad kJ 6)))))
def Tryz.arG:=fB 141 [.tmp 8]<|fQ 8 (ai 15 1 ji (ad (dc 393) 9) (ai 18 2 ji (ad (dc 393) 10) (ai 21 1 ji (ad lX 11) (ai 24 2 ji (ad lX 12) (aQ 27 12 3 b5 (hW p3) (R 13) (fR 31 he (hm 33 p2 0 32 32 (eN 34 11 12 f3 8) (fo 38 p7 1 37 37 (eN 39 11 12 gp 8) (aM 43 q 31 2 42 42 (eN 44 11 12 hT 8) (d9 (aM 48 q 31 3 47 47 xt (hU 49 q 31 5 47)) 47 (aa 50 9 (aO 403) hA (aO 403) (ad (dV 402) 14) (Y (aa 55 9 (dH 63) hA (dH 63) (am jz) (ah 59 (dO 60 14 ic 14))) (eY 62 0 q 5 63 (dZ 64 9 14 hA hT (ad (bR p4) 8))) (ew 69 14 8))) (it 71 31 4 70 70 (eN 72 11 12 (dc 402) 8) 76 31 6 75 75 (dZ 77 11 11 kz (dc 402) (eJ kz hT (bR p6) 8)) 85 31 7 84 84 (eN 86 11 12 (F sD p2) 8) 90 31 8 89 89 (eN 91 11 12 (eU p2) 8) (it 95 31 9 94 94 (eN 96 11 12 (F Aj p2) 8) 100 31 10 99 99 (eN 101 11 13 (dx p2) 8) 105 31 11 104 104 (dZ 106 9 13 (e4 p2) kn (dN (dH 63) 13 (dc 404) jJ (R 8))) 115 31 12 114 114 (eN 116 11 13 (e4 p2) 8) (gi 120 q 31 13 119 119 (dZ 121 11 13 (dx p2) jb (O 3 b5 lI gp (b0 (e4 p5) (eU p7) 8)))))))))) (dZ 131 11 13 (e4 p2) jb (O 3 b5 lI gp (b0 (dx p5) (eU p7) 8)))))))))
def Tryz.arH:=fB 31 [.tmp 6]<|eT 6 (nu (ey (gz 8 p8 hO 7 (o 7 (ee 6 2) (br 11 p9 (ep 1) ae lJ (aF (ij 2) dv ae lJ (ij 4) dv ae lJ (b0 (ij 8) dv 10)) (o 10 (ee 6 1) (fG 26 1 gU (eM 126) (ad eF 25) (fu 25 6 23))))))) (ee 6 0))
def Tryz.arI:=fB 10 [.tmp 4]<|gW 4 (fn 5 p5 lH dd lH (ad hD 4))
def Tryz.arJ:=fB 39 [.tmp 4]<|fQ 4 (fQ 5 (fQ 6 (nu (aY 7 63 (fa 0 (h2 9 p2 h0 (iu 10)) 1 (gz 13 p7 (dH 63) 8 (br 15 p9 (g7 1) he jj (k b5 jI (bV s5 2) (eU p6) i8) (ez 23 8 (bV q 1) (dz 6) (a (bm p2 1) (em mg) (fN p4)) (ah 29 (ai 30 6 hM (ad gp 6) (bw 33 5 7 b5 jG (ad (eU p4) 5))))))) (a5 11 im fg kZ))) (ew 38 5 4))))
def Tryz.arK:=fB 9 [.tmp 2]<|fQ 2 (bO 3 p3 (dH 63) (am (bV q 1)) (ah 5 (gz 6 p6 ic 2 nI)) (bU 8 p8 2 nI))
def Tryz.arL:=fB 16 [.tmp 4]<|fQ 4 (eC 5 p5 i6 ae (gD eV) (hi i6 dQ) (bS 10 4 ef) (ft 11 1 (bR (eZ 64)) jG (bV sC 1) (ad (bR ie) 4)))
end
end Go.Proofs
