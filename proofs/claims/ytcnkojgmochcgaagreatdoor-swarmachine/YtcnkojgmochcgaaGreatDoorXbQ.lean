import Derived.Test.YtcnkojgmochcgaaGreatDoorAb30
namespace Go.Proofs
set_option maxRecDepth 100000
noncomputable section
open Go.Ab.X
open Go.Ab (Ea Od AV oB xV uP BF UF RV)
namespace Y
abbrev R'(k:Nat)(r:Nat->xV):uP:=.rg (r k)
abbrev E':Nat->xV:=fun _=>.fi
abbrev S'(a:Nat->oB)(r:Nat->xV):Nat->xV:=fun k=>.st k (a k) (r (Nat.succ k))
abbrev D'(j:Nat)(a:Nat->oB)(r:Nat->xV):Nat->xV:=fun k=>.st j (a k) (r k)
abbrev N'(a:Nat->oB)(r:Nat->xV):Nat->xV:=fun k=>.sn (a k) (r k)
abbrev Q'(s:Nat->Od)(a:Nat->oB)(r:Nat->xV):Nat->xV:=fun k=>.ck (s k) (a k) (r k)
abbrev cL':=uP.lp
abbrev fB(n:Nat)(r:List RV)(b:uP):Ea:=⟨n,r,b⟩
abbrev GQ(a:oB):Nat->oB:=fun _=>a
abbrev q'(j:Nat):Nat->Od:=fun _=>.t j
abbrev Dr(v:AV):Nat->Od:=fun _=>.c v
abbrev oX':Nat->Od:=fun _=>.zz
abbrev wO'(a:Nat->Od):Nat->Od:=fun k=>.w (a k)
abbrev M4:Nat->Option Od:=fun _=>none
abbrev Qe(a:Nat->Od):Nat->Option Od:=fun k=>some (a k)
abbrev gF'(a:Nat->Od)(b:Bool)(f:Nat->oB):Nat->oB:=fun k=>.gd (a k) b (f k)
abbrev wR(z:List AV)(a:Nat->Od):Nat->oB:=fun k=>.rw 1 1 z [(0,a k)]
abbrev p1:Nat->Od:=fun k=>.t (Nat.sub k 1)
abbrev p2:Nat->Od:=fun k=>.t (Nat.sub k 2)
abbrev p3:Nat->Od:=fun k=>.t (Nat.sub k 3)
abbrev p4:Nat->Od:=fun k=>.t (Nat.sub k 4)
abbrev p5:Nat->Od:=fun k=>.t (Nat.sub k 5)
abbrev p6:Nat->Od:=fun k=>.t (Nat.sub k 6)
abbrev p7:Nat->Od:=fun k=>.t (Nat.sub k 7)
abbrev p8:Nat->Od:=fun k=>.t (Nat.sub k 8)
abbrev p9:Nat->Od:=fun k=>.t (Nat.sub k 9)
abbrev kC0(f:Nat):Nat->oB:=fun k=>.call f []
abbrev kC1(f:Nat)(a:Nat->Od):Nat->oB:=fun k=>.call f [a k]
abbrev kC2(f:Nat)(a b:Nat->Od):Nat->oB:=fun k=>.call f [a k,b k]
abbrev kC3(f:Nat)(a b d:Nat->Od):Nat->oB:=fun k=>.call f [a k,b k,d k]
abbrev kC4(f:Nat)(a b d e:Nat->Od):Nat->oB:=fun k=>.call f [a k,b k,d k,e k]
abbrev Tf(f:Nat)(a b d e g:Nat->Od):Nat->oB:=fun k=>.call f [a k,b k,d k,e k,g k]
abbrev kC6(f:Nat)(a b d e g h:Nat->Od):Nat->oB:=fun k=>.call f [a k,b k,d k,e k,g k,h k]
abbrev kC7(f:Nat)(a b d e g h i:Nat->Od):Nat->oB:=fun k=>.call f [a k,b k,d k,e k,g k,h k,i k]
abbrev kC8(f:Nat)(a b d e g h i j:Nat->Od):Nat->oB:=fun k=>.call f [a k,b k,d k,e k,g k,h k,i k,j k]
abbrev kC9(f:Nat)(a b d e g h i j l:Nat->Od):Nat->oB:=fun k=>.call f [a k,b k,d k,e k,g k,h k,i k,j k,l k]
abbrev qR(a:Nat->Od):Nat->oB:=fun k=>qA (a k)
abbrev Tg(a:Nat->Od)(b:Nat->Od)(d:Nat->Od):Nat->oB:=fun k=>vN (a k) (b k) (d k)
abbrev xW(a:Nat->Od):Nat->oB:=fun k=>DX (a k)
abbrev Th(a:Nat)(b:Bool)(d:Nat->Od):Nat->oB:=fun k=>r8 a b (d k)
abbrev Yr(a:Nat)(b:Nat->Od)(d:Nat->Od):Nat->oB:=fun k=>tE a (b k) (d k)
abbrev uu(a:Nat->Od):Nat->oB:=fun k=>Cv (a k)
abbrev zL(a:BF)(b:Nat->Od)(d:Nat->Od):Nat->oB:=fun k=>wa a (b k) (d k)
abbrev Ti(a:UF)(b:Nat->Od):Nat->oB:=fun k=>HQ a (b k)
abbrev Ys(a:Nat->Od):Nat->oB:=fun k=>vm (a k)
abbrev pG(a:Nat)(b:Nat->Od):Nat->oB:=fun k=>nW a (b k)
abbrev xX(a:Nat)(b:Nat->Od)(d:Nat->Od):Nat->oB:=fun k=>yS a (b k) (d k)
abbrev Bg(a:Nat)(b:Nat)(d:Nat->Od)(e:Nat->Od):Nat->oB:=fun k=>Bt a b (d k) (e k)
abbrev Yt(a:Nat)(b:Nat)(d:Bool)(e:Nat->Od)(f:Nat->Od):Nat->oB:=fun k=>sJ a b d (e k) (f k)
abbrev Jf(a:Nat->Od)(b:Nat->Od):Nat->oB:=fun k=>rh (a k) (b k)
abbrev tx(a:Nat->Od)(b:Nat):Nat->oB:=fun k=>qa (a k) b
abbrev Lu(a:Nat->Od):Nat->oB:=fun k=>vP (a k)
abbrev ah8(a:Nat->Od):Nat->oB:=fun k=>Cz (a k)
abbrev Pq(a:Nat)(b:Nat)(d:Nat->Od)(e:Nat->Od):Nat->oB:=fun k=>o7 a b (d k) (e k)
abbrev adX(a:Nat)(b:Nat->Od)(d:Nat->Od):Nat->oB:=fun k=>yV a (b k) (d k)
abbrev adY(a:Nat->Od):Nat->oB:=fun k=>xQ (a k)
abbrev zM(a:Nat->Od)(b:Nat->Od):Nat->oB:=fun k=>DY (a k) (b k)
abbrev Fi(a:Nat->Od)(b:Nat->Od):Nat->oB:=fun k=>DZ (a k) (b k)
abbrev ah9(a:Nat->Od):Nat->oB:=fun k=>Cy (a k)
abbrev adZ(a:Nat)(b:Nat->Od)(d:Nat->Od):Nat->oB:=fun k=>sW a (b k) (d k)
abbrev Jg(a:Nat)(b:Nat->Od)(d:Nat->Option Od)(e:Nat->Option Od):Nat->oB:=fun k=>o6 a (b k) (d k) (e k)
abbrev Tj(a:Nat)(b:Nat)(d:Nat->Od)(e:Nat->Option Od)(f:Nat->Option Od):Nat->oB:=fun k=>qj a b (d k) (e k) (f k)
abbrev Tk(a:Nat->Od)(b:Nat->Option Od)(d:Nat->Option Od):Nat->oB:=fun k=>rb (a k) (b k) (d k)
abbrev a:=fun x1 x2 x3=>S' x1 (S' x2 x3)
abbrev b:=fun x1=>AV.int IntKind.i64 x1
abbrev d:=fun x1=>qR (q' x1)
abbrev e:=fun x1 x2 x3=>nH (R' x1 x2) x3
abbrev f:=fun x1 x2 x3=>D' x1 (qR x2) x3
abbrev h:=fun x1 x2=>Th x1 false x2
abbrev i:=fun x1 x2 x3=>zL x1 x2 (Dr x3)
abbrev j:=fun x1=>pG x1 p1
abbrev k:=fun x1 x2 x3 x4 x5=>a x1 x2 (a x3 x4 x5)
abbrev l:=fun x1=>qR (Dr x1)
abbrev m:=fun x1 x2=>pG x1 (q' x2)
abbrev o:=fun x1=>AV.int IntKind.u8 x1
abbrev p:=fun x1 x2 x3=>VK (Od.t x1) x2 x3
abbrev q:=A6 false
abbrev r:=fun x1 x2 x3=>AV.sc (Value.slice x1 x2 x3)
abbrev s:=uu p1
abbrev t:=fun x1 x2 x3 x4=>e x1 (S' x2 x3) x4
abbrev u:=fun x1 x2=>gF' x1 false x2
abbrev v:=fun x1 x2 x3=>i x1 x2 (b x3)
abbrev w:=fun x1 x2=>zL x1 x2 p1
abbrev x:=fun x1=>AV.sc (Value.string x1)
abbrev y:=fun x1=>Dr (AV.bool x1)
abbrev z:=fun x1=>AV.int IntKind.u64 x1
abbrev A:=fun x1 x2 x3 x4 x5 x6 x7=>e x1 (k x2 x3 x4 x5 x6) x7
abbrev B:=fun x1 x2=>f x1 x2 E'
abbrev D:=fun x1 x2=>Ti (Cw x1) x2
abbrev E:=fun x1 x2 x3 x4=>N' (Yr x1 x2 x3) x4
abbrev F:=fun x1 x2=>GQ (uA x1 x2)
abbrev H:=fun x1 x2=>Th x1 true x2
abbrev I:=fun x1 x2=>gF' x1 true x2
abbrev J:=fun x1=>oC (b x1)
abbrev L:=x ⟨#[0,1,1,2,1,2,2,3,1,2,2,3,2,3,3,4,1,2,2,3,2,3,3,4,2,3,3,4,3,4,4,5,1,2,2,3,2,3,3,4,2,3,3,4,3,4,4,5,2,3,3,4,3,4,4,5,3,4,4,5,4,5,5,6,1,2,2,3,2,3,3,4,2,3,3,4,3,4,4,5,2,3,3,4,3,4,4,5,3,4,4,5,4,5,5,6,2,3,3,4,3,4,4,5,3,4,4,5,4,5,5,6,3,4,4,5,4,5,5,6,4,5,5,6,5,6,6,7,1,2,2,3,2,3,3,4,2,3,3,4,3,4,4,5,2,3,3,4,3,4,4,5,3,4,4,5,4,5,5,6,2,3,3,4,3,4,4,5,3,4,4,5,4,5,5,6,3,4,4,5,4,5,5,6,4,5,5,6,5,6,6,7,2,3,3,4,3,4,4,5,3,4,4,5,4,5,5,6,3,4,4,5,4,5,5,6,4,5,5,6,5,6,6,7,3,4,4,5,4,5,5,6,4,5,5,6,5,6,6,7,4,5,5,6,5,6,6,7,5,6,6,7,6,7,7,8]⟩
abbrev M:=fun x1 x2 x3 x4 x5=>e x1 (a x2 x3 x4) x5
abbrev O:=fun x1=>ah8 (wO' x1)
abbrev P:=fun x1=>B x1 p1
abbrev R:=fun x1 x2=>mn (oB.call x1 x2)
abbrev U:=fun x1 x2=>r none x1 x2
abbrev W:=fun x1 x2 x3 x4 x5 x6 x7=>A x1 (d x2) x3 x4 x5 x6 x7
abbrev Y:=fun x1=>Dr (b x1)
abbrev Z:=fun x1=>h x1 p1
abbrev C:=qR p1
abbrev N:=fun x1 x2 x3=>nH x1 (nH x2 x3)
abbrev aa:=fun x1 x2=>S' x1 (P x2)
abbrev ab:=AV.bool false
abbrev ad:=b 0
abbrev ae:=fun x1 x2 x3 x4 x5=>M x1 (d x2) x3 x4 x5
abbrev af:=fun x1 x2=>v x1 p1 x2
abbrev ag:=fun x1 x2 x3 x4 x5=>M x1 (qR x2) x3 x4 x5
abbrev ah:=fun x1 x2=>p x1 x2 wg
abbrev ai:=fun x1 x2 x3 x4 x5 x6 x7 x8 x9=>k x1 x2 x3 x4 (k x5 x6 x7 x8 x9)
abbrev aj:=fun x1 x2 x3=>Tg x1 (y x2) x3
abbrev ak:=fun x1=>S' x1 E'
abbrev al:=Z 1
abbrev am:=fun x1 x2=>GQ (R x1 x2)
abbrev ao:=fun x1 x2 x3 x4=>t x1 x2 (P x3) x4
abbrev ap:=fun x1 x2=>yP x1 (cL' x2)
abbrev aq:=fun x1 x2 x3 x4=>a x1 (tx x2 x3) x4
abbrev ar:=x ⟨#[0,1,2,2,3,3,3,3,4,4,4,4,4,4,4,4,5,5,5,5,5,5,5,5,5,5,5,5,5,5,5,5,6,6,6,6,6,6,6,6,6,6,6,6,6,6,6,6,6,6,6,6,6,6,6,6,6,6,6,6,6,6,6,6,7,7,7,7,7,7,7,7,7,7,7,7,7,7,7,7,7,7,7,7,7,7,7,7,7,7,7,7,7,7,7,7,7,7,7,7,7,7,7,7,7,7,7,7,7,7,7,7,7,7,7,7,7,7,7,7,7,7,7,7,7,7,7,7,8,8,8,8,8,8,8,8,8,8,8,8,8,8,8,8,8,8,8,8,8,8,8,8,8,8,8,8,8,8,8,8,8,8,8,8,8,8,8,8,8,8,8,8,8,8,8,8,8,8,8,8,8,8,8,8,8,8,8,8,8,8,8,8,8,8,8,8,8,8,8,8,8,8,8,8,8,8,8,8,8,8,8,8,8,8,8,8,8,8,8,8,8,8,8,8,8,8,8,8,8,8,8,8,8,8,8,8,8,8,8,8,8,8,8,8,8,8,8,8,8,8,8,8,8,8,8,8]⟩
abbrev au:=fun x1 x2=>kC2 x1 x2 p1
abbrev av:=fun x1 x2 x3 x4 x5 x6 x7=>A x1 (qR x2) x3 x4 x5 x6 x7
abbrev aw:=fun x1 x2 x3=>v x1 (q' x2) x3
abbrev ax:=fun x1 x2 x3=>Tg x1 x2 (y x3)
abbrev ay:=fun x1 x2 x3 x4=>t x1 (l x2) x3 x4
abbrev az:=fun x1=>GQ (Kw x1)
abbrev aA:=fun x1 x2 x3 x4 x5=>aq (tx x1 x2) x3 x4 x5
abbrev aB:=fun x1 x2 x3 x4 x5 x6=>ao x1 x2 x3 (p x4 x5 x6)
abbrev aD:=fun x1 x2 x3=>tE x1 (Od.t x2) x3
abbrev aE:=fun x1 x2 x3=>ay x1 x2 E' x3
abbrev aF:=fun x1=>GQ (mn x1)
abbrev aG:=fun x1 x2=>ax x1 x2 false
abbrev aH:=fun x1=>kC1 x1 p1
abbrev aI:=fun x1 x2 x3 x4 x5 x6 x7 x8=>aB x1 (aw x2 x3 x4) x5 x6 x7 x8
abbrev aJ:=fun x1 x2=>zL r7 x1 x2
abbrev aK:=o 0
abbrev aL:=x ⟨#[]⟩
abbrev aM:=fun x1 x2=>aj x1 true x2
abbrev aO:=fun x1=>AV.sc (Value.pointer x1)
abbrev aP:=fun x1 x2 x3=>R' x1 (aa x2 x3)
abbrev aQ:=fun x1 x2=>H x1 (q' x2)
abbrev aR:=fun x1=>wR x1 p1
abbrev aS:=fun x1 x2 x3 x4=>GQ (Cu x1 x2 x3 x4)
abbrev aT:=fun x1 x2 x3 x4 x5 x6=>R' x1 (k x2 x3 x4 x5 x6)
abbrev aU:=fun x1 x2=>xX 1 x1 x2
abbrev aV:=fun x1 x2 x3 x4 x5 x6 x7=>W x1 x2 x3 (j x4) x5 x6 x7
abbrev aW:=fun x1 x2 x3=>p x1 x2 (Qm x3)
abbrev aX:=A6 true
abbrev aY:=fun x1 x2 x3 x4=>N x1 (yP x2 x3) x4
abbrev aZ:=fun x1 x2 x3 x4 x5 x6=>ae x1 x2 (af x3 x4) x5 x6
abbrev aC:=fun x1 x2 x3 x4 x5=>D' x1 x2 (D' x3 x4 x5)
abbrev aN:=fun x1 x2=>ak (au x1 x2)
abbrev a0:=fun x1 x2=>aE x1 x2 og
abbrev a1:=fun x1 x2 x3=>Pq x1 x2 x3 p1
abbrev a2:=fun x1 x2 x3 x4 x5 x6=>aV x1 x2 x3 x4 al x5 x6
abbrev a3:=fun x1=>af r6 x1
abbrev a4:=fun x1 x2=>wR x1 (Y x2)
abbrev a5:=fun x1 x2 x3 x4 x5 x6 x7=>W x1 x2 (d x3) x4 x5 x6 x7
abbrev a6:=fun x1 x2=>aW x1 wg x2
abbrev a7:=fun x1=>D IntKind.u64 x1
abbrev a8:=fun x1 x2 x3 x4 x5 x6 x7 x8 x9 zN=>R' x1 (ai x2 x3 x4 x5 x6 x7 x8 x9 zN)
abbrev a9:=x ⟨#[118,118,58,118]⟩
abbrev ac:=fun x1 x2 x3 x4 x5 x6 x7 x8 x9 zN DS Kh M5 x14 x15=>aI x1 x2 x3 x4 x5 x6 x7 (aI x8 x9 zN DS Kh M5 x14 x15)
abbrev an:=fun x1 x2 x3 x4=>E x1 (q' x2) x3 x4
abbrev ba:=fun x1 x2 x3 x4=>aE x1 x2 (nH x3 x4)
abbrev bb:=fun x1 x2 x3 x4 x5 x6=>aT x1 (d x2) x3 x4 x5 x6
abbrev bd:=O p1
abbrev be:=fun x1=>af qz x1
abbrev bf:=fun x1 x2 x3 x4=>R' x1 (a x2 x3 x4)
abbrev bg:=fun x1 x2 x3 x4 x5=>aP x1 (aw x2 x3 x4) x5
abbrev bh:=fun x1 x2 x3 x4 x5=>aY (a6 x1 x2) x3 x4 x5
abbrev bi:=fun x1 x2=>N' (aF x1) x2
abbrev bj:=fun x1 x2 x3=>aD x1 x2 (Od.t x3)
abbrev bk:=fun x1 x2 x3 x4=>S' x1 (f x2 x3 x4)
abbrev bl:=fun x1=>ak (l x1)
abbrev bm:=fun x1=>w tD x1
abbrev bo:=fun x1 x2 x3=>D' x1 (az x2) x3
abbrev bp:=fun x1 x2 x3 x4=>bg x1 tD x2 x3 x4
abbrev bq:=fun x1 x2 x3 x4=>bi (bj x1 x2 x3) x4
abbrev br:=fun x1 x2 x3=>ah x1 (a0 x2 x3)
abbrev bs:=fun x1=>af r7 x1
abbrev bt:=fun x1 x2 x3 x4 x5 x6 x7 x8 x9 zN DS=>a2 x1 x2 x3 x4 x5 (a2 x6 x7 x8 x9 zN DS)
abbrev bu:=fun x1 x2=>i x1 p1 x2
abbrev bv:=fun x1 x2 x3 x4 x5=>M x1 x2 (l x3) x4 x5
abbrev bw:=fun x1=>U 0 x1
abbrev bx:=fun x1 x2=>u x1 (d x2)
abbrev bz:=fun x1=>AV.int IntKind.u32 x1
abbrev bA:=fun x1 x2 x3 x4 x5=>ap x1 (t x2 x3 x4 x5)
abbrev bB:=fun x1=>Ti Oh x1
abbrev bD:=bw 0
abbrev bE:=fun x1 x2=>bu x1 (z x2)
abbrev bF:=fun x1 x2 x3 x4 x5=>bv x1 (l x2) x3 x4 x5
abbrev bG:=fun x1 x2 x3 x4 x5 x6 x7 x8 x9=>bA x1 x2 x3 x4 (bh x5 x6 x7 x8 x9)
abbrev bH:=fun x1=>aM x1 p1
abbrev bI:=fun x1 x2 x3 x4=>bf x1 (d x2) x3 x4
abbrev bJ:=fun x1 x2 x3 x4=>ae x1 x2 x3 x4 og
abbrev bK:=fun x1=>aG x1 p1
abbrev bL:=fun x1 x2 x3 x4 x5 x6 x7 x8 x9 zN=>bG x1 x2 (aJ x3 x4) x5 x6 x7 x8 x9 zN
abbrev bM:=fun x1 x2=>I x1 (d x2)
abbrev bO:=fun x1 x2=>a x1 x2 E'
abbrev bP:=fun x1 x2 x3 x4=>aF (o7 x1 x2 x3 x4)
abbrev bQ:=fun x1=>oC (x x1)
abbrev bR:=fun x1 x2 x3 x4=>bF x1 x2 x3 x4 og
abbrev bS:=fun x1 x2 x3 x4=>Q' x1 (h x2 x3) x4
abbrev bT:=j 0
abbrev bU:=fun x1=>af ui x1
abbrev bV:=fun x1 x2=>B x1 (Y x2)
abbrev bW:=qR p9
abbrev bX:=a7 p1
abbrev bY:=fun x1=>aQ 16 x1
abbrev bZ:=fun x1=>w r6 x1
abbrev bC:=fun x1 x2 x3 x4 x5 x6 x7 x8 x9 zN=>a8 x1 (d x2) x3 x4 x5 x6 x7 x8 x9 zN
abbrev bN:=fun x1=>af q x1
abbrev b0:=fun x1 x2 x3 x4=>ao x1 (qR x2) x3 x4
abbrev b1:=AV.bool true
abbrev b2:=fun x1 x2 x3 x4 x5 x6 x7=>aZ x1 x2 x3 x4 x5 (ah x6 x7)
abbrev b3:=fun x1 x2 x3 x4 x5 x6 x7 x8=>A x1 (m x2 x3) x4 x5 x6 x7 x8
abbrev b4:=fun x1 x2 x3 x4=>Jg x1 x2 x3 (Qe x4)
abbrev b5:=fun x1 x2 x3 x4 x5 x6 x7 x8 x9 zN DS Kh M5=>bL x1 x2 x3 x4 x5 x6 x7 x8 x9 (bp zN DS Kh M5)
abbrev b6:=aO none
abbrev b7:=fun x1 x2 x3=>kC3 x1 x2 x3 p1
abbrev b8:=fun x1=>af tD x1
abbrev b9:=fun x1 x2 x3 x4 x5 x6 x7=>b3 x1 x2 x3 al x4 x5 x6 x7
abbrev bc:=qR p8
abbrev bn:=fun x1=>w r7 x1
abbrev da:=fun x1 x2 x3=>a x1 x2 (P x3)
abbrev db:=fun x1 x2=>Jf x1 (Y x2)
abbrev dd:=fun x1 x2 x3 x4 x5 x6=>nH (ae x1 x2 x3 x4 x5) x6
abbrev de:=fun x1 x2 x3 x4 x5 x6=>bb x1 x2 (d x3) x4 x5 x6
abbrev df:=fun x1 x2 x3 x4 x5 x6 x7 x8=>aB x1 (v x2 x3 x4) x5 x6 x7 x8
abbrev dg:=fun x1 x2 x3 x4 x5=>ah x1 (bR x2 x3 x4 x5)
abbrev dh:=fun x1 x2 x3 x4 x5=>S' x1 (E x2 x3 x4 x5)
abbrev di:=fun x1 x2=>xX x1 x2 p1
abbrev dj:=qR p6
abbrev dk:=fun x1 x2 x3 x4=>Bg x1 x2 (q' x3) x4
abbrev dl:=fun x1=>pG 0 x1
abbrev dm:=fun x1=>af qy x1
abbrev dp:=fun x1 x2 x3 x4=>t x1 (xW x2) x3 x4
abbrev dq:=fun x1 x2 x3 x4 x5 x6=>bo x1 x2 (an x3 x4 x5 x6)
abbrev dr:=fun x1=>au x1 p2
abbrev ds:=fun x1=>w uT x1
abbrev dt:=fun x1 x2 x3=>f x1 x2 (P x3)
abbrev du:=fun x1 x2 x3=>Tk x1 (Qe x2) x3
abbrev dv:=fun x1 x2 x3 x4 x5=>k x1 x2 (d x3) x4 x5
abbrev dw:=fun x1=>bx p1 x1
abbrev dx:=fun x1=>uu (q' x1)
abbrev dy:=fun x1=>I p2 x1
abbrev dz:=fun x1 x2 x3=>bO x1 (au x2 x3)
abbrev dA:=fun x1 x2 x3=>kC2 x1 x2 (Y x3)
abbrev dB:=DU false
abbrev dD:=fun x1 x2 x3 x4 x5 x6 x7=>aA x1 x2 x3 x4 (dt x5 x6 x7)
abbrev dE:=bK p3
abbrev dF:=fun x1=>bE EA x1
abbrev dG:=fun x1 x2 x3 x4=>nH x1 (p x2 x3 x4)
abbrev dH:=bl ad
abbrev dI:=fun x1 x2 x3=>bq x1 x2 x3 E'
abbrev dJ:=fun x1=>bM p1 x1
abbrev dK:=fun x1=>u p2 x1
abbrev dL:=fun x1 x2 x3=>xX x1 x2 (Y x3)
abbrev dM:=fun x1 x2=>h x1 (q' x2)
abbrev dO:=fun x1 x2 x3 x4=>bJ x1 x2 (d x3) x4
abbrev dP:=fun x1=>w Ez x1
abbrev dQ:=fun x1 x2 x3=>S' (am x1 x2) x3
abbrev dR:=fun x1 x2 x3 x4=>bI x1 x2 x3 (P x4)
abbrev dS:=bH p3
abbrev dT:=fun x1=>D IntKind.i64 x1
abbrev dU:=fun x1 x2 x3 x4=>dh x1 x2 x3 x4 E'
abbrev dV:=fun x1 x2 x3 x4 x5 x6=>a5 x1 x2 x3 x4 x5 x6 og
abbrev dW:=xW p1
abbrev dX:=fun x1 x2 x3 x4 x5 x6=>aZ x1 x2 x3 x4 (P x5) x6
abbrev dY:=fun x1=>au x1 p3
abbrev dZ:=fun x1=>am 161 x1
abbrev dC:=fun x1 x2 x3 x4 x5=>bk x1 x2 x3 (bV x4 x5)
abbrev dN:=fun x1 x2=>b7 x1 x2 p2
abbrev d0:=fun x1=>w qz x1
abbrev d1:=z 0
abbrev d2:=bQ ⟨#[105,58,118]⟩
abbrev d3:=fun x1=>dy (bU x1)
abbrev d4:=fun x1 x2 x3 x4 x5 x6 x7=>t x1 x2 (an x3 x4 x5 x6) x7
abbrev d5:=fun x1=>bE sV x1
abbrev d6:=fun x1 x2 x3=>dU x1 x2 p1 x3
abbrev d7:=fun x1 x2 x3 x4=>ae x1 0 x2 x3 x4
abbrev d8:=fun x1 x2 x3 x4 x5 x6=>d4 x1 x2 x3 x4 x5 x6 og
abbrev d9:=fun x1 x2 x3 x4=>dv x1 bT x2 x3 x4
abbrev dc:=fun x1=>ak (bN x1)
abbrev dn:=bQ ⟨#[118,105,58,118]⟩
abbrev ea:=fun x1 x2 x3 x4 x5 x6 x7 x8=>ba x1 x2 (ag x3 x4 x5 x6 x7) x8
abbrev eb:=fun x1 x2 x3 x4 x5=>a2 x1 x2 s x3 x4 x5
abbrev ed:=fun x1=>dN x1 p3
abbrev ee:=fun x1 x2 x3=>bS x1 1 x2 x3
abbrev ef:=fun x1 x2 x3=>a x1 (uu x2) x3
abbrev eg:=fun x1 x2 x3=>D' x1 (d x2) x3
abbrev eh:=fun x1=>aU x1 p1
abbrev ei:=fun x1 x2 x3=>d6 (j x1) x2 x3
abbrev ej:=fun x1=>dK (bN x1)
abbrev ek:=fun x1 x2 x3 x4=>d9 x1 x2 (aR x3) x4
abbrev el:=bQ ⟨#[118,58,105]⟩
abbrev em:=fun x1=>yP 0 x1
abbrev eo:=fun x1 x2 x3=>ao x1 x2 x3 og
abbrev ep:=fun x1 x2 x3 x4=>bP x1 x2 (Od.t x3) x4
abbrev er:=fun x1 x2 x3 x4 x5 x6 x7 x8 x9 zN DS Kh=>b5 x1 x2 x3 p2 x4 x5 x6 x7 x8 x9 zN DS Kh
abbrev es:=z 18446744073709551615
abbrev et:=dr 169
abbrev eu:=fun x1 x2 x3 x4 x5 x6=>b2 x1 x2 x3 x4 E' x5 x6
abbrev ev:=fun x1 x2=>f x1 p1 x2
abbrev ew:=bQ ⟨#[118,58,118]⟩
abbrev ex:=fun x1 x2 x3 x4 x5 x6 x7 x8 x9 zN DS=>er x1 x2 x3 E' x4 x5 x6 x7 x8 x9 zN DS
abbrev ey:=fun x1 x2 x3=>eo x1 (d x2) x3
abbrev ez:=fun x1 x2 x3 x4 x5=>ek x1 x2 x3 (aN x4 x5)
abbrev eA:=fun x1 x2 x3 x4=>ep x1 x2 x3 (Od.t x4)
abbrev eB:=fun x1 x2=>p x1 wg x2
abbrev eD:=fun x1 x2 x3 x4 x5 x6 x7 x8 x9 zN DS Kh M5 x14 x15 x16 x17=>ai x1 x2 x3 x4 x5 x6 x7 x8 (ai x9 zN DS Kh M5 x14 x15 x16 x17)
abbrev eE:=fun x1=>af aX x1
abbrev eF:=fun x1 x2 x3 x4=>M x1 x2 al x3 x4
abbrev eG:=fun x1 x2 x3 x4 x5 x6 x7 x8=>W x1 x2 (m x3 x4) x5 x6 x7 x8
abbrev eH:=qR p7
abbrev eI:=bB p1
abbrev eJ:=fun x1 x2 x3=>ev x1 (bV x2 x3)
abbrev eK:=fun x1 x2 x3 x4 x5=>eF x1 (m x2 x3) x4 x5
abbrev eL:=fun x1 x2=>oB.callV (Od.t x1) x2
abbrev eM:=fun x1 x2 x3 x4 x5 x6 x7=>eG x1 x2 x3 x4 al x5 x6 x7
abbrev eO:=fun x1 x2 x3 x4=>dg x1 x2 x3 x4 E'
abbrev eP:=d5 4294967295
abbrev eQ:=fun x1 x2=>aU x1 (Y x2)
abbrev eR:=fun x1 x2 x3 x4=>a x1 x2 (aa x3 x4)
abbrev eS:=bQ ⟨#[105,58,105]⟩
abbrev eT:=fun x1 x2=>aE x1 ad x2
abbrev eU:=fun x1 x2 x3 x4=>eb x1 0 x2 x3 x4
abbrev eV:=fun x1 x2 x3 x4 x5 x6 x7 x8 x9 zN=>ex x1 x2 p1 x3 x4 x5 x6 x7 x8 x9 zN
abbrev eW:=d 0
abbrev eX:=fun x1=>w HO x1
abbrev eY:=fun x1=>u p3 x1
abbrev eZ:=fun x1=>pG 1 x1
abbrev eC:=fun x1 x2 x3 x4=>Jg x1 x2 (Qe x3) x4
abbrev eN:=fun x1 x2 x3 x4=>eO x1 x2 x3 (b x4)
abbrev e0:=fun x1 x2 x3 x4 x5 x6 x7=>d8 x1 x2 x3 x4 x5 (bV x6 x7)
abbrev e1:=fun x1 x2 x3 x4 x5=>aP x1 (v x2 x3 x4) x5
abbrev e2:=fun x1=>D IntKind.u32 x1
abbrev e3:=qR p5
abbrev e4:=Cp false
abbrev e5:=fun x1=>H x1 p1
abbrev e6:=fun x1 x2 x3 x4 x5 x6=>a5 x1 0 x2 x3 x4 x5 x6
abbrev e7:=fun x1=>w EA x1
abbrev e8:=fun x1 x2 x3 x4=>D' x1 (am x2 x3) x4
abbrev e9:=fun x1 x2 x3 x4=>d7 x1 (aH x2) x3 x4
abbrev ec:=fun x1 x2 x3=>ee x1 (q' x2) x3
abbrev en:=fun x1 x2 x3 x4=>k x1 x2 x3 x4 E'
abbrev fa:=l ad
abbrev fb:=fun x1 x2 x3 x4 x5=>dO x1 x2 x3 (aa x4 x5)
abbrev fd:=dy al
abbrev fe:=fun x1 x2 x3 x4=>gF x1 x2 (oB.call x3 x4)
abbrev ff:=a3 1
abbrev fg:=dT p1
abbrev fh:=fun x1 x2 x3 x4 x5=>en x1 x2 (a4 x3 x4) x5
abbrev fj:=xW p3
abbrev fk:=fun x1 x2 x3 x4 x5 x6 x7=>df x1 q x2 x3 x4 x5 x6 x7
abbrev fl:=fun x1 x2 x3 x4 x5=>ap x1 (aY x2 x3 x4 x5)
abbrev fm:=fun x1 x2 x3 x4 x5=>eF x1 (aU x2 x3) x4 x5
abbrev fo:=d 1
abbrev fp:=J 0
abbrev fq:=fun x1 x2 x3=>I x1 (m x2 x3)
abbrev fr:=fun x1 x2 x3 x4 x5 x6=>dD x1 x2 x3 x4 x5 p2 x6
abbrev fs:=fun x1 x2=>xX x1 p4 x2
abbrev ft:=fun x1 x2 x3 x4=>e1 x1 tD x2 x3 x4
abbrev fu:=fun x1 x2=>dA x1 p1 x2
abbrev fv:=fun x1 x2 x3 x4 x5 x6 x7=>ev x1 (fr x2 x3 x4 x5 x6 x7)
abbrev fw:=qR p4
abbrev fx:=fun x1=>aN x1 p2
abbrev fy:=fun x1 x2 x3 x4 x5=>bk (tx x1 x2) x3 x4 x5
abbrev fz:=fun x1 x2 x3 x4 x5=>ao x1 x2 x3 (ah x4 x5)
abbrev fA:=fun x1 x2 x3 x4=>aa (a1 x1 x2 x3) x4
abbrev fD:=fun x1 x2 x3 x4=>kC3 x1 x2 x3 (Y x4)
abbrev fE:=fun x1 x2 x3 x4 x5 x6=>fk x1 x2 x3 x4 x5 wg x6
abbrev fF:=fun x1 x2 x3=>ec (q' x1) x2 x3
abbrev fG:=fun x1=>Dr (o x1)
abbrev fH:=fun x1 x2 x3 x4 x5 x6 x7=>dX x1 x2 x3 x4 x5 (eB x6 x7)
abbrev fI:=eh p2
abbrev fJ:=fun x1=>u p4 x1
abbrev fK:=fun x1 x2 x3 x4 x5 x6=>de x1 x2 x3 (d x4) x5 x6
abbrev fL:=fun x1 x2 x3 x4 x5 x6 x7=>W x1 x2 x3 x4 (dJ x5) x6 x7
abbrev fM:=fun x1 x2 x3 x4 x5=>dq x1 x2 x3 x4 p1 x5
abbrev fO:=fun x1 x2 x3=>aS x1 1 x2 x3
abbrev fP:=GQ cY
abbrev fQ:=fun x1 x2 x3 x4=>ez x1 x2 x3 170 x4
abbrev fR:=fun x1 x2 x3 x4 x5 x6=>av x1 x2 x3 x4 x5 x6 og
abbrev fS:=fun x1 x2=>I (q' x1) x2
abbrev fT:=fun x1=>w ui x1
abbrev fU:=fun x1 x2 x3 x4=>dR x1 x2 (b8 x3) x4
abbrev fV:=fun x1 x2 x3 x4=>fM x1 x2 x3 x4 E'
abbrev fW:=fun x1 x2 x3=>bk x1 x2 p1 x3
abbrev fX:=fun x1=>di x1 p2
abbrev fY:=fun x1=>dM 1 x1
abbrev fZ:=fun x1 x2 x3 x4=>eg x1 x2 (bO x3 x4)
abbrev fC:=fun x1 x2=>bu x1 (bz x2)
abbrev fN:=fun x1=>I p3 x1
abbrev f0:=fun x1=>ak (bH x1)
abbrev f1:=fun x1=>Dr (z x1)
abbrev f2:=fun x1 x2 x3 x4 x5 x6 x7 x8=>nH (b9 x1 x2 x3 x4 x5 x6 x7) x8
abbrev f3:=fun x1 x2 x3 x4 x5=>dQ x1 x2 (ee x3 x4 x5)
abbrev f4:=fun x1 x2=>br x1 2 x2
abbrev f5:=fun x1 x2 x3 x4=>dC x1 x2 p1 x3 x4
abbrev f6:=bm p2
abbrev f7:=J 1
abbrev f8:=bK p4
abbrev f9:=e5 16
abbrev fc:=fun x1 x2 x3=>E x1 x2 x3 E'
abbrev fn:=fun x1 x2 x3=>a (uu x1) x2 x3
abbrev ga:=fun x1 x2 x3=>da (d3 x1) x2 x3
abbrev gb:=bQ ⟨#[105,118,58]⟩
abbrev gd:=d 2
abbrev ge:=fun x1 x2 x3 x4 x5 x6 x7=>fz x1 (aw x2 x3 x4) x5 x6 x7
abbrev gf:=fun x1 x2 x3 x4 x5=>fm x1 x2 x3 (P x4) x5
abbrev gg:=fun x1 x2=>fc x1 p1 x2
abbrev gh:=fun x1=>eQ p1 x1
abbrev gi:=fun x1 x2 x3 x4 x5 x6 x7 x8 x9=>eV x1 x2 x3 x4 x5 x6 x7 x8 1 x9
abbrev gj:=bQ ⟨#[105,58,108]⟩
abbrev gk:=fun x1 x2 x3 x4 x5 x6=>ag x1 x2 x3 x4 (ah x5 x6)
abbrev gl:=fun x1 x2 x3 x4 x5 x6=>k x1 x2 x3 x4 (bO x5 x6)
abbrev gm:=fun x1=>gg x1 p2
abbrev go:=fun x1 x2 x3 x4 x5 x6 x7 x8 x9=>ai x1 x2 x3 x4 (j x5) x6 x7 x8 x9
abbrev gp:=fun x1 x2 x3 x4 x5 x6 x7 x8=>nH (av x1 x2 x3 x4 x5 x6 x7) x8
abbrev gq:=fun x1 x2=>e x1 x2 og
abbrev gr:=fun x1 x2=>xX x1 p5 x2
abbrev gs:=fun x1=>ds (Y x1)
abbrev gt:=fun x1 x2=>aa (bN x1) x2
abbrev gu:=fun x1 x2=>fq p1 x1 x2
abbrev gv:=fun x1 x2 x3 x4 x5=>gq x1 (fZ x2 x3 x4 x5)
abbrev gw:=bQ ⟨#[105,118,58,118]⟩
abbrev gx:=fun x1=>m 1 x1
abbrev gy:=fun x1 x2=>bO x1 (dZ x2)
abbrev gz:=fun x1 x2=>fO 2 x1 x2
abbrev gA:=fun x1 x2 x3 x4=>bF x1 x2 x3 E' x4
abbrev gB:=fun x1 x2 x3 x4 x5 x6 x7=>fL x1 x2 (be x3) x4 x5 x6 x7
abbrev gD:=fun x1 x2 x3=>b4 x1 x2 M4 x3
abbrev gE:=fun x1=>bu x1 b6
abbrev gG:=fun x1=>w vM x1
abbrev gH:=dw 0
abbrev gI:=e2 p1
abbrev gJ:=fun x1=>tx x1 1
abbrev gK:=gE dB
abbrev gL:=fun x1 x2 x3=>t x1 x2 E' x3
abbrev gM:=fun x1 x2 x3 x4=>dz (gz x1 x2) x3 x4
abbrev gO:=fun x1 x2 x3 x4 x5 x6 x7 x8 x9=>ea x1 x2 x3 x4 x5 x6 (f4 x7 x8) x9
abbrev gP:=fun x1 x2 x3 x4 x5=>ag x1 x2 x3 (P x4) x5
abbrev gQ:=bZ p2
abbrev gR:=fun x1 x2=>R' x1 (bl x2)
abbrev gS:=fun x1=>bE x1 4294967296
abbrev gT:=y true
abbrev gU:=fun x1=>a4 x1 131
abbrev gV:=fun x1 x2 x3=>gL x1 x2 (em x3)
abbrev gW:=fun x1 x2=>dL x1 p1 x2
abbrev gX:=fun x1 x2=>dI 1 x1 x2
abbrev gY:=fun x1 x2 x3=>b0 x1 p2 x2 x3
abbrev gZ:=fun x1 x2 x3 x4 x5 x6 x7=>e0 x1 (bY x2) x3 x4 x5 x6 x7
abbrev gC:=fun x1 x2 x3=>D' x1 (xW x2) x3
abbrev gN:=fun x1=>af vM x1
abbrev g0:=fun x1 x2 x3 x4 x5=>ah x1 (d7 x2 x3 x4 x5)
abbrev g1:=fun x1=>w qy x1
abbrev g2:=fun x1 x2 x3=>fQ x1 x2 x3 p3
abbrev g3:=uu p7
abbrev g4:=fun x1=>aN x1 p4
abbrev g5:=fun x1 x2 x3 x4=>kC4 x1 x2 x3 x4 p1
abbrev g6:=j 1
abbrev g7:=fun x1 x2 x3=>Q' x1 (bY x2) x3
abbrev g8:=fun x1 x2 x3=>S' x1 (gX x2 x3)
abbrev g9:=fun x1 x2 x3 x4 x5 x6=>W x1 x2 x3 x4 x5 x6 og
abbrev gc:=fun x1 x2=>du x1 x2 M4
abbrev gn:=Od.t 41
abbrev ha:=dK al
abbrev hb:=fun x1 x2 x3 x4 x5 x6 x7=>nH (eu x1 x2 x3 x4 x5 x6) x7
abbrev hd:=fun x1 x2=>Dr (AV.fn x1 x2)
abbrev he:=fun x1 x2 x3 x4=>fD x1 x2 (Y x3) x4
abbrev hf:=fun x1 x2 x3 x4 x5=>aC x1 x2 x3 (d x4) x5
abbrev hg:=fun x1=>db p1 x1
abbrev hh:=fun x1 x2=>ei x1 1 x2
abbrev hi:=fun x1 x2=>gc x1 (Y x2)
abbrev hj:=fun x1=>af ra x1
abbrev hk:=fun x1=>bE Ez x1
abbrev hl:=fun x1 x2 x3 x4 x5=>d7 x1 x2 x3 (ah x4 x5)
abbrev hm:=fun x1 x2 x3 x4 x5 x6 x7 x8 x9 zN DS=>gi x1 x2 x3 x4 x5 (gY x6 x7 x8) x9 zN DS
abbrev ho:=fun x1 x2 x3 x4 x5=>bb x1 0 x2 x3 x4 x5
abbrev hp:=fun x1 x2 x3 x4 x5 x6 x7 x8 x9 zN=>bt x1 x2 s x3 x4 x5 x6 x7 x8 x9 zN
abbrev hq:=fun x1=>u p5 x1
abbrev hr:=bQ ⟨#[105,108,58]⟩
abbrev hs:=oC a9
abbrev ht:=fun x1=>u p1 x1
abbrev hu:=fun x1 x2 x3 x4 x5 x6 x7 x8 x9=>hp x1 x2 x3 x4 x5 x6 s x7 x8 x9
abbrev hv:=fun x1 x2=>a1 1 x1 x2
abbrev hw:=fun x1 x2 x3 x4=>ef x1 x2 (hh x3 x4)
abbrev hx:=fun x1 x2=>Jf (Dr x1) x2
abbrev hy:=fun x1 x2 x3=>dk 16 x1 x2 x3
abbrev hz:=bs 0
abbrev hA:=fun x1 x2 x3 x4 x5 x6 x7 x8=>hu x1 0 x2 x3 x4 x5 x6 x7 x8
abbrev hB:=fun x1=>D x1 p1
abbrev hD:=fun x1 x2 x3 x4=>fh x1 bT x2 x3 x4
abbrev hE:=fun x1 x2=>aE x1 d1 x2
abbrev hF:=fun x1 x2 x3 x4 x5 x6 x7=>d9 x1 x2 x3 (gM x4 x5 x6 x7)
abbrev hG:=fun x1 x2 x3 x4 x5 x6 x7=>dO x1 x2 x3 (f5 x4 x5 x6 x7)
abbrev hH:=fun x1 x2=>dz x1 x2 p5
abbrev hI:=fun x1 x2 x3 x4=>bk x1 x2 x3 (P x4)
abbrev hJ:=bn p3
abbrev hK:=fun x1 x2 x3 x4 x5 x6=>eT x1 (fl x2 x3 x4 x5 x6)
abbrev hL:=fun x1 x2 x3 x4 x5 x6 x7=>hA x1 x2 x3 x4 0 x5 x6 x7
abbrev hM:=hB IntKind.u8
abbrev hO:=fun x1 x2 x3 x4 x5 x6=>hL x1 0 x2 x3 x4 x5 x6
abbrev hP:=fun x1 x2 x3 x4 x5=>hO x1 x2 x3 0 x4 x5
abbrev hQ:=bN 0
abbrev hR:=g4 189
abbrev hS:=fun x1 x2 x3 x4=>Yt x1 x2 false x3 x4
abbrev hT:=d 11
abbrev hU:=fun x1 x2 x3 x4 x5 x6 x7 x8 x9 zN DS Kh M5 x14=>ac x1 q x2 x3 x4 x5 x6 x7 x8 x9 zN DS Kh M5 x14
abbrev hV:=fun x1 x2 x3 x4=>gf x1 p4 x2 x3 x4
abbrev hW:=fun x1 x2 x3 x4 x5 x6 x7 x8 x9=>bC x1 x2 x3 x4 al x5 x6 x7 x8 x9
abbrev hX:=Od.t 25
abbrev hY:=fun x1=>oC (z x1)
abbrev hZ:=fun x1 x2 x3=>a x1 x2 (ak x3)
abbrev hC:=fun x1 x2 x3 x4 x5 x6 x7 x8=>hP x1 x2 x3 (hD x4 x5 x6 x7) x8
abbrev hN:=fun x1 x2 x3 x4 x5=>M x1 x2 (e5 x3) x4 x5
abbrev h0:=fun x1 x2 x3 x4 x5 x6=>hN x1 (fs x2 x3) x4 x5 x6
abbrev h1:=fun x1 x2 x3 x4 x5 x6 x7 x8 x9 zN DS Kh M5=>hU x1 x2 x3 x4 x5 x6 x7 q x8 x9 zN DS Kh M5
abbrev h2:=fun x1 x2 x3=>hV x1 p2 x2 x3
abbrev h3:=fun x1=>I p4 x1
abbrev h4:=Od.t 35
abbrev h5:=d 10
abbrev h6:=fun x1 x2 x3 x4=>Tj x1 1 x2 x3 x4
abbrev h7:=fun x1=>gW 16 x1
abbrev h8:=xW p2
abbrev h9:=fun x1=>dK (dm x1)
abbrev hc:=fun x1 x2 x3 x4 x5 x6 x7=>dd x1 x2 x3 x4 (ah x5 x6) x7
abbrev hn:=fun x1 x2 x3 x4 x5 x6 x7 x8 x9 zN DS Kh M5 x14 x15 x16 x17 x18 x19 x20 x21 x22 x23 x24 x25=>h1 x1 x2 x3 x4 x5 x6 x7 x8 x9 zN DS Kh (h1 M5 x14 x15 x16 x17 x18 x19 x20 x21 x22 x23 x24 x25)
abbrev ia:=fun x1 x2 x3=>eU x1 0 x2 x3
abbrev ib:=fun x1=>fu 133 x1
abbrev ie:=fun x1 x2 x3 x4 x5 x6 x7 x8 x9=>bC x1 x2 x3 x4 x5 al x6 x7 x8 x9
abbrev ig:=fun x1 x2=>dt x1 p2 x2
abbrev ih:=fun x1 x2 x3 x4 x5 x6=>ev x1 (aA x2 x3 x4 x5 x6)
abbrev ii:=fun x1 x2 x3 x4 x5 x6=>fK x1 x2 x3 x4 (ed x5) x6
abbrev ij:=gm 1
abbrev ik:=gx 3
abbrev il:=fun x1 x2 x3=>he 232 x1 x2 x3
abbrev im:=Od.t 30
abbrev io:=J 131
abbrev ip:=fun x1 x2 x3=>dp x1 x2 E' x3
abbrev iq:=fun x1 x2 x3 x4=>bI x1 x2 x3 (fx x4)
abbrev ir:=fun x1=>dP (Y x1)
abbrev it:=fun x1 x2 x3 x4=>fW (am x1 x2) x3 x4
abbrev iu:=fun x1 x2 x3 x4 x5 x6 x7=>hl x1 (il x2 x3 x4) x5 x6 x7
abbrev iv:=fun x1 x2 x3 x4 x5 x6 x7 x8=>go x1 x2 x3 x4 x5 al x6 x7 x8
abbrev iw:=hB IntKind.i32
abbrev ix:=be 0
abbrev iy:=fun x1 x2 x3=>gL x1 (az x2) x3
abbrev iz:=fun x1 x2 x3 x4 x5 x6 x7 x8 x9=>h0 x1 x2 x3 x4 (fV x5 x6 x7 x8) x9
abbrev iA:=fun x1 x2=>aE x1 bD x2
abbrev iB:=Od.t 29
abbrev iD:=ds p2
abbrev iE:=bz 0
abbrev iF:=fT p2
abbrev iG:=fun x1 x2 x3 x4 x5 x6 x7 x8=>iv x1 x2 x3 x4 x5 x6 (dZ x7) x8
abbrev iH:=Y 64
abbrev iI:=fun x1=>ak (ib x1)
abbrev iJ:=fun x1 x2 x3=>bR x1 x2 x3 E'
abbrev iK:=fun x1=>dy (eE x1)
abbrev iL:=fun x1 x2 x3=>gA x1 x2 ad x3
abbrev iM:=fun x1=>ht (gx x1)
abbrev iO:=fun x1 x2 x3 x4 x5 x6=>eK x1 x2 x3 (gt x4 x5) x6
abbrev iP:=fun x1 x2=>GQ (eL x1 x2)
abbrev iQ:=fun x1 x2 x3 x4 x5 x6=>av x1 x2 x3 x4 al x5 x6
abbrev iR:=fun x1=>tx x1 0
abbrev iS:=d 3
abbrev iT:=d5 9259542123273814144
abbrev iU:=fun x1 x2=>aE x1 ab x2
abbrev iV:=fun x1 x2=>gD x1 x2 p1
abbrev iW:=fun x1 x2=>ga x1 dE x2
abbrev iX:=fun x1 x2=>hh x1 (Y x2)
abbrev iY:=fun x1 x2 x3 x4 x5=>ho x1 x2 x3 (dY x4) x5
abbrev iZ:=fun x1 x2=>u (q' x1) x2
abbrev iC:=fJ al
abbrev iN:=fun x1=>I p5 x1
abbrev i0:=d 8
abbrev i1:=fun x1 x2=>br x1 x2 ab
abbrev i2:=fun x1=>a6 x1 0
abbrev i3:=fun x1=>m 0 x1
abbrev i4:List AV:=[aK,aK,aK,aK,aK,aK,aK,aK,aK,aK,aK,aK,aK,aK,aK,aK]
abbrev i5:List AV:=[ad,ad,ad,ad,aL]
abbrev ka:=ft 43 p8 1 35
abbrev kk:=hH iF 185
abbrev j5:=da (F [bD,ab] [(1,1,hX)]) dW 10
abbrev kp:=iP 39 [Od.t 40,gn]
abbrev mx:=de 39 4 10 (aQ 2 12) kp E'
abbrev mQ:=dc 0
abbrev k1:List AV:=[ad]
abbrev j3:=aR k1
abbrev j6:=ii 44 0 1 10 204 E'
abbrev j4:List AV:=[bD,bD]
abbrev i6:=e6 13 3 bd gd kk (hc 19 3 bd mQ 21 og (eU 22 1 j5 (a5 28 10 3 bd j3 hR (dd 33 3 bd dH (bL 0 36 p1 p2 E' 36 0 1 (iz 37 2 p2 2 12 j4 2 12 mx) ka) j6))))
abbrev j7:=bu e4 bD
abbrev i7:=gO 2 bD 3 p3 j7 E' 4 bD (M 5 (aS 0 2 j4 []) dj (fA 2 48 p2 2) og)
abbrev i8:List AV:=[ad,ad,ad,ad,ad,ad,ad,ad,ad,ad,ad,ad,ad,ad,ad,ad,ad,ad,ad,ad,ad,ad,ad,ad,ad,ad,ad,ad,ad,ad,ad,ad,ad,ad,ad,ad,ad,ad,ad,ad,ad,ad,ad,ad,ad,ad,ad,ad,ad,ad,ad,ad,ad,ad,ad,ad,ad,ad,ad,ad,ad,ad,ad,ad,ad,ad,ad,ad,ad,ad,ad,ad]
abbrev i9:=aR [d1]
abbrev ic:List AV:=[ad,ad,ad]
abbrev ja:List AV:=[bD,bD,bD,bD,bD,bD,bD,ad,bD,bD,bD]
abbrev kf:=bm p3
abbrev jc:=S' fP (N' fP E')
abbrev jb:=gi 0 12 12 0 1 (h2 13 5 (a5 15 3 5 bd kf (P 3) (eu 19 3 r7 0 20 (R' 21 jc)))) 22 11 11
abbrev jd:List AV:=[ad,ad,ad,ad,ad,bD,bD]
abbrev jn:=dw 1
abbrev lC:=u p7 bd
abbrev mO:=dK hz
abbrev lZ:=u p6 al
abbrev mH:=bH p9
abbrev je:=ai mO dS C jn (bx p2 0) (eY s) (fJ bT) (hq bT) (en lZ lC (u p8 (d0 p7)) mH)
abbrev jf:=gU k1
abbrev jg:List AV:=[ad,ad,ad,d1,d1,bD]
abbrev jh:=eJ 6 7 0
abbrev ji:List AV:=[ad,ad,ab,bD,bD]
abbrev jj:=gg 1 p3
abbrev jk:=wR [aK] (Dr aK)
abbrev jl:List AV:=[ad,ad,d1]
abbrev jm:=d 7
abbrev jo:=de 39 4 10 (aQ 3 12) kp E'
abbrev jp:=j 2
abbrev lx:=J 8
abbrev kd:=J 2
abbrev m5:=J 4
abbrev jq:=F [ad,ad,ad,ad,ad,ad] [(0,1,fp),(1,1,f7),(2,1,kd),(3,1,m5),(4,1,J 6),(5,1,lx)]
abbrev jr:=eC 1 p2 p1 M4
abbrev js:=gz k1 [(0,io),(1,J 125)]
abbrev kC:=J 133
abbrev jt:=gz k1 [(0,io),(1,kC)]
abbrev mj:=fJ (d0 p3)
abbrev ju:=ai (dw 2) mO dS C (dw 2) (bx p2 1) (eY (aH 140)) mj (f0 p5)
abbrev jv:=bE q 0
abbrev jw:=g2 s 2 k1
abbrev jx:=P 6
abbrev lT:=gu 1 7
abbrev jy:=en lT fd (fN (bu (Co false) (x ⟨#[101,120,105,116]⟩))) f8
abbrev jz:=j 3
abbrev jA:=Ti Oi p1
abbrev jB:=dP (f1 1)
abbrev jD:=d6 bT 1 p3
abbrev jE:=gO 2 ad 3 p3 gK E' 4 ad (fR 5 p5 s bT al (da bd (gN 65536) 2))
abbrev jF:=h6 6 (q' 10) M4 (Qe (q' 151))
abbrev jG:=d 4
abbrev jH:=ak (g5 177 p4 p3 p2)
abbrev jI:=b8 1
abbrev jJ:=dJ 0
abbrev jK:=gh 0
abbrev jL:=eJ 4 5 0
abbrev jM:=F j4 []
abbrev jO:=bY 4
abbrev jP:=d 12
abbrev jQ:=d6 (hy 1 8 p6) 1 p2
abbrev jR:=Od.t 24
abbrev jS:=Od.t 34
abbrev jT:List AV:=[ad,ad,bD,bD,ab,ab]
abbrev jU:=bn p2
abbrev jV:=aH 246
abbrev jW:=f5 bX 4 5 0
abbrev jX:=gz k1 [(0,io),(1,J 124)]
abbrev jY:=adZ 1 (wO' p2) (wO' p1)
abbrev jZ:=Od.t 13
abbrev jC:=Od.t 31
abbrev jN:List AV:=[ad,iE,bD,ad]
abbrev j0:=aR [aK]
abbrev j1:=b 1
abbrev j2:=bE q 18446744073709551615
abbrev j8:=hW 54 0 s bT s bT eW s (fh jp al k1 131 (dZ [Od.t 59,Od.t 63,Od.t 64]))
abbrev j9:=F i4 []
abbrev kb:=az i4
abbrev m4:=qR p3
abbrev ke:=ba 2 d1 (gL 3 m4 (f4 3 (z 1))) (a0 2 d1)
abbrev kg:=d 5
abbrev kh:=d 9
abbrev ki:=e7 p3
abbrev kj:=eX p5
abbrev kl:=w aX p3
abbrev km:=bu r7 (o 128)
abbrev ko:=dm 0
abbrev lX:=zM p2 p1
abbrev kq:=k (Fi p2 p1) (d 14) lX bX (P 12)
abbrev kr:=Od.t 28
abbrev ks:=Od.t 32
abbrev kt:=Od.t 42
abbrev ku:=J 7
abbrev kv:=aH 48
abbrev kw:=d 6
abbrev kx:=eh p3
abbrev ky:=P 4
abbrev kz:=a0 2 ad
abbrev kA:=aQ 11 1
abbrev kB:=bu (Co false) (x ⟨#[104,111,115,116]⟩)
abbrev kD:=g5 249 p4 p3 p2
abbrev l0:=Od.t 17
abbrev l2:=Od.t 18
abbrev kE:=hF s 1 gd k1 [(0,l0),(1,l2)] 170 p4
abbrev kF:=hv 8 p2
abbrev kG:=j 13
abbrev kH:=y false
abbrev kI:=Od.t 33
abbrev kJ:=a4 k1 126
abbrev kK:=a4 k1 136
abbrev l9:=bH p5
abbrev kL:=en (bx p2 1) (eY jV) mj l9
abbrev kM:=fC sV 31
abbrev kO:=fY 10
abbrev kP:=h3 al
abbrev kQ:=Lu p1
abbrev kR:=oC aL
abbrev kS:=ah9 (wO' p1)
abbrev kT:=bQ ⟨#[105,105,58]⟩
abbrev kU:=zL uT (Y 2) p3
abbrev kV:=ih 6 p3 0 p4 1 (fy p5 2 3 p3 (ig 4 5))
abbrev kW:=Od.t 26
abbrev kX:=Od.t 36
abbrev kY:=Od.t 38
abbrev kZ:=Od.t 56
abbrev kN:=bH p6
abbrev k0:=bY 3
abbrev k2:=bZ iH
abbrev k3:=bl ab
abbrev k4:=bx p3 0
abbrev k5:=ev 3 (B 4 gT)
abbrev k6:=fu 279 127
abbrev k7:=j 12
abbrev k8:=aH 233
abbrev k9:=aH 390
abbrev kc:=aU p5 p3
abbrev kn:=gS ra
abbrev la:=aA p4 0 p5 1 (dq 4 ji 5 4 p2 (P 5))
abbrev lb:=b7 161 p2 (Dr es)
abbrev ld:=dv al jP 10 gQ (ef (iV 1 p4) p9 jD)
abbrev lf:=eR (iN bd) (I p6 (bn p4)) (bK p7) 8
abbrev lg:=av 6 p6 bd eH bd (ak kl) (i1 10 4)
abbrev lh:=bM (q' 45) 0
abbrev li:=bY 5
abbrev lj:=e5 2
abbrev lk:=fX 7
abbrev ll:=h7 0
abbrev lm:=k al jP ff (iV 1 p3) (fn p8 bT jj)
abbrev lo:=Od.t 14
abbrev lp:=Od.t 20
abbrev lq:=Od.t 27
abbrev lr:=Od.t 37
abbrev ls:=Od.t 43
abbrev lu:=Od.t 45
abbrev lv:=Od.t 50
abbrev lw:=Od.t 52
abbrev ly:=P 7
abbrev lz:=Y 512
abbrev lA:=bH p4
abbrev lB:=bl b1
abbrev lD:=da j0 (hv 1 p5) 3
abbrev lE:=gG iH
abbrev lF:=hy 1 9 p1
abbrev lG:=j 4
abbrev lH:=j 5
abbrev lI:=m 2 3
abbrev lJ:=a (hq bd) (u p6 (d0 p4)) (f0 p7)
abbrev lK:=a0 6 bD
abbrev lL:=d 13
abbrev lM:=eY (bn (fG 191))
abbrev lO:=ed 150
abbrev lP:=fS 45 (hi p2 24)
abbrev lQ:=fY 2
abbrev lR:=fx 188
abbrev lS:=gu 0 3
abbrev lU:=hv 8 p3
abbrev lV:=i3 6
abbrev lW:=iX 7 40
abbrev lY:=Dr bD
abbrev lN:=Od.t 12
abbrev l1:=hD s k1 136 (b7 161 p2 (f1 1))
abbrev l3:=Od.t 21
abbrev l4:=Od.t 23
abbrev l5:=Od.t 44
abbrev l6:=Od.t 46
abbrev l7:=Od.t 49
abbrev l8:=Od.t 57
abbrev lc:=bK p5
abbrev ln:=bK p6
abbrev ma:=dF 32
abbrev mb:=ht bW
abbrev md:=k al fo fI al (ev 4 (B 5 gT))
abbrev me:=J 13
abbrev mf:=J 16
abbrev mg:=ah 26 (e0 27 j9 16 6 p1 7 1)
abbrev mh:=bE A5 9223372036854775808
abbrev mi:=dJ 2
abbrev mk:=gx 5
abbrev ml:=hG 65 1 2 (w ra p2) 6 7 0
abbrev mm:=hG 70 1 2 (w sV p2) 6 7 0
abbrev mo:=hG 80 1 2 (w A5 p2) 6 7 0
abbrev mp:=i3 3
abbrev mq:=k fo kg fI al (ak (w aX p5))
abbrev mr:=af uT 65536
abbrev ms:=gC 2 p4 (bO (az j4) (l ab))
abbrev mt:=Od.t 145
abbrev mu:=aH 173
abbrev mv:=aH 219
abbrev mw:=b (-1)
abbrev my:=dr 391
abbrev mz:=w q p2
abbrev mA:=Od.t 22
abbrev mB:=Od.t 51
abbrev mD:=Od.t 54
abbrev mE:=Od.t 55
abbrev mF:=Od.t 69
abbrev mG:=aQ 11 2
abbrev mI:=bQ ⟨#[105,105,58,105]⟩
abbrev mJ:=bm p5
abbrev mK:=bz 4294967295
abbrev mL:=d0 p2
abbrev mM:=dK (hg 2)
abbrev mP:=dK s
abbrev mR:=fY 8
abbrev mS:=g1 p2
abbrev mT:=g2 s 1 k1
abbrev mU:=g2 s 6 k1
abbrev mV:=gJ p2
abbrev mW:=gk 5 p4 hz E' 6 (R' 7 jc)
abbrev mX:=gr 2 p3
abbrev mY:=gr 2 p4
abbrev mZ:=gs 2
abbrev mC:=gs 8
abbrev mN:=J 132
abbrev m0:=hH j3 189
abbrev m1:=hS 16 1 p4 p3
abbrev m2:=hv 1 p2
abbrev m3:=hw jI p5 2 p3
abbrev m6:=bE ra 256
abbrev m7:=dk 24 3 4 p1
abbrev m8:=eR bd (bZ p3) (bZ p6) 1
abbrev m9:=en al bd j3 (au 189 p7)
abbrev mc:=fC sV 255
abbrev oa:=fV 8 i4 16 8
abbrev ob:=hG 50 1 2 (gG p2) 6 7 0
abbrev od:=hG 75 1 2 (eX p2) 6 7 0
end Y
open Y
def Tryz.x9:=fB 163 [.tmp 6]<|dp 4 p3 (B 6 kH) (nH (M 23 (kC0 41) eI E' (i1 24 6)) (W 25 0 bX m6 fg (aa (bm (Y 64768)) 0) (dd 30 0 (aH 42) (ak eI) (br 32 6 b1) (M 34 (F ja [(7,1,J (-1))]) (aH 18) (fv 33 p3 0 p4 1 7 8) (nH (aE 9 j1 (fl 0 (aZ 38 9 ui 6 E' (i2 39)) 1 (t 42 (aQ 6 4) (fV 10 [d1,d1,d1,d1,d1,d1] 6 10) (gB 43 0 64875 C 0 (ai (d3 64973) dE C jJ (dy (hj 32)) (fN (be 11)) f8 C (k jJ (dy (hj 32)) (fN (bU 13)) f8 (P 11))) (nH (gL 59 hT (ah 59 (bC 60 9 ff kh ff (dk 6 1 10 p1) al eP (dk 6 1 10 p6) ij))) (W 69 0 (F jg [(0,1,mF)]) kh (h6 6 (q' 10) M4 (Qe p1)) (fW (dY 38) 68 (fr p6 0 p7 1 12 13)) (hb 76 13 aX 0 77 (Qm 1) (a5 78 9 2 bX (bE ra 100) (da fg mJ 14) (W 85 0 (F jg [(0,1,.t 85)]) (d 14) (dr 43) (ih 84 p5 0 p6 1 (fy p7 2 15 p3 (ig 16 17))) (nH (aZ 92 17 aX 0 E' (i1 93 6)) (a5 94 9 12 bd (d 14) (dv kh gQ 16 f6 (S' (F jd [(0,1,J (-1)),(2,1,.t 94),(3,1,.t 96),(4,1,.t 101)]) (fV 18 jd 7 18))) (t 103 jM (fV 19 j4 2 19) (N (hK 20 2 (ae 104 20 kh (ak jU) (a6 106 2)) 3 (b9 109 5 18 (d 20) (F jl [(0,1,J 32),(1,1,.t 111)]) (a (aS 1 3 jl [(0,.t 112)]) (a1 3 24 p4) (d6 (m 5 18) 1 p2)) (aT 116 (i3 19) al kJ kF (d6 (i3 19) 1 p2))) (fU 107 20 1 20)) (hK 21 4 (a5 121 21 12 bd hJ E' (a6 124 4)) 5 (aT 127 (gx 19) al kJ kF (d6 (gx 19) 1 p2)) (fU 125 21 1 21)) (b9 132 5 18 (d 15) (a1 3 24 p2) (d6 (m 5 18) 1 p2) (b9 137 5 18 (F jl [(0,1,J 15)]) (aS 1 3 jl [(0,.t 139)]) (a (a1 3 24 p3) (m 5 18) ij) (e 145 (D' 143 (aQ 2 19) (S' (aQ 7 18) (hf 148 jm 151 9 (aC 152 jF 149 (am 20 [oC bD]) (Q' p3 (aQ 2 19) (Q' p1 (aQ 7 18) (Q' (q' 152) jF (D' 144 (aS 1 2 j4 [(0,.t 143)]) (a (aS 1 7 jd [(0,mt)]) (F j4 [(0,1,.t 144),(1,1,.t 146)]) (e8 150 22 [.t 147,.t 148,.t 149] (Q' (q' 152) jF (aC 153 (am 23 [.t 150,fp,.t 152,fp]) 22 (az jN) (dI 4 22 153))))))))))))) (b9 154 0 22 hQ C (k (gu 2 22) fd (bM p3 12) (h3 (dr 25)) (aa lc 6)) og))))))))))))))) (fU 40 9 1 9))) (a0 6 ab))))))
def Tryz.DS:=fB 57 [.tmp 2]<|ba 2 ad (em (dG (gP 4 p4 (bN 69) 3 (eB 3 (gP 6 p6 (bN 80) 3 (eB 3 (av 8 p8 (be 103) C jJ (iW 105 3) (eB 3 (gB 14 0 121 C 0 (iW 123 3) (eB 3 (fH 20 0 q 167 3 3 (fH 22 0 q 172 3 3 (fH 24 0 q 173 3 3 (ho 26 (be 192) C jJ (iW 196 3))))))))))))) 3 (a0 2 j1) (nH (gB 33 0 70 C 0 (iW 79 32) (eB 32 (gB 39 0 81 C 0 (iW 90 32) (eB 32 (gB 45 0 106 C 0 (iW 120 32) (eB 32 (ho 51 (be 124) C jJ (iW 138 32)))))))) (f4 32 (b 2))))) kz
def Tryz.Kh:=fB 56 [.tmp 6,.tmp 7]<|iL 6 d1 (aY (e9 10 11 (ak (eE 2)) (eN 12 6 d1 1)) 0 (dX 14 0 ui 79 13 (p 13 (g9 16 0 (a3 70) fo iw (k fg gd iw fg (f5 (b7 45 p7 p4) 6 7 0))) (dX 26 0 ui 90 25 (p 25 (g9 28 0 (a3 81) fo fg (a gd fg (f5 (b7 45 p5 p3) 6 7 0))) (b2 36 0 ui 120 (P 35) 35 (e6 39 1 gI gd (a gI (b7 46 p5 p3) (fv 38 p7 0 p8 1 8 9)) (bJ 47 8 bX (hI kh 6 p2 7)))))))) (dV 50 0 1 gd (ed 47) (fr p1 0 p2 1 6 7)))
def Tryz.M5:=fB 56 [.tmp 4,.tmp 5]<|iL 4 d1 (nH (ag 7 p7 (aH 11) (ak (eE 1)) (eN 9 4 d1 1)) (gP 10 p9 gI 6 (nH (gV 12 eW (fk 14 p2 69 13 13 (ag 15 p9 (fC q 0) (f5 kv 4 5 0) og) (fk 19 p7 80 18 18 (bJ 20 1 jv (f5 kv 4 5 0)) (hn 24 12 103 23 23 (bJ 25 6 (aH 49) jW) 29 12 104 28 28 (bJ 30 6 (aH 50) jW) 34 12 105 33 33 (bJ 35 6 (aH 51) jW) 39 12 121 38 38 (bJ 40 1 (aH 52) jW) (aI 44 q 12 122 43 43 (bJ 45 1 (aH 53) jW) (ge 49 q 12 123 48 48 (bJ 50 1 (aH 54) jW))))))) (hG 53 0 1 (dr 55) 4 5 0))))
def Tryz.x18:=fB 117 [.tmp 2,.tmp 3]<|bv 1 dW b6 dH (nH (M 12 kA (aH 56) ky (eu 14 4 aX 0 15 (gv 2 16 4 (l b6) (d 16)))) (A 17 kA (aH 57) (F [bD,bD,bD,bD,bD,bD,bD,bD,bD,bD,bD,ad,bD,bD,bD,b6] [(4,11,l2)]) dW (P 5) (N (b9 21 5 1 bd fa E' (gi 0 25 25 0 1 (iz 26 3 p2 3 7 [ad,ab,bD] 3 7 (ie 28 5 s bT (i3 7) (m 2 7) al (gW 6 0) (bO (e5 6) (am 58 [im,ks,kX])))) 38 24 24)) (b9 39 3 1 bd ko E' (ah 42 (hW 43 5 (a4 k1 (-1)) (m 3 1) (gW 2 0) bT al (au 59 p6) (fn p8 jz (d6 bT 1 p4))))) (N (b9 54 4 1 bd ko E' (ah 57 (bC 59 5 (m 4 1) al (gW 2 0) bT al (m 4 1) al (k (gW 2 0) g6 al (am 60 [.t 64,mF]) (ev 58 (k (iR (q' 58)) (gJ (q' 58)) (dx 59) (j 15) (gX 74 71))))))) (b9 75 8 1 bd fa E' (gi 2 79 79 2 3 (iz 80 2 p2 2 9 j4 2 9 (aV 82 5 s 3 (i3 9) (ai al (gW 6 0) jz al (gx 9) al (am 61 [.t 84,.t 89,.t 91]) eI E') (eN 93 2 b6 13))) 94 78 78)) (f2 95 10 1 bd fa E' (gi 4 99 99 4 5 (iz 100 2 p2 2 11 j4 2 11 (eb 102 5 15 (ai (i3 11) al (gW 6 0) jz al (gx 11) al (am 62 [.t 105,.t 110,.t 112]) (ak (eE 0))) (eN 114 2 b6 14))) 115 98 98) (gv 2 116 5 (d 116) fa))))))
def Tryz.x20:=fB 11 [.tmp 2]<|aE 2 b6 (fR 3 p3 fw bd (zM p1 (Y 4096)) (k (iV 1 p4) (aH 67) (F [bD,bD,iE] [(0,1,.t 8)]) dW (P 2)))
def Tryz.x22:=fB 89 [.tmp 6]<|dp 3 p3 (B 6 (Dr b6)) (e 15 (aC 11 fo 12 gd (eg 13 1 (S' (aQ 2 3) (e8 14 68 [jZ] (Q' p1 (aQ 2 3) (k (am 34 [.t 15]) (eE 0) (F [bD,bD,b6,b6,bD,bD,bD,bD,bD,bD,bD,ad,bD,bD,bD,ab] [(2,1,.t 11),(3,1,lN),(4,11,lo),(15,1,l0)]) dW ly)))))) (eM 20 7 0 3 (aH 69) (fn p4 bT (d6 bT 1 p4)) (nH (aV 27 7 s 0 bT (a al bd dH) (gi 0 34 34 0 1 (ag 35 p2 mX (S' lj (bo 9 j4 (f 8 p3 (an 2 9 p1 E')))) (ie 38 7 s bT bT i0 (i3 9) al (aC 47 (gx 9) 48 (fY 47) (f3 70 [lu] p5 p6 (fF 48 47 (e8 49 70 [.t 48] (ee p5 p6 (aC 50 (F j4 [(0,1,l6),(1,1,l7)]) 51 mY (dI 2 51 50))))))))) 52 33 33)) (eM 53 7 1 3 (aH 71) (fn p4 bT (hh 1 p4)) (nH (aV 60 7 s 0 g6 (a al bd dH) (hm 2 67 67 2 3 68 10 (ie 69 7 s bT g6 h5 jm s (ai bT g6 al h5 lk lH al (am 72 [.t 83]) (fF 73 72 (a (xX 7 (q' 73) (q' 74)) lH (gX 86 84))))) 87 66 66)) (ey 88 7 6))))))
def Tryz.x23:=fB 129 [.cell 8 4 true]<|iy 8 jN (nH (em (dd 16 0 gK (P 15) (eB 15 (eU 18 2 (aa gK 15) (eB 15 (ho 23 s jz al (aa gK 15))))) (p 15 (d8 28 (F jN [(0,1,kd)]) 4 8 p1 E') (dG (fH 30 1 r7 0 29 29 (a5 32 1 0 s bT (k g6 al bd (d0 p7) (P 29)) (eB 29 (bC 40 2 bd eW s bT g6 al fo (k lk jp al (w aX (q' 41)) (P 29)))))) 29 (d8 52 (F jN [(0,1,f7)]) 4 8 p1 E') (eU 54 15 (P 53) (ah 53 (d8 58 (F jN [(0,1,J 40)]) 4 8 p1 E'))))))) (ae 59 2 (aH 67) (P 9) (nH (aV 61 0 s 0 bT (iv al eW s bT 1 fo lk (k g6 al (di 2 (q' 65)) bT (a al bd dH))) (gi 1 80 80 1 2 (ag 81 p2 kc (hI al 10 p3 11) (eu 84 11 q 127 85 (de 86 9 10 fI al (a eP (aU p5 p4) ij)))) 92 79 79)) (e6 93 3 (Fi p1 (Y 0)) (zM p1 (Y 100000)) (da (F [b6,ad,ad,ad,ad] [(0,1,.t 93),(1,1,.t 96)]) dW 12) (a5 99 12 1 kh (ed 73) (P 13) (eb 103 12 4 (k jP s g6 al (S' (F jN [(0,1,.t 106),(3,1,.t 110)]) (bo 14 jN (dI 4 14 111)))) (nH (eb 112 12 4 E' (yP 3 (fk 117 p2 0 116 116 (bI 118 13 (m 2 14) ij) (fz 121 (v q p6 28) 120 120 (ho 122 s jz al (a (aH 74) (gx 14) ij)))))) (d8 128 (aQ 4 14) 4 8 p1 E'))))))))
def Tryz.x25:=fB 26 [.tmp 4]<|iU 4 (N lg (hK 5 0 (av 11 p6 eW bd hJ E' (i2 14)) 1 (e6 17 5 fI al mq (i1 25 4)) (fU 15 5 1 5)) (a0 4 b1))
def Tryz.x26:=fB 30 [.tmp 4,.tmp 5]<|gA 4 d1 ab (gp 6 p6 gK C (ht bc) je (eO 21 4 d1 ab) (aV 22 0 s 0 bT md og))
def Tryz.x27:=fB 27 [.tmp 4,.tmp 5]<|gA 4 d1 ab (d7 10 fo (fW (dr 77) 9 (aA p4 0 p5 1 (fy p6 2 6 p3 (ig 7 8)))) (nH (ag 16 p8 eI E' (eO 17 4 d1 ab)) (eU 18 13 (k kw (fX 16) f9 jm (fW (b7 78 p2 iH) 4 (B 5 gT))) og)))
def Tryz.x31:=fB 9 [.tmp 2]<|gO 2 b6 3 p3 gK E' 4 b6 (fR 5 p5 s (j 15) al (P 2))
def Tryz.x34:=fB 38 [.tmp 2]<|bv 1 dW ad E' (N (A 6 (dl p5) al bd fa E' (gi 0 10 10 0 1 (h0 11 2 p2 2 (bo 4 j4 (fc 2 p9 p1)) (A 13 (dl p9) al (aH 83) eI (gl C (iM 4) ha (eY (aH 83)) (fJ eI) l9) (f4 22 j1))) 23 9 9)) (b9 24 1 1 bd fa E' (hm 2 28 28 2 3 29 5 (A 30 (aQ 2 1) (gx 1) al kg (hZ lk (am 84 [im,jS]) eI) (f4 36 j1)) 37 27 27)) kz)
def Tryz.x38:=fB 69 [.tmp 4,.tmp 5]<|e 4 (gC 2 p4 (bO (l bD) fa)) (f2 14 0 2 (aH 89) eI E' (eN 17 4 bD 1) (eK 19 0 2 (fW (aH 88) 18 (aA p4 0 p5 1 (dq 6 ji 5 6 p2 ly))) (b9 25 3 6 fo (dr 90) (fv 24 p5 0 p6 1 8 9) (N (eu 31 9 aX 0 32 (gv 4 33 9 (l bD) (d 33))) (b9 34 4 6 jK al (ak (eE 123)) (ah 38 (A 40 (aQ 6 2) i0 ll f9 (it 91 [.t 40,ls] 39 (fr p6 0 p7 1 10 11)) (hb 47 11 aX 0 48 (gv 4 49 11 (l bD) (d 49)) (bJ 50 10 i9 jL))))) (A 53 (aQ 6 2) (aQ 5 6) i0 (ed 92) (ih 52 p5 0 p6 1 (dq 12 i4 16 12 p2 (P 9))) (hb 59 9 aX 0 60 (gv 4 61 9 (l bD) (d 61)) (M 62 (bY 12) (aH 93) (fV 13 [d1,d1] 2 13) (b9 64 0 13 (gx 13) al (f5 (gz [d1] [(0,.t 65),(1,.t 67)]) 4 5 0) og))))))))
def Tryz.x41:=fB 58 [.tmp 0]<|iU 0 (M 12 (F jg [(0,1,J 64803)]) (fu 43 2) (ih 11 p3 0 p4 1 (fy p5 2 1 p3 (ig 2 3))) (ao 17 (GQ (uj 1 8 [d1] (J 66) (J 66))) 4 (W 19 1 (fO 5 [d1] [(0,hY 9),(1,hY 5),(2,oC d1),(3,hY 5),(4,hY 1)]) jG (ed 87) (ih 18 p5 0 p6 1 (fy p7 2 5 p3 (ig 6 7))) (M 27 (F jg [(0,1,J 64781)]) (fu 43 0) (ih 26 p3 0 p4 1 (fy p5 2 8 p3 (ig 9 10))) (fL 32 3 hQ C 2 (eD (dy ix) dE C mi (d3 64) dE C (dJ 7) (dy hQ) dE C (dJ 5) (dy (fO 3 [d1] [(0,hY 9),(1,oC es),(2,hY 18446744073709551360)])) (fN (dr 25)) f8 C (k (dJ 10) (dy (bN 1)) dE C (da (I p1 (kC1 42 (Y 64803))) (bK p2) 0))) og)))))
def Tryz.x42:=fB 13 [.tmp 2]<|iU 2 (ag 7 p7 (aH 97) kV (b0 12 p7 2 og))
def Tryz.x43:=fB 110 [.tmp 4,.tmp 5,.tmp 6]<|e 4 (gC 2 p4 (a (l bD) fa dH)) (eK 15 0 2 (fW (aH 97) 14 (aA p4 0 p5 1 (S' (tx p6 2) (bo 8 k1 (f 7 p3 (an 1 8 p2 (P 9))))))) (nH (W 21 9 eI C jn (gl mO dS C jn (h9 4032) dS) (dg 30 4 bD ad (bl j1))) (W 31 1 (aH 95) jm jm (a (aH 98) (F [b6,ad,d1,d1] [(0,1,ks),(1,1,kI),(2,1,h4)]) (S' dW (fV 10 [b6] 1 10))) (A 38 kO kO s jp (k al (Ti HP p1) (uu p6) jz (gX 45 43)) (nH (em (M 50 mR (be 300) (P 49) (p 49 (aT 52 kO mR (a3 300) (dY 99) E') (M 57 mR (be 200) (P 56) (p 56 (aT 59 kO mR (a3 200) (dY 100) E') (M 64 mR (be 100) (P 63) (p 63 (bf 66 kO (GQ (Oj 102 [.t 10,.t 8])) (fx 101)) (M 70 mR (bU 2) (P 69) (p 69 (A 72 kO s bT al (aa (fu 104 2) 11) (ae 77 11 bd dH (bL 1 80 p1 p2 E' 80 1 2 (h2 81 13 (aT 83 kO mR lL (ed 105) E')) (ft 87 p8 1 79)))) (M 89 mR (bU 13) (P 88) (p 88 (bf 91 kO mR (fx 106)) (bf 46 kO (GQ (Oj 107 [.t 10,.t 8])) (fx 101))))))))))))) (A 94 kO s bT al (ai s bT bT al kO s bT al (k s g6 g6 al (f 4 p9 (eJ 5 6 0)))) og))))))
def Tryz.x45:=fB 72 [.tmp 6]<|hE 6 (av 9 p8 bX bW bX (dt 7 p3 8) (nH (gV 13 eW (fk 15 p2 0 14 14 (dV 16 1 2 mz kv jx) (fk 21 p8 1 20 20 (dV 22 1 2 (w aX p2) kv jx) (hn 27 13 2 26 26 (dV 28 1 2 jU kv jx) 33 13 3 32 32 (dV 34 7 8 jU kv jx) 39 13 4 38 38 (dV 40 1 2 mS kv jx) 45 13 5 44 44 (dV 46 7 8 mS kv jx) (h1 51 13 6 50 50 (dV 52 1 2 iF kv jx) 57 13 7 56 56 (dV 58 7 8 iF kv jx) (ge 63 q 13 8 62 62 (dV 64 1 2 mL kv jx))))))) (dV 68 7 8 mL kv jx)))
def Tryz.x46:=fB 116 [.tmp 6,.tmp 7]<|iL 6 iE (N (av 8 p8 (be 109) C jJ (gl (d3 112) dE C mi (dy (fC q 0)) dE) (eN 17 6 iE 21)) (gV 18 eW (fk 20 p2 106 19 19 (hG 21 1 2 f6 6 7 0) (fk 25 p7 107 24 24 (hG 26 1 2 gQ 6 7 0) (hn 30 18 108 29 29 (hG 31 1 2 iD 6 7 0) 35 18 109 34 34 (nH (fL 36 1 (fC q 2147483648) C 2 (bO (dy (fC q 4294967295)) dE) (eN 41 6 iE 22)) (g9 42 1 iw gd iw (a (gG p3) gI jh))) 49 18 110 48 48 ob 54 18 111 53 53 (g9 55 1 iw fg gd (k iw fg (w ra p4) gI jh)) (hn 64 18 112 63 63 ml 69 18 113 68 68 mm 74 18 114 73 73 od 79 18 115 78 78 mo (h1 84 18 116 83 83 (dV 85 1 2 kM (dP p3) jh) 90 18 117 89 89 (g9 91 1 iw gd kM (a ki gI jh)) (aI 98 q 18 118 97 97 (dV 99 1 2 kM ki jh) (ge 104 q 18 119 103 103 (dV 105 1 2 kM fg (f5 (au 109 p4) 6 7 0)))))))))) (dV 110 1 2 kM fg (a jA (au 109 p5) jh)))
def Tryz.x47:=fB 116 [.tmp 6,.tmp 7]<|iL 6 d1 (N (av 8 p8 (be 127) C jJ (gl (d3 130) dE C mi (dy jv) dE) (eN 17 6 d1 21)) (gV 18 eW (fk 20 p2 124 19 19 (hG 21 1 2 f6 6 7 0) (fk 25 p7 125 24 24 (hG 26 1 2 gQ 6 7 0) (hn 30 18 126 29 29 (hG 31 1 2 iD 6 7 0) 35 18 127 34 34 (nH (fL 36 1 (bE q 9223372036854775808) C 2 (bO (dy j2) dE) (eN 41 6 d1 22)) (g9 42 1 fg gd fg (a (gG p3) bX jh))) 49 18 128 48 48 ob 54 18 129 53 53 (dd 55 2 j2 E' (eO 56 6 d1 ad) (g9 57 1 fg gd fg (a (w ra p3) bX jh))) (hn 64 18 130 63 63 ml 69 18 131 68 68 mm 74 18 132 73 73 od 79 18 133 78 78 mo (h1 84 18 134 83 83 (dV 85 1 2 (d5 63) (dP p3) jh) 90 18 135 89 89 (g9 91 1 fg gd (d5 63) (a ki bX jh)) (aI 98 q 18 136 97 97 (dV 99 1 2 (d5 63) ki jh) (ge 104 q 18 137 103 103 (dV 105 1 2 (d5 63) fg (f5 (au 110 p4) 6 7 0)))))))))) (dV 110 1 2 (d5 63) fg (a jA (au 110 p5) jh)))
def Tryz.x48:=fB 4 [.tmp 2]<|ke
def Tryz.x49:=fB 6 [.tmp 2]<|eT 2 (ag 3 p3 (aH 111) (aa (bZ (Y 32)) 2) og)
def Tryz.x50:=fB 14 [.tmp 2]<|gO 2 ad 3 p3 (fC q 0) E' 4 (b 32) (fR 5 p5 dj jA (w sV p3) (k (fC uT 125613361) (dF 27) (Bg 32 1 oX' p1) al (aa fg 2)))
def Tryz.x51:=fB 21 [.tmp 2]<|eT 2 (fR 3 p3 (dF 24) (hx L p1) dj (ai (dF 16) mc (hx L p1) mJ eW (dF 8) mc (hx L p1) (k mJ eW mc (hx L p1) (da (bm p4) fg 2))))
def Tryz.x52:=fB 6 [.tmp 2]<|eT 2 (ag 3 p3 (aH 112) (aa k2 2) og)
def Tryz.x53:=fB 14 [.tmp 2]<|gO 2 ad 3 p3 jv E' 4 (b 64) (fR 5 p5 dj jA (w sV p3) (k (bE uT 285870213051353865) (dF 58) (Bg 64 1 oX' p1) al (aa fg 2)))
def Tryz.x54:=fB 35 [.tmp 2]<|eT 2 (av 3 p3 (dF 1) (d5 6148914691236517205) dj (da (d5 6148914691236517205) kf 0) (av 9 p9 (dF 2) (d5 3689348814741910323) eW (da (d5 3689348814741910323) kf 0) (W 15 0 (dF 4) eW f6 (aa (d5 1085102592571150095) 0) (e6 20 0 (dF 8) kf (P 0) (e6 24 0 (dF 16) kf (P 0) (e6 28 0 ma kf (P 0) (bJ 32 0 fg (aa (af sV 127) 2))))))))
def Tryz.x55:=fB 37 [.tmp 4]<|ba 4 d1 (gV 5 e3 (dG (fE 7 p2 172 6 6 (e1 8 q p3 196 6)) 6 (ag 9 p8 iw (aa bX 4) og) (fk 13 p8 192 12 12 (g9 14 1 (hB .i8) gI bX ky) (h1 19 5 193 18 18 (g9 20 1 (hB .i16) gI bX ky) 25 5 194 24 24 (bJ 26 1 (hB .i8) (aa bX 4)) (ge 30 q 5 195 29 29 (bJ 31 1 (hB .i16) (aa bX 4))))))) (bJ 34 1 gI (aa bX 4))
def Tryz.x56:=fB 34 [.tmp 2]<|bv 1 dW ad E' (N (M 9 (H 11 p8) (aH 113) (fv 8 p3 0 p4 1 3 4) (gk 13 p9 (eE 0) E' 14 (ey 15 4 2))) (M 16 kA (aH 114) (ak eI) (f4 18 (b 12))) (f2 19 9 1 bd fa E' (hm 0 23 23 0 1 24 5 (M 26 kA kg (fW (dr 115) 25 (fr p4 0 p5 1 6 7)) (ae 31 7 eI E' (f4 32 (b 12)))) 33 22 22) kz))
def Tryz.x57:=fB 154 [.cell 2 11 true]<|M 1 dW (az ja) E' (t 13 kA (fV 3 ja 11 3) (b9 14 0 1 (aH 69) mp ij (f2 18 0 3 bd fa E' (gi 0 22 22 0 1 (ag 23 p2 mX (S' lj (bo 5 j4 (f 4 p3 (an 2 5 p1 E')))) (aT 26 mp al jG (i3 5) (S' al (aC 32 mk 33 (fY 32) (f3 70 [im] p5 p6 (fF 33 32 (e8 34 70 [kI] (ee p5 p6 (aC 35 (F j4 [(0,1,jC),(1,1,jS)]) 36 mY (dI 2 36 35)))))))))) 37 21 21) (b9 38 1 1 (aH 116) ik ij (b9 42 2 1 (aH 70) lI ij (b9 46 3 1 (aH 117) (m 3 3) ij (b9 50 4 1 (aH 117) (m 4 3) ij (b9 54 5 1 (aH 118) (m 5 3) ij (f2 58 5 3 bd fa E' (hm 2 62 62 2 3 63 6 (a8 64 (m 5 3) al kw (m 5 3) al kw (fX 3) jp (a al (am 119 [.t 72]) (ec p9 64 (a (xX 3 p9 p8) jp (gX 75 73))))) 76 61 61) (b9 77 6 1 (aH 120) (m 6 3) ij (b9 81 8 1 (aH 121) (m 8 3) ij (f2 85 8 3 bd fa E' (gi 4 89 89 4 5 (ag 90 p2 mX (S' lj (bo 8 j4 (f 7 p3 (an 2 8 p1 E')))) (aT 93 (m 8 3) al jm (i3 8) (S' al (aC 99 (gx 8) 100 (fY 99) (f3 119 [.t 97] p5 p6 (fF 100 99 (e8 101 70 [.t 100] (ee p5 p6 (aC 102 (F j4 [(0,1,.t 98),(1,1,.t 101)]) 103 mY (dI 2 103 102)))))))))) 104 88 88) (b9 105 9 1 (aH 122) (m 9 3) ij (f2 109 9 3 bd fa E' (gi 6 113 113 6 7 (ag 114 p2 mX (S' lj (bo 10 j4 (f 9 p3 (an 2 10 p1 E')))) (aT 117 (m 9 3) al kh (i3 10) (S' al (aC 123 (gx 10) 124 (fY 123) (f3 70 [.t 121] p5 p6 (fF 124 123 (e8 125 119 [.t 124] (ee p5 p6 (aC 126 (F j4 [(0,1,.t 122),(1,1,.t 125)]) 127 mY (dI 2 127 126)))))))))) 128 112 112) (b9 129 10 1 (aH 123) (m 10 3) ij (f2 133 10 3 bd fa E' (gi 8 137 137 8 9 (ag 138 p2 mX (S' lj (bo 12 j4 (f 11 p3 (an 2 12 p1 E')))) (aT 141 (m 10 3) al hT (i3 12) (S' al (aC 147 (gx 12) 148 (fY 147) (f3 119 [mt] p5 p6 (fF 148 147 (e8 149 124 [.t 148] (ee p5 p6 (aC 150 (F j4 [(0,1,.t 146),(1,1,.t 149)]) 151 mY (dI 2 151 150)))))))))) 152 136 136) (d8 153 (aQ 11 3) 11 2 p1 E')))))))))))))))))
def Tryz.x58:=fB 66 []<|ip 5 p3 (av 7 p7 bc s jp (ai al eW s bT al bd j3 (eA 1 8 11 17) (a (dx 7) jp (gX 20 18))) (ba 6 ad (eu 21 1 q 127 22 (gR 6 j1)) (e6 23 0 s bT (k al (m 3 5) al i9 (ef (eA 1 8 27 30) p9 (g8 bT 33 31))) (e6 34 0 s g6 (k al kw j3 lU (fn p8 g6 jj)) (eu 44 1 q 123 45 (e6 46 0 s bT (k al (m 4 5) al i9 (ef (eA 1 8 50 53) p9 (g8 bT 56 54))) (ie 57 0 eW s g6 (a4 k1 0) kF g3 (hh 1 p3))))))))
def Tryz.x59:=fB 48 [.tmp 4]<|ea 4 bD 9 p8 hz E' (ah 10 (R' 11 jc)) (W 13 0 bd bX fo (a bX (dY 125) (fv 12 p7 0 p8 1 5 6)) (nH (W 21 5 (bE qy 0) C (dw 6) (bO (dK (bE qy 9223372036854775807)) dS) (ah 26 (R' 27 jc))) (ae 28 6 fg (aa (GQ (uj 1 8 k1 iB iB)) 7) (ae 31 7 eW (aa jY 8) (nH (ap 0 (nH (a5 34 8 7 bd hJ E' (i2 37)) (yP 1 (bC 38 8 jm i0 jr jm i0 (iV 1 p2) (aF (sW 1 (wO gn) (wO l5))) (aa (bm p8) 8))))) (ey 47 7 4))))))
def Tryz.x60:=fB 27 [.tmp 4,.tmp 5]<|iL 4 b6 (nH (em (dG (gP 7 p7 hz 6 (eB 6 (gP 9 p8 (bs (-1)) 6 (eB 6 (bb 11 1 ix C (dJ 1) (eR (bM p2 0) (fN jU) f8 6)))))) 6 (iJ 4 b6 j1) (b2 19 0 qy 16 (P 18) 18 (iJ 4 b6 (b 3))))) (g9 21 0 mr (GQ (uj 1 1 [aK] mA mA)) fo (a (F [bD,ad] [(0,1,l4),(1,1,jR)]) dW jL)))
def Tryz.x61:=fB 27 [.tmp 6]<|ba 6 ab (av 7 p6 dj bd bX (ai (bm p4) eW s bT al bd bX (g1 p7) E') (i1 18 6)) (ia 19 (dv fo jr 2 jY E') (a0 6 b1))
def Tryz.x62:=fB 23 [.tmp 6]<|eT 6 (N (ag 7 p7 gK E' (br 8 6 (b 2))) (av 9 p9 bW bW bd (bO (b7 126 p4 p3) eI) (br 14 6 (b 23))) (ia 15 (dv fo jr 2 jY E') (a0 6 ad)))
def Tryz.x67:=fB 8 [.tmp 2]<|gO 2 bD 3 p3 j7 E' 4 bD (M 5 (fO 0 [d1] []) dj (fA 1 8 p2 2) og)
def Tryz.x68:=fB 11 [.cell 2 11 true]<|iy 2 ja (nH (gk 3 p3 gK E' 4 (t 5 (F ja []) (fc 11 p4 p1) og)) (fR 6 p6 s lG (e5 11) (dU (aH 57) 11 p9 p1)))
def Tryz.x69:=fB 8 [.tmp 2]<|i7
def Tryz.x70:=fB 8 [.tmp 2]<|gO 2 bD 3 p3 j7 E' 4 bD (M 5 (fO 0 k1 []) dj (fA 1 8 p2 2) og)
def Tryz.x71:=fB 8 [.tmp 2]<|gO 2 bD 3 p3 j7 E' 4 bD (M 5 (aS 0 7 jd []) dj (fA 7 88 p2 2) og)
def Tryz.x72:=fB 8 [.tmp 2]<|gO 2 bD 3 p3 j7 E' 4 bD (M 5 (aS 0 3 jl []) dj (fA 3 24 p2 2) og)
def Tryz.x73:=fB 101 [.tmp 6]<|iA 6 (iQ 9 p9 s bT (k s bT g6 al (da fo lk 7)) (N (eb 19 7 0 (ak ix) (ah 23 (dV 24 0 7 gd (ed 132) jx))) (eU 28 3 (dc 64) (g0 32 33 (ib 26) E' lK)) (e 39 (hf 35 eW 36 7 (eg 37 2 (k jm s lG al (e8 38 67 [lr] (ee p1 p2 (eR (aF (uk 1 8 [d1] kY kt)) (F [b6,b6,ad,bD,bD] [(0,1,h4),(1,1,kX),(4,1,ls)]) dW 8)))))) (eU 46 3 (hw jI p5 3 p3) (nH (ap 0 (nH (eU 53 4 (ai hQ C (dJ 8) (dy s) (fN jp) kP (iN ix) ln E') (i2 64)) (yP 1 (nH (eb 65 8 2 (gl jm s lH al bd (d0 p6)) (g0 74 75 (ib 40) E' (Qm 0))) (ie 77 8 jm s lH i0 s jp (en al (di 3 p5) (e5 3) (am 134 [.t 77,.t 87]))))))) (hA 89 3 (hw ff p5 3 p3) 96 8 3 (aa (aH 67) 6) og))))))
def Tryz.x74:=fB 9 [.tmp 2]<|gO 2 iE 3 p3 gK E' 4 iE (fR 5 p5 s jp al (P 2))
def Tryz.x76:=fB 94 [.tmp 6]<|iA 6 (aV 10 0 s 0 g6 (k al fo lk (e5 7) (fV 7 jd 7 7)) (N (eK 18 0 7 (ak ix) (ah 20 (g9 21 0 (aQ 7 7) gd (ed 137) jx))) (eU 25 6 (ak (be 64)) (g0 29 30 s (iX 7 26) lK)) (M 33 jM dW (P 8) (a5 35 8 8 s g6 (k al gd kF g3 (hh 1 p3)) (a5 44 8 8 s g6 (k al (m 4 7) al (aF (uk 1 8 [d1] (.t 48) lv)) (fn p8 g6 (gX 53 51))) (eU 54 6 (hw jI p5 6 p3) (ba 9 ad (ap 0 (nH (eU 61 7 (k hQ C (dJ 9) (dy ix) (ak dE)) (i2 69)) (yP 1 (nH (eM 70 9 5 7 bd (ak (d0 p4)) (g0 74 75 s lW (Qm 0))) (de 78 0 8 fo kh (aa (g5 138 p4 p3 p2) 9)))))) (hA 83 6 (hw ff p5 6 p3) 90 8 0 jx og))))))))
def Tryz.x77:=fB 42 [.tmp 4,.tmp 5,.tmp 6]<|bF 4 ad ad k3 (N (av 9 p9 gK C jn (bO mO dS) (dg 14 4 ad ad k3)) (hK 7 0 (av 15 p8 eW s kG (hZ al bd (bn p6)) (i2 21)) 1 (aV 24 0 s 0 lH (k al jm (fX 3) bT (da al (aH 139) 8)) (hc 34 1 i0 (ak jU) 36 (gq 4 (eg 37 7 (f 38 p3 (a (d 37) (d 38) lB)))) (bI 39 1 i0 (aa gQ 1)))) (fU 22 7 1 7)) (bR 4 ad ad k3))
def Tryz.x78:=fB 42 [.tmp 6]<|dp 3 p3 (B 6 (Dr d1)) (gp 9 p8 (aH 140) hQ C ju (br 21 6 d1) (ba 7 d1 (aZ 22 1 vM 8 (aa ff 8) (fl 0 (aZ 25 8 qz 0 E' (i2 26)) 1 (bC 29 7 (bE uT 256) gd fo (gN 8) (ds p3) i0 f6 (k (hy 1 3 p1) al bX (bm (q' 30)) ly)) (dR 27 8 ff 8))) (ey 41 7 6)))
def Tryz.x79:=fB 11 [.tmp 2]<|jE
def Tryz.x80:=fB 11 [.tmp 2]<|jE
def Tryz.x83:=fB 18 [.tmp 2]<|ea 2 ab 5 p5 bd dH (gi 0 8 8 0 1 (h2 9 4 (av 11 p7 (eE 127) C (dJ 4) (bO (iK 126) dE) (f4 16 ab))) 17 7 7) (a0 2 b1)
def Tryz.x84:=fB 101 [.tmp 4]<|dp 2 p2 (B 4 kH) (N (iQ 8 p7 s bT (eD (bs (-1)) C jn mP (eY g6) iC (hq hz) kN C jn mP (eY g6) iC (hq (i3 2)) lZ lC (eD (u p8 (d0 p4)) mH C jn mP (eY lG) iC (hq hz) kN C jn mP (eY lG) iC (hq (dm 4096)) kN (ai C jn mP (eY bT) iC (hq (bN (-1))) (bx p6 1) (u p7 s) (gl (u p8 lH) (u p9 al) (iZ 44 bd) (iZ 44 ko) (iZ 44 (w (FU true) p7)) (bH (q' 44)))))) (i1 57 4)) (b9 58 0 2 fo s (k g6 al (di 2 p5) lj (bo 5 j4 (dI 2 5 65))) (eb 66 1 2 (ai (i3 5) al bd (w aX p4) C jn mP (eY jz) (gl iC (hq mk) lZ lC (u p8 (w aX p4)) mH)) (i1 83 4))) (nH (eb 84 1 5 (bO bd fa) (gi 0 90 90 0 1 (ag 91 p2 (gr 3 p3) (S' (e5 3) (bo 7 jl (f 6 p3 (an 3 7 p1 E')))) (A 94 (aQ 2 2) fo kw (aQ 3 7) (bO (g5 141 p4 p3 p2) eI) (i1 99 4))) 100 89 89)) (a0 4 b1)))
def Tryz.x87:=fB 16 [.tmp 6,.tmp 7,.tmp 8]<|bF 6 bD bD dH (fR 9 p9 bW bW (g5 143 (Dr b6) p3 p2) (aA p1 0 p2 1 (fy p3 2 6 p3 (ig 7 8))))
def Tryz.x88:=fB 72 [.cell 2 5 true,.tmp 3]<|bv 2 (az ji) ab E' (ao 12 (kC0 144) 4 (N (eu 13 0 qz 64768 14 (aP 15 (kC0 145) 4)) (ae 16 4 bd dH (gi 0 19 19 0 1 (iz 20 5 p2 5 6 i5 5 6 (nH (eM 22 0 0 6 hJ (gl C gH (dK (gx 6)) (eY al) (fJ (g1 p3)) l9) (ah 31 (Qm 1))) (b9 32 2 6 (m 3 6) al (k (m 4 6) al (bu (Co true) aL) (F ji [(0,1,kI),(1,1,h4),(2,1,kY)]) (fV 7 ji 5 7)) (ba 8 ab (b9 40 4 6 (Ys p1) bd dH (gi 2 45 45 2 3 (h2 46 10 (ba 11 (b 127) (gL 48 h5 (yP 4 (aB 50 (i q p2 (o 58)) 49 49 (aE 8 b1 (Qm 3)) (aB 52 (i q p4 (o 108)) 51 51 (gR 11 (b 126)) (fz 54 (i q p6 (o 118)) 53 53 (gR 11 (b 123))))))) (gL 55 i0 (p 55 (aT 56 (m 4 7) al hT j3 (a lU (m 4 7) ij)) (aT 62 (m 3 7) al hT j3 (a lU (m 3 7) ij)))))) 68 44 44)) (d8 69 (aQ 5 7) 5 2 p1 (B 3 gT)))))) 70 18 18)) (d8 71 (F ji []) 5 2 p1 (B 3 kH))))
def Tryz.x89:=fB 25 [.tmp 2]<|iU 2 (ag 6 p6 (aH 88) (ih 5 p3 0 p4 1 (bo 3 ji (E 5 p7 p2 ky))) (fR 10 p6 C jJ (dy (be 64768)) (ai dE C lS fd (fN (eE 7)) f8 C lS (eR fd (fN (eE 8)) f8 2))))
def Tryz.x90:=fB 56 [.tmp 4,.tmp 5]<|iL 4 bD (iA 6 (N (d7 11 bd dH (gi 0 14 14 0 1 (h2 15 8 (aE 9 j1 (N (gL 17 bW (yP 2 (dG (fE 19 p2 127 18 18 (e1 20 q p3 126 18)) 18 wg (fk 22 p5 123 21 21 (gR 9 (b 2)) (iJ 4 bD j1))))) (W 23 1 bd kh jU E' (eN 26 4 bD 1)) (W 27 1 jK al (F [d1,d1] [(0,1,iB)]) (fV 10 [d1,d1] 2 10) (N (eu 31 8 q 127 32 (aT 33 (i3 10) al eP (i3 10) ij)) (eu 37 9 q 2 38 (bb 39 1 (gh 1) al (gx 10) ij)) (W 43 6 (aQ 2 10) (aH 94) (aS 1 16 i4 [(0,lu)]) (fA 16 16 p4 6) (bI 48 1 kh (aa jr 1)))))))) 51 13 13)) (ae 52 1 bd (ak ko) (eN 54 4 bD 1)) (gv 4 55 6 (d 55) fa)))
def Tryz.x91:=fB 27 [.tmp 4,.tmp 5]<|A 2 h8 h8 (l d1) fa E' (nH (A 9 (dl p7) al (H 16 p8) (dr 146) (fv 8 p5 0 p6 1 6 7) (gk 15 p8 hQ E' 16 (bJ 17 6 bX jL))) (b9 19 0 2 (gx 2) al (k k0 (dN 147 p4) (iR p1) mV (ig 4 5)) og))
def Tryz.x92:=fB 178 [.cell 6 16 true,.tmp 7]<|M 3 fj fj (bo 6 i4 (bV 7 0)) (b9 17 3 3 (m 4 3) al (a (F [d1,d1] [(0,1,l2),(1,1,lp)]) (aH 94) oa) (N (em (iO 24 0 4 11 23 (p 23 (gZ 27 8 16 6 p1 7 0) (iO 29 0 4 12 28 (p 28 (A 32 (bY 8) gd ll f9 (k gd (h7 1) f9 (am 148 [ks,h4,kY]) (aA p1 0 p2 1 (bq 16 6 40 ly))) og) (iO 43 0 4 13 42 (p 42 (b9 46 0 3 ik al (k gd ll f9 gd (a (h7 1) f9 (dQ 150 [mE,J 64,fp] (fF 47 46 (ee p8 p9 (Q' p5 (H 16 p6) (aq (am 149 [.t 47,l7,lw,kZ]) p1 0 (S' mV (bq 16 6 58 ly))))))))) og) (iO 61 0 3 64782 60 (p 60 (g9 64 2 ll f9 gd (a (h7 1) f9 (dQ 151 [.t 66,mF] (bq 16 6 70 (bV 7 0))))) (b9 72 3 4 jK al (aa (eE 123) 71) (ah 71 (b9 77 0 3 gd ll (a f9 (am 150 [.t 81,J 64,fp]) (ee p5 p6 (aq (am 152 [.t 78,.t 82]) p1 0 (S' mV (bq 16 6 84 ly))))) og)))))))))))) (b9 87 0 3 gd (dr 153) (ih 86 p5 0 p6 1 (dq 9 i4 16 9 p2 (P 10))) (eu 93 10 q 0 94 (gZ 95 9 16 6 p1 7 0))) (N (ae 96 2 bd (dc 1) (ah 98 (f2 100 0 3 gd ll (a f9 (am 154 [.t 101,.t 104]) (ih 99 p7 0 p8 1 (bo 11 i4 (bq 16 11 106 (P 12))))) (eu 108 12 q 0 109 (gZ 110 11 16 6 p1 7 0)) (b9 111 0 3 gd ll (k f9 (am 155 [.t 112,.t 115]) (iR p1) mV (bq 16 6 117 ly)) og)))) (b9 119 3 4 (gh 1) al (dc 127) (ah 123 (b9 124 0 3 gd ll (k f9 gd (h7 1) f9 (f3 150 [.t 131,J 32,fp] p8 p9 (Q' p5 (H 16 p6) (k gI (am 156 [.t 125,.t 128,.t 133]) (iR p1) mV (bq 16 6 135 ly))))) og))) (N (b9 138 0 3 gd ll (k f9 gd (h7 1) f9 (it 157 [.t 139,.t 142,mt] 137 (aA (q' 137) 0 (q' 137) 1 (bo 13 i4 (bq 16 13 147 (P 14)))))) (eu 149 14 q 0 150 (gZ 151 13 16 6 p1 7 0))) (b9 153 0 3 gd ll (k f9 gd (h7 1) f9 (it 158 [.t 154,.t 157,.t 160] 152 (aA (q' 152) 0 (q' 152) 1 (bo 15 i4 (bq 16 15 162 (P 16)))))) (eu 164 16 q 0 165 (gZ 166 15 16 6 p1 7 0))) (b9 167 0 3 gd ll (k f9 gd (h7 1) f9 (aq (am 159 [.t 168,.t 171,.t 174]) p1 0 (S' mV (bq 16 6 176 ly)))) og)))))
def Tryz.x93:=fB 8 [.cell 2 2 true]<|M 1 dW (az [d1,d1]) E' (gq 5 (D' 3 (h6 16 p4 M4 (Qe (Y 8))) (S' (h6 16 p4 (Qe (Y 8)) M4) (e8 4 160 [.t 3] (Q' p1 (h6 16 p5 (Qe (Y 8)) M4) (a (am 160 [.t 5]) (F [d1,d1] [(0,1,.t 4),(1,1,.t 6)]) (dI 2 2 7)))))))
def Tryz.x94:=fB 27 [.cell 2 16 true]<|M 1 dW kb E' (iy 3 i4 (nH (eT 5 (bG 0 6 (bs 8) E' 6 0 1 (gY 7 4 (av 8 p4 (dl p8) al eH (k mC ki hM (hy 1 3 p7) ij) (hW 16 4 (bm (Y 8)) (gx 1) jG mC ki hM (d6 (hy 1 3 p7) 1 p2)))) (bp 25 5 1 5))) (d8 26 k0 16 2 p1 E')))
def Tryz.x95:=fB 7 [.tmp 2]<|aE 2 b6 (fR 3 p3 (F [ad,ad] [(0,1,.t 3)]) (F [bD,ad,ad] [(1,2,.t 4)]) dW (P 2))
def Tryz.x97:=fB 110 [.tmp 2,.tmp 3,.tmp 4]<|bF 2 ad ad k3 (dX 10 0 r6 64768 5 (aY (e9 13 88 (ih 12 p3 0 p4 1 (dq 6 ji 5 6 p2 ly)) (W 17 7 eI C (dw 5) (bO mO dS) (dg 22 2 ad ad k3))) 0 (gB 24 5 35 C 5 (iW 64 23) (p 23 (g9 30 5 (a3 35) (gN 10) (ir 8) (k kg (a3 35) (hj 10) (bm (Y 100)) (f 2 p5 k5))) (gB 39 5 214 C 5 (iW 219 38) (p 38 (A 45 jq kg (a3 214) (hS 6 1 p3 p1) (bk (bm (Y 100)) 2 iH k5) og) (gB 51 5 77 C 5 (iW 83 50) (p 50 (bJ 57 5 (bm (Y 200)) (bk (a3 77) 2 iH k5)) (W 61 5 (bs 96) C (dw 5) (da (h9 213) dS 60) (dg 60 2 ad ad k3)))))))) (W 67 5 (a3 96) (gN 32) (ir 8) (a kg (a3 96) (hI (hj 32) 8 p4 9)) (nH (yP 1 (W 75 9 (bN 3) C (dw 9) (da (ej 4) dS 74) (p 74 (dV 81 8 9 (bm (Y 300)) (a3 3) (f 2 p4 k5)) (nH (fL 86 9 (bN 2) C 8 (da (dy (bN 8)) dE 85) (eB 85 (fH 92 9 ui 1 85 85 (gB 94 9 11 C 9 (iW 19 85) (eB 85 (gB 100 9 21 C 9 (iW 25 85) (eB 85 (dR 106 9 (bN 27) 85)))))))) (ah 85 (gq 2 (hf 108 i0 109 9 (a (d 108) (d 109) lB)))))))) (bR 2 ad ad k3)))))
def Tryz.x98:=fB 8 [.tmp 2]<|hE 2 (fR 3 p3 fw ff jB (aa (au 167 p4) 2))
def Tryz.x99:=fB 153 []<|iQ 8 p8 s bT (aa (fu 104 2) 4) (hb 13 1 q 0 14 (e6 15 4 jK al (g4 168) (e6 20 4 (gh 1) al (g4 168) (hP 25 (hD s k1 131 et) 33 (iG s bT eW s 2 (a4 k1 81) [kY,kt,ls] E') og))) (eU 45 1 (aa lE 5) (dd 50 4 bd dH (gi 0 53 53 0 1 (ag 54 p2 kc (hI al 6 p3 7) (hP 57 (g2 s 7 k1) 66 (iv s bT eW s 1 ff bX (gy kK [.t 71,.t 77,.t 78])) (hb 80 5 qy 1 81 (hP 82 (d9 s 0 s (a g6 al (f3 167 [.t 91,hY 1] p8 p9 (gy jf [.t 87,.t 92,.t 93])))) 95 (d9 s 0 s (a g6 al (f3 171 [.t 104] p8 p9 (gy kJ [.t 100,.t 105,.t 106])))) (ia 108 (iv s bT eW s 1 k2 bX (gy kK [.t 113,.t 119,.t 120])) (hW 122 0 s bT s bT kg (am 172 [.t 128]) (ee p5 p6 (gy jf [.t 127,.t 129,.t 130]))))) (eu 132 6 q 1 133 (hW 134 0 s bT s bT kg bX (bO (gz k1 [(0,J 134),(1,mN)]) (dN 161 p4))))))) 144 52 52) (hW 145 0 s bT s bT (a4 k1 167) et E'))))
def Tryz.aok:=fB 110 []<|M 2 h8 h8 E' (gV 9 (h 1 p6) (fk 14 p5 0 13 13 (A 15 lQ s bT al (aa (fu 104 2) 4) (ae 20 4 bd dH (gi 1 23 23 1 2 (h2 24 6 (A 26 lQ s bT al mU (bf 35 lQ mu E'))) 37 22 22))) (h1 39 9 5 38 38 (A 40 lQ s bT al (aa (fu 104 6) 7) (eT 45 (bG 3 46 (bs 2) E' 46 3 4 (gY 47 8 (A 48 lQ s bT al (eD s bT jm i0 (bm (Y 2)) kx al jm i0 fI al jm i0 (bm (Y 2)) kx al (bO (fO 3 k1 [(0,.t 58),(1,.t 62),(2,.t 67)]) (am 170 [.t 53,.t 68]))) (A 70 lQ s bT al (hD s k1 133 et) (A 78 lQ s bT al (ai s bT jm i0 (bm (Y 4)) kx al j3 (ak (am 170 [.t 83,.t 89]))) (a8 91 lQ s bT al s bT jt et E'))))) (bp 99 45 1 45)))) 101 9 6 100 100 (a8 102 lQ s bT al s bT (fO 3 k1 [(0,mN),(1,J 80),(2,J 69)]) et E') (bf 10 (h 1 p8) (GQ (Oj 174 [.t 2,.t 3])) (fx 101)))))
def Tryz.aol:=fB 26 []<|iQ 5 p5 s bT (aa (fu 104 4) 4) (iQ 10 p9 eH jK (en jG (gh 2) al (aF (eL 10 [jZ,.t 16]))) (hW 18 1 jG (gh 1) jG (gh 3) al (aF (eL 18 [l3,jR])) E'))
def Tryz.aom:=fB 12 []<|aT 6 (h 1 p4) (h 1 p4) (a3 100) bW (bO bW (g5 103 p5 p3 p2))
def Tryz.aon:=fB 77 []<|ag 9 p8 (hj 2) (gt 0 8) (gV 12 fo (dG (fE 21 p9 0 20 20 (bg 22 q 12 1 20)) 20 (hC 23 (hF s 2 iS k1 [(0,iB),(1,im)] 170 p4) 33 s k1 133 et (e6 41 0 (aH 175) (dY 168) E' (e9 45 176 E' (eu 47 1 q 0 48 (bI 49 0 mu E'))))) (dG (aI 52 q 12 2 51 51 wg (bg 53 q 12 3 51)) 51 (fK 54 0 2 3 i0 jH) (dG (aI 60 q 12 4 59 59 wg (bg 61 q 12 5 59)) 59 (fK 62 0 3 2 i0 jH) (dG (aI 68 q 12 6 67 67 wg (bg 69 q 12 7 67)) 67 (e6 70 3 gd i0 jH (bI 75 0 mu E')) (e6 13 2 iS bc jH (bI 18 0 mu E')))))))
def Tryz.aoo:=fB 17 [.tmp 4]<|iA 4 (av 6 p6 s g6 bc (aa (dr 178) 5) (aV 11 0 s 0 bW (fx 179) (ey 16 5 4)))
def Tryz.aop:=fB 176 []<|gV 7 dj (fk 9 p2 0 8 8 (hP 10 jw 19 (iG s bT eW s 2 jf [jR,kr,iB] E') (e9 31 176 E' (e9 33 175 jx (hC 35 (hF s 2 kw k1 [(0,gn),(1,kt)] 170 p4) 45 s k1 133 et (ia 53 mU (hW 62 0 s bT s bT eW s (a g6 al (f3 167 [.t 71,hY 1] p8 p9 (gy jX [.t 67,.t 72,.t 73]))))))))) (aI 76 q 7 1 75 75 (nH (eU 77 1 (dc 64) (ah 81 (hP 82 (hZ s bT (kC3 161 p1 (Dr d1) lY)) 89 jw (ia 98 (hD s k1 125 et) og)))) (hP 106 (d9 s 0 s (hZ jp al (dZ [.t 111,.t 115,oC bD]))) 117 jw (hP 126 (iG s bT eW s 3 js [.t 131,.t 135,.t 136] E') 138 jw (ia 147 (iG s bT eW s 2 jf [.t 152,.t 156,.t 157] E') (hW 159 0 s bT s bT eW s (en jp al (gz k1 [(0,kC),(1,kC)]) (dZ [.t 164,.t 168,.t 169]))))))) (ge 172 q 7 2 171 171 (iq 173 0 gd 180))))
def Tryz.aoq:=fB 220 []<|ia 11 (aa (fu 104 3) 4) (W 16 4 (gh 2) al eW (k s bT al s (a g6 (am 178 [jR,f7]) (ee p8 p9 (a jK al (eg 5 18 jx))))) (hC 28 (g2 s 5 k1) 37 s k1 173 et (hP 45 (iv s bT eW s 1 ff bX (gy jf [lv,kZ,l8])) 59 (ez s 5 k1 179 p3) (eU 68 1 (f5 (aH 172) 7 8 136) (hb 73 1 q 11 74 (gR 8 (b 134)) (hP 75 (d9 s 7 (kC3 161 p2 p1 lY) E') 83 (g2 s 5 k1) (hP 92 (ez s 8 k1 169 p3) 101 (d9 s 7 jf (ak (ed 161))) (hP 110 (d9 s 0 s (a g6 al (f3 167 [.t 119,hY 1] p8 p9 (gy kJ [.t 115,.t 120,.t 121])))) 123 (ez s 6 k1 179 p3) (W 132 4 (gD 1 p1 (Y 2)) bd fa E' (gi 0 136 136 0 1 (h2 137 10 (hP 139 (hF s 10 kg k1 [(0,mt),(1,.t 146)] 170 p4) 149 (ez s 8 k1 169 p3) (hC 158 mU 167 s k1 131 et (eu 175 1 q 12 176 (hP 177 (g2 s 10 k1) 186 (iG s bT eW s 2 jf [.t 191,.t 195,.t 196] E') (e9 198 176 E' (ia 200 mU (e9 209 173 E' (hW 211 0 s bT s bT (gz k1 [(0,io),(1,mN)]) et E'))))))))) 219 135 135))))))))))
def Tryz.aor:=fB 11 []<|aT 6 (h 1 p4) (h 1 p4) bc bc (ak (g5 108 p4 p3 p2))
def Tryz.aos:=fB 242 []<|gV 11 fo (h1 53 11 14 52 52 (ii 54 0 2 3 181 E') 59 11 17 58 58 (ii 60 0 2 3 182 E') (dG (aI 65 q 11 15 64 64 wg (bg 66 q 11 18 64)) 64 (fK 67 0 1 2 iS (ak (g5 183 p4 p3 p2))) (hn 73 11 16 72 72 (e6 74 2 iS (ed 181) E' (e9 78 175 (P 8) (hC 80 (d9 s 8 gd (a iS (fO 3 k1 [(0,.t 86),(1,.t 87),(2,.t 88)]) (aN 170 p5))) 91 s k1 131 et (hC 99 (hF s 2 iS k1 [(0,.t 105),(1,.t 106)] 170 p4) 109 s k1 132 et (ia 117 (g2 s 8 k1) (e9 126 173 E' (hP 128 (en s bT (gz k1 [(0,io),(1,mN)]) et) 136 (iG s bT eW s 2 jf [.t 141,mt,.t 146] E') (e9 148 176 E' (hW 150 0 s bT s bT (a4 k1 132) et E'))))))))) 159 11 19 158 158 (e6 160 2 iS (ed 182) E' (e6 164 2 iS (kC4 177 p3 p2 p1 kH) E' (e9 168 173 E' (hW 170 0 s bT s bT jf et E')))) 179 11 21 178 178 (ii 180 0 2 3 184 E') 185 11 27 184 184 (hC 186 (hF s 2 iS k1 [(0,.t 192),(1,.t 193)] 170 p4) 196 s k1 132 et (hC 204 (hF s 2 iS k1 [(0,.t 210),(1,.t 211)] 170 p4) 214 s k1 133 et (ia 222 l1 (hW 230 0 s bT s bT eW s (en jz al js (dZ [.t 235,.t 239,.t 240])))))) (ag 12 p9 gd (ig 9 10) (hb 14 1 qz 24 15 (bI 16 2 iS (ig 9 10)) (hC 18 (d9 s 9 kh (a h5 (fO 3 k1 [(0,jR),(1,hX),(2,kW)]) (aN 170 p5))) 29 s k1 133 et (e6 37 2 iS fo (hZ (hj 2) hQ (g5 177 p6 p5 p4)) (hW 44 0 s bT s bT jt et E'))))))))
def Tryz.aot:=fB 17 [.tmp 4]<|aE 4 iE (ag 6 p5 bX (aa (d5 31) 5) (fR 9 p9 e3 (dP p2) eW (k bc (bZ (f1 32)) ki kj ky)))
def Tryz.aou:=fB 17 [.tmp 4]<|hE 4 (ag 6 p5 bX (aa (d5 63) 5) (fR 9 p9 e3 (dP p2) eW (k bc (bZ (f1 64)) ki kj ky)))
def Tryz.aov:=fB 19 [.tmp 2]<|eT 2 (N (gk 3 p3 (fC qz 65536) E' 4 (gP 5 p5 (dF 16) 0 (gR 2 (b 16)))) (gk 7 p7 (fC qz 256) E' 8 (gP 9 p9 (dF 8) 0 (bf 11 bW (b8 8) (P 2)))) (dV 13 2 0 hM (hx ar p1) (da fg mJ 2)))
def Tryz.aow:=fB 25 [.tmp 2]<|eT 2 (N (gk 3 p3 (gS qz) E' 4 (gP 5 p5 ma 0 (gR 2 (b 32)))) (gk 7 p7 (bE qz 65536) E' 8 (gP 9 p9 (dF 16) 0 (bf 11 bW (b8 16) (P 2)))) (dd 13 0 (bE qz 256) E' (g0 14 15 (dF 8) (P 0) (fU 17 2 8 2)) (dV 19 2 0 hM (hx ar p1) (da fg mJ 2))))
def Tryz.aox:=fB 93 [.tmp 2,.tmp 3]<|bv 1 dW bD dH (A 6 (fO 8 [aK] [(0,oC aK),(1,oC (o 97)),(2,oC (o 115)),(3,oC (o 109)),(4,oC (o 1)),(5,oC aK),(6,oC aK),(7,oC aK)]) (adY p1) (F [bD,ab] [(0,1,.t 7)]) dW ky (av 10 p6 (m 2 1) al bd (k (m 9 1) al bd (w q p4) (aN 185 p8)) (eM 19 4 0 1 (Tf 186 p3 (fG 1) (Y 256) p1 (hd 187 [])) E' (eM 23 4 1 1 (Tf 191 p3 (fG 2) lz p1 (hd 192 [])) E' (eM 27 4 2 1 (Tf 194 p3 (fG 3) lz p1 (hd 195 [])) E' (eM 31 4 3 1 (Tf 196 p3 (fG 4) lz p1 (hd 197 [])) E' (eM 35 4 4 1 (Tf 196 p3 (fG 5) lz p1 (hd 199 [])) E' (eM 39 4 5 1 (Tf 200 p3 (fG 6) lz p1 (hd 201 [])) E' (eM 43 4 6 1 (Tf 202 p3 (fG 7) lz p1 (hd 203 [])) E' (eM 47 4 7 1 (be (-1)) (g4 185) (nH (eK 52 7 1 (ak ix) (ah 54 (M 55 (F [bD,ab] []) dW (P 5) (eM 57 5 7 1 j3 hR (bI 62 4 kg (ak (b7 204 p2 (fG 8)))))))) (eM 65 4 8 1 (Tf 205 p3 (fG 9) lz p1 (hd 206 [])) E' (eM 69 4 9 1 (Tf 208 p3 (fG 10) lz p1 (hd 209 [])) E' (eM 73 4 10 1 (Tf 210 p3 (fG 11) lz p1 (hd 211 [])) E' (nH (em (eb 78 4 1 (P 77) (p 77 (iJ 2 bD j1) (eb 83 4 0 (da bd (dm 16384) 82) (eN 82 2 bD 4))))) (eb 89 4 0 (eJ 2 3 0) og))))))))))))))))
def Tryz.aoy:=fB 97 [.tmp 2]<|bv 1 dW ab E' (b9 11 1 1 bd (m 2 1) (eR al bd (bm p4) 3) (N (ae 18 3 fa E' (hm 0 20 20 0 1 21 4 (M 23 kA jG (fW (dr 212) 22 (aA p4 0 p5 1 (dq 5 j4 2 5 p2 jx))) (ae 28 6 eI E' (f4 29 ab))) 30 19 19)) (b9 31 3 1 bd (dm 1) (gl C (ht (m 4 1)) ha (eY bd) (fJ (dm 1)) l9) (f4 40 ab)) (N (b9 41 3 1 (m 4 1) al (en (gz [bD] [(0,kt),(1,l5)]) (aH 213) bd fa) (gi 2 49 49 2 3 (iz 50 2 p2 2 8 [ad,ad] 2 8 (b9 52 1 8 (eE (-1)) C (gl (gu 1 8) fd (fq p3 0 8) kP (iN hJ) ln) (f4 61 ab))) 62 48 48)) (b9 63 4 1 bd (bN 1) (ai C (gu 4 1) fd (fN (gW 2 0)) (h3 g6) (iN al) (I p6 (dm 65536)) (bK p7) E') (f4 74 ab)) (f2 75 5 1 bd fa E' (gi 4 79 79 4 5 (iz 80 3 p2 3 10 [ad,ab,bD] 3 10 (b9 82 2 10 (i3 10) al (bO (dY 214) eI) (f4 87 ab))) 88 78 78) (A 89 kA iS (dr 215) C (k (I p1 kA) (bM p2 3) (fN (dr 216)) f8 (P 2)) og)))))
def Tryz.aoz:=fB 110 [.tmp 4,.tmp 5]<|e 4 (gC 2 p4 (bO (l bD) (l ab))) (A 17 mG (gx 2) al bd (a fo f6 (fW (au 212 p6) 16 (aA p8 0 p9 1 (dq 6 j4 2 6 p2 ly)))) (A 26 mG lV al (m 9 2) (k al fo (fX 2) bT (a al (gz [bD] [(0,kr),(1,jS)]) (dQ 217 [h4] (Q' (q' 26) mG (da (F [bD,bD,bD,bD,bD,bD,bD,ad,bD,bD,bD,bD,bD,bD,ab] [(0,11,kW),(11,1,kX)]) dW 8))))) (eM 39 8 1 6 (F j4 [(1,1,gn)]) (ak (b7 218 p4 (Y 2))) (b9 44 9 2 fo (fX 2) (k g6 al bd (GQ (uj 3 24 [ab,ad,ad] lv lv)) (P 9)) (ba 10 ad (b9 52 9 2 fo (fX 2) (en g6 al bd fa) (gi 0 60 60 0 1 (ag 61 p2 (gr 6 p3) (S' (e5 6) (bo 12 jg (f 11 p3 (an 6 12 p1 E')))) (dd 64 8 mv (P 13) (eb 66 13 5 (k C (dJ 13) (dy s) (fN lG) (hZ kP (iN eI) ln)) (ah 76 (ba 10 ad (eb 77 8 12 (bO bd fa) (bL 2 83 p1 p2 E' 83 2 3 (h2 84 15 (eu 86 15 q 123 87 (fU 88 10 1 10))) (ft 90 p8 1 82))) (bC 91 9 hT i0 s k7 al bd h5 (a (F [ab,ad,ad] [(0,1,oC b1),(1,1,.t 97),(2,1,.t 98)]) (xX 3 p9 p8) (gm 3)))))) (ae 101 8 (aQ 6 12) (fx 220) (eb 104 8 14 E' (eO 107 4 bD ab))))) 108 59 59)) (gv 4 109 9 (d 109) (l b1)))))))
def Tryz.ad2:=fB 8 [.tmp 2]<|gO 2 bD 3 p3 j7 E' 4 bD (M 5 (aS 0 3 [aL,aL,ad] []) dj (fA 3 40 p2 2) og)
def Tryz.ad3:=fB 8 [.tmp 2]<|gO 2 bD 3 p3 j7 E' 4 bD (M 5 (aS 0 2 [ad,ad] []) dj (fA 2 16 p2 2) og)
def Tryz.ad4:=fB 8 [.tmp 2]<|gO 2 bD 3 p3 j7 E' 4 bD (M 5 (aS 0 3 [ad,ab,bD] []) dj (fA 3 40 p2 2) og)
def Tryz.aoA:=fB 24 [.tmp 2]<|iA 2 (gP 5 p5 (aH 221) 3 (nH (ag 7 p4 bd dH (hm 0 10 10 0 1 11 4 (a8 12 bW bW iS jG (fX 6) lH al (aH 70) (a (xX 6 p8 p7) lH jj)) 22 9 9)) (ey 23 3 2)))
def Tryz.ad5:=fB 8 [.tmp 2]<|gO 2 bD 3 p3 j7 E' 4 bD (M 5 (aS 0 3 [aL,ad,ad] []) dj (fA 3 32 p2 2) og)
def Tryz.ad6:=fB 8 [.tmp 2]<|i7
def Tryz.ad7:=fB 8 [.tmp 2]<|i7
def Tryz.ad8:=fB 8 [.tmp 2]<|i7
def Tryz.ad9:=fB 8 [.tmp 2]<|gO 2 bD 3 p3 j7 E' 4 bD (M 5 (fO 0 [aK] []) dj (fA 1 1 p2 2) og)
def Tryz.aoB:=fB 30 [.tmp 4,.tmp 5]<|gA 4 d1 d1 (nH (VK (oC ab) (W 11 0 gI fo gI (fW (dY 222) 10 (fr p6 0 p7 1 6 7)) (g9 18 6 bX jm bX (dt 4 p3 5))) wg) (d7 23 fo (fW (dr 223) 22 (fr p4 0 p5 1 8 9)) (dO 28 8 9 (ig 4 5))))
def Tryz.aoC:=fB 26 [.tmp 6]<|iU 6 (iQ 8 p8 s bT (da bd bX 7) (g9 14 2 bX bW iF (ai C (dJ 1) (bM p2 7) (bM p3 2) (h3 bX) (iN (bZ p3)) (I p6 (fT p5)) (bK p7) jx)))
def Tryz.aoD:=fB 43 [.cell 8 16 true]<|dp 4 p4 (bo 8 i4 E') (N (av 10 p9 (aH 140) hQ C ju (ah 22 (d8 23 jO 16 8 p1 E'))) (hK 9 0 (a5 24 9 1 (gN 8) hJ E' (i2 27)) 1 (a5 30 2 1 (gN 8) (ds p3) (dv kh f6 3 m6 (a hM (hy 1 4 p4) ij)) (dR 40 3 (bE vM 256) 3)) (fU 28 9 1 9)) (d8 42 jO 16 8 p1 E'))
def Tryz.aoE:=fB 28 [.tmp 6]<|iU 6 (fR 7 p6 bc s bT (eD al bd bX (g1 p7) C (dw 2) (dK bX) k4 (fJ s) (hq bT) lZ lC (u p8 bX) (bx p9 1) (iZ 15 gQ) (iZ 15 (g1 p9)) (aa (bH (q' 15)) 6)))
def Tryz.aoF:=fB 95 [.tmp 6]<|ba 6 bD (eb 11 1 0 (ai eW s bT al s lG g6 al (bO bd (d0 (q' 14)))) (g0 24 25 (ib 40) E' lK)) (hP 27 (ai s lG g6 al fo s bT al (a (di 3 p5) (e5 3) (bo 7 [aL,aL,ad] (dI 3 7 40)))) 41 (ai s lG bT al (m 2 7) al (di 2 p3) lj (bo 8 j4 (dI 2 8 52))) (nH (e 56 (aC 53 (i3 8) 54 (h 1 p3) (k fo s jp al (e8 55 229 [mD] (ee p1 p2 (k (w aX p5) C (iM 8) ha (aC 65 (bx p3 1) 66 (eY (dx 65)) (aC 67 (eY (m 3 66)) 68 (eY (fY 67)) (S' (aF (fe (.t 61) false 229 [.t 63])) (Q' (q' 68) (fJ (fY 67)) (aC 69 (fJ (zL aX p1 (q' 68))) 70 (aM p4 (q' 69)) E')))))))))) (g0 70 71 (ib 40) E' lK)) (ia 74 (ai s jz al fo s bT al (aQ 3 7) (a (aQ 2 8) gd (it 230 [.t 80,.t 84,.t 85,.t 86,.t 87] 73 (fr (q' 73) 0 (q' 73) 1 9 10)))) (d7 91 h5 (fx 133) (ey 94 9 6)))))
def Tryz.aoG:=fB 17 []<|av 4 p3 (eE 0) C (I p1 eH) (k (dy s) (fN lG) kP (iN hQ) (ak ln)) (ah 12 (de 13 0 1 (uu p2) lG jj))
def Tryz.aic:=fB 116 []<|ip 3 p2 (eF 4 bT E' (em (hn 17 5 0 16 16 (ho 18 s bT al (iI 20)) 24 5 12 23 23 (iY 25 ik al 231 E') 30 5 13 29 29 (iu 31 p1 1 0 E' 32 (W 33 0 k8 gI (fC aX 0) E' (p 36 (iY 37 ik al 231 E') (ho 41 s jp al m3)))) 49 5 14 48 48 (iu 50 p1 1 0 E' 51 (R' 60 (aC 52 eW 53 (uu p8) (aC 54 (pG 2 p7) 55 (h 1 p6) (eg 56 0 (a ik al (S' bX (e8 57 233 [kZ] (ee p8 p9 (ee p2 p3 (aC 58 (e2 p6) 59 (a7 p5) (k (zM p4 p1) fg (bm (Y 1)) (bm (q' 55)) (a (dx 52) jp (gX 68 66)))))))))))))) (h1 70 5 15 69 69 (e6 71 0 s g6 (k al s jz al (ak (fD 232 p8 p1 0))) (ah 79 (e6 80 0 s jz (eD al eW s jz al bd eW s g6 al s jz al (bZ p8) (eC 1 (q' 84) p1 M4) (dx 80) (g8 jz 100 98)) (bI 101 0 s (iX 2 (-1)))))) 105 5 16 104 104 (iY 106 ik al 234 E') (aI 111 q 5 17 110 110 (iY 112 ik al 235 E') (ag 6 p6 (H 3 p4) (fx 236) (aT 9 bW s jp al m3)))))))
def Tryz.aoH:=fB 85 [.tmp 6]<|dp 4 p3 (B 6 lY) (nH (A 11 (dl p7) al eW s (iv jp al s bT 1 bd (d0 (q' 12)) E') (g0 22 23 s lW lK)) (hL 26 2 (ai s bT g6 al (i3 4) al (di 3 p3) (e5 3) (bo 7 [aL,aL,ad] (dI 3 7 37))) 38 2 (ai s bT bT al (m 2 7) al (di 2 p3) lj (bo 8 j4 (dI 2 8 49))) (nH (e 53 (aC 50 (i3 8) 51 (h 1 p3) (a (m 2 4) al (e8 52 238 [mB] (ee p1 p2 (k kl C (iM 8) ha (aC 60 (eY (m 3 4)) 61 (eY (fY 60)) (S' (aF (fe kZ false 238 [.t 58])) (Q' (q' 61) (fJ (fY 60)) (aC 62 (fJ (zL aX p1 (q' 61))) 63 (aM p4 (q' 62)) E'))))))))) (g0 63 64 s lW lK)) (eU 68 3 (k (i3 4) al (aQ 3 7) (aQ 2 8) (a gd (am 239 [.t 71,.t 73,.t 74,.t 75,.t 76]) (fv 67 (q' 67) 0 (q' 67) 1 9 10))) (e6 80 10 (uu p2) (j 7) jj (ey 84 9 6))))))
def Tryz.aoI:=fB 304 [.tmp 8]<|eT 8 (aV 19 0 s 0 g6 (ai al gd lk lH al iS (fX 3) (e5 3) (fV 9 jl 3 9)) (aV 32 0 s 0 lj (a gd (aQ 3 9) (it 240 [h4,kX,lr] 31 (fr p8 0 p9 1 10 11))) (hu 41 1 0 (aa bd 12) 47 0 2 (a (gx 9) al (it 27 [lv,lw] 46 (fr p8 0 p9 1 13 14))) (nH (a5 56 10 12 mS C (eD (dw 12) (bx p2 10) (eY gQ) (bx p4 11) (hq f6) (u p6 (dm 1048576)) (bH p7) C (ht (i3 9)) ha (eY (bN 35)) (fJ C) (ht (i3 9)) ha (eY (bN 36)) (u p8 lA) (eD (u p9 C) (dJ 14) (dy eI) (iZ 67 dE) (bH (q' 67)) C (ht (i3 9)) ha (eY (be 40)) (fJ C) (gu 0 9) fd (fN (bU 64)) (u p8 f8) (u p9 C) jJ (ai (dy s) (fN jp) kP (iN s) (I p6 (j 11)) (I p7 al) (I p8 gK) (iZ 81 (bK p9)) (f0 (q' 81))))) (g0 100 101 s lW (ey 104 3 8))) (iA 15 (a5 105 15 1 s bT (dv al jP 10 gQ (da (eC 1 p4 p1 M4) (hv 8 p9) 15)) (hE 16 (N (eu 115 10 qy 0 116 (de 117 15 10 ff kx (da al kn 16))) (eK 123 0 9 E' (em (fk 126 p2 0 125 125 (d7 127 s (iX 7 20) (ey 130 3 8)) (dG (fE 132 p8 12 131 131 (e1 133 q p9 13 131)) 131 (a5 134 1 1 s bT ld (N (b9 145 0 9 (bN 13) C (hZ (dJ 16) (dy jv) dE) (ah 151 (dX 152 3 tD 1 8 og))) (b9 154 1 9 iS iF (k C jJ (dy (aH 241)) (fN eI) (ak f8)) (ah 162 (ey 163 3 8))) (eK 164 1 9 (P 8) og))) (hn 167 124 14 166 166 (a5 168 1 1 s bT lm (nH (eM 178 16 1 9 bX (ak (g1 p4)) (ah 182 (bf 183 (gx 9) al (aa bX 16)))) (g9 186 3 jI (d 16) fg (aa kf 8)))) 192 124 15 191 191 (a5 193 1 15 (uu p2) bT jj (a0 8 mw)) 198 124 16 197 197 (e6 199 1 (gx 9) al (ak (b7 242 p4 p3)) (dX 204 3 tD 1 8 og)) 207 124 17 206 206 (a5 208 1 1 s bT lm (eU 219 2 (a (d 16) gI (fW (dY 243) 218 (fr p8 0 p9 1 17 18))) (dd 228 18 eI E' (p 229 (bI 230 0 s (iX 7 24)) (a5 233 17 0 s bT (en g6 al bd (d0 p7)) (p 240 (bI 241 0 s lW) (aV 244 0 s 0 g6 (ai al (d 17) lk g6 al (gx 9) al kl E') (p 255 (bI 256 0 s (iX 7 25)) (ii 259 0 1 17 242 E')))))) (dX 263 3 tD 1 8 og)))) (ge 266 q 124 257 265 265 (nH (eU 267 4 mQ (g0 271 272 s (iX 7 27) (ey 275 3 8))) (eU 276 4 (hw ff p5 4 p3) (dX 283 3 tD 1 8 og))))))))) (a5 285 1 1 s bT ld (e6 296 1 (aQ 3 9) (d 15) (bO (d 16) (Tf 244 p5 p4 p3 p2 p1)) (dX 302 3 tD 1 8 og)))))))))))
def Tryz.aoJ:=fB 11 [.tmp 2]<|eT 2 (N (av 3 p3 (bN 127) C (ht dj) (bO (ej 126) dS) (f4 8 j1)) (ag 9 p9 (bN 123) E' (f4 10 (b 2))) kz)
def Tryz.aoK:=fB 19 [.tmp 2]<|ba 2 ad (av 3 p3 (bN 8) C (ht dj) (ai (ej 16) dS C gH (ej 32) dS C gH (bO (ej 64) dS)) (ah 16 (bJ 17 0 (gG (Y 128)) (P 2)))) kz
def Tryz.aid:=fB 116 [.tmp 8]<|e 7 (gC 4 p7 (bO (xW p4) (l ab))) (nH (eF 9 (dl p2) E' (em (dG (fE 12 p2 12 11 11 (e1 13 q p3 13 11)) 11 (A 14 (eZ p7) al ix C (ai lT fd (bM p3 1) (h3 s) (iN lH) (I p6 al) (I p7 bd) (I p8 (bn p6)) (aa (bK p9) 8)) og) (h1 28 10 14 27 27 (b9 29 1 7 ix C (ai lT fd (bM p3 1) (h3 s) (iN lH) (I p6 al) (I p7 bd) (bM p8 2) (k (I p9 gQ) (fS 32 ff) (fS 32 (bn p9)) (bK (q' 32)) (P 8))) og) 46 10 16 45 45 (b9 47 1 7 ix C (k lT fd (fq p3 1 4) kP lf) og) (aI 59 q 10 17 58 58 (b9 60 1 7 ix C (k lT fd (fq p3 0 4) kP lf) og) (dG (h1 72 10 32 71 71 wg 73 10 33 71 71 wg (bg 74 q 10 34 71)) 71 (b9 75 1 7 ix C (ai lT fd (bM p3 1) (h3 s) (iN jp) (I p6 al) (bM p7 1) (I p8 s) (k (I p9 lG) (fS 78 al) (fS 78 mJ) (fS 78 (bn (q' 80))) (aa (bK (q' 78)) 8))) og) (dG (aI 93 q 10 35 92 92 wg (bg 94 q 10 36 92)) 92 (eK 95 1 7 (aa ix 8) og) (ge 99 q 10 256 98 98 (b9 100 1 7 ix C (ai lT fd (fN (bU 1048576)) f8 C (gu 2 7) fd (fN (bE ui 1048576)) (aa f8 8)) og))))))))) (eK 113 0 7 (aa (aH 245) 8) og))
def Tryz.aoL:=fB 67 [.tmp 2,.tmp 3,.tmp 4]<|bF 2 ad ad k3 (nH (em (dG (gP 6 p6 hQ 5 (eB 5 (gP 8 p8 (bN 12) 5 (eB 5 (dR 10 0 (bN 257) 5))))) 5 (bR 2 ad ad lB) (dG (fH 13 0 q 13 12 12 (fH 15 0 q 14 12 12 (fH 17 0 q 26 12 12 (fH 19 0 q 33 12 12 (dR 21 0 (bN 36) 12))))) 12 (bR 2 j1 ad lB) (dX 24 0 q 27 23 (p 23 (bR 2 (b 3) j1 lB) (dG (fH 27 0 q 32 26 26 (fH 29 0 q 35 26 26 (fH 31 0 q 63 26 26 (dR 33 0 (bN 66) 26)))) 26 (bR 2 ad j1 lB) (dG (fH 36 0 q 34 35 35 (fH 38 0 q 64 35 35 (fH 40 0 q 40 35 35 (fH 42 0 q 41 35 35 (ho 44 (be 44) C jJ (iW 53 35)))))) 35 (bR 2 j1 j1 lB) (dG (fH 51 0 q 54 50 50 (fH 53 0 q 55 50 50 (ho 55 (be 58) C jJ (iW 62 50)))) 50 (bR 2 (b 2) ad lB) (e9 62 11 (aa ko 61) (ah 61 (gq 2 (f 65 p2 (D' 66 (kC1 11 (q' 65)) (a (d 66) (l j1) lB)))))))))))))) (bR 2 ad ad k3))
def Tryz.aoM:=fB 128 [.tmp 8,.tmp 9,.tmp 10]<|bF 8 bD bD dH (d7 15 (F [bD,bD,b6,b6,ad,ad,ad,ad] [(2,1,.t 15)]) (aa dW 11) (hc 18 0 gK E' 19 (aT 20 bW (F [bD,bD,bD,bD,bD,bD,bD,ad,bD,bD,bD,b6,bD,bD] []) dW (uu p3) (hh 2 p3)) (W 25 11 jM (aS 1 2 j4 [(0,kW)]) fo (k (F jd [(0,1,J (-1)),(5,1,kr)]) (aS 1 7 jd [(0,iB)]) (F j4 [(0,1,lq),(1,1,im)]) g3 (d6 bT 2 p3)) (M 34 jM dW (P 12) (a5 36 12 12 s bT (k al gd kF g3 jD) (a5 45 12 12 s g6 (k al iS kF g3 (hh 1 p3)) (nH (hK 13 0 (a5 54 13 1 bd hJ (k C (dJ 11) (dy s) (fN (j 7)) (hZ kP (iN hQ) ln)) (i2 64)) 1 (a5 67 1 13 (fX 3) bT (aa al 14) (nH (W 72 14 (bs 26) C (dw 14) (eD (h9 256) dS C (dw 14) (dK (aH 237)) (eY eI) lA C (dw 14) (dK (be 32)) (eY C) (dJ 14) (d3 34) (u p6 dE) (u p7 C) (dJ 1) (eD (bM p2 13) (fN (fX 3)) (h3 g6) (iN al) (I p6 hz) (I p7 C) jn (bx p2 13) (eY (fX 3)) (fJ g6) (hq al) (bx p6 3) lC (u p8 (d0 p3)) (fS 90 mH) (iZ 83 (bK (q' 90))) (f0 (q' 83)))) (ah 108 (ae 109 11 s lW (Qm 0)))) (fK 112 11 12 13 (g5 138 p3 p2 (Y 0)) E'))) (fU 65 13 1 13)) (eb 116 12 0 (ai jP s g6 al hT s (j 7) al (f 8 p9 (dt 9 p5 10))) og))))))))
def Tryz.ad':=fB 44 [.tmp 0]<|iA 0 (A 1 (F i5 [(0,1,fp),(1,1,fp),(2,1,f7),(3,1,fp),(4,1,kR)]) (F i5 [(0,1,f7),(1,1,f7),(2,1,f7),(3,1,fp),(4,1,bQ ⟨#[58]⟩)]) (F i5 [(0,1,kd),(1,1,m5),(2,1,kd),(3,1,fp),(4,1,kR)]) (F i5 [(0,1,J 5),(1,1,J 5),(2,1,f7),(3,1,fp),(4,1,kR)]) (eD (F i5 [(0,1,J 11),(1,1,J 11),(2,1,f7),(3,1,fp),(4,1,kR)]) (F i5 [(0,1,J 12),(1,1,me),(2,1,J 3),(3,1,fp),(4,1,kR)]) (F i5 [(0,1,J 14),(1,1,J 14),(2,1,m5),(3,1,fp),(4,1,kR)]) (F i5 [(0,1,J 15),(1,1,J 15),(2,1,f7),(3,1,fp),(4,1,kR)]) (F i5 [(0,1,mf),(1,1,mf),(2,1,J 5),(3,1,fp),(4,1,kR)]) (F i5 [(0,1,J 17),(1,1,J 17),(2,1,J 6),(3,1,fp),(4,1,kR)]) (F i5 [(0,1,J 26),(1,1,J 27),(2,1,f7),(3,1,fp),(4,1,kR)]) (F i5 [(0,1,J 32),(1,1,J 36),(2,1,J 5),(3,1,fp),(4,1,kR)]) (F i5 [(0,1,J 40),(1,1,J 40),(2,1,ku),(3,1,kd),(4,1,eS)]) (F i5 [(0,1,J 41),(1,1,J 41),(2,1,ku),(3,1,J 3),(4,1,gj)]) (F i5 [(0,1,J 44),(1,1,J 45),(2,1,ku),(3,1,fp),(4,1,eS)]) (F i5 [(0,1,J 46),(1,1,J 47),(2,1,ku),(3,1,f7),(4,1,eS)]) (F i5 [(0,1,J 48),(1,1,J 49),(2,1,ku),(3,1,fp),(4,1,gj)]) (F i5 [(0,1,J 50),(1,1,J 51),(2,1,ku),(3,1,f7),(4,1,gj)]) (F i5 [(0,1,J 52),(1,1,J 53),(2,1,ku),(3,1,kd),(4,1,gj)]) (F i5 [(0,1,J 54),(1,1,J 54),(2,1,ku),(3,1,kd),(4,1,kT)]) (eD (F i5 [(0,1,J 55),(1,1,J 55),(2,1,ku),(3,1,J 3),(4,1,hr)]) (F i5 [(0,1,J 58),(1,1,J 58),(2,1,ku),(3,1,fp),(4,1,kT)]) (F i5 [(0,1,J 59),(1,1,J 59),(2,1,ku),(3,1,f7),(4,1,kT)]) (F i5 [(0,1,J 60),(1,1,J 60),(2,1,ku),(3,1,fp),(4,1,hr)]) (F i5 [(0,1,J 61),(1,1,J 61),(2,1,ku),(3,1,f7),(4,1,hr)]) (F i5 [(0,1,J 62),(1,1,J 62),(2,1,ku),(3,1,kd),(4,1,hr)]) (F i5 [(0,1,J 63),(1,1,J 63),(2,1,J 14),(3,1,fp),(4,1,bQ ⟨#[58,105]⟩)]) (F i5 [(0,1,J 64),(1,1,J 64),(2,1,J 14),(3,1,fp),(4,1,eS)]) (F i5 [(0,1,J 65),(1,1,J 65),(2,1,J 9),(3,1,fp),(4,1,bQ ⟨#[58,105]⟩)]) (F i5 [(0,1,J 66),(1,1,J 66),(2,1,J 10),(3,1,fp),(4,1,bQ ⟨#[58,108]⟩)]) (F i5 [(0,1,J 69),(1,1,J 69),(2,1,f7),(3,1,fp),(4,1,eS)]) (F i5 [(0,1,J 70),(1,1,J 79),(2,1,f7),(3,1,fp),(4,1,mI)]) (F i5 [(0,1,J 80),(1,1,J 80),(2,1,f7),(3,1,fp),(4,1,bQ ⟨#[108,58,105]⟩)]) (F i5 [(0,1,J 81),(1,1,J 90),(2,1,f7),(3,1,fp),(4,1,bQ ⟨#[108,108,58,105]⟩)]) (F i5 [(0,1,J 103),(1,1,J 105),(2,1,f7),(3,1,fp),(4,1,eS)]) (F i5 [(0,1,J 106),(1,1,J 120),(2,1,f7),(3,1,fp),(4,1,mI)]) (k (F i5 [(0,1,J 121),(1,1,J 123),(2,1,f7),(3,1,fp),(4,1,bQ ⟨#[108,58,108]⟩)]) (F i5 [(0,1,J 124),(1,1,J 138),(2,1,f7),(3,1,fp),(4,1,bQ ⟨#[108,108,58,108]⟩)]) (F i5 [(0,1,J 167),(1,1,J 167),(2,1,f7),(3,1,fp),(4,1,bQ ⟨#[108,58,105]⟩)]) (F i5 [(0,1,J 172),(1,1,J 173),(2,1,f7),(3,1,fp),(4,1,gj)]) (eR (F i5 [(0,1,J 192),(1,1,J 193),(2,1,f7),(3,1,fp),(4,1,eS)]) (F i5 [(0,1,J 194),(1,1,J 196),(2,1,f7),(3,1,fp),(4,1,bQ ⟨#[108,58,108]⟩)]) (aS 42 5 i5 [(0,.t 1),(1,.t 2),(2,.t 3),(3,.t 4),(4,.t 5),(5,.t 6),(6,.t 7),(7,.t 8),(8,.t 9),(9,.t 10),(10,.t 11),(11,lN),(12,jZ),(13,lo),(14,.t 15),(15,.t 16),(16,l0),(17,l2),(18,.t 19),(19,lp),(20,l3),(21,mA),(22,l4),(23,jR),(24,hX),(25,kW),(26,lq),(27,kr),(28,iB),(29,im),(30,jC),(31,ks),(32,kI),(33,jS),(34,h4),(35,kX),(36,lr),(37,kY),(38,.t 39),(39,.t 40),(40,gn),(41,kt)]) 0)))) og)
def Tryz.aea:=fB 68 [.tmp 0]<|iA 0 (A 1 (F i5 [(0,1,J 64768),(1,1,J 64768),(2,1,ku),(3,1,m5),(4,1,d2)]) (F i5 [(0,1,J 64769),(1,1,J 64774),(2,1,ku),(3,1,J 3),(4,1,d2)]) (F i5 [(0,1,J 64775),(1,1,J 64775),(2,1,ku),(3,1,fp),(4,1,d2)]) (F i5 [(0,1,J 64776),(1,1,J 64776),(2,1,ku),(3,1,f7),(4,1,d2)]) (eD (F i5 [(0,1,J 64777),(1,1,J 64777),(2,1,ku),(3,1,kd),(4,1,d2)]) (F i5 [(0,1,J 64778),(1,1,J 64778),(2,1,ku),(3,1,J 3),(4,1,d2)]) (F i5 [(0,1,J 64779),(1,1,J 64779),(2,1,ku),(3,1,m5),(4,1,gb)]) (F i5 [(0,1,J 64780),(1,1,J 64780),(2,1,J 11),(3,1,fp),(4,1,bQ ⟨#[58,118]⟩)]) (F i5 [(0,1,J 64781),(1,1,J 64781),(2,1,J 12),(3,1,fp),(4,1,hs)]) (F i5 [(0,1,J 64782),(1,1,J 64782),(2,1,f7),(3,1,fp),(4,1,hs)]) (F i5 [(0,1,J 64783),(1,1,J 64785),(2,1,f7),(3,1,fp),(4,1,d2)]) (F i5 [(0,1,J 64786),(1,1,J 64786),(2,1,f7),(3,1,fp),(4,1,bQ ⟨#[108,58,118]⟩)]) (F i5 [(0,1,J 64789),(1,1,J 64790),(2,1,me),(3,1,mf),(4,1,el)]) (F i5 [(0,1,J 64791),(1,1,J 64791),(2,1,me),(3,1,mf),(4,1,dn)]) (F i5 [(0,1,J 64792),(1,1,J 64793),(2,1,me),(3,1,lx),(4,1,el)]) (F i5 [(0,1,J 64794),(1,1,J 64794),(2,1,me),(3,1,lx),(4,1,dn)]) (F i5 [(0,1,J 64795),(1,1,J 64795),(2,1,me),(3,1,m5),(4,1,el)]) (F i5 [(0,1,J 64796),(1,1,J 64796),(2,1,me),(3,1,m5),(4,1,dn)]) (F i5 [(0,1,J 64797),(1,1,J 64797),(2,1,me),(3,1,kd),(4,1,bQ ⟨#[118,58,108]⟩)]) (F i5 [(0,1,J 64798),(1,1,J 64798),(2,1,me),(3,1,kd),(4,1,bQ ⟨#[118,108,58,118]⟩)]) (eD (F i5 [(0,1,J 64803),(1,1,J 64832),(2,1,f7),(3,1,fp),(4,1,hs)]) (F i5 [(0,1,J 64845),(1,1,J 64845),(2,1,f7),(3,1,fp),(4,1,ew)]) (F i5 [(0,1,J 64846),(1,1,J 64849),(2,1,f7),(3,1,fp),(4,1,hs)]) (F i5 [(0,1,J 64850),(1,1,J 64850),(2,1,f7),(3,1,fp),(4,1,bQ ⟨#[118,118,118,58,118]⟩)]) (F i5 [(0,1,J 64851),(1,1,J 64851),(2,1,f7),(3,1,fp),(4,1,el)]) (F i5 [(0,1,J 64852),(1,1,J 64852),(2,1,lx),(3,1,fp),(4,1,gw)]) (F i5 [(0,1,J 64853),(1,1,J 64853),(2,1,lx),(3,1,f7),(4,1,gw)]) (F i5 [(0,1,J 64854),(1,1,J 64854),(2,1,lx),(3,1,kd),(4,1,gw)]) (F i5 [(0,1,J 64855),(1,1,J 64855),(2,1,lx),(3,1,J 3),(4,1,gw)]) (F i5 [(0,1,J 64856),(1,1,J 64856),(2,1,lx),(3,1,fp),(4,1,gb)]) (F i5 [(0,1,J 64857),(1,1,J 64857),(2,1,lx),(3,1,f7),(4,1,gb)]) (F i5 [(0,1,J 64858),(1,1,J 64858),(2,1,lx),(3,1,kd),(4,1,gb)]) (F i5 [(0,1,J 64859),(1,1,J 64859),(2,1,lx),(3,1,J 3),(4,1,gb)]) (F i5 [(0,1,J 64860),(1,1,J 64860),(2,1,ku),(3,1,kd),(4,1,d2)]) (F i5 [(0,1,J 64861),(1,1,J 64861),(2,1,ku),(3,1,J 3),(4,1,d2)]) (F i5 [(0,1,J 64864),(1,1,J 64866),(2,1,f7),(3,1,fp),(4,1,ew)]) (eD (F i5 [(0,1,J 64867),(1,1,J 64868),(2,1,f7),(3,1,fp),(4,1,el)]) (F i5 [(0,1,J 64869),(1,1,J 64870),(2,1,f7),(3,1,fp),(4,1,hs)]) (F i5 [(0,1,J 64875),(1,1,J 64877),(2,1,f7),(3,1,fp),(4,1,dn)]) (F i5 [(0,1,J 64878),(1,1,J 64883),(2,1,f7),(3,1,fp),(4,1,hs)]) (F i5 [(0,1,J 64886),(1,1,J 64889),(2,1,f7),(3,1,fp),(4,1,hs)]) (F i5 [(0,1,J 64891),(1,1,J 64891),(2,1,f7),(3,1,fp),(4,1,hs)]) (F i5 [(0,1,J 64892),(1,1,J 64897),(2,1,f7),(3,1,fp),(4,1,ew)]) (F i5 [(0,1,J 64898),(1,1,J 64898),(2,1,f7),(3,1,fp),(4,1,hs)]) (F i5 [(0,1,J 64899),(1,1,J 64900),(2,1,f7),(3,1,fp),(4,1,el)]) (F i5 [(0,1,J 64901),(1,1,J 64902),(2,1,f7),(3,1,fp),(4,1,hs)]) (F i5 [(0,1,J 64903),(1,1,J 64906),(2,1,f7),(3,1,fp),(4,1,ew)]) (F i5 [(0,1,J 64907),(1,1,J 64909),(2,1,f7),(3,1,fp),(4,1,dn)]) (F i5 [(0,1,J 64910),(1,1,J 64915),(2,1,f7),(3,1,fp),(4,1,hs)]) (F i5 [(0,1,J 64917),(1,1,J 64921),(2,1,f7),(3,1,fp),(4,1,hs)]) (F i5 [(0,1,J 64923),(1,1,J 64927),(2,1,f7),(3,1,fp),(4,1,hs)]) (F i5 [(0,1,J 64928),(1,1,J 64929),(2,1,f7),(3,1,fp),(4,1,ew)]) (ai (F i5 [(0,1,J 64931),(1,1,J 64932),(2,1,f7),(3,1,fp),(4,1,el)]) (F i5 [(0,1,J 64935),(1,1,J 64938),(2,1,f7),(3,1,fp),(4,1,ew)]) (F i5 [(0,1,J 64939),(1,1,J 64941),(2,1,f7),(3,1,fp),(4,1,dn)]) (F i5 [(0,1,J 64942),(1,1,J 64942),(2,1,f7),(3,1,fp),(4,1,hs)]) (F i5 [(0,1,J 64945),(1,1,J 64945),(2,1,f7),(3,1,fp),(4,1,hs)]) (F i5 [(0,1,J 64949),(1,1,J 64954),(2,1,f7),(3,1,fp),(4,1,hs)]) (F i5 [(0,1,J 64956),(1,1,J 64959),(2,1,f7),(3,1,fp),(4,1,hs)]) (F i5 [(0,1,J 64960),(1,1,J 64961),(2,1,f7),(3,1,fp),(4,1,ew)]) (k (F i5 [(0,1,J 64963),(1,1,J 64964),(2,1,f7),(3,1,fp),(4,1,el)]) (F i5 [(0,1,J 64967),(1,1,J 64970),(2,1,f7),(3,1,fp),(4,1,ew)]) (F i5 [(0,1,J 64971),(1,1,J 64973),(2,1,f7),(3,1,fp),(4,1,dn)]) (F i5 [(0,1,J 64974),(1,1,J 64974),(2,1,f7),(3,1,fp),(4,1,hs)]) (eR (F i5 [(0,1,J 64977),(1,1,J 64977),(2,1,f7),(3,1,fp),(4,1,hs)]) (F i5 [(0,1,J 64981),(1,1,J 64991),(2,1,f7),(3,1,fp),(4,1,hs)]) (aS 66 5 i5 [(0,.t 1),(1,.t 2),(2,.t 3),(3,.t 4),(4,.t 5),(5,.t 6),(6,.t 7),(7,.t 8),(8,.t 9),(9,.t 10),(10,.t 11),(11,lN),(12,jZ),(13,lo),(14,.t 15),(15,.t 16),(16,l0),(17,l2),(18,.t 19),(19,lp),(20,l3),(21,mA),(22,l4),(23,jR),(24,hX),(25,kW),(26,lq),(27,kr),(28,iB),(29,im),(30,jC),(31,ks),(32,kI),(33,jS),(34,h4),(35,kX),(36,lr),(37,kY),(38,.t 39),(39,.t 40),(40,gn),(41,kt),(42,ls),(43,l5),(44,lu),(45,l6),(46,.t 47),(47,.t 48),(48,l7),(49,lv),(50,mB),(51,lw),(52,.t 53),(53,mD),(54,mE),(55,kZ),(56,l8),(57,.t 58),(58,.t 59),(59,.t 60),(60,.t 61),(61,.t 62),(62,.t 63),(63,.t 64),(64,.t 65),(65,.t 66)]) 0)))))) og)
def Tryz.aeb:=fB 63 [.tmp 4,.tmp 5]<|bv 3 h8 iE dH (dX 11 0 r6 64768 6 (N (gk 13 p7 (bN 83) E' 14 (nH (M 15 k0 j9 (ak (w (Cr true [true,true,true,true,true,true,true,true,true,true,true,true,true,true,true,true]) p2)) (eO 17 4 (bz 1) ad)) (iJ 4 iE ad))) (W 18 6 (bs 99) C (dw 6) (ai (h9 196) dS C (dw 6) (dK (hj 32)) (eY (eE 3)) (fJ C) (dJ 6) (en (dy (hj 32)) (fN (eE 4)) (u p8 f8) mH)) (eN 33 4 iE 1)) (W 34 6 (a3 96) (gN 32) (ir 8) ly (gA 8 iE (bz 1) (N (ae 38 7 jV dH (hm 0 41 41 0 1 42 10 (nH (A 43 k0 jm h5 (ed 247) (ak hz) (ah 47 (de 48 8 10 (dP (Dr (bz 1))) (eX p3) (P 8)))) (A 52 k0 jm h5 lO (ak jv) (ah 56 (gR 9 iE)))) 57 40 40)) (b2 58 6 ra 32 (dc 3) 60 (gv 4 61 9 (d 61) fa)) (gv 4 62 8 (d 62) fa))))))
def Tryz.aoN:=fB 46 [.tmp 6,.tmp 7]<|bv 5 fj d1 dH (e9 11 248 (fv 10 p3 0 p4 1 8 9) (N (av 15 p7 hQ C mb (ai (bH p2) C jn mO dS C jn (bx p2 8) (a (eY jV) mj (f0 p5))) (eN 29 6 d1 1)) (W 30 0 (bN 64789) C gH (bO (ej 64792) dS) (ah 35 (A 36 li i0 fo (ed 247) (a gI bX jh) og))) (A 42 li i0 fo lO jh og)))
def Tryz.aoO:=fB 36 [.cell 6 16 true,.tmp 7]<|A 3 fj fj fj kb dH (iy 8 i4 (nH (bv 11 (H 16 p8) ad E' (bG 0 13 (bs 16) E' 13 0 1 (ag 14 p2 m1 (ig 9 10) (yP 2 (ae 22 10 (bu qz (o 32)) (P 21) (p 21 (e0 24 j9 16 6 p1 7 1) (ae 26 10 (bu qz (o 16)) (P 25) (p 25 (de 28 9 10 (bu r6 (o 16)) (hy 1 5 p1) (a al (hy 1 8 p5) ij)) (aT 16 eH eH (hy 1 4 p1) al (d6 (hy 1 8 p4) 1 p2)))))))) (bp 34 12 1 12))) (gZ 35 8 16 6 p1 7 0)))
def Tryz.aoP:=fB 39 [.cell 8 16 true,.tmp 9]<|e 8 (gC 6 p6 (bO kb fa)) (e9 13 248 (fv 12 p3 0 p4 1 10 11) (gp 17 p7 hQ C mb (ai (dK eI) dS C jn mO dS C jn (en (bx p2 10) (eY jV) mj l9)) (ah 32 (e0 33 j9 16 8 p1 9 1)) (A 34 (bY 6) h5 fo iS (S' kD (an 16 8 p1 (bV 9 0))) og)))
def Tryz.aie:=fB 28 [.tmp 6]<|dp 3 p3 (B 6 (Dr d1)) (gp 8 p6 hz C mb kL (br 15 6 d1) (dX 16 1 vM 8 7 (dV 18 2 7 iD gd (dv jm iD 7 f6 (da (h6 16 (q' 3) (Qe p6) (Qe p1)) (aH 160) 6)))))
def Tryz.aoQ:=fB 22 [.cell 4 16 true]<|M 2 h8 h8 (ak kb) (iy 5 i4 (nH (bv 8 (H 16 p5) ad E' (bG 0 10 (bs 16) E' 10 0 1 (ag 11 p2 m1 (ig 6 7) (gk 13 p6 (bu r7 (o 16)) E' 14 (aT 15 bW bW (hy 1 2 p1) al (d6 (hy 1 5 p4) 1 p2)))) (bp 20 9 1 9))) (d8 21 li 16 4 p1 E')))
def Tryz.aoR:=fB 34 [.cell 4 16 true,.tmp 5]<|bv 4 kb ad E' (aZ 10 0 r6 64768 (aa (a3 15) 6) (gp 13 p7 hz C (dw 6) (bO (h9 3) dS) (ah 18 (e0 19 j9 16 4 p1 5 1)) (iy 7 i4 (ae 20 6 (ir 8) (P 8) (dd 22 8 jV dH (bL 0 25 p1 p2 E' 25 0 1 (gY 26 9 (aT 27 (bY 7) i0 kh fo (S' kD (an 16 7 p1 E')))) (ft 32 p8 1 24)) (gZ 33 7 16 4 p1 5 0))))))
def Tryz.aif:=fB 112 [.cell 4 16 true,.tmp 5]<|bv 4 kb ad E' (dX 13 0 r6 64768 6 (aE 7 (b 2) (N (em (W 16 6 (bs 77) C (dw 6) (da (h9 82) dS 15) (p 15 (e0 22 j9 16 4 p1 5 1) (dX 24 6 q 77 23 (p 23 (gR 7 j1) (b2 27 6 q 82 (P 26) 26 (gR 7 (b 3)))))))) (W 29 1 bd jm (w aX p2) E' (ah 32 (e0 33 j9 16 4 p1 5 1))) (ae 34 1 ll (S' f9 oa) (a5 37 1 7 (gN 2) (di 16 p3) (dv f9 fo 7 ff (a (di 16 p3) f9 (aC 9 kb 10 kb (bq 16 9 41 (Q' p1 (H 16 p2) (dI 16 10 46)))))) (nH (bv 47 (bY 8) ad E' (bG 1 49 (bs 16) E' 49 1 2 (ag 50 p2 m1 (ig 11 12) (gL 52 kw (yP 3 (hn 69 52 77 68 68 (de 70 11 12 (Ti HP p1) (hy 1 8 p3) ij) 75 52 78 74 74 (fK 76 11 12 11 lF (a al (w sV p4) jQ)) 84 52 79 83 83 (fK 85 11 12 11 lF (a al (w s0 p4) jQ)) 93 52 80 92 92 (fK 94 11 12 11 lF (a al (eX p4) jQ)) (aI 102 q 52 81 101 101 (fK 103 11 12 11 lF (a al (w A5 p4) jQ)) (ie 53 11 jP hT (hy 1 10 p1) (w sV p4) hT lF (k al hT (hy 1 10 p1) al (a (w s0 p4) (eX p8) (g8 (hy 1 8 (q' 53)) 67 66))))))))) (bp 110 48 1 48))) (gZ 111 8 16 4 p1 5 0)))))))
def Tryz.aec:=fB 56 [.cell 4 16 true,.tmp 5]<|M 3 h8 kb dH (e9 11 250 (fv 10 p3 0 p4 1 6 7) (N (av 15 p9 hQ C (dw 7) (bO (h9 2) dS) (ah 20 (e0 21 j9 16 4 p1 5 1))) (ae 22 6 jV dH (hm 0 25 25 0 1 26 8 (A 27 k0 kw i0 lO (P 9) (nH (yP 2 (dX 32 7 q 2 31 (p 31 (bI 34 9 (aH 54) (aa bX 9)) (W 38 7 (bN 1) C (ht k0) (k (bx p2 6) (bx p3 8) (fJ (ed 247)) (hq hz) (aa kN 37)) (ah 37 (dR 47 9 jA 9)))))) (aT 49 k0 kw i0 kh (S' kD (an 16 3 p1 E'))))) 54 24 24)) (gZ 55 3 16 4 p1 5 0)))
def Tryz.aoS:=fB 90 [.cell 4 16 true,.tmp 5]<|M 3 h8 kb dH (dX 14 0 r6 64768 6 (iy 7 i4 (N (ae 17 6 (fu 251 135) (fv 16 p3 0 p4 1 8 9) (eu 21 8 qy 0 22 (dd 23 8 lE dH (hm 0 26 26 0 1 27 10 (a8 28 (bY 7) i0 mZ h5 k0 i0 kh h5 (dQ 252 [ks,kI,jS,h4] (g7 p9 7 (dQ 249 [kr,im,jC,kX] (dI 16 7 37))))) 38 25 25) (gZ 39 7 16 4 p1 5 0)))) (W 40 6 (bs 124) C (dw 6) (bO (h9 127) dS) (ah 45 (gZ 46 7 16 4 p1 5 1))) (aE 11 (b 8) (N (eu 47 6 qz 126 48 (gR 11 (b 16))) (ae 49 11 lE dH (hm 2 52 52 2 3 53 12 (e 59 (hf 54 k0 55 11 (aC 56 jP 57 kU (dv k0 hT 12 mZ (S' jI (e8 58 150 [mD,mE,l8] (g7 p5 3 (da (am 150 [.t 59,.t 60,.t 63]) (bm p7) 13))))))) (nH (b2 66 6 ra 2 mQ 68 (R' 74 (hf 69 k0 70 11 (aC 71 jP 72 kU (dv k0 hT 12 mZ (S' jI (e8 73 247 [mF,.t 70,.t 72] (g7 p5 3 (eR (am 247 [.t 74,.t 75,.t 78]) (bm p7) bX 13))))))))) (aT 82 (bY 7) hT mZ jP (a lL (g5 249 p5 p3 p2) (an 16 7 p1 E'))))) 88 51 51)) (gZ 89 7 16 4 p1 5 0))))))
def Tryz.aed:=fB 68 [.cell 6 16 true,.tmp 7]<|e 6 (gC 4 p5 (bO kb fa)) (e9 13 250 (fv 12 p3 0 p4 1 8 9) (gp 17 p9 hQ C (dw 9) (gl (dK (bs 11)) dS C (dw 9) (h9 13) dS) mg (a5 28 2 8 gI (w ra p3) (P 2) (dd 32 8 jV dH (hm 0 35 35 0 1 36 10 (A 37 jO i0 h5 lO (da gd (e7 p2) 11) (nH (gL 43 kh (yP 2 (fk 45 p2 11 44 44 (aT 46 jO i0 h5 lO (da gd (dP p2) 11)) (ge 53 q 43 12 52 52 (aT 54 jO i0 h5 (ed 247) (eR gd (e7 p2) bX 11)))))) (aT 61 jO i0 h5 hT (S' kD (an 16 4 p1 E'))))) 66 34 34) (gZ 67 4 16 6 p1 7 0)))))
def Tryz.aee:=fB 62 [.cell 6 16 true,.tmp 7]<|A 4 fj fj kb fa E' (e9 17 250 (fv 16 p3 0 p4 1 8 9) (nH (W 21 8 hQ C (dw 9) (bO (dK (bs 14)) dS) mg) (iy 10 i4 (dd 28 8 jV dH (hm 0 31 31 0 1 32 11 (M 33 jO i0 (S' hT (hf 37 li 38 8 (eg 39 11 (dQ 150 [kI,jS,h4] (g7 (q' 37) 5 (e8 40 150 [lr,kY,.t 39] (ev 12 (eg 13 40 E')))))))) (M 41 jO i0 (S' hT (hf 45 li 46 8 (eg 47 11 (dQ 247 [gn,kt,ls] (g7 (q' 45) 5 (e8 48 247 [lu,l6,.t 47] (ev 14 (eg 15 48 E')))))))) (a8 49 (bY 10) i0 hT i0 kh jP lL (d 14) (a (d 15) (am 253 [lw,.t 53,mD,mE,kZ,l8]) (g7 (q' 49) 10 (dQ 249 [l7,lv,mB,.t 58] (dI 16 10 59))))))) 60 30 30) (gZ 61 10 16 6 p1 7 0)))))
def Tryz.aef:=fB 41 [.cell 6 16 true,.tmp 7]<|A 4 fj fj kb fa E' (e9 13 254 (fv 12 p3 0 p4 1 8 9) (nH (gk 17 p8 hz E' 18 (e0 19 j9 16 6 p1 7 1)) (iy 10 i4 (dd 20 8 jV dH (hm 0 23 23 0 1 24 11 (W 25 9 jO i0 hT (hf 30 li 31 8 (eg 32 11 (dQ 247 [kW,lq,kr] (g7 (q' 30) 5 (aC 33 (am 247 [im,jC,ks]) 34 (am 255 [hX,iB,kI]) E'))))) (ah 34 (aT 35 (bY 10) i0 hT (kC4 249 p3 p2 p1 (Dr es)) (an 16 10 p1 E')))) 39 22 22) (gZ 40 10 16 6 p1 7 0)))))
def Tryz.aoT:=fB 117 [.cell 6 16 true,.tmp 7]<|A 4 fj fj kb fa E' (dX 18 0 r6 64768 8 (iy 9 i4 (N (ae 21 8 (fu 251 156) (fv 20 p3 0 p4 1 10 11) (eu 25 10 qy 0 26 (dd 27 10 lE dH (hm 0 30 30 0 1 31 12 (a8 32 (bY 9) h5 mZ jP jO h5 hT jP (hf 41 li 42 10 (hf 43 hT 44 12 (dQ 252 [kX,lr,kY,.t 39] (g7 p9 9 (g7 (q' 41) 5 (e8 45 252 [gn,kt,ls,l5] (g7 p9 9 (aC 46 (zL uT p1 (q' 45)) 47 (am 249 [ks,jS,h4,l6]) (dI 16 9 47)))))))))) 48 29 29) (gZ 49 9 16 6 p1 7 0)))) (gL 50 i0 (yP 2 (dG (fE 52 p2 101 51 51 (fE 53 p3 102 51 51 (fE 54 p4 133 51 51 (e1 55 q p5 134 51)))) 51 (g9 56 8 jO li (ed 256) (an 16 6 p1 (bV 7 0))) (aI 61 q 50 130 60 60 (nH (eT 62 (bG 3 63 (bs 8) E' 63 3 4 (gY 64 13 (e 68 (hf 65 jO 66 13 (a li lL (e8 67 247 [.t 65,mf,.t 66] (g7 p2 5 (eR (am 247 [.t 68,mf,mF]) (ds p4) (b8 16384) 14))))) (aT 73 (bY 9) lL (d 14) (dF 15) (a (zM p1 (Y 32767)) bX (S' (g5 249 p6 (Y 16) p5) (an 16 9 p1 E')))))) (bp 80 62 1 62))) (gZ 81 9 16 6 p1 7 0)) (ge 83 q 50 186 82 82 (nH (eT 84 (bG 5 85 (bs 4) E' 85 5 6 (gY 86 15 (e 91 (hf 87 jO 88 15 (D' 89 kU (a li (d 15) (S' mZ (e8 90 247 [.t 87,mf,.t 89] (g7 p3 5 (da (am 247 [.t 91,mf,.t 93]) (ds p5) 16))))))) (e 101 (hf 96 jO 97 15 (aC 98 (zL uT (Y 2) p4) 99 (v tD p3 1) (k li (d 15) mZ jI (e8 100 247 [.t 96,mf,.t 99] (g7 p4 5 (da (am 247 [.t 101,mf,.t 104]) (ds p6) 17)))))) (aT 107 (bY 9) (d 15) (d 16) (d 17) (a f6 bX (S' (g5 249 p6 (Y 32) p5) (an 16 9 p1 E'))))))) (bp 114 84 1 84))) (gZ 115 9 16 6 p1 7 0))))))) (gZ 116 9 16 6 p1 7 1))))
def Tryz.aoU:=fB 22 [.tmp 2]<|hE 2 (ea 3 d1 6 p6 bd dH (gi 0 9 9 0 1 (ag 10 p2 kc (hI al 4 p3 5) (bb 13 3 bW bX jG (eR mC (dP p3) (eX p6) 3))) 20 8 8) (ey 21 3 2))
def Tryz.aoV:=fB 14 []<|av 6 p6 dj (F jl [(0,1,J 66),(2,1,.t 7)]) (aS 1 3 jl [(0,.t 8)]) (g4 257) (iq 11 0 gd 169)
def Tryz.aoW:=fB 18 [.tmp 4]<|hE 4 (ba 5 d1 (hK 6 0 (M 7 C (bs 64) E' (i2 8)) 1 (aT 12 eH fo bc (dP p2) (aa (eX p4) 5)) (bf 9 m4 eW (aa f6 6))) (ey 17 5 4))
def Tryz.aoX:=fB 66 []<|iQ 4 p4 s bT (k s bT bW j3 (aN 170 p3)) (hP 13 (iG s bT eW s 3 jf [l2,mA,l4] E') 25 (iG s bT eW s 3 (a4 k1 124) [im,jS,h4] E') (hC 37 mT 46 s k1 132 et j8))
def Tryz.aoY:=fB 18 []<|ag 6 p5 bd dH (bL 0 9 p1 p2 E' 9 0 1 (h2 10 5 (ho 12 bc (F jl [(0,1,jZ)]) (aS 1 3 jl [(0,lo)]) (g4 257))) (ft 17 p9 1 8))
def Tryz.aoZ:=fB 18 []<|ag 6 p5 bd dH (bL 0 9 p1 p2 E' 9 0 1 (h2 10 5 (ho 12 bc (F jl [(0,1,J 32),(1,1,jZ)]) (aS 1 3 jl [(0,lo)]) (g4 257))) (ft 17 p9 1 8))
def Tryz.ao0:=fB 22 [.tmp 2]<|hE 2 (ea 3 d1 5 p5 lE dH (hm 0 8 8 0 1 9 4 (a8 10 eH eW k2 bW eW ff (ds p3) (bZ p5) (da jB (eX p9) 3)) 20 7 7) (ey 21 3 2))
def Tryz.ao1:=fB 6 [.tmp 2]<|hE 2 (ag 3 p3 k2 (aa (e7 (Dr es)) 2) og)
def Tryz.ao2:=fB 10 []<|a8 2 (qR p2) s bT al s bT (a4 k1 133) lb E'
def Tryz.ao3:=fB 31 []<|A 6 (h 1 p4) s bT al (hF s 0 fo k1 [(0,lN),(1,jZ)] 170 p4) (nH (M 16 (fY 3) (bN 2) E' (ah 17 (bf 18 lQ mu E'))) (a8 20 lQ s bT al s bT (F [ad,ad,ad,ad,ad] [(0,1,fp),(1,1,io),(2,1,io),(3,1,mN),(4,1,kC)]) (fY 3) (hZ (hS 5 1 p2 p1) j3 (am 169 [hX,iB]))))
def Tryz.ao4:=fB 10 [.tmp 2]<|eT 2 (fR 3 p3 s bT al (eR (fu 104 1) jK al 2))
def Tryz.ao5:=fB 29 []<|iQ 2 p2 s bT (iv s bT bc s 1 ff bX (gy kK [.t 7,jZ,lo])) (hW 16 0 s bT s bT eW s (a g6 al (f3 172 [hX] p8 p9 (gy kJ [l3,kW,lq]))))
def Tryz.ao6:=fB 79 []<|nH (gL 9 dj (ah 9 (hP 10 (eR s g6 (fu 178 2) 8) 17 mT (hP 26 (iG s bT eW s 2 (a4 k1 133) [jC,h4,kX] E') 38 jw (hP 47 (iG s bT eW s 2 (a4 k1 133) [lw,kZ,l8] E') 59 (d9 s 8 (dr 179) E') (bb 67 8 jK al i0 (a (gh 1) al (dt 1 p4 2)))))))) (e6 73 1 gd (ed 268) E' (bI 77 0 (aH 176) E'))
def Tryz.ao7:=fB 30 [.tmp 4]<|iA 4 (ea 5 bD 6 p5 fa E' (gi 0 8 8 0 1 (av 9 p4 eW s bT (ai al eW s g6 al mJ j3 (eA 1 8 9 19) (P 5)) (ho 21 s g6 al (hw jI p5 1 p3))) 28 7 7) (ey 29 5 4))
def Tryz.ao8:=fB 20 []<|ag 5 p4 bd (aa ff 4) (fl 0 (ag 8 p4 ix E' (i2 9)) 1 (ie 12 0 fo jG fI (F jl [(0,1,J 33),(1,1,.t 16)]) (aS 1 3 jl [(0,l0)]) (au 257 p7) E') (bf 10 dj ff ky))
def Tryz.ao9:=fB 116 []<|iQ 6 p6 s bT (hF s 1 fo k1 [(0,lN),(1,jZ)] 170 p4) (hP 16 l1 24 (a s bT (f3 167 [lx,hY 85] p4 p5 (gy js [iB,im,jC]))) (e9 33 175 ky (hP 35 (g2 s 4 k1) 44 (a s bT (f3 167 [lx,hY 51] p4 p5 (gy jf [l7,lv,mB]))) (hC 53 (g2 s 4 k1) 62 s k1 136 (b7 161 p2 (f1 2)) (ia 70 (a s bT (f3 167 [lx,hY 51] p4 p5 (gy jX [.t 75,.t 76,.t 77]))) (e9 79 175 (P 5) (hC 81 (hF s 5 kg k1 [(0,.t 87),(1,.t 88)] 170 p4) 91 s k1 136 (b7 161 p2 (f1 4)) (ia 99 (hD s k1 124 et) (ho 107 s bT al (a s bT (f3 167 [lx,hY 15] p4 p5 (gy jf [.t 112,.t 113,.t 114]))))))))))))
def Tryz.ao':=fB 101 []<|gp 6 p6 s g6 al (dc 64) (ah 10 (hC 11 kE 21 s k1 124 et og)) (hP 29 mT 38 (iG s bT eW s 3 jf [ls,.t 47,.t 48] E') (hP 50 jw 59 (iG s bT eW s 3 jX [.t 64,.t 68,mF] E') (hC 71 (hF s 1 gd k1 [(0,.t 77),(1,.t 78)] 170 p4) 81 s k1 133 et (hW 89 0 s bT s bT eW s (en jp al jt (dZ [.t 94,.t 98,.t 99]))))))
def Tryz.apa:=fB 75 []<|gp 6 p6 s g6 al (dc 64) (ah 10 (hC 11 kE 21 s k1 125 et og)) (e6 29 1 gd (ed 269) E' (hC 33 (hF s 1 gd k1 [(0,.t 39),(1,.t 40)] 170 p4) 43 s k1 133 et (ia 51 (iG s bT eW s 2 jf [kZ,.t 60,.t 61] E') (hW 63 0 s bT s bT eW s (en jp al (gz k1 [(0,kC),(1,kC)]) (dZ [.t 68,.t 72,.t 73]))))))
def Tryz.apb:=fB 169 []<|nH (ag 10 p9 (bN 15) E' (p 11 (ii 12 0 2 3 181 E') (ii 16 0 2 3 182 E'))) (e9 20 175 (P 8) (hC 22 (hF s 2 iS k1 [(0,kr),(1,iB)] 170 p4) 32 s k1 133 et (hb 40 1 q 15 41 (bI 42 0 mu E') (hP 44 (hF s 2 i0 k1 [(0,lv),(1,mB)] 170 p4) 54 (en s bT (gz k1 [(0,kC),(1,io)]) et) (ia 62 (iG s bT eW s 2 jf [.t 67,.t 71,.t 72] E') (e9 74 176 E' (e9 76 175 (P 9) (hP 78 (g2 s 8 k1) 87 jw (hP 96 (iv s bT eW s 1 ff bX (gy kK [.t 101,.t 107,.t 108])) 110 (d9 s 0 s (a g6 al (f3 167 [.t 119,hY 1] p8 p9 (gy jf [.t 115,.t 120,.t 121])))) (hP 123 (iG s bT eW s 3 (a4 k1 124) [.t 128,.t 132,.t 133] E') 135 (g2 s 8 k1) (hP 144 (hD s k1 133 et) 152 (g2 s 9 k1) (hW 161 0 s bT s bT jt et E'))))))))))))
def Tryz.apc:=fB 56 []<|iQ 7 p7 s g6 (bO lE fa) (hm 0 13 13 0 1 14 6 (hP 15 (k fo eW s g6 (hZ al kw (am 258 [l2,.t 19,l4,jR,oC ab]))) 26 (k gd eW s g6 (hZ al kw (am 258 [iB,im,jS,h4,oC ab]))) (ia 37 (hD s k1 126 et) (hW 45 0 s bT eW s g6 al (bO kw (am 259 [.t 48,lw,.t 53]))))) 55 12 12)
def Tryz.apd:=fB 15 []<|a8 4 fw e3 s g6 al C mb (dK eI) (hw dS p9 1 p3)
def Tryz.ape:=fB 48 []<|i6
def Tryz.apf:=fB 39 []<|ip 3 p2 (av 4 p4 (dl p2) al bd (ai (bU 32) C (I p1 (eZ p7)) fd (fN bd) (h3 (bU 32)) lc (au 185 (q' 4)) E') (d7 16 (wR [aK] (fG 96)) lR (eM 19 0 0 3 bd m0 (eM 25 0 0 3 (dY 190) E' (eM 29 0 1 3 bd m0 (iY 35 ik al 190 E'))))))
def Tryz.apg:=fB 13 []<|a8 4 fw e3 s bT al bc m2 g3 jD
def Tryz.aph:=fB 33 []<|ag 6 p5 bd dH (gi 0 9 9 0 1 (h2 10 5 (W 12 0 bc ix C (en (dJ 5) (dy (bs 4294967296)) dE (au 185 p7)) (ie 20 0 eW s bT kg bX i9 (f3 270 [lq] p5 p6 (a (eA 1 1 24 28) (dx 20) (g8 bT 31 29)))))) 32 8 8)
def Tryz.api:=fB 30 []<|ag 6 p5 bd dH (gi 0 9 9 0 1 (h2 10 5 (W 12 0 bc (bN 127) C (ai (dw 5) (ej 126) dS C (dw 5) (ej 123) dS (au 185 (q' 12)) E') (de 24 0 5 hM j0 (g4 188)))) 29 8 8)
def Tryz.apj:=fB 48 []<|e6 13 3 bd gd kk (hc 19 3 bd mQ 21 og (eU 22 1 j5 (a5 28 10 3 bd j3 hR (dd 33 3 bd dH (bL 0 36 p1 p2 E' 36 0 1 (iz 37 3 p2 3 12 [aL,aL,ad] 3 12 jo) ka) j6))))
def Tryz.apk:=fB 20 []<|ip 3 p2 (av 4 p4 (dl p2) al (dY 193) E' (av 8 p8 (eZ p6) al (dY 193) E' (d7 12 jk lR (ho 15 lI al j3 hR))))
def Tryz.apl:=fB 22 []<|av 4 p4 fw (aH 271) (dY 185) E' (av 8 p8 bc kQ j3 hR (ie 13 0 eW s bT fo (adX 1 p2 p1) g3 jD))
def Tryz.apm:=fB 48 []<|e6 13 3 bd gd kk (hc 19 3 bd mQ 21 og (eU 22 1 j5 (a5 28 10 3 bd j3 hR (dd 33 3 bd dH (bL 0 36 p1 p2 E' 36 0 1 (h2 37 12 (fK 39 4 10 12 kp E')) ka) j6))))
def Tryz.apn:=fB 8 []<|aT 4 fw fw j3 (dY 189) E'
def Tryz.apo:=fB 48 []<|e6 13 3 bd gd kk (hc 19 3 bd mQ 21 og (eU 22 1 j5 (a5 28 10 3 bd j3 hR (dd 33 3 bd dH (bL 0 36 p1 p2 E' 36 0 1 (iz 37 2 p2 2 12 [ad,ad] 2 12 mx) ka) j6))))
def Tryz.apq:=fB 10 []<|ip 3 p2 (ag 4 p4 (wR [aK] (fG 112)) lR (bf 7 eH (H 2 p5) (ak (fD 198 p2 p1 1024))))
def Tryz.apr:=fB 33 []<|ip 4 p3 (av 6 p6 (dl p3) al eH kk (nH (eF 12 (eZ p8) (dc (-1)) (g0 14 15 jk lR (eM 18 0 0 4 j3 hR og))) (d7 23 (wR [aK] (fG 1)) lR (ho 26 (i3 4) al (gx 4) (a al (gz k1 [(0,kr),(1,im)]) (aN 189 p6))))))
def Tryz.aps:=fB 7 []<|ip 3 p2 (bf 4 fw (H 2 p2) (ak (fD 198 p2 p1 16)))
def Tryz.apt:=fB 48 []<|e6 13 3 bd gd kk (hc 19 3 bd mQ 21 og (eU 22 1 j5 (a5 28 10 3 bd j3 hR (dd 33 3 bd dH (bL 0 36 p1 p2 E' 36 0 1 (iz 37 3 p2 3 12 [ad,ab,bD] 3 12 jo) ka) j6))))
def Tryz.apu:=fB 21 []<|ip 3 p2 (av 4 p4 (dl p2) al j3 (g4 190) (nH (eF 9 (eZ p6) E' (p 10 (iq 11 0 (wR [aK] (fG 1)) 188) (iq 14 0 jk 188))) (iY 17 lI al 207 E')))
def Tryz.apv:=fB 48 []<|e6 13 3 bd gd kk (hc 19 3 bd mQ 21 og (eU 22 1 j5 (a5 28 10 3 bd j3 hR (dd 33 3 bd dH (bL 0 36 p1 p2 E' 36 0 1 (iz 37 3 p2 3 12 [aL,ad,ad] 3 12 jo) ka) j6))))
def Tryz.apw:=fB 29 []<|ip 3 p2 (av 4 p4 (eZ p2) al ix (k C (I p1 (eZ p6)) fd (fN (bU 3)) (dz f8 185 p9)) (eM 14 0 0 3 (dY 193) E' (eM 18 0 1 3 hM (hH j0 188) (ho 24 lI al j3 hR))))
def Tryz.apx:=fB 37 []<|av 6 p6 e3 s g6 (a al eI (aN 185 p6)) (e6 13 1 j0 (dY 188) E' (e6 17 2 s bT m9 (ie 25 0 eW s bT gd s bT (k al (eA 1 1 29 33) (dx 25) bT (gX 36 34)))))
def Tryz.apy:=fB 48 []<|i6
def Tryz.apz:=fB 27 []<|ip 3 p2 (av 4 p4 (eZ p2) al bd (hH (bU 1024) 185) (d7 10 jk lR (eM 13 0 0 3 (dY 207) E' (eM 17 0 1 3 bd m0 (iY 23 ik al 189 E')))))
def Tryz.apA:=fB 24 []<|ag 7 p6 (aH 272) (fv 6 p3 0 p4 1 4 5) (W 11 0 eH hQ (dY 185) E' (ie 15 0 eW s bT jG m2 g3 jD))
def Tryz.apB:=fB 48 []<|i6
def Tryz.apC:=fB 121 []<|ip 3 p2 (av 9 p9 (dl p7) al bd (hH (bU 512) 185) (M 15 (F [bD,ab] []) dW ky (ba 5 ad (b9 17 0 3 bd fa E' (hm 0 21 21 0 1 22 6 (W 23 6 hQ C (ht mp) (ai ha (bx p3 6) (fJ fI) (hq al) (u p6 mp) (u p7 al) (bx p8 6) (u p9 ff) (en (iZ 25 kx) (iZ 25 al) (iZ 25 (w aX p7)) (bH (q' 25)))) (ah 38 (fU 39 5 1 5))) 41 20 20)) (a5 42 4 5 j3 (dY 189) E' (nH (eT 7 (ap 2 (nH (eM 46 7 0 3 bd (ak (bn p4)) (a6 50 2)) (yP 3 (ba 8 j1 (ap 4 (nH (a5 51 7 8 f6 mp (eD al bd (bn p4) C lS fd (bM p3 7) (bM p4 8) (iN f6) (I p6 (eh p4)) (I p7 al) (fq p8 0 3) (I p9 al) (bM (q' 58) 7) (fS 58 fI) (fS 58 al) (bO (fS 58 (w q p6)) (bK (q' 58)))) (a6 72 4)) (yP 5 (fU 73 8 1 8)))) (a5 75 4 8 j3 (dY 189) E' (eM 79 4 0 3 jm (en fI al j3 (au 190 p7)) (bI 87 7 i0 (aa f6 7))))))))) (eM 90 4 1 3 (dY 207) E' (e6 94 4 s g6 (a al eI (aN 185 p6)) (e6 101 4 s bT m9 (ie 109 0 eW s bT jG s bT (k al (eA 1 1 113 117) (dx 109) bT (gX 120 118)))))))))))
def Tryz.apD:=fB 48 []<|i6
def Tryz.apE:=fB 21 []<|ip 3 p2 (ag 4 p4 jk lR (av 7 p7 (dl p5) al (dY 207) E' (W 11 0 (eZ p9) al bd m0 (iY 17 ik al 188 E'))))
def Tryz.apF:=fB 50 [.cell 4 2 true,.tmp 5]<|e 4 ms (ba 6 mw (eF 8 (eZ p6) (aa bd 7) (em (gB 12 1 0 C 1 (eR (dy bW) (fN jU) f8 11) (p 11 (aT 19 (gx 2) al fo (fX 3) (da jp al 6)) (a5 26 1 7 mL C (ai (dJ 1) (bM p2 7) (fN gQ) (fq p4 2 2) (iN al) (I p6 bd) (I p7 (bn p4)) (bK p8) (P 25)) (ah 25 (aT 38 (m 2 2) al fo jm (eR gQ (eh p4) al 6)))))))) (A 45 mG kw (dr 273) (iR p1) (S' mV (an 2 4 p2 (P 5))) og))
def Tryz.apG:=fB 36 [.tmp 2]<|iA 2 (ea 3 ad 9 p9 bd dH jb (ae 23 3 (au 274 lY) jx (dd 25 0 bd dH (bL 2 28 p1 p2 E' 28 2 3 (h2 29 8 (bI 31 6 i0 (fA 2 16 p2 6))) (ft 34 p7 1 27)) (ey 35 6 2))))
def Tryz.apH:=fB 24 [.tmp 4]<|iU 4 (N (ag 5 p5 bd (ak (eE 2)) (i1 7 4)) (iQ 8 p8 (gW 6 0) bT E' (em (fk 13 p2 65 12 12 (dX 14 1 q 127 4 og) (fk 17 p6 66 16 16 (dX 18 1 q 126 4 og) (ge 21 q 11 64780 20 20 (dX 22 1 q 123 4 og)))))) (a0 4 ab))
def Tryz.apI:=fB 74 [.tmp 4]<|dp 2 p2 (B 4 kH) (eM 11 1 3 2 bd (k (m 4 2) al bd (m 5 2) (a al bd (S' (F [ad,ad,ad,ad] [(0,1,.t 11),(1,1,lo),(2,1,l0),(3,1,lp)]) (fV 5 [ad,ad,ad,ad] 4 5)))) (ao 22 (GQ Ol) 6 (N (b9 23 6 2 bd fa E' (gi 0 27 27 0 1 (ag 28 p2 (gr 3 p3) (S' (e5 3) (bo 8 [aL,ad,ad] (f 7 p3 (an 3 8 p1 E')))) (nH (eM 31 6 0 8 (aF cY) (ai ko C (ht (m 2 8)) ha (eY (gx 8)) iC (hq (dk 4 1 5 p1)) lZ (bO (u p7 (d0 p5)) (bH p8))) (i1 44 4)) (bb 45 6 (i3 8) al jm (S' jI (N' fP E'))))) 50 26 26)) (eK 51 7 2 (dc (-1)) (br 53 4 b1)) (A 55 mG (m 7 2) al (dY 212) (ih 54 p5 0 p6 1 (dq 9 j4 2 9 p2 (P 10))) (g9 61 10 C (gu 0 9) fd (ai (fN bd) (h3 hQ) lc C (gu 1 9) fd (fN bd) (h3 hQ) (aa lc 4)))))))
def Tryz.apJ:=fB 58 [.tmp 4]<|dp 2 p2 (B 4 kH) (N (A 11 (pG 8 p9) al bd fa E' (gi 0 15 15 0 1 (iz 16 2 p2 2 6 j4 2 6 (f2 18 3 2 bd hQ (gl C (ht lV) ha (eY (fu 214 127)) (fJ eI) l9) (i1 27 4) (b9 28 1 6 bd fa E' (bL 2 32 p1 p2 E' 32 2 3 (h2 33 8 (ae 35 8 fo (ak mL) (i1 37 4))) (ft 38 p7 1 31))))) 39 14 14)) (b9 40 10 2 bd fa E' (gi 4 44 44 4 5 (iz 45 2 p2 2 10 j4 2 10 (b9 47 4 2 bd hQ (gl C (ht (i3 10)) ha (eY (fu 214 127)) (fJ eI) l9) (i1 56 4))) 57 43 43)) (a0 4 b1))
def Tryz.apK:=fB 36 [.tmp 2]<|iA 2 (ea 3 ad 9 p9 bd dH jb (ae 23 3 (au 275 lY) jx (dd 25 0 bd dH (bL 2 28 p1 p2 E' 28 2 3 (h2 29 8 (bI 31 6 i0 (fA 1 8 p2 6))) (ft 34 p7 1 27)) (ey 35 6 2))))
def Tryz.apL:=fB 47 []<|ip 5 p3 (ba 6 b1 (iQ 7 p7 s kG (bO bd ko) (ah 12 (ie 13 0 mv s lH C jJ (dy mv) (k (fN s) (h3 lG) (iN al) (I p6 eI) (aa (bK p7) 6))))) (ie 26 0 eW s kG fo eW s (ai k7 al bd (i3 5) al mk al kw (k (F jT [(0,1,jC),(1,1,kX),(2,1,kY),(3,1,.t 40),(5,1,gn)]) (aS 1 6 jT [(0,kt)]) (eA 6 72 30 43) (dx 26) (g8 kG 46 44)))))
def Tryz.apM:=fB 14 [.tmp 2]<|aE 2 b6 (fR 3 p3 s kG al (k eH s kG al (eR bd ff (di 6 p7) 2)))
def Tryz.apN:=fB 148 []<|ip 3 p2 (eK 13 0 3 (fW (aH 88) 12 la) (nH (eK 18 2 4 E' (ah 19 (W 20 0 (aQ 6 3) (aQ 5 4) (ed 276) E' (eM 24 0 3 4 (dY 277) E' (eM 28 0 4 4 (dY 278) E' og))))) (eK 32 0 3 E' (em (dG (fE 38 p5 2 37 37 (fE 39 p6 3 37 37 (e1 40 q p7 4 37))) 37 (nH (eK 41 0 3 (dc 4) (ah 43 (bI 44 0 k6 E'))) (eM 46 0 1 3 (dY 280) (fV 6 j4 2 6) (eM 50 0 0 6 (dY 277) E' (eM 54 0 0 3 (aQ 2 6) (ak (dN 218 p4)) (iY 59 lV al 278 E'))))) (dG (aI 64 q 33 5 63 63 wg (bg 65 q 33 11 63)) 63 (iY 66 mp al 281 E') (hn 71 33 26 70 70 (bI 72 0 (fu 279 0) E') 75 33 27 74 74 (d7 76 k6 E' (d7 78 (fu 279 0) ly (fK 80 0 0 7 (dr 279) (hH j3 278)))) 87 33 16 86 86 (aV 89 0 s 0 (e5 11) (a ik al (it 212 [.t 92,.t 94] 88 (aA p8 0 p9 1 (bo 8 j4 (bq 2 8 96 (P 9)))))) (d7 98 kh (fx 282) (eM 101 0 0 8 (dY 277) E' (iY 105 (gx 8) al 278 E')))) 110 33 17 109 109 (aV 112 0 s 0 (e5 11) (a ik al (it 273 [.t 115,.t 117] 111 (aA p8 0 p9 1 (bo 10 j4 (bq 2 10 119 (P 11)))))) (e6 121 11 C jJ (ai (dy s) (fN bT) (h3 jz) (iN al) (I p6 bd) (I p7 ko) (bK p8) C (k (gu 2 3) fd (fN hQ) f8 (aN 282 (q' 121)))) (d7 138 k6 E' (eM 140 0 0 10 (dY 277) E' (iY 144 (gx 10) al 278 E'))))) (iq 34 0 (aQ 6 3) 283))))))))
def Tryz.aeg:=fB 8 [.tmp 2]<|gO 2 bD 3 p3 j7 E' 4 bD (M 5 (aS 0 6 jg []) dj (fA 6 64 p2 2) og)
def Tryz.apO:=fB 17 [.tmp 4,.tmp 5]<|gA 4 iE iE (av 7 p7 bX bc bX (aa (ds p3) 6) (fR 12 p6 ma gI bW (hI gI 4 p3 5)))
def Tryz.apP:=fB 51 [.tmp 4,.tmp 5]<|gA 4 d1 d1 (d7 14 eP jx (d7 16 ma ly (ae 18 1 eP (P 8) (ae 20 1 ma (P 9) (ae 22 6 i0 (aa iD 10) (a5 25 7 8 iD h5 (da ma kf 11) (ae 31 11 eP (P 12) (ae 33 11 ma (P 13) (a5 35 12 6 kh iD (aa (bm p4) 12) (a5 40 7 9 iD lL (k f6 jP ma kf ky) (fb 48 0 1 iD 5)))))))))))
def Tryz.apQ:=fB 20 [.tmp 2]<|eT 2 (gP 6 p6 bd 3 (nH (ag 8 p8 bd dH (bL 0 11 p1 p2 E' 11 0 1 (h2 12 5 (gk 14 p9 (bN 123) E' 15 (fU 16 3 1 3))) (ft 18 p8 1 10))) (ey 19 3 2)))
def Tryz.apR:=fB 120 [.tmp 10,.tmp 11]<|M 7 (xW p5) (xW p5) (f 10 lY (bV 11 0)) (dd 21 0 gK E' (eN 22 10 bD 2) (b9 24 0 8 jG (dr 90) (fv 23 p5 0 p6 1 12 13) (N (b9 30 1 8 bd fa E' (gi 0 34 34 0 1 (h2 35 15 (fL 37 15 (eE 127) C 15 (gl (iK 126) dE C (dJ 15) (iK 123) dE) (ah 46 (gR 13 j1)))) 47 33 33)) (eu 48 13 aX 0 49 (gv 10 50 13 (l bD) (d 50))) (nH (eU 51 1 (bO bd (be 1024)) (eN 56 10 bD 29)) (b9 58 0 8 jP (dr 301) (fv 57 p5 0 p6 1 16 17) (e6 64 0 s g6 (ai al fo (d 16) (F [ad,bD] [(0,1,mF),(1,1,.t 70)]) (aS 1 2 [ad,bD] [(0,.t 71)]) (a1 2 32 p5) (dx 64) g6 jj) (f2 76 0 7 kB C jy (g0 83 84 s (hh 2 (Dr iE)) (hc 87 16 bd (ak ko) 89 (de 90 0 16 jK al (hw gI p5 2 p3)) (iJ 10 bD (b 28)))) (ba 18 bD (b9 97 1 8 bd fa E' (gi 2 101 101 2 3 (h2 102 20 (a5 104 18 0 (d 20) (dr 302) (da i9 (hv 8 p5) 18) (eu 110 20 q 123 111 (fK 112 18 0 20 (dr 302) (da i9 (hv 8 p5) 18))))) 118 100 100)) (gv 10 119 18 (d 119) fa)))))))))
def Tryz.aih:=fB 18 []<|av 4 p3 e3 s jp (gl al (g1 p5) C gH (dK (aH 303)) dS) (ah 13 (de 14 0 1 (uu p2) jp jj))
def Tryz.aii:=fB 29 [.tmp 6]<|iU 6 (iQ 8 p8 s jz (aa bd 7) (nH (W 13 1 eH mS C (k (dw 7) (bx p2 1) (eY gQ) (bx p4 2) (a (hq f6) (u p6 (dm 1048576)) (f0 p7))) (ah 23 (ia 24 (iI 40) (a0 6 ab)))) (a0 6 b1)))
def Tryz.apU:=fB 31 [.tmp 2]<|hE 2 (iQ 4 p4 s jz (ai bc s jz al bd ff (eh p7) al (P 3)) (e6 16 0 s jz (ai al eW s jz al bd ff (iV 1 p7) (a (dx 16) jz (gX 29 27))) (ey 30 3 2)))
def Tryz.aij:=fB 77 []<|iQ 7 p7 s bT (ai s bT al s bT g6 al fo (aa lk 4)) (nH (e6 20 4 s jp (ai al jG s jz al (am 232 [lp,jR,kr]) eI C (en gH (aF (fe jC false 303 [ks])) (eY eI) lA)) (ah 35 og)) (hL 36 3 (k bd jG s jp (da al (bZ p5) 5)) 46 3 (eR kg jr (aH 67) 6) (e6 53 0 s jz (ai al kg (iV 1 p2) eW s bT al fo (a kw (am 73 [.t 63,.t 64,.t 65]) (fF 57 56 (Q' p8 (gD 1 (q' 57) p9) (a (eA 1 8 59 66) (dx 53) (g8 jz 69 67)))))) (ho 70 s jp al m3))))
def Tryz.aik:=fB 102 []<|iQ 7 p7 s bT (ai s bT al s bT bT al fo (a (fX 2) lj (fV 4 j4 2 4))) (nH (eM 21 0 0 4 bd (gl (bm (Y 1)) (gx 4) al bd (b7 232 p8 p4) eI) (ah 30 og)) (ia 32 (iv s bT al s 2 eW (am 233 [kt]) (ec p9 34 (ee p6 p7 (ee p3 p4 (a gI (am 304 [gn,l5]) (fv 31 (q' 31) 0 (q' 31) 1 5 6)))))) (em (ae 52 6 eI (P 51) (p 51 (ho 54 s bT al (iI 24)) (a5 60 5 0 s bT (ai al s bT al s bT g6 al (da bd (d0 (q' 60)) 59)) (p 59 (ho 74 s bT al (iI 40)) (ia 80 (ai s bT al s bT g6 al kg (k lk g6 al fo (aa (w aX p2) 79))) (p 79 (ho 97 s bT al (iI 25)) (iq 48 0 kg 234))))))))))
def Tryz.ail:=fB 189 []<|ip 3 p2 (em (iO 39 0 3 257 38 (p 38 (nH (ia 42 (en s g6 al hQ) (ah 49 (ia 50 (iI 27) og))) (hW 55 0 s bT s g6 al ff (fn p5 g6 jj))) (iO 66 0 3 256 65 (p 65 (eM 69 0 1 3 lI (gl al fg (bm p4) ik al (b7 232 p9 p3)) (ah 78 (eU 79 3 (k bd ik al (bZ p3) ky) (ie 87 0 eW s jz jG lI al (dv fg (bZ p4) 4 (am 305 [.t 91,.t 96,.t 97]) (a (dx 87) jz (gX 100 98))))))) (iO 102 0 3 26 101 (p 101 (iu 105 p1 1 0 E' 106 (bI 107 0 k8 E')) (iO 110 0 3 27 109 (p 109 (iu 113 p1 3 1 E' 114 (W 115 0 k8 eW k8 (a eW k8 (f 5 p5 (dt 6 p3 7))) (hc 121 5 gI (ak (fC q 0)) 123 (aP 124 kw 7) (de 125 0 7 i9 (dY 306) E')))) (iO 130 0 3 66 129 (p 129 (iu 133 p1 0 1 E' 134 (ho 135 lI al i9 (g4 306))) (b9 141 0 3 (be 32) C (k lS fd (fN (bU 36)) f8 (P 140)) (p 140 (iq 149 0 (aQ 3 3) 307) (b9 153 0 3 (be 40) C (k lS fd (fN (bU 64)) f8 (P 152)) (p 152 (iq 161 0 (aQ 3 3) 308) (b9 165 0 3 (aH 11) (bN 1) (P 164) (p 164 (iu 169 p1 1 1 E' 170 (b9 172 0 3 eW (am 233 [.t 174]) (ee p3 p4 (it 13 [.t 173,.t 175] 171 (fr p6 0 p7 1 8 9))) (ia 179 (bO kh (dr 133)) (de 185 0 8 i9 (dY 306) E')))) (iu 14 p1 2 1 E' 15 (W 16 0 k8 eW k8 (dt 10 p3 11) (b9 21 0 3 hT h5 (fW (ed 12) 20 (fr p6 0 p7 1 12 13)) (ia 28 (bO lL (dr 133)) (de 34 0 12 i9 (dY 306) E'))))))))))))))))))))))
def Tryz.apV:=fB 28 [.tmp 2]<|iU 2 (ag 6 p6 (aH 309) (fv 5 p3 0 p4 1 3 4) (fR 10 p7 ix C gH (ai (ej 15) dS C gH (ej 16) dS C gH (k (ej 17) dS C gH (da (ej 256) dS 2)))))
def Tryz.apW:=fB 25 [.tmp 2]<|eT 2 (ba 3 ad (hK 4 0 (A 5 C dj bd hJ E' (i2 8)) 1 (nH (W 11 0 bc fI al (bO (aH 139) hQ) (f4 16 mw)) (fK 17 3 0 4 fI (eR al (aH 139) (bm p6) 3))) (bf 9 e3 jI ky)) (ey 24 3 2))
def Tryz.apX:=fB 114 [.tmp 10,.tmp 11]<|M 7 (xW p5) (xW p5) (f 10 lY (bV 11 0)) (N (d7 19 gK E' (eN 20 10 bD 2)) (b9 21 0 8 (aH 238) jG (ai bd kl C (iM 8) ha (eY (aH 238)) (fJ hz) l9 E') (eN 32 10 bD 1)) (nH (eU 33 2 (bO bd (be 1024)) (eN 38 10 bD 29)) (b9 40 0 8 jG (dr 310) (fv 39 p5 0 p6 1 12 13) (b9 47 0 8 jP (dr 311) (fv 46 p5 0 p6 1 14 15) (e6 53 0 s jp (ai al fo (d 14) (F [ad,bD] [(0,1,.t 58),(1,1,.t 59)]) (aS 1 2 [ad,bD] [(0,.t 60)]) (a1 2 32 p5) (dx 53) jp jj) (f2 65 0 7 kB C jy (g0 72 73 s (hh 3 (Dr iE)) (hc 76 14 bd (ak ko) 78 (de 79 0 14 jK al (hw gI p5 3 p3)) (iJ 10 bD (b 28)))) (ba 16 bD (hK 17 0 (eM 86 17 1 8 bd (ak (bn p4)) (i2 90)) 1 (hK 18 2 (eM 93 18 1 8 (d 17) (en fI al (aH 139) (bn p7)) (a6 100 2)) 3 (hW 103 16 eW (gx 8) (d 17) fI al (au 312 p6) (da i9 (hv 8 p9) 16)) (fU 101 18 1 18)) (fU 91 17 1 17)) (gv 10 113 16 (d 113) fa))))))))
def Tryz.apY:=fB 110 [.tmp 6,.tmp 7]<|e 5 (gC 3 p5 (a fj fa dH)) (nH (eF 10 (dl p5) E' (em (fk 13 p2 15 12 12 (b9 14 1 3 fo lk (a jz al jh) og) (h1 21 11 16 20 20 (f2 22 1 5 hz C (k (iM 5) ha (eY ik) iC lJ) (eO 32 6 ad ad) (b9 33 1 3 mk al (ai (di 7 p3) jp al ik al mk al (di 7 p3) (a jz al (dt 6 p8 7))) og)) 48 11 17 47 47 (f2 49 1 5 hz C (k (iM 5) ha (eY mp) iC lJ) (eO 59 6 ad ad) (b9 60 0 3 mk al (ai (di 2 p3) bT al bd jI mp al mk (k al (di 2 p3) g6 al (hI bd 6 p9 7))) og)) (ge 78 q 11 256 77 77 (f2 79 1 5 hz C (ai (iM 5) ha (eY (dm 1048576)) lA C (ht (m 2 5)) ha (eY (bE qy 1048576)) (f0 p4)) (eO 91 6 ad ad) (b9 92 1 5 (m 2 5) al (k fg (bm p4) mk al (dt 6 p3 7)) og))))))) (eK 101 0 5 (fW (aH 309) 100 (fr p4 0 p5 1 8 9)) (hb 106 8 r7 0 107 (iJ 6 ad ad) (dO 108 8 9 (ig 6 7)))))
def Tryz.ap0:=fB 18 [.tmp 2]<|ba 2 ab (iQ 3 p3 s lH (ak (be 262144)) (ah 7 (ag 8 p8 s (iX 7 41) (a0 2 ab)))) (eU 11 5 (hw jI p5 5 p3) (a0 2 b1))
def Tryz.ap1:=fB 48 []<|nH (gk 8 p8 (aH 241) (ak eI) 10 og) (eb 11 1 0 (iv bd eW s bT 1 gd lk (eR jp al (bZ (q' 15)) 6)) (iA 7 (a5 26 7 1 s bT (k al kw jr (hv 8 p7) ly) (ie 34 1 fo s bT kw (iV 1 p2) eW (a gd jm (f3 76 [gn,kt,ls] p7 p8 (Q' p5 (gD 1 p7 p6) (a (eA 1 8 40 44) (dx 34) (g8 bT 47 45)))))))))
def Tryz.ap2:=fB 35 [.tmp 4,.tmp 5]<|gA 4 ad ab (gp 6 p6 gK C (ht bc) (eD (dK fg) k4 (fJ s) (hq k7) lZ lC (u p8 (d0 p6)) mH C gH mP (eY k7) iC (bx p5 1) (u p6 fI) (u p7 al) (bO (u p8 (bN (-1))) mH)) (eO 27 4 ad ab) (eU 28 12 (a fo fI (fW al 4 (B 5 gT))) og))
def Tryz.ap3:=fB 207 []<|ip 7 p5 (eF 12 (dl p5) E' (em (fk 20 p7 26 19 19 og (fk 22 p9 27 21 21 (ae 23 4 (bE aX 0) E' (p 24 (ie 25 1 fo s bT iS jK al (k i9 (eA 1 8 29 33) (dx 25) bT (gX 36 34))) (ie 37 1 fo s bT iS (gh 1) al (k i9 (eA 1 8 41 45) (dx 37) bT (gX 48 46))))) (hn 50 13 32 49 49 (ie 51 1 fo s bT fo s g6 (ai al (gx 7) al kx al i9 (eA 1 8 55 64) (dx 51) (g8 bT 67 65))) 69 13 33 68 68 (hW 70 1 s g6 (gx 7) al iS jK (a al (aU p6 p4) (gX 79 78))) 81 13 34 80 80 (eb 82 1 1 (dv (gx 7) al 3 jK (a al (aU p6 p4) (gX 91 90))) (ie 92 1 fo s bT iS jK al (k i9 (eA 1 8 96 100) (dx 92) bT (gX 103 101)))) 105 13 35 104 104 (eU 107 2 (a (gx 7) al (it 27 [.t 110,.t 112] 106 (fr p8 0 p9 1 10 11))) (ie 116 1 fo s bT h5 i9 lU (fn p8 bT jj))) (hn 127 13 36 126 126 (hW 128 0 s jp (gx 7) al iS jK (bO al (am 313 [.t 131,.t 133,.t 136]))) 139 13 63 138 138 (ie 140 1 fo s bT eW s jp (k al s (j 11) al (dQ 80 [.t 151] (ec p9 143 (k bX i9 (eA 1 8 144 154) (dx 140) (g8 bT 157 155)))))) 159 13 64 158 158 (ie 160 1 fo s bT eW s jp (k al s (j 11) al (a jG gI (dQ 314 [.t 171,.t 173] (fF 164 163 (k bX i9 (eA 1 8 164 176) (dx 160) (g8 bT 179 177))))))) 181 13 66 180 180 (ie 182 1 fo s bT (m 2 7) al i9 (ef (eA 1 8 186 189) p9 (g8 bT 192 190))) (aI 194 q 13 256 193 193 (ie 195 1 fo s bT iS (m 2 7) al (k (eC 1 p3 p1 M4) (eA 1 8 199 203) (dx 195) bT (gX 206 204))) (de 14 0 1 (H 3 p9) iS (ak (g5 315 p4 p3 p2))))))))))
def Tryz.aim:=fB 29 [.tmp 2]<|iU 2 (ag 7 p7 (aH 142) kV (fR 12 p7 C gH (ej 15) (ai dS C gH (ej 16) dS C gH (ej 17) (k dS C gH (ej 256) (aa dS 2)))))
def Tryz.ain:=fB 11 [.tmp 2]<|ba 2 ad (gV 3 m4 (nH (fE 5 p2 8 4 4 (fE 6 p3 16 4 4 (fE 7 p4 32 4 4 (e1 8 q p5 64 4)))) (ah 4 (gP 9 p9 (gG (Y 128)) 2 og)))) kz
def Tryz.aio:=fB 21 [.tmp 6]<|dp 3 p3 (bV 6 0) (nH (ag 7 p6 jV mQ (br 9 6 ad)) (A 10 (H 16 p7) fo gd lO (k fg fo k2 (dP p3) (eR fo k2 ki 6)) og))
def Tryz.ap4:=fB 24 [.tmp 2,.tmp 3]<|gA 2 ad ab (nH (ag 4 p4 (a3 64768) E' (em (dG (fE 7 p2 21 6 6 (e1 8 q p3 22 6)) 6 (iJ 2 (b 8) ab) (fk 10 p5 23 9 9 (iJ 2 (b 8) b1) (dG (fE 12 p7 24 11 11 (e1 13 q p8 25 11)) 11 (iJ 2 (b 16) ab) (hn 15 5 26 14 14 (iJ 2 (b 16) b1) 17 5 27 16 16 (iJ 2 (b 32) ab) 19 5 28 18 18 (iJ 2 (b 32) b1) 21 5 29 20 20 (iJ 2 (b 64) ab) (ao 23 (aw q 5 30) 22 (eO 22 2 (b 64) b1)))))))) (iJ 2 ad ab))
def Tryz.aip:=fB 38 [.cell 8 16 true]<|dp 4 p4 (bo 8 i4 E') (N (av 10 p8 hz C (dw 2) kL (ah 17 (d8 18 jO 16 8 p1 E'))) (aZ 19 1 vM 8 dH (hm 0 22 22 0 1 23 9 (bC 24 2 fo (gN 8) (ds p3) kh f6 iS kh (k mC ki hM (hy 1 4 p6) ij)) 36 21 21)) (d8 37 jO 16 8 p1 E'))
def Tryz.aiq:=fB 68 [.tmp 2,.tmp 3]<|iL 2 ad (ag 7 p7 (a3 64768) (aa (a3 96) 4) (gp 10 p6 hz C mb (bO (dK (be 128)) dS) (eO 15 2 ad ad) (W 16 4 (gN 32) (ir 8) jG (hI (hj 32) 5 p3 4) (iU 6 (N (em (dG (fH 22 4 ui 1 21 21 (gB 24 4 11 C 4 (iW 14 21) (eB 21 (dR 30 4 (bN 17) 21)))) 21 (gR 6 b1) (dX 33 4 q 2 32 (p 32 (dR 35 5 (bN 8) 6) (dG (fH 38 4 q 15 37 37 (fH 40 4 q 16 37 37 (fH 42 4 q 18 37 37 (fH 44 4 q 19 37 37 (dR 46 4 (bN 27) 37))))) 37 (dR 48 5 (bU 16) 6) (dX 51 4 q 21 50 (p 50 (dR 53 5 (dm 8) 6) (gB 56 4 22 C 4 (iW 25 55) (ah 55 (dR 62 5 (bU 32) 6)))))))))) (ae 64 6 eI E' (eO 65 2 ad ad)) (dO 66 5 4 (ig 2 3)))))))
def Tryz.ap5:=fB 27 [.tmp 4,.tmp 5]<|iL 4 ad (nH (eT 8 (bG 0 9 (bs 3) E' 9 0 1 (gY 10 6 (e6 11 1 gQ bc (da (gs 32) (bZ p3) 7) (gB 17 7 0 C 7 (bO (dy (bs 4)) dE) (ah 22 (bJ 23 6 (ir 8) (hI jm 4 p2 5)))))) (bp 26 8 1 8))) (iJ 4 ad ad))
def Tryz.ap6:=fB 27 [.tmp 8]<|dp 4 p4 (B 8 (Dr d1)) (av 9 p6 bc (hj 2) fo (eR lE (ds p3) (bm p6) 3) (hb 16 2 r7 2 17 (A 18 jO fo iS (ed 247) (aa bX 8) og) (A 23 jO fo iS lO (P 8) og)))
def Tryz.air:=fB 101 [.tmp 12]<|hE 12 (W 15 0 ff (ir (-1)) eW (a ff (ir 1) (hI ff 13 p5 14)) (nH (gV 22 fo (fk 24 p2 14 23 23 (fb 25 2 3 f6 12) (fk 29 p7 15 28 28 (dV 30 4 5 f6 lL kq) (hn 39 22 16 38 38 (dV 40 2 3 f6 eW (eR jB (bE r6 1) (zM p4 p1) 12)) 48 22 17 47 47 (fb 49 2 3 gQ 12) 53 22 18 52 52 (dV 54 4 5 gQ lL kq) 63 22 19 62 62 (dV 64 2 2 iS lX (aa (bZ p4) 12)) (hn 70 22 21 69 69 (fb 71 2 3 iD 12) 75 22 22 74 74 (dV 76 4 5 lX bX (P 12)) 81 22 23 80 80 (fb 82 2 3 lX 12) 86 22 24 85 85 (dV 87 4 5 (Fi p2 p1) bX (P 12)) (ge 92 q 22 25 91 91 (fb 93 2 3 (Fi p2 p1) 12))))))) (dV 96 2 3 f6 (bE tD 1) (aa (bE vM 2) 12))))
def Tryz.ais:=fB 30 [.tmp 2,.tmp 3]<|iL 2 ad (gP 5 p5 (a3 64768) 4 (N (av 7 p3 (be 35) C (I p1 dj) (bO (d3 64) dE) (ah 12 (fR 13 p9 (a3 35) (gN 10) (ir 8) (a jG (a3 35) (hI (hj 10) 2 p4 3))))) (gB 20 4 214 C 4 (bO (d3 219) dE) (ah 25 (A 26 jq jG (a3 214) (hS 6 1 p3 p1) (dt 2 iH 3) og))) (iJ 2 ad mw)))
def Tryz.ait:=fB 62 [.tmp 6]<|iU 6 (av 9 p8 bX bW bX (dt 7 p3 8) (nH (gV 13 eW (fk 15 p2 0 14 14 (fb 16 1 2 mz 6) (fk 20 p7 1 19 19 (fb 21 1 2 (w aX p2) 6) (hn 25 13 2 24 24 (fb 26 1 2 jU 6) 30 13 3 29 29 (fb 31 7 8 jU 6) 35 13 4 34 34 (fb 36 1 2 mS 6) 40 13 5 39 39 (fb 41 7 8 mS 6) (h1 45 13 6 44 44 (fb 46 1 2 iF 6) 50 13 7 49 49 (fb 51 7 8 iF 6) (ge 55 q 13 8 54 54 (fb 56 1 2 mL 6))))))) (fb 59 7 8 mL 6)))
def Tryz.ap7:=fB 65 [.cell 6 16 true]<|M 4 fj fj (ak kb) (ba 7 (b 8) (eu 12 0 qy 102 13 (gR 7 (b 16))) (av 14 p7 ff (ir (-1)) jm (a ff (ir 1) (hI ff 8 p5 9)) (nH (b2 21 0 ra 32 (dc 6) 23 (bI 24 7 (ir 1) (hI ff 8 (Y 0) 9))) (iy 10 i4 (dd 27 7 lE dH (hm 0 30 30 0 1 31 11 (A 32 (bY 10) jm hT jO (a jm mZ (S' hT (hf 40 i0 42 9 (dQ 247 [h4,lr,kY] (g7 p8 10 (aC 41 (Fi p1 (q' 40)) 43 (zM (q' 41) (q' 42)) (aC 44 (a7 (q' 43)) 45 (am 249 [ks,kI,jS,l5]) (dI 16 10 45)))))))) (a8 46 (bY 10) jm jm lE hT f6 li jm (a mZ hT (hf 57 i0 59 9 (dQ 247 [lw,mD,mE] (g7 (q' 46) 10 (aC 58 (Fi p1 (q' 57)) 60 (zM (q' 58) (q' 59)) (aC 61 (a7 (q' 60)) 62 (am 249 [l6,.t 47,mB,.t 61]) (dI 16 10 62))))))))) 63 29 29) (d8 64 (bY 10) 16 6 p1 E'))))))
def Tryz.ap8:=fB 13 []<|a8 4 fw e3 s bT al bc (a1 3 24 p2) g3 jD
def Tryz.ap9:=fB 59 []<|aV 10 0 s 0 fo (dz j3 170 p3) (em (fH 35 2 q 64 34 34 (aB 38 jG 37 37 (aV 39 0 s 0 gd (ai k2 gd iS iD (bZ p4) bX (a4 k1 134) (dN 161 p9) E') (bC 51 0 s bT gd k2 bX (a4 k1 135) (dN 161 p5) E')) (hb 16 3 qy 0 17 (bC 18 0 s bT gd iS iD bX kK (ak (dN 161 p6))) (ho 27 s bT gd (hZ (am 172 [im]) jf (dZ [iB,jC,ks])))))))
def Tryz.ap':=fB 31 []<|nH (gk 6 p5 (bs 64) E' 7 (aT 8 bc s bT fo (hZ (am 172 [.t 11]) jf (dZ [.t 10,lN,jZ])))) (eu 15 2 qy 0 16 (aV 17 0 s 0 fo (k gd iD bX (a4 k1 134) (ak (dN 161 p6))) (ho 26 s bT (a4 k1 132) (fx 169))))
def Tryz.aqa:=fB 66 []<|iQ 6 p6 s bT (hF s 2 fo k1 [(0,lN),(1,jZ)] 170 p4) (ia 16 (en s bT (gz k1 [(0,kC),(1,io)]) lb) (e6 24 1 gd (ed 269) E' (hP 28 (hF s 1 gd k1 [(0,jS),(1,h4)] 170 p4) 38 (en s bT (gz k1 [(0,kC),(1,mN)]) et) (ia 46 (en s bT (gz k1 [(0,kC),(1,mN)]) lb) j8))))
def Tryz.aqb:=fB 48 []<|iQ 6 p6 s bT mT (hP 15 (iG s bT eW s 2 (a4 k1 132) [lp,jR,hX] E') 27 jw (hW 36 0 s bT s bT eW s (en jz al js (dZ [gn,lu,l6]))))
def Tryz.aqc:=fB 29 [.tmp 2]<|iA 2 (ea 3 bD 6 p6 bd dH (gi 0 9 9 0 1 (h2 10 5 (nH (ap 2 (nH (ag 12 p7 (bE qz 128) E' (a6 13 2)) (yP 3 (a5 14 3 5 hM (bu HO (o 128)) lD (dR 20 5 (dF 7) 5))))) (de 22 3 5 hM j0 (fA 1 1 p4 3)))) 27 8 8) (ey 28 3 2))
def Tryz.aqd:=fB 169 [.tmp 2]<|ba 2 ab (ap 0 (nH (ag 7 p7 kQ (ak ko) (i2 9)) (yP 1 (d7 10 (hg 0) (P 3) (nH (gk 12 p9 km E' 13 (d7 14 (hi p1 1) (P 0) (nH (W 16 0 kQ (dm 8) C (k jJ (dy (aH 319)) (fN iT) (h3 jv) (ak lc)) (g0 24 25 (hi p1 8) (P 0) (e 33 (aC 27 eW 28 (Lu p6) (D' 29 (v qy p5 16) (f 30 p4 (D' 31 (bM p3 0) (a (bM p3 0) (h3 (hi p1 8)) (D' 32 (aF (fe im true 319 [jC])) (Q' p1 (iN (hi p2 8)) (k (aF (fe im true 319 [jS])) (I p6 (eX p4)) (I p7 iT) (I p8 jv) (ak (bK p9)))))))))) (g0 39 40 (hi p1 16) (P 0) (ap 2 (nH (e 55 (aC 42 eW 43 (Lu (q' 42)) (hf 44 (aw qy 43 32) 45 44 (aC 46 lh 48 lh (aC 49 (fS 45 (hi p7 8)) 52 lh (D' 53 (fS 45 (hi p3 16)) (a lh (fS 45 (hi p1 24)) (D' 47 (aF (fe lu true 319 [l6])) (Q' p8 (fS 45 (hi p9 8)) (Q' p4 (fS 45 (hi p5 16)) (Q' p1 lP (D' 50 (aF (fe lu true 319 [l7])) (Q' p4 (fS 45 (hi p5 16)) (Q' p1 lP (aC 51 (fS 45 (zL HO (q' 47) p7)) 54 (aF (fe lu true 319 [.t 53])) (Q' p1 lP (gl (aF (fe lu true 319 [kZ])) (fS 45 (eX p4)) (fS 45 (eX p8)) (fS 45 iT) (fS 45 jv) (bK (q' 45)))))))))))))))))) (a6 62 2)) (yP 3 (dR 63 0 (hi p1 32) 0)))))))) (Qm 1)))) (ae 65 3 (Bg 256 1 oX' p1) (aa al 4) (ae 68 4 (bu sV (o 7)) (aa fg 5) (W 71 4 (dF 4) (Bg 16 2 oX' p1) lj (fV 6 [aK,aK] 2 6) (gL 75 kg (yP 4 (fk 77 p2 2 76 76 (nH (W 78 0 kQ (bs 2) C (ai gH (dK (hg 1)) (eY lV) iC (hq hJ) kN C (iM 6) (k ha k4 (fJ (hg 1)) (hq hJ) (f0 p6))) (f4 94 ab)) (dR 95 0 (hi p1 2) 0)) (h1 98 75 3 97 97 (nH (W 99 0 kQ (bs 3) C (eD gH (dK (hg 1)) (eY lV) iC (hq hJ) kN C (iM 6) ha k4 (fJ (hg 1)) (hq hJ) kN C gH mM (k (eY km) lA C gH (a mM lM (f0 p4)))) (f4 125 ab)) (dR 126 0 (hi p1 3) 0)) 129 75 4 128 128 (nH (W 130 0 kQ (bs 4) C (eD gH (dK (hg 1)) (eY lV) iC (hq hJ) kN C (iM 6) ha k4 (fJ (hg 1)) (hq hJ) kN C gH mM (eD (eY km) lA C gH mM lM lA C gH (dK (hg 3)) (eY km) lA C gH (dK (hg 3)) lM (f0 p4))) (f4 166 ab)) (dR 167 0 (hi p1 4) 0)) (a0 2 ab))))))))))))) (a0 2 b1)
def Tryz.aqe:=fB 30 [.tmp 2,.tmp 3]<|iL 2 bD (nH (ag 9 p9 (aH 320) (ak eI) (eN 11 2 bD 1)) (ba 4 bD (d7 12 bd dH (gi 0 15 15 0 1 (iz 16 6 p2 6 6 jg 6 6 (M 19 (aQ 6 6) (aH 321) (fv 18 p3 0 p4 1 7 8) (dd 23 8 eI E' (eN 24 2 bD 1) (bI 25 4 jm (fA 1 1 p2 4))))) 28 14 14)) (gv 2 29 4 (d 29) fa)))
def Tryz.aqf:=fB 29 [.cell 4 2 true,.tmp 5]<|e 4 ms (gp 7 p6 hz C mb (k (dK (dl p9)) (eY al) (fJ bd) (hq (d0 p4)) (f0 p6)) (ah 15 (d8 16 jM 2 4 p1 (B 5 kH))) (b9 17 0 2 fo (fX 2) (S' lj (fV 6 j4 2 6)) (gq 25 (aC 22 lV 23 (h 1 p3) (a (gx 6) al (e8 24 70 [l4] (ee p1 p2 (a (am 70 [kW]) (F j4 [(0,1,jR),(1,1,lq)]) (bq 2 4 28 (B 5 gT))))))))))
def Tryz.aqg:=fB 27 [.tmp 4]<|iA 4 (N mW (av 8 p7 bW kS eW m8 (eu 15 1 qy 0 16 (bC 17 0 eW kS (iV 2 p3) fo (GQ (uk 2 16 [ad,ad] lp l3)) eW bd (aa (iV 2 p3) 0)))) (ey 26 0 4))
def Tryz.aqh:=fB 27 [.tmp 4]<|iA 4 (N mW (av 8 p7 bW kS eW m8 (eu 15 1 qy 0 16 (bC 17 0 eW kS (iV 1 p3) fo (GQ (uk 1 8 k1 lp l3)) eW bd (aa (iV 1 p3) 0)))) (ey 26 0 4))
def Tryz.aqi:=fB 68 []<|M 4 fj fj E' (eF 8 (dl p3) E' (em (dG (fE 11 p2 7 10 10 (fE 12 p3 8 10 10 (e1 13 q p4 14 10))) 10 (e6 14 0 s bT (ai lG al bd ko C (gu 1 4) fd (fq p3 1 5) (en kP (iN (fT p3)) ln (au 282 (q' 14)))) (bC 30 0 (i3 5) al (eE 8) C (ht (m 3 4)) ha (eY mk) (k iC (hq (e7 (f1 16))) (u p6 (bn p4)) (bH p7) (ak (am 282 [im,gn]))))) (aI 44 q 9 13 43 43 (ho 45 (gx 4) al mk (a al hJ (aN 282 p6))) (ge 53 q 9 12 52 52 (b9 54 3 4 (m 4 4) al (a (F [d1,d1] [(0,1,mE),(1,1,l8)]) (aH 94) dH) (bG 1 61 (bs 16) E' 61 1 2 (ao 62 (hS 16 1 p3 p2) 7 (de 63 0 7 (bu r7 (o 32)) (dY 282) E')) (ft 67 p7 1 60))))))))
def Tryz.aqj:=fB 18 []<|ag 5 p4 bd (aa ff 4) (fl 0 (ag 8 p4 ix E' (i2 9)) 1 (fK 12 0 1 4 fI (hH al 279)) (bf 10 dj ff ky))
def Tryz.aqk:=fB 13 []<|a8 4 fw e3 s k7 al bc kF g3 (hh 12 p3)
def Tryz.aql:=fB 69 [.tmp 4]<|eT 4 (gP 7 p7 mv 5 (gp 9 p9 s k7 al (gl bd bW s g6 al (w q p5)) (ah 18 (e6 19 5 s lG (hH al 282) (ey 25 1 4))) (eU 26 12 (ai eW s k7 al bd ff (eh p7) al jx) (e6 38 0 s k7 (ai al eW s k7 al bd ff (iV 1 p7) (a (dx 38) k7 (gX 51 49))) (e6 52 6 fo mz (ai C (dw 6) (ej 0) dS C jn (ej 0) dS (aN 282 (q' 52))) (hb 65 6 q 0 66 (ey 67 1 4) (ey 68 6 4)))))))
def Tryz.aqm:=fB 31 [.cell 4 2 true]<|iy 4 j4 (nH (em (gP 8 p7 ix 7 (p 7 (aV 11 0 s 0 (e5 11) (a fo (dr 273) (ih 10 p7 0 p8 1 (dq 5 j4 2 5 p2 jx))) (d7 19 kw (fx 282) (d8 22 (aQ 2 5) 2 4 p1 E'))) (b2 24 1 q (-64) (P 23) 23 (d8 26 jM 2 4 p1 E'))))) (g9 27 1 (b8 128) j3 (F j4 [(1,1,iB)]) (an 2 4 p1 E')))
def Tryz.aqn:=fB 80 []<|av 5 p5 mv s (e5 6) (bo 4 jT (fc 6 p5 p1)) (av 9 p9 (pG 3 p6) al (dY 277) E' (e6 13 0 s k7 (gl al bd (gx 4) al (w q p3) (am 282 [jZ,l3])) (e6 23 0 s kG (ai al eW s kG al bd ff (iV 6 p7) (a (dx 23) kG (gX 36 34))) (N (eU 37 14 E' (ah 40 (dV 41 0 0 s kG (k al (aQ 6 4) (aS 1 6 jT [(0,l6)]) (eA 6 72 45 47) (fn p8 kG (gX 50 48)))))) (eu 51 1 q 5 52 (eM 53 0 2 4 (m 3 4) (hZ al (F j4 [(0,1,mE),(1,1,l8)]) (b7 218 p6 (Y 5))) (eM 60 0 2 4 (dY 278) E' og))) (eM 64 0 0 4 (eE 4) (ai C (ht (m 2 4)) ha (eY (m 3 4)) iC (hq (dY 322)) kN (au 282 (q' 64)) E') (iY 76 (m 3 4) al 278 E'))))))
def Tryz.aqo:=fB 15 []<|a8 4 fw e3 s (j 14) al C mb (dK eI) (hw dS p9 14 p3)
def Tryz.aqp:=fB 89 []<|ip 3 p2 (eF 9 (dl p6) E' (em (fk 15 p5 0 14 14 (bI 16 0 (aH 323) E') (fk 19 p9 12 18 18 (e6 20 0 ik al (hH (dY 324) 277) (bI 26 0 (aH 323) E')) (h1 29 10 13 28 28 (d7 30 k6 E' (eM 32 0 1 3 (dY 324) ky (d7 36 jG (fx 277) (iq 39 0 jG 278)))) 43 10 14 42 42 (d7 44 k6 E' (eM 46 0 1 3 (dY 324) (P 5) (f2 50 5 3 bd fa E' (gi 1 54 54 1 2 (h2 55 7 (d7 57 jm (aa (dr 324) 8) (e6 60 8 bd kg (a bd (w q p3) (aN 282 p6)) (iq 67 0 i0 325)))) 70 53 53) (d7 71 kg (fx 277) (bI 74 0 (aH 323) E'))))) (aI 77 q 10 15 76 76 (e6 78 0 s kG (k al (gW 6 0) jz al (aN 277 p8)) (bI 87 0 (aH 323) E')) (iq 11 0 (H 6 p9) 326)))))))
def Tryz.aqq:=fB 54 [.tmp 4,.tmp 5]<|iL 4 bD (nH (W 10 0 bd fo bd (ak kl) (eN 14 4 bD 1)) (ba 6 bD (d7 15 bd dH (gi 0 18 18 0 1 (ag 19 p2 kc (hI al 7 p3 8) (a5 22 1 7 (fX 16) f9 (S' (aH 93) (fV 9 [d1,d1] 2 9)) (gL 27 i0 (yP 2 (fk 29 p2 127 28 28 (bb 30 6 (i3 9) al eP (da i9 (hv 8 p5) 6)) (h1 37 27 126 36 36 (bb 38 6 (i3 9) al i9 (fA 1 8 p4 6)) 44 27 123 43 43 (bb 45 6 (i3 9) al (gx 9) (eR al (gz [d1] [(0,.t 47),(1,l7)]) (hv 8 p6) 6)) (iJ 4 bD j1))))))) 52 17 17)) (gv 4 53 6 (d 53) fa)))
def Tryz.aqr:=fB 31 [.tmp 4]<|hE 4 (hE 5 (N (iQ 6 p6 s bT (bO bd ko) (ah 11 (ia 12 (da jK al 5) (ie 18 0 eW s bT (eC 1 p1 (Y 1) M4) (uu p6) bT jj)))) (eu 26 1 q 127 27 (dR 28 5 eP 5)) (ey 30 5 4)))
def Tryz.aqs:=fB 26 [.tmp 2]<|ba 2 ab (iQ 3 p3 s bT (en s jp al (bN 262144)) (ah 10 (ia 11 (iI 41) (a0 2 ab)))) (ia 16 (k s jp al jI (fn p5 jp jj)) (a0 2 b1))
def Tryz.aqt:=fB 39 [.tmp 4,.tmp 5]<|gA 4 ad ab (gp 6 p6 gK C (ht bc) (eD (dK bX) k4 (fJ s) (hq jz) (u p6 bT) (u p7 al) (u p8 bd) (u p9 bX) (iZ 8 (d0 p8)) (bH (q' 8)) C gH mP (eY jz) (fJ bT) (hq al) (k (bx p6 1) (u p7 fI) (u p8 al) (u p9 hz) (f0 (q' 20)))) (eO 30 4 ad ab) (aV 31 0 s 3 bT md og))
def Tryz.aqu:=fB 33 [.tmp 6]<|iA 6 (av 8 p8 bc bc eW (bO bd fP) (hc 14 1 gd (ak mz) 16 (ey 17 0 6) (d7 18 bd ly (e6 20 1 (iV 1 p2) eW (eR gd jr (eA 1 8 22 25) 0) (e6 27 0 bd jm (S' (b4 1 p4 (Qe p2) p1) (N' fP E')) (ey 32 0 6))))))
def Tryz.aqv:=fB 13 []<|a8 4 fw e3 s jz al bc kF g3 (hh 3 p3)
def Tryz.aiu:=fB 134 []<|ip 3 p2 (eF 8 (dl p5) E' (em (fk 11 p2 32 10 10 (iu 12 p1 0 1 E' 13 (ie 14 0 eW s lG ik al kx (hZ al i9 (am 306 [lo,l4])))) (h1 26 9 33 25 25 (iu 27 p1 1 0 E' 28 (hW 29 0 s lG ik al eW (am 233 [h4]) (ee p5 p6 (ee p3 p4 (g8 kc 37 36))))) 39 9 34 38 38 (iu 40 p1 1 1 E' 41 (hW 42 0 s lG ik al eW s (iv jz al eW s 3 bd ff (a (eh p7) al (g8 (aU (q' 45) (q' 47)) 60 59))))) (aI 62 q 9 35 61 61 (ia 64 (iv s bT al s 2 ik al (it 26 [.t 73,.t 75] 63 (fr (q' 63) 0 (q' 63) 1 4 5))) (ae 79 5 eI E' (p 80 (ho 81 s bT al (iI 40)) (iu 86 p1 0 1 E' 87 (de 88 0 4 i9 (dY 306) E'))))) (ge 93 q 9 36 92 92 (ia 95 (iv s bT al s 2 ik al (it 26 [.t 104,.t 106] 94 (fr (q' 94) 0 (q' 94) 1 6 7))) (ae 110 7 eI E' (p 111 (ho 112 s bT al (iI 40)) (iu 117 p1 1 0 E' 118 (hW 119 0 s bT s bT al s (k jp al ik al (a eW (am 233 [.t 131]) (fF 122 121 (ee p8 p9 (ee p5 p6 (ee p3 p4 (ak (am 352 [.t 128,.t 130,.t 132])))))))))))))))))))
def Tryz.aiv:=fB 99 []<|ip 3 p2 (iQ 8 p8 s bT (k s bT al s (eR jp al (aH 31) 4)) (em (ae 43 4 gK (P 42) (p 42 (ho 45 s bT al (iI 40)) (iO 51 0 3 63 50 (p 50 (iu 54 p1 0 1 E' 55 (de 56 0 4 (aH 79) bX (hH i9 306))) (iO 63 0 3 64 62 (p 62 (iu 66 p1 1 1 E' 67 (bC 68 0 jG eW k8 gI (au 353 p4) bX i9 (aN 306 p8))) (eK 78 0 3 (aa (be 54) 77) (p 77 (iu 81 p1 2 0 E' 82 (e9 83 233 (P 5) (hW 85 0 s bT jG mp al eW (aC 94 lI 95 (fY 94) (eg 96 5 (f3 233 [.t 92] p6 p7 (ee p3 p4 (fF 95 94 (e8 97 354 [.t 89,.t 91,.t 93,.t 95,.t 96] (ee p6 p7 (e8 98 133 [.t 88,.t 97] E'))))))))))) (iu 19 p1 1 1 E' 20 (eM 22 4 0 3 eW (aC 27 lI 28 (fY 27) (f3 233 [hX] p3 p4 (fF 28 27 (hf 29 (am 355 [mA,jR,kW,kr]) 21 29 (aC 30 (iR p6) 31 (gJ p6) (hf 6 (d 30) 7 31 E')))))) (ia 32 (bO jm (dr 133)) (de 38 0 6 i9 (dY 306) E'))))))))))))))
def Tryz.aqw:=fB 60 [.tmp 2,.tmp 3]<|iL 2 ad (A 6 (F ic [(0,1,fp),(1,1,fp),(2,1,fp)]) (F ic [(0,1,J 12),(1,1,fp),(2,1,fp)]) (F ic [(0,1,me),(1,1,f7),(2,1,fp)]) (F ic [(0,1,J 14),(1,1,f7),(2,1,fp)]) (eD (F ic [(0,1,J 26),(1,1,f7),(2,1,fp)]) (F ic [(0,1,J 27),(1,1,J 3),(2,1,f7)]) (F ic [(0,1,J 32),(1,1,fp),(2,1,f7)]) (F ic [(0,1,J 33),(1,1,f7),(2,1,fp)]) (F ic [(0,1,J 34),(1,1,f7),(2,1,f7)]) (F ic [(0,1,J 35),(1,1,fp),(2,1,f7)]) (F ic [(0,1,J 36),(1,1,f7),(2,1,fp)]) (F ic [(0,1,J 40),(1,1,f7),(2,1,f7)]) (F ic [(0,1,J 41),(1,1,f7),(2,1,f7)]) (F ic [(0,1,J 54),(1,1,kd),(2,1,fp)]) (F ic [(0,1,J 55),(1,1,kd),(2,1,fp)]) (F ic [(0,1,J 58),(1,1,kd),(2,1,fp)]) (F ic [(0,1,J 59),(1,1,kd),(2,1,fp)]) (F ic [(0,1,J 60),(1,1,kd),(2,1,fp)]) (F ic [(0,1,J 61),(1,1,kd),(2,1,fp)]) (F ic [(0,1,J 62),(1,1,kd),(2,1,fp)]) (k (F ic [(0,1,J 63),(1,1,fp),(2,1,f7)]) (F ic [(0,1,J 64),(1,1,f7),(2,1,f7)]) (F ic [(0,1,J 66),(1,1,fp),(2,1,f7)]) (F ic [(0,1,J 257),(1,1,fp),(2,1,fp)]) (S' (F i8 [(0,3,.t 6),(3,3,.t 7),(6,3,.t 8),(9,3,.t 9),(12,3,.t 10),(15,3,.t 11),(18,3,lN),(21,3,jZ),(24,3,lo),(27,3,.t 15),(30,3,.t 16),(33,3,l0),(36,3,l2),(39,3,.t 19),(42,3,lp),(45,3,l3),(48,3,mA),(51,3,l4),(54,3,jR),(57,3,hX),(60,3,kW),(63,3,lq),(66,3,kr),(69,3,iB)]) (fV 4 i8 72 4)))) (N (hK 5 0 (aZ 31 5 r7 24 E' (i2 32)) 1 (W 35 5 m7 (Bg 3 1 p1 (Y 0)) al (bO eW mz) (ah 40 (g9 41 5 m7 (Bg 3 1 p1 (Y 1)) al (k kg m7 (Bg 3 1 p1 (Y 2)) al (dt 2 p5 3))))) (fU 33 5 1 5)) (gB 49 0 44 C 0 (bO (d3 53) dE) (eN 54 2 j1 1)) (hc 55 0 (aH 356) (ak ko) 57 (bJ 58 0 (aH 356) (eJ 2 3 1)) (iJ 2 mw mw))))
def Tryz.aqx:=fB 63 [.tmp 4,.tmp 5]<|iL 4 bD (nH (W 10 0 (aH 238) fo bd (ak kl) (eN 14 4 bD 1)) (iA 6 (ba 7 ad (hK 8 0 (av 15 p7 eW bd hJ E' (i2 18)) 1 (t 21 j9 (fV 9 i4 16 9) (N (e6 22 8 fI al (dc 127) (p 26 (aT 27 (bY 9) fo jm fI (a al (am 130 [lq,J 32,fp,jC]) (dI 16 9 32))) (aT 33 (bY 9) fo jm fI (a al (am 130 [kI,J 64,fp,lr]) (dI 16 9 38))))) (e6 39 8 fI al (dc 123) (ah 43 (aT 44 (bY 9) fo jm jI (a kx al (dQ 130 [l5,J 64,f7,l7] (dI 16 9 50)))))) (W 51 6 (bY 9) (aS 1 16 i4 [(0,lw)]) (a1 16 16 p3) jx (fK 55 7 0 8 fI (eR al (aH 139) (bm p6) 7))))) (fU 19 8 1 8)) (gv 4 62 6 (d 62) fa))))
def Tryz.aqy:=fB 58 [.tmp 4,.tmp 5]<|iL 4 bD (gp 9 p9 bd fo bd (gl kl C gH (dK (aH 238)) (eY hz) lA) (eN 18 4 bD 1) (ba 6 bD (hK 7 0 (a5 19 7 0 bd hJ E' (i2 22)) 1 (a5 25 1 7 (fX 16) f9 (aa (he 78 p1 64 0) 8) (nH (e6 30 7 fI al (dc 127) (ah 34 (de 35 1 7 (fX 16) f9 (aa (he 78 p1 32 0) 8)))) (a5 40 6 8 i9 lU jx (e6 44 7 fI al (dc 123) (ah 48 (bC 49 6 fo jm (fX 16) f9 (he 78 p1 64 1) i9 (hv 8 p7) jx)))))) (fU 23 7 1 7)) (gv 4 57 6 (d 57) fa)))
def Tryz.aqz:=fB 31 [.tmp 4]<|hE 4 (hE 5 (N (gk 6 p6 (aH 357) (ak ko) 8 (iQ 9 p9 s bT (k eW s g6 al (da (eh p5) al 5)) (ho 19 s g6 al (hw jI p5 1 p3)))) (eu 26 1 q 127 27 (bJ 28 5 kn ky)) (ey 30 5 4)))
def Tryz.aqA:=fB 47 [.tmp 6]<|iU 6 (d7 11 fo (fW (dr 77) 10 (aA p4 0 p5 1 (fy p6 2 7 p3 (ig 8 9)))) (N (ag 17 p8 eI E' (i1 18 6)) (aV 19 0 s 0 lH (gl al jm (fX 3) bT al (bN 127)) (ah 28 (dR 29 2 kn 2))) (eU 31 13 (ai jm eW s kG al jm (fX 16) f9 (a i0 gd (dQ 130 [kt,J 64,ls,l5] (fF 34 33 (S' (xX 16 (q' 34) (q' 35)) (dI 16 46 45)))))) (a0 6 b1))))
def Tryz.aqB:=fB 57 [.tmp 4]<|aE 4 iE (aE 5 (b 16) (N (av 8 p8 (gE (DU true)) C jJ (ai (dy s) (fN g6) kP (iN (eE (-1))) ln C jJ (dy s) (en (fN g6) kP (iN (bs 16)) ln)) (ah 23 (ho 24 s g6 al (P 5)))) (W 28 0 gK C jn (k (dK fg) k4 (fJ (aH 80)) (hq kf) (a (bx p6 5) (u p7 mS) (f0 p8))) (br 38 4 mK)) (e9 39 80 jx (iA 7 (a5 41 7 0 s bT (da al (hv 1 p5) 7) (e6 47 7 fo fg (k mr (GQ (uk 1 1 [aK] (.t 48) mB)) (uu p6) bT jj) (bJ 55 6 gI ky)))))))
def Tryz.aqC:=fB 105 []<|ip 6 p4 (hE 8 (N (A 9 (dl p3) al (be 54) C (en (I p1 (dl p7)) fd (fN (bU 62)) f8) (ah 16 (dV 17 0 0 s jp (ai al s (j 11) al iS jK al kn (k (m 2 6) al kf lV (S' al (aC 35 iS 36 (eQ (q' 35) 1) (D' 37 (fY 36) (dQ 359 [kI] (fF 21 20 (fF 24 23 (ee p8 p9 (ee p5 p6 (fF 37 36 (aC 38 (am 358 [jR,jC,jS,lr]) 39 (dx 17) (D' 40 (m 7 39) (gX 40 38))))))))))))))))) (eK 41 0 6 (ak (bU 53)) (p 43 (ie 45 0 eW s jp s (j 11) al (ai lV al iS jK al (m 2 6) al (am 360 [lw,mD,l8,.t 59]) (ih 44 (q' 44) 0 (q' 44) 1 (f 8 p2 (a (dx 45) (j 7) (gX 64 62)))))) (ae 65 3 bd (dc 1) (p 67 (ho 69 lV al iS (a jK al (it 361 [.t 71,.t 74] 68 (aA p8 0 p9 1 (f 8 p2 (fn p9 (j 7) (gX 79 77))))))) (bC 81 0 lV al iS jK al iS (gh 1) (a al (am 362 [.t 83,.t 86,.t 89]) (ih 80 (q' 80) 0 (q' 80) 1 (f 8 p2 (a (dx 81) (j 7) (gX 94 92)))))))))) (ie 95 1 fo s bT i0 i9 lU (fn p8 bT jj))))
def Tryz.aqD:=fB 59 [.tmp 2]<|ba 2 d1 (VK (oC ab) (fR 3 p3 (hg 0) bX dj (ai (hg 1) bX (hk 8) kj eW (hg 2) bX (hk 16) (k kj eW (hg 3) bX (da (hk 24) kj 2)))) wg) (g9 21 0 (hg 0) bX eW (eD (hg 1) bX (hk 8) kj eW (hg 2) bX (hk 16) kj eW (hg 3) bX (hk 24) kj eW (hg 4) (eD bX (hk 32) kj eW (hg 5) bX (hk 40) kj eW (hg 6) bX (hk 48) kj eW (hg 7) bX (da (hk 56) kj 2))))
def Tryz.aqE:=fB 59 [.tmp 2]<|iU 2 (ea 3 bD 7 p7 bd dH (gi 0 10 10 0 1 (ag 11 p2 (gr 6 p3) (S' (e5 6) (bo 5 jg (f 4 p3 (fc 6 p9 p1)))) (ae 14 3 bd jx (eK 16 0 5 E' (yP 2 (dG (fE 19 p2 2 18 18 (fE 20 p3 3 18 18 (e1 21 q p4 4 18))) 18 (nH (aZ 22 6 q 128 E' (f4 23 ab)) (bb 24 3 (i3 5) al j3 (fA 1 8 p4 3))) (aI 30 q 17 5 29 29 (nH (W 31 6 hQ C (dw 3) (gl (bx p2 6) (eY ff) (fJ kx) (hq al) (u p6 (eE 4)) (bH p7)) (f4 40 ab)) (de 41 3 6 ff kx (gg 1 (Y 5)))) (ge 46 q 17 11 45 45 (hb 47 6 q 0 48 (dV 49 4 0 bd ff (aa (w q p4) 2)) (de 54 3 6 ff (iV 1 p3) (P 3)))))))))) 58 9 9) (a0 2 ab))
def Tryz.aqF:=fB 185 [.tmp 2,.tmp 3]<|bv 1 dW bD k3 (eK 11 0 1 (fW (aH 88) 10 la) (nH (W 16 5 eI C (ht (aQ 6 1)) (k (dK (i3 4)) (eY al) (fJ (dY 363)) (hq eI) (f0 p6)) (eO 24 2 bD ab)) (b9 25 0 1 hM j0 jx (nH (eK 29 0 1 (ak (be 64768)) (ah 31 (a8 32 (wR [aK] (fG 253)) (i3 1) al (a3 64768) bX i9 (aH 270) (hv 1 p7) jx))) (b9 40 1 1 bX i9 (aa (aH 270) 7) (nH (eK 45 0 4 E' (em (fk 48 p2 1 47 47 (gv 2 49 6 (d 49) (l b1)) (fk 51 p5 2 50 50 (nH (yP 1 (nH (iO 53 1 1 (-64) 52 (eB 52 (iO 56 1 1 (-1) 52 (eB 52 (iO 59 1 1 (-2) 52 (eB 52 (bf 62 (gx 1) al (gt (-5) 52)))))))) (ah 52 (eM 65 6 1 1 (b8 128) (a hM j0 (fW (hv 1 p6) 2 (B 3 gT))) og)))) (bJ 72 6 (gx 1) (S' al (aC 78 (gx 1) 79 (fY 78) (a j3 (am 364 [.t 75]) (fF 79 78 (S' (eA 1 1 72 76) (fF 79 78 (e8 80 365 [.t 79] (ev 2 (eg 3 80 E'))))))))))) (dG (aI 82 q 46 3 81 81 wg (bg 83 q 46 5 81)) 81 (dO 84 6 7 (aC 87 (gx 1) 88 (fY 87) (S' (eA 1 1 84 85) (fF 88 87 (e8 89 365 [.t 88] (ev 2 (eg 3 89 E'))))))) (aI 91 q 46 4 90 90 (eM 92 6 5 1 bd (k bX i9 (aH 270) (hv 1 p7) jx) (f2 100 5 1 bd fa E' (gi 2 104 104 2 3 (h2 105 9 (a5 107 6 9 bX i9 (da (aH 270) (hv 1 p5) 6) (bb 113 5 C (dJ 9) (dy (aH 365)) (aa dE 5)))) 118 103 103) (dV 119 6 7 m2 kg (k C (gu 1 1) fd (fN (aH 365)) (hI f8 2 p7 3))))) (dG (aI 129 q 46 6 128 128 wg (bg 130 q 46 7 128)) 128 (gq 140 (hf 131 kw 132 7 (aC 134 (m 2 1) 135 (h 1 p6) (D' 136 (a7 p5) (a (gx 1) al (D' 133 (eA 1 1 131 132) (ee p7 p8 (ee p1 p2 (aC 137 (wR [d1] p6) 138 (am 270 [.t 137]) (ee p1 p2 (D' 139 (eA 1 1 133 138) (ee p1 p2 (k (am 365 [.t 141]) C (gu 2 1) fd (a (aF (fe (.t 143) true 365 [mt])) f8 (dt 2 p9 3))))))))))))))) (ge 149 q 46 8 148 148 (e 153 (hf 150 kw 151 7 (a (m 2 1) al (S' bX (D' 152 (eA 1 1 150 151) (ee p2 p3 (eR i9 (am 270 [.t 156]) (eA 1 1 152 157) 6)))))) (gq 165 (aC 159 kw 160 (m 3 1) (aC 161 (h 1 p5) 162 (D .u8 p4) (a (gx 1) al (aC 163 (wR [aK] p5) 164 (eA 1 1 159 163) (ee p1 p2 (ai (am 365 [.t 166]) C (gu 2 1) fd (aF (fe (.t 168) true 365 [.t 170])) f8 C (gu 3 1) (a fd (fN (bE r7 256)) (S' f8 (eg 2 164 (P 3)))))))))))))))))))) (g9 178 6 (aQ 6 1) (i3 4) al (aq (b7 366 p4 p3) p1 0 (fy p2 1 2 p2 (P 3))))))))))
def Tryz.aqG:=fB 26 [.tmp 4]<|iU 4 (N lg (d7 11 bd dH (hm 0 14 14 0 1 15 5 (e6 16 5 fI al mq (i1 24 4)) 25 13 13)) (a0 4 b1))
def Tryz.aqH:=fB 20 []<|gP 3 p3 mv 2 (av 5 p5 dj s k7 (ai al bc s g6 al (iV 1 p5) (dx 5) k7 (gX 16 14)) (bI 17 2 s (hh 4 gT)))
def Tryz.aqI:=fB 37 [.tmp 4]<|ba 4 bD (av 6 p5 eH s kG (hZ al bd (d0 p6)) (g0 12 13 s (hh 14 gT) (a0 4 bD))) (eU 16 13 (ai eW s kG al bd ff fo gQ (a (di 6 p9) (e5 6) (bo 5 jT (dI 6 5 29)))) (nH (eK 30 0 5 (dc 3) (ah 32 (eK 33 2 5 ky og))) (eK 35 3 5 ky og)))
def Tryz.aqJ:=fB 27 []<|ea 4 bD 6 p5 bd (aa ff 5) (fl 0 (ag 9 p4 ix E' (i2 10)) 1 (a8 13 bW eW fo kg fI al (au 279 p5) j3 (fA 1 8 p8 4)) (bf 11 dj ff (P 5))) (ae 22 4 (aH 367) E' (iq 24 0 jG 278))
def Tryz.aqK:=fB 92 []<|ip 3 p2 (gA 4 ad ab (N (A 6 (dl p3) al (bU 34) C (ai (I p1 (eZ p7)) fd (bM p3 0) (h3 s) (iN (j 11)) (I p6 al) (I p7 bd) (I p8 (bn p6)) (ak (bK p9))) (ah 18 (hW 19 0 s (j 11) ik al kx al (ev 4 (B 5 gT))))) (b9 27 0 3 (dm 34) C (ai (gu 1 3) fd (bM p3 0) (h3 s) (iN bT) (I p6 lH) (I p7 al) (I p8 bd) (bO (I p9 (bn p7)) (bK (q' 30)))) (ah 40 (ie 41 0 s bT lH ik al (di 3 p3) (eD bT al mp al (bN 35) C gH mP (eY bT) (fJ lH) (hq al) (u p6 ik) (u p7 al) (u p8 (di 3 p3)) (u p9 g6) (iZ 54 al) (S' (bH (q' 54)) (eg 4 50 (P 5))))))) (d7 66 kg (fx 282) (f2 69 0 3 (eE 32) C (en lS fd (fN (eE 35)) f8) (ah 76 (iq 77 0 jG 279)) (b9 80 0 3 (eE 33) C (en lS fd (fN (eE 36)) f8) (ah 87 (de 88 0 4 j3 (dY 278) E')))))))
def Tryz.aqL:=fB 42 [.tmp 6]<|iU 6 (N (av 7 p7 gK C mb je (i1 22 6)) (aV 23 0 s 0 g6 (k al fo fI al (dc 1)) (ah 31 (dR 32 2 eP 2))) (aV 34 0 s 0 bT (dv al fo 2 (aU p3 p2) ij) (a0 6 b1)))
def Tryz.aqM:=fB 41 [.tmp 4]<|ea 4 iE 7 p7 gK E' (br 8 4 mK) (ag 9 p9 (aH 79) (eJ 5 6 16) (N (eU 11 1 (ak ix) (ah 15 (de 16 6 0 s g6 (da al (zM p5 p1) 6)))) (W 22 1 fg kw kg (bO gQ (g1 p4)) (br 27 4 mK)) (e6 28 0 s bT (k al fo fg mr (ef (GQ (uk 1 1 [aK] ks h4)) p9 jD)) (bJ 39 5 gI ky))))
def Tryz.aqN:=fB 20 [.tmp 10]<|eT 10 (dV 11 0 2 eP iS (k f6 fo (aH 386) jG (aa (g5 385 p8 p4 p2) 10)))
def Tryz.aqO:=fB 53 [.tmp 8,.tmp 9]<|iL 8 d1 (e6 13 2 eP iS (k f6 fo (aH 386) (b7 387 p7 p3) (fv 12 p9 0 (q' 12) 1 10 11)) (nH (gV 23 fo (fk 25 p2 44 24 24 (bb 26 10 (hB .i8) gI bX (P 10)) (fk 31 p8 46 30 30 (bb 32 10 (hB .i16) gI bX (P 10)) (h1 37 23 48 36 36 (bI 38 10 (hB .i8) (aa bX 10)) 42 23 50 41 41 (bI 43 10 (hB .i16) (aa bX 10)) (ge 47 q 23 52 46 46 (bI 48 10 iw (aa bX 10))))))) (dO 51 10 11 (ig 8 9))))
def Tryz.aqP:=fB 48 [.tmp 2]<|eT 2 (ao 5 (fO 16 k1 [(0,J 69),(1,J 80),(2,J 103),(3,J 104),(4,J 105),(5,J 121),(6,J 122),(7,J 123),(8,J 167),(9,J 172),(10,J 173),(11,J 192),(12,J 193),(13,J 194),(14,J 195),(15,J 196)]) 3 (N (hK 4 0 (av 6 p2 fw bd hJ E' (i2 9)) 1 (iQ 12 p9 bW fI (bO eW mz) (f4 17 j1)) (bf 10 dj jI ky)) (gB 18 0 70 C 0 (eD (d3 79) dE C gH (dK (be 81)) (eY C) jJ (d3 90) (u p6 dE) (bH p7) C gH (dK (be 106)) (eY C) jJ (d3 120) (ai (u p6 dE) (bH p7) C gH (dK (be 124)) (eY C) jJ (d3 138) (bO (u p6 dE) (bH p7)))) (f4 47 (b 2))) kz))
def Tryz.aqQ:=fB 15 [.tmp 2]<|gO 2 ad 3 p3 gK E' 4 ad (fR 5 p5 s bT al (k bd eW s g6 (da al (bZ p5) 2)))
def Tryz.aqR:=fB 41 [.tmp 8]<|eT 8 (e6 13 1 gd (ed 388) (fv 12 p5 0 p6 1 9 10) (N (gk 19 p9 (eE 0) E' 20 (ey 21 10 8)) (hK 11 0 (ae 22 11 gd (ak jU) (i2 24)) 1 (ia 27 (ai fo fg hT f6 iS m6 hM (aU p8 p4) ij) (dR 39 3 (bE vM 256) 3)) (fU 25 11 1 11)) (a0 8 ad)))
def Tryz.aqS:=fB 16 [.tmp 2]<|eT 2 (ao 4 (fO 23 k1 [(0,m5),(1,lx),(2,fp),(3,fp),(4,f7),(5,f7),(6,kd),(7,kd),(8,f7),(9,f7),(10,kd),(11,kd),(12,m5),(13,m5),(14,m5),(15,lx),(16,fp),(17,fp),(18,f7),(19,kd),(20,f7),(21,kd),(22,m5)]) 3 (gp 5 p5 (bs 40) C (ht bc) (bO (h9 62) dS) (f4 10 ad) (fR 11 p8 eW (a3 40) kx (aa al 2))))
def Tryz.aqT:=fB 60 [.tmp 8,.tmp 9]<|iL 8 d1 (ae 14 1 (aH 359) (P 10) (e6 17 2 kn iS (a f6 h5 (fW (dN 388 p6) 16 (fr p8 0 p9 1 11 12))) (W 26 1 (bN 44) C jn (ai (ej 46) dS C jn (ej 48) dS C jn (k (ej 50) dS C jn (da (ej 52) dS 13))) (N (gL 44 lL (ah 44 (de 45 11 10 mC (dY 389) (aa bX 11)))) (fL 50 1 (bs 48) C 1 (bO (iK 41) dE) (ah 55 (dR 56 11 kn 11))) (dO 58 11 12 (ig 8 9))))))
def Tryz.aqU:=fB 80 [.tmp 4,.tmp 5]<|iL 4 d1 (aY (ag 6 p6 (aH 356) (ak (eE 1)) (eN 8 4 d1 1)) 0 (dX 10 0 q 69 9 (p 9 (g9 12 1 (fu 391 32) jv k9 jL) (dX 17 0 q 80 16 (p 16 (bJ 19 1 jv (f5 k9 4 5 0)) (gB 23 0 103 C 0 (iW 105 22) (p 22 (dV 29 1 0 (a3 103) (b7 392 p3 (Y 32)) jL) (gB 34 0 121 C 0 (iW 123 33) (p 33 (dV 40 1 0 (a3 121) (b7 392 p3 iH) jL) (W 45 0 (bN 167) C gH (da (ej 173) dS 44) (p 44 (bJ 51 1 (fu 391 32) jL) (W 54 0 (bN 172) C gH (da (ej 196) dS 53) (p 53 (bJ 60 1 (fu 393 32) jL) (W 63 0 (bN 192) C gH (da (ej 193) dS 62) (ah 62 (dV 69 1 0 (a3 191) mC (a (au 393 p4) (fu 391 32) jL)))))))))))))))) (dV 75 1 0 (a3 193) mC (f5 (au 393 p4) 4 5 0)))
def Tryz.aqV:=fB 72 [.tmp 6,.tmp 7]<|iL 6 d1 (dd 10 0 (aH 356) (ak (eE 2)) (eN 12 6 d1 1) (aE 8 (b 32) (dX 13 0 r6 106 9 (N (eu 15 0 qz 124 16 (aE 8 (b 64) (dR 17 0 (a3 124) 9))) (eu 19 0 ui 90 20 (hb 21 0 qz 81 22 (g9 23 0 (a3 81) fo gd (f5 (ed 394) 6 7 0)) (g9 28 0 (a3 70) fo (fu 393 32) (a gd (fu 393 32) (f5 (b7 394 p5 p3) 6 7 0))))) (N (gB 35 9 3 C 9 (ai (d3 6) dE C mi (bM p2 8) (fN my) (h3 jv) lc E') (eN 46 6 d1 21)) (fL 47 9 (bN 3) C 1 (ai (bM p2 8) (fN my) (bM p4 8) (iN ff) (I p6 bX) (I p7 jB) (I p8 (w q p5)) (bK p9) (gl C mi (bM p2 8) (fN (dr 393)) (h3 j2) lc)) (eN 64 6 d1 22)) (dV 65 9 1 gd i0 (a (g5 395 p4 p3 p2) i0 (f5 my 6 7 0))))))))
def Tryz.aqW:=fB 57 [.tmp 4]<|dp 2 p2 (B 4 kH) (gp 9 p8 (eE 4) C (gu 5 2) (en fd (fN bd) (h3 ko) lc) (i1 16 4) (b9 17 1 2 (m 2 2) al (k (m 3 2) al (m 4 2) al (f 5 p7 (f 6 p5 (dt 7 p3 8)))) (nH (gV 25 fo (dG (fE 27 p2 2 26 26 (fE 28 p3 3 26 26 (fE 29 p4 5 26 26 (fE 30 p5 4 26 26 (e1 31 q p6 13 26))))) 26 (R' 5 dH) (dG (fE 33 p8 6 32 32 (e1 34 q p9 7 32)) 32 (bf 5 fa fa E') (aI 36 q 25 8 35 35 (bf 5 fa fa (bl d1)) (dG (aI 38 q 25 9 37 37 wg (bg 39 q 25 10 37)) 37 (gR 7 d1) (nH (aI 41 q 25 11 40 40 wg (bg 42 q 25 12 40)) (ah 40 (bf 7 (l d1) (l d1) E')))))))) (fL 43 5 hQ C 6 (ai (dy hQ) dE C (dJ 7) (dy jv) dE C (dJ 8) (da (dy jv) dE 4)) og))))
def Tryz.aqX:=fB 34 [.tmp 2]<|iA 2 (ea 3 bD 6 p6 bd dH (gi 0 9 9 0 1 (h2 10 5 (nH (ap 2 (gp 12 p7 (bs (-64)) C (dw 5) (bO (h9 63) dS) (a6 17 2) (yP 3 (a5 18 3 5 hM (bu HO (o 128)) lD (dR 24 5 (dF 7) 5))))) (de 26 3 5 (af sV 127) hM lD))) 32 8 8) (ey 33 3 2))
def Tryz.aqY:=fB 9 [.tmp 2]<|iU 2 (fR 3 p3 ix C (I p1 dj) (da (dy (bs 4294967296)) dE 2))
def Tryz.aqZ:=fB 62 [.tmp 6,.tmp 7]<|e 6 (gC 4 p5 (bO (l bD) (l ab))) (nH (gV 9 eH (fk 11 p2 9 10 10 (g9 12 0 (pG 3 p9) al iw (S' fg (aC 20 (m 3 4) 21 (fY 20) (D' 22 (i r7 (q' 21) (z 4294967296)) (a j3 (am 364 [l0]) (fF 21 20 (S' (eA 1 1 12 18) (fF 21 20 (ev 6 (eg 7 22 E')))))))))) (h1 24 9 10 23 23 (eM 25 0 3 4 fg (a j3 (aH 364) (fW (hv 1 p6) 6 (B 7 gT))) og) 33 9 13 32 32 (gq 40 (aC 34 eW 35 (gx 4) (aC 36 (h 1 p5) 37 (D .u8 p4) (a (gx 4) al (S' ix (aC 38 (wR [aK] p6) 39 (eA 1 1 34 38) (ee p2 p3 (k C (gu 1 4) fd (fN (bs 256)) (hI f8 6 p9 7))))))))) (ge 49 q 9 14 48 48 (bJ 50 0 jk (fW m2 6 (B 7 gT))))))) (b9 53 3 4 (m 4 4) al (a (F [d1,d1] [(0,1,mD),(1,1,kZ)]) (aH 94) oa) (bJ 59 0 (h6 16 (q' 8) M4 M4) (fW m2 6 (B 7 gT)))))
def Tryz.aq0:=fB 28 []<|ag 4 p4 bd (hI ff 2 (Y 0) 3) (fl 0 (ag 7 p5 e3 (ak jU) (i2 9)) 1 (bC 14 0 gd eW iS eW iS fI al (k eW gd fI al (S' (aU (q' 14) (q' 15)) (bq 1 26 21 (g8 (aU (q' 16) (q' 17)) 27 25))))) (aT 10 bc jI bW ff (dt 2 p3 3)))
def Tryz.aq1:=fB 37 [.tmp 8]<|eT 8 (N (e6 11 1 gd (ed 400) (P 9) (gk 15 p6 (eE 0) E' 16 (b0 17 p8 8 og))) (ae 18 2 fa E' (hm 0 20 20 0 1 21 10 (hW 22 0 s bT fo h5 bX kf (k iS h5 mC ki (a hM (aU (q' 25) p6) (gX 35 34)))) 36 19 19)) (a0 8 ad))
def Tryz.aq2:=fB 27 [.tmp 2]<|ba 2 ad (gV 3 m4 (dG (fE 5 p2 44 4 4 (fE 6 p3 45 4 4 (fE 7 p4 48 4 4 (fE 8 p5 49 4 4 (fE 9 p6 58 4 4 (e1 10 q p7 60 4)))))) 4 (a0 2 j1) (dG (fE 12 p9 46 11 11 (hn 13 3 47 11 11 wg 14 3 50 11 11 wg 15 3 51 11 11 wg 16 3 59 11 11 wg (bg 17 q 3 61 11))) 11 (a0 2 (b 2)) (dG (hn 19 3 40 18 18 wg 20 3 52 18 18 wg 21 3 53 18 18 wg 22 3 54 18 18 wg (bg 23 q 3 62 18)) 18 (a0 2 (b 4)) (nH (aI 25 q 3 41 24 24 wg (bg 26 q 3 55 24)) (f4 24 (b 8))))))) kz
def Tryz.aq3:=fB 44 [.tmp 6,.tmp 7]<|iL 6 d1 (nH (e6 12 1 gd (ed 400) (P 8) (gk 16 p8 (eE 0) E' 17 (gv 6 18 8 (l d1) (d 18)))) (ba 9 d1 (ia 19 (ai fo fo gd bX kf (b4 1 p6 (Qe p5) p1) bd fa E') (gi 0 31 31 0 1 (ag 32 p2 kc (hI al 10 p3 11) (de 35 9 11 bX h5 (eR mC (dP p3) (eX p6) 9))) 42 30 30)) (gv 6 43 9 (d 43) fa)))
def Tryz.aq4:=fB 51 [.tmp 6,.tmp 7]<|iL 6 d1 (N (d7 10 gK E' (eN 11 6 d1 2)) (fL 12 2 (eE 1) C 2 (ai (iK 2) dE C mi (iK 4) dE C mi (bO (iK 8) dE)) (eN 25 6 d1 1)) (nH (e6 26 1 gd (ed 131) E' (eN 29 6 d1 23)) (ba 8 d1 (dX 30 2 r6 1 9 (fl 0 (aZ 32 9 qz 0 E' (i2 33)) 1 (bC 36 8 (bE uT 256) eW s bT al fo fg (k kh f6 (eh p5) al (da bX (bm (q' 37)) 8))) (dR 34 9 ff 9))) (gv 6 50 8 (d 50) fa))))
def Tryz.aq5:=fB 28 [.tmp 4]<|ea 4 ad 5 p4 (be 64) E' (ah 6 (gP 7 p7 fg 4 og)) (av 9 p9 bW bX jB (aa (w ra p4) 0) (nH (e6 14 1 ff bX (bO jB (d0 p5)) (ah 19 (g9 20 0 fg fo bX (da (ir 1) (bZ p4) 4)))) (bJ 26 0 fg ky)))
def Tryz.aq6:=fB 4 [.tmp 2]<|ke
def Tryz.aq7:=fB 14 [.tmp 4]<|hE 4 (fR 5 p5 e3 k2 bX (k (dP p4) bW k2 bX (aa (e7 p4) 4)))
def Tryz.aq8:=fB 41 [.tmp 6]<|hE 6 (eT 7 (eT 8 (N (hK 9 0 (ag 11 p2 fo (ak jU) (i2 13)) 1 (b0 16 p7 10 (hb 17 2 q 0 18 (bb 19 1 ff kh gQ (P 10)) (e6 23 10 bX ki (bO (bE ra 2) (bE q 1)) (p 28 (fU 29 8 1 8) (eu 31 8 q 0 32 (fU 33 7 1 7)))))) (bf 14 e3 jI (P 9))) (eu 35 2 q 2 36 (bJ 37 8 bX jx)) (bJ 39 7 bX jx))))
def Tryz.aq9:=fB 24 [.tmp 4]<|hE 4 (ag 5 p5 e3 (aa my 0) (gp 8 p8 bc ff bX (gl (e7 p4) (bE q 1) C (dJ 1) (dy (bs 64)) dE) (ah 17 (dV 18 0 1 bX jB (aa (bZ p4) 4))) (ey 23 0 4)))
def Tryz.aq':=fB 71 [.tmp 6]<|hE 6 (ag 9 p8 bc (aa (dr 401) 7) (ae 12 2 fo (aa (dr 401) 8) (N (W 15 0 (bN 3) C gH (ai (ej 5) dS C gH (ej 7) dS C gH (bO (ej 9) dS)) (ah 28 (ae 29 1 gd (aa jU 7) (bI 32 2 fo (aa jU 8))))) (gV 35 eW (fk 37 p2 0 36 36 (fL 38 7 eI C 8 (eR (dy eI) dE k9 6) og) (aI 46 q 35 1 45 45 (g9 47 7 C (dw 8) (bH p2) (aa k9 6)) (dG (aI 53 q 35 2 52 52 wg (bg 54 q 35 3 52)) 52 (bJ 55 7 k9 jx) (dG (aI 58 q 35 4 57 57 wg (bg 59 q 35 5 57)) 57 (bJ 60 8 k9 jx) (nH (aI 63 q 35 6 62 62 wg (bg 64 q 35 7 62)) (ah 62 (bJ 65 8 eI (aa k9 6))))))))) (bJ 68 7 eI (aa k9 6)))))
def Tryz.ara:=fB 141 [.tmp 8]<|hE 8 (ae 15 1 iS (aa (dr 393) 9) (ae 18 2 iS (aa (dr 393) 10) (ae 21 1 iS (aa my 11) (ae 24 2 iS (aa my 12) (a5 27 12 3 bX (w ra p3) (P 13) (nH (gV 31 eW (fk 33 p2 0 32 32 (fb 34 11 12 f6 8) (fk 38 p7 1 37 37 (fb 39 11 12 gQ 8) (aI 43 q 31 2 42 42 (fb 44 11 12 iD 8) (dG (aI 48 q 31 3 47 47 wg (bg 49 q 31 5 47)) 47 (W 50 9 (aH 403) h5 (aH 403) (aa (dY 402) 14) (N (W 55 9 (dF 63) h5 (dF 63) (ak kl) (ah 59 (dR 60 14 jA 14))) (eu 62 0 q 5 63 (dV 64 9 14 h5 iD (aa (bZ p4) 8))) (ey 69 14 8))) (hn 71 31 4 70 70 (fb 72 11 12 (dr 402) 8) 76 31 6 75 75 (dV 77 11 11 jP (dr 402) (eR jP iD (bZ p6) 8)) 85 31 7 84 84 (fb 86 11 12 (w sV p2) 8) 90 31 8 89 89 (fb 91 11 12 (eX p2) 8) (hn 95 31 9 94 94 (fb 96 11 12 (w A5 p2) 8) 100 31 10 99 99 (fb 101 11 13 (dP p2) 8) 105 31 11 104 104 (dV 106 9 13 (e7 p2) kh (k (dF 63) lL (dr 404) kj (P 8))) 115 31 12 114 114 (fb 116 11 13 (e7 p2) 8) (ge 120 q 31 13 119 119 (dV 121 11 13 (dP p2) hT (dv iS bX 13 gQ (da (e7 p5) (eX p7) 8))))))))))) (dV 131 11 13 (e7 p2) hT (dv iS bX 13 gQ (da (dP p5) (eX p7) 8)))))))))
def Tryz.arb:=fB 31 [.tmp 6]<|ba 6 ad (em (gP 8 p8 gK 7 (p 7 (a0 6 (b 2)) (av 11 p9 (eE 1) C mi (ai (iK 2) dE C mi (iK 4) dE C mi (da (iK 8) dE 10)) (p 10 (a0 6 j1) (e6 26 1 gd (ed 126) (aa eI 25) (br 25 6 (b 23)))))))) (a0 6 ad)
def Tryz.arc:=fB 10 [.tmp 4]<|iU 4 (fR 5 p5 mh dj mh (aa hJ 4))
def Tryz.ard:=fB 39 [.tmp 4]<|hE 4 (hE 5 (ba 6 d1 (aE 7 (b 63) (fl 0 (ag 9 p2 ix E' (i2 10)) 1 (gP 13 p7 (dF 63) 8 (av 15 p9 (hk 1) eW jm (k bX ki (bE ra 2) (eX p6) jx) (W 23 8 (bE q 1) C (dw 6) (a (bx p2 1) (eY mL) (f0 p4)) (ah 29 (ae 30 6 fo (aa gQ 6) (de 33 5 7 bX jB (aa (eX p4) 5))))))) (bf 11 fw ff ly))) (ey 38 5 4)))
def Tryz.arf:=fB 9 [.tmp 2]<|ea 2 d1 3 p3 (dF 63) (ak (bE q 1)) (ah 5 (gP 6 p6 jA 2 og)) (b0 8 p8 2 og)
def Tryz.arh:=fB 16 [.tmp 4]<|ba 4 d1 (av 5 p5 jv C (ht eH) (bO (dK jv) dS) (br 10 4 d1)) (g9 11 1 (bZ (f1 64)) jB (bE r6 1) (aa (bZ (Dr es)) 4))
end
end Go.Proofs
