import Derived.Test.YtjeanplhkkpdmaaGreatDoorAb35
namespace Go.Proofs
set_option maxRecDepth 100000
noncomputable section
open Go.Ab.X
open Go.Ab (Cv Od AV lK zH vV BF UF RV)
namespace Y
abbrev R'(k:Nat)(r:Nat->zH):vV:=.rg (r k)
abbrev E':Nat->zH:=fun _=>.fi
abbrev S'(a:Nat->lK)(r:Nat->zH):Nat->zH:=fun k=>.st k (a k) (r (Nat.succ k))
abbrev D'(j:Nat)(a:Nat->lK)(r:Nat->zH):Nat->zH:=fun k=>.st j (a k) (r k)
abbrev N'(a:Nat->lK)(r:Nat->zH):Nat->zH:=fun k=>.sn (a k) (r k)
abbrev Q'(s:Nat->Od)(a:Nat->lK)(r:Nat->zH):Nat->zH:=fun k=>.ck (s k) (a k) (r k)
abbrev cL':=vV.lp
abbrev fB(n:Nat)(r:List RV)(b:vV):Cv:=⟨n,r,b⟩
abbrev Ny(a:lK):Nat->lK:=fun _=>a
abbrev q'(j:Nat):Nat->Od:=fun _=>.t j
abbrev KQ(v:AV):Nat->Od:=fun _=>.c v
abbrev oX':Nat->Od:=fun _=>.zz
abbrev wO'(a:Nat->Od):Nat->Od:=fun k=>.w (a k)
abbrev no':Nat->Option Od:=fun _=>none
abbrev so'(a:Nat->Od):Nat->Option Od:=fun k=>some (a k)
abbrev gF'(a:Nat->Od)(b:Bool)(f:Nat->lK):Nat->lK:=fun k=>.gd (a k) b (f k)
abbrev Ie(z:List AV)(a:Nat->Od):Nat->lK:=fun k=>.rw 1 1 z [(0,a k)]
abbrev p1:Nat->Od:=fun k=>.t (Nat.sub k 1)
abbrev p2:Nat->Od:=fun k=>.t (Nat.sub k 2)
abbrev p3:Nat->Od:=fun k=>.t (Nat.sub k 3)
abbrev p4:Nat->Od:=fun k=>.t (Nat.sub k 4)
abbrev p5:Nat->Od:=fun k=>.t (Nat.sub k 5)
abbrev p6:Nat->Od:=fun k=>.t (Nat.sub k 6)
abbrev p7:Nat->Od:=fun k=>.t (Nat.sub k 7)
abbrev p8:Nat->Od:=fun k=>.t (Nat.sub k 8)
abbrev p9:Nat->Od:=fun k=>.t (Nat.sub k 9)
abbrev kC0(f:Nat):Nat->lK:=fun k=>.call f []
abbrev kC1(f:Nat)(a:Nat->Od):Nat->lK:=fun k=>.call f [a k]
abbrev kC2(f:Nat)(a b:Nat->Od):Nat->lK:=fun k=>.call f [a k,b k]
abbrev kC3(f:Nat)(a b d:Nat->Od):Nat->lK:=fun k=>.call f [a k,b k,d k]
abbrev Xa(f:Nat)(a b d e:Nat->Od):Nat->lK:=fun k=>.call f [a k,b k,d k,e k]
abbrev kC5(f:Nat)(a b d e g:Nat->Od):Nat->lK:=fun k=>.call f [a k,b k,d k,e k,g k]
abbrev kC6(f:Nat)(a b d e g h:Nat->Od):Nat->lK:=fun k=>.call f [a k,b k,d k,e k,g k,h k]
abbrev kC7(f:Nat)(a b d e g h i:Nat->Od):Nat->lK:=fun k=>.call f [a k,b k,d k,e k,g k,h k,i k]
abbrev kC8(f:Nat)(a b d e g h i j:Nat->Od):Nat->lK:=fun k=>.call f [a k,b k,d k,e k,g k,h k,i k,j k]
abbrev kC9(f:Nat)(a b d e g h i j l:Nat->Od):Nat->lK:=fun k=>.call f [a k,b k,d k,e k,g k,h k,i k,j k,l k]
abbrev pN(a:Nat->Od):Nat->lK:=fun k=>pW (a k)
abbrev Xb(a:Nat->Od)(b:Nat->Od)(d:Nat->Od):Nat->lK:=fun k=>xt (a k) (b k) (d k)
abbrev Ig(a:Nat->Od):Nat->lK:=fun k=>GY (a k)
abbrev Xc(a:Nat)(b:Bool)(d:Nat->Od):Nat->lK:=fun k=>r7 a b (d k)
abbrev adn(a:Nat)(b:Nat->Od)(d:Nat->Od):Nat->lK:=fun k=>tH a (b k) (d k)
abbrev xC(a:Nat->Od):Nat->lK:=fun k=>EW (a k)
abbrev F'(a:BF)(b:Nat->Od)(d:Nat->Od):Nat->lK:=fun k=>xF a (b k) (d k)
abbrev ado(a:UF)(b:Nat->Od):Nat->lK:=fun k=>KV a (b k)
abbrev adp(a:Nat->Od):Nat->lK:=fun k=>wJ (a k)
abbrev oY(a:Nat)(b:Nat->Od):Nat->lK:=fun k=>kO a (b k)
abbrev adq(a:Nat)(b:Nat)(d:Bool)(e:Nat->Od):Nat->lK:=fun k=>tJ a b d (e k)
abbrev yi(a:Nat)(b:Nat->Od)(d:Nat->Od):Nat->lK:=fun k=>A' a (b k) (d k)
abbrev Xd(a:Nat)(b:Nat)(d:Nat->Od)(e:Nat->Od):Nat->lK:=fun k=>zi a b (d k) (e k)
abbrev JG(a:Nat)(b:Nat)(d:Bool)(e:Nat->Od)(f:Nat->Od):Nat->lK:=fun k=>sE a b d (e k) (f k)
abbrev Xe(a:Nat->Od)(b:Nat->Od):Nat->lK:=fun k=>qL (a k) (b k)
abbrev vZ(a:Nat->Od)(b:Nat):Nat->lK:=fun k=>oN (a k) b
abbrev ON(a:Nat->Od):Nat->lK:=fun k=>xu (a k)
abbrev asE(a:Nat->Od):Nat->lK:=fun k=>EZ (a k)
abbrev SM(a:Nat)(b:Nat)(d:Nat->Od)(e:Nat->Od):Nat->lK:=fun k=>mR a b (d k) (e k)
abbrev alg(a:Nat)(b:Nat->Od)(d:Nat->Od):Nat->lK:=fun k=>Bb a (b k) (d k)
abbrev alh(a:Nat->Od):Nat->lK:=fun k=>zC (a k)
abbrev Ga(a:Nat->Od)(b:Nat->Od):Nat->lK:=fun k=>G2 (a k) (b k)
abbrev Ih(a:Nat->Od)(b:Nat->Od):Nat->lK:=fun k=>G3 (a k) (b k)
abbrev asF(a:Nat->Od):Nat->lK:=fun k=>EY (a k)
abbrev ali(a:Nat)(b:Nat->Od)(d:Nat->Od):Nat->lK:=fun k=>sO a (b k) (d k)
abbrev Gb(a:Nat)(b:Nat->Od)(d:Nat->Option Od)(e:Nat->Option Od):Nat->lK:=fun k=>mQ a (b k) (d k) (e k)
abbrev wa(a:Nat)(b:Nat)(d:Nat->Od)(e:Nat->Option Od)(f:Nat->Option Od):Nat->lK:=fun k=>ph a b (d k) (e k) (f k)
abbrev Xf(a:Nat->Od)(b:Nat->Option Od)(d:Nat->Option Od):Nat->lK:=fun k=>qK (a k) (b k) (d k)
abbrev a:=fun x1 x2 x3=>S' x1 (S' x2 x3)
abbrev b:=fun x1=>AV.int IntKind.i64 x1
abbrev d:=fun x1=>pN (q' x1)
abbrev e:=fun x1 x2 x3=>lF (R' x1 x2) x3
abbrev f:=fun x1 x2 x3=>D' x1 (pN x2) x3
abbrev h:=fun x1 x2=>Xc x1 false x2
abbrev i:=fun x1 x2 x3=>F' x1 x2 (KQ x3)
abbrev j:=fun x1=>AV.int IntKind.u8 x1
abbrev k:=fun x1 x2 x3 x4 x5=>a x1 x2 (a x3 x4 x5)
abbrev l:=fun x1 x2=>oY x1 (q' x2)
abbrev m:=fun x1=>pN (KQ x1)
abbrev o:=fun x1 x2 x3=>AV.sc (Value.slice x1 x2 x3)
abbrev p:=fun x1 x2 x3=>cIf (Od.t x1) x2 x3
abbrev q:=fun x1=>oY x1 p1
abbrev r:=Du false
abbrev s:=fun x1=>AV.sc (Value.string x1)
abbrev t:=fun x1 x2=>Xc x1 true x2
abbrev u:=fun x1 x2 x3 x4=>e x1 (S' x2 x3) x4
abbrev v:=fun x1 x2=>gF' x1 false x2
abbrev w:=fun x1 x2=>Ny (vi x1 x2)
abbrev x:=fun x1 x2 x3 x4=>N' (adn x1 x2 x3) x4
abbrev y:=fun x1=>asE (wO' x1)
abbrev z:=fun x1=>oC (b x1)
abbrev A:=fun x1 x2=>o none x1 x2
abbrev B:=xC p1
abbrev D:=fun x1=>AV.int IntKind.u64 x1
abbrev E:=fun x1 x2 x3=>i x1 x2 (b x3)
abbrev F:=AV.bool false
abbrev H:=fun x1 x2=>gF' x1 true x2
abbrev I:=fun x1 x2=>F' x1 x2 p1
abbrev J:=fun x1 x2=>f x1 x2 E'
abbrev L:=fun x1 x2 x3 x4 x5 x6 x7=>e x1 (k x2 x3 x4 x5 x6) x7
abbrev M:=fun x1 x2 x3 x4=>a x1 x2 (S' x3 x4)
abbrev O:=fun x1 x2=>mn (lK.call x1 x2)
abbrev P:=fun x1 x2=>ado (EX x1) x2
abbrev R:=fun x1=>J x1 p1
abbrev U:=fun x1=>KQ (b x1)
abbrev W:=fun x1 x2 x3=>lF x1 (lF x2 x3)
abbrev Y:=fun x1=>Ny (NI x1)
abbrev Z:=fun x1 x2 x3 x4 x5 x6 x7=>L x1 (d x2) x3 x4 x5 x6 x7
abbrev C:=AV.bool true
abbrev N:=fun x1 x2 x3 x4 x5=>e x1 (a x2 x3 x4) x5
abbrev aa:=fun x1=>h x1 p1
abbrev ab:=aa 1
abbrev ad:=pN p1
abbrev ae:=fun x1 x2 x3=>Xb x1 x2 (KQ x3)
abbrev af:=fun x1 x2=>E x1 p1 x2
abbrev ag:=b 0
abbrev ah:=fun x1 x2=>p x1 x2 xw
abbrev ai:=fun x1 x2 x3 x4 x5 x6 x7 x8 x9=>k x1 x2 x3 x4 (k x5 x6 x7 x8 x9)
abbrev aj:=s ⟨#[]⟩
abbrev ak:=fun x1 x2=>t x1 (q' x2)
abbrev al:=fun x1 x2 x3 x4 x5 x6 x7=>L x1 (pN x2) x3 x4 x5 x6 x7
abbrev am:=fun x1 x2 x3 x4 x5=>D' x1 x2 (D' x3 x4 x5)
abbrev ao:=fun x1=>vZ x1 1
abbrev ap:=fun x1 x2=>Cu x1 (cL' x2)
abbrev aq:=fun x1 x2=>F' qJ x1 x2
abbrev ar:=fun x1 x2 x3=>Xb x1 (KQ x2) x3
abbrev au:=j 0
abbrev av:=fun x1 x2=>kC2 x1 x2 p1
abbrev aw:=fun x1 x2 x3=>E x1 (q' x2) x3
abbrev ax:=fun x1 x2 x3 x4=>a (vZ x1 x2) x3 x4
abbrev ay:=fun x1 x2 x3 x4 x5 x6=>e x1 (M x2 x3 x4 x5) x6
abbrev az:=fun x1 x2 x3 x4=>u x1 x2 (R x3) x4
abbrev aA:=fun x1 x2=>Ny (O x1 x2)
abbrev aB:=fun x1 x2 x3=>R' x1 (S' x2 x3)
abbrev aD:=fun x1 x2 x3=>tH x1 (Od.t x2) x3
abbrev aE:=fun x1=>AV.sc (Value.pointer x1)
abbrev aF:=s ⟨#[118,118,58,118]⟩
abbrev aG:=fun x1=>Ny (mn x1)
abbrev aH:=fun x1 x2 x3=>u x1 x2 E' x3
abbrev aI:=fun x1 x2 x3 x4 x5 x6=>az x1 x2 x3 (p x4 x5 x6)
abbrev aJ:=fun x1 x2 x3=>SM x1 x2 x3 p1
abbrev aK:=fun x1 x2 x3 x4=>x x1 (q' x2) x3 x4
abbrev aL:=fun x1 x2 x3 x4 x5 x6=>ay x1 (d x2) x3 x4 x5 x6
abbrev aM:=fun x1 x2 x3 x4=>W x1 (Cu x2 x3) x4
abbrev aO:=Du true
abbrev aP:=fun x1=>A 0 x1
abbrev aQ:=fun x1 x2 x3 x4 x5 x6=>R' x1 (k x2 x3 x4 x5 x6)
abbrev aR:=fun x1 x2 x3 x4 x5=>N x1 (pN x2) x3 x4 x5
abbrev aS:=fun x1 x2 x3=>aB x1 x2 (R x3)
abbrev aT:=aP 0
abbrev aU:=fun x1 x2 x3=>aH x1 (m x2) x3
abbrev aV:=fun x1 x2 x3=>p x1 x2 (Ur x3)
abbrev aW:=fun x1 x2 x3 x4 x5 x6 x7 x8 x9 DX Hg=>aI x1 x2 x3 x4 x5 (aI x6 x7 x8 x9 DX Hg)
abbrev aX:=fun x1=>kC1 x1 p1
abbrev aY:=fun x1 x2 x3 x4=>Ny (EU x1 x2 x3 x4)
abbrev aZ:=fun x1 x2 x3 x4=>ap x1 (aH x2 x3 x4)
abbrev aC:=fun x1 x2 x3 x4 x5 x6=>aM x1 x2 x3 (aS x4 x5 x6)
abbrev aN:=fun x1 x2=>yi 1 x1 x2
abbrev a0:=fun x1 x2 x3 x4 x5=>N x1 (d x2) x3 x4 x5
abbrev a1:=fun x1 x2=>aw pF x1 x2
abbrev a2:=fun x1=>af oM x1
abbrev a3:=fun x1=>oC (s x1)
abbrev a4:=fun x1 x2=>N' (aG x1) x2
abbrev a5:=y p1
abbrev a6:=fun x1 x2=>aV x1 xw x2
abbrev a7:=fun x1 x2 x3 x4 x5 x6 x7 x8 x9=>aZ x1 x2 x3 (aC x4 x5 x6 x7 x8 x9)
abbrev a8:=fun x1 x2 x3 x4 x5 x6 x7=>Z x1 x2 (d x3) x4 x5 x6 x7
abbrev a9:=fun x1 x2 x3 x4 x5 x6=>a0 x1 x2 (af x3 x4) x5 x6
abbrev ac:=fun x1 x2=>aU x1 x2 ks
abbrev an:=fun x1 x2 x3 x4 x5 x6=>ay x1 (pN x2) x3 x4 x5 x6
abbrev ba:=fun x1 x2 x3=>aD x1 x2 (Od.t x3)
abbrev bb:=fun x1=>ak 16 x1
abbrev bd:=fun x1 x2 x3=>D' x1 (Y x2) x3
abbrev be:=fun x1 x2 x3=>yi x1 x2 (U x3)
abbrev bf:=fun x1 x2 x3 x4=>ax x1 x2 (ao x3) x4
abbrev bg:=fun x1=>Ie x1 p1
abbrev bh:=fun x1 x2 x3 x4 x5 x6 x7 x8 x9 DX=>a7 x1 x2 x3 (a6 x4 x5) x6 x7 x8 x9 DX
abbrev bi:=fun x1 x2 x3 x4=>a4 (ba x1 x2 x3) x4
abbrev bj:=fun x1 x2 x3 x4=>aU x1 x2 (lF x3 x4)
abbrev bk:=fun x1 x2 x3 x4 x5 x6=>aQ x1 (d x2) x3 x4 x5 x6
abbrev bl:=fun x1 x2 x3=>ah x1 (ac x2 x3)
abbrev bm:=fun x1=>af qJ x1
abbrev bo:=fun x1 x2 x3 x4 x5 x6 x7 x8 x9 DX=>R' x1 (ai x2 x3 x4 x5 x6 x7 x8 x9 DX)
abbrev bp:=fun x1=>AV.int IntKind.u32 x1
abbrev bq:=m ag
abbrev br:=fun x1=>oY 0 x1
abbrev bs:=fun x1 x2=>Xe x1 (U x2)
abbrev bt:=fun x1 x2 x3=>aK x1 x2 p1 x3
abbrev bu:=fun x1 x2 x3 x4 x5 x6 x7 x8 x9 DX Hg=>bh x1 x2 (aq x3 x4) x5 x6 x7 x8 x9 DX Hg
abbrev bv:=fun x1=>P IntKind.u64 x1
abbrev bw:=fun x1 x2 x3 x4=>aG (mR x1 x2 x3 x4)
abbrev bx:=fun x1=>ado Rp x1
abbrev bz:=fun x1 x2=>J x1 (U x2)
abbrev bA:=fun x1 x2 x3=>Xf x1 (so' x2) x3
abbrev bB:=pN p9
abbrev bD:=fun x1 x2 x3=>a x1 x2 (R x3)
abbrev bE:=fun x1 x2 x3 x4=>Q' x1 (h x2 x3) x4
abbrev bF:=fun x1 x2 x3 x4 x5 x6 x7 x8=>L x1 (l x2 x3) x4 x5 x6 x7 x8
abbrev bG:=fun x1 x2 x3 x4 x5 x6 x7=>Z x1 x2 x3 (q x4) x5 x6 x7
abbrev bH:=fun x1 x2=>i x1 p1 x2
abbrev bI:=fun x1 x2 x3 x4 x5 x6 x7=>bF x1 x2 x3 ab x4 x5 x6 x7
abbrev bJ:=fun x1 x2=>aw r x1 x2
abbrev bK:=aE none
abbrev bL:=fun x1 x2=>bt x1 x2 E'
abbrev bM:=fun x1 x2 x3 x4=>az x1 (pN x2) x3 x4
abbrev bO:=fun x1 x2 x3 x4 x5 x6 x7 x8 x9 DX Hg x12=>bu x1 x2 x3 x4 x5 x6 x7 x8 x9 (a1 DX Hg) x12
abbrev bP:=fun x1=>af pG x1
abbrev bQ:=fun x1 x2 x3 x4 x5 x6=>f x1 x2 (bf x3 x4 x5 x6)
abbrev bR:=Ig p2
abbrev bS:=fun x1 x2 x3 x4 x5 x6 x7=>a9 x1 x2 x3 x4 x5 (ah x6 x7)
abbrev bT:=fun x1 x2 x3 x4=>Xd x1 x2 (q' x3) x4
abbrev bU:=fun x1 x2=>bH x1 (D x2)
abbrev bV:=fun x1 x2=>ae x1 p1 x2
abbrev bW:=fun x1 x2 x3=>f x1 x2 (R x3)
abbrev bX:=fun x1=>I x1 p2
abbrev bY:=fun x1 x2=>a x1 x2 E'
abbrev bZ:=fun x1 x2=>ar x1 x2 p1
abbrev bC:=fun x1 x2 x3 x4=>Gb x1 x2 x3 (so' x4)
abbrev bN:=fun x1 x2=>v x1 (d x2)
abbrev b0:=fun x1 x2 x3 x4=>bd x1 x2 (bL x3 x4)
abbrev b1:=fun x1=>xC (q' x1)
abbrev b2:=fun x1=>af pT x1
abbrev b3:=fun x1 x2 x3 x4 x5=>aL x1 x2 x3 x4 E' x5
abbrev b4:=fun x1 x2=>yi 2 x1 x2
abbrev b5:=fun x1 x2 x3 x4 x5 x6=>bG x1 x2 x3 x4 ab x5 x6
abbrev b6:=a3 ⟨#[105,58,118]⟩
abbrev b7:=pN p6
abbrev b8:=fun x1=>av x1 p2
abbrev b9:=bv p1
abbrev bc:=fun x1 x2=>H x1 (d x2)
abbrev bn:=fun x1=>af pF x1
abbrev da:=fun x1 x2 x3 x4 x5 x6=>lF (b3 x1 x2 x3 x4 x5) x6
abbrev db:=fun x1=>S' x1 E'
abbrev dd:=a3 ⟨#[118,105,58,118]⟩
abbrev de:=fun x1 x2 x3 x4=>f x1 x2 (bz x3 x4)
abbrev df:=fun x1=>bV x1 F
abbrev dg:=fun x1=>oY 1 x1
abbrev dh:=fun x1=>av x1 p3
abbrev di:=pN p8
abbrev dj:=fun x1 x2 x3 x4 x5 x6=>aL x1 x2 x3 (bX x4) x5 x6
abbrev dk:=Ig p1
abbrev dl:=fun x1=>af r x1
abbrev dm:=fun x1 x2 x3 x4=>N x1 x2 x3 E' x4
abbrev dp:=fun x1 x2 x3 x4 x5 x6=>bk x1 x2 (d x3) x4 x5 x6
abbrev dq:=fun x1 x2=>S' x1 (R x2)
abbrev dr:=fun x1 x2 x3 x4=>bt x1 x2 (bz x3 x4)
abbrev ds:=a3 ⟨#[118,58,105]⟩
abbrev dt:=fun x1 x2 x3 x4 x5 x6 x7 x8 x9 DX Hg x12=>aW x1 x2 x3 x4 x5 x6 (bJ x7 x8) x9 DX Hg x12
abbrev du:=fun x1 x2 x3 x4 x5 x6 x7 x8=>bQ x1 x2 x3 x4 x5 (bW x6 x7 x8)
abbrev dv:=fun x1=>bZ x1 C
abbrev dw:=D 0
abbrev dx:=fun x1 x2 x3=>u x1 x2 x3 ks
abbrev dy:=fun x1 x2 x3 x4=>dm x1 x2 (m x3) x4
abbrev dz:=fun x1 x2 x3=>kC3 x1 x2 x3 p1
abbrev dA:=a3 ⟨#[118,58,118]⟩
abbrev dB:=fun x1 x2 x3=>S' (aA x1 x2) x3
abbrev dD:=fun x1 x2 x3=>x x1 x2 x3 E'
abbrev dE:=fun x1=>af tF x1
abbrev dF:=fun x1 x2 x3 x4 x5 x6 x7 x8 x9 DX=>bo x1 (d x2) x3 x4 x5 x6 x7 x8 x9 DX
abbrev dG:=Ig p3
abbrev dH:=fun x1=>H p2 x1
abbrev dI:=fun x1=>I qJ x1
abbrev dJ:=fun x1=>vZ x1 0
abbrev dK:=fun x1 x2 x3=>bY x1 (av x2 x3)
abbrev dL:=fun x1 x2=>dD x1 p1 x2
abbrev dM:=fun x1=>t x1 p1
abbrev dO:=fun x1 x2 x3 x4=>dy x1 (m x2) x3 x4
abbrev dP:=fun x1=>dL 1 x1
abbrev dQ:=II false
abbrev dR:=fun x1 x2=>Ie x1 (KQ x2)
abbrev dS:=fun x1 x2 x3 x4 x5 x6=>dx x1 x2 (dr x3 x4 x5 x6)
abbrev dT:=a3 ⟨#[105,58,105]⟩
abbrev dU:=fun x1=>bU vI x1
abbrev dV:=fun x1 x2 x3 x4 x5 x6=>a8 x1 x2 x3 x4 x5 x6 ks
abbrev dW:=fun x1 x2 x3 x4 x5 x6 x7 x8 x9=>am x1 x2 x3 x4 (am x5 x6 x7 x8 x9)
abbrev dX:=fun x1 x2 x3 x4 x5 x6 x7 x8 x9 DX Hg x12 x13=>dt x1 (bJ x2 x3) x4 x5 x6 x7 x8 x9 DX Hg x12 x13
abbrev dY:=fun x1 x2 x3 x4=>R' x1 (bD x2 x3 x4)
abbrev dZ:=fun x1=>bN p1 x1
abbrev dC:=fun x1=>v p2 x1
abbrev dN:=fun x1 x2 x3=>bi x1 x2 x3 E'
abbrev d0:=fun x1 x2=>db (av x1 x2)
abbrev d1:=fun x1 x2 x3=>dO x1 x2 x3 ks
abbrev d2:=fun x1 x2=>Ny (lK.callV x1 x2)
abbrev d3:=fun x1 x2 x3 x4 x5 x6=>dj x1 x2 (d x3) x4 x5 x6
abbrev d4:=fun x1 x2 x3 x4 x5=>b5 x1 x2 B x3 x4 x5
abbrev d5:=fun x1 x2 x3 x4 x5 x6 x7 x8=>Z x1 x2 (l x3 x4) x5 x6 x7 x8
abbrev d6:=fun x1 x2=>I x1 (U x2)
abbrev d7:=q 0
abbrev d8:=fun x1 x2 x3 x4=>bw x1 x2 (Od.t x3) x4
abbrev d9:=fun x1=>aN x1 p1
abbrev dc:=fun x1 x2 x3 x4 x5 x6 x7=>d5 x1 x2 x3 x4 ab x5 x6 x7
abbrev dn:=fun x1 x2 x3 x4 x5=>d3 x1 x2 x3 x4 x5 ks
abbrev ea:=fun x1 x2 x3 x4 x5 x6 x7 x8 x9 DX Hg=>bO x1 x2 x3 p2 x4 x5 x6 x7 x8 x9 DX Hg
abbrev eb:=fun x1 x2 x3 x4=>d8 x1 x2 x3 (Od.t x4)
abbrev ed:=EM false
abbrev ee:=d 0
abbrev ef:=fun x1 x2 x3=>bE x1 1 x2 x3
abbrev eg:=fun x1=>bU A8 x1
abbrev eh:=fun x1 x2=>H (q' x1) x2
abbrev ei:=fun x1=>I x1 p3
abbrev ej:=fun x1 x2 x3 x4=>lF x1 (p x2 x3 x4)
abbrev ek:=fun x1=>bc p1 x1
abbrev el:=fun x1 x2 x3=>D' x1 (d x2) x3
abbrev em:=dP p2
abbrev eo:=dH ab
abbrev ep:=fun x1 x2 x3=>H x1 (l x2 x3)
abbrev er:=fun x1 x2 x3=>ef x1 (q' x2) x3
abbrev es:=fun x1 x2=>be x1 p1 x2
abbrev et:=d9 p2
abbrev eu:=bX pF
abbrev ev:=fun x1 x2 x3 x4 x5 x6=>bS x1 x2 x3 x4 E' x5 x6
abbrev ew:=fun x1 x2 x3 x4 x5=>R' x1 (M x2 x3 x4 x5)
abbrev ex:=df p3
abbrev ey:=fun x1 x2 x3 x4=>D' x1 (aA x2 x3) x4
abbrev ez:=fun x1 x2 x3 x4=>ah x1 (d1 x2 x3 x4)
abbrev eA:=fun x1=>P IntKind.i64 x1
abbrev eB:=fun x1 x2 x3=>de x1 p1 x2 x3
abbrev eD:=fun x1 x2=>E pF x1 x2
abbrev eE:=fun x1 x2=>dz x1 x2 p2
abbrev eF:=fun x1=>d6 pS x1
abbrev eG:=a3 ⟨#[105,118,58]⟩
abbrev eH:=fun x1 x2=>bY x1 (dv x2)
abbrev eI:=fun x1 x2 x3 x4 x5 x6 x7 x8 x9 DX=>ea x1 x2 p1 x3 x4 x5 x6 x7 x8 x9 DX
abbrev eJ:=fun x1=>eE x1 p3
abbrev eK:=a3 ⟨#[105,58,108]⟩
abbrev eL:=bX tF
abbrev eM:=Ny jL
abbrev eO:=fun x1 x2 x3 x4 x5=>a0 x1 x2 x3 (R x4) x5
abbrev eP:=bx p1
abbrev eQ:=dP p3
abbrev eR:=a3 ⟨#[105,118,58,118]⟩
abbrev eS:=fun x1 x2 x3 x4 x5 x6 x7 x8 x9 DX Hg x12 x13 x14 x15 x16 x17=>ai x1 x2 x3 x4 x5 x6 x7 x8 (ai x9 DX Hg x12 x13 x14 x15 x16 x17)
abbrev eT:=fun x1 x2 x3 x4=>aR x1 x2 x3 E' x4
abbrev eU:=pN p7
abbrev eV:=fun x1 x2 x3=>Q' x1 (bb x2) x3
abbrev eW:=fun x1 x2 x3=>er (q' x1) x2 x3
abbrev eX:=z 0
abbrev eY:=fun x1 x2=>J x1 (KQ x2)
abbrev eZ:=fun x1=>af aO x1
abbrev eC:=a2 1
abbrev eN:=fun x1 x2 x3 x4 x5=>eT x1 x2 (bH x3 x4) x5
abbrev e0:=fun x1 x2=>yi x1 x2 p1
abbrev e1:=fun x1=>Cu 0 x1
abbrev e2:=fun x1 x2 x3 x4 x5 x6=>dS x1 (bb x2) x3 x4 x5 x6
abbrev e3:=d 1
abbrev e4:=fun x1 x2 x3 x4=>gF x1 x2 (lK.call x3 x4)
abbrev e5:=dM 16
abbrev e6:=pN p4
abbrev e7:=fun x1=>I EO x1
abbrev e8:=fun x1=>KQ (j x1)
abbrev e9:=fun x1 x2=>dK x1 x2 p5
abbrev ec:=fun x1=>v p3 x1
abbrev en:=fun x1=>bs p1 x1
abbrev fa:=dl 0
abbrev fb:=fun x1 x2 x3 x4 x5 x6 x7=>du x1 x2 x3 x4 x5 x6 p2 x7
abbrev fd:=fun x1 x2 x3 x4 x5 x6 x7 x8=>lF x1 (bI x2 x3 x4 x5 x6 x7 x8)
abbrev fe:=fun x1 x2=>bA x1 x2 no'
abbrev ff:=fun x1 x2 x3 x4 x5 x6 x7 x8=>bQ x1 x2 x3 x4 x5 (bd x6 x7 x8)
abbrev fg:=z 1
abbrev fh:=fun x1=>dH (dE x1)
abbrev fj:=fun x1 x2 x3 x4 x5 x6 x7=>aI x1 (bJ x2 x3) x4 x5 x6 x7
abbrev fk:=fun x1=>v p4 x1
abbrev fl:=fun x1 x2 x3=>dm x1 x2 bq x3
abbrev fm:=fun x1 x2=>KQ (AV.fn x1 x2)
abbrev fo:=fun x1 x2 x3 x4 x5 x6=>fb x1 p1 x2 x3 x4 x5 x6
abbrev fp:=fun x1 x2=>eB x1 x2 0
abbrev fq:=fun x1 x2=>fe x1 (U x2)
abbrev fr:=fun x1 x2 x3 x4=>dY x1 (d x2) x3 x4
abbrev fs:=pN p5
abbrev ft:=fun x1 x2 x3 x4 x5 x6=>ay x1 x2 x3 x4 (R x5) x6
abbrev fu:=fun x1=>H p3 x1
abbrev fv:=fun x1 x2=>aJ x1 x2 p2
abbrev fw:=a3 ⟨#[105,108,58]⟩
abbrev fx:=fun x1 x2 x3 x4=>dx x1 x2 (bL x3 x4)
abbrev fy:=oC aF
abbrev fz:=fun x1=>P IntKind.u32 x1
abbrev fA:=fun x1 x2=>ep p1 x1 x2
abbrev fD:=fun x1=>fp 6 x1
abbrev fE:=fun x1 x2 x3 x4 x5 x6=>a8 x1 0 x2 x3 x4 x5 x6
abbrev fF:=fun x1 x2 x3=>bj x1 aT x2 x3
abbrev fG:=ei A8
abbrev fH:=fun x1 x2 x3=>aH x1 (Y x2) x3
abbrev fI:=fun x1 x2=>p x1 xw x2
abbrev fJ:=d 10
abbrev fK:=df p4
abbrev fL:=fun x1 x2 x3 x4=>M x1 x2 x3 (R x4)
abbrev fM:=fD 7
abbrev fO:=eA p1
abbrev fP:=d 11
abbrev fQ:=fun x1 x2 x3 x4 x5 x6=>a9 x1 x2 x3 x4 (R x5) x6
abbrev fR:=fun x1 x2 x3=>bM x1 p2 x2 x3
abbrev fS:=fun x1 x2 x3 x4 x5=>az x1 x2 x3 (ah x4 x5)
abbrev fT:=fun x1 x2 x3 x4 x5 x6 x7 x8 x9=>eI x1 x2 x3 x4 x5 x6 x7 x8 1 x9
abbrev fU:=fun x1 x2=>Ie x1 (U x2)
abbrev fV:=fun x1=>af zy x1
abbrev fW:=fun x1=>bU tG x1
abbrev fX:=Od.t 41
abbrev fY:=fun x1 x2 x3 x4=>d4 x1 0 x2 x3 x4
abbrev fZ:=fun x1 x2 x3=>bT 16 x1 x2 x3
abbrev fC:=a2 64768
abbrev fN:=bX oM
abbrev f0:=fun x1=>d0 x1 p4
abbrev f1:=f0 113
abbrev f2:=fun x1 x2 x3=>az x1 x2 x3 ks
abbrev f3:=fun x1=>d6 tG x1
abbrev f4:=fun x1=>aN x1 p2
abbrev f5:=ei pF
abbrev f6:=fun x1=>es 16 x1
abbrev f7:=fun x1 x2 x3 x4 x5 x6 x7=>eN x1 x2 x3 x4 (bl x5 x6 x7)
abbrev f8:=fun x1 x2 x3=>bC x1 x2 no' x3
abbrev f9:=bp 0
abbrev fc:=fun x1 x2 x3=>D' x1 (Ig x2) x3
abbrev fn:=fun x1 x2 x3 x4 x5=>b3 x1 x2 x3 (b8 x4) x5
abbrev ga:=fun x1=>l 0 x1
abbrev gb:=fun x1 x2 x3 x4 x5 x6=>bI x1 x2 x3 a5 x4 x5 x6
abbrev gd:=dU 4294967295
abbrev ge:=d 2
abbrev gf:=fun x1 x2 x3 x4 x5=>N x1 x2 (dM x3) x4 x5
abbrev gg:=fun x1 x2 x3=>kC2 x1 x2 (U x3)
abbrev gh:=fun x1=>v p1 x1
abbrev gi:=fun x1 x2=>bl x1 x2 F
abbrev gj:=fun x1 x2 x3=>adq x1 x2 false x3
abbrev gk:=Od.t 39
abbrev gl:=fun x1 x2=>eH (dC x1) x2
abbrev gm:=fun x1 x2 x3 x4 x5=>ay x1 x2 x3 x4 E' x5
abbrev go:=fun x1 x2 x3 x4 x5 x6 x7 x8=>gf x1 x2 x3 (b0 x4 x5 x6 x7) x8
abbrev gp:=fun x1=>l 1 x1
abbrev gq:=xC p5
abbrev gr:=dU 9259542123273814144
abbrev gs:=fun x1 x2 x3 x4 x5 x6 x7 x8=>lF (al x1 x2 x3 x4 x5 x6 x7) x8
abbrev gt:=fun x1 x2 x3 x4 x5 x6 x7 x8 x9 DX Hg=>fT x1 x2 x3 x4 x5 (fR x6 x7 x8) x9 DX Hg
abbrev gu:=dv p3
abbrev gv:=fun x1 x2 x3 x4=>ez x1 x2 x3 (b x4)
abbrev gw:=f4 p4
abbrev gx:=bn 1
abbrev gy:=fun x1 x2=>yi x1 p4 x2
abbrev gz:List AV:=[au,au,au,au,au,au,au,au,au,au,au,au,au,au,au,au]
abbrev gA:List AV:=[ag,ag,ag,ag,aj]
abbrev hD:=dp 44 0 1 fJ (eJ 128) E'
abbrev hy:=bg [ag]
abbrev hz:List AV:=[aT,aT]
abbrev hO:=eD p8 1
abbrev hM:=b4 p4 p2
abbrev hI:=d2 gk [Od.t 40,fX]
abbrev i3:=dp 39 4 10 (ak 2 12) hI E'
abbrev hG:=e9 eL 109
abbrev hP:=ah 21 ks
abbrev hA:=bD (w [aT,F] [(1,1,Od.t 25)]) dk 10
abbrev gB:=fE 13 3 a5 ge hG (da 19 3 a5 fa hP (fY 22 1 hA (a8 28 10 3 a5 hy f1 (da 33 3 a5 bq (bu 0 36 p1 p2 36 0 1 (go 37 hM 2 12 hz 2 12 i3) 43 hO 35) hD))))
abbrev gD:List AV:=[ag,ag,ag,dw,dw,aT]
abbrev gE:List AV:=[aT,aT,aT,aT,aT,aT,aT,ag,aT,aT,aT]
abbrev hB:=f7 3 p3 ed aT 4 2 aT
abbrev gG:=fF 2 hB (ft 5 (aY 0 2 hz []) b7 (fv 2 48) 2 ks)
abbrev hK:=R 5
abbrev iM:=N' eM E'
abbrev gH:=an 9 p9 a5 bq E' (fT 0 12 12 0 1 (N 13 gw ab hK (a8 15 3 5 a5 f5 (R 3) (ev 19 3 qJ 0 20 (aB 21 eM iM)))) 22 11 11)
abbrev hF:=k (v p6 ab) (v p7 a5) (v p8 (I pG p7)) (dv p9) E'
abbrev hH:=bm 0
abbrev gI:=ai (dC hH) gu ad (dZ 1) (bN p2 0) (ec B) (fk d7) (v p5 d7) hF
abbrev gJ:List AV:=[dw,dw]
abbrev gK:List AV:=[ag,f9,aT,ag]
abbrev gL:=q 1
abbrev gM:List AV:=[ag,ag,F,aT,aT]
abbrev gO:=dp 39 4 10 (ak 3 12) hI E'
abbrev gP:=d 6
abbrev gQ:=d 8
abbrev gR:=Gb 1 p2 (so' p1) no'
abbrev gS:=R 6
abbrev gT:=q 3
abbrev gU:=d 7
abbrev gV:=P IntKind.u8 p1
abbrev gW:=q 2
abbrev gX:=bH dQ bK
abbrev gY:=bH vI (bp 31)
abbrev gZ:=bg [dw]
abbrev gC:=d 4
abbrev gN:=P IntKind.i32 p1
abbrev jh:=dI p3
abbrev g0:=v p5 jh
abbrev g1:=dC ab
abbrev g2:=fz p1
abbrev g3:=Xa 42 p4 p3 p2 p1
abbrev h7:=bg [au]
abbrev g4:=bD h7 (aJ 1 1 p5) 3
abbrev g5:=d6 qt 64
abbrev h4:=aX 41
abbrev jo:=fk (ei pG)
abbrev g6:=k (bN p2 1) (ec h4) jo (dv p5) E'
abbrev g7:=ali 1 (wO' p2) (wO' p1)
abbrev g8:=b4 p2 p1
abbrev g9:=H p4 ab
abbrev gc:=bb 4
abbrev gn:=gg 170 p1 127
abbrev ha:=JG 16 1 false p4 p3
abbrev hb:List AV:=[aT,aT,aT,aT,aT,aT,aT]
abbrev hd:=aX 177
abbrev he:=dR [au] au
abbrev hf:=dZ 0
abbrev hg:=e9 hy 113
abbrev hh:=es 2 0
abbrev it:=R 12
abbrev iD:=Ga p2 p1
abbrev hi:=k (Ih p2 p1) (d 14) iD b9 it
abbrev hj:=Od.t 30
abbrev hk:List AV:=[ag,ag,aT,aT,F,F]
abbrev hl:=d 5
abbrev hm:=dv p6
abbrev ho:=e7 p5
abbrev hp:=z 7
abbrev hq:=ak 11 1
abbrev hr:=dM 2
abbrev hs:=ek 0
abbrev ht:=xC p7
abbrev hu:=xC p8
abbrev hv:=eT 5 p4 hH (ah 6 (aB 7 eM iM))
abbrev hw:=Od.t 35
abbrev hx:=bU r 0
abbrev hE:=w gz []
abbrev hJ:=q 13
abbrev hL:=Y gz
abbrev hQ:=d 9
abbrev hR:=ec (bH qJ (j 128))
abbrev hS:=gj 0 1 p1
abbrev hT:=ON p1
abbrev hU:=oC aj
abbrev hV:=bY ee (aX 194)
abbrev hW:=gp 3
abbrev hX:=asF (wO' p1)
abbrev hY:=a3 ⟨#[105,105,58]⟩
abbrev hZ:=al 6 p6 a5 eU a5 (db (ei aO)) (gi 10 4)
abbrev hC:=d 3
abbrev hN:=F' pS (U 2) p3
abbrev h0:=q 5
abbrev h1:=Od.t 31
abbrev h2:=Od.t 32
abbrev h3:=Od.t 34
abbrev h5:=bP 0
abbrev h6:=bb 3
abbrev h8:=d 12
abbrev h9:=ga 3
abbrev hc:=bX qJ
abbrev hn:=b2 0
abbrev ia:=bb 5
abbrev ib:=bc (q' 45) 0
abbrev ie:=f6 0
abbrev ig:=m aT
abbrev ih:=q 12
abbrev ii:=Od.t 20
abbrev ij:=Od.t 33
abbrev ik:=Od.t 36
abbrev il:=R 4
abbrev im:=U 512
abbrev io:=aJ 1 8 p3
abbrev ip:=fZ 1 9 p1
abbrev iq:=gh bB
abbrev ir:=wa 5 1 (q' 3) no' (so' p1)
abbrev iu:List AV:=[ag,F,aT]
abbrev iv:=aN p1 (U 0)
abbrev iw:=dh 169
abbrev ix:=ec (dI (e8 191))
abbrev iy:=eh 45 (fq p2 24)
abbrev iz:=fL a5 (ei oM) (I oM p6) 1
abbrev iA:=fv 1 1
abbrev iB:=k ab e3 et ab (f 4 p1 (eY 5 C))
abbrev iE:=Od.t 21
abbrev iF:=Od.t 23
abbrev iG:=Od.t 24
abbrev iH:=Od.t 28
abbrev iI:=Od.t 29
abbrev iJ:=Od.t 38
abbrev iK:=Od.t 46
abbrev iL:=Od.t 55
abbrev iO:=R 7
abbrev iP:=ao p2
abbrev iQ:=b4 p5 p3
abbrev iR:=bX pS
abbrev iS:=dJ p1
abbrev iT:=dM 11
abbrev iU:=df p6
abbrev iV:=dv p4
abbrev iW:=f 6 p1 (eY 7 C)
abbrev iX:=fk ab
abbrev iY:=d 13
abbrev iZ:=gp 1
abbrev iC:=k e3 hl et ab (db (I aO p5))
abbrev iN:=z 16
abbrev i0:=z 2
abbrev i1:=aX 142
abbrev i2:=aX 158
abbrev i4:=KQ aT
abbrev i5:=Od.t 22
abbrev i6:=Od.t 26
abbrev i7:=Od.t 27
abbrev i8:=Od.t 42
abbrev i9:=Od.t 45
abbrev ic:=M gx gq gW eQ
abbrev ja:=a3 ⟨#[105,105,58,105]⟩
abbrev jb:=ah 26 (dS 27 hE 16 6 7 1)
abbrev jd:=ak 11 2
abbrev je:=bU r 18446744073709551615
abbrev jf:=br p7
abbrev jg:=dC (en 2)
abbrev ji:=eF 2
abbrev jj:=eJ 37
abbrev jk:=eg 32
abbrev jl:=fZ 1 8 p6
abbrev jm:=fc 2 p4 (bY (Y hz) (m F))
abbrev jp:=gy 3 p2
abbrev jq:=k ab a5 hy (av 113 p7) E'
abbrev jr:=yi 6 p5 p3
abbrev js:=m bK
abbrev jt:=m dw
abbrev ju:=v p5 ab
abbrev jv:=z 13
abbrev jw:=ado Rq p1
abbrev jx:=b0 8 gz 16 8
end Y
open Y
def Tryz.x3:=fB 97 [.tmp 4]<|gm 2 bR bR (m F) (W (dm 19 (kC0 5) eP (gi 20 4)) (bI 21 0 2 (aX 6) eP E' (bl 24 4 C)) (lF (aU 5 ag (ap 0 (aM (a9 25 5 tF 5 E' (a6 26 0)) 1 (L 30 (ak 6 2) hl ir (aA 7 [hj,h2]) (fo 29 p5 0 p6 6 7) (lF (ev 36 7 aO 0 37 (Ur 1)) (bj 8 F (aU 9 ag (ap 2 (aM (a9 38 9 qJ 40 E' (a6 39 2)) 3 (a8 43 9 5 gP a5 (S' (dz 8 p4 p3) (f 42 p1 (M (dJ p6) (ao p7) (vZ p8 2) (f 10 p3 (bW 11 p2 12))))) (lF (a0 51 12 eP E' (ah 52 (Ur 3))) (fF 13 (aU 14 ag (ap 4 (aM (a8 53 14 10 a5 jh E' (a6 56 4)) 5 (dp 59 13 14 (w gD [(0,1,z 32),(1,1,.t 60)]) (aY 1 6 gD [(0,.t 61)]) (dq (aJ 6 64 p4) 13)) (fr 57 14 gx 14)))) (u 64 (l 5 2) (dP i4) (a8 66 10 11 iY (ak 6 2) (k (aY 1 6 gD [(0,.t 69)]) (aJ 6 64 p3) (dz 10 p6 p5) (kC2 9 p1 i4) (f 65 p1 (M (dJ p9) (ao (q' 65)) (vZ (q' 65) 2) (f 15 p3 (bW 16 p2 17))))) (lF (a0 77 15 gX E' (ah 78 (Ur 3))) (a8 79 17 5 ir (Xa 11 p3 (U 0) p1 (U 100)) (b0 18 gK 4 18) (aU 8 C (L 83 (ak 4 18) gP fJ a5 (k (d6 oM 99) (w gK [(2,1,.t 84),(3,1,.t 87)]) (av 12 p6) eP E') (gi 90 4)))))))))) (fr 40 9 gx 9)))) (Z 91 8 eP ad (H p1 (ak 6 2)) (bY (dH (aX 13)) ex) (gi 96 4))))) (fr 27 5 gx 5)))) (ac 4 C)))
def Tryz.x5:=fB 39 [.tmp 0]<|aU 0 F (N 6 (kC0 22) (aX 21) (fo 5 p3 0 p4 1 2) (gs 10 p9 gX ad (dZ 2) (gl (eZ 0) p3) (gi 15 0) (aL 16 1 (kC1 24 i4) (b8 23) (R 3) (aL 19 3 (dR [dw] (D 41)) (Xa 11 p2 (U 0) p1 (U 3)) (b0 4 gK 4 4) (L 22 (ak 4 4) (dR [dw] (D 42)) (w gK [(2,1,iF)]) (dh 12) (ai ad (ek 3) (dH (dR [dw] (D 41))) (fu (Xa 11 p2 (U 0) p1 (U 2))) (H p4 (w gK [(0,1,z 27)])) (H p5 (b8 12)) iU ad (k (ek 3) (dH (Xa 11 p1 (U 1) i4 (U 9))) (fu hS) (H p4 (dl 1)) (dq (df p5) 0))) ks)))))
def Tryz.x6:=fB 25 [.tmp 2]<|aU 2 F (aR 6 p6 (aX 25) (ff 5 p1 p3 0 p4 3 gM (x 5 p7 p2 il)) (al 10 p6 ad hs (dH (bP 64768)) (ai ex ad (fA 0 3) eo (fu (eZ 7)) fK ad (fA 0 3) (fL eo (fu (eZ 8)) fK 2)) ks))
def Tryz.x7:=fB 69 [.tmp 4,.tmp 5]<|e 4 (fc 2 p4 (bY ig bq)) (lF (bI 14 0 2 (aX 6) eP E' (gv 17 4 aT 1)) (ay 19 (ga 2) ab (aX 25) (ff 18 p1 p4 0 p5 6 gM (aK 5 6 p2 iO)) (bI 25 3 6 e3 (b8 26) (fo 24 p5 0 p6 8 9) (W (ev 31 9 aO 0 32 (e 4 (el 33 9 (bY ig (d 33))) ks)) (bI 34 4 6 iv ab (db (eZ 123)) (ah 38 (L 40 (ak 6 2) gQ ie e5 (dB 27 [.t 40,.t 43] (fo 39 p6 0 p7 10 11)) (lF (ev 47 11 aO 0 48 (e 4 (el 49 11 (bY ig (d 49))) ks)) (a0 50 10 gZ (fp 4 5) ks))))) (L 53 (ak 6 2) (ak 5 6) gQ (eJ 28) (ff 52 p1 p5 0 p6 12 gz (aK 16 12 p2 (R 9))) (lF (ev 59 9 aO 0 60 (e 4 (el 61 9 (bY ig (d 61))) ks)) (N 62 (bb 12) (aX 17) (b0 13 gJ 2 13) (bI 64 0 13 (gp 13) ab (S' (aY 2 1 [dw] [(0,.t 65),(1,.t 67)]) (fp 4 5)) ks))))))))
def Tryz.x8:=fB 60 [.tmp 6,.tmp 7,.tmp 8]<|gm 6 ig ig (m F) (u 16 (w [ag,ag,ag,ag] [(0,1,eX),(1,1,z 127),(2,1,z 126),(3,1,z 123)]) (bd 9 [ag,ag,ag,ag] (dD 4 p8 p1)) (aU 10 aT (aU 11 ag (az 17 ee 12 (W (ev 18 0 r 36 19 (az 20 (aY 3 1 [ag] [(0,z 123),(1,z 123),(2,z 123)]) 10 (aB 11 (m (b 6)) E'))) (aU 13 ag (ap 0 (aM (al 21 p8 (bm 2) ad hs (bY (dH (bm 32)) ex) (a6 26 0)) 1 (Z 29 12 (fV 4) (bT 4 1 9 p1) ab (R 14) (fQ 33 12 qt 4 12 (ev 35 14 aO 0 36 (a8 37 10 14 hy io (R 10) (fQ 41 11 pF 1 11 (ev 43 14 r 123 44 (fr 45 11 gx 11))))))) (fr 27 13 gx 13)))) (az 47 (fU [ag] 123) 15 (lF (ev 48 2 r 1 49 (az 50 (fU [ag] 127) 15 (b3 51 12 (fV 2) (dl 1) (ah 53 (aS 54 (fU [ag] 126) 15))))) (dV 55 10 15 fP e3 (S' (bX r) (f 6 p5 (bW 7 p4 8)))))))))))
def Tryz.x9:=fB 28 [.tmp 4,.tmp 5,.tmp 6]<|e 4 (fc 2 p4 (M js js js E')) (N 11 (t 11 p9) (aX 21) (fo 10 p3 0 p4 7 8) (gs 15 p8 gX ad (dZ 8) (gl (eZ 0) p3) (ah 20 (gm 4 js js js ks)) (eO 21 1 (aX 24) 9 (dV 23 7 9 gU hQ (S' (b8 23) (f 4 p5 (bW 5 p4 6)))))))
def Tryz.DX:=fB 41 [.cell 6 11 true]<|fH 6 gE (u 9 (w gD [(0,1,z 11)]) (bd 7 gD (dD 6 p3 p1)) (e 20 (dW 10 ee 11 e3 12 (w hz [(0,1,.t 10),(1,1,.t 11)]) 15 (w [ag,ag] [(0,1,fg),(1,1,fg)]) (el 18 2 (S' (ak 6 7) (am 17 (aY 0 6 gD []) 19 (eb 6 64 17 18) (Q' p1 (ak 6 7) (M (aY 1 6 gD [(0,ii)]) (eb 6 64 19 21) (w hz [(1,1,i5)]) (am 13 (aY 1 2 hz [(0,.t 12)]) 14 (fU [ag] 0) (D' 16 (aY 1 2 [ag,ag] [(0,.t 15)]) (a (aY 1 2 hz [(0,iF)]) (w gE [(7,1,z (-1)),(0,1,.t 13),(2,1,.t 14),(4,1,.t 16),(9,1,iG)]) (bd 8 gE (dN 11 8 25))))))))))) (L 26 (w gD [(0,1,z 65)]) (ak 6 7) (aY 2 6 gD [(0,i6),(1,i7)]) (w iu [(0,1,z 127),(1,1,oC C),(2,1,iH)]) (ai (w gD [(0,1,z 66)]) (ak 6 7) (aY 2 6 gD [(0,hj),(1,h1)]) (w iu [(0,1,z 126),(1,1,oC C),(2,1,h2)]) (w gD [(0,1,z 64780)]) (ak 6 7) (aY 2 6 gD [(0,h3),(1,hw)]) (w iu [(0,1,z 123),(1,1,oC C),(2,1,ik)]) (a (aY 3 3 iu [(0,iI),(1,ij),(2,.t 37)]) (l 5 8) em)) (fx 40 (ak 11 8) 11 6))))
def Tryz.Hg:=fB 109 [.cell 8 4 true]<|fH 8 gK (lF (Z 19 0 gX ad hf (ai (dC B) (ec d7) iX (v p5 gX) hm ad hf (dC B) (k (ec gL) iX (v p5 gX) hm E')) (ah 34 (fx 35 (w gK [(0,1,i0)]) 4 8))) (bG 37 0 B 2 iT (a e3 (b8 29) (ff 36 p1 p7 0 p8 9 hz (aK 2 9 p2 (R 10)))) (fd (a0 45 10 eP E' (ah 46 (fx 47 (w gK [(0,1,fg)]) 4 8))) 49 0 9 ge (b8 26) (fo 48 p5 0 p6 11 12) (lF (ev 55 12 aO 0 56 (fx 57 (w gK [(0,1,fg)]) 4 8)) (fE 58 3 (Ih p1 (U 0)) (Ga p1 (U 100000)) (bD (w [bK,ag,ag,ag] [(0,1,.t 58),(1,1,.t 61)]) dk 13) (fF 14 (b3 64 11 a5 bq (bu 0 67 p1 p2 67 0 1 (N 68 (gy 16 p2) e5 (b0 16 gz 16 16) (bk 70 14 (bb 16) (aX 17) (aY 1 2 gJ [(0,.t 72)]) (dq (aJ 2 16 p4) 14))) 75 (eD p9 1) 66)) (a8 76 13 1 (d 14) (eJ 30) (R 17) (d4 80 13 3 (k iY B gL ab (S' (w gK [(0,1,.t 83),(3,1,.t 87)]) (bd 18 gK (dN 4 18 88)))) (lF (d4 89 13 3 E' (Cu 2 (aI 94 (E r p2 0) 93 93 (aQ 95 (gp 9) ab (d 17) (b8 31) (S' (l 2 18) em)) (fS 101 (E r p9 28) 100 100 (bk 102 0 B gL ab (a (aX 32) (gp 18) em)))))) (fx 108 (ak 4 18) 4 8))))))))))
def Tryz.x12:=fB 31 [.tmp 4]<|gm 2 bR bR (m F) (L 5 (br p3) ab (br p4) ab (eS (ei r) ad (H p1 (dg p9)) eo (ep p3 1 3) g9 (H p5 (ei r)) iU ad (fA 3 2) eo (ep p3 3 3) g9 (H p5 (ei r)) iU ad (k (fA 2 2) eo (ep p3 2 3) g9 (bD (H p5 (dh 33)) iU 4))) ks)
def Tryz.x13:=fB 53 [.tmp 2]<|dy 1 dk F (L 4 (dg p3) ab fa ad (ai (gh jf) g1 (ec (bP 64789)) (fk ad) (fA 0 1) eo (fu (dE 64798)) (v p8 fK) (dq (dv p9) 3)) (bI 17 2 1 fa ad (eS (fA 1 1) eo (fu h5) fK ad (fA 1 1) eo (fu (bm 256)) fK ad (ek 3) (df p2) ad (fA 3 1) eo (fu hx) (eS (H p4 ad) (fA 4 1) eo (fu hx) (H p8 fK) (H p9 ad) (gh (ga 1)) g1 (ec (dl 64780)) (eh 33 iV) (eh 33 ad) (gh (ga 1)) g1 (ec (dl 64781)) (eh 33 iV) (df (q' 33)) (R 2))) ks))
def Tryz.x15:=fB 9 [.tmp 2]<|bj 2 bK (f7 3 p3 dQ bK 4 2 bK) (al 5 p5 B (q 15) ab (R 2) ks)
def Tryz.x17:=fB 8 [.cell 2 2 true]<|dm 1 dk (Y gJ) (e 5 (D' 3 (wa 16 1 p4 no' (so' (U 8))) (S' (wa 16 1 p4 (so' (U 8)) no') (ey 4 35 [.t 3] (Q' p1 (wa 16 1 p5 (so' (U 8)) no') (a (aA 35 [.t 5]) (w gJ [(0,1,.t 4),(1,1,.t 6)]) (dN 2 2 7)))))) ks)
def Tryz.x21:=fB 117 [.tmp 2,.tmp 3]<|gm 1 dk js bq (lF (N 12 hq (aX 50) il (ev 14 4 aO 0 15 (e 2 (el 16 4 (bY js (d 16))) ks))) (L 17 hq (aX 51) (w [aT,aT,aT,aT,aT,aT,aT,aT,aT,aT,aT,ag,aT,aT,aT,bK] [(4,11,.t 18)]) dk hK (W (gb 21 5 1 bq E' (fT 0 25 25 0 1 (go 26 jp 3 7 iu 3 7 (dF 28 5 B d7 (ga 7) ab (l 2 7) ab (es 6 0) (bY (dM 6) (aA 52 [hj,h2,ik])))) 38 24 24)) (gb 39 3 1 hn E' (ah 42 (dF 43 5 (fU [ag] (-1)) (l 3 1) ab hh d7 ab (av 53 p6) (M hu gT d7 (dP p4))))) (W (gb 54 4 1 hn E' (ah 57 (dF 59 5 (l 4 1) ab hh d7 ab (l 4 1) ab (k hh gL ab (aA 54 [.t 64,.t 69]) (f 58 p1 (k (dJ (q' 58)) (ao (q' 58)) (b1 59) (q 15) (dN 1 74 71))))))) (gb 75 8 1 bq E' (fT 2 79 79 2 3 (go 80 hM 2 9 hz 2 9 (bG 82 5 B 3 (ga 9) (ai ab (es 6 0) gT ab (gp 9) ab (aA 55 [.t 84,.t 89,.t 91]) eP E') (gv 93 2 bK 13))) 94 78 78)) (lF (gb 95 10 1 bq E' (fT 4 99 99 4 5 (go 100 hM 2 11 hz 2 11 (d4 102 5 15 (ai (ga 11) ab (es 6 0) gT ab (gp 11) ab (aA 56 [.t 105,.t 110,.t 112]) (db (eZ 0))) (gv 114 2 bK 14))) 115 98 98)) (e 2 (el 116 5 (bY (d 116) bq)) ks))))))
def Tryz.x22:=fB 14 [.cell 0 11 true]<|fH 0 gE (L 1 (fU [ag] 127) (fU [ag] 127) (w hz [(0,1,.t 1),(1,1,.t 2)]) (aY 1 2 hz [(0,.t 3)]) (ai (fU [ag] 0) (w gD [(0,1,z 32)]) (w gD [(0,1,z 65),(3,1,oC (D 1))]) (w gD [(0,1,z 106)]) (w gD [(0,1,z 11)]) (aY 4 6 gD [(0,.t 6),(1,.t 7),(2,.t 8),(3,.t 9)]) (w hz [(1,1,.t 10)]) (aY 1 2 hz [(0,.t 11)]) (S' (w gE [(7,1,z (-1)),(0,1,.t 4),(2,1,.t 5),(9,1,.t 12)]) (bL 11 0))) ks)
def Tryz.x23:=fB 57 [.tmp 4]<|aU 4 bK (fE 10 1 ee (aX 57) (bD (w [bK,bK,aT,aT,aT,aT,aT,aT,aT,ag,aT,aT,aT,aT] [(0,1,.t 10),(1,1,.t 11),(2,11,.t 13)]) dk 5) (lF (bG 16 5 B 2 (q 9) (M ab a5 bq E') (fT 0 23 23 0 1 (an 24 p2 iQ hr (bd 7 hz (f 6 p3 (bL 2 7))) (bG 28 5 B 2 iT (ai hl B gW gL ab a5 gP eu (dB 29 [h1,gk] (ff 27 p1 (q' 27) 0 (q' 27) 8 hz (bi 2 8 41 (R 9))))) (dF 43 5 hl B hJ ab (ak 2 8) (ak 2 7) (aA 58 [.t 48,.t 49]) (ef p4 p5 (k (aY 1 7 hb [(0,.t 50)]) (eb 7 168 47 51) (b1 43) hJ (dN 1 54 52)))))) 55 22 22)) (f2 56 hl 4)))
def Tryz.x24:=fB 11 [.tmp 2]<|aU 2 bK (al 3 p3 e6 a5 (Ga p1 (U 4096)) (k (f8 1 p4 p1) (aX 59) (w [aT,aT,f9] [(0,1,.t 8)]) dk (R 2)) ks)
def Tryz.x25:=fB 72 [.cell 2 5 true,.tmp 3]<|dy 2 (Y gM) F (az 12 (kC0 60) 4 (W (ev 13 0 pG 64768 14 (aS 15 (kC0 61) 4)) (b3 16 4 a5 bq (fT 0 19 19 0 1 (go 20 (gy 5 p2) 5 6 gA 5 6 (fd (dc 22 0 0 6 jh (k ad hf (dC (gp 6)) (ec ab) (eH (fk (ei pT)) p5)) (ah 31 (Ur 1))) 32 2 6 (l 3 6) ab (k (l 4 6) ab (bH (IG true) aj) (w gM [(0,1,ij),(1,1,hw),(2,1,iJ)]) (b0 7 gM 5 7)) (bj 8 F (bI 40 4 6 (adp p1) a5 (db bq) (fT 2 45 45 2 3 (N 46 gw ab (R 10) (bj 11 (b 127) (aH 48 fJ (Cu 4 (aW 50 (i r p2 (j 58)) 49 49 (aU 8 C (Ur 3)) 52 (i r p4 (j 108)) 51 51 (aB 11 (m (b 126)) E') (fS 54 (i r p6 (j 118)) 53 53 (aB 11 (m (b 123)) E'))))) (aH 55 gQ (p 55 (aQ 56 (l 4 7) ab fP hy (a io (l 4 7) em)) (aQ 62 (l 3 7) ab fP hy (a io (l 3 7) em)))))) 68 44 44)) (dx 69 (ak 5 7) (bt 5 2 (eY 3 C)))))) 70 18 18)) (dx 71 (w gM []) (bt 5 2 (eY 3 F)))))
def Tryz.x26:=fB 56 [.tmp 4,.tmp 5]<|fl 4 ig (aU 6 aT (W (b3 11 0 a5 bq (fT 0 14 14 0 1 (N 15 gw ab (R 8) (aU 9 (b 1) (W (aH 17 bB (Cu 2 (ej (aI 19 (E r p2 127) 18 18 xw (aS 20 (E r p3 126) 18)) 18 xw (aI 22 (E r p5 123) 21 21 (aB 9 (m (b 2)) E') (d1 4 aT (b 1)))))) (Z 23 1 a5 hQ hc E' (gv 26 4 aT 1)) (Z 27 1 iv ab (w gJ [(0,1,iI)]) (b0 10 gJ 2 10) (W (ev 31 8 r 127 32 (aQ 33 (ga 10) ab gd (ga 10) em)) (ev 37 9 r 2 38 (bk 39 1 (aN p1 (U 1)) ab (gp 10) em)) (Z 43 6 (ak 2 10) (aX 39) (aY 1 16 gz [(0,i9)]) (dq (aJ 16 16 p4) 6) (ew 48 e3 hQ gR (R 1)))))))) 51 13 13)) (b3 52 1 a5 hn (gv 54 4 aT 1)) (e 4 (el 55 6 (bY (d 55) bq)) ks)))
def Tryz.x27:=fB 27 [.tmp 4,.tmp 5]<|L 2 bR bR jt bq E' (fd (L 9 jf ab (t 16 p8) (b8 62) (fo 8 p5 0 p6 6 7) (eT 15 p8 fa (ah 16 (a0 17 6 b9 (fp 4 5) ks)))) 19 0 2 (gp 2) ab (k h6 (eE 63 p4) iS iP (bW 4 p2 5)) ks)
def Tryz.x28:=fB 178 [.cell 6 16 true,.tmp 7]<|N 3 dG dG (bd 6 gz (bz 7 0)) (bI 17 3 3 (l 4 3) ab (a (w gJ [(0,1,.t 18),(1,1,ii)]) (aX 39) jx) (W (e1 (ft 24 (ga 4) ab (dl 11) 23 (p 23 (e2 27 8 16 6 7 0) (ft 29 (ga 4) ab (dl 12) 28 (p 28 (L 32 (bb 8) ge ie e5 (k ge (f6 1) e5 (aA 64 [h2,hw,iJ]) (bf p1 0 p2 (bi 16 6 40 iO))) ks) (ft 43 (ga 4) ab (dl 13) 42 (p 42 (bI 46 0 3 hW ab (k ge ie e5 ge (M (f6 1) e5 (aA 37 [iL,z 64,eX]) (eW 47 46 (ef p8 p9 (Q' p5 (t 16 p6) (M (aA 65 [.t 47,.t 49,.t 52,.t 56]) iS iP (bi 16 6 58 iO))))))) ks) (ft 61 h9 ab (dl 64782) 60 (p 60 (Z 64 2 ie e5 ge (M (f6 1) e5 (aA 66 [.t 66,.t 69]) (bi 16 6 70 (bz 7 0))) ks) (bI 72 3 4 iv ab (dq (eZ 123) 71) (ah 71 (bI 77 0 3 ge ie (a e5 (aA 37 [.t 81,z 64,eX]) (ef p5 p6 (M (aA 67 [.t 78,.t 82]) iS iP (bi 16 6 84 iO)))) ks)))))))))))) (bI 87 0 3 ge (b8 68) (ff 86 p1 p5 0 p6 9 gz (aK 16 9 p2 (R 10))) (ev 93 10 r 0 94 (e2 95 9 16 6 7 0))) (W (b3 96 2 a5 (dl 1) (ah 98 (fd (bI 100 0 3 ge ie (a e5 (aA 69 [.t 101,.t 104]) (ff 99 p1 p7 0 p8 11 gz (bi 16 11 106 it))) (ev 108 12 r 0 109 (e2 110 11 16 6 7 0))) 111 0 3 ge ie (k e5 (aA 70 [.t 112,.t 115]) iS iP (bi 16 6 117 iO)) ks))) (bI 119 3 4 (aN p1 (U 1)) ab (db (dl 127)) (ah 123 (bI 124 0 3 ge ie (k e5 ge (f6 1) e5 (dB 37 [.t 131,z 32,eX] (ef p8 p9 (Q' p5 (t 16 p6) (k g2 (aA 71 [.t 125,.t 128,.t 133]) iS iP (bi 16 6 135 iO)))))) ks))) (W (bI 138 0 3 ge ie (k e5 ge (f6 1) e5 (dB 72 [.t 139,.t 142,.t 145] (ff 137 p1 (q' 137) 0 (q' 137) 13 gz (bi 16 13 147 (R 14))))) (ev 149 14 r 0 150 (e2 151 13 16 6 7 0))) (bI 153 0 3 ge ie (k e5 ge (f6 1) e5 (dB 73 [.t 154,.t 157,.t 160] (ff 152 p1 (q' 152) 0 (q' 152) 15 gz (bi 16 15 162 (R 16))))) (ev 164 16 r 0 165 (e2 166 15 16 6 7 0))) (bI 167 0 3 ge ie (k e5 ge (f6 1) e5 (M (aA 74 [.t 168,.t 171,.t 174]) iS iP (bi 16 6 176 iO))) ks)))))
def Tryz.x29:=fB 50 [.cell 4 2 true,.tmp 5]<|e 4 jm (bj 6 (b (-1)) (ft 8 (dg p6) ab a5 7 (e1 (Z 12 1 h5 ad (ek 1) (fL (dH bB) (fu hc) fK 11) (p 11 (aQ 19 (gp 2) ab e3 (e0 3 p2) (bD gW ab 6)) (a8 26 1 7 (bX pG) ad (ai (ek 1) (bc p2 7) (fu fN) (ep p4 2 2) (H p5 ab) (H p6 a5) (H p7 (dI p4)) (df p8) (R 25)) (ah 25 (aQ 38 (l 2 2) ab e3 gU (fL fN (d9 p4) ab 6)))))))) (L 45 jd gP (b8 75) iS (S' iP (aK 2 4 p2 hK)) ks))
def Tryz.x30:=fB 98 [.tmp 6]<|aU 6 aT (W (al 9 p8 ee B d7 (k ab B gW gL (M ab a5 (dI (q' 9)) E')) (ah 19 (dV 20 0 1 ge (eJ 76) gS))) (fY 24 2 (db (dl 64)) (ah 28 (aL 29 0 B gT (dP (U 26)) (ac 6 aT)))) (fY 32 0 (ai B hJ ab e3 ee B d7 ab (k B gW gL ab (fL a5 (I oM (q' 39)) (e0 7 (q' 38)) 7))) (e 56 (am 51 ee 52 gU (el 54 2 (k gU B gW ab (S' a5 (am 53 (aY 0 2 gJ []) 55 (eb 2 16 53 54) (ef p2 p3 (fL (aG (xJ 2 16 gJ iL (.t 60))) (w [bK,bK,ag,aT,aT,aT] [(0,1,.t 51),(1,1,.t 52),(4,1,.t 61)]) dk 8))))))) (a8 64 8 7 B gT (ai ab a5 eC gU B d7 gL ab (bY a5 (aA 77 [.t 64,.t 70,eX,.t 76]))) (fY 78 2 ic (a0 85 8 (aX 78) E' (fY 87 2 (M eC gq gW eQ) (d4 94 8 3 gS ks))))))))
def Tryz.x31:=fB 35 [.tmp 4]<|aU 4 aT (fF 5 (an 8 p8 a5 bq E' (fT 0 11 11 0 1 (an 12 p2 (aN p5 p3) ab (bW 6 p3 7) (a8 15 5 1 gP g8 (k d7 ab gZ (aJ 1 8 p7) hK) (ev 23 7 r 123 24 (dF 25 5 e3 gP g8 gL ab gZ (aJ 1 8 p7) hK)))) 33 10 10)) (f2 34 hl 4))
def Tryz.x32:=fB 9 [.tmp 2]<|bj 2 f9 (f7 3 p3 dQ bK 4 2 f9) (al 5 p5 B gW ab (R 2) ks)
def Tryz.x33:=fB 26 [.tmp 4]<|aU 4 F (W hZ (aU 5 ag (ap 0 (aM (al 11 p6 ee a5 jh E' (a6 14 0)) 1 (fE 17 5 et ab iC (gi 25 4)) (fr 15 5 gx 5)))) (ac 4 C))
def Tryz.x35:=fB 22 [.tmp 2]<|aU 2 dw (bj 3 dw (an 6 p6 a5 bq E' (fT 0 9 9 0 1 (an 10 p2 (aN p5 p3) ab (bW 4 p3 5) (bk 13 3 bB b9 gC (fL (eF 8) (ei tG) (e7 p6) 3))) 20 8 8)) (f2 21 hC 2))
def Tryz.x37:=fB 28 [.tmp 6]<|u 3 dG (eY 6 dw) (gs 8 p6 hH ad iq g6 (bl 15 6 dw) (fQ 16 1 qt 8 7 (dV 18 2 7 iR ge (k gU iR gU eu (bD (wa 16 1 (q' 3) (so' p6) (so' p1)) (aX 35) 6)))))
def Tryz.x39:=fB 27 [.cell 2 16 true]<|dm 1 dk hL (fH 3 gz (lF (aU 5 ag (bh 0 6 (bm 8) 6 0 1 (fR 7 4 (al 8 p4 (br p8) ab eU (k (eF 8) fG gV (fZ 1 3 p7) em) (dF 16 4 (d6 pF 8) iZ ab gC (eF 8) fG gV (S' (fZ 1 3 p7) em)))) 25 (a1 5 1) 5)) (fx 26 h6 16 2)))
def Tryz.x41:=fB 11 [.tmp 2]<|bj 2 ag (aH 3 (pN p3) (e1 (lF (aW 5 (E r p2 8) 4 4 xw 6 (E r p3 16) 4 4 xw (aI 7 (E r p4 32) 4 4 xw (aS 8 (E r p5 64) 4))) (ah 4 (aR 9 p9 (d6 qt 128) (R 2) ks))))) (ac 2 ag)
def Tryz.x42:=fB 38 [.cell 8 16 true]<|u 4 (Ig p4) (bd 8 gz E') (W (al 10 p8 hH ad (dZ 2) g6 (ah 17 (fx 18 gc 16 8))) (b3 19 1 (af qt 8) bq (gt 0 22 22 0 1 23 9 (dF 24 2 e3 (af qt 8) (ei pS) hQ eu hC hQ (k (eF 8) fG gV (fZ 1 4 p6) em)) 36 21 21)) (fx 37 gc 16 8))
def Tryz.x44:=fB 11 [.tmp 2]<|bj 2 ag (f7 3 p3 dQ bK 4 2 ag) (al 5 p5 B d7 ab (bD a5 (af qt 65536) 2) ks)
def Tryz.x48:=fB 30 [.tmp 4,.tmp 5]<|dO 4 dw F (gs 6 p6 gX ad (gh di) gI (ez 21 4 dw F) (bG 22 0 B 0 d7 iB ks))
def Tryz.x50:=fB 34 [.tmp 2]<|fl 1 dk (W (N 9 (t 11 p8) (aX 81) (fo 8 p3 0 p4 3 4) (eT 13 p9 (eZ 0) (ah 14 (f2 15 gC 2)))) (gm 16 hq (aX 82) eP (bl 18 2 (b 12))) (lF (gb 19 9 1 bq E' (gt 0 23 23 0 1 24 5 (ay 26 hq hl (b8 83) (fo 25 p4 0 p5 6 7) (a0 31 7 eP E' (bl 32 2 (b 12)))) 33 22 22)) (ac 2 ag)))
def Tryz.x51:=fB 154 [.cell 2 11 true]<|dm 1 dk (Y gE) (u 13 hq (b0 3 gE 11 3) (bI 14 0 1 (aX 84) h9 em (fd (gb 18 0 3 bq E' (fT 0 22 22 0 1 (an 23 p2 iQ hr (bd 5 hz (f 4 p3 (bL 2 5))) (aQ 26 h9 ab gC (ga 5) (S' ab (am 32 (gp 5) 33 (h 1 (q' 32)) (dB 85 [hj] (ef p5 p6 (eW 33 32 (ey 34 85 [ij] (ef p5 p6 (am 35 (w hz [(0,1,h1),(1,1,h3)]) 36 (b4 p5 p4) (dN 2 36 35))))))))))) 37 21 21)) 38 1 1 (aX 86) hW em (bI 42 2 1 (aX 85) (l 2 3) em (bI 46 3 1 (aX 87) (l 3 3) em (bI 50 4 1 (aX 87) (l 4 3) em (bI 54 5 1 (aX 88) (l 5 3) em (fd (gb 58 5 3 bq E' (gt 2 62 62 2 3 63 6 (bo 64 (l 5 3) ab gP (l 5 3) ab gP (e0 3 p2) gW (a ab (aA 89 [.t 72]) (er p9 64 (a (yi 3 p9 p8) gW (dN 1 75 73))))) 76 61 61)) 77 6 1 (aX 90) (l 6 3) em (bI 81 8 1 (aX 91) (l 8 3) em (fd (gb 85 8 3 bq E' (fT 4 89 89 4 5 (an 90 p2 iQ hr (bd 8 hz (f 7 p3 (bL 2 8))) (aQ 93 (l 8 3) ab gU (ga 8) (S' ab (am 99 (gp 8) 100 (h 1 (q' 99)) (dB 89 [.t 97] (ef p5 p6 (eW 100 99 (ey 101 85 [.t 100] (ef p5 p6 (am 102 (w hz [(0,1,.t 98),(1,1,.t 101)]) 103 (b4 p5 p4) (dN 2 103 102))))))))))) 104 88 88)) 105 9 1 (aX 92) (l 9 3) em (fd (gb 109 9 3 bq E' (fT 6 113 113 6 7 (an 114 p2 iQ hr (bd 10 hz (f 9 p3 (bL 2 10))) (aQ 117 (l 9 3) ab hQ (ga 10) (S' ab (am 123 (gp 10) 124 (h 1 (q' 123)) (dB 85 [.t 121] (ef p5 p6 (eW 124 123 (ey 125 89 [.t 124] (ef p5 p6 (am 126 (w hz [(0,1,.t 122),(1,1,.t 125)]) 127 (b4 p5 p4) (dN 2 127 126))))))))))) 128 112 112)) 129 10 1 (aX 93) (l 10 3) em (lF (gb 133 10 3 bq E' (fT 8 137 137 8 9 (an 138 p2 iQ hr (bd 12 hz (f 11 p3 (bL 2 12))) (aQ 141 (l 10 3) ab fP (ga 12) (S' ab (am 147 (gp 12) 148 (h 1 (q' 147)) (dB 89 [.t 145] (ef p5 p6 (eW 148 147 (ey 149 94 [.t 148] (ef p5 p6 (am 150 (w hz [(0,1,.t 146),(1,1,.t 149)]) 151 (b4 p5 p4) (dN 2 151 150))))))))))) 152 136 136)) (fx 153 (ak 11 3) 11 2)))))))))))))
def Tryz.x52:=fB 66 []<|aH 5 dG (al 7 p7 di B gW (ai ab ee B d7 ab a5 hy (eb 1 8 11 17) (a (b1 7) gW (dN 1 20 18))) (bj 6 ag (ev 21 1 r 127 22 (aB 6 (m (b 1)) E')) (fE 23 0 B d7 (k ab (l 3 5) ab gZ (M (eb 1 8 27 30) (xC p9) d7 (dN 1 33 31))) (fE 34 0 B gL (k ab gP hy io (a hu gL eQ)) (ev 44 1 r 123 45 (fE 46 0 B d7 (k ab (l 4 5) ab gZ (M (eb 1 8 50 53) (xC p9) d7 (dN 1 56 54))) (dF 57 0 ee B gL ab (fU [ag] 0) (fv 1 8) ht (S' gL eQ))))))))
def Tryz.x53:=fB 48 [.tmp 4]<|fF 4 (eT 9 p8 hH (ah 10 (aB 11 eM iM))) (Z 13 0 a5 b9 e3 (a b9 (dh 95) (fo 12 p7 0 p8 5 6)) (lF (Z 21 5 (bU pT 0) ad (dZ 6) (gl (bU pT 9223372036854775807) p3) (ah 26 (aB 27 eM iM))) (aL 28 6 fO (Ny (sN 1 8 [ag] iI iI)) iO (aL 31 7 ee g7 (R 8) (lF (ap 0 (lF (a8 34 8 7 a5 jh E' (a6 37 0)) (Cu 1 (dF 38 8 gU gQ gR gU gQ (f8 1 p2 p1) (aG (sO 1 (wO fX) (wO (.t 44)))) (dq (I pF p8) 8))))) (f2 47 gU 4))))))
def Tryz.x54:=fB 27 [.tmp 4,.tmp 5]<|fl 4 js (lF (e1 (ej (aR 7 p7 hH gS (fI 6 (aR 9 p8 (bm (-1)) gS (fI 6 (bk 11 1 h5 ad (ek 1) (fL (bc p2 0) (fu hc) fK 6)))))) 6 (d1 4 bK (b 1)) (bS 19 0 pT 16 (R 18) 18 (d1 4 bK (b 3))))) (Z 21 0 (af pS 65536) (Ny (sN 1 1 [au] i5 i5)) e3 (a (w [aT,ag] [(0,1,iF),(1,1,iG)]) dk (fp 4 5)) ks))
def Tryz.x55:=fB 27 [.tmp 6]<|bj 6 F (al 7 p6 b7 a5 b9 (ai (I pF p4) ee B d7 ab a5 b9 (I pT p7) E') (gi 18 6)) (fY 19 0 (k e3 gR ge g7 E') (ac 6 C))
def Tryz.x56:=fB 23 [.tmp 6]<|aU 6 ag (W (f7 7 p7 dQ bK 8 6 (b 2)) (al 9 p9 bB bB a5 (bY (dz 79 p4 p3) eP) (bl 14 6 (b 23))) (fY 15 0 (k e3 gR ge g7 E') (ac 6 ag)))
def Tryz.x57:=fB 11 [.cell 2 11 true]<|fH 2 gE (lF (eN 3 p3 dQ bK (ah 4 (dx 5 (w gE []) (dD 11 p4 p1)))) (al 6 p6 B (q 4) iT (S' (aX 51) (dD 11 p9 p1)) ks))
def Tryz.x58:=fB 104 [.cell 4 7 true]<|gm 2 bR bR (Y hb) (ft 11 (dg p8) ab a5 5 (L 14 (ak 2 2) h9 ab hW (a ab hl (am 21 hl 23 hl (S' (Ny (sN 5 72 gM (.t 19) (.t 19))) (dW 22 (Ny (sN 1 8 [ag] iE iE)) 24 (Ny (sN 1 8 [ag] iF iF)) 25 (w hb [(0,2,.t 14),(2,1,.t 16),(3,1,.t 18),(4,1,ii),(5,1,i5),(6,1,iG)]) 6 (Y hb) (dN 7 6 25))))) (fF 7 (gb 26 1 3 bq E' (fT 0 30 30 0 1 (an 31 p2 jr (dM 6) (bd 9 gD (f 8 p3 (bL 6 9))) (bI 35 4 6 gQ (ga 9) (a ab (aA 25 [gk]) (ef p5 p6 (f 34 p1 (M (dJ p7) (ao p8) (yi 5 p7 p6) (dN 5 43 41))))) (dm 44 (ga 9) ab (Cu 2 (ej (aW 47 (E r p2 2) 46 46 xw 48 (E r p3 3) 46 46 xw (aS 49 (E r p4 4) 46)) 46 (dp 50 7 8 hy io iO) (fj 55 45 5 54 54 (bo 56 (l 6 6) ab gU gU a5 eC (d9 p4) ab (a gQ (f4 p8) (dN 1 65 64))) (fS 67 (bJ 45 11) 66 66 (b3 68 7 a5 hn (ah 70 (a8 71 7 7 a5 eC (bD (d9 p4) ab 10) (a8 77 7 7 a5 eC (dq (f8 1 p4 p1) 7) (bI 82 5 6 fJ gQ (S' (f4 p3) em) (bI 87 6 6 fJ et (bY ab hn) (ah 92 (bo 93 (l 5 6) ab (l 6 6) ab fJ et ab gQ (S' (f4 p7) (dN 1 101 100))))))))))))))))) 102 29 29)) (fx 103 (ak 7 6) 7 4))))
def Tryz.x59:=fB 8 [.tmp 2]<|fF 2 hB (ft 5 (aY 0 1 [dw] []) b7 (fv 1 8) 2 ks)
def Tryz.x60:=fB 44 [.tmp 0]<|aU 0 aT (L 1 (w gA [(0,1,eX),(1,1,eX),(2,1,fg),(3,1,eX),(4,1,hU)]) (w gA [(0,1,fg),(1,1,fg),(2,1,fg),(3,1,eX),(4,1,a3 ⟨#[58]⟩)]) (w gA [(0,1,i0),(1,1,z 4),(2,1,i0),(3,1,eX),(4,1,hU)]) (w gA [(0,1,z 5),(1,1,z 5),(2,1,fg),(3,1,eX),(4,1,hU)]) (eS (w gA [(0,1,z 11),(1,1,z 11),(2,1,fg),(3,1,eX),(4,1,hU)]) (w gA [(0,1,z 12),(1,1,jv),(2,1,z 3),(3,1,eX),(4,1,hU)]) (w gA [(0,1,z 14),(1,1,z 14),(2,1,z 4),(3,1,eX),(4,1,hU)]) (w gA [(0,1,z 15),(1,1,z 15),(2,1,fg),(3,1,eX),(4,1,hU)]) (w gA [(0,1,iN),(1,1,iN),(2,1,z 5),(3,1,eX),(4,1,hU)]) (w gA [(0,1,z 17),(1,1,z 17),(2,1,z 6),(3,1,eX),(4,1,hU)]) (w gA [(0,1,z 26),(1,1,z 27),(2,1,fg),(3,1,eX),(4,1,hU)]) (w gA [(0,1,z 32),(1,1,z 36),(2,1,z 5),(3,1,eX),(4,1,hU)]) (w gA [(0,1,z 40),(1,1,z 40),(2,1,hp),(3,1,i0),(4,1,dT)]) (w gA [(0,1,z 41),(1,1,z 41),(2,1,hp),(3,1,z 3),(4,1,eK)]) (w gA [(0,1,z 44),(1,1,z 45),(2,1,hp),(3,1,eX),(4,1,dT)]) (w gA [(0,1,z 46),(1,1,z 47),(2,1,hp),(3,1,fg),(4,1,dT)]) (w gA [(0,1,z 48),(1,1,z 49),(2,1,hp),(3,1,eX),(4,1,eK)]) (w gA [(0,1,z 50),(1,1,z 51),(2,1,hp),(3,1,fg),(4,1,eK)]) (w gA [(0,1,z 52),(1,1,z 53),(2,1,hp),(3,1,i0),(4,1,eK)]) (w gA [(0,1,z 54),(1,1,z 54),(2,1,hp),(3,1,i0),(4,1,hY)]) (eS (w gA [(0,1,z 55),(1,1,z 55),(2,1,hp),(3,1,z 3),(4,1,fw)]) (w gA [(0,1,z 58),(1,1,z 58),(2,1,hp),(3,1,eX),(4,1,hY)]) (w gA [(0,1,z 59),(1,1,z 59),(2,1,hp),(3,1,fg),(4,1,hY)]) (w gA [(0,1,z 60),(1,1,z 60),(2,1,hp),(3,1,eX),(4,1,fw)]) (w gA [(0,1,z 61),(1,1,z 61),(2,1,hp),(3,1,fg),(4,1,fw)]) (w gA [(0,1,z 62),(1,1,z 62),(2,1,hp),(3,1,i0),(4,1,fw)]) (w gA [(0,1,z 63),(1,1,z 63),(2,1,z 14),(3,1,eX),(4,1,a3 ⟨#[58,105]⟩)]) (w gA [(0,1,z 64),(1,1,z 64),(2,1,z 14),(3,1,eX),(4,1,dT)]) (w gA [(0,1,z 65),(1,1,z 65),(2,1,z 9),(3,1,eX),(4,1,a3 ⟨#[58,105]⟩)]) (w gA [(0,1,z 66),(1,1,z 66),(2,1,z 10),(3,1,eX),(4,1,a3 ⟨#[58,108]⟩)]) (w gA [(0,1,z 69),(1,1,z 69),(2,1,fg),(3,1,eX),(4,1,dT)]) (w gA [(0,1,z 70),(1,1,z 79),(2,1,fg),(3,1,eX),(4,1,ja)]) (w gA [(0,1,z 80),(1,1,z 80),(2,1,fg),(3,1,eX),(4,1,a3 ⟨#[108,58,105]⟩)]) (w gA [(0,1,z 81),(1,1,z 90),(2,1,fg),(3,1,eX),(4,1,a3 ⟨#[108,108,58,105]⟩)]) (w gA [(0,1,z 103),(1,1,z 105),(2,1,fg),(3,1,eX),(4,1,dT)]) (w gA [(0,1,z 106),(1,1,z 120),(2,1,fg),(3,1,eX),(4,1,ja)]) (k (w gA [(0,1,z 121),(1,1,z 123),(2,1,fg),(3,1,eX),(4,1,a3 ⟨#[108,58,108]⟩)]) (w gA [(0,1,z 124),(1,1,z 138),(2,1,fg),(3,1,eX),(4,1,a3 ⟨#[108,108,58,108]⟩)]) (w gA [(0,1,z 167),(1,1,z 167),(2,1,fg),(3,1,eX),(4,1,a3 ⟨#[108,58,105]⟩)]) (w gA [(0,1,z 172),(1,1,z 173),(2,1,fg),(3,1,eX),(4,1,eK)]) (fL (w gA [(0,1,z 192),(1,1,z 193),(2,1,fg),(3,1,eX),(4,1,dT)]) (w gA [(0,1,z 194),(1,1,z 196),(2,1,fg),(3,1,eX),(4,1,a3 ⟨#[108,58,108]⟩)]) (aY 42 5 gA [(0,.t 1),(1,.t 2),(2,.t 3),(3,.t 4),(4,.t 5),(5,.t 6),(6,.t 7),(7,.t 8),(8,.t 9),(9,.t 10),(10,.t 11),(11,.t 12),(12,.t 13),(13,.t 14),(14,.t 15),(15,.t 16),(16,.t 17),(17,.t 18),(18,.t 19),(19,ii),(20,iE),(21,i5),(22,iF),(23,iG),(24,.t 25),(25,i6),(26,i7),(27,iH),(28,iI),(29,hj),(30,h1),(31,h2),(32,ij),(33,h3),(34,hw),(35,ik),(36,.t 37),(37,iJ),(38,gk),(39,.t 40),(40,fX),(41,i8)]) 0)))) ks)
def Tryz.x61:=fB 68 [.tmp 0]<|aU 0 aT (L 1 (w gA [(0,1,z 64768),(1,1,z 64768),(2,1,hp),(3,1,z 4),(4,1,b6)]) (w gA [(0,1,z 64769),(1,1,z 64774),(2,1,hp),(3,1,z 3),(4,1,b6)]) (w gA [(0,1,z 64775),(1,1,z 64775),(2,1,hp),(3,1,eX),(4,1,b6)]) (w gA [(0,1,z 64776),(1,1,z 64776),(2,1,hp),(3,1,fg),(4,1,b6)]) (eS (w gA [(0,1,z 64777),(1,1,z 64777),(2,1,hp),(3,1,i0),(4,1,b6)]) (w gA [(0,1,z 64778),(1,1,z 64778),(2,1,hp),(3,1,z 3),(4,1,b6)]) (w gA [(0,1,z 64779),(1,1,z 64779),(2,1,hp),(3,1,z 4),(4,1,eG)]) (w gA [(0,1,z 64780),(1,1,z 64780),(2,1,z 11),(3,1,eX),(4,1,a3 ⟨#[58,118]⟩)]) (w gA [(0,1,z 64781),(1,1,z 64781),(2,1,z 12),(3,1,eX),(4,1,fy)]) (w gA [(0,1,z 64782),(1,1,z 64782),(2,1,fg),(3,1,eX),(4,1,fy)]) (w gA [(0,1,z 64783),(1,1,z 64785),(2,1,fg),(3,1,eX),(4,1,b6)]) (w gA [(0,1,z 64786),(1,1,z 64786),(2,1,fg),(3,1,eX),(4,1,a3 ⟨#[108,58,118]⟩)]) (w gA [(0,1,z 64789),(1,1,z 64790),(2,1,jv),(3,1,iN),(4,1,ds)]) (w gA [(0,1,z 64791),(1,1,z 64791),(2,1,jv),(3,1,iN),(4,1,dd)]) (w gA [(0,1,z 64792),(1,1,z 64793),(2,1,jv),(3,1,z 8),(4,1,ds)]) (w gA [(0,1,z 64794),(1,1,z 64794),(2,1,jv),(3,1,z 8),(4,1,dd)]) (w gA [(0,1,z 64795),(1,1,z 64795),(2,1,jv),(3,1,z 4),(4,1,ds)]) (w gA [(0,1,z 64796),(1,1,z 64796),(2,1,jv),(3,1,z 4),(4,1,dd)]) (w gA [(0,1,z 64797),(1,1,z 64797),(2,1,jv),(3,1,i0),(4,1,a3 ⟨#[118,58,108]⟩)]) (w gA [(0,1,z 64798),(1,1,z 64798),(2,1,jv),(3,1,i0),(4,1,a3 ⟨#[118,108,58,118]⟩)]) (eS (w gA [(0,1,z 64803),(1,1,z 64832),(2,1,fg),(3,1,eX),(4,1,fy)]) (w gA [(0,1,z 64845),(1,1,z 64845),(2,1,fg),(3,1,eX),(4,1,dA)]) (w gA [(0,1,z 64846),(1,1,z 64849),(2,1,fg),(3,1,eX),(4,1,fy)]) (w gA [(0,1,z 64850),(1,1,z 64850),(2,1,fg),(3,1,eX),(4,1,a3 ⟨#[118,118,118,58,118]⟩)]) (w gA [(0,1,z 64851),(1,1,z 64851),(2,1,fg),(3,1,eX),(4,1,ds)]) (w gA [(0,1,z 64852),(1,1,z 64852),(2,1,z 8),(3,1,eX),(4,1,eR)]) (w gA [(0,1,z 64853),(1,1,z 64853),(2,1,z 8),(3,1,fg),(4,1,eR)]) (w gA [(0,1,z 64854),(1,1,z 64854),(2,1,z 8),(3,1,i0),(4,1,eR)]) (w gA [(0,1,z 64855),(1,1,z 64855),(2,1,z 8),(3,1,z 3),(4,1,eR)]) (w gA [(0,1,z 64856),(1,1,z 64856),(2,1,z 8),(3,1,eX),(4,1,eG)]) (w gA [(0,1,z 64857),(1,1,z 64857),(2,1,z 8),(3,1,fg),(4,1,eG)]) (w gA [(0,1,z 64858),(1,1,z 64858),(2,1,z 8),(3,1,i0),(4,1,eG)]) (w gA [(0,1,z 64859),(1,1,z 64859),(2,1,z 8),(3,1,z 3),(4,1,eG)]) (w gA [(0,1,z 64860),(1,1,z 64860),(2,1,hp),(3,1,i0),(4,1,b6)]) (w gA [(0,1,z 64861),(1,1,z 64861),(2,1,hp),(3,1,z 3),(4,1,b6)]) (w gA [(0,1,z 64864),(1,1,z 64866),(2,1,fg),(3,1,eX),(4,1,dA)]) (eS (w gA [(0,1,z 64867),(1,1,z 64868),(2,1,fg),(3,1,eX),(4,1,ds)]) (w gA [(0,1,z 64869),(1,1,z 64870),(2,1,fg),(3,1,eX),(4,1,fy)]) (w gA [(0,1,z 64875),(1,1,z 64877),(2,1,fg),(3,1,eX),(4,1,dd)]) (w gA [(0,1,z 64878),(1,1,z 64883),(2,1,fg),(3,1,eX),(4,1,fy)]) (w gA [(0,1,z 64886),(1,1,z 64889),(2,1,fg),(3,1,eX),(4,1,fy)]) (w gA [(0,1,z 64891),(1,1,z 64891),(2,1,fg),(3,1,eX),(4,1,fy)]) (w gA [(0,1,z 64892),(1,1,z 64897),(2,1,fg),(3,1,eX),(4,1,dA)]) (w gA [(0,1,z 64898),(1,1,z 64898),(2,1,fg),(3,1,eX),(4,1,fy)]) (w gA [(0,1,z 64899),(1,1,z 64900),(2,1,fg),(3,1,eX),(4,1,ds)]) (w gA [(0,1,z 64901),(1,1,z 64902),(2,1,fg),(3,1,eX),(4,1,fy)]) (w gA [(0,1,z 64903),(1,1,z 64906),(2,1,fg),(3,1,eX),(4,1,dA)]) (w gA [(0,1,z 64907),(1,1,z 64909),(2,1,fg),(3,1,eX),(4,1,dd)]) (w gA [(0,1,z 64910),(1,1,z 64915),(2,1,fg),(3,1,eX),(4,1,fy)]) (w gA [(0,1,z 64917),(1,1,z 64921),(2,1,fg),(3,1,eX),(4,1,fy)]) (w gA [(0,1,z 64923),(1,1,z 64927),(2,1,fg),(3,1,eX),(4,1,fy)]) (w gA [(0,1,z 64928),(1,1,z 64929),(2,1,fg),(3,1,eX),(4,1,dA)]) (ai (w gA [(0,1,z 64931),(1,1,z 64932),(2,1,fg),(3,1,eX),(4,1,ds)]) (w gA [(0,1,z 64935),(1,1,z 64938),(2,1,fg),(3,1,eX),(4,1,dA)]) (w gA [(0,1,z 64939),(1,1,z 64941),(2,1,fg),(3,1,eX),(4,1,dd)]) (w gA [(0,1,z 64942),(1,1,z 64942),(2,1,fg),(3,1,eX),(4,1,fy)]) (w gA [(0,1,z 64945),(1,1,z 64945),(2,1,fg),(3,1,eX),(4,1,fy)]) (w gA [(0,1,z 64949),(1,1,z 64954),(2,1,fg),(3,1,eX),(4,1,fy)]) (w gA [(0,1,z 64956),(1,1,z 64959),(2,1,fg),(3,1,eX),(4,1,fy)]) (w gA [(0,1,z 64960),(1,1,z 64961),(2,1,fg),(3,1,eX),(4,1,dA)]) (k (w gA [(0,1,z 64963),(1,1,z 64964),(2,1,fg),(3,1,eX),(4,1,ds)]) (w gA [(0,1,z 64967),(1,1,z 64970),(2,1,fg),(3,1,eX),(4,1,dA)]) (w gA [(0,1,z 64971),(1,1,z 64973),(2,1,fg),(3,1,eX),(4,1,dd)]) (w gA [(0,1,z 64974),(1,1,z 64974),(2,1,fg),(3,1,eX),(4,1,fy)]) (fL (w gA [(0,1,z 64977),(1,1,z 64977),(2,1,fg),(3,1,eX),(4,1,fy)]) (w gA [(0,1,z 64981),(1,1,z 64991),(2,1,fg),(3,1,eX),(4,1,fy)]) (aY 66 5 gA [(0,.t 1),(1,.t 2),(2,.t 3),(3,.t 4),(4,.t 5),(5,.t 6),(6,.t 7),(7,.t 8),(8,.t 9),(9,.t 10),(10,.t 11),(11,.t 12),(12,.t 13),(13,.t 14),(14,.t 15),(15,.t 16),(16,.t 17),(17,.t 18),(18,.t 19),(19,ii),(20,iE),(21,i5),(22,iF),(23,iG),(24,.t 25),(25,i6),(26,i7),(27,iH),(28,iI),(29,hj),(30,h1),(31,h2),(32,ij),(33,h3),(34,hw),(35,ik),(36,.t 37),(37,iJ),(38,gk),(39,.t 40),(40,fX),(41,i8),(42,.t 43),(43,.t 44),(44,i9),(45,iK),(46,.t 47),(47,.t 48),(48,.t 49),(49,.t 50),(50,.t 51),(51,.t 52),(52,.t 53),(53,.t 54),(54,iL),(55,.t 56),(56,.t 57),(57,.t 58),(58,.t 59),(59,.t 60),(60,.t 61),(61,.t 62),(62,.t 63),(63,.t 64),(64,.t 65),(65,.t 66)]) 0)))))) ks)
def Tryz.x62:=fB 63 [.tmp 4,.tmp 5]<|gm 3 bR (m f9) bq (eO 11 0 fC 6 (W (eT 13 p7 (dl 83) (ah 14 (lF (gm 15 h6 hE (bX (ER true [true,true,true,true,true,true,true,true,true,true,true,true,true,true,true,true])) (ah 17 (fl 4 (m (bp 1)) ks))) (fl 4 (m f9) ks)))) (Z 18 6 (bm 99) ad (dZ 6) (ai (dC (b2 196)) gu ad (dZ 6) (dC (fV 32)) (ec (eZ 3)) (fk ad) (ek 6) (k (dH (fV 32)) (fu (eZ 4)) (v p8 fK) (dv p9) E')) (gv 33 4 f9 1)) (Z 34 6 (a2 96) (af qt 32) (f3 8) iO (dO 8 f9 (bp 1) (W (b3 38 7 h4 bq (gt 0 41 41 0 1 42 10 (lF (L 43 h6 gU fJ (eJ 80) (db hH) (ah 47 (dp 48 8 10 (I tG (KQ (bp 1))) (ei EO) (R 8)))) (L 52 h6 gU fJ jj (db hx) (ah 56 (aB 9 (m f9) E')))) 57 40 40)) (b3 58 6 (fV 32) (dl 3) (ah 60 (e 4 (el 61 9 (bY (d 61) bq)) ks))) (e 4 (el 62 8 (bY (d 62) bq)) ks))))))
def Tryz.x63:=fB 46 [.tmp 6,.tmp 7]<|gm 5 dG jt bq (a0 11 0 (aX 96) (fo 10 p3 0 p4 8 9) (W (al 15 p7 fa ad iq (ai (dv p2) ad (dZ 1) (dC hH) gu ad (dZ 1) (bN p2 8) (M (ec h4) jo (dv p5) E')) (gv 29 6 dw 1)) (Z 30 0 (dl 64789) ad hf (gl (dl 64792) p3) (ah 35 (L 36 ia gQ e3 (eJ 80) (a g2 b9 fM) ks))) (L 42 ia gQ e3 jj fM ks)))
def Tryz.x64:=fB 36 [.cell 6 16 true,.tmp 7]<|L 3 dG dG dG hL (db bq) (fH 8 gz (lF (fl 11 (t 16 p8) (bh 0 13 (bm 16) 13 0 1 (aR 14 p2 ha (bW 9 p2 10) (Cu 2 (eO 22 10 (bH pG (j 32)) 21 (p 21 (dS 24 hE 16 6 7 1) (eO 26 10 (bH pG (j 16)) 25 (p 25 (dp 28 9 10 (bH oM (j 16)) (fZ 1 5 p1) (a ab (fZ 1 8 p5) em)) (aQ 16 eU eU (fZ 1 4 p1) ab (S' (fZ 1 8 p4) em)))))))) 34 (a1 12 1) 12)) (e2 35 8 16 6 7 0)))
def Tryz.x65:=fB 39 [.cell 8 16 true,.tmp 9]<|e 8 (fc 6 p6 (bY hL bq)) (a0 13 0 (aX 96) (fo 12 p3 0 p4 10 11) (gs 17 p7 fa ad iq (ai (dC eP) gu ad (dZ 1) (dC hH) gu ad (dZ 1) (k (bN p2 10) (ec h4) jo (dv p5) E')) (ah 32 (dS 33 hE 16 8 9 1)) (L 34 (bb 6) fJ e3 hC (S' g3 (dr 16 8 9 0)) ks)))
def Tryz.x66:=fB 22 [.cell 4 16 true]<|gm 2 bR bR hL (fH 5 gz (lF (fl 8 (t 16 p5) (bh 0 10 (bm 16) 10 0 1 (aR 11 p2 ha (bW 6 p2 7) (eN 13 p6 qJ (j 16) (ah 14 (aQ 15 bB bB (fZ 1 2 p1) ab (S' (fZ 1 5 p4) em))))) 20 (a1 9 1) 9)) (fx 21 ia 16 4)))
def Tryz.x67:=fB 34 [.cell 4 16 true,.tmp 5]<|fl 4 hL (aL 10 0 fC (a2 15) gS (gs 13 p7 hH ad (dZ 6) (gl (b2 3) p3) (ah 18 (dS 19 hE 16 4 5 1)) (fH 7 gz (eO 20 6 (f3 8) 8 (da 22 8 h4 bq (bu 0 25 p1 p2 25 0 1 (fR 26 9 (aQ 27 (bb 7) gQ hQ e3 (S' g3 (bL 16 7)))) 32 hO 24) (e2 33 7 16 4 5 0))))))
def Tryz.x68:=fB 112 [.cell 4 16 true,.tmp 5]<|fl 4 hL (eO 13 0 fC 6 (aU 7 (b 2) (W (e1 (Z 16 6 (bm 77) ad (dZ 6) (bD (dC (b2 82)) gu 15) (p 15 (dS 22 hE 16 4 5 1) (fQ 24 6 r 77 23 (p 23 (aB 7 (m (b 1)) E') (bS 27 6 r 82 (R 26) 26 (aB 7 (m (b 3)) E'))))))) (Z 29 1 a5 gU (bX aO) E' (ah 32 (dS 33 hE 16 4 5 1))) (aL 34 1 ie e5 jx (a8 37 1 7 (af qt 2) (e0 16 p3) (k e5 e3 gU eC (a (e0 16 p3) e5 (am 9 hL 10 hL (bi 16 9 41 (Q' p1 (t 16 p2) (dN 16 10 46)))))) (lF (fl 47 (bb 8) (bh 1 49 (bm 16) 49 1 2 (aR 50 p2 ha (bW 11 p2 12) (aH 52 gP (Cu 3 (dX 69 52 77 68 68 (dp 70 11 12 (ado NH p1) (fZ 1 8 p3) em) 75 52 78 74 74 (dp 76 11 12 fP ip (M ab (I vI p4) jl em)) (dX 84 52 79 83 83 (dp 85 11 12 fP ip (M ab (I sR p4) jl em)) 93 52 80 92 92 (dp 94 11 12 fP ip (M ab (e7 p4) jl em)) (fj 102 52 81 101 101 (dp 103 11 12 fP ip (M ab (I EP p4) jl em)) (dF 53 11 h8 fP (fZ 1 10 p1) ab (I vI p4) fP ip (k ab fP (fZ 1 10 p1) ab (M (I sR p4) (e7 p8) (fZ 1 8 (q' 53)) (dN 1 67 66)))))))))) 110 (a1 48 1) 48)) (e2 111 8 16 4 5 0)))))))
def Tryz.x69:=fB 56 [.cell 4 16 true,.tmp 5]<|gm 3 bR hL bq (a0 11 0 (aX 97) (fo 10 p3 0 p4 6 7) (W (al 15 p9 fa ad (dZ 7) (gl (b2 2) p3) (ah 20 (dS 21 hE 16 4 5 1))) (b3 22 6 h4 bq (gt 0 25 25 0 1 26 8 (L 27 h6 gP gQ jj (R 9) (lF (Cu 2 (fQ 32 7 r 2 31 (p 31 (ew 34 hQ (aX 98) b9 (R 9)) (Z 38 7 (dl 1) ad (gh h6) (k (bN p2 6) (bN p3 8) (fk (eJ 80)) (v p5 hH) (dq hm 37)) (ah 37 (fr 47 9 jw 9)))))) (aQ 49 h6 gP gQ hQ (S' g3 (bL 16 3))))) 54 24 24)) (e2 55 3 16 4 5 0)))
def Tryz.x70:=fB 90 [.cell 4 16 true,.tmp 5]<|gm 3 bR hL bq (eO 14 0 fC 6 (fH 7 gz (W (a0 17 6 (gg 99 p1 135) (fo 16 p3 0 p4 8 9) (ev 21 8 pT 0 22 (da 23 8 g5 bq (gt 0 26 26 0 1 27 10 (bo 28 (bb 7) gQ ji fJ h6 gQ hQ fJ (dB 100 [h2,ij,h3,hw] (eV p9 7 (dB 42 [iH,hj,h1,ik] (dN 16 7 37))))) 38 25 25) (e2 39 7 16 4 5 0)))) (Z 40 6 (bm 124) ad (dZ 6) (gl (b2 127) p3) (ah 45 (e2 46 7 16 4 5 1))) (aU 11 (b 8) (W (ev 47 6 pG 126 48 (aB 11 (m (b 16)) E')) (b3 49 11 g5 bq (gt 2 52 52 2 3 53 12 (e 59 (dW 54 h6 55 fP 56 h8 57 hN (k h6 fP h8 ji (S' gx (ey 58 37 [.t 54,iL,.t 57] (eV p5 3 (bD (aA 37 [.t 59,.t 60,.t 63]) (I pF p7) 13)))))) (da 66 6 (fV 2) fa (ah 68 (R' 74 (dW 69 h6 70 fP 71 h8 72 hN (k h6 fP h8 ji (S' gx (ey 73 80 [.t 69,.t 70,.t 72] (eV p5 3 (fL (aA 80 [.t 74,.t 75,.t 78]) (I pF p7) b9 13)))))))) (aQ 82 (bb 7) fP ji h8 (a iY (Xa 42 p5 p3 p2 p1) (bL 16 7))))) 88 51 51)) (e2 89 7 16 4 5 0))))))
def Tryz.x71:=fB 68 [.cell 6 16 true,.tmp 7]<|e 6 (fc 4 p5 (bY hL bq)) (a0 13 0 (aX 97) (fo 12 p3 0 p4 8 9) (gs 17 p9 fa ad (dZ 9) (k (dC (bm 11)) gu ad (dZ 9) (gl (b2 13) p3)) jb (a8 28 2 8 g2 (ei zy) (R 2) (da 32 8 h4 bq (gt 0 35 35 0 1 36 10 (L 37 gc gQ fJ jj (bD ge (bX A8) 11) (lF (aH 43 hQ (Cu 2 (aI 45 (E r p2 11) 44 44 (aQ 46 gc gQ fJ jj (bD ge (bX tG) 11)) (fS 53 (bJ 43 12) 52 52 (aQ 54 gc gQ fJ (eJ 80) (fL ge (bX A8) b9 11)))))) (aQ 61 gc gQ fJ fP (S' g3 (bL 16 4))))) 66 34 34) (e2 67 4 16 6 7 0)))))
def Tryz.x72:=fB 62 [.cell 6 16 true,.tmp 7]<|L 4 dG dG hL bq E' (a0 17 0 (aX 97) (fo 16 p3 0 p4 8 9) (lF (Z 21 8 fa ad (dZ 9) (gl (bm 14) p3) jb) (fH 10 gz (da 28 8 h4 bq (gt 0 31 31 0 1 32 11 (ay 33 gc gQ fP (am 37 ia 38 gQ (el 39 11 (dB 37 [ij,h3,hw] (eV (q' 37) 5 (ey 40 37 [.t 37,iJ,gk] (f 12 p1 (el 13 40 E'))))))) (ay 41 gc gQ fP (am 45 ia 46 gQ (el 47 11 (dB 80 [fX,i8,.t 43] (eV (q' 45) 5 (ey 48 80 [i9,iK,.t 47] (f 14 p1 (el 15 48 E'))))))) (bo 49 (bb 10) gQ fP gQ hQ h8 iY (d 14) (a (d 15) (aA 101 [.t 52,.t 53,.t 54,iL,.t 56,.t 57]) (eV (q' 49) 10 (dB 42 [.t 49,.t 50,.t 51,.t 58] (dN 16 10 59))))))) 60 30 30) (e2 61 10 16 6 7 0)))))
def Tryz.x73:=fB 41 [.cell 6 16 true,.tmp 7]<|L 4 dG dG hL bq E' (a0 13 0 (aX 102) (fo 12 p3 0 p4 8 9) (lF (eT 17 p8 hH (ah 18 (dS 19 hE 16 6 7 1))) (fH 10 gz (da 20 8 h4 bq (gt 0 23 23 0 1 24 11 (Z 25 9 gc gQ fP (am 30 ia 31 gQ (el 32 11 (dB 80 [i6,i7,iH] (eV (q' 30) 5 (am 33 (aA 80 [hj,h1,h2]) 34 (aA 103 [.t 25,iI,ij]) E'))))) (ah 34 (aQ 35 (bb 10) gQ fP (Xa 42 p3 p2 p1 (KQ (D 18446744073709551615))) (bL 16 10)))) 39 22 22) (e2 40 10 16 6 7 0)))))
def Tryz.x74:=fB 117 [.cell 6 16 true,.tmp 7]<|L 4 dG dG hL bq E' (eO 18 0 fC 8 (fH 9 gz (W (a0 21 8 (gg 99 p1 156) (fo 20 p3 0 p4 10 11) (ev 25 10 pT 0 26 (da 27 10 g5 bq (gt 0 30 30 0 1 31 12 (bo 32 (bb 9) fJ ji h8 gc fJ fP h8 (dW 41 ia 42 fJ 43 fP 44 h8 (dB 100 [ik,.t 37,iJ,gk] (eV p9 9 (eV (q' 41) 5 (ey 45 100 [fX,i8,.t 43,.t 44] (eV p9 9 (am 46 (F' pS p1 (q' 45)) 47 (aA 42 [h2,h3,hw,iK]) (dN 16 9 47))))))))) 48 29 29) (e2 49 9 16 6 7 0)))) (aH 50 gQ (Cu 2 (ej (aW 52 (E r p2 101) 51 51 xw 53 (E r p3 102) 51 51 xw (aI 54 (E r p4 133) 51 51 xw (aS 55 (E r p5 134) 51))) 51 (Z 56 8 gc ia (eJ 104) (dr 16 6 7 0) ks) (fj 61 50 130 60 60 (lF (aU 62 ag (bh 3 63 (bm 8) 63 3 4 (fR 64 13 (e 68 (am 65 gc 66 iY (a ia iY (ey 67 80 [.t 65,iN,.t 66] (eV p2 5 (fL (aA 80 [.t 68,iN,.t 69]) (I pS p4) (bn 16384) 14))))) (aQ 73 (bb 9) iY (d 14) (eg 15) (M (Ga p1 (U 32767)) b9 (Xa 42 p6 (U 16) p5 p1) (bL 16 9))))) 80 (a1 62 1) 62)) (e2 81 9 16 6 7 0)) (fS 83 (bJ 50 186) 82 82 (lF (aU 84 ag (bh 5 85 (bm 4) 85 5 6 (fR 86 15 (e 91 (am 87 gc 88 (d 15) (D' 89 hN (M ia (d 15) ji (ey 90 80 [.t 87,iN,.t 89] (eV p3 5 (bD (aA 80 [.t 91,iN,.t 93]) (I pS p5) 16)))))) (e 101 (dW 96 gc 97 (d 15) 98 (F' pS (U 2) p4) 99 (eD p3 1) (k ia (d 15) ji gx (ey 100 80 [.t 96,iN,.t 99] (eV p4 5 (bD (aA 80 [.t 101,iN,.t 104]) (I pS p6) 17))))) (aQ 107 (bb 9) (d 15) (d 16) (d 17) (M eu b9 (Xa 42 p6 (U 32) p5 p1) (bL 16 9)))))) 114 (a1 84 1) 84)) (e2 115 9 16 6 7 0))))))) (e2 116 9 16 6 7 1))))
def Tryz.x75:=fB 29 [.cell 4 2 true,.tmp 5]<|e 4 jm (fd (al 7 p6 hH ad iq (k (dC (br p9)) (ec ab) (fk a5) (v p5 (I pG p4)) (db hm)) (ah 15 (dx 16 (w hz []) (bt 2 4 (eY 5 F))))) 17 0 2 e3 g8 (S' hr (b0 6 hz 2 6)) (e 25 (am 22 (ga 6) 23 (h 1 p3) (a (gp 6) ab (ey 24 85 [iF] (ef p1 p2 (a (aA 85 [i6]) (w hz [(0,1,iG),(1,1,i7)]) (bi 2 4 28 (eY 5 C))))))) ks))
def Tryz.x76:=fB 62 [.tmp 6]<|aU 6 aT (fY 11 0 (k B gW gL ab (M e3 (e0 3 p2) (dM 3) (b0 7 [aj,aj,ag] 3 7))) (fY 22 0 (ai B gW d7 ab (l 2 7) ab (b4 p3 p1) hr (bd 8 hz (dN 2 8 33))) (fY 35 0 (ai B gL ab e3 (ak 3 7) (ak 2 8) (ga 8) ab (a ge (aA 31 [iK,.t 47]) (eW 38 37 (ef p8 p9 (Q' p6 (ak 3 7) (Q' p5 (ak 2 8) (dB 105 [fX,i8,.t 43,.t 44,.t 48] (fo 34 (q' 34) 0 (q' 34) 9 10)))))))) (fd (ev 52 10 aO 0 53 (fE 54 10 (xC p2) gT eQ (ac 6 aT))) 58 1 8 hQ (b8 106) gS ks))))
def Tryz.x77:=fB 21 []<|bo 8 di bB B h0 ab e3 ge hC (k (w [ag,ag,ag] [(0,1,.t 13),(1,1,.t 14),(2,1,.t 15)]) (aY 1 3 [ag,ag,ag] [(0,.t 16)]) (aJ 3 24 p6) (b1 8) (S' h0 eQ))
def Tryz.x78:=fB 105 []<|ap 0 (gs 4 p4 B d7 ab (eS B gT ab fa ad hs (dH B) (fu gW) g9 (bc p5 0) (H p6 B) (H p7 gL) (H p8 ab) (H p9 B) (eh 12 gT) (eh 12 ab) (M (eh 12 a5) (eh 12 (dI p9)) (df (q' 12)) E')) (a6 26 0) (Cu 1 (fY 27 1 (ai B gT ab ee B gW ab (e0 6 p5) (R 2)) (lF (d4 39 2 0 (ai (eZ 5) ad (ek 2) (dH B) (fu d7) g9 (H p5 (eZ 11)) iU E') (ah 50 (lF (fY 51 0 (k B gL ab fa E') (ah 58 (fY 59 0 (a B gT (dP (U 27))) ks))) (dF 65 0 B d7 ab B gL ab eC (a gq gL eQ))))) (fY 75 1 (ai B (q 4) ab ee B gW ab (e0 5 p5) (R 3)) (d4 87 3 2 E' (p 90 (fE 91 2 hC (eJ 107) E' (bk 95 0 B gW ab ic)) (ew 102 ee ge (b8 108) E'))))))))
def Tryz.x79:=fB 26 [.tmp 6]<|aU 6 F (al 8 p8 B d7 ab (bD a5 b9 7) (Z 14 2 b9 bB eL (ai ad (ek 1) (bc p2 7) (bc p3 2) (H p4 b9) (H p5 (ei oM)) (H p6 (I tF p5)) (df p7) gS) ks))
def Tryz.x80:=fB 21 [.tmp 6]<|u 3 dG (bz 6 0) (lF (an 7 p6 h4 fa E' (bl 9 6 ag)) (L 10 (t 16 p7) e3 ge jj (k fO e3 (d6 oM 64) (ei tG) (fL e3 (d6 oM 64) fG 6)) ks))
def Tryz.x81:=fB 93 [.tmp 2,.tmp 3]<|gm 1 dk ig bq (L 6 (aY 8 1 [au] [(0,oC au),(1,oC (j 97)),(2,oC (j 115)),(3,oC (j 109)),(4,oC (j 1)),(5,oC au),(6,oC au),(7,oC au)]) (alh p1) (w [aT,F] [(0,1,.t 7)]) dk il (al 10 p6 (l 2 1) ab a5 (k (l 9 1) ab a5 (I r p4) (d0 109 p8)) (dc 19 4 0 1 (kC5 110 p3 (e8 1) (U 256) p1 (fm 111 [])) E' (dc 23 4 1 1 (kC5 115 p3 (e8 2) im p1 (fm 116 [])) E' (dc 27 4 2 1 (kC5 118 p3 (e8 3) im p1 (fm 119 [])) E' (dc 31 4 3 1 (kC5 120 p3 (e8 4) im p1 (fm 121 [])) E' (dc 35 4 4 1 (kC5 120 p3 (e8 5) im p1 (fm 123 [])) E' (dc 39 4 5 1 (kC5 124 p3 (e8 6) im p1 (fm 125 [])) E' (dc 43 4 6 1 (kC5 126 p3 (e8 7) im p1 (fm 127 [])) E' (dc 47 4 7 1 (bP (-1)) (f0 109) (lF (gm 52 (l 7 1) ab h5 (ah 54 (N 55 (w [aT,F] []) dk hK (dc 57 5 7 1 hy f1 (ew 62 gC hl (dz 128 p2 (e8 8)) E'))))) (dc 65 4 8 1 (kC5 129 p3 (e8 9) im p1 (fm 130 [])) E' (dc 69 4 9 1 (kC5 132 p3 (e8 10) im p1 (fm 133 [])) E' (dc 73 4 10 1 (kC5 134 p3 (e8 11) im p1 (fm 135 [])) E' (lF (e1 (d4 78 4 1 (R 77) (p 77 (d1 2 aT (b 1)) (d4 83 4 0 (bD a5 (b2 16384) 82) (gv 82 2 aT 4))))) (d4 89 4 0 (fp 2 3) ks))))))))))))))))
def Tryz.x82:=fB 97 [.tmp 2]<|dy 1 dk F (gb 11 1 1 (l 2 1) (fL ab a5 (I pF p4) 3) (W (a0 18 3 bq E' (gt 0 20 20 0 1 21 4 (ay 23 hq gC (b8 29) (ff 22 p1 p4 0 p5 5 hz (aK 2 5 p2 gS)) (a0 28 6 eP E' (gi 29 2))) 30 19 19)) (gb 31 3 1 (b2 1) (k ad (gh (l 4 1)) g1 (ec a5) (eH (fk (b2 1)) p5)) (gi 40 2)) (W (bI 41 3 1 (l 4 1) ab (k (aY 2 1 [aT] [(0,i8),(1,.t 44)]) (aX 136) a5 bq E') (fT 2 49 49 2 3 (go 50 hM 2 8 [ag,ag] 2 8 (bI 52 1 8 (eZ (-1)) ad (k (fA 1 8) eo (ep p3 0 8) g9 (bY (H p5 jh) iU)) (gi 61 2))) 62 48 48)) (gb 63 4 1 (dl 1) (ai ad (fA 4 1) eo (fu hh) (H p4 gL) (H p5 ab) (H p6 (b2 65536)) (df p7) E') (gi 74 2)) (lF (gb 75 5 1 bq E' (fT 4 79 79 4 5 (go 80 jp 3 10 iu 3 10 (bI 82 2 10 (ga 10) ab (bY (dh 137) eP) (gi 87 2))) 88 78 78)) (L 89 hq hC (b8 138) ad (k (H p1 hq) (bc p2 3) (fu (b8 139)) fK (R 2)) ks)))))
def Tryz.x83:=fB 110 [.tmp 4,.tmp 5]<|e 4 (fc 2 p4 (bY ig (m F))) (L 17 jd (gp 2) ab a5 (M e3 eu (av 29 p6) (ff 16 p1 p8 0 p9 6 hz (aK 2 6 p2 iO))) (L 26 jd (ga 6) ab (l 9 2) (k ab e3 g8 d7 (M ab (aY 2 1 [aT] [(0,iH),(1,h3)]) (aA 140 [hw]) (Q' (q' 26) jd (bD (w [aT,aT,aT,aT,aT,aT,aT,ag,aT,aT,aT,aT,aT,aT,F] [(0,11,i6),(11,1,ik)]) dk 8)))) (dc 39 8 1 6 (w hz [(1,1,fX)]) (db (dz 141 p4 (U 2))) (bI 44 9 2 e3 g8 (k gL ab a5 (Ny (sN 3 24 [F,ag,ag] (.t 50) (.t 50))) (R 9)) (bj 10 ag (bI 52 9 2 e3 g8 (k gL ab a5 bq E') (fT 0 60 60 0 1 (an 61 p2 jr (dM 6) (bd 12 gD (f 11 p3 (bL 6 12))) (lF (eO 64 8 i1 13 (d4 66 13 5 (k ad (ek 13) (dH B) (fu (q 4)) (M g9 (H p5 eP) iU E')) (ah 76 (bj 10 ag (d4 77 8 12 (bY a5 bq) (bu 2 83 p1 p2 83 2 3 (N 84 gw ab (R 15) (ev 86 15 r 123 87 (fr 88 10 gx 10))) 90 hO 82)) (dF 91 9 fP gQ B ih ab a5 fJ (a (w [F,ag,ag] [(0,1,oC C),(1,1,.t 97),(2,1,.t 98)]) (yi 3 p9 p8) (dL 3 p2))))))) (fn 101 8 (ak 6 12) 143 (d4 104 8 14 E' (ez 107 4 aT F))))) 108 59 59)) (e 4 (el 109 9 (bY (d 109) (m C))) ks))))))
def Tryz.x84:=fB 8 [.tmp 2]<|gG
def Tryz.x85:=fB 8 [.tmp 2]<|fF 2 hB (ft 5 (aY 0 1 [ag] []) b7 (fv 1 8) 2 ks)
def Tryz.x86:=fB 8 [.tmp 2]<|fF 2 hB (ft 5 (aY 0 3 [aj,aj,ag] []) b7 (fv 3 40) 2 ks)
def Tryz.x87:=fB 8 [.tmp 2]<|fF 2 hB (ft 5 (aY 0 2 [ag,ag] []) b7 (fv 2 16) 2 ks)
def Tryz.x88:=fB 8 [.tmp 2]<|fF 2 hB (ft 5 (aY 0 3 iu []) b7 (fv 3 40) 2 ks)
def Tryz.x89:=fB 24 [.tmp 2]<|aU 2 aT (aR 5 p5 (aX 144) (R 3) (lF (an 7 p4 a5 bq E' (gt 0 10 10 0 1 11 4 (bo 12 bB bB hC gC (e0 6 p2) h0 ab (aX 85) (a (yi 6 p8 p7) h0 eQ)) 22 9 9)) (f2 23 hC 2)))
def Tryz.x90:=fB 8 [.tmp 2]<|fF 2 hB (ft 5 (aY 0 3 [aj,ag,ag] []) b7 (fv 3 32) 2 ks)
def Tryz.x91:=fB 8 [.tmp 2]<|gG
def Tryz.x92:=fB 8 [.tmp 2]<|gG
def Tryz.x93:=fB 8 [.tmp 2]<|gG
def Tryz.x94:=fB 8 [.tmp 2]<|fF 2 hB (ft 5 (aY 0 1 [au] []) b7 iA 2 ks)
def Tryz.x95:=fB 30 [.tmp 4,.tmp 5]<|dO 4 dw dw (lF (cIf (oC F) (Z 11 0 g2 e3 g2 (S' (dh 145) (fo 10 p6 0 p7 6 7)) (Z 18 6 b9 gU b9 (bW 4 p3 5) ks)) xw) (aL 23 0 e3 (b8 146) (fo 22 p4 0 p5 8 9) (a0 28 8 hQ (bW 4 p2 5) ks)))
def Tryz.x96:=fB 24 [.tmp 2,.tmp 3]<|dy 2 bq F (lF (eT 4 p4 fC (e1 (ej (aI 7 (E r p2 21) 6 6 xw (aS 8 (E r p3 22) 6)) 6 (d1 2 (b 8) F) (aI 10 (E r p5 23) 9 9 (d1 2 (b 8) C) (ej (aI 12 (E r p7 24) 11 11 xw (aS 13 (E r p8 25) 11)) 11 (d1 2 (b 16) F) (dX 15 5 26 14 14 (d1 2 (b 16) C) 17 5 27 16 16 (d1 2 (b 32) F) (dX 19 5 28 18 18 (d1 2 (b 32) C) 21 5 29 20 20 (d1 2 (b 64) F) (az 23 (bJ 5 30) 22 (ez 22 2 (b 64) C))))))))) (dy 2 bq F ks))
def Tryz.x97:=fB 68 [.tmp 2,.tmp 3]<|fl 2 bq (an 7 p7 fC (a2 96) il (gs 10 p6 hH ad iq (gl (bP 128) p3) (ah 15 (fl 2 bq ks)) (Z 16 4 (af qt 32) (f3 8) gC (S' (fV 32) (bW 5 p3 4)) (aU 6 F (W (e1 (ej (fQ 22 4 tF 1 21 (fI 21 (Z 24 4 (bP 11) ad (ek 4) (bD (fh 14) ex 21) (fI 21 (fr 30 4 (dl 17) 21))))) 21 (aB 6 (m C) E') (fQ 33 4 r 2 32 (p 32 (fr 35 5 (dl 8) 6) (ej (fQ 38 4 r 15 37 (fI 37 (fQ 40 4 r 16 37 (fI 37 (fQ 42 4 r 18 37 (fI 37 (fQ 44 4 r 19 37 (fI 37 (fr 46 4 (dl 27) 37))))))))) 37 (fr 48 5 (dE 16) 6) (fQ 51 4 r 21 50 (p 50 (fr 53 5 (b2 8) 6) (Z 56 4 (bP 22) ad (ek 4) (bD (fh 25) ex 55) (ah 55 (fr 62 5 (dE 32) 6)))))))))) (a0 64 6 eP E' (ah 65 (fl 2 bq ks))) (a0 66 5 gC (bW 2 p2 3) ks))))))
def Tryz.x98:=fB 35 [.tmp 2]<|aU 2 ag (al 3 p3 (eg 1) (dU 6148914691236517205) b7 (bD (dU 6148914691236517205) f5 0) (al 9 p9 (eg 2) (dU 3689348814741910323) ee (bD (dU 3689348814741910323) f5 0) (Z 15 0 (eg 4) ee eu (dq (dU 1085102592571150095) 0) (fE 20 0 (eg 8) f5 (R 0) (fE 24 0 (eg 16) f5 (R 0) (fE 28 0 jk f5 (R 0) (aL 32 0 fO (af vI 127) (R 2) ks)))))))
def Tryz.x99:=fB 27 [.tmp 4,.tmp 5]<|fl 4 bq (lF (aU 8 ag (bh 0 9 (bm 3) 9 0 1 (fR 10 6 (fE 11 1 fN di (bD (eF 32) (ei oM) 7) (Z 17 7 h5 ad (ek 7) (bY (dH (bm 4)) ex) (ah 22 (aL 23 6 (f3 8) gU (bW 4 p2 5) ks))))) 26 (a1 8 1) 8)) (fl 4 bq ks))
def Tryz.azF:=fB 27 [.tmp 8]<|u 4 (Ig p4) (eY 8 dw) (al 9 p6 di (fV 2) e3 (fL g5 (ei pS) (I pF p6) 3) (lF (ev 16 2 qJ 2 17 (L 18 gc e3 hC (eJ 80) (dq b9 8) ks)) (L 23 gc e3 hC jj (R 8) ks)))
def Tryz.asH:=fB 101 [.tmp 12]<|aU 12 dw (Z 15 0 eC (f3 (-1)) ee (M eC (f3 1) eC (bW 13 p5 14)) (lF (aH 22 e3 (e1 (aW 24 (E r p2 14) 23 23 (dn 25 2 3 pF it) 29 (E r p7 15) 28 28 (dV 30 4 5 eu iY hi) (dX 39 22 16 38 38 (dV 40 2 3 eu ee (fL (I tG (KQ (D 1))) (bU oM 1) (Ga p4 p1) 12)) 48 22 17 47 47 (dn 49 2 3 oM it) (dX 53 22 18 52 52 (dV 54 4 5 fN iY hi) 63 22 19 62 62 (dV 64 2 2 hC iD (dq (I oM p4) 12)) (dX 70 22 21 69 69 (dn 71 2 3 pS it) 75 22 22 74 74 (dV 76 4 5 iD b9 it) (dX 81 22 23 80 80 (aL 82 2 hC iD it ks) 86 22 24 85 85 (dV 87 4 5 (Ih p2 p1) b9 it) (fS 92 (bJ 22 25) 91 91 (aL 93 2 hC (Ih p2 p1) it ks))))))))) (dV 96 2 3 eu (bU pF 1) (dq (bU qt 2) 12))))
def Tryz.asI:=fB 30 [.tmp 2,.tmp 3]<|fl 2 bq (aR 5 p5 fC il (W (al 7 p3 (bP 35) ad (H p1 b7) (bY (fh 64) ex) (ah 12 (al 13 p9 (a2 35) (af qt 10) (f3 8) (M gC (a2 35) (fV 10) (bW 2 p4 3)) ks))) (Z 20 4 (bP 214) ad (ek 4) (bY (fh 219) ex) (ah 25 (L 26 (w [ag,ag,ag,ag,ag,ag] [(0,1,eX),(1,1,fg),(2,1,i0),(3,1,z 4),(4,1,z 6),(5,1,z 8)]) gC (a2 214) (JG 6 1 false p3 p1) (bW 2 (U 64) 3) ks))) (dy 2 bq (b (-1)) ks)))
def Tryz.asJ:=fB 62 [.tmp 6]<|aU 6 F (al 9 p8 b9 bB b9 (bW 7 p3 8) (lF (aH 13 ee (e1 (aW 15 (E r p2 0) 14 14 (dn 16 1 2 r gS) 20 (E r p7 1) 19 19 (dn 21 1 2 aO gS) (dX 25 13 2 24 24 (dn 26 1 2 qJ gS) 30 13 3 29 29 (dn 31 7 8 qJ gS) (dX 35 13 4 34 34 (dn 36 1 2 pT gS) 40 13 5 39 39 (dn 41 7 8 pT gS) (dX 45 13 6 44 44 (dn 46 1 2 tF gS) 50 13 7 49 49 (dn 51 7 8 tF gS) (fS 55 (bJ 13 8) 54 54 (dn 56 1 2 pG gS)))))))) (dn 59 7 8 pG gS)))
def Tryz.azG:=fB 65 [.cell 6 16 true]<|gm 4 dG dG hL (bj 7 (b 8) (ev 12 0 pT 102 13 (aB 7 (m (b 16)) E')) (al 14 p7 eC (f3 (-1)) gU (M eC (f3 1) eC (bW 8 p5 9)) (da 21 0 (fV 32) (dl 6) (ah 23 (ew 24 gU (f3 1) eC (bW 8 (U 0) 9))) (fH 10 gz (da 27 7 g5 bq (gt 0 30 30 0 1 31 11 (L 32 (bb 10) gU fP gc (M gU ji fP (am 40 gQ 42 hQ (dB 80 [hw,.t 37,iJ] (eV p8 10 (dW 41 (Ih p1 (q' 40)) 43 (Ga (q' 41) (q' 42)) 44 (bv (q' 43)) 45 (aA 42 [h2,ij,h3,.t 44]) (dN 16 10 45)))))) (bo 46 (bb 10) gU gU g5 fP eu ia gU (a ji fP (am 57 gQ 59 hQ (dB 80 [.t 52,.t 54,iL] (eV (q' 46) 10 (dW 58 (Ih p1 (q' 57)) 60 (Ga (q' 58) (q' 59)) 61 (bv (q' 60)) 62 (aA 42 [iK,.t 47,.t 51,.t 61]) (dN 16 10 62)))))))) 63 29 29) (fx 64 (bb 10) 16 6))))))
def Tryz.azH:=fB 29 [.tmp 4]<|aU 4 aT (aL 11 0 e3 (b8 26) (fo 10 p4 0 p5 5 6) (fF 7 (b3 16 5 a5 bq (bu 0 19 p1 p2 19 0 1 (N 20 (gy 16 p2) e5 (b0 9 gz 16 9) (bk 22 7 (bb 9) (aX 17) (aY 1 2 gJ [(0,iG)]) (dq (aJ 2 16 p4) 7))) 27 (eD p9 1) 18)) (f2 28 gU 4)))
def Tryz.azI:=fB 210 []<|al 9 p9 di B gT (fL ab a5 (av 149 p6) 6) (aU 7 dw (bj 8 ag (e1 (d4 33 1 0 (dq (bP 64768) 32) (p 32 (dV 38 0 1 ge gP (db (Xa 150 p4 p3 p2 p1))) (d4 44 1 0 (dq (dl 1) 43) (p 43 ks (ej (d4 50 1 0 (dq (dl 65) 49) (fI 49 (bk 55 1 B d7 ab (dq (dl 66) 49)))) 49 (bk 60 1 B gT ab iO) (d4 65 1 0 (dq (dl 63) 64) (p 64 (dF 70 0 B d7 ab B d7 ab B (k d7 ab (aX 15) (aX 44) (dq b9 7))) (d4 84 1 0 (dq (dl 64) 83) (p 83 (dF 89 0 B d7 ab B d7 ab B (a d7 ab (dW 100 gP 101 (be 2 (q' 100) 0) 102 (ga 101) 103 (h 1 (q' 102)) (D' 104 (fz (q' 103)) (dB 15 [.t 98] (eW 103 102 (am 105 (aA 151 [.t 99,.t 104]) 106 (bv (q' 105)) (el 7 106 E')))))))) (d4 108 2 0 (ai (dl 7) ad (ek 2) (dH B) (fu (q 4)) g9 (H p5 a5) (H p6 fa) (dq (df p7) 107)) (p 107 (e 133 (dW 121 ee 122 ee 123 (b1 122) 124 (ga 123) (dW 125 (h 1 p9) 126 hu 127 jf 128 (h 1 p6) (am 129 gq 130 (br p4) (D' 131 (h 1 p3) (eS e3 B d7 ab gP hh d7 ab e3 B gW ab b9 gP (es 2 1) d7 (S' ab (ey 132 15 [.t 131] (eW 136 135 (eW 140 139 (ef p6 p7 (ef p1 p2 (bY (aA 153 [.t 132,.t 136,.t 140,.t 145,.t 149]) (aA 152 [.t 121,.t 150]))))))))))))) ks) (d4 153 2 0 (dq (dl 7) 152) (p 152 (R' 170 (dW 159 ee 160 (b1 159) 161 (ga 160) 162 (h 1 p9) (dW 163 hu 164 jf 165 (h 1 p6) 166 gq (am 167 (br p4) 168 (h 1 p3) (ai e3 B d7 ab gP hh d7 ab (k e3 B gW ab (S' b9 (ey 169 15 [.t 168] (eW 173 172 (ef p6 p7 (ef p2 p3 (dB 154 [.t 169,.t 173,.t 177,.t 182] (fo 158 (q' 158) 0 (q' 158) 7 8))))))))))))) (aL 187 6 a5 (dl 1) (R 186) (p 186 (dF 191 1 B d7 ab gP hh d7 ab (dB 155 [.t 194,.t 198] (fo 190 (q' 190) 0 (q' 190) 7 8))) (dF 17 1 B d7 ab gP hh d7 ab (k gP (es 2 1) d7 ab (dB 156 [ii,iG,iH] (fo 16 (q' 16) 0 (q' 16) 7 8)))))))))))))))))))) (fn 202 0 gQ 152 (dp 205 0 7 (w gJ [(0,1,.t 206)]) (aY 1 2 gJ [(0,.t 207)]) (f0 157)))))
def Tryz.azJ:=fB 225 []<|fY 10 2 il (fY 14 2 ic (d4 21 1 0 E' (e1 (aI 29 (E r p5 0) 28 28 (bk 30 0 B d7 ab (a B gT (dP (U 20)))) (ej (dX 37 24 2 36 36 xw 38 24 3 36 36 xw (aS 39 (bJ 24 4) 36)) 36 (d4 40 1 0 (k (eZ 4) ad hf (dC i2) (fL (ec hS) (fk (bU aO 0)) (dv p5) 5)) (fE 52 1 B gL (a ab (av 159 p5) (fo 51 p7 0 p8 6 7)) (lF (d4 60 1 0 (db (dl 3)) (ah 64 (fE 65 4 gx ee (ai B gT ab a5 gP fN gP (Xa 77 (q' 65) p9 p2 p1) E') (Ur 0)))) (fE 77 0 B gL (eS ab B h0 ab gC et ab ee B gT ab a5 gP fN gU (aA 77 [.t 77,.t 87,.t 94,.t 95]) E') (a0 97 5 eP E' (ah 98 (fE 99 0 B gL (ai ab B h0 ab gC et ab (b1 99) (S' gW eQ)) (fY 112 1 (k B (q 6) ab gC (M et ab hn E')) (ah 122 (dF 123 0 ee B gL ab B (q 6) ab (k gC et ab gx (a (b1 123) gW eQ)))))))))))) (dX 138 24 5 137 137 (dF 139 0 ee B gL ab B h0 ab (k gC et ab (b1 139) (S' gW eQ))) 153 24 11 152 152 (dF 154 0 ee B h0 ab ee B h0 (k ab a5 eC (f8 3 p7 p1) (a (b1 154) h0 (dN 1 167 165)))) (dX 169 24 12 168 168 (dp 170 0 1 B gL (e9 ab 160)) 177 24 13 176 176 (Z 178 0 i2 hS (bU aO 0) E' (ah 181 (dp 182 0 1 B gL (e9 ab 160)))) (dX 189 24 14 188 188 (d4 190 1 1 (R 8) (lF (aL 194 0 i2 hS (R 9) (a8 197 9 1 B h0 (k ab a5 b9 (dI p7) E') (ah 204 (bk 205 1 B h0 ab (fL hQ et ab 8))))) (ew 212 ee gQ (b8 160) E'))) 216 24 15 215 215 (dF 217 0 ee B h0 ab a5 eC (av 160 p7) E') (ew 25 ee e3 (b8 161) E')))))))))
def Tryz.azK:=fB 15 []<|bo 4 e6 fs B gL ab ad iq (dC eP) (M gu (xC p9) gL eQ)
def Tryz.alk:=fB 48 []<|gB
def Tryz.azL:=fB 39 []<|aH 3 bR (al 4 p4 (br p2) ab a5 (ai (dE 32) ad (H p1 (dg p7)) eo (fu a5) (H p4 (dE 32)) (df p5) (av 109 (q' 4)) E') (fn 16 0 (dR [au] (j 96)) 112 (dc 19 0 0 3 a5 hg (dc 25 0 0 3 (dh 114) E' (dc 29 0 1 3 a5 hg (bk 35 0 hW ab (dh 114) E'))))))
def Tryz.asK:=fB 13 []<|bo 4 e6 fs B d7 ab di iA ht (S' d7 eQ)
def Tryz.alm:=fB 33 []<|an 6 p5 a5 bq E' (fT 0 9 9 0 1 (N 10 gw ab hK (Z 12 0 di h5 ad (k (ek 5) (dH (bm 4294967296)) ex (av 109 p7) E') (dF 20 0 ee B d7 ab hl b9 gZ (dB 162 [i7] (ef p5 p6 (M (eb 1 1 24 28) (b1 20) d7 (dN 1 31 29))))))) 32 8 8)
def Tryz.aln:=fB 30 []<|an 6 p5 a5 bq E' (fT 0 9 9 0 1 (N 10 gw ab hK (Z 12 0 di (dl 127) ad (ai (dZ 5) (dC (dl 126)) gu ad (dZ 5) (dC (dl 123)) gu (av 109 (q' 12)) E') (dp 24 0 5 gV h7 (f0 112)))) 29 8 8)
def Tryz.alo:=fB 48 []<|fE 13 3 a5 ge hG (da 19 3 a5 fa hP (fY 22 1 hA (a8 28 10 3 a5 hy f1 (da 33 3 a5 bq (bu 0 36 p1 p2 36 0 1 (go 37 jp 3 12 [aj,aj,ag] 3 12 gO) 43 hO 35) hD))))
def Tryz.azM:=fB 20 []<|aH 3 bR (al 4 p4 (br p2) ab (dh 117) E' (al 8 p8 (dg p6) ab (dh 117) E' (fn 12 0 he 112 (bk 15 0 (l 2 3) ab hy f1))))
def Tryz.azN:=fB 22 []<|al 4 p4 e6 (aX 163) (dh 109) E' (al 8 p8 di hT hy f1 (dF 13 0 ee B d7 ab e3 (alg 1 p2 p1) ht (S' d7 eQ)))
def Tryz.alp:=fB 48 []<|fE 13 3 a5 ge hG (da 19 3 a5 fa hP (fY 22 1 hA (a8 28 10 3 a5 hy f1 (da 33 3 a5 bq (bu 0 36 p1 p2 36 0 1 (N 37 gw ab it (dp 39 4 10 h8 hI E')) 43 hO 35) hD))))
def Tryz.azO:=fB 8 []<|aQ 4 e6 e6 hy (dh 113) E'
def Tryz.Xg:=fB 48 []<|fE 13 3 a5 ge hG (da 19 3 a5 fa hP (fY 22 1 hA (a8 28 10 3 a5 hy f1 (da 33 3 a5 bq (bu 0 36 p1 p2 36 0 1 (go 37 hM 2 12 [ag,ag] 2 12 i3) 43 hO 35) hD))))
def Tryz.azP:=fB 10 []<|aH 3 bR (an 4 p4 (dR [au] (j 112)) (b8 112) E' (ew 7 eU (t 2 p5) (kC3 122 p2 p1 (U 1024)) E'))
def Tryz.azQ:=fB 33 []<|aH 4 dG (al 6 p6 (br p3) ab eU hG (lF (gm 12 (dg p8) ab (dl (-1)) (ah 14 (fn 15 0 he 112 (dc 18 0 0 4 hy f1 ks)))) (fn 23 0 (dR [au] (j 1)) 112 (bk 26 0 (ga 4) ab (gp 4) (M ab (aY 2 1 [ag] [(0,iH),(1,hj)]) (av 113 p6) E')))))
def Tryz.azR:=fB 7 []<|aH 3 bR (ew 4 e6 (t 2 p2) (kC3 122 p2 p1 (U 16)) E')
def Tryz.alq:=fB 48 []<|fE 13 3 a5 ge hG (da 19 3 a5 fa hP (fY 22 1 hA (a8 28 10 3 a5 hy f1 (da 33 3 a5 bq (bu 0 36 p1 p2 36 0 1 (go 37 jp 3 12 iu 3 12 gO) 43 hO 35) hD))))
def Tryz.azS:=fB 21 []<|aH 3 bR (al 4 p4 (br p2) ab hy (f0 114) (lF (dm 9 (dg p6) ab (p 10 (ew 11 ee (dR [au] (j 1)) (b8 112) E') (ew 14 ee he (b8 112) E'))) (bk 17 0 (l 2 3) ab (dh 131) E')))
def Tryz.alr:=fB 48 []<|fE 13 3 a5 ge hG (da 19 3 a5 fa hP (fY 22 1 hA (a8 28 10 3 a5 hy f1 (da 33 3 a5 bq (bu 0 36 p1 p2 36 0 1 (go 37 jp 3 12 [aj,ag,ag] 3 12 gO) 43 hO 35) hD))))
def Tryz.azT:=fB 29 []<|aH 3 bR (al 4 p4 (dg p2) ab h5 (k ad (H p1 (dg p6)) eo (fu (dE 3)) (dK fK 109 p9)) (dc 14 0 0 3 (dh 117) E' (dc 18 0 1 3 gV (e9 h7 112) (bk 24 0 (l 2 3) ab hy f1))))
def Tryz.azU:=fB 37 []<|al 6 p6 fs B gL (M ab eP (av 109 p6) E') (fE 13 1 h7 (dh 112) E' (fE 17 2 B d7 jq (dF 25 0 ee B d7 ab ge B d7 (k ab (eb 1 1 29 33) (b1 25) d7 (dN 1 36 34)))))
def Tryz.alu:=fB 48 []<|gB
def Tryz.azV:=fB 27 []<|aH 3 bR (al 4 p4 (dg p2) ab a5 (e9 (dE 1024) 109) (fn 10 0 he 112 (dc 13 0 0 3 (dh 131) E' (dc 17 0 1 3 a5 hg (bk 23 0 hW ab (dh 113) E')))))
def Tryz.azW:=fB 24 []<|aR 7 p6 (aX 164) (fo 6 p3 0 p4 4 5) (Z 11 0 eU fa (dh 109) E' (dF 15 0 ee B d7 ab gC iA ht (S' d7 eQ)))
def Tryz.alv:=fB 48 []<|gB
def Tryz.Xh:=fB 121 []<|aH 3 bR (al 9 p9 jf ab a5 (e9 (dE 512) 109) (N 15 (w [aT,F] []) dk il (bj 5 ag (gb 17 0 3 bq E' (gt 0 21 21 0 1 22 6 (Z 23 6 fa ad (gh h9) (ai g1 (bN p3 6) (fk et) ju (v p6 h9) (v p7 ab) (bN p8 6) (v p9 eC) (k (v (q' 25) (d9 p3)) (v (q' 25) ab) (v (q' 25) (I aO p7)) (dv (q' 25)) E')) (ah 38 (fr 39 5 gx 5))) 41 20 20)) (a8 42 4 5 hy (dh 113) E' (lF (aU 7 ag (ap 2 (lF (dc 46 7 0 3 a5 (db (dI p4)) (a6 50 2)) (Cu 3 (bj 8 (b 1) (ap 4 (lF (a8 51 7 8 eu h9 (eS ab a5 (dI p4) ad (fA 0 3) eo (bc p3 7) (bc p4 8) (H p5 eu) (H p6 (d9 p4)) (H p7 ab) (ep p8 0 3) (H p9 ab) (bc (q' 58) 7) (eh 58 et) (eh 58 ab) (bY (eh 58 (I r p6)) (df (q' 58)))) (a6 72 4)) (Cu 5 (fr 73 8 gx 8)))) (a8 75 4 8 hy (dh 113) E' (dc 79 4 0 3 gU (k et ab hy (av 114 p7) E') (ew 87 gU gQ eu iO)))))))) (dc 90 4 1 3 (dh 131) E' (fE 94 4 B gL (M ab eP (av 109 p6) E') (fE 101 4 B d7 jq (dF 109 0 ee B d7 ab gC B d7 (k ab (eb 1 1 113 117) (b1 109) d7 (dN 1 120 118)))))))))))
def Tryz.alw:=fB 48 []<|gB
def Tryz.azX:=fB 21 []<|aH 3 bR (an 4 p4 he (b8 112) E' (al 7 p7 (br p5) ab (dh 131) E' (Z 11 0 (dg p9) ab a5 hg (bk 17 0 hW ab (dh 112) E'))))
def Tryz.ads:=fB 36 [.tmp 2]<|aU 2 aT (bj 3 ag gH (eO 23 3 (av 165 i4) 6 (da 25 0 a5 bq (bu 2 28 p1 p2 28 2 3 (N 29 gw ab (R 8) (ew 31 gP gQ (fv 2 16) gS)) 34 (eD p7 1) 27) (f2 35 gP 2))))
def Tryz.asM:=fB 24 [.tmp 4]<|aU 4 F (W (an 5 p5 a5 (eZ 2) E' (gi 7 4)) (al 8 p8 (es 6 0) d7 ab E' (e1 (aW 13 (E r p2 65) 12 12 (fQ 14 1 r 127 4 ks) 17 (E r p6 66) 16 16 (fQ 18 1 r 126 4 ks) (fS 21 (bJ 11 64780) 20 20 (fQ 22 1 r 123 4 ks))))) (ac 4 F))
def Tryz.alx:=fB 74 [.tmp 4]<|u 2 bR (eY 4 F) (dc 11 1 3 2 a5 (k (l 4 2) ab a5 (l 5 2) (M ab a5 (w [ag,ag,ag,ag] [(0,1,.t 11),(1,1,.t 14),(2,1,.t 17),(3,1,ii)]) (b0 5 [ag,ag,ag,ag] 4 5))) (az 22 (Ny Ru) 6 (W (gb 23 6 2 bq E' (fT 0 27 27 0 1 (an 28 p2 (yi 3 p5 p3) (dM 3) (bd 8 [aj,ag,ag] (f 7 p3 (bL 3 8))) (lF (dc 31 6 0 8 (aG jL) (ai hn ad (gh (l 2 8)) g1 (ec (gp 8)) iX (v p5 (bT 4 1 5 p1)) (v p6 ab) (eH (v p7 (I pG p5)) p8)) (gi 44 4)) (bk 45 6 (ga 8) ab gU (S' gx iM)))) 50 26 26)) (gm 51 (l 7 2) ab (dl (-1)) (bl 53 4 C)) (L 55 jd (l 7 2) ab (dh 29) (ff 54 p1 p5 0 p6 9 hz (aK 2 9 p2 (R 10))) (Z 61 10 ad (fA 0 9) eo (ai (fu a5) (H p4 fa) (df p5) ad (fA 1 9) eo (fu a5) (H p4 fa) (dq (df p5) 4)) ks)))))
def Tryz.Xi:=fB 58 [.tmp 4]<|u 2 bR (eY 4 F) (W (L 11 (oY 8 p9) ab a5 bq E' (fT 0 15 15 0 1 (go 16 hM 2 6 hz 2 6 (fd (gb 18 3 2 fa (k ad (gh (ga 6)) g1 (ec (gg 137 p1 127)) (eH (fk eP) p5)) (gi 27 4)) 28 1 6 a5 bq E' (bu 2 32 p1 p2 32 2 3 (N 33 gw ab (R 8) (b3 35 8 e3 (bX pG) (gi 37 4))) 38 (eD p7 1) 31))) 39 14 14)) (gb 40 10 2 bq E' (fT 4 44 44 4 5 (go 45 hM 2 10 hz 2 10 (gb 47 4 2 fa (k ad (gh (ga 10)) g1 (ec (gg 137 p1 127)) (eH (fk eP) p5)) (gi 56 4))) 57 43 43)) (ac 4 C))
def Tryz.adt:=fB 36 [.tmp 2]<|aU 2 aT (bj 3 ag gH (eO 23 3 (av 166 i4) 6 (da 25 0 a5 bq (bu 2 28 p1 p2 28 2 3 (N 29 gw ab (R 8) (ew 31 gP gQ (fv 1 8) gS)) 34 (eD p7 1) 27) (f2 35 gP 2))))
def Tryz.asN:=fB 47 []<|aH 5 dG (bj 6 C (al 7 p7 B hJ ab (bY a5 hn) (ah 12 (dF 13 0 i1 B h0 ab ad hs (dH i1) (k (fu B) (H p4 (q 4)) (H p5 ab) (H p6 eP) (dq (df p7) 6))))) (dF 26 0 ee B hJ ab e3 ee B (ai ih ab a5 (ga 5) ab (gp 5) ab gP (k (w hk [(0,1,h1),(1,1,ik),(2,1,iJ),(3,1,.t 40),(5,1,fX)]) (aY 1 6 hk [(0,i8)]) (eb 6 72 30 43) (b1 26) (S' hJ (dN 1 46 44))))))
def Tryz.azY:=fB 14 [.tmp 2]<|aU 2 bK (al 3 p3 B hJ ab (k eU B hJ ab (fL a5 eC (e0 6 p7) 2)) ks)
def Tryz.asO:=fB 148 []<|aH 3 bR (ay 13 h9 ab (aX 25) (ff 12 p1 p4 0 p5 4 gM (aK 5 4 p2 hK)) (lF (dm 18 (l 2 4) ab (ah 19 (Z 20 0 (ak 6 3) (ak 5 4) (eJ 167) E' (dc 24 0 3 4 (dh 168) E' (dc 28 0 4 4 iw E' ks))))) (dm 32 h9 ab (e1 (ej (aW 38 (E r p5 2) 37 37 xw 39 (E r p6 3) 37 37 xw (aS 40 (E r p7 4) 37)) 37 (lF (gm 41 h9 ab (dl 4) (ah 43 (R' 44 (bY ee gn)))) (dc 46 0 1 3 (dh 171) (b0 6 hz 2 6) (dc 50 0 0 6 (dh 168) E' (dc 54 0 0 3 (ak 2 6) (db (eE 141 p4)) (bk 59 0 (ga 6) ab iw E'))))) (ej (fj 64 33 5 63 63 xw (aS 65 (bJ 33 11) 63)) 63 (bk 66 0 h9 ab (dh 172) E') (dX 71 33 26 70 70 (R' 72 (bY ee (gg 170 p1 0))) 75 33 27 74 74 (a0 76 0 gn E' (eO 78 0 (gg 170 p1 0) 7 (dp 80 0 0 gU (b8 170) (e9 hy 169)))) (dX 87 33 16 86 86 (bG 89 0 B 0 iT (M hW ab (aA 29 [.t 92,.t 94]) (ff 88 p1 p8 0 p9 8 hz (bi 2 8 96 (R 9)))) (fn 98 0 hQ 173 (dc 101 0 0 8 (dh 168) E' (bk 105 0 (gp 8) ab iw E')))) 110 33 17 109 109 (bG 112 0 B 0 iT (M hW ab (aA 75 [.t 115,.t 117]) (ff 111 p1 p8 0 p9 10 hz (bi 2 10 119 (R 11)))) (fE 121 11 ad hs (ai (dH B) (fu d7) (H p4 gT) (H p5 ab) (H p6 a5) (H p7 hn) (df p8) ad (k (fA 2 3) eo (fu fa) fK (d0 173 (q' 121)))) (a0 138 0 gn E' (dc 140 0 0 10 (dh 168) E' (bk 144 0 (gp 10) ab iw E'))))) (ew 34 ee (ak 6 3) (b8 174) E')))))))))
def Tryz.aly:=fB 8 [.tmp 2]<|fF 2 hB (ft 5 (aY 0 6 gD []) b7 (fv 6 64) 2 ks)
def Tryz.azZ:=fB 17 [.tmp 4,.tmp 5]<|dO 4 f9 f9 (al 7 p7 b9 di b9 (dq (ei pS) 6) (al 12 p6 jk g2 bB (S' g2 (bW 4 p3 5)) ks))
def Tryz.az0:=fB 51 [.tmp 4,.tmp 5]<|dO 4 dw dw (eO 14 0 gd 6 (eO 16 0 jk 7 (eO 18 1 gd 8 (eO 20 1 jk 9 (d3 22 6 8 pS (R 10) (a8 25 7 8 iR fJ (bD jk f5 11) (eO 31 11 gd 12 (eO 33 11 jk 13 (a8 35 12 6 hQ iR (dq (I pF p4) 12) (a8 40 7 9 iR iY (k eu h8 jk f5 il) (dn 48 0 1 pS hK)))))))))))
def Tryz.az1:=fB 32 [.tmp 4]<|aU 4 aT (al 7 p7 B gT ab (fL a5 e3 fN 5) (L 14 (aY 0 2 gJ []) ee B gT (k ab hl (Gb 2 p2 (so' p1) no') (aJ 2 16 p7) gS) (fE 22 0 B gT (k ab hl (f8 2 p2 p1) ht (S' gT eQ)) (f2 31 gP 4))))
def Tryz.az2:=fB 117 []<|lF (d4 13 1 0 (db (aX 6)) (ah 17 (Z 19 1 B (dM 6) ge (k B gT ab hC (dB 31 [.t 25,i6] (Q' p7 (t 6 p8) (dB 7 [iE,i7] (fo 18 (q' 18) 0 (q' 18) 8 9))))) (fn 31 0 hQ 152 (Z 34 8 iv ab (w gJ [(0,1,ik)]) (b0 10 gJ 2 10) (da 38 8 a5 (b2 1) (ah 40 (bk 41 8 (aN p1 (U 1)) ab (gp 10) em)) (Z 45 0 (ak 2 10) (aY 1 2 gJ [(0,iK)]) (dh 157) E' ks))))))) (fH 11 gz (W (b3 49 3 a5 (b2 1) (ah 51 (bk 52 3 (es 2 1) hr (aX 39) (bL 16 11)))) (d4 56 2 4 (bY a5 fa) (ah 61 (dV 62 0 0 B d7 (k ab B d7 ab (M B d7 ab (dW 74 e3 75 (b1 74) 76 (ak 6 75) 77 hC (dW 78 (be 2 (q' 77) 0) 79 (ga 78) 80 (h 1 (q' 79)) 81 (fz (q' 80)) (D' 82 (bb 11) (dB 15 [.t 72] (Q' (q' 76) (ak 6 75) (eW 80 79 (eV (q' 82) 11 (am 83 (aA 18 [.t 73,.t 76,.t 81,.t 82]) 84 (aA 152 [.t 62,.t 83]) E'))))))))))))) (e 97 (dW 86 ee 87 (b1 86) 88 (ga 87) 89 (h 1 p9) (dW 90 hu 91 jf 92 (h 1 p6) 93 gq (am 94 (br p4) 95 (h 1 p3) (ai e3 B (dM 6) hC hh d7 ab g2 (S' (bb 11) (ey 96 15 [.t 95] (Q' p7 (t 6 p8) (ef p3 p4 (eV p1 11 (dB 19 [.t 96,.t 99,.t 104,.t 105] (bQ 85 p1 (q' 85) 0 (q' 85) (bi 16 11 107 it)))))))))))) (fn 109 0 h8 152 (bk 112 0 (bb 11) (aX 17) (aY 1 2 gJ [(0,.t 114)]) (f0 157))))))
def Tryz.az3:=fB 13 []<|eT 4 p3 (eZ 0) (ah 5 (aQ 6 b7 B d7 ab (M bB (xC p2) gT eQ)))
def Tryz.az4:=fB 56 [.tmp 6,.tmp 7]<|fl 6 jt (aM (b3 10 0 (aX 176) (eZ 2) (gv 12 6 dw 1)) 0 (fQ 14 0 tF 79 13 (p 13 (Z 16 0 (a2 70) e3 gN (k fO ge gN fO (S' (dz 184 p7 p4) fM)) ks) (fQ 26 0 tF 90 25 (p 25 (Z 28 0 (a2 81) e3 fO (M ge fO (dz 184 p5 p3) fM) ks) (bS 36 0 tF 120 (R 35) 35 (fE 39 1 g2 ge (a g2 (dz 185 p5 p3) (fo 38 p7 0 p8 8 9)) (aL 47 8 b9 hQ (bW 6 p2 7) ks))))))) (dV 50 0 1 ge (eJ 186) (bf p1 0 p2 (bW 6 p2 7))))
def Tryz.az5:=fB 13 []<|bo 4 e6 fs B gT ab di (fv 2 16) ht (S' gT eQ)
def Tryz.az6:=fB 31 [.cell 2 2 true]<|fH 2 gJ (al 4 p4 B gT ab (ai di B gT ab a5 eC (b4 p7 p1) hr (bd 3 gJ (dN 2 3 15))) (fE 16 0 B gT (ai ab ee B gT ab a5 eC (f8 2 p7 p1) (a (b1 16) gT (dN 1 29 27))) (fx 30 (ak 2 3) 2 2)))
def Tryz.az7:=fB 44 [.tmp 4,.tmp 5]<|fl 4 bq (lF (e1 (aR 7 p6 h5 gS (p 6 (al 9 p9 B d7 ab (eS B d7 ab B gW d7 ab e3 g8 d7 ab a5 ee B d7 ab (ai B d7 ab B gW d7 ab e3 (k g8 gL ab a5 (el 4 24 hK)))) ks) (bS 42 1 r (-64) (R 41) 41 (fl 4 bq ks))))) (dy 4 bq (b 1) ks))
def Tryz.az8:=fB 53 []<|al 7 p7 B h0 ab (k a5 eC e3 fN il) (fY 15 5 (M gC (e0 3 p2) (dM 3) (b0 5 [ag,ag,ag] 3 5)) (dc 22 0 2 5 (dh 149) gS (fE 26 0 B gT (ai ab (gp 5) ab (f8 2 p3 p1) gP (eb 2 16 33 34) (b1 26) gT (dN 1 37 35)) (dc 38 0 0 5 (xC p3) (S' gW eQ) (dF 43 0 ee B h0 ab gC gx (f8 3 p3 p1) (a hu h0 eQ))))))
def Tryz.az9:=fB 213 []<|d4 12 1 0 E' (e1 (dt 20 (E r p5 16) 19 19 (fY 22 0 (ai B d7 ab B gW iT e3 B (M gL ab (aA 29 [h1,hw]) (ff 21 p1 (q' 21) 0 (q' 21) 4 hz (bi 2 4 37 hK)))) (dF 39 0 ee B d7 ab e3 B gL (k ab ee (ga 4) ab (a a5 (aA 149 [.t 48,.t 51]) (eW 43 42 (ef p6 p7 (bY (aA 30 [.t 43,.t 47,.t 52]) (aA 157 [gk,.t 53])))))))) 56 15 17 55 55 (fY 58 0 (ai B d7 ab B d7 ab ee (aA 158 [.t 68]) (er p9 60 (ef p6 p7 (ef p3 p4 (M hS g2 (aA 187 [.t 67,.t 71]) (fo 57 (q' 57) 0 (q' 57) 6 7)))))) (lF (a0 75 7 eP E' (ah 76 (fY 77 0 (a B gT (dP (U 24))) ks))) (fY 84 0 (ai B d7 ab B gW iT gP (b8 29) (ff 83 p1 (q' 83) 0 (q' 83) 8 hz (aK 2 8 p2 (R 9)))) (lF (L 98 (ak 2 8) ee B d7 (eS ab B d7 ab B gW d7 ab e3 B gL ab (b4 p5 p1) hr (aA 188 [.t 98,.t 115]) eP E') (ah 117 (fY 118 0 (a B gT (dP (U 25))) ks))) (dF 124 0 ee B d7 ab gP ee (ga 8) (M ab a5 (aA 149 [.t 130,.t 133]) (ef p7 p8 (bY (aA 30 [.t 128,.t 129,.t 134]) (aA 157 [.t 124,.t 135]))))))))) (dX 138 15 26 137 137 (R' 139 (bY ee i2)) 142 15 27 141 141 (Z 143 0 i2 hS (bU aO 0) (R 10) (eO 147 0 (gg 149 p1 2) 11 (aH 149 fJ (p 149 (dp 150 0 11 hh hr (e9 (aY 1 2 gJ [(0,.t 153)]) 157)) (dp 156 0 11 (es 2 1) hr (e9 (aY 1 2 gJ [(0,.t 159)]) 157)))))) (dX 163 15 32 162 162 (dF 164 0 ee B (q 4) ab e3 B gL (k ab (b4 p5 p1) hr (aY 1 2 gJ [(0,.t 174)]) (db (aA 157 [.t 164,.t 175])))) 178 15 33 177 177 (dF 179 0 B (q 4) ab e3 B gL ab (a ee (aA 158 [.t 187]) (ef p7 p8 (ef p3 p4 (S' (b4 p7 p3) (dN 2 189 188)))))) (fj 191 15 34 190 190 (dF 192 0 B (q 4) ab e3 B gL ab (ai ee B gT ab ee B gT ab (k a5 eC (b4 p7 p1) hr (S' (b4 (q' 195) (q' 199)) (dN 2 212 211))))) (ew 16 ee e3 (b8 189) E'))))))
def Tryz.alz:=fB 29 [.tmp 2]<|aU 2 aT (fF 3 (an 6 p6 a5 bq E' (fT 0 9 9 0 1 (N 10 gw ab hK (lF (ap 2 (lF (eT 12 p7 (bU pG 128) (a6 13 2)) (Cu 3 (a8 14 3 5 gV (bH EO (j 128)) g4 (fr 20 5 (eg 7) 5))))) (dp 22 3 5 gV h7 (dq (aJ 1 1 p4) 3)))) 27 8 8)) (f2 28 hC 2))
def Tryz.az':=fB 169 [.tmp 2]<|bj 2 F (ap 0 (lF (an 7 p7 hT hn E' (a6 9 0)) (Cu 1 (eO 10 0 (en 0) 3 (lF (eN 12 p9 qJ (j 128) (ah 13 (eO 14 0 (fq p1 1) 0 (lF (Z 16 0 hT (b2 8) ad (k hs (dH (aX 190)) (fu gr) (H p4 hx) (db (df p5))) (ah 24 (eO 25 0 (fq p1 8) 0 (e 33 (am 27 ee 28 (ON p6) (D' 29 (E pT p5 16) (f 30 p4 (D' 31 (bc p3 0) (a (bc p3 0) (H p4 (fq p1 8)) (D' 32 (aG (e4 hj true 190 [h1])) (Q' p1 (H p5 (fq p2 8)) (k (aG (e4 hj true 190 [h3])) (H p6 (e7 p4)) (H p7 gr) (H p8 hx) (db (df p9)))))))))) (ah 39 (eO 40 0 (fq p1 16) 0 (ap 2 (lF (e 55 (dW 42 ee 43 (ON (q' 42)) 44 (aw pT 43 32) 45 (d 44) (dW 46 ib 48 ib 49 (eh 45 (fq p7 8)) 52 ib (D' 53 (eh 45 (fq p3 16)) (a ib (eh 45 (fq p1 24)) (D' 47 (aG (e4 i9 true 190 [iK])) (Q' p8 (eh 45 (fq p9 8)) (Q' p4 (eh 45 (fq p5 16)) (Q' p1 iy (D' 50 (aG (e4 i9 true 190 [.t 49])) (Q' p4 (eh 45 (fq p5 16)) (Q' p1 iy (am 51 (eh 45 (F' EO (q' 47) p7)) 54 (aG (e4 i9 true 190 [.t 53])) (Q' p1 iy (k (aG (e4 i9 true 190 [.t 56])) (eh 45 (e7 p4)) (eh 45 (e7 p8)) (eh 45 gr) (bY (eh 45 hx) (df (q' 45))))))))))))))))) (a6 62 2)) (Cu 3 (dY 63 ee (fq p1 32) 0)))))))))) (Ur 1))))) (aL 65 3 (Xd 256 1 oX' p1) ab il (aL 68 4 (bH vI (j 7)) fO hK (Z 71 4 (eg 4) (Xd 16 2 oX' p1) hr (b0 6 [au,au] 2 6) (aH 75 hl (Cu 4 (dt 77 (E r p2 2) 76 76 (lF (Z 78 0 hT (bm 2) ad (ai hf (dC (en 1)) (ec (ga 6)) iX g0 hm ad (gh (gp 6)) (k g1 (bN p3 0) (fk (en 1)) g0 (db hm))) (gi 94 2)) (dY 95 ee (fq p1 2) 0)) 98 75 3 97 97 (lF (Z 99 0 hT (bm 3) ad (eS hf (dC (en 1)) (ec (ga 6)) iX g0 hm ad (gh (gp 6)) g1 (bN p3 0) (fk (en 1)) g0 hm ad hf jg (k hR iV ad hf (M jg ix iV E'))) (gi 125 2)) (dY 126 ee (fq p1 3) 0)) (fj 129 75 4 128 128 (lF (Z 130 0 hT (bm 4) ad (eS hf (dC (en 1)) (ec (ga 6)) iX g0 hm ad (gh (gp 6)) g1 (bN p3 0) (fk (en 1)) g0 hm ad hf jg (eS hR iV ad hf jg ix iV ad hf (dC (en 3)) hR iV ad hf (dC (en 3)) ix (db iV))) (gi 166 2)) (dY 167 ee (fq p1 4) 0)) (ac 2 F))))))))))))) (ac 2 C)
def Tryz.alA:=fB 30 [.tmp 2,.tmp 3]<|fl 2 ig (lF (an 9 p9 (aX 191) eP E' (gv 11 2 aT 1)) (fF 4 (b3 12 0 a5 bq (fT 0 15 15 0 1 (go 16 (gy 6 p2) 6 6 gD 6 6 (N 19 (ak 6 6) (aX 192) (fo 18 p3 0 p4 7 8) (lF (a0 23 8 eP E' (gv 24 2 aT 1)) (ew 25 gC gU iA il)))) 28 14 14)) (e 2 (el 29 4 (bY (d 29) bq)) ks)))
def Tryz.aAa:=fB 27 [.tmp 4]<|aU 4 aT (W hv (al 8 p7 bB hX ee iz (ev 15 1 pT 0 16 (dF 17 0 ee hX (f8 2 p3 p1) e3 (Ny (xJ 2 16 [ag,ag] ii iE)) ee a5 (dq (f8 2 p3 p1) 0)))) (f2 26 ee 4))
def Tryz.aAb:=fB 27 [.tmp 4]<|aU 4 aT (W hv (al 8 p7 bB hX ee iz (ev 15 1 pT 0 16 (dF 17 0 ee hX (f8 1 p3 p1) e3 (Ny (xJ 1 8 [ag] ii iE)) ee a5 (dq (f8 1 p3 p1) 0)))) (f2 26 ee 4))
def Tryz.asP:=fB 68 []<|dm 4 dG dG (dm 8 (br p3) ab (e1 (ej (aW 11 (E r p2 7) 10 10 xw 12 (E r p3 8) 10 10 xw (aS 13 (E r p4 14) 10)) 10 (fE 14 0 B d7 (ai (q 4) ab a5 hn ad (fA 1 4) eo (ep p3 1 5) (k g9 (H p5 (ei tF)) iU (av 173 (q' 14)) E')) (dF 30 0 (ga 5) ab (eZ 8) ad (gh (l 3 4)) g1 (ec (gp 5)) (k iX (v p5 (I A8 (KQ (D 16)))) (v p6 (dI p4)) (dv p7) (db (aA 173 [hj,fX]))))) (fj 44 9 13 43 43 (bk 45 0 (gp 4) ab (gp 5) (M ab jh (av 173 p6) E')) (fS 53 (bJ 9 12) 52 52 (bI 54 3 4 (l 4 4) ab (M (w gJ [(0,1,iL),(1,1,.t 57)]) (aX 39) bq E') (bh 1 61 (bm 16) 61 1 2 (az 62 (JG 16 1 false p3 p2) 7 (dp 63 0 7 (bH qJ (j 32)) (dh 173) E')) 67 (eD p7 1) 60)))))))
def Tryz.alB:=fB 18 []<|an 5 p4 a5 eC il (ap 0 (aM (eT 8 p4 h5 (a6 9 0)) 1 (dp 12 0 1 gC et (e9 ab 170)) (dY 10 b7 eC 4)))
def Tryz.asQ:=fB 13 []<|bo 4 e6 fs B ih ab di (fv 1 8) ht (S' ih eQ)
def Tryz.asR:=fB 69 [.tmp 4]<|aU 4 ag (aR 7 p7 i1 hK (gs 9 p9 B ih ab (k a5 bB B gL (bY ab (I r p5))) (ah 18 (fE 19 5 B (q 4) (e9 ab 173) (f2 25 e3 4))) (fY 26 12 (ai ee B ih ab a5 eC (d9 p7) ab gS) (fE 38 0 B ih (ai ab ee B ih ab a5 eC (f8 1 p7 p1) (a (b1 38) ih (dN 1 51 49))) (fE 52 6 e3 (bX r) (ai ad (dZ 6) (dC fa) gu ad (dZ 1) (dC fa) gu (d0 173 (q' 52))) (lF (ev 65 6 r 0 66 (f2 67 e3 4)) (f2 68 gP 4)))))))
def Tryz.asS:=fB 31 [.cell 4 2 true]<|fH 4 hz (lF (e1 (aR 8 p7 h5 iO (p 7 (bG 11 0 B 0 iT (a e3 (b8 75) (ff 10 p1 p7 0 p8 5 hz (aK 2 5 p2 gS))) (fn 19 0 gP 173 (fx 22 (ak 2 5) 2 4))) (bS 24 1 r (-64) (R 23) 23 (fx 26 (w hz []) 2 4))))) (Z 27 1 (bn 128) hy (w hz [(1,1,iI)]) (bL 2 4) ks))
def Tryz.asU:=fB 80 []<|al 5 p5 i1 B (dM 6) (bd 4 hk (dD 6 p5 p1)) (al 9 p9 (oY 3 p6) ab (dh 168) E' (fE 13 0 B ih (k ab a5 (gp 4) ab (bY (ei r) (aA 173 [.t 13,iE]))) (fE 23 0 B hJ (ai ab ee B hJ ab a5 eC (f8 6 p7 p1) (a (b1 23) hJ (dN 1 36 34))) (W (fY 37 14 E' (ah 40 (dV 41 0 0 B hJ (k ab (ak 6 4) (aY 1 6 hk [(0,iK)]) (eb 6 72 45 47) (a hu hJ (dN 1 50 48)))))) (ev 51 1 r 5 52 (dc 53 0 2 4 (l 3 4) (M ab (w hz [(0,1,iL),(1,1,.t 57)]) (dz 141 p6 (U 5)) E') (dc 60 0 2 4 iw E' ks))) (dc 64 0 0 4 (eZ 4) (ai ad (gh (l 2 4)) g1 (ec (l 3 4)) iX (v p5 (dh 193)) hm (av 173 (q' 64)) E') (bk 76 0 (l 3 4) ab iw E'))))))
def Tryz.aAc:=fB 15 []<|bo 4 e6 fs B (q 14) ab ad iq (dC eP) (M gu (xC p9) (q 14) eQ)
def Tryz.alC:=fB 89 []<|aH 3 bR (dm 9 (br p6) ab (e1 (aW 15 (E r p5 0) 14 14 (R' 16 hV) 19 (E r p9 12) 18 18 (fE 20 0 hW ab (e9 (dh 195) 168) (R' 26 hV)) (dX 29 10 13 28 28 (a0 30 0 gn E' (dc 32 0 1 3 (dh 195) il (fn 36 0 gC 168 (ew 39 ee gC (b8 169) E')))) 43 10 14 42 42 (a0 44 0 gn E' (dc 46 0 1 3 (dh 195) hK (lF (gb 50 5 3 bq E' (fT 1 54 54 1 2 (N 55 gw ab iO (aL 57 0 gU (b8 195) (R 8) (fE 60 8 a5 hl (M a5 (ei r) (av 173 p6) E') (ew 67 ee gQ (b8 196) E')))) 70 53 53)) (fn 71 0 hl 168 (R' 74 hV))))) (fj 77 10 15 76 76 (fE 78 0 B hJ (k ab (es 6 0) gT ab (d0 168 p8)) (R' 87 hV)) (ew 11 ee (t 6 p9) (b8 197) E'))))))
def Tryz.aAd:=fB 57 [.tmp 2]<|bj 2 ag (e1 (ej (aR 4 p4 (dl 69) (R 3) (fI 3 (aR 6 p6 (dl 80) (R 3) (fI 3 (al 8 p8 (bP 103) ad hs (bD (fh 105) ex 3) (fI 3 (Z 14 0 (bP 121) ad hs (bD (fh 123) ex 3) (fI 3 (fQ 20 0 r 167 3 (fI 3 (fQ 22 0 r 172 3 (fI 3 (fQ 24 0 r 173 3 (fI 3 (bk 26 0 (bP 192) ad hs (bD (fh 196) ex 3)))))))))))))))) 3 (ac 2 (b 1)) (lF (Z 33 0 (bP 70) ad hs (bD (fh 79) ex 32) (fI 32 (Z 39 0 (bP 81) ad hs (bD (fh 90) ex 32) (fI 32 (Z 45 0 (bP 106) ad hs (bD (fh 120) ex 32) (fI 32 (bk 51 0 (bP 124) ad hs (bD (fh 138) ex 32)))))))) (bl 32 2 (b 2))))) (ac 2 ag)
def Tryz.aAe:=fB 4 [.tmp 2]<|bj 2 dw (aH 3 (pN p3) (bl 3 2 (D 1))) (ac 2 dw)
def Tryz.aAf:=fB 72 [.tmp 6]<|aU 6 dw (al 9 p8 b9 bB b9 (bW 7 p3 8) (lF (aH 13 ee (e1 (aW 15 (E r p2 0) 14 14 (dV 16 1 2 (bX r) hd gS) 21 (E r p8 1) 20 20 (dV 22 1 2 (bX aO) hd gS) (dX 27 13 2 26 26 (dV 28 1 2 hc hd gS) 33 13 3 32 32 (dV 34 7 8 hc hd gS) (dX 39 13 4 38 38 (dV 40 1 2 (bX pT) hd gS) 45 13 5 44 44 (dV 46 7 8 (bX pT) hd gS) (dX 51 13 6 50 50 (dV 52 1 2 eL hd gS) 57 13 7 56 56 (dV 58 7 8 eL hd gS) (fS 63 (bJ 13 8) 62 62 (dV 64 1 2 (bX pG) hd gS)))))))) (dV 68 7 8 (bX pG) hd gS)))
def Tryz.aAg:=fB 116 [.tmp 6,.tmp 7]<|fl 6 (m f9) (W (al 8 p8 (bP 109) ad hs (k (fh 112) ex ad (ek 2) (bY (dH (bH r f9)) ex)) (gv 17 6 f9 21)) (aH 18 ee (e1 (aW 20 (E r p2 106) 19 19 (dn 21 1 2 pF fM) 25 (E r p7 107) 24 24 (dn 26 1 2 oM fM) (dX 30 18 108 29 29 (dn 31 1 2 pS fM) 35 18 109 34 34 (lF (Z 36 1 (bH r (bp 2147483648)) ad (ek 2) (bY (dH (bH r (bp 4294967295))) ex) (gv 41 6 f9 22)) (Z 42 1 gN ge gN (a (ei qt) g2 fM) ks)) (dX 49 18 110 48 48 (dn 50 1 2 qt fM) 54 18 111 53 53 (Z 55 1 gN fO ge (k gN fO (I zy p4) g2 fM) ks) (dX 64 18 112 63 63 (dn 65 1 2 zy fM) 69 18 113 68 68 (dn 70 1 2 vI fM) (dX 74 18 114 73 73 (dn 75 1 2 EO fM) 79 18 115 78 78 (dn 80 1 2 EP fM) (dX 84 18 116 83 83 (dV 85 1 2 gY (ei tG) fM) 90 18 117 89 89 (Z 91 1 gN ge gY (a fG g2 fM) ks) (fj 98 18 118 97 97 (dV 99 1 2 gY fG fM) (fS 104 (bJ 18 119) 103 103 (dV 105 1 2 gY fO (S' (av 200 p4) fM)))))))))))) (dV 110 1 2 gY fO (a jw (av 200 p5) fM)))
def Tryz.aAh:=fB 116 [.tmp 6,.tmp 7]<|fl 6 jt (W (al 8 p8 (bP 127) ad hs (k (fh 130) ex ad (ek 2) (bY (dH hx) ex)) (gv 17 6 dw 21)) (aH 18 ee (e1 (aW 20 (E r p2 124) 19 19 (dn 21 1 2 pF fM) 25 (E r p7 125) 24 24 (dn 26 1 2 oM fM) (dX 30 18 126 29 29 (dn 31 1 2 pS fM) 35 18 127 34 34 (lF (Z 36 1 (bU r 9223372036854775808) ad (ek 2) (bY (dH je) ex) (gv 41 6 dw 22)) (Z 42 1 fO ge fO (a (ei qt) b9 fM) ks)) (dX 49 18 128 48 48 (dn 50 1 2 qt fM) 54 18 129 53 53 (lF (a0 55 2 je E' (ah 56 (fl 6 jt ks))) (Z 57 1 fO ge fO (a (ei zy) b9 fM) ks)) (dX 64 18 130 63 63 (dn 65 1 2 zy fM) 69 18 131 68 68 (dn 70 1 2 vI fM) (dX 74 18 132 73 73 (dn 75 1 2 EO fM) 79 18 133 78 78 (dn 80 1 2 EP fM) (dX 84 18 134 83 83 (dV 85 1 2 (dU 63) (ei tG) fM) 90 18 135 89 89 (Z 91 1 fO ge (dU 63) (a fG b9 fM) ks) (fj 98 18 136 97 97 (dV 99 1 2 (dU 63) fG fM) (fS 104 (bJ 18 137) 103 103 (dV 105 1 2 (dU 63) fO (S' (av 201 p4) fM)))))))))))) (dV 110 1 2 (dU 63) fO (a jw (av 201 p5) fM)))
def Tryz.aAi:=fB 39 [.tmp 4,.tmp 5]<|dy 4 bq F (gs 6 p6 gX ad (gh di) (eS (dC b9) (bN p3 0) (fk B) (v p5 gT) (v p6 d7) (v p7 ab) (v p8 a5) (v p9 b9) (v (q' 8) (I pG p8)) (dv (q' 8)) ad hf (dC B) (ec gT) (fk d7) ju (k (bN p6 1) (v p7 et) (v p8 ab) (v p9 hH) (db (dv (q' 20))))) (ah 30 (dy 4 bq F ks)) (bG 31 0 B 3 d7 iB ks))
def Tryz.aAj:=fB 59 [.tmp 4]<|gm 2 bR bR (m F) (W (L 7 (br p5) ab a5 jf (ai ab a5 (I aO p4) ad (gh (gp 2)) g1 (ec a5) (fk hW) (k ju (v p6 a5) (v p7 (I aO p4)) (dv p8) E')) (gi 22 4)) (gb 23 0 2 bq E' (gt 0 27 27 0 1 28 5 (bI 29 0 2 hl et (k ab h9 ab hl (M et ab (I aO p6) E')) (gi 39 4)) 40 26 26)) (lF (gb 41 1 2 bq E' (gt 2 45 45 2 3 46 6 (bI 47 1 2 gP et (k ab hW ab gP (M et ab (I aO p6) E')) (gi 57 4)) 58 44 44)) (ac 4 C)))
def Tryz.aAk:=fB 103 []<|al 9 p9 B d7 ab (ai B d7 ab B d7 ab e3 B (M gL ab (aA 202 [.t 18,i5]) (fo 8 (q' 8) 0 (q' 8) 4 5))) (lF (d4 26 1 0 (db (dl 35)) (ah 30 (fH 6 gJ (fY 32 0 (ai B d7 ab B d7 ab gC (b8 48) (f 31 p1 (M (dJ (q' 31)) (ao (q' 31)) (ga 6) eQ))) (lF (ev 47 5 r 2 48 (dF 50 0 B d7 ab B d7 ab B (k d7 ab gC gx (S' (dh 48) (f 49 p1 (M (dJ (q' 49)) (ao (q' 49)) (gp 6) eQ)))))) (Z 66 0 (ak 2 6) (aY 1 2 gJ [(0,.t 67)]) (dh 157) E' ks)))))) (a0 70 0 i2 (b0 7 gJ 2 7) (fY 72 0 (ai B d7 ab B d7 ab gC (ga 7) (bY ab (aA 203 [.t 81,.t 82,.t 84]))) (ev 86 5 r 2 87 (dF 88 0 B d7 ab B d7 ab B (k d7 ab gC gx (M (gp 7) ab (aA 203 [.t 97,.t 99,.t 101]) E')))))))
def Tryz.aAl:=fB 59 [.tmp 2]<|bj 2 dw (cIf (oC F) (al 3 p3 (en 0) b9 b7 (ai (en 1) b9 (fW 8) ho ee (en 2) b9 (fW 16) (k ho ee (en 3) b9 (bD (fW 24) ho 2))) ks) xw) (Z 21 0 (en 0) b9 ee (eS (en 1) b9 (fW 8) ho ee (en 2) b9 (fW 16) ho ee (en 3) b9 (fW 24) ho ee (en 4) (eS b9 (fW 32) ho ee (en 5) b9 (fW 40) ho ee (en 6) b9 (fW 48) ho ee (en 7) b9 (bD (fW 56) ho 2))) ks)
def Tryz.alD:=fB 59 [.tmp 2]<|aU 2 F (fF 3 (an 7 p7 a5 bq E' (fT 0 10 10 0 1 (an 11 p2 jr (dM 6) (bd 5 gD (f 4 p3 (dD 6 p9 p1))) (eO 14 3 a5 6 (dm 16 (ga 5) ab (Cu 2 (ej (aW 19 (E r p2 2) 18 18 xw 20 (E r p3 3) 18 18 xw (aS 21 (E r p4 4) 18)) 18 (lF (a9 22 6 r 128 E' (gi 23 2)) (bk 24 3 (ga 5) ab hy (dq (aJ 1 8 p4) 3))) (fj 30 17 5 29 29 (lF (Z 31 6 fa ad (dZ 3) (k (bN p2 6) (ec eC) (fk (d9 p3)) ju (eH (v p6 (eZ 4)) p7)) (gi 40 2)) (dp 41 3 6 eC (d9 p3) (dP (U 5)))) (fS 46 (bJ 17 11) 45 45 (lF (ev 47 6 r 0 48 (dV 49 4 0 a5 eC (dq (I r p4) 2))) (dp 54 3 6 eC (f8 1 p3 p1) (R 3)))))))))) 58 9 9)) (ac 2 F))
def Tryz.alE:=fB 185 [.tmp 2,.tmp 3]<|gm 1 dk ig (m F) (ay 11 (ga 1) ab (aX 25) (ff 10 p1 p4 0 p5 4 gM (aK 5 4 p2 hK)) (fd (Z 16 5 eP ad (gh (ak 6 1)) (k (dC (ga 4)) (ec ab) (fk (dh 204)) (v p5 eP) (db hm)) (ez 24 2 aT F)) 25 0 1 gV h7 gS (fd (gm 29 (ga 1) ab (bP 64768) (ah 31 (bo 32 (dR [au] (j 253)) (ga 1) ab fC b9 gZ (aX 162) (aJ 1 1 p7) gS))) 40 1 1 b9 gZ (dq (aX 162) 7) (lF (dm 45 (ga 4) ab (e1 (aW 48 (E r p2 1) 47 47 (e 2 (el 49 6 (bY (d 49) (m C))) ks) 51 (E r p5 2) 50 50 (lF (Cu 1 (lF (ft 53 iZ ab (dl (-64)) 52 (fI 52 (ft 56 iZ ab (dl (-1)) 52 (fI 52 (ft 59 iZ ab (dl (-2)) 52 (fI 52 (ew 62 iZ ab (dl (-5)) (R 52)))))))) (ah 52 (dc 65 6 1 1 (bn 128) (M gV h7 (aJ 1 1 p6) (f 2 p1 (eY 3 C))) ks)))) (aL 72 6 iZ ab (am 78 iZ 79 (h 1 (q' 78)) (a hy (aA 205 [.t 75]) (eW 79 78 (S' (eb 1 1 72 76) (eW 79 78 (ey 80 206 [.t 79] (f 2 p1 (el 3 80 E')))))))) ks)) (ej (fj 82 46 3 81 81 xw (aS 83 (bJ 46 5) 81)) 81 (a0 84 6 gU (am 87 iZ 88 (h 1 (q' 87)) (S' (eb 1 1 84 85) (eW 88 87 (ey 89 206 [.t 88] (f 2 p1 (el 3 89 E')))))) ks) (fj 91 46 4 90 90 (dc 92 6 5 1 a5 (k b9 gZ (aX 162) (aJ 1 1 p7) gS) (lF (gb 100 5 1 bq E' (fT 2 104 104 2 3 (N 105 gw ab (R 9) (a8 107 6 9 b9 gZ (bD (aX 162) (aJ 1 1 p5) 6) (bk 113 5 ad (ek 9) (dH (aX 206)) (dq ex 5)))) 118 103 103)) (dV 119 6 7 iA hl (k ad (fA 1 1) eo (fu (aX 206)) (S' fK (bW 2 p7 3)))))) (ej (fj 129 46 6 128 128 xw (aS 130 (bJ 46 7) 128)) 128 (e 140 (dW 131 gP 132 gU 134 (l 2 1) 135 (h 1 p6) (D' 136 (bv p5) (a iZ ab (D' 133 (eb 1 1 131 132) (ef p7 p8 (ef p1 p2 (am 137 (Ie [dw] p6) 138 (aA 162 [.t 137]) (ef p1 p2 (D' 139 (eb 1 1 133 138) (ef p1 p2 (k (aA 206 [.t 141]) ad (fA 2 1) eo (a (aG (e4 (.t 143) true 206 [.t 145])) fK (bW 2 p9 3))))))))))))) ks) (fS 149 (bJ 46 8) 148 148 (e 153 (am 150 gP 151 gU (M (l 2 1) ab b9 (D' 152 (eb 1 1 150 151) (ef p2 p3 (fL gZ (aA 162 [.t 156]) (eb 1 1 152 157) 6))))) (e 165 (dW 159 gP 160 (l 3 1) 161 (h 1 p5) 162 (P .u8 p4) (a iZ ab (am 163 (Ie [au] p5) 164 (eb 1 1 159 163) (ef p1 p2 (ai (aA 206 [.t 166]) ad (fA 2 1) eo (aG (e4 (.t 168) true 206 [.t 170])) fK ad (fA 3 1) (M eo (fu (bU qJ 256)) fK (el 2 164 (R 3)))))))) ks))))))))) (Z 178 6 (ak 6 1) (ga 4) ab (M (dz 207 p4 p3) iS iP (bW 2 p2 3)) ks)))))
def Tryz.alF:=fB 26 [.tmp 4]<|aU 4 F (W hZ (b3 11 0 a5 bq (gt 0 14 14 0 1 15 5 (fE 16 5 et ab iC (gi 24 4)) 25 13 13)) (ac 4 C))
def Tryz.asV:=fB 20 []<|aR 3 p3 i1 (R 2) (al 5 p5 b7 B ih (ai ab di B gL ab (f8 1 p5 p1) (b1 5) ih (dN 1 16 14)) (ew 17 ge B (q 4) (dP (KQ C))))
def Tryz.asW:=fB 37 [.tmp 4]<|fF 4 (al 6 p5 eU B hJ (M ab a5 (I pG p6) E') (ah 12 (aL 13 0 B (q 14) (dP (KQ C)) (ac 4 aT)))) (fY 16 13 (ai ee B hJ ab a5 eC e3 fN (a (e0 6 p9) (dM 6) (bd 5 hk (dN 6 5 29)))) (lF (gm 30 (ga 5) ab (dl 3) (ah 32 (N 33 (l 2 5) ab il ks))) (N 35 (l 3 5) ab il ks)))
def Tryz.alG:=fB 27 []<|fF 4 (an 6 p5 a5 eC hK (ap 0 (aM (eT 9 p4 h5 (a6 10 0)) 1 (bo 13 bB ee e3 hl et ab (av 170 p5) hy (dq (aJ 1 8 p8) 4)) (dY 11 b7 eC 5)))) (a0 22 4 (aX 208) E' (ew 24 ee gC (b8 169) E'))
def Tryz.asX:=fB 92 []<|aH 3 bR (dy 4 bq F (W (L 6 (br p3) ab (dE 34) ad (ai (H p1 (dg p7)) eo (bc p3 0) (H p4 B) (H p5 (q 11)) (H p6 ab) (H p7 a5) (H p8 (dI p6)) (db (df p9))) (ah 18 (dF 19 0 B (q 11) ab hW ab (d9 p3) ab (f 4 p1 (eY 5 C))))) (bI 27 0 3 (b2 34) ad (ai (fA 1 3) eo (bc p3 0) (H p4 B) (H p5 d7) (H p6 h0) (H p7 ab) (H p8 a5) (bY (H p9 (dI p7)) (df (q' 30)))) (ah 40 (dF 41 0 B d7 h0 ab hW ab (e0 3 p3) (eS d7 ab h9 ab (dl 35) ad hf (dC B) (ec d7) (fk h0) ju (v p6 hW) (v p7 ab) (v p8 (e0 3 p3)) (v p9 gL) (v (q' 54) ab) (S' (dv (q' 54)) (el 4 50 hK)))))) (fn 66 0 hl 173 (fd (bI 69 0 3 (eZ 32) ad (k (fA 0 3) eo (fu (eZ 35)) fK E') (ah 76 (ew 77 ee gC (b8 170) E'))) 80 0 3 (eZ 33) ad (k (fA 0 3) eo (fu (eZ 36)) fK E') (ah 87 (dp 88 0 4 hy iw E'))))))
def Tryz.aAm:=fB 17 [.tmp 4]<|aU 4 f9 (an 6 p5 b9 (dU 31) hK (al 9 p9 fs (bX tG) ee (k di (I oM (KQ (D 32))) fG ho il) ks))
def Tryz.aAn:=fB 17 [.tmp 4]<|aU 4 dw (an 6 p5 b9 (dU 63) hK (al 9 p9 fs (bX tG) ee (k di (I oM (KQ (D 64))) fG ho il) ks))
def Tryz.aAo:=fB 65 [.tmp 4,.tmp 5]<|fl 4 bq (gs 7 p7 gX ad iq (ai (dC hH) gu ad (dZ 1) (bN p2 0) (ec B) (fk d7) (v p5 gW) hF) (ah 22 (fl 4 bq ks)) (bG 23 0 B 0 d7 (bD ab a5 6) (lF (Z 29 1 gx ee B (k d7 gW ab a5 (db (dI p7))) (ah 37 (dF 38 0 B d7 gW ab e3 gx (d9 p3) (dq ab 6)))) (bG 47 0 B 0 gW (ai ab e3 et ab gP ee B d7 (k gW ab e3 et (a ab (I oM p9) (el 4 54 hK)))) ks))))
def Tryz.aAp:=fB 42 [.tmp 6]<|aU 6 F (W (al 7 p7 gX ad iq gI (gi 22 6)) (bG 23 0 B 0 gL (k ab e3 et ab (db (dl 1))) (ah 31 (fr 32 2 gd 2))) (bG 34 0 B 0 d7 (k ab e3 ge (f4 p3) em) (ac 6 C)))
def Tryz.alH:=fB 57 [.tmp 4]<|u 2 bR (eY 4 F) (fd (al 9 p8 (eZ 4) ad (fA 5 2) (k eo (fu a5) (H p4 hn) (df p5) E') (gi 16 4)) 17 1 2 (l 2 2) ab (k (l 3 2) ab (l 4 2) ab (f 5 p7 (f 6 p5 (bW 7 p3 8)))) (lF (aH 25 e3 (e1 (ej (aW 27 (E r p2 2) 26 26 xw 28 (E r p3 3) 26 26 xw (aW 29 (E r p4 5) 26 26 xw 30 (E r p5 4) 26 26 xw (aS 31 (E r p6 13) 26))) 26 (aB 5 bq E') (ej (aI 33 (E r p8 6) 32 32 xw (aS 34 (E r p9 7) 32)) 32 (R' 5 (bY bq bq)) (fj 36 25 8 35 35 (ew 5 bq bq jt E') (ej (fj 38 25 9 37 37 xw (aS 39 (bJ 25 10) 37)) 37 (aB 7 jt E') (lF (fj 41 25 11 40 40 xw (aS 42 (bJ 25 12) 40)) (ah 40 (R' 7 (bY jt jt)))))))))) (Z 43 5 fa ad (ek 6) (ai (dH fa) ex ad (ek 7) (dH hx) ex ad (ek 8) (bD (dH hx) ex 4)) ks)))
def Tryz.alI:=fB 34 [.tmp 2]<|aU 2 aT (fF 3 (an 6 p6 a5 bq E' (fT 0 9 9 0 1 (N 10 gw ab hK (lF (ap 2 (gs 12 p7 (bm (-64)) ad (dZ 5) (gl (b2 63) p3) (a6 17 2) (Cu 3 (a8 18 3 5 gV (bH EO (j 128)) g4 (fr 24 5 (eg 7) 5))))) (dp 26 3 5 (af vI 127) gV g4))) 32 8 8)) (f2 33 hC 2))
def Tryz.aAq:=fB 9 [.tmp 2]<|aU 2 F (al 3 p3 h5 ad (H p1 b7) (bD (dH (bm 4294967296)) ex 2) ks)
def Tryz.asY:=fB 62 [.tmp 6,.tmp 7]<|e 6 (fc 4 p5 (bY ig (m F))) (fd (aH 9 eU (e1 (dt 11 (E r p2 9) 10 10 (Z 12 0 (oY 3 p9) ab gN (S' fO (am 20 (l 3 4) 21 (h 1 (q' 20)) (D' 22 (i qJ (q' 21) (D 4294967296)) (a hy (aA 205 [.t 17]) (eW 21 20 (S' (eb 1 1 12 18) (eW 21 20 (f 6 p1 (el 7 22 E'))))))))) ks) 24 9 10 23 23 (dc 25 0 3 4 fO (M hy (aX 205) (aJ 1 1 p6) iW) ks) (fj 33 9 13 32 32 (e 40 (dW 34 ee 35 (gp 4) 36 (h 1 p5) 37 (P .u8 p4) (M (gp 4) ab h5 (am 38 (Ie [au] p6) 39 (eb 1 1 34 38) (ef p2 p3 (k ad (fA 1 4) eo (fu (bm 256)) (S' fK (bW 6 p9 7))))))) ks) (fS 49 (bJ 9 14) 48 48 (aL 50 0 he iA iW ks)))))) 53 3 4 (l 4 4) ab (a (w gJ [(0,1,.t 54),(1,1,.t 56)]) (aX 39) jx) (aL 59 0 (wa 16 1 (q' 8) no' no') iA iW ks))
def Tryz.aAr:=fB 28 []<|an 4 p4 a5 eC (bW 2 (U 0) 3) (ap 0 (aM (an 7 p5 fs hc E' (a6 9 0)) 1 (dF 14 0 ge ee hC ee hC et ab (k ee ge et ab (S' (aN (q' 14) (q' 15)) (bi 1 26 21 (S' (aN (q' 16) (q' 17)) (dN 1 27 25)))))) (aQ 10 di gx bB eC (bW 2 p3 3))))
end
end Go.Proofs
