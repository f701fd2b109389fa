import Derived.Test.YtbplobpobnagkaaGreatDoorVdU2
noncomputable section
namespace Go.Proofs.Vd
open Go.Ab Go.Ab.Lf
set_option maxRecDepth 100000
abbrev iC(o lo hi:Int):den tI:=(o,0,0,lo,hi,[])
abbrev eC(o lo hi:Int):List (den tI):=[iC o lo hi,(11,0,0,0,0,[])]
theorem aeL(lo:Int):(iI (mI (iC 65 lo 0))).2=decide (lo<4294967296):=by kernel_rfl
theorem aeM(lo:Int):(iI (mI (iC 66 lo 0))).2=true:=by kernel_rfl
theorem ajQ(lo hi:Int):(iI (mI (iC 64780 lo hi))).2=true:=by kernel_rfl
theorem aeN:(iI (mI (iC 11 0 0))).2=true:=by kernel_rfl
theorem aeO(o lo hi:Int)(h:o=65∨o=66∨o=64780):iT (eC o lo hi)=true:=by
 rcases h with h|h|h<;>subst h<;>kernel_rfl
end Go.Proofs.Vd

noncomputable section
namespace Go.Proofs.Vd
open Go.Ab Go.Ab.Lf
set_option maxRecDepth 100000
theorem GF{n:Nat}(h:n<4294967296):iM (n:Int)=true:=by
 unfold iM
 rw[decide_eq_true (by omega),decide_eq_true (by omega)]
 rfl
theorem Pd{α:Type}{A:Item α}(B:AB A){most:Int}{l:List α}(hl:(l.length:Int)<=most)(hl2:l.length<=65536)(ho:cf A.ok l=true)(hp: ∀ x,x∈l->B.p x=true)(hw:kC A.wt l<=4294960000):gX B most l=true:=by
 have hr:=yU B l ho
 have hn:=qZ (l.length:Int)
 unfold gX
 rw[decide_eq_true hl,GF (n:=l.length) (by omega),List.all_eq_true.2 hp,GF (n:=(nb (l.length:Int)++uF B l).length) (by rw[List.length_append];omega)]
 cases decide ((l.length:Int)=0)<;>rfl
theorem aeP{V:ByteArray->Bool}{y:aj tM}(hE:Ge V y=true)(hP:Oe V y=true):nh V y=0∨nh V y=4:=by
 unfold nh
 rw[HZ hE,hP]
 show(bif decide (16384<((s0.1++Qh V y).length:Int))then(4:Int)else 0)=0∨(bif decide (16384<((s0.1++Qh V y).length:Int))then(4:Int)else 0)=4
 cases decide (16384<((s0.1++Qh V y).length:Int))with
 |true=>exact .inr rfl
 |false=>exact .inl rfl
theorem aeQ{V:ByteArray->Bool}{y:aj tM}(hE:Ge V y=true)(hP:Oe V y=true)(hO:s6 y=true)(hB:Ux y=true):gY V y=0∨gY V y=4:=by
 unfold gY
 rw[hO,hB]
 rcases aeP hE hP with h|h
 ·rw[h];exact .inl rfl
 ·rw[h];exact .inr rfl
structure cC(c:List (den tI))(t o lo hi:Int):Prop where
 c:c=eC o lo hi
 o:(o=65/\t=127/\0<=lo/\lo<4294967296/\hi=0)∨(o=66/\t=126/\hi=0)∨(o=64780/\t=123)
theorem cC.wr{c:List (den tI)}{t o lo hi:Int}(h:cC c t o lo hi):nU c=0/\qi c=true/\qp c=82/\uD c t=true/\qt t=true/\LI c:=by
 obtain⟨rfl,h⟩:=h
 have hL:LI (eC o lo hi):=⟨(show 2<=1099511627776 by decide),fun x hx=>by
  rcases List.mem_cons.1 hx with q|q
  ·rw[q];exact Nat.zero_le _
  ·rw[show x=(11,0,0,0,0,[]) by simpa using q];exact Nat.zero_le _⟩
 have hc:iT (eC o lo hi)=true:=aeO o lo hi (by rcases h with h|h|h;exact .inl h.1;exact .inr (.inl h.1);exact .inr (.inr h.1))
 have hp:(iI (mI (iC o lo hi))).2=true:=by
  rcases h with h|h|h
  ·obtain⟨rfl,_,_,WZ,rfl⟩:=h
   rw[aeL];exact decide_eq_true WZ
  ·obtain⟨rfl,_,rfl⟩:=h
   exact aeM lo
  ·obtain⟨rfl,_⟩:=h
   exact ajQ lo hi
 refine⟨?_,rfl,rfl,?_,?_,hL⟩
 ·unfold nU F6
  rw[hc,cond_true]
  have e:qo (eC o lo hi) []=some (([]++(iI (mI (iC o lo hi))).1)++(iI (mI (iC 11 0 0))).1):=by
   unfold qo
   rw[gq]
   unfold yJ
   rw[hp,cond_true]
   show gq _ some [iC 11 0 0] _=_
   rw[gq,aeN,cond_true]
   rfl
  rw[e]
  rfl
 ·rcases h with h|h|h
  ·obtain⟨rfl,rfl,_⟩:=h;kernel_rfl
  ·obtain⟨rfl,rfl,_⟩:=h;kernel_rfl
  ·obtain⟨rfl,rfl⟩:=h;kernel_rfl
 ·rcases h with h|h|h
  ·rw[h.2.1];rfl
  ·rw[h.2.1];rfl
  ·rw[h.2];rfl
end Go.Proofs.Vd

noncomputable section
namespace Go.Proofs.Vd
open Go.Ab Go.Ab.Lf
set_option maxRecDepth 100000
def gC(g:den aC):Prop:=g.2.1=false/\ ∃ o lo hi,cC g.2.2 g.1 o lo hi
theorem Pe{α:Type}{p:α->Bool}{l:List α}(h: ∀ x,x∈l->p x=true):cf p l=true:=by
 induction l with
 |nil=>rfl
 |cons a l ih=>
  show(bif p a then cf p l else false)=true
  rw[h a List.mem_cons_self,cond_true]
  exact ih fun x hx=>h x (List.mem_cons_of_mem _ hx)
theorem Ik{α:Type}{w:α->Nat}{n:Nat}{l:List α}(h: ∀ x,x∈l->w x<=n):kC w l<=n*l.length:=by
 induction l with
 |nil=>exact Nat.zero_le _
 |cons a l ih=>
  have h1:=h a List.mem_cons_self
  have h2:=ih fun x hx=>h x (List.mem_cons_of_mem _ hx)
  rw[oH,List.length_cons,Nat.mul_succ]
  omega
theorem Pf{g:den aC}(h:gC g):NI.ok g=true/\NI.wt g=84/\Gk.p g=true/\pGl g=true:=by
 obtain⟨t,m,c⟩:=g
 obtain⟨hm,o,lo,hi,hc⟩:=h
 have hm:m=false:=hm
 subst hm
 obtain⟨w1,w2,w3,w4,w5,w6⟩:=hc.wr
 refine⟨w2,?_,?_,w4⟩
 ·show 1+(1+qp c)=84
  rw[show qp c=82 from w3]
 ·show([t].all qt&&(true&&decide (nU c=0)))=true
  rw[show nU c=0 from w1,List.all_cons,show qt t=true from w5]
  rfl
end Go.Proofs.Vd

noncomputable section
namespace Go.Proofs.Vd
open Go.Ab Go.Ab.Lf
set_option maxRecDepth 100000
def stG(p:List Int×List Int×List Int)(g:den aC):List Int×List Int×List Int:=
 (bif decide (g.1=123)then app (app p.1 [(g.2.2.getD 0 (aq tI)).2.2.2.1]) [(g.2.2.getD 0 (aq tI)).2.2.2.2.1]else app p.1 [(g.2.2.getD 0 (aq tI)).2.2.2.1],
  bif decide (g.1=123)then app (app p.2.1 [bif decide (g.1=127)then 1 else 0]) [0]else app p.2.1 [bif decide (g.1=127)then 1 else 0],app p.2.2 [(p.1.length:Int)])
def gx(G:List (den aC)):List Int×List Int×List Int:=G.foldl stG ([],[],[])
theorem Eo(G:List (den aC))(j:Nat)(h:j<G.length):gx (G.take (j+1))=stG (gx (G.take j)) (G.getD j (aq aC)):=by
 unfold gx
 rw[List.take_add_one,List.foldl_append,List.getElem?_eq_getElem h,List.getD_eq_getElem?_getD,List.getElem?_eq_getElem h]
 rfl
theorem UD(p:List Int×List Int×List Int)(g:den aC):(stG p g).1.length<=p.1.length+2/\(stG p g).2.1.length<=p.2.1.length+2/\(stG p g).2.2.length=p.2.2.length+1:=by
 unfold stG
 simp only[bp]
 cases decide (g.1=123)<;>simp
theorem Il(G:List (den aC)): ∀ j,j<=G.length->(gx (G.take j)).1.length<=2*j/\(gx (G.take j)).2.1.length<=2*j/\(gx (G.take j)).2.2.length=j
 |0,_=>by rw[List.take_zero];exact⟨Nat.zero_le _,Nat.zero_le _,rfl⟩
 |j+1,h=>by
  have ih:=Il G j (by omega)
  rw[Eo G j (by omega)]
  have:=UD (gx (G.take j)) (G.getD j (aq aC))
  omega
theorem Ws(o1:List (den aI))(o2:List (den aQ))(o3:List Int)(o4:List (den ak))(o5:List (den ak))(o6:List (den aC))(o7:List (den aP))(o8:Int)(o9:List (den aG))(iN:List (den aK))(ig:List (den aD))(m1:List (den aI))(m2:List (den aQ))(m3:List Int)(m4:List (den ak))(m5:List (den ak))(m6:List (den aC))(m7:List (den aP))(m8:Int)(m9:List (den aG))(bT:List (den aK))(bX:List (den aD))(G:List (den aC))(hl:G.length<=1000000)(hG: ∀ g:den aC,g∈G->0<g.2.2.length):gM uN (aB gL (o1,o2,o3,o4,o5,o6,o7,o8,o9,iN,ig,[],[],[],m1,m2,m3,m4,m5,m6,m7,m8,m9,bT,bX,G,(G.length:Int),((0:Nat):Int),())) 0 (aB fO (o1,o2,o3,o4,o5,o6,o7,o8,o9,iN,ig,(gx G).1,(gx G).2.1,(gx G).2.2,m1,m2,m3,m4,m5,m6,m7,m8,m9,bT,bX,())):=by
 have h0:aB gL (o1,o2,o3,o4,o5,o6,o7,o8,o9,iN,ig,[],[],[],m1,m2,m3,m4,m5,m6,m7,m8,m9,bT,bX,G,(G.length:Int),((0:Nat):Int),())=aB gL (o1,o2,o3,o4,o5,o6,o7,o8,o9,iN,ig,(gx (G.take 0)).1,(gx (G.take 0)).2.1,(gx (G.take 0)).2.2,m1,m2,m3,m4,m5,m6,m7,m8,m9,bT,bX,G,(G.length:Int),((0:Nat):Int),()):=by rw[List.take_zero];rfl
 have h1:gx G=gx (G.take G.length):=by rw[List.take_length]
 rw[h0,h1]
 refine p8 G.length (fun j=>aB gL (o1,o2,o3,o4,o5,o6,o7,o8,o9,iN,ig,(gx (G.take j)).1,(gx (G.take j)).2.1,(gx (G.take j)).2.2,m1,m2,m3,m4,m5,m6,m7,m8,m9,bT,bX,G,(G.length:Int),(j:Int),())) _ (fun j hj=>?_) ?_
 ·have hn:=Il G j (by omega)
  rw[Eo G j hj]
  generalize gx (G.take j)=p at hn
  obtain⟨v,a,b⟩:=p
  have SF:=hG _ (jt hj (aq aC))
  refine(Pa o1 o2 o3 o4 o5 o6 o7 o8 o9 iN ig m1 m2 m3 m4 m5 m6 m7 m8 m9 bT bX v a b G (G.length:Int) (j:Int)).trans ?_
  rw[Int.toNat_natCast]
  generalize G.getD j (aq aC)=g at SF
  obtain⟨n1,n2,n3⟩:=hn
  have n1:v.length<=2*j:=n1
  have n2:a.length<=2*j:=n2
  have n3:b.length=j:=n3
  rw[dt (show(j:Int)<(G.length:Int) by omega),show bm (j:Int) (G.length:Int)=true from cN hj,OQ (by omega),show bm 0 (List.length g.2.2:Int)=true from cN (j:=0) SF,bO (by decide) (show b.length+[(v.length:Int)].length<=1099511627776 by show b.length+1<=_;omega)]
  have r1: ∀ x:Int,roomy 8 (v.length+[x].length)=true:=fun x=>bO (by decide) (by show v.length+1<=_;omega)
  have r2: ∀ x:Int,roomy 8 (a.length+[x].length)=true:=fun x=>bO (by decide) (by show a.length+1<=_;omega)
  have r3: ∀ x y:Int,roomy 8 ((app v [x]).length+[y].length)=true:=fun x y=>bO (by decide) (by rw[bp,List.length_append];show v.length+1+1<=_;omega)
  have r4: ∀ x y:Int,roomy 8 ((app a [x]).length+[y].length)=true:=fun x y=>bO (by decide) (by rw[bp,List.length_append];show a.length+1+1<=_;omega)
  rw[r1,r2,r3,r4,r2,r4]
  unfold stG
  cases apY:decide (g.1=127)<;>cases ap0:decide (g.1=123)<;>rfl
 ·generalize gx (G.take G.length)=p
  obtain⟨v,a,b⟩:=p
  refine(Pa o1 o2 o3 o4 o5 o6 o7 o8 o9 iN ig m1 m2 m3 m4 m5 m6 m7 m8 m9 bT bX v a b G (G.length:Int) (G.length:Int)).trans ?_
  rw[df (show ¬ (G.length:Int)<(G.length:Int) by omega)]
  rfl
theorem UE:(aaC ([-1],3,())).val=aT (qh B6 p9 oY ([-1,0,0],1,())) (some (aB Eg (gP B6 p9 oY ([-1,0,0],1,())))):=by kernel_rfl
theorem Pg:Kb ([-1],3,())=true/\Kc ([-1],3,())=([-1,-1,-1],()):=by
 have R:gM B6 (aB p9 ([-1,0,0],1,())) 0 (aB oY ([-1,-1,-1],())):=by
  refine .more (pl':=aB p9 ([-1,-1,0],2,())) (by kernel_rfl) (.more (pl':=aB p9 ([-1,-1,-1],3,())) (by kernel_rfl) (.last (by kernel_rfl)))
 obtain⟨q1,q2⟩:=kq R
 refine we (cg _) (cg _) ?_
 rw[UE,q1,q2]
 rfl
end Go.Proofs.Vd

noncomputable section
namespace Go.Proofs.Vd
open Go.Ab Go.Ab.Lf
set_option maxRecDepth 100000
abbrev GG(c:List (den tI)):Int:=(List.getD c (0:Int).toNat (aq tI)).2.2.2.1
def Seg(c:List (den tI))(n:Nat):Prop:=0<c.length/\n<=1099511627776/\ ∃ p:Nat,GG c=(p:Int)/\p<4294967296
def uO(tab:List Int)(p:Int)(y:List Int):Option (List Int):=bif decide ((tab.length:Int)<p+(y.length:Int))then none else some (GD tab p.toNat (tab.length - p.toNat) y)
def layAll(tab:List Int)(l:List (Int×List Int)):Option (List Int):=l.foldl (fun t x=>t.bind fun t=>uO t x.1 x.2) (some tab)
theorem Ep(l:List (Int×List Int)):l.foldl (fun t x=>t.bind fun t=>uO t x.1 x.2) none=none:=by
 induction l with
 |nil=>rfl
 |cons a l ih=>exact ih
theorem nA(tab:List Int)(x:Int×List Int)(l:List (Int×List Int)):layAll tab (x::l)=(uO tab x.1 x.2).bind fun t=>layAll t l:=by
 unfold layAll
 rw[List.foldl_cons]
 show List.foldl _ (uO tab x.1 x.2) l=_
 cases uO tab x.1 x.2 with
 |none=>exact Ep l
 |some t=>rfl
theorem za{tab t:List Int}{p:Int}(h0:0<=p){y:List Int}(h:uO tab p y=some t):t.length=tab.length/\p+(y.length:Int)<=(tab.length:Int):=by
 unfold uO at h
 by_cases q:(tab.length:Int)<p+(y.length:Int)
 ·rw[dt q]at h;cases h
 ·rw[df q,cond_false]at h
  injection h with h
  subst h
  refine⟨?_,by omega⟩
  simp only[bp,List.length_append,List.length_take,List.length_drop]
  show _+(_+(_ - (p.toNat+_)))=_
  omega
theorem aeR{p n:Nat}(hp:p<4294967296)(hn:n<=1099511627776):cr .u64 (p:Int) (bf .u64 (n:Int))=((p+n:Nat):Int):=by
 rw[GB (by omega)]
 exact(wrap_u64 (by omega) (by omega)).trans (by omega)
theorem aaK{p n b:Nat}(hp:p<4294967296)(hn:n<=1099511627776)(hb:b<=1099511627776):(!(bif decide (bf .u64 (n:Int)<=bf .u64 (b:Int))then decide ((p:Int)<=bN .u64 (bf .u64 (b:Int)) (bf .u64 (n:Int)))else false))=decide ((b:Int)<(p:Int)+(n:Int)):=by
 rw[GB (k:=n) (by omega),GB (k:=b) (by omega)]
 by_cases h:(n:Int)<=(b:Int)
 ·have e:bN .u64 (b:Int) (n:Int)=((b - n:Nat):Int):=(wrap_u64 (by omega) (by omega)).trans (by omega)
  rw[dt h,e,cond_true]
  clear e
  by_cases h2:(p:Int)<=((b - n:Nat):Int)
  ·rw[dt h2,df (show ¬ (b:Int)<(p:Int)+(n:Int) by omega)];rfl
  ·rw[df h2,dt (show(b:Int)<(p:Int)+(n:Int) by omega)];rfl
 ·rw[df h,dt (show(b:Int)<(p:Int)+(n:Int) by omega)];rfl
theorem Ph{p b:Nat}(h:p<=b):dV (p:Int) (b:Int) (b:Int)=true:=by
 unfold dV
 rw[dt (show(0:Int)<=(p:Int) by omega),dt (show(p:Int)<=(b:Int) by omega),dt (Int.le_refl _)]
 rfl
theorem drop_cons{α:Type}(l:List α)(j:Nat)(d:α)(h:j<l.length):l.drop j=l.getD j d::l.drop (j+1):=by
 rw[List.drop_eq_getElem_cons h,List.getD_eq_getElem?_getD,List.getElem?_eq_getElem h]
 rfl
theorem Wt(o1:List (den aI))(o2:List (den aQ))(o3:List Int)(o4:List (den ak))(o5:List (den ak))(o6:List (den aC))(o7:List (den aP))(o8:Int)(o9:List (den aG))(iN:List (den aK))(ig:List (den aD))(m1:List (den aI))(m2:List (den aQ))(m3:List Int)(m4:List (den ak))(m5:List (den ak))(m6:List (den aC))(m7:List (den aP))(m8:Int)(m9:List (den aG))(bT:List (den aK))(bX:List (den aD))(v a b bs:List Int)(mo:Int)(G:List (den aG))(hl:G.length<=1000000)(hG: ∀ g:den aG,g∈G->Seg g.1 g.2.length): ∀ (k j:Nat) (tab:List Int),j+k=G.length->tab.length<=1099511627776->
 match layAll tab ((G.drop j).map fun g=>(GG g.1,g.2))with
 |some t=>gM gA (aB dz (o1,o2,o3,o4,o5,o6,o7,o8,o9,iN,ig,v,a,b,tab,m1,m2,m3,m4,m5,m6,m7,m8,m9,bT,bX,bs,mo,G,(G.length:Int),(j:Int),())) 0 (aB dK (o1,o2,o3,o4,o5,o6,o7,o8,o9,iN,ig,v,a,b,t,m1,m2,m3,m4,m5,m6,m7,m8,m9,bT,bX,bs,mo,()))
 |none=>gM gA (aB dz (o1,o2,o3,o4,o5,o6,o7,o8,o9,iN,ig,v,a,b,tab,m1,m2,m3,m4,m5,m6,m7,m8,m9,bT,bX,bs,mo,G,(G.length:Int),(j:Int),())) 1 (aB fP (13,())):=by
 intro k
 induction k with
 |zero=>
  intro j tab h _
  have hj:j=G.length:=by omega
  subst hj
  rw[List.drop_length]
  refine .last ((Pb o1 o2 o3 o4 o5 o6 o7 o8 o9 iN ig m1 m2 m3 m4 m5 m6 m7 m8 m9 bT bX v a b tab bs mo G (G.length:Int) (G.length:Int)).trans ?_)
  rw[df (show ¬ (G.length:Int)<(G.length:Int) by omega)]
  rfl
 |succ k ih=>
  intro j tab h ht
  have hj:j<G.length:=by omega
  have e:=Pb o1 o2 o3 o4 o5 o6 o7 o8 o9 iN ig m1 m2 m3 m4 m5 m6 m7 m8 m9 bT bX v a b tab bs mo G (G.length:Int) (j:Int)
  obtain⟨g0,hn,p,hp,hp2⟩:=hG _ (jt hj (aq aG))
  rw[drop_cons G j (aq aG) hj,List.map_cons,nA]
  rw[Int.toNat_natCast]at e
  generalize G.getD j (aq aG)=g at g0 hn hp e
  have hp':(List.getD g.1 (0:Int).toNat (aq tI)).2.2.2.1=(p:Int):=hp
  rw[hp']at e
  rw[show GG g.1=(p:Int)from hp]
  rw[dt (show(j:Int)<(G.length:Int) by omega),show bm (j:Int) (G.length:Int)=true from cN hj,OQ (by omega),show bm 0 (List.length g.1:Int)=true from cN (j:=0) g0,aeR hp2 hn,GB (k:=tab.length) (by omega),cond_true,nz rfl,nz rfl,Int.toNat_natCast,Int.toNat_natCast]at e
  unfold uO
  by_cases q:(tab.length:Int)<(p:Int)+(g.2.length:Int)
  ·rw[dt (show(tab.length:Int)<((p+g.2.length:Nat):Int) by omega),cond_true]at e
   rw[dt q]
   exact .last e
  ·rw[df (show ¬ (tab.length:Int)<((p+g.2.length:Nat):Int) by omega),cond_false,Ph (by omega),nz rfl]at e
   rw[df q,cond_false,Int.toNat_natCast]
   have hl2:(GD tab p (tab.length - p) g.2).length=tab.length:=(za (tab:=tab) (p:=(p:Int)) (y:=g.2) (by omega) (by unfold uO;rw[df q,Int.toNat_natCast];rfl)).1
   have r:=ih (j+1) (GD tab p (tab.length - p) g.2) (by omega) (by omega)
   show match layAll (GD tab p (tab.length - p) g.2) ((G.drop (j+1)).map fun g=>(GG g.1,g.2))with|some t=>_|none=>_
   cases hq:layAll (GD tab p (tab.length - p) g.2) ((G.drop (j+1)).map fun g=>(GG g.1,g.2))with
   |none=>rw[hq]at r;exact .more e r
   |some t=>rw[hq]at r;exact .more e r
theorem Wu(m1:List (den aI))(m2:List (den aQ))(m3:List Int)(m4:List (den ak))(m5:List (den ak))(m6:List (den aC))(m7:List (den aP))(m8:Int)(m9:List (den aG))(bT:List (den aK))(bX:List (den aD))(v a b tab:List Int)(mo:Int)(G:List (den aD))(hl:G.length<=1000000)(hG: ∀ g:den aD,g∈G->Seg g.1 g.2.length): ∀ (k j:Nat) (bs:List Int),j+k=G.length->bs.length<=1099511627776->
 match layAll bs ((G.drop j).map fun g=>(GG g.1,g.2))with
 |some t=>gM gB (aB dA (v,a,b,tab,m1,m2,m3,m4,m5,m6,m7,m8,m9,bT,bX,bs,mo,G,(G.length:Int),(j:Int),())) 0 (aB dX (v,a,b,tab,m1,m2,m3,m4,m5,m6,m7,m8,m9,bT,bX,t,mo,()))
 |none=>gM gB (aB dA (v,a,b,tab,m1,m2,m3,m4,m5,m6,m7,m8,m9,bT,bX,bs,mo,G,(G.length:Int),(j:Int),())) 1 (aB fu (14,())):=by
 intro k
 induction k with
 |zero=>
  intro j bs h _
  have hj:j=G.length:=by omega
  subst hj
  rw[List.drop_length]
  refine .last ((Pc m1 m2 m3 m4 m5 m6 m7 m8 m9 bT bX v a b tab bs mo G (G.length:Int) (G.length:Int)).trans ?_)
  rw[df (show ¬ (G.length:Int)<(G.length:Int) by omega)]
  rfl
 |succ k ih=>
  intro j bs h ht
  have hj:j<G.length:=by omega
  have e:=Pc m1 m2 m3 m4 m5 m6 m7 m8 m9 bT bX v a b tab bs mo G (G.length:Int) (j:Int)
  obtain⟨g0,hn,p,hp,hp2⟩:=hG _ (jt hj (aq aD))
  rw[drop_cons G j (aq aD) hj,List.map_cons,nA]
  rw[Int.toNat_natCast]at e
  generalize G.getD j (aq aD)=g at g0 hn hp e
  have hp':(List.getD g.1 (0:Int).toNat (aq tI)).2.2.2.1=(p:Int):=hp
  rw[hp']at e
  rw[show GG g.1=(p:Int)from hp]
  rw[dt (show(j:Int)<(G.length:Int) by omega),show bm (j:Int) (G.length:Int)=true from cN hj,OQ (by omega),show bm 0 (List.length g.1:Int)=true from cN (j:=0) g0,aaK hp2 hn (by omega),cond_true,nz rfl,nz rfl,Int.toNat_natCast,Int.toNat_natCast]at e
  unfold uO
  by_cases q:(bs.length:Int)<(p:Int)+(g.2.length:Int)
  ·rw[dt q,cond_true]at e
   rw[dt q]
   exact .last e
  ·rw[df q,cond_false,Ph (by omega),nz rfl]at e
   rw[df q,cond_false,Int.toNat_natCast]
   have hl2:(GD bs p (bs.length - p) g.2).length=bs.length:=(za (tab:=bs) (p:=(p:Int)) (y:=g.2) (by omega) (by unfold uO;rw[df q,Int.toNat_natCast];rfl)).1
   have r:=ih (j+1) (GD bs p (bs.length - p) g.2) (by omega) (by omega)
   show match layAll (GD bs p (bs.length - p) g.2) ((G.drop (j+1)).map fun g=>(GG g.1,g.2))with|some t=>_|none=>_
   cases hq:layAll (GD bs p (bs.length - p) g.2) ((G.drop (j+1)).map fun g=>(GG g.1,g.2))with
   |none=>rw[hq]at r;exact .more e r
   |some t=>rw[hq]at r;exact .more e r
end Go.Proofs.Vd

noncomputable section
namespace Go.Proofs.Vd
open Go.Ab Go.Ab.Lf
set_option maxRecDepth 100000
end Go.Proofs.Vd

noncomputable section
namespace Go.Proofs.Vd
open Go.Ab Go.Ab.Lf
set_option maxRecDepth 100000
theorem Wv(o lo hi:Int):LI (eC o lo hi):=⟨(show 2<=1099511627776 by decide),fun x hx=>by
 rcases List.mem_cons.1 hx with q|q
 ·rw[q];exact Nat.zero_le _
 ·rw[show x=(11,0,0,0,0,[]) by simpa using q];exact Nat.zero_le _⟩
theorem aaL:LI [iC 11 0 0]:=⟨(show 1<=1099511627776 by decide),fun x hx=>by
 rw[show x=(11,0,0,0,0,[]) by simpa using hx];exact Nat.zero_le _⟩
theorem GH{lo:Int}(h0:0<=lo)(h1:lo<4294967296){n:Nat}(hn:n<=1099511627776):Seg (eC 65 lo 0) n:=⟨(show 0<2 by decide),hn,lo.toNat,(show lo=_ by omega),by omega⟩
theorem Pj{g:den aC}(h:gC g):0<g.2.2.length:=by
 obtain⟨_,o,lo,hi,hc⟩:=h
 rw[hc.c]
 show 0<2
 decide
theorem aeS(R:List Int->Option (List Pl))(T:Int):(bif decide ((0:Int)<(List.length [((T:Int),(-1:Int))]:Int))then aT (bm 0 (List.length [((T:Int),(-1:Int))]:Int)) (aT (Kb ([-1],(List.getD [((T:Int),(-1:Int))] (0:Int).toNat (aq ak)).1,())) (R (Kc ([-1],(List.getD [((T:Int),(-1:Int))] (0:Int).toNat (aq ak)).1,())).1))else R [])=aT (Kb ([-1],T,())) (R (Kc ([-1],T,())).1):=rfl
end Go.Proofs.Vd

noncomputable section
namespace Go.Proofs.Vd
open Go.Ab Go.Ab.Lf
set_option maxRecDepth 100000
abbrev u32:Ty:=.int .u32
abbrev dI:Ty:=.pair u32 (.ae u8)
def sAw:cQ:=iw (Ps []) [] (Ps [.bo]) [] [.bool] fun _=>.ok (true,())
structure zc(V:ByteArray->Bool)(ao:aA):Prop extends WorldS V ao where
 aw:sAw.Ok 6 ao
abbrev jH:List Ty:=[.ae dI,.ae aI,.ae aQ,.ae i64,.ae ak,.ae ak,.ae aC,.ae aP,i64,.ae aG,.ae aK,.ae aD,.bool,i64]
abbrev fQ:List Ty:=[.ae dI,.ae aI,.ae aQ,.ae i64,.ae ak,.ae ak,.ae aC,.ae aP,i64,.ae aG,.ae aK,.ae aD,.bool]
def Er:j4:=⟨0,fK Tryz.x4.code 0,[0,3,4,5],(Ps [.im dI,.pt 0 (Ps [.im aI,.im aQ,.im i64,.im ak,.im ak,.im aC,.im aP,.n .i64,.im aG,.im aK,.ow aD]),.bo,.n .i64]),[⟨.lN,[0,3,4],(Ps [.im dI,.pt 0 (Ps [.im aI,.im aQ,.im i64,.im ak,.im ak,.im aC,.im aP,.n .i64,.im aG,.im aK,.ow aD]),.bo])⟩]⟩
def Ww:List (Nat×cQ):=[]
theorem Pk{V:ByteArray->Bool}{ao:aA}(W:WorldS V ao):dc ao Ww:=.nil
def ri:List Pl->Lf.T Rs:=Er.step (fun _=>none) (dG Ww 3) 3
def Wy:fD:=qn Er ri jH fQ
theorem Es{V:ByteArray->Bool}{ao:aA}(W:WorldS V ao):ep Rx.w Wy (fun n d=>gy (ao n d) n (.bl 0 (.lp Er.body))):=fL (W.toWorld.in (Pk W) 3) (aE _) (m:=3) jH fQ
abbrev lB:List Ty:=[.ae dI,.ae u64,.ae i64,.ae i64,.ae i64,.ae aI,.ae aQ,.ae i64,.ae ak,.ae ak,.ae aC,.ae aP,i64,.ae aG,.ae aK,.ae aD,.ae u8,i64,.ae u8,i64]
abbrev ju:List Ty:=[.ae u64,.ae i64,.ae i64,.ae i64,.ae aI,.ae aQ,.ae i64,.ae ak,.ae ak,.ae aC,.ae aP,i64,.ae aG,.ae aK,.ae aD,.ae u8,i64,.ae u8]
def Et:j4:=⟨2,fK Tryz.x4.code 2,[0,6,9,10],(Ps [.im dI,.pt 0 (Ps [.ow u64,.im i64,.im i64,.ow i64,.im aI,.im aQ,.im i64,.im ak,.im ak,.im aC,.im aP,.n .i64,.im aG,.im aK,.im aD,.pt 0 (Ps [.ow u8,.n .i64])]),.ow u8,.n .i64]),[⟨.lN,[6,9],(Ps [.pt 0 (Ps [.ow u64,.im i64,.im i64,.ow i64,.im aI,.im aQ,.im i64,.im ak,.im ak,.im aC,.im aP,.n .i64,.im aG,.im aK,.im aD,.pt 0 (Ps [.ow u8,.n .i64])]),.ow u8])⟩]⟩
def Wz:List (Nat×cQ):=[]
theorem Pm{V:ByteArray->Bool}{ao:aA}(W:WorldS V ao):dc ao Wz:=.nil
def wg:List Pl->Lf.T Rs:=Et.step (fun _=>none) (dG Wz 3) 3
def WA:fD:=qn Et wg lB ju
theorem Eu{V:ByteArray->Bool}{ao:aA}(W:WorldS V ao):ep Rx.w WA (fun n d=>gy (ao n d) n (.bl 2 (.lp Et.body))):=fL (W.toWorld.in (Pm W) 3) (aE _) (m:=3) lB ju
abbrev jj:List Ty:=[.ae u64,.ae i64,.ae i64,.ae i64,.ae aI,.ae aQ,.ae i64,.ae ak,.ae ak,.ae aC,.ae aP,i64,.ae aG,.ae aK,.ae aD,.ae u8,i64,.ae u8,i64]
abbrev kh:List Ty:=[]
abbrev ki:List Ty:=[.bool]
def Ew:j4:=⟨4,fK Tryz.x4.code 4,[6,9,11],(Ps [.pt 0 (Ps [.ow u64,.im i64,.im i64,.ow i64,.im aI,.im aQ,.im i64,.im ak,.im ak,.im aC,.im aP,.n .i64,.im aG,.im aK,.im aD,.pt 0 (Ps [.ow u8,.n .i64])]),.im u8,.n .i64]),[⟨.lN,[],(Ps [])⟩,⟨.rt,[2],(Ps [.bo])⟩]⟩
def WB:List (Nat×cQ):=[]
theorem Pn{V:ByteArray->Bool}{ao:aA}(W:WorldS V ao):dc ao WB:=.nil
def uP:List Pl->Lf.T Rs:=Ew.step (fun _=>none) (dG WB 3) 3
def WC:fD:=vq Ew uP jj kh ki
theorem Ex{V:ByteArray->Bool}{ao:aA}(W:WorldS V ao):ep Rx.w WC (fun n d=>gy (ao n d) n (.bl 4 (.lp Ew.body))):=jx (W.toWorld.in (Pn W) 3) (aE _) (m:=3) jj kh ki
def Lz4:Nat->Option fD:=qg [(0,Wy),(2,WA),(4,WC)]
abbrev Po:List Ty:=[.ae dI]
abbrev GJ:List Ty:=[.bool]
def ez4(V:ByteArray->Bool):List (Nat×cQ):=[(6,sAw),(8,sz8 V),(9,s8c V)]
theorem aaM{V:ByteArray->Bool}{ao:aA}(W:zc V ao):dc ao (ez4 V):=(.cons W.aw (.cons (aaF W.toWorldS) (.cons (B4 W.toWorldS.toWorldN) .nil)))
def tz4(V:ByteArray->Bool)(x:aj Po):Lf.T (List Pl):=ja (Ps [.im dI]) [] (Ps [.bo]) Lz4 Tryz.x4 3 (dG (ez4 V) 3) (aB Po x)
def kz4(V:ByteArray->Bool)(x:aj Po):Bool:=mS (jP GJ (tz4 V x))
def mz4(V:ByteArray->Bool)(x:aj Po):aj GJ:=mS (e7 GJ (tz4 V x))
def sz4(V:ByteArray->Bool):cQ:=iw (Ps [.im dI]) [] (Ps [.bo]) Po GJ fun x=>.ck (kz4 V x) (.ok (mz4 V x))
theorem aaN{V:ByteArray->Bool}{ao:aA}(W:zc V ao):(sz4 V).Ok 4 ao:=
 eU (W.toWorldS.toWorld.in (aaM W) 3) (W.toWorldS.toWorld.st 4 _ rfl) rfl (fx.jq (.cons (b:=Er.body) (by kernel_rfl) (Es W.toWorldS) (.cons (b:=Et.body) (by kernel_rfl) (Eu W.toWorldS) (.cons (b:=Ew.body) (by kernel_rfl) (Ex W.toWorldS) .nil)))) (m:=3) rfl (fun _=>cg _) (fun _=>cg _)
abbrev zd:List Ty:=[.ae dI]
abbrev zO:List Ty:=[.bool]
def ey4(V:ByteArray->Bool):List (Nat×cQ):=[(6,sAw),(8,sy8 V),(9,s8c V)]
theorem aaO{V:ByteArray->Bool}{ao:aA}(W:zc V ao):dc ao (ey4 V):=(.cons W.aw (.cons (aaH W.toWorldS) (.cons (B4 W.toWorldS.toWorldN) .nil)))
def ty4(V:ByteArray->Bool)(x:aj zd):Lf.T (List Pl):=ja (Ps [.im dI]) [] (Ps [.bo]) Lz4 Tryz.x4 3 (dG (ey4 V) 3) (aB zd x)
def ky4(V:ByteArray->Bool)(x:aj zd):Bool:=mS (jP zO (ty4 V x))
def my4(V:ByteArray->Bool)(x:aj zd):aj zO:=mS (e7 zO (ty4 V x))
def sy4(V:ByteArray->Bool):cQ:=iw (Ps [.im dI]) [] (Ps [.bo]) zd zO fun x=>.ck (ky4 V x) (.ok (my4 V x))
theorem aaP{V:ByteArray->Bool}{ao:aA}(W:zc V ao):(sy4 V).Ok 4 ao:=
 eU (W.toWorldS.toWorld.in (aaO W) 3) (W.toWorldS.toWorld.st 4 _ rfl) rfl (fx.jq (.cons (b:=Er.body) (by kernel_rfl) (Es W.toWorldS) (.cons (b:=Et.body) (by kernel_rfl) (Eu W.toWorldS) (.cons (b:=Ew.body) (by kernel_rfl) (Ex W.toWorldS) .nil)))) (m:=3) rfl (fun _=>cg _) (fun _=>cg _)
end Go.Proofs.Vd

noncomputable section
namespace Go.Proofs.Vd
open Go.Ab Go.Ab.Lf
set_option maxRecDepth 100000
abbrev dJ:List (den aC):=[(127,false,eC 65 7 0),(123,false,eC 64780 1 2),(126,false,eC 66 9 0)]
abbrev c0T:List (den aK):=[([],[iC 11 0 0]),([],[iC 11 0 0]),([],[iC 11 0 0])]
abbrev yT(E:List (den aG))(a:Int):aj tM:=([([],[])],[],[0,0,0],[((20:Int),(-1:Int))],[((1:Int),(-1:Int))],dJ,[],-1,E,c0T,[(eC 65 a 0,[5])],())
def eT(e:den aG):Prop:=(∃ lo:Int,e.1=eC 65 lo 0/\0<=lo/\lo<4294967296)/\e.2.length<=1024/\ ∀ f,f∈e.2->0<=f/\f<3
theorem ajX{lo:Int}(h0:0<=lo)(h1:lo<4294967296):cC (eC 65 lo 0) 127 65 lo 0:=⟨rfl,.inl ⟨rfl,rfl,h0,h1,rfl⟩⟩
theorem vE: ∀ g,g∈dJ->gC g:=fun g hg=>by
 rcases List.mem_cons.1 hg with q|hg
 ·rw[q];exact⟨rfl,65,7,0,rfl,.inl ⟨rfl,rfl,by decide,by decide,rfl⟩⟩
 rcases List.mem_cons.1 hg with q|hg
 ·rw[q];exact⟨rfl,64780,1,2,rfl,.inr (.inr ⟨rfl,rfl⟩)⟩
 ·rw[show g=(126,false,eC 66 9 0) by simpa using hg];exact⟨rfl,66,9,0,rfl,.inr (.inl ⟨rfl,rfl,rfl⟩)⟩
theorem UG:gX Gk 512 dJ=true:=Pd Gk (show(3:Int)<=512 by decide) (show 3<=65536 by decide) (Pe fun x hx=>(Pf (vE x hx)).1) (fun x hx=>(Pf (vE x hx)).2.2.1) (Nat.le_trans (Ik (n:=84) fun x hx=>by rw[(Pf (vE x hx)).2.1];exact Nat.le_refl _) (show 84*3<=4294960000 by decide))
end Go.Proofs.Vd

noncomputable section
namespace Go.Proofs.Vd
open Go.Ab Go.Ab.Lf
set_option maxRecDepth 100000
abbrev yL(D:List (den aD)):aj tM:=([([],[])],[],[0],[((3:Int),(-1:Int))],[((2:Int),(-1:Int))],dJ,[],-1,[(eC 65 1 0,[0])],[([],[iC 11 0 0])],D,())
def dT(d:den aD):Prop:=(∃ lo:Int,d.1=eC 65 lo 0/\0<=lo/\lo<4294967296)/\d.2.length<=1048576
theorem ajY(V:ByteArray->Bool)(D:List (den aD)):VW V (yL D)=cf DS.ok D:=by kernel_rfl
theorem ajZ(V:ByteArray->Bool)(D:List (den aD)):8+Gc V (yL D)=kC DS.wt D+(8+Gc V (yL [])):=by
 have e: ∀ D,Gc V (yL D)=0+((21+kC Tc.wt [([],[])])+((21+0)+((21+kC Tb.wt [0])+((21+kC Td.wt [((3:Int),(-1:Int))])+((21+kC Te.wt [((2:Int),(-1:Int))])+((21+kC NI.wt dJ)+((21+0)+(0+(21+((21+kC NJ.wt [(eC 65 1 0,[0])])+((21+kC NV.wt [([],[iC 11 0 0])])+(21+kC DS.wt D)))))))))))):=fun D=>rfl
 rw[e D,e []]
 have h0:kC DS.wt ([]:List (den aD))=0:=rfl
 omega
theorem aeU(V:ByteArray->Bool):8+Gc V (yL [])<=100000:=Nat.le_of_ble_eq_true (show Nat.ble (8+(0+((21+kC Tc.wt [([],[])])+((21+0)+((21+kC Tb.wt [0])+((21+kC Td.wt [((3:Int),(-1:Int))])+((21+kC Te.wt [((2:Int),(-1:Int))])+((21+kC NI.wt dJ)+((21+0)+(0+(21+((21+kC NJ.wt [(eC 65 1 0,[0])])+((21+kC NV.wt [([],[iC 11 0 0])])+(21+0)))))))))))))) 100000=true from by kernel_rfl)
theorem aj0(V:ByteArray->Bool)(D:List (den aD)):Oe V (yL D)=gX DY 512 D:=by
 have a30:gX N5 256 [([],[])]=true:=by kernel_rfl
 have a35:gX (N6 V) 512 []=true:=by kernel_rfl
 have a38:gX N7 512 [0]=true:=by kernel_rfl
 have a40:gX N8 512 [((3:Int),(-1:Int))]=true:=by kernel_rfl
 have a42:gX N9 512 [((2:Int),(-1:Int))]=true:=by kernel_rfl
 have a46:gX (Oa V) 512 []=true:=by kernel_rfl
 have a49:gX JK 512 [(eC 65 1 0,[0])]=true:=by kernel_rfl
 have st:stP (-1)=true:=by kernel_rfl
 have a52:gX D0 512 [([],[iC 11 0 0])]=true:=by kernel_rfl
 have e:Oe V (yL D)=(decide (((1:Nat):Int)=((1:Nat):Int))&&((gX N5 256 [([],[])]&&(gX (N6 V) 512 []&&(gX N7 512 [0]&&(gX N8 512 [((3:Int),(-1:Int))]&&(gX N9 512 [((2:Int),(-1:Int))]&&(gX Gk 512 dJ&&gX (Oa V) 512 []))))))&&(stP (-1)&&(gX JK 512 [(eC 65 1 0,[0])]&&(gX D0 512 [([],[iC 11 0 0])]&&gX DY 512 D))))):=rfl
 rw[e,a30,a35,a38,a40,a42,a46,st,a49,a52,UG,dt (rfl:((1:Nat):Int)=((1:Nat):Int))]
 simp only[Bool.true_and,Bool.and_true]
theorem aj1(D:List (den aD)):s6 (yL D)=List.all D (JU (yL [])):=by kernel_rfl
theorem aeV(D:List (den aD)):(mR (yL D) 0).isSome=true:=by kernel_rfl
theorem aj2(D:List (den aD)):Ux (yL D)=true:=by
 refine List.all_eq_true.2 fun i hi=>?_
 have h3:i<1:=List.mem_range.1 hi
 have h:i=0:=by omega
 rw[h]
 exact aeV D
theorem Im{d:den aD}(h:dT d):DS.ok d=true/\DS.wt d<=1048776/\DY.p d=true/\JU (yL []) d=true:=by
 obtain⟨c,bs⟩:=d
 obtain⟨⟨lo,hc,h0,h1⟩,hl⟩:=h
 have hc:c=eC 65 lo 0:=hc
 have hl:bs.length<=1048576:=hl
 subst hc
 obtain⟨w1,w2,w3,w4,w5,w6⟩:=(ajX h0 h1).wr
 refine⟨w2,?_,?_,?_⟩
 ·show 1+(qp (eC 65 lo 0)+(10+bs.length))<=1048776
  rw[w3]
  omega
 ·show(true&&(decide (nU (eC 65 lo 0)=0)&&([(bs.length:Int)].all iM&&true)))=true
  rw[w1,List.all_cons,GF (n:=bs.length) (by omega)]
  rfl
 ·show(true&&uD (eC 65 lo 0) 127)=true
  rw[w4]
  rfl
theorem UH(V:ByteArray->Bool){D:List (den aD)}(hl:D.length<=500)(hD: ∀ d,d∈D->dT d):Wk V (yL D)=true/\(gY V (yL D)=0∨gY V (yL D)=4):=by
 have h1:cf DS.ok D=true:=Pe fun x hx=>(Im (hD x hx)).1
 have h2:kC DS.wt D<=1048776*D.length:=Ik fun x hx=>(Im (hD x hx)).2.1
 have hE:Ge V (yL D)=true:=by
  unfold Ge
  have:=aeU V
  rw[ajY,h1,ajZ,decide_eq_true (by omega)]
  rfl
 have hP:Oe V (yL D)=true:=by
  rw[aj0,Pd DY (by omega) (by omega) h1 (fun x hx=>(Im (hD x hx)).2.2.1) (by omega)]
 have hO:s6 (yL D)=true:=by
  rw[aj1,List.all_eq_true.2 fun x hx=>(Im (hD x hx)).2.2.2]
 refine⟨?_,aeQ hE hP hO (aj2 D)⟩
 unfold Wk
 rw[hE]
 rfl
end Go.Proofs.Vd

noncomputable section
namespace Go.Proofs.Vd
open Go.Ab Go.Ab.Lf
set_option maxRecDepth 100000
theorem Ke(V:ByteArray->Bool)(m1:List (den aI))(m2:List (den aQ))(m3:List Int)(m4:List (den ak))(m5:List (den ak))(m6:List (den aC))(m7:List (den aP))(m8:Int)(m9:List (den aG))(bT:List (den aK))(bX:List (den aD))(o1:List (den aI))(o2:List (den aQ))(o3:List Int)(o4:List (den ak))(o6:List (den aC))(o7:List (den aP))(o8:Int)(o9:List (den aG))(iN:List (den aK))(ig:List (den aD))(c1:List (den aI))(c2:List (den aQ))(c3:List Int)(c4:List (den ak))(c5:List (den ak))(c6:List (den aC))(c7:List (den aP))(c8:Int)(c9:List (den aG))(c10:List (den aK))(c11:List (den aD))(v a b tab:List Int)(X2:aj dz)(zM:X2=(o1,o2,o3,o4,[((2:Int),(-1:Int))],o6,o7,o8,o9,iN,ig,v,a,b,tab,c1,c2,c3,c4,c5,c6,c7,c8,c9,c10,c11,List.replicate 131072 0,-1,o9,(o9.length:Int),0,()))(w:aj dK)(hw:w=gP gA dz dK X2)(X4:aj dA)(zN:X4=(w.2.2.2.2.2.2.2.2.2.2.2.1,w.2.2.2.2.2.2.2.2.2.2.2.2.1,w.2.2.2.2.2.2.2.2.2.2.2.2.2.1,w.2.2.2.2.2.2.2.2.2.2.2.2.2.2.1,w.2.2.2.2.2.2.2.2.2.2.2.2.2.2.2.1,w.2.2.2.2.2.2.2.2.2.2.2.2.2.2.2.2.1,w.2.2.2.2.2.2.2.2.2.2.2.2.2.2.2.2.2.1,w.2.2.2.2.2.2.2.2.2.2.2.2.2.2.2.2.2.2.1,w.2.2.2.2.2.2.2.2.2.2.2.2.2.2.2.2.2.2.2.1,w.2.2.2.2.2.2.2.2.2.2.2.2.2.2.2.2.2.2.2.2.1,w.2.2.2.2.2.2.2.2.2.2.2.2.2.2.2.2.2.2.2.2.2.1,w.2.2.2.2.2.2.2.2.2.2.2.2.2.2.2.2.2.2.2.2.2.2.1,w.2.2.2.2.2.2.2.2.2.2.2.2.2.2.2.2.2.2.2.2.2.2.2.1,w.2.2.2.2.2.2.2.2.2.2.2.2.2.2.2.2.2.2.2.2.2.2.2.2.1,w.2.2.2.2.2.2.2.2.2.2.2.2.2.2.2.2.2.2.2.2.2.2.2.2.2.1,w.2.2.2.2.2.2.2.2.2.2.2.2.2.2.2.2.2.2.2.2.2.2.2.2.2.2.1,w.2.2.2.2.2.2.2.2.2.2.2.2.2.2.2.2.2.2.2.2.2.2.2.2.2.2.2.1,w.2.2.2.2.2.2.2.2.2.2.1,(List.length w.2.2.2.2.2.2.2.2.2.2.1:Int),0,()))(u:aj dX)(hu:u=gP gB dA dX X4):
 B8 V m1 m2 m3 m4 m5 m6 m7 m8 m9 bT bX (o1,o2,o3,o4,[((2:Int),(-1:Int))],o6,o7,o8,o9,iN,ig,v,a,b,c1,c2,c3,c4,c5,c6,c7,c8,c9,c10,c11,()) (2,-1) tab=aT (rP gA dz dK fP X2) (bif qQ gA dz X2 then aT (rP gB dA dX fu X4) (bif qQ gB dA X4 then some (aB GC (u.1,u.2.1,u.2.2.1,u.2.2.2.1,u.2.2.2.2.1,u.2.2.2.2.2.1,u.2.2.2.2.2.2.1,u.2.2.2.2.2.2.2.1,u.2.2.2.2.2.2.2.2.1,u.2.2.2.2.2.2.2.2.2.1,u.2.2.2.2.2.2.2.2.2.2.1,u.2.2.2.2.2.2.2.2.2.2.2.1,u.2.2.2.2.2.2.2.2.2.2.2.2.1,u.2.2.2.2.2.2.2.2.2.2.2.2.2.1,u.2.2.2.2.2.2.2.2.2.2.2.2.2.2.1,u.2.2.2.2.2.2.2.2.2.2.2.2.2.2.2.1,u.2.2.2.2.2.2.2.2.2.2.2.2.2.2.2.2.1,0,()))else none)else none):=by
 subst hu;subst zN;subst hw;subst zM
 kernel_rfl
theorem Kf(V:ByteArray->Bool)(m1:List (den aI))(m2:List (den aQ))(m3:List Int)(m4:List (den ak))(m5:List (den ak))(m6:List (den aC))(m7:List (den aP))(m8:Int)(m9:List (den aG))(bT:List (den aK))(bX:List (den aD))(o1:List (den aI))(o2:List (den aQ))(o3:List Int)(o4:List (den ak))(o6:List (den aC))(o7:List (den aP))(o8:Int)(o9:List (den aG))(iN:List (den aK))(ig:List (den aD))(c1:List (den aI))(c2:List (den aQ))(c3:List Int)(c4:List (den ak))(c5:List (den ak))(c6:List (den aC))(c7:List (den aP))(c8:Int)(c9:List (den aG))(c10:List (den aK))(c11:List (den aD))(v a b tab:List Int)(X2:aj dz)(zM:X2=(o1,o2,o3,o4,[((2:Int),(-1:Int))],o6,o7,o8,o9,iN,ig,v,a,b,tab,c1,c2,c3,c4,c5,c6,c7,c8,c9,c10,c11,List.replicate 131072 0,-1,o9,(o9.length:Int),0,()))(w:aj dK)(hw:w=gP gA dz dK X2)(X4:aj dA)(zN:X4=(w.2.2.2.2.2.2.2.2.2.2.2.1,w.2.2.2.2.2.2.2.2.2.2.2.2.1,w.2.2.2.2.2.2.2.2.2.2.2.2.2.1,w.2.2.2.2.2.2.2.2.2.2.2.2.2.2.1,w.2.2.2.2.2.2.2.2.2.2.2.2.2.2.2.1,w.2.2.2.2.2.2.2.2.2.2.2.2.2.2.2.2.1,w.2.2.2.2.2.2.2.2.2.2.2.2.2.2.2.2.2.1,w.2.2.2.2.2.2.2.2.2.2.2.2.2.2.2.2.2.2.1,w.2.2.2.2.2.2.2.2.2.2.2.2.2.2.2.2.2.2.2.1,w.2.2.2.2.2.2.2.2.2.2.2.2.2.2.2.2.2.2.2.2.1,w.2.2.2.2.2.2.2.2.2.2.2.2.2.2.2.2.2.2.2.2.2.1,w.2.2.2.2.2.2.2.2.2.2.2.2.2.2.2.2.2.2.2.2.2.2.1,w.2.2.2.2.2.2.2.2.2.2.2.2.2.2.2.2.2.2.2.2.2.2.2.1,w.2.2.2.2.2.2.2.2.2.2.2.2.2.2.2.2.2.2.2.2.2.2.2.2.1,w.2.2.2.2.2.2.2.2.2.2.2.2.2.2.2.2.2.2.2.2.2.2.2.2.2.1,w.2.2.2.2.2.2.2.2.2.2.2.2.2.2.2.2.2.2.2.2.2.2.2.2.2.2.1,w.2.2.2.2.2.2.2.2.2.2.2.2.2.2.2.2.2.2.2.2.2.2.2.2.2.2.2.1,w.2.2.2.2.2.2.2.2.2.2.1,(List.length w.2.2.2.2.2.2.2.2.2.2.1:Int),0,()))(u:aj dX)(hu:u=gP gB dA dX X4):
 B9 V m1 m2 m3 m4 m5 m6 m7 m8 m9 bT bX (o1,o2,o3,o4,[((2:Int),(-1:Int))],o6,o7,o8,o9,iN,ig,v,a,b,c1,c2,c3,c4,c5,c6,c7,c8,c9,c10,c11,()) (2,-1) tab=aT (rP gA dz dK fP X2) (bif qQ gA dz X2 then aT (rP gB dA dX fu X4) (bif qQ gB dA X4 then none else some (aB B7 (gP gB dA fu X4)))else some (aB B7 (gP gA dz fP X2))):=by
 subst hu;subst zN;subst hw;subst zM
 kernel_rfl
end Go.Proofs.Vd

noncomputable section
namespace Go.Proofs.Vd
open Go.Ab Go.Ab.Lf
set_option maxRecDepth 100000
theorem mbL{D:List (den aD)}(hl:D.length<=500)(hD: ∀ d,d∈D->dT d):MB ([([],[])]) ([]) ([0]) ([((3:Int),(-1:Int))]) ([((2:Int),(-1:Int))]) (dJ) ([]) (-1) ([(eC 65 1 0,[0])]) ([([],[iC 11 0 0])]) (D):=by
 refine⟨by decide,by decide,by decide,by decide,by decide,by decide,by decide,by show 1<=1099511627776;decide,by show 1<=1099511627776;decide,by omega,fun x hx=>?_,fun x hx=>?_,fun x hx=>?_,fun x hx=>?_,fun x hx=>?_⟩
 ·rw[show x=([],[]) by simpa using hx];exact⟨Nat.zero_le _,Nat.zero_le _⟩
 ·obtain⟨_,o,lo,hi,h⟩:=vE x hx
  exact h.wr.2.2.2.2.2
 ·rw[show x=(eC 65 1 0,[0]) by simpa using hx];exact⟨Wv _ _ _,(show 1<=1099511627776 by decide)⟩
 ·rw[show x=([],[iC 11 0 0]) by simpa using hx];exact⟨Nat.zero_le _,aaL⟩
 ·obtain⟨⟨lo,hc,_,_⟩,h2⟩:=hD x hx
  rw[hc]
  exact⟨Wv _ _ _,by omega⟩
theorem WD{D:List (den aD)}(hD: ∀ d,d∈D->dT d): ∀ g:den aD,g∈D->Seg g.1 g.2.length:=fun g hg=>by
 obtain⟨⟨lo,hc,h0,h1⟩,h2⟩:=hD g hg
 rw[hc]
 exact GH h0 h1 (by omega)
theorem aaQ(V:ByteArray->Bool){D:List (den aD)}(hl:D.length<=500)(hD: ∀ d,d∈D->dT d)(h4:gY V (yL D)=4):ky8 V (yL D)=true/\my8 V (yL D)=(4,()):=by
 obtain⟨k1,_⟩:=UH V hl hD
 refine we (cg _) (cg _) ?_
 refine(aeK V ([([],[])]) ([]) ([0]) ([((3:Int),(-1:Int))]) ([((2:Int),(-1:Int))]) (dJ) ([]) (-1) ([(eC 65 1 0,[0])]) ([([],[iC 11 0 0])]) (D) _ rfl _ rfl _ rfl _ rfl).trans ?_
 rw[k1,h4]
 rfl
theorem UI(V:ByteArray->Bool){D:List (den aD)}(hl:D.length<=500)(hD: ∀ d,d∈D->dT d)(h0:gY V (yL D)=0)(Z:List Int)(hZ:Z=List.replicate 131072 0)(hL:layAll Z (D.map fun g=>(GG g.1,g.2))=none):ky8 V (yL D)=true/\my8 V (yL D)=(14,()):=by
 obtain⟨k1,_⟩:=UH V hl hD
 obtain⟨c1,c2⟩:=aeG ([([],[])]) ([]) ([0]) ([((3:Int),(-1:Int))]) ([((2:Int),(-1:Int))]) (dJ) ([]) (-1) ([(eC 65 1 0,[0])]) ([([],[iC 11 0 0])]) (D) (mbL hl hD)
 have q0:=kq (Ws ([([],[])]) ([]) ([0]) ([((3:Int),(-1:Int))]) ([((2:Int),(-1:Int))]) (dJ) ([]) (-1) ([(eC 65 1 0,[0])]) ([([],[iC 11 0 0])]) (D) ([([],[])]) ([]) ([0]) ([((3:Int),(-1:Int))]) ([((2:Int),(-1:Int))]) (dJ) ([]) (-1) ([(eC 65 1 0,[0])]) ([([],[iC 11 0 0])]) (D) dJ (by decide) (fun g hg=>Pj (vE g hg)))
 obtain⟨t1,t2⟩:=Pg
 have hz:Z.length=131072:=by rw[hZ];exact List.length_replicate ..
 have r2:=Wt ([([],[])]) ([]) ([0]) ([((3:Int),(-1:Int))]) ([((2:Int),(-1:Int))]) (dJ) ([]) (-1) ([(eC 65 1 0,[0])]) ([([],[iC 11 0 0])]) (D) ([([],[])]) ([]) ([0]) ([((3:Int),(-1:Int))]) ([((2:Int),(-1:Int))]) (dJ) ([]) (-1) ([(eC 65 1 0,[0])]) ([([],[iC 11 0 0])]) (D) (gx dJ).1 (gx dJ).2.1 (gx dJ).2.2 Z (-1) [(eC 65 1 0,[0])] (by decide) (fun g hg=>by rw[show g=(eC 65 1 0,[0]) by simpa using hg];exact GH (by decide) (by decide) (show 1<=1099511627776 by decide)) 1 0 [-1,-1,-1] rfl (by decide)
 have e2:layAll [-1,-1,-1] ((([(eC 65 1 0,[0])]:List (den aG)).drop 0).map fun g=>(GG g.1,g.2))=some [-1,0,-1]:=by kernel_rfl
 rw[e2]at r2
 obtain⟨p1,p2,p3⟩:=sQ (f:=gA) (ti:=dz) (t0:=dK) (t1:=fP) r2
 obtain⟨X2,zM⟩: ∃ X2:aj dz,X2=([([],[])],[],[0],[((3:Int),(-1:Int))],[((2:Int),(-1:Int))],dJ,[],-1,[(eC 65 1 0,[0])],[([],[iC 11 0 0])],D,(gx dJ).1,(gx dJ).2.1,(gx dJ).2.2,[-1,-1,-1],[([],[])],[],[0],[((3:Int),(-1:Int))],[((2:Int),(-1:Int))],dJ,[],-1,[(eC 65 1 0,[0])],[([],[iC 11 0 0])],D,Z,-1,[(eC 65 1 0,[0])],(([(eC 65 1 0,[0])]:List (den aG)).length:Int),0,()):=⟨_,rfl⟩
 have p1:rP gA dz dK fP X2=true:=by rw[zM];exact p1
 have p2:qQ gA dz X2=true:=by rw[zM];exact p2
 have p3:gP gA dz dK X2=([([],[])],[],[0],[((3:Int),(-1:Int))],[((2:Int),(-1:Int))],dJ,[],-1,[(eC 65 1 0,[0])],[([],[iC 11 0 0])],D,(gx dJ).1,(gx dJ).2.1,(gx dJ).2.2,[-1,0,-1],[([],[])],[],[0],[((3:Int),(-1:Int))],[((2:Int),(-1:Int))],dJ,[],-1,[(eC 65 1 0,[0])],[([],[iC 11 0 0])],D,Z,-1,()):=by rw[zM];exact p3
 have r4:=Wu ([([],[])]) ([]) ([0]) ([((3:Int),(-1:Int))]) ([((2:Int),(-1:Int))]) (dJ) ([]) (-1) ([(eC 65 1 0,[0])]) ([([],[iC 11 0 0])]) (D) (gx dJ).1 (gx dJ).2.1 (gx dJ).2.2 [-1,0,-1] (-1) D (by omega) (WD hD) D.length 0 Z (by omega) (by omega)
 rw[List.drop_zero,hL]at r4
 obtain⟨X4,zN⟩: ∃ X4:aj dA,X4=((gx dJ).1,(gx dJ).2.1,(gx dJ).2.2,[-1,0,-1],[([],[])],[],[0],[((3:Int),(-1:Int))],[((2:Int),(-1:Int))],dJ,[],-1,[(eC 65 1 0,[0])],[([],[iC 11 0 0])],D,Z,-1,D,(D.length:Int),0,()):=⟨_,rfl⟩
 obtain⟨u1,u2,u3⟩:=FY (f:=gB) (ti:=dA) (t0:=dX) (t1:=fu) r4
 have u1:rP gB dA dX fu X4=true:=by rw[zN];exact u1
 have u2:qQ gB dA X4=false:=by rw[zN];exact u2
 have u3:gP gB dA fu X4=(14,()):=by rw[zN];exact u3
 have E:=aeK V ([([],[])]) ([]) ([0]) ([((3:Int),(-1:Int))]) ([((2:Int),(-1:Int))]) (dJ) ([]) (-1) ([(eC 65 1 0,[0])]) ([([],[iC 11 0 0])]) (D) _ c2.symm _ rfl _ q0.2.symm ((2:Int),(-1:Int)) rfl
 rw[k1,h0,c1,show qh uN gL fO ([([],[])],[],[0],[((3:Int),(-1:Int))],[((2:Int),(-1:Int))],dJ,[],-1,[(eC 65 1 0,[0])],[([],[iC 11 0 0])],D,[],[],[],[([],[])],[],[0],[((3:Int),(-1:Int))],[((2:Int),(-1:Int))],dJ,[],-1,[(eC 65 1 0,[0])],[([],[iC 11 0 0])],D,dJ,(dJ.length:Int),0,())=true from q0.1]at E
 rw[nz rfl,show(!decide ((0:Int)=0))=false from rfl,cond_false,nz rfl,nz rfl]at E
 have E:=E.trans (aeS (fun tab=>B9 V ([([],[])]) ([]) ([0]) ([((3:Int),(-1:Int))]) ([((2:Int),(-1:Int))]) (dJ) ([]) (-1) ([(eC 65 1 0,[0])]) ([([],[iC 11 0 0])]) (D) ([([],[])],[],[0],[((3:Int),(-1:Int))],[((2:Int),(-1:Int))],dJ,[],-1,[(eC 65 1 0,[0])],[([],[iC 11 0 0])],D,(gx dJ).1,(gx dJ).2.1,(gx dJ).2.2,[([],[])],[],[0],[((3:Int),(-1:Int))],[((2:Int),(-1:Int))],dJ,[],-1,[(eC 65 1 0,[0])],[([],[iC 11 0 0])],D,()) (2,-1) tab) 3)
 rw[t1,t2,nz rfl]at E
 refine we (cg _) (cg _) ?_
 refine E.trans ?_
 have R:=Kf V ([([],[])]) ([]) ([0]) ([((3:Int),(-1:Int))]) ([((2:Int),(-1:Int))]) (dJ) ([]) (-1) ([(eC 65 1 0,[0])]) ([([],[iC 11 0 0])]) (D) ([([],[])]) ([]) ([0]) ([((3:Int),(-1:Int))]) (dJ) ([]) (-1) ([(eC 65 1 0,[0])]) ([([],[iC 11 0 0])]) (D) ([([],[])]) ([]) ([0]) ([((3:Int),(-1:Int))]) ([((2:Int),(-1:Int))]) (dJ) ([]) (-1) ([(eC 65 1 0,[0])]) ([([],[iC 11 0 0])]) (D) (gx dJ).1 (gx dJ).2.1 (gx dJ).2.2 [-1,-1,-1] X2 (by rw[zM,hZ]) _ p3.symm X4 (by rw[zN]) _ rfl
 rw[p1,p2,u1,u2,u3]at R
 exact R
theorem UJ(V:ByteArray->Bool){D:List (den aD)}(hl:D.length<=500)(hD: ∀ d,d∈D->dT d)(h0:gY V (yL D)=0)(Z:List Int)(hZ:Z=List.replicate 131072 0){bs:List Int}(hL:layAll Z (D.map fun g=>(GG g.1,g.2))=some bs):kz8 V (yL D)=true/\mz8 V (yL D)=((gx dJ).1,(gx dJ).2.1,(gx dJ).2.2,[-1,0,-1],[([],[])],[],[0],[((3:Int),(-1:Int))],[((2:Int),(-1:Int))],dJ,[],-1,[(eC 65 1 0,[0])],[([],[iC 11 0 0])],D,bs,-1,0,()):=by
 obtain⟨k1,_⟩:=UH V hl hD
 obtain⟨c1,c2⟩:=aeG ([([],[])]) ([]) ([0]) ([((3:Int),(-1:Int))]) ([((2:Int),(-1:Int))]) (dJ) ([]) (-1) ([(eC 65 1 0,[0])]) ([([],[iC 11 0 0])]) (D) (mbL hl hD)
 have q0:=kq (Ws ([([],[])]) ([]) ([0]) ([((3:Int),(-1:Int))]) ([((2:Int),(-1:Int))]) (dJ) ([]) (-1) ([(eC 65 1 0,[0])]) ([([],[iC 11 0 0])]) (D) ([([],[])]) ([]) ([0]) ([((3:Int),(-1:Int))]) ([((2:Int),(-1:Int))]) (dJ) ([]) (-1) ([(eC 65 1 0,[0])]) ([([],[iC 11 0 0])]) (D) dJ (by decide) (fun g hg=>Pj (vE g hg)))
 obtain⟨t1,t2⟩:=Pg
 have hz:Z.length=131072:=by rw[hZ];exact List.length_replicate ..
 have r2:=Wt ([([],[])]) ([]) ([0]) ([((3:Int),(-1:Int))]) ([((2:Int),(-1:Int))]) (dJ) ([]) (-1) ([(eC 65 1 0,[0])]) ([([],[iC 11 0 0])]) (D) ([([],[])]) ([]) ([0]) ([((3:Int),(-1:Int))]) ([((2:Int),(-1:Int))]) (dJ) ([]) (-1) ([(eC 65 1 0,[0])]) ([([],[iC 11 0 0])]) (D) (gx dJ).1 (gx dJ).2.1 (gx dJ).2.2 Z (-1) [(eC 65 1 0,[0])] (by decide) (fun g hg=>by rw[show g=(eC 65 1 0,[0]) by simpa using hg];exact GH (by decide) (by decide) (show 1<=1099511627776 by decide)) 1 0 [-1,-1,-1] rfl (by decide)
 have e2:layAll [-1,-1,-1] ((([(eC 65 1 0,[0])]:List (den aG)).drop 0).map fun g=>(GG g.1,g.2))=some [-1,0,-1]:=by kernel_rfl
 rw[e2]at r2
 obtain⟨p1,p2,p3⟩:=sQ (f:=gA) (ti:=dz) (t0:=dK) (t1:=fP) r2
 obtain⟨X2,zM⟩: ∃ X2:aj dz,X2=([([],[])],[],[0],[((3:Int),(-1:Int))],[((2:Int),(-1:Int))],dJ,[],-1,[(eC 65 1 0,[0])],[([],[iC 11 0 0])],D,(gx dJ).1,(gx dJ).2.1,(gx dJ).2.2,[-1,-1,-1],[([],[])],[],[0],[((3:Int),(-1:Int))],[((2:Int),(-1:Int))],dJ,[],-1,[(eC 65 1 0,[0])],[([],[iC 11 0 0])],D,Z,-1,[(eC 65 1 0,[0])],(([(eC 65 1 0,[0])]:List (den aG)).length:Int),0,()):=⟨_,rfl⟩
 have p1:rP gA dz dK fP X2=true:=by rw[zM];exact p1
 have p2:qQ gA dz X2=true:=by rw[zM];exact p2
 have p3:gP gA dz dK X2=([([],[])],[],[0],[((3:Int),(-1:Int))],[((2:Int),(-1:Int))],dJ,[],-1,[(eC 65 1 0,[0])],[([],[iC 11 0 0])],D,(gx dJ).1,(gx dJ).2.1,(gx dJ).2.2,[-1,0,-1],[([],[])],[],[0],[((3:Int),(-1:Int))],[((2:Int),(-1:Int))],dJ,[],-1,[(eC 65 1 0,[0])],[([],[iC 11 0 0])],D,Z,-1,()):=by rw[zM];exact p3
 have r4:=Wu ([([],[])]) ([]) ([0]) ([((3:Int),(-1:Int))]) ([((2:Int),(-1:Int))]) (dJ) ([]) (-1) ([(eC 65 1 0,[0])]) ([([],[iC 11 0 0])]) (D) (gx dJ).1 (gx dJ).2.1 (gx dJ).2.2 [-1,0,-1] (-1) D (by omega) (WD hD) D.length 0 Z (by omega) (by omega)
 rw[List.drop_zero,hL]at r4
 obtain⟨X4,zN⟩: ∃ X4:aj dA,X4=((gx dJ).1,(gx dJ).2.1,(gx dJ).2.2,[-1,0,-1],[([],[])],[],[0],[((3:Int),(-1:Int))],[((2:Int),(-1:Int))],dJ,[],-1,[(eC 65 1 0,[0])],[([],[iC 11 0 0])],D,Z,-1,D,(D.length:Int),0,()):=⟨_,rfl⟩
 obtain⟨u1,u2,u3⟩:=sQ (f:=gB) (ti:=dA) (t0:=dX) (t1:=fu) r4
 have u1:rP gB dA dX fu X4=true:=by rw[zN];exact u1
 have u2:qQ gB dA X4=true:=by rw[zN];exact u2
 have u3:gP gB dA dX X4=((gx dJ).1,(gx dJ).2.1,(gx dJ).2.2,[-1,0,-1],[([],[])],[],[0],[((3:Int),(-1:Int))],[((2:Int),(-1:Int))],dJ,[],-1,[(eC 65 1 0,[0])],[([],[iC 11 0 0])],D,bs,-1,()):=by rw[zN];exact u3
 have E:=ajP V ([([],[])]) ([]) ([0]) ([((3:Int),(-1:Int))]) ([((2:Int),(-1:Int))]) (dJ) ([]) (-1) ([(eC 65 1 0,[0])]) ([([],[iC 11 0 0])]) (D) _ c2.symm _ rfl _ q0.2.symm ((2:Int),(-1:Int)) rfl
 rw[k1,h0,c1,show qh uN gL fO ([([],[])],[],[0],[((3:Int),(-1:Int))],[((2:Int),(-1:Int))],dJ,[],-1,[(eC 65 1 0,[0])],[([],[iC 11 0 0])],D,[],[],[],[([],[])],[],[0],[((3:Int),(-1:Int))],[((2:Int),(-1:Int))],dJ,[],-1,[(eC 65 1 0,[0])],[([],[iC 11 0 0])],D,dJ,(dJ.length:Int),0,())=true from q0.1]at E
 rw[nz rfl,show(!decide ((0:Int)=0))=false from rfl,cond_false,nz rfl,nz rfl]at E
 have E:=E.trans (aeS (fun tab=>B8 V ([([],[])]) ([]) ([0]) ([((3:Int),(-1:Int))]) ([((2:Int),(-1:Int))]) (dJ) ([]) (-1) ([(eC 65 1 0,[0])]) ([([],[iC 11 0 0])]) (D) ([([],[])],[],[0],[((3:Int),(-1:Int))],[((2:Int),(-1:Int))],dJ,[],-1,[(eC 65 1 0,[0])],[([],[iC 11 0 0])],D,(gx dJ).1,(gx dJ).2.1,(gx dJ).2.2,[([],[])],[],[0],[((3:Int),(-1:Int))],[((2:Int),(-1:Int))],dJ,[],-1,[(eC 65 1 0,[0])],[([],[iC 11 0 0])],D,()) (2,-1) tab) 3)
 rw[t1,t2,nz rfl]at E
 refine we (cg _) (cg _) ?_
 refine E.trans ?_
 have R:=Ke V ([([],[])]) ([]) ([0]) ([((3:Int),(-1:Int))]) ([((2:Int),(-1:Int))]) (dJ) ([]) (-1) ([(eC 65 1 0,[0])]) ([([],[iC 11 0 0])]) (D) ([([],[])]) ([]) ([0]) ([((3:Int),(-1:Int))]) (dJ) ([]) (-1) ([(eC 65 1 0,[0])]) ([([],[iC 11 0 0])]) (D) ([([],[])]) ([]) ([0]) ([((3:Int),(-1:Int))]) ([((2:Int),(-1:Int))]) (dJ) ([]) (-1) ([(eC 65 1 0,[0])]) ([([],[iC 11 0 0])]) (D) (gx dJ).1 (gx dJ).2.1 (gx dJ).2.2 [-1,-1,-1] X2 (by rw[zM,hZ]) _ p3.symm X4 (by rw[zN]) _ u3.symm
 rw[p1,p2,u1,u2]at R
 exact R
end Go.Proofs.Vd

noncomputable section
namespace Go.Proofs.Vd
open Go.Ab Go.Ab.Lf
set_option maxRecDepth 100000
inductive R2 (a b c:Type) where
 |nx (x:a)
 |o0 (x:b)
 |o1 (x:c)
def rd2(ti t0 t1:List Ty)(o:Rs):Option (R2 (aj ti) (aj t0) (aj t1)):=match o with
 | .next l=>(match toT ti l with
  |some x=>some (.nx x)
  |none=>none)
 | .out 0 l=>(match toT t0 l with
  |some x=>some (.o0 x)
  |none=>none)
 | .out 1 l=>(match toT t1 l with
  |some x=>some (.o1 x)
  |none=>none)
 | _=>none
def wr2(ti t0 t1:List Ty):R2 (aj ti) (aj t0) (aj t1)->Rs
 | .nx x=>.next (aB ti x)
 | .o0 x=>.out 0 (aB t0 x)
 | .o1 x=>.out 1 (aB t1 x)
def tr2(ti t0 t1:List Ty)(x:Lf.T Rs):Option (R2 (aj ti) (aj t0) (aj t1)):=(x.bd fun r=>Lf.T.of (rd2 ti t0 t1 r)).val
theorem Pp{ti t0 t1:List Ty}{x:Lf.T Rs}{r:R2 (aj ti) (aj t0) (aj t1)}(h:tr2 ti t0 t1 x=some r):x.val=some (wr2 ti t0 t1 r):=by
 obtain⟨o,ho,h⟩:=Lf.T.dh h
 rw[ho]
 have h:=Lf.T.j5 h
 unfold rd2 at h
 split at h
 ·split at h
  ·rename_i x hx;cases h;rw[mL hx];rfl
  ·cases h
 ·split at h
  ·rename_i x hx;cases h;rw[mL hx];rfl
  ·cases h
 ·split at h
  ·rename_i x hx;cases h;rw[mL hx];rfl
  ·cases h
 ·cases h
end Go.Proofs.Vd

noncomputable section
namespace Go.Proofs.Vd
open Go.Ab Go.Ab.Lf
set_option maxRecDepth 100000
abbrev dS(g:den dI):den aD:=(eC 65 (bf .u64 g.1) 0,g.2)
theorem Pq(l:List (den dI))(m1:List (den aI))(m2:List (den aQ))(m3:List Int)(m4:List (den ak))(m5:List (den ak))(m6:List (den aC))(m7:List (den aP))(m8:Int)(m9:List (den aG))(bT:List (den aK))(bX:List (den aD))(f:Bool)(i:Int)(g:den dI)(hg:g=l.getD i.toNat (aq dI)):(ri (aB jH (l,m1,m2,m3,m4,m5,m6,m7,m8,m9,bT,bX,f,i,()))).val=
 bif (bif decide (i<(l.length:Int))then decide (i<500)else false)then aT (bm i (l.length:Int)) (aT (bm i (l.length:Int)) (aT (roomy 48 (bX.length+([dS g]:List (den aD)).length)) (aT (bif f then bm i (l.length:Int)&&bm i (l.length:Int)else true) (
  some (.next (aB jH (l,m1,m2,m3,m4,m5,m6,m7,m8,m9,bT,app bX [dS g],bif f then decide (cr .i64 (bf .i64 g.1) (List.length g.2:Int)<=131072)else false,cr .i64 i 1,())))))))
 else some (.out 0 (aB fQ (l,m1,m2,m3,m4,m5,m6,m7,m8,m9,bT,bX,f,()))):=by
 subst hg
 kernel_rfl
theorem Pr(l:List (den dI))(v a b tab:List Int)(m1:List (den aI))(m2:List (den aQ))(m3:List Int)(m4:List (den ak))(m5:List (den ak))(m6:List (den aC))(m7:List (den aP))(m8:Int)(m9:List (den aG))(bT:List (den aK))(bX:List (den aD))(bs:List Int)(mo:Int)(W:List Int)(i:Int)(g:den dI)(hg:g=l.getD i.toNat (aq dI)):(wg (aB lB (l,v,a,b,tab,m1,m2,m3,m4,m5,m6,m7,m8,m9,bT,bX,bs,mo,W,i,()))).val=
 bif (bif decide (i<(l.length:Int))then decide (i<500)else false)then aT (bm i (l.length:Int)) (aT (dV g.1 (W.length:Int) (W.length:Int)) (aT (bm i (l.length:Int)) (
  some (.next (aB lB (l,v,a,b,tab,m1,m2,m3,m4,m5,m6,m7,m8,m9,bT,bX,bs,mo,GD W (Int.toNat g.1) ((W.length:Int).toNat - Int.toNat g.1) g.2,cr .i64 i 1,()))))))
 else some (.out 0 (aB ju (v,a,b,tab,m1,m2,m3,m4,m5,m6,m7,m8,m9,bT,bX,bs,mo,W,()))):=by
 subst hg
 kernel_rfl
theorem Pt(v a b tab:List Int)(m1:List (den aI))(m2:List (den aQ))(m3:List Int)(m4:List (den ak))(m5:List (den ak))(m6:List (den aC))(m7:List (den aP))(m8:Int)(m9:List (den aG))(bT:List (den aK))(bX:List (den aD))(bs:List Int)(mo:Int)(W:List Int)(Cn:Int):tr2 jj kh ki (uP (aB jj (v,a,b,tab,m1,m2,m3,m4,m5,m6,m7,m8,m9,bT,bX,bs,mo,W,Cn,())))=
 bif decide (Cn<131072)then bif (bif decide (Cn<0)then true else false)then some (.o1 (false,()))
  else bif !(bif decide (bf .u64 4096<=bf .u64 (bs.length:Int))then decide (bf .u64 Cn<=bN .u64 (bf .u64 (bs.length:Int)) (bf .u64 4096))else false)then some (.o1 (false,()))
  else aT (dV Cn (cr .i64 Cn 4096) (bs.length:Int)) (aT (roomy 1 (([]:List Int).length+(List.take ((cr .i64 Cn 4096).toNat - Cn.toNat) (List.drop Cn.toNat bs)).length)) (aT (dV Cn (cr .i64 Cn 4096) (W.length:Int)) (
   bif !eqStr (wq (app [] (List.take ((cr .i64 Cn 4096).toNat - Cn.toNat) (List.drop Cn.toNat bs)))) (wq (List.take ((cr .i64 Cn 4096).toNat - Cn.toNat) (List.drop Cn.toNat W)))then some (.o1 (false,()))
   else some (.nx (v,a,b,tab,m1,m2,m3,m4,m5,m6,m7,m8,m9,bT,bX,bs,mo,W,cr .i64 Cn 4096,())))))
 else some (.o0 ()):=by
 kernel_rfl
end Go.Proofs.Vd

noncomputable section
namespace Go.Proofs.Vd
open Go.Ab Go.Ab.Lf
set_option maxRecDepth 100000
abbrev x0L(l:List (den dI)):aj jH:=(l,[([],[])],[],[0],[((3:Int),(-1:Int))],[((2:Int),(-1:Int))],[(127,false,eC 65 7 0),(123,false,eC 64780 1 2),(126,false,eC 66 9 0)],[],-1,[(eC 65 1 0,[0])],[([],[iC 11 0 0])],[],true,0,())
def uQ(b:Bool):Option (List Pl):=some (aB GJ (b,()))
abbrev WE:Bool:=(decide ((0:Int)<=131072)&&decide ((131072:Int)<=131072))&&decide ((131072:Int).toNat*1<=70368744177664)
theorem aj3(V:ByteArray->Bool)(l:List (den dI))(z:aj fQ)(hz:z=gP ri jH fQ (x0L l))(y:aj tM)(hy:y=(z.2.1,z.2.2.1,z.2.2.2.1,z.2.2.2.2.1,z.2.2.2.2.2.1,z.2.2.2.2.2.2.1,z.2.2.2.2.2.2.2.1,z.2.2.2.2.2.2.2.2.1,z.2.2.2.2.2.2.2.2.2.1,z.2.2.2.2.2.2.2.2.2.2.1,z.2.2.2.2.2.2.2.2.2.2.2.1,()))(q:aj GC)(hq:q=mz8 V y)(X2:aj lB)(zM:X2=(z.1,q.1,q.2.1,q.2.2.1,q.2.2.2.1,q.2.2.2.2.1,q.2.2.2.2.2.1,q.2.2.2.2.2.2.1,q.2.2.2.2.2.2.2.1,q.2.2.2.2.2.2.2.2.1,q.2.2.2.2.2.2.2.2.2.1,q.2.2.2.2.2.2.2.2.2.2.1,q.2.2.2.2.2.2.2.2.2.2.2.1,q.2.2.2.2.2.2.2.2.2.2.2.2.1,q.2.2.2.2.2.2.2.2.2.2.2.2.2.1,q.2.2.2.2.2.2.2.2.2.2.2.2.2.2.1,q.2.2.2.2.2.2.2.2.2.2.2.2.2.2.2.1,q.2.2.2.2.2.2.2.2.2.2.2.2.2.2.2.2.1,List.replicate (131072:Int).toNat 0,0,()))(u:aj ju)(hu:u=gP wg lB ju X2)(X4:aj jj)(zN:X4=(u.1,u.2.1,u.2.2.1,u.2.2.2.1,u.2.2.2.2.1,u.2.2.2.2.2.1,u.2.2.2.2.2.2.1,u.2.2.2.2.2.2.2.1,u.2.2.2.2.2.2.2.2.1,u.2.2.2.2.2.2.2.2.2.1,u.2.2.2.2.2.2.2.2.2.2.1,u.2.2.2.2.2.2.2.2.2.2.2.1,u.2.2.2.2.2.2.2.2.2.2.2.2.1,u.2.2.2.2.2.2.2.2.2.2.2.2.2.1,u.2.2.2.2.2.2.2.2.2.2.2.2.2.2.1,u.2.2.2.2.2.2.2.2.2.2.2.2.2.2.2.1,u.2.2.2.2.2.2.2.2.2.2.2.2.2.2.2.2.1,u.2.2.2.2.2.2.2.2.2.2.2.2.2.2.2.2.2.1,0,())):(tz4 V (l,())).val=
 bif !true then uQ false else aT (qh ri jH fQ (x0L l)) (aT (kz8 V y) (aT (Wk V y) (
  bif !decide (gY V y=0)then uQ false else bif !z.2.2.2.2.2.2.2.2.2.2.2.2.1 then uQ false else bif !decide (q.2.2.2.2.2.2.2.2.2.2.2.2.2.2.2.2.2.1=0)then uQ false else
  aT WE (aT (qh wg lB ju X2) (aT (rP uP jj kh ki X4) (bif qQ uP jj X4 then uQ true else some (aB GJ (gP uP jj ki X4)))))))):=by
 subst zN;subst hu;subst zM;subst hq;subst hy;subst hz
 kernel_rfl
theorem aeY(V:ByteArray->Bool)(l:List (den dI))(z:aj fQ)(hz:z=gP ri jH fQ (x0L l))(y:aj tM)(hy:y=(z.2.1,z.2.2.1,z.2.2.2.1,z.2.2.2.2.1,z.2.2.2.2.2.1,z.2.2.2.2.2.2.1,z.2.2.2.2.2.2.2.1,z.2.2.2.2.2.2.2.2.1,z.2.2.2.2.2.2.2.2.2.1,z.2.2.2.2.2.2.2.2.2.2.1,z.2.2.2.2.2.2.2.2.2.2.2.1,())):(ty4 V (l,())).val=
 bif !true then uQ false else aT (qh ri jH fQ (x0L l)) (aT (ky8 V y) (aT (Wk V y) (
  bif !decide (gY V y=0)then uQ (bif decide ((my8 V y).1=gY V y)then decide (gY V y=4)else false)else bif !z.2.2.2.2.2.2.2.2.2.2.2.2.1 then uQ (decide ((my8 V y).1=14))else uQ false))):=by
 subst hy;subst hz
 kernel_rfl
end Go.Proofs.Vd

noncomputable section
namespace Go.Proofs.Vd
open Go.Ab Go.Ab.Lf
set_option maxRecDepth 100000
structure sgL(g:den dI):Prop where
 p: ∃ p:Nat,g.1=(p:Int)/\p<4294967296
 n:g.2.length<=1048576
def uR(g:den dI):Bool:=decide (cr .i64 (bf .i64 g.1) (List.length g.2:Int)<=131072)
def WG(g:den dI):Int×List Int:=(GG (dS g).1,(dS g).2)
theorem cvI{p:Nat}(h:p<4294967296):bf .i64 (p:Int)=(p:Int):=wrap_i64 (by omega) (by omega)
theorem adI{m n:Nat}(hm:m<=4294967296)(hn:n<=4294967296):cr .i64 (m:Int) (n:Int)=((m+n:Nat):Int):=by
 unfold cr
 rw[wrap_i64 (by omega) (by omega)]
 omega
theorem aeZ{g:den dI}(h:sgL g):dT (dS g):=by
 obtain⟨⟨p,hp,h1⟩,h2⟩:=h
 refine⟨⟨(p:Int),?_,by omega,by omega⟩,h2⟩
 show eC 65 (bf .u64 g.1) 0=_
 rw[hp,GB (by omega)]
theorem GK{g:den dI}{p:Nat}(hp:g.1=(p:Int))(h1:p<4294967296)(h2:g.2.length<=1048576):uR g=decide (p+g.2.length<=131072)/\WG g=((p:Int),g.2):=by
 refine⟨?_,?_⟩
 ·unfold uR
  rw[hp,cvI h1,adI (by omega) (by omega)]
  by_cases q:p+g.2.length<=131072
  ·rw[dt q,dt (by omega)]
  ·rw[df q,df (by omega)]
 ·unfold WG
  show(bf .u64 g.1,g.2)=_
  rw[hp,GB (by omega)]
theorem Pu{W:List Int}(hW:W.length=131072){g:den dI}{p:Nat}(hp:g.1=(p:Int))(h1:p<4294967296)(h2:g.2.length<=1048576):uO W (WG g).1 (WG g).2=bif uR g then some (GD W p (W.length - p) g.2)else none:=by
 obtain⟨e1,e2⟩:=GK hp h1 h2
 rw[e1,e2]
 unfold uO
 by_cases q:p+g.2.length<=131072
 ·rw[dt q,df (show ¬ (W.length:Int)<(p:Int)+(g.2.length:Int) by omega),Int.toNat_natCast]
  rfl
 ·rw[df q,dt (show(W.length:Int)<(p:Int)+(g.2.length:Int) by omega)]
  rfl
theorem Ip{W:List Int}{p:Nat}{y:List Int}(h:p+y.length<=W.length):(GD W p (W.length - p) y).length=W.length:=
 (za (tab:=W) (p:=(p:Int)) (y:=y) (by omega) (by unfold uO;rw[df (show ¬ (W.length:Int)<(p:Int)+(y.length:Int) by omega),Int.toNat_natCast];rfl)).1
theorem Iq: ∀ (L:List (den dI)) (W:List Int),(∀ g,g∈L->sgL g)->W.length=131072->(match layAll W (L.map WG)with|some t=>L.all uR=true/\t.length=131072|none=>L.all uR=false)
 | [],W,_,hW=>⟨rfl,hW⟩
 |g::L,W,h,hW=>by
  obtain⟨⟨p,hp,h1⟩,h2⟩:=h g List.mem_cons_self
  rw[List.map_cons,nA,Pu hW hp h1 h2,List.all_cons]
  cases hf:uR g with
  |false=>rfl
  |true=>
   have hq:p+g.2.length<=131072:=by
    rw[(GK hp h1 h2).1]at hf
    exact of_decide_eq_true hf
   have r:=Iq L (GD W p (W.length - p) g.2) (fun x hx=>h x (List.mem_cons_of_mem _ hx)) (by rw[Ip (by omega)];exact hW)
   exact r
theorem Pv{α:Type}(l:List α)(j:Nat)(d:α)(h:j<l.length):l.take (j+1)=l.take j++[l.getD j d]:=by
 rw[List.take_add_one,List.getElem?_eq_getElem h,List.getD_eq_getElem?_getD,List.getElem?_eq_getElem h]
 rfl
theorem cnd{l:List (den dI)}{n j:Nat}(hn:n=min l.length 500):(bif decide ((j:Int)<(l.length:Int))then decide ((j:Int)<500)else false)=decide (j<n):=by
 by_cases q:j<n
 ·rw[dt q,dt (show(j:Int)<(l.length:Int) by omega),dt (show(j:Int)<500 by omega)];rfl
 ·rw[df q]
  by_cases q2:(j:Int)<(l.length:Int)
  ·rw[dt q2,df (show ¬ (j:Int)<500 by omega)];rfl
  ·rw[df q2];rfl
theorem ae0(l:List (den dI))(m1:List (den aI))(m2:List (den aQ))(m3:List Int)(m4:List (den ak))(m5:List (den ak))(m6:List (den aC))(m7:List (den aP))(m8:Int)(m9:List (den aG))(bT:List (den aK))(n:Nat)(hn:n=min l.length 500):gM ri (aB jH (l,m1,m2,m3,m4,m5,m6,m7,m8,m9,bT,[],true,((0:Nat):Int),())) 0 (aB fQ (l,m1,m2,m3,m4,m5,m6,m7,m8,m9,bT,(l.take n).map dS,(l.take n).all uR,())):=by
 have key:gM ri (aB jH (l,m1,m2,m3,m4,m5,m6,m7,m8,m9,bT,(l.take 0).map dS,(l.take 0).all uR,((0:Nat):Int),())) 0 (aB fQ (l,m1,m2,m3,m4,m5,m6,m7,m8,m9,bT,(l.take n).map dS,(l.take n).all uR,())):=by
  refine p8 n (fun j=>aB jH (l,m1,m2,m3,m4,m5,m6,m7,m8,m9,bT,(l.take j).map dS,(l.take j).all uR,(j:Int),())) _ (fun j hj=>?_) ?_
  ·have hl:j<l.length:=by omega
   refine(Pq l m1 m2 m3 m4 m5 m6 m7 m8 m9 bT _ _ (j:Int) _ rfl).trans ?_
   have hm:((l.take j).map dS).length=j:=by rw[List.length_map,List.length_take];omega
   rw[Int.toNat_natCast,Pv l j (aq dI) hl,List.map_append,List.all_append]
   generalize l.getD j (aq dI)=g
   generalize (l.take j).map dS=B at hm
   generalize (l.take j).all uR=f
   have c1:bm (j:Int) (l.length:Int)=true:=cN hl
   have r:roomy 48 (B.length+([dS g]:List (den aD)).length)=true:=bO (by decide) (by show B.length+1<=_;omega)
   rw[cnd hn,dt hj,c1,r,OQ (by omega)]
   simp only[bp,List.map_cons,List.map_nil,List.all_cons,List.all_nil,Bool.and_true]
   unfold uR
   cases f<;>rfl
  ·refine(Pq l m1 m2 m3 m4 m5 m6 m7 m8 m9 bT _ _ (n:Int) _ rfl).trans ?_
   rw[cnd hn,df (Nat.lt_irrefl n)]
   rfl
 rw[List.take_zero]at key
 exact key
theorem ae1(l:List (den dI))(hl: ∀ g,g∈l->sgL g)(v a b tab:List Int)(m1:List (den aI))(m2:List (den aQ))(m3:List Int)(m4:List (den ak))(m5:List (den ak))(m6:List (den aC))(m7:List (den aP))(m8:Int)(m9:List (den aG))(bT:List (den aK))(bX:List (den aD))(bs0:List Int)(mo:Int)(n:Nat)(hn:n=min l.length 500): ∀ (k j:Nat) (W bs:List Int),j+k=n->W.length=131072->layAll W (((l.take n).drop j).map WG)=some bs->gM wg (aB lB (l,v,a,b,tab,m1,m2,m3,m4,m5,m6,m7,m8,m9,bT,bX,bs0,mo,W,(j:Int),())) 0 (aB ju (v,a,b,tab,m1,m2,m3,m4,m5,m6,m7,m8,m9,bT,bX,bs0,mo,bs,())):=by
 have hlen:(l.take n).length=n:=by rw[List.length_take];omega
 intro k
 induction k with
 |zero=>
  intro j W bs h hW e
  have hj:j=n:=by omega
  subst hj
  rw[List.drop_of_length_le (by omega)]at e
  have e:some W=some bs:=e
  cases e
  refine .last ((Pr l v a b tab m1 m2 m3 m4 m5 m6 m7 m8 m9 bT bX bs0 mo W (j:Int) _ rfl).trans ?_)
  rw[cnd hn,df (Nat.lt_irrefl j)]
  rfl
 |succ k ih=>
  intro j W bs h hW e
  have hj:j<n:=by omega
  have hjl:j<l.length:=by omega
  rw[drop_cons (l.take n) j (aq dI) (by omega),List.map_cons,nA]at e
  have eg:(l.take n).getD j (aq dI)=l.getD j (aq dI):=by
   rw[List.getD_eq_getElem?_getD,List.getD_eq_getElem?_getD,List.getElem?_take_of_lt hj]
  rw[eg]at e
  have E:=Pr l v a b tab m1 m2 m3 m4 m5 m6 m7 m8 m9 bT bX bs0 mo W (j:Int) _ rfl
  rw[Int.toNat_natCast]at E
  obtain⟨⟨p,hp,h1⟩,h2⟩:=hl _ (jt hjl (aq dI))
  generalize l.getD j (aq dI)=g at e E hp h2
  rw[Pu hW hp h1 h2]at e
  cases hf:uR g with
  |false=>rw[hf]at e;cases e
  |true=>
   rw[hf]at e
   have hq:p+g.2.length<=131072:=by
    rw[(GK hp h1 h2).1]at hf
    exact of_decide_eq_true hf
   have c1:bm (j:Int) (l.length:Int)=true:=cN hjl
   rw[cnd hn,dt hj,c1,hp,Ph (by omega),OQ (by omega),Int.toNat_natCast,Int.toNat_natCast]at E
   exact .more E (ih (j+1) _ bs (by omega) (by rw[Ip (by omega)];exact hW) e)
theorem ae2{m n:Nat}(h:m+4096<=n):dV (m:Int) ((m+4096:Nat):Int) (n:Int)=true:=by
 unfold dV
 simp only[Bool.and_eq_true,decide_eq_true_eq]
 omega
theorem GL(s:ByteArray):eqStr s s=true:=by unfold eqStr;exact beq_self_eq_true _
theorem ae3(v a b tab:List Int)(m1:List (den aI))(m2:List (den aQ))(m3:List Int)(m4:List (den ak))(m5:List (den ak))(m6:List (den aC))(m7:List (den aP))(m8:Int)(m9:List (den aG))(bT:List (den aK))(bX:List (den aD))(bs:List Int)(mo:Int)(hb:bs.length=131072):gM uP (aB jj (v,a,b,tab,m1,m2,m3,m4,m5,m6,m7,m8,m9,bT,bX,bs,mo,bs,((4096*0:Nat):Int),())) 0 (aB kh ()):=by
 refine p8 32 (fun j=>aB jj (v,a,b,tab,m1,m2,m3,m4,m5,m6,m7,m8,m9,bT,bX,bs,mo,bs,((4096*j:Nat):Int),())) _ (fun j hj=>?_) ?_
 ·refine Pp (ti:=jj) (t0:=kh) (t1:=ki) (r:=.nx (v,a,b,tab,m1,m2,m3,m4,m5,m6,m7,m8,m9,bT,bX,bs,mo,bs,((4096*(j+1):Nat):Int),())) ?_
  refine(Pt v a b tab m1 m2 m3 m4 m5 m6 m7 m8 m9 bT bX bs mo bs ((4096*j:Nat):Int)).trans ?_
  have ea:cr .i64 ((4096*j:Nat):Int) 4096=((4096*j+4096:Nat):Int):=adI (n:=4096) (by omega) (by omega)
  have c1:dV ((4096*j:Nat):Int) ((4096*j+4096:Nat):Int) (bs.length:Int)=true:=ae2 (by omega)
  have r: ∀ x:List Int,x.length<=4096->roomy 1 (([]:List Int).length+x.length)=true:=fun x hx=>bO (by decide) (by show 0+x.length<=_;omega)
  have fits:(bif decide (bf .u64 4096<=bf .u64 (bs.length:Int))then decide (bf .u64 ((4096*j:Nat):Int)<=bN .u64 (bf .u64 (bs.length:Int)) (bf .u64 4096))else false)=true:=by
   have e1:bf .u64 (bs.length:Int)=131072:=by rw[hb];rfl
   have e2:bf .u64 ((4096*j:Nat):Int)=((4096*j:Nat):Int):=GB (by omega)
   have e3:bN .u64 131072 (bf .u64 4096)=126976:=rfl
   rw[e1,e2,e3,show decide (bf .u64 4096<=131072)=true from rfl,dt (show((4096*j:Nat):Int)<=126976 by omega)]
   rfl
  have tl:(List.take (((4096*j+4096:Nat):Int).toNat - ((4096*j:Nat):Int).toNat) (List.drop ((4096*j:Nat):Int).toNat bs)).length<=4096:=by
   rw[List.length_take,Int.toNat_natCast,Int.toNat_natCast];omega
  rw[dt (show((4096*j:Nat):Int)<131072 by omega),df (show ¬ ((4096*j:Nat):Int)<0 by omega),fits,ea,c1,r _ tl]
  show(bif !eqStr (wq (app [] _)) (wq _)then _ else _)=_
  rw[bp,List.nil_append,GL]
  rfl
 ·refine Pp (ti:=jj) (t0:=kh) (t1:=ki) (r:=.o0 ()) ?_
  refine(Pt v a b tab m1 m2 m3 m4 m5 m6 m7 m8 m9 bT bX bs mo bs ((4096*32:Nat):Int)).trans ?_
  rw[df (show ¬ ((4096*32:Nat):Int)<131072 by omega)]
  rfl
theorem ae4(V:ByteArray->Bool)(l:List (den dI))(h: ∀ g,g∈l->sgL g):(ty4 V (l,())).val=some (aB zO (true,()))∨(tz4 V (l,())).val=some (aB GJ (true,())):=by
 obtain⟨n,hn⟩: ∃ n,n=min l.length 500:=⟨_,rfl⟩
 obtain⟨D,hDe⟩: ∃ D,D=(l.take n).map dS:=⟨_,rfl⟩
 have hl:D.length<=500:=by rw[hDe,List.length_map,List.length_take];omega
 have hD: ∀ d,d∈D->dT d:=fun d hd=>by
  rw[hDe]at hd
  obtain⟨g,hg,rfl⟩:=List.mem_map.1 hd
  exact aeZ (h g (List.mem_of_mem_take hg))
 have q0:=kq (f:=ri) (ti:=jH) (to:=fQ) (ae0 l ([([],[])]) ([]) ([0]) ([((3:Int),(-1:Int))]) ([((2:Int),(-1:Int))]) (dJ) ([]) (-1) ([(eC 65 1 0,[0])]) ([([],[iC 11 0 0])]) n hn)
 rw[<-hDe]at q0
 obtain⟨f,hf⟩: ∃ f,f=(l.take n).all uR:=⟨_,rfl⟩
 rw[<-hf]at q0
 have z1:qh ri jH fQ (x0L l)=true:=q0.1
 have z2:gP ri jH fQ (x0L l)=(l,[([],[])],[],[0],[((3:Int),(-1:Int))],[((2:Int),(-1:Int))],dJ,[],-1,[(eC 65 1 0,[0])],[([],[iC 11 0 0])],D,f,()):=q0.2
 obtain⟨k1,hc⟩:=UH V hl hD
 obtain⟨Z,hZ⟩: ∃ Z,Z=List.replicate 131072 (0:Int):=⟨_,rfl⟩
 have hz:Z.length=131072:=by rw[hZ];exact List.length_replicate ..
 have hPr:D.map (fun g=>(GG g.1,g.2))=(l.take n).map WG:=by rw[hDe,List.map_map];rfl
 have lf:=Iq (l.take n) Z (fun g hg=>h g (List.mem_of_mem_take hg)) hz
 rw[<-hf]at lf
 rcases hc with h0|h4
 ·cases hL:layAll Z ((l.take n).map WG)with
  |none=>
   rw[hL]at lf
   have lf:f=false:=lf
   obtain⟨n1,n2⟩:=UI V hl hD h0 Z hZ (by rw[hPr];exact hL)
   refine .inl ((aeY V l _ z2.symm (yL D) rfl).trans ?_)
   dsimp only
   rw[z1,n1,k1,h0,n2,lf]
   rfl
  |some bs=>
   rw[hL]at lf
   obtain⟨lf,hb⟩:f=true/\bs.length=131072:=lf
   obtain⟨n1,n2⟩:=UJ V hl hD h0 Z hZ (bs:=bs) (by rw[hPr];exact hL)
   have r2:=kq (f:=wg) (ti:=lB) (to:=ju) (ae1 l h (gx dJ).1 (gx dJ).2.1 (gx dJ).2.2 [-1,0,-1] ([([],[])]) ([]) ([0]) ([((3:Int),(-1:Int))]) ([((2:Int),(-1:Int))]) (dJ) ([]) (-1) ([(eC 65 1 0,[0])]) ([([],[iC 11 0 0])]) (D) bs (-1) n hn n 0 Z bs (by omega) hz (by rw[List.drop_zero];exact hL))
   obtain⟨u1,u2,u3⟩:=sQ (f:=uP) (ti:=jj) (t0:=kh) (t1:=ki) (ae3 (gx dJ).1 (gx dJ).2.1 (gx dJ).2.2 [-1,0,-1] ([([],[])]) ([]) ([0]) ([((3:Int),(-1:Int))]) ([((2:Int),(-1:Int))]) (dJ) ([]) (-1) ([(eC 65 1 0,[0])]) ([([],[iC 11 0 0])]) (D) bs (-1) hb)
   obtain⟨X2,zM⟩: ∃ X2:aj lB,X2=(l,(gx dJ).1,(gx dJ).2.1,(gx dJ).2.2,[-1,0,-1],[([],[])],[],[0],[((3:Int),(-1:Int))],[((2:Int),(-1:Int))],dJ,[],-1,[(eC 65 1 0,[0])],[([],[iC 11 0 0])],D,bs,-1,Z,0,()):=⟨_,rfl⟩
   obtain⟨X4,zN⟩: ∃ X4:aj jj,X4=((gx dJ).1,(gx dJ).2.1,(gx dJ).2.2,[-1,0,-1],[([],[])],[],[0],[((3:Int),(-1:Int))],[((2:Int),(-1:Int))],dJ,[],-1,[(eC 65 1 0,[0])],[([],[iC 11 0 0])],D,bs,-1,bs,0,()):=⟨_,rfl⟩
   have r1:qh wg lB ju X2=true:=by rw[zM];exact r2.1
   have r2:gP wg lB ju X2=((gx dJ).1,(gx dJ).2.1,(gx dJ).2.2,[-1,0,-1],[([],[])],[],[0],[((3:Int),(-1:Int))],[((2:Int),(-1:Int))],dJ,[],-1,[(eC 65 1 0,[0])],[([],[iC 11 0 0])],D,bs,-1,bs,()):=by rw[zM];exact r2.2
   have u1:rP uP jj kh ki X4=true:=by rw[zN];exact u1
   have u2:qQ uP jj X4=true:=by rw[zN];exact u2
   have mk:WE=true:=by decide
   refine .inr ((aj3 V l _ z2.symm (yL D) rfl _ n2.symm X2 (by rw[zM,hZ];rfl) _ r2.symm X4 (by rw[zN])).trans ?_)
   dsimp only
   rw[z1,n1,k1,h0,lf,mk,r1,u1,u2]
   rfl
 ·obtain⟨n1,n2⟩:=aaQ V hl hD h4
  refine .inl ((aeY V l _ z2.symm (yL D) rfl).trans ?_)
  rw[z1,n1,k1,h4,n2]
  rfl
end Go.Proofs.Vd
