import Derived.Test.YtbplobpobnagkaaGreatDoorVdU2
noncomputable section
namespace Go.Proofs.Vd
open Go.Ab Go.Ab.Lf
set_option maxRecDepth 100000
abbrev iC(o lo hi:Int):den tI:=(o,0,0,lo,hi,[])
abbrev eC(o lo hi:Int):List (den tI):=[iC o lo hi,(11,0,0,0,0,[])]
theorem aeN(lo:Int):(iK (mI (iC 65 lo 0))).2=decide (lo<4294967296):=by kernel_rfl
theorem aeO(lo:Int):(iK (mI (iC 66 lo 0))).2=true:=by kernel_rfl
theorem ajW(lo hi:Int):(iK (mI (iC 64780 lo hi))).2=true:=by kernel_rfl
theorem aeP:(iK (mI (iC 11 0 0))).2=true:=by kernel_rfl
theorem aeQ(o lo hi:Int)(h:o=65∨o=66∨o=64780):iW (eC o lo hi)=true:=by
 rcases h with h|h|h<;>subst h<;>kernel_rfl
end Go.Proofs.Vd

noncomputable section
namespace Go.Proofs.Vd
open Go.Ab Go.Ab.Lf
set_option maxRecDepth 100000
theorem GJ{n:Nat}(h:n<4294967296):ij (n:Int)=true:=by
 unfold ij
 rw[decide_eq_true (by omega),decide_eq_true (by omega)]
 rfl
theorem GK{α:Type}{A:Item α}(B:As A){most:Int}{l:List α}(hl:(l.length:Int)<=most)(hl2:l.length<=65536)(ho:cb A.ok l=true)(hp: ∀ x,x∈l->B.p x=true)(hw:kE A.wt l<=4294960000):gx B most l=true:=by
 have hr:=yJ B l ho
 have hn:=q7 (l.length:Int)
 unfold gx
 rw[decide_eq_true hl,GJ (n:=l.length) (by omega),List.all_eq_true.2 hp,GJ (n:=(nb (l.length:Int)++uO B l).length) (by rw[List.length_append];omega)]
 cases decide ((l.length:Int)=0)<;>rfl
theorem aeR{V:ByteArray->Bool}{y:ak tM}(hE:Gh V y=true)(hP:Ky V y=true):ny V y=0∨ny V y=4:=by
 unfold ny
 rw[H7 hE,hP]
 show(bif decide (16384<((s0.1++Qi V y).length:Int))then(4:Int)else 0)=0∨(bif decide (16384<((s0.1++Qi V y).length:Int))then(4:Int)else 0)=4
 cases decide (16384<((s0.1++Qi V y).length:Int))with
 |true=>exact .inr rfl
 |false=>exact .inl rfl
theorem aeS{V:ByteArray->Bool}{y:ak tM}(hE:Gh V y=true)(hP:Ky V y=true)(hO:th y=true)(hB:Uw y=true):gP V y=0∨gP V y=4:=by
 unfold gP
 rw[hO,hB]
 rcases aeR hE hP with h|h
 ·rw[h];exact .inl rfl
 ·rw[h];exact .inr rfl
structure cC(c:List (den tI))(t o lo hi:Int):Prop where
 c:c=eC o lo hi
 o:(o=65/\t=127/\0<=lo/\lo<4294967296/\hi=0)∨(o=66/\t=126/\hi=0)∨(o=64780/\t=123)
theorem cC.wr{c:List (den tI)}{t o lo hi:Int}(h:cC c t o lo hi):nf c=0/\qk c=true/\qt c=82/\uM c t=true/\qu t=true/\LI c:=by
 obtain⟨rfl,h⟩:=h
 have hL:LI (eC o lo hi):=⟨(show 2<=1099511627776 by decide),fun x hx=>by
  rcases List.mem_cons.1 hx with q|q
  ·rw[q];exact Nat.zero_le _
  ·rw[show x=(11,0,0,0,0,[]) by simpa using q];exact Nat.zero_le _⟩
 have hc:iW (eC o lo hi)=true:=aeQ o lo hi (by rcases h with h|h|h;exact .inl h.1;exact .inr (.inl h.1);exact .inr (.inr h.1))
 have hp:(iK (mI (iC o lo hi))).2=true:=by
  rcases h with h|h|h
  ·obtain⟨rfl,_,_,WV,rfl⟩:=h
   rw[aeN];exact decide_eq_true WV
  ·obtain⟨rfl,_,rfl⟩:=h
   exact aeO lo
  ·obtain⟨rfl,_⟩:=h
   exact ajW lo hi
 refine⟨?_,rfl,rfl,?_,?_,hL⟩
 ·unfold nf F'
  rw[hc,cond_true]
  have e:qp (eC o lo hi) []=some (([]++(iK (mI (iC o lo hi))).1)++(iK (mI (iC 11 0 0))).1):=by
   unfold qp
   rw[gq]
   unfold yA
   rw[hp,cond_true]
   show gq _ some [iC 11 0 0] _=_
   rw[gq,aeP,cond_true]
   rfl
  rw[e]
  rfl
 ·rcases h with h|h|h
  ·obtain⟨rfl,rfl,_⟩:=h;kernel_rfl
  ·obtain⟨rfl,rfl,_⟩:=h;kernel_rfl
  ·obtain⟨rfl,rfl⟩:=h;kernel_rfl
 ·rcases h with h|h|h
  ·rw[h.2.1];rfl
  ·rw[h.2.1];rfl
  ·rw[h.2];rfl
end Go.Proofs.Vd

noncomputable section
namespace Go.Proofs.Vd
open Go.Ab Go.Ab.Lf
set_option maxRecDepth 100000
def gC(g:den aC):Prop:=g.2.1=false/\ ∃ o lo hi,cC g.2.2 g.1 o lo hi
theorem Pc{α:Type}{p:α->Bool}{l:List α}(h: ∀ x,x∈l->p x=true):cb p l=true:=by
 induction l with
 |nil=>rfl
 |cons a l ih=>
  show(bif p a then cb p l else false)=true
  rw[h a List.mem_cons_self,cond_true]
  exact ih fun x hx=>h x (List.mem_cons_of_mem _ hx)
theorem Ca{α:Type}{w:α->Nat}{n:Nat}{l:List α}(h: ∀ x,x∈l->w x<=n):kE w l<=n*l.length:=by
 induction l with
 |nil=>exact Nat.zero_le _
 |cons a l ih=>
  have h1:=h a List.mem_cons_self
  have h2:=ih fun x hx=>h x (List.mem_cons_of_mem _ hx)
  rw[oK,List.length_cons,Nat.mul_succ]
  omega
theorem Pd{g:den aC}(h:gC g):NK.ok g=true/\NK.wt g=84/\DX.p g=true/\pGl g=true:=by
 obtain⟨t,m,c⟩:=g
 obtain⟨hm,o,lo,hi,hc⟩:=h
 have hm:m=false:=hm
 subst hm
 obtain⟨w1,w2,w3,w4,w5,w6⟩:=hc.wr
 refine⟨w2,?_,?_,w4⟩
 ·show 1+(1+qt c)=84
  rw[show qt c=82 from w3]
 ·show([t].all qu&&(true&&decide (nf c=0)))=true
  rw[show nf c=0 from w1,List.all_cons,show qu t=true from w5]
  rfl
end Go.Proofs.Vd

noncomputable section
namespace Go.Proofs.Vd
open Go.Ab Go.Ab.Lf
set_option maxRecDepth 100000
def stG(p:List Int×List Int×List Int)(g:den aC):List Int×List Int×List Int:=
 (bif decide (g.1=123)then app (app p.1 [(g.2.2.getD 0 (ao tI)).2.2.2.1]) [(g.2.2.getD 0 (ao tI)).2.2.2.2.1]else app p.1 [(g.2.2.getD 0 (ao tI)).2.2.2.1],
  bif decide (g.1=123)then app (app p.2.1 [bif decide (g.1=127)then 1 else 0]) [0]else app p.2.1 [bif decide (g.1=127)then 1 else 0],app p.2.2 [(p.1.length:Int)])
def fR(G:List (den aC)):List Int×List Int×List Int:=G.foldl stG ([],[],[])
theorem Eo(G:List (den aC))(j:Nat)(h:j<G.length):fR (G.take (j+1))=stG (fR (G.take j)) (G.getD j (ao aC)):=by
 unfold fR
 rw[List.take_add_one,List.foldl_append,List.getElem?_eq_getElem h,List.getD_eq_getElem?_getD,List.getElem?_eq_getElem h]
 rfl
theorem UC(p:List Int×List Int×List Int)(g:den aC):(stG p g).1.length<=p.1.length+2/\(stG p g).2.1.length<=p.2.1.length+2/\(stG p g).2.2.length=p.2.2.length+1:=by
 unfold stG
 simp only[bp]
 cases decide (g.1=123)<;>simp
theorem Ip(G:List (den aC)): ∀ j,j<=G.length->(fR (G.take j)).1.length<=2*j/\(fR (G.take j)).2.1.length<=2*j/\(fR (G.take j)).2.2.length=j
 |0,_=>by rw[List.take_zero];exact⟨Nat.zero_le _,Nat.zero_le _,rfl⟩
 |j+1,h=>by
  have ih:=Ip G j (by omega)
  rw[Eo G j (by omega)]
  have:=UC (fR (G.take j)) (G.getD j (ao aC))
  omega
theorem Pe(o1:List (den aI))(o2:List (den aP))(o3:List Int)(o4:List (den aj))(o5:List (den aj))(o6:List (den aC))(o7:List (den aO))(o8:Int)(o9:List (den aD))(iR:List (den aK))(ic:List (den aH))(m1:List (den aI))(m2:List (den aP))(m3:List Int)(m4:List (den aj))(m5:List (den aj))(m6:List (den aC))(m7:List (den aO))(m8:Int)(m9:List (den aD))(bK:List (den aK))(bL:List (den aH))(G:List (den aC))(hl:G.length<=1000000)(hG: ∀ g:den aC,g∈G->0<g.2.2.length):gQ sC (aA gz (o1,o2,o3,o4,o5,o6,o7,o8,o9,iR,ic,[],[],[],m1,m2,m3,m4,m5,m6,m7,m8,m9,bK,bL,G,(G.length:Int),((0:Nat):Int),())) 0 (aA fx (o1,o2,o3,o4,o5,o6,o7,o8,o9,iR,ic,(fR G).1,(fR G).2.1,(fR G).2.2,m1,m2,m3,m4,m5,m6,m7,m8,m9,bK,bL,())):=by
 have h0:aA gz (o1,o2,o3,o4,o5,o6,o7,o8,o9,iR,ic,[],[],[],m1,m2,m3,m4,m5,m6,m7,m8,m9,bK,bL,G,(G.length:Int),((0:Nat):Int),())=aA gz (o1,o2,o3,o4,o5,o6,o7,o8,o9,iR,ic,(fR (G.take 0)).1,(fR (G.take 0)).2.1,(fR (G.take 0)).2.2,m1,m2,m3,m4,m5,m6,m7,m8,m9,bK,bL,G,(G.length:Int),((0:Nat):Int),()):=by rw[List.take_zero];rfl
 have h1:fR G=fR (G.take G.length):=by rw[List.take_length]
 rw[h0,h1]
 refine mX G.length (fun j=>aA gz (o1,o2,o3,o4,o5,o6,o7,o8,o9,iR,ic,(fR (G.take j)).1,(fR (G.take j)).2.1,(fR (G.take j)).2.2,m1,m2,m3,m4,m5,m6,m7,m8,m9,bK,bL,G,(G.length:Int),(j:Int),())) _ (fun j hj=>?_) ?_
 ·have hn:=Ip G j (by omega)
  rw[Eo G j hj]
  generalize fR (G.take j)=p at hn
  obtain⟨v,a,b⟩:=p
  have SE:=hG _ (gy hj (ao aC))
  refine(O' o1 o2 o3 o4 o5 o6 o7 o8 o9 iR ic m1 m2 m3 m4 m5 m6 m7 m8 m9 bK bL v a b G (G.length:Int) (j:Int)).trans ?_
  rw[Int.toNat_natCast]
  generalize G.getD j (ao aC)=g at SE
  obtain⟨n1,n2,n3⟩:=hn
  have n1:v.length<=2*j:=n1
  have n2:a.length<=2*j:=n2
  have n3:b.length=j:=n3
  rw[dt (show(j:Int)<(G.length:Int) by omega),show bg (j:Int) (G.length:Int)=true from bZ hj,JX (by omega),show bg 0 (List.length g.2.2:Int)=true from bZ (j:=0) SE,bP (by decide) (show b.length+[(v.length:Int)].length<=1099511627776 by show b.length+1<=_;omega)]
  have r1: ∀ x:Int,roomy 8 (v.length+[x].length)=true:=fun x=>bP (by decide) (by show v.length+1<=_;omega)
  have r2: ∀ x:Int,roomy 8 (a.length+[x].length)=true:=fun x=>bP (by decide) (by show a.length+1<=_;omega)
  have r3: ∀ x y:Int,roomy 8 ((app v [x]).length+[y].length)=true:=fun x y=>bP (by decide) (by rw[bp,List.length_append];show v.length+1+1<=_;omega)
  have r4: ∀ x y:Int,roomy 8 ((app a [x]).length+[y].length)=true:=fun x y=>bP (by decide) (by rw[bp,List.length_append];show a.length+1+1<=_;omega)
  rw[r1,r2,r3,r4,r2,r4]
  unfold stG
  cases apU:decide (g.1=127)<;>cases apV:decide (g.1=123)<;>rfl
 ·generalize fR (G.take G.length)=p
  obtain⟨v,a,b⟩:=p
  refine(O' o1 o2 o3 o4 o5 o6 o7 o8 o9 iR ic m1 m2 m3 m4 m5 m6 m7 m8 m9 bK bL v a b G (G.length:Int) (G.length:Int)).trans ?_
  rw[df (show ¬ (G.length:Int)<(G.length:Int) by omega)]
  rfl
end Go.Proofs.Vd

noncomputable section
namespace Go.Proofs.Vd
open Go.Ab Go.Ab.Lf
set_option maxRecDepth 100000
abbrev Cb(c:List (den tI)):Int:=(List.getD c (0:Int).toNat (ao tI)).2.2.2.1
def Seg(c:List (den tI))(n:Nat):Prop:=0<c.length/\n<=1099511627776/\ ∃ p:Nat,Cb c=(p:Int)/\p<4294967296
def n4(tab:List Int)(p:Int)(y:List Int):Option (List Int):=bif decide ((tab.length:Int)<p+(y.length:Int))then none else some (B8 tab p.toNat (tab.length - p.toNat) y)
def layAll(tab:List Int)(l:List (Int×List Int)):Option (List Int):=l.foldl (fun t x=>t.bind fun t=>n4 t x.1 x.2) (some tab)
theorem Ep(l:List (Int×List Int)):l.foldl (fun t x=>t.bind fun t=>n4 t x.1 x.2) none=none:=by
 induction l with
 |nil=>rfl
 |cons a l ih=>exact ih
theorem nF(tab:List Int)(x:Int×List Int)(l:List (Int×List Int)):layAll tab (x::l)=(n4 tab x.1 x.2).bind fun t=>layAll t l:=by
 unfold layAll
 rw[List.foldl_cons]
 show List.foldl _ (n4 tab x.1 x.2) l=_
 cases n4 tab x.1 x.2 with
 |none=>exact Ep l
 |some t=>rfl
theorem yR{tab t:List Int}{p:Int}(h0:0<=p){y:List Int}(h:n4 tab p y=some t):t.length=tab.length/\p+(y.length:Int)<=(tab.length:Int):=by
 unfold n4 at h
 by_cases q:(tab.length:Int)<p+(y.length:Int)
 ·rw[dt q]at h;cases h
 ·rw[df q,cond_false]at h
  injection h with h
  subst h
  refine⟨?_,by omega⟩
  simp only[bp,List.length_append,List.length_take,List.length_drop]
  show _+(_+(_ - (p.toNat+_)))=_
  omega
theorem aeU{p n:Nat}(hp:p<4294967296)(hn:n<=1099511627776):cf .u64 (p:Int) (aV .u64 (n:Int))=((p+n:Nat):Int):=by
 rw[zG (by omega)]
 exact(wrap_u64 (by omega) (by omega)).trans (by omega)
theorem aaI{p n b:Nat}(hp:p<4294967296)(hn:n<=1099511627776)(hb:b<=1099511627776):(!(bif decide (aV .u64 (n:Int)<=aV .u64 (b:Int))then decide ((p:Int)<=bO .u64 (aV .u64 (b:Int)) (aV .u64 (n:Int)))else false))=decide ((b:Int)<(p:Int)+(n:Int)):=by
 rw[zG (k:=n) (by omega),zG (k:=b) (by omega)]
 by_cases h:(n:Int)<=(b:Int)
 ·have e:bO .u64 (b:Int) (n:Int)=((b - n:Nat):Int):=(wrap_u64 (by omega) (by omega)).trans (by omega)
  rw[dt h,e,cond_true]
  clear e
  by_cases h2:(p:Int)<=((b - n:Nat):Int)
  ·rw[dt h2,df (show ¬ (b:Int)<(p:Int)+(n:Int) by omega)];rfl
  ·rw[df h2,dt (show(b:Int)<(p:Int)+(n:Int) by omega)];rfl
 ·rw[df h,dt (show(b:Int)<(p:Int)+(n:Int) by omega)];rfl
theorem Wo{p b:Nat}(h:p<=b):eL (p:Int) (b:Int) (b:Int)=true:=by
 unfold eL
 rw[dt (show(0:Int)<=(p:Int) by omega),dt (show(p:Int)<=(b:Int) by omega),dt (Int.le_refl _)]
 rfl
theorem drop_cons{α:Type}(l:List α)(j:Nat)(d:α)(h:j<l.length):l.drop j=l.getD j d::l.drop (j+1):=by
 rw[List.drop_eq_getElem_cons h,List.getD_eq_getElem?_getD,List.getElem?_eq_getElem h]
 rfl
theorem Pf(o1:List (den aI))(o2:List (den aP))(o3:List Int)(o4:List (den aj))(o5:List (den aj))(o6:List (den aC))(o7:List (den aO))(o8:Int)(o9:List (den aD))(iR:List (den aK))(ic:List (den aH))(m1:List (den aI))(m2:List (den aP))(m3:List Int)(m4:List (den aj))(m5:List (den aj))(m6:List (den aC))(m7:List (den aO))(m8:Int)(m9:List (den aD))(bK:List (den aK))(bL:List (den aH))(v a b bs:List Int)(mo:Int)(G:List (den aD))(hl:G.length<=1000000)(hG: ∀ g:den aD,g∈G->Seg g.1 g.2.length): ∀ (k j:Nat) (tab:List Int),j+k=G.length->tab.length<=1099511627776->
 match layAll tab ((G.drop j).map fun g=>(Cb g.1,g.2))with
 |some t=>gQ fH (aA cN (o1,o2,o3,o4,o5,o6,o7,o8,o9,iR,ic,v,a,b,tab,m1,m2,m3,m4,m5,m6,m7,m8,m9,bK,bL,bs,mo,G,(G.length:Int),(j:Int),())) 0 (aA dD (o1,o2,o3,o4,o5,o6,o7,o8,o9,iR,ic,v,a,b,t,m1,m2,m3,m4,m5,m6,m7,m8,m9,bK,bL,bs,mo,()))
 |none=>gQ fH (aA cN (o1,o2,o3,o4,o5,o6,o7,o8,o9,iR,ic,v,a,b,tab,m1,m2,m3,m4,m5,m6,m7,m8,m9,bK,bL,bs,mo,G,(G.length:Int),(j:Int),())) 1 (aA ey (13,())):=by
 intro k
 induction k with
 |zero=>
  intro j tab h _
  have hj:j=G.length:=by omega
  subst hj
  rw[List.drop_length]
  refine .last ((Pa o1 o2 o3 o4 o5 o6 o7 o8 o9 iR ic m1 m2 m3 m4 m5 m6 m7 m8 m9 bK bL v a b tab bs mo G (G.length:Int) (G.length:Int)).trans ?_)
  rw[df (show ¬ (G.length:Int)<(G.length:Int) by omega)]
  rfl
 |succ k ih=>
  intro j tab h ht
  have hj:j<G.length:=by omega
  have e:=Pa o1 o2 o3 o4 o5 o6 o7 o8 o9 iR ic m1 m2 m3 m4 m5 m6 m7 m8 m9 bK bL v a b tab bs mo G (G.length:Int) (j:Int)
  obtain⟨g0,hn,p,hp,hp2⟩:=hG _ (gy hj (ao aD))
  rw[drop_cons G j (ao aD) hj,List.map_cons,nF]
  rw[Int.toNat_natCast]at e
  generalize G.getD j (ao aD)=g at g0 hn hp e
  have hp':(List.getD g.1 (0:Int).toNat (ao tI)).2.2.2.1=(p:Int):=hp
  rw[hp']at e
  rw[show Cb g.1=(p:Int)from hp]
  rw[dt (show(j:Int)<(G.length:Int) by omega),show bg (j:Int) (G.length:Int)=true from bZ hj,JX (by omega),show bg 0 (List.length g.1:Int)=true from bZ (j:=0) g0,aeU hp2 hn,zG (k:=tab.length) (by omega),cond_true,kt rfl,kt rfl,Int.toNat_natCast,Int.toNat_natCast]at e
  unfold n4
  by_cases q:(tab.length:Int)<(p:Int)+(g.2.length:Int)
  ·rw[dt (show(tab.length:Int)<((p+g.2.length:Nat):Int) by omega),cond_true]at e
   rw[dt q]
   exact .last e
  ·rw[df (show ¬ (tab.length:Int)<((p+g.2.length:Nat):Int) by omega),cond_false,Wo (by omega),kt rfl]at e
   rw[df q,cond_false,Int.toNat_natCast]
   have hl2:(B8 tab p (tab.length - p) g.2).length=tab.length:=(yR (tab:=tab) (p:=(p:Int)) (y:=g.2) (by omega) (by unfold n4;rw[df q,Int.toNat_natCast];rfl)).1
   have r:=ih (j+1) (B8 tab p (tab.length - p) g.2) (by omega) (by omega)
   show match layAll (B8 tab p (tab.length - p) g.2) ((G.drop (j+1)).map fun g=>(Cb g.1,g.2))with|some t=>_|none=>_
   cases hq:layAll (B8 tab p (tab.length - p) g.2) ((G.drop (j+1)).map fun g=>(Cb g.1,g.2))with
   |none=>rw[hq]at r;exact .more e r
   |some t=>rw[hq]at r;exact .more e r
theorem Wp(m1:List (den aI))(m2:List (den aP))(m3:List Int)(m4:List (den aj))(m5:List (den aj))(m6:List (den aC))(m7:List (den aO))(m8:Int)(m9:List (den aD))(bK:List (den aK))(bL:List (den aH))(v a b tab:List Int)(mo:Int)(G:List (den aH))(hl:G.length<=1000000)(hG: ∀ g:den aH,g∈G->Seg g.1 g.2.length): ∀ (k j:Nat) (bs:List Int),j+k=G.length->bs.length<=1099511627776->
 match layAll bs ((G.drop j).map fun g=>(Cb g.1,g.2))with
 |some t=>gQ gJ (aA dz (v,a,b,tab,m1,m2,m3,m4,m5,m6,m7,m8,m9,bK,bL,bs,mo,G,(G.length:Int),(j:Int),())) 0 (aA dV (v,a,b,tab,m1,m2,m3,m4,m5,m6,m7,m8,m9,bK,bL,t,mo,()))
 |none=>gQ gJ (aA dz (v,a,b,tab,m1,m2,m3,m4,m5,m6,m7,m8,m9,bK,bL,bs,mo,G,(G.length:Int),(j:Int),())) 1 (aA fy (14,())):=by
 intro k
 induction k with
 |zero=>
  intro j bs h _
  have hj:j=G.length:=by omega
  subst hj
  rw[List.drop_length]
  refine .last ((Pb m1 m2 m3 m4 m5 m6 m7 m8 m9 bK bL v a b tab bs mo G (G.length:Int) (G.length:Int)).trans ?_)
  rw[df (show ¬ (G.length:Int)<(G.length:Int) by omega)]
  rfl
 |succ k ih=>
  intro j bs h ht
  have hj:j<G.length:=by omega
  have e:=Pb m1 m2 m3 m4 m5 m6 m7 m8 m9 bK bL v a b tab bs mo G (G.length:Int) (j:Int)
  obtain⟨g0,hn,p,hp,hp2⟩:=hG _ (gy hj (ao aH))
  rw[drop_cons G j (ao aH) hj,List.map_cons,nF]
  rw[Int.toNat_natCast]at e
  generalize G.getD j (ao aH)=g at g0 hn hp e
  have hp':(List.getD g.1 (0:Int).toNat (ao tI)).2.2.2.1=(p:Int):=hp
  rw[hp']at e
  rw[show Cb g.1=(p:Int)from hp]
  rw[dt (show(j:Int)<(G.length:Int) by omega),show bg (j:Int) (G.length:Int)=true from bZ hj,JX (by omega),show bg 0 (List.length g.1:Int)=true from bZ (j:=0) g0,aaI hp2 hn (by omega),cond_true,kt rfl,kt rfl,Int.toNat_natCast,Int.toNat_natCast]at e
  unfold n4
  by_cases q:(bs.length:Int)<(p:Int)+(g.2.length:Int)
  ·rw[dt q,cond_true]at e
   rw[dt q]
   exact .last e
  ·rw[df q,cond_false,Wo (by omega),kt rfl]at e
   rw[df q,cond_false,Int.toNat_natCast]
   have hl2:(B8 bs p (bs.length - p) g.2).length=bs.length:=(yR (tab:=bs) (p:=(p:Int)) (y:=g.2) (by omega) (by unfold n4;rw[df q,Int.toNat_natCast];rfl)).1
   have r:=ih (j+1) (B8 bs p (bs.length - p) g.2) (by omega) (by omega)
   show match layAll (B8 bs p (bs.length - p) g.2) ((G.drop (j+1)).map fun g=>(Cb g.1,g.2))with|some t=>_|none=>_
   cases hq:layAll (B8 bs p (bs.length - p) g.2) ((G.drop (j+1)).map fun g=>(Cb g.1,g.2))with
   |none=>rw[hq]at r;exact .more e r
   |some t=>rw[hq]at r;exact .more e r
end Go.Proofs.Vd

noncomputable section
namespace Go.Proofs.Vd
open Go.Ab Go.Ab.Lf
set_option maxRecDepth 100000
theorem Pg(V:ByteArray->Bool)(m1:List (den aI))(m2:List (den aP))(m3:List Int)(m4:List (den aj))(m5:List (den aj))(m6:List (den aC))(m7:List (den aO))(m8:Int)(m9:List (den aD))(bK:List (den aK))(bL:List (den aH))(o1:List (den aI))(o2:List (den aP))(o3:List Int)(o4:List (den aj))(o6:List (den aC))(o7:List (den aO))(o8:Int)(o9:List (den aD))(iR:List (den aK))(ic:List (den aH))(c1:List (den aI))(c2:List (den aP))(c3:List Int)(c4:List (den aj))(c5:List (den aj))(c6:List (den aC))(c7:List (den aO))(c8:Int)(c9:List (den aD))(c10:List (den aK))(c11:List (den aH))(v a b tab:List Int)(X2:ak cN)(Av:X2=(o1,o2,o3,o4,[((1:Int),(-1:Int))],o6,o7,o8,o9,iR,ic,v,a,b,tab,c1,c2,c3,c4,c5,c6,c7,c8,c9,c10,c11,List.replicate 65536 0,-1,o9,(o9.length:Int),0,()))(w:ak dD)(hw:w=gH fH cN dD X2)(X4:ak dz)(GG:X4=(w.2.2.2.2.2.2.2.2.2.2.2.1,w.2.2.2.2.2.2.2.2.2.2.2.2.1,w.2.2.2.2.2.2.2.2.2.2.2.2.2.1,w.2.2.2.2.2.2.2.2.2.2.2.2.2.2.1,w.2.2.2.2.2.2.2.2.2.2.2.2.2.2.2.1,w.2.2.2.2.2.2.2.2.2.2.2.2.2.2.2.2.1,w.2.2.2.2.2.2.2.2.2.2.2.2.2.2.2.2.2.1,w.2.2.2.2.2.2.2.2.2.2.2.2.2.2.2.2.2.2.1,w.2.2.2.2.2.2.2.2.2.2.2.2.2.2.2.2.2.2.2.1,w.2.2.2.2.2.2.2.2.2.2.2.2.2.2.2.2.2.2.2.2.1,w.2.2.2.2.2.2.2.2.2.2.2.2.2.2.2.2.2.2.2.2.2.1,w.2.2.2.2.2.2.2.2.2.2.2.2.2.2.2.2.2.2.2.2.2.2.1,w.2.2.2.2.2.2.2.2.2.2.2.2.2.2.2.2.2.2.2.2.2.2.2.1,w.2.2.2.2.2.2.2.2.2.2.2.2.2.2.2.2.2.2.2.2.2.2.2.2.1,w.2.2.2.2.2.2.2.2.2.2.2.2.2.2.2.2.2.2.2.2.2.2.2.2.2.1,w.2.2.2.2.2.2.2.2.2.2.2.2.2.2.2.2.2.2.2.2.2.2.2.2.2.2.1,w.2.2.2.2.2.2.2.2.2.2.2.2.2.2.2.2.2.2.2.2.2.2.2.2.2.2.2.1,w.2.2.2.2.2.2.2.2.2.2.1,(List.length w.2.2.2.2.2.2.2.2.2.2.1:Int),0,()))(u:ak dV)(hu:u=gH gJ dz dV X4):
 B9 V m1 m2 m3 m4 m5 m6 m7 m8 m9 bK bL (o1,o2,o3,o4,[((1:Int),(-1:Int))],o6,o7,o8,o9,iR,ic,v,a,b,c1,c2,c3,c4,c5,c6,c7,c8,c9,c10,c11,()) (1,-1) tab=aS (rG fH cN dD ey X2) (bif qw fH cN X2 then aS (rG gJ dz dV fy X4) (bif qw gJ dz X4 then some (aA GH (u.1,u.2.1,u.2.2.1,u.2.2.2.1,u.2.2.2.2.1,u.2.2.2.2.2.1,u.2.2.2.2.2.2.1,u.2.2.2.2.2.2.2.1,u.2.2.2.2.2.2.2.2.1,u.2.2.2.2.2.2.2.2.2.1,u.2.2.2.2.2.2.2.2.2.2.1,u.2.2.2.2.2.2.2.2.2.2.2.1,u.2.2.2.2.2.2.2.2.2.2.2.2.1,u.2.2.2.2.2.2.2.2.2.2.2.2.2.1,u.2.2.2.2.2.2.2.2.2.2.2.2.2.2.1,u.2.2.2.2.2.2.2.2.2.2.2.2.2.2.2.1,u.2.2.2.2.2.2.2.2.2.2.2.2.2.2.2.2.1,0,()))else none)else none):=by
 subst hu;subst GG;subst hw;subst Av
 kernel_rfl
theorem Er(V:ByteArray->Bool)(m1:List (den aI))(m2:List (den aP))(m3:List Int)(m4:List (den aj))(m5:List (den aj))(m6:List (den aC))(m7:List (den aO))(m8:Int)(m9:List (den aD))(bK:List (den aK))(bL:List (den aH))(o1:List (den aI))(o2:List (den aP))(o3:List Int)(o4:List (den aj))(o6:List (den aC))(o7:List (den aO))(o8:Int)(o9:List (den aD))(iR:List (den aK))(ic:List (den aH))(c1:List (den aI))(c2:List (den aP))(c3:List Int)(c4:List (den aj))(c5:List (den aj))(c6:List (den aC))(c7:List (den aO))(c8:Int)(c9:List (den aD))(c10:List (den aK))(c11:List (den aH))(v a b tab:List Int)(X2:ak cN)(Av:X2=(o1,o2,o3,o4,[((1:Int),(-1:Int))],o6,o7,o8,o9,iR,ic,v,a,b,tab,c1,c2,c3,c4,c5,c6,c7,c8,c9,c10,c11,List.replicate 65536 0,-1,o9,(o9.length:Int),0,()))(w:ak dD)(hw:w=gH fH cN dD X2)(X4:ak dz)(GG:X4=(w.2.2.2.2.2.2.2.2.2.2.2.1,w.2.2.2.2.2.2.2.2.2.2.2.2.1,w.2.2.2.2.2.2.2.2.2.2.2.2.2.1,w.2.2.2.2.2.2.2.2.2.2.2.2.2.2.1,w.2.2.2.2.2.2.2.2.2.2.2.2.2.2.2.1,w.2.2.2.2.2.2.2.2.2.2.2.2.2.2.2.2.1,w.2.2.2.2.2.2.2.2.2.2.2.2.2.2.2.2.2.1,w.2.2.2.2.2.2.2.2.2.2.2.2.2.2.2.2.2.2.1,w.2.2.2.2.2.2.2.2.2.2.2.2.2.2.2.2.2.2.2.1,w.2.2.2.2.2.2.2.2.2.2.2.2.2.2.2.2.2.2.2.2.1,w.2.2.2.2.2.2.2.2.2.2.2.2.2.2.2.2.2.2.2.2.2.1,w.2.2.2.2.2.2.2.2.2.2.2.2.2.2.2.2.2.2.2.2.2.2.1,w.2.2.2.2.2.2.2.2.2.2.2.2.2.2.2.2.2.2.2.2.2.2.2.1,w.2.2.2.2.2.2.2.2.2.2.2.2.2.2.2.2.2.2.2.2.2.2.2.2.1,w.2.2.2.2.2.2.2.2.2.2.2.2.2.2.2.2.2.2.2.2.2.2.2.2.2.1,w.2.2.2.2.2.2.2.2.2.2.2.2.2.2.2.2.2.2.2.2.2.2.2.2.2.2.1,w.2.2.2.2.2.2.2.2.2.2.2.2.2.2.2.2.2.2.2.2.2.2.2.2.2.2.2.1,w.2.2.2.2.2.2.2.2.2.2.1,(List.length w.2.2.2.2.2.2.2.2.2.2.1:Int),0,()))(u:ak dV)(hu:u=gH gJ dz dV X4):
 yQ V m1 m2 m3 m4 m5 m6 m7 m8 m9 bK bL (o1,o2,o3,o4,[((1:Int),(-1:Int))],o6,o7,o8,o9,iR,ic,v,a,b,c1,c2,c3,c4,c5,c6,c7,c8,c9,c10,c11,()) (1,-1) tab=aS (rG fH cN dD ey X2) (bif qw fH cN X2 then aS (rG gJ dz dV fy X4) (bif qw gJ dz X4 then none else some (aA B7 (gH gJ dz fy X4)))else some (aA B7 (gH fH cN ey X2))):=by
 subst hu;subst GG;subst hw;subst Av
 kernel_rfl
end Go.Proofs.Vd

noncomputable section
namespace Go.Proofs.Vd
open Go.Ab Go.Ab.Lf
set_option maxRecDepth 100000
theorem Wq(o lo hi:Int):LI (eC o lo hi):=⟨(show 2<=1099511627776 by decide),fun x hx=>by
 rcases List.mem_cons.1 hx with q|q
 ·rw[q];exact Nat.zero_le _
 ·rw[show x=(11,0,0,0,0,[]) by simpa using q];exact Nat.zero_le _⟩
theorem aaJ:LI [iC 11 0 0]:=⟨(show 1<=1099511627776 by decide),fun x hx=>by
 rw[show x=(11,0,0,0,0,[]) by simpa using hx];exact Nat.zero_le _⟩
theorem Ph{lo:Int}(h0:0<=lo)(h1:lo<4294967296){n:Nat}(hn:n<=1099511627776):Seg (eC 65 lo 0) n:=⟨(show 0<2 by decide),hn,lo.toNat,(show lo=_ by omega),by omega⟩
theorem GL{g:den aC}(h:gC g):0<g.2.2.length:=by
 obtain⟨_,o,lo,hi,hc⟩:=h
 rw[hc.c]
 show 0<2
 decide
theorem aaK(R:List Int->Option (List Pl))(T:Int):(bif decide ((0:Int)<(List.length [((T:Int),(-1:Int))]:Int))then aS (bg 0 (List.length [((T:Int),(-1:Int))]:Int)) (aS (Ke ([-1],(List.getD [((T:Int),(-1:Int))] (0:Int).toNat (ao aj)).1,())) (R (Kf ([-1],(List.getD [((T:Int),(-1:Int))] (0:Int).toNat (ao aj)).1,())).1))else R [])=aS (Ke ([-1],T,())) (R (Kf ([-1],T,())).1):=rfl
end Go.Proofs.Vd

noncomputable section
namespace Go.Proofs.Vd
open Go.Ab Go.Ab.Lf
set_option maxRecDepth 100000
abbrev dg:List (den aC):=[(127,false,eC 65 7 0),(123,false,eC 64780 1 2),(126,false,eC 66 9 0)]
abbrev iu:List (den aK):=[([],[iC 11 0 0]),([],[iC 11 0 0]),([],[iC 11 0 0])]
abbrev yT(E:List (den aD))(a:Int):ak tM:=([([],[])],[],[0,0,0],[((20:Int),(-1:Int))],[((1:Int),(-1:Int))],dg,[],-1,E,iu,[(eC 65 a 0,[5])],())
def eT(e:den aD):Prop:=(∃ lo:Int,e.1=eC 65 lo 0/\0<=lo/\lo<4294967296)/\e.2.length<=1024/\ ∀ f,f∈e.2->0<=f/\f<3
theorem aeX{lo:Int}(h0:0<=lo)(h1:lo<4294967296):cC (eC 65 lo 0) 127 65 lo 0:=⟨rfl,.inl ⟨rfl,rfl,h0,h1,rfl⟩⟩
theorem ajY(V:ByteArray->Bool)(E:List (den aD))(a:Int):VT V (yT E a)=(cb DR.ok E&&true):=by kernel_rfl
theorem ajZ(V:ByteArray->Bool)(E:List (den aD))(a:Int):8+Gg V (yT E a)=kE DR.wt E+(8+Gg V (yT [] 0)):=by
 have e: ∀ E a,Gg V (yT E a)=0+((21+kE Tb.wt [([],[])])+((21+0)+((21+kE Ta.wt [0,0,0])+((21+kE Tc.wt [((20:Int),(-1:Int))])+((21+kE Td.wt [((1:Int),(-1:Int))])+((21+kE NK.wt dg)+((21+0)+(0+(21+((21+kE DR.wt E)+((21+kE NW.wt iu)+(21+kE Kx.wt [(eC 65 0 0,[5])])))))))))))):=fun E a=>rfl
 rw[e E a,e [] 0]
 have h0:kE DR.wt ([]:List (den aD))=0:=rfl
 omega
theorem aeY(V:ByteArray->Bool):8+Gg V (yT [] 0)<=100000:=Nat.le_of_ble_eq_true (show Nat.ble (8+(0+((21+kE Tb.wt [([],[])])+((21+0)+((21+kE Ta.wt [0,0,0])+((21+kE Tc.wt [((20:Int),(-1:Int))])+((21+kE Td.wt [((1:Int),(-1:Int))])+((21+kE NK.wt dg)+((21+0)+(0+(21+((21+0)+((21+kE NW.wt iu)+(21+kE Kx.wt [(eC 65 0 0,[5])])))))))))))))) 100000=true from by kernel_rfl)
theorem aeZ(V:ByteArray->Bool)(G:List (den aC))(E:List (den aD))(D:List (den aH)):Ky V ([([],[])],[],[0,0,0],[((20:Int),(-1:Int))],[((1:Int),(-1:Int))],G,[],-1,E,iu,D,())=(gx DX 512 G&&(gx BM 512 E&&gx BN 512 D)):=by
 have a30:gx N6 256 [([],[])]=true:=by kernel_rfl
 have a35:gx (N7 V) 512 []=true:=by kernel_rfl
 have a38:gx N8 512 [0,0,0]=true:=by kernel_rfl
 have a40:gx N9 512 [((20:Int),(-1:Int))]=true:=by kernel_rfl
 have a42:gx Oa 512 [((1:Int),(-1:Int))]=true:=by kernel_rfl
 have a46:gx (Ob V) 512 []=true:=by kernel_rfl
 have st:stP (-1)=true:=by kernel_rfl
 have a52:gx DZ 512 iu=true:=by kernel_rfl
 have e:Ky V ([([],[])],[],[0,0,0],[((20:Int),(-1:Int))],[((1:Int),(-1:Int))],G,[],-1,E,iu,D,())=(decide (((3:Nat):Int)=((3:Nat):Int))&&((gx N6 256 [([],[])]&&(gx (N7 V) 512 []&&(gx N8 512 [0,0,0]&&(gx N9 512 [((20:Int),(-1:Int))]&&(gx Oa 512 [((1:Int),(-1:Int))]&&(gx DX 512 G&&gx (Ob V) 512 []))))))&&(stP (-1)&&(gx BM 512 E&&(gx DZ 512 iu&&gx BN 512 D))))):=rfl
 rw[e,a30,a35,a38,a40,a42,a46,st,a52,dt (rfl:((3:Nat):Int)=((3:Nat):Int))]
 simp only[Bool.true_and,Bool.and_true]
theorem tx: ∀ g,g∈dg->gC g:=fun g hg=>by
 rcases List.mem_cons.1 hg with q|hg
 ·rw[q];exact⟨rfl,65,7,0,rfl,.inl ⟨rfl,rfl,by decide,by decide,rfl⟩⟩
 rcases List.mem_cons.1 hg with q|hg
 ·rw[q];exact⟨rfl,64780,1,2,rfl,.inr (.inr ⟨rfl,rfl⟩)⟩
 ·rw[show g=(126,false,eC 66 9 0) by simpa using hg];exact⟨rfl,66,9,0,rfl,.inr (.inl ⟨rfl,rfl,rfl⟩)⟩
theorem UD:gx DX 512 dg=true:=GK DX (show(3:Int)<=512 by decide) (show 3<=65536 by decide) (Pc fun x hx=>(Pd (tx x hx)).1) (fun x hx=>(Pd (tx x hx)).2.2.1) (Nat.le_trans (Ca (n:=84) fun x hx=>by rw[(Pd (tx x hx)).2.1];exact Nat.le_refl _) (show 84*3<=4294960000 by decide))
theorem aj0(V:ByteArray->Bool)(E:List (den aD))(a:Int):Ky V (yT E a)=(gx BM 512 E&&gx BN 512 [(eC 65 a 0,[5])]):=by
 rw[aeZ,UD,Bool.true_and]
theorem aj1(E:List (den aD))(a:Int):th (yT E a)=(List.all E (JV (yT [] 0) 3)&&true):=by kernel_rfl
theorem ae0(E:List (den aD))(a:Int):(kF (yT E a) 0).isSome=true:=by kernel_rfl
theorem ae1(E:List (den aD))(a:Int):(kF (yT E a) 1).isSome=true:=by kernel_rfl
theorem ae2(E:List (den aD))(a:Int):(kF (yT E a) 2).isSome=true:=by kernel_rfl
theorem aj2(E:List (den aD))(a:Int):Uw (yT E a)=true:=by
 refine List.all_eq_true.2 fun i hi=>?_
 have h3:i<3:=List.mem_range.1 hi
 have:i=0∨i=1∨i=2:=by omega
 rcases this with h|h|h
 ·rw[h];exact ae0 E a
 ·rw[h];exact ae1 E a
 ·rw[h];exact ae2 E a
theorem Iq{e:den aD}(h:eT e):DR.ok e=true/\DR.wt e<=20000/\BM.p e=true/\JV (yT [] 0) 3 e=true:=by
 obtain⟨c,fs⟩:=e
 obtain⟨⟨lo,hc,h0,h1⟩,hl,hf⟩:=h
 have hc:c=eC 65 lo 0:=hc
 have hl:fs.length<=1024:=hl
 subst hc
 obtain⟨w1,w2,w3,w4,w5,w6⟩:=(aeX h0 h1).wr
 refine⟨w2,?_,?_,?_⟩
 ·show 0+(1+(qt (eC 65 lo 0)+(10+10*fs.length)))<=20000
  rw[w3]
  omega
 ·show(decide ((fs.length:Int)<=1024)&&(true&&(decide (nf (eC 65 lo 0)=0)&&([(fs.length:Int)].all ij&&fs.all ij))))=true
  have ha:fs.all ij=true:=List.all_eq_true.2 fun f hf'=>by
   obtain⟨a,b⟩:=hf f hf'
   unfold ij
   rw[dt a,dt (show f<4294967296 from Int.lt_trans b (by decide))]
   rfl
  rw[w1,ha,dt (show(fs.length:Int)<=1024 by omega),List.all_cons,GJ (n:=fs.length) (by omega)]
  rfl
 ·show(true&&(uM (eC 65 lo 0) 127&&List.all fs (fun f=> !decide ((3:Int)<=f))))=true
  have ha:fs.all (fun f=> !decide ((3:Int)<=f))=true:=List.all_eq_true.2 fun f hf'=>by
   obtain⟨a,b⟩:=hf f hf'
   rw[df (show ¬ (3:Int)<=f from Int.not_le.2 b)]
   rfl
  rw[w4,ha]
  rfl
theorem Pj(V:ByteArray->Bool){E:List (den aD)}{a:Int}(hl:E.length<=500)(hE': ∀ e,e∈E->eT e)(a0:0<=a)(a1:a<4294967296):Wh V (yT E a)=true/\(gP V (yT E a)=0∨gP V (yT E a)=4):=by
 have h1:cb DR.ok E=true:=Pc fun x hx=>(Iq (hE' x hx)).1
 have h2:kE DR.wt E<=20000*E.length:=Ca fun x hx=>(Iq (hE' x hx)).2.1
 have hE:Gh V (yT E a)=true:=by
  unfold Gh
  have:=aeY V
  rw[ajY,h1,ajZ,decide_eq_true (by omega)]
  rfl
 have hd:gx BN 512 [(eC 65 a 0,[5])]=true:=by
  refine GK BN (show(1:Int)<=512 by decide) (show 1<=65536 by decide) rfl (fun x hx=>?_) ?_
  ·rw[show x=(eC 65 a 0,[5]) by simpa using hx]
   show(true&&(decide (nf (eC 65 a 0)=0)&&([(1:Int)].all ij&&true)))=true
   rw[(aeX a0 a1).wr.1]
   rfl
  ·refine Nat.le_trans (Ca (n:=1000) (fun x hx=>?_)) (show 1000*1<=4294960000 by decide)
   rw[show x=(eC 65 a 0,[5]) by simpa using hx]
   have e:decide (Kx.wt (eC 65 a 0,[5])<=1000)=true:=by kernel_rfl
   exact of_decide_eq_true e
 have hP:Ky V (yT E a)=true:=by
  rw[aj0,GK BM (by omega) (by omega) h1 (fun x hx=>(Iq (hE' x hx)).2.2.1) (by omega),hd]
  rfl
 have hO:th (yT E a)=true:=by
  rw[aj1,List.all_eq_true.2 fun x hx=>(Iq (hE' x hx)).2.2.2]
  rfl
 refine⟨?_,aeS hE hP hO (aj2 E a)⟩
 unfold Wh
 rw[hE]
 rfl
end Go.Proofs.Vd

noncomputable section
namespace Go.Proofs.Vd
open Go.Ab Go.Ab.Lf
set_option maxRecDepth 100000
abbrev u32:Ty:=.int .u32
abbrev cP:Ty:=.pair u32 (.ae u8)
def sAw:cQ:=iy (Ps []) [] (Ps [.bo]) [] [.bool] fun _=>.ok (true,())
structure yS(V:ByteArray->Bool)(aq:aB):Prop extends WorldS V aq where
 aw:sAw.Ok 6 aq
abbrev ki:List Ty:=[.ae cP,u32,.ae aI,.ae aP,.ae i64,.ae aj,.ae aj,.ae aC,.ae aO,i64,.ae aD,.ae aK,.ae aH,.bool,.ae i64,i64,.ae i64,i64]
abbrev kj:List Ty:=[.ae cP,u32,.ae aI,.ae aP,.ae i64,.ae aj,.ae aj,.ae aC,.ae aO,i64,.ae aD,.ae aK,.ae aH,.bool,.ae i64,i64,.ae i64]
def Ir:jW:=⟨2,fI Tryz.x3.code 2,[0,1,5,6,7,8,9,10],(Ps [.im cP,.n .u32,.pt 0 (Ps [.im aI,.im aP,.im i64,.im aj,.im aj,.im aC,.im aO,.n .i64,.ow aD,.im aK,.im aH]),.bo,.ow i64,.n .i64,.ow i64,.n .i64]),[⟨.lL,[0,1,5,6,7,8,9],(Ps [.im cP,.n .u32,.pt 0 (Ps [.im aI,.im aP,.im i64,.im aj,.im aj,.im aC,.im aO,.n .i64,.ow aD,.im aK,.im aH]),.bo,.ow i64,.n .i64,.ow i64])⟩]⟩
def Ws:List (Nat×cQ):=[]
theorem Pk{V:ByteArray->Bool}{aq:aB}(W:WorldS V aq):dh aq Ws:=.nil
def yU:List Pl->Lf.T Rs:=Ir.step (fun _=>none) (dH Ws 3) 3
def Wt:fE:=pR Ir yU ki kj
theorem Pm{V:ByteArray->Bool}{aq:aB}(W:WorldS V aq):ed Rx.w Wt (fun n d=>gG (aq n d) n (.bl 2 (.lp Ir.body))):=fC (W.toWorld.in (Pk W) 3) (aE _) (m:=3) ki kj
abbrev mY:List Ty:=[.ae cP,u32,.ae aI,.ae aP,.ae i64,.ae aj,.ae aj,.ae aC,.ae aO,i64,.ae aD,.ae aK,.ae aH,.bool,.ae i64,i64,.ae i64,i64]
abbrev km:List Ty:=[.ae cP,u32,.ae aI,.ae aP,.ae i64,.ae aj,.ae aj,.ae aC,.ae aO,i64,.ae aD,.ae aK,.ae aH,.bool,.ae i64,i64]
def Is:jW:=⟨4,fI Tryz.x3.code 4,[0,1,5,6,7,8,9,11],(Ps [.im cP,.n .u32,.pt 0 (Ps [.im aI,.im aP,.im i64,.im aj,.im aj,.im aC,.im aO,.n .i64,.ow aD,.im aK,.im aH]),.bo,.ow i64,.n .i64,.im i64,.n .i64]),[⟨.lL,[0,1,5,6,7,8],(Ps [.im cP,.n .u32,.pt 0 (Ps [.im aI,.im aP,.im i64,.im aj,.im aj,.im aC,.im aO,.n .i64,.ow aD,.im aK,.im aH]),.bo,.ow i64,.n .i64])⟩]⟩
def Wu:List (Nat×cQ):=[]
theorem Pn{V:ByteArray->Bool}{aq:aB}(W:WorldS V aq):dh aq Wu:=.nil
def yV:List Pl->Lf.T Rs:=Is.step (fun _=>none) (dH Wu 3) 3
def Wv:fE:=pR Is yV mY km
theorem Po{V:ByteArray->Bool}{aq:aB}(W:WorldS V aq):ed Rx.w Wv (fun n d=>gG (aq n d) n (.bl 4 (.lp Is.body))):=fC (W.toWorld.in (Pn W) 3) (aE _) (m:=3) mY km
def aj3:Nat->Option fE:=pP [(2,Wt),(4,Wv)]
abbrev iO:List Ty:=[.ae cP,u32,.ae aI,.ae aP,.ae i64,.ae aj,.ae aj,.ae aC,.ae aO,i64,.ae aD,.ae aK,.ae aH,.bool,.ae i64,i64]
abbrev gA:List Ty:=[u32,.ae aI,.ae aP,.ae i64,.ae aj,.ae aj,.ae aC,.ae aO,i64,.ae aD,.ae aK,.ae aH,.bool,.ae i64]
def Es:jW:=⟨0,fI Tryz.x3.code 0,[0,1,5,6,7,8],(Ps [.im cP,.n .u32,.pt 0 (Ps [.im aI,.im aP,.im i64,.im aj,.im aj,.im aC,.im aO,.n .i64,.ow aD,.im aK,.im aH]),.bo,.ow i64,.n .i64]),[⟨.lL,[1,5,6,7],(Ps [.n .u32,.pt 0 (Ps [.im aI,.im aP,.im i64,.im aj,.im aj,.im aC,.im aO,.n .i64,.ow aD,.im aK,.im aH]),.bo,.ow i64])⟩]⟩
def Ww:List (Nat×cQ):=[]
theorem Pp{V:ByteArray->Bool}{aq:aB}(W:WorldS V aq):dh aq Ww:=.nil
def sD:List Pl->Lf.T Rs:=Es.step aj3 (dH Ww 3) 3
def Wy:fE:=pR Es sD iO gA
theorem Et{V:ByteArray->Bool}{aq:aB}(W:WorldS V aq):ed Rx.w Wy (fun n d=>gG (aq n d) n (.bl 0 (.lp Es.body))):=fC (W.toWorld.in (Pp W) 3) (fq.jm (.cons (b:=Ir.body) (by kernel_rfl) (Pm W) (.cons (b:=Is.body) (by kernel_rfl) (Po W) .nil))) (m:=3) iO gA
abbrev iP:List Ty:=[.ae i64,.ae u64,.ae i64,.ae i64,.ae i64,.ae aI,.ae aP,.ae i64,.ae aj,.ae aj,.ae aC,.ae aO,i64,.ae aD,.ae aK,.ae aH,.ae u8,i64,i64]
abbrev ju:List Ty:=[.ae u64,.ae i64,.ae i64,.ae i64,.ae aI,.ae aP,.ae i64,.ae aj,.ae aj,.ae aC,.ae aO,i64,.ae aD,.ae aK,.ae aH,.ae u8,i64]
abbrev lh:List Ty:=[.bool]
def Eu:jW:=⟨6,fI Tryz.x3.code 6,[7,12,15],(Ps [.im i64,.pt 0 (Ps [.ow u64,.im i64,.im i64,.ow i64,.im aI,.im aP,.im i64,.im aj,.im aj,.im aC,.im aO,.n .i64,.im aD,.im aK,.im aH,.pt 0 (Ps [.ow u8,.n .i64])]),.n .i64]),[⟨.lL,[12],(Ps [.pt 0 (Ps [.ow u64,.im i64,.im i64,.ow i64,.im aI,.im aP,.im i64,.im aj,.im aj,.im aC,.im aO,.n .i64,.im aD,.im aK,.im aH,.pt 0 (Ps [.ow u8,.n .i64])])])⟩,⟨.rt,[4],(Ps [.bo])⟩]⟩
def Wz:List (Nat×cQ):=[]
theorem Pq{V:ByteArray->Bool}{aq:aB}(W:WorldS V aq):dh aq Wz:=.nil
def rk:List Pl->Lf.T Rs:=Eu.step (fun _=>none) (dH Wz 3) 3
def WA:fE:=vw Eu rk iP ju lh
theorem Ew{V:ByteArray->Bool}{aq:aB}(W:WorldS V aq):ed Rx.w WA (fun n d=>gG (aq n d) n (.bl 6 (.lp Eu.body))):=jx (W.toWorld.in (Pq W) 3) (aE _) (m:=3) iP ju lh
def Lz3:Nat->Option fE:=pP [(0,Wy),(6,WA)]
abbrev Pr:List Ty:=[.ae cP,u32]
abbrev tz:List Ty:=[.bool]
def ez3(V:ByteArray->Bool):List (Nat×cQ):=[(6,sAw),(8,sz8 V),(9,s8c V)]
theorem aaL{V:ByteArray->Bool}{aq:aB}(W:yS V aq):dh aq (ez3 V):=(.cons W.aw (.cons (aaB W.toWorldS) (.cons (B4 W.toWorldS.toWorldN) .nil)))
def tz3(V:ByteArray->Bool)(x:ak Pr):Lf.T (List Pl):=je (Ps [.im cP,.n .u32]) [] (Ps [.bo]) Lz3 Tryz.x3 3 (dH (ez3 V) 3) (aA Pr x)
def kz3(V:ByteArray->Bool)(x:ak Pr):Bool:=mV (jS tz (tz3 V x))
def mz3(V:ByteArray->Bool)(x:ak Pr):ak tz:=mV (e9 tz (tz3 V x))
def sz3(V:ByteArray->Bool):cQ:=iy (Ps [.im cP,.n .u32]) [] (Ps [.bo]) Pr tz fun x=>.ck (kz3 V x) (.ok (mz3 V x))
theorem aaM{V:ByteArray->Bool}{aq:aB}(W:yS V aq):(sz3 V).Ok 3 aq:=
 eX (W.toWorldS.toWorld.in (aaL W) 3) (W.toWorldS.toWorld.st 3 _ rfl) rfl (fq.jm (.cons (b:=Es.body) (by kernel_rfl) (Et W.toWorldS) (.cons (b:=Eu.body) (by kernel_rfl) (Ew W.toWorldS) .nil))) (m:=3) rfl (fun _=>bW _) (fun _=>bW _)
abbrev yW:List Ty:=[.ae cP,u32]
abbrev tA:List Ty:=[.bool]
def ey3(V:ByteArray->Bool):List (Nat×cQ):=[(6,sAw),(8,sy8 V),(9,s8c V)]
theorem aaN{V:ByteArray->Bool}{aq:aB}(W:yS V aq):dh aq (ey3 V):=(.cons W.aw (.cons (aaE W.toWorldS) (.cons (B4 W.toWorldS.toWorldN) .nil)))
def ty3(V:ByteArray->Bool)(x:ak yW):Lf.T (List Pl):=je (Ps [.im cP,.n .u32]) [] (Ps [.bo]) Lz3 Tryz.x3 3 (dH (ey3 V) 3) (aA yW x)
def ky3(V:ByteArray->Bool)(x:ak yW):Bool:=mV (jS tA (ty3 V x))
def my3(V:ByteArray->Bool)(x:ak yW):ak tA:=mV (e9 tA (ty3 V x))
def sy3(V:ByteArray->Bool):cQ:=iy (Ps [.im cP,.n .u32]) [] (Ps [.bo]) yW tA fun x=>.ck (ky3 V x) (.ok (my3 V x))
theorem aaO{V:ByteArray->Bool}{aq:aB}(W:yS V aq):(sy3 V).Ok 3 aq:=
 eX (W.toWorldS.toWorld.in (aaN W) 3) (W.toWorldS.toWorld.st 3 _ rfl) rfl (fq.jm (.cons (b:=Es.body) (by kernel_rfl) (Et W.toWorldS) (.cons (b:=Eu.body) (by kernel_rfl) (Ew W.toWorldS) .nil))) (m:=3) rfl (fun _=>bW _) (fun _=>bW _)
end Go.Proofs.Vd

noncomputable section
namespace Go.Proofs.Vd
open Go.Ab Go.Ab.Lf
set_option maxRecDepth 100000
theorem Pt(l:List (den cP))(a:Int)(m1:List (den aI))(m2:List (den aP))(m3:List Int)(m4:List (den aj))(m5:List (den aj))(m6:List (den aC))(m7:List (den aO))(m8:Int)(m9:List (den aD))(bK:List (den aK))(bL:List (den aH))(f:Bool)(w:List Int)(i:Int)(fu:List Int)(k:Int)(g:den cP)(hg:g=l.getD i.toNat (ao cP)):(yU (aA ki (l,a,m1,m2,m3,m4,m5,m6,m7,m8,m9,bK,bL,f,w,i,fu,k,()))).val=aS (bg i (l.length:Int)) (bif (bif decide (k<(List.length g.2:Int))then decide (k<1024)else false)then aS (bg i (l.length:Int)) (aS (bg k (List.length g.2:Int)) (aS (roomy 8 (fu.length+[aV .i64 (Jl .u8 (List.getD g.2 k.toNat (ao (Ty.int .u8))) 3)].length)) (some (.next (aA ki (l,a,m1,m2,m3,m4,m5,m6,m7,m8,m9,bK,bL,f,w,i,app fu [aV .i64 (Jl .u8 (List.getD g.2 k.toNat (ao (Ty.int .u8))) 3)],cf .i64 k 1,()))))))else some (.out 0 (aA kj (l,a,m1,m2,m3,m4,m5,m6,m7,m8,m9,bK,bL,f,w,i,fu,())))):=by
 subst hg
 kernel_rfl
theorem GM(l:List (den cP))(a:Int)(m1:List (den aI))(m2:List (den aP))(m3:List Int)(m4:List (den aj))(m5:List (den aj))(m6:List (den aC))(m7:List (den aO))(m8:Int)(m9:List (den aD))(bK:List (den aK))(bL:List (den aH))(f:Bool)(w:List Int)(i:Int)(fu:List Int)(k:Int)(g:den cP)(hg:g=l.getD i.toNat (ao cP)):(yV (aA mY (l,a,m1,m2,m3,m4,m5,m6,m7,m8,m9,bK,bL,f,w,i,fu,k,()))).val=bif (bif decide (k<(fu.length:Int))then f else false)then aS (bg i (l.length:Int)) (aS (bg k (fu.length:Int)) (aS (bg (cf .i64 (aV .i64 g.1) k) (w.length:Int)) (some (.next (aA mY (l,a,m1,m2,m3,m4,m5,m6,m7,m8,m9,bK,bL,f,w.set (cf .i64 (aV .i64 g.1) k).toNat (cf .i64 (fu.getD k.toNat (ao (Ty.int .i64))) 1),i,fu,cf .i64 k 1,()))))))else some (.out 0 (aA km (l,a,m1,m2,m3,m4,m5,m6,m7,m8,m9,bK,bL,f,w,i,()))):=by
 subst hg
 kernel_rfl
theorem Pu(m1:List (den aI))(m2:List (den aP))(m3:List Int)(m4:List (den aj))(m5:List (den aj))(m6:List (den aC))(m7:List (den aO))(m8:Int)(m9:List (den aD))(bK:List (den aK))(bL:List (den aH))(w v a b tab bs:List Int)(mo i:Int):(rk (aA iP (w,v,a,b,tab,m1,m2,m3,m4,m5,m6,m7,m8,m9,bK,bL,bs,mo,i,()))).val=bif decide (i<20)then aS (bif decide (aV .u64 (tab.length:Int)<=aV .u64 (aV .u32 i))then true else bg (aV .u32 i) (tab.length:Int)) (
 bif (bif decide (aV .u64 (tab.length:Int)<=aV .u64 (aV .u32 i))then true else decide (tab.getD (aV .u32 i).toNat (ao (Ty.int .i64))<0))then aS (bg i (w.length:Int)) (bif (bif (false ^^ decide (0<w.getD i.toNat (ao (Ty.int .i64))))then true else bif true then !true else true)then some (.out 1 (aA lh (false,())))else some (.next (aA iP (w,v,a,b,tab,m1,m2,m3,m4,m5,m6,m7,m8,m9,bK,bL,bs,mo,cf .i64 i 1,()))))
 else aS (bg (aV .u32 i) (tab.length:Int)) (aS (bg i (w.length:Int)&&bif (true ^^ decide (0<w.getD i.toNat (ao (Ty.int .i64))))then true else bg i (w.length:Int)) (bif (bif (true ^^ decide (0<w.getD i.toNat (ao (Ty.int .i64))))then true else bif !decide (tab.getD (aV .u32 i).toNat (ao (Ty.int .i64))=bO .i64 (w.getD i.toNat (ao (Ty.int .i64))) 1)then true else false)then some (.out 1 (aA lh (false,())))else some (.next (aA iP (w,v,a,b,tab,m1,m2,m3,m4,m5,m6,m7,m8,m9,bK,bL,bs,mo,cf .i64 i 1,()))))))
 else some (.out 0 (aA ju (v,a,b,tab,m1,m2,m3,m4,m5,m6,m7,m8,m9,bK,bL,bs,mo,()))):=by kernel_rfl
theorem Pv(l:List (den cP))(a:Int)(m1:List (den aI))(m2:List (den aP))(m3:List Int)(m4:List (den aj))(m5:List (den aj))(m6:List (den aC))(m7:List (den aO))(m8:Int)(m9:List (den aD))(bK:List (den aK))(bL:List (den aH))(f:Bool)(w:List Int)(i:Int)(X:ak ki)(hX:X=(l,a,m1,m2,m3,m4,m5,m6,m7,m8,m9,bK,bL,f,w,i,[],0,()))(z:ak kj)(hz:z=gH yU ki kj X)(Y:ak mY)(hY:Y=(z.1,z.2.1,z.2.2.1,z.2.2.2.1,z.2.2.2.2.1,z.2.2.2.2.2.1,z.2.2.2.2.2.2.1,z.2.2.2.2.2.2.2.1,z.2.2.2.2.2.2.2.2.1,z.2.2.2.2.2.2.2.2.2.1,app z.2.2.2.2.2.2.2.2.2.2.1 [([((65:Int),(0:Int),(0:Int),aV .u64 (List.getD z.1 (Int.toNat z.2.2.2.2.2.2.2.2.2.2.2.2.2.2.2.1) (ao cP)).1,(0:Int),([]:List Int)),(11,0,0,0,0,[])],z.2.2.2.2.2.2.2.2.2.2.2.2.2.2.2.2.1)],z.2.2.2.2.2.2.2.2.2.2.2.1,z.2.2.2.2.2.2.2.2.2.2.2.2.1,bif z.2.2.2.2.2.2.2.2.2.2.2.2.2.1 then decide (cf .i64 (aV .i64 (List.getD z.1 (Int.toNat z.2.2.2.2.2.2.2.2.2.2.2.2.2.2.2.1) (ao cP)).1) (List.length z.2.2.2.2.2.2.2.2.2.2.2.2.2.2.2.2.1:Int)<=20)else false,z.2.2.2.2.2.2.2.2.2.2.2.2.2.2.1,z.2.2.2.2.2.2.2.2.2.2.2.2.2.2.2.1,z.2.2.2.2.2.2.2.2.2.2.2.2.2.2.2.2.1,0,()))(u:ak km)(hu:u=gH yV mY km Y):(sD (aA iO (l,a,m1,m2,m3,m4,m5,m6,m7,m8,m9,bK,bL,f,w,i,()))).val=
 bif (bif decide (i<(l.length:Int))then decide (i<500)else false)then aS (oB yU ki kj X) (aS (bg z.2.2.2.2.2.2.2.2.2.2.2.2.2.2.2.1 (List.length z.1:Int)) (aS (roomy 48 (List.length z.2.2.2.2.2.2.2.2.2.2.1+([([((65:Int),(0:Int),(0:Int),aV .u64 (List.getD z.1 (Int.toNat z.2.2.2.2.2.2.2.2.2.2.2.2.2.2.2.1) (ao cP)).1,(0:Int),([]:List Int)),(11,0,0,0,0,[])],z.2.2.2.2.2.2.2.2.2.2.2.2.2.2.2.2.1)]:List (den aD)).length)) (aS (bif z.2.2.2.2.2.2.2.2.2.2.2.2.2.1 then bg z.2.2.2.2.2.2.2.2.2.2.2.2.2.2.2.1 (List.length z.1:Int)else true) (aS (oB yV mY km Y) (
  some (.next (aA iO (u.1,u.2.1,u.2.2.1,u.2.2.2.1,u.2.2.2.2.1,u.2.2.2.2.2.1,u.2.2.2.2.2.2.1,u.2.2.2.2.2.2.2.1,u.2.2.2.2.2.2.2.2.1,u.2.2.2.2.2.2.2.2.2.1,u.2.2.2.2.2.2.2.2.2.2.1,u.2.2.2.2.2.2.2.2.2.2.2.1,u.2.2.2.2.2.2.2.2.2.2.2.2.1,u.2.2.2.2.2.2.2.2.2.2.2.2.2.1,u.2.2.2.2.2.2.2.2.2.2.2.2.2.2.1,cf .i64 u.2.2.2.2.2.2.2.2.2.2.2.2.2.2.2.1 1,()))))))))
 else some (.out 0 (aA gA (a,m1,m2,m3,m4,m5,m6,m7,m8,m9,bK,bL,f,w,()))):=by
 subst hu;subst hY;subst hz;subst hX
 kernel_rfl
end Go.Proofs.Vd

noncomputable section
namespace Go.Proofs.Vd
open Go.Ab Go.Ab.Lf
set_option maxRecDepth 100000
abbrev WB(l:List (den cP))(a:Int):ak iO:=(l,a,[([],[])],[],[0,0,0],[((20:Int),(-1:Int))],[((1:Int),(-1:Int))],[(127,false,eC 65 7 0),(123,false,eC 64780 1 2),(126,false,eC 66 9 0)],[],-1,[],[([],[iC 11 0 0]),([],[iC 11 0 0]),([],[iC 11 0 0])],[(eC 65 (aV .u64 a) 0,[5])],true,List.replicate 20 0,0,())
abbrev aaP:Bool:=(decide ((0:Int)<=20)&&decide ((20:Int)<=20))&&decide ((20:Int).toNat*8<=70368744177664)
theorem aaQ(V:ByteArray->Bool)(l:List (den cP))(a:Int)(z:ak gA)(hz:z=gH sD iO gA (WB l a))(y:ak tM)(hy:y=(z.2.1,z.2.2.1,z.2.2.2.1,z.2.2.2.2.1,z.2.2.2.2.2.1,z.2.2.2.2.2.2.1,z.2.2.2.2.2.2.2.1,z.2.2.2.2.2.2.2.2.1,z.2.2.2.2.2.2.2.2.2.1,z.2.2.2.2.2.2.2.2.2.2.1,z.2.2.2.2.2.2.2.2.2.2.2.1,())):(ty3 V (l,a,())).val=
 bif !true then some (aA tA (false,()))else aS aaP (aS (oB sD iO gA (WB l a)) (aS (ky8 V y) (aS (Wh V y) (
  bif !decide (gP V y=0)then some (aA tA (bif decide ((my8 V y).1=gP V y)then decide (gP V y=4)else false,()))
  else bif !z.2.2.2.2.2.2.2.2.2.2.2.2.1 then some (aA tA (decide ((my8 V y).1=13),()))
  else bif decide ((65536:Int)<=z.1)then some (aA tA (decide ((my8 V y).1=14),()))
  else some (aA tA (false,())))))):=by
 subst hy;subst hz
 kernel_rfl
theorem aj8(V:ByteArray->Bool)(l:List (den cP))(a:Int)(z:ak gA)(hz:z=gH sD iO gA (WB l a))(y:ak tM)(hy:y=(z.2.1,z.2.2.1,z.2.2.2.1,z.2.2.2.2.1,z.2.2.2.2.2.1,z.2.2.2.2.2.2.1,z.2.2.2.2.2.2.2.1,z.2.2.2.2.2.2.2.2.1,z.2.2.2.2.2.2.2.2.2.1,z.2.2.2.2.2.2.2.2.2.2.1,z.2.2.2.2.2.2.2.2.2.2.2.1,()))(q:ak GH)(hq:q=mz8 V y)(X:ak iP)(hX:X=(z.2.2.2.2.2.2.2.2.2.2.2.2.2.1,q.1,q.2.1,q.2.2.1,q.2.2.2.1,q.2.2.2.2.1,q.2.2.2.2.2.1,q.2.2.2.2.2.2.1,q.2.2.2.2.2.2.2.1,q.2.2.2.2.2.2.2.2.1,q.2.2.2.2.2.2.2.2.2.1,q.2.2.2.2.2.2.2.2.2.2.1,q.2.2.2.2.2.2.2.2.2.2.2.1,q.2.2.2.2.2.2.2.2.2.2.2.2.1,q.2.2.2.2.2.2.2.2.2.2.2.2.2.1,q.2.2.2.2.2.2.2.2.2.2.2.2.2.2.1,q.2.2.2.2.2.2.2.2.2.2.2.2.2.2.2.1,q.2.2.2.2.2.2.2.2.2.2.2.2.2.2.2.2.1,0,()))(u:ak ju)(hu:u=gH rk iP ju X):(tz3 V (l,a,())).val=
 bif !true then some (aA tz (false,()))else aS aaP (aS (oB sD iO gA (WB l a)) (aS (kz8 V y) (aS (Wh V y) (
  bif !decide (gP V y=0)then some (aA tz (false,()))else bif !z.2.2.2.2.2.2.2.2.2.2.2.2.1 then some (aA tz (false,()))else bif decide ((65536:Int)<=z.1)then some (aA tz (false,()))else bif !decide (q.2.2.2.2.2.2.2.2.2.2.2.2.2.2.2.2.2.1=0)then some (aA tz (false,()))else
  aS (rG rk iP ju lh X) (bif qw rk iP X then aS (bif decide (aV .u64 (List.length u.2.2.2.1:Int)<=20)then true else bg 20 (List.length u.2.2.2.1:Int)) (bif (bif decide (aV .u64 (List.length u.2.2.2.1:Int)<=20)then true else decide ((List.getD u.2.2.2.1 (20:Int).toNat (ao (Ty.int .i64)))<0))then aS (bif decide (aV .u64 (List.length u.2.2.2.1:Int)<=4294967295)then true else bg 4294967295 (List.length u.2.2.2.1:Int)) (bif (bif decide (aV .u64 (List.length u.2.2.2.1:Int)<=4294967295)then true else decide ((List.getD u.2.2.2.1 (4294967295:Int).toNat (ao (Ty.int .i64)))<0))then some (aA tz (true,()))else aS (bg 4294967295 (List.length u.2.2.2.1:Int)) (some (aA tz (false,()))))else aS (bg 20 (List.length u.2.2.2.1:Int)) (aS (bif decide (aV .u64 (List.length u.2.2.2.1:Int)<=4294967295)then true else bg 4294967295 (List.length u.2.2.2.1:Int)) (bif (bif decide (aV .u64 (List.length u.2.2.2.1:Int)<=4294967295)then true else decide ((List.getD u.2.2.2.1 (4294967295:Int).toNat (ao (Ty.int .i64)))<0))then some (aA tz (false,()))else aS (bg 4294967295 (List.length u.2.2.2.1:Int)) (some (aA tz (false,()))))))else some (aA tz (gH rk iP lh X))))))):=by
 subst hu;subst hX;subst hq;subst hy;subst hz
 kernel_rfl
end Go.Proofs.Vd

noncomputable section
namespace Go.Proofs.Vd
open Go.Ab Go.Ab.Lf
set_option maxRecDepth 100000
theorem It{x y:List Int}{p q:Nat}(h:p+y.length<=x.length)(hq:q<x.length):(B8 x p (x.length - p) y).getD q 0=if p<=q/\q<p+y.length then y.getD (q - p) 0 else x.getD q 0:=by
 have e:B8 x p (x.length - p) y=x.take p++(y++x.drop (p+y.length)):=by
  show app (List.take p x) (app (List.take (min y.length (x.length - p)) y) (List.drop (p+min y.length (x.length - p)) x))=_
  rw[bp,bp,show min y.length (x.length - p)=y.length by omega,List.take_length]
 rw[e,List.getD_eq_getElem?_getD]
 have hp:(x.take p).length=p:=by rw[List.length_take];omega
 by_cases h1:q<p
 ·rw[List.getElem?_append_left (by omega),List.getElem?_take_of_lt h1,if_neg (by omega),List.getD_eq_getElem?_getD]
 ·rw[List.getElem?_append_right (by omega),hp]
  by_cases h2:q<p+y.length
  ·rw[List.getElem?_append_left (by omega),if_pos ⟨by omega,h2⟩,List.getD_eq_getElem?_getD]
  ·rw[List.getElem?_append_right (by omega),List.getElem?_drop,if_neg (by omega),List.getD_eq_getElem?_getD]
   congr 2
   omega
theorem Ex(tab:List Int)(l:List (Int×List Int))(x:Int×List Int):layAll tab (l++[x])=(layAll tab l).bind fun t=>n4 t x.1 x.2:=by
 unfold layAll
 rw[List.foldl_append]
 rfl
def wS(w:List Int)(p:Nat)(fu:List Int):Nat->List Int
 |0=>w
 |j+1=>(wS w p fu j).set (p+j) (fu.getD j 0+1)
theorem yX(w:List Int)(p:Nat)(fu:List Int): ∀ j,(wS w p fu j).length=w.length
 |0=>rfl
 |j+1=>by show((wS w p fu j).set _ _).length=_;rw[List.length_set];exact yX w p fu j
theorem Kg(l:List Int)(i q:Nat)(x:Int)(h:i<l.length):(l.set i x).getD q 0=if q=i then x else l.getD q 0:=by
 rw[List.getD_eq_getElem?_getD,List.getD_eq_getElem?_getD]
 by_cases e:q=i
 ·subst e;rw[if_pos rfl,List.getElem?_set_self h];rfl
 ·rw[if_neg e,List.getElem?_set_ne (fun h=>e h.symm)]
theorem Pw(w:List Int)(p:Nat)(fu:List Int)(q:Nat): ∀ j,p+j<=w.length->(wS w p fu j).getD q 0=if p<=q/\q<p+j then fu.getD (q - p) 0+1 else w.getD q 0
 |0,_=>by rw[if_neg (by omega)];rfl
 |j+1,h=>by
  have ih:=Pw w p fu q j (by omega)
  show((wS w p fu j).set (p+j) _).getD q 0=_
  rw[Kg _ _ _ _ (by rw[yX];omega),ih]
  by_cases e:q=p+j
  ·rw[if_pos e,if_pos ⟨by omega,by omega⟩,show q - p=j by omega]
  ·rw[if_neg e]
   by_cases e2:p<=q/\q<p+j
   ·rw[if_pos e2,if_pos ⟨by omega,by omega⟩]
   ·rw[if_neg e2,if_neg (by omega)]
def h3(d:Int):Int:=aV .i64 (Jl .u8 d 3)
theorem ae4{d:Int}(h0:0<=d):0<=h3 d/\h3 d<3:=by
 obtain⟨n,rfl⟩:=Int.eq_ofNat_of_zero_le h0
 have e:Jl .u8 (n:Int) 3=((n % 3:Nat):Int):=rfl
 unfold h3
 rw[e]
 have gB:=Nat.mod_lt n (show 0<3 by decide)
 clear e
 generalize n % 3=m at gB
 have e2:aV .i64 (m:Int)=(m:Int):=wrap_i64 (by omega) (by omega)
 rw[e2]
 exact⟨by omega,by omega⟩
def qc(g:den cP):List Int:=(g.2.take 1024).map h3
def eS(g:den cP):den aD:=(eC 65 (aV .u64 g.1) 0,qc g)
structure Ey(g:den cP):Prop where
 p: ∃ p:Nat,g.1=(p:Int)/\p<4294967296
 d: ∀ d:Int,d∈g.2->0<=d/\d<=255
theorem Iu(g:den cP):(qc g).length<=1024/\(qc g).length=min g.2.length 1024:=by
 unfold qc
 rw[List.length_map,List.length_take]
 exact⟨by omega,by omega⟩
theorem GN{g:den cP}(h:Ey g): ∀ f,f∈qc g->0<=f/\f<3:=fun f hf=>by
 obtain⟨d,hd,rfl⟩:=List.mem_map.1 hf
 exact ae4 (h.d d (List.mem_of_mem_take hd)).1
theorem ae5{g:den cP}(h:Ey g):eT (eS g):=by
 obtain⟨p,hp,hp2⟩:=h.p
 refine⟨⟨aV .u64 g.1,rfl,?_,?_⟩,(Iu g).1,GN h⟩
 ·rw[hp,zG (by omega)];omega
 ·rw[hp,zG (by omega)];omega
def stT(s:Bool×List Int)(g:den cP):Bool×List Int:=
 (bif s.1 then decide (g.1+((qc g).length:Int)<=20)else false,bif (bif s.1 then decide (g.1+((qc g).length:Int)<=20)else false)then wS s.2 (g.1:Int).toNat (qc g) (qc g).length else s.2)
def Cp(l:List (den cP)):Bool×List Int:=l.foldl stT (true,List.replicate 20 0)
theorem Ez(l:List (den cP))(g:den cP):Cp (l++[g])=stT (Cp l) g:=by
 unfold Cp
 rw[List.foldl_append]
 rfl
theorem rM{α:Type}(l:List α)(j:Nat)(d:α)(h:j<l.length):l.take (j+1)=l.take j++[l.getD j d]:=by
 rw[List.take_add_one,List.getElem?_eq_getElem h,List.getD_eq_getElem?_getD,List.getElem?_eq_getElem h]
 rfl
abbrev prT(l:List (den cP)):List (Int×List Int):=(l.map eS).map fun g=>(Cb g.1,g.2)
structure TbI(t w:List Int):Prop where
 tl:t.length=20
 wl:w.length=20
 w: ∀ q,q<20->w.getD q 0=t.getD q 0+1
 b: ∀ q,q<20-> -1<=t.getD q 0/\t.getD q 0<=2
theorem GO(l:List (den cP))(h: ∀ g,g∈l->Ey g): ∀ j,j<=l.length->(Cp (l.take j)).2.length=20/\(match layAll (List.replicate 20 (-1)) (prT (l.take j))with|some t=>(Cp (l.take j)).1=true/\TbI t (Cp (l.take j)).2|none=>(Cp (l.take j)).1=false)
 |0,_=>by
  rw[List.take_zero]
  refine⟨List.length_replicate ..,rfl,List.length_replicate ..,List.length_replicate ..,fun q hq=>?_,fun q hq=>?_⟩
  ·show(List.replicate 20 (0:Int)).getD q 0=(List.replicate 20 (-1:Int)).getD q 0+1
   rw[List.getD_eq_getElem?_getD,List.getD_eq_getElem?_getD,List.getElem?_replicate,List.getElem?_replicate,if_pos hq,if_pos hq]
   rfl
  ·rw[List.getD_eq_getElem?_getD,List.getElem?_replicate,if_pos hq]
   exact⟨by decide,by decide⟩
 |j+1,hj=>by
  obtain⟨i1,i2⟩:=GO l h j (by omega)
  have hg:=h _ (gy (show j<l.length by omega) (ao cP))
  rw[rM l j (ao cP) (by omega),Ez]
  have ep:prT (l.take j++[l.getD j (ao cP)])=prT (l.take j)++[(Cb (eS (l.getD j (ao cP))).1,(eS (l.getD j (ao cP))).2)]:=by
   show((l.take j++[l.getD j (ao cP)]).map eS).map _=_
   rw[List.map_append,List.map_append]
   rfl
  rw[ep,Ex]
  generalize l.getD j (ao cP)=g at hg
  obtain⟨p,hp,hp2⟩:=hg.p
  have ea:Cb (eS g).1=(p:Int):=by
   show aV .u64 g.1=_
   rw[hp,zG (by omega)]
  have e2:(eS g).2=qc g:=rfl
  rw[ea,e2]
  cases hL:layAll (List.replicate 20 (-1)) (prT (l.take j))with
  |none=>
   rw[hL]at i2
   have i2:(Cp (l.take j)).1=false:=i2
   unfold stT
   rw[i2]
   exact⟨i1,rfl⟩
  |some t=>
   rw[hL]at i2
   obtain⟨k1,I⟩:=i2
   show _/\match n4 t (p:Int) (qc g)with|some t=>_|none=>_
   unfold n4 stT
   rw[k1,hp,I.tl,cond_true]
   by_cases q:((20:Nat):Int)<(p:Int)+((qc g).length:Int)
   ·rw[dt q,df (show ¬ (p:Int)+((qc g).length:Int)<=20 by omega)]
    exact⟨i1,rfl⟩
   ·rw[df q,dt (show(p:Int)+((qc g).length:Int)<=20 by omega),Int.toNat_natCast]
    have hle:p+(qc g).length<=20:=by omega
    refine⟨by show(wS _ _ _ _).length=20;rw[yX];exact i1,rfl,?_,by show(wS _ _ _ _).length=20;rw[yX];exact i1,fun q hq=>?_,fun q hq=>?_⟩
    ·have:=(yR (tab:=t) (p:=(p:Int)) (y:=qc g) (t:=B8 t p (t.length - p) (qc g)) (by omega) (by unfold n4;rw[I.tl,df q,Int.toNat_natCast];rfl)).1
     rw[I.tl]at this
     exact this
    ·have e:=It (x:=t) (y:=qc g) (p:=p) (q:=q) (by rw[I.tl];exact hle) (by rw[I.tl];exact hq)
     rw[I.tl]at e
     show(wS _ _ _ _).getD q 0=(B8 t p (20 - p) (qc g)).getD q 0+1
     rw[Pw _ _ _ _ _ (by rw[i1];exact hle),e]
     by_cases c:p<=q/\q<p+(qc g).length
     ·rw[if_pos c,if_pos c]
     ·rw[if_neg c,if_neg c,I.w q hq]
    ·have e:=It (x:=t) (y:=qc g) (p:=p) (q:=q) (by rw[I.tl];exact hle) (by rw[I.tl];exact hq)
     rw[I.tl]at e
     show -1<=(B8 t p (20 - p) (qc g)).getD q 0/\(B8 t p (20 - p) (qc g)).getD q 0<=2
     rw[e]
     by_cases c:p<=q/\q<p+(qc g).length
     ·rw[if_pos c]
      have:=GN hg _ (gy (show q - p<(qc g).length by omega) 0)
      omega
     ·rw[if_neg c];exact I.b q hq
end Go.Proofs.Vd

noncomputable section
namespace Go.Proofs.Vd
open Go.Ab Go.Ab.Lf
set_option maxRecDepth 100000
theorem Px(d:List Int)(j:Nat)(h:j<d.length):(d.take (j+1)).map h3=(d.take j).map h3++[h3 (d.getD j 0)]:=by
 rw[rM d j 0 h,List.map_append]
 rfl
section
variable (l:List (den cP))(a:Int)(m1:List (den aI))(m2:List (den aP))(m3:List Int)(m4:List (den aj))(m5:List (den aj))(m6:List (den aC))(m7:List (den aO))(m8:Int)(m9:List (den aD))(bK:List (den aK))(bL:List (den aH))(f:Bool)(w:List Int)
theorem ae7(i:Nat)(hi:i<l.length)(g:den cP)(hg:g=l.getD i (ao cP))(ok:Ey g):gQ yU (aA ki (l,a,m1,m2,m3,m4,m5,m6,m7,m8,m9,bK,bL,f,w,(i:Int),[],((0:Nat):Int),())) 0 (aA kj (l,a,m1,m2,m3,m4,m5,m6,m7,m8,m9,bK,bL,f,w,(i:Int),qc g,())):=by
 have e0:aA ki (l,a,m1,m2,m3,m4,m5,m6,m7,m8,m9,bK,bL,f,w,(i:Int),[],((0:Nat):Int),())=aA ki (l,a,m1,m2,m3,m4,m5,m6,m7,m8,m9,bK,bL,f,w,(i:Int),(g.2.take 0).map h3,((0:Nat):Int),()):=by rw[List.take_zero];rfl
 have e1:qc g=(g.2.take (min g.2.length 1024)).map h3:=by
  unfold qc
  congr 1
  by_cases c:1024<=g.2.length
  ·rw[show min g.2.length 1024=1024 by omega]
  ·rw[show min g.2.length 1024=g.2.length by omega,List.take_length,List.take_of_length_le (by omega)]
 rw[e0,e1]
 refine mX (min g.2.length 1024) (fun j=>aA ki (l,a,m1,m2,m3,m4,m5,m6,m7,m8,m9,bK,bL,f,w,(i:Int),(g.2.take j).map h3,(j:Int),())) _ (fun j hj=>?_) ?_
 ·refine(Pt l a m1 m2 m3 m4 m5 m6 m7 m8 m9 bK bL f w (i:Int) ((g.2.take j).map h3) (j:Int) g (by rw[Int.toNat_natCast];exact hg)).trans ?_
  rw[Int.toNat_natCast,show bg (i:Int) (l.length:Int)=true from bZ hi,dt (show(j:Int)<(List.length g.2:Int) by omega),dt (show(j:Int)<1024 by omega),show bg (j:Int) (List.length g.2:Int)=true from bZ (by omega),JX (by omega),bP (by decide) (show((g.2.take j).map h3).length+[aV .i64 (Jl .u8 (List.getD g.2 j (ao (Ty.int .u8))) 3)].length<=1099511627776 by rw[List.length_map,List.length_take];show _+1<=_;omega),bp]
  show _=some (Rs.next (aA ki (l,a,m1,m2,m3,m4,m5,m6,m7,m8,m9,bK,bL,f,w,(i:Int),(g.2.take (j+1)).map h3,((j+1:Nat):Int),())))
  rw[Px g.2 j (by omega)]
  rfl
 ·refine(Pt l a m1 m2 m3 m4 m5 m6 m7 m8 m9 bK bL f w (i:Int) ((g.2.take (min g.2.length 1024)).map h3) ((min g.2.length 1024:Nat):Int) g (by rw[Int.toNat_natCast];exact hg)).trans ?_
  rw[show bg (i:Int) (l.length:Int)=true from bZ hi]
  by_cases c:1024<=g.2.length
  ·rw[df (show ¬ ((min g.2.length 1024:Nat):Int)<1024 by omega)]
   cases decide (((min g.2.length 1024:Nat):Int)<(List.length g.2:Int))<;>rfl
  ·rw[df (show ¬ ((min g.2.length 1024:Nat):Int)<(List.length g.2:Int) by omega)]
   rfl
theorem ae8(i:Nat)(hi:i<l.length)(g:den cP)(hg:g=l.getD i (ao cP))(p:Nat)(hp:g.1=(p:Int))(fu:List Int)(hf: ∀ x,x∈fu->0<=x/\x<3)(hw:w.length=20)(qF:f=true->p+fu.length<=20):gQ yV (aA mY (l,a,m1,m2,m3,m4,m5,m6,m7,m8,m9,bK,bL,f,w,(i:Int),fu,((0:Nat):Int),())) 0 (aA km (l,a,m1,m2,m3,m4,m5,m6,m7,m8,m9,bK,bL,f,bif f then wS w p fu fu.length else w,(i:Int),())):=by
 cases hb:f with
 |false=>
  refine .last ((GM l a m1 m2 m3 m4 m5 m6 m7 m8 m9 bK bL false w (i:Int) fu ((0:Nat):Int) _ rfl).trans ?_)
  cases decide (((0:Nat):Int)<(fu.length:Int))<;>rfl
 |true=>
  have hle:=qF hb
  rw[cond_true]
  refine mX fu.length (fun j=>aA mY (l,a,m1,m2,m3,m4,m5,m6,m7,m8,m9,bK,bL,true,wS w p fu j,(i:Int),fu,(j:Int),())) _ (fun j hj=>?_) ?_
  ·refine(GM l a m1 m2 m3 m4 m5 m6 m7 m8 m9 bK bL true (wS w p fu j) (i:Int) fu (j:Int) g (by rw[Int.toNat_natCast];exact hg)).trans ?_
   have hx:=hf _ (gy hj 0)
   have ea:EqI (cf .i64 (aV .i64 (p:Int)) (j:Int)) ((p+j:Nat):Int):=by
    have c1:aV .i64 (p:Int)=(p:Int):=wrap_i64 (by omega) (by omega)
    unfold EqI
    rw[c1]
    clear c1
    exact(wrap_i64 (by omega) (by omega)).trans (by omega)
   have eb:EqI (cf .i64 (fu.getD j 0) 1) (fu.getD j 0+1):=wrap_i64 (by omega) (by omega)
   rw[hp,show cf .i64 (aV .i64 (p:Int)) (j:Int)=_ from ea,Int.toNat_natCast,Int.toNat_natCast,show cf .i64 (fu.getD j (ao (Ty.int .i64))) 1=_ from eb,show bg (i:Int) (l.length:Int)=true from bZ hi,dt (show(j:Int)<(fu.length:Int) by omega),show bg (j:Int) (fu.length:Int)=true from bZ hj,show bg ((p+j:Nat):Int) ((wS w p fu j).length:Int)=true from bZ (by rw[yX,hw];omega),JX (by omega)]
   rfl
  ·refine(GM l a m1 m2 m3 m4 m5 m6 m7 m8 m9 bK bL true (wS w p fu fu.length) (i:Int) fu (fu.length:Int) _ rfl).trans ?_
   rw[df (show ¬ (fu.length:Int)<(fu.length:Int) by omega)]
   rfl
end
theorem ae9(l:List (den cP))(h: ∀ g,g∈l->Ey g)(a:Int)(m1:List (den aI))(m2:List (den aP))(m3:List Int)(m4:List (den aj))(m5:List (den aj))(m6:List (den aC))(m7:List (den aO))(m8:Int)(bK:List (den aK))(bL:List (den aH))(n:Nat)(hn:n=min l.length 500):gQ sD (aA iO (l,a,m1,m2,m3,m4,m5,m6,m7,m8,[],bK,bL,true,List.replicate 20 0,((0:Nat):Int),())) 0 (aA gA (a,m1,m2,m3,m4,m5,m6,m7,m8,(l.take n).map eS,bK,bL,(Cp (l.take n)).1,(Cp (l.take n)).2,())):=by
 have e0:aA iO (l,a,m1,m2,m3,m4,m5,m6,m7,m8,[],bK,bL,true,List.replicate 20 0,((0:Nat):Int),())=aA iO (l,a,m1,m2,m3,m4,m5,m6,m7,m8,(l.take 0).map eS,bK,bL,(Cp (l.take 0)).1,(Cp (l.take 0)).2,((0:Nat):Int),()):=by rw[List.take_zero];rfl
 rw[e0]
 refine mX n (fun j=>aA iO (l,a,m1,m2,m3,m4,m5,m6,m7,m8,(l.take j).map eS,bK,bL,(Cp (l.take j)).1,(Cp (l.take j)).2,((j:Nat):Int),())) _ (fun j hj=>?_) ?_
 ·have hjl:j<l.length:=by omega
  have ok:=h _ (gy hjl (ao cP))
  obtain⟨p,hp,hp2⟩:=ok.p
  have hw:=(GO l h j (by omega)).1
  have hE:((l.take j).map eS).length=j:=by rw[List.length_map,List.length_take];omega
  have es:=Ez (l.take j) (l.getD j (ao cP))
  rw[<-rM l j (ao cP) hjl]at es
  have em:(l.take (j+1)).map eS=(l.take j).map eS++[eS (l.getD j (ao cP))]:=by rw[rM l j (ao cP) hjl,List.map_append];rfl
  show _=some (Rs.next (aA iO (l,a,m1,m2,m3,m4,m5,m6,m7,m8,(l.take (j+1)).map eS,bK,bL,(Cp (l.take (j+1))).1,(Cp (l.take (j+1))).2,(((j+1):Nat):Int),())))
  rw[es,em]
  generalize (l.take j).map eS=E at hE
  generalize Cp (l.take j)=s at hw
  obtain⟨f,w⟩:=s
  have hw:w.length=20:=hw
  have q2:=jN (f:=yU) (ti:=ki) (to:=kj) (ae7 l a m1 m2 m3 m4 m5 m6 m7 m8 E bK bL f w j hjl _ rfl ok)
  obtain⟨g,hg⟩: ∃ g,g=l.getD j (ao cP):=⟨_,rfl⟩
  rw[<-hg]at q2 hp ok ⊢
  obtain⟨f',hf'⟩: ∃ f',f'=(bif f then decide (cf .i64 (aV .i64 (List.getD l (Int.toNat (j:Int)) (ao cP)).1) (List.length (qc g):Int)<=20)else false):=⟨_,rfl⟩
  have hfl:=(Iu g).1
  have ea:EqI (cf .i64 (aV .i64 (p:Int)) ((qc g).length:Int)) ((p+(qc g).length:Nat):Int):=by
   have c1:aV .i64 (p:Int)=(p:Int):=wrap_i64 (by omega) (by omega)
   unfold EqI
   rw[c1]
   clear c1
   exact(wrap_i64 (by omega) (by omega)).trans (by omega)
  have hfe:f'=(bif f then decide (g.1+((qc g).length:Int)<=20)else false):=by
   rw[hf',Int.toNat_natCast,<-hg,hp,show cf .i64 (aV .i64 (p:Int)) (List.length (qc g):Int)=_ from ea]
   congr 2
  have q4:=jN (f:=yV) (ti:=mY) (to:=km) (ae8 l a m1 m2 m3 m4 m5 m6 m7 m8 (E++[eS g]) bK bL f' w j hjl g hg p hp (qc g) (GN ok) hw (fun ht=>by
   rw[hfe,hp]at ht
   cases f with
   |false=>cases ht
   |true=>
    have h9:(p:Int)+((qc g).length:Int)<=20:=of_decide_eq_true ht
    omega))
  refine(Pv l a m1 m2 m3 m4 m5 m6 m7 m8 E bK bL f w (j:Int) _ rfl _ q2.2.symm (l,a,m1,m2,m3,m4,m5,m6,m7,m8,E++[eS g],bK,bL,f',w,(j:Int),qc g,0,()) (by
   rw[hf',bp,Int.toNat_natCast,<-hg]
   rfl) _ q4.2.symm).trans ?_
  have r48: ∀ x:den aD,roomy 48 (E.length+[x].length)=true:=fun x=>bP (by decide) (show E.length+1<=1099511627776 by omega)
  dsimp only
  rw[dt (show(j:Int)<(l.length:Int) by omega),dt (show(j:Int)<500 by omega),show bg (j:Int) (List.length l:Int)=true from bZ hjl,show oB yU ki kj (l,a,m1,m2,m3,m4,m5,m6,m7,m8,E,bK,bL,f,w,(j:Int),[],0,())=true from q2.1,show oB yV mY km (l,a,m1,m2,m3,m4,m5,m6,m7,m8,E++[eS g],bK,bL,f',w,(j:Int),qc g,0,())=true from q4.1,r48,JX (by omega)]
  have hs:stT (f,w) g=(f',bif f' then wS w p (qc g) (qc g).length else w):=by
   unfold stT
   rw[hfe,hp,Int.toNat_natCast]
  rw[hs]
  cases f<;>rfl
 ·refine(Pv l a m1 m2 m3 m4 m5 m6 m7 m8 ((l.take n).map eS) bK bL _ _ (n:Int) _ rfl _ rfl _ rfl _ rfl).trans ?_
  by_cases c:(n:Int)<(l.length:Int)
  ·rw[df (show ¬ (n:Int)<500 by omega)]
   cases decide ((n:Int)<(l.length:Int))<;>rfl
  ·rw[df c]
   rfl
end Go.Proofs.Vd
