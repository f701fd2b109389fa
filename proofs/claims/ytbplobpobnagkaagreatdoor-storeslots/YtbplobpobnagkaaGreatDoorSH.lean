import Derived.Test.YtbplobpobnagkaaGreatDoorVdU2
noncomputable section
namespace Go.Proofs.Vd
open Go.Ab Go.Ab.Lf
set_option maxRecDepth 100000
abbrev iC(o lo hi:Int):den tI:=(o,0,0,lo,hi,[])
abbrev eC(o lo hi:Int):List (den tI):=[iC o lo hi,(11,0,0,0,0,[])]
theorem afn(lo:Int):(iI (mI (iC 65 lo 0))).2=decide (lo<4294967296):=by kernel_rfl
theorem afo(lo:Int):(iI (mI (iC 66 lo 0))).2=true:=by kernel_rfl
theorem akt(lo hi:Int):(iI (mI (iC 64780 lo hi))).2=true:=by kernel_rfl
theorem afp:(iI (mI (iC 11 0 0))).2=true:=by kernel_rfl
theorem afq(o lo hi:Int)(h:o=65∨o=66∨o=64780):iU (eC o lo hi)=true:=by
 rcases h with h|h|h<;>subst h<;>kernel_rfl
end Go.Proofs.Vd

noncomputable section
namespace Go.Proofs.Vd
open Go.Ab Go.Ab.Lf
set_option maxRecDepth 100000
theorem Po{n:Nat}(h:n<4294967296):iV (n:Int)=true:=by
 unfold iV
 rw[decide_eq_true (by omega),decide_eq_true (by omega)]
 rfl
theorem aa9{α:Type}{A:Item α}(B:AQ A){most:Int}{l:List α}(hl:(l.length:Int)<=most)(hl2:l.length<=65536)(ho:cu A.ok l=true)(hp: ∀ x,x∈l->B.p x=true)(hw:nr A.wt l<=4294960000):qG B most l=true:=by
 have hr:=ze B l ho
 have hn:=rD (l.length:Int)
 unfold qG
 rw[decide_eq_true hl,Po (n:=l.length) (by omega),List.all_eq_true.2 hp,Po (n:=(nb (l.length:Int)++u9 B l).length) (by rw[List.length_append];omega)]
 cases decide ((l.length:Int)=0)<;>rfl
theorem afr{V:ByteArray->Bool}{y:aj tM}(hE:GA V y=true)(hP:Qo V y=true):nB V y=0∨nB V y=4:=by
 unfold nB
 rw[Il hE,hP]
 show(bif decide (16384<((s0.1++Qp V y).length:Int))then(4:Int)else 0)=0∨(bif decide (16384<((s0.1++Qp V y).length:Int))then(4:Int)else 0)=4
 cases decide (16384<((s0.1++Qp V y).length:Int))with
 |true=>exact .inr rfl
 |false=>exact .inl rfl
theorem afs{V:ByteArray->Bool}{y:aj tM}(hE:GA V y=true)(hP:Qo V y=true)(hO:tK y=true)(hB:UH y=true):iM V y=0∨iM V y=4:=by
 unfold iM
 rw[hO,hB]
 rcases afr hE hP with h|h
 ·rw[h];exact .inl rfl
 ·rw[h];exact .inr rfl
structure cC(c:List (den tI))(t o lo hi:Int):Prop where
 c:c=eC o lo hi
 o:(o=65/\t=127/\0<=lo/\lo<4294967296/\hi=0)∨(o=66/\t=126/\hi=0)∨(o=64780/\t=123)
theorem cC.wr{c:List (den tI)}{t o lo hi:Int}(h:cC c t o lo hi):oP c=0/\qw c=true/\qL c=82/\v5 c t=true/\qF t=true/\LI c:=by
 obtain⟨rfl,h⟩:=h
 have hL:LI (eC o lo hi):=⟨(show 2<=1099511627776 by decide),fun x hx=>by
  rcases List.mem_cons.1 hx with q|q
  ·rw[q];exact Nat.zero_le _
  ·rw[show x=(11,0,0,0,0,[]) by simpa using q];exact Nat.zero_le _⟩
 have hc:iU (eC o lo hi)=true:=afq o lo hi (by rcases h with h|h|h;exact .inl h.1;exact .inr (.inl h.1);exact .inr (.inr h.1))
 have hp:(iI (mI (iC o lo hi))).2=true:=by
  rcases h with h|h|h
  ·obtain⟨rfl,_,_,Xm,rfl⟩:=h
   rw[afn];exact decide_eq_true Xm
  ·obtain⟨rfl,_,rfl⟩:=h
   exact afo lo
  ·obtain⟨rfl,_⟩:=h
   exact akt lo hi
 refine⟨?_,rfl,rfl,?_,?_,hL⟩
 ·unfold oP Gt
  rw[hc,cond_true]
  have e:qE (eC o lo hi) []=some (([]++(iI (mI (iC o lo hi))).1)++(iI (mI (iC 11 0 0))).1):=by
   unfold qE
   rw[gq]
   unfold yV
   rw[hp,cond_true]
   show gq _ some [iC 11 0 0] _=_
   rw[gq,afp,cond_true]
   rfl
  rw[e]
  rfl
 ·rcases h with h|h|h
  ·obtain⟨rfl,rfl,_⟩:=h;kernel_rfl
  ·obtain⟨rfl,rfl,_⟩:=h;kernel_rfl
  ·obtain⟨rfl,rfl⟩:=h;kernel_rfl
 ·rcases h with h|h|h
  ·rw[h.2.1];rfl
  ·rw[h.2.1];rfl
  ·rw[h.2];rfl
end Go.Proofs.Vd

noncomputable section
namespace Go.Proofs.Vd
open Go.Ab Go.Ab.Lf
set_option maxRecDepth 100000
abbrev yS(G:List (den aC)):aj tM:=([([],[])],[],[0],[((3:Int),(-1:Int))],[((1:Int),(-1:Int))],G,[],-1,[(eC 65 1 0,[0])],[([],[iC 11 0 0])],[(eC 65 4 0,[5])],())
def gC(g:den aC):Prop:=g.2.1=false/\ ∃ o lo hi,cC g.2.2 g.1 o lo hi
theorem aku(V:ByteArray->Bool)(G:List (den aC)):Wj V (yS G)=(cu Gw.ok G&&true):=by kernel_rfl
theorem akv(V:ByteArray->Bool)(G:List (den aC)):8+Eb V (yS G)=nr Gw.wt G+(8+Eb V (yS [])):=by
 have e: ∀ G,Eb V (yS G)=0+((21+nr Wg.wt [([],[])])+((21+0)+((21+nr Wf.wt [0])+((21+nr Wh.wt [((3:Int),(-1:Int))])+((21+nr Wi.wt [((1:Int),(-1:Int))])+((21+nr Gw.wt G)+((21+0)+(0+(21+Ea (yS [])))))))))):=fun G=>rfl
 rw[e G,e []]
 have h0:nr Gw.wt ([]:List (den aC))=0:=rfl
 omega
theorem aft(V:ByteArray->Bool):8+Eb V (yS [])<=100000:=by
 have e:decide (8+Eb V (yS [])<=100000)=true:=by kernel_rfl
 exact of_decide_eq_true e
theorem akw(V:ByteArray->Bool)(G:List (den aC)):Qo V (yS G)=((qG JY 512 G&&true)&&true):=by kernel_rfl
theorem akx(G:List (den aC)):tK (yS G)=(List.all G pGl&&true):=by kernel_rfl
theorem aky(G:List (den aC)):UH (yS G)=true:=by kernel_rfl
theorem aa'{α:Type}{p:α->Bool}{l:List α}(h: ∀ x,x∈l->p x=true):cu p l=true:=by
 induction l with
 |nil=>rfl
 |cons a l ih=>
  show(bif p a then cu p l else false)=true
  rw[h a List.mem_cons_self,cond_true]
  exact ih fun x hx=>h x (List.mem_cons_of_mem _ hx)
theorem UO{α:Type}{w:α->Nat}{n:Nat}{l:List α}(h: ∀ x,x∈l->w x<=n):nr w l<=n*l.length:=by
 induction l with
 |nil=>exact Nat.zero_le _
 |cons a l ih=>
  have h1:=h a List.mem_cons_self
  have h2:=ih fun x hx=>h x (List.mem_cons_of_mem _ hx)
  rw[oU,List.length_cons,Nat.mul_succ]
  omega
theorem IB{g:den aC}(h:gC g):Gw.ok g=true/\Gw.wt g=84/\JY.p g=true/\pGl g=true:=by
 obtain⟨t,m,c⟩:=g
 obtain⟨hm,o,lo,hi,hc⟩:=h
 have hm:m=false:=hm
 subst hm
 obtain⟨w1,w2,w3,w4,w5,w6⟩:=hc.wr
 refine⟨w2,?_,?_,w4⟩
 ·show 1+(1+qL c)=84
  rw[show qL c=82 from w3]
 ·show([t].all qF&&(true&&decide (oP c=0)))=true
  rw[show oP c=0 from w1,List.all_cons,show qF t=true from w5]
  rfl
theorem aba(V:ByteArray->Bool){G:List (den aC)}(hl:G.length<=500)(hG: ∀ g,g∈G->gC g):WN V (yS G)=true/\(iM V (yS G)=0∨iM V (yS G)=4):=by
 have h1:cu Gw.ok G=true:=aa' fun x hx=>(IB (hG x hx)).1
 have h2:nr Gw.wt G<=84*G.length:=UO fun x hx=>by rw[(IB (hG x hx)).2.1];exact Nat.le_refl _
 have hE:GA V (yS G)=true:=by
  unfold GA
  have:=aft V
  rw[aku,h1,akv,decide_eq_true (by omega)]
  rfl
 have hP:Qo V (yS G)=true:=by
  rw[akw,aa9 JY (by omega) (by omega) h1 (fun x hx=>(IB (hG x hx)).2.2.1) (by omega)]
  rfl
 have hO:tK (yS G)=true:=by
  rw[akx,List.all_eq_true.2 fun x hx=>(IB (hG x hx)).2.2.2]
  rfl
 refine⟨?_,afs hE hP hO (aky G)⟩
 unfold WN
 rw[hE]
 rfl
end Go.Proofs.Vd

noncomputable section
namespace Go.Proofs.Vd
open Go.Ab Go.Ab.Lf
set_option maxRecDepth 100000
def UP(p:List Int×List Int×List Int)(g:den aC):List Int×List Int×List Int:=
 (bif decide (g.1=123)then app (app p.1 [(g.2.2.getD 0 (ao tI)).2.2.2.1]) [(g.2.2.getD 0 (ao tI)).2.2.2.2.1]else app p.1 [(g.2.2.getD 0 (ao tI)).2.2.2.1],
  bif decide (g.1=123)then app (app p.2.1 [bif decide (g.1=127)then 1 else 0]) [0]else app p.2.1 [bif decide (g.1=127)then 1 else 0],app p.2.2 [(p.1.length:Int)])
def gA(G:List (den aC)):List Int×List Int×List Int:=G.foldl UP ([],[],[])
theorem EE(G:List (den aC))(j:Nat)(h:j<G.length):gA (G.take (j+1))=UP (gA (G.take j)) (G.getD j (ao aC)):=by
 unfold gA
 rw[List.take_add_one,List.foldl_append,List.getElem?_eq_getElem h,List.getD_eq_getElem?_getD,List.getElem?_eq_getElem h]
 rfl
theorem UQ(p:List Int×List Int×List Int)(g:den aC):(UP p g).1.length<=p.1.length+2/\(UP p g).2.1.length<=p.2.1.length+2/\(UP p g).2.2.length=p.2.2.length+1:=by
 unfold UP
 simp only[bp]
 cases decide (g.1=123)<;>simp
theorem vj(G:List (den aC)): ∀ j,j<=G.length->(gA (G.take j)).1.length<=2*j/\(gA (G.take j)).2.1.length<=2*j/\(gA (G.take j)).2.2.length=j
 |0,_=>by rw[List.take_zero];exact⟨Nat.zero_le _,Nat.zero_le _,rfl⟩
 |j+1,h=>by
  have ih:=vj G j (by omega)
  rw[EE G j (by omega)]
  have:=UQ (gA (G.take j)) (G.getD j (ao aC))
  omega
theorem afu(o1:List (den aH))(o2:List (den aS))(o3:List Int)(o4:List (den ak))(o5:List (den ak))(o6:List (den aC))(o7:List (den aR))(o8:Int)(o9:List (den aG))(jj:List (den aL))(iH:List (den aJ))(m1:List (den aH))(m2:List (den aS))(m3:List Int)(m4:List (den ak))(m5:List (den ak))(m6:List (den aC))(m7:List (den aR))(m8:Int)(m9:List (den aG))(bD:List (den aL))(bE:List (den aJ))(G:List (den aC))(hl:G.length<=1000000)(hG: ∀ g:den aC,g∈G->0<g.2.2.length):gG wI (aA gX (o1,o2,o3,o4,o5,o6,o7,o8,o9,jj,iH,[],[],[],m1,m2,m3,m4,m5,m6,m7,m8,m9,bD,bE,G,(G.length:Int),((0:Nat):Int),())) 0 (aA gx (o1,o2,o3,o4,o5,o6,o7,o8,o9,jj,iH,(gA G).1,(gA G).2.1,(gA G).2.2,m1,m2,m3,m4,m5,m6,m7,m8,m9,bD,bE,())):=by
 have h0:aA gX (o1,o2,o3,o4,o5,o6,o7,o8,o9,jj,iH,[],[],[],m1,m2,m3,m4,m5,m6,m7,m8,m9,bD,bE,G,(G.length:Int),((0:Nat):Int),())=aA gX (o1,o2,o3,o4,o5,o6,o7,o8,o9,jj,iH,(gA (G.take 0)).1,(gA (G.take 0)).2.1,(gA (G.take 0)).2.2,m1,m2,m3,m4,m5,m6,m7,m8,m9,bD,bE,G,(G.length:Int),((0:Nat):Int),()):=by rw[List.take_zero];rfl
 have h1:gA G=gA (G.take G.length):=by rw[List.take_length]
 rw[h0,h1]
 refine nc G.length (fun j=>aA gX (o1,o2,o3,o4,o5,o6,o7,o8,o9,jj,iH,(gA (G.take j)).1,(gA (G.take j)).2.1,(gA (G.take j)).2.2,m1,m2,m3,m4,m5,m6,m7,m8,m9,bD,bE,G,(G.length:Int),(j:Int),())) _ (fun j hj=>?_) ?_
 ·have hn:=vj G j (by omega)
  rw[EE G j hj]
  generalize gA (G.take j)=p at hn
  obtain⟨v,a,b⟩:=p
  have SM:=hG _ (kf hj (ao aC))
  refine(Pj o1 o2 o3 o4 o5 o6 o7 o8 o9 jj iH m1 m2 m3 m4 m5 m6 m7 m8 m9 bD bE v a b G (G.length:Int) (j:Int)).trans ?_
  rw[Int.toNat_natCast]
  generalize G.getD j (ao aC)=g at SM
  obtain⟨n1,n2,n3⟩:=hn
  have n1:v.length<=2*j:=n1
  have n2:a.length<=2*j:=n2
  have n3:b.length=j:=n3
  rw[dt (show(j:Int)<(G.length:Int) by omega),show aU (j:Int) (G.length:Int)=true from bX hj,Ep (by omega),show aU 0 (List.length g.2.2:Int)=true from bX (j:=0) SM,bJ (by decide) (show b.length+[(v.length:Int)].length<=1099511627776 by show b.length+1<=_;omega)]
  have r1: ∀ x:Int,roomy 8 (v.length+[x].length)=true:=fun x=>bJ (by decide) (by show v.length+1<=_;omega)
  have r2: ∀ x:Int,roomy 8 (a.length+[x].length)=true:=fun x=>bJ (by decide) (by show a.length+1<=_;omega)
  have r3: ∀ x y:Int,roomy 8 ((app v [x]).length+[y].length)=true:=fun x y=>bJ (by decide) (by rw[bp,List.length_append];show v.length+1+1<=_;omega)
  have r4: ∀ x y:Int,roomy 8 ((app a [x]).length+[y].length)=true:=fun x y=>bJ (by decide) (by rw[bp,List.length_append];show a.length+1+1<=_;omega)
  rw[r1,r2,r3,r4,r2,r4]
  unfold UP
  cases aqJ:decide (g.1=127)<;>cases aqK:decide (g.1=123)<;>rfl
 ·generalize gA (G.take G.length)=p
  obtain⟨v,a,b⟩:=p
  refine(Pj o1 o2 o3 o4 o5 o6 o7 o8 o9 jj iH m1 m2 m3 m4 m5 m6 m7 m8 m9 bD bE v a b G (G.length:Int) (G.length:Int)).trans ?_
  rw[df (show ¬ (G.length:Int)<(G.length:Int) by omega)]
  rfl
theorem UR:(aa2 ([-1],3,())).val=aM (rk Cp qi po ([-1,0,0],1,())) (some (aA Ex (gM Cp qi po ([-1,0,0],1,())))):=by kernel_rfl
theorem abb:Kt ([-1],3,())=true/\Ku ([-1],3,())=([-1,-1,-1],()):=by
 have R:gG Cp (aA qi ([-1,0,0],1,())) 0 (aA po ([-1,-1,-1],())):=by
  refine .more (pl':=aA qi ([-1,-1,0],2,())) (by kernel_rfl) (.more (pl':=aA qi ([-1,-1,-1],3,())) (by kernel_rfl) (.last (by kernel_rfl)))
 obtain⟨q1,q2⟩:=lM R
 refine vi (bR _) (bR _) ?_
 rw[UR,q1,q2]
 rfl
end Go.Proofs.Vd

noncomputable section
namespace Go.Proofs.Vd
open Go.Ab Go.Ab.Lf
set_option maxRecDepth 100000
abbrev KN(c:List (den tI)):Int:=(List.getD c (0:Int).toNat (ao tI)).2.2.2.1
def Seg(c:List (den tI))(n:Nat):Prop:=0<c.length/\n<=1099511627776/\ ∃ p:Nat,KN c=(p:Int)/\p<4294967296
def vk(tab:List Int)(p:Int)(y:List Int):Option (List Int):=bif decide ((tab.length:Int)<p+(y.length:Int))then none else some (KM tab p.toNat (tab.length - p.toNat) y)
def layAll(tab:List Int)(l:List (Int×List Int)):Option (List Int):=l.foldl (fun t x=>t.bind fun t=>vk t x.1 x.2) (some tab)
theorem EF(l:List (Int×List Int)):l.foldl (fun t x=>t.bind fun t=>vk t x.1 x.2) none=none:=by
 induction l with
 |nil=>rfl
 |cons a l ih=>exact ih
theorem rK(tab:List Int)(x:Int×List Int)(l:List (Int×List Int)):layAll tab (x::l)=(vk tab x.1 x.2).bind fun t=>layAll t l:=by
 unfold layAll
 rw[List.foldl_cons]
 show List.foldl _ (vk tab x.1 x.2) l=_
 cases vk tab x.1 x.2 with
 |none=>exact EF l
 |some t=>rfl
theorem zl{tab t:List Int}{p:Int}(h0:0<=p){y:List Int}(h:vk tab p y=some t):t.length=tab.length/\p+(y.length:Int)<=(tab.length:Int):=by
 unfold vk at h
 by_cases q:(tab.length:Int)<p+(y.length:Int)
 ·rw[dt q]at h;cases h
 ·rw[df q,cond_false]at h
  injection h with h
  subst h
  refine⟨?_,by omega⟩
  simp only[bp,List.length_append,List.length_take,List.length_drop]
  show _+(_+(_ - (p.toNat+_)))=_
  omega
theorem afv{p n:Nat}(hp:p<4294967296)(hn:n<=1099511627776):bw .u64 (p:Int) (bq .u64 (n:Int))=((p+n:Nat):Int):=by
 rw[UI (by omega)]
 exact(wrap_u64 (by omega) (by omega)).trans (by omega)
theorem abc{p n b:Nat}(hp:p<4294967296)(hn:n<=1099511627776)(hb:b<=1099511627776):(!(bif decide (bq .u64 (n:Int)<=bq .u64 (b:Int))then decide ((p:Int)<=bQ .u64 (bq .u64 (b:Int)) (bq .u64 (n:Int)))else false))=decide ((b:Int)<(p:Int)+(n:Int)):=by
 rw[UI (k:=n) (by omega),UI (k:=b) (by omega)]
 by_cases h:(n:Int)<=(b:Int)
 ·have e:bQ .u64 (b:Int) (n:Int)=((b - n:Nat):Int):=(wrap_u64 (by omega) (by omega)).trans (by omega)
  rw[dt h,e,cond_true]
  clear e
  by_cases h2:(p:Int)<=((b - n:Nat):Int)
  ·rw[dt h2,df (show ¬ (b:Int)<(p:Int)+(n:Int) by omega)];rfl
  ·rw[df h2,dt (show(b:Int)<(p:Int)+(n:Int) by omega)];rfl
 ·rw[df h,dt (show(b:Int)<(p:Int)+(n:Int) by omega)];rfl
theorem WV{p b:Nat}(h:p<=b):eK (p:Int) (b:Int) (b:Int)=true:=by
 unfold eK
 rw[dt (show(0:Int)<=(p:Int) by omega),dt (show(p:Int)<=(b:Int) by omega),dt (Int.le_refl _)]
 rfl
theorem drop_cons{α:Type}(l:List α)(j:Nat)(d:α)(h:j<l.length):l.drop j=l.getD j d::l.drop (j+1):=by
 rw[List.drop_eq_getElem_cons h,List.getD_eq_getElem?_getD,List.getElem?_eq_getElem h]
 rfl
theorem afw(o1:List (den aH))(o2:List (den aS))(o3:List Int)(o4:List (den ak))(o5:List (den ak))(o6:List (den aC))(o7:List (den aR))(o8:Int)(o9:List (den aG))(jj:List (den aL))(iH:List (den aJ))(m1:List (den aH))(m2:List (den aS))(m3:List Int)(m4:List (den ak))(m5:List (den ak))(m6:List (den aC))(m7:List (den aR))(m8:Int)(m9:List (den aG))(bD:List (den aL))(bE:List (den aJ))(v a b bs:List Int)(mo:Int)(G:List (den aG))(hl:G.length<=1000000)(hG: ∀ g:den aG,g∈G->Seg g.1 g.2.length): ∀ (k j:Nat) (tab:List Int),j+k=G.length->tab.length<=1099511627776->
 match layAll tab ((G.drop j).map fun g=>(KN g.1,g.2))with
 |some t=>gG ku (aA eU (o1,o2,o3,o4,o5,o6,o7,o8,o9,jj,iH,v,a,b,tab,m1,m2,m3,m4,m5,m6,m7,m8,m9,bD,bE,bs,mo,G,(G.length:Int),(j:Int),())) 0 (aA fM (o1,o2,o3,o4,o5,o6,o7,o8,o9,jj,iH,v,a,b,t,m1,m2,m3,m4,m5,m6,m7,m8,m9,bD,bE,bs,mo,()))
 |none=>gG ku (aA eU (o1,o2,o3,o4,o5,o6,o7,o8,o9,jj,iH,v,a,b,tab,m1,m2,m3,m4,m5,m6,m7,m8,m9,bD,bE,bs,mo,G,(G.length:Int),(j:Int),())) 1 (aA jw (13,())):=by
 intro k
 induction k with
 |zero=>
  intro j tab h _
  have hj:j=G.length:=by omega
  subst hj
  rw[List.drop_length]
  refine .last ((Pk o1 o2 o3 o4 o5 o6 o7 o8 o9 jj iH m1 m2 m3 m4 m5 m6 m7 m8 m9 bD bE v a b tab bs mo G (G.length:Int) (G.length:Int)).trans ?_)
  rw[df (show ¬ (G.length:Int)<(G.length:Int) by omega)]
  rfl
 |succ k ih=>
  intro j tab h ht
  have hj:j<G.length:=by omega
  have e:=Pk o1 o2 o3 o4 o5 o6 o7 o8 o9 jj iH m1 m2 m3 m4 m5 m6 m7 m8 m9 bD bE v a b tab bs mo G (G.length:Int) (j:Int)
  obtain⟨g0,hn,p,hp,hp2⟩:=hG _ (kf hj (ao aG))
  rw[drop_cons G j (ao aG) hj,List.map_cons,rK]
  rw[Int.toNat_natCast]at e
  generalize G.getD j (ao aG)=g at g0 hn hp e
  have hp':(List.getD g.1 (0:Int).toNat (ao tI)).2.2.2.1=(p:Int):=hp
  rw[hp']at e
  rw[show KN g.1=(p:Int)from hp]
  rw[dt (show(j:Int)<(G.length:Int) by omega),show aU (j:Int) (G.length:Int)=true from bX hj,Ep (by omega),show aU 0 (List.length g.1:Int)=true from bX (j:=0) g0,afv hp2 hn,UI (k:=tab.length) (by omega),cond_true,kt rfl,kt rfl,Int.toNat_natCast,Int.toNat_natCast]at e
  unfold vk
  by_cases q:(tab.length:Int)<(p:Int)+(g.2.length:Int)
  ·rw[dt (show(tab.length:Int)<((p+g.2.length:Nat):Int) by omega),cond_true]at e
   rw[dt q]
   exact .last e
  ·rw[df (show ¬ (tab.length:Int)<((p+g.2.length:Nat):Int) by omega),cond_false,WV (by omega),kt rfl]at e
   rw[df q,cond_false,Int.toNat_natCast]
   have hl2:(KM tab p (tab.length - p) g.2).length=tab.length:=(zl (tab:=tab) (p:=(p:Int)) (y:=g.2) (by omega) (by unfold vk;rw[df q,Int.toNat_natCast];rfl)).1
   have r:=ih (j+1) (KM tab p (tab.length - p) g.2) (by omega) (by omega)
   show match layAll (KM tab p (tab.length - p) g.2) ((G.drop (j+1)).map fun g=>(KN g.1,g.2))with|some t=>_|none=>_
   cases hq:layAll (KM tab p (tab.length - p) g.2) ((G.drop (j+1)).map fun g=>(KN g.1,g.2))with
   |none=>rw[hq]at r;exact .more e r
   |some t=>rw[hq]at r;exact .more e r
theorem afx(m1:List (den aH))(m2:List (den aS))(m3:List Int)(m4:List (den ak))(m5:List (den ak))(m6:List (den aC))(m7:List (den aR))(m8:Int)(m9:List (den aG))(bD:List (den aL))(bE:List (den aJ))(v a b tab:List Int)(mo:Int)(G:List (den aJ))(hl:G.length<=1000000)(hG: ∀ g:den aJ,g∈G->Seg g.1 g.2.length): ∀ (k j:Nat) (bs:List Int),j+k=G.length->bs.length<=1099511627776->
 match layAll bs ((G.drop j).map fun g=>(KN g.1,g.2))with
 |some t=>gG kA (aA eX (v,a,b,tab,m1,m2,m3,m4,m5,m6,m7,m8,m9,bD,bE,bs,mo,G,(G.length:Int),(j:Int),())) 0 (aA fN (v,a,b,tab,m1,m2,m3,m4,m5,m6,m7,m8,m9,bD,bE,t,mo,()))
 |none=>gG kA (aA eX (v,a,b,tab,m1,m2,m3,m4,m5,m6,m7,m8,m9,bD,bE,bs,mo,G,(G.length:Int),(j:Int),())) 1 (aA jx (14,())):=by
 intro k
 induction k with
 |zero=>
  intro j bs h _
  have hj:j=G.length:=by omega
  subst hj
  rw[List.drop_length]
  refine .last ((Pm m1 m2 m3 m4 m5 m6 m7 m8 m9 bD bE v a b tab bs mo G (G.length:Int) (G.length:Int)).trans ?_)
  rw[df (show ¬ (G.length:Int)<(G.length:Int) by omega)]
  rfl
 |succ k ih=>
  intro j bs h ht
  have hj:j<G.length:=by omega
  have e:=Pm m1 m2 m3 m4 m5 m6 m7 m8 m9 bD bE v a b tab bs mo G (G.length:Int) (j:Int)
  obtain⟨g0,hn,p,hp,hp2⟩:=hG _ (kf hj (ao aJ))
  rw[drop_cons G j (ao aJ) hj,List.map_cons,rK]
  rw[Int.toNat_natCast]at e
  generalize G.getD j (ao aJ)=g at g0 hn hp e
  have hp':(List.getD g.1 (0:Int).toNat (ao tI)).2.2.2.1=(p:Int):=hp
  rw[hp']at e
  rw[show KN g.1=(p:Int)from hp]
  rw[dt (show(j:Int)<(G.length:Int) by omega),show aU (j:Int) (G.length:Int)=true from bX hj,Ep (by omega),show aU 0 (List.length g.1:Int)=true from bX (j:=0) g0,abc hp2 hn (by omega),cond_true,kt rfl,kt rfl,Int.toNat_natCast,Int.toNat_natCast]at e
  unfold vk
  by_cases q:(bs.length:Int)<(p:Int)+(g.2.length:Int)
  ·rw[dt q,cond_true]at e
   rw[dt q]
   exact .last e
  ·rw[df q,cond_false,WV (by omega),kt rfl]at e
   rw[df q,cond_false,Int.toNat_natCast]
   have hl2:(KM bs p (bs.length - p) g.2).length=bs.length:=(zl (tab:=bs) (p:=(p:Int)) (y:=g.2) (by omega) (by unfold vk;rw[df q,Int.toNat_natCast];rfl)).1
   have r:=ih (j+1) (KM bs p (bs.length - p) g.2) (by omega) (by omega)
   show match layAll (KM bs p (bs.length - p) g.2) ((G.drop (j+1)).map fun g=>(KN g.1,g.2))with|some t=>_|none=>_
   cases hq:layAll (KM bs p (bs.length - p) g.2) ((G.drop (j+1)).map fun g=>(KN g.1,g.2))with
   |none=>rw[hq]at r;exact .more e r
   |some t=>rw[hq]at r;exact .more e r
end Go.Proofs.Vd

noncomputable section
namespace Go.Proofs.Vd
open Go.Ab Go.Ab.Lf
set_option maxRecDepth 100000
theorem Pp(V:ByteArray->Bool)(m1:List (den aH))(m2:List (den aS))(m3:List Int)(m4:List (den ak))(m5:List (den ak))(m6:List (den aC))(m7:List (den aR))(m8:Int)(m9:List (den aG))(bD:List (den aL))(bE:List (den aJ))(o1:List (den aH))(o2:List (den aS))(o3:List Int)(o4:List (den ak))(o6:List (den aC))(o7:List (den aR))(o8:Int)(o9:List (den aG))(jj:List (den aL))(iH:List (den aJ))(c1:List (den aH))(c2:List (den aS))(c3:List Int)(c4:List (den ak))(c5:List (den ak))(c6:List (den aC))(c7:List (den aR))(c8:Int)(c9:List (den aG))(c10:List (den aL))(c11:List (den aJ))(v a b tab:List Int)(X2:aj eU)(WL:X2=(o1,o2,o3,o4,[((1:Int),(-1:Int))],o6,o7,o8,o9,jj,iH,v,a,b,tab,c1,c2,c3,c4,c5,c6,c7,c8,c9,c10,c11,List.replicate 65536 0,-1,o9,(o9.length:Int),0,()))(w:aj fM)(hw:w=gM ku eU fM X2)(X4:aj eX)(WM:X4=(w.2.2.2.2.2.2.2.2.2.2.2.1,w.2.2.2.2.2.2.2.2.2.2.2.2.1,w.2.2.2.2.2.2.2.2.2.2.2.2.2.1,w.2.2.2.2.2.2.2.2.2.2.2.2.2.2.1,w.2.2.2.2.2.2.2.2.2.2.2.2.2.2.2.1,w.2.2.2.2.2.2.2.2.2.2.2.2.2.2.2.2.1,w.2.2.2.2.2.2.2.2.2.2.2.2.2.2.2.2.2.1,w.2.2.2.2.2.2.2.2.2.2.2.2.2.2.2.2.2.2.1,w.2.2.2.2.2.2.2.2.2.2.2.2.2.2.2.2.2.2.2.1,w.2.2.2.2.2.2.2.2.2.2.2.2.2.2.2.2.2.2.2.2.1,w.2.2.2.2.2.2.2.2.2.2.2.2.2.2.2.2.2.2.2.2.2.1,w.2.2.2.2.2.2.2.2.2.2.2.2.2.2.2.2.2.2.2.2.2.2.1,w.2.2.2.2.2.2.2.2.2.2.2.2.2.2.2.2.2.2.2.2.2.2.2.1,w.2.2.2.2.2.2.2.2.2.2.2.2.2.2.2.2.2.2.2.2.2.2.2.2.1,w.2.2.2.2.2.2.2.2.2.2.2.2.2.2.2.2.2.2.2.2.2.2.2.2.2.1,w.2.2.2.2.2.2.2.2.2.2.2.2.2.2.2.2.2.2.2.2.2.2.2.2.2.2.1,w.2.2.2.2.2.2.2.2.2.2.2.2.2.2.2.2.2.2.2.2.2.2.2.2.2.2.2.1,w.2.2.2.2.2.2.2.2.2.2.1,(List.length w.2.2.2.2.2.2.2.2.2.2.1:Int),0,()))(u:aj fN)(hu:u=gM kA eX fN X4):
 Cq V m1 m2 m3 m4 m5 m6 m7 m8 m9 bD bE (o1,o2,o3,o4,[((1:Int),(-1:Int))],o6,o7,o8,o9,jj,iH,v,a,b,c1,c2,c3,c4,c5,c6,c7,c8,c9,c10,c11,()) (1,-1) tab=aM (r5 ku eU fM jw X2) (bif qK ku eU X2 then aM (r5 kA eX fN jx X4) (bif qK kA eX X4 then some (aA G1 (u.1,u.2.1,u.2.2.1,u.2.2.2.1,u.2.2.2.2.1,u.2.2.2.2.2.1,u.2.2.2.2.2.2.1,u.2.2.2.2.2.2.2.1,u.2.2.2.2.2.2.2.2.1,u.2.2.2.2.2.2.2.2.2.1,u.2.2.2.2.2.2.2.2.2.2.1,u.2.2.2.2.2.2.2.2.2.2.2.1,u.2.2.2.2.2.2.2.2.2.2.2.2.1,u.2.2.2.2.2.2.2.2.2.2.2.2.2.1,u.2.2.2.2.2.2.2.2.2.2.2.2.2.2.1,u.2.2.2.2.2.2.2.2.2.2.2.2.2.2.2.1,u.2.2.2.2.2.2.2.2.2.2.2.2.2.2.2.2.1,0,()))else none)else none):=by
 subst hu;subst WM;subst hw;subst WL
 kernel_rfl
end Go.Proofs.Vd

noncomputable section
namespace Go.Proofs.Vd
open Go.Ab Go.Ab.Lf
set_option maxRecDepth 100000
theorem WW(o lo hi:Int):LI (eC o lo hi):=⟨(show 2<=1099511627776 by decide),fun x hx=>by
 rcases List.mem_cons.1 hx with q|q
 ·rw[q];exact Nat.zero_le _
 ·rw[show x=(11,0,0,0,0,[]) by simpa using q];exact Nat.zero_le _⟩
theorem abd:LI [iC 11 0 0]:=⟨(show 1<=1099511627776 by decide),fun x hx=>by
 rw[show x=(11,0,0,0,0,[]) by simpa using hx];exact Nat.zero_le _⟩
theorem mbS{G:List (den aC)}(hl:G.length<=500)(hG: ∀ g,g∈G->gC g):MB ([([],[])]) ([]) ([0]) ([((3:Int),(-1:Int))]) ([((1:Int),(-1:Int))]) (G) ([]) (-1) ([(eC 65 1 0,[0])]) ([([],[iC 11 0 0])]) ([(eC 65 4 0,[5])]):=by
 refine⟨by decide,by decide,by decide,by decide,by decide,by omega,by decide,by show 1<=1099511627776;decide,by show 1<=1099511627776;decide,by show 1<=1099511627776;decide,fun x hx=>?_,fun x hx=>?_,fun x hx=>?_,fun x hx=>?_,fun x hx=>?_⟩
 ·rw[show x=([],[]) by simpa using hx];exact⟨Nat.zero_le _,Nat.zero_le _⟩
 ·obtain⟨_,o,lo,hi,h⟩:=hG x hx
  exact h.wr.2.2.2.2.2
 ·rw[show x=(eC 65 1 0,[0]) by simpa using hx];exact⟨WW _ _ _,(show 1<=1099511627776 by decide)⟩
 ·rw[show x=([],[iC 11 0 0]) by simpa using hx];exact⟨Nat.zero_le _,abd⟩
 ·rw[show x=(eC 65 4 0,[5]) by simpa using hx];exact⟨WW _ _ _,(show 1<=1099511627776 by decide)⟩
theorem Pq{lo:Int}(h0:0<=lo)(h1:lo<4294967296){n:Nat}(hn:n<=1099511627776):Seg (eC 65 lo 0) n:=⟨(show 0<2 by decide),hn,lo.toNat,(show lo=_ by omega),by omega⟩
theorem abe{g:den aC}(h:gC g):0<g.2.2.length:=by
 obtain⟨_,o,lo,hi,hc⟩:=h
 rw[hc.c]
 show 0<2
 decide
theorem akC(R:List Int->Option (List Pl))(T:Int):(bif decide ((0:Int)<(List.length [((T:Int),(-1:Int))]:Int))then aM (aU 0 (List.length [((T:Int),(-1:Int))]:Int)) (aM (Kt ([-1],(List.getD [((T:Int),(-1:Int))] (0:Int).toNat (ao ak)).1,())) (R (Ku ([-1],(List.getD [((T:Int),(-1:Int))] (0:Int).toNat (ao ak)).1,())).1))else R [])=aM (Kt ([-1],T,())) (R (Ku ([-1],T,())).1):=rfl
theorem akD(V:ByteArray->Bool){G:List (den aC)}(hl:G.length<=500)(hG: ∀ g,g∈G->gC g)(h0:iM V (yS G)=0): ∃ bs:List Int,bs.length=65536/\kz8 V (yS G)=true/\mz8 V (yS G)=((gA G).1,(gA G).2.1,(gA G).2.2,[-1,0,-1],[([],[])],[],[0],[((3:Int),(-1:Int))],[((1:Int),(-1:Int))],G,[],-1,[(eC 65 1 0,[0])],[([],[iC 11 0 0])],[(eC 65 4 0,[5])],bs,-1,0,()):=by
 obtain⟨k1,_⟩:=aba V hl hG
 obtain⟨c1,c2⟩:=akh ([([],[])]) ([]) ([0]) ([((3:Int),(-1:Int))]) ([((1:Int),(-1:Int))]) (G) ([]) (-1) ([(eC 65 1 0,[0])]) ([([],[iC 11 0 0])]) ([(eC 65 4 0,[5])]) (mbS hl hG)
 have q0:=lM (afu ([([],[])]) ([]) ([0]) ([((3:Int),(-1:Int))]) ([((1:Int),(-1:Int))]) (G) ([]) (-1) ([(eC 65 1 0,[0])]) ([([],[iC 11 0 0])]) ([(eC 65 4 0,[5])]) ([([],[])]) ([]) ([0]) ([((3:Int),(-1:Int))]) ([((1:Int),(-1:Int))]) (G) ([]) (-1) ([(eC 65 1 0,[0])]) ([([],[iC 11 0 0])]) ([(eC 65 4 0,[5])]) G (by omega) (fun g hg=>abe (hG g hg)))
 obtain⟨t1,t2⟩:=abb
 obtain⟨Z,hZ⟩: ∃ Z,Z=List.replicate 65536 (0:Int):=⟨_,rfl⟩
 have hz:Z.length=65536:=by rw[hZ];exact List.length_replicate ..
 have r2:=afw ([([],[])]) ([]) ([0]) ([((3:Int),(-1:Int))]) ([((1:Int),(-1:Int))]) (G) ([]) (-1) ([(eC 65 1 0,[0])]) ([([],[iC 11 0 0])]) ([(eC 65 4 0,[5])]) ([([],[])]) ([]) ([0]) ([((3:Int),(-1:Int))]) ([((1:Int),(-1:Int))]) (G) ([]) (-1) ([(eC 65 1 0,[0])]) ([([],[iC 11 0 0])]) ([(eC 65 4 0,[5])]) (gA G).1 (gA G).2.1 (gA G).2.2 Z (-1) [(eC 65 1 0,[0])] (by decide) (fun g hg=>by rw[show g=(eC 65 1 0,[0]) by simpa using hg];exact Pq (by decide) (by decide) (show 1<=1099511627776 by decide)) 1 0 [-1,-1,-1] rfl (by decide)
 have e2:layAll [-1,-1,-1] ((([(eC 65 1 0,[0])]:List (den aG)).drop 0).map fun g=>(KN g.1,g.2))=some [-1,0,-1]:=by kernel_rfl
 rw[e2]at r2
 obtain⟨p1,p2,p3⟩:=rq (f:=ku) (ti:=eU) (t0:=fM) (t1:=jw) r2
 obtain⟨X2,WL⟩: ∃ X2:aj eU,X2=([([],[])],[],[0],[((3:Int),(-1:Int))],[((1:Int),(-1:Int))],G,[],-1,[(eC 65 1 0,[0])],[([],[iC 11 0 0])],[(eC 65 4 0,[5])],(gA G).1,(gA G).2.1,(gA G).2.2,[-1,-1,-1],[([],[])],[],[0],[((3:Int),(-1:Int))],[((1:Int),(-1:Int))],G,[],-1,[(eC 65 1 0,[0])],[([],[iC 11 0 0])],[(eC 65 4 0,[5])],Z,-1,[(eC 65 1 0,[0])],(([(eC 65 1 0,[0])]:List (den aG)).length:Int),0,()):=⟨_,rfl⟩
 have p1:r5 ku eU fM jw X2=true:=by rw[WL];exact p1
 have p2:qK ku eU X2=true:=by rw[WL];exact p2
 have p3:gM ku eU fM X2=([([],[])],[],[0],[((3:Int),(-1:Int))],[((1:Int),(-1:Int))],G,[],-1,[(eC 65 1 0,[0])],[([],[iC 11 0 0])],[(eC 65 4 0,[5])],(gA G).1,(gA G).2.1,(gA G).2.2,[-1,0,-1],[([],[])],[],[0],[((3:Int),(-1:Int))],[((1:Int),(-1:Int))],G,[],-1,[(eC 65 1 0,[0])],[([],[iC 11 0 0])],[(eC 65 4 0,[5])],Z,-1,()):=by rw[WL];exact p3
 have r4:=afx ([([],[])]) ([]) ([0]) ([((3:Int),(-1:Int))]) ([((1:Int),(-1:Int))]) (G) ([]) (-1) ([(eC 65 1 0,[0])]) ([([],[iC 11 0 0])]) ([(eC 65 4 0,[5])]) (gA G).1 (gA G).2.1 (gA G).2.2 [-1,0,-1] (-1) [(eC 65 4 0,[5])] (by decide) (fun g hg=>by rw[show g=(eC 65 4 0,[5]) by simpa using hg];exact Pq (by decide) (by decide) (show 1<=1099511627776 by decide)) 1 0 Z rfl (by omega)
 obtain⟨bs,hbs,e4⟩: ∃ bs:List Int,bs.length=65536/\layAll Z ((([(eC 65 4 0,[5])]:List (den aJ)).drop 0).map fun g=>(KN g.1,g.2))=some bs:=by
  have e:layAll Z ((([(eC 65 4 0,[5])]:List (den aJ)).drop 0).map fun g=>(KN g.1,g.2))=(vk Z 4 [5]).bind fun t=>some t:=by
   show layAll Z [((4:Int),[(5:Int)])]=_
   rw[rK]
   rfl
  have e1:vk Z 4 [5]=some (KM Z (4:Int).toNat (Z.length - (4:Int).toNat) [5]):=by
   unfold vk
   rw[df (show ¬ (Z.length:Int)<4+(([5]:List Int).length:Int) by rw[hz];decide)]
   rfl
  exact⟨_,(zl (by decide) e1).1.trans hz,by rw[e,e1];rfl⟩
 rw[e4]at r4
 obtain⟨u1,u2,u3⟩:=rq (f:=kA) (ti:=eX) (t0:=fN) (t1:=jx) r4
 obtain⟨X4,WM⟩: ∃ X4:aj eX,X4=((gA G).1,(gA G).2.1,(gA G).2.2,[-1,0,-1],[([],[])],[],[0],[((3:Int),(-1:Int))],[((1:Int),(-1:Int))],G,[],-1,[(eC 65 1 0,[0])],[([],[iC 11 0 0])],[(eC 65 4 0,[5])],Z,-1,[(eC 65 4 0,[5])],(([(eC 65 4 0,[5])]:List (den aJ)).length:Int),0,()):=⟨_,rfl⟩
 have u1:r5 kA eX fN jx X4=true:=by rw[WM];exact u1
 have u2:qK kA eX X4=true:=by rw[WM];exact u2
 have u3:gM kA eX fN X4=((gA G).1,(gA G).2.1,(gA G).2.2,[-1,0,-1],[([],[])],[],[0],[((3:Int),(-1:Int))],[((1:Int),(-1:Int))],G,[],-1,[(eC 65 1 0,[0])],[([],[iC 11 0 0])],[(eC 65 4 0,[5])],bs,-1,()):=by rw[WM];exact u3
 refine⟨bs,hbs,vi (bR _) (bR _) ?_⟩
 have E:=akr V ([([],[])]) ([]) ([0]) ([((3:Int),(-1:Int))]) ([((1:Int),(-1:Int))]) (G) ([]) (-1) ([(eC 65 1 0,[0])]) ([([],[iC 11 0 0])]) ([(eC 65 4 0,[5])]) _ c2.symm _ rfl _ q0.2.symm ((1:Int),(-1:Int)) rfl
 rw[k1,h0,c1,show rk wI gX gx ([([],[])],[],[0],[((3:Int),(-1:Int))],[((1:Int),(-1:Int))],G,[],-1,[(eC 65 1 0,[0])],[([],[iC 11 0 0])],[(eC 65 4 0,[5])],[],[],[],[([],[])],[],[0],[((3:Int),(-1:Int))],[((1:Int),(-1:Int))],G,[],-1,[(eC 65 1 0,[0])],[([],[iC 11 0 0])],[(eC 65 4 0,[5])],G,(G.length:Int),0,())=true from q0.1]at E
 rw[kt rfl,show(!decide ((0:Int)=0))=false from rfl,cond_false,kt rfl,kt rfl]at E
 have E:=E.trans (akC (fun tab=>Cq V ([([],[])]) ([]) ([0]) ([((3:Int),(-1:Int))]) ([((1:Int),(-1:Int))]) (G) ([]) (-1) ([(eC 65 1 0,[0])]) ([([],[iC 11 0 0])]) ([(eC 65 4 0,[5])]) ([([],[])],[],[0],[((3:Int),(-1:Int))],[((1:Int),(-1:Int))],G,[],-1,[(eC 65 1 0,[0])],[([],[iC 11 0 0])],[(eC 65 4 0,[5])],(gA G).1,(gA G).2.1,(gA G).2.2,[([],[])],[],[0],[((3:Int),(-1:Int))],[((1:Int),(-1:Int))],G,[],-1,[(eC 65 1 0,[0])],[([],[iC 11 0 0])],[(eC 65 4 0,[5])],()) (1,-1) tab) 3)
 rw[t1,t2,kt rfl]at E
 refine E.trans ?_
 have R:=Pp V ([([],[])]) ([]) ([0]) ([((3:Int),(-1:Int))]) ([((1:Int),(-1:Int))]) (G) ([]) (-1) ([(eC 65 1 0,[0])]) ([([],[iC 11 0 0])]) ([(eC 65 4 0,[5])]) ([([],[])]) ([]) ([0]) ([((3:Int),(-1:Int))]) (G) ([]) (-1) ([(eC 65 1 0,[0])]) ([([],[iC 11 0 0])]) ([(eC 65 4 0,[5])]) ([([],[])]) ([]) ([0]) ([((3:Int),(-1:Int))]) ([((1:Int),(-1:Int))]) (G) ([]) (-1) ([(eC 65 1 0,[0])]) ([([],[iC 11 0 0])]) ([(eC 65 4 0,[5])]) (gA G).1 (gA G).2.1 (gA G).2.2 [-1,-1,-1] X2 (by rw[WL,hZ]) _ p3.symm X4 (by rw[WM]) _ u3.symm
 rw[p1,p2,u1,u2]at R
 exact R
theorem afy(V:ByteArray->Bool){G:List (den aC)}(hl:G.length<=500)(hG: ∀ g,g∈G->gC g)(h4:iM V (yS G)=4):ky8 V (yS G)=true/\my8 V (yS G)=(4,()):=by
 obtain⟨k1,_⟩:=aba V hl hG
 refine vi (bR _) (bR _) ?_
 refine(aks V ([([],[])]) ([]) ([0]) ([((3:Int),(-1:Int))]) ([((1:Int),(-1:Int))]) (G) ([]) (-1) ([(eC 65 1 0,[0])]) ([([],[iC 11 0 0])]) ([(eC 65 4 0,[5])]) _ rfl _ rfl _ rfl _ rfl).trans ?_
 rw[k1,h4]
 rfl
end Go.Proofs.Vd

noncomputable section
namespace Go.Proofs.Vd
open Go.Ab Go.Ab.Lf
set_option maxRecDepth 100000
abbrev cJ:Ty:=.pair u8 (.pair u8 (.pair u8 (.pair u8 (.pair u8 (.pair u8 (.pair u8 (.pair u8 (.pair u8 (.pair u8 (.pair u8 (.pair u8 (.pair u8 (.pair u8 (.pair u8 (u8)))))))))))))))
def sAw:cR:=hU (Ps []) [] (Ps [.bo]) [] [.bool] fun _=>.ok (true,())
structure zm(V:ByteArray->Bool)(aq:aB):Prop extends WorldS V aq where
 aw:sAw.Ok 6 aq
abbrev wJ:List Ty:=[u8,u8,u8,u8,u8,u8,u8,u8,u8,u8,u8,u8,u8,u8,u8,u8]
abbrev vm:List Ty:=[u64,u64]
def afA:List (Nat×cR):=[]
theorem US{V:ByteArray->Bool}{aq:aB}(W:WorldS V aq):db aq afA:=.nil
def abf(x:aj wJ):Lf.T (List Pl):=iN (Ps [.ag (Ps [.n .u8,.n .u8,.n .u8,.n .u8,.n .u8,.n .u8,.n .u8,.n .u8,.n .u8,.n .u8,.n .u8,.n .u8,.n .u8,.n .u8,.n .u8,.n .u8])]) [] (Ps [.ag (Ps [.n .u64,.n .u64])]) (fun _=>none) Tryz.x13 12 (dH afA 12) (aA wJ x)
def UT(x:aj wJ):Bool:=ke (jr vm (abf x))
def qI(x:aj wJ):aj vm:=ke (eA vm (abf x))
def abg:cR:=hU (Ps [.ag (Ps [.n .u8,.n .u8,.n .u8,.n .u8,.n .u8,.n .u8,.n .u8,.n .u8,.n .u8,.n .u8,.n .u8,.n .u8,.n .u8,.n .u8,.n .u8,.n .u8])]) [] (Ps [.ag (Ps [.n .u64,.n .u64])]) wJ vm fun x=>.ck (UT x) (.ok (qI x))
theorem IC{V:ByteArray->Bool}{aq:aB}(W:WorldS V aq):abg.Ok 13 aq:=
 eg (W.toWorld.in (US W) 12) (W.toWorld.st 13 _ rfl) rfl (aE _) (m:=12) rfl (fun _=>bR _) (fun _=>bR _)
abbrev eF:List Ty:=[.ae cJ,.ae u64,.ae i64,i64,i64]
abbrev gy:List Ty:=[.ae u64]
abbrev jQ:List Ty:=[i64]
def Cr:jX:=⟨0,fE Tryz.x14.code 0,[1,6,15,16,17],(Ps [.im cJ,.ow u64,.im i64,.n .i64,.n .i64]),[⟨.lL,[6],(Ps [.ow u64])⟩,⟨.rt,[4,5],(Ps [.av (.sc (.slice none 0 0)),.n .i64])⟩]⟩
def Pr:List (Nat×cR):=[(13,abg)]
theorem Kv{V:ByteArray->Bool}{aq:aB}(W:WorldS V aq):db aq Pr:=(.cons (IC W) .nil)
def kp:List Pl->Lf.T Rs:=Cr.step (fun _=>none) (dH Pr 3) 3
def Pt:fA:=tA Cr kp eF gy jQ
theorem Kw{V:ByteArray->Bool}{aq:aB}(W:WorldS V aq):dZ Rx.w Pt (fun n d=>gD (aq n d) n (.bl 0 (.lp Cr.body))):=hY (W.toWorld.in (Kv W) 3) (aE _) (m:=3) eF gy jQ
def akE:Nat->Option fA:=pX [(0,Pt)]
abbrev EG:List Ty:=[.ae i64,.ae cJ]
abbrev vn:List Ty:=[.ae u64,i64]
def afB:List (Nat×cR):=[]
theorem UU{V:ByteArray->Bool}{aq:aB}(W:WorldS V aq):db aq afB:=.nil
def abh(x:aj EG):Lf.T (List Pl):=iN (Ps [.im i64,.im cJ]) [] (Ps [.tu (Ps [.ow u64,.n .i64])]) akE Tryz.x14 3 (dH afB 3) (aA EG x)
def UW(x:aj EG):Bool:=ke (jr vn (abh x))
def abi(x:aj EG):aj vn:=ke (eA vn (abh x))
def abj:cR:=hU (Ps [.im i64,.im cJ]) [] (Ps [.tu (Ps [.ow u64,.n .i64])]) EG vn fun x=>.ck (UW x) (.ok (abi x))
theorem ID{V:ByteArray->Bool}{aq:aB}(W:WorldS V aq):abj.Ok 14 aq:=
 eg (W.toWorld.in (UU W) 3) (W.toWorld.st 14 _ rfl) rfl (fq.jl (.cons (b:=Cr.body) (by kernel_rfl) (Kw W) .nil)) (m:=3) rfl (fun _=>bR _) (fun _=>bR _)
abbrev gY:List Ty:=[.ae i64,.ae cJ,i64,u64,.ae aH,.ae aS,.ae i64,.ae ak,.ae ak,.ae aC,.ae aR,i64,.ae aG,.ae aL,.ae aJ,.ae i64,.ae cJ,i64]
abbrev fO:List Ty:=[i64,u64,.ae aH,.ae aS,.ae i64,.ae ak,.ae ak,.ae aC,.ae aR,i64,.ae aG,.ae aL,.ae aJ,.ae i64,.ae cJ]
def EH:jX:=⟨0,fE Tryz.x5.code 0,[0,1,7,8,9,10,11,12],(Ps [.im i64,.im cJ,.n .i64,.n .u64,.pt 0 (Ps [.im aH,.im aS,.im i64,.im ak,.im ak,.ow aC,.im aR,.n .i64,.im aG,.im aL,.im aJ]),.ow i64,.ow cJ,.n .i64]),[⟨.lL,[7,8,9,10,11],(Ps [.n .i64,.n .u64,.pt 0 (Ps [.im aH,.im aS,.im i64,.im ak,.im ak,.ow aC,.im aR,.n .i64,.im aG,.im aL,.im aJ]),.ow i64,.ow cJ])⟩]⟩
def WX:List (Nat×cR):=[(13,abg)]
theorem Pu{V:ByteArray->Bool}{aq:aB}(W:WorldS V aq):db aq WX:=(.cons (IC W) .nil)
def rL:List Pl->Lf.T Rs:=EH.step (fun _=>none) (dH WX 3) 3
def WY:fA:=rm EH rL gY fO
theorem EI{V:ByteArray->Bool}{aq:aB}(W:WorldS V aq):dZ Rx.w WY (fun n d=>gD (aq n d) n (.bl 0 (.lp EH.body))):=gb (W.toWorld.in (Pu W) 3) (aE _) (m:=3) gY fO
abbrev gz:List Ty:=[i64,u64,.ae i64,.ae u64,.ae i64,.ae i64,.ae i64,.ae aH,.ae aS,.ae i64,.ae ak,.ae ak,.ae aC,.ae aR,i64,.ae aG,.ae aL,.ae aJ,.ae u8,i64,.ae u64,i64,i64]
abbrev fP:List Ty:=[i64,u64,.ae u64,.ae i64,.ae i64,.ae i64,.ae aH,.ae aS,.ae i64,.ae ak,.ae ak,.ae aC,.ae aR,i64,.ae aG,.ae aL,.ae aJ,.ae u8,i64,.ae u64,i64]
abbrev jy:List Ty:=[.bool]
def EJ:jX:=⟨2,fE Tryz.x5.code 2,[7,8,10,16,19,21,22],(Ps [.n .i64,.n .u64,.im i64,.pt 0 (Ps [.ow u64,.im i64,.im i64,.ow i64,.im aH,.im aS,.im i64,.im ak,.im ak,.im aC,.im aR,.n .i64,.im aG,.im aL,.im aJ,.pt 0 (Ps [.ow u8,.n .i64])]),.ow u64,.n .i64,.n .i64]),[⟨.lL,[7,8,16,19,21],(Ps [.n .i64,.n .u64,.pt 0 (Ps [.ow u64,.im i64,.im i64,.ow i64,.im aH,.im aS,.im i64,.im ak,.im ak,.im aC,.im aR,.n .i64,.im aG,.im aL,.im aJ,.pt 0 (Ps [.ow u8,.n .i64])]),.ow u64,.n .i64])⟩,⟨.rt,[6],(Ps [.bo])⟩]⟩
def WZ:List (Nat×cR):=[]
theorem Pv{V:ByteArray->Bool}{aq:aB}(W:WorldS V aq):db aq WZ:=.nil
def qy:List Pl->Lf.T Rs:=EJ.step (fun _=>none) (dH WZ 3) 3
def W0:fA:=tA EJ qy gz fP jy
theorem EK{V:ByteArray->Bool}{aq:aB}(W:WorldS V aq):dZ Rx.w W0 (fun n d=>gD (aq n d) n (.bl 2 (.lp EJ.body))):=hY (W.toWorld.in (Pv W) 3) (aE _) (m:=3) gz fP jy
abbrev jk:List Ty:=[u64,.ae u64,.ae i64,.ae i64,.ae i64,.ae aH,.ae aS,.ae i64,.ae ak,.ae ak,.ae aC,.ae aR,i64,.ae aG,.ae aL,.ae aJ,.ae u8,i64,.ae u64,i64,i64]
abbrev jz:List Ty:=[u64,.ae u64,.ae i64,.ae i64,.ae i64,.ae aH,.ae aS,.ae i64,.ae ak,.ae ak,.ae aC,.ae aR,i64,.ae aG,.ae aL,.ae aJ,.ae u8,i64,i64]
abbrev kY:List Ty:=[.bool]
def EL:jX:=⟨4,fE Tryz.x5.code 4,[8,16,19,21,26],(Ps [.n .u64,.pt 0 (Ps [.ow u64,.im i64,.im i64,.ow i64,.im aH,.im aS,.im i64,.im ak,.im ak,.im aC,.im aR,.n .i64,.im aG,.im aL,.im aJ,.pt 0 (Ps [.ow u8,.n .i64])]),.im u64,.n .i64,.n .i64]),[⟨.lL,[8,16,21],(Ps [.n .u64,.pt 0 (Ps [.ow u64,.im i64,.im i64,.ow i64,.im aH,.im aS,.im i64,.im ak,.im ak,.im aC,.im aR,.n .i64,.im aG,.im aL,.im aJ,.pt 0 (Ps [.ow u8,.n .i64])]),.n .i64])⟩,⟨.rt,[6],(Ps [.bo])⟩]⟩
def W1:List (Nat×cR):=[]
theorem Pw{V:ByteArray->Bool}{aq:aB}(W:WorldS V aq):db aq W1:=.nil
def rM:List Pl->Lf.T Rs:=EL.step (fun _=>none) (dH W1 3) 3
def W2:fA:=tA EL rM jk jz kY
theorem EM{V:ByteArray->Bool}{aq:aB}(W:WorldS V aq):dZ Rx.w W2 (fun n d=>gD (aq n d) n (.bl 4 (.lp EL.body))):=hY (W.toWorld.in (Pw W) 3) (aE _) (m:=3) jk jz kY
def Lz5:Nat->Option fA:=pX [(0,WY),(2,W0),(4,W2)]
abbrev Px:List Ty:=[.ae i64,.ae cJ,i64,i64,u64]
abbrev EN:List Ty:=[.bool]
def ez5(V:ByteArray->Bool):List (Nat×cR):=[(6,sAw),(8,sz8 V),(9,s8c V),(14,abj)]
theorem abk{V:ByteArray->Bool}{aq:aB}(W:zm V aq):db aq (ez5 V):=(.cons W.aw (.cons (aa5 W.toWorldS) (.cons (Cn W.toWorldS.toWorldN) (.cons (ID W.toWorldS) .nil))))
def tz5(V:ByteArray->Bool)(x:aj Px):Lf.T (List Pl):=iN (Ps [.im i64,.im cJ,.ag (Ps [.n .i64,.n .i64,.n .u64])]) [] (Ps [.bo]) Lz5 Tryz.x5 3 (dH (ez5 V) 3) (aA Px x)
def kz5(V:ByteArray->Bool)(x:aj Px):Bool:=ke (jr EN (tz5 V x))
def mz5(V:ByteArray->Bool)(x:aj Px):aj EN:=ke (eA EN (tz5 V x))
def sz5(V:ByteArray->Bool):cR:=hU (Ps [.im i64,.im cJ,.ag (Ps [.n .i64,.n .i64,.n .u64])]) [] (Ps [.bo]) Px EN fun x=>.ck (kz5 V x) (.ok (mz5 V x))
theorem abl{V:ByteArray->Bool}{aq:aB}(W:zm V aq):(sz5 V).Ok 5 aq:=
 eg (W.toWorldS.toWorld.in (abk W) 3) (W.toWorldS.toWorld.st 5 _ rfl) rfl (fq.jl (.cons (b:=EH.body) (by kernel_rfl) (EI W.toWorldS) (.cons (b:=EJ.body) (by kernel_rfl) (EK W.toWorldS) (.cons (b:=EL.body) (by kernel_rfl) (EM W.toWorldS) .nil)))) (m:=3) rfl (fun _=>bR _) (fun _=>bR _)
abbrev zn:List Ty:=[.ae i64,.ae cJ,i64,i64,u64]
abbrev zZ:List Ty:=[.bool]
def ey5(V:ByteArray->Bool):List (Nat×cR):=[(6,sAw),(8,sy8 V),(9,s8c V),(14,abj)]
theorem abm{V:ByteArray->Bool}{aq:aB}(W:zm V aq):db aq (ey5 V):=(.cons W.aw (.cons (aa7 W.toWorldS) (.cons (Cn W.toWorldS.toWorldN) (.cons (ID W.toWorldS) .nil))))
def ty5(V:ByteArray->Bool)(x:aj zn):Lf.T (List Pl):=iN (Ps [.im i64,.im cJ,.ag (Ps [.n .i64,.n .i64,.n .u64])]) [] (Ps [.bo]) Lz5 Tryz.x5 3 (dH (ey5 V) 3) (aA zn x)
def ky5(V:ByteArray->Bool)(x:aj zn):Bool:=ke (jr zZ (ty5 V x))
def my5(V:ByteArray->Bool)(x:aj zn):aj zZ:=ke (eA zZ (ty5 V x))
def sy5(V:ByteArray->Bool):cR:=hU (Ps [.im i64,.im cJ,.ag (Ps [.n .i64,.n .i64,.n .u64])]) [] (Ps [.bo]) zn zZ fun x=>.ck (ky5 V x) (.ok (my5 V x))
theorem abn{V:ByteArray->Bool}{aq:aB}(W:zm V aq):(sy5 V).Ok 5 aq:=
 eg (W.toWorldS.toWorld.in (abm W) 3) (W.toWorldS.toWorld.st 5 _ rfl) rfl (fq.jl (.cons (b:=EH.body) (by kernel_rfl) (EI W.toWorldS) (.cons (b:=EJ.body) (by kernel_rfl) (EK W.toWorldS) (.cons (b:=EL.body) (by kernel_rfl) (EM W.toWorldS) .nil)))) (m:=3) rfl (fun _=>bR _) (fun _=>bR _)
end Go.Proofs.Vd

noncomputable section
namespace Go.Proofs.Vd
open Go.Ab Go.Ab.Lf
set_option maxRecDepth 100000
def VD(a b c d e f g h:Int):Int:=
 let t:=fun(x c:Int) (n:Int)=>FV .u64 x (Jy .u64 (bq .u64 c) n)
 t (t (t (t (t (t (t (t 0 a 0) b 8) c 16) d 24) e 32) f 40) g 48) h 56
theorem afC(x:aj wJ):(abf x).val=some (aA vm (VD x.1 x.2.1 x.2.2.1 x.2.2.2.1 x.2.2.2.2.1 x.2.2.2.2.2.1 x.2.2.2.2.2.2.1 x.2.2.2.2.2.2.2.1,VD x.2.2.2.2.2.2.2.2.1 x.2.2.2.2.2.2.2.2.2.1 x.2.2.2.2.2.2.2.2.2.2.1 x.2.2.2.2.2.2.2.2.2.2.2.1 x.2.2.2.2.2.2.2.2.2.2.2.2.1 x.2.2.2.2.2.2.2.2.2.2.2.2.2.1 x.2.2.2.2.2.2.2.2.2.2.2.2.2.2.1 x.2.2.2.2.2.2.2.2.2.2.2.2.2.2.2.1,())):=by kernel_rfl
end Go.Proofs.Vd

noncomputable section
namespace Go.Proofs.Vd
open Go.Ab Go.Ab.Lf
set_option maxRecDepth 100000
def Cs(d:den cJ):aj wJ:=(d.1,d.2.1,d.2.2.1,d.2.2.2.1,d.2.2.2.2.1,d.2.2.2.2.2.1,d.2.2.2.2.2.2.1,d.2.2.2.2.2.2.2.1,d.2.2.2.2.2.2.2.2.1,d.2.2.2.2.2.2.2.2.2.1,d.2.2.2.2.2.2.2.2.2.2.1,d.2.2.2.2.2.2.2.2.2.2.2.1,d.2.2.2.2.2.2.2.2.2.2.2.2.1,d.2.2.2.2.2.2.2.2.2.2.2.2.2.1,d.2.2.2.2.2.2.2.2.2.2.2.2.2.2.1,d.2.2.2.2.2.2.2.2.2.2.2.2.2.2.2,())
theorem IE(bY:List (den cJ))(o ty:List Int)(n i:Int)(d:den cJ)(hd:d=bY.getD i.toNat (ao cJ))(z:aj vm)(hz:z=qI (Cs d))(t:Int)(ht:t=ty.getD i.toNat (ao (Ty.int .i64))):(kp (aA eF (bY,o,ty,n,i,()))).val=
 bif decide (i<n)then aM (aU i (ty.length:Int)) (aM (aU i (bY.length:Int)) (aM (UT (Cs d)) (
  bif decide (t=127)then aM (roomy 8 (o.length+([qD .u64 z.1 4294967295]:List Int).length)) (some (.next (aA eF (bY,app o [qD .u64 z.1 4294967295],ty,n,bw .i64 i 1,()))))
  else bif decide (t=126)then aM (roomy 8 (o.length+([z.1]:List Int).length)) (some (.next (aA eF (bY,app o [z.1],ty,n,bw .i64 i 1,()))))
  else bif decide (t=123)then aM (roomy 8 (o.length+([z.1,z.2.1]:List Int).length)) (some (.next (aA eF (bY,app o [z.1,z.2.1],ty,n,bw .i64 i 1,()))))
  else some (.out 1 (aA jQ (1,()))))))
 else some (.out 0 (aA gy (o,()))):=by
 subst hz;subst hd;subst ht
 kernel_rfl
theorem afD(ty:List Int)(bY:List (den cJ)):(abh (ty,bY,())).val=
 bif !decide ((ty.length:Int)=(bY.length:Int))then some (aA vn ([],1,()))
 else aM (r5 kp eF gy jQ (bY,[],ty,(ty.length:Int),0,())) (bif qK kp eF (bY,[],ty,(ty.length:Int),0,())then some (aA vn ((gM kp eF gy (bY,[],ty,(ty.length:Int),0,())).1,0,()))
  else some (aA vn ([],(gM kp eF jQ (bY,[],ty,(ty.length:Int),0,())).1,()))):=by
 kernel_rfl
end Go.Proofs.Vd

noncomputable section
namespace Go.Proofs.Vd
open Go.Ab Go.Ab.Lf
set_option maxRecDepth 100000
theorem Py(ty:List Int)(bY:List (den cJ))(K x:Int)(m1:List (den aH))(m2:List (den aS))(m3:List Int)(m4:List (den ak))(m5:List (den ak))(m6:List (den aC))(m7:List (den aR))(m8:Int)(m9:List (den aG))(bD:List (den aL))(bE:List (den aJ))(l:List Int)(v:List (den cJ))(i:Int)(d:den cJ)(hd:d=bY.getD i.toNat (ao cJ))(z:aj vm)(hz:z=qI (Cs d))(t:Int)(ht:t=ty.getD i.toNat (ao (Ty.int .i64))):(rL (aA gY (ty,bY,K,x,m1,m2,m3,m4,m5,m6,m7,m8,m9,bD,bE,l,v,i,()))).val=
 bif (bif decide (i<(ty.length:Int))then(bif decide (i<(bY.length:Int))then decide (i<500)else false)else false)then aM (aU i (bY.length:Int)) (aM (UT (Cs d)) (aM (aU i (ty.length:Int)) (
  bif decide (pR .i64 t 3=1)then aM (aU i (ty.length:Int)) (bif decide (pR .i64 t 3=2)then aM (roomy 8 (l.length+([126]:List Int).length)) (aM (aU i (bY.length:Int)) (aM (roomy 16 (v.length+([d]:List (den cJ)).length)) (aM (roomy 40 (m6.length+1)) (some (.next (aA gY (ty,bY,K,x,m1,m2,m3,m4,m5,app m6 [(126,false,[((66:Int),(0:Int),(0:Int),z.1,0,([]:List Int)),(11,0,0,0,0,[])])],m7,m8,m9,bD,bE,app l [126],app v [d],bw .i64 i 1,())))))))else aM (roomy 8 (l.length+([127]:List Int).length)) (aM (aU i (bY.length:Int)) (aM (roomy 16 (v.length+([d]:List (den cJ)).length)) (aM (roomy 40 (m6.length+1)) (some (.next (aA gY (ty,bY,K,x,m1,m2,m3,m4,m5,app m6 [(127,false,[((65:Int),(0:Int),(0:Int),qD .u64 z.1 4294967295,0,([]:List Int)),(11,0,0,0,0,[])])],m7,m8,m9,bD,bE,app l [127],app v [d],bw .i64 i 1,()))))))))
  else aM (aU i (ty.length:Int)) (bif decide (pR .i64 t 3=2)then aM (roomy 8 (l.length+([126]:List Int).length)) (aM (aU i (bY.length:Int)) (aM (roomy 16 (v.length+([d]:List (den cJ)).length)) (aM (roomy 40 (m6.length+1)) (some (.next (aA gY (ty,bY,K,x,m1,m2,m3,m4,m5,app m6 [(126,false,[((66:Int),(0:Int),(0:Int),z.1,0,([]:List Int)),(11,0,0,0,0,[])])],m7,m8,m9,bD,bE,app l [126],app v [d],bw .i64 i 1,())))))))else aM (roomy 8 (l.length+([123]:List Int).length)) (aM (aU i (bY.length:Int)) (aM (roomy 16 (v.length+([d]:List (den cJ)).length)) (aM (roomy 40 (m6.length+1)) (some (.next (aA gY (ty,bY,K,x,m1,m2,m3,m4,m5,app m6 [(123,false,[((64780:Int),(0:Int),(0:Int),z.1,z.2.1,([]:List Int)),(11,0,0,0,0,[])])],m7,m8,m9,bD,bE,app l [123],app v [d],bw .i64 i 1,())))))))))))
 else some (.out 0 (aA fO (K,x,m1,m2,m3,m4,m5,m6,m7,m8,m9,bD,bE,l,v,()))):=by
 subst hz;subst hd;subst ht
 kernel_rfl
end Go.Proofs.Vd

noncomputable section
namespace Go.Proofs.Vd
open Go.Ab Go.Ab.Lf
set_option maxRecDepth 100000
inductive R2 (a b c:Type) where
 |nx (x:a)
 |o0 (x:b)
 |o1 (x:c)
def rd2(ti t0 t1:List Ty)(o:Rs):Option (R2 (aj ti) (aj t0) (aj t1)):=match o with
 | .next l=>(match toT ti l with
  |some x=>some (.nx x)
  |none=>none)
 | .out 0 l=>(match toT t0 l with
  |some x=>some (.o0 x)
  |none=>none)
 | .out 1 l=>(match toT t1 l with
  |some x=>some (.o1 x)
  |none=>none)
 | _=>none
def wr2(ti t0 t1:List Ty):R2 (aj ti) (aj t0) (aj t1)->Rs
 | .nx x=>.next (aA ti x)
 | .o0 x=>.out 0 (aA t0 x)
 | .o1 x=>.out 1 (aA t1 x)
def tr2(ti t0 t1:List Ty)(x:Lf.T Rs):Option (R2 (aj ti) (aj t0) (aj t1)):=(x.bd fun r=>Lf.T.of (rd2 ti t0 t1 r)).val
theorem Pz{ti t0 t1:List Ty}{x:Lf.T Rs}{r:R2 (aj ti) (aj t0) (aj t1)}(h:tr2 ti t0 t1 x=some r):x.val=some (wr2 ti t0 t1 r):=by
 obtain⟨o,ho,h⟩:=Lf.T.dm h
 rw[ho]
 have h:=Lf.T.j9 h
 unfold rd2 at h
 split at h
 ·split at h
  ·rename_i x hx;cases h;rw[mV hx];rfl
  ·cases h
 ·split at h
  ·rename_i x hx;cases h;rw[mV hx];rfl
  ·cases h
 ·split at h
  ·rename_i x hx;cases h;rw[mV hx];rfl
  ·cases h
 ·cases h
end Go.Proofs.Vd

noncomputable section
namespace Go.Proofs.Vd
open Go.Ab Go.Ab.Lf
set_option maxRecDepth 100000
theorem PA(K x:Int)(l v a b tab:List Int)(m1:List (den aH))(m2:List (den aS))(m3:List Int)(m4 m5:List (den ak))(m6:List (den aC))(m7:List (den aR))(m8:Int)(m9:List (den aG))(bD:List (den aL))(bE:List (den aJ))(bs:List Int)(mo:Int)(W:List Int)(n9 g:Int):tr2 gz fP jy (qy (aA gz (K,x,l,v,a,b,tab,m1,m2,m3,m4,m5,m6,m7,m8,m9,bD,bE,bs,mo,W,n9,g,())))=(bif decide (g<(l.length:Int))then(bif bif decide (g<0)then true else decide ((b.length:Int)<=g)then(aM (aU g ((l.length:Int))) (bif decide (l.getD g.toNat (ao (Ty.int .i64))=123)then(some (.o1 (false,())))else(some (.o1 (false,())))))else(bif decide (bw .i64 g (1)<(b.length:Int))then(aM (aU (bw .i64 g (1)) ((b.length:Int))) (aM (aU g ((b.length:Int))&&aU g ((b.length:Int))) (aM (aU g ((l.length:Int))) (bif decide (l.getD g.toNat (ao (Ty.int .i64))=123)then(bif bif !decide (b.getD g.toNat (ao (Ty.int .i64))=n9)then true else !decide (bQ .i64 (b.getD (bw .i64 g (1)).toNat (ao (Ty.int .i64))) (b.getD g.toNat (ao (Ty.int .i64)))=2)then(some (.o1 (false,())))else(bif bif decide (n9<=K)then decide (K<bw .i64 n9 (2))else false then(aM (aU K ((W.length:Int))) (aM (aU g ((l.length:Int))) (bif decide (l.getD g.toNat (ao (Ty.int .i64))=127)then(aM (aU K (Int.ofNat (W.set K.toNat x).length)) (some (.nx (K,x,l,v,a,b,tab,m1,m2,m3,m4,m5,m6,m7,m8,m9,bD,bE,bs,mo,(W.set K.toNat x).set K.toNat (qD .u64 x (4294967295)),bw .i64 n9 (2),bw .i64 g (1),()))))else(some (.nx (K,x,l,v,a,b,tab,m1,m2,m3,m4,m5,m6,m7,m8,m9,bD,bE,bs,mo,W.set K.toNat x,bw .i64 n9 (2),bw .i64 g (1),()))))))else(some (.nx (K,x,l,v,a,b,tab,m1,m2,m3,m4,m5,m6,m7,m8,m9,bD,bE,bs,mo,W,bw .i64 n9 (2),bw .i64 g (1),())))))else(bif bif !decide (b.getD g.toNat (ao (Ty.int .i64))=n9)then true else !decide (bQ .i64 (b.getD (bw .i64 g (1)).toNat (ao (Ty.int .i64))) (b.getD g.toNat (ao (Ty.int .i64)))=1)then(some (.o1 (false,())))else(bif bif decide (n9<=K)then decide (K<bw .i64 n9 (1))else false then(aM (aU K ((W.length:Int))) (aM (aU g ((l.length:Int))) (bif decide (l.getD g.toNat (ao (Ty.int .i64))=127)then(aM (aU K (Int.ofNat (W.set K.toNat x).length)) (some (.nx (K,x,l,v,a,b,tab,m1,m2,m3,m4,m5,m6,m7,m8,m9,bD,bE,bs,mo,(W.set K.toNat x).set K.toNat (qD .u64 x (4294967295)),bw .i64 n9 (1),bw .i64 g (1),()))))else(some (.nx (K,x,l,v,a,b,tab,m1,m2,m3,m4,m5,m6,m7,m8,m9,bD,bE,bs,mo,W.set K.toNat x,bw .i64 n9 (1),bw .i64 g (1),()))))))else(some (.nx (K,x,l,v,a,b,tab,m1,m2,m3,m4,m5,m6,m7,m8,m9,bD,bE,bs,mo,W,bw .i64 n9 (1),bw .i64 g (1),())))))))))else(aM (aU g ((b.length:Int))&&aU g ((b.length:Int))) (aM (aU g ((l.length:Int))) (bif decide (l.getD g.toNat (ao (Ty.int .i64))=123)then(bif bif !decide (b.getD g.toNat (ao (Ty.int .i64))=n9)then true else !decide (bQ .i64 ((v.length:Int)) (b.getD g.toNat (ao (Ty.int .i64)))=2)then(some (.o1 (false,())))else(bif bif decide (n9<=K)then decide (K<bw .i64 n9 (2))else false then(aM (aU K ((W.length:Int))) (aM (aU g ((l.length:Int))) (bif decide (l.getD g.toNat (ao (Ty.int .i64))=127)then(aM (aU K (Int.ofNat (W.set K.toNat x).length)) (some (.nx (K,x,l,v,a,b,tab,m1,m2,m3,m4,m5,m6,m7,m8,m9,bD,bE,bs,mo,(W.set K.toNat x).set K.toNat (qD .u64 x (4294967295)),bw .i64 n9 (2),bw .i64 g (1),()))))else(some (.nx (K,x,l,v,a,b,tab,m1,m2,m3,m4,m5,m6,m7,m8,m9,bD,bE,bs,mo,W.set K.toNat x,bw .i64 n9 (2),bw .i64 g (1),()))))))else(some (.nx (K,x,l,v,a,b,tab,m1,m2,m3,m4,m5,m6,m7,m8,m9,bD,bE,bs,mo,W,bw .i64 n9 (2),bw .i64 g (1),())))))else(bif bif !decide (b.getD g.toNat (ao (Ty.int .i64))=n9)then true else !decide (bQ .i64 ((v.length:Int)) (b.getD g.toNat (ao (Ty.int .i64)))=1)then(some (.o1 (false,())))else(bif bif decide (n9<=K)then decide (K<bw .i64 n9 (1))else false then(aM (aU K ((W.length:Int))) (aM (aU g ((l.length:Int))) (bif decide (l.getD g.toNat (ao (Ty.int .i64))=127)then(aM (aU K (Int.ofNat (W.set K.toNat x).length)) (some (.nx (K,x,l,v,a,b,tab,m1,m2,m3,m4,m5,m6,m7,m8,m9,bD,bE,bs,mo,(W.set K.toNat x).set K.toNat (qD .u64 x (4294967295)),bw .i64 n9 (1),bw .i64 g (1),()))))else(some (.nx (K,x,l,v,a,b,tab,m1,m2,m3,m4,m5,m6,m7,m8,m9,bD,bE,bs,mo,W.set K.toNat x,bw .i64 n9 (1),bw .i64 g (1),()))))))else(some (.nx (K,x,l,v,a,b,tab,m1,m2,m3,m4,m5,m6,m7,m8,m9,bD,bE,bs,mo,W,bw .i64 n9 (1),bw .i64 g (1),()))))))))))else(some (.o0 (K,x,v,a,b,tab,m1,m2,m3,m4,m5,m6,m7,m8,m9,bD,bE,bs,mo,W,n9,())))):=by kernel_rfl
end Go.Proofs.Vd

noncomputable section
namespace Go.Proofs.Vd
open Go.Ab Go.Ab.Lf
set_option maxRecDepth 100000
theorem PB(x:Int)(v a b tab:List Int)(m1:List (den aH))(m2:List (den aS))(m3:List Int)(m4:List (den ak))(m5:List (den ak))(m6:List (den aC))(m7:List (den aR))(m8:Int)(m9:List (den aG))(bD:List (den aL))(bE:List (den aJ))(bs:List Int)(mo:Int)(W:List Int)(n9 i:Int):(rM (aA jk (x,v,a,b,tab,m1,m2,m3,m4,m5,m6,m7,m8,m9,bD,bE,bs,mo,W,n9,i,()))).val=
 bif decide (i<n9)then
  bif (bif decide (i<0)then true else decide ((v.length:Int)<=i))then some (.out 1 (aA kY (false,())))
  else aM (aU i (v.length:Int)) (aM (aU i (W.length:Int)) (bif !decide (v.getD i.toNat (ao (Ty.int .u64))=W.getD i.toNat (ao (Ty.int .u64)))then some (.out 1 (aA kY (false,())))else some (.next (aA jk (x,v,a,b,tab,m1,m2,m3,m4,m5,m6,m7,m8,m9,bD,bE,bs,mo,W,n9,bw .i64 i 1,())))))
 else some (.out 0 (aA jz (x,v,a,b,tab,m1,m2,m3,m4,m5,m6,m7,m8,m9,bD,bE,bs,mo,n9,()))):=by
 kernel_rfl
end Go.Proofs.Vd

noncomputable section
namespace Go.Proofs.Vd
open Go.Ab Go.Ab.Lf
set_option maxRecDepth 100000
abbrev x0S(ty:List Int)(bY:List (den cJ))(K x:Int):aj gY:=(ty,bY,K,x,[([],[])],[],[0],[((3:Int),(-1:Int))],[((1:Int),(-1:Int))],[],[],-1,[(eC 65 1 0,[0])],[([],[iC 11 0 0])],[(eC 65 4 0,[5])],[],[],0,())
def qj(b:Bool):Option (List Pl):=some (aA EN (b,()))
abbrev EO(K:Int)(v:List Int):Bool:=bif decide (K<0)then true else decide ((v.length:Int)<=K)
abbrev EP(K x:Int)(v a:List Int)(k0:Option (List Pl))(k:List Int->Option (List Pl)):Option (List Pl):=bif EO K v then k0 else aM (aU K (a.length:Int)) (bif decide (a.getD K.toNat (ao (Ty.int .i64))=1)then aM (aU K (v.length:Int)) (k (v.set K.toNat (qD .u64 x 4294967295)))else aM (aU K (v.length:Int)) (k (v.set K.toNat x)))
abbrev PC(n9 x:Int)(v a:List Int):Option (List Pl):=bif EO n9 v then EP n9 x v a (qj true) (fun _=>qj false)else aM (aU n9 (v.length:Int)) (qj false)
abbrev W4(X:aj jk):Option (List Pl):=aM (r5 rM jk jz kY X) (bif qK rM jk X then
 (fun(w:aj jz)=>PC w.2.2.2.2.2.2.2.2.2.2.2.2.2.2.2.2.2.2.1 w.1 w.2.1 w.2.2.1) (gM rM jk jz X)else some (aA EN (gM rM jk kY X)))
abbrev abo(u:aj fP):Option (List Pl):=
 EP u.1 u.2.1 u.2.2.1 u.2.2.2.1 (bif decide (0<=u.1)then(bif xor false (decide (u.1<u.2.2.2.2.2.2.2.2.2.2.2.2.2.2.2.2.2.2.2.2.1))then qj false else W4 (u.2.1,u.2.2.1,u.2.2.2.1,u.2.2.2.2.1,u.2.2.2.2.2.1,u.2.2.2.2.2.2.1,u.2.2.2.2.2.2.2.1,u.2.2.2.2.2.2.2.2.1,u.2.2.2.2.2.2.2.2.2.1,u.2.2.2.2.2.2.2.2.2.2.1,u.2.2.2.2.2.2.2.2.2.2.2.1,u.2.2.2.2.2.2.2.2.2.2.2.2.1,u.2.2.2.2.2.2.2.2.2.2.2.2.2.1,u.2.2.2.2.2.2.2.2.2.2.2.2.2.2.1,u.2.2.2.2.2.2.2.2.2.2.2.2.2.2.2.1,u.2.2.2.2.2.2.2.2.2.2.2.2.2.2.2.2.1,u.2.2.2.2.2.2.2.2.2.2.2.2.2.2.2.2.2.1,u.2.2.2.2.2.2.2.2.2.2.2.2.2.2.2.2.2.2.1,u.2.2.2.2.2.2.2.2.2.2.2.2.2.2.2.2.2.2.2.1,u.2.2.2.2.2.2.2.2.2.2.2.2.2.2.2.2.2.2.2.2.1,0,()))else W4 (u.2.1,u.2.2.1,u.2.2.2.1,u.2.2.2.2.1,u.2.2.2.2.2.1,u.2.2.2.2.2.2.1,u.2.2.2.2.2.2.2.1,u.2.2.2.2.2.2.2.2.1,u.2.2.2.2.2.2.2.2.2.1,u.2.2.2.2.2.2.2.2.2.2.1,u.2.2.2.2.2.2.2.2.2.2.2.1,u.2.2.2.2.2.2.2.2.2.2.2.2.1,u.2.2.2.2.2.2.2.2.2.2.2.2.2.1,u.2.2.2.2.2.2.2.2.2.2.2.2.2.2.1,u.2.2.2.2.2.2.2.2.2.2.2.2.2.2.2.1,u.2.2.2.2.2.2.2.2.2.2.2.2.2.2.2.2.1,u.2.2.2.2.2.2.2.2.2.2.2.2.2.2.2.2.2.1,u.2.2.2.2.2.2.2.2.2.2.2.2.2.2.2.2.2.2.1,u.2.2.2.2.2.2.2.2.2.2.2.2.2.2.2.2.2.2.2.1,u.2.2.2.2.2.2.2.2.2.2.2.2.2.2.2.2.2.2.2.2.1,0,()))
  (fun v=>bif decide (0<=u.1)then(bif xor true (decide (u.1<u.2.2.2.2.2.2.2.2.2.2.2.2.2.2.2.2.2.2.2.2.1))then qj false else W4 (u.2.1,v,u.2.2.2.1,u.2.2.2.2.1,u.2.2.2.2.2.1,u.2.2.2.2.2.2.1,u.2.2.2.2.2.2.2.1,u.2.2.2.2.2.2.2.2.1,u.2.2.2.2.2.2.2.2.2.1,u.2.2.2.2.2.2.2.2.2.2.1,u.2.2.2.2.2.2.2.2.2.2.2.1,u.2.2.2.2.2.2.2.2.2.2.2.2.1,u.2.2.2.2.2.2.2.2.2.2.2.2.2.1,u.2.2.2.2.2.2.2.2.2.2.2.2.2.2.1,u.2.2.2.2.2.2.2.2.2.2.2.2.2.2.2.1,u.2.2.2.2.2.2.2.2.2.2.2.2.2.2.2.2.1,u.2.2.2.2.2.2.2.2.2.2.2.2.2.2.2.2.2.1,u.2.2.2.2.2.2.2.2.2.2.2.2.2.2.2.2.2.2.1,u.2.2.2.2.2.2.2.2.2.2.2.2.2.2.2.2.2.2.2.1,u.2.2.2.2.2.2.2.2.2.2.2.2.2.2.2.2.2.2.2.2.1,0,()))else qj false)
theorem akJ(V:ByteArray->Bool)(ty:List Int)(bY:List (den cJ))(kd K x:Int)(z:aj fO)(hz:z=gM rL gY fO (x0S ty bY K x))(y:aj tM)(hy:y=(z.2.2.1,z.2.2.2.1,z.2.2.2.2.1,z.2.2.2.2.2.1,z.2.2.2.2.2.2.1,z.2.2.2.2.2.2.2.1,z.2.2.2.2.2.2.2.2.1,z.2.2.2.2.2.2.2.2.2.1,z.2.2.2.2.2.2.2.2.2.2.1,z.2.2.2.2.2.2.2.2.2.2.2.1,z.2.2.2.2.2.2.2.2.2.2.2.2.1,()))(q:aj G1)(hq:q=mz8 V y)(p:aj vn)(hp:p=abi (z.2.2.2.2.2.2.2.2.2.2.2.2.2.1,z.2.2.2.2.2.2.2.2.2.2.2.2.2.2.1,()))(X:aj gz)(hX:X=(z.1,z.2.1,z.2.2.2.2.2.2.2.2.2.2.2.2.2.1,q.1,q.2.1,q.2.2.1,q.2.2.2.1,q.2.2.2.2.1,q.2.2.2.2.2.1,q.2.2.2.2.2.2.1,q.2.2.2.2.2.2.2.1,q.2.2.2.2.2.2.2.2.1,q.2.2.2.2.2.2.2.2.2.1,q.2.2.2.2.2.2.2.2.2.2.1,q.2.2.2.2.2.2.2.2.2.2.2.1,q.2.2.2.2.2.2.2.2.2.2.2.2.1,q.2.2.2.2.2.2.2.2.2.2.2.2.2.1,q.2.2.2.2.2.2.2.2.2.2.2.2.2.2.1,q.2.2.2.2.2.2.2.2.2.2.2.2.2.2.2.1,q.2.2.2.2.2.2.2.2.2.2.2.2.2.2.2.2.1,p.1,0,0,())):(tz5 V (ty,bY,kd,K,x,())).val=
 bif !true then qj false else aM (rk rL gY fO (x0S ty bY K x)) (aM (kz8 V y) (aM (WN V y) (
  bif !decide (iM V y=0)then qj false else aM (UW (z.2.2.2.2.2.2.2.2.2.2.2.2.2.1,z.2.2.2.2.2.2.2.2.2.2.2.2.2.2.1,())) (bif (bif !decide (q.2.2.2.2.2.2.2.2.2.2.2.2.2.2.2.2.2.1=0)then true else !decide (p.2.1=0))then qj false else
  aM (r5 qy gz fP jy X) (bif qK qy gz X then abo (gM qy gz fP X)else some (aA EN (gM qy gz jy X))))))):=by
 subst hX;subst hp;subst hq;subst hy;subst hz
 kernel_rfl
theorem akK(V:ByteArray->Bool)(ty:List Int)(bY:List (den cJ))(kd K x:Int)(z:aj fO)(hz:z=gM rL gY fO (x0S ty bY K x))(y:aj tM)(hy:y=(z.2.2.1,z.2.2.2.1,z.2.2.2.2.1,z.2.2.2.2.2.1,z.2.2.2.2.2.2.1,z.2.2.2.2.2.2.2.1,z.2.2.2.2.2.2.2.2.1,z.2.2.2.2.2.2.2.2.2.1,z.2.2.2.2.2.2.2.2.2.2.1,z.2.2.2.2.2.2.2.2.2.2.2.1,z.2.2.2.2.2.2.2.2.2.2.2.2.1,())):(ty5 V (ty,bY,kd,K,x,())).val=
 bif !true then qj false else aM (rk rL gY fO (x0S ty bY K x)) (aM (ky8 V y) (aM (WN V y) (
  bif !decide (iM V y=0)then qj (bif decide ((my8 V y).1=iM V y)then decide (iM V y=4)else false)else aM (UW (z.2.2.2.2.2.2.2.2.2.2.2.2.2.1,z.2.2.2.2.2.2.2.2.2.2.2.2.2.2.1,())) (qj false)))):=by
 subst hy;subst hz
 kernel_rfl
end Go.Proofs.Vd

noncomputable section
namespace Go.Proofs.Vd
open Go.Ab Go.Ab.Lf
set_option maxRecDepth 100000
theorem PD{a b:Nat}(h:a<b):Nat.blt a b=true:=Nat.ble_eq_true_of_le h
theorem nR{a b:Int}(ha:0<=a/\a<18446744073709551616)(hb:0<=b/\b<18446744073709551616):0<=FV .u64 a b/\FV .u64 a b<18446744073709551616:=by
 obtain⟨n,rfl⟩:=Int.eq_ofNat_of_zero_le ha.1
 obtain⟨k,rfl⟩:=Int.eq_ofNat_of_zero_le hb.1
 have h1:n<18446744073709551616:=by omega
 have h2:k<18446744073709551616:=by omega
 have e:FV .u64 (n:Int) (k:Int)=intOf (bif Nat.blt n 18446744073709551616&&Nat.blt k 18446744073709551616 then some (.int .u64 (Int.ofNat (Nat.lor n k)))else qM (g4 (Op.intBits .or .u64 (.ofNat n) (.ofNat k)))):=rfl
 rw[e,PD h1,PD h2]
 have e2:intOf (bif true&&true then some (.int .u64 (Int.ofNat (Nat.lor n k)))else qM (g4 (Op.intBits .or .u64 (.ofNat n) (.ofNat k))))=((n ||| k:Nat):Int):=rfl
 rw[e2]
 have:=Nat.or_lt_two_pow (n:=64) (x:=n) (y:=k) (by simpa using h1) (by simpa using h2)
 omega
theorem rS{a:Int}(ha:0<=a/\a<18446744073709551616):0<=qD .u64 a 4294967295/\qD .u64 a 4294967295<4294967296:=by
 obtain⟨n,rfl⟩:=Int.eq_ofNat_of_zero_le ha.1
 have h1:n<18446744073709551616:=by omega
 have e:qD .u64 (n:Int) 4294967295=intOf (bif Nat.blt n 18446744073709551616&&true then some (.int .u64 (Int.ofNat (Nat.land n 4294967295)))else qM (g4 (Op.intBits .and .u64 (.ofNat n) (.ofNat 4294967295)))):=rfl
 rw[e,PD h1]
 have e2:intOf (bif true&&true then some (.int .u64 (Int.ofNat (Nat.land n 4294967295)))else qM (g4 (Op.intBits .and .u64 (.ofNat n) (.ofNat 4294967295))))=((n &&& 4294967295:Nat):Int):=rfl
 rw[e2]
 have:=Nat.and_le_right (n:=n) (m:=4294967295)
 omega
theorem nI(c n:Int)(hn:0<=n):0<=Jy .u64 c n/\Jy .u64 c n<18446744073709551616:=by
 obtain⟨k,rfl⟩:=Int.eq_ofNat_of_zero_le hn
 have e:Jy .u64 c (k:Int)=Int.emod (Int.mul c (.ofNat (Nat.pow 2 (vt k (ql .u64))))) 18446744073709551616:=rfl
 rw[e]
 generalize Int.mul c (.ofNat (Nat.pow 2 (vt k (ql .u64))))=y
 show 0<=y % 18446744073709551616/\y % 18446744073709551616<18446744073709551616
 omega
theorem UX(a b c d e f g h:Int):0<=VD a b c d e f g h/\VD a b c d e f g h<18446744073709551616:=by
 unfold VD
 exact nR (nR (nR (nR (nR (nR (nR (nR (by decide) (nI _ _ (by decide))) (nI _ _ (by decide))) (nI _ _ (by decide))) (nI _ _ (by decide))) (nI _ _ (by decide))) (nI _ _ (by decide))) (nI _ _ (by decide))) (nI _ _ (by decide))
theorem abp(x:aj wJ):UT x=true/\0<=(qI x).1/\(qI x).1<18446744073709551616:=by
 obtain⟨h1,h2⟩:=vi (bR _) (bR _) (afC x)
 exact⟨h1,by rw[show qI x=_ from h2];exact UX _ _ _ _ _ _ _ _⟩
def kZ(t:Int):Int:=bif decide (pR .i64 t 3=1)then 127 else bif decide (pR .i64 t 3=2)then 126 else 123
def opS(t:Int):Int:=bif decide (pR .i64 t 3=1)then 65 else bif decide (pR .i64 t 3=2)then 66 else 64780
def UY(t:Int)(z:aj vm):Int:=bif decide (pR .i64 t 3=1)then qD .u64 z.1 4294967295 else z.1
def W5(t:Int)(z:aj vm):Int:=bif decide (pR .i64 t 3=1)then 0 else bif decide (pR .i64 t 3=2)then 0 else z.2.1
def mD(p:Int×den cJ):den aC:=(kZ p.1,false,eC (opS p.1) (UY p.1 (qI (Cs p.2))) (W5 p.1 (qI (Cs p.2))))
theorem abq(p:Int×den cJ):gC (mD p):=by
 refine⟨rfl,_,_,_,rfl,?_⟩
 obtain⟨_,h⟩:=abp (Cs p.2)
 show(opS p.1=65/\kZ p.1=127/\0<=UY p.1 (qI (Cs p.2))/\UY p.1 (qI (Cs p.2))<4294967296/\W5 p.1 (qI (Cs p.2))=0)∨(opS p.1=66/\kZ p.1=126/\W5 p.1 (qI (Cs p.2))=0)∨(opS p.1=64780/\kZ p.1=123)
 unfold opS kZ UY W5
 generalize qI (Cs p.2)=z at h
 cases decide (pR .i64 p.1 3=1)<;>cases decide (pR .i64 p.1 3=2)
 ·exact .inr (.inr ⟨rfl,rfl⟩)
 ·exact .inr (.inl ⟨rfl,rfl,rfl⟩)
 ·exact .inl ⟨rfl,rfl,(rS h).1,(rS h).2,rfl⟩
 ·exact .inl ⟨rfl,rfl,(rS h).1,(rS h).2,rfl⟩
theorem PE(t:Int):kZ t=127∨kZ t=126∨kZ t=123:=by
 unfold kZ
 cases decide (pR .i64 t 3=1)<;>cases decide (pR .i64 t 3=2)
 ·exact .inr (.inr rfl)
 ·exact .inr (.inl rfl)
 ·exact .inl rfl
 ·exact .inl rfl
def Qt(p:Int×den cJ):List Int:=bif decide (kZ p.1=123)then [UY p.1 (qI (Cs p.2)),W5 p.1 (qI (Cs p.2))]else [UY p.1 (qI (Cs p.2))]
def Ct(p:Int×den cJ):List Int:=bif decide (kZ p.1=123)then [0,0]else [bif decide (kZ p.1=127)then 1 else 0]
theorem UZ(q:List Int×List Int×List Int)(p:Int×den cJ):UP q (mD p)=(q.1++Qt p,q.2.1++Ct p,q.2.2++[(q.1.length:Int)]):=by
 unfold UP Qt Ct
 have e1:(mD p).1=kZ p.1:=rfl
 have e2:((mD p).2.2.getD 0 (ao tI)).2.2.2.1=UY p.1 (qI (Cs p.2)):=rfl
 have e3:((mD p).2.2.getD 0 (ao tI)).2.2.2.2.1=W5 p.1 (qI (Cs p.2)):=rfl
 rw[e1,e2,e3]
 simp only[bp]
 rcases PE p.1 with h|h|h
 ·rw[h];rfl
 ·rw[h];rfl
 ·rw[h];simp
theorem IF(p:Int×den cJ):(Qt p).length=(Ct p).length/\((Qt p).length:Int)=bif decide (kZ p.1=123)then 2 else 1:=by
 unfold Qt Ct
 cases decide (kZ p.1=123)<;>exact⟨rfl,rfl⟩
theorem IG(L:List (Int×den cJ))(p:Int×den cJ):gA ((L++[p]).map mD)=((gA (L.map mD)).1++Qt p,(gA (L.map mD)).2.1++Ct p,(gA (L.map mD)).2.2++[((gA (L.map mD)).1.length:Int)]):=by
 rw[List.map_append]
 unfold gA
 rw[List.foldl_append]
 exact UZ _ p
structure akL(L:List (Int×den cJ))(S q:List Int×List Int×List Int):Prop where
 a: ∃ r,S.1=q.1++r
 b: ∃ r,S.2.1=q.2.1++r
 c: ∃ r,S.2.2=q.2.2++r
theorem xC{α:Type}(l:List α)(j:Nat)(d:α)(h:j<l.length):l.take (j+1)=l.take j++[l.getD j d]:=by
 rw[List.take_add_one,List.getElem?_eq_getElem h,List.getD_eq_getElem?_getD,List.getElem?_eq_getElem h]
 rfl
theorem G3(L:List (Int×den cJ)):(gA (L.map mD)).1.length=(gA (L.map mD)).2.1.length/\(gA (L.map mD)).2.2.length=L.length:=by
 have key: ∀ j,j<=L.length->(gA ((L.take j).map mD)).1.length=(gA ((L.take j).map mD)).2.1.length/\(gA ((L.take j).map mD)).2.2.length=j:=by
  intro j
  induction j with
  |zero=>intro _;rw[List.take_zero];exact⟨rfl,rfl⟩
  |succ j ih=>
   intro hj
   obtain⟨h1,h2⟩:=ih (by omega)
   rw[xC L j (ao (Ty.int .i64),ao cJ) (by omega),IG]
   refine⟨?_,?_⟩
   ·show((gA ((L.take j).map mD)).1++Qt _).length=((gA ((L.take j).map mD)).2.1++Ct _).length
    rw[List.length_append,List.length_append,h1,(IF _).1]
   ·show((gA ((L.take j).map mD)).2.2++[_]).length=_
    rw[List.length_append,h2];rfl
 have:=key L.length (Nat.le_refl _)
 rw[List.take_length]at this
 exact this
theorem U0{α:Type}{P:List α->Prop}(h0:P [])(h1: ∀ l x,P l->P (l++[x]))(l:List α):P l:=by
 have key: ∀ n,∀ l:List α,l.length=n->P l:=by
  intro n
  induction n with
  |zero=>intro l hl;rw[List.length_eq_zero_iff.1 hl];exact h0
  |succ n ih=>
   intro l hl
   have e:l≠[]:=fun e=>by rw[e]at hl;cases hl
   rw[<-List.dropLast_concat_getLast e]
   exact h1 _ _ (ih _ (by rw[List.length_dropLast,hl];rfl))
 exact key _ l rfl
theorem abr(L R:List (Int×den cJ)):akL L (gA ((L++R).map mD)) (gA (L.map mD)):=by
 revert R
 refine U0 ?_ ?_
 ·rw[List.append_nil];exact⟨⟨[],(List.append_nil _).symm⟩,⟨[],(List.append_nil _).symm⟩,⟨[],(List.append_nil _).symm⟩⟩
 ·intro R p ih
  obtain⟨⟨a,ha⟩,⟨b,hb⟩,⟨c,hc⟩⟩:=ih
  rw[<-List.append_assoc,IG]
  exact⟨⟨a++Qt p,by show _++_=_;rw[ha,List.append_assoc]⟩,⟨b++Ct p,by show _++_=_;rw[hb,List.append_assoc]⟩,⟨c++_,by show _++_=_;rw[hc,List.append_assoc]⟩⟩
end Go.Proofs.Vd

noncomputable section
namespace Go.Proofs.Vd
open Go.Ab Go.Ab.Lf
set_option maxRecDepth 100000
def zS(ty:List Int)(bY:List (den cJ)):List (Int×den cJ):=(ty.zip bY).take 500
theorem G4(ty:List Int)(bY:List (den cJ)):(zS ty bY).length=min (min ty.length bY.length) 500:=by
 unfold zS
 rw[List.length_take,List.length_zip]
 omega
theorem abt(ty:List Int)(bY:List (den cJ))(j:Nat)(h:j<(zS ty bY).length):ty.getD j (ao (Ty.int .i64))=((zS ty bY).getD j (ao (Ty.int .i64),ao cJ)).1/\bY.getD j (ao cJ)=((zS ty bY).getD j (ao (Ty.int .i64),ao cJ)).2:=by
 have hl:=G4 ty bY
 have h1:j<ty.length:=by omega
 have h2:j<bY.length:=by omega
 have e:(zS ty bY)[j]? =some (ty[j],bY[j]):=by
  unfold zS
  rw[List.getElem?_take_of_lt (by omega),List.getElem?_eq_getElem (by rw[List.length_zip];omega),List.getElem_zip]
 rw[List.getD_eq_getElem?_getD,List.getD_eq_getElem?_getD,List.getD_eq_getElem?_getD,e,List.getElem?_eq_getElem h1,List.getElem?_eq_getElem h2]
 exact⟨rfl,rfl⟩
theorem afE(ty:List Int)(bY:List (den cJ))(K x:Int)(m1:List (den aH))(m2:List (den aS))(m3:List Int)(m4:List (den ak))(m5:List (den ak))(m7:List (den aR))(m8:Int)(m9:List (den aG))(bD:List (den aL))(bE:List (den aJ)):gG rL (aA gY (ty,bY,K,x,m1,m2,m3,m4,m5,[],m7,m8,m9,bD,bE,[],[],((0:Nat):Int),())) 0 (aA fO (K,x,m1,m2,m3,m4,m5,(zS ty bY).map mD,m7,m8,m9,bD,bE,(zS ty bY).map (fun p=>kZ p.1),(zS ty bY).map Prod.snd,())):=by
 have hln:=G4 ty bY
 have Fx:=abt ty bY
 generalize zS ty bY=L at hln Fx
 have key:gG rL (aA gY (ty,bY,K,x,m1,m2,m3,m4,m5,(L.take 0).map mD,m7,m8,m9,bD,bE,(L.take 0).map fun p=>kZ p.1,(L.take 0).map Prod.snd,((0:Nat):Int),())) 0 (aA fO (K,x,m1,m2,m3,m4,m5,(L.take L.length).map mD,m7,m8,m9,bD,bE,(L.take L.length).map (fun p=>kZ p.1),(L.take L.length).map Prod.snd,())):=by
  refine nc L.length (fun j=>aA gY (ty,bY,K,x,m1,m2,m3,m4,m5,(L.take j).map mD,m7,m8,m9,bD,bE,(L.take j).map fun p=>kZ p.1,(L.take j).map Prod.snd,(j:Int),())) _ (fun j hj=>?_) ?_
  ·obtain⟨e1,e2⟩:=Fx j hj
   have hm:(L.take j).length=j:=by rw[List.length_take];omega
   have l1:((L.take j).map mD).length=j:=by rw[List.length_map,hm]
   have l2:((L.take j).map fun p=>kZ p.1).length=j:=by rw[List.length_map,hm]
   have l3:((L.take j).map Prod.snd).length=j:=by rw[List.length_map,hm]
   rw[xC L j (ao (Ty.int .i64),ao cJ) hj,List.map_append,List.map_append,List.map_append]
   generalize (L.take j).map mD=A at l1
   generalize ((L.take j).map fun p=>kZ p.1)=B at l2
   generalize (L.take j).map Prod.snd=C at l3
   refine(Py ty bY K x m1 m2 m3 m4 m5 A m7 m8 m9 bD bE B C (j:Int) (bY.getD j (ao cJ)) (by rw[Int.toNat_natCast]) _ rfl (ty.getD j (ao (Ty.int .i64))) (by rw[Int.toNat_natCast])).trans ?_
   rw[e1,e2]
   generalize L.getD j (ao (Ty.int .i64),ao cJ)=p
   have c1:aU (j:Int) (ty.length:Int)=true:=bX (by omega)
   have c2:aU (j:Int) (bY.length:Int)=true:=bX (by omega)
   have r1: ∀ t:Int,roomy 8 (B.length+([t]:List Int).length)=true:=fun t=>bJ (by decide) (by show B.length+1<=_;omega)
   have r2: ∀ d:den cJ,roomy 16 (C.length+([d]:List (den cJ)).length)=true:=fun t=>bJ (by decide) (by show C.length+1<=_;omega)
   have r3:roomy 40 (A.length+1)=true:=bJ (by decide) (by omega)
   rw[dt (show(j:Int)<(ty.length:Int) by omega),dt (show(j:Int)<(bY.length:Int) by omega),dt (show(j:Int)<500 by omega),c1,c2,(abp (Cs p.2)).1,r1,r1,r1,r2,r3,Ep (by omega)]
   simp only[bp,List.map_cons,List.map_nil]
   unfold mD kZ opS UY W5
   cases h1:decide (pR .i64 p.1 3=1)<;>cases h2:decide (pR .i64 p.1 3=2)
   ·rfl
   ·rfl
   ·rfl
   ·exfalso
    have a1:=of_decide_eq_true h1
    have a2:=of_decide_eq_true h2
    rw[a1]at a2
    exact absurd a2 (by decide)
  ·refine(Py ty bY K x m1 m2 m3 m4 m5 _ m7 m8 m9 bD bE _ _ (L.length:Int) _ rfl _ rfl _ rfl).trans ?_
   have:(bif (bif decide ((L.length:Int)<(ty.length:Int))then(bif decide ((L.length:Int)<(bY.length:Int))then decide ((L.length:Int)<500)else false)else false)then(1:Nat)else 0)=0:=by
    by_cases q1:(L.length:Int)<(ty.length:Int)
    ·by_cases q2:(L.length:Int)<(bY.length:Int)
     ·rw[dt q1,dt q2,df (show ¬ (L.length:Int)<500 by omega)];rfl
     ·rw[dt q1,df q2];rfl
    ·rw[df q1];rfl
   have c0:(bif decide ((L.length:Int)<(ty.length:Int))then(bif decide ((L.length:Int)<(bY.length:Int))then decide ((L.length:Int)<500)else false)else false)=false:=by
    cases h:(bif decide ((L.length:Int)<(ty.length:Int))then(bif decide ((L.length:Int)<(bY.length:Int))then decide ((L.length:Int)<500)else false)else false)
    ·rfl
    ·rw[h]at this;cases this
   rw[c0]
   rfl
 rw[List.take_zero,List.take_length]at key
 exact key
theorem akM(L:List (Int×den cJ))(hl:L.length<=500):UW (L.map (fun p=>kZ p.1),L.map Prod.snd,())=true/\abi (L.map (fun p=>kZ p.1),L.map Prod.snd,())=((gA (L.map mD)).1,0,()):=by
 have hvl: ∀ j,j<=L.length->(gA ((L.take j).map mD)).1.length<=2*j:=fun j hj=>by
  have:=(vj (L.map mD) j (by rw[List.length_map];exact hj)).1
  rw[<-List.map_take]at this
  exact this
 have R:gG kp (aA eF (L.map Prod.snd,(gA ((L.take 0).map mD)).1,L.map (fun p=>kZ p.1),(L.length:Int),((0:Nat):Int),())) 0 (aA gy ((gA ((L.take L.length).map mD)).1,())):=by
  refine nc L.length (fun j=>aA eF (L.map Prod.snd,(gA ((L.take j).map mD)).1,L.map (fun p=>kZ p.1),(L.length:Int),(j:Int),())) _ (fun j hj=>?_) ?_
  ·have hv:=hvl j (by omega)
   rw[xC L j (ao (Ty.int .i64),ao cJ) hj,IG]
   generalize (gA ((L.take j).map mD)).1=o at hv
   obtain⟨p,hp⟩: ∃ p,p=L.getD j (ao (Ty.int .i64),ao cJ):=⟨_,rfl⟩
   have e1:(L.map fun p=>kZ p.1).getD j (ao (Ty.int .i64))=kZ p.1:=by
    rw[hp,List.getD_eq_getElem?_getD,List.getElem?_map,List.getD_eq_getElem?_getD,List.getElem?_eq_getElem hj];rfl
   have e2:(L.map Prod.snd).getD j (ao cJ)=p.2:=by
    rw[hp,List.getD_eq_getElem?_getD,List.getElem?_map,List.getD_eq_getElem?_getD,List.getElem?_eq_getElem hj];rfl
   rw[<-hp]
   clear hp
   have E:=IE (L.map Prod.snd) o (L.map fun p=>kZ p.1) (L.length:Int) (j:Int) p.2 (by rw[Int.toNat_natCast,e2]) _ rfl (kZ p.1) (by rw[Int.toNat_natCast,e1])
   refine E.trans ?_
   clear E
   have c1:aU (j:Int) ((L.map fun p=>kZ p.1).length:Int)=true:=bX (by rw[List.length_map];exact hj)
   have c2:aU (j:Int) ((L.map Prod.snd).length:Int)=true:=bX (by rw[List.length_map];exact hj)
   have r1: ∀ y:Int,roomy 8 (o.length+([y]:List Int).length)=true:=fun y=>bJ (by decide) (by show o.length+1<=_;omega)
   have r2: ∀ y z:Int,roomy 8 (o.length+([y,z]:List Int).length)=true:=fun y z=>bJ (by decide) (by show o.length+2<=_;omega)
   rw[dt (show(j:Int)<(L.length:Int) by omega),c1,c2,(abp (Cs p.2)).1,r1,r1,r2,Ep (by omega)]
   simp only[bp]
   unfold Qt kZ UY W5
   cases h1:decide (pR .i64 p.1 3=1)<;>cases h2:decide (pR .i64 p.1 3=2)<;>rfl
  ·refine(IE _ _ _ (L.length:Int) (L.length:Int) _ rfl _ rfl _ rfl).trans ?_
   rw[df (show ¬ (L.length:Int)<(L.length:Int) by omega)]
   rfl
 rw[List.take_zero,List.take_length]at R
 obtain⟨u1,u2,u3⟩:=rq (f:=kp) (ti:=eF) (t0:=gy) (t1:=jQ) R
 have el:(((L.map fun p=>kZ p.1).length:Nat):Int)=(L.length:Int):=by rw[List.length_map]
 refine vi (bR _) (bR _) ?_
 refine(afD _ _).trans ?_
 rw[el,show(((L.map Prod.snd).length:Nat):Int)=(L.length:Int) by rw[List.length_map],dt (rfl:(L.length:Int)=(L.length:Int))]
 show aM (r5 kp eF gy jQ (L.map Prod.snd,[],L.map (fun p=>kZ p.1),(L.length:Int),0,())) (bif qK kp eF (L.map Prod.snd,[],L.map (fun p=>kZ p.1),(L.length:Int),0,())then some (aA vn ((gM kp eF gy (L.map Prod.snd,[],L.map (fun p=>kZ p.1),(L.length:Int),0,())).1,0,()))else _)=_
 obtain⟨X,hX⟩: ∃ X:aj eF,X=(L.map Prod.snd,[],L.map (fun p=>kZ p.1),(L.length:Int),0,()):=⟨_,rfl⟩
 have u1:r5 kp eF gy jQ X=true:=by rw[hX];exact u1
 have u2:qK kp eF X=true:=by rw[hX];exact u2
 have u3:gM kp eF gy X=((gA (L.map mD)).1,()):=by rw[hX];exact u3
 rw[<-hX,u1,u2,u3]
 rfl
end Go.Proofs.Vd
