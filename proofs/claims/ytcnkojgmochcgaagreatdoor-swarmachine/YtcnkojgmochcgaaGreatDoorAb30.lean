import Derived.Test.YtcnkojgmochcgaaGreatDoorAb21
import Derived.Below
import Derived.Lib.SmallJoins
noncomputable section
namespace Go.Ab
variable [Io]
def ahC(l:List BV):BV:=List.rec wg (fun c _ ih=>nH c ih) l
section
variable {P:Program}{call:nv}
theorem nE(hc:nP P call){draw:Array Oper->ud}{nt:Nat}(hd: ∀ id ops,Rq P nt (.region id ops true) (draw ops))(n:Nat)(tail:Code): ∀ (l:List Code) (g:G) (w:World) (t:Tm) (h:Hp) (a:Act) (t1:Tm) (h1:Hp)
 (Q:Exit->Act->World->Prop),HR g w h->TR g w nt t a.tmps->a.defers=[]->ahC (l.map (oZ P draw call n nt)) t h=.norm t1 h1->uf g w h nt t1 h1 (tail.wp P Q)->(l.foldr Code.seq tail).wp P Q a w
 | [],g,w,t,h,a,t1,h1,Q,H,T,D,e,K=>by
  cases e
  exact K g w a (Ext.refl _ _ _) H T D
 |c::l,g,w,t,h,a,t1,h1,Q,H,T,D,e,K=>by
  change nH (oZ P draw call n nt c) (ahC (l.map (oZ P draw call n nt))) t h=.norm t1 h1 at e
  unfold nH at e
  have hcd:=Mv hc hd n c g w t h a (Exit.then ((l.foldr Code.seq tail).wp P Q) Q) H T D
  cases hr:oZ P draw call n nt c t h with
  |bad=>rw[hr]at e;cases e
  |ret t2 h2=>rw[hr]at e;cases e
  |exit i t2 h2=>rw[hr]at e;cases e
  |norm t2 h2=>
   rw[hr]at e hcd
   refine wp_seq (hcd fun g2 w2 a2 E2 H2 T2 D2=>?_)
   exact nE hc hd n tail l g2 w2 t2 h2 a2 t1 h1 Q H2 T2 D2 e (uf.then E2 K)
end
end Go.Ab

noncomputable section
namespace Go.Ab
end Go.Ab

noncomputable section
namespace Go.Ab
def isT(r:Ro):Bool:=match r with
 | .ok (.bool b) _=>b
 | _=>false
theorem ac9{r:Ro}(h:isT r=true): ∃ h',r=.ok (.bool true) h':=by
 unfold isT at h
 split at h
 ·subst h;exact⟨_,rfl⟩
 ·cases h
theorem K3.below{w w':World}(K:K3 w w'):Go.RowKit.Below w.heap.size w w':=⟨K.os,K.tape,K.output,K.size,K.wh⟩
theorem ac'[Io]{P:Program}{call:nv}(hc:nP P call){f:FuncId}{args:List AV}{vs:List Value}(e:isT (call f args (pf 0))=true)(w:World){oz:Nat->Prop}(hi: ∀ b,oz b->b<w.heap.size)(ht:tF (gE oz) w)(hv:cJ (gE oz) w args vs):
 Calls P f vs.toArray w fun e w'=>e=.returned (.bool true)/\Go.RowKit.Below w.heap.size w w':=by
 obtain⟨h',e'⟩:=ac9 e
 refine((hc f args (pf 0) _ h' e').2 (gE oz) w vs (IH hi ht) hv).mono ?_
 rintro e w' ⟨x,g',rfl,E,H',hx⟩
 simp only[VR]at hx
 subst hx
 exact⟨rfl,(MH E).below⟩
theorem yq{n:Int}(h:(Lit.int .u64 n).wf=true):0<=n/\n<=18446744073709551615:=by
 simp[Lit.wf,IntKind.min,IntKind.max,IntKind.bits,IntKind.signed]at h
 omega
end Go.Ab

noncomputable section
namespace Go.Ab
variable [Io]
section
variable {P:Program}
def II(fn:FuncId->Option Fb)(n:Nat)(c:nv):nv:=fun f args h=>match fn f with
 |none=>.bad
 |some b=>pZ (Nat.ble (len args) b.ntmps) (match b.body c n (vo args 0 Tm.none) h with
  | .norm t h=>fin b.res t h
  | .ret t h=>fin b.res t h
  | _=>.bad) .bad
theorem RZ{draw:nv->Nat->Array Oper->ud}(hd:KO P draw){fn:FuncId->Option Fb}(hf: ∀ f b,fn f=some b->OQ P draw f b)(n:Nat){c:nv}(hc:nP P c):nP P (II fn n c):=by
 intro f args h v h' e
 change (match fn f with
  |none=>Ro.bad
  |some b=>pZ (Nat.ble (len args) b.ntmps) (match b.body (c) n (vo args 0 Tm.none) h with| .norm t h=>fin b.res t h| .ret t h=>fin b.res t h| _=>.bad) .bad)=.ok v h' at e
 cases hb:fn f with
 |none=>rw[hb]at e;cases e
 |some b=>
 rw[hb]at e
 simp only at e
 cases hle:Nat.ble (len args) b.ntmps with
 |false=>rw[hle]at e;cases e
 |true=>
 rw[hle]at e
 change (match b.body (c) n (vo args 0 Tm.none) h with| .norm t h=>fin b.res t h| .ret t h=>fin b.res t h| _=>.bad)=Ro.ok v h' at e
 rw[cS]at hle
 have ahD:args.length<=b.ntmps:=Nat.ble_eq.mp hle
 have F0:=hf f b hb
 obtain⟨F,cd,hF,hcb,qM,D9,anE,ahE⟩:=F0.ex
 refine⟨F0.enter,fun g w vs H hv=>?_⟩
 rw[ahE]at e
 have ahF:=Mv hc (draw:=draw (c) b.ntmps) (nt:=b.ntmps) (fun id ops=>hd _ _ hc id ops) n cd
 have hvl:=hv.length
 have Mw:(vs.toArray++Array.replicate (F.ntmps - vs.toArray.size) undef).size=b.ntmps:=by simp;omega
 have hT0:TR g w b.ntmps Tm.none (vs.toArray++Array.replicate (F.ntmps - vs.toArray.size) undef):=
  ⟨D9,Mw,fun i v hi e=>by rw[Tm.FW i hi]at e;cases e⟩
 have hT:=zg args vs 0 b.ntmps Tm.none _ hv (by omega) hT0 (fun j v e=>by
  rw[Array.getElem?_append_left (by have:=(List.getElem?_eq_some_iff.1 e).1;simpa using this)]
  simpa using e)
 refine calls_of_wp hF hcb ?_
 have:=ahF g w _ h {tmps:=vs.toArray++Array.replicate (F.ntmps - vs.toArray.size) undef,defers:=[]}
  (bodyPost P F (fun e w'=> ∃ x g',e=.returned x/\Ext g w h g' w' h'/\HR g' w' h'/\VR g' w' v x)) H hT rfl
 have R4: ∀ t1 h1,fin b.res t1 h1=.ok v h'-> ∀ g' w' (a':Act),Ext g w h g' w' h1->HR g' w' h1->TR g' w' b.ntmps t1 a'.tmps->a'.defers=[]->
  a'.defers=[]/\ ∃ x,(results F a'.tmps).run P w'=.ok x w'/\ ∃ y g',Ending.returned x=.returned y/\Ext g w h g' w' h'/\HR g' w' h'/\VR g' w' v y:=by
  intro t1 h1 anG g' w' a' E' H' T' D'
  obtain⟨rfl,x,hx,Ry⟩:=acW H' T' anE anG
  exact⟨D',x,hx,x,g',rfl,E',H',Ry⟩
 simp only at e
 cases hr:oZ P (draw (c) b.ntmps) (c) n b.ntmps cd (vo args 0 Tm.none) h with
 |bad=>rw[hr]at e;cases e
 |norm t1 h1=>rw[hr]at e this;exact this (R4 t1 h1 e)
 |ret t1 h1=>rw[hr]at e this;exact this (R4 t1 h1 e)
 |exit i t1 h1=>rw[hr]at e;cases e
end
end Go.Ab

noncomputable section
namespace Go.Ab
open Go.ChangeShapes Go.WideShapes Go.ChangeAt Go.RowKit Go.Deep Go.Joins
end Go.Ab

noncomputable section
namespace Go.Ab
variable [Io]
end Go.Ab
namespace Go.Ab
variable [Io]
section
variable {P:Program}
def wG(fn:FuncId->Option Fb)(wr:nv->nv)(n:Nat)(d:Nat):nv:=Nat.rec (fun _ _ _=>.bad) (fun _ ih=>II fn n (wr ih)) d
theorem wH{draw:nv->Nat->Array Oper->ud}(hd:KO P draw){fn:FuncId->Option Fb}(hf: ∀ f b,fn f=some b->OQ P draw f b){wr:nv->nv}
 (hw: ∀ c,nP P c->nP P (wr c))(n:Nat): ∀ d,nP P (wG fn wr n d)
 |0=>by intro f args h v h' e;cases e
 |d+1=>RZ hd hf n (hw _ (wH hd hf hw n d))
theorem cJ.split{g:G}{w:World}: ∀ {l r:List AV} {vs:List Value},cJ g w (l++r) vs-> ∃ us ts,vs=us++ts/\cJ g w l us/\cJ g w r ts
 | [],r,vs,h=>⟨[],vs,rfl,by simp[cJ],h⟩
 |a::l,r,vs,h=>by
  simp only[List.cons_append,cJ]at h
  obtain⟨v,l',rfl,q,p⟩:=h
  obtain⟨us,ts,rfl,h1,h2⟩:=cJ.split p
  refine⟨v::us,ts,rfl,?_,h2⟩
  simp only[cJ]
  exact⟨v,us,rfl,q,h1⟩
end
end Go.Ab
namespace Go.Ab
variable [Io]
end Go.Ab

noncomputable section
namespace Go.Ab
variable [Io]
def zw(n:Nat):Hp->AV->Option AV:=
 Nat.rec (fun _ _=>none) (fun _ ih h a=>match a with
  | .oG id off n sz=>match h.cw.get id with
   |some cs=>match cs.rH off (Nat.mul n sz)with
    |some l=>match mapA (ih h) l with
     |some l=>some (.sU n l)
     |none=>none
    |none=>none
   |none=>none
  | .ref id off=>match h.cw.get id with
   |some cs=>match cs.rH off (Nat.sub cs.n off)with
    |some l=>match mapA (ih h) l with
     |some l=>some (.pP l)
     |none=>none
    |none=>none
   |none=>none
  | .agg l=>match mapA (ih h) l with
   |some l=>some (.agg l)
   |none=>none
  | .xJ l=>match mapA (ih h) l with
   |some l=>some (.xJ l)
   |none=>none
  | .fn f l=>match mapA (ih h) l with
   |some l=>some (.fn f l)
   |none=>none
  | .sU _ _=>none
  | .pP _=>none
  |a=>some a) n
theorem Xs{g g':G}{w:World}{h:Hp}(H:HR g w h)(ho: ∀ b,qt g h b->g'.oz b): ∀ (n:Nat) (a a':AV) (v:Value),zw n h a=some a'->VR g w a v->VR g' w a' v:=by
 intro n
 induction n with
 |zero=>intro a a' v e;cases e
 |succ n ih=>
  intro a a' v e hv
  have hm:= @B6 _ g g' w (zw n h) ih
  cases a with
  |int k n=>cases e;simpa only[VR]using hv
  |bool b=>cases e;simpa only[VR]using hv
  |sc x=>cases e;simpa only[VR]using hv
  |qi=>cases e;simpa only[VR]using hv
  |uR=>cases e;simpa only[VR]using hv
  |sym k s lo hi o=>cases e;simpa only[VR]using hv
  |any=>cases e;simpa only[VR]using hv
  |agg l=>
   change (match mapA (zw n h) l with|some l=>some (AV.agg l)|none=>none)=some a' at e
   cases h1:mapA (zw n h) l with
   |none=>rw[h1]at e;cases e
   |some l'=>
    rw[h1]at e
    cases e
    simp only[VR]at hv ⊢
    obtain⟨vs,e,q⟩:=hv
    exact⟨vs,e,hm h1 q⟩
  |xJ l=>
   change (match mapA (zw n h) l with|some l=>some (AV.xJ l)|none=>none)=some a' at e
   cases h1:mapA (zw n h) l with
   |none=>rw[h1]at e;cases e
   |some l'=>
    rw[h1]at e
    cases e
    simp only[VR]at hv ⊢
    obtain⟨vs,e,q⟩:=hv
    exact⟨vs,e,hm h1 q⟩
  |fn f l=>
   change (match mapA (zw n h) l with|some l=>some (AV.fn f l)|none=>none)=some a' at e
   cases h1:mapA (zw n h) l with
   |none=>rw[h1]at e;cases e
   |some l'=>
    rw[h1]at e
    cases e
    simp only[VR]at hv ⊢
    obtain⟨vs,e,q⟩:=hv
    exact⟨vs,e,hm h1 q⟩
  |sU m l=>cases e
  |pP l=>cases e
  |ref id off=>
   change (match h.cw.get id with|some cs=>(match cs.rH off (Nat.sub cs.n off)with|some l=>(match mapA (zw n h) l with|some l=>some (AV.pP l)|none=>none)|none=>none)|none=>none)=some a' at e
   cases h0:h.cw.get id with
   |none=>rw[h0]at e;cases e
   |some cs=>
   rw[h0]at e
   simp only at e
   cases hs:cs.rH off (Nat.sub cs.n off)with
   |none=>rw[hs]at e;cases e
   |some l=>
   rw[hs]at e
   simp only at e
   cases h1:mapA (zw n h) l with
   |none=>rw[h1]at e;cases e
   |some l'=>
    rw[h1]at e
    cases e
    obtain⟨rfl,_,_⟩:=rk hs
    simp only[VR]at hv ⊢
    obtain⟨b,s,RY,rfl⟩:=hv
    obtain⟨C,el,vs,hw,_,ov,hC⟩:=H.row h0 RY
    exact⟨b,s+off,(vs.drop off).take (Nat.sub cs.n off),rfl,ho b ⟨id,cs,s,h0,RY⟩,((pE hw hC).drop off).take _,hm h1 ((ov.drop off).take _)⟩
  |oG id off m sz=>
   change (match h.cw.get id with|some cs=>(match cs.rH off (Nat.mul m sz)with|some l=>(match mapA (zw n h) l with|some l=>some (AV.sU m l)|none=>none)|none=>none)|none=>none)=some a' at e
   cases h0:h.cw.get id with
   |none=>rw[h0]at e;cases e
   |some cs=>
   rw[h0]at e
   simp only at e
   cases hs:cs.rH off (Nat.mul m sz)with
   |none=>rw[hs]at e;cases e
   |some l=>
   rw[hs]at e
   simp only at e
   cases h1:mapA (zw n h) l with
   |none=>rw[h1]at e;cases e
   |some l'=>
    rw[h1]at e
    cases e
    obtain⟨rfl,hlen,_⟩:=rk hs
    simp only[VR]at hv ⊢
    rcases hv with⟨rfl,x,rfl⟩|⟨b,s,cap,RY,rfl,hle,_⟩
    ·refine⟨x,0,rfl,Nat.le_refl _,.inl ⟨rfl,?_⟩⟩
     have hz:Nat.mul 0 sz=0:=Nat.zero_mul sz
     rw[hz]at h1
     simp only[List.take_zero]at h1
     cases h1
     rfl
    ·obtain⟨C,el,vs,hw,_,ov,hC⟩:=H.row h0 RY
     exact⟨_,cap,rfl,hle,.inr ⟨b,s+off,(vs.drop off).take (Nat.mul m sz),rfl,ho b ⟨id,cs,s,h0,RY⟩,((pE hw hC).drop off).take _,hm h1 ((ov.drop off).take _)⟩⟩
mutual
def vV:AV->Bool
 | .agg l=>vA l
 | .xJ l=>vA l
 | .sU _ l=>vA l
 | .pP l=>vA l
 | .fn _ l=>vA l
 | .ref _ _=>false
 | .oG _ _ _ _=>false
 | _=>true
def vA:List AV->Bool
 | []=>true
 |a::l=>vV a&&vA l
end
mutual
theorem VR.vV{g:G}{w:World}: ∀ (a:AV) (v:Value),vV a=true->VR g w a v->VR (gE g.oz) w a v
 | .int _ _,v,n,r=>by simpa only[VR]using r
 | .bool _,v,n,r=>by simpa only[VR]using r
 | .sc _,v,n,r=>by simpa only[VR]using r
 | .qi,v,n,r=>by simpa only[VR]using r
 | .uR,v,n,r=>by simpa only[VR]using r
 | .any,v,n,r=>by simpa only[VR]using r
 | .sym _ _ _ _ _,v,n,r=>by simpa only[VR]using r
 | .ref _ _,v,n,r=>by cases n
 | .oG _ _ _ _,v,n,r=>by cases n
 | .agg cs,v,n,r=>by
  simp only[VR]at r ⊢
  obtain⟨vs,e,q⟩:=r
  exact⟨vs,e,cJ.vV cs _ n q⟩
 | .xJ cs,v,n,r=>by
  simp only[VR]at r ⊢
  obtain⟨vs,e,q⟩:=r
  exact⟨vs,e,cJ.vV cs _ n q⟩
 | .fn f cs,v,n,r=>by
  simp only[VR]at r ⊢
  obtain⟨vs,e,q⟩:=r
  exact⟨vs,e,cJ.vV cs _ n q⟩
 | .sU m cs,v,n,r=>by
  simp only[VR]at r ⊢
  obtain⟨a,cap,e,l,r⟩:=r
  refine⟨a,cap,e,l,?_⟩
  rcases r with r|⟨b,o,vs,e,i,c,q⟩
  ·exact .inl r
  ·exact .inr ⟨b,o,vs,e,i,c,cJ.vV cs _ n q⟩
 | .pP cs,v,n,r=>by
  simp only[VR]at r ⊢
  obtain⟨b,o,vs,e,i,c,q⟩:=r
  exact⟨b,o,vs,e,i,c,cJ.vV cs _ n q⟩
theorem cJ.vV{g:G}{w:World}: ∀ (l:List AV) (vs:List Value),vA l=true->cJ g w l vs->cJ (gE g.oz) w l vs
 | [],vs,n,r=>by simpa only[cJ]using r
 |a::l,vs,n,r=>by
  simp only[vA,Bool.and_eq_true]at n
  simp only[cJ]at r ⊢
  obtain⟨v,l',e,q,r⟩:=r
  exact⟨v,l',e,VR.vV a v n.1 q,cJ.vV l l' n.2 r⟩
end
def oL(P:Program)(f:FuncId)(args:List AV)(v:AV):Prop:=
 (∀ as w,(callFunc f as).run P w=.ok (.enter f as) w)/\ ∀ (g:G) (w:World) (vs:List Value),(∀ b,g.oz b->b<w.heap.size)->tF g w->cJ g w args vs->
  Calls P f vs.toArray w fun e w'=> ∃ x,e=.returned x/\K3 w w'/\VR (gE fun b=>w.heap.size<=b/\b<w'.heap.size) w' v x
def anH(r:Ro):Option AV:=Ro.rec none (fun v h=>zw 8 h v) r
theorem AK{P:Program}{call:nv}(hc:nP P call){f:FuncId}{args:List AV}{v':AV}(e:anH (call f args (pf 0))=some v')(ha:vA args=true):oL P f args v':=by
 cases hr:call f args (pf 0)with
 |bad=>rw[hr]at e;cases e
 |ok v h'=>
 rw[hr]at e
 have hf:zw 8 h' v=some v':=e
 obtain⟨hen,EO⟩:=hc f args (pf 0) v h' hr
 refine⟨hen,fun g w vs hi ht hv=>(EO (gE g.oz) w vs (IH hi ht) (cJ.vV _ _ ha hv)).mono ?_⟩
 rintro e w' ⟨x,g',rfl,E,H',hx⟩
 refine⟨x,rfl,MH E,Xs H' (fun b k=>?_) 8 v v' x hf hx⟩
 rcases E.uU b k with⟨id,cs,s,e,_⟩|k1
 ·cases e
 ·obtain⟨id,cs,s,e,m⟩:=k
  obtain⟨_,_,_,hw,_⟩:=H'.row e m
  exact⟨k1,(Array.getElem?_eq_some_iff.1 hw).1⟩
def ada(has:FuncId->Bool)(tbl:FuncId->List AV->Option AV)(call:nv):nv:=fun f args h=>Bool.rec (call f args h) (match mapA (yp 8 h) args with
 |some wI=>match tbl f wI with
  |some v=>.ok v h
  |none=>call f args h
 |none=>call f args h) (has f)
theorem Xt{P:Program}{has:FuncId->Bool}{tbl:FuncId->List AV->Option AV}{call:nv}(ht: ∀ f args v,tbl f args=some v->oL P f args v)(hc:nP P call):nP P (ada has tbl call):=by
 intro f args h v h' e
 unfold ada at e
 cases hh:has f with
 |false=>rw[hh]at e;exact hc f args h v h' e
 |true=>
 rw[hh]at e
 simp only at e
 cases hfz:mapA (yp 8 h) args with
 |none=>rw[hfz]at e;exact hc f args h v h' e
 |some wI=>
 rw[hfz]at e
 simp only at e
 cases ht1:tbl f wI with
 |none=>rw[ht1]at e;exact hc f args h v h' e
 |some v1=>
  rw[ht1]at e
  cases e
  obtain⟨k1,k2⟩:=ht f wI v ht1
  refine⟨k1,fun g w vs H hv=>?_⟩
  have hv1:cJ (gE fun b=>b<w.heap.size) w wI vs:=B6 (g:=g) (fun a a' x=>ac8 H (g':=gE fun b=>b<w.heap.size) H.oz (fun b ⟨id,cs,s,e,m⟩=>by
   obtain⟨_,_,_,hw,_⟩:=H.row e m
   exact(Array.getElem?_eq_some_iff.1 hw).1) 8 a a' x) hfz hv
  refine(k2 (gE fun b=>b<w.heap.size) w vs (fun b k=>k) (fun p hp=>⟨H.oz _ (H.tb p hp).1,(H.tb p hp).2⟩) hv1).mono ?_
  rintro e w' ⟨x,rfl,K,hx⟩
  obtain⟨g',Gr⟩: ∃ g':G,g'=⟨g.m,fun b=>g.oz b∨(w.heap.size<=b/\b<w'.heap.size)⟩:=⟨_,rfl⟩
  have hO: ∀ b,qt g' h b->qt g h b:=by
   rintro b ⟨id,cs,s,e,m⟩
   rw[Gr]at m
   exact⟨id,cs,s,e,m⟩
  have M:xK g w g' w':=⟨fun _ _ e=>by rw[Gr];exact e,fun b i=>by rw[Gr];exact .inl i,fun b i=>K.wh b (H.oz b i),K.rows⟩
  refine⟨x,g',rfl,⟨K.os,K.tape,K.output,K.size,Nat.le_refl _,M.m,fun b hb _=>K.wh b hb,K.rows,M.oz,fun b i=>?_,fun b o=>.inl (hO b o)⟩,⟨fun id qu=>?_,fun id cs e=>?_,fun id Bu b s s' cs cs' e1 e2 m1 m2=>?_,fun b i=>?_,tF.mono M H.tb⟩,?_⟩
  ·rw[Gr]at i
   rcases i with i|i
   ·exact .inl i
   ·exact .inr (.inr i.1)
  ·rw[Gr];exact H.fresh id qu
  ·obtain⟨b,s,C,el,us,h1,h2,h3,h4,h5⟩:=H.cw id cs e
   have hb:=(Array.getElem?_eq_some_iff.1 h2).1
   refine⟨b,s,C,el,us,M.m _ _ h1,by rw[K.wh b hb];exact h2,?_,cJ.o8 M _ _ h4,h5⟩
   rw[Gr]
   rintro(i|i)
   ·exact h3 i
   ·omega
  ·rw[Gr]at m1 m2
   exact H.inj id Bu b s s' cs cs' e1 e2 m1 m2
  ·rw[Gr]at i
   rcases i with i|i
   ·exact Nat.lt_of_lt_of_le (H.oz b i) K.size
   ·exact i.2
  ·refine VR.o8 (⟨(fun _ _ e=>by cases e),(fun b i=>by rw[Gr];exact .inr i),fun _ _=>rfl,fun _=>Nat.le_refl _⟩:xK _ _ g' w') _ _ hx
end Go.Ab

noncomputable section
namespace Go.Ab
inductive Od where
 |t (i:Nat)
 |c (v:AV)
 |zz
 |w (o:Od)
inductive BF where
 |add|sub|mul|quo|rem|and|or|xor|andNot|shl|shr|lss|leq|gtr|geq
 |eqI (neg:Bool)|eqB (neg:Bool)|V4 (neg:Bool)|eqP (neg:Bool)|eqN (neg:Bool)|uc (neg:Bool) (l:List Bool)
inductive UF where
 |not|neg|xor|int (k:IntKind)
inductive oB where
 |mv (a:Od)|pk (c a b:Od)|nw (cs:List AV)|bx (a:Od)|bd (z:List AV) (ps:List (Nat×Nat×Od))|rw(n sz:Nat) (z:List AV) (ps:List (Nat×Od))
 |ld (sz:Nat) (agg:Bool) (a:Od)|sto (sz:Nat) (a b:Od)|nl (a:Od)|bn (f:BF) (a b:Od)|un (f:UF) (a:Od)|bys (a:Od)|fn (f:FuncId) (cap:List Od)
 |mk (size bytes:Nat) (zero:List AV) (l c:Od)|slS (a:Od) (lo hi:Option Od)|slN (size:Nat) (a:Od) (lo hi:Option Od)|slA (n size:Nat) (a:Od) (lo hi:Option Od)
 |fa (off:Nat) (a:Od)|fd (off size:Nat) (agg:Bool) (a:Od)|ixS (size:Nat) (a i:Od)|ixA (n size:Nat) (a i:Od)|ix (n size:Nat) (agg:Bool) (a i:Od)|ixT (a i:Od)
 |ex (a:Od) (i:Nat)|lnT (a:Od)|ln (a:Od)|ap (size bytes:Nat) (s a:Od)|apZ (size bytes:Nat) (z:List AV) (s a:Od)|apS (bytes:Nat) (s a:Od)|mrk (a:Od)
 |cpy (size:Nat) (d s:Od)|emp (a b c:Od)|min (a b:Od)|max (a b:Od)|map|cap (a:Od)|bad|call (f:FuncId) (args:List Od)|callV (f:Od) (args:List Od)
 |gd (j:Od) (want:Bool) (f:oB)|mn (f:oB)
inductive xV where
 |fi
 |st (i:Nat) (f:oB) (k:xV)
 |sn (f:oB) (k:xV)
 |ck (s:Od) (f:oB) (k:xV)
inductive uP where
 |rg (r:xV)|sk|sq (a b:uP)|cif (c:Od) (a b:uP)|bl (id:Nat) (b:uP)|lp (b:uP)|ex (i:Nat)|rt|bad
structure Ea where
 ntmps:Nat
 res:List RV
 code:uP
def cI(o:Od):oI:=Od.rec (fun i=>oT i) (fun v=>oC v) oX (fun _ ih=>wO ih) o
def BF.f:BF->AV->AV->Option AV
 | .add=>tD| .sub=>r6| .mul=>uT| .quo=>vM| .rem=>ra| .and=>sV| .or=>HO| .xor=>A5| .andNot=>s0| .shl=>Ez| .shr=>EA
 | .lss=>r7| .leq=>ui| .gtr=>qy| .geq=>qz
 | .eqI n=>A6 n| .eqB n=>FU n| .V4 n=>Co n| .eqP n=>DU n| .eqN n=>Cp n| .uc n l=>Cr n l
def UF.f:UF->AV->Option AV
 | .not=>Oh| .neg=>Oi| .xor=>HP| .int k=>Cw k
def K4(call:nv)(o:oB):oH:=match o with
 | .mv a=>qA (cI a)| .pk c a b=>vN (cI c) (cI a) (cI b)| .nw cs=>Kw cs| .bx a=>DX (cI a)
 | .bd z ps=>uA z (ps.map fun p=>(p.1,p.2.1,cI p.2.2))| .rw n sz z ps=>Cu n sz z (ps.map fun p=>(p.1,cI p.2))
 | .ld sz agg a=>r8 sz agg (cI a)| .sto sz a b=>tE sz (cI a) (cI b)| .nl a=>Cv (cI a)| .bn f a b=>wa f.f (cI a) (cI b)| .un f a=>HQ f.f (cI a)
 | .bys a=>vm (cI a)| .fn f cap=>Oj f (cap.map cI)| .mk s b z l c=>uj s b z (cI l) (cI c)
 | .slS a lo hi=>rb (cI a) (lo.map cI) (hi.map cI)| .slN s a lo hi=>o6 s (cI a) (lo.map cI) (hi.map cI)| .slA n s a lo hi=>qj n s (cI a) (lo.map cI) (hi.map cI)
 | .fa off a=>nW off (cI a)| .fd off s g a=>uD off s g (cI a)| .ixS s a i=>yS s (cI a) (cI i)| .ixA n s a i=>Bt n s (cI a) (cI i)| .ix n s g a i=>sJ n s g (cI a) (cI i)| .ixT a i=>rh (cI a) (cI i)
 | .ex a i=>qa (cI a) i| .lnT a=>vP (cI a)| .ln a=>Cz (cI a)| .ap s b x y=>o7 s b (cI x) (cI y)| .apZ s b z x y=>uk s b z (cI x) (cI y)| .apS b x y=>yV b (cI x) (cI y)
 | .mrk a=>xQ (cI a)| .cpy s d a=>sW s (cI d) (cI a)| .emp a b c=>CA (cI a) (cI b) (cI c)| .min a b=>DY (cI a) (cI b)| .max a b=>DZ (cI a) (cI b)| .map=>Ol| .cap a=>Cy (cI a)| .bad=>cY
 | .call f args=>A7 call f (args.map cI)| .callV f args=>wj call (cI f) (args.map cI)
 | .gd j want f=>gF (cI j) want (K4 call f)| .mn f=>mn (K4 call f)
def P'(call:nv)(r:xV):ud:=
 xV.rec Go.Ab.fi (fun i f _ ih=>st (sT i) (K4 call f) ih) (fun f _ ih=>sn (K4 call f) ih) (fun s f _ ih=>ck (cI s) (K4 call f) ih) r
def sF(call:nv)(n:Nat)(c:uP):BV:=
 uP.rec (fun r=>cRg (P' call r)) wg (fun _ _ a b=>nH a b) (fun c _ _ a b=>VK (cI c) a b) (fun id _ b=>yP id b) (fun _ b=>V5 n b) (fun i=>Qm i) og HS c
def Ea.fb(b:Ea):Fb:=⟨b.ntmps,b.res,fun call n=>sF call n b.code⟩
namespace X
abbrev oC(v:AV):Od:=.c v
abbrev oT(i:Nat):Od:=.t i
abbrev oX:Od:=.zz
abbrev wO(o:Od):Od:=.w o
abbrev qA:=oB.mv
abbrev vN:=oB.pk
abbrev Kw:=oB.nw
abbrev DX:=oB.bx
abbrev uA:=oB.bd
abbrev Cu:=oB.rw
abbrev r8:=oB.ld
abbrev tE:=oB.sto
abbrev Cv:=oB.nl
abbrev wa:=oB.bn
abbrev HQ:=oB.un
abbrev vm:=oB.bys
abbrev Oj:=oB.fn
abbrev uj:=oB.mk
abbrev rb:=oB.slS
abbrev o6:=oB.slN
abbrev qj:=oB.slA
abbrev nW:=oB.fa
abbrev uD:=oB.fd
abbrev yS:=oB.ixS
abbrev Bt:=oB.ixA
abbrev sJ:=oB.ix
abbrev rh:=oB.ixT
abbrev qa:=oB.ex
abbrev vP:=oB.lnT
abbrev Cz:=oB.ln
abbrev o7:=oB.ap
abbrev uk:=oB.apZ
abbrev yV:=oB.apS
abbrev xQ:=oB.mrk
abbrev sW:=oB.cpy
abbrev CA:=oB.emp
abbrev DY:=oB.min
abbrev DZ:=oB.max
abbrev Ol:=oB.map
abbrev Cy:=oB.cap
abbrev cY:=oB.bad
abbrev A7(_:Unit)(f:FuncId)(args:List Od):=oB.call f args
abbrev wj(_:Unit)(f:Od)(args:List Od):=oB.callV f args
abbrev gF:=oB.gd
abbrev mn:=oB.mn
abbrev fi:=xV.fi
abbrev st:=xV.st
abbrev sn:=xV.sn
abbrev ck:=xV.ck
abbrev cRg:=uP.rg
abbrev wg:=uP.sk
abbrev nH:=uP.sq
abbrev VK:=uP.cif
abbrev yP:=uP.bl
abbrev V5(_:Unit)(b:uP):=uP.lp b
abbrev Qm:=uP.ex
abbrev og:=uP.rt
abbrev HS:=uP.bad
abbrev tD:=BF.add
abbrev r6:=BF.sub
abbrev uT:=BF.mul
abbrev vM:=BF.quo
abbrev ra:=BF.rem
abbrev sV:=BF.and
abbrev HO:=BF.or
abbrev A5:=BF.xor
abbrev s0:=BF.andNot
abbrev Ez:=BF.shl
abbrev EA:=BF.shr
abbrev r7:=BF.lss
abbrev ui:=BF.leq
abbrev qy:=BF.gtr
abbrev qz:=BF.geq
abbrev A6:=BF.eqI
abbrev FU:=BF.eqB
abbrev Co:=BF.V4
abbrev DU:=BF.eqP
abbrev Cp:=BF.eqN
abbrev Cr:=BF.uc
abbrev Oh:=UF.not
abbrev Oi:=UF.neg
abbrev HP:=UF.xor
abbrev Cw:=UF.int
abbrev anI(n:Nat)(r:List RV)(b:Unit->Unit->uP):Ea:=⟨n,r,b () ()⟩
end X
end Go.Ab

noncomputable section
namespace Go.Ab
namespace Lf
inductive Ty where
 |int (k:IntKind)|bool|str|cq (t:Ty)|pair (a b:Ty)
@[reducible] noncomputable def den(t:Ty):Type:=Ty.rec (fun _=>Int) Bool ByteArray (fun _ ih=>List ih) (fun _ _ a b=>a×b) t
def cE(t:Ty):den t:=Ty.rec (motive:=den) (fun _=>(0:Int)) false ByteArray.empty (fun _ _=>[]) (fun _ _ a b=>(a,b)) t
def size(t:Ty):Nat:=Ty.rec (motive:=fun _=>Nat) (fun _=>1) 1 1 (fun _ _=>1) (fun _ _ a b=>Nat.add a b) t
def Aj:(a b:Ty)->Option (PLift (a=b))
 | .int k,.int k'=>if h:k=k' then some ⟨by rw[h]⟩else none
 | .bool,.bool=>some ⟨rfl⟩
 | .str,.str=>some ⟨rfl⟩
 | .cq a,.cq b=>match Aj a b with
  |some ⟨h⟩=>some ⟨by rw[h]⟩
  |none=>none
 | .pair a b,.pair c d=>match Aj a c with
  |some ⟨h⟩=>match Aj b d with
   |some ⟨k⟩=>some ⟨by rw[h,k]⟩
   |none=>none
  |none=>none
 | _,_=>none
inductive Sv where
 |i (k:IntKind) (n:Int)
 |b (b:Bool)
 |a (v:AV)
 |c (m:Nat) (t:Ty) (x:den t)
 |ag (l:List Sv)
 |tu (l:List Sv)
 |fn (f:FuncId) (l:List Sv)
 |rf (r o:Nat)
 |re (r sz i o:Nat)
 |os (r sz:Nat)
 |ss (r sz off n:Nat)
 |xo (r sz off n:Nat)
 |zp (l:List Sv)
inductive Row where
 |o (g:Nat) (l:List Sv)
 |l (t:Ty) (x:List (den t))
 |zo (l:List Sv)
 |z (t:Ty) (x:List (den t))
structure Hq where
 next:Nat
 cw:Tr Row
abbrev Tq:=F8 (F8 (F8 (Option Sv)))
def Tq.at(t:Tq)(i:Nat):Option Sv:=((t.J' (i / 64)).J' (i / 8 % 8)).J' (i % 8)
def Tq.put(t:Tq)(i:Nat)(v:Option Sv):Tq:=t.qK ((t.J' (i / 64)).qK (((t.J' (i / 64)).J' (i / 8 % 8)).qK v (i % 8)) (i / 8 % 8)) (i / 64)
def Tq.none:Tq:=F8.all (F8.all (F8.all Option.none))
inductive T (α:Type) where
 |bad
 |ok (a:α)
 |br (c:Bool) (a b:T α)
 |ck (c:Bool) (a:T α)
def T.val{α:Type}(x:T α):Option α:=T.rec (motive:=fun _=>Option α) none (fun a=>some a) (fun c _ _ a b=>bif c then a else b) (fun c _ a=>bif c then a else none) x
def T.bd{α β:Type}(x:T α)(f:α->T β):T β:=T.rec (motive:=fun _=>T β) .bad (fun a=>f a) (fun c _ _ a b=>.br c a b) (fun c _ a=>.ck c a) x
def T.of{α:Type}:Option α->T α
 |some a=>.ok a
 |none=>.bad
inductive LB where
 |l (b:Bool)
 |t (b:Bool)
def LB.v:LB->Bool
 | .l b=>b
 | .t b=>b
def LB.and:LB->LB->LB
 | .l true,y=>y
 | .l false,_=>.l false
 | .t _,.l false=>.l false
 | .t a,.l true=>.t a
 | .t a,.t b=>.t (a&&b)
def ckL{α:Type}(c:LB)(x:T α):T α:=match c with
 | .l true=>x
 | .l false=>.bad
 | .t b=>.ck b x
def svB:LB->Sv
 | .l b=>.b b
 | .t b=>.c 0 .bool b
def Sv.cells:Sv->List Sv
 | .ag l=>l
 |w=>[w]
def IJ:Sv->Bool
 | .ag _| .tu _=>false
 | _=>true
def aa':AV->Bool
 | .sc _| .qi| .uR| .any=>true
 | _=>false
def ofA:AV->Option Sv
 | .int k n=>some (.i k n)
 | .bool b=>some (.b b)
 | .sc v=>some (.a (.sc v))
 | .qi=>some (.a .qi)
 | .uR=>some (.a .uR)
 | .xJ []=>some (.tu [])
 | .fn f []=>some (.fn f [])
 | _=>none
def O5(l:List AV):Option (List Sv):=List.rec (some []) (fun a _ ih=>match ofA a with
 |some b=>match ih with
  |some r=>some (b::r)
  |none=>none
 |none=>none) l
def ru(o:Od)(t:Tq):Option Sv:=match o with
 | .t i=>bif Nat.blt i 512 then t.at i else none
 | .c v=>ofA v
 | _=>none
def opw(o:Od)(t:Tq):Option Sv:=match o with
 | .w o=>ru o t
 | _=>none
def R5(l:List Od)(t:Tq):Option (List Sv):=List.rec (some []) (fun o _ ih=>match ru o t with
 |some v=>match ih with
  |some vs=>some (v::vs)
  |none=>none
 |none=>none) l
def toN:Sv->Option (IntKind×Int)
 | .i k n=>some (k,n)
 | .c _ (.int k) x=>some (k,x)
 | _=>none
def toB:Sv->Option LB
 | .b b=>some (.l b)
 | .c _ .bool x=>some (.t x)
 | _=>none
def toS:Sv->Option (Bool×ByteArray)
 | .a (.sc (.string s))=>some (true,s)
 | .c _ .str x=>some (false,x)
 | _=>none
def nz(k:IntKind)(a b:Int):Int:=na k (a+b)
def cz(k:IntKind)(a b:Int):Int:=na k (a - b)
def Xu(k:IntKind)(a b:Int):Int:=na k (a*b)
def R6(k:IntKind)(a b:Int):Int:=na k (Int.tdiv a b)
def we(_k:IntKind)(a b:Int):Int:=Int.tmod a b
def intOf:Option AV->Int
 |some (.int _ n)=>n
 | _=>0
def np(k:IntKind)(a b:Int):Int:=intOf (V0 (.int k a) (.int k b))
def C3(k:IntKind)(a b:Int):Int:=intOf (bOr (.int k a) (.int k b))
def Eb(k:IntKind)(a b:Int):Int:=intOf (V1 (.int k a) (.int k b))
def xq(k:IntKind)(a b:Int):Int:=intOf (s0 (.int k a) (.int k b))
def tP(k:IntKind)(a b:Int):Int:=intOf (Kt (.int k a) (.int .u64 b))
def px(k:IntKind)(a b:Int):Int:=intOf (Ku (.int k a) (.int .u64 b))
def yt(k:IntKind)(a:Int):Int:=na k (0 - a)
def O6(k:IntKind)(a:Int):Int:=intOf (HP (.int k a))
def cb(k:IntKind)(a:Int):Int:=na k a
inductive Cls where
 |ar (f:IntKind->Int->Int->Int)
 |dv (f:IntKind->Int->Int->Int)
 |sh (f:IntKind->Int->Int->Int)
 |cm (f:Int->Int->Bool)
 |no
def R7:BF->Cls
 | .add=>.ar nz| .sub=>.ar cz| .mul=>.ar Xu| .and=>.ar np| .or=>.ar C3| .xor=>.ar Eb| .andNot=>.ar xq
 | .quo=>.dv R6| .rem=>.dv we| .shl=>.sh tP| .shr=>.sh px
 | .lss=>.cm fun a b=>decide (a<b)| .leq=>.cm fun a b=>decide (a<=b)| .gtr=>.cm fun a b=>decide (b<a)| .geq=>.cm fun a b=>decide (b<=a)
 | .eqI neg=>.cm (match neg with|false=>fun a b=>decide (a=b)|true=>fun a b=> !decide (a=b))
 | _=>.no
def R8:Sv->Bool
 | .i _ _=>true
 | _=>false
def Xv(i:Bool)(x y:Sv):Option LB:=match i with
 |true=>match x,y with
  | .i k a,.i k' b=>bif qL k k' then some (.l (eqI a b))else none
  |x,y=>match toN x,toN y with
   |some (k,a),some (k',b)=>bif qL k k' then some (.t (decide (a=b)))else none
   | _,_=>none
 |false=>match toB x,toB y with
  |some (.l a),some (.l b)=>some (.l (!(xor a b)))
  |some a,some b=>some (.t (!(xor a.v b.v)))
  | _,_=>none
def ade(l:List Bool):List Sv->List Sv->Option LB:=
 List.rec (fun _ _=>some (.l true)) (fun i _ ih xs ys=>match xs,ys with
  |x::xs,y::ys=>match Xv i x y with
   |some c=>match ih xs ys with
    |some d=>some (c.and d)
    |none=>none
   |none=>none
  | _,_=>none) l
def adf(neg:Bool)(c:LB):LB:=match neg,c with
 |false,c=>c
 |true,.l b=>.l (!b)
 |true,.t b=>.t (!b)
def R9:Sv->Bool
 | .rf _ _| .re _ _ _ _| .zp _=>true
 | _=>false
def adg(f:BF)(x y:Sv):T Sv:=match x,y with
 | .i k a,.i k' b=>(match f.f (.int k a) (.int k' b)with
  |some (.int k r)=>.ok (.i k r)
  |some (.bool r)=>.ok (.b r)
  | _=>.bad)
 |x,y=>match toN x,toN y with
  |some (k,a),some (k',b)=>(match R7 f with
   | .ar g=>bif qL k k' then .ok (.c 0 (.int k) (g k a b))else .bad
   | .dv g=>bif qL k k' then(bif R8 y then(bif eqI b 0 then .bad else .ok (.c 0 (.int k) (g k a b)))else .ck (!decide (b=0)) (.ok (.c 0 (.int k) (g k a b))))else .bad
   | .sh g=>(bif R8 y then(bif sD b 0 then .bad else .ok (.c 0 (.int k) (g k a b)))else .ck (decide (0<=b)) (.ok (.c 0 (.int k) (g k a b))))
   | .cm g=>bif qL k k' then .ok (.c 0 .bool (g a b))else .bad
   | .no=>.bad)
  | _,_=>.bad
def sBn(f:BF)(x y:Sv):T Sv:=match f with
 | .eqB neg=>match toB x,toB y with
  |some (.l a),some (.l b)=>.ok (.b (bif neg then xor a b else !(xor a b)))
  |some a,some b=>.ok (.c 0 .bool (match neg with|true=>xor a.v b.v|false=> !(xor a.v b.v)))
  | _,_=>.bad
 | .V4 neg=>match toS x,toS y with
  |some (true,a),some (true,b)=>.ok (.b (bif neg then !(eqStr a b)else eqStr a b))
  |some (_,a),some (_,b)=>.ok (.c 0 .bool (match neg with|true=> !(eqStr a b)|false=>eqStr a b))
  | _,_=>.bad
 | .eqP neg=>match x,y with
  | .a (.sc (.pointer none)),.a (.sc (.pointer none))=>.ok (.b (!neg))
  | .a (.sc (.pointer none)),y=>bif R9 y then .ok (.b neg)else .bad
  |x,.a (.sc (.pointer none))=>bif R9 x then .ok (.b neg)else .bad
  | _,_=>.bad
 | .eqN neg=>match x,y with
  | .a v,.a w=>bif isNil w then(match FR v with
   |some b=>.ok (.b (bif neg then !b else b))
   |none=>.bad)else .bad
  | .xo _ _ _ _,.a w=>bif isNil w then .ok (.b neg)else .bad
  | .c _ (.cq _) x,.a w=>bif isNil w then .ck (!(Nat.beq x.length 0)) (.ok (.b neg))else .bad
  | _,_=>.bad
 | .uc neg l=>match x,y with
  | .ag xs,.ag ys=>match ade l xs ys with
   |some c=>.ok (svB (adf neg c))
   |none=>.bad
  | _,_=>.bad
 |f=>adg f x y
def adi(f:UF)(x:Sv):Option Sv:=match f with
 | .not=>match toB x with
  |some (.l b)=>some (.b (!b))
  |some (.t b)=>some (.c 0 .bool (!b))
  |none=>none
 | .neg=>match x with
  | .i k n=>some (.i k (yt k n))
  | .c _ (.int k) n=>some (.c 0 (.int k) (yt k n))
  | _=>none
 | .xor=>match x with
  | .i k n=>some (.i k (O6 k n))
  | .c _ (.int k) n=>some (.c 0 (.int k) (O6 k n))
  | _=>none
 | .int k=>match x with
  | .i _ n=>some (.i k (cb k n))
  | .c _ (.int _) n=>some (.c 0 (.int k) (cb k n))
  | _=>none
def uE(t:Ty):den t->List Sv:=
 Ty.rec (motive:=fun t=>den t->List Sv) (fun k x=>[.c 0 (.int k) x]) (fun x=>[.c 0 .bool x]) (fun x=>[.c 0 .str x]) (fun t _ x=>[.c 0 (.cq t) x]) (fun _ _ yd Cq x=>app (yd x.1) (Cq x.2)) t
def ahJ(l:List Sv)(off n:Nat):Option (List Sv):=match tk n (dp off l)with
 |r=>bif Nat.beq (len r) n then some r else none
def C4(agg:Bool)(l:List Sv)(off sz:Nat):Option Sv:=match ahJ l off sz with
 |none=>none
 |some r=>bif agg then some (.ag r)else match r with
  | [c]=>some c
  | _=>none
def IK(l:List Sv)(off:Nat)(new:List Sv):List Sv:=app (tk off l) (app new (dp (Nat.add off (len new)) l))
def Gs(l:List (Nat×Nat×Sv)):List Sv->Option (List Sv):=
 List.rec (fun cells=>some cells) (fun p _ ih cells=>
  bif Nat.beq (len p.2.2.cells) p.2.1&&Nat.ble (Nat.add p.1 p.2.1) (len cells)then ih (IK cells p.1 p.2.2.cells)else none) l
def Gt(l:List (Nat×Nat×Od))(t:Tq):Option (List (Nat×Nat×Sv)):=
 List.rec (some []) (fun p _ ih=>match ru p.2.2 t with
  |some v=>match ih with
   |some vs=>some ((p.1,p.2.1,v)::vs)
   |none=>none
  |none=>none) l
def Gu(l:List (Nat×Od))(t:Tq):Option (List (Nat×Sv)):=
 List.rec (some []) (fun p _ ih=>match ru p.2 t with
  |some v=>match ih with
   |some vs=>some ((p.1,v)::vs)
   |none=>none
  |none=>none) l
def C5(size:Nat)(l:List (Nat×Sv)):Nat->Option (List Sv):=
 List.rec (fun _=>some []) (fun p _ ih i=>
  bif Nat.beq p.1 i&&Nat.beq (len p.2.cells) size then(match ih (Nat.add i 1)with|some r=>some (app p.2.cells r)|none=>none)else none) l
def adj(n:Nat)(z:List Sv):List Sv:=Nat.rec [] (fun _ ih=>app z ih) n
def Gv(size:Nat)(l:List (Nat×Sv)):List (Nat×Nat×Sv):=List.rec [] (fun p _ ih=>(Nat.mul p.1 size,size,p.2)::ih) l
def IL(n size:Nat)(zero:List Sv)(l:List (Nat×Sv)):Option (List Sv):=
 match bif Nat.beq (len l) n then C5 size l 0 else none with
 |some cs=>some cs
 |none=>Gs (Gv size l) (adj n zero)
def nZ(h:Hq)(r:Row):Hq:=⟨Nat.add h.next 1,h.cw.set h.next (some r)⟩
def qE(h:Hq)(id:Nat)(r:Option Row):Hq:=⟨h.next,h.cw.set id r⟩
def rdS(t:Ty)(f:List Sv->Hq->Option (den t×List Sv×Hq))(n:Nat):List Sv->Hq->Option (List (den t)×Hq):=
 Nat.rec (fun _ h=>some ([],h)) (fun _ ih l h=>match f l h with
  |some (x,r,h)=>match ih r h with
   |some (xs,h)=>some (x::xs,h)
   |none=>none
  |none=>none) n
def rdX(t:Ty)(f:List Sv->Hq->Option (den t×List Sv×Hq))(n off:Nat)(l:List Sv)(h:Hq):Option (List (den t)×Hq):=bif Nat.ble off (len l)then rdS t f n (dp off l) h else none
def nN:AV->Bool
 | .qi=>true
 |a=>yc a
def asL(t:Ty)(f:List Sv->Hq->Option (den t×List Sv×Hq))(v:Sv)(h:Hq):Option (List (den t)×Hq):=match v with
 | .a w=>bif nN w then some ([],h)else none
 | .c _ (.cq t') x=>match Aj t' t with
  |some ⟨e⟩=>some (e▸x,h)
  |none=>none
 | .os r _=>match h.cw.get r with
  |some (.l t' x)=>(match Aj t' t with
   |some ⟨e⟩=>some (e▸x,qE h r (some (.z t' x)))
   |none=>none)
  |some (.z t' x)=>(match Aj t' t with
   |some ⟨e⟩=>some (e▸x,h)
   |none=>none)
  | _=>none
 | .ss r _ off n=>match h.cw.get r with
  |some (.l t' x)=>(match Aj t' t with
   |some ⟨e⟩=>some (((e▸x:List (den t)).drop off).take n,qE h r (some (.z t' x)))
   |none=>none)
  |some (.z t' x)=>(match Aj t' t with
   |some ⟨e⟩=>some (((e▸x:List (den t)).drop off).take n,h)
   |none=>none)
  | _=>none
 | .xo r sz off n=>bif Nat.beq sz (size t)then(match h.cw.get r with
  |some (.o _ l)=>rdX t f n off l (qE h r (some (.zo l)))
  |some (.zo l)=>rdX t f n off l h
  | _=>none)else none
 | _=>none
def asT(t:Ty):List Sv->Hq->Option (den t×List Sv×Hq):=
 Ty.rec (motive:=fun t=>List Sv->Hq->Option (den t×List Sv×Hq))
  (fun k l h=>match l with
   |v::r=>match toN v with
    |some (k',n)=>bif qL k k' then some (n,r,h)else none
    |none=>none
   | []=>none)
  (fun l h=>match l with
   |v::r=>match toB v with
    |some b=>some (b.v,r,h)
    |none=>none
   | []=>none)
  (fun l h=>match l with
   |v::r=>match toS v with
    |some (_,s)=>some (s,r,h)
    |none=>none
   | []=>none)
  (fun t ih l h=>match l with
   |v::r=>match asL t ih v h with
    |some (x,h)=>some (x,r,h)
    |none=>none
   | []=>none)
  (fun _ _ yd Cq l h=>match yd l h with
   |some (x,r,h)=>match Cq r h with
    |some (y,r,h)=>some ((x,y),r,h)
    |none=>none
   |none=>none) t
def lst(t:Ty)(v:Sv)(h:Hq):Option (List (den t)×Hq):=asL t (asT t) v h
def ahK(v:Sv)(h:Hq):Option Ty:=match v with
 | .c _ (.cq t) _=>some t
 | .os r _=>match h.cw.get r with
  |some (.l t _)=>some t
  |some (.z t _)=>some t
  | _=>none
 | .ss r _ _ _=>match h.cw.get r with
  |some (.l t _)=>some t
  |some (.z t _)=>some t
  | _=>none
 | _=>none
def adl(v:Sv)(h:Hq):Option Sv:=match v with
 | .a w=>bif nN w then some (.i .i64 0)else none
 | .c _ (.cq _) x=>some (.c 0 (.int .i64) (Int.ofNat x.length))
 | .os r _=>match h.cw.get r with
  |some (.l _ x)=>some (.c 0 (.int .i64) (Int.ofNat x.length))
  |some (.z _ x)=>some (.c 0 (.int .i64) (Int.ofNat x.length))
  | _=>none
 | .ss _ _ _ n=>some (.c 0 (.int .i64) (Int.ofNat n))
 | .xo _ _ _ n=>some (.i .i64 (.ofNat n))
 | _=>none
end Lf
end Go.Ab

noncomputable section
namespace Go.Ab
namespace Lf
abbrev OpR:=T (Sv×Tq×Hq)
abbrev oS:=Tq->Hq->OpR
abbrev pF:=FuncId->List Sv->Hq->T (Sv×Hq)
def okV(v:Sv)(t:Tq)(h:Hq):OpR:=.ok (v,t,h)
def okO(v:Option Sv)(t:Tq)(h:Hq):OpR:=match v with
 |some v=>.ok (v,t,h)
 |none=>.bad
def wJ:Sv:=.tu []
def C6(x:Od):oS:=fun t h=>okO (ru x t) t h
def yu{α:Type}(j:Od)(t:Tq)(a b:Tq->T α):T α:=match j with
 | .t i=>bif Nat.blt i 512 then(match t.at i with
  |some (.b c)=>bif c then a t else b t
  |some (.c _ .bool x)=>.br x (a (t.put i (some (.b true)))) (b (t.put i (some (.b false))))
  | _=>.bad)else .bad
 | .c (.bool c)=>bif c then a t else b t
 | _=>.bad
def abc(c a b:Od):oS:=fun t h=>yu c t (fun t=>C6 a t h) (fun t=>C6 b t h)
def adm(cs:List AV):oS:=fun t h=>match O5 cs with|some l=>okV (.rf h.next 0) t (nZ h (.o 0 l))|none=>.bad
def adn(a:Od):oS:=fun t h=>match ru a t with|some v=>okV (.rf h.next 0) t (nZ h (.o 0 v.cells))|none=>.bad
def K5(z:List AV)(ps:List (Nat×Nat×Od)):oS:=fun t h=>match O5 z with
 |some z=>match Gt ps t with
  |some vs=>match Gs vs z with
   |some cs=>okV (.ag cs) t h
   |none=>.bad
  |none=>.bad
 |none=>.bad
def ado(n sz:Nat)(z:List AV)(ps:List (Nat×Od)):oS:=fun t h=>match Gu ps t with
 |some vs=>bif Nat.beq n 0 then(match vs with| []=>okV (.a .uR) t h| _=>.bad)else(match O5 z with
  |some z=>match IL n sz z vs with
   |some cs=>bif nU IJ cs&&(Nat.blt 0 sz&&Nat.beq (len cs) (Nat.mul n sz))then okV (.xo h.next sz 0 n) t (nZ h (.o 0 cs))else .bad
   |none=>.bad
  |none=>.bad)
 |none=>.bad
def Sa(h:Hq)(r sz i:Nat):Option (List Sv):=match h.cw.get r with
 |some (.l t x)=>bif Nat.beq sz (size t)then some (uE t (x.getD i (cE t)))else none
 |some (.z t x)=>bif Nat.beq sz (size t)then some (uE t (x.getD i (cE t)))else none
 | _=>none
def C7(h:Hq)(r:Nat):Option (List Sv):=match h.cw.get r with
 |some (.o _ l)=>some l
 |some (.zo l)=>some l
 | _=>none
def EX(sz:Nat)(agg:Bool)(a:Sv)(h:Hq):Option Sv:=bif Nat.blt 0 sz then(match a with
 | .rf r o=>match C7 h r with
  |some l=>C4 agg l o sz
  |none=>none
 | .re r s i o=>match Sa h r s i with
  |some l=>C4 agg l o sz
  |none=>none
 | .zp l=>C4 agg l 0 sz
 | _=>none)else none
def MI(sz:Nat)(agg:Bool)(a:Od):oS:=fun t h=>match ru a t with
 |some p=>okO (EX sz agg p h) t h
 |none=>.bad
def K6(sz:Nat)(a b:Od):oS:=fun t h=>match ru b t with
 |some v=>bif Nat.beq (len v.cells) sz&&nU IJ v.cells then(match ru a t with
  |some (.rf r o)=>match h.cw.get r with
   |some (.o g l)=>bif Nat.ble (Nat.add o (len v.cells)) (len l)then okV wJ t (qE h r (some (.o g (IK l o v.cells))))else .bad
   | _=>.bad
  |some (.re r s i o)=>match h.cw.get r with
   |some (.l ty x)=>bif Nat.beq s (size ty)&&Nat.ble (Nat.add o (len v.cells)) s then(match asT ty (IK (uE ty (x.getD i (cE ty))) o v.cells) h with
    |some (y,[],h')=>(match h'.cw.get r with
     |some (.l _ _)=>okV wJ t (qE h' r (some (.l ty (x.set i y))))
     | _=>.bad)
    | _=>.bad)else .bad
   | _=>.bad
  | _=>.bad)else .bad
 |none=>.bad
def MJ(a:Od):oS:=fun t h=>match ru a t with
 |some (.rf r o)=>okV (.rf r o) t h
 |some (.re r s i o)=>okV (.re r s i o) t h
 |some (.zp c)=>okV (.zp c) t h
 |some (.fn f c)=>okV (.fn f c) t h
 | _=>.bad
def Xw(f:BF)(a b:Od):oS:=fun t h=>match ru a t with
 |some x=>match ru b t with
  |some y=>(sBn f x y).bd fun v=>okV v t h
  |none=>.bad
 |none=>.bad
def sUn(f:UF)(a:Od):oS:=fun t h=>match ru a t with
 |some x=>okO (adi f x) t h
 |none=>.bad
def sFn(f:FuncId)(cap:List Od):oS:=fun t h=>match R5 cap t with
 |some vs=>okV (.fn f vs) t h
 |none=>.bad
def vB(off:Nat)(a:Od):oS:=fun t h=>match ru a t with
 |some (.rf r o)=>okV (.rf r (Nat.add o off)) t h
 |some (.re r s i o)=>okV (.re r s i (Nat.add o off)) t h
 |some (.zp l)=>bif Nat.ble off (len l)then okV (.zp (dp off l)) t h else .bad
 | _=>.bad
def Gw(off size:Nat)(agg:Bool)(a:Od):oS:=fun t h=>match ru a t with
 |some (.ag cs)=>okO (C4 agg cs off size) t h
 | _=>.bad
def nh(i n:Int):Bool:=decide (0<=i)&&decide (i<n)
def Xx(size:Nat)(a i:Od):oS:=fun t h=>match ru i t with
 |some iv=>match toN iv with
  |some (_,n)=>match ru a t with
   |some (.os r s)=>match h.cw.get r with
    |some (.l _ x)=>bif Nat.beq s size then .ck (nh n (Int.ofNat x.length)) (okV (.re r s n.toNat 0) t h)else .bad
    |some (.z _ x)=>bif Nat.beq s size then .ck (nh n (Int.ofNat x.length)) (okV (.re r s n.toNat 0) t h)else .bad
    | _=>.bad
   |some (.ss r s off m)=>bif Nat.beq s size then .ck (nh n (Int.ofNat m)) (okV (.re r s (off+n.toNat) 0) t h)else .bad
   |some (.xo r s off m)=>match iv with
    | .i _ (.ofNat k)=>bif Nat.beq s size&&Nat.blt k m then okV (.rf r (Nat.add off (Nat.mul k s))) t h else .bad
    | _=>.bad
   |some (.c _ (.cq ty) x)=>bif Nat.beq size (Lf.size ty)then .ck (nh n (Int.ofNat x.length)) (okV (.zp (uE ty (x.getD n.toNat (cE ty)))) t h)else .bad
   | _=>.bad
  |none=>.bad
 |none=>.bad
def Xy(n size:Nat)(a i:Od):oS:=fun t h=>match ru i t with
 |some (.i _ (.ofNat k))=>bif Nat.blt k n then(match ru a t with
  |some (.rf r o)=>okV (.rf r (Nat.add o (Nat.mul k size))) t h
  |some (.zp l)=>bif Nat.ble (Nat.mul k size) (len l)then okV (.zp (dp (Nat.mul k size) l)) t h else .bad
  | _=>.bad)else .bad
 | _=>.bad
def K7(k:IntKind)(l:List Sv):Option (List Int):=List.rec (some []) (fun v _ ih=>match toN v with
 |some (k',n)=>bif qL k k' then(match ih with
  |some r=>some (n::r)
  |none=>none)else none
 |none=>none) l
def Gx(n size:Nat)(agg:Bool)(a i:Od):oS:=fun t h=>match ru a t with
 |some (.ag cs)=>match ru i t with
  |some (.i _ (.ofNat k))=>bif Nat.blt k n then okO (C4 agg cs (Nat.mul k size) size) t h else .bad
  |some (.c _ (.int _) x)=>bif agg|| !(Nat.beq size 1)then .bad else(match cs with
   |v::_=>match toN v with
    |some (k,_)=>match K7 k cs with
     |some l=>bif Nat.beq (len l) n then .ck (nh x (Int.ofNat n)) (okV (.c 0 (.int k) (l.getD x.toNat 0)) t h)else .bad
     |none=>.bad
    |none=>.bad
   | []=>.bad)
  | _=>.bad
 | _=>.bad
def B7(a i:Od):oS:=fun t h=>match ru a t with
 |some v=>match toS v with
  |some (_,s)=>match ru i t with
   |some iv=>match toN iv with
    |some (_,n)=>.ck (nh n (Int.ofNat s.size)) (okV (.c 0 (.int .u8) (Int.ofNat ((s.data.toList.getD n.toNat 0).toNat))) t h)
    |none=>.bad
   |none=>.bad
  |none=>.bad
 |none=>.bad
def MK(a:Od):oS:=fun t h=>match ru a t with
 |some v=>match toS v with
  |some (true,s)=>okV (.i .i64 (.ofNat s.size)) t h
  |some (false,s)=>okV (.c 0 (.int .i64) (Int.ofNat s.size)) t h
  |none=>.bad
 |none=>.bad
def zx(a:Od)(i:Nat):oS:=fun t h=>match ru a t with
 |some (.tu vs)=>okO (sI vs i) t h
 | _=>.bad
def nu(a:Od):oS:=fun t h=>match opw a t with
 |some v=>okO (adl v h) t h
 |none=>.bad
def Ec(o:Option Od)(t:Tq)(d:Sv):Option (Bool×Int):=match(match o with
 |none=>some d
 |some o=>ru o t)with
 |some v=>match toN v with
  |some (_,n)=>some (R8 v,n)
  |none=>none
 |none=>none
def n7(l u n:Int):Bool:=decide (0<=l)&&(decide (l<=u)&&decide (u<=n))
def zy(size:Nat)(a:Od)(lo hi:Option Od):oS:=fun t h=>match ru a t with
 |some v=>match adl v h with
  |some m=>match toN m with
   |some (_,n)=>match Ec lo t (.i .i64 0)with
    |some (ll,l)=>match Ec hi t m with
     |some (lu,u)=>(match v with
      | .a w=>bif yc w then .ck (n7 l u n) (okV (.a w) t h)else .bad
      | .os r s=>bif Nat.beq s size then .ck (n7 l u n) (okV (.ss r s l.toNat (u.toNat - l.toNat)) t h)else .bad
      | .ss r s off _=>bif Nat.beq s size then .ck (n7 l u n) (okV (.ss r s (off+l.toNat) (u.toNat - l.toNat)) t h)else .bad
      | .xo r s off _=>bif (ll&&lu)&&(Nat.beq s size&&n7 l u n)then okV (.xo r s (Nat.add off (Nat.mul l.toNat s)) (Nat.sub u.toNat l.toNat)) t h else .bad
      | .c _ (.cq ty) x=>bif Nat.beq size (Lf.size ty)then .ck (n7 l u n) (okV (.c 0 (.cq ty) ((x.drop l.toNat).take (u.toNat - l.toNat))) t h)else .bad
      | _=>.bad)
     |none=>.bad
    |none=>.bad
   |none=>.bad
  |none=>.bad
 |none=>.bad
def zA(n size:Nat)(a:Od)(lo hi:Option Od):oS:=fun t h=>match ru a t with
 |some (.rf r o)=>match Ec lo t (.i .i64 0)with
  |some (true,l)=>match Ec hi t (.i .i64 (.ofNat n))with
   |some (true,u)=>match C7 h r with
    |some cs=>bif Nat.ble (Nat.add o (Nat.mul n size)) (len cs)&&(n7 l u (Int.ofNat n)&&Nat.blt 0 size)then okV (.xo r size (Nat.add o (Nat.mul l.toNat size)) (Nat.sub u.toNat l.toNat)) t h else .bad
    |none=>.bad
   | _=>.bad
  | _=>.bad
 | _=>.bad
def Gy(a:Od)(lo hi:Option Od):oS:=fun t h=>match ru a t with
 |some v=>match toS v with
  |some (true,s)=>match Ec lo t (.i .i64 0)with
   |some (true,l)=>match Ec hi t (.i .i64 (.ofNat s.size))with
    |some (true,u)=>bif n7 l u (Int.ofNat s.size)then okV (.a (.sc (.string (s.extract l.toNat u.toNat)))) t h else .bad
    | _=>.bad
   | _=>.bad
  | _=>.bad
 |none=>.bad
def roomy(bytes n:Nat):Bool:=decide (n*bytes<=70368744177664)&&decide (n<=70368744177664)
def zC(v:Sv)(h:Hq):Option (Nat×List Sv):=match v with
 | .a w=>bif nN w then some (0,[])else none
 | .xo r s off n=>match C7 h r with
  |some l=>bif Nat.ble (Nat.add off (Nat.mul n s)) (len l)then some (n,tk (Nat.mul n s) (dp off l))else none
  |none=>none
 | _=>none
def kill(v:Sv)(h:Hq):Option Hq:=match v with
 | .a _=>some h
 | .os r _=>match h.cw.get r with
  |some (.l _ _)=>some (qE h r none)
  | _=>none
 | .ss r _ _ _=>match h.cw.get r with
  |some (.l _ _)=>some (qE h r none)
  | _=>none
 | .xo r _ _ _=>match h.cw.get r with
  |some (.o _ _)=>some (qE h r none)
  | _=>none
 | _=>none
def IM(t:Ty)(v:Sv)(h:Hq):Option (List (den t)×Hq):=match v with
 | .os r _=>match h.cw.get r with
  |some (.l t' x)=>match Aj t' t with
   |some ⟨e⟩=>some (e▸x,h)
   |none=>none
  | _=>none
 | .ss r _ off n=>match h.cw.get r with
  |some (.l t' x)=>match Aj t' t with
   |some ⟨e⟩=>some (((e▸x:List (den t)).drop off).take n,h)
   |none=>none
  | _=>none
 | .a w=>bif nN w then some ([],h)else none
 | .xo r sz off n=>match h.cw.get r with
  |some (.o _ l)=>bif Nat.beq sz (size t)then rdX t (asT t) n off l h else none
  | _=>none
 | _=>none
def apT(bytes:Nat)(t:Ty)(s:Sv)(new:List (den t))(tq:Tq)(h:Hq):OpR:=match IM t s h with
 |some (x,h1)=>match kill s h1 with
  |some h2=>.ck (roomy bytes (x.length+new.length)) (okV (.os h2.next (size t)) tq (nZ h2 (.l t (app x new))))
  |none=>.bad
 |none=>.bad
def Xz(s:Sv)(d:Nat):Nat:=match s with
 | .os _ z=>z
 | .ss _ z _ _=>z
 | .xo _ z _ _=>z
 | _=>d
def Sb(size bytes:Nat)(s x:Sv)(t:Tq)(h:Hq):OpR:=bif Nat.beq (Xz s size) size&&(Nat.beq (Xz x size) size&&Nat.blt 0 size)then(match zC x h with
 |some (0,_)=>(match s with
  | .a w=>bif yc w then okV s t h else .bad
  | .os _ _=>okV s t h
  | .ss _ _ _ _=>okV s t h
  | .xo _ _ _ _=>okV s t h
  | _=>.bad)
 |some (m,new)=>(match zC s h with
  |some (n,wh)=>match kill s h with
   |some h2=>bif roomy bytes (Nat.add n m)&&nU IJ new then okV (.xo h2.next size 0 (Nat.add n m)) t (nZ h2 (.o 0 (app wh new)))else .bad
   |none=>.bad
  |none=>match ahK s h with
   |some ty=>bif Nat.beq size (Lf.size ty)then(match lst ty x h with
    |some (new,h1)=>apT bytes ty s new t h1
    |none=>.bad)else .bad
   |none=>.bad)
 |none=>(match ahK x h with
  |some ty=>bif Nat.beq size (Lf.size ty)then(match lst ty x h with
   |some (new,h1)=>apT bytes ty s new t h1
   |none=>.bad)else .bad
  |none=>.bad))else .bad
def Gz(size bytes:Nat)(s x:Od):oS:=fun t h=>match ru s t with
 |some s=>match ru x t with
  |some x=>Sb size bytes s x t h
  |none=>.bad
 |none=>.bad
def anL:AV->Option Ty
 | .int k _=>some (.int k)
 | .bool _=>some .bool
 | .sc (.string _)=>some .str
 | .sc (.slice none 0 0)=>some (.cq (.int .i64))
 | _=>none
def tyZ(l:List AV):Option Ty:=List.rec none (fun a r ih=>match anL a with
 |some t=>match r with
  | []=>some t
  | _=>match ih with
   |some u=>some (.pair t u)
   |none=>none
 |none=>none) l
def ML(z:List AV):Option ((t:Ty)×den t):=match tyZ z with
 |some t=>match O5 z with
  |some l=>match asT t l ⟨0,.nil⟩with
   |some (x,[],_)=>some ⟨t,x⟩
   | _=>none
  |none=>none
 |none=>none
def Sd(size bytes:Nat)(z:List AV)(s x:Od):oS:=fun t h=>match ru s t with
 |some sv=>match ru x t with
  |some xv=>match toN xv with
   |some (_,n)=>bif Nat.beq (Xz sv size) size then(match ML z with
    |some ⟨ty,y⟩=>bif Nat.beq size (Lf.size ty)&&Nat.beq size (len z)then(.ck (decide (0<=n)) (apT bytes ty sv (List.replicate n.toNat y) t h))else .bad
    |none=>.bad)else .bad
   |none=>.bad
  |none=>.bad
 |none=>.bad
def Se(bytes:Nat)(s x:Od):oS:=fun t h=>match ru s t with
 |some sv=>match ru x t with
  |some xv=>match toS xv with
   |some (_,y)=>bif Nat.beq (Xz sv 1) 1 then apT bytes (.int .u8) sv (y.data.toList.map fun b=>Int.ofNat b.toNat) t h else .bad
   |none=>.bad
  |none=>.bad
 |none=>.bad
def K8(x:Od):oS:=fun t h=>match ru x t with
 |some v=>match toS v with
  |some (_,y)=>okV (.os h.next 1) t (nZ h (.l (.int .u8) (y.data.toList.map fun b=>Int.ofNat b.toNat)))
  |none=>.bad
 |none=>.bad
def O7(a b:Od):Bool:=match a,b with
 | .t i,.t j=>Nat.beq i j
 | .c (.int _ m),.c (.int _ n)=>eqI m n
 | _,_=>false
def Sf(size bytes:Nat)(z:List AV)(l c:Od):oS:=fun t h=>match ru l t with
 |some lv=>match ru c t with
  |some cv=>match toN lv with
   |some (_,l')=>match toN cv with
    |some (_,c')=>match ML z with
     |some ⟨ty,y⟩=>bif Nat.beq size (Lf.size ty)&&Nat.beq size (len z)then
      .ck ((decide (0<=l')&&decide (l'<=c'))&&decide (c'.toNat*bytes<=70368744177664))
       (okV (bif O7 l c then .os h.next size else .ss h.next size 0 l'.toNat) t (nZ h (.l ty (List.replicate c'.toNat y))))else .bad
     |none=>.bad
    |none=>.bad
   |none=>.bad
  |none=>.bad
 |none=>.bad
def adq(x y z:Od):oS:=fun t h=>match ru y t with
 |some (.i _ (.ofNat 0))=>match ru z t with
  |some (.i _ (.ofNat 0))=>match opw x t with
   |some (.a w)=>bif nN w then okV (.a .qi) t h else .bad
   |some (.os _ _)=>okV (.a .qi) t h
   |some (.ss _ _ _ _)=>okV (.a .qi) t h
   |some (.xo _ _ _ _)=>okV (.a .qi) t h
   |some (.c _ (.cq _) _)=>okV (.a .qi) t h
   | _=>.bad
  | _=>.bad
 | _=>.bad
def ot(x:Od):oS:=fun t h=>match opw x t with
 |some (.a w)=>bif nN w then okV (.i .i64 0) t h else .bad
 | _=>.bad
def K9(mx:Bool)(a b:Od):oS:=fun t h=>match ru a t with
 |some x=>match ru b t with
  |some y=>match x,y with
   | .i k m,.i k' n=>bif qL k k' then okV (.i k (bif mx then(bif sD m n then n else m)else(bif sD n m then n else m))) t h else .bad
   |x,y=>match toN x,toN y with
    |some (k,m),some (k',n)=>bif qL k k' then okV (.c 0 (.int k) (match mx with|true=>max m n|false=>min m n)) t h else .bad
    | _,_=>.bad
  |none=>.bad
 |none=>.bad
def Sg(t:Ty)(v:Sv)(h:Hq):Option (List (den t)×Hq):=match IM t v h with
 |some r=>some r
 |none=>lst t v h
def XA(size:Nat)(sv:Sv)(r sz off n:Nat)(t:Tq)(h:Hq):OpR:=match h.cw.get r with
 |some (.l ty x)=>bif Nat.blt 0 size&&(Nat.beq sz size&&Nat.beq size (Lf.size ty))then(match Sg ty sv h with
  |some (y,h1)=>(match h1.cw.get r with
   |some (.l _ _)=>okV (.c 0 (.int .i64) (Int.ofNat (min y.length n))) t (qE h1 r (some (.l ty (app (x.take off) (app (y.take (min y.length n)) (x.drop (Nat.add off (min y.length n))))))))
   | _=>.bad)
  |none=>.bad)else .bad
 | _=>.bad
def Sh(size:Nat)(d s:Od):oS:=fun t h=>match opw s t with
 |some sv=>(match opw d t with
  |some (.os r sz)=>(match h.cw.get r with
   |some (.l _ x)=>XA size sv r sz 0 x.length t h
   | _=>.bad)
  |some (.ss r sz off n)=>XA size sv r sz off n t h
  | _=>.bad)
 |none=>.bad
def Si(call:pF)(f:FuncId)(args:List Od):oS:=fun t h=>match R5 args t with
 |some vs=>(call f vs h).bd fun p=>okV p.1 t p.2
 |none=>.bad
def K'(call:pF)(f:Od)(args:List Od):oS:=fun t h=>match ru f t with
 |some (.fn k cap)=>match R5 args t with
  |some vs=>(call k (app vs cap) h).bd fun p=>okV p.1 t p.2
  |none=>.bad
 | _=>.bad
def ry(l:List Sv):Nat->List Sv×Nat:=List.rec (fun n=>([],n)) (fun a _ ih n=>match a with
 | .c m (.cq t) x=>bif Nat.beq m 0 then(.c n (.cq t) x::(ih (Nat.add n 1)).1,(ih (Nat.add n 1)).2)else(a::(ih n).1,(ih n).2)
 |a=>(a::(ih n).1,(ih n).2)) l
def adr(b:Od)(f:oS):oS:=fun t h=>match b with
 | .t i=>bif Nat.blt i 512 then(match t.at i with
  |some (.ag l)=>f (t.put i (some (.ag (ry l h.next).1))) ⟨(ry l h.next).2,h.cw⟩
  | _=>f t h)else f t h
 | _=>f t h
def Sj(a:Od):oS:=fun t h=>match ru a t with
 |some (.os r sz)=>match h.cw.get r with
  |some (.l _ x)=>.ck (!(Nat.beq x.length 0)) (okV (.os r sz) t h)
  | _=>.bad
 |some (.xo r sz off n)=>match h.cw.get r with
  |some (.o _ _)=>bif Nat.beq n 0 then .bad else okV (.xo r sz off n) t h
  | _=>.bad
 | _=>.bad
def C8(call:pF)(o:oB):oS:=match o with
 | .mv a=>C6 a| .pk c a b=>abc c a b| .nw cs=>adm cs| .bx a=>adn a| .bd z ps=>K5 z ps| .rw n sz z ps=>ado n sz z ps
 | .ld sz g a=>MI sz g a| .sto sz a b=>adr b (K6 sz a b)| .nl a=>MJ a| .bn f a b=>Xw f a b| .un f a=>sUn f a| .fn f cap=>sFn f cap
 | .fa off a=>vB off a| .fd off s g a=>Gw off s g a| .ixS s a i=>Xx s a i| .ixA n s a i=>Xy n s a i| .ix n s g a i=>Gx n s g a i| .ixT a i=>B7 a i
 | .slN s a lo hi=>zy s a lo hi| .slA n s a lo hi=>zA n s a lo hi| .slS a lo hi=>Gy a lo hi| .ex a i=>zx a i| .ln a=>nu a| .lnT a=>MK a
 | .ap s b x y=>Gz s b x y| .apZ s b z x y=>Sd s b z x y| .apS b x y=>Se b x y| .bys a=>K8 a| .mk s b z l c=>Sf s b z l c
 | .emp a b c=>adq a b c| .cap a=>ot a| .mrk a=>Sj a| .min a b=>K9 false a b| .max a b=>K9 true a b
 | .map=>fun t h=>okV (.a .any) t h
 | .cpy sz d a=>Sh sz d a
 | .call f args=>Si call f args| .callV f args=>K' call f args
 | _=>fun _ _=>.bad
def sGd(j:Od)(want:Bool)(f:oS):oS:=fun t h=>match ru j t with
 |some (.tu [])=>okV wJ t h
 | _=>yu j t (fun t=>bif want then f t h else okV wJ t h) (fun t=>bif want then okV wJ t h else f t h)
def sOp(call:pF)(o:oB):oS:=match o with
 | .gd j w (.mn f)=>sGd j w (C8 call f)
 | .gd j w f=>sGd j w (C8 call f)
 | .mn (.gd j w f)=>sGd j w (C8 call f)
 | .mn f=>C8 call f
 |o=>C8 call o
def MM(u v:Sv):Option LB:=match u,v with
 | .i k a,.i k' b=>bif qL k k'&&eqI a b then some (.l true)else none
 | .b a,.b b=>bif a then(bif b then some (.l true)else none)else(bif b then none else some (.l true))
 | .a v,.a w=>bif uc v w then some (.l true)else none
 | .rf r o,.rf r' o'=>bif Nat.beq r r'&&Nat.beq o o' then some (.l true)else none
 | .re r s i o,.re r' s' i' o'=>bif Nat.beq r r'&&(Nat.beq s s'&&Nat.beq o o')then some (.t (decide (i=i')))else none
 | .os r s,.os r' s'=>bif Nat.beq r r'&&Nat.beq s s' then some (.l true)else none
 | .ss r s o n,.ss r' s' o' n'=>bif Nat.beq r r'&&Nat.beq s s' then some (.t (decide (o=o')&&decide (n=n')))else none
 | .xo r s o n,.xo r' s' o' n'=>bif Nat.beq r r'&&(Nat.beq s s'&&(Nat.beq o o'&&Nat.beq n n'))then some (.l true)else none
 | .c m (.cq t) _,.c m' (.cq t') _=>bif Nat.blt 0 m&&Nat.beq m m' then some (.l true)else none
 |u,v=>match toN u,toN v with
  |some (k,a),some (k',b)=>bif qL k k' then some (.t (decide (a=b)))else none
  | _,_=>match toB u,toB v with
   |some a,some b=>some (.t (!(xor a.v b.v)))
   | _,_=>none
def MN:List Sv->List Sv->Option LB
 | [],[]=>some (.l true)
 |a::l,b::m=>match MM a b with
  |some c=>match MN l m with
   |some d=>some (c.and d)
   |none=>none
  |none=>none
 | _,_=>none
def IP(u v:Sv):Option LB:=match u,v with
 | .ag l,.ag m=>MN l m
 |u,v=>MM u v
inductive Oc where
 |norm (t:Tq) (h:Hq)
 |ret (t:Tq) (h:Hq)
 |exit (i:Nat) (t:Tq) (h:Hq)
abbrev qV:=Tq->Hq->T Oc
def IQ(s:Od)(sz:Nat)(g:Bool)(a:Od)(t:Tq)(h:Hq)(k:T (Tq×Hq)):T (Tq×Hq):=match ru a t with
 |some p=>(match EX sz g p h with
  |some v=>(match ru s t with
   |some u=>(match IP u v with
    |some c=>ckL c k
    |none=>.bad)
   |none=>.bad)
  |none=>.bad)
 |none=>.bad
def Sk(s:Od)(sz:Nat)(a:Od)(lo hi:Option Od)(t:Tq)(h:Hq)(k:T (Tq×Hq)):T (Tq×Hq):=(zy sz a lo hi t h).bd fun p=>match ru s t with
 |some u=>(match IP u p.1 with
  |some c=>ckL c k
  |none=>.bad)
 |none=>.bad
def Sl(s:Od)(n sz:Nat)(a:Od)(lo hi:Option Od)(t:Tq)(h:Hq)(k:T (Tq×Hq)):T (Tq×Hq):=(zA n sz a lo hi t h).bd fun p=>match ru s t with
 |some u=>(match IP u p.1 with
  |some c=>ckL c k
  |none=>.bad)
 |none=>.bad
def Ed(s:Od)(t:Tq)(k:T (Tq×Hq)):T (Tq×Hq):=match ru s t with
 |some (.tu [])=>k
 | _=>.bad
def BA(call:pF)(r:xV):Tq->Hq->T (Tq×Hq):=
 xV.rec (motive:=fun _=>Tq->Hq->T (Tq×Hq)) (fun t h=>.ok (t,h))
  (fun i f _ ih t h=>bif Nat.blt i 512 then(sOp call f t h).bd fun p=>ih (p.2.1.put i (some p.1)) p.2.2 else .bad)
  (fun f _ ih t h=>(sOp call f t h).bd fun p=>ih p.2.1 p.2.2)
  (fun s f _ ih t h=>match f with
   | .ld sz g a=>IQ s sz g a t h (ih t h)
   | .slN sz a lo hi=>Sk s sz a lo hi t h (ih t h)
   | .slA n sz a lo hi=>Sl s n sz a lo hi t h (ih t h)
   | .gd j w (.ld sz g a)=>(match ru j t with
    |some (.b c)=>bif (bif w then c else !c)then IQ s sz g a t h (ih t h)else Ed s t (ih t h)
    |some (.tu [])=>Ed s t (ih t h)
    | _=>.bad)
   | _=>.bad) r
def uF:oB->Bool
 | .mv _| .pk _ _ _| .ld _ _ _| .nl _| .bn _ _ _| .un _ _| .fa _ _| .fd _ _ _ _| .ixS _ _ _| .ixT _ _| .ex _ _| .ln _| .lnT _| .min _ _| .max _ _=>true
 | .gd _ _ (.mn _)=>false
 | .gd _ _ (.gd _ _ _)=>false
 | .gd _ _ f=>uF f
 | _=>false
def C9(r:xV):Bool:=xV.rec true (fun _ f _ ih=>bif uF f then ih else false) (fun f _ ih=>bif uF f then ih else false) (fun _ _ _ ih=>ih) r
def Da(r:xV):List Nat:=xV.rec [] (fun i _ _ ih=>i::ih) (fun _ _ ih=>ih) (fun _ _ _ ih=>ih) r
def mgV(c:Bool)(v w:Sv):Option Sv:=match v,w with
 | .b x,.b y=>bif (bif x then y else !y)then some (.b x)else some (.c 0 .bool (bif c then x else y))
 | .a x,.a y=>bif uc x y then some (.a x)else none
 | .rf r o,.rf r' o'=>bif Nat.beq r r'&&Nat.beq o o' then some (.rf r o)else none
 | .os r o,.os r' o'=>bif Nat.beq r r'&&Nat.beq o o' then some (.os r o)else none
 | .c m (.cq t) x,.c m' (.cq t') y=>(match Aj t' t with
  |some ⟨e⟩=>some (.c 0 (.cq t) (bif c then x else(e▸y:List (den t))))
  |none=>none)
 | .i k x,.i k' y=>bif qL k k' then(bif eqI x y then some (.i k x)else some (.c 0 (.int k) (bif c then x else y)))else none
 |v,w=>match toN v,toN w with
  |some (k,x),some (k',y)=>bif qL k k' then some (.c 0 (.int k) (bif c then x else y))else none
  | _,_=>match toB v,toB w with
   |some x,some y=>some (.c 0 .bool (bif c then x.v else y.v))
   | _,_=>none
def mgO(c:Bool)(v w:Option Sv):Option Sv:=match v with
 |some v=>(match w with
  |some w=>mgV c v w
  |none=>none)
 |none=>none
def mgT(DR:List Nat)(c:Bool)(T0 a b:Tq):Tq:=List.rec T0 (fun i _ ih=>ih.put i (mgO c (a.at i) (b.at i))) DR
def LB.cond(c:Bool):LB->LB->LB
 | .l true,.l true=>.l true
 | .l x,.l y=>.t (bif c then x else y)
 | .l x,.t y=>.t (bif c then x else y)
 | .t x,.l y=>.t (bif c then x else y)
 | .t x,.t y=>.t (bif c then x else y)
def mgR(DR:List Nat)(T0:Tq)(x:T (Tq×Hq)):LB×Tq:=T.rec (motive:=fun _=>LB×Tq) (.l false,T0) (fun p=>(.l true,p.1))
 (fun c _ _ a b=>(LB.cond c a.1 b.1,mgT DR c T0 a.2 b.2))
 (fun c _ a=>(LB.and (.t c) a.1,a.2)) x
def XB(call:pF)(r:xV):Tq->Hq->T (Tq×Hq):=fun t h=>bif C9 r&&nU (fun i=>Nat.blt i 512) (Da r)then(match mgR (Da r) t (BA call r t h)with
 |(c,t')=>ckL c (.ok (t',h)))else BA call r t h
def O8(a:T Oc)(b:qV):T Oc:=a.bd fun o=>match o with
 | .norm t h=>b t h
 |o=>.ok o
def blO(id:Nat)(a:T Oc):T Oc:=a.bd fun o=>match o with
 | .exit i t h=>.ok (bif Nat.beq i id then .norm t h else .exit i t h)
 |o=>.ok o
def sCd(L:Nat->Option qV)(call:pF)(m:Nat)(c:uP):qV:=
 uP.rec (motive:=fun _=>qV) (fun r t h=>(XB call r t h).bd fun p=>.ok (.norm p.1 p.2)) (fun t h=>.ok (.norm t h))
  (fun _ _ a b t h=>O8 (a t h) b)
  (fun c _ _ a b t h=>yu c t (fun t=>a t h) (fun t=>b t h))
  (fun id _ b t h=>match L id with
   |some f=>f t h
   |none=>blO id (b t h))
  (fun _ b=>Nat.rec (motive:=fun _=>qV) (fun _ _=>.bad) (fun _ ih t h=>O8 (b t h) ih) m)
  (fun i t h=>.ok (.exit i t h)) (fun t h=>.ok (.ret t h)) (fun _ _=>.bad) c
def adt(t:Tq)(h:Hq):RV->Option Sv
 | .tmp i=>bif Nat.blt i 512 then t.at i else none
 | .cell i size agg=>match(bif Nat.blt i 512 then t.at i else none)with
  |some p=>EX size agg p h
  |none=>none
def Sm(t:Tq)(h:Hq)(l:List RV):Option (List Sv):=List.rec (some []) (fun r _ ih=>match adt t h r with
 |some v=>match ih with
  |some vs=>some (v::vs)
  |none=>none
 |none=>none) l
def Sn(res:List RV)(t:Tq)(h:Hq):T (Sv×Hq):=match Sm t h res with
 |some [v]=>.ok (v,h)
 |some vs=>.ok (.tu vs,h)
 |none=>.bad
def La(l:List Sv):Nat->Tq->Tq:=List.rec (fun _ t=>t) (fun v _ ih i t=>ih (Nat.add i 1) (t.put i (some v))) l
def IU(L:Nat->Option qV)(b:Ea)(m:Nat)(c:pF)(args:List Sv)(h:Hq):T (Sv×Hq):=
 bif Nat.ble (len args) b.ntmps then(sCd L c m b.code (La args 0 Tq.none) h).bd fun o=>match o with
  | .norm t h=>Sn b.res t h
  | .ret t h=>Sn b.res t h
  | _=>.bad else .bad
end Lf
end Go.Ab
