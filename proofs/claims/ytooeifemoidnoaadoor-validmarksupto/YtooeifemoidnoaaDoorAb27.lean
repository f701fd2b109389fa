import Derived.Test.YtooeifemoidnoaaDoorAb16
import Derived.Below
import Derived.Lib.SmallJoins
noncomputable section
namespace Go.Ab
variable [Io]
structure Keep(w w':World):Prop where
 os:w'.os=w.os
 tape:w'.tape=w.tape
 output:w'.output=w.output
 size:w.heap.size<=w'.heap.size
 old: ∀ b,b<w.heap.size->w'.heap[b]? =w.heap[b]?
omit [Io] in
theorem Keep.rows{w w':World}(K:Keep w w')(b:Nat):rowSize w b<=rowSize w' b:=by
 unfold rowSize
 by_cases h:b<w.heap.size
 ·rw[K.old b h];exact Nat.le_refl _
 ·rw[Array.getElem?_eq_none (by omega)];exact Nat.zero_le _
omit [Io] in
theorem Keep.trans{w w1 w2:World}(a:Keep w w1)(b:Keep w1 w2):Keep w w2:=
 ⟨b.os.trans a.os,b.tape.trans a.tape,b.output.trans a.output,Nat.le_trans a.size b.size,fun k h=>(b.old k (Nat.lt_of_lt_of_le h a.size)).trans (a.old k h)⟩
def gE(imm:Nat->Prop):G:=⟨fun _=>none,imm⟩
theorem hr_empty{imm:Nat->Prop}{w:World}(h: ∀ b,imm b->b<w.heap.size)(t:TbOk (gE imm) w):HR (gE imm) w (nilH 0):=
 ⟨fun _ _=>rfl,(fun _ _ e=>by cases e),(fun _ _ _ _ _ _ _ e=>by cases e),h,t⟩
omit [Io] in
theorem keep_of{imm:Nat->Prop}{w:World}{g':G}{w':World}{h':Hp}(E:Ext (gE imm) w (nilH 0) g' w' h'):Keep w w':=
 ⟨E.os,E.tape,E.output,E.size,fun b hb=>E.old b hb (by rintro⟨id,cs,s,e,_⟩;cases e)⟩
def mapA(f:AV->Option AV)(l:List AV):Option (List AV):=
 List.rec (some []) (fun a _ ih=>match f a with
  |some b=>match ih with
   |some r=>some (b::r)
   |none=>none
  |none=>none) l
def frz(n:Nat):Hp->AV->Option AV:=
 Nat.rec (fun _ _=>none) (fun _ ih h a=>match a with
  | .hsl id off n sz=>match h.objs.get id with
   |some cs=>match cs.seg off (Nat.mul n sz)with
    |some l=>match mapA (ih h) l with
     |some l=>some (.isl n l)
     |none=>none
    |none=>none
   |none=>none
  | .ref id off=>match h.objs.get id with
   |some cs=>match cs.seg off (Nat.sub cs.n off)with
    |some l=>match mapA (ih h) l with
     |some l=>some (.iptr l)
     |none=>none
    |none=>none
   |none=>none
  | .agg l=>match mapA (ih h) l with
   |some l=>some (.agg l)
   |none=>none
  | .tup l=>match mapA (ih h) l with
   |some l=>some (.tup l)
   |none=>none
  | .fn f l=>match mapA (ih h) l with
   |some l=>some (.fn f l)
   |none=>none
  | .isl n l=>match mapA (ih h) l with
   |some l=>some (.isl n l)
   |none=>none
  | .iptr l=>match mapA (ih h) l with
   |some l=>some (.iptr l)
   |none=>none
  |a=>some a) n
theorem mapA_ok{g g':G}{w:World}{f:AV->Option AV}(hf: ∀ a a' v,f a=some a'->VR g w a v->VR g' w a' v): ∀ {l l':List AV} {vs:List Value},mapA f l=some l'->VRs g w l vs->VRs g' w l' vs
 | [],l',vs,e,h=>by cases e;simpa only[VRs]using h
 |a::l,l',vs,e,h=>by
  change (match f a with|some b=>(match mapA f l with|some r=>some (b::r)|none=>none)|none=>none)=some l' at e
  simp only[VRs]at h
  obtain⟨v,r,rfl,hv,hr⟩:=h
  cases h1:f a with
  |none=>rw[h1]at e;cases e
  |some b=>
   cases h2:mapA f l with
   |none=>rw[h1,h2]at e;cases e
   |some r'=>
    rw[h1,h2]at e
    cases e
    simp only[VRs]
    exact⟨v,r,rfl,hf a b v h1 hv,mapA_ok hf h2 hr⟩
theorem frz_ok{g g':G}{w:World}{h:Hp}(H:HR g w h)(hi: ∀ b,g.imm b->g'.imm b)(ho: ∀ b,Owned g h b->g'.imm b): ∀ (n:Nat) (a a':AV) (v:Value),frz n h a=some a'->VR g w a v->VR g' w a' v:=by
 intro n
 induction n with
 |zero=>intro a a' v e;cases e
 |succ n ih=>
  intro a a' v e hv
  have hm:= @mapA_ok _ g g' w (frz n h) ih
  cases a with
  |int k n=>cases e;simpa only[VR]using hv
  |bool b=>cases e;simpa only[VR]using hv
  |sc x=>cases e;simpa only[VR]using hv
  |esl=>cases e;simpa only[VR]using hv
  |nel=>cases e;simpa only[VR]using hv
  |sym k s lo hi o=>cases e;simpa only[VR]using hv
  |any=>cases e;simpa only[VR]using hv
  |agg l=>
   change (match mapA (frz n h) l with|some l=>some (AV.agg l)|none=>none)=some a' at e
   cases h1:mapA (frz n h) l with
   |none=>rw[h1]at e;cases e
   |some l'=>
    rw[h1]at e
    cases e
    simp only[VR]at hv ⊢
    obtain⟨vs,e,q⟩:=hv
    exact⟨vs,e,hm h1 q⟩
  |tup l=>
   change (match mapA (frz n h) l with|some l=>some (AV.tup l)|none=>none)=some a' at e
   cases h1:mapA (frz n h) l with
   |none=>rw[h1]at e;cases e
   |some l'=>
    rw[h1]at e
    cases e
    simp only[VR]at hv ⊢
    obtain⟨vs,e,q⟩:=hv
    exact⟨vs,e,hm h1 q⟩
  |fn f l=>
   change (match mapA (frz n h) l with|some l=>some (AV.fn f l)|none=>none)=some a' at e
   cases h1:mapA (frz n h) l with
   |none=>rw[h1]at e;cases e
   |some l'=>
    rw[h1]at e
    cases e
    simp only[VR]at hv ⊢
    obtain⟨vs,e,q⟩:=hv
    exact⟨vs,e,hm h1 q⟩
  |isl m l=>
   change (match mapA (frz n h) l with|some l=>some (AV.isl m l)|none=>none)=some a' at e
   cases h1:mapA (frz n h) l with
   |none=>rw[h1]at e;cases e
   |some l'=>
    rw[h1]at e
    cases e
    simp only[VR]at hv ⊢
    obtain⟨x,cap,e,hle,q⟩:=hv
    refine⟨x,cap,e,hle,?_⟩
    rcases q with⟨q1,rfl⟩|⟨b,o,vs,q1,q2,q3,q4⟩
    ·cases h1
     exact .inl ⟨q1,rfl⟩
    ·exact .inr ⟨b,o,vs,q1,hi b q2,q3,hm h1 q4⟩
  |iptr l=>
   change (match mapA (frz n h) l with|some l=>some (AV.iptr l)|none=>none)=some a' at e
   cases h1:mapA (frz n h) l with
   |none=>rw[h1]at e;cases e
   |some l'=>
    rw[h1]at e
    cases e
    simp only[VR]at hv ⊢
    obtain⟨b,o,vs,q1,q2,q3,q4⟩:=hv
    exact⟨b,o,vs,q1,hi b q2,q3,hm h1 q4⟩
  |ref id off=>
   change (match h.objs.get id with|some cs=>(match cs.seg off (Nat.sub cs.n off)with|some l=>(match mapA (frz n h) l with|some l=>some (AV.iptr l)|none=>none)|none=>none)|none=>none)=some a' at e
   cases h0:h.objs.get id with
   |none=>rw[h0]at e;cases e
   |some cs=>
   rw[h0]at e
   simp only at e
   cases hs:cs.seg off (Nat.sub cs.n off)with
   |none=>rw[hs]at e;cases e
   |some l=>
   rw[hs]at e
   simp only at e
   cases h1:mapA (frz n h) l with
   |none=>rw[h1]at e;cases e
   |some l'=>
    rw[h1]at e
    cases e
    obtain⟨rfl,_,_⟩:=seg_some hs
    simp only[VR]at hv ⊢
    obtain⟨b,s,hmm,rfl⟩:=hv
    obtain⟨C,el,vs,hw,_,hvs,hC⟩:=H.row h0 hmm
    exact⟨b,s+off,(vs.drop off).take (Nat.sub cs.n off),rfl,ho b ⟨id,cs,s,h0,hmm⟩,((cellsAt_row hw hC).drop off).take _,hm h1 ((hvs.drop off).take _)⟩
  |hsl id off m sz=>
   change (match h.objs.get id with|some cs=>(match cs.seg off (Nat.mul m sz)with|some l=>(match mapA (frz n h) l with|some l=>some (AV.isl m l)|none=>none)|none=>none)|none=>none)=some a' at e
   cases h0:h.objs.get id with
   |none=>rw[h0]at e;cases e
   |some cs=>
   rw[h0]at e
   simp only at e
   cases hs:cs.seg off (Nat.mul m sz)with
   |none=>rw[hs]at e;cases e
   |some l=>
   rw[hs]at e
   simp only at e
   cases h1:mapA (frz n h) l with
   |none=>rw[h1]at e;cases e
   |some l'=>
    rw[h1]at e
    cases e
    obtain⟨rfl,hlen,_⟩:=seg_some hs
    simp only[VR]at hv ⊢
    rcases hv with⟨rfl,x,rfl⟩|⟨b,s,cap,hmm,rfl,hle,_⟩
    ·refine⟨x,0,rfl,Nat.le_refl _,.inl ⟨rfl,?_⟩⟩
     have hz:Nat.mul 0 sz=0:=Nat.zero_mul sz
     rw[hz]at h1
     simp only[List.take_zero]at h1
     cases h1
     rfl
    ·obtain⟨C,el,vs,hw,_,hvs,hC⟩:=H.row h0 hmm
     exact⟨_,cap,rfl,hle,.inr ⟨b,s+off,(vs.drop off).take (Nat.mul m sz),rfl,ho b ⟨id,cs,s,h0,hmm⟩,((cellsAt_row hw hC).drop off).take _,hm h1 ((hvs.drop off).take _)⟩⟩
end Go.Ab

noncomputable section
namespace Go.Ab
end Go.Ab

noncomputable section
namespace Go.Ab
variable [Io]
end Go.Ab
namespace Go.Ab
end Go.Ab

noncomputable section
namespace Go.Ab
variable [Io]
section
variable {P:Program}{call:CallF}
end
end Go.Ab

noncomputable section
namespace Go.Ab
def KnownR(P:Program)(f:FuncId)(k:IntKind)(A B:Int)(v:AV):Prop:=
 (∀ as w,(callFunc f as).run P w=.ok (.enter f as) w)/\ ∀ (I:Io) (x:Int),A<=x->x<=B-> ∀ (g:G) (w:World),(∀ b,g.imm b->b<w.heap.size)-> @TbOk I g w->
  Calls P f #[.int k x] w fun e w'=> ∃ y,e=.returned y/\Keep w w'/\ @VR I (gE fun b=>g.imm b∨(w.heap.size<=b/\b<w'.heap.size)) w' v y
structure Row where
 k:IntKind
 A:Int
 B:Int
 v:AV
end Go.Ab

noncomputable section
namespace Go.Ab
def isT(r:Ro):Bool:=match r with
 | .ok (.bool b) _=>b
 | _=>false
theorem isT_ok{r:Ro}(h:isT r=true): ∃ h',r=.ok (.bool true) h':=by
 unfold isT at h
 split at h
 ·subst h;exact⟨_,rfl⟩
 ·cases h
theorem Keep.below{w w':World}(K:Keep w w'):Go.RowKit.Below w.heap.size w w':=⟨K.os,K.tape,K.output,K.size,K.old⟩
theorem law_ok[Io]{P:Program}{call:CallF}(hc:CallOk P call){f:FuncId}{args:List AV}{vs:List Value}(e:isT (call f args (nilH 0))=true)(w:World){imm:Nat->Prop}(hi: ∀ b,imm b->b<w.heap.size)(ht:TbOk (gE imm) w)(hv:VRs (gE imm) w args vs):
 Calls P f vs.toArray w fun e w'=>e=.returned (.bool true)/\Go.RowKit.Below w.heap.size w w':=by
 obtain⟨h',e'⟩:=isT_ok e
 refine((hc f args (nilH 0) _ h' e').2 (gE imm) w vs (hr_empty hi ht) hv).mono ?_
 rintro e w' ⟨x,g',rfl,E,H',hx⟩
 simp only[VR]at hx
 subst hx
 exact⟨rfl,(keep_of E).below⟩
def KR(P:Program)(f:FuncId)(l:List Row):Prop:= ∀ r∈l,KnownR P f r.k r.A r.B r.v
theorem KR.cons{P:Program}{f:FuncId}{k:IntKind}{A B:Int}{v:AV}{l:List Row}(h:KnownR P f k A B v)(t:KR P f l):KR P f (⟨k,A,B,v⟩::l):=by
 intro r hr
 cases hr with
 |head=>exact h
 |tail _ hr=>exact t r hr
end Go.Ab

noncomputable section
namespace Go.Ab
variable [Io]
section
variable {P:Program}
def aStep(fn:FuncId->Option Fb)(n:Nat)(c:CallF):CallF:=fun f args h=>match fn f with
 |none=>.bad
 |some b=>ifb (Nat.ble (len args) b.ntmps) (match b.body c n (enterT args 0 Tm.none) h with
  | .norm t h=>fin b.res t h
  | .ret t h=>fin b.res t h
  | _=>.bad) .bad
theorem aStep_ok{draw:CallF->Nat->Array Oper->RgF}(hd:DrawOk P draw){fn:FuncId->Option Fb}(hf: ∀ f b,fn f=some b->FbOk P draw f b)(n:Nat){c:CallF}(hc:CallOk P c):CallOk P (aStep fn n c):=by
 intro f args h v h' e
 change (match fn f with
  |none=>Ro.bad
  |some b=>ifb (Nat.ble (len args) b.ntmps) (match b.body (c) n (enterT args 0 Tm.none) h with| .norm t h=>fin b.res t h| .ret t h=>fin b.res t h| _=>.bad) .bad)=.ok v h' at e
 cases hb:fn f with
 |none=>rw[hb]at e;cases e
 |some b=>
 rw[hb]at e
 simp only at e
 cases hle:Nat.ble (len args) b.ntmps with
 |false=>rw[hle]at e;cases e
 |true=>
 rw[hle]at e
 change (match b.body (c) n (enterT args 0 Tm.none) h with| .norm t h=>fin b.res t h| .ret t h=>fin b.res t h| _=>.bad)=Ro.ok v h' at e
 rw[len_eq]at hle
 have hle':args.length<=b.ntmps:=Nat.ble_eq.mp hle
 have F0:=hf f b hb
 obtain⟨F,cd,hF,hcb,hnt,h512,hres,hbody⟩:=F0.ex
 refine⟨F0.enter,fun g w vs H hv=>?_⟩
 rw[hbody]at e
 have hcode:=code_ok hc (draw:=draw (c) b.ntmps) (nt:=b.ntmps) (fun id ops=>hd _ _ hc id ops) n cd
 have hvl:=hv.length
 have hsize:(vs.toArray++Array.replicate (F.ntmps - vs.toArray.size) undef).size=b.ntmps:=by simp;omega
 have hT0:TR g w b.ntmps Tm.none (vs.toArray++Array.replicate (F.ntmps - vs.toArray.size) undef):=
  ⟨h512,hsize,fun i v hi e=>by rw[Tm.at_none i hi]at e;cases e⟩
 have hT:=enter_ok args vs 0 b.ntmps Tm.none _ hv (by omega) hT0 (fun j v e=>by
  rw[Array.getElem?_append_left (by have:=(List.getElem?_eq_some_iff.1 e).1;simpa using this)]
  simpa using e)
 refine calls_of_wp hF hcb ?_
 have:=hcode g w _ h {tmps:=vs.toArray++Array.replicate (F.ntmps - vs.toArray.size) undef,defers:=[]}
  (bodyPost P F (fun e w'=> ∃ x g',e=.returned x/\Ext g w h g' w' h'/\HR g' w' h'/\VR g' w' v x)) H hT rfl
 have fin': ∀ t1 h1,fin b.res t1 h1=.ok v h'-> ∀ g' w' (a':Act),Ext g w h g' w' h1->HR g' w' h1->TR g' w' b.ntmps t1 a'.tmps->a'.defers=[]->
  a'.defers=[]/\ ∃ x,(results F a'.tmps).run P w'=.ok x w'/\ ∃ y g',Ending.returned x=.returned y/\Ext g w h g' w' h'/\HR g' w' h'/\VR g' w' v y:=by
  intro t1 h1 hfin g' w' a' E' H' T' D'
  obtain⟨rfl,x,hx,hxv⟩:=fin_ok H' T' hres hfin
  exact⟨D',x,hx,x,g',rfl,E',H',hxv⟩
 simp only at e
 cases hr:cCode P (draw (c) b.ntmps) (c) n b.ntmps cd (enterT args 0 Tm.none) h with
 |bad=>rw[hr]at e;cases e
 |norm t1 h1=>rw[hr]at e this;exact this (fin' t1 h1 e)
 |ret t1 h1=>rw[hr]at e this;exact this (fin' t1 h1 e)
 |exit i t1 h1=>rw[hr]at e;cases e
end
end Go.Ab

noncomputable section
namespace Go.Ab
open Go.ChangeShapes Go.WideShapes Go.ChangeAt Go.RowKit Go.Deep Go.Joins
end Go.Ab

noncomputable section
namespace Go.Ab
variable [Io]
end Go.Ab
namespace Go.Ab
variable [Io]
section
variable {P:Program}
def gCall(fn:FuncId->Option Fb)(wr:CallF->CallF)(n:Nat)(d:Nat):CallF:=Nat.rec (fun _ _ _=>.bad) (fun _ ih=>aStep fn n (wr ih)) d
theorem gCall_ok{draw:CallF->Nat->Array Oper->RgF}(hd:DrawOk P draw){fn:FuncId->Option Fb}(hf: ∀ f b,fn f=some b->FbOk P draw f b){wr:CallF->CallF}
 (hw: ∀ c,CallOk P c->CallOk P (wr c))(n:Nat): ∀ d,CallOk P (gCall fn wr n d)
 |0=>by intro f args h v h' e;cases e
 |d+1=>aStep_ok hd hf n (hw _ (gCall_ok hd hf hw n d))
theorem VRs.split{g:G}{w:World}: ∀ {l r:List AV} {vs:List Value},VRs g w (l++r) vs-> ∃ us ts,vs=us++ts/\VRs g w l us/\VRs g w r ts
 | [],r,vs,h=>⟨[],vs,rfl,by simp[VRs],h⟩
 |a::l,r,vs,h=>by
  simp only[List.cons_append,VRs]at h
  obtain⟨v,l',rfl,q,p⟩:=h
  obtain⟨us,ts,rfl,h1,h2⟩:=VRs.split p
  refine⟨v::us,ts,rfl,?_,h2⟩
  simp only[VRs]
  exact⟨v,us,rfl,q,h1⟩
end
end Go.Ab
namespace Go.Ab
variable [Io]
end Go.Ab

noncomputable section
namespace Go.Ab
variable [Io]
def frzF(n:Nat):Hp->AV->Option AV:=
 Nat.rec (fun _ _=>none) (fun _ ih h a=>match a with
  | .hsl id off n sz=>match h.objs.get id with
   |some cs=>match cs.seg off (Nat.mul n sz)with
    |some l=>match mapA (ih h) l with
     |some l=>some (.isl n l)
     |none=>none
    |none=>none
   |none=>none
  | .ref id off=>match h.objs.get id with
   |some cs=>match cs.seg off (Nat.sub cs.n off)with
    |some l=>match mapA (ih h) l with
     |some l=>some (.iptr l)
     |none=>none
    |none=>none
   |none=>none
  | .agg l=>match mapA (ih h) l with
   |some l=>some (.agg l)
   |none=>none
  | .tup l=>match mapA (ih h) l with
   |some l=>some (.tup l)
   |none=>none
  | .fn f l=>match mapA (ih h) l with
   |some l=>some (.fn f l)
   |none=>none
  | .isl _ _=>none
  | .iptr _=>none
  |a=>some a) n
theorem frzF_ok{g g':G}{w:World}{h:Hp}(H:HR g w h)(ho: ∀ b,Owned g h b->g'.imm b): ∀ (n:Nat) (a a':AV) (v:Value),frzF n h a=some a'->VR g w a v->VR g' w a' v:=by
 intro n
 induction n with
 |zero=>intro a a' v e;cases e
 |succ n ih=>
  intro a a' v e hv
  have hm:= @mapA_ok _ g g' w (frzF n h) ih
  cases a with
  |int k n=>cases e;simpa only[VR]using hv
  |bool b=>cases e;simpa only[VR]using hv
  |sc x=>cases e;simpa only[VR]using hv
  |esl=>cases e;simpa only[VR]using hv
  |nel=>cases e;simpa only[VR]using hv
  |sym k s lo hi o=>cases e;simpa only[VR]using hv
  |any=>cases e;simpa only[VR]using hv
  |agg l=>
   change (match mapA (frzF n h) l with|some l=>some (AV.agg l)|none=>none)=some a' at e
   cases h1:mapA (frzF n h) l with
   |none=>rw[h1]at e;cases e
   |some l'=>
    rw[h1]at e
    cases e
    simp only[VR]at hv ⊢
    obtain⟨vs,e,q⟩:=hv
    exact⟨vs,e,hm h1 q⟩
  |tup l=>
   change (match mapA (frzF n h) l with|some l=>some (AV.tup l)|none=>none)=some a' at e
   cases h1:mapA (frzF n h) l with
   |none=>rw[h1]at e;cases e
   |some l'=>
    rw[h1]at e
    cases e
    simp only[VR]at hv ⊢
    obtain⟨vs,e,q⟩:=hv
    exact⟨vs,e,hm h1 q⟩
  |fn f l=>
   change (match mapA (frzF n h) l with|some l=>some (AV.fn f l)|none=>none)=some a' at e
   cases h1:mapA (frzF n h) l with
   |none=>rw[h1]at e;cases e
   |some l'=>
    rw[h1]at e
    cases e
    simp only[VR]at hv ⊢
    obtain⟨vs,e,q⟩:=hv
    exact⟨vs,e,hm h1 q⟩
  |isl m l=>cases e
  |iptr l=>cases e
  |ref id off=>
   change (match h.objs.get id with|some cs=>(match cs.seg off (Nat.sub cs.n off)with|some l=>(match mapA (frzF n h) l with|some l=>some (AV.iptr l)|none=>none)|none=>none)|none=>none)=some a' at e
   cases h0:h.objs.get id with
   |none=>rw[h0]at e;cases e
   |some cs=>
   rw[h0]at e
   simp only at e
   cases hs:cs.seg off (Nat.sub cs.n off)with
   |none=>rw[hs]at e;cases e
   |some l=>
   rw[hs]at e
   simp only at e
   cases h1:mapA (frzF n h) l with
   |none=>rw[h1]at e;cases e
   |some l'=>
    rw[h1]at e
    cases e
    obtain⟨rfl,_,_⟩:=seg_some hs
    simp only[VR]at hv ⊢
    obtain⟨b,s,hmm,rfl⟩:=hv
    obtain⟨C,el,vs,hw,_,hvs,hC⟩:=H.row h0 hmm
    exact⟨b,s+off,(vs.drop off).take (Nat.sub cs.n off),rfl,ho b ⟨id,cs,s,h0,hmm⟩,((cellsAt_row hw hC).drop off).take _,hm h1 ((hvs.drop off).take _)⟩
  |hsl id off m sz=>
   change (match h.objs.get id with|some cs=>(match cs.seg off (Nat.mul m sz)with|some l=>(match mapA (frzF n h) l with|some l=>some (AV.isl m l)|none=>none)|none=>none)|none=>none)=some a' at e
   cases h0:h.objs.get id with
   |none=>rw[h0]at e;cases e
   |some cs=>
   rw[h0]at e
   simp only at e
   cases hs:cs.seg off (Nat.mul m sz)with
   |none=>rw[hs]at e;cases e
   |some l=>
   rw[hs]at e
   simp only at e
   cases h1:mapA (frzF n h) l with
   |none=>rw[h1]at e;cases e
   |some l'=>
    rw[h1]at e
    cases e
    obtain⟨rfl,hlen,_⟩:=seg_some hs
    simp only[VR]at hv ⊢
    rcases hv with⟨rfl,x,rfl⟩|⟨b,s,cap,hmm,rfl,hle,_⟩
    ·refine⟨x,0,rfl,Nat.le_refl _,.inl ⟨rfl,?_⟩⟩
     have hz:Nat.mul 0 sz=0:=Nat.zero_mul sz
     rw[hz]at h1
     simp only[List.take_zero]at h1
     cases h1
     rfl
    ·obtain⟨C,el,vs,hw,_,hvs,hC⟩:=H.row h0 hmm
     exact⟨_,cap,rfl,hle,.inr ⟨b,s+off,(vs.drop off).take (Nat.mul m sz),rfl,ho b ⟨id,cs,s,h0,hmm⟩,((cellsAt_row hw hC).drop off).take _,hm h1 ((hvs.drop off).take _)⟩⟩
mutual
def noOwn:AV->Bool
 | .agg l=>noOwns l
 | .tup l=>noOwns l
 | .isl _ l=>noOwns l
 | .iptr l=>noOwns l
 | .fn _ l=>noOwns l
 | .ref _ _=>false
 | .hsl _ _ _ _=>false
 | _=>true
def noOwns:List AV->Bool
 | []=>true
 |a::l=>noOwn a&&noOwns l
end
mutual
theorem VR.noOwn{g:G}{w:World}: ∀ (a:AV) (v:Value),noOwn a=true->VR g w a v->VR (gE g.imm) w a v
 | .int _ _,v,n,r=>by simpa only[VR]using r
 | .bool _,v,n,r=>by simpa only[VR]using r
 | .sc _,v,n,r=>by simpa only[VR]using r
 | .esl,v,n,r=>by simpa only[VR]using r
 | .nel,v,n,r=>by simpa only[VR]using r
 | .any,v,n,r=>by simpa only[VR]using r
 | .sym _ _ _ _ _,v,n,r=>by simpa only[VR]using r
 | .ref _ _,v,n,r=>by cases n
 | .hsl _ _ _ _,v,n,r=>by cases n
 | .agg cs,v,n,r=>by
  simp only[VR]at r ⊢
  obtain⟨vs,e,q⟩:=r
  exact⟨vs,e,VRs.noOwn cs _ n q⟩
 | .tup cs,v,n,r=>by
  simp only[VR]at r ⊢
  obtain⟨vs,e,q⟩:=r
  exact⟨vs,e,VRs.noOwn cs _ n q⟩
 | .fn f cs,v,n,r=>by
  simp only[VR]at r ⊢
  obtain⟨vs,e,q⟩:=r
  exact⟨vs,e,VRs.noOwn cs _ n q⟩
 | .isl m cs,v,n,r=>by
  simp only[VR]at r ⊢
  obtain⟨a,cap,e,l,r⟩:=r
  refine⟨a,cap,e,l,?_⟩
  rcases r with r|⟨b,o,vs,e,i,c,q⟩
  ·exact .inl r
  ·exact .inr ⟨b,o,vs,e,i,c,VRs.noOwn cs _ n q⟩
 | .iptr cs,v,n,r=>by
  simp only[VR]at r ⊢
  obtain⟨b,o,vs,e,i,c,q⟩:=r
  exact⟨b,o,vs,e,i,c,VRs.noOwn cs _ n q⟩
theorem VRs.noOwn{g:G}{w:World}: ∀ (l:List AV) (vs:List Value),noOwns l=true->VRs g w l vs->VRs (gE g.imm) w l vs
 | [],vs,n,r=>by simpa only[VRs]using r
 |a::l,vs,n,r=>by
  simp only[noOwns,Bool.and_eq_true]at n
  simp only[VRs]at r ⊢
  obtain⟨v,l',e,q,r⟩:=r
  exact⟨v,l',e,VR.noOwn a v n.1 q,VRs.noOwn l l' n.2 r⟩
end
def KnownF(P:Program)(f:FuncId)(args:List AV)(v:AV):Prop:=
 (∀ as w,(callFunc f as).run P w=.ok (.enter f as) w)/\ ∀ (g:G) (w:World) (vs:List Value),(∀ b,g.imm b->b<w.heap.size)->TbOk g w->VRs g w args vs->
  Calls P f vs.toArray w fun e w'=> ∃ x,e=.returned x/\Keep w w'/\VR (gE fun b=>w.heap.size<=b/\b<w'.heap.size) w' v x
def resF(r:Ro):Option AV:=Ro.rec none (fun v h=>frzF 8 h v) r
theorem knownF_of{P:Program}{call:CallF}(hc:CallOk P call){f:FuncId}{args:List AV}{v':AV}(e:resF (call f args (nilH 0))=some v')(ha:noOwns args=true):KnownF P f args v':=by
 cases hr:call f args (nilH 0)with
 |bad=>rw[hr]at e;cases e
 |ok v h'=>
 rw[hr]at e
 have hf:frzF 8 h' v=some v':=e
 obtain⟨hen,hcall⟩:=hc f args (nilH 0) v h' hr
 refine⟨hen,fun g w vs hi ht hv=>(hcall (gE g.imm) w vs (hr_empty hi ht) (VRs.noOwn _ _ ha hv)).mono ?_⟩
 rintro e w' ⟨x,g',rfl,E,H',hx⟩
 refine⟨x,rfl,keep_of E,frzF_ok H' (fun b k=>?_) 8 v v' x hf hx⟩
 rcases E.own' b k with⟨id,cs,s,e,_⟩|k1
 ·cases e
 ·obtain⟨id,cs,s,e,m⟩:=k
  obtain⟨_,_,_,hw,_⟩:=H'.row e m
  exact⟨k1,(Array.getElem?_eq_some_iff.1 hw).1⟩
def orcF(has:FuncId->Bool)(tbl:FuncId->List AV->Option AV)(call:CallF):CallF:=fun f args h=>Bool.rec (call f args h) (match mapA (frz 8 h) args with
 |some args'=>match tbl f args' with
  |some v=>.ok v h
  |none=>call f args h
 |none=>call f args h) (has f)
theorem orcF_ok{P:Program}{has:FuncId->Bool}{tbl:FuncId->List AV->Option AV}{call:CallF}(ht: ∀ f args v,tbl f args=some v->KnownF P f args v)(hc:CallOk P call):CallOk P (orcF has tbl call):=by
 intro f args h v h' e
 unfold orcF at e
 cases hh:has f with
 |false=>rw[hh]at e;exact hc f args h v h' e
 |true=>
 rw[hh]at e
 simp only at e
 cases hfz:mapA (frz 8 h) args with
 |none=>rw[hfz]at e;exact hc f args h v h' e
 |some args'=>
 rw[hfz]at e
 simp only at e
 cases ht1:tbl f args' with
 |none=>rw[ht1]at e;exact hc f args h v h' e
 |some v1=>
  rw[ht1]at e
  cases e
  obtain⟨k1,k2⟩:=ht f args' v ht1
  refine⟨k1,fun g w vs H hv=>?_⟩
  have hv1:VRs (gE fun b=>b<w.heap.size) w args' vs:=mapA_ok (g:=g) (fun a a' x=>frz_ok H (g':=gE fun b=>b<w.heap.size) H.imm (fun b ⟨id,cs,s,e,m⟩=>by
   obtain⟨_,_,_,hw,_⟩:=H.row e m
   exact(Array.getElem?_eq_some_iff.1 hw).1) 8 a a' x) hfz hv
  refine(k2 (gE fun b=>b<w.heap.size) w vs (fun b k=>k) (fun p hp=>⟨H.imm _ (H.tb p hp).1,(H.tb p hp).2⟩) hv1).mono ?_
  rintro e w' ⟨x,rfl,K,hx⟩
  obtain⟨g',hg'⟩: ∃ g':G,g'=⟨g.m,fun b=>g.imm b∨(w.heap.size<=b/\b<w'.heap.size)⟩:=⟨_,rfl⟩
  have hO: ∀ b,Owned g' h b->Owned g h b:=by
   rintro b ⟨id,cs,s,e,m⟩
   rw[hg']at m
   exact⟨id,cs,s,e,m⟩
  have M:Mono g w g' w':=⟨fun _ _ e=>by rw[hg'];exact e,fun b i=>by rw[hg'];exact .inl i,fun b i=>K.old b (H.imm b i),K.rows⟩
  refine⟨x,g',rfl,⟨K.os,K.tape,K.output,K.size,Nat.le_refl _,M.m,fun b hb _=>K.old b hb,K.rows,M.imm,fun b i=>?_,fun b o=>.inl (hO b o)⟩,⟨fun id hid=>?_,fun id cs e=>?_,fun id id' b s s' cs cs' e1 e2 m1 m2=>?_,fun b i=>?_,TbOk.mono M H.tb⟩,?_⟩
  ·rw[hg']at i
   rcases i with i|i
   ·exact .inl i
   ·exact .inr (.inr i.1)
  ·rw[hg'];exact H.fresh id hid
  ·obtain⟨b,s,C,el,us,h1,h2,h3,h4,h5⟩:=H.objs id cs e
   have hb:=(Array.getElem?_eq_some_iff.1 h2).1
   refine⟨b,s,C,el,us,M.m _ _ h1,by rw[K.old b hb];exact h2,?_,VRs.mono' M _ _ h4,h5⟩
   rw[hg']
   rintro(i|i)
   ·exact h3 i
   ·omega
  ·rw[hg']at m1 m2
   exact H.inj id id' b s s' cs cs' e1 e2 m1 m2
  ·rw[hg']at i
   rcases i with i|i
   ·exact Nat.lt_of_lt_of_le (H.imm b i) K.size
   ·exact i.2
  ·refine VR.mono' (⟨(fun _ _ e=>by cases e),(fun b i=>by rw[hg'];exact .inr i),fun _ _=>rfl,fun _=>Nat.le_refl _⟩:Mono _ _ g' w') _ _ hx
structure Kn where
 f:FuncId
 args:List AV
 v:AV
def lookT(rows:List Kn)(f:FuncId)(args:List AV):Option AV:=List.rec none (fun r _ ih=>Bool.rec ih (some r.v) (Nat.beq r.f f&&eqAs r.args args)) rows
def KT(P:Program)(rows:List Kn):Prop:= ∀ r∈rows,KnownF P r.f r.args r.v
theorem KT.nil{P:Program}:KT P []:=fun _ h=>by cases h
theorem KT.cons{P:Program}{f:FuncId}{args:List AV}{v:AV}{l:List Kn}(h:KnownF P f args v)(t:KT P l):KT P (⟨f,args,v⟩::l):=by
 intro r hr
 cases hr with
 |head=>exact h
 |tail _ hr=>exact t r hr
theorem lookT_ok{P:Program}{rows:List Kn}(h:KT P rows)(f:FuncId)(args:List AV)(v:AV)(e:lookT rows f args=some v):KnownF P f args v:=by
 induction rows with
 |nil=>cases e
 |cons r rows ih=>
  change (Bool.rec (lookT rows f args) (some r.v) (Nat.beq r.f f&&eqAs r.args args):Option AV)=some v at e
  cases hb:(Nat.beq r.f f&&eqAs r.args args)with
  |true=>
   rw[hb]at e
   cases e
   rw[Bool.and_eq_true]at hb
   obtain rfl:=Nat.eq_of_beq_eq_true hb.1
   rw[<-eqAs_iff _ _ hb.2]
   exact h r List.mem_cons_self
  |false=>
   rw[hb]at e
   exact ih (fun q hq=>h q (List.mem_cons_of_mem _ hq)) e
end Go.Ab

noncomputable section
namespace Go.Ab
inductive Od where
 |t (i:Nat)
 |c (v:AV)
 |zz
 |w (o:Od)
inductive BF where
 |add|sub|mul|quo|rem|and|or|xor|andNot|shl|shr|lss|leq|gtr|geq
 |eqI (neg:Bool)|eqB (neg:Bool)|eqS (neg:Bool)|eqP (neg:Bool)|eqN (neg:Bool)|eqA (neg:Bool) (l:List Bool)
inductive UF where
 |not|neg|xor|int (k:IntKind)
inductive OpK where
 |mv (a:Od)|pk (c a b:Od)|nw (cs:List AV)|bx (a:Od)|bd (z:List AV) (ps:List (Nat×Nat×Od))|rw(n sz:Nat) (z:List AV) (ps:List (Nat×Od))
 |ld (sz:Nat) (agg:Bool) (a:Od)|sto (sz:Nat) (a b:Od)|nl (a:Od)|bn (f:BF) (a b:Od)|un (f:UF) (a:Od)|bys (a:Od)|fn (f:FuncId) (cap:List Od)
 |mk (size bytes:Nat) (zero:List AV) (l c:Od)|slS (a:Od) (lo hi:Option Od)|slN (size:Nat) (a:Od) (lo hi:Option Od)|slA (n size:Nat) (a:Od) (lo hi:Option Od)
 |fa (off:Nat) (a:Od)|fd (off size:Nat) (agg:Bool) (a:Od)|ixS (size:Nat) (a i:Od)|ixA (n size:Nat) (a i:Od)|ix (n size:Nat) (agg:Bool) (a i:Od)|ixT (a i:Od)
 |ex (a:Od) (i:Nat)|lnT (a:Od)|ln (a:Od)|ap (size bytes:Nat) (s a:Od)|apZ (size bytes:Nat) (z:List AV) (s a:Od)|apS (bytes:Nat) (s a:Od)|mrk (a:Od)
 |cpy (size:Nat) (d s:Od)|emp (a b c:Od)|min (a b:Od)|max (a b:Od)|map|cap (a:Od)|bad|call (f:FuncId) (args:List Od)|callV (f:Od) (args:List Od)
 |gd (j:Od) (want:Bool) (f:OpK)|mn (f:OpK)
inductive RgK where
 |fi
 |st (i:Nat) (f:OpK) (k:RgK)
 |sn (f:OpK) (k:RgK)
 |ck (s:Od) (f:OpK) (k:RgK)
inductive CdK where
 |rg (r:RgK)|sk|sq (a b:CdK)|cif (c:Od) (a b:CdK)|bl (id:Nat) (b:CdK)|lp (b:CdK)|ex (i:Nat)|rt|bad
structure FbK where
 ntmps:Nat
 res:List RV
 code:CdK
def aOd(o:Od):Opd:=Od.rec (fun i=>oT i) (fun v=>oC v) oX (fun _ ih=>wO ih) o
def BF.f:BF->AV->AV->Option AV
 | .add=>bAddS| .sub=>bSubS| .mul=>bMulS| .quo=>bQuoS| .rem=>bRemS| .and=>bAndS| .or=>bOrS| .xor=>bXorS| .andNot=>bAndNot| .shl=>bShlS| .shr=>bShrS
 | .lss=>bLssS| .leq=>bLeqS| .gtr=>bGtrS| .geq=>bGeqS
 | .eqI n=>bEqIS n| .eqB n=>bEqB n| .eqS n=>bEqS n| .eqP n=>bEqP n| .eqN n=>bEqN n| .eqA n l=>bEqA n l
def UF.f:UF->AV->Option AV
 | .not=>uNot| .neg=>uNeg| .xor=>uXor| .int k=>cIntS k
def aOp(call:CallF)(o:OpK):OpF:=match o with
 | .mv a=>kMove (aOd a)| .pk c a b=>kPick (aOd c) (aOd a) (aOd b)| .nw cs=>kNew cs| .bx a=>kBox (aOd a)
 | .bd z ps=>kBuild z (ps.map fun p=>(p.1,p.2.1,aOd p.2.2))| .rw n sz z ps=>kRow n sz z (ps.map fun p=>(p.1,aOd p.2))
 | .ld sz agg a=>kLoad sz agg (aOd a)| .sto sz a b=>kStore sz (aOd a) (aOd b)| .nl a=>kNil (aOd a)| .bn f a b=>kBin f.f (aOd a) (aOd b)| .un f a=>kUn f.f (aOd a)
 | .bys a=>kBytes (aOd a)| .fn f cap=>kFn f (cap.map aOd)| .mk s b z l c=>kMake s b z (aOd l) (aOd c)
 | .slS a lo hi=>kSliceS (aOd a) (lo.map aOd) (hi.map aOd)| .slN s a lo hi=>kSliceN s (aOd a) (lo.map aOd) (hi.map aOd)| .slA n s a lo hi=>kSliceA n s (aOd a) (lo.map aOd) (hi.map aOd)
 | .fa off a=>kFieldAddr off (aOd a)| .fd off s g a=>kField off s g (aOd a)| .ixS s a i=>kIxS s (aOd a) (aOd i)| .ixA n s a i=>kIxA n s (aOd a) (aOd i)| .ix n s g a i=>kIndex n s g (aOd a) (aOd i)| .ixT a i=>kIndexS (aOd a) (aOd i)
 | .ex a i=>kExtract (aOd a) i| .lnT a=>kLenS (aOd a)| .ln a=>kLen (aOd a)| .ap s b x y=>kAppendN s b (aOd x) (aOd y)| .apZ s b z x y=>kAppZ s b z (aOd x) (aOd y)| .apS b x y=>kAppS b (aOd x) (aOd y)
 | .mrk a=>kMark (aOd a)| .cpy s d a=>kCopy s (aOd d) (aOd a)| .emp a b c=>kEmp (aOd a) (aOd b) (aOd c)| .min a b=>kMin (aOd a) (aOd b)| .max a b=>kMax (aOd a) (aOd b)| .map=>kMap| .cap a=>kCap (aOd a)| .bad=>kBad
 | .call f args=>kCall call f (args.map aOd)| .callV f args=>kCallV call (aOd f) (args.map aOd)
 | .gd j want f=>gF (aOd j) want (aOp call f)| .mn f=>mn (aOp call f)
def aRg(call:CallF)(r:RgK):RgF:=
 RgK.rec Go.Ab.fi (fun i f _ ih=>st (sT i) (aOp call f) ih) (fun f _ ih=>sn (aOp call f) ih) (fun s f _ ih=>ck (aOd s) (aOp call f) ih) r
def aCd(call:CallF)(n:Nat)(c:CdK):CdF:=
 CdK.rec (fun r=>cRg (aRg call r)) cSk (fun _ _ a b=>cSq a b) (fun c _ _ a b=>cIf (aOd c) a b) (fun id _ b=>cBl id b) (fun _ b=>cLp n b) (fun i=>cEx i) cRt cBad c
def FbK.fb(b:FbK):Fb:=⟨b.ntmps,b.res,fun call n=>aCd call n b.code⟩
namespace X
abbrev oC(v:AV):Od:=.c v
abbrev oT(i:Nat):Od:=.t i
abbrev oX:Od:=.zz
abbrev wO(o:Od):Od:=.w o
abbrev kMove:=OpK.mv
abbrev kPick:=OpK.pk
abbrev kNew:=OpK.nw
abbrev kBox:=OpK.bx
abbrev kBuild:=OpK.bd
abbrev kRow:=OpK.rw
abbrev kLoad:=OpK.ld
abbrev kStore:=OpK.sto
abbrev kNil:=OpK.nl
abbrev kBin:=OpK.bn
abbrev kUn:=OpK.un
abbrev kBytes:=OpK.bys
abbrev kFn:=OpK.fn
abbrev kMake:=OpK.mk
abbrev kSliceS:=OpK.slS
abbrev kSliceN:=OpK.slN
abbrev kSliceA:=OpK.slA
abbrev kFieldAddr:=OpK.fa
abbrev kField:=OpK.fd
abbrev kIxS:=OpK.ixS
abbrev kIxA:=OpK.ixA
abbrev kIndex:=OpK.ix
abbrev kIndexS:=OpK.ixT
abbrev kExtract:=OpK.ex
abbrev kLenS:=OpK.lnT
abbrev kLen:=OpK.ln
abbrev kAppendN:=OpK.ap
abbrev kAppZ:=OpK.apZ
abbrev kAppS:=OpK.apS
abbrev kMark:=OpK.mrk
abbrev kCopy:=OpK.cpy
abbrev kEmp:=OpK.emp
abbrev kMin:=OpK.min
abbrev kMax:=OpK.max
abbrev kMap:=OpK.map
abbrev kCap:=OpK.cap
abbrev kBad:=OpK.bad
abbrev kCall(_:Unit)(f:FuncId)(args:List Od):=OpK.call f args
abbrev kCallV(_:Unit)(f:Od)(args:List Od):=OpK.callV f args
abbrev gF:=OpK.gd
abbrev mn:=OpK.mn
abbrev fi:=RgK.fi
abbrev st:=RgK.st
abbrev sn:=RgK.sn
abbrev ck:=RgK.ck
abbrev cRg:=CdK.rg
abbrev cSk:=CdK.sk
abbrev cSq:=CdK.sq
abbrev cIf:=CdK.cif
abbrev cBl:=CdK.bl
abbrev cLp(_:Unit)(b:CdK):=CdK.lp b
abbrev cEx:=CdK.ex
abbrev cRt:=CdK.rt
abbrev cBad:=CdK.bad
abbrev bAddS:=BF.add
abbrev bSubS:=BF.sub
abbrev bMulS:=BF.mul
abbrev bQuoS:=BF.quo
abbrev bRemS:=BF.rem
abbrev bAndS:=BF.and
abbrev bOrS:=BF.or
abbrev bXorS:=BF.xor
abbrev bAndNot:=BF.andNot
abbrev bShlS:=BF.shl
abbrev bShrS:=BF.shr
abbrev bLssS:=BF.lss
abbrev bLeqS:=BF.leq
abbrev bGtrS:=BF.gtr
abbrev bGeqS:=BF.geq
abbrev bEqIS:=BF.eqI
abbrev bEqB:=BF.eqB
abbrev bEqS:=BF.eqS
abbrev bEqP:=BF.eqP
abbrev bEqN:=BF.eqN
abbrev bEqA:=BF.eqA
abbrev uNot:=UF.not
abbrev uNeg:=UF.neg
abbrev uXor:=UF.xor
abbrev cIntS:=UF.int
abbrev mkFb(n:Nat)(r:List RV)(b:Unit->Unit->CdK):FbK:=⟨n,r,b () ()⟩
end X
end Go.Ab
