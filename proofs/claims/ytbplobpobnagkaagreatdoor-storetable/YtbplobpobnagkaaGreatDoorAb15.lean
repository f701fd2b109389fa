import Derived.Test.YtbplobpobnagkaaGreatDoorAb10
noncomputable section
namespace Go.Ab
variable [Io]
def Rm(ops:Array Oper):List Nat->List Nat->Prop
 |D,[]=> ∀ i,i<ops.size->i∈D
 |D,i::s=>i<ops.size/\i∉D/\(∀ o e,ops[i]? =some o->e∈o.after->Region.binds .any e=true->e.on∈D)/\Rm ops (i::D) s
omit [Io] in
theorem filter_one{p:Nat->Bool}: ∀ (l:List Nat) (i:Nat),l.Nodup->i∈l->p i=true->(l.filter fun x=>p x&&x != i).length+1=(l.filter p).length
 | [],i,_,h,_=>by cases h
 |a::l,i,hn,h,hp=>by
  rw[List.nodup_cons]at hn
  by_cases ha:a=i
  ·subst ha
   have:(l.filter fun x=>p x&&x != a)=l.filter p:=by
    apply List.filter_congr
    intro x hx
    have:x≠a:=fun e=>hn.1 (e▸hx)
    simp[this]
   simp[List.filter_cons,hp,this]
  ·have hi:i∈l:=by
    cases h with
    |head=>exact absurd rfl ha
    |tail _ h=>exact h
   have:=filter_one l i hn.2 hi hp
   by_cases hpa:p a=true
   ·simp only[List.filter_cons,hpa,Bool.true_and,bne_iff_ne,ne_eq,ha,not_false_eq_true,decide_true,if_true,List.length_cons]
    omega
   ·simp only[List.filter_cons,hpa,Bool.false_and,Bool.false_eq_true,if_false]
    exact this
omit [Io] in
theorem least{p:Nat->Prop}: ∀ (n:Nat),p n-> ∃ m,p m/\ ∀ k,k<m-> ¬ p k:=by
 intro n
 induction n using Nat.strongRecOn with
 | _ n ih=>
  intro h
  by_cases hk: ∃ k,k<n/\p k
  ·obtain⟨k,hk,hp⟩:=hk
   exact ih k hk hp
  ·exact⟨n,h,fun k hkn hp=>hk ⟨k,hkn,hp⟩⟩
def Down(ops:Array Oper):Prop:= ∀ (i:Nat) (o:Oper) (e:Edge),ops[i]? =some o->e∈o.after->Region.binds .any e=true->e.on<i
omit [Io] in
theorem LK{ops:Array Oper}(hd:Down ops): ∀ (fuel t:Nat) (listed:Array Bool) (acc D:List Nat),listed.size=ops.size->(∀ i,i<ops.size->(listed.getD i false=true↔i∈D))->
 ((List.range ops.size).filter fun i=> !listed.getD i false).length=fuel-> ∃ s,Region.linearise.go .any ops fuel t listed acc=acc.reverse++s/\Rm ops D s
 |0,t,listed,acc,D,hs,hD,hc=>by
  refine⟨[],by simp[Region.linearise.go],fun i hi=>?_⟩
  have he:((List.range ops.size).filter fun i=> !listed.getD i false)=[]:=List.eq_nil_of_length_eq_zero hc
  rw[List.filter_eq_nil_iff]at he
  have:=he i (by simpa using hi)
  exact(hD i hi).1 (by simpa using this)
 |fuel+1,t,listed,acc,D,hs,hD,hc=>by
  have hgd: ∀ i,i<ops.size->listed.getD i true=listed.getD i false:=by
   intro i hi
   rw[Array.getD_eq_getD_getElem?,Array.getD_eq_getD_getElem?,Array.getElem?_eq_getElem (by omega)]
   rfl
  obtain⟨rs,hrs⟩: ∃ rs,rs=(List.range ops.size).filter (fun i=> !listed.getD i true&&((ops[i]?).map (·.after.all fun e=> !Region.binds .any e||listed.getD e.on false)).getD false):=⟨_,rfl⟩
  have I3: ∀ i,i∈rs↔i<ops.size/\i∉D/\ ∀ o e,ops[i]? =some o->e∈o.after->Region.binds .any e=true->e.on∈D:=by
   intro i
   rw[hrs,List.mem_filter,List.mem_range]
   constructor
   ·rintro⟨hi,h⟩
    simp only[Bool.and_eq_true,Bool.not_eq_true',hgd i hi]at h
    refine⟨hi,fun h2=>by rw[(hD i hi).2 h2]at h;exact absurd h.1 (by simp),?_⟩
    intro o e ho he hb
    rw[ho]at h
    simp only[Option.map_some,Option.getD_some,Array.all_eq_true_iff_forall_mem]at h
    have:=h.2 e he
    rw[hb]at this
    simp only[Bool.not_true,Bool.false_or]at this
    have gB:e.on<ops.size:=by
     have:=hd i o e ho he hb;omega
    exact(hD _ gB).1 this
   ·rintro⟨hi,h1,h2⟩
    refine⟨hi,?_⟩
    have ho:ops[i]? =some ops[i]:=Array.getElem?_eq_getElem hi
    have hf:listed.getD i false=false:=by
     rw[Bool.eq_false_iff]
     exact fun k=>h1 ((hD i hi).1 k)
    simp only[hgd i hi,hf,ho,Bool.not_false,Bool.true_and,Option.map_some,Option.getD_some,Array.all_eq_true_iff_forall_mem]
    intro e he
    cases hb:Region.binds .any e with
    |false=>rfl
    |true=>
     have gB:e.on<ops.size:=by have:=hd i _ e ho he hb;omega
     simp only[Bool.not_true,Bool.false_or]
     exact(hD _ gB).2 (h2 _ e ho he hb)
  have jQ:rs≠[]:=by
   have:((List.range ops.size).filter fun i=> !listed.getD i false)≠[]:=by
    intro h;rw[h]at hc;cases hc
   obtain⟨x,hx⟩:=List.exists_mem_of_ne_nil _ this
   rw[List.mem_filter,List.mem_range]at hx
   obtain⟨m,⟨hm1,IG⟩,hm3⟩:=least (p:=fun i=>i<ops.size/\i∉D) x ⟨hx.1,fun k=>by
    have:=(hD x hx.1).2 k
    rw[this]at hx;exact absurd hx.2 (by simp)⟩
   have:m∈rs:=by
    rw[I3]
    refine⟨hm1,IG,fun o e ho he hb=>?_⟩
    have gB:=hd m o e ho he hb
    exact Classical.byContradiction fun k=>hm3 _ gB ⟨by omega,k⟩
   intro h;rw[h]at this;cases this
  have hlen:0<rs.length:=List.length_pos_iff.2 jQ
  have gB:=Nat.mod_lt t hlen
  have Q2:rs[t % rs.length]? =some rs[t % rs.length]:=List.getElem?_eq_getElem gB
  obtain⟨i,hi⟩: ∃ i,i=rs[t % rs.length]:=⟨_,rfl⟩
  have I4:i∈rs:=by rw[hi];exact List.getElem_mem gB
  obtain⟨Xa,Kj,hi3⟩:=(I3 i).1 I4
  have hl: ∀ j,j<ops.size->(listed.setIfInBounds i true).getD j false=(listed.getD j false||j == i):=by
   intro j hj
   rw[Array.getD_eq_getD_getElem?,Array.getD_eq_getD_getElem?]
   by_cases EK:j=i
   ·subst EK
    rw[Array.getElem?_setIfInBounds_self_of_lt (by omega)]
    simp
   ·rw[Array.getElem?_setIfInBounds_ne (by omega)]
    simp[EK]
  obtain⟨s,G6,hs2⟩:=LK hd fuel (t / rs.length) (listed.setIfInBounds i true) (i::acc) (i::D) (by simpa using hs)
   (fun j hj=>by
    rw[hl j hj]
    simp only[Bool.or_eq_true,beq_iff_eq,List.mem_cons,hD j hj]
    exact Or.comm)
   (by
    have hnd:(List.range ops.size).Nodup:=List.nodup_range
    have hlf:listed.getD i false=false:=by rw[Bool.eq_false_iff];exact fun k=>Kj ((hD i Xa).1 k)
    have h1:=filter_one (p:=fun i=> !listed.getD i false) (List.range ops.size) i hnd (by simpa using Xa) (by simp only[hlf];rfl)
    have h2:((List.range ops.size).filter fun j=> !(listed.setIfInBounds i true).getD j false)=(List.range ops.size).filter fun x=>(!listed.getD x false)&&x != i:=by
     apply List.filter_congr
     intro x hx
     rw[hl x (by simpa using hx)]
     cases listed.getD x false<;>simp[bne]
    rw[h2]
    omega)
  refine⟨i::s,?_,Xa,Kj,hi3,hs2⟩
  rw[Region.linearise.go]
  simp only[<-hrs,Q2,<-hi,G6,List.reverse_cons,List.append_assoc,List.singleton_append]
omit [Io] in
theorem A2{ops:Array Oper}(hd:Down ops)(t:Nat):Rm ops [] (Region.schedule true ops t):=by
 have Hc: ∀ i,i<ops.size->(Array.replicate ops.size false).getD i false=false:=by
  intro i hi
  rw[Array.getD_eq_getD_getElem?]
  simp[hi]
 obtain⟨s,h1,h2⟩:=LK hd ops.size t (Array.replicate ops.size false) [] [] (by simp) (fun i hi=>by rw[Hc i hi];simp) (by
  have:((List.range ops.size).filter fun i=> !(Array.replicate ops.size false).getD i false)=List.range ops.size:=by
   rw[List.filter_eq_self]
   intro i hi
   rw[Hc i (by simpa using hi)];rfl
  rw[this];simp)
 have:Region.schedule true ops t=s:=by
  simp only[Region.schedule,Bool.true_or,if_true,Region.linearise]
  rw[h1];simp
 rw[this]
 exact h2
def pz(acc:List Nat)(es:List Edge):Nat:=
 List.rec 0 (fun e _ ih=>iw (Region.binds .any e) (Nat.lor (Nat.lor (Nat.pow 2 e.on) ((lz acc e.on).getD 0)) ih) ih) es
def qH(l:List Oper):List Nat->List Nat:=
 List.rec (fun acc=>acc) (fun o _ ih acc=>ih (app acc [pz acc o.after.toList])) l
omit [Io] in
theorem sL{acc:List Nat}{k:Nat}: ∀ {es:List Edge},(pz acc es).testBit k=true-> ∃ e∈es,Region.binds .any e=true/\(e.on=k∨(acc.getD e.on 0).testBit k=true)
 | [],h=>by simp[pz]at h
 |e::es,h=>by
  change (iw (Region.binds .any e) (Nat.lor (Nat.lor (Nat.pow 2 e.on) ((lz acc e.on).getD 0)) (pz acc es)) (pz acc es)).testBit k=true at h
  cases hb:Region.binds .any e with
  |false=>
   rw[hb]at h
   obtain⟨e',he,h'⟩:=sL (es:=es) h
   exact⟨e',List.mem_cons_of_mem _ he,h'⟩
  |true=>
   rw[hb]at h
   change ((2 ^ e.on ||| (lz acc e.on).getD 0) ||| pz acc es).testBit k=true at h
   rw[Nat.testBit_or,Nat.testBit_or,Nat.testBit_two_pow,Bool.or_eq_true,Bool.or_eq_true,gK]at h
   rcases h with(h|h)|h
   ·exact⟨e,List.mem_cons_self,hb,.inl (by simpa using h)⟩
   ·exact⟨e,List.mem_cons_self,hb,.inr (by simpa[List.getD]using h)⟩
   ·obtain⟨e',he,h'⟩:=sL (es:=es) h
    exact⟨e',List.mem_cons_of_mem _ he,h'⟩
omit [Io] in
theorem xG: ∀ (l:List Oper) (acc:List Nat),(qH l acc).length=acc.length+l.length/\(∀ k,k<acc.length->(qH l acc)[k]? =acc[k]?)/\
 ∀ i o k,l[i]? =some o->((qH l acc).getD (acc.length+i) 0).testBit k=true-> ∃ e∈o.after.toList,Region.binds .any e=true/\(e.on=k∨((qH l acc).getD e.on 0).testBit k=true)
 | [],acc=>⟨by simp[qH],fun k _=>rfl,fun i o k h=>by simp at h⟩
 |o::l,acc=>by
  have hm:qH (o::l) acc=qH l (acc++[pz acc o.after.toList]):=by
   show qH l (app acc _)=_
   rw[bp]
  obtain⟨h1,h2,h3⟩:=xG l (acc++[pz acc o.after.toList])
  rw[<-hm]at h1 h2 h3
  refine⟨by rw[h1];simp;omega,fun k hk=>?_,?_⟩
  ·rw[h2 k (by simp;omega),List.getElem?_append_left hk]
  ·intro i o' k hi hk
   cases i with
   |zero=>
    simp at hi
    subst hi
    have acm:(qH (o::l) acc)[acc.length]? =some (pz acc o.after.toList):=by
     rw[h2 acc.length (by simp)];simp
    simp only[Nat.add_zero,List.getD,acm,Option.getD_some]at hk
    obtain⟨e,he,hb,P9⟩:=sL hk
    refine⟨e,he,hb,P9.imp id fun h=>?_⟩
    by_cases gB:e.on<acc.length
    ·simp only[List.getD]at h ⊢
     rw[h2 _ (by simp;omega),List.getElem?_append_left gB];exact h
    ·simp only[List.getD,List.getElem?_eq_none (Nat.le_of_not_lt gB)]at h
     simp at h
   |succ i=>
    have:=h3 i o' k (by simpa using hi) (by
     simp only[List.length_append,List.length_cons,List.length_nil,Nat.zero_add]
     rw[show acc.length+1+i=acc.length+(i+1) by omega];exact hk)
    exact this
def Fl(ops:List Oper)(i k:Nat):Bool:=((qH ops []).getD i 0).testBit k
def A3(ops:List Oper)(D:List Nat):Prop:= ∀ j∈D,∀ k,Fl ops j k=true->k∈D
omit [Io] in
theorem CV{ops:Array Oper}{D:List Nat}(hc:A3 ops.toList D){i:Nat}{o:Oper}(ho:ops[i]? =some o)
 (h: ∀ o e,ops[i]? =some o->e∈o.after->Region.binds .any e=true->e.on∈D):(∀ k,Fl ops.toList i k=true->k∈D)/\A3 ops.toList (i::D):=by
 have h1: ∀ k,Fl ops.toList i k=true->k∈D:=by
  intro k hk
  obtain⟨_,_,h3⟩:=xG ops.toList []
  obtain⟨e,he,hb,P9⟩:=h3 i o k (by simpa using ho) (by simpa[Fl]using hk)
  have Hb:=h o e ho (by simpa using he) hb
  rcases P9 with rfl|P9
  ·exact Hb
  ·exact hc _ Hb k (by simpa[Fl]using P9)
 refine⟨h1,fun j hj k hk=>?_⟩
 cases hj with
 |head=>exact List.mem_cons_of_mem _ (h1 k hk)
 |tail _ hj=>exact List.mem_cons_of_mem _ (hc j hj k hk)
end Go.Ab

noncomputable section
namespace Go.Ab
variable [Io]
section
variable {P:Program}{call:cV}
omit [Io] in
theorem tW{t t':Tm}: ∀ (l:List Operand),(∀ x∈l,aQ x t=aQ x t')->u0 (l.map aQ) t=u0 (l.map aQ) t'
 | [],_=>rfl
 |x::l,h=>by
  show(Option.rec none (fun v=>Option.rec none (fun vs=>some (v::vs)) (u0 (l.map aQ) t)) (aQ x t):Option (List AV))=
   Option.rec none (fun v=>Option.rec none (fun vs=>some (v::vs)) (u0 (l.map aQ) t')) (aQ x t')
  rw[h x List.mem_cons_self,tW l fun y hy=>h y (List.mem_cons_of_mem _ hy)]
omit [Io] in
theorem xH{t t':Tm}: ∀ (l:List (Nat×Operand)),(∀ x∈l.map (·.2),aQ x t=aQ x t')->nJ (px l) t=nJ (px l) t'
 | [],_=>rfl
 |p::l,h=>by
  show(match aQ p.2 t with|some v=>(match nJ (px l) t with|some vs=>some ((p.1,v)::vs)|none=>none)|none=>none)=
   (match aQ p.2 t' with|some v=>(match nJ (px l) t' with|some vs=>some ((p.1,v)::vs)|none=>none)|none=>none)
  rw[h p.2 List.mem_cons_self,xH l fun y hy=>h y (List.mem_cons_of_mem _ hy)]
omit [Io] in
theorem xI{t t':Tm}{place:Nat->Option (Nat×Nat)}: ∀ (l:List (Nat×Operand)) (ps:List (Nat×Nat×eN)),vf place l=some ps->(∀ x∈l.map (·.2),aQ x t=aQ x t')->nK ps t=nK ps t'
 | [],ps,e,_=>by cases e;rfl
 |p::l,ps,e,h=>by
  change (match place p.1 with|some (off,size)=>(match vf place l with|some r=>some ((off,size,aQ p.2)::r)|none=>none)|none=>none)=some ps at e
  split at e
  ·split at e
   ·rename_i r hr
    cases e
    show(match aQ p.2 t with|some v=>(match nK r t with|some vs=>some ((_,_,v)::vs)|none=>none)|none=>none)=
     (match aQ p.2 t' with|some v=>(match nK r t' with|some vs=>some ((_,_,v)::vs)|none=>none)|none=>none)
    rw[h p.2 List.mem_cons_self,xI l r hr fun y hy=>h y (List.mem_cons_of_mem _ hy)]
   ·cases e
  ·cases e
omit [Io] in
theorem xJ{t t':Tm}{d:Nat}(x:Option Operand)(h: ∀ y∈x.toList,aQ y t=aQ y t'):nL (x.map aQ) t d=nL (x.map aQ) t' d:=by
 cases x with
 |none=>rfl
 |some y=>simp only[Option.map_some,nL,h y (by simp)]
omit [Io] in
theorem Fm{t t':Tm}{n:Nat}(lo hi:Option Operand)(h1: ∀ y∈lo.toList,aQ y t=aQ y t')(h2: ∀ y∈hi.toList,aQ y t=aQ y t'):
 bounds (lo.map aQ) (hi.map aQ) t n=bounds (lo.map aQ) (hi.map aQ) t' n:=by
 unfold bounds
 rw[xJ lo h1,xJ hi h2]
def fD(t t':Tm)(h:Hp)(f:eH):Prop:=f t h=f t' h
omit [Io] in
theorem Rp{t t':Tm}{h:Hp}:fD t t' h bI:=rfl
omit [Io] in
theorem lQ{t t':Tm}{h:Hp}{c:Bool}{f:eH}(e:fD t t' h f):fD t t' h (iw c f bI):=by cases c;exact Rp;exact e
omit [Io] in
theorem LL{t t':Tm}{h:Hp}{c:Bool}{f f':eH}(e:fD t t' h f)(e':fD t t' h f'):fD t t' h (iw c f f'):=by cases c;exact e';exact e
omit [Io] in
theorem Rq{t t':Tm}{h:Hp}(o:Op)(e: ∀ x∈o.operands.toList,aQ x t=aQ x t'):fD t t' h (py P call o).2:=by
 cases o<;>simp only[py]
 case move x=>simp only[fD,aa,e x (by simp[Op.operands])]
 case assign x=>simp only[fD,aa,e x (by simp[Op.operands])]
 case pick c x y=>simp only[fD,aU,aa,e c (by simp[Op.operands]),e x (by simp[Op.operands]),e y (by simp[Op.operands])]
 case alloc T=>unfold Lx;split<;>rfl
 case box T x=>simp only[fD,ef,e x (by simp[Op.operands])]
 case build T ps=>
  unfold xx
  split
  ·split
   ·split
    ·rename_i q h3
     simp only[fD,au,xI (t:=t) (t':=t') ps.toList q h3 (fun x hx=>e x (by simpa[Op.operands]using hx))]
    ·rfl
   ·rfl
  ·rfl
 case buildSlice T n ps=>
  have hp:=xH (t:=t) (t':=t') ps.toList (fun x hx=>e x (by simpa[Op.operands]using hx))
  unfold K3
  split
  ·split
   ·split
    ·refine lQ ?_
     simp only[fD,bA,hp]
    ·rfl
   ·rfl
  ·rfl
 case load T x=>
  unfold CP
  split
  ·split
   ·simp only[fD,bh,e x (by simp[Op.operands])]
   ·rfl
  ·rfl
 case store T x y=>
  unfold AP
  split
  ·refine lQ ?_
   simp only[fD,aF,e x (by simp[Op.operands]),e y (by simp[Op.operands])]
  ·rfl
 case nilCheck x=>simp only[fD,bq,e x (by simp[Op.operands])]
 case binOp op T x y yT=>
  cases CO P op T with
  |none=>rfl
  |some f=>simp only[fD,ah,e x (by simp[Op.operands]),e y (by simp[Op.operands])]
 case unOp op T x=>
  cases W8 op with
  |none=>rfl
  |some f=>simp only[fD,eG,e x (by simp[Op.operands])]
 case convert S D x=>
  have hx:=e x (by simp[Op.operands])
  split
  ·simp only[AW]
   split
   ·split
    ·split
     ·simp only[fD,ph,hx]
     ·rfl
    ·rfl
   ·split
    ·split
     ·refine lQ ?_
      simp only[fD,r7,hx]
     ·rfl
    ·rfl
   ·rfl
  ·simp only[zV]
   split
   ·split
    ·simp only[fD,eG,hx]
    ·rfl
   ·rfl
 case makeFunc f first caps=>
  cases f<;>try rfl
  simp only
  split
  ·simp only[fD,P5,tW (t:=t) (t':=t') caps.toList (fun x hx=>e x (by simp[Op.operands];exact .inr (by simpa using hx)))]
  ·rfl
 case makeMap T r=>cases r<;>rfl
 case makeSlice T l c=>
  have h1:=e l (by simp[Op.operands])
  have h2:=e c (by simp[Op.operands])
  unfold CG
  split
  ·split
   ·split
    ·refine lQ ?_
     simp only[fD,nh,h1,h2]
    ·rfl
   ·rfl
  ·rfl
 case slice T x lo hi mx=>
  cases mx with
  |some m=>
   have hx:=e x (by simp[Op.operands])
   have hm:=e m (by simp[Op.operands])
   have hh: ∀ y∈hi.toList,aQ y t=aQ y t':=fun y hy=>e y (by simp[Op.operands];right;right;left;simpa using hy)
   simp only
   unfold tT
   split
   ·rename_i y
    have hy:=hh y (by simp)
    split
    ·split
     ·simp only[fD,xk,wO,hx,hy,hm]
     ·rfl
    ·rfl
   ·rfl
  |none=>
  have hx:=e x (by simp[Op.operands])
  have hl: ∀ y∈lo.toList,aQ y t=aQ y t':=fun y hy=>e y (by simp[Op.operands];right;left;simpa using hy)
  have hh: ∀ y∈hi.toList,aQ y t=aQ y t':=fun y hy=>e y (by simp[Op.operands];right;right;simpa using hy)
  have hb: ∀ n,bounds (lo.map aQ) (hi.map aQ) t n=bounds (lo.map aQ) (hi.map aQ) t' n:=fun n=>Fm lo hi hl hh
  simp only
  unfold xC
  split
  ·simp only[fD,di,hx,hb]
  ·split
   ·simp only[fD,cZ,nM,hx,hb]
   ·rfl
  ·split
   ·refine lQ ?_
    simp only[fD,jX,hx,hb]
   ·rfl
  ·rfl
 case fieldAddr T x n=>
  have hx:=e x (by simp[Op.operands])
  unfold mG
  split
  ·split
   ·split
    ·refine lQ ?_
     simp only[fD,ab,hx]
    ·rfl
   ·rfl
  ·rfl
 case field T x n=>
  have hx:=e x (by simp[Op.operands])
  unfold xA
  split
  ·split
   ·split
    ·split
     ·simp only[fD,nN,hx]
     ·rfl
    ·rfl
   ·rfl
  ·rfl
 case indexAddr T x y=>
  have hx:=e x (by simp[Op.operands])
  have hy:=e y (by simp[Op.operands])
  unfold mH
  split
  ·split
   ·simp only[fD,bB,hx,hy]
   ·rfl
  ·split
   ·simp only[fD,rO,hx,hy]
   ·rfl
  ·rfl
 case index T x y=>
  have hx:=e x (by simp[Op.operands])
  have hy:=e y (by simp[Op.operands])
  unfold xB
  split
  ·split
   ·split
    ·simp only[fD,lA,hx,hy]
    ·rfl
   ·rfl
  ·simp only[fD,cu,hx,hy]
  ·rfl
 case extract x i=>simp only[fD,aR,e x (by simp[Op.operands])]
 case call c=>
  have oh: ∀ x∈c.args.toList,aQ x t=aQ x t':=fun x hx=>e x (by simp[Op.operands,Call.operands];right;simpa using hx)
  cases hb:jn P c with
  |some f=>
   simp only
   unfold jn at hb
   split at hb
   ·split at hb
    ·rename_i x T h1 h2
     cases hb
     have hx:=oh x (by simp[h1])
     unfold Lv
     split
     ·simp only[fD,jY,hx]
     ·simp only[fD,aX,wO,hx]
     ·rfl
     ·rfl
    ·cases hb;rfl
   ·split at hb
    ·rename_i x T h1 h2
     cases hb
     have hx:=oh x (by simp[h1])
     unfold Lw
     split
     ·simp only[fD,tE,wO,hx]
     ·rfl
    ·cases hb;rfl
   ·split at hb
    ·rename_i x y h1
     cases hb
     simp only[fD,AA,ah,oh x (by simp[h1]),oh y (by simp[h1])]
    ·cases hb;rfl
   ·split at hb
    ·rename_i x y h1
     cases hb
     simp only[fD,AB,ah,oh x (by simp[h1]),oh y (by simp[h1])]
    ·cases hb;rfl
   ·cases hb
  |none=>
   simp only
   unfold Ha
   split
   ·split
    ·rename_i s x T T' h1 h2
     have h3:=oh s (by simp[h1])
     have h4:=oh x (by simp[h1])
     refine LL ?_ ?_
     ·unfold wN
      split
      ·split
       ·split
        ·refine lQ ?_
         simp only[fD,aM,pj,wO,h3,h4]
        ·rfl
       ·rfl
      ·rfl
     ·unfold G7
      split
      ·unfold G5
       split
       ·split
        ·split
         ·split
          ·refine lQ ?_
           simp only[fD,tG,h3,h4]
          ·rfl
         ·rfl
        ·rfl
       ·rfl
      ·unfold G4
       split
       ·split
        ·split
         ·split
          ·refine lQ ?_
           simp only[fD,r6,h3,h4]
          ·rfl
         ·rfl
        ·rfl
       ·rfl
    ·rfl
   ·split
    ·rename_i d s T T' h1 h2
     have h3:=oh d (by simp[h1])
     have h4:=oh s (by simp[h1])
     unfold G9
     split
     ·split
      ·simp only[fD,kr,wO,h3,h4]
      ·rfl
     ·rfl
    ·rfl
   ·rename_i f args sJ
    simp only[fD,an,tW (t:=t) (t':=t') args.toList oh]
   ·rename_i f args sJ _
    have hf:=e f (by simp[Op.operands,Call.operands])
    simp only[fD,iz,hf,tW (t:=t) (t':=t') args.toList oh]
   ·rfl
 all_goals rfl
def CW:Operand->List Nat
 | .tmp i=>[i]
 | _=>[]
def rz(all:List Oper)(o:Oper):List Nat:=
 app (List.rec [] (fun x _ ih=>app (CW x) ih) o.op.operands.toList) (match o.guard with
  |none=>[]
  |some (j,_)=>match lz all j with
   |some oj=>match oj.dst with
    |some d=>[d]
    |none=>[]
   |none=>[])
omit [Io] in
theorem CX{x:Operand}{i:Nat}: ∀ {l:List Operand},x∈l->i∈CW x->i∈(List.rec [] (fun x _ ih=>app (CW x) ih) l:List Nat)
 | [],h,_=>by cases h
 |y::l,h,hi=>by
  show i∈app (CW y) _
  rw[bp]
  cases h with
  |head=>exact List.mem_append_left _ hi
  |tail _ h=>exact List.mem_append_right _ (CX h hi)
omit [Io] in
theorem Ru{nt:Nat}{all:List Oper}{o:Oper}{t t':Tm}{h:Hp}(e: ∀ u∈rz all o,t.at u=t'.at u):lr P call nt all o t h=lr P call nt all o t' h:=by
 have hx: ∀ x∈o.op.operands.toList,aQ x t=aQ x t':=by
  intro x hx
  cases x with
  |tmp i=>
   have:=e i (by unfold rz;rw[bp];exact List.mem_append_left _ (CX hx (by simp[CW])))
   show iw (Nat.blt i 512) (oT i) oX t=iw (Nat.blt i 512) (oT i) oX t'
   cases Nat.blt i 512
   ·rfl
   ·exact this
  |const v=>show(match Qn v with|some a=>oC a|none=>oX) t=(match Qn v with|some a=>oC a|none=>oX) t';cases Qn v<;>rfl
  |global g=>rfl
  |func f=>rfl
 have hd:=Rq (P:=P) (call:=call) (h:=h) o.op hx
 unfold lr
 cases hg:o.guard with
 |none=>exact hd
 |some p=>
  obtain⟨j,want⟩:=p
  simp only
  cases hj:lz all j with
  |none=>rfl
  |some oj=>
   simp only
   cases hdj:oj.dst with
   |none=>rfl
   |some d=>
    simp only
    cases Nat.blt d nt with
    |false=>rfl
    |true=>
     have G2:t.at d=t'.at d:=e d (by
      unfold rz
      rw[bp,hg]
      refine List.mem_append_right _ ?_
      simp[hj,hdj])
     show gF (oT d) want (py P call o.op).2 t h=gF (oT d) want (py P call o.op).2 t' h
     unfold gF
     unfold fD at hd
     rw[hd]
     show(match t.at d with|some (.bool b)=>_|some (.wg [])=>_| _=>_)=(match t'.at d with|some (.bool b)=>_|some (.wg [])=>_| _=>_)
     rw[G2]
end
end Go.Ab

noncomputable section
namespace Go.Ab
variable [Io]
section
variable {P:Program}{call:cV}
def kQ(f:eH):Prop:= ∀ t h h0,f t h=(match f t h0 with| .ok v _=>.ok v h| .bad=>.bad)
omit [Io] in
theorem kQ.ok{f:eH}(i:kQ f){t:Tm}{h h':Hp}{v:AV}(e:f t h=.ok v h'):h'=h/\ ∀ h0,f t h0=.ok v h0:=by
 refine⟨?_,fun h0=>by rw[i t h0 h,e]⟩
 have:=i t h h
 rw[e]at this
 exact(Ro.ok.inj this).2
omit [Io] in
theorem cU:kQ bI:=fun _ _ _=>rfl
omit [Io] in
theorem Hd{c:Bool}{f:eH}(i:kQ f):kQ (iw c f bI):=by cases c;exact cU;exact i
omit [Io] in
theorem qI{x:eN}:kQ (aa x):=by intro t h h0;unfold aa;cases x t<;>rfl
omit [Io] in
theorem LM{c x y:eN}:kQ (aU c x y):=by
 intro t h h0;unfold aU;cases c t<;>try rfl
 rename_i a;cases a<;>try rfl
 rename_i b;cases b
 ·exact qI t h h0
 ·exact qI t h h0
omit [Io] in
theorem Rv{x:eN}:kQ (bq x):=by intro t h h0;unfold bq;cases x t<;>try rfl
                               rename_i a;cases a<;>rfl
omit [Io] in
theorem A4{f:AV->AV->Option AV}{x y:eN}:kQ (ah f x y):=by
 intro t h h0;unfold ah;cases x t<;>try rfl
 rename_i a;cases y t<;>try rfl
 rename_i b;simp only;cases f a b<;>rfl
omit [Io] in
theorem LN{f:AV->Option AV}{x:eN}:kQ (eG f x):=by
 intro t h h0;unfold eG;cases x t<;>try rfl
 rename_i a;simp only;cases f a<;>rfl
omit [Io] in
theorem Xb{f:FuncId}{l:List eN}:kQ (P5 f l):=by intro t h h0;unfold P5;cases u0 l t<;>rfl
omit [Io] in
theorem I5{z:List AV}{ps:List (Nat×Nat×eN)}:kQ (au z ps):=by
 intro t h h0;unfold au;cases nK ps t<;>try rfl
 rename_i vs;simp only;cases xi vs z<;>rfl
omit [Io] in
theorem zh{n:Nat}{x:eN}:kQ (ab n x):=by intro t h h0;unfold ab;cases x t<;>try rfl
                                        rename_i a;cases a<;>rfl
omit [Io] in
theorem I6{n m:Nat}{b:Bool}{x:eN}:kQ (nN n m b x):=by
 intro t h h0;unfold nN;cases x t<;>try rfl
 rename_i a;cases a<;>try rfl
 rename_i cs;simp only;cases part b cs n m<;>rfl
omit [Io] in
theorem Ry{n:Nat}{x y:eN}:kQ (bB n x y):=by
 intro t h h0;unfold bB;cases y t<;>try rfl
 rename_i a;cases a<;>try rfl
 rename_i k i;cases i<;>try rfl
 rename_i i;simp only;cases x t<;>try rfl
 rename_i a;cases a<;>try rfl
 ·rename_i id off m sz;simp only;cases(Nat.blt i m&&Nat.beq sz n)<;>rfl
 ·rename_i m cs;simp only;cases Nat.blt i m<;>rfl
omit [Io] in
theorem Rz{m n:Nat}{x y:eN}:kQ (rO m n x y):=by
 intro t h h0;unfold rO;cases y t<;>try rfl
 rename_i a;cases a<;>try rfl
 rename_i k i;cases i<;>try rfl
 rename_i i;simp only;cases x t<;>try rfl
 rename_i a;cases a<;>try rfl
 ·simp only;cases Nat.blt i m<;>rfl
 ·simp only;cases Nat.blt i m<;>rfl
omit [Io] in
theorem I7{m n:Nat}{b:Bool}{x y:eN}:kQ (lA m n b x y):=by
 intro t h h0;unfold lA;cases x t<;>try rfl
 rename_i a;cases a<;>try rfl
 rename_i cs;simp only;cases y t<;>try rfl
 rename_i a;cases a<;>try rfl
 rename_i k i;cases i<;>try rfl
 rename_i i;simp only;cases Nat.blt i m<;>try rfl
 simp only[cond_true];cases part b cs (Nat.mul i n) n<;>rfl
omit [Io] in
theorem Fo{x y:eN}:kQ (cu x y):=by
 intro t h h0;unfold cu;cases x t<;>try rfl
 rename_i a;cases a<;>try rfl
 rename_i v;cases v<;>try rfl
 rename_i s;simp only;cases y t<;>try rfl
 rename_i a;cases a<;>try rfl
 ·rename_i k i;cases i<;>try rfl
  rename_i i;simp only;cases lz s.data.toList i<;>rfl
 ·rename_i k sv lo hi o;simp only;cases(!(lj (Int.add lo o) 0)&&lj (Int.add hi o) (.ofNat s.size))<;>rfl
omit [Io] in
theorem CY{x:eN}{i:Nat}:kQ (aR x i):=by
 intro t h h0;unfold aR;cases x t<;>try rfl
 rename_i a;cases a<;>try rfl
 rename_i vs;simp only;cases lz vs i<;>rfl
omit [Io] in
theorem LO{x:eN}:kQ (jY x):=by
 intro t h h0;unfold jY;cases x t<;>try rfl
 rename_i a;cases a<;>try rfl
 rename_i v;cases v<;>rfl
omit [Io] in
theorem RA{x:eN}:kQ (aX x):=by
 intro t h h0;unfold aX;cases x t<;>try rfl
 rename_i a;cases a<;>rfl
omit [Io] in
theorem RB{x:eN}:kQ (tE x):=by
 intro t h h0;unfold tE;cases x t<;>try rfl
 rename_i a;cases a<;>rfl
omit [Io] in
theorem RC{o:Op}(hc:(py P call o).1=.p0):kQ (py P call o).2:=by
 cases o<;>simp only[py]at hc ⊢
 case move x=>exact qI
 case assign x=>exact qI
 case pick c x y=>exact LM
 case alloc T=>cases hc
 case box T x=>cases hc
 case build T ps=>
  unfold xx
  split
  ·split
   ·split
    ·exact I5
    ·exact cU
   ·exact cU
  ·exact cU
 case buildSlice T n ps=>cases hc
 case load T x=>cases hc
 case store T x y=>cases hc
 case nilCheck x=>exact Rv
 case binOp op T x y yT=>
  cases CO P op T with
  |some f=>exact A4
  |none=>exact cU
 case unOp op T x=>
  cases W8 op with
  |some f=>exact LN
  |none=>exact cU
 case convert S D x=>
  have gD:kQ (zV P S D x):=by
   unfold zV
   split
   ·split
    ·exact LN
    ·exact cU
   ·exact cU
  split
  ·rename_i h
   rw[h]at hc
   cases hc
  ·exact gD
 case makeFunc f first caps=>
  cases f<;>try (cases hc;done)
  simp only
  cases first.toList with
  |nil=>exact Xb
  |cons a l=>exact cU
 case makeSlice T l c=>cases hc
 case slice T x lo hi mx=>cases mx<;>cases hc
 case fieldAddr T x n=>
  unfold mG
  split
  ·split
   ·split
    ·exact Hd zh
    ·exact cU
   ·exact cU
  ·exact cU
 case field T x n=>
  unfold xA
  split
  ·split
   ·split
    ·split
     ·exact I6
     ·exact cU
    ·exact cU
   ·exact cU
  ·exact cU
 case indexAddr T x y=>
  unfold mH
  split
  ·split
   ·exact Ry
   ·exact cU
  ·split
   ·exact Rz
   ·exact cU
  ·exact cU
 case index T x y=>
  unfold xB
  split
  ·split
   ·split
    ·exact I7
    ·exact cU
   ·exact cU
  ·exact Fo
  ·exact cU
 case extract x i=>exact CY
 case call c=>
  cases hb:jn P c with
  |none=>rw[hb]at hc;cases hc
  |some f=>
   simp only
   unfold jn at hb
   split at hb
   ·split at hb
    ·cases hb
     unfold Lv
     split
     ·exact LO
     ·exact RA
     ·exact qI
     ·exact cU
    ·cases hb;exact cU
   ·split at hb
    ·cases hb
     unfold Lw
     split
     ·exact RB
     ·exact cU
    ·cases hb;exact cU
   ·split at hb
    ·cases hb;exact A4
    ·cases hb;exact cU
   ·split at hb
    ·cases hb;exact A4
    ·cases hb;exact cU
   ·cases hb
 case makeMap T r=>cases r<;>cases hc
 all_goals (cases hc)
def I8(f:eH):Prop:= ∀ t h v h',f t h=.ok v h'-> ∀ h0:Hp,h0.next=h.next->(h'=h/\f t h0=.ok v h0)∨ ∃ cs,h'=dw h cs/\f t h0=.ok v (dw h0 cs)
omit [Io] in
theorem jo:I8 bI:=by intro t h v h' e;cases e
omit [Io] in
theorem xK{c:Bool}{f:eH}(i:I8 f):I8 (iw c f bI):=by cases c;exact jo;exact i
omit [Io] in
theorem LP{o:Op}(hc:(py P call o).1=.al):I8 (py P call o).2:=by
 cases o<;>simp only[py]at hc ⊢
 case alloc T=>
  unfold Lx
  split
  ·intro t h v h' e h0 hn
   cases e
   exact .inr ⟨_,rfl,by unfold dW;rw[hn]⟩
  ·exact jo
 case box T x=>
  intro t h v h' e h0 hn
  unfold ef at e ⊢
  cases hx:aQ x t with
  |none=>rw[hx]at e;cases e
  |some a=>rw[hx]at e;cases e;exact .inr ⟨_,rfl,by rw[hn]⟩
 case buildSlice T n ps=>
  unfold K3
  split
  ·split
   ·split
    ·refine xK ?_
     rename_i ie nr _ z hz0
     intro t h v h' e h0 hn
     unfold bA at e ⊢
     cases hp:nJ (px ps.toList) t with
     |none=>rw[hp]at e;cases e
     |some vs=>
      rw[hp]at e
      simp only at e ⊢
      cases hz:Nat.beq n 0 with
      |true=>
       rw[hz]at e
       cases vs with
       |nil=>cases e;exact .inl ⟨rfl,rfl⟩
       |cons _ _=>cases e
      |false=>
       rw[hz]at e
       simp only[cond_false]at e ⊢
       cases hf:rm n ie.size z vs with
       |none=>rw[hf]at e;cases e
       |some cs=>rw[hf]at e;cases e;exact .inr ⟨_,rfl,by rw[hn]⟩
    ·exact jo
   ·exact jo
  ·exact jo
 case makeSlice T l c=>
  unfold CG
  split
  ·split
   ·split
    ·refine xK ?_
     rename_i ie nr _ z hz0
     intro t h v h' e h0 hn
     unfold nh at e ⊢
     cases hl:aQ l t with
     |none=>rw[hl]at e;cases e
     |some a=>
     cases a<;>try (rw[hl]at e;cases e;done)
     rename_i k i
     cases i<;>try (rw[hl]at e;cases e;done)
     rename_i i
     rw[hl]at e
     simp only at e ⊢
     cases Q1:aQ c t with
     |none=>rw[Q1]at e;cases e
     |some a=>
     cases a<;>try (rw[Q1]at e;cases e;done)
     rename_i k2 j
     cases j<;>try (rw[Q1]at e;cases e;done)
     rename_i j
     rw[Q1]at e
     simp only at e ⊢
     cases hb:(Nat.ble i j&&Nat.ble (Nat.mul j ie.bytes) 70368744177664)with
     |false=>rw[hb]at e;cases e
     |true=>
     rw[hb]at e
     simp only[cond_true]at e ⊢
     cases hz:Nat.beq j 0 with
     |true=>rw[hz]at e;cases e;exact .inl ⟨rfl,rfl⟩
     |false=>rw[hz]at e;cases e;exact .inr ⟨_,rfl,by simp only[cond_false];rw[hn]⟩
    ·exact jo
   ·exact jo
  ·exact jo
 case binOp op T x y yT=>cases h:CO P op T<;>rw[h]at hc<;>cases hc
 case unOp op T x=>cases h:W8 op<;>rw[h]at hc<;>cases hc
 case convert S D x=>
  cases h:P.underlying D with
  |none=>rw[h]at hc;cases hc
  |some d=>cases d<;>rw[h]at hc<;>cases hc
 case makeFunc f first caps=>
  cases f<;>try (cases hc;done)
  simp only at hc
  cases h:first.toList<;>rw[h]at hc<;>cases hc
 case slice T x lo hi mx=>cases mx<;>cases hc
 case makeMap T r=>cases r<;>cases hc
 case call c=>cases h:jn P c<;>rw[h]at hc<;>cases hc
 all_goals (cases hc)
end
end Go.Ab

noncomputable section
namespace Go.Ab
variable [Io]
def G.to(g:G)(N:Nat):G:=⟨fun id=>if id<N then g.m id else none,g.fB⟩
omit [Io] in
theorem zX(g:G)(w:World):tH g w g w:=⟨fun _ _ e=>e,fun _ i=>i,fun _ _=>rfl,fun _=>Nat.le_refl _⟩
omit [Io] in
theorem pA(g:G)(w:World){N M:Nat}(h:N<=M):tH (g.to N) w (g.to M) w:=
 ⟨(by
   intro id x e
   simp only[G.to]at e ⊢
   by_cases h1:id<N
   ·rw[if_pos h1]at e;rw[if_pos (by omega)];exact e
   ·rw[if_neg h1]at e;cases e),fun _ i=>i,fun _ _=>rfl,fun _=>Nat.le_refl _⟩
def fS(N:Nat):Hp:=⟨N,.nil⟩
theorem LQ{g:G}{w:World}{N:Nat}(h: ∀ b,g.fB b->b<w.heap.size):HC g w (fS N):=⟨(fun _ _ e=>by cases e),h⟩
section
variable {P:Program}{call:cV}{o:Oper}
theorem vL{ops:Array Oper}{g w nt t h}{a:Act}{v:AV}{h':Hp}(T:TR g w nt t a.tmps)
 (e:lr P call nt ops.toList o t h=.ok v h'):(Region.wanted o (yielded ops a.tmps)=true/\(py P call o.op).2 t h=.ok v h')∨
  (Region.wanted o (yielded ops a.tmps)=false/\v=gV/\h'=h):=by
 unfold lr at e
 cases hg:o.guard with
 |none=>
  rw[hg]at e
  exact .inl ⟨by simp[Region.wanted,hg],e⟩
 |some p=>
  obtain⟨j,want⟩:=p
  rw[hg]at e
  simp only[gK]at e
  cases hj:ops.toList[j]? with
  |none=>simp only[hj]at e;cases e
  |some oj=>
  simp only[hj]at e
  cases hd:oj.dst with
  |none=>simp only[hd]at e;cases e
  |some d=>
  simp only[hd]at e
  cases hb:Nat.blt d nt with
  |false=>simp only[hb]at e;cases e
  |true=>
  simp only[hb]at e
  have Kk:=bH.1 hb
  change gF (oT d) want (py P call o.op).2 t h=.ok v h' at e
  have hj':ops[j]? =some oj:=by simpa using hj
  have rQ:=T.2.1
  have hy: ∀ y,a.tmps.getD d undef=y->yielded ops a.tmps j=match y with| .bool b=>some b| _=>none:=by
   intro y hy
   have:a.tmps[d]? =some y:=by
    rw[Array.getD_eq_getD_getElem?]at hy
    rw[Array.getElem?_eq_getElem (by omega)]at hy ⊢
    simpa using hy
   simp[yielded,hj',hd,this]
   cases y<;>rfl
  unfold gF at e
  split at e
  ·rename_i b CI
   have hv:=(T.2.2 d _ (by have:=T.1;omega) CI).2
   simp only[VR]at hv
   have Rg:=hy _ hv
   cases Rh:(iw want b (!b))with
   |true=>
    rw[Rh]at e
    have:b=want:=by cases want<;>cases b<;>simp[iw]at Rh<;>rfl
    exact .inl ⟨by simp[Region.wanted,hg,Rg,this],e⟩
   |false=>
    rw[Rh]at e
    have:b≠want:=by cases want<;>cases b<;>simp[iw]at Rh<;>simp
    cases e
    exact .inr ⟨by simp[Region.wanted,hg,Rg,this],rfl,rfl⟩
  ·rename_i CI
   have hv:=(T.2.2 d _ (by have:=T.1;omega) CI).2
   simp only[VR]at hv
   obtain⟨vs,hv,eI⟩:=hv
   have Rg:=hy _ hv
   cases e
   exact .inr ⟨by simp[Region.wanted,hg,Rg],rfl,rfl⟩
  ·cases e
theorem CZ(g:G)(w:World):VR g w gV undef:=by simp only[gV,VR];exact⟨_,rfl,by simp[bF]⟩
theorem zY(hc:eR P call){ops:Array Oper}{i:Nat}(hi:ops[i]? =some o){g w nt t h}{a:Act}{v:AV}{h':Hp}(ga:(py P call o.op).1=.p0∨(py P call o.op).1=.p1)
 (H:HC g w h)(T:TR g w nt t a.tmps)(e:lr P call nt ops.toList o t h=.ok v h'){Q:Exit->Act->World->Prop}{rest:List Nat}
 (K: ∀ x,VR g w v x->wpOps P ops Q rest (a.put o.dst x) w):wpOps P ops Q (i::rest) a w:=by
 rw[wpOps,hi]
 simp only
 have hp:bN P o (py P call o.op).2:=by
  have:=AZ (o:=o) hc
  cases h:py P call o.op with
  |mk c f=>
   rw[h]at this ga
   cases c
   ·exact this
   ·exact this
   ·rcases ga with h|h<;>cases h
   ·rcases ga with h|h<;>cases h
 rcases vL T e with⟨hw,e⟩|⟨hw,rfl,rfl⟩
 ·rw[if_pos hw]
  obtain⟨rfl,x,hx,hv⟩:=hp g w nt t h a v h' H T e
  refine .inl ?_
  unfold Oper.wp
  rw[hx]
  exact K x hv
 ·rw[if_neg (by simp[hw])]
  exact K undef (CZ g w)
theorem LU(hc:eR P call){ops:Array Oper}{i:Nat}(hi:ops[i]? =some o){g w nt t h}{a:Act}{v:AV}{h':Hp}(ga:(py P call o.op).1=.al)
 (H:HC g w h)(T:TR g w nt t a.tmps)(e:lr P call nt ops.toList o t h=.ok v h'){Q:Exit->Act->World->Prop}{rest:List Nat}
 (K1:h'=h-> ∀ x w',(w'=w∨ ∃ ob,w'=w.alloc ob)->(∀ g' w',VR g' w' v x)->wpOps P ops Q rest (a.put o.dst x) w')
 (K2: ∀ cs C el vs x,h'=dw h cs->bF g w cs.toL vs->(∀ (j:Nat) (v:Value),vs[j]? =some v->C[j]? =some v)->
  (∀ g' w',g'.m h.next=some (w.heap.size,0)->C.size<=dS w' w.heap.size->VR g' w' v x)->wpOps P ops Q rest (a.put o.dst x) (w.alloc (.cells C el))):
 wpOps P ops Q (i::rest) a w:=by
 rw[wpOps,hi]
 simp only
 have hp:oe P o (py P call o.op).2:=by
  have:=AZ (o:=o) hc
  cases h:py P call o.op with
  |mk c f=>rw[h]at this ga;simp only at ga;subst ga;exact this
 rcases vL T e with⟨hw,e⟩|⟨hw,rfl,rfl⟩
 ·rw[if_pos hw]
  rcases hp g w nt t h a v h' H T e with⟨rfl,x,C,el,hr,hv⟩|⟨cs,C,el,vs,x,rfl,hr,eI,hC,hv⟩
  ·refine .inl ?_
   unfold Oper.wp
   rw[hr]
   exact K1 rfl x _ (.inr ⟨_,rfl⟩) hv
  ·refine .inl ?_
   unfold Oper.wp
   rw[hr]
   exact K2 cs C el vs x rfl eI hC hv
 ·rw[if_neg (by simp[hw])]
  exact K1 rfl undef _ (.inl rfl) (fun g w=>CZ g w)
omit [Io] in
theorem tX{nt:Nat}{all:List Oper}(ga:(py P call o.op).1=.p0):kQ (lr P call nt all o):=by
 have hf:kQ (py P call o.op).2:=RC ga
 unfold lr
 cases o.guard with
 |none=>exact hf
 |some p=>
  obtain⟨j,want⟩:=p
  simp only
  split
  ·split
   ·refine Hd ?_
    intro t h h0
    unfold gF
    split
    ·rename_i b _
     cases iw want b (!b)
     ·rfl
     ·exact hf t h h0
    ·rfl
    ·rfl
   ·exact cU
  ·exact cU
omit [Io] in
theorem C1{nt:Nat}{all:List Oper}(ga:(py P call o.op).1=.al):I8 (lr P call nt all o):=by
 have hf:I8 (py P call o.op).2:=LP ga
 unfold lr
 cases o.guard with
 |none=>exact hf
 |some p=>
  obtain⟨j,want⟩:=p
  simp only
  split
  ·split
   ·refine xK ?_
    intro t h v h' e h0 hn
    unfold gF at e ⊢
    split at e
    ·rename_i b hb
     cases hw:iw want b (!b)with
     |false=>rw[hw]at e;cases e;exact .inl ⟨rfl,rfl⟩
     |true=>rw[hw]at e;exact hf t h v h' e h0 hn
    ·cases e
     exact .inl ⟨rfl,rfl⟩
    ·cases e
   ·exact jo
  ·exact jo
end
end Go.Ab

noncomputable section
namespace Go.Ab
variable [Io]
inductive lT where
 |last (pre hJ:List Nat)
 |cons (pre hJ:List Nat) (q:Nat) (rest:lT)
def lT.pre:lT->List Nat
 | .last p _=>p
 | .cons p _ _ _=>p
def lT.hJ:lT->List Nat
 | .last _ a=>a
 | .cons _ a _ r=>a++r.hJ
def lT.yZ:lT->List Nat
 | .last _ _=>[]
 | .cons _ _ q r=>q::r.yZ
structure Cx where
 P:Program
 call:cV
 ops:Array Oper
 nt:Nat
 t0:Tm
 te:Tm
 nx:Nat->Nat
 bd:Nat->Nat
 g0:G
 w0:World
 h0:Hp
 hE:Hp
namespace Cx
variable (c:Cx)
def dA(i:Nat)(k:Cl):Prop:= ∃ o,c.ops[i]? =some o/\(py c.P c.call o.op).1=k
def FE(i:Nat):eH:=match c.ops[i]? with
 |some o=>lr c.P c.call c.nt c.ops.toList o
 |none=>bI
def mu(i d:Nat):Prop:= ∃ o,c.ops[i]? =some o/\o.dst=some d
def P'(i:Nat):List Nat:=match c.ops[i]? with
 |some o=>rz c.ops.toList o
 |none=>[]
def An(i j:Nat):Prop:=Fl c.ops.toList i j=true
def pD(i N:Nat):Prop:= ∀ u∈c.P' i,u<c.nt/\((∀ j,c.mu j u->c.An i j/\c.bd j<=N)∨ ∀ j,c.mu j u->c.An j i)
open Classical in
def Km(i:Nat):List Nat->Tm
 | []=>Tm.none
 |u::l=>Tm.put (Km i l) u (if ∃ j,c.mu j u/\c.An i j then Tm.at c.te u else Tm.at c.t0 u)
def rf(i:Nat):Tm:=c.Km i (c.P' i)
def Slot(i:Nat)(v:AV):Prop:= ∀ d,c.mu i d->d<c.nt/\c.te.at d=some v
def P1s(pre:List Nat)(h:Hp):Prop:= ∀ i∈pre,c.dA i .p1-> ∃ v,c.FE i (c.rf i) h=.ok v h/\c.Slot i v/\c.pD i h.next
def wq:List Nat->Hp->Hp->Prop
 | [],h,h1=>h1=h
 |i::l,h,h1=>(c.dA i .p0/\wq l h h1)∨(c.dA i .al/\c.nx i=h.next/\((c.bd i=c.nx i/\wq l h h1)∨
  ∃ v cs,c.bd i=c.nx i+1/\c.FE i (c.rf i) (fS (c.nx i))=.ok v (dw (fS (c.nx i)) cs)/\wq l (dw h cs) h1))
def zi:lT->Hp->Prop
 | .last pre hJ,h=>c.P1s pre h/\c.wq hJ h c.hE
 | .cons pre hJ q rest,h=>c.P1s pre h/\ ∃ h1,c.wq hJ h h1/\c.dA q .ch/\ ∃ v h2,c.FE q (c.rf q) h1=.ok v h2/\c.Slot q v/\c.pD q h1.next/\
   c.bd q=h2.next/\h1.next<=h2.next/\zi rest h2
def He:List Nat->lT->Prop
 |jE,.last pre _=> ∀ i,c.dA i .p1->(∃ j∈jE,c.An j i)∨i∈pre
 |jE,.cons pre hJ q rest=>(∀ i,c.dA i .p1->(∃ j∈jE,c.An j i)∨(∃ j∈q::rest.yZ,c.An i j)∨i∈pre)/\(∀ i∈hJ,c.dA i .al->c.An q i)/\
  (∀ q'∈rest.yZ,c.An q' q)/\He (q::jE) rest
structure RD:Prop where
 p0: ∀ i,c.dA i .p0-> ∃ v,(∀ h,c.FE i (c.rf i) h=.ok v h)/\c.Slot i v/\c.pD i (c.bd i)
 al: ∀ i,c.dA i .al-> ∃ v,c.Slot i v/\c.pD i (c.nx i)/\((c.FE i (c.rf i) (fS (c.nx i))=.ok v (fS (c.nx i))/\c.bd i=c.nx i)∨
  ∃ cs,c.FE i (c.rf i) (fS (c.nx i))=.ok v (dw (fS (c.nx i)) cs)/\c.bd i=c.nx i+1)
 dst: ∀ i j d,c.mu i d->c.mu j d->i=j
 top: ∀ i,i<c.ops.size->c.bd i<=c.hE.next
 same: ∀ u,u<512->(∀ j,¬ c.mu j u)->c.te.at u=c.t0.at u
 call:eR c.P c.call
 nt:c.nt<=512
omit [Io] in
theorem qJ{h1:Hp}: ∀ {l:List Nat} {h:Hp},c.wq l h h1->h.next<=h1.next
 | [],h,e=>by cases e;exact Nat.le_refl _
 |i::l,h,e=>by
  rcases e with⟨_,e⟩|⟨_,_,⟨_,e⟩|⟨v,cs,_,_,e⟩⟩
  ·exact qJ e
  ·exact qJ e
  ·have:=qJ e
   exact Nat.le_trans (Nat.le_succ _) this
omit [Io] in
theorem mJ{h1:Hp}: ∀ {l:List Nat} {h:Hp},c.wq l h h1-> ∀ i∈l,c.dA i .al->h.next<=c.nx i/\(c.bd i=c.nx i+1->c.nx i<h1.next)
 | [],h,e,i,hi,_=>by cases hi
 |j::l,h,e,i,hi,hc=>by
  rcases e with⟨hj,e⟩|⟨hj,hn,⟨hb,e⟩|⟨v,cs,hb,_,e⟩⟩
  ·rcases List.mem_cons.1 hi with rfl|hi
   ·obtain⟨o,ho,h1⟩:=hj
    obtain⟨o',my,h2⟩:=hc
    rw[ho]at my
    cases my
    rw[h1]at h2
    cases h2
   ·exact mJ e i hi hc
  ·rcases List.mem_cons.1 hi with rfl|hi
   ·exact⟨by omega,fun h=>by omega⟩
   ·exact mJ e i hi hc
  ·rcases List.mem_cons.1 hi with rfl|hi
   ·have:=qJ c e
    have:h.next+1<=h1.next:=this
    exact⟨by omega,fun _=>by omega⟩
   ·have:=mJ e i hi hc
    have h2:h.next+1<=c.nx i:=this.1
    exact⟨by omega,this.2⟩
omit [Io] in
theorem sM: ∀ {pl:lT} {h:Hp},c.zi pl h-> ∀ i∈pl.hJ,c.dA i .al->h.next<=c.nx i
 | .last pre hJ,h,⟨_,e⟩,i,hi,hc=>(c.mJ e i hi hc).1
 | .cons pre hJ q rest,h,⟨_,h1,e,_,v,h2,_,_,_,_,hle,r⟩,i,hi,hc=>by
  rcases List.mem_append.1 hi with hi|hi
  ·exact(c.mJ e i hi hc).1
  ·exact Nat.le_trans (c.qJ e) (Nat.le_trans hle (sM r i hi hc))
omit [Io] in
theorem ks{i:Nat}{k:Cl}(h:c.dA i k){k':Cl}(h':c.dA i k'):k=k':=by
 obtain⟨o,ho,h1⟩:=h
 obtain⟨o',my,h2⟩:=h'
 rw[ho]at my
 cases my
 exact h1.symm.trans h2
omit [Io] in
theorem tY{h1:Hp}: ∀ {l:List Nat} {h:Hp},c.wq l h h1-> ∀ i∈l,∀ j∈l,c.dA i .al->c.dA j .al->c.bd i=c.nx i+1->c.bd j=c.nx j+1->c.nx i=c.nx j->i=j
 | [],h,e,i,hi,_,_,_,_,_,_,_=>by cases hi
 |k::l,h,e,i,hi,j,hj,ci,cj,bi,bj,Vg=>by
  rcases e with⟨hk,e⟩|⟨hk,hn,⟨hb,e⟩|⟨v,cs,hb,_,e⟩⟩
  ·have ni:i≠k:=fun e=>by subst e;cases c.ks hk ci
   have nj:j≠k:=fun e=>by subst e;cases c.ks hk cj
   exact tY e i ((List.mem_cons.1 hi).resolve_left ni) j ((List.mem_cons.1 hj).resolve_left nj) ci cj bi bj Vg
  ·have ni:i≠k:=fun e=>by subst e;omega
   have nj:j≠k:=fun e=>by subst e;omega
   exact tY e i ((List.mem_cons.1 hi).resolve_left ni) j ((List.mem_cons.1 hj).resolve_left nj) ci cj bi bj Vg
  ·by_cases ni:i=k<;>by_cases nj:j=k
   ·exact ni.trans nj.symm
   ·have:=(c.mJ e j ((List.mem_cons.1 hj).resolve_left nj) cj).1
    have:h.next+1<=c.nx j:=this
    subst ni
    omega
   ·have:=(c.mJ e i ((List.mem_cons.1 hi).resolve_left ni) ci).1
    have:h.next+1<=c.nx i:=this
    subst nj
    omega
   ·exact tY e i ((List.mem_cons.1 hi).resolve_left ni) j ((List.mem_cons.1 hj).resolve_left nj) ci cj bi bj Vg
omit [Io] in
theorem tZ: ∀ {pl:lT} {h:Hp},c.zi pl h-> ∀ i∈pl.hJ,∀ j∈pl.hJ,c.dA i .al->c.dA j .al->c.bd i=c.nx i+1->c.bd j=c.nx j+1->c.nx i=c.nx j->i=j
 | .last pre hJ,h,⟨_,e⟩,i,hi,j,hj,ci,cj,bi,bj,Vg=>c.tY e i hi j hj ci cj bi bj Vg
 | .cons pre hJ q rest,h,⟨_,h1,e,_,v,h2,_,_,_,_,hle,r⟩,i,hi,j,hj,ci,cj,bi,bj,Vg=>by
  rcases List.mem_append.1 hi with hi|hi<;>rcases List.mem_append.1 hj with hj|hj
  ·exact c.tY e i hi j hj ci cj bi bj Vg
  ·have:=(c.mJ e i hi ci).2 bi
   have:=c.sM r j hj cj
   omega
  ·have:=(c.mJ e j hj cj).2 bj
   have:=c.sM r i hi ci
   omega
  ·exact tZ r i hi j hj ci cj bi bj Vg
def I9(g:G)(w:World)(h:Hp)(i:Nat):Prop:=
 c.bd i=c.nx i∨ ∃ v cs b C,∃ el:FT C,∃ vs,c.bd i=c.nx i+1/\c.FE i (c.rf i) (fS (c.nx i))=.ok v (dw (fS (c.nx i)) cs)/\g.m (c.nx i)=some (b,0)/\w.heap[b]? =some (.cells C el.el el.fz)/\
  ¬ g.fB b/\ ¬ jZ (g.to h.next) h b/\c.w0.heap.size<=b/\bF (g.to (c.nx i)) w cs.toL vs/\ ∀ (j:Nat) (v:Value),vs[j]? =some v->C[j]? =some v
structure St(g:G)(w:World)(h:Hp)(A D:List Nat):Prop where
 hr:HR (g.to h.next) w h
 ext:Ext c.g0 c.w0 c.h0 (g.to h.next) w h
 Fp: ∀ i∈A,i∈D->c.dA i .al->c.I9 g w h i
 I': ∀ i∈A,∀ j∈A,i∈D->j∈D->c.dA i .al->c.dA j .al->c.bd i=c.nx i+1->c.bd j=c.nx j+1-> ∀ b,g.m (c.nx i)=some (b,0)->g.m (c.nx j)=some (b,0)->i=j
omit [Io] in
theorem qK{h:Hp}{cs:Rw}{id:Nat}:(dw h cs).aL.get id=if id=h.next then some cs else h.aL.get id:=Tr.j1 _ _ _ _
omit [Io] in
theorem LV{h:Hp}{cs cs':Rw}(e:dw h cs=dw h cs'):cs=cs':=by
 have h1:(dw h cs).aL.get h.next=some cs:=by rw[qK,if_pos rfl]
 rw[e,qK,if_pos rfl]at h1
 exact(Option.some.inj h1).symm
theorem acn{g:G}{w:World}{h:Hp}(H:HR (g.to h.next) w h){b:Nat}{C:Array Value}{el:FT C}{cs:Rw}{vs:List Value}(hm:g.m h.next=some (b,0))
 (hw:w.heap[b]? =some (.cells C el.el el.fz))(hi: ¬ g.fB b)(ho: ¬ jZ (g.to h.next) h b)(hv:bF (g.to h.next) w cs.toL vs)(hC: ∀ (j:Nat) (v:Value),vs[j]? =some v->C[j]? =some v):
 HR (g.to (dw h cs).next) w (dw h cs)/\ ∀ b',jZ (g.to (dw h cs).next) (dw h cs) b'->jZ (g.to h.next) h b'∨b'=b:=by
 have hn:(dw h cs).next=h.next+1:=rfl
 have hM:=pA g w (N:=h.next) (M:=h.next+1) (by omega)
 have hle: ∀ id cs',h.aL.get id=some cs'->id<h.next:=by
  intro id cs' e
  refine Classical.byContradiction fun k=>?_
  obtain⟨b',s,_,_,_,Ki,_⟩:=H.aL id cs' e
  rw[H.fresh id (by omega)]at Ki
  cases Ki
 have wP: ∀ id,id<h.next->(g.to (h.next+1)).m id=(g.to h.next).m id:=by
  intro id k
  simp only[G.to]
  rw[if_pos (by omega),if_pos k]
 have Vh:(g.to (h.next+1)).m h.next=some (b,0):=by
  simp only[G.to]
  rw[if_pos (by omega)]
  exact hm
 rw[hn]
 refine⟨⟨?_,?_,?_,fun k i=>H.fB k i,fun p hp=>H.tb p hp⟩,?_⟩
 ·intro id jB
  have:h.next+1<=id:=jB
  simp only[G.to]
  rw[if_neg (by omega)]
 ·intro id cs' e
  rw[qK]at e
  by_cases jB:id=h.next
  ·subst jB
   rw[if_pos rfl]at e
   cases e
   exact⟨b,0,C,el,vs,Vh,hw,hi,bF.gh hM _ _ hv,by simpa using hC⟩
  ·rw[if_neg jB]at e
   obtain⟨b',s,C',el',vs',Ki,hw',u5,rr,hc'⟩:=H.aL id cs' e
   exact⟨b',s,C',el',vs',by rw[wP id (hle id cs' e)];exact Ki,hw',u5,bF.gh hM _ _ rr,hc'⟩
 ·intro id xl b1 s s' GW xn e1 e2 m1 m2
  rw[qK]at e1 e2
  by_cases h1:id=h.next<;>by_cases h2:xl=h.next
  ·exact h1.trans h2.symm
  ·subst h1
   rw[if_neg h2]at e2
   rw[Vh]at m1
   obtain⟨rfl,_⟩:=Prod.mk.inj (Option.some.inj m1)
   rw[wP xl (hle xl _ e2)]at m2
   exact absurd ⟨xl,xn,s',e2,m2⟩ ho
  ·subst h2
   rw[if_neg h1]at e1
   rw[Vh]at m2
   obtain⟨rfl,_⟩:=Prod.mk.inj (Option.some.inj m2)
   rw[wP id (hle id _ e1)]at m1
   exact absurd ⟨id,GW,s,e1,m1⟩ ho
  ·rw[if_neg h1]at e1
   rw[if_neg h2]at e2
   rw[wP id (hle id _ e1)]at m1
   rw[wP xl (hle xl _ e2)]at m2
   exact H.inj id xl b1 s s' GW xn e1 e2 m1 m2
 ·rintro b' ⟨id,cs',s,e,m⟩
  rw[qK]at e
  by_cases jB:id=h.next
  ·subst jB
   rw[Vh]at m
   obtain⟨rfl,_⟩:=Prod.mk.inj (Option.some.inj m)
   exact .inr rfl
  ·rw[if_neg jB]at e
   rw[wP id (hle id _ e)]at m
   exact .inl ⟨id,cs',s,e,m⟩
omit [Io] in
theorem Ja{g:G}{w:World}{h:Hp}{b:Nat}{cs:Rw}(E:Ext c.g0 c.w0 c.h0 (g.to h.next) w h)(hb:c.w0.heap.size<=b)
 (hO: ∀ b',jZ (g.to (dw h cs).next) (dw h cs) b'->jZ (g.to h.next) h b'∨b'=b):Ext c.g0 c.w0 c.h0 (g.to (dw h cs).next) w (dw h cs) where
 os:=E.os
 tape:=E.tape
 output:=E.output
 size:=E.size
 next:=Nat.le_trans E.next (Nat.le_succ _)
 m:=fun id x e=>(pA g w (N:=h.next) (M:=h.next+1) (by omega)).m id x (E.m id x e)
 rP:=E.rP
 rows:=E.rows
 fB:=E.fB
 Iy:=E.Iy
 n9:=fun k o=>by
  rcases hO k o with o|rfl
  ·exact E.n9 k o
  ·exact .inr hb
theorem settle{g:G}{w:World}{D A:List Nat}{h1:Hp}: ∀ (l:List Nat) (h:Hp),c.wq l h h1->(∀ i∈l,c.dA i .al->i∈D)->c.St g w h (l++A) D->
 (∀ i∈A,c.dA i .al->h1.next<=c.nx i)->c.St g w h1 A D
 | [],h,e,_,S,_=>by cases e;exact S
 |i::l,h,e,hd,S,hA=>by
  have Jb:=fun j hj=>hd j (List.mem_cons_of_mem i hj)
  have S':c.St g w h (l++A) D:=⟨S.hr,S.ext,fun j hj=>S.Fp j (List.mem_cons_of_mem _ hj),fun j hj k hk=>S.I' j (List.mem_cons_of_mem _ hj) k (List.mem_cons_of_mem _ hk)⟩
  rcases e with⟨_,e⟩|⟨hk,hn,⟨hb,e⟩|⟨v,cs,hb,hF,e⟩⟩
  ·exact settle l h e Jb S' hA
  ·exact settle l h e Jb S' hA
  ·have zZ:=hd i List.mem_cons_self hk
   rcases S.Fp i List.mem_cons_self zZ hk with hp|⟨v',cs',b,C,el,vs,_,hF',hm,hw,I4,hO,hb0,hv,hC⟩
   ·omega
   rw[hF]at hF'
   obtain⟨rfl,po⟩:=Ro.ok.inj hF'
   obtain rfl:=LV po
   rw[hn]at hm hv
   obtain⟨hr',hO'⟩:=acn S.hr hm hw I4 hO hv hC
   refine settle l (dw h cs) e Jb ⟨hr',c.Ja S.ext hb0 hO',?_,S'.I'⟩ hA
   intro j hj Fs Cj
   rcases S'.Fp j hj Fs Cj with hp|⟨v2,xn,b2,C2,WX,P7,CI,hF2,IG,K7,ah4,hO2,ah5,Va,hC2⟩
   ·exact .inl hp
   ·refine .inr ⟨v2,xn,b2,C2,WX,P7,CI,hF2,IG,K7,ah4,fun o=>?_,ah5,Va,hC2⟩
    rcases hO' _ o with o|rfl
    ·exact hO2 o
    ·have hjn:h.next+1<=c.nx j:=by
      rcases List.mem_append.1 hj with hj|hj
      ·exact(c.mJ e j hj Cj).1
      ·exact Nat.le_trans (c.qJ e) (hA j hj Cj)
     have:=S.I' i List.mem_cons_self j (List.mem_cons_of_mem _ hj) zZ Fs hk Cj hb CI b2 (by rw[hn];exact hm) IG
     subst this
     omega
end Cx
end Go.Ab

noncomputable section
namespace Go.Ab
variable [Io]
namespace Cx
variable (c:Cx)
structure Inv(g:G)(w:World)(h:Hp)(a:Act)(D jE:List Nat)(pl:lT):Prop where
 run:c.zi pl h
 stat:c.He jE pl
 closed:A3 c.ops.toList D
 yZ: ∀ i,c.dA i .ch->i∈pl.yZ∨i∈D
 Qa: ∀ i∈pl.yZ,i∉D
 vM: ∀ j∈jE,j∈D
 Vi: ∀ i,c.dA i .al->i∈pl.hJ∨i∈D
 st:c.St g w h pl.hJ D
 Vj: ∀ id x,g.m id=some x->id<h.next∨ ∃ i∈pl.hJ,i∈D/\c.dA i .al/\c.bd i=c.nx i+1/\id=c.nx i
 qL: ∀ j∈D,∀ d,c.mu j d->d<c.nt/\ ∃ v,c.te.at d=some v/\VR (g.to (max (c.bd j) h.next)) w v (a.tmps.getD d undef)
 free: ∀ u v,u<512->(∀ j∈D,¬ c.mu j u)->c.t0.at u=some v->u<c.nt/\VR (g.to h.next) w v (a.tmps.getD u undef)
 size:a.tmps.size=c.nt
 defers:a.defers=[]
variable {c}
omit [Io] in
theorem vN{i:Nat}{o:Oper}(ho:c.ops[i]? =some o):c.FE i=lr c.P c.call c.nt c.ops.toList o:=by unfold FE;rw[ho]
omit [Io] in
theorem Xc{i:Nat}{o:Oper}(ho:c.ops[i]? =some o):c.P' i=rz c.ops.toList o:=by unfold P';rw[ho]
omit [Io] in
theorem LW{i:Nat}: ∀ (l:List Nat),(∀ u∈l,u<512)-> ∀ u v,u<512->(c.Km i l).at u=some v->u∈l/\(((∃ j,c.mu j u/\c.An i j)/\c.te.at u=some v)∨((¬ ∃ j,c.mu j u/\c.An i j)/\c.t0.at u=some v))
 | [],_,u,v,hu,e=>by rw[Km,Tm.AE u hu]at e;cases e
 |x::l,hl,u,v,hu,e=>by
  rw[Km,Tm.jA _ _ _ _ (hl x List.mem_cons_self) hu]at e
  by_cases hx:u=x
  ·subst hx
   rw[if_pos rfl]at e
   refine⟨List.mem_cons_self,?_⟩
   by_cases hw: ∃ j,c.mu j u/\c.An i j
   ·rw[if_pos hw]at e;exact .inl ⟨hw,e⟩
   ·rw[if_neg hw]at e;exact .inr ⟨hw,e⟩
  ·rw[if_neg hx]at e
   obtain⟨h1,h2⟩:=LW l (fun y hy=>hl y (List.mem_cons_of_mem _ hy)) u v hu e
   exact⟨List.mem_cons_of_mem _ h1,h2⟩
theorem Inv.reads{g w h a D jE pl}(I:c.Inv g w h a D jE pl)(jw:c.nt<=512){i N M:Nat}(hr:c.pD i M)(zZ:i∉D)(hD: ∀ j,c.An i j->j∈D)(hM:M<=N)(hN:h.next<=N):
 TR (g.to N) w c.nt (c.rf i) a.tmps:=by
 have gB: ∀ u∈c.P' i,u<512:=fun u hu=>Nat.lt_of_lt_of_le (hr u hu).1 jw
 refine⟨jw,I.size,fun u v hu e=>?_⟩
 obtain⟨hm,P9⟩:=LW _ gB u v hu e
 refine⟨(hr u hm).1,?_⟩
 rcases P9 with⟨⟨j,hj,hA⟩,e⟩|⟨hno,e⟩
 ·rcases(hr u hm).2 with h1|h1
  ·obtain⟨_,hb⟩:=h1 j hj
   obtain⟨_,v',e',hv⟩:=I.qL j (hD j hA) u hj
   rw[e]at e'
   cases e'
   exact VR.gh (pA g w (by omega)) _ _ hv
  ·exact absurd (I.closed j (hD j hA) i (h1 j hj)) zZ
 ·refine VR.gh (pA g w hN) _ _ (I.free u v hu (fun j Fs hj=>?_) e).2
  rcases(hr u hm).2 with h1|h1
  ·exact hno ⟨j,hj,(h1 j hj).1⟩
  ·exact zZ (I.closed j Fs i (h1 j hj))
omit [Io] in
theorem A5{a:Act}{od:Option Nat}{x:Value}{d:Nat}(hd:d<a.tmps.size):(a.put od x).tmps.getD d undef=if od=some d then x else a.tmps.getD d undef:=by
 cases od with
 |none=>rfl
 |some e=>
  show(a.tmps.setIfInBounds e x).getD d undef=_
  rw[Array.getD_eq_getD_getElem?,Array.getD_eq_getD_getElem?]
  by_cases he:e=d
  ·subst he
   rw[Array.getElem?_setIfInBounds_self_of_lt hd,if_pos rfl];rfl
  ·rw[Array.getElem?_setIfInBounds_ne he,if_neg (fun k=>he (Option.some.inj k))]
omit [Io] in
theorem xL{a:Act}{od:Option Nat}{x:Value}:(a.put od x).tmps.size=a.tmps.size:=by
 cases od with
 |none=>rfl
 |some e=>show(a.tmps.setIfInBounds e x).size=_;simp
omit [Io] in
theorem put_defers{a:Act}{od:Option Nat}{x:Value}:(a.put od x).defers=a.defers:=by cases od<;>rfl
theorem vi{g:G}{w w':World}{g':G}{a:Act}{D:List Nat}{i:Nat}{o:Oper}{x:Value}{N N':Nat}(G0:c.RD)(ho:c.ops[i]? =some o)
 (hs:a.tmps.size=c.nt)
 (qL: ∀ j∈D,∀ d,c.mu j d->d<c.nt/\ ∃ v,c.te.at d=some v/\VR (g.to (max (c.bd j) N)) w v (a.tmps.getD d undef))
 (mono: ∀ j∈D,tH (g.to (max (c.bd j) N)) w (g'.to (max (c.bd j) N')) w')(hi:i∉D)
 (hx: ∀ d,c.mu i d->d<c.nt/\ ∃ v,c.te.at d=some v/\VR (g'.to (max (c.bd i) N')) w' v x):
 ∀ j∈i::D,∀ d,c.mu j d->d<c.nt/\ ∃ v,c.te.at d=some v/\VR (g'.to (max (c.bd j) N')) w' v ((a.put o.dst x).tmps.getD d undef):=by
 intro j hj d hd
 by_cases EK:j=i
 ·subst EK
  obtain⟨h1,v,h2,h3⟩:=hx d hd
  refine⟨h1,v,h2,?_⟩
  obtain⟨o',my,Jb⟩:=hd
  rw[ho]at my
  cases my
  rw[A5 (by omega),if_pos Jb]
  exact h3
 ·obtain⟨h1,v,h2,h3⟩:=qL j ((List.mem_cons.1 hj).resolve_left EK) d hd
  refine⟨h1,v,h2,?_⟩
  rw[A5 (by omega),if_neg (fun k=>EK (G0.dst j i d hd ⟨o,ho,k⟩))]
  exact VR.gh (mono j ((List.mem_cons.1 hj).resolve_left EK)) _ _ h3
theorem xM{g:G}{w w':World}{g':G}{a:Act}{D:List Nat}{i:Nat}{o:Oper}{x:Value}{N N':Nat}(ho:c.ops[i]? =some o)(hs:a.tmps.size=c.nt)
 (free: ∀ u v,u<512->(∀ j∈D,¬ c.mu j u)->c.t0.at u=some v->u<c.nt/\VR (g.to N) w v (a.tmps.getD u undef))(mono:tH (g.to N) w (g'.to N') w'):
 ∀ u v,u<512->(∀ j∈i::D,¬ c.mu j u)->c.t0.at u=some v->u<c.nt/\VR (g'.to N') w' v ((a.put o.dst x).tmps.getD u undef):=by
 intro u v hu hd e
 obtain⟨h1,h2⟩:=free u v hu (fun j hj=>hd j (List.mem_cons_of_mem _ hj)) e
 refine⟨h1,?_⟩
 rw[A5 (by omega),if_neg (fun k=>hd i List.mem_cons_self ⟨o,ho,k⟩)]
 exact VR.gh mono _ _ h2
theorem Inv.put{g w h a D jE pl}(G0:c.RD)(I:c.Inv g w h a D jE pl){i:Nat}{o:Oper}(ho:c.ops[i]? =some o)(hi:i∉D)(hC:A3 c.ops.toList (i::D))
 (hk:c.dA i .p0∨c.dA i .p1){v:AV}{x:Value}(hs:c.Slot i v)(hx:VR (g.to (max (c.bd i) h.next)) w v x):c.Inv g w h (a.put o.dst x) (i::D) jE pl:=by
 have Ft: ∀ j,c.dA j .al->j∈i::D->j∈D:=by
  intro j hj h
  refine(List.mem_cons.1 h).resolve_left fun e=>?_
  subst e
  rcases hk with hk|hk<;>cases c.ks hk hj
 exact
 {run:=I.run
  stat:=I.stat
  closed:=hC
  yZ:=fun j hj=>(I.yZ j hj).imp id (List.mem_cons_of_mem _)
  Qa:=fun j hj h=>by
   rcases List.mem_cons.1 h with rfl|h
   ·have:c.dA j .ch:=by
     have key: ∀ {pl:lT} {h:Hp},c.zi pl h-> ∀ j∈pl.yZ,c.dA j .ch:=by
      intro pl
      induction pl with
      |last pre hJ=>intro h r j hj;cases hj
      |cons pre hJ q rest ih=>
       intro h r j hj
       obtain⟨_,h1,_,hq,v,h2,_,_,_,_,_,r⟩:=r
       rcases List.mem_cons.1 hj with rfl|hj
       ·exact hq
       ·exact ih r j hj
     exact key I.run j hj
    rcases hk with hk|hk<;>cases c.ks hk this
   ·exact I.Qa j hj h
  vM:=fun j hj=>List.mem_cons_of_mem _ (I.vM j hj)
  Vi:=fun j hj=>(I.Vi j hj).imp id (List.mem_cons_of_mem _)
  st:=⟨I.st.hr,I.st.ext,fun j hj hD hc=>I.st.Fp j hj (Ft j hc hD) hc,fun j hj k hk jD kD jc kc=>I.st.I' j hj k hk (Ft j jc jD) (Ft k kc kD) jc kc⟩
  Vj:=fun n y e=>(I.Vj n y e).imp id fun⟨j,hj,hD,r⟩=>⟨j,hj,List.mem_cons_of_mem _ hD,r⟩
  qL:=vi G0 ho I.size I.qL (fun j _=>zX _ _) hi (fun d hd=>⟨(hs d hd).1,v,(hs d hd).2,hx⟩)
  free:=xM ho I.size I.free (zX _ _)
  size:=by rw[xL];exact I.size
  defers:=by rw[put_defers];exact I.defers}
omit [Io] in
theorem Hf: ∀ {pl:lT} {h:Hp},c.zi pl h-> ∀ j∈pl.yZ,c.dA j .ch:=by
 intro pl
 induction pl with
 |last pre hJ=>intro h r j hj;cases hj
 |cons pre hJ q rest ih=>
  intro h r j hj
  obtain⟨_,h1,_,hq,v,h2,_,_,_,_,_,r⟩:=r
  rcases List.mem_cons.1 hj with rfl|hj
  ·exact hq
  ·exact ih r j hj
omit [Io] in
theorem Xd{pl:lT}{h:Hp}(r:c.zi pl h):c.P1s pl.pre h:=by
 cases pl with
 |last pre hJ=>exact r.1
 |cons pre hJ q rest=>exact r.1
omit [Io] in
theorem RE{jE:List Nat}{pl:lT}(s:c.He jE pl): ∀ i,c.dA i .p1->(∃ j∈jE,c.An j i)∨(∃ j∈pl.yZ,c.An i j)∨i∈pl.pre:=by
 cases pl with
 |last pre hJ=>exact fun i hi=>(s i hi).imp id .inr
 |cons pre hJ q rest=>exact s.1
omit [Io] in
theorem pE{w:World}{ob:Obj}{b:Nat}:(w.alloc ob).heap[b]? =if b=w.heap.size then some ob else w.heap[b]? :=by
 show(w.heap.push _)[b]? =_
 rw[Array.getElem?_push]
omit [Io] in
theorem sN{g g':G}{w:World}{ob:Obj}(hm: ∀ id x,g.m id=some x->g'.m id=some x)(hi:g'.fB=g.fB)(hb: ∀ b,g.fB b->b<w.heap.size):tH g w g' (w.alloc ob):=
 ⟨hm,fun b i=>by rw[hi];exact i,fun b i=>by
  have:=hb b i
  rw[pE,if_neg (by omega)],fun b=>by
  unfold dS
  rw[pE]
  by_cases h:b=w.heap.size
  ·subst h;simp
  ·rw[if_neg h];exact Nat.le_refl _⟩
theorem Fu{g g':G}{w:World}{h:Hp}{ob:Obj}{i:Nat}(hm: ∀ id x,g.m id=some x->g'.m id=some x)(hi:g'.fB=g.fB)(hb: ∀ b,g.fB b->b<w.heap.size)
 (wP:g'.to h.next=g.to h.next)(p:c.I9 g w h i):c.I9 g' (w.alloc ob) h i:=by
 rcases p with p|⟨v,cs,b,C,el,vs,h1,h2,h3,h4,h5,h6,h7,h8,h9⟩
 ·exact .inl p
 ·have gB:=(Array.getElem?_eq_some_iff.1 h4).1
  refine .inr ⟨v,cs,b,C,el,vs,h1,h2,hm _ _ h3,by rw[pE,if_neg (by omega)];exact h4,by rw[hi];exact h5,by rw[wP];exact h6,h7,?_,h9⟩
  refine bF.gh ?_ _ _ h8
  refine sN ?_ (by simp only[G.to];exact hi) (by simp only[G.to];exact hb)
  intro id x e
  simp only[G.to]at e ⊢
  by_cases jB:id<c.nx i
  ·rw[if_pos jB]at e ⊢;exact hm _ _ e
  ·rw[if_neg jB]at e;cases e
end Cx
end Go.Ab
