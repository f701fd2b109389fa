import Derived.Test.YtbplobpobnagkaaGreatDoorAb10
noncomputable section
namespace Go.Ab
variable [Io]
def RA(ops:Array Oper):List Nat->List Nat->Prop
 |D,[]=> ∀ i,i<ops.size->i∈D
 |D,i::s=>i<ops.size/\i∉D/\(∀ o e,ops[i]? =some o->e∈o.after->Region.binds .any e=true->e.on∈D)/\RA ops (i::D) s
omit [Io] in
theorem filter_one{p:Nat->Bool}: ∀ (l:List Nat) (i:Nat),l.Nodup->i∈l->p i=true->(l.filter fun x=>p x&&x != i).length+1=(l.filter p).length
 | [],i,_,h,_=>by cases h
 |a::l,i,hn,h,hp=>by
  rw[List.nodup_cons]at hn
  by_cases ha:a=i
  ·subst ha
   have:(l.filter fun x=>p x&&x != a)=l.filter p:=by
    apply List.filter_congr
    intro x hx
    have:x≠a:=fun e=>hn.1 (e▸hx)
    simp[this]
   simp[List.filter_cons,hp,this]
  ·have hi:i∈l:=by
    cases h with
    |head=>exact absurd rfl ha
    |tail _ h=>exact h
   have:=filter_one l i hn.2 hi hp
   by_cases hpa:p a=true
   ·simp only[List.filter_cons,hpa,Bool.true_and,bne_iff_ne,ne_eq,ha,not_false_eq_true,decide_true,if_true,List.length_cons]
    omega
   ·simp only[List.filter_cons,hpa,Bool.false_and,Bool.false_eq_true,if_false]
    exact this
omit [Io] in
theorem least{p:Nat->Prop}: ∀ (n:Nat),p n-> ∃ m,p m/\ ∀ k,k<m-> ¬ p k:=by
 intro n
 induction n using Nat.strongRecOn with
 | _ n ih=>
  intro h
  by_cases hk: ∃ k,k<n/\p k
  ·obtain⟨k,hk,hp⟩:=hk
   exact ih k hk hp
  ·exact⟨n,h,fun k hkn hp=>hk ⟨k,hkn,hp⟩⟩
def Down(ops:Array Oper):Prop:= ∀ (i:Nat) (o:Oper) (e:Edge),ops[i]? =some o->e∈o.after->Region.binds .any e=true->e.on<i
omit [Io] in
theorem L4{ops:Array Oper}(hd:Down ops): ∀ (fuel t:Nat) (listed:Array Bool) (acc D:List Nat),listed.size=ops.size->(∀ i,i<ops.size->(listed.getD i false=true↔i∈D))->
 ((List.range ops.size).filter fun i=> !listed.getD i false).length=fuel-> ∃ s,Region.linearise.go .any ops fuel t listed acc=acc.reverse++s/\RA ops D s
 |0,t,listed,acc,D,hs,hD,hc=>by
  refine⟨[],by simp[Region.linearise.go],fun i hi=>?_⟩
  have he:((List.range ops.size).filter fun i=> !listed.getD i false)=[]:=List.eq_nil_of_length_eq_zero hc
  rw[List.filter_eq_nil_iff]at he
  have:=he i (by simpa using hi)
  exact(hD i hi).1 (by simpa using this)
 |fuel+1,t,listed,acc,D,hs,hD,hc=>by
  have hgd: ∀ i,i<ops.size->listed.getD i true=listed.getD i false:=by
   intro i hi
   rw[Array.getD_eq_getD_getElem?,Array.getD_eq_getD_getElem?,Array.getElem?_eq_getElem (by omega)]
   rfl
  obtain⟨rs,hrs⟩: ∃ rs,rs=(List.range ops.size).filter (fun i=> !listed.getD i true&&((ops[i]?).map (·.after.all fun e=> !Region.binds .any e||listed.getD e.on false)).getD false):=⟨_,rfl⟩
  have Jf: ∀ i,i∈rs↔i<ops.size/\i∉D/\ ∀ o e,ops[i]? =some o->e∈o.after->Region.binds .any e=true->e.on∈D:=by
   intro i
   rw[hrs,List.mem_filter,List.mem_range]
   constructor
   ·rintro⟨hi,h⟩
    simp only[Bool.and_eq_true,Bool.not_eq_true',hgd i hi]at h
    refine⟨hi,fun h2=>by rw[(hD i hi).2 h2]at h;exact absurd h.1 (by simp),?_⟩
    intro o e ho he hb
    rw[ho]at h
    simp only[Option.map_some,Option.getD_some,Array.all_eq_true_iff_forall_mem]at h
    have:=h.2 e he
    rw[hb]at this
    simp only[Bool.not_true,Bool.false_or]at this
    have gB:e.on<ops.size:=by
     have:=hd i o e ho he hb;omega
    exact(hD _ gB).1 this
   ·rintro⟨hi,h1,h2⟩
    refine⟨hi,?_⟩
    have ho:ops[i]? =some ops[i]:=Array.getElem?_eq_getElem hi
    have hf:listed.getD i false=false:=by
     rw[Bool.eq_false_iff]
     exact fun k=>h1 ((hD i hi).1 k)
    simp only[hgd i hi,hf,ho,Bool.not_false,Bool.true_and,Option.map_some,Option.getD_some,Array.all_eq_true_iff_forall_mem]
    intro e he
    cases hb:Region.binds .any e with
    |false=>rfl
    |true=>
     have gB:e.on<ops.size:=by have:=hd i _ e ho he hb;omega
     simp only[Bool.not_true,Bool.false_or]
     exact(hD _ gB).2 (h2 _ e ho he hb)
  have jR:rs≠[]:=by
   have:((List.range ops.size).filter fun i=> !listed.getD i false)≠[]:=by
    intro h;rw[h]at hc;cases hc
   obtain⟨x,hx⟩:=List.exists_mem_of_ne_nil _ this
   rw[List.mem_filter,List.mem_range]at hx
   obtain⟨m,⟨hm1,IZ⟩,hm3⟩:=least (p:=fun i=>i<ops.size/\i∉D) x ⟨hx.1,fun k=>by
    have:=(hD x hx.1).2 k
    rw[this]at hx;exact absurd hx.2 (by simp)⟩
   have:m∈rs:=by
    rw[Jf]
    refine⟨hm1,IZ,fun o e ho he hb=>?_⟩
    have gB:=hd m o e ho he hb
    exact Classical.byContradiction fun k=>hm3 _ gB ⟨by omega,k⟩
   intro h;rw[h]at this;cases this
  have hlen:0<rs.length:=List.length_pos_iff.2 jR
  have gB:=Nat.mod_lt t hlen
  have Fx:rs[t % rs.length]? =some rs[t % rs.length]:=List.getElem?_eq_getElem gB
  obtain⟨i,hi⟩: ∃ i,i=rs[t % rs.length]:=⟨_,rfl⟩
  have Jg:i∈rs:=by rw[hi];exact List.getElem_mem gB
  obtain⟨XC,Kz,hi3⟩:=(Jf i).1 Jg
  have hl: ∀ j,j<ops.size->(listed.setIfInBounds i true).getD j false=(listed.getD j false||j == i):=by
   intro j hj
   rw[Array.getD_eq_getD_getElem?,Array.getD_eq_getD_getElem?]
   by_cases E7:j=i
   ·subst E7
    rw[Array.getElem?_setIfInBounds_self_of_lt (by omega)]
    simp
   ·rw[Array.getElem?_setIfInBounds_ne (by omega)]
    simp[E7]
  obtain⟨s,Hk,hs2⟩:=L4 hd fuel (t / rs.length) (listed.setIfInBounds i true) (i::acc) (i::D) (by simpa using hs)
   (fun j hj=>by
    rw[hl j hj]
    simp only[Bool.or_eq_true,beq_iff_eq,List.mem_cons,hD j hj]
    exact Or.comm)
   (by
    have hnd:(List.range ops.size).Nodup:=List.nodup_range
    have hlf:listed.getD i false=false:=by rw[Bool.eq_false_iff];exact fun k=>Kz ((hD i XC).1 k)
    have h1:=filter_one (p:=fun i=> !listed.getD i false) (List.range ops.size) i hnd (by simpa using XC) (by simp only[hlf];rfl)
    have h2:((List.range ops.size).filter fun j=> !(listed.setIfInBounds i true).getD j false)=(List.range ops.size).filter fun x=>(!listed.getD x false)&&x != i:=by
     apply List.filter_congr
     intro x hx
     rw[hl x (by simpa using hx)]
     cases listed.getD x false<;>simp[bne]
    rw[h2]
    omega)
  refine⟨i::s,?_,XC,Kz,hi3,hs2⟩
  rw[Region.linearise.go]
  simp only[<-hrs,Fx,<-hi,Hk,List.reverse_cons,List.append_assoc,List.singleton_append]
omit [Io] in
theorem Bo{ops:Array Oper}(hd:Down ops)(t:Nat):RA ops [] (Region.schedule true ops t):=by
 have Hs: ∀ i,i<ops.size->(Array.replicate ops.size false).getD i false=false:=by
  intro i hi
  rw[Array.getD_eq_getD_getElem?]
  simp[hi]
 obtain⟨s,h1,h2⟩:=L4 hd ops.size t (Array.replicate ops.size false) [] [] (by simp) (fun i hi=>by rw[Hs i hi];simp) (by
  have:((List.range ops.size).filter fun i=> !(Array.replicate ops.size false).getD i false)=List.range ops.size:=by
   rw[List.filter_eq_self]
   intro i hi
   rw[Hs i (by simpa using hi)];rfl
  rw[this];simp)
 have:Region.schedule true ops t=s:=by
  simp only[Region.schedule,Bool.true_or,if_true,Region.linearise]
  rw[h1];simp
 rw[this]
 exact h2
def pH(acc:List Nat)(es:List Edge):Nat:=
 List.rec 0 (fun e _ ih=>il (Region.binds .any e) (Nat.lor (Nat.lor (Nat.pow 2 e.on) ((lr acc e.on).getD 0)) ih) ih) es
def qX(l:List Oper):List Nat->List Nat:=
 List.rec (fun acc=>acc) (fun o _ ih acc=>ih (app acc [pH acc o.after.toList])) l
omit [Io] in
theorem tf{acc:List Nat}{k:Nat}: ∀ {es:List Edge},(pH acc es).testBit k=true-> ∃ e∈es,Region.binds .any e=true/\(e.on=k∨(acc.getD e.on 0).testBit k=true)
 | [],h=>by simp[pH]at h
 |e::es,h=>by
  change (il (Region.binds .any e) (Nat.lor (Nat.lor (Nat.pow 2 e.on) ((lr acc e.on).getD 0)) (pH acc es)) (pH acc es)).testBit k=true at h
  cases hb:Region.binds .any e with
  |false=>
   rw[hb]at h
   obtain⟨e',he,h'⟩:=tf (es:=es) h
   exact⟨e',List.mem_cons_of_mem _ he,h'⟩
  |true=>
   rw[hb]at h
   change ((2 ^ e.on ||| (lr acc e.on).getD 0) ||| pH acc es).testBit k=true at h
   rw[Nat.testBit_or,Nat.testBit_or,Nat.testBit_two_pow,Bool.or_eq_true,Bool.or_eq_true,gH]at h
   rcases h with(h|h)|h
   ·exact⟨e,List.mem_cons_self,hb,.inl (by simpa using h)⟩
   ·exact⟨e,List.mem_cons_self,hb,.inr (by simpa[List.getD]using h)⟩
   ·obtain⟨e',he,h'⟩:=tf (es:=es) h
    exact⟨e',List.mem_cons_of_mem _ he,h'⟩
omit [Io] in
theorem x': ∀ (l:List Oper) (acc:List Nat),(qX l acc).length=acc.length+l.length/\(∀ k,k<acc.length->(qX l acc)[k]? =acc[k]?)/\
 ∀ i o k,l[i]? =some o->((qX l acc).getD (acc.length+i) 0).testBit k=true-> ∃ e∈o.after.toList,Region.binds .any e=true/\(e.on=k∨((qX l acc).getD e.on 0).testBit k=true)
 | [],acc=>⟨by simp[qX],fun k _=>rfl,fun i o k h=>by simp at h⟩
 |o::l,acc=>by
  have hm:qX (o::l) acc=qX l (acc++[pH acc o.after.toList]):=by
   show qX l (app acc _)=_
   rw[bp]
  obtain⟨h1,h2,h3⟩:=x' l (acc++[pH acc o.after.toList])
  rw[<-hm]at h1 h2 h3
  refine⟨by rw[h1];simp;omega,fun k hk=>?_,?_⟩
  ·rw[h2 k (by simp;omega),List.getElem?_append_left hk]
  ·intro i o' k hi hk
   cases i with
   |zero=>
    simp at hi
    subst hi
    have acZ:(qX (o::l) acc)[acc.length]? =some (pH acc o.after.toList):=by
     rw[h2 acc.length (by simp)];simp
    simp only[Nat.add_zero,List.getD,acZ,Option.getD_some]at hk
    obtain⟨e,he,hb,Qe⟩:=tf hk
    refine⟨e,he,hb,Qe.imp id fun h=>?_⟩
    by_cases gB:e.on<acc.length
    ·simp only[List.getD]at h ⊢
     rw[h2 _ (by simp;omega),List.getElem?_append_left gB];exact h
    ·simp only[List.getD,List.getElem?_eq_none (Nat.le_of_not_lt gB)]at h
     simp at h
   |succ i=>
    have:=h3 i o' k (by simpa using hi) (by
     simp only[List.length_append,List.length_cons,List.length_nil,Nat.zero_add]
     rw[show acc.length+1+i=acc.length+(i+1) by omega];exact hk)
    exact this
def FH(ops:List Oper)(i k:Nat):Bool:=((qX ops []).getD i 0).testBit k
def Bp(ops:List Oper)(D:List Nat):Prop:= ∀ j∈D,∀ k,FH ops j k=true->k∈D
omit [Io] in
theorem Da{ops:Array Oper}{D:List Nat}(hc:Bp ops.toList D){i:Nat}{o:Oper}(ho:ops[i]? =some o)
 (h: ∀ o e,ops[i]? =some o->e∈o.after->Region.binds .any e=true->e.on∈D):(∀ k,FH ops.toList i k=true->k∈D)/\Bp ops.toList (i::D):=by
 have h1: ∀ k,FH ops.toList i k=true->k∈D:=by
  intro k hk
  obtain⟨_,_,h3⟩:=x' ops.toList []
  obtain⟨e,he,hb,Qe⟩:=h3 i o k (by simpa using ho) (by simpa[FH]using hk)
  have Hr:=h o e ho (by simpa using he) hb
  rcases Qe with rfl|Qe
  ·exact Hr
  ·exact hc _ Hr k (by simpa[FH]using Qe)
 refine⟨h1,fun j hj k hk=>?_⟩
 cases hj with
 |head=>exact List.mem_cons_of_mem _ (h1 k hk)
 |tail _ hj=>exact List.mem_cons_of_mem _ (hc j hj k hk)
end Go.Ab

noncomputable section
namespace Go.Ab
variable [Io]
section
variable {P:Program}{call:cZ}
omit [Io] in
theorem um{t t':Tm}: ∀ (l:List Operand),(∀ x∈l,aQ x t=aQ x t')->vr (l.map aQ) t=vr (l.map aQ) t'
 | [],_=>rfl
 |x::l,h=>by
  show(Option.rec none (fun v=>Option.rec none (fun vs=>some (v::vs)) (vr (l.map aQ) t)) (aQ x t):Option (List AV))=
   Option.rec none (fun v=>Option.rec none (fun vs=>some (v::vs)) (vr (l.map aQ) t')) (aQ x t')
  rw[h x List.mem_cons_self,um l fun y hy=>h y (List.mem_cons_of_mem _ hy)]
omit [Io] in
theorem ya{t t':Tm}: ∀ (l:List (Nat×Operand)),(∀ x∈l.map (·.2),aQ x t=aQ x t')->nL (pF l) t=nL (pF l) t'
 | [],_=>rfl
 |p::l,h=>by
  show(match aQ p.2 t with|some v=>(match nL (pF l) t with|some vs=>some ((p.1,v)::vs)|none=>none)|none=>none)=
   (match aQ p.2 t' with|some v=>(match nL (pF l) t' with|some vs=>some ((p.1,v)::vs)|none=>none)|none=>none)
  rw[h p.2 List.mem_cons_self,ya l fun y hy=>h y (List.mem_cons_of_mem _ hy)]
omit [Io] in
theorem yb{t t':Tm}{place:Nat->Option (Nat×Nat)}: ∀ (l:List (Nat×Operand)) (ps:List (Nat×Nat×eN)),vE place l=some ps->(∀ x∈l.map (·.2),aQ x t=aQ x t')->nM ps t=nM ps t'
 | [],ps,e,_=>by cases e;rfl
 |p::l,ps,e,h=>by
  change (match place p.1 with|some (off,size)=>(match vE place l with|some r=>some ((off,size,aQ p.2)::r)|none=>none)|none=>none)=some ps at e
  split at e
  ·split at e
   ·rename_i r hr
    cases e
    show(match aQ p.2 t with|some v=>(match nM r t with|some vs=>some ((_,_,v)::vs)|none=>none)|none=>none)=
     (match aQ p.2 t' with|some v=>(match nM r t' with|some vs=>some ((_,_,v)::vs)|none=>none)|none=>none)
    rw[h p.2 List.mem_cons_self,yb l r hr fun y hy=>h y (List.mem_cons_of_mem _ hy)]
   ·cases e
  ·cases e
omit [Io] in
theorem yc{t t':Tm}{d:Nat}(x:Option Operand)(h: ∀ y∈x.toList,aQ y t=aQ y t'):nN (x.map aQ) t d=nN (x.map aQ) t' d:=by
 cases x with
 |none=>rfl
 |some y=>simp only[Option.map_some,nN,h y (by simp)]
omit [Io] in
theorem FI{t t':Tm}{n:Nat}(lo hi:Option Operand)(h1: ∀ y∈lo.toList,aQ y t=aQ y t')(h2: ∀ y∈hi.toList,aQ y t=aQ y t'):
 bounds (lo.map aQ) (hi.map aQ) t n=bounds (lo.map aQ) (hi.map aQ) t' n:=by
 unfold bounds
 rw[yc lo h1,yc hi h2]
def fy(t t':Tm)(h:Hp)(f:eG):Prop:=f t h=f t' h
omit [Io] in
theorem RB{t t':Tm}{h:Hp}:fy t t' h bP:=rfl
omit [Io] in
theorem lT{t t':Tm}{h:Hp}{c:Bool}{f:eG}(e:fy t t' h f):fy t t' h (il c f bP):=by cases c;exact RB;exact e
omit [Io] in
theorem L5{t t':Tm}{h:Hp}{c:Bool}{f f':eG}(e:fy t t' h f)(e':fy t t' h f'):fy t t' h (il c f f'):=by cases c;exact e';exact e
omit [Io] in
theorem RC{t t':Tm}{h:Hp}(o:Op)(e: ∀ x∈o.operands.toList,aQ x t=aQ x t'):fy t t' h (pG P call o).2:=by
 cases o<;>simp only[pG]
 case move x=>simp only[fy,aa,e x (by simp[Op.operands])]
 case assign x=>simp only[fy,aa,e x (by simp[Op.operands])]
 case pick c x y=>simp only[fy,aW,aa,e c (by simp[Op.operands]),e x (by simp[Op.operands]),e y (by simp[Op.operands])]
 case alloc T=>unfold LQ;split<;>rfl
 case box T x=>simp only[fy,dV,e x (by simp[Op.operands])]
 case build T ps=>
  unfold xQ
  split
  ·split
   ·split
    ·rename_i q h3
     simp only[fy,au,yb (t:=t) (t':=t') ps.toList q h3 (fun x hx=>e x (by simpa[Op.operands]using hx))]
    ·rfl
   ·rfl
  ·rfl
 case buildSlice T n ps=>
  have hp:=ya (t:=t) (t':=t') ps.toList (fun x hx=>e x (by simpa[Op.operands]using hx))
  unfold Li
  split
  ·split
   ·split
    ·refine lT ?_
     simp only[fy,bC,hp]
    ·rfl
   ·rfl
  ·rfl
 case load T x=>
  unfold C4
  split
  ·split
   ·simp only[fy,bh,e x (by simp[Op.operands])]
   ·rfl
  ·rfl
 case store T x y=>
  unfold Be
  split
  ·refine lT ?_
   simp only[fy,aF,e x (by simp[Op.operands]),e y (by simp[Op.operands])]
  ·rfl
 case nilCheck x=>simp only[fy,bt,e x (by simp[Op.operands])]
 case binOp op T x y yT=>
  cases C3 P op T with
  |none=>rfl
  |some f=>simp only[fy,ah,e x (by simp[Op.operands]),e y (by simp[Op.operands])]
 case unOp op T x=>
  cases XA op with
  |none=>rfl
  |some f=>simp only[fy,fm,e x (by simp[Op.operands])]
 case convert S D x=>
  have hx:=e x (by simp[Op.operands])
  split
  ·simp only[Bi]
   split
   ·split
    ·split
     ·simp only[fy,py,hx]
     ·rfl
    ·rfl
   ·split
    ·split
     ·refine lT ?_
      simp only[fy,sG,hx]
     ·rfl
    ·rfl
   ·rfl
  ·simp only[Ao]
   split
   ·split
    ·simp only[fy,fm,hx]
    ·rfl
   ·rfl
 case makeFunc f first caps=>
  cases f<;>try rfl
  simp only
  split
  ·simp only[fy,Qc,um (t:=t) (t':=t') caps.toList (fun x hx=>e x (by simp[Op.operands];exact .inr (by simpa using hx)))]
  ·rfl
 case makeMap T r=>cases r<;>rfl
 case makeSlice T l c=>
  have h1:=e l (by simp[Op.operands])
  have h2:=e c (by simp[Op.operands])
  unfold CU
  split
  ·split
   ·split
    ·refine lT ?_
     simp only[fy,oe,h1,h2]
    ·rfl
   ·rfl
  ·rfl
 case slice T x lo hi mx=>
  cases mx with
  |some m=>
   have hx:=e x (by simp[Op.operands])
   have hm:=e m (by simp[Op.operands])
   have hh: ∀ y∈hi.toList,aQ y t=aQ y t':=fun y hy=>e y (by simp[Op.operands];right;right;left;simpa using hy)
   simp only
   unfold uj
   split
   ·rename_i y
    have hy:=hh y (by simp)
    split
    ·split
     ·simp only[fy,xG,wO,hx,hy,hm]
     ·rfl
    ·rfl
   ·rfl
  |none=>
  have hx:=e x (by simp[Op.operands])
  have hl: ∀ y∈lo.toList,aQ y t=aQ y t':=fun y hy=>e y (by simp[Op.operands];right;left;simpa using hy)
  have hh: ∀ y∈hi.toList,aQ y t=aQ y t':=fun y hy=>e y (by simp[Op.operands];right;right;simpa using hy)
  have hb: ∀ n,bounds (lo.map aQ) (hi.map aQ) t n=bounds (lo.map aQ) (hi.map aQ) t' n:=fun n=>FI lo hi hl hh
  simp only
  unfold xW
  split
  ·simp only[fy,dk,hx,hb]
  ·split
   ·simp only[fy,dg,nO,hx,hb]
   ·rfl
  ·split
   ·refine lT ?_
    simp only[fy,fX,hx,hb]
   ·rfl
  ·rfl
 case fieldAddr T x n=>
  have hx:=e x (by simp[Op.operands])
  unfold mL
  split
  ·split
   ·split
    ·refine lT ?_
     simp only[fy,ab,hx]
    ·rfl
   ·rfl
  ·rfl
 case field T x n=>
  have hx:=e x (by simp[Op.operands])
  unfold xU
  split
  ·split
   ·split
    ·split
     ·simp only[fy,nP,hx]
     ·rfl
    ·rfl
   ·rfl
  ·rfl
 case indexAddr T x y=>
  have hx:=e x (by simp[Op.operands])
  have hy:=e y (by simp[Op.operands])
  unfold mM
  split
  ·split
   ·simp only[fy,bH,hx,hy]
   ·rfl
  ·split
   ·simp only[fy,sj,hx,hy]
   ·rfl
  ·rfl
 case index T x y=>
  have hx:=e x (by simp[Op.operands])
  have hy:=e y (by simp[Op.operands])
  unfold xV
  split
  ·split
   ·split
    ·simp only[fy,ly,hx,hy]
    ·rfl
   ·rfl
  ·simp only[fy,cF,hx,hy]
  ·rfl
 case extract x i=>simp only[fy,aO,e x (by simp[Op.operands])]
 case call c=>
  have oy: ∀ x∈c.args.toList,aQ x t=aQ x t':=fun x hx=>e x (by simp[Op.operands,Call.operands];right;simpa using hx)
  cases hb:jm P c with
  |some f=>
   simp only
   unfold jm at hb
   split at hb
   ·split at hb
    ·rename_i x T h1 h2
     cases hb
     have hx:=oy x (by simp[h1])
     unfold LO
     split
     ·simp only[fy,jZ,hx]
     ·simp only[fy,aV,wO,hx]
     ·rfl
     ·rfl
    ·cases hb;rfl
   ·split at hb
    ·rename_i x T h1 h2
     cases hb
     have hx:=oy x (by simp[h1])
     unfold LP
     split
     ·simp only[fy,tX,wO,hx]
     ·rfl
    ·cases hb;rfl
   ·split at hb
    ·rename_i x y h1
     cases hb
     simp only[fy,A1,ah,oy x (by simp[h1]),oy y (by simp[h1])]
    ·cases hb;rfl
   ·split at hb
    ·rename_i x y h1
     cases hb
     simp only[fy,A2,ah,oy x (by simp[h1]),oy y (by simp[h1])]
    ·cases hb;rfl
   ·cases hb
  |none=>
   simp only
   unfold Ho
   split
   ·split
    ·rename_i s x T T' h1 h2
     have h3:=oy s (by simp[h1])
     have h4:=oy x (by simp[h1])
     refine L5 ?_ ?_
     ·unfold xk
      split
      ·split
       ·split
        ·refine lT ?_
         simp only[fy,aK,pz,wO,h3,h4]
        ·rfl
       ·rfl
      ·rfl
     ·unfold Hl
      split
      ·unfold Hj
       split
       ·split
        ·split
         ·split
          ·refine lT ?_
           simp only[fy,tZ,h3,h4]
          ·rfl
         ·rfl
        ·rfl
       ·rfl
      ·unfold Hi
       split
       ·split
        ·split
         ·split
          ·refine lT ?_
           simp only[fy,sF,h3,h4]
          ·rfl
         ·rfl
        ·rfl
       ·rfl
    ·rfl
   ·split
    ·rename_i d s T T' h1 h2
     have h3:=oy d (by simp[h1])
     have h4:=oy s (by simp[h1])
     unfold Hn
     split
     ·split
      ·simp only[fy,kr,wO,h3,h4]
      ·rfl
     ·rfl
    ·rfl
   ·rename_i f args s7
    simp only[fy,an,um (t:=t) (t':=t') args.toList oy]
   ·rename_i f args s7 _
    have hf:=e f (by simp[Op.operands,Call.operands])
    simp only[fy,iu,hf,um (t:=t) (t':=t') args.toList oy]
   ·rfl
 all_goals rfl
def Db:Operand->List Nat
 | .tmp i=>[i]
 | _=>[]
def rU(all:List Oper)(o:Oper):List Nat:=
 app (List.rec [] (fun x _ ih=>app (Db x) ih) o.op.operands.toList) (match o.guard with
  |none=>[]
  |some (j,_)=>match lr all j with
   |some oj=>match oj.dst with
    |some d=>[d]
    |none=>[]
   |none=>[])
omit [Io] in
theorem Dc{x:Operand}{i:Nat}: ∀ {l:List Operand},x∈l->i∈Db x->i∈(List.rec [] (fun x _ ih=>app (Db x) ih) l:List Nat)
 | [],h,_=>by cases h
 |y::l,h,hi=>by
  show i∈app (Db y) _
  rw[bp]
  cases h with
  |head=>exact List.mem_append_left _ hi
  |tail _ h=>exact List.mem_append_right _ (Dc h hi)
omit [Io] in
theorem RD{nt:Nat}{all:List Oper}{o:Oper}{t t':Tm}{h:Hp}(e: ∀ u∈rU all o,t.at u=t'.at u):lh P call nt all o t h=lh P call nt all o t' h:=by
 have hx: ∀ x∈o.op.operands.toList,aQ x t=aQ x t':=by
  intro x hx
  cases x with
  |tmp i=>
   have:=e i (by unfold rU;rw[bp];exact List.mem_append_left _ (Dc hx (by simp[Db])))
   show il (Nat.blt i 512) (oT i) oX t=il (Nat.blt i 512) (oT i) oX t'
   cases Nat.blt i 512
   ·rfl
   ·exact this
  |const v=>show(match Qv v with|some a=>oC a|none=>oX) t=(match Qv v with|some a=>oC a|none=>oX) t';cases Qv v<;>rfl
  |global g=>rfl
  |func f=>rfl
 have hd:=RC (P:=P) (call:=call) (h:=h) o.op hx
 unfold lh
 cases hg:o.guard with
 |none=>exact hd
 |some p=>
  obtain⟨j,want⟩:=p
  simp only
  cases hj:lr all j with
  |none=>rfl
  |some oj=>
   simp only
   cases hdj:oj.dst with
   |none=>rfl
   |some d=>
    simp only
    cases Nat.blt d nt with
    |false=>rfl
    |true=>
     have zu:t.at d=t'.at d:=e d (by
      unfold rU
      rw[bp,hg]
      refine List.mem_append_right _ ?_
      simp[hj,hdj])
     show gF (oT d) want (pG P call o.op).2 t h=gF (oT d) want (pG P call o.op).2 t' h
     unfold gF
     unfold fy at hd
     rw[hd]
     show(match t.at d with|some (.bool b)=>_|some (.wK [])=>_| _=>_)=(match t'.at d with|some (.bool b)=>_|some (.wK [])=>_| _=>_)
     rw[zu]
end
end Go.Ab

noncomputable section
namespace Go.Ab
variable [Io]
section
variable {P:Program}{call:cZ}
def kO(f:eG):Prop:= ∀ t h h0,f t h=(match f t h0 with| .ok v _=>.ok v h| .bad=>.bad)
omit [Io] in
theorem kO.ok{f:eG}(i:kO f){t:Tm}{h h':Hp}{v:AV}(e:f t h=.ok v h'):h'=h/\ ∀ h0,f t h0=.ok v h0:=by
 refine⟨?_,fun h0=>by rw[i t h0 h,e]⟩
 have:=i t h h
 rw[e]at this
 exact(Ro.ok.inj this).2
omit [Io] in
theorem cV:kO bP:=fun _ _ _=>rfl
omit [Io] in
theorem Ht{c:Bool}{f:eG}(i:kO f):kO (il c f bP):=by cases c;exact cV;exact i
omit [Io] in
theorem qY{x:eN}:kO (aa x):=by intro t h h0;unfold aa;cases x t<;>rfl
omit [Io] in
theorem L6{c x y:eN}:kO (aW c x y):=by
 intro t h h0;unfold aW;cases c t<;>try rfl
 rename_i a;cases a<;>try rfl
 rename_i b;cases b
 ·exact qY t h h0
 ·exact qY t h h0
omit [Io] in
theorem RE{x:eN}:kO (bt x):=by intro t h h0;unfold bt;cases x t<;>try rfl
                               rename_i a;cases a<;>rfl
omit [Io] in
theorem Bq{f:AV->AV->Option AV}{x y:eN}:kO (ah f x y):=by
 intro t h h0;unfold ah;cases x t<;>try rfl
 rename_i a;cases y t<;>try rfl
 rename_i b;simp only;cases f a b<;>rfl
omit [Io] in
theorem L7{f:AV->Option AV}{x:eN}:kO (fm f x):=by
 intro t h h0;unfold fm;cases x t<;>try rfl
 rename_i a;simp only;cases f a<;>rfl
omit [Io] in
theorem XD{f:FuncId}{l:List eN}:kO (Qc f l):=by intro t h h0;unfold Qc;cases vr l t<;>rfl
omit [Io] in
theorem Jh{z:List AV}{ps:List (Nat×Nat×eN)}:kO (au z ps):=by
 intro t h h0;unfold au;cases nM ps t<;>try rfl
 rename_i vs;simp only;cases xE vs z<;>rfl
omit [Io] in
theorem zG{n:Nat}{x:eN}:kO (ab n x):=by intro t h h0;unfold ab;cases x t<;>try rfl
                                        rename_i a;cases a<;>rfl
omit [Io] in
theorem Ji{n m:Nat}{b:Bool}{x:eN}:kO (nP n m b x):=by
 intro t h h0;unfold nP;cases x t<;>try rfl
 rename_i a;cases a<;>try rfl
 rename_i cs;simp only;cases part b cs n m<;>rfl
omit [Io] in
theorem RF{n:Nat}{x y:eN}:kO (bH n x y):=by
 intro t h h0;unfold bH;cases y t<;>try rfl
 rename_i a;cases a<;>try rfl
 rename_i k i;cases i<;>try rfl
 rename_i i;simp only;cases x t<;>try rfl
 rename_i a;cases a<;>try rfl
 ·rename_i id off m sz;simp only;cases(Nat.blt i m&&Nat.beq sz n)<;>rfl
 ·rename_i m cs;simp only;cases Nat.blt i m<;>rfl
omit [Io] in
theorem RG{m n:Nat}{x y:eN}:kO (sj m n x y):=by
 intro t h h0;unfold sj;cases y t<;>try rfl
 rename_i a;cases a<;>try rfl
 rename_i k i;cases i<;>try rfl
 rename_i i;simp only;cases x t<;>try rfl
 rename_i a;cases a<;>try rfl
 ·simp only;cases Nat.blt i m<;>rfl
 ·simp only;cases Nat.blt i m<;>rfl
omit [Io] in
theorem Jj{m n:Nat}{b:Bool}{x y:eN}:kO (ly m n b x y):=by
 intro t h h0;unfold ly;cases x t<;>try rfl
 rename_i a;cases a<;>try rfl
 rename_i cs;simp only;cases y t<;>try rfl
 rename_i a;cases a<;>try rfl
 rename_i k i;cases i<;>try rfl
 rename_i i;simp only;cases Nat.blt i m<;>try rfl
 simp only[cond_true];cases part b cs (Nat.mul i n) n<;>rfl
omit [Io] in
theorem FJ{x y:eN}:kO (cF x y):=by
 intro t h h0;unfold cF;cases x t<;>try rfl
 rename_i a;cases a<;>try rfl
 rename_i v;cases v<;>try rfl
 rename_i s;simp only;cases y t<;>try rfl
 rename_i a;cases a<;>try rfl
 ·rename_i k i;cases i<;>try rfl
  rename_i i;simp only;cases lr s.data.toList i<;>rfl
 ·rename_i k sv lo hi o;simp only;cases(!(la (Int.add lo o) 0)&&la (Int.add hi o) (.ofNat s.size))<;>rfl
omit [Io] in
theorem Dd{x:eN}{i:Nat}:kO (aO x i):=by
 intro t h h0;unfold aO;cases x t<;>try rfl
 rename_i a;cases a<;>try rfl
 rename_i vs;simp only;cases lr vs i<;>rfl
omit [Io] in
theorem L9{x:eN}:kO (jZ x):=by
 intro t h h0;unfold jZ;cases x t<;>try rfl
 rename_i a;cases a<;>try rfl
 rename_i v;cases v<;>rfl
omit [Io] in
theorem RH{x:eN}:kO (aV x):=by
 intro t h h0;unfold aV;cases x t<;>try rfl
 rename_i a;cases a<;>rfl
omit [Io] in
theorem RI{x:eN}:kO (tX x):=by
 intro t h h0;unfold tX;cases x t<;>try rfl
 rename_i a;cases a<;>rfl
omit [Io] in
theorem RJ{o:Op}(hc:(pG P call o).1=.p0):kO (pG P call o).2:=by
 cases o<;>simp only[pG]at hc ⊢
 case move x=>exact qY
 case assign x=>exact qY
 case pick c x y=>exact L6
 case alloc T=>cases hc
 case box T x=>cases hc
 case build T ps=>
  unfold xQ
  split
  ·split
   ·split
    ·exact Jh
    ·exact cV
   ·exact cV
  ·exact cV
 case buildSlice T n ps=>cases hc
 case load T x=>cases hc
 case store T x y=>cases hc
 case nilCheck x=>exact RE
 case binOp op T x y yT=>
  cases C3 P op T with
  |some f=>exact Bq
  |none=>exact cV
 case unOp op T x=>
  cases XA op with
  |some f=>exact L7
  |none=>exact cV
 case convert S D x=>
  have gh:kO (Ao P S D x):=by
   unfold Ao
   split
   ·split
    ·exact L7
    ·exact cV
   ·exact cV
  split
  ·rename_i h
   rw[h]at hc
   cases hc
  ·exact gh
 case makeFunc f first caps=>
  cases f<;>try (cases hc;done)
  simp only
  cases first.toList with
  |nil=>exact XD
  |cons a l=>exact cV
 case makeSlice T l c=>cases hc
 case slice T x lo hi mx=>cases mx<;>cases hc
 case fieldAddr T x n=>
  unfold mL
  split
  ·split
   ·split
    ·exact Ht zG
    ·exact cV
   ·exact cV
  ·exact cV
 case field T x n=>
  unfold xU
  split
  ·split
   ·split
    ·split
     ·exact Ji
     ·exact cV
    ·exact cV
   ·exact cV
  ·exact cV
 case indexAddr T x y=>
  unfold mM
  split
  ·split
   ·exact RF
   ·exact cV
  ·split
   ·exact RG
   ·exact cV
  ·exact cV
 case index T x y=>
  unfold xV
  split
  ·split
   ·split
    ·exact Jj
    ·exact cV
   ·exact cV
  ·exact FJ
  ·exact cV
 case extract x i=>exact Dd
 case call c=>
  cases hb:jm P c with
  |none=>rw[hb]at hc;cases hc
  |some f=>
   simp only
   unfold jm at hb
   split at hb
   ·split at hb
    ·cases hb
     unfold LO
     split
     ·exact L9
     ·exact RH
     ·exact qY
     ·exact cV
    ·cases hb;exact cV
   ·split at hb
    ·cases hb
     unfold LP
     split
     ·exact RI
     ·exact cV
    ·cases hb;exact cV
   ·split at hb
    ·cases hb;exact Bq
    ·cases hb;exact cV
   ·split at hb
    ·cases hb;exact Bq
    ·cases hb;exact cV
   ·cases hb
 case makeMap T r=>cases r<;>cases hc
 all_goals (cases hc)
def Jk(f:eG):Prop:= ∀ t h v h',f t h=.ok v h'-> ∀ h0:Hp,h0.next=h.next->(h'=h/\f t h0=.ok v h0)∨ ∃ cs,h'=dy h cs/\f t h0=.ok v (dy h0 cs)
omit [Io] in
theorem jn:Jk bP:=by intro t h v h' e;cases e
omit [Io] in
theorem yd{c:Bool}{f:eG}(i:Jk f):Jk (il c f bP):=by cases c;exact jn;exact i
omit [Io] in
theorem L'{o:Op}(hc:(pG P call o).1=.al):Jk (pG P call o).2:=by
 cases o<;>simp only[pG]at hc ⊢
 case alloc T=>
  unfold LQ
  split
  ·intro t h v h' e h0 hn
   cases e
   exact .inr ⟨_,rfl,by unfold dJ;rw[hn]⟩
  ·exact jn
 case box T x=>
  intro t h v h' e h0 hn
  unfold dV at e ⊢
  cases hx:aQ x t with
  |none=>rw[hx]at e;cases e
  |some a=>rw[hx]at e;cases e;exact .inr ⟨_,rfl,by rw[hn]⟩
 case buildSlice T n ps=>
  unfold Li
  split
  ·split
   ·split
    ·refine yd ?_
     rename_i ie ny _ z hz0
     intro t h v h' e h0 hn
     unfold bC at e ⊢
     cases hp:nL (pF ps.toList) t with
     |none=>rw[hp]at e;cases e
     |some vs=>
      rw[hp]at e
      simp only at e ⊢
      cases hz:Nat.beq n 0 with
      |true=>
       rw[hz]at e
       cases vs with
       |nil=>cases e;exact .inl ⟨rfl,rfl⟩
       |cons _ _=>cases e
      |false=>
       rw[hz]at e
       simp only[cond_false]at e ⊢
       cases hf:rO n ie.size z vs with
       |none=>rw[hf]at e;cases e
       |some cs=>rw[hf]at e;cases e;exact .inr ⟨_,rfl,by rw[hn]⟩
    ·exact jn
   ·exact jn
  ·exact jn
 case makeSlice T l c=>
  unfold CU
  split
  ·split
   ·split
    ·refine yd ?_
     rename_i ie ny _ z hz0
     intro t h v h' e h0 hn
     unfold oe at e ⊢
     cases hl:aQ l t with
     |none=>rw[hl]at e;cases e
     |some a=>
     cases a<;>try (rw[hl]at e;cases e;done)
     rename_i k i
     cases i<;>try (rw[hl]at e;cases e;done)
     rename_i i
     rw[hl]at e
     simp only at e ⊢
     cases Q9:aQ c t with
     |none=>rw[Q9]at e;cases e
     |some a=>
     cases a<;>try (rw[Q9]at e;cases e;done)
     rename_i k2 j
     cases j<;>try (rw[Q9]at e;cases e;done)
     rename_i j
     rw[Q9]at e
     simp only at e ⊢
     cases hb:(Nat.ble i j&&Nat.ble (Nat.mul j ie.bytes) 70368744177664)with
     |false=>rw[hb]at e;cases e
     |true=>
     rw[hb]at e
     simp only[cond_true]at e ⊢
     cases hz:Nat.beq j 0 with
     |true=>rw[hz]at e;cases e;exact .inl ⟨rfl,rfl⟩
     |false=>rw[hz]at e;cases e;exact .inr ⟨_,rfl,by simp only[cond_false];rw[hn]⟩
    ·exact jn
   ·exact jn
  ·exact jn
 case binOp op T x y yT=>cases h:C3 P op T<;>rw[h]at hc<;>cases hc
 case unOp op T x=>cases h:XA op<;>rw[h]at hc<;>cases hc
 case convert S D x=>
  cases h:P.underlying D with
  |none=>rw[h]at hc;cases hc
  |some d=>cases d<;>rw[h]at hc<;>cases hc
 case makeFunc f first caps=>
  cases f<;>try (cases hc;done)
  simp only at hc
  cases h:first.toList<;>rw[h]at hc<;>cases hc
 case slice T x lo hi mx=>cases mx<;>cases hc
 case makeMap T r=>cases r<;>cases hc
 case call c=>cases h:jm P c<;>rw[h]at hc<;>cases hc
 all_goals (cases hc)
end
end Go.Ab

noncomputable section
namespace Go.Ab
variable [Io]
def G.to(g:G)(N:Nat):G:=⟨fun id=>if id<N then g.m id else none,g.fx⟩
omit [Io] in
theorem Aq(g:G)(w:World):ua g w g w:=⟨fun _ _ e=>e,fun _ i=>i,fun _ _=>rfl,fun _=>Nat.le_refl _⟩
omit [Io] in
theorem pK(g:G)(w:World){N M:Nat}(h:N<=M):ua (g.to N) w (g.to M) w:=
 ⟨(by
   intro id x e
   simp only[G.to]at e ⊢
   by_cases h1:id<N
   ·rw[if_pos h1]at e;rw[if_pos (by omega)];exact e
   ·rw[if_neg h1]at e;cases e),fun _ i=>i,fun _ _=>rfl,fun _=>Nat.le_refl _⟩
def fQ(N:Nat):Hp:=⟨N,.nil⟩
theorem Ma{g:G}{w:World}{N:Nat}(h: ∀ b,g.fx b->b<w.heap.size):HC g w (fQ N):=⟨(fun _ _ e=>by cases e),h⟩
section
variable {P:Program}{call:cZ}{o:Oper}
theorem wg{ops:Array Oper}{g w nt t h}{a:Act}{v:AV}{h':Hp}(T:TR g w nt t a.tmps)
 (e:lh P call nt ops.toList o t h=.ok v h'):(Region.wanted o (yielded ops a.tmps)=true/\(pG P call o.op).2 t h=.ok v h')∨
  (Region.wanted o (yielded ops a.tmps)=false/\v=gQ/\h'=h):=by
 unfold lh at e
 cases hg:o.guard with
 |none=>
  rw[hg]at e
  exact .inl ⟨by simp[Region.wanted,hg],e⟩
 |some p=>
  obtain⟨j,want⟩:=p
  rw[hg]at e
  simp only[gH]at e
  cases hj:ops.toList[j]? with
  |none=>simp only[hj]at e;cases e
  |some oj=>
  simp only[hj]at e
  cases hd:oj.dst with
  |none=>simp only[hd]at e;cases e
  |some d=>
  simp only[hd]at e
  cases hb:Nat.blt d nt with
  |false=>simp only[hb]at e;cases e
  |true=>
  simp only[hb]at e
  have KA:=bO.1 hb
  change gF (oT d) want (pG P call o.op).2 t h=.ok v h' at e
  have hj':ops[j]? =some oj:=by simpa using hj
  have sr:=T.2.1
  have hy: ∀ y,a.tmps.getD d undef=y->yielded ops a.tmps j=match y with| .bool b=>some b| _=>none:=by
   intro y hy
   have:a.tmps[d]? =some y:=by
    rw[Array.getD_eq_getD_getElem?]at hy
    rw[Array.getElem?_eq_getElem (by omega)]at hy ⊢
    simpa using hy
   simp[yielded,hj',hd,this]
   cases y<;>rfl
  unfold gF at e
  split at e
  ·rename_i b CW
   have hv:=(T.2.2 d _ (by have:=T.1;omega) CW).2
   simp only[VR]at hv
   have Rp:=hy _ hv
   cases Rq:(il want b (!b))with
   |true=>
    rw[Rq]at e
    have:b=want:=by cases want<;>cases b<;>simp[il]at Rq<;>rfl
    exact .inl ⟨by simp[Region.wanted,hg,Rp,this],e⟩
   |false=>
    rw[Rq]at e
    have:b≠want:=by cases want<;>cases b<;>simp[il]at Rq<;>simp
    cases e
    exact .inr ⟨by simp[Region.wanted,hg,Rp,this],rfl,rfl⟩
  ·rename_i CW
   have hv:=(T.2.2 d _ (by have:=T.1;omega) CW).2
   simp only[VR]at hv
   obtain⟨vs,hv,eH⟩:=hv
   have Rp:=hy _ hv
   cases e
   exact .inr ⟨by simp[Region.wanted,hg,Rp],rfl,rfl⟩
  ·cases e
theorem De(g:G)(w:World):VR g w gQ undef:=by simp only[gQ,VR];exact⟨_,rfl,by simp[bL]⟩
theorem Ar(hc:eR P call){ops:Array Oper}{i:Nat}(hi:ops[i]? =some o){g w nt t h}{a:Act}{v:AV}{h':Hp}(fY:(pG P call o.op).1=.p0∨(pG P call o.op).1=.p1)
 (H:HC g w h)(T:TR g w nt t a.tmps)(e:lh P call nt ops.toList o t h=.ok v h'){Q:Exit->Act->World->Prop}{rest:List Nat}
 (K: ∀ x,VR g w v x->wpOps P ops Q rest (a.put o.dst x) w):wpOps P ops Q (i::rest) a w:=by
 rw[wpOps,hi]
 simp only
 have hp:bT P o (pG P call o.op).2:=by
  have:=Bl (o:=o) hc
  cases h:pG P call o.op with
  |mk c f=>
   rw[h]at this fY
   cases c
   ·exact this
   ·exact this
   ·rcases fY with h|h<;>cases h
   ·rcases fY with h|h<;>cases h
 rcases wg T e with⟨hw,e⟩|⟨hw,rfl,rfl⟩
 ·rw[if_pos hw]
  obtain⟨rfl,x,hx,hv⟩:=hp g w nt t h a v h' H T e
  refine .inl ?_
  unfold Oper.wp
  rw[hx]
  exact K x hv
 ·rw[if_neg (by simp[hw])]
  exact K undef (De g w)
theorem Mb(hc:eR P call){ops:Array Oper}{i:Nat}(hi:ops[i]? =some o){g w nt t h}{a:Act}{v:AV}{h':Hp}(fY:(pG P call o.op).1=.al)
 (H:HC g w h)(T:TR g w nt t a.tmps)(e:lh P call nt ops.toList o t h=.ok v h'){Q:Exit->Act->World->Prop}{rest:List Nat}
 (K1:h'=h-> ∀ x w',(w'=w∨ ∃ ob,w'=w.alloc ob)->(∀ g' w',VR g' w' v x)->wpOps P ops Q rest (a.put o.dst x) w')
 (K2: ∀ cs C el vs x,h'=dy h cs->bL g w cs.toL vs->(∀ (j:Nat) (v:Value),vs[j]? =some v->C[j]? =some v)->
  (∀ g' w',g'.m h.next=some (w.heap.size,0)->C.size<=dS w' w.heap.size->VR g' w' v x)->wpOps P ops Q rest (a.put o.dst x) (w.alloc (.cells C el))):
 wpOps P ops Q (i::rest) a w:=by
 rw[wpOps,hi]
 simp only
 have hp:oi P o (pG P call o.op).2:=by
  have:=Bl (o:=o) hc
  cases h:pG P call o.op with
  |mk c f=>rw[h]at this fY;simp only at fY;subst fY;exact this
 rcases wg T e with⟨hw,e⟩|⟨hw,rfl,rfl⟩
 ·rw[if_pos hw]
  rcases hp g w nt t h a v h' H T e with⟨rfl,x,C,el,hr,hv⟩|⟨cs,C,el,vs,x,rfl,hr,eH,hC,hv⟩
  ·refine .inl ?_
   unfold Oper.wp
   rw[hr]
   exact K1 rfl x _ (.inr ⟨_,rfl⟩) hv
  ·refine .inl ?_
   unfold Oper.wp
   rw[hr]
   exact K2 cs C el vs x rfl eH hC hv
 ·rw[if_neg (by simp[hw])]
  exact K1 rfl undef _ (.inl rfl) (fun g w=>De g w)
omit [Io] in
theorem uo{nt:Nat}{all:List Oper}(fY:(pG P call o.op).1=.p0):kO (lh P call nt all o):=by
 have hf:kO (pG P call o.op).2:=RJ fY
 unfold lh
 cases o.guard with
 |none=>exact hf
 |some p=>
  obtain⟨j,want⟩:=p
  simp only
  split
  ·split
   ·refine Ht ?_
    intro t h h0
    unfold gF
    split
    ·rename_i b _
     cases il want b (!b)
     ·rfl
     ·exact hf t h h0
    ·rfl
    ·rfl
   ·exact cV
  ·exact cV
omit [Io] in
theorem Df{nt:Nat}{all:List Oper}(fY:(pG P call o.op).1=.al):Jk (lh P call nt all o):=by
 have hf:Jk (pG P call o.op).2:=L' fY
 unfold lh
 cases o.guard with
 |none=>exact hf
 |some p=>
  obtain⟨j,want⟩:=p
  simp only
  split
  ·split
   ·refine yd ?_
    intro t h v h' e h0 hn
    unfold gF at e ⊢
    split at e
    ·rename_i b hb
     cases hw:il want b (!b)with
     |false=>rw[hw]at e;cases e;exact .inl ⟨rfl,rfl⟩
     |true=>rw[hw]at e;exact hf t h v h' e h0 hn
    ·cases e
     exact .inl ⟨rfl,rfl⟩
    ·cases e
   ·exact jn
  ·exact jn
end
end Go.Ab

noncomputable section
namespace Go.Ab
variable [Io]
inductive lU where
 |last (pre g7:List Nat)
 |cons (pre g7:List Nat) (q:Nat) (rest:lU)
def lU.pre:lU->List Nat
 | .last p _=>p
 | .cons p _ _ _=>p
def lU.g7:lU->List Nat
 | .last _ a=>a
 | .cons _ a _ r=>a++r.g7
def lU.zw:lU->List Nat
 | .last _ _=>[]
 | .cons _ _ q r=>q::r.zw
structure Cx where
 P:Program
 call:cZ
 ops:Array Oper
 nt:Nat
 t0:Tm
 te:Tm
 nx:Nat->Nat
 bd:Nat->Nat
 g0:G
 w0:World
 h0:Hp
 hE:Hp
namespace Cx
variable (c:Cx)
def dD(i:Nat)(k:Cl):Prop:= ∃ o,c.ops[i]? =some o/\(pG c.P c.call o.op).1=k
def FE(i:Nat):eG:=match c.ops[i]? with
 |some o=>lh c.P c.call c.nt c.ops.toList o
 |none=>bP
def mA(i d:Nat):Prop:= ∃ o,c.ops[i]? =some o/\o.dst=some d
def Qf(i:Nat):List Nat:=match c.ops[i]? with
 |some o=>rU c.ops.toList o
 |none=>[]
def An(i j:Nat):Prop:=FH c.ops.toList i j=true
def pL(i N:Nat):Prop:= ∀ u∈c.Qf i,u<c.nt/\((∀ j,c.mA j u->c.An i j/\c.bd j<=N)∨ ∀ j,c.mA j u->c.An j i)
open Classical in
def KB(i:Nat):List Nat->Tm
 | []=>Tm.none
 |u::l=>Tm.put (KB i l) u (if ∃ j,c.mA j u/\c.An i j then Tm.at c.te u else Tm.at c.t0 u)
def rf(i:Nat):Tm:=c.KB i (c.Qf i)
def Slot(i:Nat)(v:AV):Prop:= ∀ d,c.mA i d->d<c.nt/\c.te.at d=some v
def P1s(pre:List Nat)(h:Hp):Prop:= ∀ i∈pre,c.dD i .p1-> ∃ v,c.FE i (c.rf i) h=.ok v h/\c.Slot i v/\c.pL i h.next
def wQ:List Nat->Hp->Hp->Prop
 | [],h,h1=>h1=h
 |i::l,h,h1=>(c.dD i .p0/\wQ l h h1)∨(c.dD i .al/\c.nx i=h.next/\((c.bd i=c.nx i/\wQ l h h1)∨
  ∃ v cs,c.bd i=c.nx i+1/\c.FE i (c.rf i) (fQ (c.nx i))=.ok v (dy (fQ (c.nx i)) cs)/\wQ l (dy h cs) h1))
def zH:lU->Hp->Prop
 | .last pre g7,h=>c.P1s pre h/\c.wQ g7 h c.hE
 | .cons pre g7 q rest,h=>c.P1s pre h/\ ∃ h1,c.wQ g7 h h1/\c.dD q .ch/\ ∃ v h2,c.FE q (c.rf q) h1=.ok v h2/\c.Slot q v/\c.pL q h1.next/\
   c.bd q=h2.next/\h1.next<=h2.next/\zH rest h2
def Hu:List Nat->lU->Prop
 |jI,.last pre _=> ∀ i,c.dD i .p1->(∃ j∈jI,c.An j i)∨i∈pre
 |jI,.cons pre g7 q rest=>(∀ i,c.dD i .p1->(∃ j∈jI,c.An j i)∨(∃ j∈q::rest.zw,c.An i j)∨i∈pre)/\(∀ i∈g7,c.dD i .al->c.An q i)/\
  (∀ q'∈rest.zw,c.An q' q)/\Hu (q::jI) rest
structure RK:Prop where
 p0: ∀ i,c.dD i .p0-> ∃ v,(∀ h,c.FE i (c.rf i) h=.ok v h)/\c.Slot i v/\c.pL i (c.bd i)
 al: ∀ i,c.dD i .al-> ∃ v,c.Slot i v/\c.pL i (c.nx i)/\((c.FE i (c.rf i) (fQ (c.nx i))=.ok v (fQ (c.nx i))/\c.bd i=c.nx i)∨
  ∃ cs,c.FE i (c.rf i) (fQ (c.nx i))=.ok v (dy (fQ (c.nx i)) cs)/\c.bd i=c.nx i+1)
 dst: ∀ i j d,c.mA i d->c.mA j d->i=j
 top: ∀ i,i<c.ops.size->c.bd i<=c.hE.next
 same: ∀ u,u<512->(∀ j,¬ c.mA j u)->c.te.at u=c.t0.at u
 call:eR c.P c.call
 nt:c.nt<=512
omit [Io] in
theorem qZ{h1:Hp}: ∀ {l:List Nat} {h:Hp},c.wQ l h h1->h.next<=h1.next
 | [],h,e=>by cases e;exact Nat.le_refl _
 |i::l,h,e=>by
  rcases e with⟨_,e⟩|⟨_,_,⟨_,e⟩|⟨v,cs,_,_,e⟩⟩
  ·exact qZ e
  ·exact qZ e
  ·have:=qZ e
   exact Nat.le_trans (Nat.le_succ _) this
omit [Io] in
theorem mN{h1:Hp}: ∀ {l:List Nat} {h:Hp},c.wQ l h h1-> ∀ i∈l,c.dD i .al->h.next<=c.nx i/\(c.bd i=c.nx i+1->c.nx i<h1.next)
 | [],h,e,i,hi,_=>by cases hi
 |j::l,h,e,i,hi,hc=>by
  rcases e with⟨hj,e⟩|⟨hj,hn,⟨hb,e⟩|⟨v,cs,hb,_,e⟩⟩
  ·rcases List.mem_cons.1 hi with rfl|hi
   ·obtain⟨o,ho,h1⟩:=hj
    obtain⟨o',mB,h2⟩:=hc
    rw[ho]at mB
    cases mB
    rw[h1]at h2
    cases h2
   ·exact mN e i hi hc
  ·rcases List.mem_cons.1 hi with rfl|hi
   ·exact⟨by omega,fun h=>by omega⟩
   ·exact mN e i hi hc
  ·rcases List.mem_cons.1 hi with rfl|hi
   ·have:=qZ c e
    have:h.next+1<=h1.next:=this
    exact⟨by omega,fun _=>by omega⟩
   ·have:=mN e i hi hc
    have h2:h.next+1<=c.nx i:=this.1
    exact⟨by omega,this.2⟩
omit [Io] in
theorem th: ∀ {pl:lU} {h:Hp},c.zH pl h-> ∀ i∈pl.g7,c.dD i .al->h.next<=c.nx i
 | .last pre g7,h,⟨_,e⟩,i,hi,hc=>(c.mN e i hi hc).1
 | .cons pre g7 q rest,h,⟨_,h1,e,_,v,h2,_,_,_,_,hle,r⟩,i,hi,hc=>by
  rcases List.mem_append.1 hi with hi|hi
  ·exact(c.mN e i hi hc).1
  ·exact Nat.le_trans (c.qZ e) (Nat.le_trans hle (th r i hi hc))
omit [Io] in
theorem ks{i:Nat}{k:Cl}(h:c.dD i k){k':Cl}(h':c.dD i k'):k=k':=by
 obtain⟨o,ho,h1⟩:=h
 obtain⟨o',mB,h2⟩:=h'
 rw[ho]at mB
 cases mB
 exact h1.symm.trans h2
omit [Io] in
theorem uq{h1:Hp}: ∀ {l:List Nat} {h:Hp},c.wQ l h h1-> ∀ i∈l,∀ j∈l,c.dD i .al->c.dD j .al->c.bd i=c.nx i+1->c.bd j=c.nx j+1->c.nx i=c.nx j->i=j
 | [],h,e,i,hi,_,_,_,_,_,_,_=>by cases hi
 |k::l,h,e,i,hi,j,hj,ci,cj,bi,bj,VE=>by
  rcases e with⟨hk,e⟩|⟨hk,hn,⟨hb,e⟩|⟨v,cs,hb,_,e⟩⟩
  ·have ni:i≠k:=fun e=>by subst e;cases c.ks hk ci
   have nj:j≠k:=fun e=>by subst e;cases c.ks hk cj
   exact uq e i ((List.mem_cons.1 hi).resolve_left ni) j ((List.mem_cons.1 hj).resolve_left nj) ci cj bi bj VE
  ·have ni:i≠k:=fun e=>by subst e;omega
   have nj:j≠k:=fun e=>by subst e;omega
   exact uq e i ((List.mem_cons.1 hi).resolve_left ni) j ((List.mem_cons.1 hj).resolve_left nj) ci cj bi bj VE
  ·by_cases ni:i=k<;>by_cases nj:j=k
   ·exact ni.trans nj.symm
   ·have:=(c.mN e j ((List.mem_cons.1 hj).resolve_left nj) cj).1
    have:h.next+1<=c.nx j:=this
    subst ni
    omega
   ·have:=(c.mN e i ((List.mem_cons.1 hi).resolve_left ni) ci).1
    have:h.next+1<=c.nx i:=this
    subst nj
    omega
   ·exact uq e i ((List.mem_cons.1 hi).resolve_left ni) j ((List.mem_cons.1 hj).resolve_left nj) ci cj bi bj VE
omit [Io] in
theorem ur: ∀ {pl:lU} {h:Hp},c.zH pl h-> ∀ i∈pl.g7,∀ j∈pl.g7,c.dD i .al->c.dD j .al->c.bd i=c.nx i+1->c.bd j=c.nx j+1->c.nx i=c.nx j->i=j
 | .last pre g7,h,⟨_,e⟩,i,hi,j,hj,ci,cj,bi,bj,VE=>c.uq e i hi j hj ci cj bi bj VE
 | .cons pre g7 q rest,h,⟨_,h1,e,_,v,h2,_,_,_,_,hle,r⟩,i,hi,j,hj,ci,cj,bi,bj,VE=>by
  rcases List.mem_append.1 hi with hi|hi<;>rcases List.mem_append.1 hj with hj|hj
  ·exact c.uq e i hi j hj ci cj bi bj VE
  ·have:=(c.mN e i hi ci).2 bi
   have:=c.th r j hj cj
   omega
  ·have:=(c.mN e j hj cj).2 bj
   have:=c.th r i hi ci
   omega
  ·exact ur r i hi j hj ci cj bi bj VE
def Jl(g:G)(w:World)(h:Hp)(i:Nat):Prop:=
 c.bd i=c.nx i∨ ∃ v cs b C,∃ el:FT C,∃ vs,c.bd i=c.nx i+1/\c.FE i (c.rf i) (fQ (c.nx i))=.ok v (dy (fQ (c.nx i)) cs)/\g.m (c.nx i)=some (b,0)/\w.heap[b]? =some (.cells C el.el el.fz)/\
  ¬ g.fx b/\ ¬ j1 (g.to h.next) h b/\c.w0.heap.size<=b/\bL (g.to (c.nx i)) w cs.toL vs/\ ∀ (j:Nat) (v:Value),vs[j]? =some v->C[j]? =some v
structure St(g:G)(w:World)(h:Hp)(A D:List Nat):Prop where
 hr:HR (g.to h.next) w h
 ext:Ext c.g0 c.w0 c.h0 (g.to h.next) w h
 FK: ∀ i∈A,i∈D->c.dD i .al->c.Jl g w h i
 Jm: ∀ i∈A,∀ j∈A,i∈D->j∈D->c.dD i .al->c.dD j .al->c.bd i=c.nx i+1->c.bd j=c.nx j+1-> ∀ b,g.m (c.nx i)=some (b,0)->g.m (c.nx j)=some (b,0)->i=j
omit [Io] in
theorem q5{h:Hp}{cs:Rw}{id:Nat}:(dy h cs).aP.get id=if id=h.next then some cs else h.aP.get id:=Tr.j2 _ _ _ _
omit [Io] in
theorem Mc{h:Hp}{cs cs':Rw}(e:dy h cs=dy h cs'):cs=cs':=by
 have h1:(dy h cs).aP.get h.next=some cs:=by rw[q5,if_pos rfl]
 rw[e,q5,if_pos rfl]at h1
 exact(Option.some.inj h1).symm
theorem ac0{g:G}{w:World}{h:Hp}(H:HR (g.to h.next) w h){b:Nat}{C:Array Value}{el:FT C}{cs:Rw}{vs:List Value}(hm:g.m h.next=some (b,0))
 (hw:w.heap[b]? =some (.cells C el.el el.fz))(hi: ¬ g.fx b)(ho: ¬ j1 (g.to h.next) h b)(hv:bL (g.to h.next) w cs.toL vs)(hC: ∀ (j:Nat) (v:Value),vs[j]? =some v->C[j]? =some v):
 HR (g.to (dy h cs).next) w (dy h cs)/\ ∀ b',j1 (g.to (dy h cs).next) (dy h cs) b'->j1 (g.to h.next) h b'∨b'=b:=by
 have hn:(dy h cs).next=h.next+1:=rfl
 have hM:=pK g w (N:=h.next) (M:=h.next+1) (by omega)
 have hle: ∀ id cs',h.aP.get id=some cs'->id<h.next:=by
  intro id cs' e
  refine Classical.byContradiction fun k=>?_
  obtain⟨b',s,_,_,_,Ky,_⟩:=H.aP id cs' e
  rw[H.fresh id (by omega)]at Ky
  cases Ky
 have xl: ∀ id,id<h.next->(g.to (h.next+1)).m id=(g.to h.next).m id:=by
  intro id k
  simp only[G.to]
  rw[if_pos (by omega),if_pos k]
 have VF:(g.to (h.next+1)).m h.next=some (b,0):=by
  simp only[G.to]
  rw[if_pos (by omega)]
  exact hm
 rw[hn]
 refine⟨⟨?_,?_,?_,fun k i=>H.fx k i,fun p hp=>H.tb p hp⟩,?_⟩
 ·intro id jG
  have:h.next+1<=id:=jG
  simp only[G.to]
  rw[if_neg (by omega)]
 ·intro id cs' e
  rw[q5]at e
  by_cases jG:id=h.next
  ·subst jG
   rw[if_pos rfl]at e
   cases e
   exact⟨b,0,C,el,vs,VF,hw,hi,bL.gg hM _ _ hv,by simpa using hC⟩
  ·rw[if_neg jG]at e
   obtain⟨b',s,C',el',vs',Ky,hw',vw,rQ,hc'⟩:=H.aP id cs' e
   exact⟨b',s,C',el',vs',by rw[xl id (hle id cs' e)];exact Ky,hw',vw,bL.gg hM _ _ rQ,hc'⟩
 ·intro id xH b1 s s' Hb xJ e1 e2 m1 m2
  rw[q5]at e1 e2
  by_cases h1:id=h.next<;>by_cases h2:xH=h.next
  ·exact h1.trans h2.symm
  ·subst h1
   rw[if_neg h2]at e2
   rw[VF]at m1
   obtain⟨rfl,_⟩:=Prod.mk.inj (Option.some.inj m1)
   rw[xl xH (hle xH _ e2)]at m2
   exact absurd ⟨xH,xJ,s',e2,m2⟩ ho
  ·subst h2
   rw[if_neg h1]at e1
   rw[VF]at m2
   obtain⟨rfl,_⟩:=Prod.mk.inj (Option.some.inj m2)
   rw[xl id (hle id _ e1)]at m1
   exact absurd ⟨id,Hb,s,e1,m1⟩ ho
  ·rw[if_neg h1]at e1
   rw[if_neg h2]at e2
   rw[xl id (hle id _ e1)]at m1
   rw[xl xH (hle xH _ e2)]at m2
   exact H.inj id xH b1 s s' Hb xJ e1 e2 m1 m2
 ·rintro b' ⟨id,cs',s,e,m⟩
  rw[q5]at e
  by_cases jG:id=h.next
  ·subst jG
   rw[VF]at m
   obtain⟨rfl,_⟩:=Prod.mk.inj (Option.some.inj m)
   exact .inr rfl
  ·rw[if_neg jG]at e
   rw[xl id (hle id _ e)]at m
   exact .inl ⟨id,cs',s,e,m⟩
omit [Io] in
theorem Jn{g:G}{w:World}{h:Hp}{b:Nat}{cs:Rw}(E:Ext c.g0 c.w0 c.h0 (g.to h.next) w h)(hb:c.w0.heap.size<=b)
 (hO: ∀ b',j1 (g.to (dy h cs).next) (dy h cs) b'->j1 (g.to h.next) h b'∨b'=b):Ext c.g0 c.w0 c.h0 (g.to (dy h cs).next) w (dy h cs) where
 os:=E.os
 tape:=E.tape
 output:=E.output
 size:=E.size
 next:=Nat.le_trans E.next (Nat.le_succ _)
 m:=fun id x e=>(pK g w (N:=h.next) (M:=h.next+1) (by omega)).m id x (E.m id x e)
 so:=E.so
 rows:=E.rows
 fx:=E.fx
 IM:=E.IM
 og:=fun k o=>by
  rcases hO k o with o|rfl
  ·exact E.og k o
  ·exact .inr hb
theorem settle{g:G}{w:World}{D A:List Nat}{h1:Hp}: ∀ (l:List Nat) (h:Hp),c.wQ l h h1->(∀ i∈l,c.dD i .al->i∈D)->c.St g w h (l++A) D->
 (∀ i∈A,c.dD i .al->h1.next<=c.nx i)->c.St g w h1 A D
 | [],h,e,_,S,_=>by cases e;exact S
 |i::l,h,e,hd,S,hA=>by
  have Jo:=fun j hj=>hd j (List.mem_cons_of_mem i hj)
  have S':c.St g w h (l++A) D:=⟨S.hr,S.ext,fun j hj=>S.FK j (List.mem_cons_of_mem _ hj),fun j hj k hk=>S.Jm j (List.mem_cons_of_mem _ hj) k (List.mem_cons_of_mem _ hk)⟩
  rcases e with⟨_,e⟩|⟨hk,hn,⟨hb,e⟩|⟨v,cs,hb,hF,e⟩⟩
  ·exact settle l h e Jo S' hA
  ·exact settle l h e Jo S' hA
  ·have As:=hd i List.mem_cons_self hk
   rcases S.FK i List.mem_cons_self As hk with hp|⟨v',cs',b,C,el,vs,_,hF',hm,hw,Jg,hO,hb0,hv,hC⟩
   ·omega
   rw[hF]at hF'
   obtain⟨rfl,pD⟩:=Ro.ok.inj hF'
   obtain rfl:=Mc pD
   rw[hn]at hm hv
   obtain⟨hr',hO'⟩:=ac0 S.hr hm hw Jg hO hv hC
   refine settle l (dy h cs) e Jo ⟨hr',c.Jn S.ext hb0 hO',?_,S'.Jm⟩ hA
   intro j hj FL CA
   rcases S'.FK j hj FL CA with hp|⟨v2,xJ,b2,C2,Xo,Lm,CW,hF2,IZ,Ln,aiw,hO2,aix,Vy,hC2⟩
   ·exact .inl hp
   ·refine .inr ⟨v2,xJ,b2,C2,Xo,Lm,CW,hF2,IZ,Ln,aiw,fun o=>?_,aix,Vy,hC2⟩
    rcases hO' _ o with o|rfl
    ·exact hO2 o
    ·have hjn:h.next+1<=c.nx j:=by
      rcases List.mem_append.1 hj with hj|hj
      ·exact(c.mN e j hj CA).1
      ·exact Nat.le_trans (c.qZ e) (hA j hj CA)
     have:=S.Jm i List.mem_cons_self j (List.mem_cons_of_mem _ hj) As FL hk CA hb CW b2 (by rw[hn];exact hm) IZ
     subst this
     omega
end Cx
end Go.Ab

noncomputable section
namespace Go.Ab
variable [Io]
namespace Cx
variable (c:Cx)
structure Inv(g:G)(w:World)(h:Hp)(a:Act)(D jI:List Nat)(pl:lU):Prop where
 run:c.zH pl h
 stat:c.Hu jI pl
 closed:Bp c.ops.toList D
 zw: ∀ i,c.dD i .ch->i∈pl.zw∨i∈D
 Qg: ∀ i∈pl.zw,i∉D
 wh: ∀ j∈jI,j∈D
 VG: ∀ i,c.dD i .al->i∈pl.g7∨i∈D
 st:c.St g w h pl.g7 D
 VH: ∀ id x,g.m id=some x->id<h.next∨ ∃ i∈pl.g7,i∈D/\c.dD i .al/\c.bd i=c.nx i+1/\id=c.nx i
 q7: ∀ j∈D,∀ d,c.mA j d->d<c.nt/\ ∃ v,c.te.at d=some v/\VR (g.to (max (c.bd j) h.next)) w v (a.tmps.getD d undef)
 free: ∀ u v,u<512->(∀ j∈D,¬ c.mA j u)->c.t0.at u=some v->u<c.nt/\VR (g.to h.next) w v (a.tmps.getD u undef)
 size:a.tmps.size=c.nt
 defers:a.defers=[]
variable {c}
omit [Io] in
theorem wj{i:Nat}{o:Oper}(ho:c.ops[i]? =some o):c.FE i=lh c.P c.call c.nt c.ops.toList o:=by unfold FE;rw[ho]
omit [Io] in
theorem XE{i:Nat}{o:Oper}(ho:c.ops[i]? =some o):c.Qf i=rU c.ops.toList o:=by unfold Qf;rw[ho]
omit [Io] in
theorem Md{i:Nat}: ∀ (l:List Nat),(∀ u∈l,u<512)-> ∀ u v,u<512->(c.KB i l).at u=some v->u∈l/\(((∃ j,c.mA j u/\c.An i j)/\c.te.at u=some v)∨((¬ ∃ j,c.mA j u/\c.An i j)/\c.t0.at u=some v))
 | [],_,u,v,hu,e=>by rw[KB,Tm.A4 u hu]at e;cases e
 |x::l,hl,u,v,hu,e=>by
  rw[KB,Tm.jF _ _ _ _ (hl x List.mem_cons_self) hu]at e
  by_cases hx:u=x
  ·subst hx
   rw[if_pos rfl]at e
   refine⟨List.mem_cons_self,?_⟩
   by_cases hw: ∃ j,c.mA j u/\c.An i j
   ·rw[if_pos hw]at e;exact .inl ⟨hw,e⟩
   ·rw[if_neg hw]at e;exact .inr ⟨hw,e⟩
  ·rw[if_neg hx]at e
   obtain⟨h1,h2⟩:=Md l (fun y hy=>hl y (List.mem_cons_of_mem _ hy)) u v hu e
   exact⟨List.mem_cons_of_mem _ h1,h2⟩
theorem Inv.reads{g w h a D jI pl}(I:c.Inv g w h a D jI pl)(jB:c.nt<=512){i N M:Nat}(hr:c.pL i M)(As:i∉D)(hD: ∀ j,c.An i j->j∈D)(hM:M<=N)(hN:h.next<=N):
 TR (g.to N) w c.nt (c.rf i) a.tmps:=by
 have gB: ∀ u∈c.Qf i,u<512:=fun u hu=>Nat.lt_of_lt_of_le (hr u hu).1 jB
 refine⟨jB,I.size,fun u v hu e=>?_⟩
 obtain⟨hm,Qe⟩:=Md _ gB u v hu e
 refine⟨(hr u hm).1,?_⟩
 rcases Qe with⟨⟨j,hj,hA⟩,e⟩|⟨hno,e⟩
 ·rcases(hr u hm).2 with h1|h1
  ·obtain⟨_,hb⟩:=h1 j hj
   obtain⟨_,v',e',hv⟩:=I.q7 j (hD j hA) u hj
   rw[e]at e'
   cases e'
   exact VR.gg (pK g w (by omega)) _ _ hv
  ·exact absurd (I.closed j (hD j hA) i (h1 j hj)) As
 ·refine VR.gg (pK g w hN) _ _ (I.free u v hu (fun j FL hj=>?_) e).2
  rcases(hr u hm).2 with h1|h1
  ·exact hno ⟨j,hj,(h1 j hj).1⟩
  ·exact As (I.closed j FL i (h1 j hj))
omit [Io] in
theorem Br{a:Act}{od:Option Nat}{x:Value}{d:Nat}(hd:d<a.tmps.size):(a.put od x).tmps.getD d undef=if od=some d then x else a.tmps.getD d undef:=by
 cases od with
 |none=>rfl
 |some e=>
  show(a.tmps.setIfInBounds e x).getD d undef=_
  rw[Array.getD_eq_getD_getElem?,Array.getD_eq_getD_getElem?]
  by_cases he:e=d
  ·subst he
   rw[Array.getElem?_setIfInBounds_self_of_lt hd,if_pos rfl];rfl
  ·rw[Array.getElem?_setIfInBounds_ne he,if_neg (fun k=>he (Option.some.inj k))]
omit [Io] in
theorem ye{a:Act}{od:Option Nat}{x:Value}:(a.put od x).tmps.size=a.tmps.size:=by
 cases od with
 |none=>rfl
 |some e=>show(a.tmps.setIfInBounds e x).size=_;simp
omit [Io] in
theorem put_defers{a:Act}{od:Option Nat}{x:Value}:(a.put od x).defers=a.defers:=by cases od<;>rfl
theorem vH{g:G}{w w':World}{g':G}{a:Act}{D:List Nat}{i:Nat}{o:Oper}{x:Value}{N N':Nat}(G0:c.RK)(ho:c.ops[i]? =some o)
 (hs:a.tmps.size=c.nt)
 (q7: ∀ j∈D,∀ d,c.mA j d->d<c.nt/\ ∃ v,c.te.at d=some v/\VR (g.to (max (c.bd j) N)) w v (a.tmps.getD d undef))
 (mono: ∀ j∈D,ua (g.to (max (c.bd j) N)) w (g'.to (max (c.bd j) N')) w')(hi:i∉D)
 (hx: ∀ d,c.mA i d->d<c.nt/\ ∃ v,c.te.at d=some v/\VR (g'.to (max (c.bd i) N')) w' v x):
 ∀ j∈i::D,∀ d,c.mA j d->d<c.nt/\ ∃ v,c.te.at d=some v/\VR (g'.to (max (c.bd j) N')) w' v ((a.put o.dst x).tmps.getD d undef):=by
 intro j hj d hd
 by_cases E7:j=i
 ·subst E7
  obtain⟨h1,v,h2,h3⟩:=hx d hd
  refine⟨h1,v,h2,?_⟩
  obtain⟨o',mB,Jo⟩:=hd
  rw[ho]at mB
  cases mB
  rw[Br (by omega),if_pos Jo]
  exact h3
 ·obtain⟨h1,v,h2,h3⟩:=q7 j ((List.mem_cons.1 hj).resolve_left E7) d hd
  refine⟨h1,v,h2,?_⟩
  rw[Br (by omega),if_neg (fun k=>E7 (G0.dst j i d hd ⟨o,ho,k⟩))]
  exact VR.gg (mono j ((List.mem_cons.1 hj).resolve_left E7)) _ _ h3
theorem yf{g:G}{w w':World}{g':G}{a:Act}{D:List Nat}{i:Nat}{o:Oper}{x:Value}{N N':Nat}(ho:c.ops[i]? =some o)(hs:a.tmps.size=c.nt)
 (free: ∀ u v,u<512->(∀ j∈D,¬ c.mA j u)->c.t0.at u=some v->u<c.nt/\VR (g.to N) w v (a.tmps.getD u undef))(mono:ua (g.to N) w (g'.to N') w'):
 ∀ u v,u<512->(∀ j∈i::D,¬ c.mA j u)->c.t0.at u=some v->u<c.nt/\VR (g'.to N') w' v ((a.put o.dst x).tmps.getD u undef):=by
 intro u v hu hd e
 obtain⟨h1,h2⟩:=free u v hu (fun j hj=>hd j (List.mem_cons_of_mem _ hj)) e
 refine⟨h1,?_⟩
 rw[Br (by omega),if_neg (fun k=>hd i List.mem_cons_self ⟨o,ho,k⟩)]
 exact VR.gg mono _ _ h2
theorem Inv.put{g w h a D jI pl}(G0:c.RK)(I:c.Inv g w h a D jI pl){i:Nat}{o:Oper}(ho:c.ops[i]? =some o)(hi:i∉D)(hC:Bp c.ops.toList (i::D))
 (hk:c.dD i .p0∨c.dD i .p1){v:AV}{x:Value}(hs:c.Slot i v)(hx:VR (g.to (max (c.bd i) h.next)) w v x):c.Inv g w h (a.put o.dst x) (i::D) jI pl:=by
 have FM: ∀ j,c.dD j .al->j∈i::D->j∈D:=by
  intro j hj h
  refine(List.mem_cons.1 h).resolve_left fun e=>?_
  subst e
  rcases hk with hk|hk<;>cases c.ks hk hj
 exact
 {run:=I.run
  stat:=I.stat
  closed:=hC
  zw:=fun j hj=>(I.zw j hj).imp id (List.mem_cons_of_mem _)
  Qg:=fun j hj h=>by
   rcases List.mem_cons.1 h with rfl|h
   ·have:c.dD j .ch:=by
     have key: ∀ {pl:lU} {h:Hp},c.zH pl h-> ∀ j∈pl.zw,c.dD j .ch:=by
      intro pl
      induction pl with
      |last pre g7=>intro h r j hj;cases hj
      |cons pre g7 q rest ih=>
       intro h r j hj
       obtain⟨_,h1,_,hq,v,h2,_,_,_,_,_,r⟩:=r
       rcases List.mem_cons.1 hj with rfl|hj
       ·exact hq
       ·exact ih r j hj
     exact key I.run j hj
    rcases hk with hk|hk<;>cases c.ks hk this
   ·exact I.Qg j hj h
  wh:=fun j hj=>List.mem_cons_of_mem _ (I.wh j hj)
  VG:=fun j hj=>(I.VG j hj).imp id (List.mem_cons_of_mem _)
  st:=⟨I.st.hr,I.st.ext,fun j hj hD hc=>I.st.FK j hj (FM j hc hD) hc,fun j hj k hk jD kD jc kc=>I.st.Jm j hj k hk (FM j jc jD) (FM k kc kD) jc kc⟩
  VH:=fun n y e=>(I.VH n y e).imp id fun⟨j,hj,hD,r⟩=>⟨j,hj,List.mem_cons_of_mem _ hD,r⟩
  q7:=vH G0 ho I.size I.q7 (fun j _=>Aq _ _) hi (fun d hd=>⟨(hs d hd).1,v,(hs d hd).2,hx⟩)
  free:=yf ho I.size I.free (Aq _ _)
  size:=by rw[ye];exact I.size
  defers:=by rw[put_defers];exact I.defers}
omit [Io] in
theorem Hv: ∀ {pl:lU} {h:Hp},c.zH pl h-> ∀ j∈pl.zw,c.dD j .ch:=by
 intro pl
 induction pl with
 |last pre g7=>intro h r j hj;cases hj
 |cons pre g7 q rest ih=>
  intro h r j hj
  obtain⟨_,h1,_,hq,v,h2,_,_,_,_,_,r⟩:=r
  rcases List.mem_cons.1 hj with rfl|hj
  ·exact hq
  ·exact ih r j hj
omit [Io] in
theorem XF{pl:lU}{h:Hp}(r:c.zH pl h):c.P1s pl.pre h:=by
 cases pl with
 |last pre g7=>exact r.1
 |cons pre g7 q rest=>exact r.1
omit [Io] in
theorem RL{jI:List Nat}{pl:lU}(s:c.Hu jI pl): ∀ i,c.dD i .p1->(∃ j∈jI,c.An j i)∨(∃ j∈pl.zw,c.An i j)∨i∈pl.pre:=by
 cases pl with
 |last pre g7=>exact fun i hi=>(s i hi).imp id .inr
 |cons pre g7 q rest=>exact s.1
omit [Io] in
theorem pN{w:World}{ob:Obj}{b:Nat}:(w.alloc ob).heap[b]? =if b=w.heap.size then some ob else w.heap[b]? :=by
 show(w.heap.push _)[b]? =_
 rw[Array.getElem?_push]
omit [Io] in
theorem tj{g g':G}{w:World}{ob:Obj}(hm: ∀ id x,g.m id=some x->g'.m id=some x)(hi:g'.fx=g.fx)(hb: ∀ b,g.fx b->b<w.heap.size):ua g w g' (w.alloc ob):=
 ⟨hm,fun b i=>by rw[hi];exact i,fun b i=>by
  have:=hb b i
  rw[pN,if_neg (by omega)],fun b=>by
  unfold dS
  rw[pN]
  by_cases h:b=w.heap.size
  ·subst h;simp
  ·rw[if_neg h];exact Nat.le_refl _⟩
theorem FN{g g':G}{w:World}{h:Hp}{ob:Obj}{i:Nat}(hm: ∀ id x,g.m id=some x->g'.m id=some x)(hi:g'.fx=g.fx)(hb: ∀ b,g.fx b->b<w.heap.size)
 (xl:g'.to h.next=g.to h.next)(p:c.Jl g w h i):c.Jl g' (w.alloc ob) h i:=by
 rcases p with p|⟨v,cs,b,C,el,vs,h1,h2,h3,h4,h5,h6,h7,h8,h9⟩
 ·exact .inl p
 ·have gB:=(Array.getElem?_eq_some_iff.1 h4).1
  refine .inr ⟨v,cs,b,C,el,vs,h1,h2,hm _ _ h3,by rw[pN,if_neg (by omega)];exact h4,by rw[hi];exact h5,by rw[xl];exact h6,h7,?_,h9⟩
  refine bL.gg ?_ _ _ h8
  refine tj ?_ (by simp only[G.to];exact hi) (by simp only[G.to];exact hb)
  intro id x e
  simp only[G.to]at e ⊢
  by_cases jG:id<c.nx i
  ·rw[if_pos jG]at e ⊢;exact hm _ _ e
  ·rw[if_neg jG]at e;cases e
end Cx
end Go.Ab
