import Derived.Test.YtcnkojgmochcgaaGreatDoorAb10
noncomputable section
namespace Go.Ab
variable [Io]
def W9(ops:Array Oper):List Nat->List Nat->Prop
 |D,[]=> ∀ i,i<ops.size->i∈D
 |D,i::s=>i<ops.size/\i∉D/\(∀ o e,ops[i]? =some o->e∈o.after->Region.binds .any e=true->e.on∈D)/\W9 ops (i::D) s
omit [Io] in
theorem filter_one{p:Nat->Bool}: ∀ (l:List Nat) (i:Nat),l.Nodup->i∈l->p i=true->(l.filter fun x=>p x&&x != i).length+1=(l.filter p).length
 | [],i,_,h,_=>by cases h
 |a::l,i,hn,h,hp=>by
  rw[List.nodup_cons]at hn
  by_cases ha:a=i
  ·subst ha
   have:(l.filter fun x=>p x&&x != a)=l.filter p:=by
    apply List.filter_congr
    intro x hx
    have:x≠a:=fun e=>hn.1 (e▸hx)
    simp[this]
   simp[List.filter_cons,hp,this]
  ·have hi:i∈l:=by
    cases h with
    |head=>exact absurd rfl ha
    |tail _ h=>exact h
   have:=filter_one l i hn.2 hi hp
   by_cases hpa:p a=true
   ·simp only[List.filter_cons,hpa,Bool.true_and,bne_iff_ne,ne_eq,ha,not_false_eq_true,decide_true,if_true,List.length_cons]
    omega
   ·simp only[List.filter_cons,hpa,Bool.false_and,Bool.false_eq_true,if_false]
    exact this
omit [Io] in
theorem least{p:Nat->Prop}: ∀ (n:Nat),p n-> ∃ m,p m/\ ∀ k,k<m-> ¬ p k:=by
 intro n
 induction n using Nat.strongRecOn with
 | _ n ih=>
  intro h
  by_cases hk: ∃ k,k<n/\p k
  ·obtain⟨k,hk,hp⟩:=hk
   exact ih k hk hp
  ·exact⟨n,h,fun k hkn hp=>hk ⟨k,hkn,hp⟩⟩
def Down(ops:Array Oper):Prop:= ∀ (i:Nat) (o:Oper) (e:Edge),ops[i]? =some o->e∈o.after->Region.binds .any e=true->e.on<i
omit [Io] in
theorem Rz{ops:Array Oper}(hd:Down ops): ∀ (fuel t:Nat) (listed:Array Bool) (acc D:List Nat),listed.size=ops.size->(∀ i,i<ops.size->(listed.getD i false=true↔i∈D))->
 ((List.range ops.size).filter fun i=> !listed.getD i false).length=fuel-> ∃ s,Region.linearise.go .any ops fuel t listed acc=acc.reverse++s/\W9 ops D s
 |0,t,listed,acc,D,hs,hD,hc=>by
  refine⟨[],by simp[Region.linearise.go],fun i hi=>?_⟩
  have he:((List.range ops.size).filter fun i=> !listed.getD i false)=[]:=List.eq_nil_of_length_eq_zero hc
  rw[List.filter_eq_nil_iff]at he
  have:=he i (by simpa using hi)
  exact(hD i hi).1 (by simpa using this)
 |fuel+1,t,listed,acc,D,hs,hD,hc=>by
  have hgd: ∀ i,i<ops.size->listed.getD i true=listed.getD i false:=by
   intro i hi
   rw[Array.getD_eq_getD_getElem?,Array.getD_eq_getD_getElem?,Array.getElem?_eq_getElem (by omega)]
   rfl
  obtain⟨rs,hrs⟩: ∃ rs,rs=(List.range ops.size).filter (fun i=> !listed.getD i true&&((ops[i]?).map (·.after.all fun e=> !Region.binds .any e||listed.getD e.on false)).getD false):=⟨_,rfl⟩
  have aho: ∀ i,i∈rs↔i<ops.size/\i∉D/\ ∀ o e,ops[i]? =some o->e∈o.after->Region.binds .any e=true->e.on∈D:=by
   intro i
   rw[hrs,List.mem_filter,List.mem_range]
   constructor
   ·rintro⟨hi,h⟩
    simp only[Bool.and_eq_true,Bool.not_eq_true',hgd i hi]at h
    refine⟨hi,fun h2=>by rw[(hD i hi).2 h2]at h;exact absurd h.1 (by simp),?_⟩
    intro o e ho he hb
    rw[ho]at h
    simp only[Option.map_some,Option.getD_some,Array.all_eq_true_iff_forall_mem]at h
    have:=h.2 e he
    rw[hb]at this
    simp only[Bool.not_true,Bool.false_or]at this
    have o5:e.on<ops.size:=by
     have:=hd i o e ho he hb;omega
    exact(hD _ o5).1 this
   ·rintro⟨hi,h1,h2⟩
    refine⟨hi,?_⟩
    have ho:ops[i]? =some ops[i]:=Array.getElem?_eq_getElem hi
    have hf:listed.getD i false=false:=by
     rw[Bool.eq_false_iff]
     exact fun k=>h1 ((hD i hi).1 k)
    simp only[hgd i hi,hf,ho,Bool.not_false,Bool.true_and,Option.map_some,Option.getD_some,Array.all_eq_true_iff_forall_mem]
    intro e he
    cases hb:Region.binds .any e with
    |false=>rfl
    |true=>
     have o5:e.on<ops.size:=by have:=hd i _ e ho he hb;omega
     simp only[Bool.not_true,Bool.false_or]
     exact(hD _ o5).2 (h2 _ e ho he hb)
  have vi:rs≠[]:=by
   have:((List.range ops.size).filter fun i=> !listed.getD i false)≠[]:=by
    intro h;rw[h]at hc;cases hc
   obtain⟨x,hx⟩:=List.exists_mem_of_ne_nil _ this
   rw[List.mem_filter,List.mem_range]at hx
   obtain⟨m,⟨hm1,OA⟩,hm3⟩:=least (p:=fun i=>i<ops.size/\i∉D) x ⟨hx.1,fun k=>by
    have:=(hD x hx.1).2 k
    rw[this]at hx;exact absurd hx.2 (by simp)⟩
   have:m∈rs:=by
    rw[aho]
    refine⟨hm1,OA,fun o e ho he hb=>?_⟩
    have o5:=hd m o e ho he hb
    exact Classical.byContradiction fun k=>hm3 _ o5 ⟨by omega,k⟩
   intro h;rw[h]at this;cases this
  have hlen:0<rs.length:=List.length_pos_iff.2 vi
  have o5:=Nat.mod_lt t hlen
  have WG:rs[t % rs.length]? =some rs[t % rs.length]:=List.getElem?_eq_getElem o5
  obtain⟨i,hi⟩: ∃ i,i=rs[t % rs.length]:=⟨_,rfl⟩
  have him:i∈rs:=by rw[hi];exact List.getElem_mem o5
  obtain⟨hi1,QE,hi3⟩:=(aho i).1 him
  have hl: ∀ j,j<ops.size->(listed.setIfInBounds i true).getD j false=(listed.getD j false||j == i):=by
   intro j hj
   rw[Array.getD_eq_getD_getElem?,Array.getD_eq_getD_getElem?]
   by_cases Kf:j=i
   ·subst Kf
    rw[Array.getElem?_setIfInBounds_self_of_lt (by omega)]
    simp
   ·rw[Array.getElem?_setIfInBounds_ne (by omega)]
    simp[Kf]
  obtain⟨s,Ke,hs2⟩:=Rz hd fuel (t / rs.length) (listed.setIfInBounds i true) (i::acc) (i::D) (by simpa using hs)
   (fun j hj=>by
    rw[hl j hj]
    simp only[Bool.or_eq_true,beq_iff_eq,List.mem_cons,hD j hj]
    exact Or.comm)
   (by
    have hnd:(List.range ops.size).Nodup:=List.nodup_range
    have hlf:listed.getD i false=false:=by rw[Bool.eq_false_iff];exact fun k=>QE ((hD i hi1).1 k)
    have h1:=filter_one (p:=fun i=> !listed.getD i false) (List.range ops.size) i hnd (by simpa using hi1) (by simp only[hlf];rfl)
    have h2:((List.range ops.size).filter fun j=> !(listed.setIfInBounds i true).getD j false)=(List.range ops.size).filter fun x=>(!listed.getD x false)&&x != i:=by
     apply List.filter_congr
     intro x hx
     rw[hl x (by simpa using hx)]
     cases listed.getD x false<;>simp[bne]
    rw[h2]
    omega)
  refine⟨i::s,?_,hi1,QE,hi3,hs2⟩
  rw[Region.linearise.go]
  simp only[<-hrs,WG,<-hi,Ke,List.reverse_cons,List.append_assoc,List.singleton_append]
omit [Io] in
theorem Gi{ops:Array Oper}(hd:Down ops)(t:Nat):W9 ops [] (Region.schedule true ops t):=by
 have Mw: ∀ i,i<ops.size->(Array.replicate ops.size false).getD i false=false:=by
  intro i hi
  rw[Array.getD_eq_getD_getElem?]
  simp[hi]
 obtain⟨s,h1,h2⟩:=Rz hd ops.size t (Array.replicate ops.size false) [] [] (by simp) (fun i hi=>by rw[Mw i hi];simp) (by
  have:((List.range ops.size).filter fun i=> !(Array.replicate ops.size false).getD i false)=List.range ops.size:=by
   rw[List.filter_eq_self]
   intro i hi
   rw[Mw i (by simpa using hi)];rfl
  rw[this];simp)
 have:Region.schedule true ops t=s:=by
  simp only[Region.schedule,Bool.true_or,if_true,Region.linearise]
  rw[h1];simp
 rw[this]
 exact h2
def vu(acc:List Nat)(es:List Edge):Nat:=
 List.rec 0 (fun e _ ih=>pZ (Region.binds .any e) (Nat.lor (Nat.lor (Nat.pow 2 e.on) ((sI acc e.on).getD 0)) ih) ih) es
def wA(l:List Oper):List Nat->List Nat:=
 List.rec (fun acc=>acc) (fun o _ ih acc=>ih (app acc [vu acc o.after.toList])) l
omit [Io] in
theorem yj{acc:List Nat}{k:Nat}: ∀ {es:List Edge},(vu acc es).testBit k=true-> ∃ e∈es,Region.binds .any e=true/\(e.on=k∨(acc.getD e.on 0).testBit k=true)
 | [],h=>by simp[vu]at h
 |e::es,h=>by
  change (pZ (Region.binds .any e) (Nat.lor (Nat.lor (Nat.pow 2 e.on) ((sI acc e.on).getD 0)) (vu acc es)) (vu acc es)).testBit k=true at h
  cases hb:Region.binds .any e with
  |false=>
   rw[hb]at h
   obtain⟨e',he,h'⟩:=yj (es:=es) h
   exact⟨e',List.mem_cons_of_mem _ he,h'⟩
  |true=>
   rw[hb]at h
   change ((2 ^ e.on ||| (sI acc e.on).getD 0) ||| vu acc es).testBit k=true at h
   rw[Nat.testBit_or,Nat.testBit_or,Nat.testBit_two_pow,Bool.or_eq_true,Bool.or_eq_true,pI]at h
   rcases h with(h|h)|h
   ·exact⟨e,List.mem_cons_self,hb,.inl (by simpa using h)⟩
   ·exact⟨e,List.mem_cons_self,hb,.inr (by simpa[List.getD]using h)⟩
   ·obtain⟨e',he,h'⟩:=yj (es:=es) h
    exact⟨e',List.mem_cons_of_mem _ he,h'⟩
omit [Io] in
theorem CS: ∀ (l:List Oper) (acc:List Nat),(wA l acc).length=acc.length+l.length/\(∀ k,k<acc.length->(wA l acc)[k]? =acc[k]?)/\
 ∀ i o k,l[i]? =some o->((wA l acc).getD (acc.length+i) 0).testBit k=true-> ∃ e∈o.after.toList,Region.binds .any e=true/\(e.on=k∨((wA l acc).getD e.on 0).testBit k=true)
 | [],acc=>⟨by simp[wA],fun k _=>rfl,fun i o k h=>by simp at h⟩
 |o::l,acc=>by
  have hm:wA (o::l) acc=wA l (acc++[vu acc o.after.toList]):=by
   show wA l (app acc _)=_
   rw[nD]
  obtain⟨h1,h2,h3⟩:=CS l (acc++[vu acc o.after.toList])
  rw[<-hm]at h1 h2 h3
  refine⟨by rw[h1];simp;omega,fun k hk=>?_,?_⟩
  ·rw[h2 k (by simp;omega),List.getElem?_append_left hk]
  ·intro i o' k hi hk
   cases i with
   |zero=>
    simp at hi
    subst hi
    have ahq:(wA (o::l) acc)[acc.length]? =some (vu acc o.after.toList):=by
     rw[h2 acc.length (by simp)];simp
    simp only[Nat.add_zero,List.getD,ahq,Option.getD_some]at hk
    obtain⟨e,he,hb,VO⟩:=yj hk
    refine⟨e,he,hb,VO.imp id fun h=>?_⟩
    by_cases o5:e.on<acc.length
    ·simp only[List.getD]at h ⊢
     rw[h2 _ (by simp;omega),List.getElem?_append_left o5];exact h
    ·simp only[List.getD,List.getElem?_eq_none (Nat.le_of_not_lt o5)]at h
     simp at h
   |succ i=>
    have:=h3 i o' k (by simpa using hi) (by
     simp only[List.length_append,List.length_cons,List.length_nil,Nat.zero_add]
     rw[show acc.length+1+i=acc.length+(i+1) by omega];exact hk)
    exact this
def KP(ops:List Oper)(i k:Nat):Bool:=((wA ops []).getD i 0).testBit k
def Gj(ops:List Oper)(D:List Nat):Prop:= ∀ j∈D,∀ k,KP ops j k=true->k∈D
omit [Io] in
theorem It{ops:Array Oper}{D:List Nat}(hc:Gj ops.toList D){i:Nat}{o:Oper}(ho:ops[i]? =some o)
 (h: ∀ o e,ops[i]? =some o->e∈o.after->Region.binds .any e=true->e.on∈D):(∀ k,KP ops.toList i k=true->k∈D)/\Gj ops.toList (i::D):=by
 have h1: ∀ k,KP ops.toList i k=true->k∈D:=by
  intro k hk
  obtain⟨_,_,h3⟩:=CS ops.toList []
  obtain⟨e,he,hb,VO⟩:=h3 i o k (by simpa using ho) (by simpa[KP]using hk)
  have Gh:=h o e ho (by simpa using he) hb
  rcases VO with rfl|VO
  ·exact Gh
  ·exact hc _ Gh k (by simpa[KP]using VO)
 refine⟨h1,fun j hj k hk=>?_⟩
 cases hj with
 |head=>exact List.mem_cons_of_mem _ (h1 k hk)
 |tail _ hj=>exact List.mem_cons_of_mem _ (hc j hj k hk)
end Go.Ab

noncomputable section
namespace Go.Ab
variable [Io]
section
variable {P:Program}{call:nv}
omit [Io] in
theorem zh{t t':Tm}: ∀ (l:List Operand),(∀ x∈l,cx x t=cx x t')->Ar (l.map cx) t=Ar (l.map cx) t'
 | [],_=>rfl
 |x::l,h=>by
  show(Option.rec none (fun v=>Option.rec none (fun vs=>some (v::vs)) (Ar (l.map cx) t)) (cx x t):Option (List AV))=
   Option.rec none (fun v=>Option.rec none (fun vs=>some (v::vs)) (Ar (l.map cx) t')) (cx x t')
  rw[h x List.mem_cons_self,zh l fun y hy=>h y (List.mem_cons_of_mem _ hy)]
omit [Io] in
theorem CT{t t':Tm}: ∀ (l:List (Nat×Operand)),(∀ x∈l.map (·.2),cx x t=cx x t')->uy (vr l) t=uy (vr l) t'
 | [],_=>rfl
 |p::l,h=>by
  show(match cx p.2 t with|some v=>(match uy (vr l) t with|some vs=>some ((p.1,v)::vs)|none=>none)|none=>none)=
   (match cx p.2 t' with|some v=>(match uy (vr l) t' with|some vs=>some ((p.1,v)::vs)|none=>none)|none=>none)
  rw[h p.2 List.mem_cons_self,CT l fun y hy=>h y (List.mem_cons_of_mem _ hy)]
omit [Io] in
theorem CU{t t':Tm}{place:Nat->Option (Nat×Nat)}: ∀ (l:List (Nat×Operand)) (ps:List (Nat×Nat×oI)),Az place l=some ps->(∀ x∈l.map (·.2),cx x t=cx x t')->uz ps t=uz ps t'
 | [],ps,e,_=>by cases e;rfl
 |p::l,ps,e,h=>by
  change (match place p.1 with|some (off,size)=>(match Az place l with|some r=>some ((off,size,cx p.2)::r)|none=>none)|none=>none)=some ps at e
  split at e
  ·split at e
   ·rename_i r hr
    cases e
    show(match cx p.2 t with|some v=>(match uz r t with|some vs=>some ((_,_,v)::vs)|none=>none)|none=>none)=
     (match cx p.2 t' with|some v=>(match uz r t' with|some vs=>some ((_,_,v)::vs)|none=>none)|none=>none)
    rw[h p.2 List.mem_cons_self,CU l r hr fun y hy=>h y (List.mem_cons_of_mem _ hy)]
   ·cases e
  ·cases e
omit [Io] in
theorem CV{t t':Tm}{d:Nat}(x:Option Operand)(h: ∀ y∈x.toList,cx y t=cx y t'):uB (x.map cx) t d=uB (x.map cx) t' d:=by
 cases x with
 |none=>rfl
 |some y=>simp only[Option.map_some,uB,h y (by simp)]
omit [Io] in
theorem KQ{t t':Tm}{n:Nat}(lo hi:Option Operand)(h1: ∀ y∈lo.toList,cx y t=cx y t')(h2: ∀ y∈hi.toList,cx y t=cx y t'):
 bounds (lo.map cx) (hi.map cx) t n=bounds (lo.map cx) (hi.map cx) t' n:=by
 unfold bounds
 rw[CV lo h1,CV hi h2]
def oY(t t':Tm)(h:Hp)(f:oH):Prop:=f t h=f t' h
omit [Io] in
theorem Xa{t t':Tm}{h:Hp}:oY t t' h cY:=rfl
omit [Io] in
theorem s8{t t':Tm}{h:Hp}{c:Bool}{f:oH}(e:oY t t' h f):oY t t' h (pZ c f cY):=by cases c;exact Xa;exact e
omit [Io] in
theorem RA{t t':Tm}{h:Hp}{c:Bool}{f f':oH}(e:oY t t' h f)(e':oY t t' h f'):oY t t' h (pZ c f f'):=by cases c;exact e';exact e
omit [Io] in
theorem Xb{t t':Tm}{h:Hp}(o:Op)(e: ∀ x∈o.operands.toList,cx x t=cx x t'):oY t t' h (vt P call o).2:=by
 cases o<;>simp only[vt]
 case move x=>simp only[oY,qA,e x (by simp[Op.operands])]
 case assign x=>simp only[oY,qA,e x (by simp[Op.operands])]
 case pick c x y=>simp only[oY,vN,qA,e c (by simp[Op.operands]),e x (by simp[Op.operands]),e y (by simp[Op.operands])]
 case alloc T=>unfold Rh;split<;>rfl
 case box T x=>simp only[oY,DX,e x (by simp[Op.operands])]
 case build T ps=>
  unfold CJ
  split
  ·split
   ·split
    ·rename_i q h3
     simp only[oY,uA,CU (t:=t) (t':=t') ps.toList q h3 (fun x hx=>e x (by simpa[Op.operands]using hx))]
    ·rfl
   ·rfl
  ·rfl
 case buildSlice T n ps=>
  have hp:=CT (t:=t) (t':=t') ps.toList (fun x hx=>e x (by simpa[Op.operands]using hx))
  unfold QK
  split
  ·split
   ·split
    ·refine s8 ?_
     simp only[oY,Cu,hp]
    ·rfl
   ·rfl
  ·rfl
 case load T x=>
  unfold Ij
  split
  ·split
   ·simp only[oY,r8,e x (by simp[Op.operands])]
   ·rfl
  ·rfl
 case store T x y=>
  unfold F'
  split
  ·refine s8 ?_
   simp only[oY,tE,e x (by simp[Op.operands]),e y (by simp[Op.operands])]
  ·rfl
 case nilCheck x=>simp only[oY,Cv,e x (by simp[Op.operands])]
 case binOp op T x y yT=>
  cases Ii P op T with
  |none=>rfl
  |some f=>simp only[oY,wa,e x (by simp[Op.operands]),e y (by simp[Op.operands])]
 case unOp op T x=>
  cases cUn op with
  |none=>rfl
  |some f=>simp only[oY,HQ,e x (by simp[Op.operands])]
 case convert S D x=>
  have hx:=e x (by simp[Op.operands])
  split
  ·simp only[Gc]
   split
   ·split
    ·split
     ·simp only[oY,vm,hx]
     ·rfl
    ·rfl
   ·split
    ·split
     ·refine s8 ?_
      simp only[oY,xQ,hx]
     ·rfl
    ·rfl
   ·rfl
  ·simp only[EN]
   split
   ·split
    ·simp only[oY,HQ,hx]
    ·rfl
   ·rfl
 case makeFunc f first caps=>
  cases f<;>try rfl
  simp only
  split
  ·simp only[oY,Oj,zh (t:=t) (t':=t') caps.toList (fun x hx=>e x (by simp[Op.operands];exact .inr (by simpa using hx)))]
  ·rfl
 case makeMap T r=>cases r<;>rfl
 case makeSlice T l c=>
  have h1:=e l (by simp[Op.operands])
  have h2:=e c (by simp[Op.operands])
  unfold H9
  split
  ·split
   ·split
    ·refine s8 ?_
     simp only[oY,uj,h1,h2]
    ·rfl
   ·rfl
  ·rfl
 case slice T x lo hi mx=>
  cases mx with
  |some m=>
   have hx:=e x (by simp[Op.operands])
   have hm:=e m (by simp[Op.operands])
   have hh: ∀ y∈hi.toList,cx y t=cx y t':=fun y hy=>e y (by simp[Op.operands];right;right;left;simpa using hy)
   simp only
   unfold zf
   split
   ·rename_i y
    have hy:=hh y (by simp)
    split
    ·split
     ·simp only[oY,CA,wO,hx,hy,hm]
     ·rfl
    ·rfl
   ·rfl
  |none=>
  have hx:=e x (by simp[Op.operands])
  have hl: ∀ y∈lo.toList,cx y t=cx y t':=fun y hy=>e y (by simp[Op.operands];right;left;simpa using hy)
  have hh: ∀ y∈hi.toList,cx y t=cx y t':=fun y hy=>e y (by simp[Op.operands];right;right;simpa using hy)
  have hb: ∀ n,bounds (lo.map cx) (hi.map cx) t n=bounds (lo.map cx) (hi.map cx) t' n:=fun n=>KQ lo hi hl hh
  simp only
  unfold CO
  split
  ·simp only[oY,rb,hx,hb]
  ·split
   ·simp only[oY,o6,uC,hx,hb]
   ·rfl
  ·split
   ·refine s8 ?_
    simp only[oY,qj,hx,hb]
   ·rfl
  ·rfl
 case fieldAddr T x n=>
  have hx:=e x (by simp[Op.operands])
  unfold tK
  split
  ·split
   ·split
    ·refine s8 ?_
     simp only[oY,nW,hx]
    ·rfl
   ·rfl
  ·rfl
 case field T x n=>
  have hx:=e x (by simp[Op.operands])
  unfold CM
  split
  ·split
   ·split
    ·split
     ·simp only[oY,uD,hx]
     ·rfl
    ·rfl
   ·rfl
  ·rfl
 case indexAddr T x y=>
  have hx:=e x (by simp[Op.operands])
  have hy:=e y (by simp[Op.operands])
  unfold tL
  split
  ·split
   ·simp only[oY,yS,hx,hy]
   ·rfl
  ·split
   ·simp only[oY,Bt,hx,hy]
   ·rfl
  ·rfl
 case index T x y=>
  have hx:=e x (by simp[Op.operands])
  have hy:=e y (by simp[Op.operands])
  unfold CN
  split
  ·split
   ·split
    ·simp only[oY,sJ,hx,hy]
    ·rfl
   ·rfl
  ·simp only[oY,rh,hx,hy]
  ·rfl
 case extract x i=>simp only[oY,qa,e x (by simp[Op.operands])]
 case call c=>
  have uX: ∀ x∈c.args.toList,cx x t=cx x t':=fun x hx=>e x (by simp[Op.operands,Call.operands];right;simpa using hx)
  cases hb:qB P c with
  |some f=>
   simp only
   unfold qB at hb
   split at hb
   ·split at hb
    ·rename_i x T h1 h2
     cases hb
     have hx:=uX x (by simp[h1])
     unfold Rf
     split
     ·simp only[oY,vP,hx]
     ·simp only[oY,Cz,wO,hx]
     ·rfl
     ·rfl
    ·cases hb;rfl
   ·split at hb
    ·rename_i x T h1 h2
     cases hb
     have hx:=uX x (by simp[h1])
     unfold Rg
     split
     ·simp only[oY,Cy,wO,hx]
     ·rfl
    ·cases hb;rfl
   ·split at hb
    ·rename_i x y h1
     cases hb
     simp only[oY,DY,wa,uX x (by simp[h1]),uX y (by simp[h1])]
    ·cases hb;rfl
   ·split at hb
    ·rename_i x y h1
     cases hb
     simp only[oY,DZ,wa,uX x (by simp[h1]),uX y (by simp[h1])]
    ·cases hb;rfl
   ·cases hb
  |none=>
   simp only
   unfold Mu
   split
   ·split
    ·rename_i s x T T' h1 h2
     have h3:=uX s (by simp[h1])
     have h4:=uX x (by simp[h1])
     refine RA ?_ ?_
     ·unfold B2
      split
      ·split
       ·split
        ·refine s8 ?_
         simp only[oY,o7,vn,wO,h3,h4]
        ·rfl
       ·rfl
      ·rfl
     ·unfold Mn
      split
      ·unfold Mm
       split
       ·split
        ·split
         ·split
          ·refine s8 ?_
           simp only[oY,yV,h3,h4]
          ·rfl
         ·rfl
        ·rfl
       ·rfl
      ·unfold Mk
       split
       ·split
        ·split
         ·split
          ·refine s8 ?_
           simp only[oY,uk,h3,h4]
          ·rfl
         ·rfl
        ·rfl
       ·rfl
    ·rfl
   ·split
    ·rename_i d s T T' h1 h2
     have h3:=uX d (by simp[h1])
     have h4:=uX s (by simp[h1])
     unfold Mt
     split
     ·split
      ·simp only[oY,sW,wO,h3,h4]
      ·rfl
     ·rfl
    ·rfl
   ·rename_i f args yh
    simp only[oY,A7,zh (t:=t) (t':=t') args.toList uX]
   ·rename_i f args yh _
    have hf:=e f (by simp[Op.operands,Call.operands])
    simp only[oY,wj,hf,zh (t:=t) (t':=t') args.toList uX]
   ·rfl
 all_goals rfl
def Iu:Operand->List Nat
 | .tmp i=>[i]
 | _=>[]
def xn(all:List Oper)(o:Oper):List Nat:=
 app (List.rec [] (fun x _ ih=>app (Iu x) ih) o.op.operands.toList) (match o.guard with
  |none=>[]
  |some (j,_)=>match sI all j with
   |some oj=>match oj.dst with
    |some d=>[d]
    |none=>[]
   |none=>[])
omit [Io] in
theorem Iv{x:Operand}{i:Nat}: ∀ {l:List Operand},x∈l->i∈Iu x->i∈(List.rec [] (fun x _ ih=>app (Iu x) ih) l:List Nat)
 | [],h,_=>by cases h
 |y::l,h,hi=>by
  show i∈app (Iu y) _
  rw[nD]
  cases h with
  |head=>exact List.mem_append_left _ hi
  |tail _ h=>exact List.mem_append_right _ (Iv h hi)
omit [Io] in
theorem Xc{nt:Nat}{all:List Oper}{o:Oper}{t t':Tm}{h:Hp}(e: ∀ u∈xn all o,t.at u=t'.at u):sE P call nt all o t h=sE P call nt all o t' h:=by
 have hx: ∀ x∈o.op.operands.toList,cx x t=cx x t':=by
  intro x hx
  cases x with
  |tmp i=>
   have:=e i (by unfold xn;rw[nD];exact List.mem_append_left _ (Iv hx (by simp[Iu])))
   show pZ (Nat.blt i 512) (oT i) oX t=pZ (Nat.blt i 512) (oT i) oX t'
   cases Nat.blt i 512
   ·rfl
   ·exact this
  |const v=>show(match Ks v with|some a=>oC a|none=>oX) t=(match Ks v with|some a=>oC a|none=>oX) t';cases Ks v<;>rfl
  |global g=>rfl
  |func f=>rfl
 have hd:=Xb (P:=P) (call:=call) (h:=h) o.op hx
 unfold sE
 cases hg:o.guard with
 |none=>exact hd
 |some p=>
  obtain⟨j,want⟩:=p
  simp only
  cases hj:sI all j with
  |none=>rfl
  |some oj=>
   simp only
   cases hdj:oj.dst with
   |none=>rfl
   |some d=>
    simp only
    cases Nat.blt d nt with
    |false=>rfl
    |true=>
     have Mh:t.at d=t'.at d:=e d (by
      unfold xn
      rw[nD,hg]
      refine List.mem_append_right _ ?_
      simp[hj,hdj])
     show gF (oT d) want (vt P call o.op).2 t h=gF (oT d) want (vt P call o.op).2 t' h
     unfold gF
     unfold oY at hd
     rw[hd]
     show(match t.at d with|some (.bool b)=>_|some (.xJ [])=>_| _=>_)=(match t'.at d with|some (.bool b)=>_|some (.xJ [])=>_| _=>_)
     rw[Mh]
end
end Go.Ab

noncomputable section
namespace Go.Ab
variable [Io]
section
variable {P:Program}{call:nv}
def r9(f:oH):Prop:= ∀ t h h0,f t h=(match f t h0 with| .ok v _=>.ok v h| .bad=>.bad)
omit [Io] in
theorem r9.ok{f:oH}(i:r9 f){t:Tm}{h h':Hp}{v:AV}(e:f t h=.ok v h'):h'=h/\ ∀ h0,f t h0=.ok v h0:=by
 refine⟨?_,fun h0=>by rw[i t h0 h,e]⟩
 have:=i t h h
 rw[e]at this
 exact(Ro.ok.inj this).2
omit [Io] in
theorem nC:r9 cY:=fun _ _ _=>rfl
omit [Io] in
theorem Mx{c:Bool}{f:oH}(i:r9 f):r9 (pZ c f cY):=by cases c;exact nC;exact i
omit [Io] in
theorem wC{x:oI}:r9 (qA x):=by intro t h h0;unfold qA;cases x t<;>rfl
omit [Io] in
theorem RB{c x y:oI}:r9 (vN c x y):=by
 intro t h h0;unfold vN;cases c t<;>try rfl
 rename_i a;cases a<;>try rfl
 rename_i b;cases b
 ·exact wC t h h0
 ·exact wC t h h0
omit [Io] in
theorem Xd{x:oI}:r9 (Cv x):=by intro t h h0;unfold Cv;cases x t<;>try rfl
                               rename_i a;cases a<;>rfl
omit [Io] in
theorem Gk{f:AV->AV->Option AV}{x y:oI}:r9 (wa f x y):=by
 intro t h h0;unfold wa;cases x t<;>try rfl
 rename_i a;cases y t<;>try rfl
 rename_i b;simp only;cases f a b<;>rfl
omit [Io] in
theorem RC{f:AV->Option AV}{x:oI}:r9 (HQ f x):=by
 intro t h h0;unfold HQ;cases x t<;>try rfl
 rename_i a;simp only;cases f a<;>rfl
omit [Io] in
theorem acX{f:FuncId}{l:List oI}:r9 (Oj f l):=by intro t h h0;unfold Oj;cases Ar l t<;>rfl
omit [Io] in
theorem OR{z:List AV}{ps:List (Nat×Nat×oI)}:r9 (uA z ps):=by
 intro t h h0;unfold uA;cases uz ps t<;>try rfl
 rename_i vs;simp only;cases Cs vs z<;>rfl
omit [Io] in
theorem D7{n:Nat}{x:oI}:r9 (nW n x):=by intro t h h0;unfold nW;cases x t<;>try rfl
                                        rename_i a;cases a<;>rfl
omit [Io] in
theorem OS{n m:Nat}{b:Bool}{x:oI}:r9 (uD n m b x):=by
 intro t h h0;unfold uD;cases x t<;>try rfl
 rename_i a;cases a<;>try rfl
 rename_i cs;simp only;cases part b cs n m<;>rfl
omit [Io] in
theorem Xe{n:Nat}{x y:oI}:r9 (yS n x y):=by
 intro t h h0;unfold yS;cases y t<;>try rfl
 rename_i a;cases a<;>try rfl
 rename_i k i;cases i<;>try rfl
 rename_i i;simp only;cases x t<;>try rfl
 rename_i a;cases a<;>try rfl
 ·rename_i id off m sz;simp only;cases(Nat.blt i m&&Nat.beq sz n)<;>rfl
 ·rename_i m cs;simp only;cases Nat.blt i m<;>rfl
omit [Io] in
theorem Xf{m n:Nat}{x y:oI}:r9 (Bt m n x y):=by
 intro t h h0;unfold Bt;cases y t<;>try rfl
 rename_i a;cases a<;>try rfl
 rename_i k i;cases i<;>try rfl
 rename_i i;simp only;cases x t<;>try rfl
 rename_i a;cases a<;>try rfl
 ·simp only;cases Nat.blt i m<;>rfl
 ·simp only;cases Nat.blt i m<;>rfl
omit [Io] in
theorem OT{m n:Nat}{b:Bool}{x y:oI}:r9 (sJ m n b x y):=by
 intro t h h0;unfold sJ;cases x t<;>try rfl
 rename_i a;cases a<;>try rfl
 rename_i cs;simp only;cases y t<;>try rfl
 rename_i a;cases a<;>try rfl
 rename_i k i;cases i<;>try rfl
 rename_i i;simp only;cases Nat.blt i m<;>try rfl
 simp only[cond_true];cases part b cs (Nat.mul i n) n<;>rfl
omit [Io] in
theorem KR{x y:oI}:r9 (rh x y):=by
 intro t h h0;unfold rh;cases x t<;>try rfl
 rename_i a;cases a<;>try rfl
 rename_i v;cases v<;>try rfl
 rename_i s;simp only;cases y t<;>try rfl
 rename_i a;cases a<;>try rfl
 ·rename_i k i;cases i<;>try rfl
  rename_i i;simp only;cases sI s.data.toList i<;>rfl
 ·rename_i k sv lo hi o;simp only;cases(!(sD (Int.add lo o) 0)&&sD (Int.add hi o) (.ofNat s.size))<;>rfl
omit [Io] in
theorem Iw{x:oI}{i:Nat}:r9 (qa x i):=by
 intro t h h0;unfold qa;cases x t<;>try rfl
 rename_i a;cases a<;>try rfl
 rename_i vs;simp only;cases sI vs i<;>rfl
omit [Io] in
theorem RD{x:oI}:r9 (vP x):=by
 intro t h h0;unfold vP;cases x t<;>try rfl
 rename_i a;cases a<;>try rfl
 rename_i v;cases v<;>rfl
omit [Io] in
theorem Xg{x:oI}:r9 (Cz x):=by
 intro t h h0;unfold Cz;cases x t<;>try rfl
 rename_i a;cases a<;>rfl
omit [Io] in
theorem Xh{x:oI}:r9 (Cy x):=by
 intro t h h0;unfold Cy;cases x t<;>try rfl
 rename_i a;cases a<;>rfl
omit [Io] in
theorem Xi{o:Op}(hc:(vt P call o).1=.p0):r9 (vt P call o).2:=by
 cases o<;>simp only[vt]at hc ⊢
 case move x=>exact wC
 case assign x=>exact wC
 case pick c x y=>exact RB
 case alloc T=>cases hc
 case box T x=>cases hc
 case build T ps=>
  unfold CJ
  split
  ·split
   ·split
    ·exact OR
    ·exact nC
   ·exact nC
  ·exact nC
 case buildSlice T n ps=>cases hc
 case load T x=>cases hc
 case store T x y=>cases hc
 case nilCheck x=>exact Xd
 case binOp op T x y yT=>
  cases Ii P op T with
  |some f=>exact Gk
  |none=>exact nC
 case unOp op T x=>
  cases cUn op with
  |some f=>exact RC
  |none=>exact nC
 case convert S D x=>
  have pq:r9 (EN P S D x):=by
   unfold EN
   split
   ·split
    ·exact RC
    ·exact nC
   ·exact nC
  split
  ·rename_i h
   rw[h]at hc
   cases hc
  ·exact pq
 case makeFunc f first caps=>
  cases f<;>try (cases hc;done)
  simp only
  cases first.toList with
  |nil=>exact acX
  |cons a l=>exact nC
 case makeSlice T l c=>cases hc
 case slice T x lo hi mx=>cases mx<;>cases hc
 case fieldAddr T x n=>
  unfold tK
  split
  ·split
   ·split
    ·exact Mx D7
    ·exact nC
   ·exact nC
  ·exact nC
 case field T x n=>
  unfold CM
  split
  ·split
   ·split
    ·split
     ·exact OS
     ·exact nC
    ·exact nC
   ·exact nC
  ·exact nC
 case indexAddr T x y=>
  unfold tL
  split
  ·split
   ·exact Xe
   ·exact nC
  ·split
   ·exact Xf
   ·exact nC
  ·exact nC
 case index T x y=>
  unfold CN
  split
  ·split
   ·split
    ·exact OT
    ·exact nC
   ·exact nC
  ·exact KR
  ·exact nC
 case extract x i=>exact Iw
 case call c=>
  cases hb:qB P c with
  |none=>rw[hb]at hc;cases hc
  |some f=>
   simp only
   unfold qB at hb
   split at hb
   ·split at hb
    ·cases hb
     unfold Rf
     split
     ·exact RD
     ·exact Xg
     ·exact wC
     ·exact nC
    ·cases hb;exact nC
   ·split at hb
    ·cases hb
     unfold Rg
     split
     ·exact Xh
     ·exact nC
    ·cases hb;exact nC
   ·split at hb
    ·cases hb;exact Gk
    ·cases hb;exact nC
   ·split at hb
    ·cases hb;exact Gk
    ·cases hb;exact nC
   ·cases hb
 case makeMap T r=>cases r<;>cases hc
 all_goals (cases hc)
def OU(f:oH):Prop:= ∀ t h v h',f t h=.ok v h'-> ∀ h0:Hp,h0.next=h.next->(h'=h/\f t h0=.ok v h0)∨ ∃ cs,h'=nJ h cs/\f t h0=.ok v (nJ h0 cs)
omit [Io] in
theorem qC:OU cY:=by intro t h v h' e;cases e
omit [Io] in
theorem CW{c:Bool}{f:oH}(i:OU f):OU (pZ c f cY):=by cases c;exact qC;exact i
omit [Io] in
theorem RE{o:Op}(hc:(vt P call o).1=.al):OU (vt P call o).2:=by
 cases o<;>simp only[vt]at hc ⊢
 case alloc T=>
  unfold Rh
  split
  ·intro t h v h' e h0 hn
   cases e
   exact .inr ⟨_,rfl,by unfold Kw;rw[hn]⟩
  ·exact qC
 case box T x=>
  intro t h v h' e h0 hn
  unfold DX at e ⊢
  cases hx:cx x t with
  |none=>rw[hx]at e;cases e
  |some a=>rw[hx]at e;cases e;exact .inr ⟨_,rfl,by rw[hn]⟩
 case buildSlice T n ps=>
  unfold QK
  split
  ·split
   ·split
    ·refine CW ?_
     rename_i ie uq _ z hz0
     intro t h v h' e h0 hn
     unfold Cu at e ⊢
     cases hp:uy (vr ps.toList) t with
     |none=>rw[hp]at e;cases e
     |some vs=>
      rw[hp]at e
      simp only at e ⊢
      cases hz:Nat.beq n 0 with
      |true=>
       rw[hz]at e
       cases vs with
       |nil=>cases e;exact .inl ⟨rfl,rfl⟩
       |cons _ _=>cases e
      |false=>
       rw[hz]at e
       simp only[cond_false]at e ⊢
       cases hf:xi n ie.size z vs with
       |none=>rw[hf]at e;cases e
       |some cs=>rw[hf]at e;cases e;exact .inr ⟨_,rfl,by rw[hn]⟩
    ·exact qC
   ·exact qC
  ·exact qC
 case makeSlice T l c=>
  unfold H9
  split
  ·split
   ·split
    ·refine CW ?_
     rename_i ie uq _ z hz0
     intro t h v h' e h0 hn
     unfold uj at e ⊢
     cases hl:cx l t with
     |none=>rw[hl]at e;cases e
     |some a=>
     cases a<;>try (rw[hl]at e;cases e;done)
     rename_i k i
     cases i<;>try (rw[hl]at e;cases e;done)
     rename_i i
     rw[hl]at e
     simp only at e ⊢
     cases WE:cx c t with
     |none=>rw[WE]at e;cases e
     |some a=>
     cases a<;>try (rw[WE]at e;cases e;done)
     rename_i k2 j
     cases j<;>try (rw[WE]at e;cases e;done)
     rename_i j
     rw[WE]at e
     simp only at e ⊢
     cases hb:(Nat.ble i j&&Nat.ble (Nat.mul j ie.bytes) 70368744177664)with
     |false=>rw[hb]at e;cases e
     |true=>
     rw[hb]at e
     simp only[cond_true]at e ⊢
     cases hz:Nat.beq j 0 with
     |true=>rw[hz]at e;cases e;exact .inl ⟨rfl,rfl⟩
     |false=>rw[hz]at e;cases e;exact .inr ⟨_,rfl,by simp only[cond_false];rw[hn]⟩
    ·exact qC
   ·exact qC
  ·exact qC
 case binOp op T x y yT=>cases h:Ii P op T<;>rw[h]at hc<;>cases hc
 case unOp op T x=>cases h:cUn op<;>rw[h]at hc<;>cases hc
 case convert S D x=>
  cases h:P.underlying D with
  |none=>rw[h]at hc;cases hc
  |some d=>cases d<;>rw[h]at hc<;>cases hc
 case makeFunc f first caps=>
  cases f<;>try (cases hc;done)
  simp only at hc
  cases h:first.toList<;>rw[h]at hc<;>cases hc
 case slice T x lo hi mx=>cases mx<;>cases hc
 case makeMap T r=>cases r<;>cases hc
 case call c=>cases h:qB P c<;>rw[h]at hc<;>cases hc
 all_goals (cases hc)
end
end Go.Ab

noncomputable section
namespace Go.Ab
variable [Io]
def G.to(g:G)(N:Nat):G:=⟨fun id=>if id<N then g.m id else none,g.oz⟩
omit [Io] in
theorem EP(g:G)(w:World):xK g w g w:=⟨fun _ _ e=>e,fun _ i=>i,fun _ _=>rfl,fun _=>Nat.le_refl _⟩
omit [Io] in
theorem vv(g:G)(w:World){N M:Nat}(h:N<=M):xK (g.to N) w (g.to M) w:=
 ⟨(by
   intro id x e
   simp only[G.to]at e ⊢
   by_cases h1:id<N
   ·rw[if_pos h1]at e;rw[if_pos (by omega)];exact e
   ·rw[if_neg h1]at e;cases e),fun _ i=>i,fun _ _=>rfl,fun _=>Nat.le_refl _⟩
def pf(N:Nat):Hp:=⟨N,.nil⟩
theorem RF{g:G}{w:World}{N:Nat}(h: ∀ b,g.oz b->b<w.heap.size):HC g w (pf N):=⟨(fun _ _ e=>by cases e),h⟩
section
variable {P:Program}{call:nv}{o:Oper}
theorem Bb{ops:Array Oper}{g w nt t h}{a:Act}{v:AV}{h':Hp}(T:TR g w nt t a.tmps)
 (e:sE P call nt ops.toList o t h=.ok v h'):(Region.wanted o (yielded ops a.tmps)=true/\(vt P call o.op).2 t h=.ok v h')∨
  (Region.wanted o (yielded ops a.tmps)=false/\v=pQ/\h'=h):=by
 unfold sE at e
 cases hg:o.guard with
 |none=>
  rw[hg]at e
  exact .inl ⟨by simp[Region.wanted,hg],e⟩
 |some p=>
  obtain⟨j,want⟩:=p
  rw[hg]at e
  simp only[pI]at e
  cases hj:ops.toList[j]? with
  |none=>simp only[hj]at e;cases e
  |some oj=>
  simp only[hj]at e
  cases hd:oj.dst with
  |none=>simp only[hd]at e;cases e
  |some d=>
  simp only[hd]at e
  cases hb:Nat.blt d nt with
  |false=>simp only[hb]at e;cases e
  |true=>
  simp only[hb]at e
  have P7:=cP.1 hb
  change gF (oT d) want (vt P call o.op).2 t h=.ok v h' at e
  have hj':ops[j]? =some oj:=by simpa using hj
  have vQ:=T.2.1
  have hy: ∀ y,a.tmps.getD d undef=y->yielded ops a.tmps j=match y with| .bool b=>some b| _=>none:=by
   intro y hy
   have:a.tmps[d]? =some y:=by
    rw[Array.getD_eq_getD_getElem?]at hy
    rw[Array.getElem?_eq_getElem (by omega)]at hy ⊢
    simpa using hy
   simp[yielded,hj',hd,this]
   cases y<;>rfl
  unfold gF at e
  split at e
  ·rename_i b HG
   have hv:=(T.2.2 d _ (by have:=T.1;omega) HG).2
   simp only[VR]at hv
   have WZ:=hy _ hv
   cases W0:(pZ want b (!b))with
   |true=>
    rw[W0]at e
    have:b=want:=by cases want<;>cases b<;>simp[pZ]at W0<;>rfl
    exact .inl ⟨by simp[Region.wanted,hg,WZ,this],e⟩
   |false=>
    rw[W0]at e
    have:b≠want:=by cases want<;>cases b<;>simp[pZ]at W0<;>simp
    cases e
    exact .inr ⟨by simp[Region.wanted,hg,WZ,this],rfl,rfl⟩
  ·rename_i HG
   have hv:=(T.2.2 d _ (by have:=T.1;omega) HG).2
   simp only[VR]at hv
   obtain⟨vs,hv,ov⟩:=hv
   have WZ:=hy _ hv
   cases e
   exact .inr ⟨by simp[Region.wanted,hg,WZ],rfl,rfl⟩
  ·cases e
theorem Ix(g:G)(w:World):VR g w pQ undef:=by simp only[pQ,VR];exact⟨_,rfl,by simp[cJ]⟩
theorem ER(hc:nP P call){ops:Array Oper}{i:Nat}(hi:ops[i]? =some o){g w nt t h}{a:Act}{v:AV}{h':Hp}(pO:(vt P call o.op).1=.p0∨(vt P call o.op).1=.p1)
 (H:HC g w h)(T:TR g w nt t a.tmps)(e:sE P call nt ops.toList o t h=.ok v h'){Q:Exit->Act->World->Prop}{rest:List Nat}
 (K: ∀ x,VR g w v x->wpOps P ops Q rest (a.put o.dst x) w):wpOps P ops Q (i::rest) a w:=by
 rw[wpOps,hi]
 simp only
 have hp:cQ P o (vt P call o.op).2:=by
  have:=Gf (o:=o) hc
  cases h:vt P call o.op with
  |mk c f=>
   rw[h]at this pO
   cases c
   ·exact this
   ·exact this
   ·rcases pO with h|h<;>cases h
   ·rcases pO with h|h<;>cases h
 rcases Bb T e with⟨hw,e⟩|⟨hw,rfl,rfl⟩
 ·rw[if_pos hw]
  obtain⟨rfl,x,hx,hv⟩:=hp g w nt t h a v h' H T e
  refine .inl ?_
  unfold Oper.wp
  rw[hx]
  exact K x hv
 ·rw[if_neg (by simp[hw])]
  exact K undef (Ix g w)
theorem RG(hc:nP P call){ops:Array Oper}{i:Nat}(hi:ops[i]? =some o){g w nt t h}{a:Act}{v:AV}{h':Hp}(pO:(vt P call o.op).1=.al)
 (H:HC g w h)(T:TR g w nt t a.tmps)(e:sE P call nt ops.toList o t h=.ok v h'){Q:Exit->Act->World->Prop}{rest:List Nat}
 (K1:h'=h-> ∀ x w',(w'=w∨ ∃ ob,w'=w.alloc ob)->(∀ g' w',VR g' w' v x)->wpOps P ops Q rest (a.put o.dst x) w')
 (K2: ∀ cs C el vs x,h'=nJ h cs->cJ g w cs.toL vs->(∀ (j:Nat) (v:Value),vs[j]? =some v->C[j]? =some v)->
  (∀ g' w',g'.m h.next=some (w.heap.size,0)->C.size<=nY w' w.heap.size->VR g' w' v x)->wpOps P ops Q rest (a.put o.dst x) (w.alloc (.cells C el))):
 wpOps P ops Q (i::rest) a w:=by
 rw[wpOps,hi]
 simp only
 have hp:uW P o (vt P call o.op).2:=by
  have:=Gf (o:=o) hc
  cases h:vt P call o.op with
  |mk c f=>rw[h]at this pO;simp only at pO;subst pO;exact this
 rcases Bb T e with⟨hw,e⟩|⟨hw,rfl,rfl⟩
 ·rw[if_pos hw]
  rcases hp g w nt t h a v h' H T e with⟨rfl,x,C,el,hr,hv⟩|⟨cs,C,el,vs,x,rfl,hr,ov,hC,hv⟩
  ·refine .inl ?_
   unfold Oper.wp
   rw[hr]
   exact K1 rfl x _ (.inr ⟨_,rfl⟩) hv
  ·refine .inl ?_
   unfold Oper.wp
   rw[hr]
   exact K2 cs C el vs x rfl ov hC hv
 ·rw[if_neg (by simp[hw])]
  exact K1 rfl undef _ (.inl rfl) (fun g w=>Ix g w)
omit [Io] in
theorem zi{nt:Nat}{all:List Oper}(pO:(vt P call o.op).1=.p0):r9 (sE P call nt all o):=by
 have hf:r9 (vt P call o.op).2:=Xi pO
 unfold sE
 cases o.guard with
 |none=>exact hf
 |some p=>
  obtain⟨j,want⟩:=p
  simp only
  split
  ·split
   ·refine Mx ?_
    intro t h h0
    unfold gF
    split
    ·rename_i b _
     cases pZ want b (!b)
     ·rfl
     ·exact hf t h h0
    ·rfl
    ·rfl
   ·exact nC
  ·exact nC
omit [Io] in
theorem Iy{nt:Nat}{all:List Oper}(pO:(vt P call o.op).1=.al):OU (sE P call nt all o):=by
 have hf:OU (vt P call o.op).2:=RE pO
 unfold sE
 cases o.guard with
 |none=>exact hf
 |some p=>
  obtain⟨j,want⟩:=p
  simp only
  split
  ·split
   ·refine CW ?_
    intro t h v h' e h0 hn
    unfold gF at e ⊢
    split at e
    ·rename_i b hb
     cases hw:pZ want b (!b)with
     |false=>rw[hw]at e;cases e;exact .inl ⟨rfl,rfl⟩
     |true=>rw[hw]at e;exact hf t h v h' e h0 hn
    ·cases e
     exact .inl ⟨rfl,rfl⟩
    ·cases e
   ·exact qC
  ·exact qC
end
end Go.Ab

noncomputable section
namespace Go.Ab
variable [Io]
inductive ta where
 |last (pre pR:List Nat)
 |cons (pre pR:List Nat) (q:Nat) (rest:ta)
def ta.pre:ta->List Nat
 | .last p _=>p
 | .cons p _ _ _=>p
def ta.pR:ta->List Nat
 | .last _ a=>a
 | .cons _ a _ r=>a++r.pR
def ta.DQ:ta->List Nat
 | .last _ _=>[]
 | .cons _ _ q r=>q::r.DQ
structure Cx where
 P:Program
 call:nv
 ops:Array Oper
 nt:Nat
 t0:Tm
 te:Tm
 nx:Nat->Nat
 bd:Nat->Nat
 g0:G
 w0:World
 h0:Hp
 hE:Hp
namespace Cx
variable (c:Cx)
def nM(i:Nat)(k:Cl):Prop:= ∃ o,c.ops[i]? =some o/\(vt c.P c.call o.op).1=k
def FE(i:Nat):oH:=match c.ops[i]? with
 |some o=>sE c.P c.call c.nt c.ops.toList o
 |none=>cY
def tv(i d:Nat):Prop:= ∃ o,c.ops[i]? =some o/\o.dst=some d
def VP(i:Nat):List Nat:=match c.ops[i]? with
 |some o=>xn c.ops.toList o
 |none=>[]
def An(i j:Nat):Prop:=KP c.ops.toList i j=true
def vw(i N:Nat):Prop:= ∀ u∈c.VP i,u<c.nt/\((∀ j,c.tv j u->c.An i j/\c.bd j<=N)∨ ∀ j,c.tv j u->c.An j i)
open Classical in
def P8(i:Nat):List Nat->Tm
 | []=>Tm.none
 |u::l=>Tm.put (P8 i l) u (if ∃ j,c.tv j u/\c.An i j then Tm.at c.te u else Tm.at c.t0 u)
def rf(i:Nat):Tm:=c.P8 i (c.VP i)
def Slot(i:Nat)(v:AV):Prop:= ∀ d,c.tv i d->d<c.nt/\c.te.at d=some v
def P1s(pre:List Nat)(h:Hp):Prop:= ∀ i∈pre,c.nM i .p1-> ∃ v,c.FE i (c.rf i) h=.ok v h/\c.Slot i v/\c.vw i h.next
def Bz:List Nat->Hp->Hp->Prop
 | [],h,h1=>h1=h
 |i::l,h,h1=>(c.nM i .p0/\Bz l h h1)∨(c.nM i .al/\c.nx i=h.next/\((c.bd i=c.nx i/\Bz l h h1)∨
  ∃ v cs,c.bd i=c.nx i+1/\c.FE i (c.rf i) (pf (c.nx i))=.ok v (nJ (pf (c.nx i)) cs)/\Bz l (nJ h cs) h1))
def D8:ta->Hp->Prop
 | .last pre pR,h=>c.P1s pre h/\c.Bz pR h c.hE
 | .cons pre pR q rest,h=>c.P1s pre h/\ ∃ h1,c.Bz pR h h1/\c.nM q .ch/\ ∃ v h2,c.FE q (c.rf q) h1=.ok v h2/\c.Slot q v/\c.vw q h1.next/\
   c.bd q=h2.next/\h1.next<=h2.next/\D8 rest h2
def My:List Nat->ta->Prop
 |past,.last pre _=> ∀ i,c.nM i .p1->(∃ j∈past,c.An j i)∨i∈pre
 |past,.cons pre pR q rest=>(∀ i,c.nM i .p1->(∃ j∈past,c.An j i)∨(∃ j∈q::rest.DQ,c.An i j)∨i∈pre)/\(∀ i∈pR,c.nM i .al->c.An q i)/\
  (∀ q'∈rest.DQ,c.An q' q)/\My (q::past) rest
structure Xj:Prop where
 p0: ∀ i,c.nM i .p0-> ∃ v,(∀ h,c.FE i (c.rf i) h=.ok v h)/\c.Slot i v/\c.vw i (c.bd i)
 al: ∀ i,c.nM i .al-> ∃ v,c.Slot i v/\c.vw i (c.nx i)/\((c.FE i (c.rf i) (pf (c.nx i))=.ok v (pf (c.nx i))/\c.bd i=c.nx i)∨
  ∃ cs,c.FE i (c.rf i) (pf (c.nx i))=.ok v (nJ (pf (c.nx i)) cs)/\c.bd i=c.nx i+1)
 dst: ∀ i j d,c.tv i d->c.tv j d->i=j
 top: ∀ i,i<c.ops.size->c.bd i<=c.hE.next
 same: ∀ u,u<512->(∀ j,¬ c.tv j u)->c.te.at u=c.t0.at u
 call:nP c.P c.call
 nt:c.nt<=512
omit [Io] in
theorem wD{h1:Hp}: ∀ {l:List Nat} {h:Hp},c.Bz l h h1->h.next<=h1.next
 | [],h,e=>by cases e;exact Nat.le_refl _
 |i::l,h,e=>by
  rcases e with⟨_,e⟩|⟨_,_,⟨_,e⟩|⟨v,cs,_,_,e⟩⟩
  ·exact wD e
  ·exact wD e
  ·have:=wD e
   exact Nat.le_trans (Nat.le_succ _) this
omit [Io] in
theorem tN{h1:Hp}: ∀ {l:List Nat} {h:Hp},c.Bz l h h1-> ∀ i∈l,c.nM i .al->h.next<=c.nx i/\(c.bd i=c.nx i+1->c.nx i<h1.next)
 | [],h,e,i,hi,_=>by cases hi
 |j::l,h,e,i,hi,hc=>by
  rcases e with⟨hj,e⟩|⟨hj,hn,⟨hb,e⟩|⟨v,cs,hb,_,e⟩⟩
  ·rcases List.mem_cons.1 hi with rfl|hi
   ·obtain⟨o,ho,h1⟩:=hj
    obtain⟨o',tw,h2⟩:=hc
    rw[ho]at tw
    cases tw
    rw[h1]at h2
    cases h2
   ·exact tN e i hi hc
  ·rcases List.mem_cons.1 hi with rfl|hi
   ·exact⟨by omega,fun h=>by omega⟩
   ·exact tN e i hi hc
  ·rcases List.mem_cons.1 hi with rfl|hi
   ·have:=wD c e
    have:h.next+1<=h1.next:=this
    exact⟨by omega,fun _=>by omega⟩
   ·have:=tN e i hi hc
    have h2:h.next+1<=c.nx i:=this.1
    exact⟨by omega,this.2⟩
omit [Io] in
theorem yk: ∀ {pl:ta} {h:Hp},c.D8 pl h-> ∀ i∈pl.pR,c.nM i .al->h.next<=c.nx i
 | .last pre pR,h,⟨_,e⟩,i,hi,hc=>(c.tN e i hi hc).1
 | .cons pre pR q rest,h,⟨_,h1,e,_,v,h2,_,_,_,_,hle,r⟩,i,hi,hc=>by
  rcases List.mem_append.1 hi with hi|hi
  ·exact(c.tN e i hi hc).1
  ·exact Nat.le_trans (c.wD e) (Nat.le_trans hle (yk r i hi hc))
omit [Io] in
theorem rL{i:Nat}{k:Cl}(h:c.nM i k){k':Cl}(h':c.nM i k'):k=k':=by
 obtain⟨o,ho,h1⟩:=h
 obtain⟨o',tw,h2⟩:=h'
 rw[ho]at tw
 cases tw
 exact h1.symm.trans h2
omit [Io] in
theorem zj{h1:Hp}: ∀ {l:List Nat} {h:Hp},c.Bz l h h1-> ∀ i∈l,∀ j∈l,c.nM i .al->c.nM j .al->c.bd i=c.nx i+1->c.bd j=c.nx j+1->c.nx i=c.nx j->i=j
 | [],h,e,i,hi,_,_,_,_,_,_,_=>by cases hi
 |k::l,h,e,i,hi,j,hj,ci,cj,bi,bj,hij=>by
  rcases e with⟨hk,e⟩|⟨hk,hn,⟨hb,e⟩|⟨v,cs,hb,_,e⟩⟩
  ·have ni:i≠k:=fun e=>by subst e;cases c.rL hk ci
   have nj:j≠k:=fun e=>by subst e;cases c.rL hk cj
   exact zj e i ((List.mem_cons.1 hi).resolve_left ni) j ((List.mem_cons.1 hj).resolve_left nj) ci cj bi bj hij
  ·have ni:i≠k:=fun e=>by subst e;omega
   have nj:j≠k:=fun e=>by subst e;omega
   exact zj e i ((List.mem_cons.1 hi).resolve_left ni) j ((List.mem_cons.1 hj).resolve_left nj) ci cj bi bj hij
  ·by_cases ni:i=k<;>by_cases nj:j=k
   ·exact ni.trans nj.symm
   ·have:=(c.tN e j ((List.mem_cons.1 hj).resolve_left nj) cj).1
    have:h.next+1<=c.nx j:=this
    subst ni
    omega
   ·have:=(c.tN e i ((List.mem_cons.1 hi).resolve_left ni) ci).1
    have:h.next+1<=c.nx i:=this
    subst nj
    omega
   ·exact zj e i ((List.mem_cons.1 hi).resolve_left ni) j ((List.mem_cons.1 hj).resolve_left nj) ci cj bi bj hij
omit [Io] in
theorem zk: ∀ {pl:ta} {h:Hp},c.D8 pl h-> ∀ i∈pl.pR,∀ j∈pl.pR,c.nM i .al->c.nM j .al->c.bd i=c.nx i+1->c.bd j=c.nx j+1->c.nx i=c.nx j->i=j
 | .last pre pR,h,⟨_,e⟩,i,hi,j,hj,ci,cj,bi,bj,hij=>c.zj e i hi j hj ci cj bi bj hij
 | .cons pre pR q rest,h,⟨_,h1,e,_,v,h2,_,_,_,_,hle,r⟩,i,hi,j,hj,ci,cj,bi,bj,hij=>by
  rcases List.mem_append.1 hi with hi|hi<;>rcases List.mem_append.1 hj with hj|hj
  ·exact c.zj e i hi j hj ci cj bi bj hij
  ·have:=(c.tN e i hi ci).2 bi
   have:=c.yk r j hj cj
   omega
  ·have:=(c.tN e j hj cj).2 bj
   have:=c.yk r i hi ci
   omega
  ·exact zk r i hi j hj ci cj bi bj hij
def OV(g:G)(w:World)(h:Hp)(i:Nat):Prop:=
 c.bd i=c.nx i∨ ∃ v cs b C,∃ el:FT C,∃ vs,c.bd i=c.nx i+1/\c.FE i (c.rf i) (pf (c.nx i))=.ok v (nJ (pf (c.nx i)) cs)/\g.m (c.nx i)=some (b,0)/\w.heap[b]? =some (.cells C el.el el.fz)/\
  ¬ g.oz b/\ ¬ qt (g.to h.next) h b/\c.w0.heap.size<=b/\cJ (g.to (c.nx i)) w cs.toL vs/\ ∀ (j:Nat) (v:Value),vs[j]? =some v->C[j]? =some v
structure St(g:G)(w:World)(h:Hp)(A D:List Nat):Prop where
 hr:HR (g.to h.next) w h
 ext:Ext c.g0 c.w0 c.h0 (g.to h.next) w h
 KS: ∀ i∈A,i∈D->c.nM i .al->c.OV g w h i
 OW: ∀ i∈A,∀ j∈A,i∈D->j∈D->c.nM i .al->c.nM j .al->c.bd i=c.nx i+1->c.bd j=c.nx j+1-> ∀ b,g.m (c.nx i)=some (b,0)->g.m (c.nx j)=some (b,0)->i=j
omit [Io] in
theorem wE{h:Hp}{cs:Rw}{id:Nat}:(nJ h cs).cw.get id=if id=h.next then some cs else h.cw.get id:=Tr.ri _ _ _ _
omit [Io] in
theorem RH{h:Hp}{cs cs':Rw}(e:nJ h cs=nJ h cs'):cs=cs':=by
 have h1:(nJ h cs).cw.get h.next=some cs:=by rw[wE,if_pos rfl]
 rw[e,wE,if_pos rfl]at h1
 exact(Option.some.inj h1).symm
theorem ahr{g:G}{w:World}{h:Hp}(H:HR (g.to h.next) w h){b:Nat}{C:Array Value}{el:FT C}{cs:Rw}{vs:List Value}(hm:g.m h.next=some (b,0))
 (hw:w.heap[b]? =some (.cells C el.el el.fz))(hi: ¬ g.oz b)(ho: ¬ qt (g.to h.next) h b)(hv:cJ (g.to h.next) w cs.toL vs)(hC: ∀ (j:Nat) (v:Value),vs[j]? =some v->C[j]? =some v):
 HR (g.to (nJ h cs).next) w (nJ h cs)/\ ∀ b',qt (g.to (nJ h cs).next) (nJ h cs) b'->qt (g.to h.next) h b'∨b'=b:=by
 have hn:(nJ h cs).next=h.next+1:=rfl
 have hM:=vv g w (N:=h.next) (M:=h.next+1) (by omega)
 have hle: ∀ id cs',h.cw.get id=some cs'->id<h.next:=by
  intro id cs' e
  refine Classical.byContradiction fun k=>?_
  obtain⟨b',s,_,_,_,P6,_⟩:=H.cw id cs' e
  rw[H.fresh id (by omega)]at P6
  cases P6
 have Bc: ∀ id,id<h.next->(g.to (h.next+1)).m id=(g.to h.next).m id:=by
  intro id k
  simp only[G.to]
  rw[if_pos (by omega),if_pos k]
 have hat:(g.to (h.next+1)).m h.next=some (b,0):=by
  simp only[G.to]
  rw[if_pos (by omega)]
  exact hm
 rw[hn]
 refine⟨⟨?_,?_,?_,fun k i=>H.oz k i,fun p hp=>H.tb p hp⟩,?_⟩
 ·intro id qu
  have:h.next+1<=id:=qu
  simp only[G.to]
  rw[if_neg (by omega)]
 ·intro id cs' e
  rw[wE]at e
  by_cases qu:id=h.next
  ·subst qu
   rw[if_pos rfl]at e
   cases e
   exact⟨b,0,C,el,vs,hat,hw,hi,cJ.o8 hM _ _ hv,by simpa using hC⟩
  ·rw[if_neg qu]at e
   obtain⟨b',s,C',el',vs',P6,hw',vk,vp,hc'⟩:=H.cw id cs' e
   exact⟨b',s,C',el',vs',by rw[Bc id (hle id cs' e)];exact P6,hw',vk,cJ.o8 hM _ _ vp,hc'⟩
 ·intro id Bu b1 s s' Mc CC e1 e2 m1 m2
  rw[wE]at e1 e2
  by_cases h1:id=h.next<;>by_cases h2:Bu=h.next
  ·exact h1.trans h2.symm
  ·subst h1
   rw[if_neg h2]at e2
   rw[hat]at m1
   obtain⟨rfl,_⟩:=Prod.mk.inj (Option.some.inj m1)
   rw[Bc Bu (hle Bu _ e2)]at m2
   exact absurd ⟨Bu,CC,s',e2,m2⟩ ho
  ·subst h2
   rw[if_neg h1]at e1
   rw[hat]at m2
   obtain⟨rfl,_⟩:=Prod.mk.inj (Option.some.inj m2)
   rw[Bc id (hle id _ e1)]at m1
   exact absurd ⟨id,Mc,s,e1,m1⟩ ho
  ·rw[if_neg h1]at e1
   rw[if_neg h2]at e2
   rw[Bc id (hle id _ e1)]at m1
   rw[Bc Bu (hle Bu _ e2)]at m2
   exact H.inj id Bu b1 s s' Mc CC e1 e2 m1 m2
 ·rintro b' ⟨id,cs',s,e,m⟩
  rw[wE]at e
  by_cases qu:id=h.next
  ·subst qu
   rw[hat]at m
   obtain⟨rfl,_⟩:=Prod.mk.inj (Option.some.inj m)
   exact .inr rfl
  ·rw[if_neg qu]at e
   rw[Bc id (hle id _ e)]at m
   exact .inl ⟨id,cs',s,e,m⟩
omit [Io] in
theorem OX{g:G}{w:World}{h:Hp}{b:Nat}{cs:Rw}(E:Ext c.g0 c.w0 c.h0 (g.to h.next) w h)(hb:c.w0.heap.size<=b)
 (hO: ∀ b',qt (g.to (nJ h cs).next) (nJ h cs) b'->qt (g.to h.next) h b'∨b'=b):Ext c.g0 c.w0 c.h0 (g.to (nJ h cs).next) w (nJ h cs) where
 os:=E.os
 tape:=E.tape
 output:=E.output
 size:=E.size
 next:=Nat.le_trans E.next (Nat.le_succ _)
 m:=fun id x e=>(vv g w (N:=h.next) (M:=h.next+1) (by omega)).m id x (E.m id x e)
 wh:=E.wh
 rows:=E.rows
 oz:=E.oz
 Om:=E.Om
 uU:=fun k o=>by
  rcases hO k o with o|rfl
  ·exact E.uU k o
  ·exact .inr hb
theorem settle{g:G}{w:World}{D A:List Nat}{h1:Hp}: ∀ (l:List Nat) (h:Hp),c.Bz l h h1->(∀ i∈l,c.nM i .al->i∈D)->c.St g w h (l++A) D->
 (∀ i∈A,c.nM i .al->h1.next<=c.nx i)->c.St g w h1 A D
 | [],h,e,_,S,_=>by cases e;exact S
 |i::l,h,e,hd,S,hA=>by
  have KT:=fun j hj=>hd j (List.mem_cons_of_mem i hj)
  have S':c.St g w h (l++A) D:=⟨S.hr,S.ext,fun j hj=>S.KS j (List.mem_cons_of_mem _ hj),fun j hj k hk=>S.OW j (List.mem_cons_of_mem _ hj) k (List.mem_cons_of_mem _ hk)⟩
  rcases e with⟨_,e⟩|⟨hk,hn,⟨hb,e⟩|⟨v,cs,hb,hF,e⟩⟩
  ·exact settle l h e KT S' hA
  ·exact settle l h e KT S' hA
  ·have ES:=hd i List.mem_cons_self hk
   rcases S.KS i List.mem_cons_self ES hk with hp|⟨v',cs',b,C,el,vs,_,hF',hm,hw,him,hO,hb0,hv,hC⟩
   ·omega
   rw[hF]at hF'
   obtain⟨rfl,q8⟩:=Ro.ok.inj hF'
   obtain rfl:=RH q8
   rw[hn]at hm hv
   obtain⟨hr',hO'⟩:=ahr S.hr hm hw him hO hv hC
   refine settle l (nJ h cs) e KT ⟨hr',c.OX S.ext hb0 hO',?_,S'.OW⟩ hA
   intro j hj KU HH
   rcases S'.KS j hj KU HH with hp|⟨v2,CC,b2,C2,el2,QO,HG,hF2,OA,Mi,anw,hO2,anx,hv2,hC2⟩
   ·exact .inl hp
   ·refine .inr ⟨v2,CC,b2,C2,el2,QO,HG,hF2,OA,Mi,anw,fun o=>?_,anx,hv2,hC2⟩
    rcases hO' _ o with o|rfl
    ·exact hO2 o
    ·have hjn:h.next+1<=c.nx j:=by
      rcases List.mem_append.1 hj with hj|hj
      ·exact(c.tN e j hj HH).1
      ·exact Nat.le_trans (c.wD e) (hA j hj HH)
     have:=S.OW i List.mem_cons_self j (List.mem_cons_of_mem _ hj) ES KU hk HH hb HG b2 (by rw[hn];exact hm) OA
     subst this
     omega
end Cx
end Go.Ab

noncomputable section
namespace Go.Ab
variable [Io]
namespace Cx
variable (c:Cx)
structure Inv(g:G)(w:World)(h:Hp)(a:Act)(D past:List Nat)(pl:ta):Prop where
 run:c.D8 pl h
 stat:c.My past pl
 closed:Gj c.ops.toList D
 DQ: ∀ i,c.nM i .ch->i∈pl.DQ∨i∈D
 VQ: ∀ i∈pl.DQ,i∉D
 Bd: ∀ j∈past,j∈D
 alc: ∀ i,c.nM i .al->i∈pl.pR∨i∈D
 st:c.St g w h pl.pR D
 dom: ∀ id x,g.m id=some x->id<h.next∨ ∃ i∈pl.pR,i∈D/\c.nM i .al/\c.bd i=c.nx i+1/\id=c.nx i
 wF: ∀ j∈D,∀ d,c.tv j d->d<c.nt/\ ∃ v,c.te.at d=some v/\VR (g.to (max (c.bd j) h.next)) w v (a.tmps.getD d undef)
 free: ∀ u v,u<512->(∀ j∈D,¬ c.tv j u)->c.t0.at u=some v->u<c.nt/\VR (g.to h.next) w v (a.tmps.getD u undef)
 size:a.tmps.size=c.nt
 defers:a.defers=[]
variable {c}
omit [Io] in
theorem Be{i:Nat}{o:Oper}(ho:c.ops[i]? =some o):c.FE i=sE c.P c.call c.nt c.ops.toList o:=by unfold FE;rw[ho]
omit [Io] in
theorem acZ{i:Nat}{o:Oper}(ho:c.ops[i]? =some o):c.VP i=xn c.ops.toList o:=by unfold VP;rw[ho]
omit [Io] in
theorem RI{i:Nat}: ∀ (l:List Nat),(∀ u∈l,u<512)-> ∀ u v,u<512->(c.P8 i l).at u=some v->u∈l/\(((∃ j,c.tv j u/\c.An i j)/\c.te.at u=some v)∨((¬ ∃ j,c.tv j u/\c.An i j)/\c.t0.at u=some v))
 | [],_,u,v,hu,e=>by rw[P8,Tm.FW u hu]at e;cases e
 |x::l,hl,u,v,hu,e=>by
  rw[P8,Tm.qP _ _ _ _ (hl x List.mem_cons_self) hu]at e
  by_cases hx:u=x
  ·subst hx
   rw[if_pos rfl]at e
   refine⟨List.mem_cons_self,?_⟩
   by_cases hw: ∃ j,c.tv j u/\c.An i j
   ·rw[if_pos hw]at e;exact .inl ⟨hw,e⟩
   ·rw[if_neg hw]at e;exact .inr ⟨hw,e⟩
  ·rw[if_neg hx]at e
   obtain⟨h1,h2⟩:=RI l (fun y hy=>hl y (List.mem_cons_of_mem _ hy)) u v hu e
   exact⟨List.mem_cons_of_mem _ h1,h2⟩
theorem Inv.reads{g w h a D past pl}(I:c.Inv g w h a D past pl)(qM:c.nt<=512){i N M:Nat}(hr:c.vw i M)(ES:i∉D)(hD: ∀ j,c.An i j->j∈D)(hM:M<=N)(hN:h.next<=N):
 TR (g.to N) w c.nt (c.rf i) a.tmps:=by
 have o5: ∀ u∈c.VP i,u<512:=fun u hu=>Nat.lt_of_lt_of_le (hr u hu).1 qM
 refine⟨qM,I.size,fun u v hu e=>?_⟩
 obtain⟨hm,VO⟩:=RI _ o5 u v hu e
 refine⟨(hr u hm).1,?_⟩
 rcases VO with⟨⟨j,hj,hA⟩,e⟩|⟨hno,e⟩
 ·rcases(hr u hm).2 with h1|h1
  ·obtain⟨_,hb⟩:=h1 j hj
   obtain⟨_,v',e',hv⟩:=I.wF j (hD j hA) u hj
   rw[e]at e'
   cases e'
   exact VR.o8 (vv g w (by omega)) _ _ hv
  ·exact absurd (I.closed j (hD j hA) i (h1 j hj)) ES
 ·refine VR.o8 (vv g w hN) _ _ (I.free u v hu (fun j KU hj=>?_) e).2
  rcases(hr u hm).2 with h1|h1
  ·exact hno ⟨j,hj,(h1 j hj).1⟩
  ·exact ES (I.closed j KU i (h1 j hj))
omit [Io] in
theorem Gl{a:Act}{od:Option Nat}{x:Value}{d:Nat}(hd:d<a.tmps.size):(a.put od x).tmps.getD d undef=if od=some d then x else a.tmps.getD d undef:=by
 cases od with
 |none=>rfl
 |some e=>
  show(a.tmps.setIfInBounds e x).getD d undef=_
  rw[Array.getD_eq_getD_getElem?,Array.getD_eq_getD_getElem?]
  by_cases he:e=d
  ·subst he
   rw[Array.getElem?_setIfInBounds_self_of_lt hd,if_pos rfl];rfl
  ·rw[Array.getElem?_setIfInBounds_ne he,if_neg (fun k=>he (Option.some.inj k))]
omit [Io] in
theorem CX{a:Act}{od:Option Nat}{x:Value}:(a.put od x).tmps.size=a.tmps.size:=by
 cases od with
 |none=>rfl
 |some e=>show(a.tmps.setIfInBounds e x).size=_;simp
omit [Io] in
theorem put_defers{a:Act}{od:Option Nat}{x:Value}:(a.put od x).defers=a.defers:=by cases od<;>rfl
theorem AE{g:G}{w w':World}{g':G}{a:Act}{D:List Nat}{i:Nat}{o:Oper}{x:Value}{N N':Nat}(G0:c.Xj)(ho:c.ops[i]? =some o)
 (hs:a.tmps.size=c.nt)
 (wF: ∀ j∈D,∀ d,c.tv j d->d<c.nt/\ ∃ v,c.te.at d=some v/\VR (g.to (max (c.bd j) N)) w v (a.tmps.getD d undef))
 (mono: ∀ j∈D,xK (g.to (max (c.bd j) N)) w (g'.to (max (c.bd j) N')) w')(hi:i∉D)
 (hx: ∀ d,c.tv i d->d<c.nt/\ ∃ v,c.te.at d=some v/\VR (g'.to (max (c.bd i) N')) w' v x):
 ∀ j∈i::D,∀ d,c.tv j d->d<c.nt/\ ∃ v,c.te.at d=some v/\VR (g'.to (max (c.bd j) N')) w' v ((a.put o.dst x).tmps.getD d undef):=by
 intro j hj d hd
 by_cases Kf:j=i
 ·subst Kf
  obtain⟨h1,v,h2,h3⟩:=hx d hd
  refine⟨h1,v,h2,?_⟩
  obtain⟨o',tw,KT⟩:=hd
  rw[ho]at tw
  cases tw
  rw[Gl (by omega),if_pos KT]
  exact h3
 ·obtain⟨h1,v,h2,h3⟩:=wF j ((List.mem_cons.1 hj).resolve_left Kf) d hd
  refine⟨h1,v,h2,?_⟩
  rw[Gl (by omega),if_neg (fun k=>Kf (G0.dst j i d hd ⟨o,ho,k⟩))]
  exact VR.o8 (mono j ((List.mem_cons.1 hj).resolve_left Kf)) _ _ h3
theorem CY{g:G}{w w':World}{g':G}{a:Act}{D:List Nat}{i:Nat}{o:Oper}{x:Value}{N N':Nat}(ho:c.ops[i]? =some o)(hs:a.tmps.size=c.nt)
 (free: ∀ u v,u<512->(∀ j∈D,¬ c.tv j u)->c.t0.at u=some v->u<c.nt/\VR (g.to N) w v (a.tmps.getD u undef))(mono:xK (g.to N) w (g'.to N') w'):
 ∀ u v,u<512->(∀ j∈i::D,¬ c.tv j u)->c.t0.at u=some v->u<c.nt/\VR (g'.to N') w' v ((a.put o.dst x).tmps.getD u undef):=by
 intro u v hu hd e
 obtain⟨h1,h2⟩:=free u v hu (fun j hj=>hd j (List.mem_cons_of_mem _ hj)) e
 refine⟨h1,?_⟩
 rw[Gl (by omega),if_neg (fun k=>hd i List.mem_cons_self ⟨o,ho,k⟩)]
 exact VR.o8 mono _ _ h2
theorem Inv.put{g w h a D past pl}(G0:c.Xj)(I:c.Inv g w h a D past pl){i:Nat}{o:Oper}(ho:c.ops[i]? =some o)(hi:i∉D)(hC:Gj c.ops.toList (i::D))
 (hk:c.nM i .p0∨c.nM i .p1){v:AV}{x:Value}(hs:c.Slot i v)(hx:VR (g.to (max (c.bd i) h.next)) w v x):c.Inv g w h (a.put o.dst x) (i::D) past pl:=by
 have KV: ∀ j,c.nM j .al->j∈i::D->j∈D:=by
  intro j hj h
  refine(List.mem_cons.1 h).resolve_left fun e=>?_
  subst e
  rcases hk with hk|hk<;>cases c.rL hk hj
 exact
 {run:=I.run
  stat:=I.stat
  closed:=hC
  DQ:=fun j hj=>(I.DQ j hj).imp id (List.mem_cons_of_mem _)
  VQ:=fun j hj h=>by
   rcases List.mem_cons.1 h with rfl|h
   ·have:c.nM j .ch:=by
     have key: ∀ {pl:ta} {h:Hp},c.D8 pl h-> ∀ j∈pl.DQ,c.nM j .ch:=by
      intro pl
      induction pl with
      |last pre pR=>intro h r j hj;cases hj
      |cons pre pR q rest ih=>
       intro h r j hj
       obtain⟨_,h1,_,hq,v,h2,_,_,_,_,_,r⟩:=r
       rcases List.mem_cons.1 hj with rfl|hj
       ·exact hq
       ·exact ih r j hj
     exact key I.run j hj
    rcases hk with hk|hk<;>cases c.rL hk this
   ·exact I.VQ j hj h
  Bd:=fun j hj=>List.mem_cons_of_mem _ (I.Bd j hj)
  alc:=fun j hj=>(I.alc j hj).imp id (List.mem_cons_of_mem _)
  st:=⟨I.st.hr,I.st.ext,fun j hj hD hc=>I.st.KS j hj (KV j hc hD) hc,fun j hj k hk jD kD jc kc=>I.st.OW j hj k hk (KV j jc jD) (KV k kc kD) jc kc⟩
  dom:=fun n y e=>(I.dom n y e).imp id fun⟨j,hj,hD,r⟩=>⟨j,hj,List.mem_cons_of_mem _ hD,r⟩
  wF:=AE G0 ho I.size I.wF (fun j _=>EP _ _) hi (fun d hd=>⟨(hs d hd).1,v,(hs d hd).2,hx⟩)
  free:=CY ho I.size I.free (EP _ _)
  size:=by rw[CX];exact I.size
  defers:=by rw[put_defers];exact I.defers}
omit [Io] in
theorem Mz: ∀ {pl:ta} {h:Hp},c.D8 pl h-> ∀ j∈pl.DQ,c.nM j .ch:=by
 intro pl
 induction pl with
 |last pre pR=>intro h r j hj;cases hj
 |cons pre pR q rest ih=>
  intro h r j hj
  obtain⟨_,h1,_,hq,v,h2,_,_,_,_,_,r⟩:=r
  rcases List.mem_cons.1 hj with rfl|hj
  ·exact hq
  ·exact ih r j hj
omit [Io] in
theorem ac0{pl:ta}{h:Hp}(r:c.D8 pl h):c.P1s pl.pre h:=by
 cases pl with
 |last pre pR=>exact r.1
 |cons pre pR q rest=>exact r.1
omit [Io] in
theorem Xk{past:List Nat}{pl:ta}(s:c.My past pl): ∀ i,c.nM i .p1->(∃ j∈past,c.An j i)∨(∃ j∈pl.DQ,c.An i j)∨i∈pl.pre:=by
 cases pl with
 |last pre pR=>exact fun i hi=>(s i hi).imp id .inr
 |cons pre pR q rest=>exact s.1
omit [Io] in
theorem vy{w:World}{ob:Obj}{b:Nat}:(w.alloc ob).heap[b]? =if b=w.heap.size then some ob else w.heap[b]? :=by
 show(w.heap.push _)[b]? =_
 rw[Array.getElem?_push]
omit [Io] in
theorem yn{g g':G}{w:World}{ob:Obj}(hm: ∀ id x,g.m id=some x->g'.m id=some x)(hi:g'.oz=g.oz)(hb: ∀ b,g.oz b->b<w.heap.size):xK g w g' (w.alloc ob):=
 ⟨hm,fun b i=>by rw[hi];exact i,fun b i=>by
  have:=hb b i
  rw[vy,if_neg (by omega)],fun b=>by
  unfold nY
  rw[vy]
  by_cases h:b=w.heap.size
  ·subst h;simp
  ·rw[if_neg h];exact Nat.le_refl _⟩
theorem KW{g g':G}{w:World}{h:Hp}{ob:Obj}{i:Nat}(hm: ∀ id x,g.m id=some x->g'.m id=some x)(hi:g'.oz=g.oz)(hb: ∀ b,g.oz b->b<w.heap.size)
 (Bc:g'.to h.next=g.to h.next)(p:c.OV g w h i):c.OV g' (w.alloc ob) h i:=by
 rcases p with p|⟨v,cs,b,C,el,vs,h1,h2,h3,h4,h5,h6,h7,h8,h9⟩
 ·exact .inl p
 ·have o5:=(Array.getElem?_eq_some_iff.1 h4).1
  refine .inr ⟨v,cs,b,C,el,vs,h1,h2,hm _ _ h3,by rw[vy,if_neg (by omega)];exact h4,by rw[hi];exact h5,by rw[Bc];exact h6,h7,?_,h9⟩
  refine cJ.o8 ?_ _ _ h8
  refine yn ?_ (by simp only[G.to];exact hi) (by simp only[G.to];exact hb)
  intro id x e
  simp only[G.to]at e ⊢
  by_cases qu:id<c.nx i
  ·rw[if_pos qu]at e ⊢;exact hm _ _ e
  ·rw[if_neg qu]at e;cases e
end Cx
end Go.Ab
