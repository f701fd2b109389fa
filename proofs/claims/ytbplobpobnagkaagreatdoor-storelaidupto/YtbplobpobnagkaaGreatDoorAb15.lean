import Derived.Test.YtbplobpobnagkaaGreatDoorAb10
noncomputable section
namespace Go.Ab
variable [Io]
def Rl(ops:Array Oper):List Nat->List Nat->Prop
 |D,[]=> ∀ i,i<ops.size->i∈D
 |D,i::s=>i<ops.size/\i∉D/\(∀ o e,ops[i]? =some o->e∈o.after->Region.binds .any e=true->e.on∈D)/\Rl ops (i::D) s
omit [Io] in
theorem filter_one{p:Nat->Bool}: ∀ (l:List Nat) (i:Nat),l.Nodup->i∈l->p i=true->(l.filter fun x=>p x&&x != i).length+1=(l.filter p).length
 | [],i,_,h,_=>by cases h
 |a::l,i,hn,h,hp=>by
  rw[List.nodup_cons]at hn
  by_cases ha:a=i
  ·subst ha
   have:(l.filter fun x=>p x&&x != a)=l.filter p:=by
    apply List.filter_congr
    intro x hx
    have:x≠a:=fun e=>hn.1 (e▸hx)
    simp[this]
   simp[List.filter_cons,hp,this]
  ·have hi:i∈l:=by
    cases h with
    |head=>exact absurd rfl ha
    |tail _ h=>exact h
   have:=filter_one l i hn.2 hi hp
   by_cases hpa:p a=true
   ·simp only[List.filter_cons,hpa,Bool.true_and,bne_iff_ne,ne_eq,ha,not_false_eq_true,decide_true,if_true,List.length_cons]
    omega
   ·simp only[List.filter_cons,hpa,Bool.false_and,Bool.false_eq_true,if_false]
    exact this
omit [Io] in
theorem least{p:Nat->Prop}: ∀ (n:Nat),p n-> ∃ m,p m/\ ∀ k,k<m-> ¬ p k:=by
 intro n
 induction n using Nat.strongRecOn with
 | _ n ih=>
  intro h
  by_cases hk: ∃ k,k<n/\p k
  ·obtain⟨k,hk,hp⟩:=hk
   exact ih k hk hp
  ·exact⟨n,h,fun k hkn hp=>hk ⟨k,hkn,hp⟩⟩
def Down(ops:Array Oper):Prop:= ∀ (i:Nat) (o:Oper) (e:Edge),ops[i]? =some o->e∈o.after->Region.binds .any e=true->e.on<i
omit [Io] in
theorem LG{ops:Array Oper}(hd:Down ops): ∀ (fuel t:Nat) (listed:Array Bool) (acc D:List Nat),listed.size=ops.size->(∀ i,i<ops.size->(listed.getD i false=true↔i∈D))->
 ((List.range ops.size).filter fun i=> !listed.getD i false).length=fuel-> ∃ s,Region.linearise.go .any ops fuel t listed acc=acc.reverse++s/\Rl ops D s
 |0,t,listed,acc,D,hs,hD,hc=>by
  refine⟨[],by simp[Region.linearise.go],fun i hi=>?_⟩
  have he:((List.range ops.size).filter fun i=> !listed.getD i false)=[]:=List.eq_nil_of_length_eq_zero hc
  rw[List.filter_eq_nil_iff]at he
  have:=he i (by simpa using hi)
  exact(hD i hi).1 (by simpa using this)
 |fuel+1,t,listed,acc,D,hs,hD,hc=>by
  have hgd: ∀ i,i<ops.size->listed.getD i true=listed.getD i false:=by
   intro i hi
   rw[Array.getD_eq_getD_getElem?,Array.getD_eq_getD_getElem?,Array.getElem?_eq_getElem (by omega)]
   rfl
  obtain⟨rs,hrs⟩: ∃ rs,rs=(List.range ops.size).filter (fun i=> !listed.getD i true&&((ops[i]?).map (·.after.all fun e=> !Region.binds .any e||listed.getD e.on false)).getD false):=⟨_,rfl⟩
  have I1: ∀ i,i∈rs↔i<ops.size/\i∉D/\ ∀ o e,ops[i]? =some o->e∈o.after->Region.binds .any e=true->e.on∈D:=by
   intro i
   rw[hrs,List.mem_filter,List.mem_range]
   constructor
   ·rintro⟨hi,h⟩
    simp only[Bool.and_eq_true,Bool.not_eq_true',hgd i hi]at h
    refine⟨hi,fun h2=>by rw[(hD i hi).2 h2]at h;exact absurd h.1 (by simp),?_⟩
    intro o e ho he hb
    rw[ho]at h
    simp only[Option.map_some,Option.getD_some,Array.all_eq_true_iff_forall_mem]at h
    have:=h.2 e he
    rw[hb]at this
    simp only[Bool.not_true,Bool.false_or]at this
    have gG:e.on<ops.size:=by
     have:=hd i o e ho he hb;omega
    exact(hD _ gG).1 this
   ·rintro⟨hi,h1,h2⟩
    refine⟨hi,?_⟩
    have ho:ops[i]? =some ops[i]:=Array.getElem?_eq_getElem hi
    have hf:listed.getD i false=false:=by
     rw[Bool.eq_false_iff]
     exact fun k=>h1 ((hD i hi).1 k)
    simp only[hgd i hi,hf,ho,Bool.not_false,Bool.true_and,Option.map_some,Option.getD_some,Array.all_eq_true_iff_forall_mem]
    intro e he
    cases hb:Region.binds .any e with
    |false=>rfl
    |true=>
     have gG:e.on<ops.size:=by have:=hd i _ e ho he hb;omega
     simp only[Bool.not_true,Bool.false_or]
     exact(hD _ gG).2 (h2 _ e ho he hb)
  have jN:rs≠[]:=by
   have:((List.range ops.size).filter fun i=> !listed.getD i false)≠[]:=by
    intro h;rw[h]at hc;cases hc
   obtain⟨x,hx⟩:=List.exists_mem_of_ne_nil _ this
   rw[List.mem_filter,List.mem_range]at hx
   obtain⟨m,⟨hm1,IC⟩,hm3⟩:=least (p:=fun i=>i<ops.size/\i∉D) x ⟨hx.1,fun k=>by
    have:=(hD x hx.1).2 k
    rw[this]at hx;exact absurd hx.2 (by simp)⟩
   have:m∈rs:=by
    rw[I1]
    refine⟨hm1,IC,fun o e ho he hb=>?_⟩
    have gG:=hd m o e ho he hb
    exact Classical.byContradiction fun k=>hm3 _ gG ⟨by omega,k⟩
   intro h;rw[h]at this;cases this
  have hlen:0<rs.length:=List.length_pos_iff.2 jN
  have gG:=Nat.mod_lt t hlen
  have Q1:rs[t % rs.length]? =some rs[t % rs.length]:=List.getElem?_eq_getElem gG
  obtain⟨i,hi⟩: ∃ i,i=rs[t % rs.length]:=⟨_,rfl⟩
  have I2:i∈rs:=by rw[hi];exact List.getElem_mem gG
  obtain⟨Xf,Kj,hi3⟩:=(I1 i).1 I2
  have hl: ∀ j,j<ops.size->(listed.setIfInBounds i true).getD j false=(listed.getD j false||j == i):=by
   intro j hj
   rw[Array.getD_eq_getD_getElem?,Array.getD_eq_getD_getElem?]
   by_cases EH:j=i
   ·subst EH
    rw[Array.getElem?_setIfInBounds_self_of_lt (by omega)]
    simp
   ·rw[Array.getElem?_setIfInBounds_ne (by omega)]
    simp[EH]
  obtain⟨s,G4,hs2⟩:=LG hd fuel (t / rs.length) (listed.setIfInBounds i true) (i::acc) (i::D) (by simpa using hs)
   (fun j hj=>by
    rw[hl j hj]
    simp only[Bool.or_eq_true,beq_iff_eq,List.mem_cons,hD j hj]
    exact Or.comm)
   (by
    have hnd:(List.range ops.size).Nodup:=List.nodup_range
    have hlf:listed.getD i false=false:=by rw[Bool.eq_false_iff];exact fun k=>Kj ((hD i Xf).1 k)
    have h1:=filter_one (p:=fun i=> !listed.getD i false) (List.range ops.size) i hnd (by simpa using Xf) (by simp only[hlf];rfl)
    have h2:((List.range ops.size).filter fun j=> !(listed.setIfInBounds i true).getD j false)=(List.range ops.size).filter fun x=>(!listed.getD x false)&&x != i:=by
     apply List.filter_congr
     intro x hx
     rw[hl x (by simpa using hx)]
     cases listed.getD x false<;>simp[bne]
    rw[h2]
    omega)
  refine⟨i::s,?_,Xf,Kj,hi3,hs2⟩
  rw[Region.linearise.go]
  simp only[<-hrs,Q1,<-hi,G4,List.reverse_cons,List.append_assoc,List.singleton_append]
omit [Io] in
theorem A8{ops:Array Oper}(hd:Down ops)(t:Nat):Rl ops [] (Region.schedule true ops t):=by
 have Ha: ∀ i,i<ops.size->(Array.replicate ops.size false).getD i false=false:=by
  intro i hi
  rw[Array.getD_eq_getD_getElem?]
  simp[hi]
 obtain⟨s,h1,h2⟩:=LG hd ops.size t (Array.replicate ops.size false) [] [] (by simp) (fun i hi=>by rw[Ha i hi];simp) (by
  have:((List.range ops.size).filter fun i=> !(Array.replicate ops.size false).getD i false)=List.range ops.size:=by
   rw[List.filter_eq_self]
   intro i hi
   rw[Ha i (by simpa using hi)];rfl
  rw[this];simp)
 have:Region.schedule true ops t=s:=by
  simp only[Region.schedule,Bool.true_or,if_true,Region.linearise]
  rw[h1];simp
 rw[this]
 exact h2
def pq(acc:List Nat)(es:List Edge):Nat:=
 List.rec 0 (fun e _ ih=>iu (Region.binds .any e) (Nat.lor (Nat.lor (Nat.pow 2 e.on) ((kY acc e.on).getD 0)) ih) ih) es
def qF(l:List Oper):List Nat->List Nat:=
 List.rec (fun acc=>acc) (fun o _ ih acc=>ih (app acc [pq acc o.after.toList])) l
omit [Io] in
theorem sH{acc:List Nat}{k:Nat}: ∀ {es:List Edge},(pq acc es).testBit k=true-> ∃ e∈es,Region.binds .any e=true/\(e.on=k∨(acc.getD e.on 0).testBit k=true)
 | [],h=>by simp[pq]at h
 |e::es,h=>by
  change (iu (Region.binds .any e) (Nat.lor (Nat.lor (Nat.pow 2 e.on) ((kY acc e.on).getD 0)) (pq acc es)) (pq acc es)).testBit k=true at h
  cases hb:Region.binds .any e with
  |false=>
   rw[hb]at h
   obtain⟨e',he,h'⟩:=sH (es:=es) h
   exact⟨e',List.mem_cons_of_mem _ he,h'⟩
  |true=>
   rw[hb]at h
   change ((2 ^ e.on ||| (kY acc e.on).getD 0) ||| pq acc es).testBit k=true at h
   rw[Nat.testBit_or,Nat.testBit_or,Nat.testBit_two_pow,Bool.or_eq_true,Bool.or_eq_true,gD]at h
   rcases h with(h|h)|h
   ·exact⟨e,List.mem_cons_self,hb,.inl (by simpa using h)⟩
   ·exact⟨e,List.mem_cons_self,hb,.inr (by simpa[List.getD]using h)⟩
   ·obtain⟨e',he,h'⟩:=sH (es:=es) h
    exact⟨e',List.mem_cons_of_mem _ he,h'⟩
omit [Io] in
theorem xM: ∀ (l:List Oper) (acc:List Nat),(qF l acc).length=acc.length+l.length/\(∀ k,k<acc.length->(qF l acc)[k]? =acc[k]?)/\
 ∀ i o k,l[i]? =some o->((qF l acc).getD (acc.length+i) 0).testBit k=true-> ∃ e∈o.after.toList,Region.binds .any e=true/\(e.on=k∨((qF l acc).getD e.on 0).testBit k=true)
 | [],acc=>⟨by simp[qF],fun k _=>rfl,fun i o k h=>by simp at h⟩
 |o::l,acc=>by
  have hm:qF (o::l) acc=qF l (acc++[pq acc o.after.toList]):=by
   show qF l (app acc _)=_
   rw[bp]
  obtain⟨h1,h2,h3⟩:=xM l (acc++[pq acc o.after.toList])
  rw[<-hm]at h1 h2 h3
  refine⟨by rw[h1];simp;omega,fun k hk=>?_,?_⟩
  ·rw[h2 k (by simp;omega),List.getElem?_append_left hk]
  ·intro i o' k hi hk
   cases i with
   |zero=>
    simp at hi
    subst hi
    have acg:(qF (o::l) acc)[acc.length]? =some (pq acc o.after.toList):=by
     rw[h2 acc.length (by simp)];simp
    simp only[Nat.add_zero,List.getD,acg,Option.getD_some]at hk
    obtain⟨e,he,hb,P8⟩:=sH hk
    refine⟨e,he,hb,P8.imp id fun h=>?_⟩
    by_cases gG:e.on<acc.length
    ·simp only[List.getD]at h ⊢
     rw[h2 _ (by simp;omega),List.getElem?_append_left gG];exact h
    ·simp only[List.getD,List.getElem?_eq_none (Nat.le_of_not_lt gG)]at h
     simp at h
   |succ i=>
    have:=h3 i o' k (by simpa using hi) (by
     simp only[List.length_append,List.length_cons,List.length_nil,Nat.zero_add]
     rw[show acc.length+1+i=acc.length+(i+1) by omega];exact hk)
    exact this
def Fi(ops:List Oper)(i k:Nat):Bool:=((qF ops []).getD i 0).testBit k
def A9(ops:List Oper)(D:List Nat):Prop:= ∀ j∈D,∀ k,Fi ops j k=true->k∈D
omit [Io] in
theorem CU{ops:Array Oper}{D:List Nat}(hc:A9 ops.toList D){i:Nat}{o:Oper}(ho:ops[i]? =some o)
 (h: ∀ o e,ops[i]? =some o->e∈o.after->Region.binds .any e=true->e.on∈D):(∀ k,Fi ops.toList i k=true->k∈D)/\A9 ops.toList (i::D):=by
 have h1: ∀ k,Fi ops.toList i k=true->k∈D:=by
  intro k hk
  obtain⟨_,_,h3⟩:=xM ops.toList []
  obtain⟨e,he,hb,P8⟩:=h3 i o k (by simpa using ho) (by simpa[Fi]using hk)
  have G9:=h o e ho (by simpa using he) hb
  rcases P8 with rfl|P8
  ·exact G9
  ·exact hc _ G9 k (by simpa[Fi]using P8)
 refine⟨h1,fun j hj k hk=>?_⟩
 cases hj with
 |head=>exact List.mem_cons_of_mem _ (h1 k hk)
 |tail _ hj=>exact List.mem_cons_of_mem _ (hc j hj k hk)
end Go.Ab

noncomputable section
namespace Go.Ab
variable [Io]
section
variable {P:Program}{call:cX}
omit [Io] in
theorem tL{t t':Tm}: ∀ (l:List Operand),(∀ x∈l,aM x t=aM x t')->uV (l.map aM) t=uV (l.map aM) t'
 | [],_=>rfl
 |x::l,h=>by
  show(Option.rec none (fun v=>Option.rec none (fun vs=>some (v::vs)) (uV (l.map aM) t)) (aM x t):Option (List AV))=
   Option.rec none (fun v=>Option.rec none (fun vs=>some (v::vs)) (uV (l.map aM) t')) (aM x t')
  rw[h x List.mem_cons_self,tL l fun y hy=>h y (List.mem_cons_of_mem _ hy)]
omit [Io] in
theorem xN{t t':Tm}: ∀ (l:List (Nat×Operand)),(∀ x∈l.map (·.2),aM x t=aM x t')->nE (pn l) t=nE (pn l) t'
 | [],_=>rfl
 |p::l,h=>by
  show(match aM p.2 t with|some v=>(match nE (pn l) t with|some vs=>some ((p.1,v)::vs)|none=>none)|none=>none)=
   (match aM p.2 t' with|some v=>(match nE (pn l) t' with|some vs=>some ((p.1,v)::vs)|none=>none)|none=>none)
  rw[h p.2 List.mem_cons_self,xN l fun y hy=>h y (List.mem_cons_of_mem _ hy)]
omit [Io] in
theorem xO{t t':Tm}{place:Nat->Option (Nat×Nat)}: ∀ (l:List (Nat×Operand)) (ps:List (Nat×Nat×eJ)),u7 place l=some ps->(∀ x∈l.map (·.2),aM x t=aM x t')->nF ps t=nF ps t'
 | [],ps,e,_=>by cases e;rfl
 |p::l,ps,e,h=>by
  change (match place p.1 with|some (off,size)=>(match u7 place l with|some r=>some ((off,size,aM p.2)::r)|none=>none)|none=>none)=some ps at e
  split at e
  ·split at e
   ·rename_i r hr
    cases e
    show(match aM p.2 t with|some v=>(match nF r t with|some vs=>some ((_,_,v)::vs)|none=>none)|none=>none)=
     (match aM p.2 t' with|some v=>(match nF r t' with|some vs=>some ((_,_,v)::vs)|none=>none)|none=>none)
    rw[h p.2 List.mem_cons_self,xO l r hr fun y hy=>h y (List.mem_cons_of_mem _ hy)]
   ·cases e
  ·cases e
omit [Io] in
theorem xP{t t':Tm}{d:Nat}(x:Option Operand)(h: ∀ y∈x.toList,aM y t=aM y t'):nG (x.map aM) t d=nG (x.map aM) t' d:=by
 cases x with
 |none=>rfl
 |some y=>simp only[Option.map_some,nG,h y (by simp)]
omit [Io] in
theorem Fj{t t':Tm}{n:Nat}(lo hi:Option Operand)(h1: ∀ y∈lo.toList,aM y t=aM y t')(h2: ∀ y∈hi.toList,aM y t=aM y t'):
 bounds (lo.map aM) (hi.map aM) t n=bounds (lo.map aM) (hi.map aM) t' n:=by
 unfold bounds
 rw[xP lo h1,xP hi h2]
def fo(t t':Tm)(h:Hp)(f:eH):Prop:=f t h=f t' h
omit [Io] in
theorem Rm{t t':Tm}{h:Hp}:fo t t' h bE:=rfl
omit [Io] in
theorem lJ{t t':Tm}{h:Hp}{c:Bool}{f:eH}(e:fo t t' h f):fo t t' h (iu c f bE):=by cases c;exact Rm;exact e
omit [Io] in
theorem LH{t t':Tm}{h:Hp}{c:Bool}{f f':eH}(e:fo t t' h f)(e':fo t t' h f'):fo t t' h (iu c f f'):=by cases c;exact e';exact e
omit [Io] in
theorem Rp{t t':Tm}{h:Hp}(o:Op)(e: ∀ x∈o.operands.toList,aM x t=aM x t'):fo t t' h (po P call o).2:=by
 cases o<;>simp only[po]
 case move x=>simp only[fo,aa,e x (by simp[Op.operands])]
 case assign x=>simp only[fo,aa,e x (by simp[Op.operands])]
 case pick c x y=>simp only[fo,aV,aa,e c (by simp[Op.operands]),e x (by simp[Op.operands]),e y (by simp[Op.operands])]
 case alloc T=>unfold Lu;split<;>rfl
 case box T x=>simp only[fo,en,e x (by simp[Op.operands])]
 case build T ps=>
  unfold xD
  split
  ·split
   ·split
    ·rename_i q h3
     simp only[fo,au,xO (t:=t) (t':=t') ps.toList q h3 (fun x hx=>e x (by simpa[Op.operands]using hx))]
    ·rfl
   ·rfl
  ·rfl
 case buildSlice T n ps=>
  have hp:=xN (t:=t) (t':=t') ps.toList (fun x hx=>e x (by simpa[Op.operands]using hx))
  unfold KW
  split
  ·split
   ·split
    ·refine lJ ?_
     simp only[fo,bC,hp]
    ·rfl
   ·rfl
  ·rfl
 case load T x=>
  unfold CO
  split
  ·split
   ·simp only[fo,bg,e x (by simp[Op.operands])]
   ·rfl
  ·rfl
 case store T x y=>
  unfold AY
  split
  ·refine lJ ?_
   simp only[fo,aH,e x (by simp[Op.operands]),e y (by simp[Op.operands])]
  ·rfl
 case nilCheck x=>simp only[fo,bq,e x (by simp[Op.operands])]
 case binOp op T x y yT=>
  cases CN P op T with
  |none=>rfl
  |some f=>simp only[fo,ah,e x (by simp[Op.operands]),e y (by simp[Op.operands])]
 case unOp op T x=>
  cases Xd op with
  |none=>rfl
  |some f=>simp only[fo,fg,e x (by simp[Op.operands])]
 case convert S D x=>
  have hx:=e x (by simp[Op.operands])
  split
  ·simp only[A2]
   split
   ·split
    ·split
     ·simp only[fo,pf,hx]
     ·rfl
    ·rfl
   ·split
    ·split
     ·refine lJ ?_
      simp only[fo,rZ,hx]
     ·rfl
    ·rfl
   ·rfl
  ·simp only[Lr]
   split
   ·split
    ·simp only[fo,wu,wO,hx]
    ·rfl
   ·rfl
  ·simp only[z8]
   split
   ·split
    ·simp only[fo,fg,hx]
    ·rfl
   ·rfl
 case makeFunc f first caps=>
  cases f<;>try rfl
  simp only
  split
  ·simp only[fo,P4,tL (t:=t) (t':=t') caps.toList (fun x hx=>e x (by simp[Op.operands];exact .inr (by simpa using hx)))]
  ·rfl
 case makeMap T r=>cases r<;>rfl
 case makeSlice T l c=>
  have h1:=e l (by simp[Op.operands])
  have h2:=e c (by simp[Op.operands])
  unfold CE
  split
  ·split
   ·split
    ·refine lJ ?_
     simp only[fo,m0,h1,h2]
    ·rfl
   ·rfl
  ·rfl
 case slice T x lo hi mx=>
  cases mx with
  |some m=>
   have hx:=e x (by simp[Op.operands])
   have hm:=e m (by simp[Op.operands])
   have hh: ∀ y∈hi.toList,aM y t=aM y t':=fun y hy=>e y (by simp[Op.operands];right;right;left;simpa using hy)
   simp only
   unfold tJ
   split
   ·rename_i y
    have hy:=hh y (by simp)
    split
    ·split
     ·simp only[fo,xr,wO,hx,hy,hm]
     ·rfl
    ·rfl
   ·rfl
  |none=>
  have hx:=e x (by simp[Op.operands])
  have hl: ∀ y∈lo.toList,aM y t=aM y t':=fun y hy=>e y (by simp[Op.operands];right;left;simpa using hy)
  have hh: ∀ y∈hi.toList,aM y t=aM y t':=fun y hy=>e y (by simp[Op.operands];right;right;simpa using hy)
  have hb: ∀ n,bounds (lo.map aM) (hi.map aM) t n=bounds (lo.map aM) (hi.map aM) t' n:=fun n=>Fj lo hi hl hh
  simp only
  unfold xI
  split
  ·simp only[fo,dg,hx,hb]
  ·split
   ·simp only[fo,cK,nH,hx,hb]
   ·rfl
  ·split
   ·refine lJ ?_
    simp only[fo,iO,hx,hb]
   ·rfl
  ·rfl
 case fieldAddr T x n=>
  have hx:=e x (by simp[Op.operands])
  unfold mB
  split
  ·split
   ·split
    ·refine lJ ?_
     simp only[fo,ab,hx]
    ·rfl
   ·rfl
  ·rfl
 case field T x n=>
  have hx:=e x (by simp[Op.operands])
  unfold xG
  split
  ·split
   ·split
    ·split
     ·simp only[fo,nI,hx]
     ·rfl
    ·rfl
   ·rfl
  ·rfl
 case indexAddr T x y=>
  have hx:=e x (by simp[Op.operands])
  have hy:=e y (by simp[Op.operands])
  unfold mC
  split
  ·split
   ·simp only[fo,bG,hx,hy]
   ·rfl
  ·split
   ·simp only[fo,rK,hx,hy]
   ·rfl
  ·rfl
 case index T x y=>
  have hx:=e x (by simp[Op.operands])
  have hy:=e y (by simp[Op.operands])
  unfold xH
  split
  ·split
   ·split
    ·simp only[fo,kZ,hx,hy]
    ·rfl
   ·rfl
  ·simp only[fo,cq,hx,hy]
  ·rfl
 case extract x i=>simp only[fo,aS,e x (by simp[Op.operands])]
 case call c=>
  have og: ∀ x∈c.args.toList,aM x t=aM x t':=fun x hx=>e x (by simp[Op.operands,Call.operands];right;simpa using hx)
  cases hb:jl P c with
  |some f=>
   simp only
   unfold jl at hb
   split at hb
   ·split at hb
    ·rename_i x T h1 h2
     cases hb
     have hx:=og x (by simp[h1])
     unfold Ls
     split
     ·simp only[fo,jU,hx]
     ·simp only[fo,aW,wO,hx]
     ·rfl
     ·rfl
    ·cases hb;rfl
   ·split at hb
    ·rename_i x T h1 h2
     cases hb
     have hx:=og x (by simp[h1])
     unfold Lt
     split
     ·simp only[fo,tv,wO,hx]
     ·rfl
    ·cases hb;rfl
   ·split at hb
    ·rename_i x y h1
     cases hb
     simp only[fo,AH,ah,og x (by simp[h1]),og y (by simp[h1])]
    ·cases hb;rfl
   ·split at hb
    ·rename_i x y h1
     cases hb
     simp only[fo,AJ,ah,og x (by simp[h1]),og y (by simp[h1])]
    ·cases hb;rfl
   ·cases hb
  |none=>
   simp only
   unfold G8
   split
   ·split
    ·rename_i s x T T' h1 h2
     have h3:=og s (by simp[h1])
     have h4:=og x (by simp[h1])
     refine LH ?_ ?_
     ·unfold wU
      split
      ·split
       ·split
        ·refine lJ ?_
         simp only[fo,aO,pg,wO,h3,h4]
        ·rfl
       ·rfl
      ·rfl
     ·unfold G5
      split
      ·unfold G3
       split
       ·split
        ·split
         ·split
          ·refine lJ ?_
           simp only[fo,tx,h3,h4]
          ·rfl
         ·rfl
        ·rfl
       ·rfl
      ·unfold G2
       split
       ·split
        ·split
         ·split
          ·refine lJ ?_
           simp only[fo,rY,h3,h4]
          ·rfl
         ·rfl
        ·rfl
       ·rfl
    ·rfl
   ·split
    ·rename_i d s T T' h1 h2
     have h3:=og d (by simp[h1])
     have h4:=og s (by simp[h1])
     unfold G7
     split
     ·split
      ·simp only[fo,jV,wO,h3,h4]
      ·rfl
     ·rfl
    ·rfl
   ·rename_i f args sF
    simp only[fo,an,tL (t:=t) (t':=t') args.toList og]
   ·rename_i f args sF _
    have hf:=e f (by simp[Op.operands,Call.operands])
    simp only[fo,iy,hf,tL (t:=t) (t':=t') args.toList og]
   ·rfl
 all_goals rfl
def CV:Operand->List Nat
 | .tmp i=>[i]
 | _=>[]
def ru(all:List Oper)(o:Oper):List Nat:=
 app (List.rec [] (fun x _ ih=>app (CV x) ih) o.op.operands.toList) (match o.guard with
  |none=>[]
  |some (j,_)=>match kY all j with
   |some oj=>match oj.dst with
    |some d=>[d]
    |none=>[]
   |none=>[])
omit [Io] in
theorem CW{x:Operand}{i:Nat}: ∀ {l:List Operand},x∈l->i∈CV x->i∈(List.rec [] (fun x _ ih=>app (CV x) ih) l:List Nat)
 | [],h,_=>by cases h
 |y::l,h,hi=>by
  show i∈app (CV y) _
  rw[bp]
  cases h with
  |head=>exact List.mem_append_left _ hi
  |tail _ h=>exact List.mem_append_right _ (CW h hi)
omit [Io] in
theorem Rq{nt:Nat}{all:List Oper}{o:Oper}{t t':Tm}{h:Hp}(e: ∀ u∈ru all o,t.at u=t'.at u):kW P call nt all o t h=kW P call nt all o t' h:=by
 have hx: ∀ x∈o.op.operands.toList,aM x t=aM x t':=by
  intro x hx
  cases x with
  |tmp i=>
   have:=e i (by unfold ru;rw[bp];exact List.mem_append_left _ (CW hx (by simp[CV])))
   show iu (Nat.blt i 512) (oT i) oX t=iu (Nat.blt i 512) (oT i) oX t'
   cases Nat.blt i 512
   ·rfl
   ·exact this
  |const v=>show(match Qm v with|some a=>oC a|none=>oX) t=(match Qm v with|some a=>oC a|none=>oX) t';cases Qm v<;>rfl
  |global g=>rfl
  |func f=>rfl
 have hd:=Rp (P:=P) (call:=call) (h:=h) o.op hx
 unfold kW
 cases hg:o.guard with
 |none=>exact hd
 |some p=>
  obtain⟨j,want⟩:=p
  simp only
  cases hj:kY all j with
  |none=>rfl
  |some oj=>
   simp only
   cases hdj:oj.dst with
   |none=>rfl
   |some d=>
    simp only
    cases Nat.blt d nt with
    |false=>rfl
    |true=>
     have GZ:t.at d=t'.at d:=e d (by
      unfold ru
      rw[bp,hg]
      refine List.mem_append_right _ ?_
      simp[hj,hdj])
     show gF (oT d) want (po P call o.op).2 t h=gF (oT d) want (po P call o.op).2 t' h
     unfold gF
     unfold fo at hd
     rw[hd]
     show(match t.at d with|some (.bool b)=>_|some (.wm [])=>_| _=>_)=(match t'.at d with|some (.bool b)=>_|some (.wm [])=>_| _=>_)
     rw[GZ]
end
end Go.Ab

noncomputable section
namespace Go.Ab
variable [Io]
section
variable {P:Program}{call:cX}
def kM(f:eH):Prop:= ∀ t h h0,f t h=(match f t h0 with| .ok v _=>.ok v h| .bad=>.bad)
omit [Io] in
theorem kM.ok{f:eH}(i:kM f){t:Tm}{h h':Hp}{v:AV}(e:f t h=.ok v h'):h'=h/\ ∀ h0,f t h0=.ok v h0:=by
 refine⟨?_,fun h0=>by rw[i t h0 h,e]⟩
 have:=i t h h
 rw[e]at this
 exact(Ro.ok.inj this).2
omit [Io] in
theorem cR:kM bE:=fun _ _ _=>rfl
omit [Io] in
theorem Hb{c:Bool}{f:eH}(i:kM f):kM (iu c f bE):=by cases c;exact cR;exact i
omit [Io] in
theorem qG{x:eJ}:kM (aa x):=by intro t h h0;unfold aa;cases x t<;>rfl
omit [Io] in
theorem LJ{c x y:eJ}:kM (aV c x y):=by
 intro t h h0;unfold aV;cases c t<;>try rfl
 rename_i a;cases a<;>try rfl
 rename_i b;cases b
 ·exact qG t h h0
 ·exact qG t h h0
omit [Io] in
theorem Ru{x:eJ}:kM (bq x):=by intro t h h0;unfold bq;cases x t<;>try rfl
                               rename_i a;cases a<;>rfl
omit [Io] in
theorem A'{f:AV->AV->Option AV}{x y:eJ}:kM (ah f x y):=by
 intro t h h0;unfold ah;cases x t<;>try rfl
 rename_i a;cases y t<;>try rfl
 rename_i b;simp only;cases f a b<;>rfl
omit [Io] in
theorem LK{f:AV->Option AV}{x:eJ}:kM (fg f x):=by
 intro t h h0;unfold fg;cases x t<;>try rfl
 rename_i a;simp only;cases f a<;>rfl
omit [Io] in
theorem Xg{f:FuncId}{l:List eJ}:kM (P4 f l):=by intro t h h0;unfold P4;cases uV l t<;>rfl
omit [Io] in
theorem I3{z:List AV}{ps:List (Nat×Nat×eJ)}:kM (au z ps):=by
 intro t h h0;unfold au;cases nF ps t<;>try rfl
 rename_i vs;simp only;cases xn vs z<;>rfl
omit [Io] in
theorem zq{n:Nat}{x:eJ}:kM (ab n x):=by intro t h h0;unfold ab;cases x t<;>try rfl
                                        rename_i a;cases a<;>rfl
omit [Io] in
theorem I4{n m:Nat}{b:Bool}{x:eJ}:kM (nI n m b x):=by
 intro t h h0;unfold nI;cases x t<;>try rfl
 rename_i a;cases a<;>try rfl
 rename_i cs;simp only;cases part b cs n m<;>rfl
omit [Io] in
theorem Rv{n:Nat}{x y:eJ}:kM (bG n x y):=by
 intro t h h0;unfold bG;cases y t<;>try rfl
 rename_i a;cases a<;>try rfl
 rename_i k i;cases i<;>try rfl
 rename_i i;simp only;cases x t<;>try rfl
 rename_i a;cases a<;>try rfl
 ·rename_i id off m sz;simp only;cases(Nat.blt i m&&Nat.beq sz n)<;>rfl
 ·rename_i m cs;simp only;cases Nat.blt i m<;>rfl
omit [Io] in
theorem Ry{m n:Nat}{x y:eJ}:kM (rK m n x y):=by
 intro t h h0;unfold rK;cases y t<;>try rfl
 rename_i a;cases a<;>try rfl
 rename_i k i;cases i<;>try rfl
 rename_i i;simp only;cases x t<;>try rfl
 rename_i a;cases a<;>try rfl
 ·simp only;cases Nat.blt i m<;>rfl
 ·simp only;cases Nat.blt i m<;>rfl
omit [Io] in
theorem I5{m n:Nat}{b:Bool}{x y:eJ}:kM (kZ m n b x y):=by
 intro t h h0;unfold kZ;cases x t<;>try rfl
 rename_i a;cases a<;>try rfl
 rename_i cs;simp only;cases y t<;>try rfl
 rename_i a;cases a<;>try rfl
 rename_i k i;cases i<;>try rfl
 rename_i i;simp only;cases Nat.blt i m<;>try rfl
 simp only[cond_true];cases part b cs (Nat.mul i n) n<;>rfl
omit [Io] in
theorem Fk{x y:eJ}:kM (cq x y):=by
 intro t h h0;unfold cq;cases x t<;>try rfl
 rename_i a;cases a<;>try rfl
 rename_i v;cases v<;>try rfl
 rename_i s;simp only;cases y t<;>try rfl
 rename_i a;cases a<;>try rfl
 ·rename_i k i;cases i<;>try rfl
  rename_i i;simp only;cases kY s.data.toList i<;>rfl
 ·rename_i k sv lo hi o;simp only;cases(!(kV (Int.add lo o) 0)&&kV (Int.add hi o) (.ofNat s.size))<;>rfl
omit [Io] in
theorem CX{x:eJ}{i:Nat}:kM (aS x i):=by
 intro t h h0;unfold aS;cases x t<;>try rfl
 rename_i a;cases a<;>try rfl
 rename_i vs;simp only;cases kY vs i<;>rfl
omit [Io] in
theorem LL{x:eJ}:kM (jU x):=by
 intro t h h0;unfold jU;cases x t<;>try rfl
 rename_i a;cases a<;>try rfl
 rename_i v;cases v<;>rfl
omit [Io] in
theorem Rz{x:eJ}:kM (aW x):=by
 intro t h h0;unfold aW;cases x t<;>try rfl
 rename_i a;cases a<;>rfl
omit [Io] in
theorem RA{x:eJ}:kM (tv x):=by
 intro t h h0;unfold tv;cases x t<;>try rfl
 rename_i a;cases a<;>rfl
omit [Io] in
theorem RB{o:Op}(hc:(po P call o).1=.p0):kM (po P call o).2:=by
 cases o<;>simp only[po]at hc ⊢
 case move x=>exact qG
 case assign x=>exact qG
 case pick c x y=>exact LJ
 case alloc T=>cases hc
 case box T x=>cases hc
 case build T ps=>
  unfold xD
  split
  ·split
   ·split
    ·exact I3
    ·exact cR
   ·exact cR
  ·exact cR
 case buildSlice T n ps=>cases hc
 case load T x=>cases hc
 case store T x y=>cases hc
 case nilCheck x=>exact Ru
 case binOp op T x y yT=>
  cases CN P op T with
  |some f=>exact A'
  |none=>exact cR
 case unOp op T x=>
  cases Xd op with
  |some f=>exact LK
  |none=>exact cR
 case convert S D x=>
  have gh:kM (z8 P S D x):=by
   unfold z8
   split
   ·split
    ·exact LK
    ·exact cR
   ·exact cR
  split
  ·rename_i h
   rw[h]at hc
   cases hc
  ·rename_i h
   rw[h]at hc
   cases hc
  ·exact gh
 case makeFunc f first caps=>
  cases f<;>try (cases hc;done)
  simp only
  cases first.toList with
  |nil=>exact Xg
  |cons a l=>exact cR
 case makeSlice T l c=>cases hc
 case slice T x lo hi mx=>cases mx<;>cases hc
 case fieldAddr T x n=>
  unfold mB
  split
  ·split
   ·split
    ·exact Hb zq
    ·exact cR
   ·exact cR
  ·exact cR
 case field T x n=>
  unfold xG
  split
  ·split
   ·split
    ·split
     ·exact I4
     ·exact cR
    ·exact cR
   ·exact cR
  ·exact cR
 case indexAddr T x y=>
  unfold mC
  split
  ·split
   ·exact Rv
   ·exact cR
  ·split
   ·exact Ry
   ·exact cR
  ·exact cR
 case index T x y=>
  unfold xH
  split
  ·split
   ·split
    ·exact I5
    ·exact cR
   ·exact cR
  ·exact Fk
  ·exact cR
 case extract x i=>exact CX
 case call c=>
  cases hb:jl P c with
  |none=>rw[hb]at hc;cases hc
  |some f=>
   simp only
   unfold jl at hb
   split at hb
   ·split at hb
    ·cases hb
     unfold Ls
     split
     ·exact LL
     ·exact Rz
     ·exact qG
     ·exact cR
    ·cases hb;exact cR
   ·split at hb
    ·cases hb
     unfold Lt
     split
     ·exact RA
     ·exact cR
    ·cases hb;exact cR
   ·split at hb
    ·cases hb;exact A'
    ·cases hb;exact cR
   ·split at hb
    ·cases hb;exact A'
    ·cases hb;exact cR
   ·cases hb
 case makeMap T r=>cases r<;>cases hc
 all_goals (cases hc)
def I6(f:eH):Prop:= ∀ t h v h',f t h=.ok v h'-> ∀ h0:Hp,h0.next=h.next->(h'=h/\f t h0=.ok v h0)∨ ∃ cs,h'=dw h cs/\f t h0=.ok v (dw h0 cs)
omit [Io] in
theorem jm:I6 bE:=by intro t h v h' e;cases e
omit [Io] in
theorem xQ{c:Bool}{f:eH}(i:I6 f):I6 (iu c f bE):=by cases c;exact jm;exact i
omit [Io] in
theorem LM{o:Op}(hc:(po P call o).1=.al):I6 (po P call o).2:=by
 cases o<;>simp only[po]at hc ⊢
 case alloc T=>
  unfold Lu
  split
  ·intro t h v h' e h0 hn
   cases e
   exact .inr ⟨_,rfl,by unfold dY;rw[hn]⟩
  ·exact jm
 case box T x=>
  intro t h v h' e h0 hn
  unfold en at e ⊢
  cases hx:aM x t with
  |none=>rw[hx]at e;cases e
  |some a=>rw[hx]at e;cases e;exact .inr ⟨_,rfl,by rw[hn]⟩
 case buildSlice T n ps=>
  unfold KW
  split
  ·split
   ·split
    ·refine xQ ?_
     rename_i ie nd _ z hz0
     intro t h v h' e h0 hn
     unfold bC at e ⊢
     cases hp:nE (pn ps.toList) t with
     |none=>rw[hp]at e;cases e
     |some vs=>
      rw[hp]at e
      simp only at e ⊢
      cases hz:Nat.beq n 0 with
      |true=>
       rw[hz]at e
       cases vs with
       |nil=>cases e;exact .inl ⟨rfl,rfl⟩
       |cons _ _=>cases e
      |false=>
       rw[hz]at e
       simp only[cond_false]at e ⊢
       cases hf:rj n ie.size z vs with
       |none=>rw[hf]at e;cases e
       |some cs=>rw[hf]at e;cases e;exact .inr ⟨_,rfl,by rw[hn]⟩
    ·exact jm
   ·exact jm
  ·exact jm
 case makeSlice T l c=>
  unfold CE
  split
  ·split
   ·split
    ·refine xQ ?_
     rename_i ie nd _ z hz0
     intro t h v h' e h0 hn
     unfold m0 at e ⊢
     cases hl:aM l t with
     |none=>rw[hl]at e;cases e
     |some a=>
     cases a<;>try (rw[hl]at e;cases e;done)
     rename_i k i
     cases i<;>try (rw[hl]at e;cases e;done)
     rename_i i
     rw[hl]at e
     simp only at e ⊢
     cases Q0:aM c t with
     |none=>rw[Q0]at e;cases e
     |some a=>
     cases a<;>try (rw[Q0]at e;cases e;done)
     rename_i k2 j
     cases j<;>try (rw[Q0]at e;cases e;done)
     rename_i j
     rw[Q0]at e
     simp only at e ⊢
     cases hb:(Nat.ble i j&&Nat.ble (Nat.mul j ie.bytes) 70368744177664)with
     |false=>rw[hb]at e;cases e
     |true=>
     rw[hb]at e
     simp only[cond_true]at e ⊢
     cases hz:Nat.beq j 0 with
     |true=>rw[hz]at e;cases e;exact .inl ⟨rfl,rfl⟩
     |false=>rw[hz]at e;cases e;exact .inr ⟨_,rfl,by simp only[cond_false];rw[hn]⟩
    ·exact jm
   ·exact jm
  ·exact jm
 case binOp op T x y yT=>cases h:CN P op T<;>rw[h]at hc<;>cases hc
 case unOp op T x=>cases h:Xd op<;>rw[h]at hc<;>cases hc
 case convert S D x=>
  cases h:P.underlying D with
  |none=>rw[h]at hc;cases hc
  |some d=>cases d<;>rw[h]at hc<;>cases hc
 case makeFunc f first caps=>
  cases f<;>try (cases hc;done)
  simp only at hc
  cases h:first.toList<;>rw[h]at hc<;>cases hc
 case slice T x lo hi mx=>cases mx<;>cases hc
 case makeMap T r=>cases r<;>cases hc
 case call c=>cases h:jl P c<;>rw[h]at hc<;>cases hc
 all_goals (cases hc)
end
end Go.Ab

noncomputable section
namespace Go.Ab
variable [Io]
def G.to(g:G)(N:Nat):G:=⟨fun id=>if id<N then g.m id else none,g.fw⟩
omit [Io] in
theorem Ac(g:G)(w:World):tz g w g w:=⟨fun _ _ e=>e,fun _ i=>i,fun _ _=>rfl,fun _=>Nat.le_refl _⟩
omit [Io] in
theorem px(g:G)(w:World){N M:Nat}(h:N<=M):tz (g.to N) w (g.to M) w:=
 ⟨(by
   intro id x e
   simp only[G.to]at e ⊢
   by_cases h1:id<N
   ·rw[if_pos h1]at e;rw[if_pos (by omega)];exact e
   ·rw[if_neg h1]at e;cases e),fun _ i=>i,fun _ _=>rfl,fun _=>Nat.le_refl _⟩
def fR(N:Nat):Hp:=⟨N,.nil⟩
theorem LN{g:G}{w:World}{N:Nat}(h: ∀ b,g.fw b->b<w.heap.size):HC g w (fR N):=⟨(fun _ _ e=>by cases e),h⟩
section
variable {P:Program}{call:cX}{o:Oper}
theorem vJ{ops:Array Oper}{g w nt t h}{a:Act}{v:AV}{h':Hp}(T:TR g w nt t a.tmps)
 (e:kW P call nt ops.toList o t h=.ok v h'):(Region.wanted o (yielded ops a.tmps)=true/\(po P call o.op).2 t h=.ok v h')∨
  (Region.wanted o (yielded ops a.tmps)=false/\v=gQ/\h'=h):=by
 unfold kW at e
 cases hg:o.guard with
 |none=>
  rw[hg]at e
  exact .inl ⟨by simp[Region.wanted,hg],e⟩
 |some p=>
  obtain⟨j,want⟩:=p
  rw[hg]at e
  simp only[gD]at e
  cases hj:ops.toList[j]? with
  |none=>simp only[hj]at e;cases e
  |some oj=>
  simp only[hj]at e
  cases hd:oj.dst with
  |none=>simp only[hd]at e;cases e
  |some d=>
  simp only[hd]at e
  cases hb:Nat.blt d nt with
  |false=>simp only[hb]at e;cases e
  |true=>
  simp only[hb]at e
  have Kk:=bH.1 hb
  change gF (oT d) want (po P call o.op).2 t h=.ok v h' at e
  have hj':ops[j]? =some oj:=by simpa using hj
  have rM:=T.2.1
  have hy: ∀ y,a.tmps.getD d undef=y->yielded ops a.tmps j=match y with| .bool b=>some b| _=>none:=by
   intro y hy
   have:a.tmps[d]? =some y:=by
    rw[Array.getD_eq_getD_getElem?]at hy
    rw[Array.getElem?_eq_getElem (by omega)]at hy ⊢
    simpa using hy
   simp[yielded,hj',hd,this]
   cases y<;>rfl
  unfold gF at e
  split at e
  ·rename_i b CG
   have hv:=(T.2.2 d _ (by have:=T.1;omega) CG).2
   simp only[VR]at hv
   have Rf:=hy _ hv
   cases Rg:(iu want b (!b))with
   |true=>
    rw[Rg]at e
    have:b=want:=by cases want<;>cases b<;>simp[iu]at Rg<;>rfl
    exact .inl ⟨by simp[Region.wanted,hg,Rf,this],e⟩
   |false=>
    rw[Rg]at e
    have:b≠want:=by cases want<;>cases b<;>simp[iu]at Rg<;>simp
    cases e
    exact .inr ⟨by simp[Region.wanted,hg,Rf,this],rfl,rfl⟩
  ·rename_i CG
   have hv:=(T.2.2 d _ (by have:=T.1;omega) CG).2
   simp only[VR]at hv
   obtain⟨vs,hv,eI⟩:=hv
   have Rf:=hy _ hv
   cases e
   exact .inr ⟨by simp[Region.wanted,hg,Rf],rfl,rfl⟩
  ·cases e
theorem CY(g:G)(w:World):VR g w gQ undef:=by simp only[gQ,VR];exact⟨_,rfl,by simp[bD]⟩
theorem Ad(hc:eQ P call){ops:Array Oper}{i:Nat}(hi:ops[i]? =some o){g w nt t h}{a:Act}{v:AV}{h':Hp}(fY:(po P call o.op).1=.p0∨(po P call o.op).1=.p1)
 (H:HC g w h)(T:TR g w nt t a.tmps)(e:kW P call nt ops.toList o t h=.ok v h'){Q:Exit->Act->World->Prop}{rest:List Nat}
 (K: ∀ x,VR g w v x->wpOps P ops Q rest (a.put o.dst x) w):wpOps P ops Q (i::rest) a w:=by
 rw[wpOps,hi]
 simp only
 have hp:bI P o (po P call o.op).2:=by
  have:=A5 (o:=o) hc
  cases h:po P call o.op with
  |mk c f=>
   rw[h]at this fY
   cases c
   ·exact this
   ·exact this
   ·rcases fY with h|h<;>cases h
   ·rcases fY with h|h<;>cases h
 rcases vJ T e with⟨hw,e⟩|⟨hw,rfl,rfl⟩
 ·rw[if_pos hw]
  obtain⟨rfl,x,hx,hv⟩:=hp g w nt t h a v h' H T e
  refine .inl ?_
  unfold Oper.wp
  rw[hx]
  exact K x hv
 ·rw[if_neg (by simp[hw])]
  exact K undef (CY g w)
theorem LO(hc:eQ P call){ops:Array Oper}{i:Nat}(hi:ops[i]? =some o){g w nt t h}{a:Act}{v:AV}{h':Hp}(fY:(po P call o.op).1=.al)
 (H:HC g w h)(T:TR g w nt t a.tmps)(e:kW P call nt ops.toList o t h=.ok v h'){Q:Exit->Act->World->Prop}{rest:List Nat}
 (K1:h'=h-> ∀ x w',(w'=w∨ ∃ ob,w'=w.alloc ob)->(∀ g' w',VR g' w' v x)->wpOps P ops Q rest (a.put o.dst x) w')
 (K2: ∀ cs C el vs x,h'=dw h cs->bD g w cs.toL vs->(∀ (j:Nat) (v:Value),vs[j]? =some v->C[j]? =some v)->
  (∀ g' w',g'.m h.next=some (w.heap.size,0)->C.size<=dU w' w.heap.size->VR g' w' v x)->wpOps P ops Q rest (a.put o.dst x) (w.alloc (.cells C el))):
 wpOps P ops Q (i::rest) a w:=by
 rw[wpOps,hi]
 simp only
 have hp:n9 P o (po P call o.op).2:=by
  have:=A5 (o:=o) hc
  cases h:po P call o.op with
  |mk c f=>rw[h]at this fY;simp only at fY;subst fY;exact this
 rcases vJ T e with⟨hw,e⟩|⟨hw,rfl,rfl⟩
 ·rw[if_pos hw]
  rcases hp g w nt t h a v h' H T e with⟨rfl,x,C,el,hr,hv⟩|⟨cs,C,el,vs,x,rfl,hr,eI,hC,hv⟩
  ·refine .inl ?_
   unfold Oper.wp
   rw[hr]
   exact K1 rfl x _ (.inr ⟨_,rfl⟩) hv
  ·refine .inl ?_
   unfold Oper.wp
   rw[hr]
   exact K2 cs C el vs x rfl eI hC hv
 ·rw[if_neg (by simp[hw])]
  exact K1 rfl undef _ (.inl rfl) (fun g w=>CY g w)
omit [Io] in
theorem tN{nt:Nat}{all:List Oper}(fY:(po P call o.op).1=.p0):kM (kW P call nt all o):=by
 have hf:kM (po P call o.op).2:=RB fY
 unfold kW
 cases o.guard with
 |none=>exact hf
 |some p=>
  obtain⟨j,want⟩:=p
  simp only
  split
  ·split
   ·refine Hb ?_
    intro t h h0
    unfold gF
    split
    ·rename_i b _
     cases iu want b (!b)
     ·rfl
     ·exact hf t h h0
    ·rfl
    ·rfl
   ·exact cR
  ·exact cR
omit [Io] in
theorem CZ{nt:Nat}{all:List Oper}(fY:(po P call o.op).1=.al):I6 (kW P call nt all o):=by
 have hf:I6 (po P call o.op).2:=LM fY
 unfold kW
 cases o.guard with
 |none=>exact hf
 |some p=>
  obtain⟨j,want⟩:=p
  simp only
  split
  ·split
   ·refine xQ ?_
    intro t h v h' e h0 hn
    unfold gF at e ⊢
    split at e
    ·rename_i b hb
     cases hw:iu want b (!b)with
     |false=>rw[hw]at e;cases e;exact .inl ⟨rfl,rfl⟩
     |true=>rw[hw]at e;exact hf t h v h' e h0 hn
    ·cases e
     exact .inl ⟨rfl,rfl⟩
    ·cases e
   ·exact jm
  ·exact jm
end
end Go.Ab

noncomputable section
namespace Go.Ab
variable [Io]
inductive lK where
 |last (pre hY:List Nat)
 |cons (pre hY:List Nat) (q:Nat) (rest:lK)
def lK.pre:lK->List Nat
 | .last p _=>p
 | .cons p _ _ _=>p
def lK.hY:lK->List Nat
 | .last _ a=>a
 | .cons _ a _ r=>a++r.hY
def lK.zf:lK->List Nat
 | .last _ _=>[]
 | .cons _ _ q r=>q::r.zf
structure Cx where
 P:Program
 call:cX
 ops:Array Oper
 nt:Nat
 t0:Tm
 te:Tm
 nx:Nat->Nat
 bd:Nat->Nat
 g0:G
 w0:World
 h0:Hp
 hE:Hp
namespace Cx
variable (c:Cx)
def dB(i:Nat)(k:Cl):Prop:= ∃ o,c.ops[i]? =some o/\(po c.P c.call o.op).1=k
def FE(i:Nat):eH:=match c.ops[i]? with
 |some o=>kW c.P c.call c.nt c.ops.toList o
 |none=>bE
def mg(i d:Nat):Prop:= ∃ o,c.ops[i]? =some o/\o.dst=some d
def P9(i:Nat):List Nat:=match c.ops[i]? with
 |some o=>ru c.ops.toList o
 |none=>[]
def An(i j:Nat):Prop:=Fi c.ops.toList i j=true
def py(i N:Nat):Prop:= ∀ u∈c.P9 i,u<c.nt/\((∀ j,c.mg j u->c.An i j/\c.bd j<=N)∨ ∀ j,c.mg j u->c.An j i)
open Classical in
def Km(i:Nat):List Nat->Tm
 | []=>Tm.none
 |u::l=>Tm.put (Km i l) u (if ∃ j,c.mg j u/\c.An i j then Tm.at c.te u else Tm.at c.t0 u)
def rf(i:Nat):Tm:=c.Km i (c.P9 i)
def Slot(i:Nat)(v:AV):Prop:= ∀ d,c.mg i d->d<c.nt/\c.te.at d=some v
def P1s(pre:List Nat)(h:Hp):Prop:= ∀ i∈pre,c.dB i .p1-> ∃ v,c.FE i (c.rf i) h=.ok v h/\c.Slot i v/\c.py i h.next
def wA:List Nat->Hp->Hp->Prop
 | [],h,h1=>h1=h
 |i::l,h,h1=>(c.dB i .p0/\wA l h h1)∨(c.dB i .al/\c.nx i=h.next/\((c.bd i=c.nx i/\wA l h h1)∨
  ∃ v cs,c.bd i=c.nx i+1/\c.FE i (c.rf i) (fR (c.nx i))=.ok v (dw (fR (c.nx i)) cs)/\wA l (dw h cs) h1))
def zt:lK->Hp->Prop
 | .last pre hY,h=>c.P1s pre h/\c.wA hY h c.hE
 | .cons pre hY q rest,h=>c.P1s pre h/\ ∃ h1,c.wA hY h h1/\c.dB q .ch/\ ∃ v h2,c.FE q (c.rf q) h1=.ok v h2/\c.Slot q v/\c.py q h1.next/\
   c.bd q=h2.next/\h1.next<=h2.next/\zt rest h2
def Hc:List Nat->lK->Prop
 |past,.last pre _=> ∀ i,c.dB i .p1->(∃ j∈past,c.An j i)∨i∈pre
 |past,.cons pre hY q rest=>(∀ i,c.dB i .p1->(∃ j∈past,c.An j i)∨(∃ j∈q::rest.zf,c.An i j)∨i∈pre)/\(∀ i∈hY,c.dB i .al->c.An q i)/\
  (∀ q'∈rest.zf,c.An q' q)/\Hc (q::past) rest
structure RC:Prop where
 p0: ∀ i,c.dB i .p0-> ∃ v,(∀ h,c.FE i (c.rf i) h=.ok v h)/\c.Slot i v/\c.py i (c.bd i)
 al: ∀ i,c.dB i .al-> ∃ v,c.Slot i v/\c.py i (c.nx i)/\((c.FE i (c.rf i) (fR (c.nx i))=.ok v (fR (c.nx i))/\c.bd i=c.nx i)∨
  ∃ cs,c.FE i (c.rf i) (fR (c.nx i))=.ok v (dw (fR (c.nx i)) cs)/\c.bd i=c.nx i+1)
 dst: ∀ i j d,c.mg i d->c.mg j d->i=j
 top: ∀ i,i<c.ops.size->c.bd i<=c.hE.next
 same: ∀ u,u<512->(∀ j,¬ c.mg j u)->c.te.at u=c.t0.at u
 call:eQ c.P c.call
 nt:c.nt<=512
omit [Io] in
theorem qH{h1:Hp}: ∀ {l:List Nat} {h:Hp},c.wA l h h1->h.next<=h1.next
 | [],h,e=>by cases e;exact Nat.le_refl _
 |i::l,h,e=>by
  rcases e with⟨_,e⟩|⟨_,_,⟨_,e⟩|⟨v,cs,_,_,e⟩⟩
  ·exact qH e
  ·exact qH e
  ·have:=qH e
   exact Nat.le_trans (Nat.le_succ _) this
omit [Io] in
theorem mD{h1:Hp}: ∀ {l:List Nat} {h:Hp},c.wA l h h1-> ∀ i∈l,c.dB i .al->h.next<=c.nx i/\(c.bd i=c.nx i+1->c.nx i<h1.next)
 | [],h,e,i,hi,_=>by cases hi
 |j::l,h,e,i,hi,hc=>by
  rcases e with⟨hj,e⟩|⟨hj,hn,⟨hb,e⟩|⟨v,cs,hb,_,e⟩⟩
  ·rcases List.mem_cons.1 hi with rfl|hi
   ·obtain⟨o,ho,h1⟩:=hj
    obtain⟨o',mh,h2⟩:=hc
    rw[ho]at mh
    cases mh
    rw[h1]at h2
    cases h2
   ·exact mD e i hi hc
  ·rcases List.mem_cons.1 hi with rfl|hi
   ·exact⟨by omega,fun h=>by omega⟩
   ·exact mD e i hi hc
  ·rcases List.mem_cons.1 hi with rfl|hi
   ·have:=qH c e
    have:h.next+1<=h1.next:=this
    exact⟨by omega,fun _=>by omega⟩
   ·have:=mD e i hi hc
    have h2:h.next+1<=c.nx i:=this.1
    exact⟨by omega,this.2⟩
omit [Io] in
theorem sI: ∀ {pl:lK} {h:Hp},c.zt pl h-> ∀ i∈pl.hY,c.dB i .al->h.next<=c.nx i
 | .last pre hY,h,⟨_,e⟩,i,hi,hc=>(c.mD e i hi hc).1
 | .cons pre hY q rest,h,⟨_,h1,e,_,v,h2,_,_,_,_,hle,r⟩,i,hi,hc=>by
  rcases List.mem_append.1 hi with hi|hi
  ·exact(c.mD e i hi hc).1
  ·exact Nat.le_trans (c.qH e) (Nat.le_trans hle (sI r i hi hc))
omit [Io] in
theorem kp{i:Nat}{k:Cl}(h:c.dB i k){k':Cl}(h':c.dB i k'):k=k':=by
 obtain⟨o,ho,h1⟩:=h
 obtain⟨o',mh,h2⟩:=h'
 rw[ho]at mh
 cases mh
 exact h1.symm.trans h2
omit [Io] in
theorem tO{h1:Hp}: ∀ {l:List Nat} {h:Hp},c.wA l h h1-> ∀ i∈l,∀ j∈l,c.dB i .al->c.dB j .al->c.bd i=c.nx i+1->c.bd j=c.nx j+1->c.nx i=c.nx j->i=j
 | [],h,e,i,hi,_,_,_,_,_,_,_=>by cases hi
 |k::l,h,e,i,hi,j,hj,ci,cj,bi,bj,Vj=>by
  rcases e with⟨hk,e⟩|⟨hk,hn,⟨hb,e⟩|⟨v,cs,hb,_,e⟩⟩
  ·have ni:i≠k:=fun e=>by subst e;cases c.kp hk ci
   have nj:j≠k:=fun e=>by subst e;cases c.kp hk cj
   exact tO e i ((List.mem_cons.1 hi).resolve_left ni) j ((List.mem_cons.1 hj).resolve_left nj) ci cj bi bj Vj
  ·have ni:i≠k:=fun e=>by subst e;omega
   have nj:j≠k:=fun e=>by subst e;omega
   exact tO e i ((List.mem_cons.1 hi).resolve_left ni) j ((List.mem_cons.1 hj).resolve_left nj) ci cj bi bj Vj
  ·by_cases ni:i=k<;>by_cases nj:j=k
   ·exact ni.trans nj.symm
   ·have:=(c.mD e j ((List.mem_cons.1 hj).resolve_left nj) cj).1
    have:h.next+1<=c.nx j:=this
    subst ni
    omega
   ·have:=(c.mD e i ((List.mem_cons.1 hi).resolve_left ni) ci).1
    have:h.next+1<=c.nx i:=this
    subst nj
    omega
   ·exact tO e i ((List.mem_cons.1 hi).resolve_left ni) j ((List.mem_cons.1 hj).resolve_left nj) ci cj bi bj Vj
omit [Io] in
theorem tP: ∀ {pl:lK} {h:Hp},c.zt pl h-> ∀ i∈pl.hY,∀ j∈pl.hY,c.dB i .al->c.dB j .al->c.bd i=c.nx i+1->c.bd j=c.nx j+1->c.nx i=c.nx j->i=j
 | .last pre hY,h,⟨_,e⟩,i,hi,j,hj,ci,cj,bi,bj,Vj=>c.tO e i hi j hj ci cj bi bj Vj
 | .cons pre hY q rest,h,⟨_,h1,e,_,v,h2,_,_,_,_,hle,r⟩,i,hi,j,hj,ci,cj,bi,bj,Vj=>by
  rcases List.mem_append.1 hi with hi|hi<;>rcases List.mem_append.1 hj with hj|hj
  ·exact c.tO e i hi j hj ci cj bi bj Vj
  ·have:=(c.mD e i hi ci).2 bi
   have:=c.sI r j hj cj
   omega
  ·have:=(c.mD e j hj cj).2 bj
   have:=c.sI r i hi ci
   omega
  ·exact tP r i hi j hj ci cj bi bj Vj
def I7(g:G)(w:World)(h:Hp)(i:Nat):Prop:=
 c.bd i=c.nx i∨ ∃ v cs b C,∃ el:FT C,∃ vs,c.bd i=c.nx i+1/\c.FE i (c.rf i) (fR (c.nx i))=.ok v (dw (fR (c.nx i)) cs)/\g.m (c.nx i)=some (b,0)/\w.heap[b]? =some (.cells C el.el el.fz)/\
  ¬ g.fw b/\ ¬ jW (g.to h.next) h b/\c.w0.heap.size<=b/\bD (g.to (c.nx i)) w cs.toL vs/\ ∀ (j:Nat) (v:Value),vs[j]? =some v->C[j]? =some v
structure St(g:G)(w:World)(h:Hp)(A D:List Nat):Prop where
 hr:HR (g.to h.next) w h
 ext:Ext c.g0 c.w0 c.h0 (g.to h.next) w h
 Fl: ∀ i∈A,i∈D->c.dB i .al->c.I7 g w h i
 I8: ∀ i∈A,∀ j∈A,i∈D->j∈D->c.dB i .al->c.dB j .al->c.bd i=c.nx i+1->c.bd j=c.nx j+1-> ∀ b,g.m (c.nx i)=some (b,0)->g.m (c.nx j)=some (b,0)->i=j
omit [Io] in
theorem qI{h:Hp}{cs:Rw}{id:Nat}:(dw h cs).aL.get id=if id=h.next then some cs else h.aL.get id:=Tr.jX _ _ _ _
omit [Io] in
theorem LP{h:Hp}{cs cs':Rw}(e:dw h cs=dw h cs'):cs=cs':=by
 have h1:(dw h cs).aL.get h.next=some cs:=by rw[qI,if_pos rfl]
 rw[e,qI,if_pos rfl]at h1
 exact(Option.some.inj h1).symm
theorem ach{g:G}{w:World}{h:Hp}(H:HR (g.to h.next) w h){b:Nat}{C:Array Value}{el:FT C}{cs:Rw}{vs:List Value}(hm:g.m h.next=some (b,0))
 (hw:w.heap[b]? =some (.cells C el.el el.fz))(hi: ¬ g.fw b)(ho: ¬ jW (g.to h.next) h b)(hv:bD (g.to h.next) w cs.toL vs)(hC: ∀ (j:Nat) (v:Value),vs[j]? =some v->C[j]? =some v):
 HR (g.to (dw h cs).next) w (dw h cs)/\ ∀ b',jW (g.to (dw h cs).next) (dw h cs) b'->jW (g.to h.next) h b'∨b'=b:=by
 have hn:(dw h cs).next=h.next+1:=rfl
 have hM:=px g w (N:=h.next) (M:=h.next+1) (by omega)
 have hle: ∀ id cs',h.aL.get id=some cs'->id<h.next:=by
  intro id cs' e
  refine Classical.byContradiction fun k=>?_
  obtain⟨b',s,_,_,_,Ki,_⟩:=H.aL id cs' e
  rw[H.fresh id (by omega)]at Ki
  cases Ki
 have wV: ∀ id,id<h.next->(g.to (h.next+1)).m id=(g.to h.next).m id:=by
  intro id k
  simp only[G.to]
  rw[if_pos (by omega),if_pos k]
 have Vk:(g.to (h.next+1)).m h.next=some (b,0):=by
  simp only[G.to]
  rw[if_pos (by omega)]
  exact hm
 rw[hn]
 refine⟨⟨?_,?_,?_,fun k i=>H.fw k i,fun p hp=>H.tb p hp⟩,?_⟩
 ·intro id jB
  have:h.next+1<=id:=jB
  simp only[G.to]
  rw[if_neg (by omega)]
 ·intro id cs' e
  rw[qI]at e
  by_cases jB:id=h.next
  ·subst jB
   rw[if_pos rfl]at e
   cases e
   exact⟨b,0,C,el,vs,Vk,hw,hi,bD.gg hM _ _ hv,by simpa using hC⟩
  ·rw[if_neg jB]at e
   obtain⟨b',s,C',el',vs',Ki,hw',uX,rm,hc'⟩:=H.aL id cs' e
   exact⟨b',s,C',el',vs',by rw[wV id (hle id cs' e)];exact Ki,hw',uX,bD.gg hM _ _ rm,hc'⟩
 ·intro id xt b1 s s' GU xw e1 e2 m1 m2
  rw[qI]at e1 e2
  by_cases h1:id=h.next<;>by_cases h2:xt=h.next
  ·exact h1.trans h2.symm
  ·subst h1
   rw[if_neg h2]at e2
   rw[Vk]at m1
   obtain⟨rfl,_⟩:=Prod.mk.inj (Option.some.inj m1)
   rw[wV xt (hle xt _ e2)]at m2
   exact absurd ⟨xt,xw,s',e2,m2⟩ ho
  ·subst h2
   rw[if_neg h1]at e1
   rw[Vk]at m2
   obtain⟨rfl,_⟩:=Prod.mk.inj (Option.some.inj m2)
   rw[wV id (hle id _ e1)]at m1
   exact absurd ⟨id,GU,s,e1,m1⟩ ho
  ·rw[if_neg h1]at e1
   rw[if_neg h2]at e2
   rw[wV id (hle id _ e1)]at m1
   rw[wV xt (hle xt _ e2)]at m2
   exact H.inj id xt b1 s s' GU xw e1 e2 m1 m2
 ·rintro b' ⟨id,cs',s,e,m⟩
  rw[qI]at e
  by_cases jB:id=h.next
  ·subst jB
   rw[Vk]at m
   obtain⟨rfl,_⟩:=Prod.mk.inj (Option.some.inj m)
   exact .inr rfl
  ·rw[if_neg jB]at e
   rw[wV id (hle id _ e)]at m
   exact .inl ⟨id,cs',s,e,m⟩
omit [Io] in
theorem I9{g:G}{w:World}{h:Hp}{b:Nat}{cs:Rw}(E:Ext c.g0 c.w0 c.h0 (g.to h.next) w h)(hb:c.w0.heap.size<=b)
 (hO: ∀ b',jW (g.to (dw h cs).next) (dw h cs) b'->jW (g.to h.next) h b'∨b'=b):Ext c.g0 c.w0 c.h0 (g.to (dw h cs).next) w (dw h cs) where
 os:=E.os
 tape:=E.tape
 output:=E.output
 size:=E.size
 next:=Nat.le_trans E.next (Nat.le_succ _)
 m:=fun id x e=>(px g w (N:=h.next) (M:=h.next+1) (by omega)).m id x (E.m id x e)
 rL:=E.rL
 rows:=E.rows
 fw:=E.fw
 Iu:=E.Iu
 n5:=fun k o=>by
  rcases hO k o with o|rfl
  ·exact E.n5 k o
  ·exact .inr hb
theorem settle{g:G}{w:World}{D A:List Nat}{h1:Hp}: ∀ (l:List Nat) (h:Hp),c.wA l h h1->(∀ i∈l,c.dB i .al->i∈D)->c.St g w h (l++A) D->
 (∀ i∈A,c.dB i .al->h1.next<=c.nx i)->c.St g w h1 A D
 | [],h,e,_,S,_=>by cases e;exact S
 |i::l,h,e,hd,S,hA=>by
  have I':=fun j hj=>hd j (List.mem_cons_of_mem i hj)
  have S':c.St g w h (l++A) D:=⟨S.hr,S.ext,fun j hj=>S.Fl j (List.mem_cons_of_mem _ hj),fun j hj k hk=>S.I8 j (List.mem_cons_of_mem _ hj) k (List.mem_cons_of_mem _ hk)⟩
  rcases e with⟨_,e⟩|⟨hk,hn,⟨hb,e⟩|⟨v,cs,hb,hF,e⟩⟩
  ·exact settle l h e I' S' hA
  ·exact settle l h e I' S' hA
  ·have Ae:=hd i List.mem_cons_self hk
   rcases S.Fl i List.mem_cons_self Ae hk with hp|⟨v',cs',b,C,el,vs,_,hF',hm,hw,I2,hO,hb0,hv,hC⟩
   ·omega
   rw[hF]at hF'
   obtain⟨rfl,n8⟩:=Ro.ok.inj hF'
   obtain rfl:=LP n8
   rw[hn]at hm hv
   obtain⟨hr',hO'⟩:=ach S.hr hm hw I2 hO hv hC
   refine settle l (dw h cs) e I' ⟨hr',c.I9 S.ext hb0 hO',?_,S'.I8⟩ hA
   intro j hj Fm Ch
   rcases S'.Fl j hj Fm Ch with hp|⟨v2,xw,b2,C2,W1,P6,CG,hF2,IC,K3,ahW,hO2,ahX,Ve,hC2⟩
   ·exact .inl hp
   ·refine .inr ⟨v2,xw,b2,C2,W1,P6,CG,hF2,IC,K3,ahW,fun o=>?_,ahX,Ve,hC2⟩
    rcases hO' _ o with o|rfl
    ·exact hO2 o
    ·have hjn:h.next+1<=c.nx j:=by
      rcases List.mem_append.1 hj with hj|hj
      ·exact(c.mD e j hj Ch).1
      ·exact Nat.le_trans (c.qH e) (hA j hj Ch)
     have:=S.I8 i List.mem_cons_self j (List.mem_cons_of_mem _ hj) Ae Fm hk Ch hb CG b2 (by rw[hn];exact hm) IC
     subst this
     omega
end Cx
end Go.Ab

noncomputable section
namespace Go.Ab
variable [Io]
namespace Cx
variable (c:Cx)
structure Inv(g:G)(w:World)(h:Hp)(a:Act)(D past:List Nat)(pl:lK):Prop where
 run:c.zt pl h
 stat:c.Hc past pl
 closed:A9 c.ops.toList D
 zf: ∀ i,c.dB i .ch->i∈pl.zf∨i∈D
 P': ∀ i∈pl.zf,i∉D
 vK: ∀ j∈past,j∈D
 Vl: ∀ i,c.dB i .al->i∈pl.hY∨i∈D
 st:c.St g w h pl.hY D
 Vm: ∀ id x,g.m id=some x->id<h.next∨ ∃ i∈pl.hY,i∈D/\c.dB i .al/\c.bd i=c.nx i+1/\id=c.nx i
 qJ: ∀ j∈D,∀ d,c.mg j d->d<c.nt/\ ∃ v,c.te.at d=some v/\VR (g.to (max (c.bd j) h.next)) w v (a.tmps.getD d undef)
 free: ∀ u v,u<512->(∀ j∈D,¬ c.mg j u)->c.t0.at u=some v->u<c.nt/\VR (g.to h.next) w v (a.tmps.getD u undef)
 size:a.tmps.size=c.nt
 defers:a.defers=[]
variable {c}
omit [Io] in
theorem vL{i:Nat}{o:Oper}(ho:c.ops[i]? =some o):c.FE i=kW c.P c.call c.nt c.ops.toList o:=by unfold FE;rw[ho]
omit [Io] in
theorem Xh{i:Nat}{o:Oper}(ho:c.ops[i]? =some o):c.P9 i=ru c.ops.toList o:=by unfold P9;rw[ho]
omit [Io] in
theorem LQ{i:Nat}: ∀ (l:List Nat),(∀ u∈l,u<512)-> ∀ u v,u<512->(c.Km i l).at u=some v->u∈l/\(((∃ j,c.mg j u/\c.An i j)/\c.te.at u=some v)∨((¬ ∃ j,c.mg j u/\c.An i j)/\c.t0.at u=some v))
 | [],_,u,v,hu,e=>by rw[Km,Tm.AL u hu]at e;cases e
 |x::l,hl,u,v,hu,e=>by
  rw[Km,Tm.jA _ _ _ _ (hl x List.mem_cons_self) hu]at e
  by_cases hx:u=x
  ·subst hx
   rw[if_pos rfl]at e
   refine⟨List.mem_cons_self,?_⟩
   by_cases hw: ∃ j,c.mg j u/\c.An i j
   ·rw[if_pos hw]at e;exact .inl ⟨hw,e⟩
   ·rw[if_neg hw]at e;exact .inr ⟨hw,e⟩
  ·rw[if_neg hx]at e
   obtain⟨h1,h2⟩:=LQ l (fun y hy=>hl y (List.mem_cons_of_mem _ hy)) u v hu e
   exact⟨List.mem_cons_of_mem _ h1,h2⟩
theorem Inv.reads{g w h a D past pl}(I:c.Inv g w h a D past pl)(jw:c.nt<=512){i N M:Nat}(hr:c.py i M)(Ae:i∉D)(hD: ∀ j,c.An i j->j∈D)(hM:M<=N)(hN:h.next<=N):
 TR (g.to N) w c.nt (c.rf i) a.tmps:=by
 have gG: ∀ u∈c.P9 i,u<512:=fun u hu=>Nat.lt_of_lt_of_le (hr u hu).1 jw
 refine⟨jw,I.size,fun u v hu e=>?_⟩
 obtain⟨hm,P8⟩:=LQ _ gG u v hu e
 refine⟨(hr u hm).1,?_⟩
 rcases P8 with⟨⟨j,hj,hA⟩,e⟩|⟨hno,e⟩
 ·rcases(hr u hm).2 with h1|h1
  ·obtain⟨_,hb⟩:=h1 j hj
   obtain⟨_,v',e',hv⟩:=I.qJ j (hD j hA) u hj
   rw[e]at e'
   cases e'
   exact VR.gg (px g w (by omega)) _ _ hv
  ·exact absurd (I.closed j (hD j hA) i (h1 j hj)) Ae
 ·refine VR.gg (px g w hN) _ _ (I.free u v hu (fun j Fm hj=>?_) e).2
  rcases(hr u hm).2 with h1|h1
  ·exact hno ⟨j,hj,(h1 j hj).1⟩
  ·exact Ae (I.closed j Fm i (h1 j hj))
omit [Io] in
theorem Ba{a:Act}{od:Option Nat}{x:Value}{d:Nat}(hd:d<a.tmps.size):(a.put od x).tmps.getD d undef=if od=some d then x else a.tmps.getD d undef:=by
 cases od with
 |none=>rfl
 |some e=>
  show(a.tmps.setIfInBounds e x).getD d undef=_
  rw[Array.getD_eq_getD_getElem?,Array.getD_eq_getD_getElem?]
  by_cases he:e=d
  ·subst he
   rw[Array.getElem?_setIfInBounds_self_of_lt hd,if_pos rfl];rfl
  ·rw[Array.getElem?_setIfInBounds_ne he,if_neg (fun k=>he (Option.some.inj k))]
omit [Io] in
theorem xR{a:Act}{od:Option Nat}{x:Value}:(a.put od x).tmps.size=a.tmps.size:=by
 cases od with
 |none=>rfl
 |some e=>show(a.tmps.setIfInBounds e x).size=_;simp
omit [Io] in
theorem put_defers{a:Act}{od:Option Nat}{x:Value}:(a.put od x).defers=a.defers:=by cases od<;>rfl
theorem vc{g:G}{w w':World}{g':G}{a:Act}{D:List Nat}{i:Nat}{o:Oper}{x:Value}{N N':Nat}(G0:c.RC)(ho:c.ops[i]? =some o)
 (hs:a.tmps.size=c.nt)
 (qJ: ∀ j∈D,∀ d,c.mg j d->d<c.nt/\ ∃ v,c.te.at d=some v/\VR (g.to (max (c.bd j) N)) w v (a.tmps.getD d undef))
 (mono: ∀ j∈D,tz (g.to (max (c.bd j) N)) w (g'.to (max (c.bd j) N')) w')(hi:i∉D)
 (hx: ∀ d,c.mg i d->d<c.nt/\ ∃ v,c.te.at d=some v/\VR (g'.to (max (c.bd i) N')) w' v x):
 ∀ j∈i::D,∀ d,c.mg j d->d<c.nt/\ ∃ v,c.te.at d=some v/\VR (g'.to (max (c.bd j) N')) w' v ((a.put o.dst x).tmps.getD d undef):=by
 intro j hj d hd
 by_cases EH:j=i
 ·subst EH
  obtain⟨h1,v,h2,h3⟩:=hx d hd
  refine⟨h1,v,h2,?_⟩
  obtain⟨o',mh,I'⟩:=hd
  rw[ho]at mh
  cases mh
  rw[Ba (by omega),if_pos I']
  exact h3
 ·obtain⟨h1,v,h2,h3⟩:=qJ j ((List.mem_cons.1 hj).resolve_left EH) d hd
  refine⟨h1,v,h2,?_⟩
  rw[Ba (by omega),if_neg (fun k=>EH (G0.dst j i d hd ⟨o,ho,k⟩))]
  exact VR.gg (mono j ((List.mem_cons.1 hj).resolve_left EH)) _ _ h3
theorem xS{g:G}{w w':World}{g':G}{a:Act}{D:List Nat}{i:Nat}{o:Oper}{x:Value}{N N':Nat}(ho:c.ops[i]? =some o)(hs:a.tmps.size=c.nt)
 (free: ∀ u v,u<512->(∀ j∈D,¬ c.mg j u)->c.t0.at u=some v->u<c.nt/\VR (g.to N) w v (a.tmps.getD u undef))(mono:tz (g.to N) w (g'.to N') w'):
 ∀ u v,u<512->(∀ j∈i::D,¬ c.mg j u)->c.t0.at u=some v->u<c.nt/\VR (g'.to N') w' v ((a.put o.dst x).tmps.getD u undef):=by
 intro u v hu hd e
 obtain⟨h1,h2⟩:=free u v hu (fun j hj=>hd j (List.mem_cons_of_mem _ hj)) e
 refine⟨h1,?_⟩
 rw[Ba (by omega),if_neg (fun k=>hd i List.mem_cons_self ⟨o,ho,k⟩)]
 exact VR.gg mono _ _ h2
theorem Inv.put{g w h a D past pl}(G0:c.RC)(I:c.Inv g w h a D past pl){i:Nat}{o:Oper}(ho:c.ops[i]? =some o)(hi:i∉D)(hC:A9 c.ops.toList (i::D))
 (hk:c.dB i .p0∨c.dB i .p1){v:AV}{x:Value}(hs:c.Slot i v)(hx:VR (g.to (max (c.bd i) h.next)) w v x):c.Inv g w h (a.put o.dst x) (i::D) past pl:=by
 have Fo: ∀ j,c.dB j .al->j∈i::D->j∈D:=by
  intro j hj h
  refine(List.mem_cons.1 h).resolve_left fun e=>?_
  subst e
  rcases hk with hk|hk<;>cases c.kp hk hj
 exact
 {run:=I.run
  stat:=I.stat
  closed:=hC
  zf:=fun j hj=>(I.zf j hj).imp id (List.mem_cons_of_mem _)
  P':=fun j hj h=>by
   rcases List.mem_cons.1 h with rfl|h
   ·have:c.dB j .ch:=by
     have key: ∀ {pl:lK} {h:Hp},c.zt pl h-> ∀ j∈pl.zf,c.dB j .ch:=by
      intro pl
      induction pl with
      |last pre hY=>intro h r j hj;cases hj
      |cons pre hY q rest ih=>
       intro h r j hj
       obtain⟨_,h1,_,hq,v,h2,_,_,_,_,_,r⟩:=r
       rcases List.mem_cons.1 hj with rfl|hj
       ·exact hq
       ·exact ih r j hj
     exact key I.run j hj
    rcases hk with hk|hk<;>cases c.kp hk this
   ·exact I.P' j hj h
  vK:=fun j hj=>List.mem_cons_of_mem _ (I.vK j hj)
  Vl:=fun j hj=>(I.Vl j hj).imp id (List.mem_cons_of_mem _)
  st:=⟨I.st.hr,I.st.ext,fun j hj hD hc=>I.st.Fl j hj (Fo j hc hD) hc,fun j hj k hk jD kD jc kc=>I.st.I8 j hj k hk (Fo j jc jD) (Fo k kc kD) jc kc⟩
  Vm:=fun n y e=>(I.Vm n y e).imp id fun⟨j,hj,hD,r⟩=>⟨j,hj,List.mem_cons_of_mem _ hD,r⟩
  qJ:=vc G0 ho I.size I.qJ (fun j _=>Ac _ _) hi (fun d hd=>⟨(hs d hd).1,v,(hs d hd).2,hx⟩)
  free:=xS ho I.size I.free (Ac _ _)
  size:=by rw[xR];exact I.size
  defers:=by rw[put_defers];exact I.defers}
omit [Io] in
theorem Hd: ∀ {pl:lK} {h:Hp},c.zt pl h-> ∀ j∈pl.zf,c.dB j .ch:=by
 intro pl
 induction pl with
 |last pre hY=>intro h r j hj;cases hj
 |cons pre hY q rest ih=>
  intro h r j hj
  obtain⟨_,h1,_,hq,v,h2,_,_,_,_,_,r⟩:=r
  rcases List.mem_cons.1 hj with rfl|hj
  ·exact hq
  ·exact ih r j hj
omit [Io] in
theorem Xi{pl:lK}{h:Hp}(r:c.zt pl h):c.P1s pl.pre h:=by
 cases pl with
 |last pre hY=>exact r.1
 |cons pre hY q rest=>exact r.1
omit [Io] in
theorem RD{past:List Nat}{pl:lK}(s:c.Hc past pl): ∀ i,c.dB i .p1->(∃ j∈past,c.An j i)∨(∃ j∈pl.zf,c.An i j)∨i∈pl.pre:=by
 cases pl with
 |last pre hY=>exact fun i hi=>(s i hi).imp id .inr
 |cons pre hY q rest=>exact s.1
omit [Io] in
theorem pz{w:World}{ob:Obj}{b:Nat}:(w.alloc ob).heap[b]? =if b=w.heap.size then some ob else w.heap[b]? :=by
 show(w.heap.push _)[b]? =_
 rw[Array.getElem?_push]
omit [Io] in
theorem sJ{g g':G}{w:World}{ob:Obj}(hm: ∀ id x,g.m id=some x->g'.m id=some x)(hi:g'.fw=g.fw)(hb: ∀ b,g.fw b->b<w.heap.size):tz g w g' (w.alloc ob):=
 ⟨hm,fun b i=>by rw[hi];exact i,fun b i=>by
  have:=hb b i
  rw[pz,if_neg (by omega)],fun b=>by
  unfold dU
  rw[pz]
  by_cases h:b=w.heap.size
  ·subst h;simp
  ·rw[if_neg h];exact Nat.le_refl _⟩
theorem Fp{g g':G}{w:World}{h:Hp}{ob:Obj}{i:Nat}(hm: ∀ id x,g.m id=some x->g'.m id=some x)(hi:g'.fw=g.fw)(hb: ∀ b,g.fw b->b<w.heap.size)
 (wV:g'.to h.next=g.to h.next)(p:c.I7 g w h i):c.I7 g' (w.alloc ob) h i:=by
 rcases p with p|⟨v,cs,b,C,el,vs,h1,h2,h3,h4,h5,h6,h7,h8,h9⟩
 ·exact .inl p
 ·have gG:=(Array.getElem?_eq_some_iff.1 h4).1
  refine .inr ⟨v,cs,b,C,el,vs,h1,h2,hm _ _ h3,by rw[pz,if_neg (by omega)];exact h4,by rw[hi];exact h5,by rw[wV];exact h6,h7,?_,h9⟩
  refine bD.gg ?_ _ _ h8
  refine sJ ?_ (by simp only[G.to];exact hi) (by simp only[G.to];exact hb)
  intro id x e
  simp only[G.to]at e ⊢
  by_cases jB:id<c.nx i
  ·rw[if_pos jB]at e ⊢;exact hm _ _ e
  ·rw[if_neg jB]at e;cases e
end Cx
end Go.Ab
