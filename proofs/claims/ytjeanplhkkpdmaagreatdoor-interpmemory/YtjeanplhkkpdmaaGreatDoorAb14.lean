import Derived.Test.YtjeanplhkkpdmaaGreatDoorAb10
noncomputable section
namespace Go.Ab
variable [Io]
section
variable {P:Program}
def cRV(P:Program)(nt:Nat):ResultVar->Option RV
 | .tmp i=>lA (Nat.blt i nt) (some (.tmp i)) none
 | .cell i T=>match P.underlying T with
  |some d=>match P.info? T with
   |some ti=>lA (Nat.blt i nt) (some (.cell i ti.size (nu d))) none
   |none=>none
  |none=>none
def Fh(P:Program)(nt:Nat)(l:List ResultVar):Option (List RV):=
 List.rec (some []) (fun r _ ih=>match cRV P nt r with
  |some v=>match ih with
   |some vs=>some (v::vs)
   |none=>none
  |none=>none) l
def Ad(tmps:Array Value):ResultVar->Sem Value
 | .tmp t=>pure (tmps.getD t undef)
 | .cell a t=>do loadVar t (<-asAddr (tmps.getD a undef))
theorem UU{g w nt t h}{tmps:Array Value}(H:HR g w h)(T:TR g w nt t tmps){r:ResultVar}{rv:RV}{v:AV}(hr:cRV P nt r=some rv)(e:Nf t h rv=some v):
 ∃ x,(Ad tmps r).run P w=.ok x w/\VR g w v x:=by
 cases r with
 |tmp i=>
  change lA (Nat.blt i nt) (some (RV.tmp i)) none=some rv at hr
  cases hb:Nat.blt i nt with
  |false=>rw[hb]at hr;cases hr
  |true=>
   rw[hb]at hr
   cases hr
   exact⟨_,rfl,(T.2.2 i v (by have:=T.1;have:=ic.1 hb;omega) e).2⟩
 |cell i ty=>
  unfold cRV at hr
  cases hd:P.underlying ty with
  |none=>simp only[hd]at hr;cases hr
  |some d=>
  simp only[hd]at hr
  cases hi:P.info? ty with
  |none=>simp only[hi]at hr;cases hr
  |some ti=>
  simp only[hi]at hr
  cases hb:Nat.blt i nt with
  |false=>rw[hb]at hr;cases hr
  |true=>
   rw[hb]at hr
   cases hr
   have Jo: @LT.lt Nat _ i 512:=by have:=T.1;have:=ic.1 hb;omega
   change (match t.at i with|some a=>zI h ti.size (nu d) a|none=>none)=some v at e
   split at e
   ·rename_i a ha
    have hv:=(T.2.2 i a Jo ha).2
    unfold zI at e
    split at e
    ·rename_i id off
     split at e
     ·rename_i cs hg
      simp only[VR]at hv
      obtain⟨b,s,hm,hv⟩:=hv
      obtain⟨C,el,vs,hw,_,jE,hc⟩:=H.row hg hm
      obtain⟨z,hz,hr⟩:=qk hd hi jE (mX hw hc) (zR e)
      exact⟨z,by simp only[Ad,hv,asAddr,Sem.run_bind,Sem.run_pure,Result.andThen_ok,hz],hr⟩
     ·cases e
    ·rename_i cs
     simp only[VR]at hv
     obtain⟨b,s,vs,hv,_,hc,jE⟩:=hv
     obtain⟨z,hz,hr⟩:=qk hd hi jE hc e
     rw[Nat.add_zero]at hz
     exact⟨z,by simp only[Ad,hv,asAddr,Sem.run_bind,Sem.run_pure,Result.andThen_ok,hz],hr⟩
    ·cases e
   ·cases e
theorem Fi{g w nt t h}{tmps:Array Value}(H:HR g w h)(T:TR g w nt t tmps): ∀ (l:List ResultVar) {UW:List RV} {vs:List AV},Fh P nt l=some UW->B3 t h UW=some vs->
 ∃ xs,(l.mapM (Ad tmps)).run P w=.ok xs w/\cZ g w vs xs
 | [],UW,vs,h1,h2=>by
  cases h1
  cases h2
  exact⟨[],by simp,by simp[cZ]⟩
 |r::l,UW,vs,h1,h2=>by
  change (match cRV P nt r with|some v=>(match Fh P nt l with|some vs=>some (v::vs)|none=>none)|none=>none)=some UW at h1
  split at h1
  ·rename_i rv Oo
   split at h1
   ·rename_i rl hrl
    cases h1
    change (match Nf t h rv with|some v=>(match B3 t h rl with|some vs=>some (v::vs)|none=>none)|none=>none)=some vs at h2
    split at h2
    ·rename_i v hv
     split at h2
     ·rename_i us hu
      cases h2
      obtain⟨x,hx,Oq⟩:=UU H T Oo hv
      obtain⟨xs,UH,alq⟩:=Fi H T l hrl hu
      refine⟨x::xs,?_,by simp only[cZ];exact⟨x,xs,rfl,Oq,alq⟩⟩
      simp only[List.mapM_cons,Sem.run_bind,hx,UH,Result.andThen_ok,Sem.run_pure]
     ·cases h2
    ·cases h2
   ·cases h1
  ·cases h1
theorem aaK{g w nt t h}{tmps:Array Value}{F:Func}{UW:List RV}{v:AV}{h':Hp}(H:HR g w h)(T:TR g w nt t tmps)(hr:Fh P nt F.results.toList=some UW)(e:fin UW t h=.ok v h'):
 h'=h/\ ∃ x,(results F tmps).run P w=.ok x w/\VR g w v x:=by
 have key: ∀ vs,B3 t h UW=some vs-> ∃ xs:List Value,(results F tmps).run P w=.ok (if h:xs.toArray.size=1 then xs.toArray[0]else .tuple xs.toArray) w/\cZ g w vs xs:=by
  intro vs jE
  obtain⟨xs,UH,hv⟩:=Fi H T F.results.toList hr jE
  refine⟨xs,?_,hv⟩
  show((F.results.mapM (Ad tmps)>>=fun vs=>(pure (if h:vs.size=1 then vs[0]else .tuple vs):Sem Value))).run P w=_
  rw[Array.mapM_eq_mapM_toList]
  simp only[Sem.run_bind,Sem.run_map,UH,Result.andThen_ok,Sem.run_pure]
 unfold fin at e
 split at e
 ·rename_i v1 jE
  cases e
  obtain⟨xs,hx,hv⟩:=key _ jE
  simp only[cZ]at hv
  obtain⟨x,l',rfl,Oq,rfl⟩:=hv
  exact⟨rfl,x,by rw[hx];rfl,Oq⟩
 ·rename_i vs nd jE
  cases e
  obtain⟨xs,hx,hv⟩:=key _ jE
  refine⟨rfl,.tuple xs.toArray,?_,by simp only[VR];exact⟨_,rfl,hv⟩⟩
  rw[hx,dif_neg]
  intro h1
  have hl:=hv.length
  have:vs.length=1:=by simpa[<-hl]using h1
  match vs,this with
  | [a],_=>exact nd a rfl
 ·cases e
def Hw(P:Program)(draw:iP->Nat->Array Oper->qh):Prop:=
 ∀ call nt,jL P call-> ∀ id ops,US P nt (.region id ops true) (draw call nt ops)
structure K7(P:Program)(draw:iP->Nat->Array Oper->qh)(f:FuncId)(b:Fb):Prop where
 ex: ∃ F c,P.funcs[f]? =some F/\F.body=some c/\b.ntmps=F.ntmps/\b.ntmps<=512/\Fh P b.ntmps F.results.toList=some b.res/\b.body=fun call n=>kF P (draw call b.ntmps) call n b.ntmps c
 enter: ∀ as w,(callFunc f as).run P w=.ok (.enter f as) w
theorem we{g w}: ∀ (l:List AV) (vs:List Value) (i nt:Nat) (t:Tm) (tmps:Array Value),cZ g w l vs->i+l.length<=nt->TR g w nt t tmps->
 (∀ j v,vs[j]? =some v->tmps[i+j]? =some v)->TR g w nt (rV l i t) tmps
 | [],vs,i,nt,t,tmps,h,hl,T,hj=>T
 |a::l,vs,i,nt,t,tmps,h,hl,T,hj=>by
  simp only[cZ]at h
  obtain⟨v,l',rfl,hv,h⟩:=h
  simp only[List.length_cons]at hl
  have h0:tmps[i]? =some v:=by simpa using hj 0 v rfl
  have hi:i<tmps.size:=(Array.getElem?_eq_some_iff.1 h0).1
  have alr:tmps.setIfInBounds i v=tmps:=by
   apply Array.ext
   ·simp
   ·intro k h1 h2
    rw[Array.getElem_setIfInBounds]
    split
    ·rename_i e
     subst e
     exact(Option.some.inj ((Array.getElem?_eq_getElem hi).symm.trans h0)).symm
    ·rfl
  have T':=T.put (d:=i) (by omega) hv
  rw[alr]at T'
  exact we l l' (i+1) nt _ tmps h (by omega) T' (fun j u e=>by
   have:=hj (j+1) u (by simpa using e)
   rwa [show i+1+j=i+(j+1) by omega])
end
end Go.Ab

noncomputable section
namespace Go.Ab
variable [Io]
def UX(ops:Array Oper):List Nat->List Nat->Prop
 |D,[]=> ∀ i,i<ops.size->i∈D
 |D,i::s=>i<ops.size/\i∉D/\(∀ o e,ops[i]? =some o->e∈o.after->Region.binds .any e=true->e.on∈D)/\UX ops (i::D) s
omit [Io] in
theorem filter_one{p:Nat->Bool}: ∀ (l:List Nat) (i:Nat),l.Nodup->i∈l->p i=true->(l.filter fun x=>p x&&x != i).length+1=(l.filter p).length
 | [],i,_,h,_=>by cases h
 |a::l,i,hn,h,hp=>by
  rw[List.nodup_cons]at hn
  by_cases ha:a=i
  ·subst ha
   have:(l.filter fun x=>p x&&x != a)=l.filter p:=by
    apply List.filter_congr
    intro x hx
    have:x≠a:=fun e=>hn.1 (e▸hx)
    simp[this]
   simp[List.filter_cons,hp,this]
  ·have hi:i∈l:=by
    cases h with
    |head=>exact absurd rfl ha
    |tail _ h=>exact h
   have:=filter_one l i hn.2 hi hp
   by_cases hpa:p a=true
   ·simp only[List.filter_cons,hpa,Bool.true_and,bne_iff_ne,ne_eq,ha,not_false_eq_true,decide_true,if_true,List.length_cons]
    omega
   ·simp only[List.filter_cons,hpa,Bool.false_and,Bool.false_eq_true,if_false]
    exact this
omit [Io] in
theorem least{p:Nat->Prop}: ∀ (n:Nat),p n-> ∃ m,p m/\ ∀ k,k<m-> ¬ p k:=by
 intro n
 induction n using Nat.strongRecOn with
 | _ n ih=>
  intro h
  by_cases hk: ∃ k,k<n/\p k
  ·obtain⟨k,hk,hp⟩:=hk
   exact ih k hk hp
  ·exact⟨n,h,fun k hkn hp=>hk ⟨k,hkn,hp⟩⟩
def Down(ops:Array Oper):Prop:= ∀ (i:Nat) (o:Oper) (e:Edge),ops[i]? =some o->e∈o.after->Region.binds .any e=true->e.on<i
omit [Io] in
theorem Ou{ops:Array Oper}(hd:Down ops): ∀ (fuel t:Nat) (listed:Array Bool) (acc D:List Nat),listed.size=ops.size->(∀ i,i<ops.size->(listed.getD i false=true↔i∈D))->
 ((List.range ops.size).filter fun i=> !listed.getD i false).length=fuel-> ∃ s,Region.linearise.go .any ops fuel t listed acc=acc.reverse++s/\UX ops D s
 |0,t,listed,acc,D,hs,hD,hc=>by
  refine⟨[],by simp[Region.linearise.go],fun i hi=>?_⟩
  have he:((List.range ops.size).filter fun i=> !listed.getD i false)=[]:=List.eq_nil_of_length_eq_zero hc
  rw[List.filter_eq_nil_iff]at he
  have:=he i (by simpa using hi)
  exact(hD i hi).1 (by simpa using this)
 |fuel+1,t,listed,acc,D,hs,hD,hc=>by
  have hgd: ∀ i,i<ops.size->listed.getD i true=listed.getD i false:=by
   intro i hi
   rw[Array.getD_eq_getD_getElem?,Array.getD_eq_getD_getElem?,Array.getElem?_eq_getElem (by omega)]
   rfl
  obtain⟨rs,hrs⟩: ∃ rs,rs=(List.range ops.size).filter (fun i=> !listed.getD i true&&((ops[i]?).map (·.after.all fun e=> !Region.binds .any e||listed.getD e.on false)).getD false):=⟨_,rfl⟩
  have K8: ∀ i,i∈rs↔i<ops.size/\i∉D/\ ∀ o e,ops[i]? =some o->e∈o.after->Region.binds .any e=true->e.on∈D:=by
   intro i
   rw[hrs,List.mem_filter,List.mem_range]
   constructor
   ·rintro⟨hi,h⟩
    simp only[Bool.and_eq_true,Bool.not_eq_true',hgd i hi]at h
    refine⟨hi,fun h2=>by rw[(hD i hi).2 h2]at h;exact absurd h.1 (by simp),?_⟩
    intro o e ho he hb
    rw[ho]at h
    simp only[Option.map_some,Option.getD_some,Array.all_eq_true_iff_forall_mem]at h
    have:=h.2 e he
    rw[hb]at this
    simp only[Bool.not_true,Bool.false_or]at this
    have kC:e.on<ops.size:=by
     have:=hd i o e ho he hb;omega
    exact(hD _ kC).1 this
   ·rintro⟨hi,h1,h2⟩
    refine⟨hi,?_⟩
    have ho:ops[i]? =some ops[i]:=Array.getElem?_eq_getElem hi
    have hf:listed.getD i false=false:=by
     rw[Bool.eq_false_iff]
     exact fun k=>h1 ((hD i hi).1 k)
    simp only[hgd i hi,hf,ho,Bool.not_false,Bool.true_and,Option.map_some,Option.getD_some,Array.all_eq_true_iff_forall_mem]
    intro e he
    cases hb:Region.binds .any e with
    |false=>rfl
    |true=>
     have kC:e.on<ops.size:=by have:=hd i _ e ho he hb;omega
     simp only[Bool.not_true,Bool.false_or]
     exact(hD _ kC).2 (h2 _ e ho he hb)
  have nd:rs≠[]:=by
   have:((List.range ops.size).filter fun i=> !listed.getD i false)≠[]:=by
    intro h;rw[h]at hc;cases hc
   obtain⟨x,hx⟩:=List.exists_mem_of_ne_nil _ this
   rw[List.mem_filter,List.mem_range]at hx
   obtain⟨m,⟨hm1,KM⟩,hm3⟩:=least (p:=fun i=>i<ops.size/\i∉D) x ⟨hx.1,fun k=>by
    have:=(hD x hx.1).2 k
    rw[this]at hx;exact absurd hx.2 (by simp)⟩
   have:m∈rs:=by
    rw[K8]
    refine⟨hm1,KM,fun o e ho he hb=>?_⟩
    have kC:=hd m o e ho he hb
    exact Classical.byContradiction fun k=>hm3 _ kC ⟨by omega,k⟩
   intro h;rw[h]at this;cases this
  have hlen:0<rs.length:=List.length_pos_iff.2 nd
  have kC:=Nat.mod_lt t hlen
  have UB:rs[t % rs.length]? =some rs[t % rs.length]:=List.getElem?_eq_getElem kC
  obtain⟨i,hi⟩: ∃ i,i=rs[t % rs.length]:=⟨_,rfl⟩
  have K9:i∈rs:=by rw[hi];exact List.getElem_mem kC
  obtain⟨UY,KJ,hi3⟩:=(K8 i).1 K9
  have hl: ∀ j,j<ops.size->(listed.setIfInBounds i true).getD j false=(listed.getD j false||j == i):=by
   intro j hj
   rw[Array.getD_eq_getD_getElem?,Array.getD_eq_getD_getElem?]
   by_cases G1:j=i
   ·subst G1
    rw[Array.getElem?_setIfInBounds_self_of_lt (by omega)]
    simp
   ·rw[Array.getElem?_setIfInBounds_ne (by omega)]
    simp[G1]
  obtain⟨s,BD,hs2⟩:=Ou hd fuel (t / rs.length) (listed.setIfInBounds i true) (i::acc) (i::D) (by simpa using hs)
   (fun j hj=>by
    rw[hl j hj]
    simp only[Bool.or_eq_true,beq_iff_eq,List.mem_cons,hD j hj]
    exact Or.comm)
   (by
    have hnd:(List.range ops.size).Nodup:=List.nodup_range
    have hlf:listed.getD i false=false:=by rw[Bool.eq_false_iff];exact fun k=>KJ ((hD i UY).1 k)
    have h1:=filter_one (p:=fun i=> !listed.getD i false) (List.range ops.size) i hnd (by simpa using UY) (by simp only[hlf];rfl)
    have h2:((List.range ops.size).filter fun j=> !(listed.setIfInBounds i true).getD j false)=(List.range ops.size).filter fun x=>(!listed.getD x false)&&x != i:=by
     apply List.filter_congr
     intro x hx
     rw[hl x (by simpa using hx)]
     cases listed.getD x false<;>simp[bne]
    rw[h2]
    omega)
  refine⟨i::s,?_,UY,KJ,hi3,hs2⟩
  rw[Region.linearise.go]
  simp only[<-hrs,UB,<-hi,BD,List.reverse_cons,List.append_assoc,List.singleton_append]
omit [Io] in
theorem Df{ops:Array Oper}(hd:Down ops)(t:Nat):UX ops [] (Region.schedule true ops t):=by
 have Jp: ∀ i,i<ops.size->(Array.replicate ops.size false).getD i false=false:=by
  intro i hi
  rw[Array.getD_eq_getD_getElem?]
  simp[hi]
 obtain⟨s,h1,h2⟩:=Ou hd ops.size t (Array.replicate ops.size false) [] [] (by simp) (fun i hi=>by rw[Jp i hi];simp) (by
  have:((List.range ops.size).filter fun i=> !(Array.replicate ops.size false).getD i false)=List.range ops.size:=by
   rw[List.filter_eq_self]
   intro i hi
   rw[Jp i (by simpa using hi)];rfl
  rw[this];simp)
 have:Region.schedule true ops t=s:=by
  simp only[Region.schedule,Bool.true_or,if_true,Region.linearise]
  rw[h1];simp
 rw[this]
 exact h2
def rZ(acc:List Nat)(es:List Edge):Nat:=
 List.rec 0 (fun e _ ih=>lA (Region.binds .any e) (Nat.lor (Nat.lor (Nat.pow 2 e.on) ((oH acc e.on).getD 0)) ih) ih) es
def tB(l:List Oper):List Nat->List Nat:=
 List.rec (fun acc=>acc) (fun o _ ih acc=>ih (app acc [rZ acc o.after.toList])) l
omit [Io] in
theorem vp{acc:List Nat}{k:Nat}: ∀ {es:List Edge},(rZ acc es).testBit k=true-> ∃ e∈es,Region.binds .any e=true/\(e.on=k∨(acc.getD e.on 0).testBit k=true)
 | [],h=>by simp[rZ]at h
 |e::es,h=>by
  change (lA (Region.binds .any e) (Nat.lor (Nat.lor (Nat.pow 2 e.on) ((oH acc e.on).getD 0)) (rZ acc es)) (rZ acc es)).testBit k=true at h
  cases hb:Region.binds .any e with
  |false=>
   rw[hb]at h
   obtain⟨e',he,h'⟩:=vp (es:=es) h
   exact⟨e',List.mem_cons_of_mem _ he,h'⟩
  |true=>
   rw[hb]at h
   change ((2 ^ e.on ||| (oH acc e.on).getD 0) ||| rZ acc es).testBit k=true at h
   rw[Nat.testBit_or,Nat.testBit_or,Nat.testBit_two_pow,Bool.or_eq_true,Bool.or_eq_true,kG]at h
   rcases h with(h|h)|h
   ·exact⟨e,List.mem_cons_self,hb,.inl (by simpa using h)⟩
   ·exact⟨e,List.mem_cons_self,hb,.inr (by simpa[List.getD]using h)⟩
   ·obtain⟨e',he,h'⟩:=vp (es:=es) h
    exact⟨e',List.mem_cons_of_mem _ he,h'⟩
omit [Io] in
theorem Ae: ∀ (l:List Oper) (acc:List Nat),(tB l acc).length=acc.length+l.length/\(∀ k,k<acc.length->(tB l acc)[k]? =acc[k]?)/\
 ∀ i o k,l[i]? =some o->((tB l acc).getD (acc.length+i) 0).testBit k=true-> ∃ e∈o.after.toList,Region.binds .any e=true/\(e.on=k∨((tB l acc).getD e.on 0).testBit k=true)
 | [],acc=>⟨by simp[tB],fun k _=>rfl,fun i o k h=>by simp at h⟩
 |o::l,acc=>by
  have hm:tB (o::l) acc=tB l (acc++[rZ acc o.after.toList]):=by
   show tB l (app acc _)=_
   rw[cX]
  obtain⟨h1,h2,h3⟩:=Ae l (acc++[rZ acc o.after.toList])
  rw[<-hm]at h1 h2 h3
  refine⟨by rw[h1];simp;omega,fun k hk=>?_,?_⟩
  ·rw[h2 k (by simp;omega),List.getElem?_append_left hk]
  ·intro i o' k hi hk
   cases i with
   |zero=>
    simp at hi
    subst hi
    have agq:(tB (o::l) acc)[acc.length]? =some (rZ acc o.after.toList):=by
     rw[h2 acc.length (by simp)];simp
    simp only[Nat.add_zero,List.getD,agq,Option.getD_some]at hk
    obtain⟨e,he,hb,TA⟩:=vp hk
    refine⟨e,he,hb,TA.imp id fun h=>?_⟩
    by_cases kC:e.on<acc.length
    ·simp only[List.getD]at h ⊢
     rw[h2 _ (by simp;omega),List.getElem?_append_left kC];exact h
    ·simp only[List.getD,List.getElem?_eq_none (Nat.le_of_not_lt kC)]at h
     simp at h
   |succ i=>
    have:=h3 i o' k (by simpa using hi) (by
     simp only[List.length_append,List.length_cons,List.length_nil,Nat.zero_add]
     rw[show acc.length+1+i=acc.length+(i+1) by omega];exact hk)
    exact this
def Hx(ops:List Oper)(i k:Nat):Bool:=((tB ops []).getD i 0).testBit k
def Dg(ops:List Oper)(D:List Nat):Prop:= ∀ j∈D,∀ k,Hx ops j k=true->k∈D
omit [Io] in
theorem Fj{ops:Array Oper}{D:List Nat}(hc:Dg ops.toList D){i:Nat}{o:Oper}(ho:ops[i]? =some o)
 (h: ∀ o e,ops[i]? =some o->e∈o.after->Region.binds .any e=true->e.on∈D):(∀ k,Hx ops.toList i k=true->k∈D)/\Dg ops.toList (i::D):=by
 have h1: ∀ k,Hx ops.toList i k=true->k∈D:=by
  intro k hk
  obtain⟨_,_,h3⟩:=Ae ops.toList []
  obtain⟨e,he,hb,TA⟩:=h3 i o k (by simpa using ho) (by simpa[Hx]using hk)
  have Jo:=h o e ho (by simpa using he) hb
  rcases TA with rfl|TA
  ·exact Jo
  ·exact hc _ Jo k (by simpa[Hx]using TA)
 refine⟨h1,fun j hj k hk=>?_⟩
 cases hj with
 |head=>exact List.mem_cons_of_mem _ (h1 k hk)
 |tail _ hj=>exact List.mem_cons_of_mem _ (hc j hj k hk)
end Go.Ab

noncomputable section
namespace Go.Ab
variable [Io]
section
variable {P:Program}{call:iP}
omit [Io] in
theorem wg{t t':Tm}: ∀ (l:List Operand),(∀ x∈l,cx x t=cx x t')->xk (l.map cx) t=xk (l.map cx) t'
 | [],_=>rfl
 |x::l,h=>by
  show(Option.rec none (fun v=>Option.rec none (fun vs=>some (v::vs)) (xk (l.map cx) t)) (cx x t):Option (List AV))=
   Option.rec none (fun v=>Option.rec none (fun vs=>some (v::vs)) (xk (l.map cx) t')) (cx x t')
  rw[h x List.mem_cons_self,wg l fun y hy=>h y (List.mem_cons_of_mem _ hy)]
omit [Io] in
theorem Af{t t':Tm}: ∀ (l:List (Nat×Operand)),(∀ x∈l.map (·.2),cx x t=cx x t')->qA (rX l) t=qA (rX l) t'
 | [],_=>rfl
 |p::l,h=>by
  show(match cx p.2 t with|some v=>(match qA (rX l) t with|some vs=>some ((p.1,v)::vs)|none=>none)|none=>none)=
   (match cx p.2 t' with|some v=>(match qA (rX l) t' with|some vs=>some ((p.1,v)::vs)|none=>none)|none=>none)
  rw[h p.2 List.mem_cons_self,Af l fun y hy=>h y (List.mem_cons_of_mem _ hy)]
omit [Io] in
theorem Ag{t t':Tm}{place:Nat->Option (Nat×Nat)}: ∀ (l:List (Nat×Operand)) (ps:List (Nat×Nat×jF)),xw place l=some ps->(∀ x∈l.map (·.2),cx x t=cx x t')->qB ps t=qB ps t'
 | [],ps,e,_=>by cases e;rfl
 |p::l,ps,e,h=>by
  change (match place p.1 with|some (off,size)=>(match xw place l with|some r=>some ((off,size,cx p.2)::r)|none=>none)|none=>none)=some ps at e
  split at e
  ·split at e
   ·rename_i r hr
    cases e
    show(match cx p.2 t with|some v=>(match qB r t with|some vs=>some ((_,_,v)::vs)|none=>none)|none=>none)=
     (match cx p.2 t' with|some v=>(match qB r t' with|some vs=>some ((_,_,v)::vs)|none=>none)|none=>none)
    rw[h p.2 List.mem_cons_self,Ag l r hr fun y hy=>h y (List.mem_cons_of_mem _ hy)]
   ·cases e
  ·cases e
omit [Io] in
theorem Ah{t t':Tm}{d:Nat}(x:Option Operand)(h: ∀ y∈x.toList,cx y t=cx y t'):qD (x.map cx) t d=qD (x.map cx) t' d:=by
 cases x with
 |none=>rfl
 |some y=>simp only[Option.map_some,qD,h y (by simp)]
omit [Io] in
theorem Hy{t t':Tm}{n:Nat}(lo hi:Option Operand)(h1: ∀ y∈lo.toList,cx y t=cx y t')(h2: ∀ y∈hi.toList,cx y t=cx y t'):
 bounds (lo.map cx) (hi.map cx) t n=bounds (lo.map cx) (hi.map cx) t' n:=by
 unfold bounds
 rw[Ah lo h1,Ah hi h2]
def jW(t t':Tm)(h:Hp)(f:jC):Prop:=f t h=f t' h
omit [Io] in
theorem UZ{t t':Tm}{h:Hp}:jW t t' h iw:=rfl
omit [Io] in
theorem oZ{t t':Tm}{h:Hp}{c:Bool}{f:jC}(e:jW t t' h f):jW t t' h (lA c f iw):=by cases c;exact UZ;exact e
omit [Io] in
theorem Ov{t t':Tm}{h:Hp}{c:Bool}{f f':jC}(e:jW t t' h f)(e':jW t t' h f'):jW t t' h (lA c f f'):=by cases c;exact e';exact e
omit [Io] in
theorem U1{t t':Tm}{h:Hp}(o:Op)(e: ∀ x∈o.operands.toList,cx x t=cx x t'):jW t t' h (rY P call o).2:=by
 cases o<;>simp only[rY]
 case move x=>simp only[jW,mC,e x (by simp[Op.operands])]
 case assign x=>simp only[jW,mC,e x (by simp[Op.operands])]
 case pick c x y=>simp only[jW,sN,mC,e c (by simp[Op.operands]),e x (by simp[Op.operands]),e y (by simp[Op.operands])]
 case alloc T=>unfold Og;split<;>rfl
 case box T x=>simp only[jW,Bw,e x (by simp[Op.operands])]
 case build T ps=>
  unfold zZ
  split
  ·split
   ·split
    ·rename_i q h3
     simp only[jW,qC,Ag (t:=t) (t':=t') ps.toList q h3 (fun x hx=>e x (by simpa[Op.operands]using hx))]
    ·rfl
   ·rfl
  ·rfl
 case buildSlice T n ps=>
  have hp:=Af (t:=t) (t':=t') ps.toList (fun x hx=>e x (by simpa[Op.operands]using hx))
  unfold ND
  split
  ·split
   ·split
    ·refine oZ ?_
     simp only[jW,zJ,hp]
    ·rfl
   ·rfl
  ·rfl
 case load T x=>
  unfold Fa
  split
  ·split
   ·simp only[jW,og,e x (by simp[Op.operands])]
   ·rfl
  ·rfl
 case store T x y=>
  unfold C5
  split
  ·refine oZ ?_
   simp only[jW,pL,e x (by simp[Op.operands]),e y (by simp[Op.operands])]
  ·rfl
 case nilCheck x=>simp only[jW,zK,e x (by simp[Op.operands])]
 case binOp op T x y yT=>
  cases E9 P op T with
  |none=>rfl
  |some f=>simp only[jW,sZ,e x (by simp[Op.operands]),e y (by simp[Op.operands])]
 case unOp op T x=>
  cases cUn op with
  |none=>rfl
  |some f=>simp only[jW,EH,e x (by simp[Op.operands])]
 case convert S D x=>
  have hx:=e x (by simp[Op.operands])
  split
  ·simp only[C9]
   split
   ·split
    ·split
     ·simp only[jW,rT,hx]
     ·rfl
    ·rfl
   ·split
    ·split
     ·refine oZ ?_
      simp only[jW,uS,hx]
     ·rfl
    ·rfl
   ·rfl
  ·simp only[Ob]
   split
   ·split
    ·simp only[jW,yz,wO,hx]
    ·rfl
   ·rfl
  ·simp only[Ce]
   split
   ·split
    ·simp only[jW,EH,hx]
    ·rfl
   ·rfl
 case makeFunc f first caps=>
  cases f<;>try rfl
  simp only
  split
  ·simp only[jW,Tw,wg (t:=t) (t':=t') caps.toList (fun x hx=>e x (by simp[Op.operands];exact .inr (by simpa using hx)))]
  ·rfl
 case makeMap T r=>cases r<;>rfl
 case makeSlice T l c=>
  have h1:=e l (by simp[Op.operands])
  have h2:=e c (by simp[Op.operands])
  unfold EW
  split
  ·split
   ·split
    ·refine oZ ?_
     simp only[jW,oP,h1,h2]
    ·rfl
   ·rfl
  ·rfl
 case slice T x lo hi mx=>
  cases mx with
  |some m=>
   have hx:=e x (by simp[Op.operands])
   have hm:=e m (by simp[Op.operands])
   have hh: ∀ y∈hi.toList,cx y t=cx y t':=fun y hy=>e y (by simp[Op.operands];right;right;left;simpa using hy)
   simp only
   unfold wc
   split
   ·rename_i y
    have hy:=hh y (by simp)
    split
    ·split
     ·simp only[jW,zP,wO,hx,hy,hm]
     ·rfl
    ·rfl
   ·rfl
  |none=>
  have hx:=e x (by simp[Op.operands])
  have hl: ∀ y∈lo.toList,cx y t=cx y t':=fun y hy=>e y (by simp[Op.operands];right;left;simpa using hy)
  have hh: ∀ y∈hi.toList,cx y t=cx y t':=fun y hy=>e y (by simp[Op.operands];right;right;simpa using hy)
  have hb: ∀ n,bounds (lo.map cx) (hi.map cx) t n=bounds (lo.map cx) (hi.map cx) t' n:=fun n=>Hy lo hi hl hh
  simp only
  unfold z9
  split
  ·simp only[jW,nT,hx,hb]
  ·split
   ·simp only[jW,j9,qE,hx,hb]
   ·rfl
  ·split
   ·refine oZ ?_
    simp only[jW,lQ,hx,hb]
   ·rfl
  ·rfl
 case fieldAddr T x n=>
  have hx:=e x (by simp[Op.operands])
  unfold pS
  split
  ·split
   ·split
    ·refine oZ ?_
     simp only[jW,jk,hx]
    ·rfl
   ·rfl
  ·rfl
 case field T x n=>
  have hx:=e x (by simp[Op.operands])
  unfold z7
  split
  ·split
   ·split
    ·split
     ·simp only[jW,pN,hx]
     ·rfl
    ·rfl
   ·rfl
  ·rfl
 case indexAddr T x y=>
  have hx:=e x (by simp[Op.operands])
  have hy:=e y (by simp[Op.operands])
  unfold pT
  split
  ·split
   ·simp only[jW,vT,hx,hy]
   ·rfl
  ·split
   ·simp only[jW,yx,hx,hy]
   ·rfl
  ·rfl
 case index T x y=>
  have hx:=e x (by simp[Op.operands])
  have hy:=e y (by simp[Op.operands])
  unfold z8
  split
  ·split
   ·split
    ·simp only[jW,oI,hx,hy]
    ·rfl
   ·rfl
  ·simp only[jW,nU,hx,hy]
  ·rfl
 case extract x i=>simp only[jW,lC,e x (by simp[Op.operands])]
 case call c=>
  have rb: ∀ x∈c.args.toList,cx x t=cx x t':=fun x hx=>e x (by simp[Op.operands,Call.operands];right;simpa using hx)
  cases hb:mD P c with
  |some f=>
   simp only
   unfold mD at hb
   split at hb
   ·split at hb
    ·rename_i x T h1 h2
     cases hb
     have hx:=rb x (by simp[h1])
     unfold Oe
     split
     ·simp only[jW,sO,hx]
     ·simp only[jW,zN,wO,hx]
     ·rfl
     ·rfl
    ·cases hb;rfl
   ·split at hb
    ·rename_i x T h1 h2
     cases hb
     have hx:=rb x (by simp[h1])
     unfold Of
     split
     ·simp only[jW,zM,wO,hx]
     ·rfl
    ·cases hb;rfl
   ·split at hb
    ·rename_i x y h1
     cases hb
     simp only[jW,Bx,sZ,rb x (by simp[h1]),rb y (by simp[h1])]
    ·cases hb;rfl
   ·split at hb
    ·rename_i x y h1
     cases hb
     simp only[jW,Bz,sZ,rb x (by simp[h1]),rb y (by simp[h1])]
    ·cases hb;rfl
   ·cases hb
  |none=>
   simp only
   unfold Jn
   split
   ·split
    ·rename_i s x T T' h1 h2
     have h3:=rb s (by simp[h1])
     have h4:=rb x (by simp[h1])
     refine Ov ?_ ?_
     ·unfold zd
      split
      ·split
       ·split
        ·refine oZ ?_
         simp only[jW,ka,rU,wO,h3,h4]
        ·rfl
       ·rfl
      ·rfl
     ·unfold Jg
      split
      ·unfold Jf
       split
       ·split
        ·split
         ·split
          ·refine oZ ?_
           simp only[jW,vV,h3,h4]
          ·rfl
         ·rfl
        ·rfl
       ·rfl
      ·unfold Je
       split
       ·split
        ·split
         ·split
          ·refine oZ ?_
           simp only[jW,tf,h3,h4]
          ·rfl
         ·rfl
        ·rfl
       ·rfl
    ·rfl
   ·split
    ·rename_i d s T T' h1 h2
     have h3:=rb d (by simp[h1])
     have h4:=rb s (by simp[h1])
     unfold Jm
     split
     ·split
      ·simp only[jW,oQ,wO,h3,h4]
      ·rfl
     ·rfl
    ·rfl
   ·rename_i f args vn
    simp only[jW,yc,wg (t:=t) (t':=t') args.toList rb]
   ·rename_i f args vn _
    have hf:=e f (by simp[Op.operands,Call.operands])
    simp only[jW,th,hf,wg (t:=t) (t':=t') args.toList rb]
   ·rfl
 all_goals rfl
def Fk:Operand->List Nat
 | .tmp i=>[i]
 | _=>[]
def ur(all:List Oper)(o:Oper):List Nat:=
 app (List.rec [] (fun x _ ih=>app (Fk x) ih) o.op.operands.toList) (match o.guard with
  |none=>[]
  |some (j,_)=>match oH all j with
   |some oj=>match oj.dst with
    |some d=>[d]
    |none=>[]
   |none=>[])
omit [Io] in
theorem Fl{x:Operand}{i:Nat}: ∀ {l:List Operand},x∈l->i∈Fk x->i∈(List.rec [] (fun x _ ih=>app (Fk x) ih) l:List Nat)
 | [],h,_=>by cases h
 |y::l,h,hi=>by
  show i∈app (Fk y) _
  rw[cX]
  cases h with
  |head=>exact List.mem_append_left _ hi
  |tail _ h=>exact List.mem_append_right _ (Fl h hi)
omit [Io] in
theorem U2{nt:Nat}{all:List Oper}{o:Oper}{t t':Tm}{h:Hp}(e: ∀ u∈ur all o,t.at u=t'.at u):oE P call nt all o t h=oE P call nt all o t' h:=by
 have hx: ∀ x∈o.op.operands.toList,cx x t=cx x t':=by
  intro x hx
  cases x with
  |tmp i=>
   have:=e i (by unfold ur;rw[cX];exact List.mem_append_left _ (Fl hx (by simp[Fk])))
   show lA (Nat.blt i 512) (oT i) oX t=lA (Nat.blt i 512) (oT i) oX t'
   cases Nat.blt i 512
   ·rfl
   ·exact this
  |const v=>show(match TQ v with|some a=>oC a|none=>oX) t=(match TQ v with|some a=>oC a|none=>oX) t';cases TQ v<;>rfl
  |global g=>rfl
  |func f=>rfl
 have hd:=U1 (P:=P) (call:=call) (h:=h) o.op hx
 unfold oE
 cases hg:o.guard with
 |none=>exact hd
 |some p=>
  obtain⟨j,want⟩:=p
  simp only
  cases hj:oH all j with
  |none=>rfl
  |some oj=>
   simp only
   cases hdj:oj.dst with
   |none=>rfl
   |some d=>
    simp only
    cases Nat.blt d nt with
    |false=>rfl
    |true=>
     have Jc:t.at d=t'.at d:=e d (by
      unfold ur
      rw[cX,hg]
      refine List.mem_append_right _ ?_
      simp[hj,hdj])
     show gF (oT d) want (rY P call o.op).2 t h=gF (oT d) want (rY P call o.op).2 t' h
     unfold gF
     unfold jW at hd
     rw[hd]
     show(match t.at d with|some (.bool b)=>_|some (.yv [])=>_| _=>_)=(match t'.at d with|some (.bool b)=>_|some (.yv [])=>_| _=>_)
     rw[Jc]
end
end Go.Ab

noncomputable section
namespace Go.Ab
variable [Io]
section
variable {P:Program}{call:iP}
def ou(f:jC):Prop:= ∀ t h h0,f t h=(match f t h0 with| .ok v _=>.ok v h| .bad=>.bad)
omit [Io] in
theorem ou.ok{f:jC}(i:ou f){t:Tm}{h h':Hp}{v:AV}(e:f t h=.ok v h'):h'=h/\ ∀ h0,f t h0=.ok v h0:=by
 refine⟨?_,fun h0=>by rw[i t h0 h,e]⟩
 have:=i t h h
 rw[e]at this
 exact(Ro.ok.inj this).2
omit [Io] in
theorem iN:ou iw:=fun _ _ _=>rfl
omit [Io] in
theorem Jq{c:Bool}{f:jC}(i:ou f):ou (lA c f iw):=by cases c;exact iN;exact i
omit [Io] in
theorem tC{x:jF}:ou (mC x):=by intro t h h0;unfold mC;cases x t<;>rfl
omit [Io] in
theorem Ow{c x y:jF}:ou (sN c x y):=by
 intro t h h0;unfold sN;cases c t<;>try rfl
 rename_i a;cases a<;>try rfl
 rename_i b;cases b
 ·exact tC t h h0
 ·exact tC t h h0
omit [Io] in
theorem U3{x:jF}:ou (zK x):=by intro t h h0;unfold zK;cases x t<;>try rfl
                               rename_i a;cases a<;>rfl
omit [Io] in
theorem Dh{f:AV->AV->Option AV}{x y:jF}:ou (sZ f x y):=by
 intro t h h0;unfold sZ;cases x t<;>try rfl
 rename_i a;cases y t<;>try rfl
 rename_i b;simp only;cases f a b<;>rfl
omit [Io] in
theorem Oy{f:AV->Option AV}{x:jF}:ou (EH f x):=by
 intro t h h0;unfold EH;cases x t<;>try rfl
 rename_i a;simp only;cases f a<;>rfl
omit [Io] in
theorem aaL{f:FuncId}{l:List jF}:ou (Tw f l):=by intro t h h0;unfold Tw;cases xk l t<;>rfl
omit [Io] in
theorem K'{z:List AV}{ps:List (Nat×Nat×jF)}:ou (qC z ps):=by
 intro t h h0;unfold qC;cases qB ps t<;>try rfl
 rename_i vs;simp only;cases zH vs z<;>rfl
omit [Io] in
theorem BH{n:Nat}{x:jF}:ou (jk n x):=by intro t h h0;unfold jk;cases x t<;>try rfl
                                        rename_i a;cases a<;>rfl
omit [Io] in
theorem La{n m:Nat}{b:Bool}{x:jF}:ou (pN n m b x):=by
 intro t h h0;unfold pN;cases x t<;>try rfl
 rename_i a;cases a<;>try rfl
 rename_i cs;simp only;cases part b cs n m<;>rfl
omit [Io] in
theorem U4{n:Nat}{x y:jF}:ou (vT n x y):=by
 intro t h h0;unfold vT;cases y t<;>try rfl
 rename_i a;cases a<;>try rfl
 rename_i k i;cases i<;>try rfl
 rename_i i;simp only;cases x t<;>try rfl
 rename_i a;cases a<;>try rfl
 ·rename_i id off m sz;simp only;cases(Nat.blt i m&&Nat.beq sz n)<;>rfl
 ·rename_i m cs;simp only;cases Nat.blt i m<;>rfl
omit [Io] in
theorem U5{m n:Nat}{x y:jF}:ou (yx m n x y):=by
 intro t h h0;unfold yx;cases y t<;>try rfl
 rename_i a;cases a<;>try rfl
 rename_i k i;cases i<;>try rfl
 rename_i i;simp only;cases x t<;>try rfl
 rename_i a;cases a<;>try rfl
 ·simp only;cases Nat.blt i m<;>rfl
 ·simp only;cases Nat.blt i m<;>rfl
omit [Io] in
theorem Lb{m n:Nat}{b:Bool}{x y:jF}:ou (oI m n b x y):=by
 intro t h h0;unfold oI;cases x t<;>try rfl
 rename_i a;cases a<;>try rfl
 rename_i cs;simp only;cases y t<;>try rfl
 rename_i a;cases a<;>try rfl
 rename_i k i;cases i<;>try rfl
 rename_i i;simp only;cases Nat.blt i m<;>try rfl
 simp only[cond_true];cases part b cs (Nat.mul i n) n<;>rfl
omit [Io] in
theorem Hz{x y:jF}:ou (nU x y):=by
 intro t h h0;unfold nU;cases x t<;>try rfl
 rename_i a;cases a<;>try rfl
 rename_i v;cases v<;>try rfl
 rename_i s;simp only;cases y t<;>try rfl
 rename_i a;cases a<;>try rfl
 ·rename_i k i;cases i<;>try rfl
  rename_i i;simp only;cases oH s.data.toList i<;>rfl
 ·rename_i k sv lo hi o;simp only;cases(!(oD (Int.add lo o) 0)&&oD (Int.add hi o) (.ofNat s.size))<;>rfl
omit [Io] in
theorem Fm{x:jF}{i:Nat}:ou (lC x i):=by
 intro t h h0;unfold lC;cases x t<;>try rfl
 rename_i a;cases a<;>try rfl
 rename_i vs;simp only;cases oH vs i<;>rfl
omit [Io] in
theorem Oz{x:jF}:ou (sO x):=by
 intro t h h0;unfold sO;cases x t<;>try rfl
 rename_i a;cases a<;>try rfl
 rename_i v;cases v<;>rfl
omit [Io] in
theorem U6{x:jF}:ou (zN x):=by
 intro t h h0;unfold zN;cases x t<;>try rfl
 rename_i a;cases a<;>rfl
omit [Io] in
theorem U7{x:jF}:ou (zM x):=by
 intro t h h0;unfold zM;cases x t<;>try rfl
 rename_i a;cases a<;>rfl
omit [Io] in
theorem U8{o:Op}(hc:(rY P call o).1=.p0):ou (rY P call o).2:=by
 cases o<;>simp only[rY]at hc ⊢
 case move x=>exact tC
 case assign x=>exact tC
 case pick c x y=>exact Ow
 case alloc T=>cases hc
 case box T x=>cases hc
 case build T ps=>
  unfold zZ
  split
  ·split
   ·split
    ·exact K'
    ·exact iN
   ·exact iN
  ·exact iN
 case buildSlice T n ps=>cases hc
 case load T x=>cases hc
 case store T x y=>cases hc
 case nilCheck x=>exact U3
 case binOp op T x y yT=>
  cases E9 P op T with
  |some f=>exact Dh
  |none=>exact iN
 case unOp op T x=>
  cases cUn op with
  |some f=>exact Oy
  |none=>exact iN
 case convert S D x=>
  have kr:ou (Ce P S D x):=by
   unfold Ce
   split
   ·split
    ·exact Oy
    ·exact iN
   ·exact iN
  split
  ·rename_i h
   rw[h]at hc
   cases hc
  ·rename_i h
   rw[h]at hc
   cases hc
  ·exact kr
 case makeFunc f first caps=>
  cases f<;>try (cases hc;done)
  simp only
  cases first.toList with
  |nil=>exact aaL
  |cons a l=>exact iN
 case makeSlice T l c=>cases hc
 case slice T x lo hi mx=>cases mx<;>cases hc
 case fieldAddr T x n=>
  unfold pS
  split
  ·split
   ·split
    ·exact Jq BH
    ·exact iN
   ·exact iN
  ·exact iN
 case field T x n=>
  unfold z7
  split
  ·split
   ·split
    ·split
     ·exact La
     ·exact iN
    ·exact iN
   ·exact iN
  ·exact iN
 case indexAddr T x y=>
  unfold pT
  split
  ·split
   ·exact U4
   ·exact iN
  ·split
   ·exact U5
   ·exact iN
  ·exact iN
 case index T x y=>
  unfold z8
  split
  ·split
   ·split
    ·exact Lb
    ·exact iN
   ·exact iN
  ·exact Hz
  ·exact iN
 case extract x i=>exact Fm
 case call c=>
  cases hb:mD P c with
  |none=>rw[hb]at hc;cases hc
  |some f=>
   simp only
   unfold mD at hb
   split at hb
   ·split at hb
    ·cases hb
     unfold Oe
     split
     ·exact Oz
     ·exact U6
     ·exact tC
     ·exact iN
    ·cases hb;exact iN
   ·split at hb
    ·cases hb
     unfold Of
     split
     ·exact U7
     ·exact iN
    ·cases hb;exact iN
   ·split at hb
    ·cases hb;exact Dh
    ·cases hb;exact iN
   ·split at hb
    ·cases hb;exact Dh
    ·cases hb;exact iN
   ·cases hb
 case makeMap T r=>cases r<;>cases hc
 all_goals (cases hc)
def Lc(f:jC):Prop:= ∀ t h v h',f t h=.ok v h'-> ∀ h0:Hp,h0.next=h.next->(h'=h/\f t h0=.ok v h0)∨ ∃ cs,h'=iV h cs/\f t h0=.ok v (iV h0 cs)
omit [Io] in
theorem mE:Lc iw:=by intro t h v h' e;cases e
omit [Io] in
theorem Ai{c:Bool}{f:jC}(i:Lc f):Lc (lA c f iw):=by cases c;exact mE;exact i
omit [Io] in
theorem OA{o:Op}(hc:(rY P call o).1=.al):Lc (rY P call o).2:=by
 cases o<;>simp only[rY]at hc ⊢
 case alloc T=>
  unfold Og
  split
  ·intro t h v h' e h0 hn
   cases e
   exact .inr ⟨_,rfl,by unfold Ha;rw[hn]⟩
  ·exact mE
 case box T x=>
  intro t h v h' e h0 hn
  unfold Bw at e ⊢
  cases hx:cx x t with
  |none=>rw[hx]at e;cases e
  |some a=>rw[hx]at e;cases e;exact .inr ⟨_,rfl,by rw[hn]⟩
 case buildSlice T n ps=>
  unfold ND
  split
  ·split
   ·split
    ·refine Ai ?_
     rename_i ie ql _ z hz0
     intro t h v h' e h0 hn
     unfold zJ at e ⊢
     cases hp:qA (rX ps.toList) t with
     |none=>rw[hp]at e;cases e
     |some vs=>
      rw[hp]at e
      simp only at e ⊢
      cases hz:Nat.beq n 0 with
      |true=>
       rw[hz]at e
       cases vs with
       |nil=>cases e;exact .inl ⟨rfl,rfl⟩
       |cons _ _=>cases e
      |false=>
       rw[hz]at e
       simp only[cond_false]at e ⊢
       cases hf:uj n ie.size z vs with
       |none=>rw[hf]at e;cases e
       |some cs=>rw[hf]at e;cases e;exact .inr ⟨_,rfl,by rw[hn]⟩
    ·exact mE
   ·exact mE
  ·exact mE
 case makeSlice T l c=>
  unfold EW
  split
  ·split
   ·split
    ·refine Ai ?_
     rename_i ie ql _ z hz0
     intro t h v h' e h0 hn
     unfold oP at e ⊢
     cases hl:cx l t with
     |none=>rw[hl]at e;cases e
     |some a=>
     cases a<;>try (rw[hl]at e;cases e;done)
     rename_i k i
     cases i<;>try (rw[hl]at e;cases e;done)
     rename_i i
     rw[hl]at e
     simp only at e ⊢
     cases UA:cx c t with
     |none=>rw[UA]at e;cases e
     |some a=>
     cases a<;>try (rw[UA]at e;cases e;done)
     rename_i k2 j
     cases j<;>try (rw[UA]at e;cases e;done)
     rename_i j
     rw[UA]at e
     simp only at e ⊢
     cases hb:(Nat.ble i j&&Nat.ble (Nat.mul j ie.bytes) 70368744177664)with
     |false=>rw[hb]at e;cases e
     |true=>
     rw[hb]at e
     simp only[cond_true]at e ⊢
     cases hz:Nat.beq j 0 with
     |true=>rw[hz]at e;cases e;exact .inl ⟨rfl,rfl⟩
     |false=>rw[hz]at e;cases e;exact .inr ⟨_,rfl,by simp only[cond_false];rw[hn]⟩
    ·exact mE
   ·exact mE
  ·exact mE
 case binOp op T x y yT=>cases h:E9 P op T<;>rw[h]at hc<;>cases hc
 case unOp op T x=>cases h:cUn op<;>rw[h]at hc<;>cases hc
 case convert S D x=>
  cases h:P.underlying D with
  |none=>rw[h]at hc;cases hc
  |some d=>cases d<;>rw[h]at hc<;>cases hc
 case makeFunc f first caps=>
  cases f<;>try (cases hc;done)
  simp only at hc
  cases h:first.toList<;>rw[h]at hc<;>cases hc
 case slice T x lo hi mx=>cases mx<;>cases hc
 case makeMap T r=>cases r<;>cases hc
 case call c=>cases h:mD P c<;>rw[h]at hc<;>cases hc
 all_goals (cases hc)
end
end Go.Ab

noncomputable section
namespace Go.Ab
variable [Io]
def G.to(g:G)(N:Nat):G:=⟨fun id=>if id<N then g.m id else none,g.j3⟩
omit [Io] in
theorem Cg(g:G)(w:World):vW g w g w:=⟨fun _ _ e=>e,fun _ i=>i,fun _ _=>rfl,fun _=>Nat.le_refl _⟩
omit [Io] in
theorem r5(g:G)(w:World){N M:Nat}(h:N<=M):vW (g.to N) w (g.to M) w:=
 ⟨(by
   intro id x e
   simp only[G.to]at e ⊢
   by_cases h1:id<N
   ·rw[if_pos h1]at e;rw[if_pos (by omega)];exact e
   ·rw[if_neg h1]at e;cases e),fun _ i=>i,fun _ _=>rfl,fun _=>Nat.le_refl _⟩
def kb(N:Nat):Hp:=⟨N,.nil⟩
theorem OB{g:G}{w:World}{N:Nat}(h: ∀ b,g.j3 b->b<w.heap.size):HC g w (kb N):=⟨(fun _ _ e=>by cases e),h⟩
section
variable {P:Program}{call:iP}{o:Oper}
theorem yh{ops:Array Oper}{g w nt t h}{a:Act}{v:AV}{h':Hp}(T:TR g w nt t a.tmps)
 (e:oE P call nt ops.toList o t h=.ok v h'):(Region.wanted o (yielded ops a.tmps)=true/\(rY P call o.op).2 t h=.ok v h')∨
  (Region.wanted o (yielded ops a.tmps)=false/\v=kN/\h'=h):=by
 unfold oE at e
 cases hg:o.guard with
 |none=>
  rw[hg]at e
  exact .inl ⟨by simp[Region.wanted,hg],e⟩
 |some p=>
  obtain⟨j,want⟩:=p
  rw[hg]at e
  simp only[kG]at e
  cases hj:ops.toList[j]? with
  |none=>simp only[hj]at e;cases e
  |some oj=>
  simp only[hj]at e
  cases hd:oj.dst with
  |none=>simp only[hd]at e;cases e
  |some d=>
  simp only[hd]at e
  cases hb:Nat.blt d nt with
  |false=>simp only[hb]at e;cases e
  |true=>
  simp only[hb]at e
  have MV:=ic.1 hb
  change gF (oT d) want (rY P call o.op).2 t h=.ok v h' at e
  have hj':ops[j]? =some oj:=by simpa using hj
  have sP:=T.2.1
  have hy: ∀ y,a.tmps.getD d undef=y->yielded ops a.tmps j=match y with| .bool b=>some b| _=>none:=by
   intro y hy
   have:a.tmps[d]? =some y:=by
    rw[Array.getD_eq_getD_getElem?]at hy
    rw[Array.getElem?_eq_getElem (by omega)]at hy ⊢
    simpa using hy
   simp[yielded,hj',hd,this]
   cases y<;>rfl
  unfold gF at e
  split at e
  ·rename_i b EY
   have hv:=(T.2.2 d _ (by have:=T.1;omega) EY).2
   simp only[VR]at hv
   have UQ:=hy _ hv
   cases UR:(lA want b (!b))with
   |true=>
    rw[UR]at e
    have:b=want:=by cases want<;>cases b<;>simp[lA]at UR<;>rfl
    exact .inl ⟨by simp[Region.wanted,hg,UQ,this],e⟩
   |false=>
    rw[UR]at e
    have:b≠want:=by cases want<;>cases b<;>simp[lA]at UR<;>simp
    cases e
    exact .inr ⟨by simp[Region.wanted,hg,UQ,this],rfl,rfl⟩
  ·rename_i EY
   have hv:=(T.2.2 d _ (by have:=T.1;omega) EY).2
   simp only[VR]at hv
   obtain⟨vs,hv,jE⟩:=hv
   have UQ:=hy _ hv
   cases e
   exact .inr ⟨by simp[Region.wanted,hg,UQ],rfl,rfl⟩
  ·cases e
theorem Fo(g:G)(w:World):VR g w kN undef:=by simp only[kN,VR];exact⟨_,rfl,by simp[cZ]⟩
theorem Ch(hc:jL P call){ops:Array Oper}{i:Nat}(hi:ops[i]? =some o){g w nt t h}{a:Act}{v:AV}{h':Hp}(kj:(rY P call o.op).1=.p0∨(rY P call o.op).1=.p1)
 (H:HC g w h)(T:TR g w nt t a.tmps)(e:oE P call nt ops.toList o t h=.ok v h'){Q:Exit->Act->World->Prop}{rest:List Nat}
 (K: ∀ x,VR g w v x->wpOps P ops Q rest (a.put o.dst x) w):wpOps P ops Q (i::rest) a w:=by
 rw[wpOps,hi]
 simp only
 have hp:ik P o (rY P call o.op).2:=by
  have:=Dc (o:=o) hc
  cases h:rY P call o.op with
  |mk c f=>
   rw[h]at this kj
   cases c
   ·exact this
   ·exact this
   ·rcases kj with h|h<;>cases h
   ·rcases kj with h|h<;>cases h
 rcases yh T e with⟨hw,e⟩|⟨hw,rfl,rfl⟩
 ·rw[if_pos hw]
  obtain⟨rfl,x,hx,hv⟩:=hp g w nt t h a v h' H T e
  refine .inl ?_
  unfold Oper.wp
  rw[hx]
  exact K x hv
 ·rw[if_neg (by simp[hw])]
  exact K undef (Fo g w)
theorem OC(hc:jL P call){ops:Array Oper}{i:Nat}(hi:ops[i]? =some o){g w nt t h}{a:Act}{v:AV}{h':Hp}(kj:(rY P call o.op).1=.al)
 (H:HC g w h)(T:TR g w nt t a.tmps)(e:oE P call nt ops.toList o t h=.ok v h'){Q:Exit->Act->World->Prop}{rest:List Nat}
 (K1:h'=h-> ∀ x w',(w'=w∨ ∃ ob,w'=w.alloc ob)->(∀ g' w',VR g' w' v x)->wpOps P ops Q rest (a.put o.dst x) w')
 (K2: ∀ cs C el vs x,h'=iV h cs->cZ g w cs.toL vs->(∀ (j:Nat) (v:Value),vs[j]? =some v->C[j]? =some v)->
  (∀ g' w',g'.m h.next=some (w.heap.size,0)->C.size<=jl w' w.heap.size->VR g' w' v x)->wpOps P ops Q rest (a.put o.dst x) (w.alloc (.cells C el))):
 wpOps P ops Q (i::rest) a w:=by
 rw[wpOps,hi]
 simp only
 have hp:qZ P o (rY P call o.op).2:=by
  have:=Dc (o:=o) hc
  cases h:rY P call o.op with
  |mk c f=>rw[h]at this kj;simp only at kj;subst kj;exact this
 rcases yh T e with⟨hw,e⟩|⟨hw,rfl,rfl⟩
 ·rw[if_pos hw]
  rcases hp g w nt t h a v h' H T e with⟨rfl,x,C,el,hr,hv⟩|⟨cs,C,el,vs,x,rfl,hr,jE,hC,hv⟩
  ·refine .inl ?_
   unfold Oper.wp
   rw[hr]
   exact K1 rfl x _ (.inr ⟨_,rfl⟩) hv
  ·refine .inl ?_
   unfold Oper.wp
   rw[hr]
   exact K2 cs C el vs x rfl jE hC hv
 ·rw[if_neg (by simp[hw])]
  exact K1 rfl undef _ (.inl rfl) (fun g w=>Fo g w)
omit [Io] in
theorem wh{nt:Nat}{all:List Oper}(kj:(rY P call o.op).1=.p0):ou (oE P call nt all o):=by
 have hf:ou (rY P call o.op).2:=U8 kj
 unfold oE
 cases o.guard with
 |none=>exact hf
 |some p=>
  obtain⟨j,want⟩:=p
  simp only
  split
  ·split
   ·refine Jq ?_
    intro t h h0
    unfold gF
    split
    ·rename_i b _
     cases lA want b (!b)
     ·rfl
     ·exact hf t h h0
    ·rfl
    ·rfl
   ·exact iN
  ·exact iN
omit [Io] in
theorem Fp{nt:Nat}{all:List Oper}(kj:(rY P call o.op).1=.al):Lc (oE P call nt all o):=by
 have hf:Lc (rY P call o.op).2:=OA kj
 unfold oE
 cases o.guard with
 |none=>exact hf
 |some p=>
  obtain⟨j,want⟩:=p
  simp only
  split
  ·split
   ·refine Ai ?_
    intro t h v h' e h0 hn
    unfold gF at e ⊢
    split at e
    ·rename_i b hb
     cases hw:lA want b (!b)with
     |false=>rw[hw]at e;cases e;exact .inl ⟨rfl,rfl⟩
     |true=>rw[hw]at e;exact hf t h v h' e h0 hn
    ·cases e
     exact .inl ⟨rfl,rfl⟩
    ·cases e
   ·exact mE
  ·exact mE
end
end Go.Ab

noncomputable section
namespace Go.Ab
variable [Io]
inductive pd where
 |last (pre kV:List Nat)
 |cons (pre kV:List Nat) (q:Nat) (rest:pd)
def pd.pre:pd->List Nat
 | .last p _=>p
 | .cons p _ _ _=>p
def pd.kV:pd->List Nat
 | .last _ a=>a
 | .cons _ a _ r=>a++r.kV
def pd.Bo:pd->List Nat
 | .last _ _=>[]
 | .cons _ _ q r=>q::r.Bo
structure Cx where
 P:Program
 call:iP
 ops:Array Oper
 nt:Nat
 t0:Tm
 te:Tm
 nx:Nat->Nat
 bd:Nat->Nat
 g0:G
 w0:World
 h0:Hp
 hE:Hp
namespace Cx
variable (c:Cx)
def iZ(i:Nat)(k:Cl):Prop:= ∃ o,c.ops[i]? =some o/\(rY c.P c.call o.op).1=k
def FE(i:Nat):jC:=match c.ops[i]? with
 |some o=>oE c.P c.call c.nt c.ops.toList o
 |none=>iw
def pF(i d:Nat):Prop:= ∃ o,c.ops[i]? =some o/\o.dst=some d
def TB(i:Nat):List Nat:=match c.ops[i]? with
 |some o=>ur c.ops.toList o
 |none=>[]
def An(i j:Nat):Prop:=Hx c.ops.toList i j=true
def r6(i N:Nat):Prop:= ∀ u∈c.TB i,u<c.nt/\((∀ j,c.pF j u->c.An i j/\c.bd j<=N)∨ ∀ j,c.pF j u->c.An j i)
open Classical in
def MW(i:Nat):List Nat->Tm
 | []=>Tm.none
 |u::l=>Tm.put (MW i l) u (if ∃ j,c.pF j u/\c.An i j then Tm.at c.te u else Tm.at c.t0 u)
def rf(i:Nat):Tm:=c.MW i (c.TB i)
def Slot(i:Nat)(v:AV):Prop:= ∀ d,c.pF i d->d<c.nt/\c.te.at d=some v
def P1s(pre:List Nat)(h:Hp):Prop:= ∀ i∈pre,c.iZ i .p1-> ∃ v,c.FE i (c.rf i) h=.ok v h/\c.Slot i v/\c.r6 i h.next
def yE:List Nat->Hp->Hp->Prop
 | [],h,h1=>h1=h
 |i::l,h,h1=>(c.iZ i .p0/\yE l h h1)∨(c.iZ i .al/\c.nx i=h.next/\((c.bd i=c.nx i/\yE l h h1)∨
  ∃ v cs,c.bd i=c.nx i+1/\c.FE i (c.rf i) (kb (c.nx i))=.ok v (iV (kb (c.nx i)) cs)/\yE l (iV h cs) h1))
def BI:pd->Hp->Prop
 | .last pre kV,h=>c.P1s pre h/\c.yE kV h c.hE
 | .cons pre kV q rest,h=>c.P1s pre h/\ ∃ h1,c.yE kV h h1/\c.iZ q .ch/\ ∃ v h2,c.FE q (c.rf q) h1=.ok v h2/\c.Slot q v/\c.r6 q h1.next/\
   c.bd q=h2.next/\h1.next<=h2.next/\BI rest h2
def Jr:List Nat->pd->Prop
 |mS,.last pre _=> ∀ i,c.iZ i .p1->(∃ j∈mS,c.An j i)∨i∈pre
 |mS,.cons pre kV q rest=>(∀ i,c.iZ i .p1->(∃ j∈mS,c.An j i)∨(∃ j∈q::rest.Bo,c.An i j)∨i∈pre)/\(∀ i∈kV,c.iZ i .al->c.An q i)/\
  (∀ q'∈rest.Bo,c.An q' q)/\Jr (q::mS) rest
structure U9:Prop where
 p0: ∀ i,c.iZ i .p0-> ∃ v,(∀ h,c.FE i (c.rf i) h=.ok v h)/\c.Slot i v/\c.r6 i (c.bd i)
 al: ∀ i,c.iZ i .al-> ∃ v,c.Slot i v/\c.r6 i (c.nx i)/\((c.FE i (c.rf i) (kb (c.nx i))=.ok v (kb (c.nx i))/\c.bd i=c.nx i)∨
  ∃ cs,c.FE i (c.rf i) (kb (c.nx i))=.ok v (iV (kb (c.nx i)) cs)/\c.bd i=c.nx i+1)
 dst: ∀ i j d,c.pF i d->c.pF j d->i=j
 top: ∀ i,i<c.ops.size->c.bd i<=c.hE.next
 same: ∀ u,u<512->(∀ j,¬ c.pF j u)->c.te.at u=c.t0.at u
 call:jL c.P c.call
 nt:c.nt<=512
omit [Io] in
theorem tD{h1:Hp}: ∀ {l:List Nat} {h:Hp},c.yE l h h1->h.next<=h1.next
 | [],h,e=>by cases e;exact Nat.le_refl _
 |i::l,h,e=>by
  rcases e with⟨_,e⟩|⟨_,_,⟨_,e⟩|⟨v,cs,_,_,e⟩⟩
  ·exact tD e
  ·exact tD e
  ·have:=tD e
   exact Nat.le_trans (Nat.le_succ _) this
omit [Io] in
theorem pU{h1:Hp}: ∀ {l:List Nat} {h:Hp},c.yE l h h1-> ∀ i∈l,c.iZ i .al->h.next<=c.nx i/\(c.bd i=c.nx i+1->c.nx i<h1.next)
 | [],h,e,i,hi,_=>by cases hi
 |j::l,h,e,i,hi,hc=>by
  rcases e with⟨hj,e⟩|⟨hj,hn,⟨hb,e⟩|⟨v,cs,hb,_,e⟩⟩
  ·rcases List.mem_cons.1 hi with rfl|hi
   ·obtain⟨o,ho,h1⟩:=hj
    obtain⟨o',pG,h2⟩:=hc
    rw[ho]at pG
    cases pG
    rw[h1]at h2
    cases h2
   ·exact pU e i hi hc
  ·rcases List.mem_cons.1 hi with rfl|hi
   ·exact⟨by omega,fun h=>by omega⟩
   ·exact pU e i hi hc
  ·rcases List.mem_cons.1 hi with rfl|hi
   ·have:=tD c e
    have:h.next+1<=h1.next:=this
    exact⟨by omega,fun _=>by omega⟩
   ·have:=pU e i hi hc
    have h2:h.next+1<=c.nx i:=this.1
    exact⟨by omega,this.2⟩
omit [Io] in
theorem vq: ∀ {pl:pd} {h:Hp},c.BI pl h-> ∀ i∈pl.kV,c.iZ i .al->h.next<=c.nx i
 | .last pre kV,h,⟨_,e⟩,i,hi,hc=>(c.pU e i hi hc).1
 | .cons pre kV q rest,h,⟨_,h1,e,_,v,h2,_,_,_,_,hle,r⟩,i,hi,hc=>by
  rcases List.mem_append.1 hi with hi|hi
  ·exact(c.pU e i hi hc).1
  ·exact Nat.le_trans (c.tD e) (Nat.le_trans hle (vq r i hi hc))
omit [Io] in
theorem nL{i:Nat}{k:Cl}(h:c.iZ i k){k':Cl}(h':c.iZ i k'):k=k':=by
 obtain⟨o,ho,h1⟩:=h
 obtain⟨o',pG,h2⟩:=h'
 rw[ho]at pG
 cases pG
 exact h1.symm.trans h2
omit [Io] in
theorem wj{h1:Hp}: ∀ {l:List Nat} {h:Hp},c.yE l h h1-> ∀ i∈l,∀ j∈l,c.iZ i .al->c.iZ j .al->c.bd i=c.nx i+1->c.bd j=c.nx j+1->c.nx i=c.nx j->i=j
 | [],h,e,i,hi,_,_,_,_,_,_,_=>by cases hi
 |k::l,h,e,i,hi,j,hj,ci,cj,bi,bj,U'=>by
  rcases e with⟨hk,e⟩|⟨hk,hn,⟨hb,e⟩|⟨v,cs,hb,_,e⟩⟩
  ·have ni:i≠k:=fun e=>by subst e;cases c.nL hk ci
   have nj:j≠k:=fun e=>by subst e;cases c.nL hk cj
   exact wj e i ((List.mem_cons.1 hi).resolve_left ni) j ((List.mem_cons.1 hj).resolve_left nj) ci cj bi bj U'
  ·have ni:i≠k:=fun e=>by subst e;omega
   have nj:j≠k:=fun e=>by subst e;omega
   exact wj e i ((List.mem_cons.1 hi).resolve_left ni) j ((List.mem_cons.1 hj).resolve_left nj) ci cj bi bj U'
  ·by_cases ni:i=k<;>by_cases nj:j=k
   ·exact ni.trans nj.symm
   ·have:=(c.pU e j ((List.mem_cons.1 hj).resolve_left nj) cj).1
    have:h.next+1<=c.nx j:=this
    subst ni
    omega
   ·have:=(c.pU e i ((List.mem_cons.1 hi).resolve_left ni) ci).1
    have:h.next+1<=c.nx i:=this
    subst nj
    omega
   ·exact wj e i ((List.mem_cons.1 hi).resolve_left ni) j ((List.mem_cons.1 hj).resolve_left nj) ci cj bi bj U'
omit [Io] in
theorem wm: ∀ {pl:pd} {h:Hp},c.BI pl h-> ∀ i∈pl.kV,∀ j∈pl.kV,c.iZ i .al->c.iZ j .al->c.bd i=c.nx i+1->c.bd j=c.nx j+1->c.nx i=c.nx j->i=j
 | .last pre kV,h,⟨_,e⟩,i,hi,j,hj,ci,cj,bi,bj,U'=>c.wj e i hi j hj ci cj bi bj U'
 | .cons pre kV q rest,h,⟨_,h1,e,_,v,h2,_,_,_,_,hle,r⟩,i,hi,j,hj,ci,cj,bi,bj,U'=>by
  rcases List.mem_append.1 hi with hi|hi<;>rcases List.mem_append.1 hj with hj|hj
  ·exact c.wj e i hi j hj ci cj bi bj U'
  ·have:=(c.pU e i hi ci).2 bi
   have:=c.vq r j hj cj
   omega
  ·have:=(c.pU e j hj cj).2 bj
   have:=c.vq r i hi ci
   omega
  ·exact wm r i hi j hj ci cj bi bj U'
def Ld(g:G)(w:World)(h:Hp)(i:Nat):Prop:=
 c.bd i=c.nx i∨ ∃ v cs b C,∃ el:FT C,∃ vs,c.bd i=c.nx i+1/\c.FE i (c.rf i) (kb (c.nx i))=.ok v (iV (kb (c.nx i)) cs)/\g.m (c.nx i)=some (b,0)/\w.heap[b]? =some (.cells C el.el el.fz)/\
  ¬ g.j3 b/\ ¬ nn (g.to h.next) h b/\c.w0.heap.size<=b/\cZ (g.to (c.nx i)) w cs.toL vs/\ ∀ (j:Nat) (v:Value),vs[j]? =some v->C[j]? =some v
structure St(g:G)(w:World)(h:Hp)(A D:List Nat):Prop where
 hr:HR (g.to h.next) w h
 ext:Ext c.g0 c.w0 c.h0 (g.to h.next) w h
 HA: ∀ i∈A,i∈D->c.iZ i .al->c.Ld g w h i
 Le: ∀ i∈A,∀ j∈A,i∈D->j∈D->c.iZ i .al->c.iZ j .al->c.bd i=c.nx i+1->c.bd j=c.nx j+1-> ∀ b,g.m (c.nx i)=some (b,0)->g.m (c.nx j)=some (b,0)->i=j
omit [Io] in
theorem tE{h:Hp}{cs:Rw}{id:Nat}:(iV h cs).cw.get id=if id=h.next then some cs else h.cw.get id:=Tr.nq _ _ _ _
omit [Io] in
theorem OD{h:Hp}{cs cs':Rw}(e:iV h cs=iV h cs'):cs=cs':=by
 have h1:(iV h cs).cw.get h.next=some cs:=by rw[tE,if_pos rfl]
 rw[e,tE,if_pos rfl]at h1
 exact(Option.some.inj h1).symm
theorem agr{g:G}{w:World}{h:Hp}(H:HR (g.to h.next) w h){b:Nat}{C:Array Value}{el:FT C}{cs:Rw}{vs:List Value}(hm:g.m h.next=some (b,0))
 (hw:w.heap[b]? =some (.cells C el.el el.fz))(hi: ¬ g.j3 b)(ho: ¬ nn (g.to h.next) h b)(hv:cZ (g.to h.next) w cs.toL vs)(hC: ∀ (j:Nat) (v:Value),vs[j]? =some v->C[j]? =some v):
 HR (g.to (iV h cs).next) w (iV h cs)/\ ∀ b',nn (g.to (iV h cs).next) (iV h cs) b'->nn (g.to h.next) h b'∨b'=b:=by
 have hn:(iV h cs).next=h.next+1:=rfl
 have hM:=r5 g w (N:=h.next) (M:=h.next+1) (by omega)
 have hle: ∀ id cs',h.cw.get id=some cs'->id<h.next:=by
  intro id cs' e
  refine Classical.byContradiction fun k=>?_
  obtain⟨b',s,_,_,_,MU,_⟩:=H.cw id cs' e
  rw[H.fresh id (by omega)]at MU
  cases MU
 have ze: ∀ id,id<h.next->(g.to (h.next+1)).m id=(g.to h.next).m id:=by
  intro id k
  simp only[G.to]
  rw[if_pos (by omega),if_pos k]
 have Y3:(g.to (h.next+1)).m h.next=some (b,0):=by
  simp only[G.to]
  rw[if_pos (by omega)]
  exact hm
 rw[hn]
 refine⟨⟨?_,?_,?_,fun k i=>H.j3 k i,fun p hp=>H.tb p hp⟩,?_⟩
 ·intro id mQ
  have:h.next+1<=id:=mQ
  simp only[G.to]
  rw[if_neg (by omega)]
 ·intro id cs' e
  rw[tE]at e
  by_cases mQ:id=h.next
  ·subst mQ
   rw[if_pos rfl]at e
   cases e
   exact⟨b,0,C,el,vs,Y3,hw,hi,cZ.kq hM _ _ hv,by simpa using hC⟩
  ·rw[if_neg mQ]at e
   obtain⟨b',s,C',el',vs',MU,hw',xm,um,hc'⟩:=H.cw id cs' e
   exact⟨b',s,C',el',vs',by rw[ze id (hle id cs' e)];exact MU,hw',xm,cZ.kq hM _ _ um,hc'⟩
 ·intro id zQ b1 s s' I8 zS e1 e2 m1 m2
  rw[tE]at e1 e2
  by_cases h1:id=h.next<;>by_cases h2:zQ=h.next
  ·exact h1.trans h2.symm
  ·subst h1
   rw[if_neg h2]at e2
   rw[Y3]at m1
   obtain⟨rfl,_⟩:=Prod.mk.inj (Option.some.inj m1)
   rw[ze zQ (hle zQ _ e2)]at m2
   exact absurd ⟨zQ,zS,s',e2,m2⟩ ho
  ·subst h2
   rw[if_neg h1]at e1
   rw[Y3]at m2
   obtain⟨rfl,_⟩:=Prod.mk.inj (Option.some.inj m2)
   rw[ze id (hle id _ e1)]at m1
   exact absurd ⟨id,I8,s,e1,m1⟩ ho
  ·rw[if_neg h1]at e1
   rw[if_neg h2]at e2
   rw[ze id (hle id _ e1)]at m1
   rw[ze zQ (hle zQ _ e2)]at m2
   exact H.inj id zQ b1 s s' I8 zS e1 e2 m1 m2
 ·rintro b' ⟨id,cs',s,e,m⟩
  rw[tE]at e
  by_cases mQ:id=h.next
  ·subst mQ
   rw[Y3]at m
   obtain⟨rfl,_⟩:=Prod.mk.inj (Option.some.inj m)
   exact .inr rfl
  ·rw[if_neg mQ]at e
   rw[ze id (hle id _ e)]at m
   exact .inl ⟨id,cs',s,e,m⟩
omit [Io] in
theorem Lg{g:G}{w:World}{h:Hp}{b:Nat}{cs:Rw}(E:Ext c.g0 c.w0 c.h0 (g.to h.next) w h)(hb:c.w0.heap.size<=b)
 (hO: ∀ b',nn (g.to (iV h cs).next) (iV h cs) b'->nn (g.to h.next) h b'∨b'=b):Ext c.g0 c.w0 c.h0 (g.to (iV h cs).next) w (iV h cs) where
 os:=E.os
 tape:=E.tape
 output:=E.output
 size:=E.size
 next:=Nat.le_trans E.next (Nat.le_succ _)
 m:=fun id x e=>(r5 g w (N:=h.next) (M:=h.next+1) (by omega)).m id x (E.m id x e)
 uL:=E.uL
 rows:=E.rows
 j3:=E.j3
 KD:=E.KD
 qV:=fun k o=>by
  rcases hO k o with o|rfl
  ·exact E.qV k o
  ·exact .inr hb
theorem settle{g:G}{w:World}{D A:List Nat}{h1:Hp}: ∀ (l:List Nat) (h:Hp),c.yE l h h1->(∀ i∈l,c.iZ i .al->i∈D)->c.St g w h (l++A) D->
 (∀ i∈A,c.iZ i .al->h1.next<=c.nx i)->c.St g w h1 A D
 | [],h,e,_,S,_=>by cases e;exact S
 |i::l,h,e,hd,S,hA=>by
  have Lh:=fun j hj=>hd j (List.mem_cons_of_mem i hj)
  have S':c.St g w h (l++A) D:=⟨S.hr,S.ext,fun j hj=>S.HA j (List.mem_cons_of_mem _ hj),fun j hj k hk=>S.Le j (List.mem_cons_of_mem _ hj) k (List.mem_cons_of_mem _ hk)⟩
  rcases e with⟨_,e⟩|⟨hk,hn,⟨hb,e⟩|⟨v,cs,hb,hF,e⟩⟩
  ·exact settle l h e Lh S' hA
  ·exact settle l h e Lh S' hA
  ·have Ci:=hd i List.mem_cons_self hk
   rcases S.HA i List.mem_cons_self Ci hk with hp|⟨v',cs',b,C,el,vs,_,hF',hm,hw,K9,hO,hb0,hv,hC⟩
   ·omega
   rw[hF]at hF'
   obtain⟨rfl,qY⟩:=Ro.ok.inj hF'
   obtain rfl:=OD qY
   rw[hn]at hm hv
   obtain⟨hr',hO'⟩:=agr S.hr hm hw K9 hO hv hC
   refine settle l (iV h cs) e Lh ⟨hr',c.Lg S.ext hb0 hO',?_,S'.Le⟩ hA
   intro j hj HB EA
   rcases S'.HA j hj HB EA with hp|⟨v2,zS,b2,C2,el2,NI,EY,hF2,KM,NJ,aly,hO2,alz,YY,hC2⟩
   ·exact .inl hp
   ·refine .inr ⟨v2,zS,b2,C2,el2,NI,EY,hF2,KM,NJ,aly,fun o=>?_,alz,YY,hC2⟩
    rcases hO' _ o with o|rfl
    ·exact hO2 o
    ·have hjn:h.next+1<=c.nx j:=by
      rcases List.mem_append.1 hj with hj|hj
      ·exact(c.pU e j hj EA).1
      ·exact Nat.le_trans (c.tD e) (hA j hj EA)
     have:=S.Le i List.mem_cons_self j (List.mem_cons_of_mem _ hj) Ci HB hk EA hb EY b2 (by rw[hn];exact hm) KM
     subst this
     omega
end Cx
end Go.Ab

noncomputable section
namespace Go.Ab
variable [Io]
namespace Cx
variable (c:Cx)
structure Inv(g:G)(w:World)(h:Hp)(a:Act)(D mS:List Nat)(pl:pd):Prop where
 run:c.BI pl h
 stat:c.Jr mS pl
 closed:Dg c.ops.toList D
 Bo: ∀ i,c.iZ i .ch->i∈pl.Bo∨i∈D
 TC: ∀ i∈pl.Bo,i∉D
 yi: ∀ j∈mS,j∈D
 Y4: ∀ i,c.iZ i .al->i∈pl.kV∨i∈D
 st:c.St g w h pl.kV D
 Y5: ∀ id x,g.m id=some x->id<h.next∨ ∃ i∈pl.kV,i∈D/\c.iZ i .al/\c.bd i=c.nx i+1/\id=c.nx i
 tF: ∀ j∈D,∀ d,c.pF j d->d<c.nt/\ ∃ v,c.te.at d=some v/\VR (g.to (max (c.bd j) h.next)) w v (a.tmps.getD d undef)
 free: ∀ u v,u<512->(∀ j∈D,¬ c.pF j u)->c.t0.at u=some v->u<c.nt/\VR (g.to h.next) w v (a.tmps.getD u undef)
 size:a.tmps.size=c.nt
 defers:a.defers=[]
variable {c}
omit [Io] in
theorem yj{i:Nat}{o:Oper}(ho:c.ops[i]? =some o):c.FE i=oE c.P c.call c.nt c.ops.toList o:=by unfold FE;rw[ho]
omit [Io] in
theorem aaM{i:Nat}{o:Oper}(ho:c.ops[i]? =some o):c.TB i=ur c.ops.toList o:=by unfold TB;rw[ho]
omit [Io] in
theorem OE{i:Nat}: ∀ (l:List Nat),(∀ u∈l,u<512)-> ∀ u v,u<512->(c.MW i l).at u=some v->u∈l/\(((∃ j,c.pF j u/\c.An i j)/\c.te.at u=some v)∨((¬ ∃ j,c.pF j u/\c.An i j)/\c.t0.at u=some v))
 | [],_,u,v,hu,e=>by rw[MW,Tm.CT u hu]at e;cases e
 |x::l,hl,u,v,hu,e=>by
  rw[MW,Tm.mq _ _ _ _ (hl x List.mem_cons_self) hu]at e
  by_cases hx:u=x
  ·subst hx
   rw[if_pos rfl]at e
   refine⟨List.mem_cons_self,?_⟩
   by_cases hw: ∃ j,c.pF j u/\c.An i j
   ·rw[if_pos hw]at e;exact .inl ⟨hw,e⟩
   ·rw[if_neg hw]at e;exact .inr ⟨hw,e⟩
  ·rw[if_neg hx]at e
   obtain⟨h1,h2⟩:=OE l (fun y hy=>hl y (List.mem_cons_of_mem _ hy)) u v hu e
   exact⟨List.mem_cons_of_mem _ h1,h2⟩
theorem Inv.reads{g w h a D mS pl}(I:c.Inv g w h a D mS pl)(mL:c.nt<=512){i N M:Nat}(hr:c.r6 i M)(Ci:i∉D)(hD: ∀ j,c.An i j->j∈D)(hM:M<=N)(hN:h.next<=N):
 TR (g.to N) w c.nt (c.rf i) a.tmps:=by
 have kC: ∀ u∈c.TB i,u<512:=fun u hu=>Nat.lt_of_lt_of_le (hr u hu).1 mL
 refine⟨mL,I.size,fun u v hu e=>?_⟩
 obtain⟨hm,TA⟩:=OE _ kC u v hu e
 refine⟨(hr u hm).1,?_⟩
 rcases TA with⟨⟨j,hj,hA⟩,e⟩|⟨hno,e⟩
 ·rcases(hr u hm).2 with h1|h1
  ·obtain⟨_,hb⟩:=h1 j hj
   obtain⟨_,v',e',hv⟩:=I.tF j (hD j hA) u hj
   rw[e]at e'
   cases e'
   exact VR.kq (r5 g w (by omega)) _ _ hv
  ·exact absurd (I.closed j (hD j hA) i (h1 j hj)) Ci
 ·refine VR.kq (r5 g w hN) _ _ (I.free u v hu (fun j HB hj=>?_) e).2
  rcases(hr u hm).2 with h1|h1
  ·exact hno ⟨j,hj,(h1 j hj).1⟩
  ·exact Ci (I.closed j HB i (h1 j hj))
omit [Io] in
theorem Di{a:Act}{od:Option Nat}{x:Value}{d:Nat}(hd:d<a.tmps.size):(a.put od x).tmps.getD d undef=if od=some d then x else a.tmps.getD d undef:=by
 cases od with
 |none=>rfl
 |some e=>
  show(a.tmps.setIfInBounds e x).getD d undef=_
  rw[Array.getD_eq_getD_getElem?,Array.getD_eq_getD_getElem?]
  by_cases he:e=d
  ·subst he
   rw[Array.getElem?_setIfInBounds_self_of_lt hd,if_pos rfl];rfl
  ·rw[Array.getElem?_setIfInBounds_ne he,if_neg (fun k=>he (Option.some.inj k))]
omit [Io] in
theorem Aj{a:Act}{od:Option Nat}{x:Value}:(a.put od x).tmps.size=a.tmps.size:=by
 cases od with
 |none=>rfl
 |some e=>show(a.tmps.setIfInBounds e x).size=_;simp
omit [Io] in
theorem put_defers{a:Act}{od:Option Nat}{x:Value}:(a.put od x).defers=a.defers:=by cases od<;>rfl
theorem xA{g:G}{w w':World}{g':G}{a:Act}{D:List Nat}{i:Nat}{o:Oper}{x:Value}{N N':Nat}(G0:c.U9)(ho:c.ops[i]? =some o)
 (hs:a.tmps.size=c.nt)
 (tF: ∀ j∈D,∀ d,c.pF j d->d<c.nt/\ ∃ v,c.te.at d=some v/\VR (g.to (max (c.bd j) N)) w v (a.tmps.getD d undef))
 (mono: ∀ j∈D,vW (g.to (max (c.bd j) N)) w (g'.to (max (c.bd j) N')) w')(hi:i∉D)
 (hx: ∀ d,c.pF i d->d<c.nt/\ ∃ v,c.te.at d=some v/\VR (g'.to (max (c.bd i) N')) w' v x):
 ∀ j∈i::D,∀ d,c.pF j d->d<c.nt/\ ∃ v,c.te.at d=some v/\VR (g'.to (max (c.bd j) N')) w' v ((a.put o.dst x).tmps.getD d undef):=by
 intro j hj d hd
 by_cases G1:j=i
 ·subst G1
  obtain⟨h1,v,h2,h3⟩:=hx d hd
  refine⟨h1,v,h2,?_⟩
  obtain⟨o',pG,Lh⟩:=hd
  rw[ho]at pG
  cases pG
  rw[Di (by omega),if_pos Lh]
  exact h3
 ·obtain⟨h1,v,h2,h3⟩:=tF j ((List.mem_cons.1 hj).resolve_left G1) d hd
  refine⟨h1,v,h2,?_⟩
  rw[Di (by omega),if_neg (fun k=>G1 (G0.dst j i d hd ⟨o,ho,k⟩))]
  exact VR.kq (mono j ((List.mem_cons.1 hj).resolve_left G1)) _ _ h3
theorem Ak{g:G}{w w':World}{g':G}{a:Act}{D:List Nat}{i:Nat}{o:Oper}{x:Value}{N N':Nat}(ho:c.ops[i]? =some o)(hs:a.tmps.size=c.nt)
 (free: ∀ u v,u<512->(∀ j∈D,¬ c.pF j u)->c.t0.at u=some v->u<c.nt/\VR (g.to N) w v (a.tmps.getD u undef))(mono:vW (g.to N) w (g'.to N') w'):
 ∀ u v,u<512->(∀ j∈i::D,¬ c.pF j u)->c.t0.at u=some v->u<c.nt/\VR (g'.to N') w' v ((a.put o.dst x).tmps.getD u undef):=by
 intro u v hu hd e
 obtain⟨h1,h2⟩:=free u v hu (fun j hj=>hd j (List.mem_cons_of_mem _ hj)) e
 refine⟨h1,?_⟩
 rw[Di (by omega),if_neg (fun k=>hd i List.mem_cons_self ⟨o,ho,k⟩)]
 exact VR.kq mono _ _ h2
theorem Inv.put{g w h a D mS pl}(G0:c.U9)(I:c.Inv g w h a D mS pl){i:Nat}{o:Oper}(ho:c.ops[i]? =some o)(hi:i∉D)(hC:Dg c.ops.toList (i::D))
 (hk:c.iZ i .p0∨c.iZ i .p1){v:AV}{x:Value}(hs:c.Slot i v)(hx:VR (g.to (max (c.bd i) h.next)) w v x):c.Inv g w h (a.put o.dst x) (i::D) mS pl:=by
 have HD: ∀ j,c.iZ j .al->j∈i::D->j∈D:=by
  intro j hj h
  refine(List.mem_cons.1 h).resolve_left fun e=>?_
  subst e
  rcases hk with hk|hk<;>cases c.nL hk hj
 exact
 {run:=I.run
  stat:=I.stat
  closed:=hC
  Bo:=fun j hj=>(I.Bo j hj).imp id (List.mem_cons_of_mem _)
  TC:=fun j hj h=>by
   rcases List.mem_cons.1 h with rfl|h
   ·have:c.iZ j .ch:=by
     have key: ∀ {pl:pd} {h:Hp},c.BI pl h-> ∀ j∈pl.Bo,c.iZ j .ch:=by
      intro pl
      induction pl with
      |last pre kV=>intro h r j hj;cases hj
      |cons pre kV q rest ih=>
       intro h r j hj
       obtain⟨_,h1,_,hq,v,h2,_,_,_,_,_,r⟩:=r
       rcases List.mem_cons.1 hj with rfl|hj
       ·exact hq
       ·exact ih r j hj
     exact key I.run j hj
    rcases hk with hk|hk<;>cases c.nL hk this
   ·exact I.TC j hj h
  yi:=fun j hj=>List.mem_cons_of_mem _ (I.yi j hj)
  Y4:=fun j hj=>(I.Y4 j hj).imp id (List.mem_cons_of_mem _)
  st:=⟨I.st.hr,I.st.ext,fun j hj hD hc=>I.st.HA j hj (HD j hc hD) hc,fun j hj k hk jD kD jc kc=>I.st.Le j hj k hk (HD j jc jD) (HD k kc kD) jc kc⟩
  Y5:=fun n y e=>(I.Y5 n y e).imp id fun⟨j,hj,hD,r⟩=>⟨j,hj,List.mem_cons_of_mem _ hD,r⟩
  tF:=xA G0 ho I.size I.tF (fun j _=>Cg _ _) hi (fun d hd=>⟨(hs d hd).1,v,(hs d hd).2,hx⟩)
  free:=Ak ho I.size I.free (Cg _ _)
  size:=by rw[Aj];exact I.size
  defers:=by rw[put_defers];exact I.defers}
omit [Io] in
theorem Js: ∀ {pl:pd} {h:Hp},c.BI pl h-> ∀ j∈pl.Bo,c.iZ j .ch:=by
 intro pl
 induction pl with
 |last pre kV=>intro h r j hj;cases hj
 |cons pre kV q rest ih=>
  intro h r j hj
  obtain⟨_,h1,_,hq,v,h2,_,_,_,_,_,r⟩:=r
  rcases List.mem_cons.1 hj with rfl|hj
  ·exact hq
  ·exact ih r j hj
omit [Io] in
theorem aaN{pl:pd}{h:Hp}(r:c.BI pl h):c.P1s pl.pre h:=by
 cases pl with
 |last pre kV=>exact r.1
 |cons pre kV q rest=>exact r.1
omit [Io] in
theorem Va{mS:List Nat}{pl:pd}(s:c.Jr mS pl): ∀ i,c.iZ i .p1->(∃ j∈mS,c.An j i)∨(∃ j∈pl.Bo,c.An i j)∨i∈pl.pre:=by
 cases pl with
 |last pre kV=>exact fun i hi=>(s i hi).imp id .inr
 |cons pre kV q rest=>exact s.1
omit [Io] in
theorem r7{w:World}{ob:Obj}{b:Nat}:(w.alloc ob).heap[b]? =if b=w.heap.size then some ob else w.heap[b]? :=by
 show(w.heap.push _)[b]? =_
 rw[Array.getElem?_push]
omit [Io] in
theorem vr{g g':G}{w:World}{ob:Obj}(hm: ∀ id x,g.m id=some x->g'.m id=some x)(hi:g'.j3=g.j3)(hb: ∀ b,g.j3 b->b<w.heap.size):vW g w g' (w.alloc ob):=
 ⟨hm,fun b i=>by rw[hi];exact i,fun b i=>by
  have:=hb b i
  rw[r7,if_neg (by omega)],fun b=>by
  unfold jl
  rw[r7]
  by_cases h:b=w.heap.size
  ·subst h;simp
  ·rw[if_neg h];exact Nat.le_refl _⟩
theorem HE{g g':G}{w:World}{h:Hp}{ob:Obj}{i:Nat}(hm: ∀ id x,g.m id=some x->g'.m id=some x)(hi:g'.j3=g.j3)(hb: ∀ b,g.j3 b->b<w.heap.size)
 (ze:g'.to h.next=g.to h.next)(p:c.Ld g w h i):c.Ld g' (w.alloc ob) h i:=by
 rcases p with p|⟨v,cs,b,C,el,vs,h1,h2,h3,h4,h5,h6,h7,h8,h9⟩
 ·exact .inl p
 ·have kC:=(Array.getElem?_eq_some_iff.1 h4).1
  refine .inr ⟨v,cs,b,C,el,vs,h1,h2,hm _ _ h3,by rw[r7,if_neg (by omega)];exact h4,by rw[hi];exact h5,by rw[ze];exact h6,h7,?_,h9⟩
  refine cZ.kq ?_ _ _ h8
  refine vr ?_ (by simp only[G.to];exact hi) (by simp only[G.to];exact hb)
  intro id x e
  simp only[G.to]at e ⊢
  by_cases mQ:id<c.nx i
  ·rw[if_pos mQ]at e ⊢;exact hm _ _ e
  ·rw[if_neg mQ]at e;cases e
end Cx
end Go.Ab
