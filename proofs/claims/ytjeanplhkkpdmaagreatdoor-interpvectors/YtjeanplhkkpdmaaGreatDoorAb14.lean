import Derived.Test.YtjeanplhkkpdmaaGreatDoorAb10
noncomputable section
namespace Go.Ab
variable [Io]
section
variable {P:Program}
def cRV(P:Program)(nt:Nat):ResultVar->Option RV
 | .tmp i=>oL (Nat.blt i nt) (some (.tmp i)) none
 | .cell i T=>match P.underlying T with
  |some d=>match P.info? T with
   |some ti=>oL (Nat.blt i nt) (some (.cell i ti.size (qQ d))) none
   |none=>none
  |none=>none
def Lq(P:Program)(nt:Nat)(l:List ResultVar):Option (List RV):=
 List.rec (some []) (fun r _ ih=>match cRV P nt r with
  |some v=>match ih with
   |some vs=>some (v::vs)
   |none=>none
  |none=>none) l
def Fp(tmps:Array Value):ResultVar->Sem Value
 | .tmp t=>pure (tmps.getD t undef)
 | .cell a t=>do loadVar t (<-asAddr (tmps.getD a undef))
theorem ab4{g w nt t h}{tmps:Array Value}(H:HR g w h)(T:TR g w nt t tmps){r:ResultVar}{rv:RV}{v:AV}(hr:cRV P nt r=some rv)(e:lB t h rv=some v):
 ∃ x,(Fp tmps r).run P w=.ok x w/\VR g w v x:=by
 cases r with
 |tmp i=>
  change oL (Nat.blt i nt) (some (RV.tmp i)) none=some rv at hr
  cases hb:Nat.blt i nt with
  |false=>rw[hb]at hr;cases hr
  |true=>
   rw[hb]at hr;cases hr;exact⟨_,rfl,(T.2.2 i v (by have:=T.1;have:=jn.1 hb;omega) e).2⟩
 |cell i ty=>
  unfold cRV at hr;cases hd:P.underlying ty with
  |none=>simp only[hd]at hr;cases hr
  |some d=>
  simp only[hd]at hr;cases hi:P.info? ty with
  |none=>simp only[hi]at hr;cases hr
  |some ti=>
  simp only[hi]at hr;cases hb:Nat.blt i nt with
  |false=>rw[hb]at hr;cases hr
  |true=>
   rw[hb]at hr;cases hr
   have PY: @LT.lt Nat _ i 512:=by have:=T.1;have:=jn.1 hb;omega
   change (match t.at i with|some a=>ET h ti.size (qQ d) a|none=>none)=some v at e
   split at e
   ·rename_i a ha
    have hv:=(T.2.2 i a PY ha).2;unfold ET at e;split at e
    ·rename_i id off
     split at e
     ·rename_i cs hg
      simp only[VR]at hv;obtain⟨b,s,hm,hv⟩:=hv;obtain⟨C,el,vs,hw,_,lP,hc⟩:=H.row hg hm;obtain⟨z,hz,hr⟩:=uO hd hi lP (qu hw hc) (E6 e);exact⟨z,by simp only[Fp,hv,asAddr,Sem.run_bind,Sem.run_pure,Result.andThen_ok,hz],hr⟩
     ·cases e
    ·rename_i cs
     simp only[VR]at hv;obtain⟨b,s,vs,hv,_,hc,lP⟩:=hv;obtain⟨z,hz,hr⟩:=uO hd hi lP hc e;rw[Nat.add_zero]at hz;exact⟨z,by simp only[Fp,hv,asAddr,Sem.run_bind,Sem.run_pure,Result.andThen_ok,hz],hr⟩
    ·cases e
   ·cases e
theorem Ls{g w nt t h}{tmps:Array Value}(H:HR g w h)(T:TR g w nt t tmps): ∀ (l:List ResultVar) {rvs:List RV} {vs:List AV},Lq P nt l=some rvs->HB t h rvs=some vs->
 ∃ xs,(l.mapM (Fp tmps)).run P w=.ok xs w/\jy g w vs xs
 | [],rvs,vs,h1,h2=>by
  cases h1;cases h2;exact⟨[],by simp,by simp[jy]⟩
 |r::l,rvs,vs,h1,h2=>by
  change (match cRV P nt r with|some v=>(match Lq P nt l with|some vs=>some (v::vs)|none=>none)|none=>none)=some rvs at h1
  split at h1
  ·rename_i rv Vu
   split at h1
   ·rename_i rl hrl
    cases h1
    change (match lB t h rv with|some v=>(match HB t h rl with|some vs=>some (v::vs)|none=>none)|none=>none)=some vs at h2
    split at h2
    ·rename_i v hv
     split at h2
     ·rename_i us hu
      cases h2;obtain⟨x,hx,Vw⟩:=ab4 H T Vu hv;obtain⟨xs,hxs,ayz⟩:=Ls H T l hrl hu;refine⟨x::xs,?_,by simp only[jy];exact⟨x,xs,rfl,Vw,ayz⟩⟩;simp only[List.mapM_cons,Sem.run_bind,hx,hxs,Result.andThen_ok,Sem.run_pure]
     ·cases h2
    ·cases h2
   ·cases h1
  ·cases h1
theorem akd{g w nt t h}{tmps:Array Value}{F:Func}{rvs:List RV}{v:AV}{h':Hp}(H:HR g w h)(T:TR g w nt t tmps)(hr:Lq P nt F.results.toList=some rvs)(e:fin rvs t h=.ok v h'):
 h'=h/\ ∃ x,(results F tmps).run P w=.ok x w/\VR g w v x:=by
 have key: ∀ vs,HB t h rvs=some vs-> ∃ xs:List Value,(results F tmps).run P w=.ok (if h:xs.toArray.size=1 then xs.toArray[0]else .tuple xs.toArray) w/\jy g w vs xs:=by
  intro vs lP;obtain⟨xs,hxs,hv⟩:=Ls H T F.results.toList hr lP;refine⟨xs,?_,hv⟩;show((F.results.mapM (Fp tmps)>>=fun vs=>(pure (if h:vs.size=1 then vs[0]else .tuple vs):Sem Value))).run P w=_;rw[Array.mapM_eq_mapM_toList];simp only[Sem.run_bind,Sem.run_map,hxs,Result.andThen_ok,Sem.run_pure]
 unfold fin at e;split at e
 ·rename_i v1 lP
  cases e;obtain⟨xs,hx,hv⟩:=key _ lP;simp only[jy]at hv;obtain⟨x,l',rfl,Vw,rfl⟩:=hv;exact⟨rfl,x,by rw[hx];rfl,Vw⟩
 ·rename_i vs qF lP
  cases e;obtain⟨xs,hx,hv⟩:=key _ lP;refine⟨rfl,.tuple xs.toArray,?_,by simp only[VR];exact⟨_,rfl,hv⟩⟩;rw[hx,dif_neg];intro h1;have hl:=hv.length
  have:vs.length=1:=by simpa[<-hl]using h1
  match vs,this with
  | [a],_=>exact qF a rfl
 ·cases e
def N4(P:Program)(draw:kh->Nat->Array Oper->uM):Prop:=
 ∀ call nt,mb P call-> ∀ id ops,ab2 P nt (.region id ops true) (draw call nt ops)
structure R1(P:Program)(draw:kh->Nat->Array Oper->uM)(f:FuncId)(b:Fb):Prop where
 ex: ∃ F c,P.funcs[f]? =some F/\F.body=some c/\b.ntmps=F.ntmps/\b.ntmps<=512/\Lq P b.ntmps F.results.toList=some b.res/\b.body=fun call n=>nN P (draw call b.ntmps) call n b.ntmps c
 enter: ∀ as w,(callFunc f as).run P w=.ok (.enter f as) w
theorem Bo{g w}: ∀ (l:List AV) (vs:List Value) (i nt:Nat) (t:Tm) (tmps:Array Value),jy g w l vs->i+l.length<=nt->TR g w nt t tmps->
 (∀ j v,vs[j]? =some v->tmps[i+j]? =some v)->TR g w nt (wL l i t) tmps
 | [],vs,i,nt,t,tmps,h,hl,T,hj=>T
 |a::l,vs,i,nt,t,tmps,h,hl,T,hj=>by
  simp only[jy]at h;obtain⟨v,l',rfl,hv,h⟩:=h;simp only[List.length_cons]at hl
  have h0:tmps[i]? =some v:=by simpa using hj 0 v rfl
  have hi:i<tmps.size:=(Array.getElem?_eq_some_iff.1 h0).1;have ayA:tmps.setIfInBounds i v=tmps:=by
   apply Array.ext
   ·simp
   ·intro k h1 h2;rw[Array.getElem_setIfInBounds];split
    ·rename_i e
     subst e;exact(Option.some.inj ((Array.getElem?_eq_getElem hi).symm.trans h0)).symm
    ·rfl
  have T':=T.put (d:=i) (by omega) hv;rw[ayA]at T';exact Bo l l' (i+1) nt _ tmps h (by omega) T' (fun j u e=>by
   have:=hj (j+1) u (by simpa using e)
   rwa [show i+1+j=i+(j+1) by omega])
end
end Go.Ab
noncomputable section
namespace Go.Ab
variable [Io]
def ab6(ops:Array Oper):List Nat->List Nat->Prop
 |D,[]=> ∀ i,i<ops.size->i∈D
 |D,i::s=>i<ops.size/\i∉D/\(∀ o e,ops[i]? =some o->e∈o.after->Region.binds .any e=true->e.on∈D)/\ab6 ops (i::D) s
omit [Io] in
theorem filter_one{p:Nat->Bool}: ∀ (l:List Nat) (i:Nat),l.Nodup->i∈l->p i=true->(l.filter fun x=>p x&&x != i).length+1=(l.filter p).length
 | [],i,_,h,_=>by cases h
 |a::l,i,hn,h,hp=>by
  rw[List.nodup_cons]at hn;by_cases ha:a=i
  ·subst ha;have:(l.filter fun x=>p x&&x != a)=l.filter p:=by
    apply List.filter_congr;intro x hx
    have:x≠a:=fun e=>hn.1 (e▸hx)
    simp[this]
   simp[List.filter_cons,hp,this]
  ·have hi:i∈l:=by
    cases h with
    |head=>exact absurd rfl ha
    |tail _ h=>exact h
   have:=filter_one l i hn.2 hi hp;by_cases hpa:p a=true
   ·simp only[List.filter_cons,hpa,Bool.true_and,bne_iff_ne,ne_eq,ha,not_false_eq_true,decide_true,if_true,List.length_cons];omega
   ·simp only[List.filter_cons,hpa,Bool.false_and,Bool.false_eq_true,if_false];exact this
omit [Io] in
theorem least{p:Nat->Prop}: ∀ (n:Nat),p n-> ∃ m,p m/\ ∀ k,k<m-> ¬ p k:=by
 intro n
 induction n using Nat.strongRecOn with
 | _ n ih=>
  intro h;by_cases hk: ∃ k,k<n/\p k
  ·obtain⟨k,hk,hp⟩:=hk;exact ih k hk hp
  ·exact⟨n,h,fun k hkn hp=>hk ⟨k,hkn,hp⟩⟩
def Down(ops:Array Oper):Prop:= ∀ (i:Nat) (o:Oper) (e:Edge),ops[i]? =some o->e∈o.after->Region.binds .any e=true->e.on<i
omit [Io] in
theorem Vx{ops:Array Oper}(hd:Down ops): ∀ (fuel t:Nat) (listed:Array Bool) (acc D:List Nat),listed.size=ops.size->(∀ i,i<ops.size->(listed.getD i false=true↔i∈D))->
 ((List.range ops.size).filter fun i=> !listed.getD i false).length=fuel-> ∃ s,Region.linearise.go .any ops fuel t listed acc=acc.reverse++s/\ab6 ops D s
 |0,t,listed,acc,D,hs,hD,hc=>by
  refine⟨[],by simp[Region.linearise.go],fun i hi=>?_⟩;have he:((List.range ops.size).filter fun i=> !listed.getD i false)=[]:=List.eq_nil_of_length_eq_zero hc;rw[List.filter_eq_nil_iff]at he;have:=he i (by simpa using hi);exact(hD i hi).1 (by simpa using this)
 |fuel+1,t,listed,acc,D,hs,hD,hc=>by
  have hgd: ∀ i,i<ops.size->listed.getD i true=listed.getD i false:=by
   intro i hi;rw[Array.getD_eq_getD_getElem?,Array.getD_eq_getD_getElem?,Array.getElem?_eq_getElem (by omega)];rfl
  obtain⟨rs,hrs⟩: ∃ rs,rs=(List.range ops.size).filter (fun i=> !listed.getD i true&&((ops[i]?).map (·.after.all fun e=> !Region.binds .any e||listed.getD e.on false)).getD false):=⟨_,rfl⟩
  have R3: ∀ i,i∈rs↔i<ops.size/\i∉D/\ ∀ o e,ops[i]? =some o->e∈o.after->Region.binds .any e=true->e.on∈D:=by
   intro i;rw[hrs,List.mem_filter,List.mem_range];constructor
   ·rintro⟨hi,h⟩;simp only[Bool.and_eq_true,Bool.not_eq_true',hgd i hi]at h;refine⟨hi,fun h2=>by rw[(hD i hi).2 h2]at h;exact absurd h.1 (by simp),?_⟩;intro o e ho he hb;rw[ho]at h;simp only[Option.map_some,Option.getD_some,Array.all_eq_true_iff_forall_mem]at h;have:=h.2 e he;rw[hb]at this;simp only[Bool.not_true,Bool.false_or]at this;have nM:e.on<ops.size:=by
     have:=hd i o e ho he hb;omega
    exact(hD _ nM).1 this
   ·rintro⟨hi,h1,h2⟩;refine⟨hi,?_⟩;have ho:ops[i]? =some ops[i]:=Array.getElem?_eq_getElem hi;have hf:listed.getD i false=false:=by
     rw[Bool.eq_false_iff]
     exact fun k=>h1 ((hD i hi).1 k)
    simp only[hgd i hi,hf,ho,Bool.not_false,Bool.true_and,Option.map_some,Option.getD_some,Array.all_eq_true_iff_forall_mem];intro e he;cases hb:Region.binds .any e with
    |false=>rfl
    |true=>
     have nM:e.on<ops.size:=by have:=hd i _ e ho he hb;omega
     simp only[Bool.not_true,Bool.false_or];exact(hD _ nM).2 (h2 _ e ho he hb)
  have qF:rs≠[]:=by
   have:((List.range ops.size).filter fun i=> !listed.getD i false)≠[]:=by
    intro h;rw[h]at hc;cases hc
   obtain⟨x,hx⟩:=List.exists_mem_of_ne_nil _ this;rw[List.mem_filter,List.mem_range]at hx;obtain⟨m,⟨hm1,RG⟩,hm3⟩:=least (p:=fun i=>i<ops.size/\i∉D) x ⟨hx.1,fun k=>by
    have:=(hD x hx.1).2 k
    rw[this]at hx;exact absurd hx.2 (by simp)⟩
   have:m∈rs:=by
    rw[R3];refine⟨hm1,RG,fun o e ho he hb=>?_⟩;have nM:=hd m o e ho he hb
    exact Classical.byContradiction fun k=>hm3 _ nM ⟨by omega,k⟩
   intro h;rw[h]at this;cases this
  have hlen:0<rs.length:=List.length_pos_iff.2 qF;have nM:=Nat.mod_lt t hlen;have abM:rs[t % rs.length]? =some rs[t % rs.length]:=List.getElem?_eq_getElem nM
  obtain⟨i,hi⟩: ∃ i,i=rs[t % rs.length]:=⟨_,rfl⟩
  have R4:i∈rs:=by rw[hi];exact List.getElem_mem nM
  obtain⟨hi1,RD,hi3⟩:=(R3 i).1 R4;have hl: ∀ j,j<ops.size->(listed.setIfInBounds i true).getD j false=(listed.getD j false||j == i):=by
   intro j hj;rw[Array.getD_eq_getD_getElem?,Array.getD_eq_getD_getElem?];by_cases Nv:j=i
   ·subst Nv;rw[Array.getElem?_setIfInBounds_self_of_lt (by omega)];simp
   ·rw[Array.getElem?_setIfInBounds_ne (by omega)];simp[Nv]
  obtain⟨s,G7,hs2⟩:=Vx hd fuel (t / rs.length) (listed.setIfInBounds i true) (i::acc) (i::D) (by simpa using hs)
   (fun j hj=>by
    rw[hl j hj];simp only[Bool.or_eq_true,beq_iff_eq,List.mem_cons,hD j hj]
    exact Or.comm)
   (by
    have hnd:(List.range ops.size).Nodup:=List.nodup_range
    have hlf:listed.getD i false=false:=by rw[Bool.eq_false_iff];exact fun k=>RD ((hD i hi1).1 k)
    have h1:=filter_one (p:=fun i=> !listed.getD i false) (List.range ops.size) i hnd (by simpa using hi1) (by simp only[hlf];rfl);have h2:((List.range ops.size).filter fun j=> !(listed.setIfInBounds i true).getD j false)=(List.range ops.size).filter fun x=>(!listed.getD x false)&&x != i:=by
     apply List.filter_congr;intro x hx;rw[hl x (by simpa using hx)];cases listed.getD x false<;>simp[bne]
    rw[h2]
    omega)
  refine⟨i::s,?_,hi1,RD,hi3,hs2⟩;rw[Region.linearise.go];simp only[<-hrs,abM,<-hi,G7,List.reverse_cons,List.append_assoc,List.singleton_append]
omit [Io] in
theorem I9{ops:Array Oper}(hd:Down ops)(t:Nat):ab6 ops [] (Region.schedule true ops t):=by
 have PZ: ∀ i,i<ops.size->(Array.replicate ops.size false).getD i false=false:=by
  intro i hi;rw[Array.getD_eq_getD_getElem?];simp[hi]
 obtain⟨s,h1,h2⟩:=Vx hd ops.size t (Array.replicate ops.size false) [] [] (by simp) (fun i hi=>by rw[PZ i hi];simp) (by
  have:((List.range ops.size).filter fun i=> !(Array.replicate ops.size false).getD i false)=List.range ops.size:=by
   rw[List.filter_eq_self];intro i hi;rw[PZ i (by simpa using hi)];rfl
  rw[this];simp)
 have:Region.schedule true ops t=s:=by
  simp only[Region.schedule,Bool.true_or,if_true,Region.linearise];rw[h1];simp
 rw[this];exact h2
def wQ(acc:List Nat)(es:List Edge):Nat:=
 List.rec 0 (fun e _ ih=>oL (Region.binds .any e) (Nat.lor (Nat.lor (Nat.pow 2 e.on) ((sD acc e.on).getD 0)) ih) ih) es
def xV(l:List Oper):List Nat->List Nat:=
 List.rec (fun acc=>acc) (fun o _ ih acc=>ih (app acc [wQ acc o.after.toList])) l
omit [Io] in
theorem Ah{acc:List Nat}{k:Nat}: ∀ {es:List Edge},(wQ acc es).testBit k=true-> ∃ e∈es,Region.binds .any e=true/\(e.on=k∨(acc.getD e.on 0).testBit k=true)
 | [],h=>by simp[wQ]at h
 |e::es,h=>by
  change (oL (Region.binds .any e) (Nat.lor (Nat.lor (Nat.pow 2 e.on) ((sD acc e.on).getD 0)) (wQ acc es)) (wQ acc es)).testBit k=true at h
  cases hb:Region.binds .any e with
  |false=>
   rw[hb]at h;obtain⟨e',he,h'⟩:=Ah (es:=es) h;exact⟨e',List.mem_cons_of_mem _ he,h'⟩
  |true=>
   rw[hb]at h
   change ((2 ^ e.on ||| (sD acc e.on).getD 0) ||| wQ acc es).testBit k=true at h
   rw[Nat.testBit_or,Nat.testBit_or,Nat.testBit_two_pow,Bool.or_eq_true,Bool.or_eq_true,nQ]at h
   rcases h with(h|h)|h
   ·exact⟨e,List.mem_cons_self,hb,.inl (by simpa using h)⟩
   ·exact⟨e,List.mem_cons_self,hb,.inr (by simpa[List.getD]using h)⟩
   ·obtain⟨e',he,h'⟩:=Ah (es:=es) h;exact⟨e',List.mem_cons_of_mem _ he,h'⟩
omit [Io] in
theorem Fs: ∀ (l:List Oper) (acc:List Nat),(xV l acc).length=acc.length+l.length/\(∀ k,k<acc.length->(xV l acc)[k]? =acc[k]?)/\
 ∀ i o k,l[i]? =some o->((xV l acc).getD (acc.length+i) 0).testBit k=true-> ∃ e∈o.after.toList,Region.binds .any e=true/\(e.on=k∨((xV l acc).getD e.on 0).testBit k=true)
 | [],acc=>⟨by simp[xV],fun k _=>rfl,fun i o k h=>by simp at h⟩
 |o::l,acc=>by
  have hm:xV (o::l) acc=xV l (acc++[wQ acc o.after.toList]):=by
   show xV l (app acc _)=_;rw[cZ]
  obtain⟨h1,h2,h3⟩:=Fs l (acc++[wQ acc o.after.toList]);rw[<-hm]at h1 h2 h3;refine⟨by rw[h1];simp;omega,fun k hk=>?_,?_⟩
  ·rw[h2 k (by simp;omega),List.getElem?_append_left hk]
  ·intro i o' k hi hk;cases i with
   |zero=>
    simp at hi;subst hi;have arX:(xV (o::l) acc)[acc.length]? =some (wQ acc o.after.toList):=by
     rw[h2 acc.length (by simp)];simp
    simp only[Nat.add_zero,List.getD,arX,Option.getD_some]at hk;obtain⟨e,he,hb,hor⟩:=Ah hk;refine⟨e,he,hb,hor.imp id fun h=>?_⟩;by_cases nM:e.on<acc.length
    ·simp only[List.getD]at h ⊢;rw[h2 _ (by simp;omega),List.getElem?_append_left nM];exact h
    ·simp only[List.getD,List.getElem?_eq_none (Nat.le_of_not_lt nM)]at h;simp at h
   |succ i=>
    have:=h3 i o' k (by simpa using hi) (by
     simp only[List.length_append,List.length_cons,List.length_nil,Nat.zero_add]
     rw[show acc.length+1+i=acc.length+(i+1) by omega];exact hk)
    exact this
def N5(ops:List Oper)(i k:Nat):Bool:=((xV ops []).getD i 0).testBit k
def I'(ops:List Oper)(D:List Nat):Prop:= ∀ j∈D,∀ k,N5 ops j k=true->k∈D
omit [Io] in
theorem Lt{ops:Array Oper}{D:List Nat}(hc:I' ops.toList D){i:Nat}{o:Oper}(ho:ops[i]? =some o)
 (h: ∀ o e,ops[i]? =some o->e∈o.after->Region.binds .any e=true->e.on∈D):(∀ k,N5 ops.toList i k=true->k∈D)/\I' ops.toList (i::D):=by
 have h1: ∀ k,N5 ops.toList i k=true->k∈D:=by
  intro k hk;obtain⟨_,_,h3⟩:=Fs ops.toList [];obtain⟨e,he,hb,hor⟩:=h3 i o k (by simpa using ho) (by simpa[N5]using hk);have PY:=h o e ho (by simpa using he) hb
  rcases hor with rfl|hor
  ·exact PY
  ·exact hc _ PY k (by simpa[N5]using hor)
 refine⟨h1,fun j hj k hk=>?_⟩;cases hj with
 |head=>exact List.mem_cons_of_mem _ (h1 k hk)
 |tail _ hj=>exact List.mem_cons_of_mem _ (hc j hj k hk)
end Go.Ab
noncomputable section
namespace Go.Ab
variable [Io]
section
variable {P:Program}{call:kh}
omit [Io] in
theorem Bp{t t':Tm}: ∀ (l:List Operand),(∀ x∈l,cD x t=cD x t')->CC (l.map cD) t=CC (l.map cD) t'
 | [],_=>rfl
 |x::l,h=>by
  show(Option.rec none (fun v=>Option.rec none (fun vs=>some (v::vs)) (CC (l.map cD) t)) (cD x t):Option (List AV))=
   Option.rec none (fun v=>Option.rec none (fun vs=>some (v::vs)) (CC (l.map cD) t')) (cD x t')
  rw[h x List.mem_cons_self,Bp l fun y hy=>h y (List.mem_cons_of_mem _ hy)]
omit [Io] in
theorem Ft{t t':Tm}: ∀ (l:List (Nat×Operand)),(∀ x∈l.map (·.2),cD x t=cD x t')->vg (wN l) t=vg (wN l) t'
 | [],_=>rfl
 |p::l,h=>by
  show(match cD p.2 t with|some v=>(match vg (wN l) t with|some vs=>some ((p.1,v)::vs)|none=>none)|none=>none)=
   (match cD p.2 t' with|some v=>(match vg (wN l) t' with|some vs=>some ((p.1,v)::vs)|none=>none)|none=>none)
  rw[h p.2 List.mem_cons_self,Ft l fun y hy=>h y (List.mem_cons_of_mem _ hy)]
omit [Io] in
theorem Fu{t t':Tm}{place:Nat->Option (Nat×Nat)}: ∀ (l:List (Nat×Operand)) (ps:List (Nat×Nat×lT)),CK place l=some ps->(∀ x∈l.map (·.2),cD x t=cD x t')->vh ps t=vh ps t'
 | [],ps,e,_=>by cases e;rfl
 |p::l,ps,e,h=>by
  change (match place p.1 with|some (off,size)=>(match CK place l with|some r=>some ((off,size,cD p.2)::r)|none=>none)|none=>none)=some ps at e
  split at e
  ·split at e
   ·rename_i r hr
    cases e
    show(match cD p.2 t with|some v=>(match vh r t with|some vs=>some ((_,_,v)::vs)|none=>none)|none=>none)=
     (match cD p.2 t' with|some v=>(match vh r t' with|some vs=>some ((_,_,v)::vs)|none=>none)|none=>none)
    rw[h p.2 List.mem_cons_self,Fu l r hr fun y hy=>h y (List.mem_cons_of_mem _ hy)]
   ·cases e
  ·cases e
omit [Io] in
theorem Fv{t t':Tm}{d:Nat}(x:Option Operand)(h: ∀ y∈x.toList,cD y t=cD y t'):vj (x.map cD) t d=vj (x.map cD) t' d:=by
 cases x with
 |none=>rfl
 |some y=>simp only[Option.map_some,vj,h y (by simp)]
omit [Io] in
theorem N6{t t':Tm}{n:Nat}(lo hi:Option Operand)(h1: ∀ y∈lo.toList,cD y t=cD y t')(h2: ∀ y∈hi.toList,cD y t=cD y t'):
 bounds (lo.map cD) (hi.map cD) t n=bounds (lo.map cD) (hi.map cD) t' n:=by
 unfold bounds;rw[Fv lo h1,Fv hi h2]
def mC(t t':Tm)(h:Hp)(f:lO):Prop:=f t h=f t' h
omit [Io] in
theorem ab8{t t':Tm}{h:Hp}:mC t t' h jL:=rfl
omit [Io] in
theorem sW{t t':Tm}{h:Hp}{c:Bool}{f:lO}(e:mC t t' h f):mC t t' h (oL c f jL):=by cases c;exact ab8;exact e
omit [Io] in
theorem Vz{t t':Tm}{h:Hp}{c:Bool}{f f':lO}(e:mC t t' h f)(e':mC t t' h f'):mC t t' h (oL c f f'):=by cases c;exact e';exact e
omit [Io] in
theorem ab9{t t':Tm}{h:Hp}(o:Op)(e: ∀ x∈o.operands.toList,cD x t=cD x t'):mC t t' h (wP P call o).2:=by
 cases o<;>simp only[wP]
 case move x=>simp only[mC,pW,e x (by simp[Op.operands])]
 case assign x=>simp only[mC,pW,e x (by simp[Op.operands])]
 case pick c x y=>simp only[mC,xt,pW,e c (by simp[Op.operands]),e x (by simp[Op.operands]),e y (by simp[Op.operands])]
 case alloc T=>unfold Vm;split<;>rfl
 case box T x=>simp only[mC,GY,e x (by simp[Op.operands])]
 case build T ps=>
  unfold Fg;split
  ·split
   ·split
    ·rename_i q h3
     simp only[mC,vi,Fu (t:=t) (t':=t') ps.toList q h3 (fun x hx=>e x (by simpa[Op.operands]using hx))]
    ·rfl
   ·rfl
  ·rfl
 case buildSlice T n ps=>
  have hp:=Ft (t:=t) (t':=t') ps.toList (fun x hx=>e x (by simpa[Op.operands]using hx));unfold UP;split
  ·split
   ·split
    ·refine sW ?_;simp only[mC,EU,hp]
    ·rfl
   ·rfl
  ·rfl
 case load T x=>
  unfold Lk;split
  ·split
   ·simp only[mC,r7,e x (by simp[Op.operands])]
   ·rfl
  ·rfl
 case store T x y=>
  unfold IZ;split
  ·refine sW ?_;simp only[mC,tH,e x (by simp[Op.operands]),e y (by simp[Op.operands])]
  ·rfl
 case nilCheck x=>simp only[mC,EW,e x (by simp[Op.operands])]
 case binOp op T x y yT=>
  cases Lj P op T with
  |none=>rfl
  |some f=>simp only[mC,xF,e x (by simp[Op.operands]),e y (by simp[Op.operands])]
 case unOp op T x=>
  cases cUn op with
  |none=>rfl
  |some f=>simp only[mC,KV,e x (by simp[Op.operands])]
 case convert S D x=>
  have hx:=e x (by simp[Op.operands]);split
  ·simp only[I3];split
   ·split
    ·split
     ·simp only[mC,wJ,hx]
     ·rfl
    ·rfl
   ·split
    ·split
     ·refine sW ?_;simp only[mC,zC,hx]
     ·rfl
    ·rfl
   ·rfl
  ·simp only[Vj];split
   ·split
    ·simp only[mC,GZ,wO,hx]
    ·rfl
   ·rfl
  ·simp only[HO];split
   ·split
    ·simp only[mC,KV,hx]
    ·rfl
   ·rfl
 case makeFunc f first caps=>
  cases f<;>try rfl
  simp only;split
  ·simp only[mC,kFn,Bp (t:=t) (t':=t') caps.toList (fun x hx=>e x (by simp[Op.operands];exact .inr (by simpa using hx)))]
  ·rfl
 case makeMap T r=>cases r<;>rfl
 case makeSlice T l c=>
  have h1:=e l (by simp[Op.operands]);have h2:=e c (by simp[Op.operands]);unfold La;split
  ·split
   ·split
    ·refine sW ?_;simp only[mC,sN,h1,h2]
    ·rfl
   ·rfl
  ·rfl
 case slice T x lo hi mx=>
  cases mx with
  |some m=>
   have hx:=e x (by simp[Op.operands]);have hm:=e m (by simp[Op.operands])
   have hh: ∀ y∈hi.toList,cD y t=cD y t':=fun y hy=>e y (by simp[Op.operands];right;right;left;simpa using hy)
   simp only;unfold Bn;split
   ·rename_i y
    have hy:=hh y (by simp);split
    ·split
     ·simp only[mC,G1,wO,hx,hy,hm]
     ·rfl
    ·rfl
   ·rfl
  |none=>
  have hx:=e x (by simp[Op.operands])
  have hl: ∀ y∈lo.toList,cD y t=cD y t':=fun y hy=>e y (by simp[Op.operands];right;left;simpa using hy)
  have hh: ∀ y∈hi.toList,cD y t=cD y t':=fun y hy=>e y (by simp[Op.operands];right;right;simpa using hy)
  have hb: ∀ n,bounds (lo.map cD) (hi.map cD) t n=bounds (lo.map cD) (hi.map cD) t' n:=fun n=>N6 lo hi hl hh
  simp only;unfold Fl;split
  ·simp only[mC,qK,hx,hb]
  ·split
   ·simp only[mC,mQ,vk,hx,hb]
   ·rfl
  ·split
   ·refine sW ?_;simp only[mC,ph,hx,hb]
   ·rfl
  ·rfl
 case fieldAddr T x n=>
  have hx:=e x (by simp[Op.operands]);unfold tP;split
  ·split
   ·split
    ·refine sW ?_;simp only[mC,kO,hx]
    ·rfl
   ·rfl
  ·rfl
 case field T x n=>
  have hx:=e x (by simp[Op.operands]);unfold Fj;split
  ·split
   ·split
    ·split
     ·simp only[mC,tJ,hx]
     ·rfl
    ·rfl
   ·rfl
  ·rfl
 case indexAddr T x y=>
  have hx:=e x (by simp[Op.operands]);have hy:=e y (by simp[Op.operands]);unfold tQ;split
  ·split
   ·simp only[mC,A',hx,hy]
   ·rfl
  ·split
   ·simp only[mC,zi,hx,hy]
   ·rfl
  ·rfl
 case index T x y=>
  have hx:=e x (by simp[Op.operands]);have hy:=e y (by simp[Op.operands]);unfold Fk;split
  ·split
   ·split
    ·simp only[mC,sE,hx,hy]
    ·rfl
   ·rfl
  ·simp only[mC,qL,hx,hy]
  ·rfl
 case extract x i=>simp only[mC,oN,e x (by simp[Op.operands])]
 case call c=>
  have vQ: ∀ x∈c.args.toList,cD x t=cD x t':=fun x hx=>e x (by simp[Op.operands,Call.operands];right;simpa using hx)
  cases hb:pY P c with
  |some f=>
   simp only;unfold pY at hb;split at hb
   ·split at hb
    ·rename_i x T h1 h2
     cases hb;have hx:=vQ x (by simp[h1]);unfold Vk;split
     ·simp only[mC,xu,hx]
     ·simp only[mC,EZ,wO,hx]
     ·rfl
     ·rfl
    ·cases hb;rfl
   ·split at hb
    ·rename_i x T h1 h2
     cases hb;have hx:=vQ x (by simp[h1]);unfold Vl;split
     ·simp only[mC,EY,wO,hx]
     ·rfl
    ·cases hb;rfl
   ·split at hb
    ·rename_i x y h1
     cases hb;simp only[mC,G2,xF,vQ x (by simp[h1]),vQ y (by simp[h1])]
    ·cases hb;rfl
   ·split at hb
    ·rename_i x y h1
     cases hb;simp only[mC,G3,xF,vQ x (by simp[h1]),vQ y (by simp[h1])]
    ·cases hb;rfl
   ·cases hb
  |none=>
   simp only;unfold PX;split
   ·split
    ·rename_i s x T T' h1 h2
     have h3:=vQ s (by simp[h1]);have h4:=vQ x (by simp[h1]);refine Vz ?_ ?_
     ·unfold El;split
      ·split
       ·split
        ·refine sW ?_;simp only[mC,mR,wK,wO,h3,h4]
        ·rfl
       ·rfl
      ·rfl
     ·unfold PQ;split
      ·unfold PN;split
       ·split
        ·split
         ·split
          ·refine sW ?_;simp only[mC,Bb,h3,h4]
          ·rfl
         ·rfl
        ·rfl
       ·rfl
      ·unfold PM;split
       ·split
        ·split
         ·split
          ·refine sW ?_;simp only[mC,xJ,h3,h4]
          ·rfl
         ·rfl
        ·rfl
       ·rfl
    ·rfl
   ·split
    ·rename_i d s T T' h1 h2
     have h3:=vQ d (by simp[h1]);have h4:=vQ s (by simp[h1]);unfold PW;split
     ·split
      ·simp only[mC,sO,wO,h3,h4]
      ·rfl
     ·rfl
    ·rfl
   ·rename_i f args Af
    simp only[mC,Dv,Bp (t:=t) (t':=t') args.toList vQ]
   ·rename_i f args Af _
    have hf:=e f (by simp[Op.operands,Call.operands]);simp only[mC,xK,hf,Bp (t:=t) (t':=t') args.toList vQ]
   ·rfl
 all_goals rfl
def Lu:Operand->List Nat
 | .tmp i=>[i]
 | _=>[]
def yM(all:List Oper)(o:Oper):List Nat:=
 app (List.rec [] (fun x _ ih=>app (Lu x) ih) o.op.operands.toList) (match o.guard with
  |none=>[]
  |some (j,_)=>match sD all j with
   |some oj=>match oj.dst with
    |some d=>[d]
    |none=>[]
   |none=>[])
omit [Io] in
theorem Lv{x:Operand}{i:Nat}: ∀ {l:List Operand},x∈l->i∈Lu x->i∈(List.rec [] (fun x _ ih=>app (Lu x) ih) l:List Nat)
 | [],h,_=>by cases h
 |y::l,h,hi=>by
  show i∈app (Lu y) _;rw[cZ];cases h with
  |head=>exact List.mem_append_left _ hi
  |tail _ h=>exact List.mem_append_right _ (Lv h hi)
omit [Io] in
theorem ab'{nt:Nat}{all:List Oper}{o:Oper}{t t':Tm}{h:Hp}(e: ∀ u∈yM all o,t.at u=t'.at u):sC P call nt all o t h=sC P call nt all o t' h:=by
 have hx: ∀ x∈o.op.operands.toList,cD x t=cD x t':=by
  intro x hx;cases x with
  |tmp i=>
   have:=e i (by unfold yM;rw[cZ];exact List.mem_append_left _ (Lv hx (by simp[Lu])));show oL (Nat.blt i 512) (oT i) oX t=oL (Nat.blt i 512) (oT i) oX t';cases Nat.blt i 512
   ·rfl
   ·exact this
  |const v=>show(match ofV v with|some a=>oC a|none=>oX) t=(match ofV v with|some a=>oC a|none=>oX) t';cases ofV v<;>rfl
  |global g=>rfl
  |func f=>rfl
 have hd:=ab9 (P:=P) (call:=call) (h:=h) o.op hx;unfold sC;cases hg:o.guard with
 |none=>exact hd
 |some p=>
  obtain⟨j,want⟩:=p;simp only;cases hj:sD all j with
  |none=>rfl
  |some oj=>
   simp only;cases hdj:oj.dst with
   |none=>rfl
   |some d=>
    simp only;cases Nat.blt d nt with
    |false=>rfl
    |true=>
     have PJ:t.at d=t'.at d:=e d (by
      unfold yM;rw[cZ,hg];refine List.mem_append_right _ ?_
      simp[hj,hdj])
     show gF (oT d) want (wP P call o.op).2 t h=gF (oT d) want (wP P call o.op).2 t' h;unfold gF;unfold mC at hd;rw[hd]
     show(match t.at d with|some (.bool b)=>_|some (.DO [])=>_| _=>_)=(match t'.at d with|some (.bool b)=>_|some (.DO [])=>_| _=>_)
     rw[PJ]
end
end Go.Ab
noncomputable section
namespace Go.Ab
variable [Io]
section
variable {P:Program}{call:kh}
def r9(f:lO):Prop:= ∀ t h h0,f t h=(match f t h0 with| .ok v _=>.ok v h| .bad=>.bad)
omit [Io] in
theorem r9.ok{f:lO}(i:r9 f){t:Tm}{h h':Hp}{v:AV}(e:f t h=.ok v h'):h'=h/\ ∀ h0,f t h0=.ok v h0:=by
 refine⟨?_,fun h0=>by rw[i t h0 h,e]⟩;have:=i t h h;rw[e]at this;exact(Ro.ok.inj this).2
omit [Io] in
theorem j6:r9 jL:=fun _ _ _=>rfl
omit [Io] in
theorem P0{c:Bool}{f:lO}(i:r9 f):r9 (oL c f jL):=by cases c;exact j6;exact i
omit [Io] in
theorem xW{x:lT}:r9 (pW x):=by intro t h h0;unfold pW;cases x t<;>rfl
omit [Io] in
theorem VA{c x y:lT}:r9 (xt c x y):=by
 intro t h h0;unfold xt;cases c t<;>try rfl
 rename_i a;cases a<;>try rfl
 rename_i b;cases b
 ·exact xW t h h0
 ·exact xW t h h0
omit [Io] in
theorem aca{x:lT}:r9 (EW x):=by intro t h h0;unfold EW;cases x t<;>try rfl
                                rename_i a;cases a<;>rfl
omit [Io] in
theorem Ja{f:AV->AV->Option AV}{x y:lT}:r9 (xF f x y):=by
 intro t h h0;unfold xF;cases x t<;>try rfl
 rename_i a;cases y t<;>try rfl
 rename_i b;simp only;cases f a b<;>rfl
omit [Io] in
theorem VB{f:AV->Option AV}{x:lT}:r9 (KV f x):=by
 intro t h h0;unfold KV;cases x t<;>try rfl
 rename_i a;simp only;cases f a<;>rfl
omit [Io] in
theorem ake{f:FuncId}{l:List lT}:r9 (kFn f l):=by intro t h h0;unfold kFn;cases CC l t<;>rfl
omit [Io] in
theorem R5{z:List AV}{ps:List (Nat×Nat×lT)}:r9 (vi z ps):=by
 intro t h h0;unfold vi;cases vh ps t<;>try rfl
 rename_i vs;simp only;cases ES vs z<;>rfl
omit [Io] in
theorem Ha{n:Nat}{x:lT}:r9 (kO n x):=by intro t h h0;unfold kO;cases x t<;>try rfl
                                        rename_i a;cases a<;>rfl
omit [Io] in
theorem R6{n m:Nat}{b:Bool}{x:lT}:r9 (tJ n m b x):=by
 intro t h h0;unfold tJ;cases x t<;>try rfl
 rename_i a;cases a<;>try rfl
 rename_i cs;simp only;cases part b cs n m<;>rfl
omit [Io] in
theorem acb{n:Nat}{x y:lT}:r9 (A' n x y):=by
 intro t h h0;unfold A';cases y t<;>try rfl
 rename_i a;cases a<;>try rfl
 rename_i k i;cases i<;>try rfl
 rename_i i;simp only;cases x t<;>try rfl
 rename_i a;cases a<;>try rfl
 ·rename_i id off m sz;simp only;cases(Nat.blt i m&&Nat.beq sz n)<;>rfl
 ·rename_i m cs;simp only;cases Nat.blt i m<;>rfl
omit [Io] in
theorem acd{m n:Nat}{x y:lT}:r9 (zi m n x y):=by
 intro t h h0;unfold zi;cases y t<;>try rfl
 rename_i a;cases a<;>try rfl
 rename_i k i;cases i<;>try rfl
 rename_i i;simp only;cases x t<;>try rfl
 rename_i a;cases a<;>try rfl
 ·simp only;cases Nat.blt i m<;>rfl
 ·simp only;cases Nat.blt i m<;>rfl
omit [Io] in
theorem R7{m n:Nat}{b:Bool}{x y:lT}:r9 (sE m n b x y):=by
 intro t h h0;unfold sE;cases x t<;>try rfl
 rename_i a;cases a<;>try rfl
 rename_i cs;simp only;cases y t<;>try rfl
 rename_i a;cases a<;>try rfl
 rename_i k i;cases i<;>try rfl
 rename_i i;simp only;cases Nat.blt i m<;>try rfl
 simp only[cond_true];cases part b cs (Nat.mul i n) n<;>rfl
omit [Io] in
theorem N7{x y:lT}:r9 (qL x y):=by
 intro t h h0;unfold qL;cases x t<;>try rfl
 rename_i a;cases a<;>try rfl
 rename_i v;cases v<;>try rfl
 rename_i s;simp only;cases y t<;>try rfl
 rename_i a;cases a<;>try rfl
 ·rename_i k i;cases i<;>try rfl
  rename_i i;simp only;cases sD s.data.toList i<;>rfl
 ·rename_i k sv lo hi o;simp only;cases(!(sB (Int.add lo o) 0)&&sB (Int.add hi o) (.ofNat s.size))<;>rfl
omit [Io] in
theorem Lw{x:lT}{i:Nat}:r9 (oN x i):=by
 intro t h h0;unfold oN;cases x t<;>try rfl
 rename_i a;cases a<;>try rfl
 rename_i vs;simp only;cases sD vs i<;>rfl
omit [Io] in
theorem VC{x:lT}:r9 (xu x):=by
 intro t h h0;unfold xu;cases x t<;>try rfl
 rename_i a;cases a<;>try rfl
 rename_i v;cases v<;>rfl
omit [Io] in
theorem ace{x:lT}:r9 (EZ x):=by
 intro t h h0;unfold EZ;cases x t<;>try rfl
 rename_i a;cases a<;>rfl
omit [Io] in
theorem acf{x:lT}:r9 (EY x):=by
 intro t h h0;unfold EY;cases x t<;>try rfl
 rename_i a;cases a<;>rfl
omit [Io] in
theorem acg{o:Op}(hc:(wP P call o).1=.p0):r9 (wP P call o).2:=by
 cases o<;>simp only[wP]at hc ⊢
 case move x=>exact xW
 case assign x=>exact xW
 case pick c x y=>exact VA
 case alloc T=>cases hc
 case box T x=>cases hc
 case build T ps=>
  unfold Fg;split
  ·split
   ·split
    ·exact R5
    ·exact j6
   ·exact j6
  ·exact j6
 case buildSlice T n ps=>cases hc
 case load T x=>cases hc
 case store T x y=>cases hc
 case nilCheck x=>exact aca
 case binOp op T x y yT=>
  cases Lj P op T with
  |some f=>exact Ja
  |none=>exact j6
 case unOp op T x=>
  cases cUn op with
  |some f=>exact VB
  |none=>exact j6
 case convert S D x=>
  have nd:r9 (HO P S D x):=by
   unfold HO;split
   ·split
    ·exact VB
    ·exact j6
   ·exact j6
  split
  ·rename_i h
   rw[h]at hc;cases hc
  ·rename_i h
   rw[h]at hc;cases hc
  ·exact nd
 case makeFunc f first caps=>
  cases f<;>try (cases hc;done)
  simp only;cases first.toList with
  |nil=>exact ake
  |cons a l=>exact j6
 case makeSlice T l c=>cases hc
 case slice T x lo hi mx=>cases mx<;>cases hc
 case fieldAddr T x n=>
  unfold tP;split
  ·split
   ·split
    ·exact P0 Ha
    ·exact j6
   ·exact j6
  ·exact j6
 case field T x n=>
  unfold Fj;split
  ·split
   ·split
    ·split
     ·exact R6
     ·exact j6
    ·exact j6
   ·exact j6
  ·exact j6
 case indexAddr T x y=>
  unfold tQ;split
  ·split
   ·exact acb
   ·exact j6
  ·split
   ·exact acd
   ·exact j6
  ·exact j6
 case index T x y=>
  unfold Fk;split
  ·split
   ·split
    ·exact R7
    ·exact j6
   ·exact j6
  ·exact N7
  ·exact j6
 case extract x i=>exact Lw
 case call c=>
  cases hb:pY P c with
  |none=>rw[hb]at hc;cases hc
  |some f=>
   simp only;unfold pY at hb;split at hb
   ·split at hb
    ·cases hb;unfold Vk;split
     ·exact VC
     ·exact ace
     ·exact xW
     ·exact j6
    ·cases hb;exact j6
   ·split at hb
    ·cases hb;unfold Vl;split
     ·exact acf
     ·exact j6
    ·cases hb;exact j6
   ·split at hb
    ·cases hb;exact Ja
    ·cases hb;exact j6
   ·split at hb
    ·cases hb;exact Ja
    ·cases hb;exact j6
   ·cases hb
 case makeMap T r=>cases r<;>cases hc
 all_goals (cases hc)
def R8(f:lO):Prop:= ∀ t h v h',f t h=.ok v h'-> ∀ h0:Hp,h0.next=h.next->(h'=h/\f t h0=.ok v h0)∨ ∃ cs,h'=kA h cs/\f t h0=.ok v (kA h0 cs)
omit [Io] in
theorem pZ:R8 jL:=by intro t h v h' e;cases e
omit [Io] in
theorem Fw{c:Bool}{f:lO}(i:R8 f):R8 (oL c f jL):=by cases c;exact pZ;exact i
omit [Io] in
theorem VD{o:Op}(hc:(wP P call o).1=.al):R8 (wP P call o).2:=by
 cases o<;>simp only[wP]at hc ⊢
 case alloc T=>
  unfold Vm;split
  ·intro t h v h' e h0 hn;cases e;exact .inr ⟨_,rfl,by unfold NI;rw[hn]⟩
  ·exact pZ
 case box T x=>
  intro t h v h' e h0 hn;unfold GY at e ⊢;cases hx:cD x t with
  |none=>rw[hx]at e;cases e
  |some a=>rw[hx]at e;cases e;exact .inr ⟨_,rfl,by rw[hn]⟩
 case buildSlice T n ps=>
  unfold UP;split
  ·split
   ·split
    ·refine Fw ?_
     rename_i ie uP _ z hz0
     intro t h v h' e h0 hn;unfold EU at e ⊢;cases hp:vg (wN ps.toList) t with
     |none=>rw[hp]at e;cases e
     |some vs=>
      rw[hp]at e;simp only at e ⊢;cases hz:Nat.beq n 0 with
      |true=>
       rw[hz]at e;cases vs with
       |nil=>cases e;exact .inl ⟨rfl,rfl⟩
       |cons _ _=>cases e
      |false=>
       rw[hz]at e;simp only[cond_false]at e ⊢;cases hf:yG n ie.size z vs with
       |none=>rw[hf]at e;cases e
       |some cs=>rw[hf]at e;cases e;exact .inr ⟨_,rfl,by rw[hn]⟩
    ·exact pZ
   ·exact pZ
  ·exact pZ
 case makeSlice T l c=>
  unfold La;split
  ·split
   ·split
    ·refine Fw ?_
     rename_i ie uP _ z hz0
     intro t h v h' e h0 hn;unfold sN at e ⊢;cases hl:cD l t with
     |none=>rw[hl]at e;cases e
     |some a=>
     cases a<;>try (rw[hl]at e;cases e;done)
     rename_i k i
     cases i<;>try (rw[hl]at e;cases e;done)
     rename_i i
     rw[hl]at e;simp only at e ⊢;cases hcc:cD c t with
     |none=>rw[hcc]at e;cases e
     |some a=>
     cases a<;>try (rw[hcc]at e;cases e;done)
     rename_i k2 j
     cases j<;>try (rw[hcc]at e;cases e;done)
     rename_i j
     rw[hcc]at e;simp only at e ⊢;cases hb:(Nat.ble i j&&Nat.ble (Nat.mul j ie.bytes) 70368744177664)with
     |false=>rw[hb]at e;cases e
     |true=>
     rw[hb]at e;simp only[cond_true]at e ⊢;cases hz:Nat.beq j 0 with
     |true=>rw[hz]at e;cases e;exact .inl ⟨rfl,rfl⟩
     |false=>rw[hz]at e;cases e;exact .inr ⟨_,rfl,by simp only[cond_false];rw[hn]⟩
    ·exact pZ
   ·exact pZ
  ·exact pZ
 case binOp op T x y yT=>cases h:Lj P op T<;>rw[h]at hc<;>cases hc
 case unOp op T x=>cases h:cUn op<;>rw[h]at hc<;>cases hc
 case convert S D x=>
  cases h:P.underlying D with
  |none=>rw[h]at hc;cases hc
  |some d=>cases d<;>rw[h]at hc<;>cases hc
 case makeFunc f first caps=>
  cases f<;>try (cases hc;done)
  simp only at hc
  cases h:first.toList<;>rw[h]at hc<;>cases hc
 case slice T x lo hi mx=>cases mx<;>cases hc
 case makeMap T r=>cases r<;>cases hc
 case call c=>cases h:pY P c<;>rw[h]at hc<;>cases hc
 all_goals (cases hc)
end
end Go.Ab
noncomputable section
namespace Go.Ab
variable [Io]
def G.to(g:G)(N:Nat):G:=⟨fun id=>if id<N then g.m id else none,g.mM⟩
omit [Io] in
theorem HQ(g:G)(w:World):Bc g w g w:=⟨fun _ _ e=>e,fun _ i=>i,fun _ _=>rfl,fun _=>Nat.le_refl _⟩
omit [Io] in
theorem wR(g:G)(w:World){N M:Nat}(h:N<=M):Bc (g.to N) w (g.to M) w:=
 ⟨(by
   intro id x e;simp only[G.to]at e ⊢;by_cases h1:id<N
   ·rw[if_pos h1]at e;rw[if_pos (by omega)];exact e
   ·rw[if_neg h1]at e;cases e),fun _ i=>i,fun _ _=>rfl,fun _=>Nat.le_refl _⟩
def nf(N:Nat):Hp:=⟨N,.nil⟩
theorem VE{g:G}{w:World}{N:Nat}(h: ∀ b,g.mM b->b<w.heap.size):HC g w (nf N):=⟨(fun _ _ e=>by cases e),h⟩
section
variable {P:Program}{call:kh}{o:Oper}
theorem DC{ops:Array Oper}{g w nt t h}{a:Act}{v:AV}{h':Hp}(T:TR g w nt t a.tmps)
 (e:sC P call nt ops.toList o t h=.ok v h'):(Region.wanted o (yielded ops a.tmps)=true/\(wP P call o.op).2 t h=.ok v h')∨
  (Region.wanted o (yielded ops a.tmps)=false/\v=n7/\h'=h):=by
 unfold sC at e;cases hg:o.guard with
 |none=>
  rw[hg]at e;exact .inl ⟨by simp[Region.wanted,hg],e⟩
 |some p=>
  obtain⟨j,want⟩:=p;rw[hg]at e;simp only[nQ]at e;cases hj:ops.toList[j]? with
  |none=>simp only[hj]at e;cases e
  |some oj=>
  simp only[hj]at e;cases hd:oj.dst with
  |none=>simp only[hd]at e;cases e
  |some d=>
  simp only[hd]at e;cases hb:Nat.blt d nt with
  |false=>simp only[hb]at e;cases e
  |true=>
  simp only[hb]at e;have T6:=jn.1 hb
  change gF (oT d) want (wP P call o.op).2 t h=.ok v h' at e
  have hj':ops[j]? =some oj:=by simpa using hj
  have wH:=T.2.1;have hy: ∀ y,a.tmps.getD d undef=y->yielded ops a.tmps j=match y with| .bool b=>some b| _=>none:=by
   intro y hy;have:a.tmps[d]? =some y:=by
    rw[Array.getD_eq_getD_getElem?]at hy;rw[Array.getElem?_eq_getElem (by omega)]at hy ⊢
    simpa using hy
   simp[yielded,hj',hd,this];cases y<;>rfl
  unfold gF at e;split at e
  ·rename_i b Lc
   have hv:=(T.2.2 d _ (by have:=T.1;omega) Lc).2;simp only[VR]at hv;have hy2:=hy _ hv;cases hwb:(oL want b (!b))with
   |true=>
    rw[hwb]at e
    have:b=want:=by cases want<;>cases b<;>simp[oL]at hwb<;>rfl
    exact .inl ⟨by simp[Region.wanted,hg,hy2,this],e⟩
   |false=>
    rw[hwb]at e
    have:b≠want:=by cases want<;>cases b<;>simp[oL]at hwb<;>simp
    cases e;exact .inr ⟨by simp[Region.wanted,hg,hy2,this],rfl,rfl⟩
  ·rename_i Lc
   have hv:=(T.2.2 d _ (by have:=T.1;omega) Lc).2;simp only[VR]at hv;obtain⟨vs,hv,lP⟩:=hv;have hy2:=hy _ hv;cases e;exact .inr ⟨by simp[Region.wanted,hg,hy2],rfl,rfl⟩
  ·cases e
theorem Lx(g:G)(w:World):VR g w n7 undef:=by simp only[n7,VR];exact⟨_,rfl,by simp[jy]⟩
theorem HS(hc:mb P call){ops:Array Oper}{i:Nat}(hi:ops[i]? =some o){g w nt t h}{a:Act}{v:AV}{h':Hp}(nq:(wP P call o.op).1=.p0∨(wP P call o.op).1=.p1)
 (H:HC g w h)(T:TR g w nt t a.tmps)(e:sC P call nt ops.toList o t h=.ok v h'){Q:Exit->Act->World->Prop}{rest:List Nat}
 (K: ∀ x,VR g w v x->wpOps P ops Q rest (a.put o.dst x) w):wpOps P ops Q (i::rest) a w:=by
 rw[wpOps,hi];simp only;have hp:jE P o (wP P call o.op).2:=by
  have:=I6 (o:=o) hc;cases h:wP P call o.op with
  |mk c f=>
   rw[h]at this nq;cases c
   ·exact this
   ·exact this
   ·rcases nq with h|h<;>cases h
   ·rcases nq with h|h<;>cases h
 rcases DC T e with⟨hw,e⟩|⟨hw,rfl,rfl⟩
 ·rw[if_pos hw];obtain⟨rfl,x,hx,hv⟩:=hp g w nt t h a v h' H T e;refine .inl ?_;unfold Oper.wp;rw[hx];exact K x hv
 ·rw[if_neg (by simp[hw])];exact K undef (Lx g w)
theorem VF(hc:mb P call){ops:Array Oper}{i:Nat}(hi:ops[i]? =some o){g w nt t h}{a:Act}{v:AV}{h':Hp}(nq:(wP P call o.op).1=.al)
 (H:HC g w h)(T:TR g w nt t a.tmps)(e:sC P call nt ops.toList o t h=.ok v h'){Q:Exit->Act->World->Prop}{rest:List Nat}
 (K1:h'=h-> ∀ x w',(w'=w∨ ∃ ob,w'=w.alloc ob)->(∀ g' w',VR g' w' v x)->wpOps P ops Q rest (a.put o.dst x) w')
 (K2: ∀ cs C el vs x,h'=kA h cs->jy g w cs.toL vs->(∀ (j:Nat) (v:Value),vs[j]? =some v->C[j]? =some v)->
  (∀ g' w',g'.m h.next=some (w.heap.size,0)->C.size<=kP w' w.heap.size->VR g' w' v x)->wpOps P ops Q rest (a.put o.dst x) (w.alloc (.cells C el))):
 wpOps P ops Q (i::rest) a w:=by
 rw[wpOps,hi];simp only;have hp:vM P o (wP P call o.op).2:=by
  have:=I6 (o:=o) hc;cases h:wP P call o.op with
  |mk c f=>rw[h]at this nq;simp only at nq;subst nq;exact this
 rcases DC T e with⟨hw,e⟩|⟨hw,rfl,rfl⟩
 ·rw[if_pos hw]
  rcases hp g w nt t h a v h' H T e with⟨rfl,x,C,el,hr,hv⟩|⟨cs,C,el,vs,x,rfl,hr,lP,hC,hv⟩
  ·refine .inl ?_;unfold Oper.wp;rw[hr];exact K1 rfl x _ (.inr ⟨_,rfl⟩) hv
  ·refine .inl ?_;unfold Oper.wp;rw[hr];exact K2 cs C el vs x rfl lP hC hv
 ·rw[if_neg (by simp[hw])];exact K1 rfl undef _ (.inl rfl) (fun g w=>Lx g w)
omit [Io] in
theorem Bq{nt:Nat}{all:List Oper}(nq:(wP P call o.op).1=.p0):r9 (sC P call nt all o):=by
 have hf:r9 (wP P call o.op).2:=acg nq;unfold sC;cases o.guard with
 |none=>exact hf
 |some p=>
  obtain⟨j,want⟩:=p;simp only;split
  ·split
   ·refine P0 ?_;intro t h h0;unfold gF;split
    ·rename_i b _
     cases oL want b (!b)
     ·rfl
     ·exact hf t h h0
    ·rfl
    ·rfl
   ·exact j6
  ·exact j6
omit [Io] in
theorem Ly{nt:Nat}{all:List Oper}(nq:(wP P call o.op).1=.al):R8 (sC P call nt all o):=by
 have hf:R8 (wP P call o.op).2:=VD nq;unfold sC;cases o.guard with
 |none=>exact hf
 |some p=>
  obtain⟨j,want⟩:=p;simp only;split
  ·split
   ·refine Fw ?_;intro t h v h' e h0 hn;unfold gF at e ⊢;split at e
    ·rename_i b hb
     cases hw:oL want b (!b)with
     |false=>rw[hw]at e;cases e;exact .inl ⟨rfl,rfl⟩
     |true=>rw[hw]at e;exact hf t h v h' e h0 hn
    ·cases e;exact .inl ⟨rfl,rfl⟩
    ·cases e
   ·exact pZ
  ·exact pZ
end
end Go.Ab
noncomputable section
namespace Go.Ab
variable [Io]
inductive sY where
 |last (pre oy:List Nat)
 |cons (pre oy:List Nat) (q:Nat) (rest:sY)
def sY.pre:sY->List Nat
 | .last p _=>p
 | .cons p _ _ _=>p
def sY.oy:sY->List Nat
 | .last _ a=>a
 | .cons _ a _ r=>a++r.oy
def sY.GQ:sY->List Nat
 | .last _ _=>[]
 | .cons _ _ q r=>q::r.GQ
structure Cx where
 P:Program
 call:kh
 ops:Array Oper
 nt:Nat
 t0:Tm
 te:Tm
 nx:Nat->Nat
 bd:Nat->Nat
 g0:G
 w0:World
 h0:Hp
 hE:Hp
namespace Cx
variable (c:Cx)
def kC(i:Nat)(k:Cl):Prop:= ∃ o,c.ops[i]? =some o/\(wP c.P c.call o.op).1=k
def FE(i:Nat):lO:=match c.ops[i]? with
 |some o=>sC c.P c.call c.nt c.ops.toList o
 |none=>jL
def tA(i d:Nat):Prop:= ∃ o,c.ops[i]? =some o/\o.dst=some d
def Rds(i:Nat):List Nat:=match c.ops[i]? with
 |some o=>yM c.ops.toList o
 |none=>[]
def An(i j:Nat):Prop:=N5 c.ops.toList i j=true
def wS(i N:Nat):Prop:= ∀ u∈c.Rds i,u<c.nt/\((∀ j,c.tA j u->c.An i j/\c.bd j<=N)∨ ∀ j,c.tA j u->c.An j i)
open Classical in
def T7(i:Nat):List Nat->Tm
 | []=>Tm.none
 |u::l=>Tm.put (T7 i l) u (if ∃ j,c.tA j u/\c.An i j then Tm.at c.te u else Tm.at c.t0 u)
def rf(i:Nat):Tm:=c.T7 i (c.Rds i)
def Slot(i:Nat)(v:AV):Prop:= ∀ d,c.tA i d->d<c.nt/\c.te.at d=some v
def P1s(pre:List Nat)(h:Hp):Prop:= ∀ i∈pre,c.kC i .p1-> ∃ v,c.FE i (c.rf i) h=.ok v h/\c.Slot i v/\c.wS i h.next
def DT:List Nat->Hp->Hp->Prop
 | [],h,h1=>h1=h
 |i::l,h,h1=>(c.kC i .p0/\DT l h h1)∨(c.kC i .al/\c.nx i=h.next/\((c.bd i=c.nx i/\DT l h h1)∨
  ∃ v cs,c.bd i=c.nx i+1/\c.FE i (c.rf i) (nf (c.nx i))=.ok v (kA (nf (c.nx i)) cs)/\DT l (kA h cs) h1))
def Hb:sY->Hp->Prop
 | .last pre oy,h=>c.P1s pre h/\c.DT oy h c.hE
 | .cons pre oy q rest,h=>c.P1s pre h/\ ∃ h1,c.DT oy h h1/\c.kC q .ch/\ ∃ v h2,c.FE q (c.rf q) h1=.ok v h2/\c.Slot q v/\c.wS q h1.next/\
   c.bd q=h2.next/\h1.next<=h2.next/\Hb rest h2
def P1:List Nat->sY->Prop
 |qm,.last pre _=> ∀ i,c.kC i .p1->(∃ j∈qm,c.An j i)∨i∈pre
 |qm,.cons pre oy q rest=>(∀ i,c.kC i .p1->(∃ j∈qm,c.An j i)∨(∃ j∈q::rest.GQ,c.An i j)∨i∈pre)/\(∀ i∈oy,c.kC i .al->c.An q i)/\
  (∀ q'∈rest.GQ,c.An q' q)/\P1 (q::qm) rest
structure ach:Prop where
 p0: ∀ i,c.kC i .p0-> ∃ v,(∀ h,c.FE i (c.rf i) h=.ok v h)/\c.Slot i v/\c.wS i (c.bd i)
 al: ∀ i,c.kC i .al-> ∃ v,c.Slot i v/\c.wS i (c.nx i)/\((c.FE i (c.rf i) (nf (c.nx i))=.ok v (nf (c.nx i))/\c.bd i=c.nx i)∨
  ∃ cs,c.FE i (c.rf i) (nf (c.nx i))=.ok v (kA (nf (c.nx i)) cs)/\c.bd i=c.nx i+1)
 dst: ∀ i j d,c.tA i d->c.tA j d->i=j
 top: ∀ i,i<c.ops.size->c.bd i<=c.hE.next
 same: ∀ u,u<512->(∀ j,¬ c.tA j u)->c.te.at u=c.t0.at u
 call:mb c.P c.call
 nt:c.nt<=512
omit [Io] in
theorem xX{h1:Hp}: ∀ {l:List Nat} {h:Hp},c.DT l h h1->h.next<=h1.next
 | [],h,e=>by cases e;exact Nat.le_refl _
 |i::l,h,e=>by
  rcases e with⟨_,e⟩|⟨_,_,⟨_,e⟩|⟨v,cs,_,_,e⟩⟩
  ·exact xX e
  ·exact xX e
  ·have:=xX e;exact Nat.le_trans (Nat.le_succ _) this
omit [Io] in
theorem tR{h1:Hp}: ∀ {l:List Nat} {h:Hp},c.DT l h h1-> ∀ i∈l,c.kC i .al->h.next<=c.nx i/\(c.bd i=c.nx i+1->c.nx i<h1.next)
 | [],h,e,i,hi,_=>by cases hi
 |j::l,h,e,i,hi,hc=>by
  rcases e with⟨hj,e⟩|⟨hj,hn,⟨hb,e⟩|⟨v,cs,hb,_,e⟩⟩
  ·rcases List.mem_cons.1 hi with rfl|hi
   ·obtain⟨o,ho,h1⟩:=hj;obtain⟨o',tB,h2⟩:=hc;rw[ho]at tB;cases tB;rw[h1]at h2;cases h2
   ·exact tR e i hi hc
  ·rcases List.mem_cons.1 hi with rfl|hi
   ·exact⟨by omega,fun h=>by omega⟩
   ·exact tR e i hi hc
  ·rcases List.mem_cons.1 hi with rfl|hi
   ·have:=xX c e
    have:h.next+1<=h1.next:=this
    exact⟨by omega,fun _=>by omega⟩
   ·have:=tR e i hi hc
    have h2:h.next+1<=c.nx i:=this.1
    exact⟨by omega,this.2⟩
omit [Io] in
theorem Ai: ∀ {pl:sY} {h:Hp},c.Hb pl h-> ∀ i∈pl.oy,c.kC i .al->h.next<=c.nx i
 | .last pre oy,h,⟨_,e⟩,i,hi,hc=>(c.tR e i hi hc).1
 | .cons pre oy q rest,h,⟨_,h1,e,_,v,h2,_,_,_,_,hle,r⟩,i,hi,hc=>by
  rcases List.mem_append.1 hi with hi|hi
  ·exact(c.tR e i hi hc).1
  ·exact Nat.le_trans (c.xX e) (Nat.le_trans hle (Ai r i hi hc))
omit [Io] in
theorem rH{i:Nat}{k:Cl}(h:c.kC i k){k':Cl}(h':c.kC i k'):k=k':=by
 obtain⟨o,ho,h1⟩:=h;obtain⟨o',tB,h2⟩:=h';rw[ho]at tB;cases tB;exact h1.symm.trans h2
omit [Io] in
theorem Br{h1:Hp}: ∀ {l:List Nat} {h:Hp},c.DT l h h1-> ∀ i∈l,∀ j∈l,c.kC i .al->c.kC j .al->c.bd i=c.nx i+1->c.bd j=c.nx j+1->c.nx i=c.nx j->i=j
 | [],h,e,i,hi,_,_,_,_,_,_,_=>by cases hi
 |k::l,h,e,i,hi,j,hj,ci,cj,bi,bj,hij=>by
  rcases e with⟨hk,e⟩|⟨hk,hn,⟨hb,e⟩|⟨v,cs,hb,_,e⟩⟩
  ·have ni:i≠k:=fun e=>by subst e;cases c.rH hk ci
   have nj:j≠k:=fun e=>by subst e;cases c.rH hk cj
   exact Br e i ((List.mem_cons.1 hi).resolve_left ni) j ((List.mem_cons.1 hj).resolve_left nj) ci cj bi bj hij
  ·have ni:i≠k:=fun e=>by subst e;omega
   have nj:j≠k:=fun e=>by subst e;omega
   exact Br e i ((List.mem_cons.1 hi).resolve_left ni) j ((List.mem_cons.1 hj).resolve_left nj) ci cj bi bj hij
  ·by_cases ni:i=k<;>by_cases nj:j=k
   ·exact ni.trans nj.symm
   ·have:=(c.tR e j ((List.mem_cons.1 hj).resolve_left nj) cj).1
    have:h.next+1<=c.nx j:=this
    subst ni;omega
   ·have:=(c.tR e i ((List.mem_cons.1 hi).resolve_left ni) ci).1
    have:h.next+1<=c.nx i:=this
    subst nj;omega
   ·exact Br e i ((List.mem_cons.1 hi).resolve_left ni) j ((List.mem_cons.1 hj).resolve_left nj) ci cj bi bj hij
omit [Io] in
theorem Bt: ∀ {pl:sY} {h:Hp},c.Hb pl h-> ∀ i∈pl.oy,∀ j∈pl.oy,c.kC i .al->c.kC j .al->c.bd i=c.nx i+1->c.bd j=c.nx j+1->c.nx i=c.nx j->i=j
 | .last pre oy,h,⟨_,e⟩,i,hi,j,hj,ci,cj,bi,bj,hij=>c.Br e i hi j hj ci cj bi bj hij
 | .cons pre oy q rest,h,⟨_,h1,e,_,v,h2,_,_,_,_,hle,r⟩,i,hi,j,hj,ci,cj,bi,bj,hij=>by
  rcases List.mem_append.1 hi with hi|hi<;>rcases List.mem_append.1 hj with hj|hj
  ·exact c.Br e i hi j hj ci cj bi bj hij
  ·have:=(c.tR e i hi ci).2 bi;have:=c.Ai r j hj cj;omega
  ·have:=(c.tR e j hj cj).2 bj;have:=c.Ai r i hi ci;omega
  ·exact Bt r i hi j hj ci cj bi bj hij
def R9(g:G)(w:World)(h:Hp)(i:Nat):Prop:=
 c.bd i=c.nx i∨ ∃ v cs b C,∃ el:FT C,∃ vs,c.bd i=c.nx i+1/\c.FE i (c.rf i) (nf (c.nx i))=.ok v (kA (nf (c.nx i)) cs)/\g.m (c.nx i)=some (b,0)/\w.heap[b]? =some (.cells C el.el el.fz)/\
  ¬ g.mM b/\ ¬ qM (g.to h.next) h b/\c.w0.heap.size<=b/\jy (g.to (c.nx i)) w cs.toL vs/\ ∀ (j:Nat) (v:Value),vs[j]? =some v->C[j]? =some v
structure St(g:G)(w:World)(h:Hp)(A D:List Nat):Prop where
 hr:HR (g.to h.next) w h
 ext:Ext c.g0 c.w0 c.h0 (g.to h.next) w h
 N8: ∀ i∈A,i∈D->c.kC i .al->c.R9 g w h i
 Sa: ∀ i∈A,∀ j∈A,i∈D->j∈D->c.kC i .al->c.kC j .al->c.bd i=c.nx i+1->c.bd j=c.nx j+1-> ∀ b,g.m (c.nx i)=some (b,0)->g.m (c.nx j)=some (b,0)->i=j
omit [Io] in
theorem xY{h:Hp}{cs:Rw}{id:Nat}:(kA h cs).cz.get id=if id=h.next then some cs else h.cz.get id:=Tr.qO _ _ _ _
omit [Io] in
theorem VG{h:Hp}{cs cs':Rw}(e:kA h cs=kA h cs'):cs=cs':=by
 have h1:(kA h cs).cz.get h.next=some cs:=by rw[xY,if_pos rfl]
 rw[e,xY,if_pos rfl]at h1;exact(Option.some.inj h1).symm
theorem arY{g:G}{w:World}{h:Hp}(H:HR (g.to h.next) w h){b:Nat}{C:Array Value}{el:FT C}{cs:Rw}{vs:List Value}(hm:g.m h.next=some (b,0))
 (hw:w.heap[b]? =some (.cells C el.el el.fz))(hi: ¬ g.mM b)(ho: ¬ qM (g.to h.next) h b)(hv:jy (g.to h.next) w cs.toL vs)(hC: ∀ (j:Nat) (v:Value),vs[j]? =some v->C[j]? =some v):
 HR (g.to (kA h cs).next) w (kA h cs)/\ ∀ b',qM (g.to (kA h cs).next) (kA h cs) b'->qM (g.to h.next) h b'∨b'=b:=by
 have hn:(kA h cs).next=h.next+1:=rfl
 have hM:=wR g w (N:=h.next) (M:=h.next+1) (by omega);have hle: ∀ id cs',h.cz.get id=some cs'->id<h.next:=by
  intro id cs' e
  refine Classical.byContradiction fun k=>?_
  obtain⟨b',s,_,_,_,T5,_⟩:=H.cz id cs' e;rw[H.fresh id (by omega)]at T5;cases T5
 have Em: ∀ id,id<h.next->(g.to (h.next+1)).m id=(g.to h.next).m id:=by
  intro id k;simp only[G.to];rw[if_pos (by omega),if_pos k]
 have hat:(g.to (h.next+1)).m h.next=some (b,0):=by
  simp only[G.to];rw[if_pos (by omega)];exact hm
 rw[hn];refine⟨⟨?_,?_,?_,fun k i=>H.mM k i,fun p hp=>H.tb p hp⟩,?_⟩
 ·intro id qk
  have:h.next+1<=id:=qk
  simp only[G.to];rw[if_neg (by omega)]
 ·intro id cs' e;rw[xY]at e
  by_cases qk:id=h.next
  ·subst qk;rw[if_pos rfl]at e;cases e;exact⟨b,0,C,el,vs,hat,hw,hi,jy.ny hM _ _ hv,by simpa using hC⟩
  ·rw[if_neg qk]at e;obtain⟨b',s,C',el',vs',T5,hw',A7,yJ,hc'⟩:=H.cz id cs' e;exact⟨b',s,C',el',vs',by rw[Em id (hle id cs' e)];exact T5,hw',A7,jy.ny hM _ _ yJ,hc'⟩
 ·intro id Eg b1 s s' PC E7 e1 e2 m1 m2;rw[xY]at e1 e2
  by_cases h1:id=h.next<;>by_cases h2:Eg=h.next
  ·exact h1.trans h2.symm
  ·subst h1;rw[if_neg h2]at e2;rw[hat]at m1;obtain⟨rfl,_⟩:=Prod.mk.inj (Option.some.inj m1);rw[Em Eg (hle Eg _ e2)]at m2;exact absurd ⟨Eg,E7,s',e2,m2⟩ ho
  ·subst h2;rw[if_neg h1]at e1;rw[hat]at m2;obtain⟨rfl,_⟩:=Prod.mk.inj (Option.some.inj m2);rw[Em id (hle id _ e1)]at m1;exact absurd ⟨id,PC,s,e1,m1⟩ ho
  ·rw[if_neg h1]at e1;rw[if_neg h2]at e2;rw[Em id (hle id _ e1)]at m1;rw[Em Eg (hle Eg _ e2)]at m2;exact H.inj id Eg b1 s s' PC E7 e1 e2 m1 m2
 ·rintro b' ⟨id,cs',s,e,m⟩;rw[xY]at e
  by_cases qk:id=h.next
  ·subst qk;rw[hat]at m;obtain⟨rfl,_⟩:=Prod.mk.inj (Option.some.inj m);exact .inr rfl
  ·rw[if_neg qk]at e;rw[Em id (hle id _ e)]at m;exact .inl ⟨id,cs',s,e,m⟩
omit [Io] in
theorem Sb{g:G}{w:World}{h:Hp}{b:Nat}{cs:Rw}(E:Ext c.g0 c.w0 c.h0 (g.to h.next) w h)(hb:c.w0.heap.size<=b)
 (hO: ∀ b',qM (g.to (kA h cs).next) (kA h cs) b'->qM (g.to h.next) h b'∨b'=b):Ext c.g0 c.w0 c.h0 (g.to (kA h cs).next) w (kA h cs) where
 os:=E.os
 tape:=E.tape
 output:=E.output
 size:=E.size
 next:=Nat.le_trans E.next (Nat.le_succ _)
 m:=fun id x e=>(wR g w (N:=h.next) (M:=h.next+1) (by omega)).m id x (E.m id x e)
 zj:=E.zj
 rows:=E.rows
 mM:=E.mM
 Rv:=E.Rv
 vJ:=fun k o=>by
  rcases hO k o with o|rfl
  ·exact E.vJ k o
  ·exact .inr hb
theorem settle{g:G}{w:World}{D A:List Nat}{h1:Hp}: ∀ (l:List Nat) (h:Hp),c.DT l h h1->(∀ i∈l,c.kC i .al->i∈D)->c.St g w h (l++A) D->
 (∀ i∈A,c.kC i .al->h1.next<=c.nx i)->c.St g w h1 A D
 | [],h,e,_,S,_=>by cases e;exact S
 |i::l,h,e,hd,S,hA=>by
  have Sc:=fun j hj=>hd j (List.mem_cons_of_mem i hj)
  have S':c.St g w h (l++A) D:=⟨S.hr,S.ext,fun j hj=>S.N8 j (List.mem_cons_of_mem _ hj),fun j hj k hk=>S.Sa j (List.mem_cons_of_mem _ hj) k (List.mem_cons_of_mem _ hk)⟩
  rcases e with⟨_,e⟩|⟨hk,hn,⟨hb,e⟩|⟨v,cs,hb,hF,e⟩⟩
  ·exact settle l h e Sc S' hA
  ·exact settle l h e Sc S' hA
  ·have HT:=hd i List.mem_cons_self hk
   rcases S.N8 i List.mem_cons_self HT hk with hp|⟨v',cs',b,C,el,vs,_,hF',hm,hw,R4,hO,hb0,hv,hC⟩
   ·omega
   rw[hF]at hF';obtain⟨rfl,vL⟩:=Ro.ok.inj hF';obtain rfl:=VG vL;rw[hn]at hm hv;obtain⟨hr',hO'⟩:=arY S.hr hm hw R4 hO hv hC;refine settle l (kA h cs) e Sc ⟨hr',c.Sb S.ext hb0 hO',?_,S'.Sa⟩ hA;intro j hj N9 KM
   rcases S'.N8 j hj N9 KM with hp|⟨v2,E7,b2,C2,el2,vs2,Lc,hF2,RG,UT,ayF,T8,ayG,hv2,zk⟩
   ·exact .inl hp
   ·refine .inr ⟨v2,E7,b2,C2,el2,vs2,Lc,hF2,RG,UT,ayF,fun o=>?_,ayG,hv2,zk⟩
    rcases hO' _ o with o|rfl
    ·exact T8 o
    ·have hjn:h.next+1<=c.nx j:=by
      rcases List.mem_append.1 hj with hj|hj
      ·exact(c.tR e j hj KM).1
      ·exact Nat.le_trans (c.xX e) (hA j hj KM)
     have:=S.Sa i List.mem_cons_self j (List.mem_cons_of_mem _ hj) HT N9 hk KM hb Lc b2 (by rw[hn];exact hm) RG;subst this;omega
end Cx
end Go.Ab
noncomputable section
namespace Go.Ab
variable [Io]
namespace Cx
variable (c:Cx)
structure Inv(g:G)(w:World)(h:Hp)(a:Act)(D qm:List Nat)(pl:sY):Prop where
 run:c.Hb pl h
 stat:c.P1 qm pl
 closed:I' c.ops.toList D
 GQ: ∀ i,c.kC i .ch->i∈pl.GQ∨i∈D
 chN: ∀ i∈pl.GQ,i∉D
 DD: ∀ j∈qm,j∈D
 alc: ∀ i,c.kC i .al->i∈pl.oy∨i∈D
 st:c.St g w h pl.oy D
 dom: ∀ id x,g.m id=some x->id<h.next∨ ∃ i∈pl.oy,i∈D/\c.kC i .al/\c.bd i=c.nx i+1/\id=c.nx i
 xZ: ∀ j∈D,∀ d,c.tA j d->d<c.nt/\ ∃ v,c.te.at d=some v/\VR (g.to (max (c.bd j) h.next)) w v (a.tmps.getD d undef)
 free: ∀ u v,u<512->(∀ j∈D,¬ c.tA j u)->c.t0.at u=some v->u<c.nt/\VR (g.to h.next) w v (a.tmps.getD u undef)
 size:a.tmps.size=c.nt
 defers:a.defers=[]
variable {c}
omit [Io] in
theorem DE{i:Nat}{o:Oper}(ho:c.ops[i]? =some o):c.FE i=sC c.P c.call c.nt c.ops.toList o:=by unfold FE;rw[ho]
omit [Io] in
theorem akf{i:Nat}{o:Oper}(ho:c.ops[i]? =some o):c.Rds i=yM c.ops.toList o:=by unfold Rds;rw[ho]
omit [Io] in
theorem VH{i:Nat}: ∀ (l:List Nat),(∀ u∈l,u<512)-> ∀ u v,u<512->(c.T7 i l).at u=some v->u∈l/\(((∃ j,c.tA j u/\c.An i j)/\c.te.at u=some v)∨((¬ ∃ j,c.tA j u/\c.An i j)/\c.t0.at u=some v))
 | [],_,u,v,hu,e=>by rw[T7,Tm.PA u hu]at e;cases e
 |x::l,hl,u,v,hu,e=>by
  rw[T7,Tm.pK _ _ _ _ (hl x List.mem_cons_self) hu]at e;by_cases hx:u=x
  ·subst hx;rw[if_pos rfl]at e;refine⟨List.mem_cons_self,?_⟩;by_cases hw: ∃ j,c.tA j u/\c.An i j
   ·rw[if_pos hw]at e;exact .inl ⟨hw,e⟩
   ·rw[if_neg hw]at e;exact .inr ⟨hw,e⟩
  ·rw[if_neg hx]at e;obtain⟨h1,h2⟩:=VH l (fun y hy=>hl y (List.mem_cons_of_mem _ hy)) u v hu e;exact⟨List.mem_cons_of_mem _ h1,h2⟩
theorem Inv.reads{g w h a D qm pl}(I:c.Inv g w h a D qm pl)(qg:c.nt<=512){i N M:Nat}(hr:c.wS i M)(HT:i∉D)(hD: ∀ j,c.An i j->j∈D)(hM:M<=N)(hN:h.next<=N):
 TR (g.to N) w c.nt (c.rf i) a.tmps:=by
 have nM: ∀ u∈c.Rds i,u<512:=fun u hu=>Nat.lt_of_lt_of_le (hr u hu).1 qg
 refine⟨qg,I.size,fun u v hu e=>?_⟩;obtain⟨hm,hor⟩:=VH _ nM u v hu e;refine⟨(hr u hm).1,?_⟩
 rcases hor with⟨⟨j,hj,hA⟩,e⟩|⟨hno,e⟩
 ·rcases(hr u hm).2 with h1|h1
  ·obtain⟨_,hb⟩:=h1 j hj;obtain⟨_,v',e',hv⟩:=I.xZ j (hD j hA) u hj;rw[e]at e';cases e';exact VR.ny (wR g w (by omega)) _ _ hv
  ·exact absurd (I.closed j (hD j hA) i (h1 j hj)) HT
 ·refine VR.ny (wR g w hN) _ _ (I.free u v hu (fun j N9 hj=>?_) e).2
  rcases(hr u hm).2 with h1|h1
  ·exact hno ⟨j,hj,(h1 j hj).1⟩
  ·exact HT (I.closed j N9 i (h1 j hj))
omit [Io] in
theorem Jb{a:Act}{od:Option Nat}{x:Value}{d:Nat}(hd:d<a.tmps.size):(a.put od x).tmps.getD d undef=if od=some d then x else a.tmps.getD d undef:=by
 cases od with
 |none=>rfl
 |some e=>
  show(a.tmps.setIfInBounds e x).getD d undef=_;rw[Array.getD_eq_getD_getElem?,Array.getD_eq_getD_getElem?];by_cases he:e=d
  ·subst he;rw[Array.getElem?_setIfInBounds_self_of_lt hd,if_pos rfl];rfl
  ·rw[Array.getElem?_setIfInBounds_ne he,if_neg (fun k=>he (Option.some.inj k))]
omit [Io] in
theorem Fx{a:Act}{od:Option Nat}{x:Value}:(a.put od x).tmps.size=a.tmps.size:=by
 cases od with
 |none=>rfl
 |some e=>show(a.tmps.setIfInBounds e x).size=_;simp
omit [Io] in
theorem put_defers{a:Act}{od:Option Nat}{x:Value}:(a.put od x).defers=a.defers:=by cases od<;>rfl
theorem CP{g:G}{w w':World}{g':G}{a:Act}{D:List Nat}{i:Nat}{o:Oper}{x:Value}{N N':Nat}(G0:c.ach)(ho:c.ops[i]? =some o)
 (hs:a.tmps.size=c.nt)
 (xZ: ∀ j∈D,∀ d,c.tA j d->d<c.nt/\ ∃ v,c.te.at d=some v/\VR (g.to (max (c.bd j) N)) w v (a.tmps.getD d undef))
 (mono: ∀ j∈D,Bc (g.to (max (c.bd j) N)) w (g'.to (max (c.bd j) N')) w')(hi:i∉D)
 (hx: ∀ d,c.tA i d->d<c.nt/\ ∃ v,c.te.at d=some v/\VR (g'.to (max (c.bd i) N')) w' v x):
 ∀ j∈i::D,∀ d,c.tA j d->d<c.nt/\ ∃ v,c.te.at d=some v/\VR (g'.to (max (c.bd j) N')) w' v ((a.put o.dst x).tmps.getD d undef):=by
 intro j hj d hd;by_cases Nv:j=i
 ·subst Nv;obtain⟨h1,v,h2,h3⟩:=hx d hd;refine⟨h1,v,h2,?_⟩;obtain⟨o',tB,Sc⟩:=hd;rw[ho]at tB;cases tB;rw[Jb (by omega),if_pos Sc];exact h3
 ·obtain⟨h1,v,h2,h3⟩:=xZ j ((List.mem_cons.1 hj).resolve_left Nv) d hd;refine⟨h1,v,h2,?_⟩;rw[Jb (by omega),if_neg (fun k=>Nv (G0.dst j i d hd ⟨o,ho,k⟩))];exact VR.ny (mono j ((List.mem_cons.1 hj).resolve_left Nv)) _ _ h3
theorem Fy{g:G}{w w':World}{g':G}{a:Act}{D:List Nat}{i:Nat}{o:Oper}{x:Value}{N N':Nat}(ho:c.ops[i]? =some o)(hs:a.tmps.size=c.nt)
 (free: ∀ u v,u<512->(∀ j∈D,¬ c.tA j u)->c.t0.at u=some v->u<c.nt/\VR (g.to N) w v (a.tmps.getD u undef))(mono:Bc (g.to N) w (g'.to N') w'):
 ∀ u v,u<512->(∀ j∈i::D,¬ c.tA j u)->c.t0.at u=some v->u<c.nt/\VR (g'.to N') w' v ((a.put o.dst x).tmps.getD u undef):=by
 intro u v hu hd e;obtain⟨h1,h2⟩:=free u v hu (fun j hj=>hd j (List.mem_cons_of_mem _ hj)) e;refine⟨h1,?_⟩;rw[Jb (by omega),if_neg (fun k=>hd i List.mem_cons_self ⟨o,ho,k⟩)];exact VR.ny mono _ _ h2
theorem Inv.put{g w h a D qm pl}(G0:c.ach)(I:c.Inv g w h a D qm pl){i:Nat}{o:Oper}(ho:c.ops[i]? =some o)(hi:i∉D)(hC:I' c.ops.toList (i::D))
 (hk:c.kC i .p0∨c.kC i .p1){v:AV}{x:Value}(hs:c.Slot i v)(hx:VR (g.to (max (c.bd i) h.next)) w v x):c.Inv g w h (a.put o.dst x) (i::D) qm pl:=by
 have Oa: ∀ j,c.kC j .al->j∈i::D->j∈D:=by
  intro j hj h
  refine(List.mem_cons.1 h).resolve_left fun e=>?_
  subst e
  rcases hk with hk|hk<;>cases c.rH hk hj
 exact
 {run:=I.run
  stat:=I.stat
  closed:=hC
  GQ:=fun j hj=>(I.GQ j hj).imp id (List.mem_cons_of_mem _)
  chN:=fun j hj h=>by
   rcases List.mem_cons.1 h with rfl|h
   ·have:c.kC j .ch:=by
     have key: ∀ {pl:sY} {h:Hp},c.Hb pl h-> ∀ j∈pl.GQ,c.kC j .ch:=by
      intro pl
      induction pl with
      |last pre oy=>intro h r j hj;cases hj
      |cons pre oy q rest ih=>
       intro h r j hj;obtain⟨_,h1,_,hq,v,h2,_,_,_,_,_,r⟩:=r
       rcases List.mem_cons.1 hj with rfl|hj
       ·exact hq
       ·exact ih r j hj
     exact key I.run j hj
    rcases hk with hk|hk<;>cases c.rH hk this
   ·exact I.chN j hj h
  DD:=fun j hj=>List.mem_cons_of_mem _ (I.DD j hj)
  alc:=fun j hj=>(I.alc j hj).imp id (List.mem_cons_of_mem _)
  st:=⟨I.st.hr,I.st.ext,fun j hj hD hc=>I.st.N8 j hj (Oa j hc hD) hc,fun j hj k hk jD kD jc kc=>I.st.Sa j hj k hk (Oa j jc jD) (Oa k kc kD) jc kc⟩
  dom:=fun n y e=>(I.dom n y e).imp id fun⟨j,hj,hD,r⟩=>⟨j,hj,List.mem_cons_of_mem _ hD,r⟩
  xZ:=CP G0 ho I.size I.xZ (fun j _=>HQ _ _) hi (fun d hd=>⟨(hs d hd).1,v,(hs d hd).2,hx⟩)
  free:=Fy ho I.size I.free (HQ _ _)
  size:=by rw[Fx];exact I.size
  defers:=by rw[put_defers];exact I.defers}
omit [Io] in
theorem P2: ∀ {pl:sY} {h:Hp},c.Hb pl h-> ∀ j∈pl.GQ,c.kC j .ch:=by
 intro pl
 induction pl with
 |last pre oy=>intro h r j hj;cases hj
 |cons pre oy q rest ih=>
  intro h r j hj;obtain⟨_,h1,_,hq,v,h2,_,_,_,_,_,r⟩:=r
  rcases List.mem_cons.1 hj with rfl|hj
  ·exact hq
  ·exact ih r j hj
omit [Io] in
theorem akg{pl:sY}{h:Hp}(r:c.Hb pl h):c.P1s pl.pre h:=by
 cases pl with
 |last pre oy=>exact r.1
 |cons pre oy q rest=>exact r.1
omit [Io] in
theorem acj{qm:List Nat}{pl:sY}(s:c.P1 qm pl): ∀ i,c.kC i .p1->(∃ j∈qm,c.An j i)∨(∃ j∈pl.GQ,c.An i j)∨i∈pl.pre:=by
 cases pl with
 |last pre oy=>exact fun i hi=>(s i hi).imp id .inr
 |cons pre oy q rest=>exact s.1
omit [Io] in
theorem wU{w:World}{ob:Obj}{b:Nat}:(w.alloc ob).heap[b]? =if b=w.heap.size then some ob else w.heap[b]? :=by
 show(w.heap.push _)[b]? =_;rw[Array.getElem?_push]
omit [Io] in
theorem Aj{g g':G}{w:World}{ob:Obj}(hm: ∀ id x,g.m id=some x->g'.m id=some x)(hi:g'.mM=g.mM)(hb: ∀ b,g.mM b->b<w.heap.size):Bc g w g' (w.alloc ob):=
 ⟨hm,fun b i=>by rw[hi];exact i,fun b i=>by
  have:=hb b i;rw[wU,if_neg (by omega)],fun b=>by
  unfold kP;rw[wU];by_cases h:b=w.heap.size
  ·subst h;simp
  ·rw[if_neg h];exact Nat.le_refl _⟩
theorem Ob{g g':G}{w:World}{h:Hp}{ob:Obj}{i:Nat}(hm: ∀ id x,g.m id=some x->g'.m id=some x)(hi:g'.mM=g.mM)(hb: ∀ b,g.mM b->b<w.heap.size)
 (Em:g'.to h.next=g.to h.next)(p:c.R9 g w h i):c.R9 g' (w.alloc ob) h i:=by
 rcases p with p|⟨v,cs,b,C,el,vs,h1,h2,h3,h4,h5,h6,h7,h8,h9⟩
 ·exact .inl p
 ·have nM:=(Array.getElem?_eq_some_iff.1 h4).1;refine .inr ⟨v,cs,b,C,el,vs,h1,h2,hm _ _ h3,by rw[wU,if_neg (by omega)];exact h4,by rw[hi];exact h5,by rw[Em];exact h6,h7,?_,h9⟩;refine jy.ny ?_ _ _ h8;refine Aj ?_ (by simp only[G.to];exact hi) (by simp only[G.to];exact hb);intro id x e;simp only[G.to]at e ⊢;by_cases qk:id<c.nx i
  ·rw[if_pos qk]at e ⊢;exact hm _ _ e
  ·rw[if_neg qk]at e;cases e
end Cx
end Go.Ab
