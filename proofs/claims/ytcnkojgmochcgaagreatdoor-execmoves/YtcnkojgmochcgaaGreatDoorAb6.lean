import Derived.Test.YtcnkojgmochcgaaGreatDoorAb2
import Derived.Lib.AppendZerosOnto
import Derived.Lib.AppendStr
noncomputable section
namespace Go.Ab
variable [Io]
section
variable {P:Program}{o:Oper}
omit [Io] in
theorem qd(off:Nat): ∀ (l:List Value) (k:Nat) (C:Array Value),off+k+l.length<=C.size->
 (l.zipIdx k).foldl (fun cs (p:Value×Nat)=>cs.setIfInBounds (off+p.2) p.1) C=(C.toList.take (off+k)++l++C.toList.drop (off+k+l.length)).toArray
 | [],k,C,_=>by simp
 |v::l,k,C,h=>by
  simp only[List.length_cons]at h
  rw[List.zipIdx_cons,List.foldl_cons,qd off l (k+1) _ (by simp;omega)]
  have e:=list_seg_step C.toList (off+k) v l (by simp;omega)
  congr 1
  simpa[Array.toList_setIfInBounds,Nat.add_assoc]using e
def gA(g:G)(w:World)(place:Nat->Option (Nat×Nat)):List (Nat×Nat×AV)->List (Nat×Value)->Prop
 | [],l=>l=[]
 |p::r,l=> ∃ i v l',l=(i,v)::l'/\place i=some (p.1,p.2.1)/\VR g w p.2.2 v/\gA g w place r l'
theorem tl{g w}{place:Nat->Option (Nat×Nat)}: ∀ (ps:List (Nat×Nat×AV)) (qs:List (Nat×Value)) (cs cs':List AV) (C:Array Value),
 gA g w place ps qs->bq g w cs C.toList->pW ps cs=some cs'-> ∃ C',Instr.fill place C qs=some C'/\bq g w cs' C'.toList/\C'.size=C.size
 | [],qs,cs,cs',C,h,hv,e=>by
  simp only[gA]at h
  subst h
  cases e
  exact⟨C,rfl,hv,rfl⟩
 |p::ps,qs,cs,cs',C,h,hv,e=>by
  simp only[gA]at h
  obtain⟨i,v,Y3,rfl,hp,hr,h⟩:=h
  change (bif Nat.beq (len p.2.2.cells) p.2.1&&Nat.ble (Nat.add p.1 p.2.1) (len cs)then pW ps (put cs p.1 p.2.2.cells)else none)=some cs' at e
  cases hb:(Nat.beq (len p.2.2.cells) p.2.1&&Nat.ble (Nat.add p.1 p.2.1) (len cs))with
  |false=>rw[hb]at e;cases e
  |true=>
   rw[hb]at e
   simp only[Bool.and_eq_true,bE]at hb
   have h1:=Nat.eq_of_beq_eq_true hb.1
   have h2:p.1+p.2.1<=cs.length:=Nat.ble_eq.mp hb.2
   have hc:=hr.cells
   have hl:=hc.length
   simp only[Array.length_toList]at hl
   have hC:=hv.length
   simp only[Array.length_toList]at hC
   have hn:bq g w (put cs p.1 p.2.2.cells) ((C.toList.take p.1++v.cells.toList++C.toList.drop (p.1+v.cells.toList.length)).toArray).toList:=by
    rw[put_eq]
    simp only[List.append_assoc]
    refine(hv.take _).append (hc.append ?_)
    rw[hc.length]
    exact hv.drop _
   obtain⟨C',GG,jx,hs⟩:=tl ps Y3 _ cs' _ h hn e
   refine⟨C',?_,jx,?_⟩
   ·simp only[Instr.fill,hp]
    rw[if_neg (by simp;omega)]
    rw[<-GG]
    congr 1
    have hf:=qd p.1 v.cells.toList 0 C (by simp;omega)
    simp only[Nat.add_zero]at hf
    rw[<-hf,<-Array.foldl_toList,Array.toList_zipIdx]
   ·rw[hs]
    simp
    omega
def n7(place:Nat->Option (Nat×Nat))(l:List (Nat×Operand)):Option (List (Nat×Nat×dj)):=
 List.rec (some []) (fun p _ ih=>match place p.1 with
  |some (off,size)=>match ih with
   |some r=>some ((off,size,aR p.2)::r)
   |none=>none
  |none=>none) l
theorem r5{g w nt t}{a:Act}(T:TR g w nt t a.tmps){place:Nat->Option (Nat×Nat)}: ∀ (l:List (Nat×Operand)) {ps:List (Nat×Nat×dj)} {vs:List (Nat×Nat×AV)},
 n7 place l=some ps->iS ps t=some vs->gA g w place vs (l.map fun p=>(p.1,a.eval p.2))
 | [],ps,vs,h,e=>by
  cases h
  cases e
  simp[gA]
 |p::l,ps,vs,h,e=>by
  change (match place p.1 with|some (off,size)=>(match n7 place l with|some r=>some ((off,size,aR p.2)::r)|none=>none)|none=>none)=some ps at h
  split at h
  ·rename_i off size hp
   split at h
   ·rename_i r hr
    cases h
    change (match aR p.2 t with|some v=>(match iS r t with|some vs=>some ((off,size,v)::vs)|none=>none)|none=>none)=some vs at e
    split at e
    ·rename_i v hv
     split at e
     ·rename_i us hu
      cases e
      simp only[gA,List.map_cons]
      exact⟨p.1,_,_,rfl,hp,bc p.2 _ _ _ _ _ _ T hv,r5 T l hr hu⟩
     ·cases e
    ·cases e
   ·cases h
  ·cases h
def placesOf(P:Program)(T:TypeId):Option (Nat->Option (Nat×Nat)):=
 match P.underlying T with
 |some (.struct fields)=>match fields.toList.mapM (fun f=>(P.info? f.type).map fun i=>(f.offset,i.size))with
  |some places=>some fun i=>places.toArray[i]?
  |none=>none
 |some (.array _ e)=>match P.info? e with
  |some ie=>some fun i=>some (i*ie.size,ie.size)
  |none=>none
 | _=>none
def zeroOf(P:Program)(T:TypeId):Option (List AV):=
 match P.info? T with
 |some i=>match i.zero with
  |some z=>leaves z.cells.toList
  |none=>none
 |none=>none
def qe(P:Program)(T:TypeId)(parts:List (Nat×Operand)):dg:=
 match placesOf P T with
 |some place=>match zeroOf P T with
  |some z=>match n7 place parts with
   |some ps=>an z ps
   |none=>bA
  |none=>bA
 |none=>bA
theorem eE{T:TypeId}{z:List AV}(h:zeroOf P T=some z): ∃ i zv,P.info? T=some i/\i.zero=some zv/\ ∀ g w,bq g w z zv.cells.toList:=by
 unfold zeroOf at h
 cases hi:P.info? T with
 |none=>rw[hi]at h;cases h
 |some i=>
  rw[hi]at h
  cases hz:i.zero with
  |none=>simp only[hz]at h;cases h
  |some zv=>simp only[hz]at h;exact⟨i,zv,rfl,hz,fun g w=>lj _ h g w⟩
theorem xM{T:TypeId}{parts:Array (Nat×Operand)}(ho:o.op=.build T parts):bC P o (qe P T parts.toList):=by
 intro g w nt t h a v h' H Tr e
 unfold qe at e
 cases hp:placesOf P T with
 |none=>rw[hp]at e;cases e
 |some place=>
 rw[hp]at e
 cases hz:zeroOf P T with
 |none=>simp only[hz]at e;cases e
 |some z=>
 simp only[hz]at e
 cases CM:n7 place parts.toList with
 |none=>simp only[CM]at e;cases e
 |some ps=>
 simp only[CM]at e
 unfold an at e
 split at e
 ·rename_i vs cU
  split at e
  ·rename_i cs fh
   cases e
   obtain⟨i,zv,hi,pC,hz⟩:=eE hz
   obtain⟨C',GG,jx,_⟩:=tl vs _ z cs zv.cells (r5 Tr parts.toList CM cU) (hz g w) fh
   refine⟨rfl,.agg C',?_,by simp only[VR];exact⟨_,rfl,jx⟩⟩
   have hb:P.built T ((parts.map fun p=>(p.1,a.eval p.2)).toList)=some C':=by
    unfold placesOf at hp
    unfold Program.built
    split at hp
    ·rename_i fields hu
     split at hp
     ·rename_i places Qy
      cases hp
      simp only[hi,hu,pC,Qy,Array.toList_map]
      exact GG
     ·cases hp
    ·rename_i n el hu
     split at hp
     ·rename_i ie iN
      cases hp
      simp only[hi,hu,pC,iN,Array.toList_map]
      exact GG
     ·cases hp
    ·cases hp
   have fX:=run_build (P:=P) w T _ C' hb
   simp only[execOp,ho]
   show((Instr.build T (parts.map fun p=>(p.1,a.eval p.2))>>=fun v=>(pure (.value v):Sem Next))).run P w=_
   simp only[Sem.run_bind,fX,Result.andThen_ok,Sem.run_pure]
  ·cases e
 ·cases e
def ik(P:Program)(o:Oper)(f:dg):Prop:=
 ∀ (g:G) (w:World) (nt:Nat) (t:Tm) (h:Hp) (a:Act) (v:AV) (h':Hp),HR g w h->TR g w nt t a.tmps->f t h=.ok v h'->
  ∃ g' w' nx x,(execOp a.eval o).run P w=.ok nx w'/\(nx=.value x∨(nx=.skip/\x=undef))/\Ext g w h g' w' h'/\HR g' w' h'/\VR g' w' v x
theorem bC.run{f:dg}(h:bC P o f):ik P o f:=by
 intro g w nt t hp a v h' H T e
 obtain⟨rfl,x,hx,hv⟩:=h g w nt t hp a v h' H.toHC T e
 exact⟨g,w,.value x,x,hx,.inl rfl,Ext.refl _ _ _,H,hv⟩
theorem vm{g w h}(H:HR g w h)(ob:Obj):Ext g w h g (w.alloc ob) h/\HR g (w.alloc ob) h:=by
 have hp: ∀ b,b<w.heap.size->(w.alloc ob).heap[b]? =w.heap[b]? :=by
  intro b hb
  show(w.heap.push _)[b]? =_
  rw[Array.getElem?_push,if_neg (by omega)]
 have E:Ext g w h g (w.alloc ob) h:=by
  refine⟨rfl,rfl,rfl,by simp,Nat.le_refl _,fun _ _ e=>e,fun b hb _=>hp b hb,?_,fun _ i=>i,fun _ i=>.inl i,fun _ o=>.inl o⟩
  intro b
  unfold cM
  by_cases hb:b<w.heap.size
  ·rw[hp b hb];exact Nat.le_refl _
  ·rw[Array.getElem?_eq_none (by omega)];exact Nat.zero_le _
 refine⟨E,H.fresh,?_,H.inj,fun b i=>by have:=H.cT b i;simp;omega,gz.ext H E⟩
 intro id cs e
 obtain⟨b,s,C,el,vs,hm,hw,hi,hv,hc⟩:=H.aN id cs e
 exact⟨b,s,C,el,vs,hm,by rw[hp b (Array.getElem?_eq_some_iff.1 hw).1];exact hw,hi,bq.mono H E _ _ hv,hc⟩
def jj(P:Program)(o:Oper)(f:dg):Prop:=
 ∀ (g:G) (w:World) (nt:Nat) (t:Tm) (h:Hp) (a:Act) (v:AV) (h':Hp),HC g w h->TR g w nt t a.tmps->f t h=.ok v h'->
  (h'=h/\ ∃ x C el,(execOp a.eval o).run P w=.ok (.value x) (w.alloc (.cells C el))/\ ∀ g' w',VR g' w' v x)∨
  (∃ cs C el vs x,h'=cx h cs/\(execOp a.eval o).run P w=.ok (.value x) (w.alloc (.cells C el))/\bq g w cs.toL vs/\(∀ (j:Nat) (v:Value),vs[j]? =some v->C[j]? =some v)/\
   ∀ g' w',g'.m h.next=some (w.heap.size,0)->C.size<=cM w' w.heap.size->VR g' w' v x)
omit [Io] in
theorem lY(w:World)(C:Array Value)(el:TypeId):cM (w.alloc (.cells C el)) w.heap.size=C.size:=by
 have:(w.alloc (.cells C el)).heap[w.heap.size]? =some (.cells C el):=by
  show(w.heap.push _)[w.heap.size]? =_
  simp
 exact fp this
theorem jj.run{f:dg}(h:jj P o f):ik P o f:=by
 intro g w nt t hp a v h' H T e
 rcases h g w nt t hp a v h' H.toHC T e with⟨rfl,x,C,el,hr,hv⟩|⟨cs,C,el,vs,x,rfl,hr,cU,hc,hv⟩
 ·obtain⟨E,H'⟩:=vm H (.cells C el)
  exact⟨g,_,.value x,x,hr,.inl rfl,E,H',hv _ _⟩
 ·obtain⟨E,H'⟩:=pz H (C:=C) el cU hc
  exact⟨_,_,.value x,x,hr,.inl rfl,E,H',hv _ _ (by simp[G.add]) (by rw[lY];exact Nat.le_refl _)⟩
theorem CN{g:G}{w:World}{id b:Nat}(hm:g.m id=some (b,0)):VR g w (.ref id 0) (.pointer (some ⟨b,0,none⟩)):=by
 simp only[VR]
 exact⟨b,0,hm,rfl⟩
theorem CO{g:G}{w:World}{id b n c sz m:Nat}(hm:g.m id=some (b,0))(hn:n<=c)(hc:c*sz<=m)(hr:m<=cM w b):VR g w (.cR id 0 n sz) (.slice (some ⟨b,0,none⟩) n c):=by
 simp only[VR]
 exact .inr ⟨b,0,c,hm,rfl,hn,by omega⟩
theorem CP{g:G}{w:World}{b:Addr}:VR g w .iQ (.slice (some b) 0 0):=by
 simp only[VR]
 exact⟨_,rfl⟩
theorem CQ{T:TypeId}{z:List AV}(ho:o.op=.alloc T)(hz:zeroOf P T=some z):jj P o (bX z):=by
 intro g w nt t h a v h' H Tr e
 cases e
 obtain⟨i,zv,hi,pC,hz⟩:=eE hz
 refine .inr ⟨pw z,zv.cells,T,zv.cells.toList,.pointer (some ⟨w.heap.size,0,none⟩),rfl,?_,by rw[eQ];exact hz g w,fun j v e=>by simpa using e,fun g' w' hm _=>CN hm⟩
 simp[execOp,ho,Instr.alloc,zeroValue,typeInfo,hi,pC,newVar,newRow]
theorem CR{T:TypeId}{x:Operand}(ho:o.op=.box T x):jj P o (cb (aR x)):=by
 intro g w nt t h a v h' H Tr e
 unfold cb at e
 split at e
 ·rename_i av hx
  cases e
  have hv:=bc x _ _ _ _ _ _ Tr hx
  refine .inr ⟨_,(a.eval x).cells,T,_,.pointer (some ⟨w.heap.size,0,none⟩),rfl,?_,by rw[eQ];exact hv.cells,fun j v e=>by simpa using e,fun g' w' hm _=>CN hm⟩
  simp[execOp,ho,Instr.box,newVar,newRow]
 ·cases e
end
end Go.Ab

noncomputable section
namespace Go.Ab
variable [Io]
section
variable {P:Program}{o:Oper}
omit [Io] in
theorem r6(z:List Value): ∀ c:Nat,(List.range (c*z.length)).map (fun j=>z.toArray[j % z.length]!)=(List.replicate c z).flatten
 |0=>by simp
 |c+1=>by
  rw[Nat.succ_mul,Nat.add_comm,List.range_add,List.map_append,List.replicate_succ,List.flatten_cons,<-r6 z c,List.map_map]
  congr 1
  ·apply List.ext_getElem?
   intro j
   by_cases hj:j<z.length
   ·have:j % z.length=j:=Nat.mod_eq_of_lt hj
    simp[hj,this]
   ·rw[List.getElem?_eq_none (by simp;omega),List.getElem?_eq_none (by omega)]
  ·apply List.map_congr_left
   intro j _
   simp[Function.comp]
omit [Io] in
theorem kv(z:Array Value)(c:Nat):((Array.range (c*z.size)).map (fun j=>z[j % z.size]!)).toList=(List.replicate c z.toList).flatten:=by
 rw[Array.toList_map,Array.toList_range]
 exact r6 z.toList c
def gB(g:G)(w:World):List (Nat×AV)->List (Nat×Value)->Prop
 | [],l=>l=[]
 |p::r,l=> ∃ v l',l=(p.1,v)::l'/\VR g w p.2 v/\gB g w r l'
theorem vn{g w size}: ∀ (ps:List (Nat×AV)) (i:Nat) (r:List AV) (qs:List (Nat×Value)) (C:Array Value),mG size ps i=some r->gB g w ps qs->
 (i+ps.length)*size<=C.size-> ∃ C' us,Instr.fill (fun i=>some (i*size,size)) C qs=some C'/\bq g w r us/\us.length=ps.length*size/\
  C'.toList=C.toList.take (i*size)++us++C.toList.drop ((i+ps.length)*size)
 | [],i,r,qs,C,e,h,hC=>by
  simp only[gB]at h
  subst h
  cases e
  exact⟨C,[],rfl,by simp[bq],by simp,by simp⟩
 |p::ps,i,r,qs,C,e,h,hC=>by
  simp only[gB]at h
  obtain⟨v,Y3,rfl,hr,h⟩:=h
  change (bif Nat.beq p.1 i&&Nat.beq (len p.2.cells) size then(match mG size ps (Nat.add i 1)with|some r=>some (app p.2.cells r)|none=>none)else none)=some r at e
  cases hb:(Nat.beq p.1 i&&Nat.beq (len p.2.cells) size)with
  |false=>rw[hb]at e;cases e
  |true=>
   rw[hb]at e
   simp only[Bool.and_eq_true,bE]at hb
   have h1:=Nat.eq_of_beq_eq_true hb.1
   have h2:=Nat.eq_of_beq_eq_true hb.2
   change (match mG size ps (i+1)with|some r=>some (app p.2.cells r)|none=>none)=some r at e
   split at e
   ·rename_i r' Re
    cases e
    have hc:=hr.cells
    have hl:=hc.length
    rw[h2]at hl
    have e1:(i+(ps.length+1))*size=i*size+size+ps.length*size:=by rw[Nat.add_mul,Nat.add_mul];omega
    have Y4:i*size+size+ps.length*size<=C.size:=by rw[List.length_cons,e1]at hC;exact hC
    have Y5:v.cells.size=size:=by simpa using hl
    have hf:=qd (i*size) v.cells.toList 0 C (by rw[hl];omega)
    simp only[Nat.add_zero,hl]at hf
    have lx:(C.toList.take (i*size)++v.cells.toList++C.toList.drop (i*size+size)).toArray.size=C.size:=by
     simp;omega
    obtain⟨C',us,GG,uN,hlen,xN⟩:=vn ps (i+1) r' Y3 (C.toList.take (i*size)++v.cells.toList++C.toList.drop (i*size+size)).toArray Re h (by
     rw[lx,show(i+1+ps.length)*size=i*size+size+ps.length*size from by rw[Nat.add_mul,Nat.add_mul];omega];exact Y4)
    refine⟨C',v.cells.toList++us,?_,?_,?_,?_⟩
    ·rw[h1]
     simp only[Instr.fill]
     rw[if_neg (by simp[Y5];omega)]
     rw[<-GG,<-hf,<-Array.foldl_toList,Array.toList_zipIdx]
    ·rw[bQ];exact hc.append uN
    ·rw[List.length_append,hl,hlen,List.length_cons,Nat.succ_mul];omega
    ·rw[xN]
     simp only[List.append_assoc]
     have d1:(i+1)*size=i*size+size:=by rw[Nat.add_mul];omega
     rw[d1,show(i+1+ps.length)*size=i*size+size+ps.length*size from by rw[Nat.add_mul,Nat.add_mul];omega,List.length_cons,e1]
     have t1:(C.toList.take (i*size)).length=i*size:=by simp;omega
     have:(C.toList.take (i*size)++(v.cells.toList++C.toList.drop (i*size+size)))=(C.toList.take (i*size)++v.cells.toList)++C.toList.drop (i*size+size):=by simp
     rw[this]
     have t2:(C.toList.take (i*size)++v.cells.toList).length=i*size+size:=by rw[List.length_append,t1,hl]
     rw[List.take_append_of_le_length (by omega),List.take_of_length_le (by omega)]
     rw[List.drop_append,List.drop_eq_nil_of_le (by omega),t2,List.drop_drop,List.nil_append,List.append_assoc]
     congr 4
     omega
   ·cases e
def jE(l:List (Nat×Operand)):List (Nat×dj):=l.map fun p=>(p.1,aR p.2)
theorem r7{g w nt t}{a:Act}(T:TR g w nt t a.tmps): ∀ (l:List (Nat×Operand)) {vs:List (Nat×AV)},iR (jE l) t=some vs->gB g w vs (l.map fun p=>(p.1,a.eval p.2))
 | [],vs,e=>by cases e;simp[gB]
 |p::l,vs,e=>by
  change (match aR p.2 t with|some v=>(match iR (jE l) t with|some vs=>some ((p.1,v)::vs)|none=>none)|none=>none)=some vs at e
  split at e
  ·rename_i v hv
   split at e
   ·rename_i us hu
    cases e
    simp only[gB,List.map_cons]
    exact⟨_,_,rfl,bc p.2 _ _ _ _ _ _ T hv,r7 T l hu⟩
   ·cases e
  ·cases e
theorem mQ{g w size}: ∀ {ps:List (Nat×AV)} {qs:List (Nat×Value)},gB g w ps qs->gA g w (fun i=>some (i*size,size)) (scale size ps) qs
 | [],qs,h=>by simp only[gB]at h;subst h;show gA g w _ [] [];simp[gA]
 |p::ps,qs,h=>by
  simp only[gB]at h
  obtain⟨v,l',rfl,hv,h⟩:=h
  show gA g w _ ((Nat.mul p.1 size,size,p.2)::scale size ps) _
  simp only[gA]
  exact⟨p.1,v,l',rfl,rfl,hv,mQ h⟩
theorem xO{g w n size}{z:List AV}{zv:List Value}{ps:List (Nat×AV)}{qs:List (Nat×Value)}{cs:List AV}(C:Array Value)(h:gB g w ps qs)
 (hz:bq g w (dM n z) C.toList)(hC:C.size=n*size)(e:la n size z ps=some cs)(_:zv=zv):
 ∃ C',Instr.fill (fun i=>some (i*size,size)) C qs=some C'/\bq g w cs C'.toList/\C'.size=C.size:=by
 unfold la at e
 split at e
 ·rename_i cs' fh
  cases e
  cases hb:Nat.beq (len ps) n with
  |false=>rw[hb]at fh;cases fh
  |true=>
   rw[hb]at fh
   rw[bE]at hb
   have hl:=Nat.eq_of_beq_eq_true hb
   obtain⟨C',us,GG,uN,hlen,xN⟩:=vn ps 0 _ qs C fh h (by rw[hC,Nat.zero_add,hl];exact Nat.le_refl _)
   have ht:C'.toList=us:=by
    rw[xN]
    simp only[Nat.zero_mul,List.take_zero,List.nil_append,Nat.zero_add]
    rw[List.drop_eq_nil_of_le (by rw[hl,<-hC];simp),List.append_nil]
   refine⟨C',GG,by rw[ht];exact uN,?_⟩
   have:C'.toList.length=C'.size:=by simp
   rw[<-this,ht,hlen,hl,hC]
 ·exact tl _ _ _ _ C (mQ h) hz e
def CS(P:Program)(T:TypeId)(n:Nat)(parts:List (Nat×Operand)):dg:=
 match P.underlying T with
 |some (.slice e)=>match P.info? e with
  |some ie=>match zeroOf P e with
   |some z=>ej (Nat.beq (len z) ie.size&&(Nat.ble (Nat.mul n ie.size) 16777216&&Nat.blt 0 ie.size)) (bf n ie.size z (jE parts)) bA
   |none=>bA
  |none=>bA
 | _=>bA
theorem CT{T:TypeId}{n:Nat}{parts:Array (Nat×Operand)}(ho:o.op=.buildSlice T n parts):jj P o (CS P T n parts.toList):=by
 intro g w nt t h a v h' H Tr e
 unfold CS at e
 cases hu:P.underlying T with
 |none=>rw[hu]at e;cases e
 |some d=>
 rw[hu]at e
 cases d<;>try (cases e;done)
 rename_i el
 simp only at e
 cases iN:P.info? el with
 |none=>rw[iN]at e;cases e
 |some ie=>
 rw[iN]at e
 cases hz:zeroOf P el with
 |none=>simp only[hz]at e;cases e
 |some z=>
 simp only[hz]at e
 cases hb:(Nat.beq (len z) ie.size&&(Nat.ble (Nat.mul n ie.size) 16777216&&Nat.blt 0 ie.size))with
 |false=>rw[hb]at e;cases e
 |true=>
 rw[hb]at e
 simp only[Bool.and_eq_true,bE]at hb
 have Rf:=Nat.eq_of_beq_eq_true hb.1
 have hsm:n*ie.size<=16777216:=Nat.ble_eq.mp hb.2.1
 have h0:0<ie.size:=bh.1 hb.2.2
 obtain⟨i,zv,hi,pC,za⟩:=eE hz
 obtain rfl:ie=i:=by rw[iN]at hi;exact Option.some.inj hi
 change bf n ie.size z (jE parts.toList) t h=.ok v h' at e
 unfold bf at e
 split at e
 ·rename_i vs cU
  have CM:=r7 Tr parts.toList cU
  have mR:zv.cells.size=ie.size:=by
   have:=(za g w).length
   simp only[Array.length_toList]at this
   omega
  cases hn:Nat.beq n 0 with
  |true=>
   rw[hn]at e
   obtain rfl:=Nat.eq_of_beq_eq_true hn
   cases vs with
   |cons _ _=>cases e
   |nil=>
    cases e
    simp only[gB,List.map_eq_nil_iff,Array.toList_eq_nil_iff]at CM
    subst CM
    refine .inl ⟨rfl,.slice (some ⟨w.heap.size,0,none⟩) 0 0,#[],el,?_,fun _ _=>CP⟩
    ·simp[execOp,ho,Instr.buildSlice,run_underlying hu,sizeOf,typeInfo,iN,Instr.fill,newRow,Array.range_zero']
  |false=>
   rw[hn]at e
   have Ln:n≠0:=fun k=>by subst k;cases hn
   have Y6:n*ie.size≠0:=Nat.mul_ne_zero Ln (by omega)
   simp only[cond_false]at e
   split at e
   ·rename_i cs fh
    cases e
    have CU:bq g w (dM n z) ((Array.range (n*ie.size)).map (fun j=>zv.cells[j % zv.cells.size]!)).toList:=by
     rw[<-mR,kv]
     exact(za g w).repeat n
    obtain⟨C',GG,jx,hs⟩:=xO (zv:=[]) _ CM CU (by simp) fh rfl
    refine .inr ⟨pw cs,C',el,C'.toList,.slice (some ⟨w.heap.size,0,none⟩) n n,rfl,?_,by rw[eQ];exact jx,fun j v e=>by simpa using e,
     fun g' w' hm hr=>CO hm (Nat.le_refl _) (by rw[hs];simp) hr⟩
    have Y7: ¬ 16777216<n*ie.size:=by omega
    simp only[execOp,ho]
    show((Instr.buildSlice T n (parts.map fun p=>(p.1,a.eval p.2))>>=fun v=>(pure (.value v):Sem Next))).run P w=_
    simp[Instr.buildSlice,run_underlying hu,sizeOf,typeInfo,iN,zeroValue,pC,Y7,Y6,GG,newRow]
   ·cases e
 ·cases e
def vo(P:Program)(T:TypeId)(l c:Operand):dg:=
 match P.underlying T with
 |some (.slice e)=>match P.info? e with
  |some ie=>match zeroOf P e with
   |some z=>ej (Nat.beq (len z) ie.size&&Nat.blt 0 ie.bytes) (jf ie.size ie.bytes z (aR l) (aR c)) bA
   |none=>bA
  |none=>bA
 | _=>bA
theorem Bc{T:TypeId}{l c:Operand}(ho:o.op=.makeSlice T l c):jj P o (vo P T l c):=by
 intro g w nt t h a v h' H Tr e
 unfold vo at e
 cases hu:P.underlying T with
 |none=>rw[hu]at e;cases e
 |some d=>
 rw[hu]at e
 cases d<;>try (cases e;done)
 rename_i el
 simp only at e
 cases iN:P.info? el with
 |none=>rw[iN]at e;cases e
 |some ie=>
 rw[iN]at e
 cases hz:zeroOf P el with
 |none=>simp only[hz]at e;cases e
 |some z=>
 simp only[hz]at e
 cases hb:(Nat.beq (len z) ie.size&&Nat.blt 0 ie.bytes)with
 |false=>rw[hb]at e;cases e
 |true=>
 rw[hb]at e
 simp only[Bool.and_eq_true,bE]at hb
 have Rf:=Nat.eq_of_beq_eq_true hb.1
 have h0:0<ie.bytes:=bh.1 hb.2
 obtain⟨i,zv,hi,pC,za⟩:=eE hz
 obtain rfl:ie=i:=by rw[iN]at hi;exact Option.some.inj hi
 have mR:zv.cells.size=ie.size:=by
  have:=(za g w).length
  simp only[Array.length_toList]at this
  omega
 change jf ie.size ie.bytes z (aR l) (aR c) t h=.ok v h' at e
 unfold jf at e
 split at e
 ·rename_i kl ln hl
  split at e
  ·rename_i kc cn hc
   have Yc:=bc l _ _ _ _ _ _ Tr hl
   have hvc:=bc c _ _ _ _ _ _ Tr hc
   simp only[VR]at Yc hvc
   cases hle:(Nat.ble ln cn&&Nat.ble (Nat.mul cn ie.bytes) 70368744177664)with
   |false=>rw[hle]at e;cases e
   |true=>
    rw[hle]at e
    simp only[Bool.and_eq_true]at hle
    have h1:ln<=cn:=Nat.ble_eq.mp hle.1
    have h2:cn*ie.bytes<=70368744177664:=Nat.ble_eq.mp hle.2
    have h3:cn<=cn*ie.bytes:=Nat.le_mul_of_pos_right _ h0
    have hr:=run_make (P:=P) w T el ie zv hu iN pC kl kc (Int.ofNat ln) (Int.ofNat cn) (Int.natCast_nonneg ln) (by show((ln:Nat):Int)<=(cn:Nat);omega) (by
     show((ie.bytes:Nat):Int)*((cn:Nat):Int)<=_
     rw[<-Int.natCast_mul,Nat.mul_comm];omega) (by show((cn:Nat):Int)<=_;omega)
    have hex:(execOp a.eval o).run P w=.ok (.value (.slice (some ⟨w.heap.size,0,none⟩) ln cn)) (w.alloc (.cells (madeCells zv.cells (cn*ie.size)) el)):=by
     simp only[execOp,ho,Yc,hvc,Sem.run_bind,hr,Result.andThen_ok,Sem.run_pure]
     rfl
    cases MI:Nat.beq cn 0 with
    |true=>
     rw[MI]at e
     cases e
     obtain rfl:=Nat.eq_of_beq_eq_true MI
     obtain rfl:ln=0:=by omega
     exact .inl ⟨rfl,_,_,_,hex,fun _ _=>CP⟩
    |false=>
     rw[MI]at e
     cases e
     have CU:bq g w (dM cn z) (madeCells zv.cells (cn*ie.size)).toList:=by
      unfold madeCells
      rw[<-mR,kv]
      exact(za g w).repeat cn
     exact .inr ⟨_,_,_,_,_,rfl,hex,by rw[y0];exact CU,fun j v e=>by simpa using e,fun g' w' hm hr=>CO hm h1 (by rw[size_madeCells];exact Nat.le_refl _) hr⟩
  ·cases e
 ·cases e
end
end Go.Ab

noncomputable section
namespace Go.Ab
variable [Io]
section
variable {P:Program}{o:Oper}
theorem vp{g w h}(H:HR g w h):Ext g w h g w.drew h/\HR g w.drew h:=by
 have E:Ext g w h g w.drew h:=
  ⟨rfl,rfl,rfl,Nat.le_refl _,Nat.le_refl _,fun _ _ e=>e,fun _ _ _=>rfl,fun _=>Nat.le_refl _,fun _ i=>i,fun _ i=>.inl i,fun _ o=>.inl o⟩
 refine⟨E,H.fresh,?_,H.inj,H.cT,gz.ext H E⟩
 intro id cs e
 obtain⟨b,s,C,el,vs,hm,hw,hi,hv,hc⟩:=H.aN id cs e
 exact⟨b,s,C,el,vs,hm,hw,hi,bq.mono H E _ _ hv,hc⟩
theorem CV{g w h}(H:HR g w h)(id:Nat):Ext g w h g w (eN h id none)/\HR g w (eN h id none):=by
 have hg: ∀ i,(eN h id none).aN.get i=if i=id then none else h.aN.get i:=fun i=>Tr.eO _ _ _ _
 have E:Ext g w h g w (eN h id none):=by
  refine⟨rfl,rfl,rfl,Nat.le_refl _,Nat.le_refl _,fun _ _ e=>e,fun _ _ _=>rfl,fun _=>Nat.le_refl _,fun _ i=>i,fun _ i=>.inl i,?_⟩
  rintro b ⟨i,cs,s,e,m⟩
  rw[hg]at e
  by_cases hi:i=id
  ·rw[if_pos hi]at e;cases e
  ·rw[if_neg hi]at e
   exact .inl ⟨i,cs,s,e,m⟩
 refine⟨E,H.fresh,?_,?_,H.cT,gz.ext H E⟩
 ·intro i cs e
  rw[hg]at e
  by_cases hi:i=id
  ·rw[if_pos hi]at e;cases e
  ·rw[if_neg hi]at e
   obtain⟨b,s,C,el,vs,hm,hw,hi,hv,hc⟩:=H.aN i cs e
   exact⟨b,s,C,el,vs,hm,hw,hi,bq.mono H E _ _ hv,hc⟩
 ·intro i i' b s s' c1 c2 e1 e2
  rw[hg]at e1 e2
  by_cases h1:i=id
  ·rw[if_pos h1]at e1;cases e1
  ·by_cases h2:i'=id
   ·rw[if_pos h2]at e2;cases e2
   ·rw[if_neg h1]at e1
    rw[if_neg h2]at e2
    exact H.inj i i' b s s' c1 c2 e1 e2
omit [Io] in
theorem db(P:Program)(g o:Nat)(t:TypeId)(fz:Nat×Nat): ∀ (vs:List Value) (i:Nat) (cur:Array Value) (w:World),w.heap[g]? =some (.cells cur t fz)->(∀ i,i<cur.size-> ¬ (fz.1<=i/\i<fz.2))->
 o+i+vs.length<=cur.size->(∀ v∈vs,v.oneCell'=true)->
 (storeCells ⟨g,o,none⟩ vs i).run P w=.ok () (w.setRow g (cur.toList.take (o+i)++vs++cur.toList.drop (o+i+vs.length)).toArray)
 | [],i,cur,w,hg,_,_,_=>by
  simp only[storeCells,List.append_nil,List.length_nil,Nat.add_zero,List.take_append_drop,Array.toArray_toList]
  rw[setRow_self w g cur t fz hg]
  rfl
 |v::rest,i,cur,w,hg,Qz,hl,h1=>by
  have hi:o+i<cur.size:=by simp at hl;omega
  have Y8:(⟨g,o,none⟩:Addr).add i=⟨g,o+i,none⟩:=by unfold Addr.add;split<;>simp_all
  have Rg:w.cell? ⟨g,o+i,none⟩=some cur[o+i]:=by simp[World.cell?,hg,hi]
  have Y9:w.frozen? ⟨g,o+i,none⟩=false:=by
   have:=Qz (o+i) hi
   obtain⟨lo,nT⟩:=fz
   simp only[World.frozen?,hg]
   simp only at this
   rw[Bool.eq_false_iff]
   intro h
   simp only[Bool.and_eq_true,decide_eq_true_eq]at h
   exact this h
  have oM:(store ((⟨g,o,none⟩:Addr).add i) v).run P w=.ok () (w.setRow g (cur.setIfInBounds (o+i) v)):=by
   rw[Y8,run_store P w _ v _ (h1 v (by simp)),Rg]
   simp[Y9,setCell_eq_setRow w g (o+i) cur t fz v hg]
  have ih:=db P g o t fz rest (i+1) (cur.setIfInBounds (o+i) v) (w.setRow g (cur.setIfInBounds (o+i) v)) (setRow_heap w g cur _ t _ hg) (by simpa using Qz) (by simp at hl ⊢;omega) (fun x hx=>h1 x (by simp[hx]))
  simp only[storeCells,Sem.run_bind,oM,Result.andThen_ok,ih,setRow_setRow]
  congr 3
  have e:=list_seg_step cur.toList (o+i) v rest (by simp at hl ⊢;omega)
  simpa[Array.toList_setIfInBounds,Nat.add_assoc]using e
omit [Io] in
theorem dX{w:World}{b:Nat}{C C':Array Value}{el:TypeId}{fz:Nat×Nat}(hw:w.heap[b]? =some (.cells C el fz))(k:Nat):
 (w.setRow b C').heap[k]? =if k=b then some (.cells C' el fz)else w.heap[k]? :=by
 by_cases hk:k=b
 ·subst hk;rw[if_pos rfl];exact setRow_heap w k C C' el fz hw
 ·rw[if_neg hk];exact setRow_other w b k C' hk
theorem Bd{g w h}(H:HR g w h){id b s s':Nat}{cs cs':Rw}{C C':Array Value}{el:FT C}{us:List Value}(he:h.aN.get id=some cs)(hm:g.m id=some (b,s))
 (hw:w.heap[b]? =some (.cells C el.el el.fz))(hs:C'.size=C.size)(hv:bq g w cs'.toL us)(hc: ∀ (j:Nat) (v:Value),us[j]? =some v->C'[s'+j]? =some v):
 Ext g w h ⟨fun i=>if i=h.next then some (b,s')else g.m i,g.cT⟩ (w.setRow b C') (cx (eN h id none) cs')/\
  HR ⟨fun i=>if i=h.next then some (b,s')else g.m i,g.cT⟩ (w.setRow b C') (cx (eN h id none) cs'):=by
 have CW:eT g h b:=⟨id,cs,s,he,hm⟩
 have hg: ∀ i,(cx (eN h id none) cs').aN.get i=if i=h.next then some cs' else if i=id then none else h.aN.get i:=by
  intro i
  show((h.aN.set id none).set h.next (some cs')).get i=_
  rw[Tr.eO,Tr.eO]
 have kj: ∀ i x,g.m i=some x->i≠h.next:=by
  intro i x e hi
  rw[H.fresh i (by omega)]at e;cases e
 have E:Ext g w h ⟨fun i=>if i=h.next then some (b,s')else g.m i,g.cT⟩ (w.setRow b C') (cx (eN h id none) cs'):=by
  refine⟨rfl,rfl,rfl,by simp,Nat.le_succ _,?_,?_,?_,fun _ i=>i,fun _ i=>.inl i,?_⟩
  ·intro i x e
   simp only[if_neg (kj i x e)]
   exact e
  ·intro k _ ho
   rw[dX hw,if_neg]
   rintro rfl
   exact ho CW
  ·intro k
   unfold cM
   rw[dX hw]
   by_cases hk:k=b
   ·subst hk;simp[hw,hs]
   ·rw[if_neg hk];exact Nat.le_refl _
  ·rintro k ⟨i,c,q,e,m⟩
   rw[hg]at e
   by_cases hi:i=h.next
   ·simp only[if_pos hi]at m
    obtain⟨rfl,_⟩:=Prod.mk.inj (Option.some.inj m)
    exact .inl CW
   ·rw[if_neg hi]at e
    simp only[if_neg hi]at m
    by_cases h2:i=id
    ·rw[if_pos h2]at e;cases e
    ·rw[if_neg h2]at e
     exact .inl ⟨i,c,q,e,m⟩
 refine⟨E,?_,?_,?_,?_,gz.ext H E⟩
 ·intro i hi
  have nT:h.next+1<=i:=hi
  simp only
  rw[if_neg (by omega)]
  exact H.fresh i (by omega)
 ·intro i c e
  rw[hg]at e
  by_cases hi:i=h.next
  ·rw[if_pos hi]at e
   cases e
   exact⟨b,s',C',el.to hs,us,by simp[hi],by rw[dX hw,if_pos rfl];rfl,fun k=>H.gX k CW,bq.mono H E _ _ hv,hc⟩
  ·rw[if_neg hi]at e
   by_cases h2:i=id
   ·rw[if_pos h2]at e;cases e
   ·rw[if_neg h2]at e
    obtain⟨b2,s2,C2,MJ,CX,Be,CY,CL,Lo,GH⟩:=H.aN i c e
    have uO:b2≠b:=by
     rintro rfl
     exact h2 (H.inj i id b2 s2 s c cs e he Be hm)
    exact⟨b2,s2,C2,MJ,CX,by simp only[if_neg hi];exact Be,by rw[dX hw,if_neg uO];exact CY,CL,bq.mono H E _ _ Lo,GH⟩
 ·intro i i' k q q' c1 c2 e1 e2 m1 m2
  rw[hg]at e1 e2
  have j2: ∀ i c q,i≠h.next->(if i=id then none else h.aN.get i)=some c->g.m i=some (b,q)->False:=by
   intro i c q _ e m
   by_cases h2:i=id
   ·rw[if_pos h2]at e;cases e
   ·rw[if_neg h2]at e
    exact h2 (H.inj i id b q s c cs e he m hm)
  by_cases h1:i=h.next<;>by_cases h2:i'=h.next
  ·exact h1.trans h2.symm
  ·rw[if_neg h2]at e2
   simp only[if_pos h1]at m1
   simp only[if_neg h2]at m2
   obtain⟨rfl,_⟩:=Prod.mk.inj (Option.some.inj m1)
   exact(j2 i' _ _ h2 e2 m2).elim
  ·rw[if_neg h1]at e1
   simp only[if_neg h1]at m1
   simp only[if_pos h2]at m2
   obtain⟨rfl,_⟩:=Prod.mk.inj (Option.some.inj m2)
   exact(j2 i _ _ h1 e1 m1).elim
  ·rw[if_neg h1]at e1
   rw[if_neg h2]at e2
   simp only[if_neg h1]at m1
   simp only[if_neg h2]at m2
   by_cases k1:i=id
   ·rw[if_pos k1]at e1;cases e1
   ·by_cases k2:i'=id
    ·rw[if_pos k2]at e2;cases e2
    ·rw[if_neg k1]at e1
     rw[if_neg k2]at e2
     exact H.inj i i' k q q' c1 c2 e1 e2 m1 m2
 ·intro k i
  have:=H.cT k i
  simp
  omega
theorem CZ{g w h}(H:HR g w h){w':World}{id b s:Nat}{cs:Rw}{C:Array Value}{el el':FT C}(he:h.aN.get id=some cs)(hm:g.m id=some (b,s))
 (hw:w.heap[b]? =some (.cells C el.el el.fz))(h1:w'.os=w.os)(h2:w'.tape=w.tape)(h3:w'.output=w.output)(h4:w'.heap.size=w.heap.size)
 (hp: ∀ k,w'.heap[k]? =if k=b then some (.cells C el'.el el'.fz)else w.heap[k]?):Ext g w h g w' h/\HR g w' h:=by
 have CW:eT g h b:=⟨id,cs,s,he,hm⟩
 have E:Ext g w h g w' h:=by
  refine⟨h1,h2,h3,by omega,Nat.le_refl _,fun _ _ e=>e,?_,?_,fun _ i=>i,fun _ i=>.inl i,fun _ o=>.inl o⟩
  ·intro k _ ho
   rw[hp,if_neg]
   rintro rfl
   exact ho CW
  ·intro k
   unfold cM
   rw[hp]
   by_cases hk:k=b
   ·subst hk;simp[hw]
   ·rw[if_neg hk];exact Nat.le_refl _
 refine⟨E,H.fresh,?_,H.inj,?_,gz.ext H E⟩
 ·intro i c e
  obtain⟨b2,s2,C2,MJ,CX,Be,CY,CL,Lo,GH⟩:=H.aN i c e
  by_cases uO:b2=b
  ·subst uO
   rw[hw]at CY
   injection CY with CY
   injection CY with e1 e2 e3
   subst e1
   exact⟨b2,s2,C,el',CX,Be,by rw[hp,if_pos rfl],CL,bq.mono H E _ _ Lo,GH⟩
  ·exact⟨b2,s2,C2,MJ,CX,Be,by rw[hp,if_neg uO];exact CY,CL,bq.mono H E _ _ Lo,GH⟩
 ·intro k i
  have:=H.cT k i
  omega
theorem n8{g w h}(H:HR g w h){id b s:Nat}{cs cs':Rw}{C C':Array Value}{el:FT C}{us:List Value}(he:h.aN.get id=some cs)(hm:g.m id=some (b,s))
 (hw:w.heap[b]? =some (.cells C el.el el.fz))(hs:C'.size=C.size)(hv:bq g w cs'.toL us)(hc: ∀ (j:Nat) (v:Value),us[j]? =some v->C'[s+j]? =some v):
 Ext g w h g (w.setRow b C') (eN h id (some cs'))/\HR g (w.setRow b C') (eN h id (some cs')):=by
 have CW:eT g h b:=⟨id,cs,s,he,hm⟩
 have hg: ∀ i,(eN h id (some cs')).aN.get i=if i=id then some cs' else h.aN.get i:=fun i=>Tr.eO _ _ _ _
 have live: ∀ i c,(if i=id then some cs' else h.aN.get i)=some c-> ∃ c',h.aN.get i=some c':=by
  intro i c e
  by_cases hi:i=id
  ·exact⟨cs,by rw[hi];exact he⟩
  ·rw[if_neg hi]at e;exact⟨c,e⟩
 have E:Ext g w h g (w.setRow b C') (eN h id (some cs')):=by
  refine⟨rfl,rfl,rfl,by simp,Nat.le_refl _,fun _ _ e=>e,?_,?_,fun _ i=>i,fun _ i=>.inl i,?_⟩
  ·intro k _ ho
   rw[dX hw,if_neg]
   rintro rfl
   exact ho CW
  ·intro k
   unfold cM
   rw[dX hw]
   by_cases hk:k=b
   ·subst hk;simp[hw,hs]
   ·rw[if_neg hk];exact Nat.le_refl _
  ·rintro k ⟨i,c,q,e,m⟩
   rw[hg]at e
   obtain⟨c',e'⟩:=live i c e
   exact .inl ⟨i,c',q,e',m⟩
 refine⟨E,H.fresh,?_,?_,?_,gz.ext H E⟩
 ·intro i c e
  rw[hg]at e
  by_cases hi:i=id
  ·rw[if_pos hi]at e
   cases e
   exact⟨b,s,C',el.to hs,us,by rw[hi];exact hm,by rw[dX hw,if_pos rfl];rfl,fun k=>H.gX k CW,bq.mono H E _ _ hv,hc⟩
  ·rw[if_neg hi]at e
   obtain⟨b2,s2,C2,MJ,CX,Be,CY,CL,Lo,GH⟩:=H.aN i c e
   have uO:b2≠b:=by
    rintro rfl
    exact hi (H.inj i id b2 s2 s c cs e he Be hm)
   exact⟨b2,s2,C2,MJ,CX,Be,by rw[dX hw,if_neg uO];exact CY,CL,bq.mono H E _ _ Lo,GH⟩
 ·intro i i' k q q' c1 c2 e1 e2 m1 m2
  rw[hg]at e1 e2
  obtain⟨c1',HH⟩:=live i c1 e1
  obtain⟨c2',Yd⟩:=live i' c2 e2
  exact H.inj i i' k q q' c1' c2' HH Yd m1 m2
 ·intro k i
  have:=H.cT k i
  simp
  omega
omit [Io] in
theorem tp{C:Array Value}{s off:Nat}{us ns:List Value}(hc: ∀ (j:Nat) (v:Value),us[j]? =some v->C[s+j]? =some v)(h:s+off+ns.length<=C.size):
 ∀ (j:Nat) (v:Value),(us.take off++(ns++us.drop (off+ns.length)))[j]? =some v->
  off<=us.length->(C.toList.take (s+off)++ns++C.toList.drop (s+off+ns.length)).toArray[s+j]? =some v:=by
 intro j v e ho
 have hu:(us.take off).length=off:=by simp;omega
 have hC:(C.toList.take (s+off)).length=s+off:=by simp;omega
 rw[List.getElem?_toArray,List.append_assoc]
 by_cases h1:j<off
 ·rw[List.getElem?_append_left (by omega),List.getElem?_take_of_lt h1]at e
  rw[List.getElem?_append_left (by omega),List.getElem?_take_of_lt (by omega)]
  simpa using hc j v e
 ·rw[List.getElem?_append_right (by omega),hu]at e
  rw[List.getElem?_append_right (by omega),hC,show s+j - (s+off)=j - off by omega]
  by_cases h2:j - off<ns.length
  ·rw[List.getElem?_append_left h2]at e ⊢
   exact e
  ·rw[List.getElem?_append_right (by omega),List.getElem?_drop]at e ⊢
   have:=hc _ v e
   rw[show s+off+ns.length+(j - off - ns.length)=s+(off+ns.length+(j - off - ns.length)) by omega]
   simpa using this
def tt(P:Program)(T:TypeId)(x y:Operand):dg:=
 match P.info? T with
 |some i=>ej (Nat.blt 0 i.size) (aq i.size (aR x) (aR y)) bA
 |none=>bA
theorem xP{T:TypeId}{x y:Operand}(ho:o.op=.store T x y):ik P o (tt P T x y):=by
 intro g w nt t h a v h' H Tr e
 unfold tt at e
 cases hi:P.info? T with
 |none=>rw[hi]at e;cases e
 |some i=>
 rw[hi]at e
 cases HI:Nat.blt 0 i.size with
 |false=>simp only[HI]at e;cases e
 |true=>
 simp only[HI]at e
 have ab3:=bh.1 HI
 change aq i.size (aR x) (aR y) t h=.ok v h' at e
 unfold aq at e
 split at e
 ·rename_i id off hx
  split at e
  ·rename_i av hy
   split at e
   ·rename_i cs hg
    cases hb:(Nat.beq (len av.cells) i.size&&(Nat.ble (Nat.add off (len av.cells)) cs.n&&dK cH av.cells))with
    |false=>rw[hb]at e;cases e
    |true=>
     rw[hb]at e
     cases e
     simp only[Bool.and_eq_true,bE]at hb
     have h1:=Nat.eq_of_beq_eq_true hb.1
     have Cf:off+av.cells.length<=cs.n:=Nat.ble_eq.mp hb.2.1
     have h2:off+av.cells.length<=cs.toL.length:=by rw[da];exact Cf
     have xu:=bc x _ _ _ _ _ _ Tr hx
     have pB:=bc y _ _ _ _ _ _ Tr hy
     simp only[VR]at xu
     obtain⟨b,s,hm,xu⟩:=xu
     obtain⟨C,el,vs,hw,_,cU,hc⟩:=H.row hg hm
     have dH:=pB.cells
     have lZ:=bq.xF dH hb.2.2
     have hl:=dH.length
     simp only[Array.length_toList]at hl
     have kb:s+off+(a.eval y).cells.toList.length<=C.size:=by
      have:=bq.ku cU hc h2 (by omega)
      simp only[Array.length_toList]
      omega
     have oM:=db P b (s+off) el.el el.fz (a.eval y).cells.toList 0 C w hw el.ok (by simpa using kb) lZ
     simp only[Nat.add_zero]at oM
     have hlen:=cU.length
     obtain⟨E,H'⟩:=n8 H (C':=(C.toList.take (s+off)++(a.eval y).cells.toList++C.toList.drop (s+off+(a.eval y).cells.toList.length)).toArray)
      hg hm hw (by simp at kb ⊢;omega) (cs':=cs.put off av.cells) (us:=vs.take off++((a.eval y).cells.toList++vs.drop (off+(a.eval y).cells.toList.length)))
      (by rw[lh Cf,put_eq,<-dH.length];exact(cU.take _).append (dH.append (cU.drop _)))
      (fun j v e=>tp hc kb j v e (by omega))
     refine⟨g,_,.skip,undef,?_,.inr ⟨rfl,rfl⟩,E,H',by simp only[eh,VR];exact⟨_,rfl,by simp[bq]⟩⟩
     have lx: ¬ (a.eval y).cells.size≠i.size:=by omega
     simp only[execOp,ho,Instr.storeAt,Instr.sureAddr,xu,storeVar,sizeOf,typeInfo,hi,oM,Sem.run_bind,Sem.run_pure,Result.andThen_ok,run_program,Sem.run_ite,if_neg lx]
   ·cases e
  ·cases e
 ·cases e
end
end Go.Ab

noncomputable section
namespace Go.Ab
variable [Io]
section
variable {P:Program}{o:Oper}
omit [Io] in
theorem j3(w:World)(t ty e:TypeId)(i:TypeInfo)(ht:P.underlying t=some (.slice e))(hi:P.info? e=some i)(b x:Option Addr)(bS cY c:Nat)(h:bS<=cY):
 (Builtin.append_ #[t,t] ty #[.slice b bS cY,.slice x 0 c]).run P w=.ok (.slice b bS cY) w:=by
 cases b<;>cases x<;>
  simp[Builtin.append_,run_underlying ht,sizeOf,typeInfo,hi,Builtin.lenOf,Builtin.firstCells,loadCells,loadCellsFrom,h,storeCells]
omit [Io] in
theorem rB(w:World)(t ty e:TypeId)(i:TypeInfo)(ht:P.underlying t=some (.slice e))(hi:P.info? e=some i)
 (g at_ bS cY:Nat)(cur:Array Value)(el:FT cur)(hg:w.heap[g]? =some (.cells cur el.el el.fz))
 (a:Addr)(m c:Nat)(news:List Value)(hl:news.length=m*i.size)(qf: ∀ j u,news[j]? =some u->w.cell? (a.add j)=some u)(h1: ∀ u∈news,u.oneCell'=true)
 (il:bS+m<=cY)(jF:at_+bS*i.size+news.length<=cur.size):
 (Builtin.append_ #[t,t] ty #[.slice (some ⟨g,at_,none⟩) bS cY,.slice (some a) m c]).run P w=
  .ok (.slice (some ⟨g,at_,none⟩) (bS+m) cY) (w.setRow g (cur.toList.take (at_+bS*i.size)++news++cur.toList.drop (at_+bS*i.size+news.length)).toArray):=by
 have hf:=run_firstCells_some (P:=P) w i.size m a m c news hl qf
 have oM:=db P g (at_+bS*i.size) el.el el.fz news 0 cur w hg el.ok (by simpa using jF) h1
 simp only[Nat.add_zero]at oM
 simp[Builtin.append_,run_underlying ht,sizeOf,typeInfo,hi,Builtin.lenOf,il,hf,eD,oM]
theorem gC{g w h}(H:HR g w h){x:AV}{v:Value}(hv:VR g w x v){n:Nat}{cs:List AV}(e:cK h x=some (n,cs)):
 ∃ a c,v=.slice a n c/\n<=c/\(cs=[]∨ ∃ b s vs,a=some ⟨b,s,none⟩/\bq g w cs vs/\cO w b s vs):=by
 unfold cK at e
 split at e
 ·cases e
  simp only[VR]at hv
  obtain⟨a,rfl⟩:=hv
  exact⟨a,0,rfl,Nat.le_refl _,.inl rfl⟩
 ·cases e
  simp only[VR]at hv
  obtain⟨a,c,rfl,hc,hr⟩:=hv
  refine⟨a,c,rfl,hc,?_⟩
  rcases hr with⟨_,rfl⟩|⟨b,s,vs,rfl,_,fh,cU⟩
  ·exact .inl rfl
  ·exact .inr ⟨b,s,vs,rfl,cU,fh⟩
 ·rename_i id off n' sz
  split at e
  ·rename_i cs' hg
   split at e
   ·rename_i l hs
    cases e
    obtain⟨rfl,hl,_⟩:=eV hs
    simp only[VR]at hv
    rcases hv with⟨rfl,a,rfl⟩|⟨b,s,cap,hm,rfl,hc,_⟩
    ·refine⟨a,0,rfl,Nat.le_refl _,.inl ?_⟩
     have:(List.take (Nat.mul 0 sz) (List.drop off cs'.toL))=[]:=by
      rw[show Nat.mul 0 sz=0 from Nat.zero_mul _];rfl
     exact this
    ·obtain⟨C,el,vs,hw,_,cU,HJ⟩:=H.row hg hm
     exact⟨_,cap,rfl,hc,.inr ⟨b,s+off,_,rfl,(cU.drop off).take _,((dS hw HJ).drop off).take _⟩⟩
   ·cases e
  ·cases e
 ·cases e
omit [Io] in
theorem iq{w:World}{b s:Nat}{vs:List Value}(h:cO w b s vs): ∀ j u,vs[j]? =some u->w.cell? ((⟨b,s,none⟩:Addr).add j)=some u:=by
 intro j u e
 rw[eD]
 exact h j u e
structure Rh(P:Program)(w:World)(mc:Array TypeId)(ty el:TypeId)(ie:TypeInfo)(zv:Value)(vx:Value)(n:Nat)(us:List Value):Prop where
 Y':0<n->n<=70368744177664->n*ie.bytes<=70368744177664->(Builtin.append_ mc ty #[.slice none 0 0,vx]).run P w=
  .ok (.slice (some ⟨w.heap.size,0,none⟩) n (grownCap w n 0 el)) (w.drew.alloc (.cells (us.toArray++Builtin.zeroCells zv.cells (grownCap w n 0 el - n)) el))
 Lp: ∀ (b:Addr) (bS cY:Nat) (rD:List Value),rD.length=bS*ie.size->(∀ (j:Nat) (v:Value),rD[j]? =some v->w.cell? (b.add j)=some v)->0<n->cY<bS+n->bS+n<=70368744177664->(bS+n)*ie.bytes<=70368744177664->
  (Builtin.append_ mc ty #[.slice (some b) bS cY,vx]).run P w=.ok (.slice (some ⟨w.heap.size,0,none⟩) (bS+n) (grownCap w (bS+n) cY el))
    (w.drew.alloc (.cells (rD.toArray++us.toArray++Builtin.zeroCells zv.cells (grownCap w (bS+n) cY el - (bS+n))) el))
 aat: ∀ (g at_ bS cY:Nat) (cur:Array Value) (el:FT cur),w.heap[g]? =some (.cells cur el.el el.fz)->0<n->bS+n<=70368744177664->(bS+n)*ie.bytes<=70368744177664->(∀ u∈us,u.oneCell'=true)->
  bS+n<=cY->at_+bS*ie.size+us.length<=cur.size->(Builtin.append_ mc ty #[.slice (some ⟨g,at_,none⟩) bS cY,vx]).run P w=
   .ok (.slice (some ⟨g,at_,none⟩) (bS+n) cY) (w.setRow g (cur.toList.take (at_+bS*ie.size)++us++cur.toList.drop (at_+bS*ie.size+us.length)).toArray)
theorem kA{g:G}{w:World}{h h':Hp}{a:Act}{mc:Array TypeId}{el:TypeId}{ie:TypeInfo}{zv:Value}{Ye vx:Value}{sv v:AV}{n:Nat}{new:List AV}(H:HR g w h)(cU:VR g w sv Ye)(h0:0<ie.size)(mR:zv.cells.size=ie.size)
 (hex: ∀ vs r w',Ye=vs->(Builtin.append_ mc o.type #[vs,vx]).run P w=.ok r w'->(execOp a.eval o).run P w=.ok (.value r) w')
 (Rd:n=0-> ∀ (b:Option Addr) (ln cap:Nat),ln<=cap->(Builtin.append_ mc o.type #[.slice b ln cap,vx]).run P w=.ok (.slice b ln cap) w)
 (hap:n≠0->new.length=n*ie.size-> ∃ us,bq g w new us/\Rh P w mc o.type el ie zv vx n us)
 (e:mI ie.size ie.bytes h sv n new=.ok v h'):
 ∃ g' w' nx x,(execOp a.eval o).run P w=.ok nx w'/\(nx=.value x∨(nx=.skip/\x=undef))/\Ext g w h g' w' h'/\HR g' w' h'/\VR g' w' v x:=by
   unfold mI at e
   have fresh: ∀ (b:Option Addr) (h2:Hp) (QA:Rw),QA.toL=new->Ye=.slice b 0 0->n≠0->n*ie.bytes<=70368744177664->dK cH new=true->new.length=n*ie.size->n<=70368744177664->
    HR g w h2->Ext g w h g w h2->
    ∃ g' w' nx x,(execOp a.eval o).run P w=.ok nx w'/\(nx=.value x∨(nx=.skip/\x=undef))/\Ext g w h g' w' (cx h2 QA)/\HR g' w' (cx h2 QA)/\VR g' w' (.cR h2.next 0 n ie.size) x:=by
    intro b h2 QA hrw o3 hn xw lZ hlen Za H2 E2
    ·obtain⟨us,uN,A⟩:=hap hn hlen
     have Ri:=uN.length
     have vq:us.length=n*ie.size:=by omega
     obtain⟨E3,H3⟩:=vp H2
     have hC: ∀ cap,n<=cap->n*ie.size+(cap - n)*ie.size=cap*ie.size:=by intro cap hc;rw[<-Nat.add_mul];congr 1;omega
     cases b with
     |none=>
      have hr:=A.Y' (by omega) Za xw
      have C0:=grownCap_ge w n 0 el
      obtain⟨E4,H4⟩:=pz H3 (cs:=QA) (C:=us.toArray++Builtin.zeroCells zv.cells (grownCap w n 0 el - n)) el (by rw[hrw];exact bq.mono H2 E3 _ _ uN) (fun j v e=>by
       rw[Array.getElem?_append_left (by have:=(List.getElem?_eq_some_iff.1 e).1;simpa using this)];simpa using e)
      refine⟨_,_,_,_,hex _ _ _ o3 hr,.inl rfl,E2.trans (E3.trans E4),H4,s8 C0 ?_⟩
      rw[Array.size_append,size_zeroCells,mR,List.size_toArray,vq,hC _ C0]
      exact Nat.le_refl _
     |some b=>
      have hr:=A.Lp b 0 0 [] (by simp) (by simp) (by omega) (by omega) (by omega) (by rw[Nat.zero_add];exact xw)
      simp only[Nat.zero_add]at hr
      have C0:=grownCap_ge w n 0 el
      obtain⟨E4,H4⟩:=pz H3 (cs:=QA) (C:= #[]++us.toArray++Builtin.zeroCells zv.cells (grownCap w n 0 el - n)) el (by rw[hrw];exact bq.mono H2 E3 _ _ uN) (fun j v e=>by
       rw[Array.getElem?_append_left (by have:=(List.getElem?_eq_some_iff.1 e).1;simpa using this)];simpa using e)
      refine⟨_,_,_,_,hex _ _ _ o3 hr,.inl rfl,E2.trans (E3.trans E4),H4,s8 C0 ?_⟩
      rw[Array.size_append,size_zeroCells,mR,Array.empty_append,List.size_toArray,vq,hC _ C0]
      exact Nat.le_refl _
   split at e
   ·
    simp only[VR]at cU
    obtain⟨b,o3⟩:=cU
    cases hn:Nat.beq n 0 with
    |true=>
     rw[hn]at e
     cases e
     obtain rfl:=Nat.eq_of_beq_eq_true hn
     exact⟨g,w,_,_,hex _ _ _ o3 (Rd rfl b 0 0 (Nat.le_refl _)),.inl rfl,Ext.refl _ _ _,H,by simp only[VR];exact⟨_,rfl⟩⟩
    |false=>
     rw[hn]at e
     have Ln:n≠0:=fun k=>by subst k;cases hn
     cases hc:(Nat.ble (Nat.mul n ie.bytes) 70368744177664&&(dK cH new&&(Nat.beq (len new) (Nat.mul n ie.size)&&Nat.ble n 70368744177664)))with
     |false=>simp only[hc]at e;cases e
     |true=>
      simp only[hc]at e
      cases e
      simp only[Bool.and_eq_true,bE]at hc
      exact fresh b h (pw new) (eQ new) o3 Ln (Nat.ble_eq.mp hc.1) hc.2.1 (Nat.eq_of_beq_eq_true hc.2.2.1) (Nat.ble_eq.mp hc.2.2.2) H (Ext.refl _ _ _)
   ·
    rename_i id off ln sz
    cases hn:Nat.beq n 0 with
    |true=>
     rw[hn]at e
     cases e
     obtain rfl:=Nat.eq_of_beq_eq_true hn
     have xQ:=cU
     simp only[VR]at cU
     rcases cU with⟨rfl,b,o3⟩|⟨b,s',cap,hm,o3,mS,_⟩
     ·rw[o3]at xQ
      exact⟨g,w,_,_,hex _ _ _ o3 (Rd rfl b 0 0 (Nat.le_refl _)),.inl rfl,Ext.refl _ _ _,H,xQ⟩
     ·rw[o3]at xQ
      exact⟨g,w,_,_,hex _ _ _ o3 (Rd rfl _ ln cap mS),.inl rfl,Ext.refl _ _ _,H,xQ⟩
    |false=>
     rw[hn]at e
     have Ln:n≠0:=fun k=>by subst k;cases hn
     simp only[cond_false]at e
     split at e
     ·cases e
     ·rename_i cs hg
      split at e
      ·cases e
      ·rename_i pre MK
       cases hc:(Nat.ble (Nat.mul (Nat.add ln n) ie.bytes) 70368744177664&&(Nat.beq sz ie.size&&(dK cH new&&(Nat.beq (len new) (Nat.mul n ie.size)&&Nat.ble (Nat.add ln n) 70368744177664))))with
       |false=>rw[hc]at e;cases e
       |true=>
        rw[hc]at e
        cases e
        simp only[Bool.and_eq_true,bE]at hc
        have xw:(ln+n)*ie.bytes<=70368744177664:=Nat.ble_eq.mp hc.1
        obtain rfl:sz=ie.size:=Nat.eq_of_beq_eq_true hc.2.1
        have lZ:=hc.2.2.1
        have hlen:new.length=n*ie.size:=Nat.eq_of_beq_eq_true hc.2.2.2.1
        have Bf:ln+n<=70368744177664:=Nat.ble_eq.mp hc.2.2.2.2
        obtain⟨Rj,Qy⟩:=u9 MK
        rw[Rj]at Qy
        have Zb:(List.take (ln*ie.size) (List.drop off cs.toL)).length=ln*ie.size:=Qy
        obtain⟨E2,H2⟩:=CV H id
        simp only[VR]at cU
        rcases cU with⟨rfl,b,o3⟩|⟨b,s',cap,hm,o3,mS,kb⟩
        ·have:=fresh b (eN h id none) (pre.app new) (by
          rw[mL,Rj,show(List.take (Nat.mul 0 ie.size) (List.drop off cs.toL))=[]from by rw[show Nat.mul 0 ie.size=0 from Nat.zero_mul _];rfl,List.nil_append]) o3 Ln (by simpa using xw) lZ hlen (by simpa using Bf) H2 E2
         rw[show Nat.add 0 n=n from Nat.zero_add n]
         exact this
        ·obtain⟨us,uN,A⟩:=hap Ln hlen
         ·have Ri:=uN.length
          have vq:us.length=n*ie.size:=by omega
          obtain⟨C,el',vs,hw,_,cU,HJ⟩:=H.row hg hm
          rw[fp hw]at kb
          have gD:bq g w (List.take (ln*ie.size) (List.drop off cs.toL)) ((vs.drop off).take (ln*ie.size)):=(cU.drop off).take _
          have ML:((vs.drop off).take (ln*ie.size)).length=ln*ie.size:=by rw[gD.length,Zb]
          have Yf:cO w b (s'+off) ((vs.drop off).take (ln*ie.size)):=((dS hw HJ).drop off).take _
          have MM:=gD.append uN
          have Lq:bq g w (pre.app new).toL ((vs.drop off).take (ln*ie.size)++us):=by
           rw[mL,Rj];exact MM
          by_cases il:ln+n<=cap
          ·have hm1:ln*ie.size+n*ie.size<=cap*ie.size:=by rw[<-Nat.add_mul];exact Nat.mul_le_mul_right _ il
           have jF:s'+off+ln*ie.size+us.length<=C.size:=by omega
           have hr:=A.aat b (s'+off) ln cap C el' hw (by omega) Bf xw (bq.xF uN lZ) il jF
           obtain⟨E3,H3⟩:=Bd H (C':=(C.toList.take (s'+off+ln*ie.size)++us++C.toList.drop (s'+off+ln*ie.size+us.length)).toArray) (s':=s'+off)
            hg hm hw (by simp;omega) Lq (fun j v e=>by
             have Y4:(C.toList.take (s'+off+ln*ie.size)).length=s'+off+ln*ie.size:=by simp;omega
             rw[List.getElem?_toArray,List.append_assoc]
             by_cases hj:j<ln*ie.size
             ·rw[List.getElem?_append_left (by omega)]at e
              have:=Yf j v e
              rw[List.getElem?_append_left (by omega),List.getElem?_take_of_lt (by omega)]
              simp only[World.cell?,hw]at this
              simpa using this
             ·rw[List.getElem?_append_right (by omega),ML]at e
              have GJ:=(List.getElem?_eq_some_iff.1 e).1
              rw[List.getElem?_append_right (by omega),Y4,show s'+off+j - (s'+off+ln*ie.size)=j - ln*ie.size by omega,List.getElem?_append_left GJ]
              exact e)
           refine⟨_,_,_,_,hex _ _ _ o3 hr,.inl rfl,E3,H3,?_⟩
           simp only[VR]
           refine .inr ⟨b,s'+off,cap,by simp,rfl,il,?_⟩
           have xR:=dX (C':=(C.toList.take (s'+off+ln*ie.size)++us++C.toList.drop (s'+off+ln*ie.size+us.length)).toArray) hw b
           rw[if_pos rfl]at xR
           rw[fp xR]
           simp
           omega
          ·have hr:=A.Lp ⟨b,s'+off,none⟩ ln cap ((vs.drop off).take (ln*ie.size)) ML (iq Yf) (by omega) (by omega) Bf xw
           have C0:=grownCap_ge w (ln+n) cap el
           obtain⟨E3,H3⟩:=vp H2
           obtain⟨E4,H4⟩:=pz H3 (C:=((vs.drop off).take (ln*ie.size)).toArray++us.toArray++Builtin.zeroCells zv.cells (grownCap w (ln+n) cap el - (ln+n))) el
            (bq.mono H2 E3 _ _ (bq.mono H E2 _ _ Lq)) (fun j v e=>by
             rw[Array.getElem?_append_left (by have:=(List.getElem?_eq_some_iff.1 e).1;simp at this ⊢;omega)]
             simpa using e)
           refine⟨_,_,_,_,hex _ _ _ o3 hr,.inl rfl,E2.trans (E3.trans E4),H4,s8 C0 ?_⟩
           have hC:(ln+n)*ie.size+(grownCap w (ln+n) cap el - (ln+n))*ie.size=grownCap w (ln+n) cap el*ie.size:=by rw[<-Nat.add_mul];congr 1;omega
           rw[Array.size_append,size_zeroCells,mR,Array.size_append,List.size_toArray,List.size_toArray,ML,vq,<-Nat.add_mul,hC]
           exact Nat.le_refl _
   ·
    rename_i ln cs
    cases hn:Nat.beq n 0 with
    |true=>
     rw[hn]at e
     cases e
     obtain rfl:=Nat.eq_of_beq_eq_true hn
     have xQ:=cU
     simp only[VR]at cU
     obtain⟨b,cap,o3,mS,_⟩:=cU
     rw[o3]at xQ
     exact⟨g,w,_,_,hex _ _ _ o3 (Rd rfl _ ln cap mS),.inl rfl,Ext.refl _ _ _,H,xQ⟩
    |false=>rw[hn]at e;cases e
   ·cases e
def qg(P:Program)(T:TypeId)(s x:Operand):dg:=
 match P.underlying T with
 |some (.slice e)=>match P.info? e with
  |some ie=>match zeroOf P e with
   |some z=>ej (Nat.beq (len z) ie.size&&(Nat.blt 0 ie.size&&Nat.blt 0 ie.bytes)) (jB ie.size ie.bytes (wO (aR s)) (wO (aR x))) bA
   |none=>bA
  |none=>bA
 | _=>bA
theorem tv{T:TypeId}{s x:Operand}(ho:o.op=.call {callee:=.builtin .append,args:= #[s,x],argTypes:= #[T,T]}):ik P o (qg P T s x):=by
 intro g w nt t h a v h' H Tr e
 unfold qg at e
 cases hu:P.underlying T with
 |none=>rw[hu]at e;cases e
 |some d=>
 rw[hu]at e
 cases d<;>try (cases e;done)
 rename_i el
 simp only at e
 cases iN:P.info? el with
 |none=>rw[iN]at e;cases e
 |some ie=>
 rw[iN]at e
 cases hz:zeroOf P el with
 |none=>simp only[hz]at e;cases e
 |some z=>
 simp only[hz]at e
 cases hb:(Nat.beq (len z) ie.size&&(Nat.blt 0 ie.size&&Nat.blt 0 ie.bytes))with
 |false=>rw[hb]at e;cases e
 |true=>
 rw[hb]at e
 simp only[Bool.and_eq_true,bE]at hb
 have Rf:=Nat.eq_of_beq_eq_true hb.1
 have h0:0<ie.size:=bh.1 hb.2.1
 obtain⟨i,zv,hi,pC,za⟩:=eE hz
 obtain rfl:ie=i:=by rw[iN]at hi;exact Option.some.inj hi
 have mR:zv.cells.size=ie.size:=by
  have:=(za g w).length
  simp only[Array.length_toList]at this
  omega
 change jB ie.size ie.bytes (wO (aR s)) (wO (aR x)) t h=.ok v h' at e
 have hex: ∀ vs vx r w',a.eval s=vs->a.eval x=vx->(Builtin.append_ #[T,T] o.type #[vs,vx]).run P w=.ok r w'->(execOp a.eval o).run P w=.ok (.value r) w':=by
  intro vs vx r w' h1 h2 h3
  unfold execOp
  simp only[ho,resolve,invoke,builtin,Sem.run_bind,Sem.run_pure,Result.andThen_ok,List.map_toArray,List.map_cons,List.map_nil,h1,h2,h3]
 unfold jB at e
 split at e
 ·rename_i sv hs
  split at e
  ·rename_i xv hx
   have cU:=eS s _ _ _ _ _ _ Tr hs
   have xu:=eS x _ _ _ _ _ _ Tr hx
   split at e
   ·cases e
   ·rename_i n new Rk
    obtain⟨xa,xc,HK,hxc,rE⟩:=gC H xu Rk
    refine kA (el:=el) H cU h0 mR (fun vs r w' h1 h3=>hex vs _ r w' h1 HK h3) (fun hn b ln cap hle=>by
     subst hn
     exact j3 w T o.type el ie hu iN b xa ln cap xc hle) (fun hn hlen=>?_) e
    rcases rE with rfl|⟨xb,xs,us,rfl,uN,fh⟩
    ·have:n*ie.size≠0:=Nat.mul_ne_zero hn (by omega)
     simp at hlen;omega
    ·have Ri:=uN.length
     have vq:us.length=n*ie.size:=by omega
     refine⟨us,uN,⟨fun hp Bf xw=>?_,fun b bS cY rD Rl Rm hp ee Bf xw=>?_,fun b at_ bS cY cur el' hw hp Bf xw lZ il jF=>?_⟩⟩
     ·exact run_append_nil (P:=P) w T o.type el ie zv hu iN pC ⟨xb,xs,none⟩ n xc us vq (iq fh) (by omega) (by omega) (by omega)
     ·exact run_append_grow (P:=P) w T o.type el ie zv hu iN pC b bS cY rD Rl Rm ⟨xb,xs,none⟩ n xc us vq (iq fh) (by omega) (by omega) (growslice_fits (by omega) (by omega))
     ·exact rB (P:=P) w T o.type el ie hu iN b at_ bS cY cur el' hw ⟨xb,xs,none⟩ n xc us vq (iq fh) lZ il jF
  ·cases e
 ·cases e
def pD(P:Program)(T:TypeId)(s x:Operand):dg:=
 match P.underlying T with
 |some (.slice e)=>match P.info? e with
  |some ie=>match zeroOf P e with
   |some z=>ej (Nat.beq (len z) ie.size&&(Nat.blt 0 ie.size&&Nat.blt 0 ie.bytes)) (aC ie.size ie.bytes (aR s) (aR x)) bA
   |none=>bA
  |none=>bA
 | _=>bA
theorem vr{T:TypeId}{s x:Operand}(ho:o.op=.call {callee:=.builtin .append,args:= #[s,x],argTypes:= #[T,T]}):ik P o (pD P T s x):=by
 intro g w nt t h a v h' H Tr e
 have h0:=tv (P:=P) ho g w nt t h a v h' H Tr
 unfold pD at e
 unfold qg at h0
 cases hu:P.underlying T with
 |none=>rw[hu]at e;cases e
 |some d=>
 rw[hu]at e h0
 cases d<;>try (cases e;done)
 rename_i el
 simp only at e h0
 cases iN:P.info? el with
 |none=>rw[iN]at e;cases e
 |some ie=>
 rw[iN]at e h0
 cases hz:zeroOf P el with
 |none=>simp only[hz]at e;cases e
 |some z=>
 simp only[hz]at e h0
 cases hb:(Nat.beq (len z) ie.size&&(Nat.blt 0 ie.size&&Nat.blt 0 ie.bytes))with
 |false=>rw[hb]at e;cases e
 |true=>
 rw[hb]at e h0
 change aC ie.size ie.bytes (aR s) (aR x) t h=.ok v h' at e
 unfold aC at e
 split at e
 ·rename_i av hs
  split at e
  ·rename_i bv hx
   cases hE:(l8 av&&GC bv)with
   |false=>rw[hE]at e;exact h0 e
   |true=>
    rw[hE]at e
    cases e
    rw[Bool.and_eq_true]at hE
    have hv:=bc s _ _ _ _ _ _ Tr hs
    obtain⟨b,o3⟩:=p7 hE.1 hv
    obtain⟨xa,xc,HK⟩:=MD hE.2 (bc x _ _ _ _ _ _ Tr hx)
    have hr:=j3 (P:=P) w T o.type el ie hu iN b xa 0 0 xc (Nat.le_refl _)
    refine⟨g,w,_,a.eval s,?_,.inl rfl,Ext.refl _ _ _,H,hv⟩
    unfold execOp
    simp only[ho,resolve,invoke,builtin,Sem.run_bind,Sem.run_pure,Result.andThen_ok,List.map_toArray,List.map_cons,List.map_nil,o3,HK,hr]
  ·cases e
 ·cases e
def zc(P:Program)(T T':TypeId)(s x:Operand):dg:=
 match P.underlying T with
 |some (.slice e)=>match P.underlying T' with
  |some (.int _)=>match P.info? e with
   |some ie=>match zeroOf P e with
    |some z=>ej (Nat.beq (len z) ie.size&&(Nat.blt 0 ie.size&&Nat.blt 0 ie.bytes)) (j1 ie.size ie.bytes z (aR s) (aR x)) bA
    |none=>bA
   |none=>bA
  | _=>bA
 | _=>bA
omit [Io] in
theorem iO(w:World)(t tn ty e:TypeId)(i:TypeInfo)(kn k:IntKind)(ht:P.underlying t=some (.slice e))(MN:P.underlying tn=some (.int kn))(hi:P.info? e=some i)(b:Option Addr)(bS cY:Nat)(h:bS<=cY):
 (Builtin.append_ #[t,tn] ty #[.slice b bS cY,.int k ((0:Nat):Int)]).run P w=.ok (.slice b bS cY) w:=by
 have hw:IntKind.i64.wrap 0=0:=by rw[IntKind.wrap_i64];omega
 cases b<;>simp[Builtin.append_,run_underlying ht,run_underlying MN,sizeOf,typeInfo,hi,asInt,asIntOf,hw,h,storeCells]
omit [Io] in
theorem me(w:World)(t tn ty e:TypeId)(i:TypeInfo)(z:Value)(kn k:IntKind)(ht:P.underlying t=some (.slice e))(MN:P.underlying tn=some (.int kn))(hi:P.info? e=some i)(hz:i.zero=some z)(hs:0<i.size)(Rf:z.cells.size=i.size)
 (g at_ bS cY n:Nat)(cur:Array Value)(el:FT cur)(hg:w.heap[g]? =some (.cells cur el.el el.fz))(h0:0<n)(Bf:n<=70368744177664)(xw:n*i.bytes<=70368744177664)
 (h1: ∀ u∈(Builtin.zeroCells z.cells n).toList,u.oneCell'=true)(il:bS+n<=cY)(jF:at_+bS*i.size+(Builtin.zeroCells z.cells n).toList.length<=cur.size):
 (Builtin.append_ #[t,tn] ty #[.slice (some ⟨g,at_,none⟩) bS cY,.int k n]).run P w=
  .ok (.slice (some ⟨g,at_,none⟩) (bS+n) cY) (w.setRow g (cur.toList.take (at_+bS*i.size)++(Builtin.zeroCells z.cells n).toList++cur.toList.drop (at_+bS*i.size+(Builtin.zeroCells z.cells n).toList.length)).toArray):=by
 have oM:=db P g (at_+bS*i.size) el.el el.fz (Builtin.zeroCells z.cells n).toList 0 cur w hg el.ok (by simpa using jF) h1
 simp only[Nat.add_zero]at oM
 have hw:IntKind.i64.wrap (n:Int)=n:=by rw[IntKind.wrap_i64];omega
 have Zc: ¬ ((n:Int)<0):=by omega
 have Zd: ¬ (281474976710656<(n:Int)*(i.bytes:Int)):=by
  rw[<-Int.natCast_mul]
  omega
 have Y6: ¬ (n*i.size=0):=Nat.mul_ne_zero (by omega) (by omega)
 have hk:n≠0:=by omega
 simp[Builtin.append_,run_underlying ht,run_underlying MN,sizeOf,typeInfo,zeroValue,hi,hz,asInt,asIntOf,hw,Zc,Zd,Y6,il,eD]
 have MO:(storeCells ⟨g,at_+bS*i.size,none⟩ (Builtin.zeroCells z.cells n).toList).run P w=_:=oM
 rw[MO]
 simp
theorem Bg{T T':TypeId}{s x:Operand}(ho:o.op=.call {callee:=.builtin .append,args:= #[s,x],argTypes:= #[T,T']}):ik P o (zc P T T' s x):=by
 intro g w nt t h a v h' H Tr e
 unfold zc at e
 cases hu:P.underlying T with
 |none=>rw[hu]at e;cases e
 |some d=>
 rw[hu]at e
 cases d<;>try (cases e;done)
 rename_i el
 simp only at e
 cases xS:P.underlying T' with
 |none=>rw[xS]at e;cases e
 |some d'=>
 rw[xS]at e
 cases d'<;>try (cases e;done)
 rename_i kn
 simp only at e
 cases iN:P.info? el with
 |none=>rw[iN]at e;cases e
 |some ie=>
 rw[iN]at e
 cases hz:zeroOf P el with
 |none=>simp only[hz]at e;cases e
 |some z=>
 simp only[hz]at e
 cases hb:(Nat.beq (len z) ie.size&&(Nat.blt 0 ie.size&&Nat.blt 0 ie.bytes))with
 |false=>rw[hb]at e;cases e
 |true=>
 rw[hb]at e
 simp only[Bool.and_eq_true,bE]at hb
 have Rf:=Nat.eq_of_beq_eq_true hb.1
 have h0:0<ie.size:=bh.1 hb.2.1
 obtain⟨i,zv,hi,pC,za⟩:=eE hz
 obtain rfl:ie=i:=by rw[iN]at hi;exact Option.some.inj hi
 have mR:zv.cells.size=ie.size:=by
  have:=(za g w).length
  simp only[Array.length_toList]at this
  omega
 change j1 ie.size ie.bytes z (aR s) (aR x) t h=.ok v h' at e
 unfold j1 at e
 split at e
 ·rename_i av hs
  split at e
  ·rename_i kx n hx
   have cU:=bc s _ _ _ _ _ _ Tr hs
   have xu:=bc x _ _ _ _ _ _ Tr hx
   simp only[VR]at xu
   have xu:a.eval x=.int kx (n:Int):=xu
   have hex: ∀ vs r w',a.eval s=vs->(Builtin.append_ #[T,T'] o.type #[vs,.int kx (n:Int)]).run P w=.ok r w'->(execOp a.eval o).run P w=.ok (.value r) w':=by
    intro vs r w' h1 h3
    unfold execOp
    simp only[ho,resolve,invoke,builtin,Sem.run_bind,Sem.run_pure,Result.andThen_ok,List.map_toArray,List.map_cons,List.map_nil,h1,xu,h3]
   cases hE:(l8 av&&Nat.beq n 0)with
   |true=>
    rw[hE]at e
    cases e
    rw[Bool.and_eq_true]at hE
    obtain rfl:=Nat.eq_of_beq_eq_true hE.2
    obtain⟨b,o3⟩:=p7 hE.1 cU
    refine⟨g,w,_,a.eval s,hex _ _ _ rfl ?_,.inl rfl,Ext.refl _ _ _,H,cU⟩
    rw[o3]
    exact iO w T T' o.type el ie kn kx hu xS iN b 0 0 (Nat.le_refl _)
   |false=>
    rw[hE]at e
    simp only[cond_false]at e
    refine kA (el:=el) H (xH cU) h0 mR hex (fun hn b ln cap hle=>by
     subst hn
     exact iO w T T' o.type el ie kn kx hu xS iN b ln cap hle) (fun hn hlen=>?_) e
    have hzc:bq g w (dM n z) (Builtin.zeroCells zv.cells n).toList:=by
     have:=(za g w).repeat n
     rw[<-kv]at this
     unfold Builtin.zeroCells
     exact this
    refine⟨(Builtin.zeroCells zv.cells n).toList,hzc,⟨fun hp Bf xw=>?_,fun b bS cY rD Rl Rm hp ee Bf xw=>?_,fun b at_ bS cY cur el' hw hp Bf xw lZ il jF=>?_⟩⟩
    ·have:=Lib.run_append_nil_zeros (P:=P) w T T' o.type el ie zv kx kn hu xS iN pC n hp h0 (by omega) (by omega)
     simpa using this
    ·have hfo:=run_firstCells_some (P:=P) w.drew ie.size bS b bS cY rD Rl (by simpa using Rm)
     have hnb:n*ie.bytes<=(bS+n)*ie.bytes:=Nat.mul_le_mul_right _ (by omega)
     have:=Lib.run_append_grow_zeros (P:=P) w T T' o.type el ie zv kx kn hu xS iN pC (some b) bS cY rD hfo n hp h0 ee (by omega) (by omega) (growslice_fits (by omega) (by omega))
     simpa using this
    ·have hnb:n*ie.bytes<=(bS+n)*ie.bytes:=Nat.mul_le_mul_right _ (by omega)
     exact me w T T' o.type el ie zv kn kx hu xS iN pC h0 mR b at_ bS cY n cur el' hw hp (by omega) (by omega) lZ il jF
  ·cases e
 ·cases e
def zd(P:Program)(T T':TypeId)(s x:Operand):dg:=
 match P.underlying T with
 |some (.slice e)=>match P.underlying T' with
  |some .string=>match P.info? e with
   |some ie=>match zeroOf P e with
    |some z=>ej (Nat.beq (len z) ie.size&&(Nat.beq ie.size 1&&Nat.blt 0 ie.bytes)) (mJ ie.bytes (aR s) (aR x)) bA
    |none=>bA
   |none=>bA
  | _=>bA
 | _=>bA
theorem bq.Rp(g:G)(w:World): ∀ (l:List UInt8),bq g w (l.map fun b=>AV.int .u8 (.ofNat b.toNat)) (l.map fun b=>Value.int .u8 (b.toNat:Int))
 | []=>by simp[bq]
 |b::l=>by
  simp only[List.map_cons,bq]
  exact⟨_,_,rfl,by simp only[VR];rfl,bq.Rp g w l⟩
omit [Io] in
theorem j4(w:World)(t tn ty e:TypeId)(i:TypeInfo)(ht:P.underlying t=some (.slice e))(MN:P.underlying tn=some .string)(hi:P.info? e=some i)(s:ByteArray)(hs:s.size=0)(b:Option Addr)(bS cY:Nat)(h:bS<=cY):
 (Builtin.append_ #[t,tn] ty #[.slice b bS cY,.string s]).run P w=.ok (.slice b bS cY) w:=by
 have h1:(Array.map (fun b:UInt8=>Value.int IntKind.u8 (b.toNat:Int)) s.data).extract 0 0= #[]:=by simp
 cases b<;>simp[Builtin.append_,run_underlying ht,run_underlying MN,sizeOf,typeInfo,hi,Builtin.lenOf,Builtin.firstCells,hs,h,h1,storeCells]
omit [Io] in
theorem n9(w:World)(t tn ty e:TypeId)(i:TypeInfo)(ht:P.underlying t=some (.slice e))(MN:P.underlying tn=some .string)(hi:P.info? e=some i)(xx:i.size=1)(s:ByteArray)
 (g at_ bS cY:Nat)(cur:Array Value)(el:FT cur)(hg:w.heap[g]? =some (.cells cur el.el el.fz))
 (il:bS+s.size<=cY)(jF:at_+bS*i.size+(Lib.strCells s).length<=cur.size):
 (Builtin.append_ #[t,tn] ty #[.slice (some ⟨g,at_,none⟩) bS cY,.string s]).run P w=
  .ok (.slice (some ⟨g,at_,none⟩) (bS+s.size) cY) (w.setRow g (cur.toList.take (at_+bS*i.size)++(Lib.strCells s)++cur.toList.drop (at_+bS*i.size+(Lib.strCells s).length)).toArray):=by
 have oM:=db P g (at_+bS*i.size) el.el el.fz (Lib.strCells s) 0 cur w hg el.ok (by simpa using jF) (by
  intro v hv
  obtain⟨b,_,rfl⟩:=List.mem_map.1 hv
  rfl)
 simp only[Nat.add_zero]at oM
 have hf:=Lib.run_firstCells_string (P:=P) w i.size s
 simp[Builtin.append_,run_underlying ht,run_underlying MN,sizeOf,typeInfo,hi,Builtin.lenOf,il,hf,eD]
 have MO:(storeCells ⟨g,at_+bS*i.size,none⟩ (Lib.strCells s)).run P w=_:=oM
 rw[MO]
 simp
theorem Bh{T T':TypeId}{s x:Operand}(ho:o.op=.call {callee:=.builtin .append,args:= #[s,x],argTypes:= #[T,T']}):ik P o (zd P T T' s x):=by
 intro g w nt t h a v h' H Tr e
 unfold zd at e
 cases hu:P.underlying T with
 |none=>rw[hu]at e;cases e
 |some d=>
 rw[hu]at e
 cases d<;>try (cases e;done)
 rename_i el
 simp only at e
 cases xS:P.underlying T' with
 |none=>rw[xS]at e;cases e
 |some d'=>
 rw[xS]at e
 cases d'<;>try (cases e;done)
 simp only at e
 cases iN:P.info? el with
 |none=>rw[iN]at e;cases e
 |some ie=>
 rw[iN]at e
 cases hz:zeroOf P el with
 |none=>simp only[hz]at e;cases e
 |some z=>
 simp only[hz]at e
 cases hb:(Nat.beq (len z) ie.size&&(Nat.beq ie.size 1&&Nat.blt 0 ie.bytes))with
 |false=>rw[hb]at e;cases e
 |true=>
 rw[hb]at e
 simp only[Bool.and_eq_true,bE]at hb
 have Rf:=Nat.eq_of_beq_eq_true hb.1
 have xx:ie.size=1:=Nat.eq_of_beq_eq_true hb.2.1
 have h0:0<ie.size:=by omega
 obtain⟨i,zv,hi,pC,za⟩:=eE hz
 obtain rfl:ie=i:=by rw[iN]at hi;exact Option.some.inj hi
 have mR:zv.cells.size=ie.size:=by
  have:=(za g w).length
  simp only[Array.length_toList]at this
  omega
 change mJ ie.bytes (aR s) (aR x) t h=.ok v h' at e
 unfold mJ at e
 split at e
 ·rename_i av hs
  split at e
  ·rename_i b hx
   have cU:=bc s _ _ _ _ _ _ Tr hs
   have xu:=bc x _ _ _ _ _ _ Tr hx
   simp only[VR]at xu
   have xu:a.eval x=.string b:=xu.1
   have hex: ∀ vs r w',a.eval s=vs->(Builtin.append_ #[T,T'] o.type #[vs,.string b]).run P w=.ok r w'->(execOp a.eval o).run P w=.ok (.value r) w':=by
    intro vs r w' h1 h3
    unfold execOp
    simp only[ho,resolve,invoke,builtin,Sem.run_bind,Sem.run_pure,Result.andThen_ok,List.map_toArray,List.map_cons,List.map_nil,h1,xu,h3]
   cases hE:(l8 av&&Nat.beq b.size 0)with
   |true=>
    rw[hE]at e
    cases e
    rw[Bool.and_eq_true]at hE
    obtain⟨p,o3⟩:=p7 hE.1 cU
    refine⟨g,w,_,a.eval s,hex _ _ _ rfl ?_,.inl rfl,Ext.refl _ _ _,H,cU⟩
    rw[o3]
    exact j4 w T T' o.type el ie hu xS iN b (Nat.eq_of_beq_eq_true hE.2) p 0 0 (Nat.le_refl _)
   |false=>
    rw[hE]at e
    simp only[cond_false]at e
    rw[<-xx]at e
    refine kA (el:=el) H (xH cU) h0 mR hex (fun hn p ln cap hle=>j4 w T T' o.type el ie hu xS iN b hn p ln cap hle) (fun hn hlen=>?_) e
    refine⟨b.data.toList.map fun b=>Value.int .u8 (b.toNat:Int),bq.Rp g w _,⟨fun hp Bf xw=>?_,fun p bS cY rD Rl Rm hp ee Bf xw=>?_,fun p at_ bS cY cur el' hw hp Bf xw lZ il jF=>?_⟩⟩
    ·have:=run_append_nil_string (P:=P) w T T' o.type el ie zv hu xS iN pC b hp (by omega) (by omega)
     rw[this]
     congr 4
     apply Array.ext'
     simp
    ·have:=Lib.run_append_grow_string (P:=P) w T T' o.type el ie zv hu xS iN pC p bS cY rD Rl Rm b ee (by omega) (growslice_fits (by omega) (by omega))
     rw[this]
     rfl
    ·exact n9 w T T' o.type el ie hu xS iN xx b p at_ bS cY cur el' hw il jF
  ·cases e
 ·cases e
def ze(P:Program)(T T':TypeId)(s x:Operand):dg:=
 match P.underlying T' with
 |some .string=>zd P T T' s x
 | _=>zc P T T' s x
theorem Bi{T T':TypeId}{s x:Operand}(ho:o.op=.call {callee:=.builtin .append,args:= #[s,x],argTypes:= #[T,T']}):ik P o (ze P T T' s x):=by
 unfold ze
 split
 ·exact Bh ho
 ·exact Bg ho
end
end Go.Ab
