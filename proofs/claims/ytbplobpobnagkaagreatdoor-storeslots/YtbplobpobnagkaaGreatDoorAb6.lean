import Derived.Test.YtbplobpobnagkaaGreatDoorAb2
import Derived.Lib.AppendZerosOnto
import Derived.Lib.AppendStr
noncomputable section
namespace Go.Ab
variable [Io]
section
variable {P:Program}{o:Oper}
omit [Io] in
theorem xP(off:Nat): ∀ (l:List Value) (k:Nat) (C:Array Value),off+k+l.length<=C.size->
 (l.zipIdx k).foldl (fun cs (p:Value×Nat)=>cs.setIfInBounds (off+p.2) p.1) C=(C.toList.take (off+k)++l++C.toList.drop (off+k+l.length)).toArray
 | [],k,C,_=>by simp
 |v::l,k,C,h=>by
  simp only[List.length_cons]at h
  rw[List.zipIdx_cons,List.foldl_cons,xP off l (k+1) _ (by simp;omega)]
  have e:=list_seg_step C.toList (off+k) v l (by simp;omega)
  congr 1
  simpa[Array.toList_setIfInBounds,Nat.add_assoc]using e
def lz(g:G)(w:World)(place:Nat->Option (Nat×Nat)):List (Nat×Nat×AV)->List (Nat×Value)->Prop
 | [],l=>l=[]
 |p::r,l=> ∃ i v l',l=(i,v)::l'/\place i=some (p.1,p.2.1)/\VR g w p.2.2 v/\lz g w place r l'
theorem Bc{g w}{place:Nat->Option (Nat×Nat)}: ∀ (ps:List (Nat×Nat×AV)) (qs:List (Nat×Value)) (cs cs':List AV) (C:Array Value),
 lz g w place ps qs->bL g w cs C.toList->xE ps cs=some cs'-> ∃ C',Instr.fill place C qs=some C'/\bL g w cs' C'.toList/\C'.size=C.size
 | [],qs,cs,cs',C,h,hv,e=>by
  simp only[lz]at h
  subst h
  cases e
  exact⟨C,rfl,hv,rfl⟩
 |p::ps,qs,cs,cs',C,h,hv,e=>by
  simp only[lz]at h
  obtain⟨i,v,qs',rfl,hp,hr,h⟩:=h
  change (bif Nat.beq (len p.2.2.cells) p.2.1&&Nat.ble (Nat.add p.1 p.2.1) (len cs)then xE ps (put cs p.1 p.2.2.cells)else none)=some cs' at e
  cases hb:(Nat.beq (len p.2.2.cells) p.2.1&&Nat.ble (Nat.add p.1 p.2.1) (len cs))with
  |false=>rw[hb]at e;cases e
  |true=>
   rw[hb]at e
   simp only[Bool.and_eq_true,bW]at hb
   have h1:=Nat.eq_of_beq_eq_true hb.1
   have h2:p.1+p.2.1<=cs.length:=Nat.ble_eq.mp hb.2
   have hc:=hr.cells
   have hl:=hc.length
   simp only[Array.length_toList]at hl
   have hC:=hv.length
   simp only[Array.length_toList]at hC
   have hn:bL g w (put cs p.1 p.2.2.cells) ((C.toList.take p.1++v.cells.toList++C.toList.drop (p.1+v.cells.toList.length)).toArray).toList:=by
    rw[put_eq]
    simp only[List.append_assoc]
    refine(hv.take _).append (hc.append ?_)
    rw[hc.length]
    exact hv.drop _
   obtain⟨C',Qd,rQ,hs⟩:=Bc ps qs' _ cs' _ h hn e
   refine⟨C',?_,rQ,?_⟩
   ·simp only[Instr.fill,hp]
    rw[if_neg (by simp;omega)]
    rw[<-Qd]
    congr 1
    have hf:=xP p.1 v.cells.toList 0 C (by simp;omega)
    simp only[Nat.add_zero]at hf
    rw[<-hf,<-Array.foldl_toList,Array.toList_zipIdx]
   ·rw[hs]
    simp
    omega
def vE(place:Nat->Option (Nat×Nat))(l:List (Nat×Operand)):Option (List (Nat×Nat×eN)):=
 List.rec (some []) (fun p _ ih=>match place p.1 with
  |some (off,size)=>match ih with
   |some r=>some ((off,size,aQ p.2)::r)
   |none=>none
  |none=>none) l
theorem Ai{g w nt t}{a:Act}(T:TR g w nt t a.tmps){place:Nat->Option (Nat×Nat)}: ∀ (l:List (Nat×Operand)) {ps:List (Nat×Nat×eN)} {vs:List (Nat×Nat×AV)},
 vE place l=some ps->nM ps t=some vs->lz g w place vs (l.map fun p=>(p.1,a.eval p.2))
 | [],ps,vs,h,e=>by
  cases h
  cases e
  simp[lz]
 |p::l,ps,vs,h,e=>by
  change (match place p.1 with|some (off,size)=>(match vE place l with|some r=>some ((off,size,aQ p.2)::r)|none=>none)|none=>none)=some ps at h
  split at h
  ·rename_i off size hp
   split at h
   ·rename_i r hr
    cases h
    change (match aQ p.2 t with|some v=>(match nM r t with|some vs=>some ((off,size,v)::vs)|none=>none)|none=>none)=some vs at e
    split at e
    ·rename_i v hv
     split at e
     ·rename_i us hu
      cases e
      simp only[lz,List.map_cons]
      exact⟨p.1,_,_,rfl,hp,bg p.2 _ _ _ _ _ _ T hv,Ai T l hr hu⟩
     ·cases e
    ·cases e
   ·cases h
  ·cases h
def placesOf(P:Program)(T:TypeId):Option (Nat->Option (Nat×Nat)):=
 match P.underlying T with
 |some (.struct fields)=>match fields.toList.mapM (fun f=>(P.info? f.type).map fun i=>(f.offset,i.size))with
  |some places=>some fun i=>places.toArray[i]?
  |none=>none
 |some (.array _ e)=>match P.info? e with
  |some ie=>some fun i=>some (i*ie.size,ie.size)
  |none=>none
 | _=>none
def zeroOf(P:Program)(T:TypeId):Option (List AV):=
 match P.info? T with
 |some i=>match i.zero with
  |some z=>leaves z.cells.toList
  |none=>none
 |none=>none
def xQ(P:Program)(T:TypeId)(parts:List (Nat×Operand)):eG:=
 match placesOf P T with
 |some place=>match zeroOf P T with
  |some z=>match vE place parts with
   |some ps=>au z ps
   |none=>bP
  |none=>bP
 |none=>bP
theorem iA{T:TypeId}{z:List AV}(h:zeroOf P T=some z): ∃ i zv,P.info? T=some i/\i.zero=some zv/\ ∀ g w,bL g w z zv.cells.toList:=by
 unfold zeroOf at h
 cases hi:P.info? T with
 |none=>rw[hi]at h;cases h
 |some i=>
  rw[hi]at h
  cases hz:i.zero with
  |none=>simp only[hz]at h;cases h
  |some zv=>simp only[hz]at h;exact⟨i,zv,rfl,hz,fun g w=>rR _ h g w⟩
theorem Fs{T:TypeId}{parts:Array (Nat×Operand)}(ho:o.op=.build T parts):bT P o (xQ P T parts.toList):=by
 intro g w nt t h a v h' H Tr e
 unfold xQ at e
 cases hp:placesOf P T with
 |none=>rw[hp]at e;cases e
 |some place=>
 rw[hp]at e
 cases hz:zeroOf P T with
 |none=>simp only[hz]at e;cases e
 |some z=>
 simp only[hz]at e
 cases Q5:vE place parts.toList with
 |none=>simp only[Q5]at e;cases e
 |some ps=>
 simp only[Q5]at e
 unfold au at e
 split at e
 ·rename_i vs eH
  split at e
  ·rename_i cs pD
   cases e
   obtain⟨i,zv,hi,wc,hz⟩:=iA hz
   obtain⟨C',Qd,rQ,_⟩:=Bc vs _ z cs zv.cells (Ai Tr parts.toList Q5 eH) (hz g w) pD
   refine⟨rfl,.agg C',?_,by simp only[VR];exact⟨_,rfl,rQ⟩⟩
   have hb:P.built T ((parts.map fun p=>(p.1,a.eval p.2)).toList)=some C':=by
    unfold placesOf at hp
    unfold Program.built
    split at hp
    ·rename_i fields hu
     split at hp
     ·rename_i places Xn
      cases hp
      simp only[hi,hu,wc,Xn,Array.toList_map]
      exact Qd
     ·cases hp
    ·rename_i n el hu
     split at hp
     ·rename_i ie ny
      cases hp
      simp only[hi,hu,wc,ny,Array.toList_map]
      exact Qd
     ·cases hp
    ·cases hp
   have kB:=run_build (P:=P) w T _ C' hb
   simp only[execOp,ho]
   show((Instr.build T (parts.map fun p=>(p.1,a.eval p.2))>>=fun v=>(pure (.value v):Sem Next))).run P w=_
   simp only[Sem.run_bind,kB,Result.andThen_ok,Sem.run_pure]
  ·cases e
 ·cases e
def mH(P:Program)(o:Oper)(f:eG):Prop:=
 ∀ (g:G) (w:World) (nt:Nat) (t:Tm) (h:Hp) (a:Act) (v:AV) (h':Hp),HR g w h->TR g w nt t a.tmps->f t h=.ok v h'->
  ∃ g' w' nx x,(execOp a.eval o).run P w=.ok nx w'/\(nx=.value x∨(nx=.skip/\x=undef))/\Ext g w h g' w' h'/\HR g' w' h'/\VR g' w' v x
theorem bT.run{f:eG}(h:bT P o f):mH P o f:=by
 intro g w nt t hp a v h' H T e
 obtain⟨rfl,x,hx,hv⟩:=h g w nt t hp a v h' H.toHC T e
 exact⟨g,w,.value x,x,hx,.inl rfl,Ext.refl _ _ _,H,hv⟩
theorem CS{g w h}(H:HR g w h)(ob:Obj):Ext g w h g (w.alloc ob) h/\HR g (w.alloc ob) h:=by
 have hp: ∀ b,b<w.heap.size->(w.alloc ob).heap[b]? =w.heap[b]? :=by
  intro b hb
  show(w.heap.push _)[b]? =_
  rw[Array.getElem?_push,if_neg (by omega)]
 have E:Ext g w h g (w.alloc ob) h:=by
  refine⟨rfl,rfl,rfl,by simp,Nat.le_refl _,fun _ _ e=>e,fun b hb _=>hp b hb,?_,fun _ i=>i,fun _ i=>.inl i,fun _ o=>.inl o⟩
  intro b
  unfold dS
  by_cases hb:b<w.heap.size
  ·rw[hp b hb];exact Nat.le_refl _
  ·rw[Array.getElem?_eq_none (by omega)];exact Nat.zero_le _
 refine⟨E,H.fresh,?_,H.inj,fun b i=>by have:=H.fx b i;simp;omega,nQ.ext H E⟩
 intro id cs e
 obtain⟨b,s,C,el,vs,hm,hw,hi,hv,hc⟩:=H.aP id cs e
 exact⟨b,s,C,el,vs,hm,by rw[hp b (Array.getElem?_eq_some_iff.1 hw).1];exact hw,hi,bL.mono H E _ _ hv,hc⟩
def oi(P:Program)(o:Oper)(f:eG):Prop:=
 ∀ (g:G) (w:World) (nt:Nat) (t:Tm) (h:Hp) (a:Act) (v:AV) (h':Hp),HC g w h->TR g w nt t a.tmps->f t h=.ok v h'->
  (h'=h/\ ∃ x C el,(execOp a.eval o).run P w=.ok (.value x) (w.alloc (.cells C el))/\ ∀ g' w',VR g' w' v x)∨
  (∃ cs C el vs x,h'=dy h cs/\(execOp a.eval o).run P w=.ok (.value x) (w.alloc (.cells C el))/\bL g w cs.toL vs/\(∀ (j:Nat) (v:Value),vs[j]? =some v->C[j]? =some v)/\
   ∀ g' w',g'.m h.next=some (w.heap.size,0)->C.size<=dS w' w.heap.size->VR g' w' v x)
omit [Io] in
theorem sI(w:World)(C:Array Value)(el:TypeId):dS (w.alloc (.cells C el)) w.heap.size=C.size:=by
 have:(w.alloc (.cells C el)).heap[w.heap.size]? =some (.cells C el):=by
  show(w.heap.push _)[w.heap.size]? =_
  simp
 exact jM this
theorem oi.run{f:eG}(h:oi P o f):mH P o f:=by
 intro g w nt t hp a v h' H T e
 rcases h g w nt t hp a v h' H.toHC T e with⟨rfl,x,C,el,hr,hv⟩|⟨cs,C,el,vs,x,rfl,hr,eH,hc,hv⟩
 ·obtain⟨E,H'⟩:=CS H (.cells C el)
  exact⟨g,_,.value x,x,hr,.inl rfl,E,H',hv _ _⟩
 ·obtain⟨E,H'⟩:=xg H (C:=C) el eH hc
  exact⟨_,_,.value x,x,hr,.inl rfl,E,H',hv _ _ (by simp[G.add]) (by rw[sI];exact Nat.le_refl _)⟩
theorem Lc{g:G}{w:World}{id b:Nat}(hm:g.m id=some (b,0)):VR g w (.ref id 0) (.pointer (some ⟨b,0,none⟩)):=by
 simp only[VR]
 exact⟨b,0,hm,rfl⟩
theorem Ld{g:G}{w:World}{id b n c sz m:Nat}(hm:g.m id=some (b,0))(hn:n<=c)(hc:c*sz<=m)(hr:m<=dS w b):VR g w (.ff id 0 n sz) (.slice (some ⟨b,0,none⟩) n c):=by
 simp only[VR]
 exact .inr ⟨b,0,c,hm,rfl,hn,by omega⟩
theorem Le{g:G}{w:World}{b:Addr}:VR g w .qk (.slice (some b) 0 0):=by
 simp only[VR]
 exact⟨_,rfl⟩
theorem Lg{T:TypeId}{z:List AV}(ho:o.op=.alloc T)(hz:zeroOf P T=some z):oi P o (dJ z):=by
 intro g w nt t h a v h' H Tr e
 cases e
 obtain⟨i,zv,hi,wc,hz⟩:=iA hz
 refine .inr ⟨xe z,zv.cells,T,zv.cells.toList,.pointer (some ⟨w.heap.size,0,none⟩),rfl,?_,by rw[iO];exact hz g w,fun j v e=>by simpa using e,fun g' w' hm _=>Lc hm⟩
 simp[execOp,ho,Instr.alloc,zeroValue,typeInfo,hi,wc,newVar,newRow]
theorem Lh{T:TypeId}{x:Operand}(ho:o.op=.box T x):oi P o (dV (aQ x)):=by
 intro g w nt t h a v h' H Tr e
 unfold dV at e
 split at e
 ·rename_i av hx
  cases e
  have hv:=bg x _ _ _ _ _ _ Tr hx
  refine .inr ⟨_,(a.eval x).cells,T,_,.pointer (some ⟨w.heap.size,0,none⟩),rfl,?_,by rw[iO];exact hv.cells,fun j v e=>by simpa using e,fun g' w' hm _=>Lc hm⟩
  simp[execOp,ho,Instr.box,newVar,newRow]
 ·cases e
end
end Go.Ab

noncomputable section
namespace Go.Ab
variable [Io]
section
variable {P:Program}{o:Oper}
omit [Io] in
theorem Aj(z:List Value): ∀ c:Nat,(List.range (c*z.length)).map (fun j=>z.toArray[j % z.length]!)=(List.replicate c z).flatten
 |0=>by simp
 |c+1=>by
  rw[Nat.succ_mul,Nat.add_comm,List.range_add,List.map_append,List.replicate_succ,List.flatten_cons,<-Aj z c,List.map_map]
  congr 1
  ·apply List.ext_getElem?
   intro j
   by_cases hj:j<z.length
   ·have:j % z.length=j:=Nat.mod_eq_of_lt hj
    simp[hj,this]
   ·rw[List.getElem?_eq_none (by simp;omega),List.getElem?_eq_none (by omega)]
  ·apply List.map_congr_left
   intro j _
   simp[Function.comp]
omit [Io] in
theorem qU(z:Array Value)(c:Nat):((Array.range (c*z.size)).map (fun j=>z[j % z.size]!)).toList=(List.replicate c z.toList).flatten:=by
 rw[Array.toList_map,Array.toList_range]
 exact Aj z.toList c
def lA(g:G)(w:World):List (Nat×AV)->List (Nat×Value)->Prop
 | [],l=>l=[]
 |p::r,l=> ∃ v l',l=(p.1,v)::l'/\VR g w p.2 v/\lA g w r l'
theorem CT{g w size}: ∀ (ps:List (Nat×AV)) (i:Nat) (r:List AV) (qs:List (Nat×Value)) (C:Array Value),tW size ps i=some r->lA g w ps qs->
 (i+ps.length)*size<=C.size-> ∃ C' us,Instr.fill (fun i=>some (i*size,size)) C qs=some C'/\bL g w r us/\us.length=ps.length*size/\
  C'.toList=C.toList.take (i*size)++us++C.toList.drop ((i+ps.length)*size)
 | [],i,r,qs,C,e,h,hC=>by
  simp only[lA]at h
  subst h
  cases e
  exact⟨C,[],rfl,by simp[bL],by simp,by simp⟩
 |p::ps,i,r,qs,C,e,h,hC=>by
  simp only[lA]at h
  obtain⟨v,qs',rfl,hr,h⟩:=h
  change (bif Nat.beq p.1 i&&Nat.beq (len p.2.cells) size then(match tW size ps (Nat.add i 1)with|some r=>some (app p.2.cells r)|none=>none)else none)=some r at e
  cases hb:(Nat.beq p.1 i&&Nat.beq (len p.2.cells) size)with
  |false=>rw[hb]at e;cases e
  |true=>
   rw[hb]at e
   simp only[Bool.and_eq_true,bW]at hb
   have h1:=Nat.eq_of_beq_eq_true hb.1
   have h2:=Nat.eq_of_beq_eq_true hb.2
   change (match tW size ps (i+1)with|some r=>some (app p.2.cells r)|none=>none)=some r at e
   split at e
   ·rename_i r' hr'
    cases e
    have hc:=hr.cells
    have hl:=hc.length
    rw[h2]at hl
    have e1:(i+(ps.length+1))*size=i*size+size+ps.length*size:=by rw[Nat.add_mul,Nat.add_mul];omega
    have hC1:i*size+size+ps.length*size<=C.size:=by rw[List.length_cons,e1]at hC;exact hC
    have hl':v.cells.size=size:=by simpa using hl
    have hf:=xP (i*size) v.cells.toList 0 C (by rw[hl];omega)
    simp only[Nat.add_zero,hl]at hf
    have sr:(C.toList.take (i*size)++v.cells.toList++C.toList.drop (i*size+size)).toArray.size=C.size:=by
     simp;omega
    obtain⟨C',us,Qd,Cz,hlen,Ft⟩:=CT ps (i+1) r' qs' (C.toList.take (i*size)++v.cells.toList++C.toList.drop (i*size+size)).toArray hr' h (by
     rw[sr,show(i+1+ps.length)*size=i*size+size+ps.length*size from by rw[Nat.add_mul,Nat.add_mul];omega];exact hC1)
    refine⟨C',v.cells.toList++us,?_,?_,?_,?_⟩
    ·rw[h1]
     simp only[Instr.fill]
     rw[if_neg (by simp[hl'];omega)]
     rw[<-Qd,<-hf,<-Array.foldl_toList,Array.toList_zipIdx]
    ·rw[bp];exact hc.append Cz
    ·rw[List.length_append,hl,hlen,List.length_cons,Nat.succ_mul];omega
    ·rw[Ft]
     simp only[List.append_assoc]
     have d1:(i+1)*size=i*size+size:=by rw[Nat.add_mul];omega
     rw[d1,show(i+1+ps.length)*size=i*size+size+ps.length*size from by rw[Nat.add_mul,Nat.add_mul];omega,List.length_cons,e1]
     have t1:(C.toList.take (i*size)).length=i*size:=by simp;omega
     have:(C.toList.take (i*size)++(v.cells.toList++C.toList.drop (i*size+size)))=(C.toList.take (i*size)++v.cells.toList)++C.toList.drop (i*size+size):=by simp
     rw[this]
     have t2:(C.toList.take (i*size)++v.cells.toList).length=i*size+size:=by rw[List.length_append,t1,hl]
     rw[List.take_append_of_le_length (by omega),List.take_of_length_le (by omega)]
     rw[List.drop_append,List.drop_eq_nil_of_le (by omega),t2,List.drop_drop,List.nil_append,List.append_assoc]
     congr 4
     omega
   ·cases e
def pF(l:List (Nat×Operand)):List (Nat×eN):=l.map fun p=>(p.1,aQ p.2)
theorem Ak{g w nt t}{a:Act}(T:TR g w nt t a.tmps): ∀ (l:List (Nat×Operand)) {vs:List (Nat×AV)},nL (pF l) t=some vs->lA g w vs (l.map fun p=>(p.1,a.eval p.2))
 | [],vs,e=>by cases e;simp[lA]
 |p::l,vs,e=>by
  change (match aQ p.2 t with|some v=>(match nL (pF l) t with|some vs=>some ((p.1,v)::vs)|none=>none)|none=>none)=some vs at e
  split at e
  ·rename_i v hv
   split at e
   ·rename_i us hu
    cases e
    simp only[lA,List.map_cons]
    exact⟨_,_,rfl,bg p.2 _ _ _ _ _ _ T hv,Ak T l hu⟩
   ·cases e
  ·cases e
theorem uh{g w size}: ∀ {ps:List (Nat×AV)} {qs:List (Nat×Value)},lA g w ps qs->lz g w (fun i=>some (i*size,size)) (scale size ps) qs
 | [],qs,h=>by simp only[lA]at h;subst h;show lz g w _ [] [];simp[lz]
 |p::ps,qs,h=>by
  simp only[lA]at h
  obtain⟨v,l',rfl,hv,h⟩:=h
  show lz g w _ ((Nat.mul p.1 size,size,p.2)::scale size ps) _
  simp only[lz]
  exact⟨p.1,v,l',rfl,rfl,hv,uh h⟩
theorem Fu{g w n size}{z:List AV}{zv:List Value}{ps:List (Nat×AV)}{qs:List (Nat×Value)}{cs:List AV}(C:Array Value)(h:lA g w ps qs)
 (hz:bL g w (fW n z) C.toList)(hC:C.size=n*size)(e:rO n size z ps=some cs)(_:zv=zv):
 ∃ C',Instr.fill (fun i=>some (i*size,size)) C qs=some C'/\bL g w cs C'.toList/\C'.size=C.size:=by
 unfold rO at e
 split at e
 ·rename_i cs' pD
  cases e
  cases hb:Nat.beq (len ps) n with
  |false=>rw[hb]at pD;cases pD
  |true=>
   rw[hb]at pD
   rw[bW]at hb
   have hl:=Nat.eq_of_beq_eq_true hb
   obtain⟨C',us,Qd,Cz,hlen,Ft⟩:=CT ps 0 _ qs C pD h (by rw[hC,Nat.zero_add,hl];exact Nat.le_refl _)
   have ht:C'.toList=us:=by
    rw[Ft]
    simp only[Nat.zero_mul,List.take_zero,List.nil_append,Nat.zero_add]
    rw[List.drop_eq_nil_of_le (by rw[hl,<-hC];simp),List.append_nil]
   refine⟨C',Qd,by rw[ht];exact Cz,?_⟩
   have:C'.toList.length=C'.size:=by simp
   rw[<-this,ht,hlen,hl,hC]
 ·exact Bc _ _ _ _ C (uh h) hz e
def Li(P:Program)(T:TypeId)(n:Nat)(parts:List (Nat×Operand)):eG:=
 match P.underlying T with
 |some (.slice e)=>match P.info? e with
  |some ie=>match zeroOf P e with
   |some z=>il (Nat.beq (len z) ie.size&&(Nat.ble (Nat.mul n ie.size) 16777216&&Nat.blt 0 ie.size)) (bC n ie.size z (pF parts)) bP
   |none=>bP
  |none=>bP
 | _=>bP
theorem Lj{T:TypeId}{n:Nat}{parts:Array (Nat×Operand)}(ho:o.op=.buildSlice T n parts):oi P o (Li P T n parts.toList):=by
 intro g w nt t h a v h' H Tr e
 unfold Li at e
 cases hu:P.underlying T with
 |none=>rw[hu]at e;cases e
 |some d=>
 rw[hu]at e
 cases d<;>try (cases e;done)
 rename_i el
 simp only at e
 cases ny:P.info? el with
 |none=>rw[ny]at e;cases e
 |some ie=>
 rw[ny]at e
 cases hz:zeroOf P el with
 |none=>simp only[hz]at e;cases e
 |some z=>
 simp only[hz]at e
 cases hb:(Nat.beq (len z) ie.size&&(Nat.ble (Nat.mul n ie.size) 16777216&&Nat.blt 0 ie.size))with
 |false=>rw[hb]at e;cases e
 |true=>
 rw[hb]at e
 simp only[Bool.and_eq_true,bW]at hb
 have hzl:=Nat.eq_of_beq_eq_true hb.1
 have hsm:n*ie.size<=16777216:=Nat.ble_eq.mp hb.2.1
 have h0:0<ie.size:=bO.1 hb.2.2
 obtain⟨i,zv,hi,wc,Hf⟩:=iA hz
 obtain rfl:ie=i:=by rw[ny]at hi;exact Option.some.inj hi
 change bC n ie.size z (pF parts.toList) t h=.ok v h' at e
 unfold bC at e
 split at e
 ·rename_i vs eH
  have Q5:=Ak Tr parts.toList eH
  have ui:zv.cells.size=ie.size:=by
   have:=(Hf g w).length
   simp only[Array.length_toList]at this
   omega
  cases hn:Nat.beq n 0 with
  |true=>
   rw[hn]at e
   obtain rfl:=Nat.eq_of_beq_eq_true hn
   cases vs with
   |cons _ _=>cases e
   |nil=>
    cases e
    simp only[lA,List.map_eq_nil_iff,Array.toList_eq_nil_iff]at Q5
    subst Q5
    refine .inl ⟨rfl,.slice (some ⟨w.heap.size,0,none⟩) 0 0,#[],el,?_,fun _ _=>Le⟩
    ·simp[execOp,ho,Instr.buildSlice,run_underlying hu,sizeOf,typeInfo,ny,Instr.fill,newRow,Array.range_zero']
  |false=>
   rw[hn]at e
   have Vw:n≠0:=fun k=>by subst k;cases hn
   have hns:n*ie.size≠0:=Nat.mul_ne_zero Vw (by omega)
   simp only[cond_false]at e
   split at e
   ·rename_i cs pD
    cases e
    have Lk:bL g w (fW n z) ((Array.range (n*ie.size)).map (fun j=>zv.cells[j % zv.cells.size]!)).toList:=by
     rw[<-ui,qU]
     exact(Hf g w).repeat n
    obtain⟨C',Qd,rQ,hs⟩:=Fu (zv:=[]) _ Q5 Lk (by simp) pD rfl
    refine .inr ⟨xe cs,C',el,C'.toList,.slice (some ⟨w.heap.size,0,none⟩) n n,rfl,?_,by rw[iO];exact rQ,fun j v e=>by simpa using e,
     fun g' w' hm hr=>Ld hm (Nat.le_refl _) (by rw[hs];simp) hr⟩
    have aib: ¬ 16777216<n*ie.size:=by omega
    simp only[execOp,ho]
    show((Instr.buildSlice T n (parts.map fun p=>(p.1,a.eval p.2))>>=fun v=>(pure (.value v):Sem Next))).run P w=_
    simp[Instr.buildSlice,run_underlying hu,sizeOf,typeInfo,ny,zeroValue,wc,aib,hns,Qd,newRow]
   ·cases e
 ·cases e
def CU(P:Program)(T:TypeId)(l c:Operand):eG:=
 match P.underlying T with
 |some (.slice e)=>match P.info? e with
  |some ie=>match zeroOf P e with
   |some z=>il (Nat.beq (len z) ie.size&&Nat.blt 0 ie.bytes) (oe ie.size ie.bytes z (aQ l) (aQ c)) bP
   |none=>bP
  |none=>bP
 | _=>bP
theorem IX{T:TypeId}{l c:Operand}(ho:o.op=.makeSlice T l c):oi P o (CU P T l c):=by
 intro g w nt t h a v h' H Tr e
 unfold CU at e
 cases hu:P.underlying T with
 |none=>rw[hu]at e;cases e
 |some d=>
 rw[hu]at e
 cases d<;>try (cases e;done)
 rename_i el
 simp only at e
 cases ny:P.info? el with
 |none=>rw[ny]at e;cases e
 |some ie=>
 rw[ny]at e
 cases hz:zeroOf P el with
 |none=>simp only[hz]at e;cases e
 |some z=>
 simp only[hz]at e
 cases hb:(Nat.beq (len z) ie.size&&Nat.blt 0 ie.bytes)with
 |false=>rw[hb]at e;cases e
 |true=>
 rw[hb]at e
 simp only[Bool.and_eq_true,bW]at hb
 have hzl:=Nat.eq_of_beq_eq_true hb.1
 have h0:0<ie.bytes:=bO.1 hb.2
 obtain⟨i,zv,hi,wc,Hf⟩:=iA hz
 obtain rfl:ie=i:=by rw[ny]at hi;exact Option.some.inj hi
 have ui:zv.cells.size=ie.size:=by
  have:=(Hf g w).length
  simp only[Array.length_toList]at this
  omega
 change oe ie.size ie.bytes z (aQ l) (aQ c) t h=.ok v h' at e
 unfold oe at e
 split at e
 ·rename_i kl ln hl
  split at e
  ·rename_i kc cn hc
   have hvl:=bg l _ _ _ _ _ _ Tr hl
   have hvc:=bg c _ _ _ _ _ _ Tr hc
   simp only[VR]at hvl hvc
   cases hle:(Nat.ble ln cn&&Nat.ble (Nat.mul cn ie.bytes) 70368744177664)with
   |false=>rw[hle]at e;cases e
   |true=>
    rw[hle]at e
    simp only[Bool.and_eq_true]at hle
    have h1:ln<=cn:=Nat.ble_eq.mp hle.1
    have h2:cn*ie.bytes<=70368744177664:=Nat.ble_eq.mp hle.2
    have h3:cn<=cn*ie.bytes:=Nat.le_mul_of_pos_right _ h0
    have hr:=run_make (P:=P) w T el ie zv hu ny wc kl kc (Int.ofNat ln) (Int.ofNat cn) (Int.natCast_nonneg ln) (by show((ln:Nat):Int)<=(cn:Nat);omega) (by
     show((ie.bytes:Nat):Int)*((cn:Nat):Int)<=_
     rw[<-Int.natCast_mul,Nat.mul_comm];omega) (by show((cn:Nat):Int)<=_;omega)
    have hex:(execOp a.eval o).run P w=.ok (.value (.slice (some ⟨w.heap.size,0,none⟩) ln cn)) (w.alloc (.cells (madeCells zv.cells (cn*ie.size)) el)):=by
     simp only[execOp,ho,hvl,hvc,Sem.run_bind,hr,Result.andThen_ok,Sem.run_pure]
     rfl
    cases hc0:Nat.beq cn 0 with
    |true=>
     rw[hc0]at e
     cases e
     obtain rfl:=Nat.eq_of_beq_eq_true hc0
     obtain rfl:ln=0:=by omega
     exact .inl ⟨rfl,_,_,_,hex,fun _ _=>Le⟩
    |false=>
     rw[hc0]at e
     cases e
     have Lk:bL g w (fW cn z) (madeCells zv.cells (cn*ie.size)).toList:=by
      unfold madeCells
      rw[<-ui,qU]
      exact(Hf g w).repeat cn
     exact .inr ⟨_,_,_,_,_,rfl,hex,by rw[Ha];exact Lk,fun j v e=>by simpa using e,fun g' w' hm hr=>Ld hm h1 (by rw[size_madeCells];exact Nat.le_refl _) hr⟩
  ·cases e
 ·cases e
end
end Go.Ab

noncomputable section
namespace Go.Ab
variable [Io]
section
variable {P:Program}{o:Oper}
theorem CV{g w h}(H:HR g w h):Ext g w h g w.drew h/\HR g w.drew h:=by
 have E:Ext g w h g w.drew h:=
  ⟨rfl,rfl,rfl,Nat.le_refl _,Nat.le_refl _,fun _ _ e=>e,fun _ _ _=>rfl,fun _=>Nat.le_refl _,fun _ i=>i,fun _ i=>.inl i,fun _ o=>.inl o⟩
 refine⟨E,H.fresh,?_,H.inj,H.fx,nQ.ext H E⟩
 intro id cs e
 obtain⟨b,s,C,el,vs,hm,hw,hi,hv,hc⟩:=H.aP id cs e
 exact⟨b,s,C,el,vs,hm,hw,hi,bL.mono H E _ _ hv,hc⟩
theorem Ll{g w h}(H:HR g w h)(id:Nat):Ext g w h g w (jE h id none)/\HR g w (jE h id none):=by
 have hg: ∀ i,(jE h id none).aP.get i=if i=id then none else h.aP.get i:=fun i=>Tr.j2 _ _ _ _
 have E:Ext g w h g w (jE h id none):=by
  refine⟨rfl,rfl,rfl,Nat.le_refl _,Nat.le_refl _,fun _ _ e=>e,fun _ _ _=>rfl,fun _=>Nat.le_refl _,fun _ i=>i,fun _ i=>.inl i,?_⟩
  rintro b ⟨i,cs,s,e,m⟩
  rw[hg]at e
  by_cases hi:i=id
  ·rw[if_pos hi]at e;cases e
  ·rw[if_neg hi]at e
   exact .inl ⟨i,cs,s,e,m⟩
 refine⟨E,H.fresh,?_,?_,H.fx,nQ.ext H E⟩
 ·intro i cs e
  rw[hg]at e
  by_cases hi:i=id
  ·rw[if_pos hi]at e;cases e
  ·rw[if_neg hi]at e
   obtain⟨b,s,C,el,vs,hm,hw,hi,hv,hc⟩:=H.aP i cs e
   exact⟨b,s,C,el,vs,hm,hw,hi,bL.mono H E _ _ hv,hc⟩
 ·intro i i' b s s' c1 c2 e1 e2
  rw[hg]at e1 e2
  by_cases h1:i=id
  ·rw[if_pos h1]at e1;cases e1
  ·by_cases h2:i'=id
   ·rw[if_pos h2]at e2;cases e2
   ·rw[if_neg h1]at e1
    rw[if_neg h2]at e2
    exact H.inj i i' b s s' c1 c2 e1 e2
omit [Io] in
theorem ey(P:Program)(g o:Nat)(t:TypeId)(fz:Nat×Nat): ∀ (vs:List Value) (i:Nat) (cur:Array Value) (w:World),w.heap[g]? =some (.cells cur t fz)->(∀ i,i<cur.size-> ¬ (fz.1<=i/\i<fz.2))->
 o+i+vs.length<=cur.size->(∀ v∈vs,v.oneCell'=true)->
 (storeCells ⟨g,o,none⟩ vs i).run P w=.ok () (w.setRow g (cur.toList.take (o+i)++vs++cur.toList.drop (o+i+vs.length)).toArray)
 | [],i,cur,w,hg,_,_,_=>by
  simp only[storeCells,List.append_nil,List.length_nil,Nat.add_zero,List.take_append_drop,Array.toArray_toList]
  rw[setRow_self w g cur t fz hg]
  rfl
 |v::rest,i,cur,w,hg,hfz,hl,h1=>by
  have hi:o+i<cur.size:=by simp at hl;omega
  have aid:(⟨g,o,none⟩:Addr).add i=⟨g,o+i,none⟩:=by unfold Addr.add;split<;>simp_all
  have acI:w.cell? ⟨g,o+i,none⟩=some cur[o+i]:=by simp[World.cell?,hg,hi]
  have aie:w.frozen? ⟨g,o+i,none⟩=false:=by
   have:=hfz (o+i) hi
   obtain⟨lo,vw⟩:=fz
   simp only[World.frozen?,hg]
   simp only at this
   rw[Bool.eq_false_iff]
   intro h
   simp only[Bool.and_eq_true,decide_eq_true_eq]at h
   exact this h
  have xj:(store ((⟨g,o,none⟩:Addr).add i) v).run P w=.ok () (w.setRow g (cur.setIfInBounds (o+i) v)):=by
   rw[aid,run_store P w _ v _ (h1 v (by simp)),acI]
   simp[aie,setCell_eq_setRow w g (o+i) cur t fz v hg]
  have ih:=ey P g o t fz rest (i+1) (cur.setIfInBounds (o+i) v) (w.setRow g (cur.setIfInBounds (o+i) v)) (setRow_heap w g cur _ t _ hg) (by simpa using hfz) (by simp at hl ⊢;omega) (fun x hx=>h1 x (by simp[hx]))
  simp only[storeCells,Sem.run_bind,xj,Result.andThen_ok,ih,setRow_setRow]
  congr 3
  have e:=list_seg_step cur.toList (o+i) v rest (by simp at hl ⊢;omega)
  simpa[Array.toList_setIfInBounds,Nat.add_assoc]using e
omit [Io] in
theorem gJ{w:World}{b:Nat}{C C':Array Value}{el:TypeId}{fz:Nat×Nat}(hw:w.heap[b]? =some (.cells C el fz))(k:Nat):
 (w.setRow b C').heap[k]? =if k=b then some (.cells C' el fz)else w.heap[k]? :=by
 by_cases hk:k=b
 ·subst hk;rw[if_pos rfl];exact setRow_heap w k C C' el fz hw
 ·rw[if_neg hk];exact setRow_other w b k C' hk
theorem IY{g w h}(H:HR g w h){id b s s':Nat}{cs cs':Rw}{C C':Array Value}{el:FT C}{us:List Value}(he:h.aP.get id=some cs)(hm:g.m id=some (b,s))
 (hw:w.heap[b]? =some (.cells C el.el el.fz))(hs:C'.size=C.size)(hv:bL g w cs'.toL us)(hc: ∀ (j:Nat) (v:Value),us[j]? =some v->C'[s'+j]? =some v):
 Ext g w h ⟨fun i=>if i=h.next then some (b,s')else g.m i,g.fx⟩ (w.setRow b C') (dy (jE h id none) cs')/\
  HR ⟨fun i=>if i=h.next then some (b,s')else g.m i,g.fx⟩ (w.setRow b C') (dy (jE h id none) cs'):=by
 have Vx:j1 g h b:=⟨id,cs,s,he,hm⟩
 have hg: ∀ i,(dy (jE h id none) cs').aP.get i=if i=h.next then some cs' else if i=id then none else h.aP.get i:=by
  intro i
  show((h.aP.set id none).set h.next (some cs')).get i=_
  rw[Tr.j2,Tr.j2]
 have jR: ∀ i x,g.m i=some x->i≠h.next:=by
  intro i x e hi
  rw[H.fresh i (by omega)]at e;cases e
 have E:Ext g w h ⟨fun i=>if i=h.next then some (b,s')else g.m i,g.fx⟩ (w.setRow b C') (dy (jE h id none) cs'):=by
  refine⟨rfl,rfl,rfl,by simp,Nat.le_succ _,?_,?_,?_,fun _ i=>i,fun _ i=>.inl i,?_⟩
  ·intro i x e
   simp only[if_neg (jR i x e)]
   exact e
  ·intro k _ ho
   rw[gJ hw,if_neg]
   rintro rfl
   exact ho Vx
  ·intro k
   unfold dS
   rw[gJ hw]
   by_cases hk:k=b
   ·subst hk;simp[hw,hs]
   ·rw[if_neg hk];exact Nat.le_refl _
  ·rintro k ⟨i,c,q,e,m⟩
   rw[hg]at e
   by_cases hi:i=h.next
   ·simp only[if_pos hi]at m
    obtain⟨rfl,_⟩:=Prod.mk.inj (Option.some.inj m)
    exact .inl Vx
   ·rw[if_neg hi]at e
    simp only[if_neg hi]at m
    by_cases h2:i=id
    ·rw[if_pos h2]at e;cases e
    ·rw[if_neg h2]at e
     exact .inl ⟨i,c,q,e,m⟩
 refine⟨E,?_,?_,?_,?_,nQ.ext H E⟩
 ·intro i hi
  have vw:h.next+1<=i:=hi
  simp only
  rw[if_neg (by omega)]
  exact H.fresh i (by omega)
 ·intro i c e
  rw[hg]at e
  by_cases hi:i=h.next
  ·rw[if_pos hi]at e
   cases e
   exact⟨b,s',C',el.to hs,us,by simp[hi],by rw[gJ hw,if_pos rfl];rfl,fun k=>H.my k Vx,bL.mono H E _ _ hv,hc⟩
  ·rw[if_neg hi]at e
   by_cases h2:i=id
   ·rw[if_pos h2]at e;cases e
   ·rw[if_neg h2]at e
    obtain⟨b2,s2,C2,Xo,Lm,IZ,Ln,Kz,Vy,Vz⟩:=H.aP i c e
    have CW:b2≠b:=by
     rintro rfl
     exact h2 (H.inj i id b2 s2 s c cs e he IZ hm)
    exact⟨b2,s2,C2,Xo,Lm,by simp only[if_neg hi];exact IZ,by rw[gJ hw,if_neg CW];exact Ln,Kz,bL.mono H E _ _ Vy,Vz⟩
 ·intro i i' k q q' c1 c2 e1 e2 m1 m2
  rw[hg]at e1 e2
  have so: ∀ i c q,i≠h.next->(if i=id then none else h.aP.get i)=some c->g.m i=some (b,q)->False:=by
   intro i c q _ e m
   by_cases h2:i=id
   ·rw[if_pos h2]at e;cases e
   ·rw[if_neg h2]at e
    exact h2 (H.inj i id b q s c cs e he m hm)
  by_cases h1:i=h.next<;>by_cases h2:i'=h.next
  ·exact h1.trans h2.symm
  ·rw[if_neg h2]at e2
   simp only[if_pos h1]at m1
   simp only[if_neg h2]at m2
   obtain⟨rfl,_⟩:=Prod.mk.inj (Option.some.inj m1)
   exact(so i' _ _ h2 e2 m2).elim
  ·rw[if_neg h1]at e1
   simp only[if_neg h1]at m1
   simp only[if_pos h2]at m2
   obtain⟨rfl,_⟩:=Prod.mk.inj (Option.some.inj m2)
   exact(so i _ _ h1 e1 m1).elim
  ·rw[if_neg h1]at e1
   rw[if_neg h2]at e2
   simp only[if_neg h1]at m1
   simp only[if_neg h2]at m2
   by_cases k1:i=id
   ·rw[if_pos k1]at e1;cases e1
   ·by_cases k2:i'=id
    ·rw[if_pos k2]at e2;cases e2
    ·rw[if_neg k1]at e1
     rw[if_neg k2]at e2
     exact H.inj i i' k q q' c1 c2 e1 e2 m1 m2
 ·intro k i
  have:=H.fx k i
  simp
  omega
theorem Lo{g w h}(H:HR g w h){w':World}{id b s:Nat}{cs:Rw}{C:Array Value}{el el':FT C}(he:h.aP.get id=some cs)(hm:g.m id=some (b,s))
 (hw:w.heap[b]? =some (.cells C el.el el.fz))(h1:w'.os=w.os)(h2:w'.tape=w.tape)(h3:w'.output=w.output)(h4:w'.heap.size=w.heap.size)
 (hp: ∀ k,w'.heap[k]? =if k=b then some (.cells C el'.el el'.fz)else w.heap[k]?):Ext g w h g w' h/\HR g w' h:=by
 have Vx:j1 g h b:=⟨id,cs,s,he,hm⟩
 have E:Ext g w h g w' h:=by
  refine⟨h1,h2,h3,by omega,Nat.le_refl _,fun _ _ e=>e,?_,?_,fun _ i=>i,fun _ i=>.inl i,fun _ o=>.inl o⟩
  ·intro k _ ho
   rw[hp,if_neg]
   rintro rfl
   exact ho Vx
  ·intro k
   unfold dS
   rw[hp]
   by_cases hk:k=b
   ·subst hk;simp[hw]
   ·rw[if_neg hk];exact Nat.le_refl _
 refine⟨E,H.fresh,?_,H.inj,?_,nQ.ext H E⟩
 ·intro i c e
  obtain⟨b2,s2,C2,Xo,Lm,IZ,Ln,Kz,Vy,Vz⟩:=H.aP i c e
  by_cases CW:b2=b
  ·subst CW
   rw[hw]at Ln
   injection Ln with Ln
   injection Ln with e1 e2 e3
   subst e1
   exact⟨b2,s2,C,el',Lm,IZ,by rw[hp,if_pos rfl],Kz,bL.mono H E _ _ Vy,Vz⟩
  ·exact⟨b2,s2,C2,Xo,Lm,IZ,by rw[hp,if_neg CW];exact Ln,Kz,bL.mono H E _ _ Vy,Vz⟩
 ·intro k i
  have:=H.fx k i
  omega
theorem Al{g w h}(H:HR g w h){id b s:Nat}{cs cs':Rw}{C C':Array Value}{el:FT C}{us:List Value}(he:h.aP.get id=some cs)(hm:g.m id=some (b,s))
 (hw:w.heap[b]? =some (.cells C el.el el.fz))(hs:C'.size=C.size)(hv:bL g w cs'.toL us)(hc: ∀ (j:Nat) (v:Value),us[j]? =some v->C'[s+j]? =some v):
 Ext g w h g (w.setRow b C') (jE h id (some cs'))/\HR g (w.setRow b C') (jE h id (some cs')):=by
 have Vx:j1 g h b:=⟨id,cs,s,he,hm⟩
 have hg: ∀ i,(jE h id (some cs')).aP.get i=if i=id then some cs' else h.aP.get i:=fun i=>Tr.j2 _ _ _ _
 have live: ∀ i c,(if i=id then some cs' else h.aP.get i)=some c-> ∃ c',h.aP.get i=some c':=by
  intro i c e
  by_cases hi:i=id
  ·exact⟨cs,by rw[hi];exact he⟩
  ·rw[if_neg hi]at e;exact⟨c,e⟩
 have E:Ext g w h g (w.setRow b C') (jE h id (some cs')):=by
  refine⟨rfl,rfl,rfl,by simp,Nat.le_refl _,fun _ _ e=>e,?_,?_,fun _ i=>i,fun _ i=>.inl i,?_⟩
  ·intro k _ ho
   rw[gJ hw,if_neg]
   rintro rfl
   exact ho Vx
  ·intro k
   unfold dS
   rw[gJ hw]
   by_cases hk:k=b
   ·subst hk;simp[hw,hs]
   ·rw[if_neg hk];exact Nat.le_refl _
  ·rintro k ⟨i,c,q,e,m⟩
   rw[hg]at e
   obtain⟨c',e'⟩:=live i c e
   exact .inl ⟨i,c',q,e',m⟩
 refine⟨E,H.fresh,?_,?_,?_,nQ.ext H E⟩
 ·intro i c e
  rw[hg]at e
  by_cases hi:i=id
  ·rw[if_pos hi]at e
   cases e
   exact⟨b,s,C',el.to hs,us,by rw[hi];exact hm,by rw[gJ hw,if_pos rfl];rfl,fun k=>H.my k Vx,bL.mono H E _ _ hv,hc⟩
  ·rw[if_neg hi]at e
   obtain⟨b2,s2,C2,Xo,Lm,IZ,Ln,Kz,Vy,Vz⟩:=H.aP i c e
   have CW:b2≠b:=by
    rintro rfl
    exact hi (H.inj i id b2 s2 s c cs e he IZ hm)
   exact⟨b2,s2,C2,Xo,Lm,IZ,by rw[gJ hw,if_neg CW];exact Ln,Kz,bL.mono H E _ _ Vy,Vz⟩
 ·intro i i' k q q' c1 c2 e1 e2 m1 m2
  rw[hg]at e1 e2
  obtain⟨c1',Q6⟩:=live i c1 e1
  obtain⟨c2',e2'⟩:=live i' c2 e2
  exact H.inj i i' k q q' c1' c2' Q6 e2' m1 m2
 ·intro k i
  have:=H.fx k i
  simp
  omega
omit [Io] in
theorem Hg{C:Array Value}{s off:Nat}{us ns:List Value}(hc: ∀ (j:Nat) (v:Value),us[j]? =some v->C[s+j]? =some v)(h:s+off+ns.length<=C.size):
 ∀ (j:Nat) (v:Value),(us.take off++(ns++us.drop (off+ns.length)))[j]? =some v->
  off<=us.length->(C.toList.take (s+off)++ns++C.toList.drop (s+off+ns.length)).toArray[s+j]? =some v:=by
 intro j v e ho
 have hu:(us.take off).length=off:=by simp;omega
 have hC:(C.toList.take (s+off)).length=s+off:=by simp;omega
 rw[List.getElem?_toArray,List.append_assoc]
 by_cases h1:j<off
 ·rw[List.getElem?_append_left (by omega),List.getElem?_take_of_lt h1]at e
  rw[List.getElem?_append_left (by omega),List.getElem?_take_of_lt (by omega)]
  simpa using hc j v e
 ·rw[List.getElem?_append_right (by omega),hu]at e
  rw[List.getElem?_append_right (by omega),hC,show s+j - (s+off)=j - off by omega]
  by_cases h2:j - off<ns.length
  ·rw[List.getElem?_append_left h2]at e ⊢
   exact e
  ·rw[List.getElem?_append_right (by omega),List.getElem?_drop]at e ⊢
   have:=hc _ v e
   rw[show s+off+ns.length+(j - off - ns.length)=s+(off+ns.length+(j - off - ns.length)) by omega]
   simpa using this
def Be(P:Program)(T:TypeId)(x y:Operand):eG:=
 match P.info? T with
 |some i=>il (Nat.blt 0 i.size) (aF i.size (aQ x) (aQ y)) bP
 |none=>bP
theorem Fv{T:TypeId}{x y:Operand}(ho:o.op=.store T x y):mH P o (Be P T x y):=by
 intro g w nt t h a v h' H Tr e
 unfold Be at e
 cases hi:P.info? T with
 |none=>rw[hi]at e;cases e
 |some i=>
 rw[hi]at e
 cases Q7:Nat.blt 0 i.size with
 |false=>simp only[Q7]at e;cases e
 |true=>
 simp only[Q7]at e
 have amw:=bO.1 Q7
 change aF i.size (aQ x) (aQ y) t h=.ok v h' at e
 unfold aF at e
 split at e
 ·rename_i id off hx
  split at e
  ·rename_i av hy
   split at e
   ·rename_i cs hg
    cases hb:(Nat.beq (len av.cells) i.size&&(Nat.ble (Nat.add off (len av.cells)) cs.n&&cu dN av.cells))with
    |false=>rw[hb]at e;cases e
    |true=>
     rw[hb]at e
     cases e
     simp only[Bool.and_eq_true,bW]at hb
     have h1:=Nat.eq_of_beq_eq_true hb.1
     have Q8:off+av.cells.length<=cs.n:=Nat.ble_eq.mp hb.2.1
     have h2:off+av.cells.length<=cs.toL.length:=by rw[eO];exact Q8
     have E5:=bg x _ _ _ _ _ _ Tr hx
     have xi:=bg y _ _ _ _ _ _ Tr hy
     simp only[VR]at E5
     obtain⟨b,s,hm,E5⟩:=E5
     obtain⟨C,el,vs,hw,_,eH,hc⟩:=H.row hg hm
     have fY:=xi.cells
     have sJ:=bL.Fi fY hb.2.2
     have hl:=fY.length
     simp only[Array.length_toList]at hl
     have s5:s+off+(a.eval y).cells.toList.length<=C.size:=by
      have:=bL.qT eH hc h2 (by omega)
      simp only[Array.length_toList]
      omega
     have xj:=ey P b (s+off) el.el el.fz (a.eval y).cells.toList 0 C w hw el.ok (by simpa using s5) sJ
     simp only[Nat.add_zero]at xj
     have hlen:=eH.length
     obtain⟨E,H'⟩:=Al H (C':=(C.toList.take (s+off)++(a.eval y).cells.toList++C.toList.drop (s+off+(a.eval y).cells.toList.length)).toArray)
      hg hm hw (by simp at s5 ⊢;omega) (cs':=cs.put off av.cells) (us:=vs.take off++((a.eval y).cells.toList++vs.drop (off+(a.eval y).cells.toList.length)))
      (by rw[ub Q8,put_eq,<-fY.length];exact(eH.take _).append (fY.append (eH.drop _)))
      (fun j v e=>Hg hc s5 j v e (by omega))
     refine⟨g,_,.skip,undef,?_,.inr ⟨rfl,rfl⟩,E,H',by simp only[gQ,VR];exact⟨_,rfl,by simp[bL]⟩⟩
     have sr: ¬ (a.eval y).cells.size≠i.size:=by omega
     simp only[execOp,ho,Instr.storeAt,Instr.sureAddr,E5,storeVar,sizeOf,typeInfo,hi,xj,Sem.run_bind,Sem.run_pure,Result.andThen_ok,run_program,Sem.run_ite,if_neg sr]
   ·cases e
  ·cases e
 ·cases e
end
end Go.Ab

noncomputable section
namespace Go.Ab
variable [Io]
section
variable {P:Program}{o:Oper}
omit [Io] in
theorem qm(w:World)(t ty e:TypeId)(i:TypeInfo)(ht:P.underlying t=some (.slice e))(hi:P.info? e=some i)(b x:Option Addr)(cQ ek c:Nat)(h:cQ<=ek):
 (Builtin.append_ #[t,t] ty #[.slice b cQ ek,.slice x 0 c]).run P w=.ok (.slice b cQ ek) w:=by
 cases b<;>cases x<;>
  simp[Builtin.append_,run_underlying ht,sizeOf,typeInfo,hi,Builtin.lenOf,Builtin.firstCells,loadCells,loadCellsFrom,h,storeCells]
omit [Io] in
theorem zA(w:World)(t ty e:TypeId)(i:TypeInfo)(ht:P.underlying t=some (.slice e))(hi:P.info? e=some i)
 (g at_ cQ ek:Nat)(cur:Array Value)(el:FT cur)(hg:w.heap[g]? =some (.cells cur el.el el.fz))
 (a:Addr)(m c:Nat)(news:List Value)(hl:news.length=m*i.size)(acJ: ∀ j u,news[j]? =some u->w.cell? (a.add j)=some u)(h1: ∀ u∈news,u.oneCell'=true)
 (mJ:cQ+m<=ek)(s6:at_+cQ*i.size+news.length<=cur.size):
 (Builtin.append_ #[t,t] ty #[.slice (some ⟨g,at_,none⟩) cQ ek,.slice (some a) m c]).run P w=
  .ok (.slice (some ⟨g,at_,none⟩) (cQ+m) ek) (w.setRow g (cur.toList.take (at_+cQ*i.size)++news++cur.toList.drop (at_+cQ*i.size+news.length)).toArray):=by
 have hf:=run_firstCells_some (P:=P) w i.size m a m c news hl acJ
 have xj:=ey P g (at_+cQ*i.size) el.el el.fz news 0 cur w hg el.ok (by simpa using s6) h1
 simp only[Nat.add_zero]at xj
 simp[Builtin.append_,run_underlying ht,sizeOf,typeInfo,hi,Builtin.lenOf,mJ,hf,iz,xj]
theorem lB{g w h}(H:HR g w h){x:AV}{v:Value}(hv:VR g w x v){n:Nat}{cs:List AV}(e:dR h x=some (n,cs)):
 ∃ a c,v=.slice a n c/\n<=c/\(cs=[]∨ ∃ b s vs,a=some ⟨b,s,none⟩/\bL g w cs vs/\ef w b s vs):=by
 unfold dR at e
 split at e
 ·cases e
  simp only[VR]at hv
  obtain⟨a,rfl⟩:=hv
  exact⟨a,0,rfl,Nat.le_refl _,.inl rfl⟩
 ·cases e
  simp only[VR]at hv
  obtain⟨a,c,rfl,hc,hr⟩:=hv
  refine⟨a,c,rfl,hc,?_⟩
  rcases hr with⟨_,rfl⟩|⟨b,s,vs,rfl,_,pD,eH⟩
  ·exact .inl rfl
  ·exact .inr ⟨b,s,vs,rfl,eH,pD⟩
 ·rename_i id off n' sz
  split at e
  ·rename_i cs' hg
   split at e
   ·rename_i l hs
    cases e
    obtain⟨rfl,hl,_⟩:=mG hs
    simp only[VR]at hv
    rcases hv with⟨rfl,a,rfl⟩|⟨b,s,cap,hm,rfl,hc,_⟩
    ·refine⟨a,0,rfl,Nat.le_refl _,.inl ?_⟩
     have:(List.take (Nat.mul 0 sz) (List.drop off cs'.toL))=[]:=by
      rw[show Nat.mul 0 sz=0 from Nat.zero_mul _];rfl
     exact this
    ·obtain⟨C,el,vs,hw,_,eH,Q9⟩:=H.row hg hm
     exact⟨_,cap,rfl,hc,.inr ⟨b,s+off,_,rfl,(eH.drop off).take _,((jL hw Q9).drop off).take _⟩⟩
   ·cases e
  ·cases e
 ·cases e
omit [Io] in
theorem mK{w:World}{b s:Nat}{vs:List Value}(h:ef w b s vs): ∀ j u,vs[j]? =some u->w.cell? ((⟨b,s,none⟩:Addr).add j)=some u:=by
 intro j u e
 rw[iz]
 exact h j u e
structure acK(P:Program)(w:World)(s7:Array TypeId)(ty el:TypeId)(ie:TypeInfo)(zv:Value)(vx:Value)(n:Nat)(us:List Value):Prop where
 aif:0<n->n<=70368744177664->n*ie.bytes<=70368744177664->(Builtin.append_ s7 ty #[.slice none 0 0,vx]).run P w=
  .ok (.slice (some ⟨w.heap.size,0,none⟩) n (grownCap w n 0 el)) (w.drew.alloc (.cells (us.toArray++Builtin.zeroCells zv.cells (grownCap w n 0 el - n)) el))
 VA: ∀ (b:Addr) (cQ ek:Nat) (zC:List Value),zC.length=cQ*ie.size->(∀ (j:Nat) (v:Value),zC[j]? =some v->w.cell? (b.add j)=some v)->0<n->ek<cQ+n->cQ+n<=70368744177664->(cQ+n)*ie.bytes<=70368744177664->
  (Builtin.append_ s7 ty #[.slice (some b) cQ ek,vx]).run P w=.ok (.slice (some ⟨w.heap.size,0,none⟩) (cQ+n) (grownCap w (cQ+n) ek el))
    (w.drew.alloc (.cells (zC.toArray++us.toArray++Builtin.zeroCells zv.cells (grownCap w (cQ+n) ek el - (cQ+n))) el))
 aat: ∀ (g at_ cQ ek:Nat) (cur:Array Value) (el:FT cur),w.heap[g]? =some (.cells cur el.el el.fz)->0<n->cQ+n<=70368744177664->(cQ+n)*ie.bytes<=70368744177664->(∀ u∈us,u.oneCell'=true)->
  cQ+n<=ek->at_+cQ*ie.size+us.length<=cur.size->(Builtin.append_ s7 ty #[.slice (some ⟨g,at_,none⟩) cQ ek,vx]).run P w=
   .ok (.slice (some ⟨g,at_,none⟩) (cQ+n) ek) (w.setRow g (cur.toList.take (at_+cQ*ie.size)++us++cur.toList.drop (at_+cQ*ie.size+us.length)).toArray)
theorem qV{g:G}{w:World}{h h':Hp}{a:Act}{s7:Array TypeId}{el:TypeId}{ie:TypeInfo}{zv:Value}{vs0 vx:Value}{sv v:AV}{n:Nat}{new:List AV}(H:HR g w h)(eH:VR g w sv vs0)(h0:0<ie.size)(ui:zv.cells.size=ie.size)
 (hex: ∀ vs r w',vs0=vs->(Builtin.append_ s7 o.type #[vs,vx]).run P w=.ok r w'->(execOp a.eval o).run P w=.ok (.value r) w')
 (h00:n=0-> ∀ (b:Option Addr) (ln cap:Nat),ln<=cap->(Builtin.append_ s7 o.type #[.slice b ln cap,vx]).run P w=.ok (.slice b ln cap) w)
 (hap:n≠0->new.length=n*ie.size-> ∃ us,bL g w new us/\acK P w s7 o.type el ie zv vx n us)
 (e:tY ie.size ie.bytes h sv n new=.ok v h'):
 ∃ g' w' nx x,(execOp a.eval o).run P w=.ok nx w'/\(nx=.value x∨(nx=.skip/\x=undef))/\Ext g w h g' w' h'/\HR g' w' h'/\VR g' w' v x:=by
   unfold tY at e
   have fresh: ∀ (b:Option Addr) (h2:Hp) (rw0:Rw),rw0.toL=new->vs0=.slice b 0 0->n≠0->n*ie.bytes<=70368744177664->cu dN new=true->new.length=n*ie.size->n<=70368744177664->
    HR g w h2->Ext g w h g w h2->
    ∃ g' w' nx x,(execOp a.eval o).run P w=.ok nx w'/\(nx=.value x∨(nx=.skip/\x=undef))/\Ext g w h g' w' (dy h2 rw0)/\HR g' w' (dy h2 rw0)/\VR g' w' (.ff h2.next 0 n ie.size) x:=by
    intro b h2 rw0 hrw wM hn E6 sJ hlen aih H2 E2
    ·obtain⟨us,Cz,A⟩:=hap hn hlen
     have hul:=Cz.length
     have CX:us.length=n*ie.size:=by omega
     obtain⟨E3,H3⟩:=CV H2
     have hC: ∀ cap,n<=cap->n*ie.size+(cap - n)*ie.size=cap*ie.size:=by intro cap hc;rw[<-Nat.add_mul];congr 1;omega
     cases b with
     |none=>
      have hr:=A.aif (by omega) aih E6
      have Lp:=grownCap_ge w n 0 el
      obtain⟨E4,H4⟩:=xg H3 (cs:=rw0) (C:=us.toArray++Builtin.zeroCells zv.cells (grownCap w n 0 el - n)) el (by rw[hrw];exact bL.mono H2 E3 _ _ Cz) (fun j v e=>by
       rw[Array.getElem?_append_left (by have:=(List.getElem?_eq_some_iff.1 e).1;simpa using this)];simpa using e)
      refine⟨_,_,_,_,hex _ _ _ wM hr,.inl rfl,E2.trans (E3.trans E4),H4,A6 Lp ?_⟩
      rw[Array.size_append,size_zeroCells,ui,List.size_toArray,CX,hC _ Lp]
      exact Nat.le_refl _
     |some b=>
      have hr:=A.VA b 0 0 [] (by simp) (by simp) (by omega) (by omega) (by omega) (by rw[Nat.zero_add];exact E6)
      simp only[Nat.zero_add]at hr
      have Lp:=grownCap_ge w n 0 el
      obtain⟨E4,H4⟩:=xg H3 (cs:=rw0) (C:= #[]++us.toArray++Builtin.zeroCells zv.cells (grownCap w n 0 el - n)) el (by rw[hrw];exact bL.mono H2 E3 _ _ Cz) (fun j v e=>by
       rw[Array.getElem?_append_left (by have:=(List.getElem?_eq_some_iff.1 e).1;simpa using this)];simpa using e)
      refine⟨_,_,_,_,hex _ _ _ wM hr,.inl rfl,E2.trans (E3.trans E4),H4,A6 Lp ?_⟩
      rw[Array.size_append,size_zeroCells,ui,Array.empty_append,List.size_toArray,CX,hC _ Lp]
      exact Nat.le_refl _
   split at e
   ·
    simp only[VR]at eH
    obtain⟨b,wM⟩:=eH
    cases hn:Nat.beq n 0 with
    |true=>
     rw[hn]at e
     cases e
     obtain rfl:=Nat.eq_of_beq_eq_true hn
     exact⟨g,w,_,_,hex _ _ _ wM (h00 rfl b 0 0 (Nat.le_refl _)),.inl rfl,Ext.refl _ _ _,H,by simp only[VR];exact⟨_,rfl⟩⟩
    |false=>
     rw[hn]at e
     have Vw:n≠0:=fun k=>by subst k;cases hn
     cases hc:(Nat.ble (Nat.mul n ie.bytes) 70368744177664&&(cu dN new&&(Nat.beq (len new) (Nat.mul n ie.size)&&Nat.ble n 70368744177664)))with
     |false=>simp only[hc]at e;cases e
     |true=>
      simp only[hc]at e
      cases e
      simp only[Bool.and_eq_true,bW]at hc
      exact fresh b h (xe new) (iO new) wM Vw (Nat.ble_eq.mp hc.1) hc.2.1 (Nat.eq_of_beq_eq_true hc.2.2.1) (Nat.ble_eq.mp hc.2.2.2) H (Ext.refl _ _ _)
   ·
    rename_i id off ln sz
    cases hn:Nat.beq n 0 with
    |true=>
     rw[hn]at e
     cases e
     obtain rfl:=Nat.eq_of_beq_eq_true hn
     have Fw:=eH
     simp only[VR]at eH
     rcases eH with⟨rfl,b,wM⟩|⟨b,s',cap,hm,wM,xR,_⟩
     ·rw[wM]at Fw
      exact⟨g,w,_,_,hex _ _ _ wM (h00 rfl b 0 0 (Nat.le_refl _)),.inl rfl,Ext.refl _ _ _,H,Fw⟩
     ·rw[wM]at Fw
      exact⟨g,w,_,_,hex _ _ _ wM (h00 rfl _ ln cap xR),.inl rfl,Ext.refl _ _ _,H,Fw⟩
    |false=>
     rw[hn]at e
     have Vw:n≠0:=fun k=>by subst k;cases hn
     simp only[cond_false]at e
     split at e
     ·cases e
     ·rename_i cs hg
      split at e
      ·cases e
      ·rename_i pre Xp
       cases hc:(Nat.ble (Nat.mul (Nat.add ln n) ie.bytes) 70368744177664&&(Nat.beq sz ie.size&&(cu dN new&&(Nat.beq (len new) (Nat.mul n ie.size)&&Nat.ble (Nat.add ln n) 70368744177664))))with
       |false=>rw[hc]at e;cases e
       |true=>
        rw[hc]at e
        cases e
        simp only[Bool.and_eq_true,bW]at hc
        have E6:(ln+n)*ie.bytes<=70368744177664:=Nat.ble_eq.mp hc.1
        obtain rfl:sz=ie.size:=Nat.eq_of_beq_eq_true hc.2.1
        have sJ:=hc.2.2.1
        have hlen:new.length=n*ie.size:=Nat.eq_of_beq_eq_true hc.2.2.2.1
        have I0:ln+n<=70368744177664:=Nat.ble_eq.mp hc.2.2.2.2
        obtain⟨hpt,Xn⟩:=CJ Xp
        rw[hpt]at Xn
        have aij:(List.take (ln*ie.size) (List.drop off cs.toL)).length=ln*ie.size:=Xn
        obtain⟨E2,H2⟩:=Ll H id
        simp only[VR]at eH
        rcases eH with⟨rfl,b,wM⟩|⟨b,s',cap,hm,wM,xR,s5⟩
        ·have:=fresh b (jE h id none) (pre.app new) (by
          rw[uc,hpt,show(List.take (Nat.mul 0 ie.size) (List.drop off cs.toL))=[]from by rw[show Nat.mul 0 ie.size=0 from Nat.zero_mul _];rfl,List.nil_append]) wM Vw (by simpa using E6) sJ hlen (by simpa using I0) H2 E2
         rw[show Nat.add 0 n=n from Nat.zero_add n]
         exact this
        ·obtain⟨us,Cz,A⟩:=hap Vw hlen
         ·have hul:=Cz.length
          have CX:us.length=n*ie.size:=by omega
          obtain⟨C,el',vs,hw,_,eH,Q9⟩:=H.row hg hm
          rw[jM hw]at s5
          have lC:bL g w (List.take (ln*ie.size) (List.drop off cs.toL)) ((vs.drop off).take (ln*ie.size)):=(eH.drop off).take _
          have Xr:((vs.drop off).take (ln*ie.size)).length=ln*ie.size:=by rw[lC.length,aij]
          have hpc:ef w b (s'+off) ((vs.drop off).take (ln*ie.size)):=((jL hw Q9).drop off).take _
          have Xs:=lC.append Cz
          have VB:bL g w (pre.app new).toL ((vs.drop off).take (ln*ie.size)++us):=by
           rw[uc,hpt];exact Xs
          by_cases mJ:ln+n<=cap
          ·have hm1:ln*ie.size+n*ie.size<=cap*ie.size:=by rw[<-Nat.add_mul];exact Nat.mul_le_mul_right _ mJ
           have s6:s'+off+ln*ie.size+us.length<=C.size:=by omega
           have hr:=A.aat b (s'+off) ln cap C el' hw (by omega) I0 E6 (bL.Fi Cz sJ) mJ s6
           obtain⟨E3,H3⟩:=IY H (C':=(C.toList.take (s'+off+ln*ie.size)++us++C.toList.drop (s'+off+ln*ie.size+us.length)).toArray) (s':=s'+off)
            hg hm hw (by simp;omega) VB (fun j v e=>by
             have hC1:(C.toList.take (s'+off+ln*ie.size)).length=s'+off+ln*ie.size:=by simp;omega
             rw[List.getElem?_toArray,List.append_assoc]
             by_cases hj:j<ln*ie.size
             ·rw[List.getElem?_append_left (by omega)]at e
              have:=hpc j v e
              rw[List.getElem?_append_left (by omega),List.getElem?_take_of_lt (by omega)]
              simp only[World.cell?,hw]at this
              simpa using this
             ·rw[List.getElem?_append_right (by omega),Xr]at e
              have Hh:=(List.getElem?_eq_some_iff.1 e).1
              rw[List.getElem?_append_right (by omega),hC1,show s'+off+j - (s'+off+ln*ie.size)=j - ln*ie.size by omega,List.getElem?_append_left Hh]
              exact e)
           refine⟨_,_,_,_,hex _ _ _ wM hr,.inl rfl,E3,H3,?_⟩
           simp only[VR]
           refine .inr ⟨b,s'+off,cap,by simp,rfl,mJ,?_⟩
           have Fx:=gJ (C':=(C.toList.take (s'+off+ln*ie.size)++us++C.toList.drop (s'+off+ln*ie.size+us.length)).toArray) hw b
           rw[if_pos rfl]at Fx
           rw[jM Fx]
           simp
           omega
          ·have hr:=A.VA ⟨b,s'+off,none⟩ ln cap ((vs.drop off).take (ln*ie.size)) Xr (mK hpc) (by omega) (by omega) I0 E6
           have Lp:=grownCap_ge w (ln+n) cap el
           obtain⟨E3,H3⟩:=CV H2
           obtain⟨E4,H4⟩:=xg H3 (C:=((vs.drop off).take (ln*ie.size)).toArray++us.toArray++Builtin.zeroCells zv.cells (grownCap w (ln+n) cap el - (ln+n))) el
            (bL.mono H2 E3 _ _ (bL.mono H E2 _ _ VB)) (fun j v e=>by
             rw[Array.getElem?_append_left (by have:=(List.getElem?_eq_some_iff.1 e).1;simp at this ⊢;omega)]
             simpa using e)
           refine⟨_,_,_,_,hex _ _ _ wM hr,.inl rfl,E2.trans (E3.trans E4),H4,A6 Lp ?_⟩
           have hC:(ln+n)*ie.size+(grownCap w (ln+n) cap el - (ln+n))*ie.size=grownCap w (ln+n) cap el*ie.size:=by rw[<-Nat.add_mul];congr 1;omega
           rw[Array.size_append,size_zeroCells,ui,Array.size_append,List.size_toArray,List.size_toArray,Xr,CX,<-Nat.add_mul,hC]
           exact Nat.le_refl _
   ·
    rename_i ln cs
    cases hn:Nat.beq n 0 with
    |true=>
     rw[hn]at e
     cases e
     obtain rfl:=Nat.eq_of_beq_eq_true hn
     have Fw:=eH
     simp only[VR]at eH
     obtain⟨b,cap,wM,xR,_⟩:=eH
     rw[wM]at Fw
     exact⟨g,w,_,_,hex _ _ _ wM (h00 rfl _ ln cap xR),.inl rfl,Ext.refl _ _ _,H,Fw⟩
    |false=>rw[hn]at e;cases e
   ·cases e
def xS(P:Program)(T:TypeId)(s x:Operand):eG:=
 match P.underlying T with
 |some (.slice e)=>match P.info? e with
  |some ie=>match zeroOf P e with
   |some z=>il (Nat.beq (len z) ie.size&&(Nat.blt 0 ie.size&&Nat.blt 0 ie.bytes)) (pz ie.size ie.bytes (wO (aQ s)) (wO (aQ x))) bP
   |none=>bP
  |none=>bP
 | _=>bP
theorem Bf{T:TypeId}{s x:Operand}(ho:o.op=.call {callee:=.builtin .append,args:= #[s,x],argTypes:= #[T,T]}):mH P o (xS P T s x):=by
 intro g w nt t h a v h' H Tr e
 unfold xS at e
 cases hu:P.underlying T with
 |none=>rw[hu]at e;cases e
 |some d=>
 rw[hu]at e
 cases d<;>try (cases e;done)
 rename_i el
 simp only at e
 cases ny:P.info? el with
 |none=>rw[ny]at e;cases e
 |some ie=>
 rw[ny]at e
 cases hz:zeroOf P el with
 |none=>simp only[hz]at e;cases e
 |some z=>
 simp only[hz]at e
 cases hb:(Nat.beq (len z) ie.size&&(Nat.blt 0 ie.size&&Nat.blt 0 ie.bytes))with
 |false=>rw[hb]at e;cases e
 |true=>
 rw[hb]at e
 simp only[Bool.and_eq_true,bW]at hb
 have hzl:=Nat.eq_of_beq_eq_true hb.1
 have h0:0<ie.size:=bO.1 hb.2.1
 obtain⟨i,zv,hi,wc,Hf⟩:=iA hz
 obtain rfl:ie=i:=by rw[ny]at hi;exact Option.some.inj hi
 have ui:zv.cells.size=ie.size:=by
  have:=(Hf g w).length
  simp only[Array.length_toList]at this
  omega
 change pz ie.size ie.bytes (wO (aQ s)) (wO (aQ x)) t h=.ok v h' at e
 have hex: ∀ vs vx r w',a.eval s=vs->a.eval x=vx->(Builtin.append_ #[T,T] o.type #[vs,vx]).run P w=.ok r w'->(execOp a.eval o).run P w=.ok (.value r) w':=by
  intro vs vx r w' h1 h2 h3
  unfold execOp
  simp only[ho,resolve,invoke,builtin,Sem.run_bind,Sem.run_pure,Result.andThen_ok,List.map_toArray,List.map_cons,List.map_nil,h1,h2,h3]
 unfold pz at e
 split at e
 ·rename_i sv hs
  split at e
  ·rename_i xv hx
   have eH:=iQ s _ _ _ _ _ _ Tr hs
   have E5:=iQ x _ _ _ _ _ _ Tr hx
   split at e
   ·cases e
   ·rename_i n new hsc
    obtain⟨xa,xc,Q',hxc,zD⟩:=lB H E5 hsc
    refine qV (el:=el) H eH h0 ui (fun vs r w' h1 h3=>hex vs _ r w' h1 Q' h3) (fun hn b ln cap hle=>by
     subst hn
     exact qm w T o.type el ie hu ny b xa ln cap xc hle) (fun hn hlen=>?_) e
    rcases zD with rfl|⟨xb,xs,us,rfl,Cz,pD⟩
    ·have:n*ie.size≠0:=Nat.mul_ne_zero hn (by omega)
     simp at hlen;omega
    ·have hul:=Cz.length
     have CX:us.length=n*ie.size:=by omega
     refine⟨us,Cz,⟨fun hp I0 E6=>?_,fun b cQ ek zC hol hoc hp gB I0 E6=>?_,fun b at_ cQ ek cur el' hw hp I0 E6 sJ mJ s6=>?_⟩⟩
     ·exact run_append_nil (P:=P) w T o.type el ie zv hu ny wc ⟨xb,xs,none⟩ n xc us CX (mK pD) (by omega) (by omega) (by omega)
     ·exact run_append_grow (P:=P) w T o.type el ie zv hu ny wc b cQ ek zC hol hoc ⟨xb,xs,none⟩ n xc us CX (mK pD) (by omega) (by omega) (growslice_fits (by omega) (by omega))
     ·exact zA (P:=P) w T o.type el ie hu ny b at_ cQ ek cur el' hw ⟨xb,xs,none⟩ n xc us CX (mK pD) sJ mJ s6
  ·cases e
 ·cases e
def xk(P:Program)(T:TypeId)(s x:Operand):eG:=
 match P.underlying T with
 |some (.slice e)=>match P.info? e with
  |some ie=>match zeroOf P e with
   |some z=>il (Nat.beq (len z) ie.size&&(Nat.blt 0 ie.size&&Nat.blt 0 ie.bytes)) (aK ie.size ie.bytes (aQ s) (aQ x)) bP
   |none=>bP
  |none=>bP
 | _=>bP
theorem CY{T:TypeId}{s x:Operand}(ho:o.op=.call {callee:=.builtin .append,args:= #[s,x],argTypes:= #[T,T]}):mH P o (xk P T s x):=by
 intro g w nt t h a v h' H Tr e
 have h0:=Bf (P:=P) ho g w nt t h a v h' H Tr
 unfold xk at e
 unfold xS at h0
 cases hu:P.underlying T with
 |none=>rw[hu]at e;cases e
 |some d=>
 rw[hu]at e h0
 cases d<;>try (cases e;done)
 rename_i el
 simp only at e h0
 cases ny:P.info? el with
 |none=>rw[ny]at e;cases e
 |some ie=>
 rw[ny]at e h0
 cases hz:zeroOf P el with
 |none=>simp only[hz]at e;cases e
 |some z=>
 simp only[hz]at e h0
 cases hb:(Nat.beq (len z) ie.size&&(Nat.blt 0 ie.size&&Nat.blt 0 ie.bytes))with
 |false=>rw[hb]at e;cases e
 |true=>
 rw[hb]at e h0
 change aK ie.size ie.bytes (aQ s) (aQ x) t h=.ok v h' at e
 unfold aK at e
 split at e
 ·rename_i av hs
  split at e
  ·rename_i bv hx
   cases hE:(sX av&&Qb bv)with
   |false=>rw[hE]at e;exact h0 e
   |true=>
    rw[hE]at e
    cases e
    rw[Bool.and_eq_true]at hE
    have hv:=bg s _ _ _ _ _ _ Tr hs
    obtain⟨b,wM⟩:=xK hE.1 hv
    obtain⟨xa,xc,Q'⟩:=Xj hE.2 (bg x _ _ _ _ _ _ Tr hx)
    have hr:=qm (P:=P) w T o.type el ie hu ny b xa 0 0 xc (Nat.le_refl _)
    refine⟨g,w,_,a.eval s,?_,.inl rfl,Ext.refl _ _ _,H,hv⟩
    unfold execOp
    simp only[ho,resolve,invoke,builtin,Sem.run_bind,Sem.run_pure,Result.andThen_ok,List.map_toArray,List.map_cons,List.map_nil,wM,Q',hr]
  ·cases e
 ·cases e
def Hi(P:Program)(T T':TypeId)(s x:Operand):eG:=
 match P.underlying T with
 |some (.slice e)=>match P.underlying T' with
  |some (.int _)=>match P.info? e with
   |some ie=>match zeroOf P e with
    |some z=>il (Nat.beq (len z) ie.size&&(Nat.blt 0 ie.size&&Nat.blt 0 ie.bytes)) (sF ie.size ie.bytes z (aQ s) (aQ x)) bP
    |none=>bP
   |none=>bP
  | _=>bP
 | _=>bP
omit [Io] in
theorem nz(w:World)(t tn ty e:TypeId)(i:TypeInfo)(kn k:IntKind)(ht:P.underlying t=some (.slice e))(Xt:P.underlying tn=some (.int kn))(hi:P.info? e=some i)(b:Option Addr)(cQ ek:Nat)(h:cQ<=ek):
 (Builtin.append_ #[t,tn] ty #[.slice b cQ ek,.int k ((0:Nat):Int)]).run P w=.ok (.slice b cQ ek) w:=by
 have hw:IntKind.i64.wrap 0=0:=by rw[IntKind.wrap_i64];omega
 cases b<;>simp[Builtin.append_,run_underlying ht,run_underlying Xt,sizeOf,typeInfo,hi,asInt,asIntOf,hw,h,storeCells]
omit [Io] in
theorem s9(w:World)(t tn ty e:TypeId)(i:TypeInfo)(z:Value)(kn k:IntKind)(ht:P.underlying t=some (.slice e))(Xt:P.underlying tn=some (.int kn))(hi:P.info? e=some i)(hz:i.zero=some z)(hs:0<i.size)(hzl:z.cells.size=i.size)
 (g at_ cQ ek n:Nat)(cur:Array Value)(el:FT cur)(hg:w.heap[g]? =some (.cells cur el.el el.fz))(h0:0<n)(I0:n<=70368744177664)(E6:n*i.bytes<=70368744177664)
 (h1: ∀ u∈(Builtin.zeroCells z.cells n).toList,u.oneCell'=true)(mJ:cQ+n<=ek)(s6:at_+cQ*i.size+(Builtin.zeroCells z.cells n).toList.length<=cur.size):
 (Builtin.append_ #[t,tn] ty #[.slice (some ⟨g,at_,none⟩) cQ ek,.int k n]).run P w=
  .ok (.slice (some ⟨g,at_,none⟩) (cQ+n) ek) (w.setRow g (cur.toList.take (at_+cQ*i.size)++(Builtin.zeroCells z.cells n).toList++cur.toList.drop (at_+cQ*i.size+(Builtin.zeroCells z.cells n).toList.length)).toArray):=by
 have xj:=ey P g (at_+cQ*i.size) el.el el.fz (Builtin.zeroCells z.cells n).toList 0 cur w hg el.ok (by simpa using s6) h1
 simp only[Nat.add_zero]at xj
 have hw:IntKind.i64.wrap (n:Int)=n:=by rw[IntKind.wrap_i64];omega
 have Bg: ¬ ((n:Int)<0):=by omega
 have aik: ¬ (281474976710656<(n:Int)*(i.bytes:Int)):=by
  rw[<-Int.natCast_mul]
  omega
 have hns: ¬ (n*i.size=0):=Nat.mul_ne_zero (by omega) (by omega)
 have hk:n≠0:=by omega
 simp[Builtin.append_,run_underlying ht,run_underlying Xt,sizeOf,typeInfo,zeroValue,hi,hz,asInt,asIntOf,hw,Bg,aik,hns,mJ,iz]
 have Xu:(storeCells ⟨g,at_+cQ*i.size,none⟩ (Builtin.zeroCells z.cells n).toList).run P w=_:=xj
 rw[Xu]
 simp
theorem I1{T T':TypeId}{s x:Operand}(ho:o.op=.call {callee:=.builtin .append,args:= #[s,x],argTypes:= #[T,T']}):mH P o (Hi P T T' s x):=by
 intro g w nt t h a v h' H Tr e
 unfold Hi at e
 cases hu:P.underlying T with
 |none=>rw[hu]at e;cases e
 |some d=>
 rw[hu]at e
 cases d<;>try (cases e;done)
 rename_i el
 simp only at e
 cases Fy:P.underlying T' with
 |none=>rw[Fy]at e;cases e
 |some d'=>
 rw[Fy]at e
 cases d'<;>try (cases e;done)
 rename_i kn
 simp only at e
 cases ny:P.info? el with
 |none=>rw[ny]at e;cases e
 |some ie=>
 rw[ny]at e
 cases hz:zeroOf P el with
 |none=>simp only[hz]at e;cases e
 |some z=>
 simp only[hz]at e
 cases hb:(Nat.beq (len z) ie.size&&(Nat.blt 0 ie.size&&Nat.blt 0 ie.bytes))with
 |false=>rw[hb]at e;cases e
 |true=>
 rw[hb]at e
 simp only[Bool.and_eq_true,bW]at hb
 have hzl:=Nat.eq_of_beq_eq_true hb.1
 have h0:0<ie.size:=bO.1 hb.2.1
 obtain⟨i,zv,hi,wc,Hf⟩:=iA hz
 obtain rfl:ie=i:=by rw[ny]at hi;exact Option.some.inj hi
 have ui:zv.cells.size=ie.size:=by
  have:=(Hf g w).length
  simp only[Array.length_toList]at this
  omega
 change sF ie.size ie.bytes z (aQ s) (aQ x) t h=.ok v h' at e
 unfold sF at e
 split at e
 ·rename_i av hs
  split at e
  ·rename_i kx n hx
   have eH:=bg s _ _ _ _ _ _ Tr hs
   have E5:=bg x _ _ _ _ _ _ Tr hx
   simp only[VR]at E5
   have E5:a.eval x=.int kx (n:Int):=E5
   have hex: ∀ vs r w',a.eval s=vs->(Builtin.append_ #[T,T'] o.type #[vs,.int kx (n:Int)]).run P w=.ok r w'->(execOp a.eval o).run P w=.ok (.value r) w':=by
    intro vs r w' h1 h3
    unfold execOp
    simp only[ho,resolve,invoke,builtin,Sem.run_bind,Sem.run_pure,Result.andThen_ok,List.map_toArray,List.map_cons,List.map_nil,h1,E5,h3]
   cases hE:(sX av&&Nat.beq n 0)with
   |true=>
    rw[hE]at e
    cases e
    rw[Bool.and_eq_true]at hE
    obtain rfl:=Nat.eq_of_beq_eq_true hE.2
    obtain⟨b,wM⟩:=xK hE.1 eH
    refine⟨g,w,_,a.eval s,hex _ _ _ rfl ?_,.inl rfl,Ext.refl _ _ _,H,eH⟩
    rw[wM]
    exact nz w T T' o.type el ie kn kx hu Fy ny b 0 0 (Nat.le_refl _)
   |false=>
    rw[hE]at e
    simp only[cond_false]at e
    refine qV (el:=el) H (Fk eH) h0 ui hex (fun hn b ln cap hle=>by
     subst hn
     exact nz w T T' o.type el ie kn kx hu Fy ny b ln cap hle) (fun hn hlen=>?_) e
    have hzc:bL g w (fW n z) (Builtin.zeroCells zv.cells n).toList:=by
     have:=(Hf g w).repeat n
     rw[<-qU]at this
     unfold Builtin.zeroCells
     exact this
    refine⟨(Builtin.zeroCells zv.cells n).toList,hzc,⟨fun hp I0 E6=>?_,fun b cQ ek zC hol hoc hp gB I0 E6=>?_,fun b at_ cQ ek cur el' hw hp I0 E6 sJ mJ s6=>?_⟩⟩
    ·have:=Lib.run_append_nil_zeros (P:=P) w T T' o.type el ie zv kx kn hu Fy ny wc n hp h0 (by omega) (by omega)
     simpa using this
    ·have hfo:=run_firstCells_some (P:=P) w.drew ie.size cQ b cQ ek zC hol (by simpa using hoc)
     have hnb:n*ie.bytes<=(cQ+n)*ie.bytes:=Nat.mul_le_mul_right _ (by omega)
     have:=Lib.run_append_grow_zeros (P:=P) w T T' o.type el ie zv kx kn hu Fy ny wc (some b) cQ ek zC hfo n hp h0 gB (by omega) (by omega) (growslice_fits (by omega) (by omega))
     simpa using this
    ·have hnb:n*ie.bytes<=(cQ+n)*ie.bytes:=Nat.mul_le_mul_right _ (by omega)
     exact s9 w T T' o.type el ie zv kn kx hu Fy ny wc h0 ui b at_ cQ ek n cur el' hw hp (by omega) (by omega) sJ mJ s6
  ·cases e
 ·cases e
def Hj(P:Program)(T T':TypeId)(s x:Operand):eG:=
 match P.underlying T with
 |some (.slice e)=>match P.underlying T' with
  |some .string=>match P.info? e with
   |some ie=>match zeroOf P e with
    |some z=>il (Nat.beq (len z) ie.size&&(Nat.beq ie.size 1&&Nat.blt 0 ie.bytes)) (tZ ie.bytes (aQ s) (aQ x)) bP
    |none=>bP
   |none=>bP
  | _=>bP
 | _=>bP
theorem bL.acP(g:G)(w:World): ∀ (l:List UInt8),bL g w (l.map fun b=>AV.int .u8 (.ofNat b.toNat)) (l.map fun b=>Value.int .u8 (b.toNat:Int))
 | []=>by simp[bL]
 |b::l=>by
  simp only[List.map_cons,bL]
  exact⟨_,_,rfl,by simp only[VR];rfl,bL.acP g w l⟩
omit [Io] in
theorem qn(w:World)(t tn ty e:TypeId)(i:TypeInfo)(ht:P.underlying t=some (.slice e))(Xt:P.underlying tn=some .string)(hi:P.info? e=some i)(s:ByteArray)(hs:s.size=0)(b:Option Addr)(cQ ek:Nat)(h:cQ<=ek):
 (Builtin.append_ #[t,tn] ty #[.slice b cQ ek,.string s]).run P w=.ok (.slice b cQ ek) w:=by
 have h1:(Array.map (fun b:UInt8=>Value.int IntKind.u8 (b.toNat:Int)) s.data).extract 0 0= #[]:=by simp
 cases b<;>simp[Builtin.append_,run_underlying ht,run_underlying Xt,sizeOf,typeInfo,hi,Builtin.lenOf,Builtin.firstCells,hs,h,h1,storeCells]
omit [Io] in
theorem vF(w:World)(t tn ty e:TypeId)(i:TypeInfo)(ht:P.underlying t=some (.slice e))(Xt:P.underlying tn=some .string)(hi:P.info? e=some i)(Hk:i.size=1)(s:ByteArray)
 (g at_ cQ ek:Nat)(cur:Array Value)(el:FT cur)(hg:w.heap[g]? =some (.cells cur el.el el.fz))
 (mJ:cQ+s.size<=ek)(s6:at_+cQ*i.size+(Lib.strCells s).length<=cur.size):
 (Builtin.append_ #[t,tn] ty #[.slice (some ⟨g,at_,none⟩) cQ ek,.string s]).run P w=
  .ok (.slice (some ⟨g,at_,none⟩) (cQ+s.size) ek) (w.setRow g (cur.toList.take (at_+cQ*i.size)++(Lib.strCells s)++cur.toList.drop (at_+cQ*i.size+(Lib.strCells s).length)).toArray):=by
 have xj:=ey P g (at_+cQ*i.size) el.el el.fz (Lib.strCells s) 0 cur w hg el.ok (by simpa using s6) (by
  intro v hv
  obtain⟨b,_,rfl⟩:=List.mem_map.1 hv
  rfl)
 simp only[Nat.add_zero]at xj
 have hf:=Lib.run_firstCells_string (P:=P) w i.size s
 simp[Builtin.append_,run_underlying ht,run_underlying Xt,sizeOf,typeInfo,hi,Builtin.lenOf,mJ,hf,iz]
 have Xu:(storeCells ⟨g,at_+cQ*i.size,none⟩ (Lib.strCells s)).run P w=_:=xj
 rw[Xu]
 simp
theorem I2{T T':TypeId}{s x:Operand}(ho:o.op=.call {callee:=.builtin .append,args:= #[s,x],argTypes:= #[T,T']}):mH P o (Hj P T T' s x):=by
 intro g w nt t h a v h' H Tr e
 unfold Hj at e
 cases hu:P.underlying T with
 |none=>rw[hu]at e;cases e
 |some d=>
 rw[hu]at e
 cases d<;>try (cases e;done)
 rename_i el
 simp only at e
 cases Fy:P.underlying T' with
 |none=>rw[Fy]at e;cases e
 |some d'=>
 rw[Fy]at e
 cases d'<;>try (cases e;done)
 simp only at e
 cases ny:P.info? el with
 |none=>rw[ny]at e;cases e
 |some ie=>
 rw[ny]at e
 cases hz:zeroOf P el with
 |none=>simp only[hz]at e;cases e
 |some z=>
 simp only[hz]at e
 cases hb:(Nat.beq (len z) ie.size&&(Nat.beq ie.size 1&&Nat.blt 0 ie.bytes))with
 |false=>rw[hb]at e;cases e
 |true=>
 rw[hb]at e
 simp only[Bool.and_eq_true,bW]at hb
 have hzl:=Nat.eq_of_beq_eq_true hb.1
 have Hk:ie.size=1:=Nat.eq_of_beq_eq_true hb.2.1
 have h0:0<ie.size:=by omega
 obtain⟨i,zv,hi,wc,Hf⟩:=iA hz
 obtain rfl:ie=i:=by rw[ny]at hi;exact Option.some.inj hi
 have ui:zv.cells.size=ie.size:=by
  have:=(Hf g w).length
  simp only[Array.length_toList]at this
  omega
 change tZ ie.bytes (aQ s) (aQ x) t h=.ok v h' at e
 unfold tZ at e
 split at e
 ·rename_i av hs
  split at e
  ·rename_i b hx
   have eH:=bg s _ _ _ _ _ _ Tr hs
   have E5:=bg x _ _ _ _ _ _ Tr hx
   simp only[VR]at E5
   have E5:a.eval x=.string b:=E5.1
   have hex: ∀ vs r w',a.eval s=vs->(Builtin.append_ #[T,T'] o.type #[vs,.string b]).run P w=.ok r w'->(execOp a.eval o).run P w=.ok (.value r) w':=by
    intro vs r w' h1 h3
    unfold execOp
    simp only[ho,resolve,invoke,builtin,Sem.run_bind,Sem.run_pure,Result.andThen_ok,List.map_toArray,List.map_cons,List.map_nil,h1,E5,h3]
   cases hE:(sX av&&Nat.beq b.size 0)with
   |true=>
    rw[hE]at e
    cases e
    rw[Bool.and_eq_true]at hE
    obtain⟨p,wM⟩:=xK hE.1 eH
    refine⟨g,w,_,a.eval s,hex _ _ _ rfl ?_,.inl rfl,Ext.refl _ _ _,H,eH⟩
    rw[wM]
    exact qn w T T' o.type el ie hu Fy ny b (Nat.eq_of_beq_eq_true hE.2) p 0 0 (Nat.le_refl _)
   |false=>
    rw[hE]at e
    simp only[cond_false]at e
    rw[<-Hk]at e
    refine qV (el:=el) H (Fk eH) h0 ui hex (fun hn p ln cap hle=>qn w T T' o.type el ie hu Fy ny b hn p ln cap hle) (fun hn hlen=>?_) e
    refine⟨b.data.toList.map fun b=>Value.int .u8 (b.toNat:Int),bL.acP g w _,⟨fun hp I0 E6=>?_,fun p cQ ek zC hol hoc hp gB I0 E6=>?_,fun p at_ cQ ek cur el' hw hp I0 E6 sJ mJ s6=>?_⟩⟩
    ·have:=run_append_nil_string (P:=P) w T T' o.type el ie zv hu Fy ny wc b hp (by omega) (by omega)
     rw[this]
     congr 4
     apply Array.ext'
     simp
    ·have:=Lib.run_append_grow_string (P:=P) w T T' o.type el ie zv hu Fy ny wc p cQ ek zC hol hoc b gB (by omega) (growslice_fits (by omega) (by omega))
     rw[this]
     rfl
    ·exact vF w T T' o.type el ie hu Fy ny Hk b p at_ cQ ek cur el' hw mJ s6
  ·cases e
 ·cases e
def Hl(P:Program)(T T':TypeId)(s x:Operand):eG:=
 match P.underlying T' with
 |some .string=>Hj P T T' s x
 | _=>Hi P T T' s x
theorem I3{T T':TypeId}{s x:Operand}(ho:o.op=.call {callee:=.builtin .append,args:= #[s,x],argTypes:= #[T,T']}):mH P o (Hl P T T' s x):=by
 unfold Hl
 split
 ·exact I2 ho
 ·exact I1 ho
end
end Go.Ab
