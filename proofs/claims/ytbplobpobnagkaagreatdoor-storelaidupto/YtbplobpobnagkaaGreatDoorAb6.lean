import Derived.Test.YtbplobpobnagkaaGreatDoorAb2
import Derived.Lib.AppendZerosOnto
import Derived.Lib.AppendStr
noncomputable section
namespace Go.Ab
variable [Io]
section
variable {P:Program}{o:Oper}
omit [Io] in
theorem xC(off:Nat): ∀ (l:List Value) (k:Nat) (C:Array Value),off+k+l.length<=C.size->
 (l.zipIdx k).foldl (fun cs (p:Value×Nat)=>cs.setIfInBounds (off+p.2) p.1) C=(C.toList.take (off+k)++l++C.toList.drop (off+k+l.length)).toArray
 | [],k,C,_=>by simp
 |v::l,k,C,h=>by
  simp only[List.length_cons]at h
  rw[List.zipIdx_cons,List.foldl_cons,xC off l (k+1) _ (by simp;omega)]
  have e:=list_seg_step C.toList (off+k) v l (by simp;omega)
  congr 1
  simpa[Array.toList_setIfInBounds,Nat.add_assoc]using e
def la(g:G)(w:World)(place:Nat->Option (Nat×Nat)):List (Nat×Nat×AV)->List (Nat×Value)->Prop
 | [],l=>l=[]
 |p::r,l=> ∃ i v l',l=(i,v)::l'/\place i=some (p.1,p.2.1)/\VR g w p.2.2 v/\la g w place r l'
theorem AX{g w}{place:Nat->Option (Nat×Nat)}: ∀ (ps:List (Nat×Nat×AV)) (qs:List (Nat×Value)) (cs cs':List AV) (C:Array Value),
 la g w place ps qs->bD g w cs C.toList->xn ps cs=some cs'-> ∃ C',Instr.fill place C qs=some C'/\bD g w cs' C'.toList/\C'.size=C.size
 | [],qs,cs,cs',C,h,hv,e=>by
  simp only[la]at h
  subst h
  cases e
  exact⟨C,rfl,hv,rfl⟩
 |p::ps,qs,cs,cs',C,h,hv,e=>by
  simp only[la]at h
  obtain⟨i,v,qs',rfl,hp,hr,h⟩:=h
  change (bif Nat.beq (len p.2.2.cells) p.2.1&&Nat.ble (Nat.add p.1 p.2.1) (len cs)then xn ps (put cs p.1 p.2.2.cells)else none)=some cs' at e
  cases hb:(Nat.beq (len p.2.2.cells) p.2.1&&Nat.ble (Nat.add p.1 p.2.1) (len cs))with
  |false=>rw[hb]at e;cases e
  |true=>
   rw[hb]at e
   simp only[Bool.and_eq_true,bM]at hb
   have h1:=Nat.eq_of_beq_eq_true hb.1
   have h2:p.1+p.2.1<=cs.length:=Nat.ble_eq.mp hb.2
   have hc:=hr.cells
   have hl:=hc.length
   simp only[Array.length_toList]at hl
   have hC:=hv.length
   simp only[Array.length_toList]at hC
   have hn:bD g w (put cs p.1 p.2.2.cells) ((C.toList.take p.1++v.cells.toList++C.toList.drop (p.1+v.cells.toList.length)).toArray).toList:=by
    rw[put_eq]
    simp only[List.append_assoc]
    refine(hv.take _).append (hc.append ?_)
    rw[hc.length]
    exact hv.drop _
   obtain⟨C',P5,rm,hs⟩:=AX ps qs' _ cs' _ h hn e
   refine⟨C',?_,rm,?_⟩
   ·simp only[Instr.fill,hp]
    rw[if_neg (by simp;omega)]
    rw[<-P5]
    congr 1
    have hf:=xC p.1 v.cells.toList 0 C (by simp;omega)
    simp only[Nat.add_zero]at hf
    rw[<-hf,<-Array.foldl_toList,Array.toList_zipIdx]
   ·rw[hs]
    simp
    omega
def u7(place:Nat->Option (Nat×Nat))(l:List (Nat×Operand)):Option (List (Nat×Nat×eJ)):=
 List.rec (some []) (fun p _ ih=>match place p.1 with
  |some (off,size)=>match ih with
   |some r=>some ((off,size,aM p.2)::r)
   |none=>none
  |none=>none) l
theorem zX{g w nt t}{a:Act}(T:TR g w nt t a.tmps){place:Nat->Option (Nat×Nat)}: ∀ (l:List (Nat×Operand)) {ps:List (Nat×Nat×eJ)} {vs:List (Nat×Nat×AV)},
 u7 place l=some ps->nF ps t=some vs->la g w place vs (l.map fun p=>(p.1,a.eval p.2))
 | [],ps,vs,h,e=>by
  cases h
  cases e
  simp[la]
 |p::l,ps,vs,h,e=>by
  change (match place p.1 with|some (off,size)=>(match u7 place l with|some r=>some ((off,size,aM p.2)::r)|none=>none)|none=>none)=some ps at h
  split at h
  ·rename_i off size hp
   split at h
   ·rename_i r hr
    cases h
    change (match aM p.2 t with|some v=>(match nF r t with|some vs=>some ((off,size,v)::vs)|none=>none)|none=>none)=some vs at e
    split at e
    ·rename_i v hv
     split at e
     ·rename_i us hu
      cases e
      simp only[la,List.map_cons]
      exact⟨p.1,_,_,rfl,hp,ba p.2 _ _ _ _ _ _ T hv,zX T l hr hu⟩
     ·cases e
    ·cases e
   ·cases h
  ·cases h
def placesOf(P:Program)(T:TypeId):Option (Nat->Option (Nat×Nat)):=
 match P.underlying T with
 |some (.struct fields)=>match fields.toList.mapM (fun f=>(P.info? f.type).map fun i=>(f.offset,i.size))with
  |some places=>some fun i=>places.toArray[i]?
  |none=>none
 |some (.array _ e)=>match P.info? e with
  |some ie=>some fun i=>some (i*ie.size,ie.size)
  |none=>none
 | _=>none
def zeroOf(P:Program)(T:TypeId):Option (List AV):=
 match P.info? T with
 |some i=>match i.zero with
  |some z=>leaves z.cells.toList
  |none=>none
 |none=>none
def xD(P:Program)(T:TypeId)(parts:List (Nat×Operand)):eH:=
 match placesOf P T with
 |some place=>match zeroOf P T with
  |some z=>match u7 place parts with
   |some ps=>au z ps
   |none=>bE
  |none=>bE
 |none=>bE
theorem iB{T:TypeId}{z:List AV}(h:zeroOf P T=some z): ∃ i zv,P.info? T=some i/\i.zero=some zv/\ ∀ g w,bD g w z zv.cells.toList:=by
 unfold zeroOf at h
 cases hi:P.info? T with
 |none=>rw[hi]at h;cases h
 |some i=>
  rw[hi]at h
  cases hz:i.zero with
  |none=>simp only[hz]at h;cases h
  |some zv=>simp only[hz]at h;exact⟨i,zv,rfl,hz,fun g w=>rq _ h g w⟩
theorem EZ{T:TypeId}{parts:Array (Nat×Operand)}(ho:o.op=.build T parts):bI P o (xD P T parts.toList):=by
 intro g w nt t h a v h' H Tr e
 unfold xD at e
 cases hp:placesOf P T with
 |none=>rw[hp]at e;cases e
 |some place=>
 rw[hp]at e
 cases hz:zeroOf P T with
 |none=>simp only[hz]at e;cases e
 |some z=>
 simp only[hz]at e
 cases QW:u7 place parts.toList with
 |none=>simp only[QW]at e;cases e
 |some ps=>
 simp only[QW]at e
 unfold au at e
 split at e
 ·rename_i vs eI
  split at e
  ·rename_i cs n8
   cases e
   obtain⟨i,zv,hi,vH,hz⟩:=iB hz
   obtain⟨C',P5,rm,_⟩:=AX vs _ z cs zv.cells (zX Tr parts.toList QW eI) (hz g w) n8
   refine⟨rfl,.agg C',?_,by simp only[VR];exact⟨_,rfl,rm⟩⟩
   have hb:P.built T ((parts.map fun p=>(p.1,a.eval p.2)).toList)=some C':=by
    unfold placesOf at hp
    unfold Program.built
    split at hp
    ·rename_i fields hu
     split at hp
     ·rename_i places W0
      cases hp
      simp only[hi,hu,vH,W0,Array.toList_map]
      exact P5
     ·cases hp
    ·rename_i n el hu
     split at hp
     ·rename_i ie nd
      cases hp
      simp only[hi,hu,vH,nd,Array.toList_map]
      exact P5
     ·cases hp
    ·cases hp
   have kr:=run_build (P:=P) w T _ C' hb
   simp only[execOp,ho]
   show((Instr.build T (parts.map fun p=>(p.1,a.eval p.2))>>=fun v=>(pure (.value v):Sem Next))).run P w=_
   simp only[Sem.run_bind,kr,Result.andThen_ok,Sem.run_pure]
  ·cases e
 ·cases e
def my(P:Program)(o:Oper)(f:eH):Prop:=
 ∀ (g:G) (w:World) (nt:Nat) (t:Tm) (h:Hp) (a:Act) (v:AV) (h':Hp),HR g w h->TR g w nt t a.tmps->f t h=.ok v h'->
  ∃ g' w' nx x,(execOp a.eval o).run P w=.ok nx w'/\(nx=.value x∨(nx=.skip/\x=undef))/\Ext g w h g' w' h'/\HR g' w' h'/\VR g' w' v x
theorem bI.run{f:eH}(h:bI P o f):my P o f:=by
 intro g w nt t hp a v h' H T e
 obtain⟨rfl,x,hx,hv⟩:=h g w nt t hp a v h' H.toHC T e
 exact⟨g,w,.value x,x,hx,.inl rfl,Ext.refl _ _ _,H,hv⟩
theorem CC{g w h}(H:HR g w h)(ob:Obj):Ext g w h g (w.alloc ob) h/\HR g (w.alloc ob) h:=by
 have hp: ∀ b,b<w.heap.size->(w.alloc ob).heap[b]? =w.heap[b]? :=by
  intro b hb
  show(w.heap.push _)[b]? =_
  rw[Array.getElem?_push,if_neg (by omega)]
 have E:Ext g w h g (w.alloc ob) h:=by
  refine⟨rfl,rfl,rfl,by simp,Nat.le_refl _,fun _ _ e=>e,fun b hb _=>hp b hb,?_,fun _ i=>i,fun _ i=>.inl i,fun _ o=>.inl o⟩
  intro b
  unfold dU
  by_cases hb:b<w.heap.size
  ·rw[hp b hb];exact Nat.le_refl _
  ·rw[Array.getElem?_eq_none (by omega)];exact Nat.zero_le _
 refine⟨E,H.fresh,?_,H.inj,fun b i=>by have:=H.fw b i;simp;omega,nJ.ext H E⟩
 intro id cs e
 obtain⟨b,s,C,el,vs,hm,hw,hi,hv,hc⟩:=H.aL id cs e
 exact⟨b,s,C,el,vs,hm,by rw[hp b (Array.getElem?_eq_some_iff.1 hw).1];exact hw,hi,bD.mono H E _ _ hv,hc⟩
def n9(P:Program)(o:Oper)(f:eH):Prop:=
 ∀ (g:G) (w:World) (nt:Nat) (t:Tm) (h:Hp) (a:Act) (v:AV) (h':Hp),HC g w h->TR g w nt t a.tmps->f t h=.ok v h'->
  (h'=h/\ ∃ x C el,(execOp a.eval o).run P w=.ok (.value x) (w.alloc (.cells C el))/\ ∀ g' w',VR g' w' v x)∨
  (∃ cs C el vs x,h'=dw h cs/\(execOp a.eval o).run P w=.ok (.value x) (w.alloc (.cells C el))/\bD g w cs.toL vs/\(∀ (j:Nat) (v:Value),vs[j]? =some v->C[j]? =some v)/\
   ∀ g' w',g'.m h.next=some (w.heap.size,0)->C.size<=dU w' w.heap.size->VR g' w' v x)
omit [Io] in
theorem r6(w:World)(C:Array Value)(el:TypeId):dU (w.alloc (.cells C el)) w.heap.size=C.size:=by
 have:(w.alloc (.cells C el)).heap[w.heap.size]? =some (.cells C el):=by
  show(w.heap.push _)[w.heap.size]? =_
  simp
 exact jJ this
theorem n9.run{f:eH}(h:n9 P o f):my P o f:=by
 intro g w nt t hp a v h' H T e
 rcases h g w nt t hp a v h' H.toHC T e with⟨rfl,x,C,el,hr,hv⟩|⟨cs,C,el,vs,x,rfl,hr,eI,hc,hv⟩
 ·obtain⟨E,H'⟩:=CC H (.cells C el)
  exact⟨g,_,.value x,x,hr,.inl rfl,E,H',hv _ _⟩
 ·obtain⟨E,H'⟩:=wP H (C:=C) el eI hc
  exact⟨_,_,.value x,x,hr,.inl rfl,E,H',hv _ _ (by simp[G.add]) (by rw[r6];exact Nat.le_refl _)⟩
theorem KR{g:G}{w:World}{id b:Nat}(hm:g.m id=some (b,0)):VR g w (.ref id 0) (.pointer (some ⟨b,0,none⟩)):=by
 simp only[VR]
 exact⟨b,0,hm,rfl⟩
theorem KS{g:G}{w:World}{id b n c sz m:Nat}(hm:g.m id=some (b,0))(hn:n<=c)(hc:c*sz<=m)(hr:m<=dU w b):VR g w (.ff id 0 n sz) (.slice (some ⟨b,0,none⟩) n c):=by
 simp only[VR]
 exact .inr ⟨b,0,c,hm,rfl,hn,by omega⟩
theorem KT{g:G}{w:World}{b:Addr}:VR g w .p' (.slice (some b) 0 0):=by
 simp only[VR]
 exact⟨_,rfl⟩
theorem KU{T:TypeId}{z:List AV}(ho:o.op=.alloc T)(hz:zeroOf P T=some z):n9 P o (dY z):=by
 intro g w nt t h a v h' H Tr e
 cases e
 obtain⟨i,zv,hi,vH,hz⟩:=iB hz
 refine .inr ⟨wM z,zv.cells,T,zv.cells.toList,.pointer (some ⟨w.heap.size,0,none⟩),rfl,?_,by rw[iQ];exact hz g w,fun j v e=>by simpa using e,fun g' w' hm _=>KR hm⟩
 simp[execOp,ho,Instr.alloc,zeroValue,typeInfo,hi,vH,newVar,newRow]
theorem KV{T:TypeId}{x:Operand}(ho:o.op=.box T x):n9 P o (en (aM x)):=by
 intro g w nt t h a v h' H Tr e
 unfold en at e
 split at e
 ·rename_i av hx
  cases e
  have hv:=ba x _ _ _ _ _ _ Tr hx
  refine .inr ⟨_,(a.eval x).cells,T,_,.pointer (some ⟨w.heap.size,0,none⟩),rfl,?_,by rw[iQ];exact hv.cells,fun j v e=>by simpa using e,fun g' w' hm _=>KR hm⟩
  simp[execOp,ho,Instr.box,newVar,newRow]
 ·cases e
end
end Go.Ab

noncomputable section
namespace Go.Ab
variable [Io]
section
variable {P:Program}{o:Oper}
omit [Io] in
theorem zY(z:List Value): ∀ c:Nat,(List.range (c*z.length)).map (fun j=>z.toArray[j % z.length]!)=(List.replicate c z).flatten
 |0=>by simp
 |c+1=>by
  rw[Nat.succ_mul,Nat.add_comm,List.range_add,List.map_append,List.replicate_succ,List.flatten_cons,<-zY z c,List.map_map]
  congr 1
  ·apply List.ext_getElem?
   intro j
   by_cases hj:j<z.length
   ·have:j % z.length=j:=Nat.mod_eq_of_lt hj
    simp[hj,this]
   ·rw[List.getElem?_eq_none (by simp;omega),List.getElem?_eq_none (by omega)]
  ·apply List.map_congr_left
   intro j _
   simp[Function.comp]
omit [Io] in
theorem qD(z:Array Value)(c:Nat):((Array.range (c*z.size)).map (fun j=>z[j % z.size]!)).toList=(List.replicate c z.toList).flatten:=by
 rw[Array.toList_map,Array.toList_range]
 exact zY z.toList c
def lh(g:G)(w:World):List (Nat×AV)->List (Nat×Value)->Prop
 | [],l=>l=[]
 |p::r,l=> ∃ v l',l=(p.1,v)::l'/\VR g w p.2 v/\lh g w r l'
theorem CD{g w size}: ∀ (ps:List (Nat×AV)) (i:Nat) (r:List AV) (qs:List (Nat×Value)) (C:Array Value),tt size ps i=some r->lh g w ps qs->
 (i+ps.length)*size<=C.size-> ∃ C' us,Instr.fill (fun i=>some (i*size,size)) C qs=some C'/\bD g w r us/\us.length=ps.length*size/\
  C'.toList=C.toList.take (i*size)++us++C.toList.drop ((i+ps.length)*size)
 | [],i,r,qs,C,e,h,hC=>by
  simp only[lh]at h
  subst h
  cases e
  exact⟨C,[],rfl,by simp[bD],by simp,by simp⟩
 |p::ps,i,r,qs,C,e,h,hC=>by
  simp only[lh]at h
  obtain⟨v,qs',rfl,hr,h⟩:=h
  change (bif Nat.beq p.1 i&&Nat.beq (len p.2.cells) size then(match tt size ps (Nat.add i 1)with|some r=>some (app p.2.cells r)|none=>none)else none)=some r at e
  cases hb:(Nat.beq p.1 i&&Nat.beq (len p.2.cells) size)with
  |false=>rw[hb]at e;cases e
  |true=>
   rw[hb]at e
   simp only[Bool.and_eq_true,bM]at hb
   have h1:=Nat.eq_of_beq_eq_true hb.1
   have h2:=Nat.eq_of_beq_eq_true hb.2
   change (match tt size ps (i+1)with|some r=>some (app p.2.cells r)|none=>none)=some r at e
   split at e
   ·rename_i r' hr'
    cases e
    have hc:=hr.cells
    have hl:=hc.length
    rw[h2]at hl
    have e1:(i+(ps.length+1))*size=i*size+size+ps.length*size:=by rw[Nat.add_mul,Nat.add_mul];omega
    have hC1:i*size+size+ps.length*size<=C.size:=by rw[List.length_cons,e1]at hC;exact hC
    have hl':v.cells.size=size:=by simpa using hl
    have hf:=xC (i*size) v.cells.toList 0 C (by rw[hl];omega)
    simp only[Nat.add_zero,hl]at hf
    have rM:(C.toList.take (i*size)++v.cells.toList++C.toList.drop (i*size+size)).toArray.size=C.size:=by
     simp;omega
    obtain⟨C',us,P5,Cg,hlen,E5⟩:=CD ps (i+1) r' qs' (C.toList.take (i*size)++v.cells.toList++C.toList.drop (i*size+size)).toArray hr' h (by
     rw[rM,show(i+1+ps.length)*size=i*size+size+ps.length*size from by rw[Nat.add_mul,Nat.add_mul];omega];exact hC1)
    refine⟨C',v.cells.toList++us,?_,?_,?_,?_⟩
    ·rw[h1]
     simp only[Instr.fill]
     rw[if_neg (by simp[hl'];omega)]
     rw[<-P5,<-hf,<-Array.foldl_toList,Array.toList_zipIdx]
    ·rw[bp];exact hc.append Cg
    ·rw[List.length_append,hl,hlen,List.length_cons,Nat.succ_mul];omega
    ·rw[E5]
     simp only[List.append_assoc]
     have d1:(i+1)*size=i*size+size:=by rw[Nat.add_mul];omega
     rw[d1,show(i+1+ps.length)*size=i*size+size+ps.length*size from by rw[Nat.add_mul,Nat.add_mul];omega,List.length_cons,e1]
     have t1:(C.toList.take (i*size)).length=i*size:=by simp;omega
     have:(C.toList.take (i*size)++(v.cells.toList++C.toList.drop (i*size+size)))=(C.toList.take (i*size)++v.cells.toList)++C.toList.drop (i*size+size):=by simp
     rw[this]
     have t2:(C.toList.take (i*size)++v.cells.toList).length=i*size+size:=by rw[List.length_append,t1,hl]
     rw[List.take_append_of_le_length (by omega),List.take_of_length_le (by omega)]
     rw[List.drop_append,List.drop_eq_nil_of_le (by omega),t2,List.drop_drop,List.nil_append,List.append_assoc]
     congr 4
     omega
   ·cases e
def pn(l:List (Nat×Operand)):List (Nat×eJ):=l.map fun p=>(p.1,aM p.2)
theorem zZ{g w nt t}{a:Act}(T:TR g w nt t a.tmps): ∀ (l:List (Nat×Operand)) {vs:List (Nat×AV)},nE (pn l) t=some vs->lh g w vs (l.map fun p=>(p.1,a.eval p.2))
 | [],vs,e=>by cases e;simp[lh]
 |p::l,vs,e=>by
  change (match aM p.2 t with|some v=>(match nE (pn l) t with|some vs=>some ((p.1,v)::vs)|none=>none)|none=>none)=some vs at e
  split at e
  ·rename_i v hv
   split at e
   ·rename_i us hu
    cases e
    simp only[lh,List.map_cons]
    exact⟨_,_,rfl,ba p.2 _ _ _ _ _ _ T hv,zZ T l hu⟩
   ·cases e
  ·cases e
theorem tG{g w size}: ∀ {ps:List (Nat×AV)} {qs:List (Nat×Value)},lh g w ps qs->la g w (fun i=>some (i*size,size)) (scale size ps) qs
 | [],qs,h=>by simp only[lh]at h;subst h;show la g w _ [] [];simp[la]
 |p::ps,qs,h=>by
  simp only[lh]at h
  obtain⟨v,l',rfl,hv,h⟩:=h
  show la g w _ ((Nat.mul p.1 size,size,p.2)::scale size ps) _
  simp only[la]
  exact⟨p.1,v,l',rfl,rfl,hv,tG h⟩
theorem E6{g w n size}{z:List AV}{zv:List Value}{ps:List (Nat×AV)}{qs:List (Nat×Value)}{cs:List AV}(C:Array Value)(h:lh g w ps qs)
 (hz:bD g w (fX n z) C.toList)(hC:C.size=n*size)(e:rj n size z ps=some cs)(_:zv=zv):
 ∃ C',Instr.fill (fun i=>some (i*size,size)) C qs=some C'/\bD g w cs C'.toList/\C'.size=C.size:=by
 unfold rj at e
 split at e
 ·rename_i cs' n8
  cases e
  cases hb:Nat.beq (len ps) n with
  |false=>rw[hb]at n8;cases n8
  |true=>
   rw[hb]at n8
   rw[bM]at hb
   have hl:=Nat.eq_of_beq_eq_true hb
   obtain⟨C',us,P5,Cg,hlen,E5⟩:=CD ps 0 _ qs C n8 h (by rw[hC,Nat.zero_add,hl];exact Nat.le_refl _)
   have ht:C'.toList=us:=by
    rw[E5]
    simp only[Nat.zero_mul,List.take_zero,List.nil_append,Nat.zero_add]
    rw[List.drop_eq_nil_of_le (by rw[hl,<-hC];simp),List.append_nil]
   refine⟨C',P5,by rw[ht];exact Cg,?_⟩
   have:C'.toList.length=C'.size:=by simp
   rw[<-this,ht,hlen,hl,hC]
 ·exact AX _ _ _ _ C (tG h) hz e
def KW(P:Program)(T:TypeId)(n:Nat)(parts:List (Nat×Operand)):eH:=
 match P.underlying T with
 |some (.slice e)=>match P.info? e with
  |some ie=>match zeroOf P e with
   |some z=>iu (Nat.beq (len z) ie.size&&(Nat.ble (Nat.mul n ie.size) 16777216&&Nat.blt 0 ie.size)) (bC n ie.size z (pn parts)) bE
   |none=>bE
  |none=>bE
 | _=>bE
theorem KX{T:TypeId}{n:Nat}{parts:Array (Nat×Operand)}(ho:o.op=.buildSlice T n parts):n9 P o (KW P T n parts.toList):=by
 intro g w nt t h a v h' H Tr e
 unfold KW at e
 cases hu:P.underlying T with
 |none=>rw[hu]at e;cases e
 |some d=>
 rw[hu]at e
 cases d<;>try (cases e;done)
 rename_i el
 simp only at e
 cases nd:P.info? el with
 |none=>rw[nd]at e;cases e
 |some ie=>
 rw[nd]at e
 cases hz:zeroOf P el with
 |none=>simp only[hz]at e;cases e
 |some z=>
 simp only[hz]at e
 cases hb:(Nat.beq (len z) ie.size&&(Nat.ble (Nat.mul n ie.size) 16777216&&Nat.blt 0 ie.size))with
 |false=>rw[hb]at e;cases e
 |true=>
 rw[hb]at e
 simp only[Bool.and_eq_true,bM]at hb
 have hzl:=Nat.eq_of_beq_eq_true hb.1
 have hsm:n*ie.size<=16777216:=Nat.ble_eq.mp hb.2.1
 have h0:0<ie.size:=bH.1 hb.2.2
 obtain⟨i,zv,hi,vH,GY⟩:=iB hz
 obtain rfl:ie=i:=by rw[nd]at hi;exact Option.some.inj hi
 change bC n ie.size z (pn parts.toList) t h=.ok v h' at e
 unfold bC at e
 split at e
 ·rename_i vs eI
  have QW:=zZ Tr parts.toList eI
  have tH:zv.cells.size=ie.size:=by
   have:=(GY g w).length
   simp only[Array.length_toList]at this
   omega
  cases hn:Nat.beq n 0 with
  |true=>
   rw[hn]at e
   obtain rfl:=Nat.eq_of_beq_eq_true hn
   cases vs with
   |cons _ _=>cases e
   |nil=>
    cases e
    simp only[lh,List.map_eq_nil_iff,Array.toList_eq_nil_iff]at QW
    subst QW
    refine .inl ⟨rfl,.slice (some ⟨w.heap.size,0,none⟩) 0 0,#[],el,?_,fun _ _=>KT⟩
    ·simp[execOp,ho,Instr.buildSlice,run_underlying hu,sizeOf,typeInfo,nd,Instr.fill,newRow,Array.range_zero']
  |false=>
   rw[hn]at e
   have Vb:n≠0:=fun k=>by subst k;cases hn
   have hns:n*ie.size≠0:=Nat.mul_ne_zero Vb (by omega)
   simp only[cond_false]at e
   split at e
   ·rename_i cs n8
    cases e
    have KY:bD g w (fX n z) ((Array.range (n*ie.size)).map (fun j=>zv.cells[j % zv.cells.size]!)).toList:=by
     rw[<-tH,qD]
     exact(GY g w).repeat n
    obtain⟨C',P5,rm,hs⟩:=E6 (zv:=[]) _ QW KY (by simp) n8 rfl
    refine .inr ⟨wM cs,C',el,C'.toList,.slice (some ⟨w.heap.size,0,none⟩) n n,rfl,?_,by rw[iQ];exact rm,fun j v e=>by simpa using e,
     fun g' w' hm hr=>KS hm (Nat.le_refl _) (by rw[hs];simp) hr⟩
    have ahC: ¬ 16777216<n*ie.size:=by omega
    simp only[execOp,ho]
    show((Instr.buildSlice T n (parts.map fun p=>(p.1,a.eval p.2))>>=fun v=>(pure (.value v):Sem Next))).run P w=_
    simp[Instr.buildSlice,run_underlying hu,sizeOf,typeInfo,nd,zeroValue,vH,ahC,hns,P5,newRow]
   ·cases e
 ·cases e
def CE(P:Program)(T:TypeId)(l c:Operand):eH:=
 match P.underlying T with
 |some (.slice e)=>match P.info? e with
  |some ie=>match zeroOf P e with
   |some z=>iu (Nat.beq (len z) ie.size&&Nat.blt 0 ie.bytes) (m0 ie.size ie.bytes z (aM l) (aM c)) bE
   |none=>bE
  |none=>bE
 | _=>bE
theorem IA{T:TypeId}{l c:Operand}(ho:o.op=.makeSlice T l c):n9 P o (CE P T l c):=by
 intro g w nt t h a v h' H Tr e
 unfold CE at e
 cases hu:P.underlying T with
 |none=>rw[hu]at e;cases e
 |some d=>
 rw[hu]at e
 cases d<;>try (cases e;done)
 rename_i el
 simp only at e
 cases nd:P.info? el with
 |none=>rw[nd]at e;cases e
 |some ie=>
 rw[nd]at e
 cases hz:zeroOf P el with
 |none=>simp only[hz]at e;cases e
 |some z=>
 simp only[hz]at e
 cases hb:(Nat.beq (len z) ie.size&&Nat.blt 0 ie.bytes)with
 |false=>rw[hb]at e;cases e
 |true=>
 rw[hb]at e
 simp only[Bool.and_eq_true,bM]at hb
 have hzl:=Nat.eq_of_beq_eq_true hb.1
 have h0:0<ie.bytes:=bH.1 hb.2
 obtain⟨i,zv,hi,vH,GY⟩:=iB hz
 obtain rfl:ie=i:=by rw[nd]at hi;exact Option.some.inj hi
 have tH:zv.cells.size=ie.size:=by
  have:=(GY g w).length
  simp only[Array.length_toList]at this
  omega
 change m0 ie.size ie.bytes z (aM l) (aM c) t h=.ok v h' at e
 unfold m0 at e
 split at e
 ·rename_i kl ln hl
  split at e
  ·rename_i kc cn hc
   have hvl:=ba l _ _ _ _ _ _ Tr hl
   have hvc:=ba c _ _ _ _ _ _ Tr hc
   simp only[VR]at hvl hvc
   cases hle:(Nat.ble ln cn&&Nat.ble (Nat.mul cn ie.bytes) 70368744177664)with
   |false=>rw[hle]at e;cases e
   |true=>
    rw[hle]at e
    simp only[Bool.and_eq_true]at hle
    have h1:ln<=cn:=Nat.ble_eq.mp hle.1
    have h2:cn*ie.bytes<=70368744177664:=Nat.ble_eq.mp hle.2
    have h3:cn<=cn*ie.bytes:=Nat.le_mul_of_pos_right _ h0
    have hr:=run_make (P:=P) w T el ie zv hu nd vH kl kc (Int.ofNat ln) (Int.ofNat cn) (Int.natCast_nonneg ln) (by show((ln:Nat):Int)<=(cn:Nat);omega) (by
     show((ie.bytes:Nat):Int)*((cn:Nat):Int)<=_
     rw[<-Int.natCast_mul,Nat.mul_comm];omega) (by show((cn:Nat):Int)<=_;omega)
    have hex:(execOp a.eval o).run P w=.ok (.value (.slice (some ⟨w.heap.size,0,none⟩) ln cn)) (w.alloc (.cells (madeCells zv.cells (cn*ie.size)) el)):=by
     simp only[execOp,ho,hvl,hvc,Sem.run_bind,hr,Result.andThen_ok,Sem.run_pure]
     rfl
    cases hc0:Nat.beq cn 0 with
    |true=>
     rw[hc0]at e
     cases e
     obtain rfl:=Nat.eq_of_beq_eq_true hc0
     obtain rfl:ln=0:=by omega
     exact .inl ⟨rfl,_,_,_,hex,fun _ _=>KT⟩
    |false=>
     rw[hc0]at e
     cases e
     have KY:bD g w (fX cn z) (madeCells zv.cells (cn*ie.size)).toList:=by
      unfold madeCells
      rw[<-tH,qD]
      exact(GY g w).repeat cn
     exact .inr ⟨_,_,_,_,_,rfl,hex,by rw[GS];exact KY,fun j v e=>by simpa using e,fun g' w' hm hr=>KS hm h1 (by rw[size_madeCells];exact Nat.le_refl _) hr⟩
  ·cases e
 ·cases e
end
end Go.Ab

noncomputable section
namespace Go.Ab
variable [Io]
section
variable {P:Program}{o:Oper}
theorem CF{g w h}(H:HR g w h):Ext g w h g w.drew h/\HR g w.drew h:=by
 have E:Ext g w h g w.drew h:=
  ⟨rfl,rfl,rfl,Nat.le_refl _,Nat.le_refl _,fun _ _ e=>e,fun _ _ _=>rfl,fun _=>Nat.le_refl _,fun _ i=>i,fun _ i=>.inl i,fun _ o=>.inl o⟩
 refine⟨E,H.fresh,?_,H.inj,H.fw,nJ.ext H E⟩
 intro id cs e
 obtain⟨b,s,C,el,vs,hm,hw,hi,hv,hc⟩:=H.aL id cs e
 exact⟨b,s,C,el,vs,hm,hw,hi,bD.mono H E _ _ hv,hc⟩
theorem KZ{g w h}(H:HR g w h)(id:Nat):Ext g w h g w (jz h id none)/\HR g w (jz h id none):=by
 have hg: ∀ i,(jz h id none).aL.get i=if i=id then none else h.aL.get i:=fun i=>Tr.jX _ _ _ _
 have E:Ext g w h g w (jz h id none):=by
  refine⟨rfl,rfl,rfl,Nat.le_refl _,Nat.le_refl _,fun _ _ e=>e,fun _ _ _=>rfl,fun _=>Nat.le_refl _,fun _ i=>i,fun _ i=>.inl i,?_⟩
  rintro b ⟨i,cs,s,e,m⟩
  rw[hg]at e
  by_cases hi:i=id
  ·rw[if_pos hi]at e;cases e
  ·rw[if_neg hi]at e
   exact .inl ⟨i,cs,s,e,m⟩
 refine⟨E,H.fresh,?_,?_,H.fw,nJ.ext H E⟩
 ·intro i cs e
  rw[hg]at e
  by_cases hi:i=id
  ·rw[if_pos hi]at e;cases e
  ·rw[if_neg hi]at e
   obtain⟨b,s,C,el,vs,hm,hw,hi,hv,hc⟩:=H.aL i cs e
   exact⟨b,s,C,el,vs,hm,hw,hi,bD.mono H E _ _ hv,hc⟩
 ·intro i i' b s s' c1 c2 e1 e2
  rw[hg]at e1 e2
  by_cases h1:i=id
  ·rw[if_pos h1]at e1;cases e1
  ·by_cases h2:i'=id
   ·rw[if_pos h2]at e2;cases e2
   ·rw[if_neg h1]at e1
    rw[if_neg h2]at e2
    exact H.inj i i' b s s' c1 c2 e1 e2
omit [Io] in
theorem eE(P:Program)(g o:Nat)(t:TypeId)(fz:Nat×Nat): ∀ (vs:List Value) (i:Nat) (cur:Array Value) (w:World),w.heap[g]? =some (.cells cur t fz)->(∀ i,i<cur.size-> ¬ (fz.1<=i/\i<fz.2))->
 o+i+vs.length<=cur.size->(∀ v∈vs,v.oneCell'=true)->
 (storeCells ⟨g,o,none⟩ vs i).run P w=.ok () (w.setRow g (cur.toList.take (o+i)++vs++cur.toList.drop (o+i+vs.length)).toArray)
 | [],i,cur,w,hg,_,_,_=>by
  simp only[storeCells,List.append_nil,List.length_nil,Nat.add_zero,List.take_append_drop,Array.toArray_toList]
  rw[setRow_self w g cur t fz hg]
  rfl
 |v::rest,i,cur,w,hg,hfz,hl,h1=>by
  have hi:o+i<cur.size:=by simp at hl;omega
  have ahE:(⟨g,o,none⟩:Addr).add i=⟨g,o+i,none⟩:=by unfold Addr.add;split<;>simp_all
  have abZ:w.cell? ⟨g,o+i,none⟩=some cur[o+i]:=by simp[World.cell?,hg,hi]
  have ahF:w.frozen? ⟨g,o+i,none⟩=false:=by
   have:=hfz (o+i) hi
   obtain⟨lo,uX⟩:=fz
   simp only[World.frozen?,hg]
   simp only at this
   rw[Bool.eq_false_iff]
   intro h
   simp only[Bool.and_eq_true,decide_eq_true_eq]at h
   exact this h
  have wS:(store ((⟨g,o,none⟩:Addr).add i) v).run P w=.ok () (w.setRow g (cur.setIfInBounds (o+i) v)):=by
   rw[ahE,run_store P w _ v _ (h1 v (by simp)),abZ]
   simp[ahF,setCell_eq_setRow w g (o+i) cur t fz v hg]
  have ih:=eE P g o t fz rest (i+1) (cur.setIfInBounds (o+i) v) (w.setRow g (cur.setIfInBounds (o+i) v)) (setRow_heap w g cur _ t _ hg) (by simpa using hfz) (by simp at hl ⊢;omega) (fun x hx=>h1 x (by simp[hx]))
  simp only[storeCells,Sem.run_bind,wS,Result.andThen_ok,ih,setRow_setRow]
  congr 3
  have e:=list_seg_step cur.toList (o+i) v rest (by simp at hl ⊢;omega)
  simpa[Array.toList_setIfInBounds,Nat.add_assoc]using e
omit [Io] in
theorem gH{w:World}{b:Nat}{C C':Array Value}{el:TypeId}{fz:Nat×Nat}(hw:w.heap[b]? =some (.cells C el fz))(k:Nat):
 (w.setRow b C').heap[k]? =if k=b then some (.cells C' el fz)else w.heap[k]? :=by
 by_cases hk:k=b
 ·subst hk;rw[if_pos rfl];exact setRow_heap w k C C' el fz hw
 ·rw[if_neg hk];exact setRow_other w b k C' hk
theorem IB{g w h}(H:HR g w h){id b s s':Nat}{cs cs':Rw}{C C':Array Value}{el:FT C}{us:List Value}(he:h.aL.get id=some cs)(hm:g.m id=some (b,s))
 (hw:w.heap[b]? =some (.cells C el.el el.fz))(hs:C'.size=C.size)(hv:bD g w cs'.toL us)(hc: ∀ (j:Nat) (v:Value),us[j]? =some v->C'[s'+j]? =some v):
 Ext g w h ⟨fun i=>if i=h.next then some (b,s')else g.m i,g.fw⟩ (w.setRow b C') (dw (jz h id none) cs')/\
  HR ⟨fun i=>if i=h.next then some (b,s')else g.m i,g.fw⟩ (w.setRow b C') (dw (jz h id none) cs'):=by
 have Vc:jW g h b:=⟨id,cs,s,he,hm⟩
 have hg: ∀ i,(dw (jz h id none) cs').aL.get i=if i=h.next then some cs' else if i=id then none else h.aL.get i:=by
  intro i
  show((h.aL.set id none).set h.next (some cs')).get i=_
  rw[Tr.jX,Tr.jX]
 have jN: ∀ i x,g.m i=some x->i≠h.next:=by
  intro i x e hi
  rw[H.fresh i (by omega)]at e;cases e
 have E:Ext g w h ⟨fun i=>if i=h.next then some (b,s')else g.m i,g.fw⟩ (w.setRow b C') (dw (jz h id none) cs'):=by
  refine⟨rfl,rfl,rfl,by simp,Nat.le_succ _,?_,?_,?_,fun _ i=>i,fun _ i=>.inl i,?_⟩
  ·intro i x e
   simp only[if_neg (jN i x e)]
   exact e
  ·intro k _ ho
   rw[gH hw,if_neg]
   rintro rfl
   exact ho Vc
  ·intro k
   unfold dU
   rw[gH hw]
   by_cases hk:k=b
   ·subst hk;simp[hw,hs]
   ·rw[if_neg hk];exact Nat.le_refl _
  ·rintro k ⟨i,c,q,e,m⟩
   rw[hg]at e
   by_cases hi:i=h.next
   ·simp only[if_pos hi]at m
    obtain⟨rfl,_⟩:=Prod.mk.inj (Option.some.inj m)
    exact .inl Vc
   ·rw[if_neg hi]at e
    simp only[if_neg hi]at m
    by_cases h2:i=id
    ·rw[if_pos h2]at e;cases e
    ·rw[if_neg h2]at e
     exact .inl ⟨i,c,q,e,m⟩
 refine⟨E,?_,?_,?_,?_,nJ.ext H E⟩
 ·intro i hi
  have uX:h.next+1<=i:=hi
  simp only
  rw[if_neg (by omega)]
  exact H.fresh i (by omega)
 ·intro i c e
  rw[hg]at e
  by_cases hi:i=h.next
  ·rw[if_pos hi]at e
   cases e
   exact⟨b,s',C',el.to hs,us,by simp[hi],by rw[gH hw,if_pos rfl];rfl,fun k=>H.mc k Vc,bD.mono H E _ _ hv,hc⟩
  ·rw[if_neg hi]at e
   by_cases h2:i=id
   ·rw[if_pos h2]at e;cases e
   ·rw[if_neg h2]at e
    obtain⟨b2,s2,C2,W1,P6,IC,K3,Kj,Ve,Vf⟩:=H.aL i c e
    have CG:b2≠b:=by
     rintro rfl
     exact h2 (H.inj i id b2 s2 s c cs e he IC hm)
    exact⟨b2,s2,C2,W1,P6,by simp only[if_neg hi];exact IC,by rw[gH hw,if_neg CG];exact K3,Kj,bD.mono H E _ _ Ve,Vf⟩
 ·intro i i' k q q' c1 c2 e1 e2 m1 m2
  rw[hg]at e1 e2
  have rL: ∀ i c q,i≠h.next->(if i=id then none else h.aL.get i)=some c->g.m i=some (b,q)->False:=by
   intro i c q _ e m
   by_cases h2:i=id
   ·rw[if_pos h2]at e;cases e
   ·rw[if_neg h2]at e
    exact h2 (H.inj i id b q s c cs e he m hm)
  by_cases h1:i=h.next<;>by_cases h2:i'=h.next
  ·exact h1.trans h2.symm
  ·rw[if_neg h2]at e2
   simp only[if_pos h1]at m1
   simp only[if_neg h2]at m2
   obtain⟨rfl,_⟩:=Prod.mk.inj (Option.some.inj m1)
   exact(rL i' _ _ h2 e2 m2).elim
  ·rw[if_neg h1]at e1
   simp only[if_neg h1]at m1
   simp only[if_pos h2]at m2
   obtain⟨rfl,_⟩:=Prod.mk.inj (Option.some.inj m2)
   exact(rL i _ _ h1 e1 m1).elim
  ·rw[if_neg h1]at e1
   rw[if_neg h2]at e2
   simp only[if_neg h1]at m1
   simp only[if_neg h2]at m2
   by_cases k1:i=id
   ·rw[if_pos k1]at e1;cases e1
   ·by_cases k2:i'=id
    ·rw[if_pos k2]at e2;cases e2
    ·rw[if_neg k1]at e1
     rw[if_neg k2]at e2
     exact H.inj i i' k q q' c1 c2 e1 e2 m1 m2
 ·intro k i
  have:=H.fw k i
  simp
  omega
theorem K4{g w h}(H:HR g w h){w':World}{id b s:Nat}{cs:Rw}{C:Array Value}{el el':FT C}(he:h.aL.get id=some cs)(hm:g.m id=some (b,s))
 (hw:w.heap[b]? =some (.cells C el.el el.fz))(h1:w'.os=w.os)(h2:w'.tape=w.tape)(h3:w'.output=w.output)(h4:w'.heap.size=w.heap.size)
 (hp: ∀ k,w'.heap[k]? =if k=b then some (.cells C el'.el el'.fz)else w.heap[k]?):Ext g w h g w' h/\HR g w' h:=by
 have Vc:jW g h b:=⟨id,cs,s,he,hm⟩
 have E:Ext g w h g w' h:=by
  refine⟨h1,h2,h3,by omega,Nat.le_refl _,fun _ _ e=>e,?_,?_,fun _ i=>i,fun _ i=>.inl i,fun _ o=>.inl o⟩
  ·intro k _ ho
   rw[hp,if_neg]
   rintro rfl
   exact ho Vc
  ·intro k
   unfold dU
   rw[hp]
   by_cases hk:k=b
   ·subst hk;simp[hw]
   ·rw[if_neg hk];exact Nat.le_refl _
 refine⟨E,H.fresh,?_,H.inj,?_,nJ.ext H E⟩
 ·intro i c e
  obtain⟨b2,s2,C2,W1,P6,IC,K3,Kj,Ve,Vf⟩:=H.aL i c e
  by_cases CG:b2=b
  ·subst CG
   rw[hw]at K3
   injection K3 with K3
   injection K3 with e1 e2 e3
   subst e1
   exact⟨b2,s2,C,el',P6,IC,by rw[hp,if_pos rfl],Kj,bD.mono H E _ _ Ve,Vf⟩
  ·exact⟨b2,s2,C2,W1,P6,IC,by rw[hp,if_neg CG];exact K3,Kj,bD.mono H E _ _ Ve,Vf⟩
 ·intro k i
  have:=H.fw k i
  omega
theorem z6{g w h}(H:HR g w h){id b s:Nat}{cs cs':Rw}{C C':Array Value}{el:FT C}{us:List Value}(he:h.aL.get id=some cs)(hm:g.m id=some (b,s))
 (hw:w.heap[b]? =some (.cells C el.el el.fz))(hs:C'.size=C.size)(hv:bD g w cs'.toL us)(hc: ∀ (j:Nat) (v:Value),us[j]? =some v->C'[s+j]? =some v):
 Ext g w h g (w.setRow b C') (jz h id (some cs'))/\HR g (w.setRow b C') (jz h id (some cs')):=by
 have Vc:jW g h b:=⟨id,cs,s,he,hm⟩
 have hg: ∀ i,(jz h id (some cs')).aL.get i=if i=id then some cs' else h.aL.get i:=fun i=>Tr.jX _ _ _ _
 have live: ∀ i c,(if i=id then some cs' else h.aL.get i)=some c-> ∃ c',h.aL.get i=some c':=by
  intro i c e
  by_cases hi:i=id
  ·exact⟨cs,by rw[hi];exact he⟩
  ·rw[if_neg hi]at e;exact⟨c,e⟩
 have E:Ext g w h g (w.setRow b C') (jz h id (some cs')):=by
  refine⟨rfl,rfl,rfl,by simp,Nat.le_refl _,fun _ _ e=>e,?_,?_,fun _ i=>i,fun _ i=>.inl i,?_⟩
  ·intro k _ ho
   rw[gH hw,if_neg]
   rintro rfl
   exact ho Vc
  ·intro k
   unfold dU
   rw[gH hw]
   by_cases hk:k=b
   ·subst hk;simp[hw,hs]
   ·rw[if_neg hk];exact Nat.le_refl _
  ·rintro k ⟨i,c,q,e,m⟩
   rw[hg]at e
   obtain⟨c',e'⟩:=live i c e
   exact .inl ⟨i,c',q,e',m⟩
 refine⟨E,H.fresh,?_,?_,?_,nJ.ext H E⟩
 ·intro i c e
  rw[hg]at e
  by_cases hi:i=id
  ·rw[if_pos hi]at e
   cases e
   exact⟨b,s,C',el.to hs,us,by rw[hi];exact hm,by rw[gH hw,if_pos rfl];rfl,fun k=>H.mc k Vc,bD.mono H E _ _ hv,hc⟩
  ·rw[if_neg hi]at e
   obtain⟨b2,s2,C2,W1,P6,IC,K3,Kj,Ve,Vf⟩:=H.aL i c e
   have CG:b2≠b:=by
    rintro rfl
    exact hi (H.inj i id b2 s2 s c cs e he IC hm)
   exact⟨b2,s2,C2,W1,P6,IC,by rw[gH hw,if_neg CG];exact K3,Kj,bD.mono H E _ _ Ve,Vf⟩
 ·intro i i' k q q' c1 c2 e1 e2 m1 m2
  rw[hg]at e1 e2
  obtain⟨c1',QX⟩:=live i c1 e1
  obtain⟨c2',e2'⟩:=live i' c2 e2
  exact H.inj i i' k q q' c1' c2' QX e2' m1 m2
 ·intro k i
  have:=H.fw k i
  simp
  omega
omit [Io] in
theorem G1{C:Array Value}{s off:Nat}{us ns:List Value}(hc: ∀ (j:Nat) (v:Value),us[j]? =some v->C[s+j]? =some v)(h:s+off+ns.length<=C.size):
 ∀ (j:Nat) (v:Value),(us.take off++(ns++us.drop (off+ns.length)))[j]? =some v->
  off<=us.length->(C.toList.take (s+off)++ns++C.toList.drop (s+off+ns.length)).toArray[s+j]? =some v:=by
 intro j v e ho
 have hu:(us.take off).length=off:=by simp;omega
 have hC:(C.toList.take (s+off)).length=s+off:=by simp;omega
 rw[List.getElem?_toArray,List.append_assoc]
 by_cases h1:j<off
 ·rw[List.getElem?_append_left (by omega),List.getElem?_take_of_lt h1]at e
  rw[List.getElem?_append_left (by omega),List.getElem?_take_of_lt (by omega)]
  simpa using hc j v e
 ·rw[List.getElem?_append_right (by omega),hu]at e
  rw[List.getElem?_append_right (by omega),hC,show s+j - (s+off)=j - off by omega]
  by_cases h2:j - off<ns.length
  ·rw[List.getElem?_append_left h2]at e ⊢
   exact e
  ·rw[List.getElem?_append_right (by omega),List.getElem?_drop]at e ⊢
   have:=hc _ v e
   rw[show s+off+ns.length+(j - off - ns.length)=s+(off+ns.length+(j - off - ns.length)) by omega]
   simpa using this
def AY(P:Program)(T:TypeId)(x y:Operand):eH:=
 match P.info? T with
 |some i=>iu (Nat.blt 0 i.size) (aH i.size (aM x) (aM y)) bE
 |none=>bE
theorem E7{T:TypeId}{x y:Operand}(ho:o.op=.store T x y):my P o (AY P T x y):=by
 intro g w nt t h a v h' H Tr e
 unfold AY at e
 cases hi:P.info? T with
 |none=>rw[hi]at e;cases e
 |some i=>
 rw[hi]at e
 cases QY:Nat.blt 0 i.size with
 |false=>simp only[QY]at e;cases e
 |true=>
 simp only[QY]at e
 have alI:=bH.1 QY
 change aH i.size (aM x) (aM y) t h=.ok v h' at e
 unfold aH at e
 split at e
 ·rename_i id off hx
  split at e
  ·rename_i av hy
   split at e
   ·rename_i cs hg
    cases hb:(Nat.beq (len av.cells) i.size&&(Nat.ble (Nat.add off (len av.cells)) cs.n&&cf dQ av.cells))with
    |false=>rw[hb]at e;cases e
    |true=>
     rw[hb]at e
     cases e
     simp only[Bool.and_eq_true,bM]at hb
     have h1:=Nat.eq_of_beq_eq_true hb.1
     have QZ:off+av.cells.length<=cs.n:=Nat.ble_eq.mp hb.2.1
     have h2:off+av.cells.length<=cs.toL.length:=by rw[eN];exact QZ
     have EF:=ba x _ _ _ _ _ _ Tr hx
     have wR:=ba y _ _ _ _ _ _ Tr hy
     simp only[VR]at EF
     obtain⟨b,s,hm,EF⟩:=EF
     obtain⟨C,el,vs,hw,_,eI,hc⟩:=H.row hg hm
     have fY:=wR.cells
     have r7:=bD.ER fY hb.2.2
     have hl:=fY.length
     simp only[Array.length_toList]at hl
     have sD:s+off+(a.eval y).cells.toList.length<=C.size:=by
      have:=bD.qC eI hc h2 (by omega)
      simp only[Array.length_toList]
      omega
     have wS:=eE P b (s+off) el.el el.fz (a.eval y).cells.toList 0 C w hw el.ok (by simpa using sD) r7
     simp only[Nat.add_zero]at wS
     have hlen:=eI.length
     obtain⟨E,H'⟩:=z6 H (C':=(C.toList.take (s+off)++(a.eval y).cells.toList++C.toList.drop (s+off+(a.eval y).cells.toList.length)).toArray)
      hg hm hw (by simp at sD ⊢;omega) (cs':=cs.put off av.cells) (us:=vs.take off++((a.eval y).cells.toList++vs.drop (off+(a.eval y).cells.toList.length)))
      (by rw[tA QZ,put_eq,<-fY.length];exact(eI.take _).append (fY.append (eI.drop _)))
      (fun j v e=>G1 hc sD j v e (by omega))
     refine⟨g,_,.skip,undef,?_,.inr ⟨rfl,rfl⟩,E,H',by simp only[gQ,VR];exact⟨_,rfl,by simp[bD]⟩⟩
     have rM: ¬ (a.eval y).cells.size≠i.size:=by omega
     simp only[execOp,ho,Instr.storeAt,Instr.sureAddr,EF,storeVar,sizeOf,typeInfo,hi,wS,Sem.run_bind,Sem.run_pure,Result.andThen_ok,run_program,Sem.run_ite,if_neg rM]
   ·cases e
  ·cases e
 ·cases e
end
end Go.Ab

noncomputable section
namespace Go.Ab
variable [Io]
section
variable {P:Program}{o:Oper}
omit [Io] in
theorem qa(w:World)(t ty e:TypeId)(i:TypeInfo)(ht:P.underlying t=some (.slice e))(hi:P.info? e=some i)(b x:Option Addr)(cF ez c:Nat)(h:cF<=ez):
 (Builtin.append_ #[t,t] ty #[.slice b cF ez,.slice x 0 c]).run P w=.ok (.slice b cF ez) w:=by
 cases b<;>cases x<;>
  simp[Builtin.append_,run_underlying ht,sizeOf,typeInfo,hi,Builtin.lenOf,Builtin.firstCells,loadCells,loadCellsFrom,h,storeCells]
omit [Io] in
theorem zj(w:World)(t ty e:TypeId)(i:TypeInfo)(ht:P.underlying t=some (.slice e))(hi:P.info? e=some i)
 (g at_ cF ez:Nat)(cur:Array Value)(el:FT cur)(hg:w.heap[g]? =some (.cells cur el.el el.fz))
 (a:Addr)(m c:Nat)(news:List Value)(hl:news.length=m*i.size)(ab0: ∀ j u,news[j]? =some u->w.cell? (a.add j)=some u)(h1: ∀ u∈news,u.oneCell'=true)
 (mz:cF+m<=ez)(sE:at_+cF*i.size+news.length<=cur.size):
 (Builtin.append_ #[t,t] ty #[.slice (some ⟨g,at_,none⟩) cF ez,.slice (some a) m c]).run P w=
  .ok (.slice (some ⟨g,at_,none⟩) (cF+m) ez) (w.setRow g (cur.toList.take (at_+cF*i.size)++news++cur.toList.drop (at_+cF*i.size+news.length)).toArray):=by
 have hf:=run_firstCells_some (P:=P) w i.size m a m c news hl ab0
 have wS:=eE P g (at_+cF*i.size) el.el el.fz news 0 cur w hg el.ok (by simpa using sE) h1
 simp only[Nat.add_zero]at wS
 simp[Builtin.append_,run_underlying ht,sizeOf,typeInfo,hi,Builtin.lenOf,mz,hf,iA,wS]
theorem oc{g w h}(H:HC g w h){x:AV}{v:Value}(hv:VR g w x v){n:Nat}{cs:List AV}(e:dk h x=some (n,cs)):
 ∃ a c,v=.slice a n c/\n<=c/\(cs=[]∨ ∃ b s vs,a=some ⟨b,s,none⟩/\bD g w cs vs/\ee w b s vs):=by
 unfold dk at e
 split at e
 ·cases e
  simp only[VR]at hv
  obtain⟨a,rfl⟩:=hv
  exact⟨a,0,rfl,Nat.le_refl _,.inl rfl⟩
 ·cases e
  simp only[VR]at hv
  obtain⟨a,c,rfl,hc,hr⟩:=hv
  refine⟨a,c,rfl,hc,?_⟩
  rcases hr with⟨_,rfl⟩|⟨b,s,vs,rfl,_,n8,eI⟩
  ·exact .inl rfl
  ·exact .inr ⟨b,s,vs,rfl,eI,n8⟩
 ·rename_i id off n' sz
  split at e
  ·rename_i cs' hg
   split at e
   ·rename_i l hs
    cases e
    obtain⟨rfl,hl,_⟩:=mu hs
    simp only[VR]at hv
    rcases hv with⟨rfl,a,rfl⟩|⟨b,s,cap,hm,rfl,hc,_⟩
    ·refine⟨a,0,rfl,Nat.le_refl _,.inl ?_⟩
     have:(List.take (Nat.mul 0 sz) (List.drop off cs'.toL))=[]:=by
      rw[show Nat.mul 0 sz=0 from Nat.zero_mul _];rfl
     exact this
    ·obtain⟨C,el,vs,hw,_,eI,Q0⟩:=H.row hg hm
     exact⟨_,cap,rfl,hc,.inr ⟨b,s+off,_,rfl,(eI.drop off).take _,((jI hw Q0).drop off).take _⟩⟩
   ·cases e
  ·cases e
 ·cases e
theorem lj{g w h}(H:HR g w h){x:AV}{v:Value}(hv:VR g w x v){n:Nat}{cs:List AV}(e:dk h x=some (n,cs)):
 ∃ a c,v=.slice a n c/\n<=c/\(cs=[]∨ ∃ b s vs,a=some ⟨b,s,none⟩/\bD g w cs vs/\ee w b s vs):=oc H.toHC hv e
omit [Io] in
theorem mA{w:World}{b s:Nat}{vs:List Value}(h:ee w b s vs): ∀ j u,vs[j]? =some u->w.cell? ((⟨b,s,none⟩:Addr).add j)=some u:=by
 intro j u e
 rw[iA]
 exact h j u e
structure ab1(P:Program)(w:World)(sF:Array TypeId)(ty el:TypeId)(ie:TypeInfo)(zv:Value)(vx:Value)(n:Nat)(us:List Value):Prop where
 ahG:0<n->n<=70368744177664->n*ie.bytes<=70368744177664->(Builtin.append_ sF ty #[.slice none 0 0,vx]).run P w=
  .ok (.slice (some ⟨w.heap.size,0,none⟩) n (grownCap w n 0 el)) (w.drew.alloc (.cells (us.toArray++Builtin.zeroCells zv.cells (grownCap w n 0 el - n)) el))
 Vg: ∀ (b:Addr) (cF ez:Nat) (zk:List Value),zk.length=cF*ie.size->(∀ (j:Nat) (v:Value),zk[j]? =some v->w.cell? (b.add j)=some v)->0<n->ez<cF+n->cF+n<=70368744177664->(cF+n)*ie.bytes<=70368744177664->
  (Builtin.append_ sF ty #[.slice (some b) cF ez,vx]).run P w=.ok (.slice (some ⟨w.heap.size,0,none⟩) (cF+n) (grownCap w (cF+n) ez el))
    (w.drew.alloc (.cells (zk.toArray++us.toArray++Builtin.zeroCells zv.cells (grownCap w (cF+n) ez el - (cF+n))) el))
 aat: ∀ (g at_ cF ez:Nat) (cur:Array Value) (el:FT cur),w.heap[g]? =some (.cells cur el.el el.fz)->0<n->cF+n<=70368744177664->(cF+n)*ie.bytes<=70368744177664->(∀ u∈us,u.oneCell'=true)->
  cF+n<=ez->at_+cF*ie.size+us.length<=cur.size->(Builtin.append_ sF ty #[.slice (some ⟨g,at_,none⟩) cF ez,vx]).run P w=
   .ok (.slice (some ⟨g,at_,none⟩) (cF+n) ez) (w.setRow g (cur.toList.take (at_+cF*ie.size)++us++cur.toList.drop (at_+cF*ie.size+us.length)).toArray)
theorem qE{g:G}{w:World}{h h':Hp}{a:Act}{sF:Array TypeId}{el:TypeId}{ie:TypeInfo}{zv:Value}{vs0 vx:Value}{sv v:AV}{n:Nat}{new:List AV}(H:HR g w h)(eI:VR g w sv vs0)(h0:0<ie.size)(tH:zv.cells.size=ie.size)
 (hex: ∀ vs r w',vs0=vs->(Builtin.append_ sF o.type #[vs,vx]).run P w=.ok r w'->(execOp a.eval o).run P w=.ok (.value r) w')
 (h00:n=0-> ∀ (b:Option Addr) (ln cap:Nat),ln<=cap->(Builtin.append_ sF o.type #[.slice b ln cap,vx]).run P w=.ok (.slice b ln cap) w)
 (hap:n≠0->new.length=n*ie.size-> ∃ us,bD g w new us/\ab1 P w sF o.type el ie zv vx n us)
 (e:tw ie.size ie.bytes h sv n new=.ok v h'):
 ∃ g' w' nx x,(execOp a.eval o).run P w=.ok nx w'/\(nx=.value x∨(nx=.skip/\x=undef))/\Ext g w h g' w' h'/\HR g' w' h'/\VR g' w' v x:=by
   unfold tw at e
   have fresh: ∀ (b:Option Addr) (h2:Hp) (rw0:Rw),rw0.toL=new->vs0=.slice b 0 0->n≠0->n*ie.bytes<=70368744177664->cf dQ new=true->new.length=n*ie.size->n<=70368744177664->
    HR g w h2->Ext g w h g w h2->
    ∃ g' w' nx x,(execOp a.eval o).run P w=.ok nx w'/\(nx=.value x∨(nx=.skip/\x=undef))/\Ext g w h g' w' (dw h2 rw0)/\HR g' w' (dw h2 rw0)/\VR g' w' (.ff h2.next 0 n ie.size) x:=by
    intro b h2 rw0 hrw wv hn EG r7 hlen ahH H2 E2
    ·obtain⟨us,Cg,A⟩:=hap hn hlen
     have hul:=Cg.length
     have CH:us.length=n*ie.size:=by omega
     obtain⟨E3,H3⟩:=CF H2
     have hC: ∀ cap,n<=cap->n*ie.size+(cap - n)*ie.size=cap*ie.size:=by intro cap hc;rw[<-Nat.add_mul];congr 1;omega
     cases b with
     |none=>
      have hr:=A.ahG (by omega) ahH EG
      have K5:=grownCap_ge w n 0 el
      obtain⟨E4,H4⟩:=wP H3 (cs:=rw0) (C:=us.toArray++Builtin.zeroCells zv.cells (grownCap w n 0 el - n)) el (by rw[hrw];exact bD.mono H2 E3 _ _ Cg) (fun j v e=>by
       rw[Array.getElem?_append_left (by have:=(List.getElem?_eq_some_iff.1 e).1;simpa using this)];simpa using e)
      refine⟨_,_,_,_,hex _ _ _ wv hr,.inl rfl,E2.trans (E3.trans E4),H4,AN K5 ?_⟩
      rw[Array.size_append,size_zeroCells,tH,List.size_toArray,CH,hC _ K5]
      exact Nat.le_refl _
     |some b=>
      have hr:=A.Vg b 0 0 [] (by simp) (by simp) (by omega) (by omega) (by omega) (by rw[Nat.zero_add];exact EG)
      simp only[Nat.zero_add]at hr
      have K5:=grownCap_ge w n 0 el
      obtain⟨E4,H4⟩:=wP H3 (cs:=rw0) (C:= #[]++us.toArray++Builtin.zeroCells zv.cells (grownCap w n 0 el - n)) el (by rw[hrw];exact bD.mono H2 E3 _ _ Cg) (fun j v e=>by
       rw[Array.getElem?_append_left (by have:=(List.getElem?_eq_some_iff.1 e).1;simpa using this)];simpa using e)
      refine⟨_,_,_,_,hex _ _ _ wv hr,.inl rfl,E2.trans (E3.trans E4),H4,AN K5 ?_⟩
      rw[Array.size_append,size_zeroCells,tH,Array.empty_append,List.size_toArray,CH,hC _ K5]
      exact Nat.le_refl _
   split at e
   ·
    simp only[VR]at eI
    obtain⟨b,wv⟩:=eI
    cases hn:Nat.beq n 0 with
    |true=>
     rw[hn]at e
     cases e
     obtain rfl:=Nat.eq_of_beq_eq_true hn
     exact⟨g,w,_,_,hex _ _ _ wv (h00 rfl b 0 0 (Nat.le_refl _)),.inl rfl,Ext.refl _ _ _,H,by simp only[VR];exact⟨_,rfl⟩⟩
    |false=>
     rw[hn]at e
     have Vb:n≠0:=fun k=>by subst k;cases hn
     cases hc:(Nat.ble (Nat.mul n ie.bytes) 70368744177664&&(cf dQ new&&(Nat.beq (len new) (Nat.mul n ie.size)&&Nat.ble n 70368744177664)))with
     |false=>simp only[hc]at e;cases e
     |true=>
      simp only[hc]at e
      cases e
      simp only[Bool.and_eq_true,bM]at hc
      exact fresh b h (wM new) (iQ new) wv Vb (Nat.ble_eq.mp hc.1) hc.2.1 (Nat.eq_of_beq_eq_true hc.2.2.1) (Nat.ble_eq.mp hc.2.2.2) H (Ext.refl _ _ _)
   ·
    rename_i id off ln sz
    cases hn:Nat.beq n 0 with
    |true=>
     rw[hn]at e
     cases e
     obtain rfl:=Nat.eq_of_beq_eq_true hn
     have E8:=eI
     simp only[VR]at eI
     rcases eI with⟨rfl,b,wv⟩|⟨b,s',cap,hm,wv,xE,_⟩
     ·rw[wv]at E8
      exact⟨g,w,_,_,hex _ _ _ wv (h00 rfl b 0 0 (Nat.le_refl _)),.inl rfl,Ext.refl _ _ _,H,E8⟩
     ·rw[wv]at E8
      exact⟨g,w,_,_,hex _ _ _ wv (h00 rfl _ ln cap xE),.inl rfl,Ext.refl _ _ _,H,E8⟩
    |false=>
     rw[hn]at e
     have Vb:n≠0:=fun k=>by subst k;cases hn
     simp only[cond_false]at e
     split at e
     ·cases e
     ·rename_i cs hg
      split at e
      ·cases e
      ·rename_i pre W2
       cases hc:(Nat.ble (Nat.mul (Nat.add ln n) ie.bytes) 70368744177664&&(Nat.beq sz ie.size&&(cf dQ new&&(Nat.beq (len new) (Nat.mul n ie.size)&&Nat.ble (Nat.add ln n) 70368744177664))))with
       |false=>rw[hc]at e;cases e
       |true=>
        rw[hc]at e
        cases e
        simp only[Bool.and_eq_true,bM]at hc
        have EG:(ln+n)*ie.bytes<=70368744177664:=Nat.ble_eq.mp hc.1
        obtain rfl:sz=ie.size:=Nat.eq_of_beq_eq_true hc.2.1
        have r7:=hc.2.2.1
        have hlen:new.length=n*ie.size:=Nat.eq_of_beq_eq_true hc.2.2.2.1
        have ID:ln+n<=70368744177664:=Nat.ble_eq.mp hc.2.2.2.2
        obtain⟨hpt,W0⟩:=Ct W2
        rw[hpt]at W0
        have ahJ:(List.take (ln*ie.size) (List.drop off cs.toL)).length=ln*ie.size:=W0
        obtain⟨E2,H2⟩:=KZ H id
        simp only[VR]at eI
        rcases eI with⟨rfl,b,wv⟩|⟨b,s',cap,hm,wv,xE,sD⟩
        ·have:=fresh b (jz h id none) (pre.app new) (by
          rw[tB,hpt,show(List.take (Nat.mul 0 ie.size) (List.drop off cs.toL))=[]from by rw[show Nat.mul 0 ie.size=0 from Nat.zero_mul _];rfl,List.nil_append]) wv Vb (by simpa using EG) r7 hlen (by simpa using ID) H2 E2
         rw[show Nat.add 0 n=n from Nat.zero_add n]
         exact this
        ·obtain⟨us,Cg,A⟩:=hap Vb hlen
         ·have hul:=Cg.length
          have CH:us.length=n*ie.size:=by omega
          obtain⟨C,el',vs,hw,_,eI,Q0⟩:=H.row hg hm
          rw[jJ hw]at sD
          have lr:bD g w (List.take (ln*ie.size) (List.drop off cs.toL)) ((vs.drop off).take (ln*ie.size)):=(eI.drop off).take _
          have W4:((vs.drop off).take (ln*ie.size)).length=ln*ie.size:=by rw[lr.length,ahJ]
          have hpc:ee w b (s'+off) ((vs.drop off).take (ln*ie.size)):=((jI hw Q0).drop off).take _
          have W5:=lr.append Cg
          have Vh:bD g w (pre.app new).toL ((vs.drop off).take (ln*ie.size)++us):=by
           rw[tB,hpt];exact W5
          by_cases mz:ln+n<=cap
          ·have hm1:ln*ie.size+n*ie.size<=cap*ie.size:=by rw[<-Nat.add_mul];exact Nat.mul_le_mul_right _ mz
           have sE:s'+off+ln*ie.size+us.length<=C.size:=by omega
           have hr:=A.aat b (s'+off) ln cap C el' hw (by omega) ID EG (bD.ER Cg r7) mz sE
           obtain⟨E3,H3⟩:=IB H (C':=(C.toList.take (s'+off+ln*ie.size)++us++C.toList.drop (s'+off+ln*ie.size+us.length)).toArray) (s':=s'+off)
            hg hm hw (by simp;omega) Vh (fun j v e=>by
             have hC1:(C.toList.take (s'+off+ln*ie.size)).length=s'+off+ln*ie.size:=by simp;omega
             rw[List.getElem?_toArray,List.append_assoc]
             by_cases hj:j<ln*ie.size
             ·rw[List.getElem?_append_left (by omega)]at e
              have:=hpc j v e
              rw[List.getElem?_append_left (by omega),List.getElem?_take_of_lt (by omega)]
              simp only[World.cell?,hw]at this
              simpa using this
             ·rw[List.getElem?_append_right (by omega),W4]at e
              have P7:=(List.getElem?_eq_some_iff.1 e).1
              rw[List.getElem?_append_right (by omega),hC1,show s'+off+j - (s'+off+ln*ie.size)=j - ln*ie.size by omega,List.getElem?_append_left P7]
              exact e)
           refine⟨_,_,_,_,hex _ _ _ wv hr,.inl rfl,E3,H3,?_⟩
           simp only[VR]
           refine .inr ⟨b,s'+off,cap,by simp,rfl,mz,?_⟩
           have Q1:=gH (C':=(C.toList.take (s'+off+ln*ie.size)++us++C.toList.drop (s'+off+ln*ie.size+us.length)).toArray) hw b
           rw[if_pos rfl]at Q1
           rw[jJ Q1]
           simp
           omega
          ·have hr:=A.Vg ⟨b,s'+off,none⟩ ln cap ((vs.drop off).take (ln*ie.size)) W4 (mA hpc) (by omega) (by omega) ID EG
           have K5:=grownCap_ge w (ln+n) cap el
           obtain⟨E3,H3⟩:=CF H2
           obtain⟨E4,H4⟩:=wP H3 (C:=((vs.drop off).take (ln*ie.size)).toArray++us.toArray++Builtin.zeroCells zv.cells (grownCap w (ln+n) cap el - (ln+n))) el
            (bD.mono H2 E3 _ _ (bD.mono H E2 _ _ Vh)) (fun j v e=>by
             rw[Array.getElem?_append_left (by have:=(List.getElem?_eq_some_iff.1 e).1;simp at this ⊢;omega)]
             simpa using e)
           refine⟨_,_,_,_,hex _ _ _ wv hr,.inl rfl,E2.trans (E3.trans E4),H4,AN K5 ?_⟩
           have hC:(ln+n)*ie.size+(grownCap w (ln+n) cap el - (ln+n))*ie.size=grownCap w (ln+n) cap el*ie.size:=by rw[<-Nat.add_mul];congr 1;omega
           rw[Array.size_append,size_zeroCells,tH,Array.size_append,List.size_toArray,List.size_toArray,W4,CH,<-Nat.add_mul,hC]
           exact Nat.le_refl _
   ·
    rename_i ln cs
    cases hn:Nat.beq n 0 with
    |true=>
     rw[hn]at e
     cases e
     obtain rfl:=Nat.eq_of_beq_eq_true hn
     have E8:=eI
     simp only[VR]at eI
     obtain⟨b,cap,wv,xE,_⟩:=eI
     rw[wv]at E8
     exact⟨g,w,_,_,hex _ _ _ wv (h00 rfl _ ln cap xE),.inl rfl,Ext.refl _ _ _,H,E8⟩
    |false=>rw[hn]at e;cases e
   ·cases e
def xF(P:Program)(T:TypeId)(s x:Operand):eH:=
 match P.underlying T with
 |some (.slice e)=>match P.info? e with
  |some ie=>match zeroOf P e with
   |some z=>iu (Nat.beq (len z) ie.size&&(Nat.blt 0 ie.size&&Nat.blt 0 ie.bytes)) (pg ie.size ie.bytes (wO (aM s)) (wO (aM x))) bE
   |none=>bE
  |none=>bE
 | _=>bE
theorem AZ{T:TypeId}{s x:Operand}(ho:o.op=.call {callee:=.builtin .append,args:= #[s,x],argTypes:= #[T,T]}):my P o (xF P T s x):=by
 intro g w nt t h a v h' H Tr e
 unfold xF at e
 cases hu:P.underlying T with
 |none=>rw[hu]at e;cases e
 |some d=>
 rw[hu]at e
 cases d<;>try (cases e;done)
 rename_i el
 simp only at e
 cases nd:P.info? el with
 |none=>rw[nd]at e;cases e
 |some ie=>
 rw[nd]at e
 cases hz:zeroOf P el with
 |none=>simp only[hz]at e;cases e
 |some z=>
 simp only[hz]at e
 cases hb:(Nat.beq (len z) ie.size&&(Nat.blt 0 ie.size&&Nat.blt 0 ie.bytes))with
 |false=>rw[hb]at e;cases e
 |true=>
 rw[hb]at e
 simp only[Bool.and_eq_true,bM]at hb
 have hzl:=Nat.eq_of_beq_eq_true hb.1
 have h0:0<ie.size:=bH.1 hb.2.1
 obtain⟨i,zv,hi,vH,GY⟩:=iB hz
 obtain rfl:ie=i:=by rw[nd]at hi;exact Option.some.inj hi
 have tH:zv.cells.size=ie.size:=by
  have:=(GY g w).length
  simp only[Array.length_toList]at this
  omega
 change pg ie.size ie.bytes (wO (aM s)) (wO (aM x)) t h=.ok v h' at e
 have hex: ∀ vs vx r w',a.eval s=vs->a.eval x=vx->(Builtin.append_ #[T,T] o.type #[vs,vx]).run P w=.ok r w'->(execOp a.eval o).run P w=.ok (.value r) w':=by
  intro vs vx r w' h1 h2 h3
  unfold execOp
  simp only[ho,resolve,invoke,builtin,Sem.run_bind,Sem.run_pure,Result.andThen_ok,List.map_toArray,List.map_cons,List.map_nil,h1,h2,h3]
 unfold pg at e
 split at e
 ·rename_i sv hs
  split at e
  ·rename_i xv hx
   have eI:=hX s _ _ _ _ _ _ Tr hs
   have EF:=hX x _ _ _ _ _ _ Tr hx
   split at e
   ·cases e
   ·rename_i n new hsc
    obtain⟨xa,xc,Q2,hxc,zl⟩:=lj H EF hsc
    refine qE (el:=el) H eI h0 tH (fun vs r w' h1 h3=>hex vs _ r w' h1 Q2 h3) (fun hn b ln cap hle=>by
     subst hn
     exact qa w T o.type el ie hu nd b xa ln cap xc hle) (fun hn hlen=>?_) e
    rcases zl with rfl|⟨xb,xs,us,rfl,Cg,n8⟩
    ·have:n*ie.size≠0:=Nat.mul_ne_zero hn (by omega)
     simp at hlen;omega
    ·have hul:=Cg.length
     have CH:us.length=n*ie.size:=by omega
     refine⟨us,Cg,⟨fun hp ID EG=>?_,fun b cF ez zk hol hoc hp gG ID EG=>?_,fun b at_ cF ez cur el' hw hp ID EG r7 mz sE=>?_⟩⟩
     ·exact run_append_nil (P:=P) w T o.type el ie zv hu nd vH ⟨xb,xs,none⟩ n xc us CH (mA n8) (by omega) (by omega) (by omega)
     ·exact run_append_grow (P:=P) w T o.type el ie zv hu nd vH b cF ez zk hol hoc ⟨xb,xs,none⟩ n xc us CH (mA n8) (by omega) (by omega) (growslice_fits (by omega) (by omega))
     ·exact zj (P:=P) w T o.type el ie hu nd b at_ cF ez cur el' hw ⟨xb,xs,none⟩ n xc us CH (mA n8) r7 mz sE
  ·cases e
 ·cases e
def wU(P:Program)(T:TypeId)(s x:Operand):eH:=
 match P.underlying T with
 |some (.slice e)=>match P.info? e with
  |some ie=>match zeroOf P e with
   |some z=>iu (Nat.beq (len z) ie.size&&(Nat.blt 0 ie.size&&Nat.blt 0 ie.bytes)) (aO ie.size ie.bytes (aM s) (aM x)) bE
   |none=>bE
  |none=>bE
 | _=>bE
theorem CI{T:TypeId}{s x:Operand}(ho:o.op=.call {callee:=.builtin .append,args:= #[s,x],argTypes:= #[T,T]}):my P o (wU P T s x):=by
 intro g w nt t h a v h' H Tr e
 have h0:=AZ (P:=P) ho g w nt t h a v h' H Tr
 unfold wU at e
 unfold xF at h0
 cases hu:P.underlying T with
 |none=>rw[hu]at e;cases e
 |some d=>
 rw[hu]at e h0
 cases d<;>try (cases e;done)
 rename_i el
 simp only at e h0
 cases nd:P.info? el with
 |none=>rw[nd]at e;cases e
 |some ie=>
 rw[nd]at e h0
 cases hz:zeroOf P el with
 |none=>simp only[hz]at e;cases e
 |some z=>
 simp only[hz]at e h0
 cases hb:(Nat.beq (len z) ie.size&&(Nat.blt 0 ie.size&&Nat.blt 0 ie.bytes))with
 |false=>rw[hb]at e;cases e
 |true=>
 rw[hb]at e h0
 change aO ie.size ie.bytes (aM s) (aM x) t h=.ok v h' at e
 unfold aO at e
 split at e
 ·rename_i av hs
  split at e
  ·rename_i bv hx
   cases hE:(sA av&&P3 bv)with
   |false=>rw[hE]at e;exact h0 e
   |true=>
    rw[hE]at e
    cases e
    rw[Bool.and_eq_true]at hE
    have hv:=ba s _ _ _ _ _ _ Tr hs
    obtain⟨b,wv⟩:=xx hE.1 hv
    obtain⟨xa,xc,Q2⟩:=WV hE.2 (ba x _ _ _ _ _ _ Tr hx)
    have hr:=qa (P:=P) w T o.type el ie hu nd b xa 0 0 xc (Nat.le_refl _)
    refine⟨g,w,_,a.eval s,?_,.inl rfl,Ext.refl _ _ _,H,hv⟩
    unfold execOp
    simp only[ho,resolve,invoke,builtin,Sem.run_bind,Sem.run_pure,Result.andThen_ok,List.map_toArray,List.map_cons,List.map_nil,wv,Q2,hr]
  ·cases e
 ·cases e
def G2(P:Program)(T T':TypeId)(s x:Operand):eH:=
 match P.underlying T with
 |some (.slice e)=>match P.underlying T' with
  |some (.int _)=>match P.info? e with
   |some ie=>match zeroOf P e with
    |some z=>iu (Nat.beq (len z) ie.size&&(Nat.blt 0 ie.size&&Nat.blt 0 ie.bytes)) (rY ie.size ie.bytes z (aM s) (aM x)) bE
    |none=>bE
   |none=>bE
  | _=>bE
 | _=>bE
omit [Io] in
theorem nf(w:World)(t tn ty e:TypeId)(i:TypeInfo)(kn k:IntKind)(ht:P.underlying t=some (.slice e))(W6:P.underlying tn=some (.int kn))(hi:P.info? e=some i)(b:Option Addr)(cF ez:Nat)(h:cF<=ez):
 (Builtin.append_ #[t,tn] ty #[.slice b cF ez,.int k ((0:Nat):Int)]).run P w=.ok (.slice b cF ez) w:=by
 have hw:IntKind.i64.wrap 0=0:=by rw[IntKind.wrap_i64];omega
 cases b<;>simp[Builtin.append_,run_underlying ht,run_underlying W6,sizeOf,typeInfo,hi,asInt,asIntOf,hw,h,storeCells]
omit [Io] in
theorem sG(w:World)(t tn ty e:TypeId)(i:TypeInfo)(z:Value)(kn k:IntKind)(ht:P.underlying t=some (.slice e))(W6:P.underlying tn=some (.int kn))(hi:P.info? e=some i)(hz:i.zero=some z)(hs:0<i.size)(hzl:z.cells.size=i.size)
 (g at_ cF ez n:Nat)(cur:Array Value)(el:FT cur)(hg:w.heap[g]? =some (.cells cur el.el el.fz))(h0:0<n)(ID:n<=70368744177664)(EG:n*i.bytes<=70368744177664)
 (h1: ∀ u∈(Builtin.zeroCells z.cells n).toList,u.oneCell'=true)(mz:cF+n<=ez)(sE:at_+cF*i.size+(Builtin.zeroCells z.cells n).toList.length<=cur.size):
 (Builtin.append_ #[t,tn] ty #[.slice (some ⟨g,at_,none⟩) cF ez,.int k n]).run P w=
  .ok (.slice (some ⟨g,at_,none⟩) (cF+n) ez) (w.setRow g (cur.toList.take (at_+cF*i.size)++(Builtin.zeroCells z.cells n).toList++cur.toList.drop (at_+cF*i.size+(Builtin.zeroCells z.cells n).toList.length)).toArray):=by
 have wS:=eE P g (at_+cF*i.size) el.el el.fz (Builtin.zeroCells z.cells n).toList 0 cur w hg el.ok (by simpa using sE) h1
 simp only[Nat.add_zero]at wS
 have hw:IntKind.i64.wrap (n:Int)=n:=by rw[IntKind.wrap_i64];omega
 have A0: ¬ ((n:Int)<0):=by omega
 have ahK: ¬ (281474976710656<(n:Int)*(i.bytes:Int)):=by
  rw[<-Int.natCast_mul]
  omega
 have hns: ¬ (n*i.size=0):=Nat.mul_ne_zero (by omega) (by omega)
 have hk:n≠0:=by omega
 simp[Builtin.append_,run_underlying ht,run_underlying W6,sizeOf,typeInfo,zeroValue,hi,hz,asInt,asIntOf,hw,A0,ahK,hns,mz,iA]
 have W7:(storeCells ⟨g,at_+cF*i.size,none⟩ (Builtin.zeroCells z.cells n).toList).run P w=_:=wS
 rw[W7]
 simp
theorem IE{T T':TypeId}{s x:Operand}(ho:o.op=.call {callee:=.builtin .append,args:= #[s,x],argTypes:= #[T,T']}):my P o (G2 P T T' s x):=by
 intro g w nt t h a v h' H Tr e
 unfold G2 at e
 cases hu:P.underlying T with
 |none=>rw[hu]at e;cases e
 |some d=>
 rw[hu]at e
 cases d<;>try (cases e;done)
 rename_i el
 simp only at e
 cases E9:P.underlying T' with
 |none=>rw[E9]at e;cases e
 |some d'=>
 rw[E9]at e
 cases d'<;>try (cases e;done)
 rename_i kn
 simp only at e
 cases nd:P.info? el with
 |none=>rw[nd]at e;cases e
 |some ie=>
 rw[nd]at e
 cases hz:zeroOf P el with
 |none=>simp only[hz]at e;cases e
 |some z=>
 simp only[hz]at e
 cases hb:(Nat.beq (len z) ie.size&&(Nat.blt 0 ie.size&&Nat.blt 0 ie.bytes))with
 |false=>rw[hb]at e;cases e
 |true=>
 rw[hb]at e
 simp only[Bool.and_eq_true,bM]at hb
 have hzl:=Nat.eq_of_beq_eq_true hb.1
 have h0:0<ie.size:=bH.1 hb.2.1
 obtain⟨i,zv,hi,vH,GY⟩:=iB hz
 obtain rfl:ie=i:=by rw[nd]at hi;exact Option.some.inj hi
 have tH:zv.cells.size=ie.size:=by
  have:=(GY g w).length
  simp only[Array.length_toList]at this
  omega
 change rY ie.size ie.bytes z (aM s) (aM x) t h=.ok v h' at e
 unfold rY at e
 split at e
 ·rename_i av hs
  split at e
  ·rename_i kx n hx
   have eI:=ba s _ _ _ _ _ _ Tr hs
   have EF:=ba x _ _ _ _ _ _ Tr hx
   simp only[VR]at EF
   have EF:a.eval x=.int kx (n:Int):=EF
   have hex: ∀ vs r w',a.eval s=vs->(Builtin.append_ #[T,T'] o.type #[vs,.int kx (n:Int)]).run P w=.ok r w'->(execOp a.eval o).run P w=.ok (.value r) w':=by
    intro vs r w' h1 h3
    unfold execOp
    simp only[ho,resolve,invoke,builtin,Sem.run_bind,Sem.run_pure,Result.andThen_ok,List.map_toArray,List.map_cons,List.map_nil,h1,EF,h3]
   cases hE:(sA av&&Nat.beq n 0)with
   |true=>
    rw[hE]at e
    cases e
    rw[Bool.and_eq_true]at hE
    obtain rfl:=Nat.eq_of_beq_eq_true hE.2
    obtain⟨b,wv⟩:=xx hE.1 eI
    refine⟨g,w,_,a.eval s,hex _ _ _ rfl ?_,.inl rfl,Ext.refl _ _ _,H,eI⟩
    rw[wv]
    exact nf w T T' o.type el ie kn kx hu E9 nd b 0 0 (Nat.le_refl _)
   |false=>
    rw[hE]at e
    simp only[cond_false]at e
    refine qE (el:=el) H (ET eI) h0 tH hex (fun hn b ln cap hle=>by
     subst hn
     exact nf w T T' o.type el ie kn kx hu E9 nd b ln cap hle) (fun hn hlen=>?_) e
    have hzc:bD g w (fX n z) (Builtin.zeroCells zv.cells n).toList:=by
     have:=(GY g w).repeat n
     rw[<-qD]at this
     unfold Builtin.zeroCells
     exact this
    refine⟨(Builtin.zeroCells zv.cells n).toList,hzc,⟨fun hp ID EG=>?_,fun b cF ez zk hol hoc hp gG ID EG=>?_,fun b at_ cF ez cur el' hw hp ID EG r7 mz sE=>?_⟩⟩
    ·have:=Lib.run_append_nil_zeros (P:=P) w T T' o.type el ie zv kx kn hu E9 nd vH n hp h0 (by omega) (by omega)
     simpa using this
    ·have hfo:=run_firstCells_some (P:=P) w.drew ie.size cF b cF ez zk hol (by simpa using hoc)
     have hnb:n*ie.bytes<=(cF+n)*ie.bytes:=Nat.mul_le_mul_right _ (by omega)
     have:=Lib.run_append_grow_zeros (P:=P) w T T' o.type el ie zv kx kn hu E9 nd vH (some b) cF ez zk hfo n hp h0 gG (by omega) (by omega) (growslice_fits (by omega) (by omega))
     simpa using this
    ·have hnb:n*ie.bytes<=(cF+n)*ie.bytes:=Nat.mul_le_mul_right _ (by omega)
     exact sG w T T' o.type el ie zv kn kx hu E9 nd vH h0 tH b at_ cF ez n cur el' hw hp (by omega) (by omega) r7 mz sE
  ·cases e
 ·cases e
def G3(P:Program)(T T':TypeId)(s x:Operand):eH:=
 match P.underlying T with
 |some (.slice e)=>match P.underlying T' with
  |some .string=>match P.info? e with
   |some ie=>match zeroOf P e with
    |some z=>iu (Nat.beq (len z) ie.size&&(Nat.beq ie.size 1&&Nat.blt 0 ie.bytes)) (tx ie.bytes (aM s) (aM x)) bE
    |none=>bE
   |none=>bE
  | _=>bE
 | _=>bE
theorem bD.ab6(g:G)(w:World): ∀ (l:List UInt8),bD g w (l.map fun b=>AV.int .u8 (.ofNat b.toNat)) (l.map fun b=>Value.int .u8 (b.toNat:Int))
 | []=>by simp[bD]
 |b::l=>by
  simp only[List.map_cons,bD]
  exact⟨_,_,rfl,by simp only[VR];rfl,bD.ab6 g w l⟩
omit [Io] in
theorem qb(w:World)(t tn ty e:TypeId)(i:TypeInfo)(ht:P.underlying t=some (.slice e))(W6:P.underlying tn=some .string)(hi:P.info? e=some i)(s:ByteArray)(hs:s.size=0)(b:Option Addr)(cF ez:Nat)(h:cF<=ez):
 (Builtin.append_ #[t,tn] ty #[.slice b cF ez,.string s]).run P w=.ok (.slice b cF ez) w:=by
 have h1:(Array.map (fun b:UInt8=>Value.int IntKind.u8 (b.toNat:Int)) s.data).extract 0 0= #[]:=by simp
 cases b<;>simp[Builtin.append_,run_underlying ht,run_underlying W6,sizeOf,typeInfo,hi,Builtin.lenOf,Builtin.firstCells,hs,h,h1,storeCells]
omit [Io] in
theorem u9(w:World)(t tn ty e:TypeId)(i:TypeInfo)(ht:P.underlying t=some (.slice e))(W6:P.underlying tn=some .string)(hi:P.info? e=some i)(G4:i.size=1)(s:ByteArray)
 (g at_ cF ez:Nat)(cur:Array Value)(el:FT cur)(hg:w.heap[g]? =some (.cells cur el.el el.fz))
 (mz:cF+s.size<=ez)(sE:at_+cF*i.size+(Lib.strCells s).length<=cur.size):
 (Builtin.append_ #[t,tn] ty #[.slice (some ⟨g,at_,none⟩) cF ez,.string s]).run P w=
  .ok (.slice (some ⟨g,at_,none⟩) (cF+s.size) ez) (w.setRow g (cur.toList.take (at_+cF*i.size)++(Lib.strCells s)++cur.toList.drop (at_+cF*i.size+(Lib.strCells s).length)).toArray):=by
 have wS:=eE P g (at_+cF*i.size) el.el el.fz (Lib.strCells s) 0 cur w hg el.ok (by simpa using sE) (by
  intro v hv
  obtain⟨b,_,rfl⟩:=List.mem_map.1 hv
  rfl)
 simp only[Nat.add_zero]at wS
 have hf:=Lib.run_firstCells_string (P:=P) w i.size s
 simp[Builtin.append_,run_underlying ht,run_underlying W6,sizeOf,typeInfo,hi,Builtin.lenOf,mz,hf,iA]
 have W7:(storeCells ⟨g,at_+cF*i.size,none⟩ (Lib.strCells s)).run P w=_:=wS
 rw[W7]
 simp
theorem IF{T T':TypeId}{s x:Operand}(ho:o.op=.call {callee:=.builtin .append,args:= #[s,x],argTypes:= #[T,T']}):my P o (G3 P T T' s x):=by
 intro g w nt t h a v h' H Tr e
 unfold G3 at e
 cases hu:P.underlying T with
 |none=>rw[hu]at e;cases e
 |some d=>
 rw[hu]at e
 cases d<;>try (cases e;done)
 rename_i el
 simp only at e
 cases E9:P.underlying T' with
 |none=>rw[E9]at e;cases e
 |some d'=>
 rw[E9]at e
 cases d'<;>try (cases e;done)
 simp only at e
 cases nd:P.info? el with
 |none=>rw[nd]at e;cases e
 |some ie=>
 rw[nd]at e
 cases hz:zeroOf P el with
 |none=>simp only[hz]at e;cases e
 |some z=>
 simp only[hz]at e
 cases hb:(Nat.beq (len z) ie.size&&(Nat.beq ie.size 1&&Nat.blt 0 ie.bytes))with
 |false=>rw[hb]at e;cases e
 |true=>
 rw[hb]at e
 simp only[Bool.and_eq_true,bM]at hb
 have hzl:=Nat.eq_of_beq_eq_true hb.1
 have G4:ie.size=1:=Nat.eq_of_beq_eq_true hb.2.1
 have h0:0<ie.size:=by omega
 obtain⟨i,zv,hi,vH,GY⟩:=iB hz
 obtain rfl:ie=i:=by rw[nd]at hi;exact Option.some.inj hi
 have tH:zv.cells.size=ie.size:=by
  have:=(GY g w).length
  simp only[Array.length_toList]at this
  omega
 change tx ie.bytes (aM s) (aM x) t h=.ok v h' at e
 unfold tx at e
 split at e
 ·rename_i av hs
  split at e
  ·rename_i b hx
   have eI:=ba s _ _ _ _ _ _ Tr hs
   have EF:=ba x _ _ _ _ _ _ Tr hx
   simp only[VR]at EF
   have EF:a.eval x=.string b:=EF.1
   have hex: ∀ vs r w',a.eval s=vs->(Builtin.append_ #[T,T'] o.type #[vs,.string b]).run P w=.ok r w'->(execOp a.eval o).run P w=.ok (.value r) w':=by
    intro vs r w' h1 h3
    unfold execOp
    simp only[ho,resolve,invoke,builtin,Sem.run_bind,Sem.run_pure,Result.andThen_ok,List.map_toArray,List.map_cons,List.map_nil,h1,EF,h3]
   cases hE:(sA av&&Nat.beq b.size 0)with
   |true=>
    rw[hE]at e
    cases e
    rw[Bool.and_eq_true]at hE
    obtain⟨p,wv⟩:=xx hE.1 eI
    refine⟨g,w,_,a.eval s,hex _ _ _ rfl ?_,.inl rfl,Ext.refl _ _ _,H,eI⟩
    rw[wv]
    exact qb w T T' o.type el ie hu E9 nd b (Nat.eq_of_beq_eq_true hE.2) p 0 0 (Nat.le_refl _)
   |false=>
    rw[hE]at e
    simp only[cond_false]at e
    rw[<-G4]at e
    refine qE (el:=el) H (ET eI) h0 tH hex (fun hn p ln cap hle=>qb w T T' o.type el ie hu E9 nd b hn p ln cap hle) (fun hn hlen=>?_) e
    refine⟨b.data.toList.map fun b=>Value.int .u8 (b.toNat:Int),bD.ab6 g w _,⟨fun hp ID EG=>?_,fun p cF ez zk hol hoc hp gG ID EG=>?_,fun p at_ cF ez cur el' hw hp ID EG r7 mz sE=>?_⟩⟩
    ·have:=run_append_nil_string (P:=P) w T T' o.type el ie zv hu E9 nd vH b hp (by omega) (by omega)
     rw[this]
     congr 4
     apply Array.ext'
     simp
    ·have:=Lib.run_append_grow_string (P:=P) w T T' o.type el ie zv hu E9 nd vH p cF ez zk hol hoc b gG (by omega) (growslice_fits (by omega) (by omega))
     rw[this]
     rfl
    ·exact u9 w T T' o.type el ie hu E9 nd G4 b p at_ cF ez cur el' hw mz sE
  ·cases e
 ·cases e
def G5(P:Program)(T T':TypeId)(s x:Operand):eH:=
 match P.underlying T' with
 |some .string=>G3 P T T' s x
 | _=>G2 P T T' s x
theorem IG{T T':TypeId}{s x:Operand}(ho:o.op=.call {callee:=.builtin .append,args:= #[s,x],argTypes:= #[T,T']}):my P o (G5 P T T' s x):=by
 unfold G5
 split
 ·exact IF ho
 ·exact IE ho
end
end Go.Ab
