import Derived.Test.YtjeanplhkkpdmaaGreatDoorAb2
import Derived.Lib.AppendZerosOnto
import Derived.Lib.AppendStr
noncomputable section
namespace Go.Ab
variable [Io]
section
variable {P:Program}{o:Oper}
omit [Io] in
theorem Ff(off:Nat): ∀ (l:List Value) (k:Nat) (C:Array Value),off+k+l.length<=C.size->
 (l.zipIdx k).foldl (fun cs (p:Value×Nat)=>cs.setIfInBounds (off+p.2) p.1) C=(C.toList.take (off+k)++l++C.toList.drop (off+k+l.length)).toArray
 | [],k,C,_=>by simp
 |v::l,k,C,h=>by
  simp only[List.length_cons]at h;rw[List.zipIdx_cons,List.foldl_cons,Ff off l (k+1) _ (by simp;omega)];have e:=list_seg_step C.toList (off+k) v l (by simp;omega);congr 1;simpa[Array.toList_setIfInBounds,Nat.add_assoc]using e
def sF(g:G)(w:World)(place:Nat->Option (Nat×Nat)):List (Nat×Nat×AV)->List (Nat×Value)->Prop
 | [],l=>l=[]
 |p::r,l=> ∃ i v l',l=(i,v)::l'/\place i=some (p.1,p.2.1)/\VR g w p.2.2 v/\sF g w place r l'
theorem IY{g w}{place:Nat->Option (Nat×Nat)}: ∀ (ps:List (Nat×Nat×AV)) (qs:List (Nat×Value)) (cs cs':List AV) (C:Array Value),
 sF g w place ps qs->jy g w cs C.toList->ES ps cs=some cs'-> ∃ C',Instr.fill place C qs=some C'/\jy g w cs' C'.toList/\C'.size=C.size
 | [],qs,cs,cs',C,h,hv,e=>by
  simp only[sF]at h;subst h;cases e;exact⟨C,rfl,hv,rfl⟩
 |p::ps,qs,cs,cs',C,h,hv,e=>by
  simp only[sF]at h;obtain⟨i,v,qs',rfl,hp,hr,h⟩:=h
  change (bif Nat.beq (len p.2.2.cells) p.2.1&&Nat.ble (Nat.add p.1 p.2.1) (len cs)then ES ps (put cs p.1 p.2.2.cells)else none)=some cs' at e
  cases hb:(Nat.beq (len p.2.2.cells) p.2.1&&Nat.ble (Nat.add p.1 p.2.1) (len cs))with
  |false=>rw[hb]at e;cases e
  |true=>
   rw[hb]at e;simp only[Bool.and_eq_true,jH]at hb;have h1:=Nat.eq_of_beq_eq_true hb.1;have h2:p.1+p.2.1<=cs.length:=Nat.ble_eq.mp hb.2;have hc:=hr.cells;have hl:=hc.length;simp only[Array.length_toList]at hl;have hC:=hv.length;simp only[Array.length_toList]at hC;have hn:jy g w (put cs p.1 p.2.2.cells) ((C.toList.take p.1++v.cells.toList++C.toList.drop (p.1+v.cells.toList.length)).toArray).toList:=by
    rw[put_eq];simp only[List.append_assoc];refine(hv.take _).append (hc.append ?_);rw[hc.length];exact hv.drop _
   obtain⟨C',hC',yJ,hs⟩:=IY ps qs' _ cs' _ h hn e;refine⟨C',?_,yJ,?_⟩
   ·simp only[Instr.fill,hp];rw[if_neg (by simp;omega)];rw[<-hC'];congr 1;have hf:=Ff p.1 v.cells.toList 0 C (by simp;omega);simp only[Nat.add_zero]at hf;rw[<-hf,<-Array.foldl_toList,Array.toList_zipIdx]
   ·rw[hs];simp;omega
def CK(place:Nat->Option (Nat×Nat))(l:List (Nat×Operand)):Option (List (Nat×Nat×lT)):=
 List.rec (some []) (fun p _ ih=>match place p.1 with
  |some (off,size)=>match ih with
   |some r=>some ((off,size,cD p.2)::r)
   |none=>none
  |none=>none) l
theorem HJ{g w nt t}{a:Act}(T:TR g w nt t a.tmps){place:Nat->Option (Nat×Nat)}: ∀ (l:List (Nat×Operand)) {ps:List (Nat×Nat×lT)} {vs:List (Nat×Nat×AV)},
 CK place l=some ps->vh ps t=some vs->sF g w place vs (l.map fun p=>(p.1,a.eval p.2))
 | [],ps,vs,h,e=>by
  cases h;cases e;simp[sF]
 |p::l,ps,vs,h,e=>by
  change (match place p.1 with|some (off,size)=>(match CK place l with|some r=>some ((off,size,cD p.2)::r)|none=>none)|none=>none)=some ps at h
  split at h
  ·rename_i off size hp
   split at h
   ·rename_i r hr
    cases h
    change (match cD p.2 t with|some v=>(match vh r t with|some vs=>some ((off,size,v)::vs)|none=>none)|none=>none)=some vs at e
    split at e
    ·rename_i v hv
     split at e
     ·rename_i us hu
      cases e;simp only[sF,List.map_cons];exact⟨p.1,_,_,rfl,hp,cH p.2 _ _ _ _ _ _ T hv,HJ T l hr hu⟩
     ·cases e
    ·cases e
   ·cases h
  ·cases h
def placesOf(P:Program)(T:TypeId):Option (Nat->Option (Nat×Nat)):=
 match P.underlying T with
 |some (.struct fields)=>match fields.toList.mapM (fun f=>(P.info? f.type).map fun i=>(f.offset,i.size))with
  |some places=>some fun i=>places.toArray[i]?
  |none=>none
 |some (.array _ e)=>match P.info? e with
  |some ie=>some fun i=>some (i*ie.size,ie.size)
  |none=>none
 | _=>none
def zeroOf(P:Program)(T:TypeId):Option (List AV):=
 match P.info? T with
 |some i=>match i.zero with
  |some z=>leaves z.cells.toList
  |none=>none
 |none=>none
def Fg(P:Program)(T:TypeId)(parts:List (Nat×Operand)):lO:=
 match placesOf P T with
 |some place=>match zeroOf P T with
  |some z=>match CK place parts with
   |some ps=>vi z ps
   |none=>jL
  |none=>jL
 |none=>jL
theorem oQ{T:TypeId}{z:List AV}(h:zeroOf P T=some z): ∃ i zv,P.info? T=some i/\i.zero=some zv/\ ∀ g w,jy g w z zv.cells.toList:=by
 unfold zeroOf at h;cases hi:P.info? T with
 |none=>rw[hi]at h;cases h
 |some i=>
  rw[hi]at h;cases hz:i.zero with
  |none=>simp only[hz]at h;cases h
  |some zv=>simp only[hz]at h;exact⟨i,zv,rfl,hz,fun g w=>yK _ h g w⟩
theorem NR{T:TypeId}{parts:Array (Nat×Operand)}(ho:o.op=.build T parts):jE P o (Fg P T parts.toList):=by
 intro g w nt t h a v h' H Tr e;unfold Fg at e;cases hp:placesOf P T with
 |none=>rw[hp]at e;cases e
 |some place=>
 rw[hp]at e;cases hz:zeroOf P T with
 |none=>simp only[hz]at e;cases e
 |some z=>
 simp only[hz]at e;cases hps:CK place parts.toList with
 |none=>simp only[hps]at e;cases e
 |some ps=>
 simp only[hps]at e;unfold vi at e;split at e
 ·rename_i vs lP
  split at e
  ·rename_i cs vL
   cases e;obtain⟨i,zv,hi,Dz,hz⟩:=oQ hz;obtain⟨C',hC',yJ,_⟩:=IY vs _ z cs zv.cells (HJ Tr parts.toList hps lP) (hz g w) vL;refine⟨rfl,.agg C',?_,by simp only[VR];exact⟨_,rfl,yJ⟩⟩;have hb:P.built T ((parts.map fun p=>(p.1,a.eval p.2)).toList)=some C':=by
    unfold placesOf at hp;unfold Program.built;split at hp
    ·rename_i fields hu
     split at hp
     ·rename_i places hpl
      cases hp;simp only[hi,hu,Dz,hpl,Array.toList_map];exact hC'
     ·cases hp
    ·rename_i n el hu
     split at hp
     ·rename_i ie uP
      cases hp;simp only[hi,hu,Dz,uP,Array.toList_map];exact hC'
     ·cases hp
    ·cases hp
   have rI:=run_build (P:=P) w T _ C' hb;simp only[execOp,ho];show((Instr.build T (parts.map fun p=>(p.1,a.eval p.2))>>=fun v=>(pure (.value v):Sem Next))).run P w=_;simp only[Sem.run_bind,rI,Result.andThen_ok,Sem.run_pure]
  ·cases e
 ·cases e
def tL(P:Program)(o:Oper)(f:lO):Prop:=
 ∀ (g:G) (w:World) (nt:Nat) (t:Tm) (h:Hp) (a:Act) (v:AV) (h':Hp),HR g w h->TR g w nt t a.tmps->f t h=.ok v h'->
  ∃ g' w' nx x,(execOp a.eval o).run P w=.ok nx w'/\(nx=.value x∨(nx=.skip/\x=undef))/\Ext g w h g' w' h'/\HR g' w' h'/\VR g' w' v x
theorem jE.run{f:lO}(h:jE P o f):tL P o f:=by
 intro g w nt t hp a v h' H T e;obtain⟨rfl,x,hx,hv⟩:=h g w nt t hp a v h' H.toHC T e;exact⟨g,w,.value x,x,hx,.inl rfl,Ext.refl _ _ _,H,hv⟩
theorem K9{g w h}(H:HR g w h)(ob:Obj):Ext g w h g (w.alloc ob) h/\HR g (w.alloc ob) h:=by
 have hp: ∀ b,b<w.heap.size->(w.alloc ob).heap[b]? =w.heap[b]? :=by
  intro b hb;show(w.heap.push _)[b]? =_;rw[Array.getElem?_push,if_neg (by omega)]
 have E:Ext g w h g (w.alloc ob) h:=by
  refine⟨rfl,rfl,rfl,by simp,Nat.le_refl _,fun _ _ e=>e,fun b hb _=>hp b hb,?_,fun _ i=>i,fun _ i=>.inl i,fun _ o=>.inl o⟩;intro b;unfold kP;by_cases hb:b<w.heap.size
  ·rw[hp b hb];exact Nat.le_refl _
  ·rw[Array.getElem?_eq_none (by omega)];exact Nat.zero_le _
 refine⟨E,H.fresh,?_,H.inj,fun b i=>by have:=H.mM b i;simp;omega,vm.ext H E⟩;intro id cs e;obtain⟨b,s,C,el,vs,hm,hw,hi,hv,hc⟩:=H.cz id cs e;exact⟨b,s,C,el,vs,hm,by rw[hp b (Array.getElem?_eq_some_iff.1 hw).1];exact hw,hi,jy.mono H E _ _ hv,hc⟩
def vM(P:Program)(o:Oper)(f:lO):Prop:=
 ∀ (g:G) (w:World) (nt:Nat) (t:Tm) (h:Hp) (a:Act) (v:AV) (h':Hp),HC g w h->TR g w nt t a.tmps->f t h=.ok v h'->
  (h'=h/\ ∃ x C el,(execOp a.eval o).run P w=.ok (.value x) (w.alloc (.cells C el))/\ ∀ g' w',VR g' w' v x)∨
  (∃ cs C el vs x,h'=kA h cs/\(execOp a.eval o).run P w=.ok (.value x) (w.alloc (.cells C el))/\jy g w cs.toL vs/\(∀ (j:Nat) (v:Value),vs[j]? =some v->C[j]? =some v)/\
   ∀ g' w',g'.m h.next=some (w.heap.size,0)->C.size<=kP w' w.heap.size->VR g' w' v x)
omit [Io] in
theorem zE(w:World)(C:Array Value)(el:TypeId):kP (w.alloc (.cells C el)) w.heap.size=C.size:=by
 have:(w.alloc (.cells C el)).heap[w.heap.size]? =some (.cells C el):=by
  show(w.heap.push _)[w.heap.size]? =_;simp
 exact qv this
theorem vM.run{f:lO}(h:vM P o f):tL P o f:=by
 intro g w nt t hp a v h' H T e
 rcases h g w nt t hp a v h' H.toHC T e with⟨rfl,x,C,el,hr,hv⟩|⟨cs,C,el,vs,x,rfl,hr,lP,hc,hv⟩
 ·obtain⟨E,H'⟩:=K9 H (.cells C el);exact⟨g,_,.value x,x,hr,.inl rfl,E,H',hv _ _⟩
 ·obtain⟨E,H'⟩:=Eh H (C:=C) el lP hc;exact⟨_,_,.value x,x,hr,.inl rfl,E,H',hv _ _ (by simp[G.add]) (by rw[zE];exact Nat.le_refl _)⟩
theorem UJ{g:G}{w:World}{id b:Nat}(hm:g.m id=some (b,0)):VR g w (.ref id 0) (.pointer (some ⟨b,0,none⟩)):=by
 simp only[VR];exact⟨b,0,hm,rfl⟩
theorem UK{g:G}{w:World}{id b n c sz m:Nat}(hm:g.m id=some (b,0))(hn:n<=c)(hc:c*sz<=m)(hr:m<=kP w b):VR g w (.my id 0 n sz) (.slice (some ⟨b,0,none⟩) n c):=by
 simp only[VR];exact .inr ⟨b,0,c,hm,rfl,hn,by omega⟩
theorem UL{g:G}{w:World}{b:Addr}:VR g w .xr (.slice (some b) 0 0):=by
 simp only[VR];exact⟨_,rfl⟩
theorem UM{T:TypeId}{z:List AV}(ho:o.op=.alloc T)(hz:zeroOf P T=some z):vM P o (NI z):=by
 intro g w nt t h a v h' H Tr e;cases e;obtain⟨i,zv,hi,Dz,hz⟩:=oQ hz;refine .inr ⟨Ee z,zv.cells,T,zv.cells.toList,.pointer (some ⟨w.heap.size,0,none⟩),rfl,?_,by rw[pj];exact hz g w,fun j v e=>by simpa using e,fun g' w' hm _=>UJ hm⟩;simp[execOp,ho,Instr.alloc,zeroValue,typeInfo,hi,Dz,newVar,newRow]
theorem UN{T:TypeId}{x:Operand}(ho:o.op=.box T x):vM P o (GY (cD x)):=by
 intro g w nt t h a v h' H Tr e;unfold GY at e;split at e
 ·rename_i av hx
  cases e;have hv:=cH x _ _ _ _ _ _ Tr hx;refine .inr ⟨_,(a.eval x).cells,T,_,.pointer (some ⟨w.heap.size,0,none⟩),rfl,?_,by rw[pj];exact hv.cells,fun j v e=>by simpa using e,fun g' w' hm _=>UJ hm⟩;simp[execOp,ho,Instr.box,newVar,newRow]
 ·cases e
end
end Go.Ab
noncomputable section
namespace Go.Ab
variable [Io]
section
variable {P:Program}{o:Oper}
omit [Io] in
theorem HK(z:List Value): ∀ c:Nat,(List.range (c*z.length)).map (fun j=>z.toArray[j % z.length]!)=(List.replicate c z).flatten
 |0=>by simp
 |c+1=>by
  rw[Nat.succ_mul,Nat.add_comm,List.range_add,List.map_append,List.replicate_succ,List.flatten_cons,<-HK z c,List.map_map];congr 1
  ·apply List.ext_getElem?;intro j;by_cases hj:j<z.length
   ·have:j % z.length=j:=Nat.mod_eq_of_lt hj;simp[hj,this]
   ·rw[List.getElem?_eq_none (by simp;omega),List.getElem?_eq_none (by omega)]
  ·apply List.map_congr_left;intro j _;simp[Function.comp]
omit [Io] in
theorem xS(z:Array Value)(c:Nat):((Array.range (c*z.size)).map (fun j=>z[j % z.size]!)).toList=(List.replicate c z.toList).flatten:=by
 rw[Array.toList_map,Array.toList_range];exact HK z.toList c
def sG(g:G)(w:World):List (Nat×AV)->List (Nat×Value)->Prop
 | [],l=>l=[]
 |p::r,l=> ∃ v l',l=(p.1,v)::l'/\VR g w p.2 v/\sG g w r l'
theorem K'{g w size}: ∀ (ps:List (Nat×AV)) (i:Nat) (r:List AV) (qs:List (Nat×Value)) (C:Array Value),A9 size ps i=some r->sG g w ps qs->
 (i+ps.length)*size<=C.size-> ∃ C' us,Instr.fill (fun i=>some (i*size,size)) C qs=some C'/\jy g w r us/\us.length=ps.length*size/\
  C'.toList=C.toList.take (i*size)++us++C.toList.drop ((i+ps.length)*size)
 | [],i,r,qs,C,e,h,hC=>by
  simp only[sG]at h;subst h;cases e;exact⟨C,[],rfl,by simp[jy],by simp,by simp⟩
 |p::ps,i,r,qs,C,e,h,hC=>by
  simp only[sG]at h;obtain⟨v,qs',rfl,hr,h⟩:=h
  change (bif Nat.beq p.1 i&&Nat.beq (len p.2.cells) size then(match A9 size ps (Nat.add i 1)with|some r=>some (app p.2.cells r)|none=>none)else none)=some r at e
  cases hb:(Nat.beq p.1 i&&Nat.beq (len p.2.cells) size)with
  |false=>rw[hb]at e;cases e
  |true=>
   rw[hb]at e;simp only[Bool.and_eq_true,jH]at hb;have h1:=Nat.eq_of_beq_eq_true hb.1;have h2:=Nat.eq_of_beq_eq_true hb.2
   change (match A9 size ps (i+1)with|some r=>some (app p.2.cells r)|none=>none)=some r at e
   split at e
   ·rename_i r' hr'
    cases e;have hc:=hr.cells;have hl:=hc.length;rw[h2]at hl
    have e1:(i+(ps.length+1))*size=i*size+size+ps.length*size:=by rw[Nat.add_mul,Nat.add_mul];omega
    have UO:i*size+size+ps.length*size<=C.size:=by rw[List.length_cons,e1]at hC;exact hC
    have hl':v.cells.size=size:=by simpa using hl
    have hf:=Ff (i*size) v.cells.toList 0 C (by rw[hl];omega);simp only[Nat.add_zero,hl]at hf;have wH:(C.toList.take (i*size)++v.cells.toList++C.toList.drop (i*size+size)).toArray.size=C.size:=by
     simp;omega
    obtain⟨C',us,hC',KL,hlen,NS⟩:=K' ps (i+1) r' qs' (C.toList.take (i*size)++v.cells.toList++C.toList.drop (i*size+size)).toArray hr' h (by
     rw[wH,show(i+1+ps.length)*size=i*size+size+ps.length*size from by rw[Nat.add_mul,Nat.add_mul];omega];exact UO)
    refine⟨C',v.cells.toList++us,?_,?_,?_,?_⟩
    ·rw[h1];simp only[Instr.fill];rw[if_neg (by simp[hl'];omega)];rw[<-hC',<-hf,<-Array.foldl_toList,Array.toList_zipIdx]
    ·rw[cZ];exact hc.append KL
    ·rw[List.length_append,hl,hlen,List.length_cons,Nat.succ_mul];omega
    ·rw[NS];simp only[List.append_assoc]
     have d1:(i+1)*size=i*size+size:=by rw[Nat.add_mul];omega
     rw[d1,show(i+1+ps.length)*size=i*size+size+ps.length*size from by rw[Nat.add_mul,Nat.add_mul];omega,List.length_cons,e1]
     have t1:(C.toList.take (i*size)).length=i*size:=by simp;omega
     have:(C.toList.take (i*size)++(v.cells.toList++C.toList.drop (i*size+size)))=(C.toList.take (i*size)++v.cells.toList)++C.toList.drop (i*size+size):=by simp
     rw[this]
     have t2:(C.toList.take (i*size)++v.cells.toList).length=i*size+size:=by rw[List.length_append,t1,hl]
     rw[List.take_append_of_le_length (by omega),List.take_of_length_le (by omega)];rw[List.drop_append,List.drop_eq_nil_of_le (by omega),t2,List.drop_drop,List.nil_append,List.append_assoc];congr 4;omega
   ·cases e
def wN(l:List (Nat×Operand)):List (Nat×lT):=l.map fun p=>(p.1,cD p.2)
theorem HL{g w nt t}{a:Act}(T:TR g w nt t a.tmps): ∀ (l:List (Nat×Operand)) {vs:List (Nat×AV)},vg (wN l) t=some vs->sG g w vs (l.map fun p=>(p.1,a.eval p.2))
 | [],vs,e=>by cases e;simp[sG]
 |p::l,vs,e=>by
  change (match cD p.2 t with|some v=>(match vg (wN l) t with|some vs=>some ((p.1,v)::vs)|none=>none)|none=>none)=some vs at e
  split at e
  ·rename_i v hv
   split at e
   ·rename_i us hu
    cases e;simp only[sG,List.map_cons];exact⟨_,_,rfl,cH p.2 _ _ _ _ _ _ T hv,HL T l hu⟩
   ·cases e
  ·cases e
theorem Bk{g w size}: ∀ {ps:List (Nat×AV)} {qs:List (Nat×Value)},sG g w ps qs->sF g w (fun i=>some (i*size,size)) (scale size ps) qs
 | [],qs,h=>by simp only[sG]at h;subst h;show sF g w _ [] [];simp[sF]
 |p::ps,qs,h=>by
  simp only[sG]at h;obtain⟨v,l',rfl,hv,h⟩:=h;show sF g w _ ((Nat.mul p.1 size,size,p.2)::scale size ps) _;simp only[sF];exact⟨p.1,v,l',rfl,rfl,hv,Bk h⟩
theorem NT{g w n size}{z:List AV}{zv:List Value}{ps:List (Nat×AV)}{qs:List (Nat×Value)}{cs:List AV}(C:Array Value)(h:sG g w ps qs)
 (hz:jy g w (nn n z) C.toList)(hC:C.size=n*size)(e:yG n size z ps=some cs)(_:zv=zv):
 ∃ C',Instr.fill (fun i=>some (i*size,size)) C qs=some C'/\jy g w cs C'.toList/\C'.size=C.size:=by
 unfold yG at e;split at e
 ·rename_i cs' vL
  cases e;cases hb:Nat.beq (len ps) n with
  |false=>rw[hb]at vL;cases vL
  |true=>
   rw[hb]at vL;rw[jH]at hb;have hl:=Nat.eq_of_beq_eq_true hb;obtain⟨C',us,hC',KL,hlen,NS⟩:=K' ps 0 _ qs C vL h (by rw[hC,Nat.zero_add,hl];exact Nat.le_refl _);have ht:C'.toList=us:=by
    rw[NS];simp only[Nat.zero_mul,List.take_zero,List.nil_append,Nat.zero_add];rw[List.drop_eq_nil_of_le (by rw[hl,<-hC];simp),List.append_nil]
   refine⟨C',hC',by rw[ht];exact KL,?_⟩
   have:C'.toList.length=C'.size:=by simp
   rw[<-this,ht,hlen,hl,hC]
 ·exact IY _ _ _ _ C (Bk h) hz e
def UP(P:Program)(T:TypeId)(n:Nat)(parts:List (Nat×Operand)):lO:=
 match P.underlying T with
 |some (.slice e)=>match P.info? e with
  |some ie=>match zeroOf P e with
   |some z=>oL (Nat.beq (len z) ie.size&&(Nat.ble (Nat.mul n ie.size) 16777216&&Nat.blt 0 ie.size)) (EU n ie.size z (wN parts)) jL
   |none=>jL
  |none=>jL
 | _=>jL
theorem UQ{T:TypeId}{n:Nat}{parts:Array (Nat×Operand)}(ho:o.op=.buildSlice T n parts):vM P o (UP P T n parts.toList):=by
 intro g w nt t h a v h' H Tr e;unfold UP at e;cases hu:P.underlying T with
 |none=>rw[hu]at e;cases e
 |some d=>
 rw[hu]at e
 cases d<;>try (cases e;done)
 rename_i el
 simp only at e;cases uP:P.info? el with
 |none=>rw[uP]at e;cases e
 |some ie=>
 rw[uP]at e;cases hz:zeroOf P el with
 |none=>simp only[hz]at e;cases e
 |some z=>
 simp only[hz]at e;cases hb:(Nat.beq (len z) ie.size&&(Nat.ble (Nat.mul n ie.size) 16777216&&Nat.blt 0 ie.size))with
 |false=>rw[hb]at e;cases e
 |true=>
 rw[hb]at e;simp only[Bool.and_eq_true,jH]at hb;have hzl:=Nat.eq_of_beq_eq_true hb.1;have hsm:n*ie.size<=16777216:=Nat.ble_eq.mp hb.2.1;have h0:0<ie.size:=jn.1 hb.2.2;obtain⟨i,zv,hi,Dz,PH⟩:=oQ hz
 obtain rfl:ie=i:=by rw[uP]at hi;exact Option.some.inj hi
 change EU n ie.size z (wN parts.toList) t h=.ok v h' at e
 unfold EU at e;split at e
 ·rename_i vs lP
  have hps:=HL Tr parts.toList lP;have Bl:zv.cells.size=ie.size:=by
   have:=(PH g w).length;simp only[Array.length_toList]at this;omega
  cases hn:Nat.beq n 0 with
  |true=>
   rw[hn]at e;obtain rfl:=Nat.eq_of_beq_eq_true hn;cases vs with
   |cons _ _=>cases e
   |nil=>
    cases e;simp only[sG,List.map_eq_nil_iff,Array.toList_eq_nil_iff]at hps;subst hps;refine .inl ⟨rfl,.slice (some ⟨w.heap.size,0,none⟩) 0 0,#[],el,?_,fun _ _=>UL⟩
    ·simp[execOp,ho,Instr.buildSlice,run_underlying hu,sizeOf,typeInfo,uP,Instr.fill,newRow,Array.range_zero']
  |false=>
   rw[hn]at e
   have hn0:n≠0:=fun k=>by subst k;cases hn
   have hns:n*ie.size≠0:=Nat.mul_ne_zero hn0 (by omega);simp only[cond_false]at e;split at e
   ·rename_i cs vL
    cases e;have UR:jy g w (nn n z) ((Array.range (n*ie.size)).map (fun j=>zv.cells[j % zv.cells.size]!)).toList:=by
     rw[<-Bl,xS]
     exact(PH g w).repeat n
    obtain⟨C',hC',yJ,hs⟩:=NT (zv:=[]) _ hps UR (by simp) vL rfl
    refine .inr ⟨Ee cs,C',el,C'.toList,.slice (some ⟨w.heap.size,0,none⟩) n n,rfl,?_,by rw[pj];exact yJ,fun j v e=>by simpa using e,
     fun g' w' hm hr=>UK hm (Nat.le_refl _) (by rw[hs];simp) hr⟩
    have ayi: ¬ 16777216<n*ie.size:=by omega
    simp only[execOp,ho];show((Instr.buildSlice T n (parts.map fun p=>(p.1,a.eval p.2))>>=fun v=>(pure (.value v):Sem Next))).run P w=_;simp[Instr.buildSlice,run_underlying hu,sizeOf,typeInfo,uP,zeroValue,Dz,ayi,hns,hC',newRow]
   ·cases e
 ·cases e
def La(P:Program)(T:TypeId)(l c:Operand):lO:=
 match P.underlying T with
 |some (.slice e)=>match P.info? e with
  |some ie=>match zeroOf P e with
   |some z=>oL (Nat.beq (len z) ie.size&&Nat.blt 0 ie.bytes) (sN ie.size ie.bytes z (cD l) (cD c)) jL
   |none=>jL
  |none=>jL
 | _=>jL
theorem RE{T:TypeId}{l c:Operand}(ho:o.op=.makeSlice T l c):vM P o (La P T l c):=by
 intro g w nt t h a v h' H Tr e;unfold La at e;cases hu:P.underlying T with
 |none=>rw[hu]at e;cases e
 |some d=>
 rw[hu]at e
 cases d<;>try (cases e;done)
 rename_i el
 simp only at e;cases uP:P.info? el with
 |none=>rw[uP]at e;cases e
 |some ie=>
 rw[uP]at e;cases hz:zeroOf P el with
 |none=>simp only[hz]at e;cases e
 |some z=>
 simp only[hz]at e;cases hb:(Nat.beq (len z) ie.size&&Nat.blt 0 ie.bytes)with
 |false=>rw[hb]at e;cases e
 |true=>
 rw[hb]at e;simp only[Bool.and_eq_true,jH]at hb;have hzl:=Nat.eq_of_beq_eq_true hb.1;have h0:0<ie.bytes:=jn.1 hb.2;obtain⟨i,zv,hi,Dz,PH⟩:=oQ hz
 obtain rfl:ie=i:=by rw[uP]at hi;exact Option.some.inj hi
 have Bl:zv.cells.size=ie.size:=by
  have:=(PH g w).length;simp only[Array.length_toList]at this;omega
 change sN ie.size ie.bytes z (cD l) (cD c) t h=.ok v h' at e
 unfold sN at e;split at e
 ·rename_i kl ln hl
  split at e
  ·rename_i kc cn hc
   have hvl:=cH l _ _ _ _ _ _ Tr hl;have hvc:=cH c _ _ _ _ _ _ Tr hc;simp only[VR]at hvl hvc;cases hle:(Nat.ble ln cn&&Nat.ble (Nat.mul cn ie.bytes) 70368744177664)with
   |false=>rw[hle]at e;cases e
   |true=>
    rw[hle]at e;simp only[Bool.and_eq_true]at hle;have h1:ln<=cn:=Nat.ble_eq.mp hle.1;have h2:cn*ie.bytes<=70368744177664:=Nat.ble_eq.mp hle.2;have h3:cn<=cn*ie.bytes:=Nat.le_mul_of_pos_right _ h0;have hr:=run_make (P:=P) w T el ie zv hu uP Dz kl kc (Int.ofNat ln) (Int.ofNat cn) (Int.natCast_nonneg ln) (by show((ln:Nat):Int)<=(cn:Nat);omega) (by
     show((ie.bytes:Nat):Int)*((cn:Nat):Int)<=_
     rw[<-Int.natCast_mul,Nat.mul_comm];omega) (by show((cn:Nat):Int)<=_;omega)
    have hex:(execOp a.eval o).run P w=.ok (.value (.slice (some ⟨w.heap.size,0,none⟩) ln cn)) (w.alloc (.cells (madeCells zv.cells (cn*ie.size)) el)):=by
     simp only[execOp,ho,hvl,hvc,Sem.run_bind,hr,Result.andThen_ok,Sem.run_pure];rfl
    cases hc0:Nat.beq cn 0 with
    |true=>
     rw[hc0]at e;cases e;obtain rfl:=Nat.eq_of_beq_eq_true hc0
     obtain rfl:ln=0:=by omega
     exact .inl ⟨rfl,_,_,_,hex,fun _ _=>UL⟩
    |false=>
     rw[hc0]at e;cases e;have UR:jy g w (nn cn z) (madeCells zv.cells (cn*ie.size)).toList:=by
      unfold madeCells;rw[<-Bl,xS]
      exact(PH g w).repeat cn
     exact .inr ⟨_,_,_,_,_,rfl,hex,by rw[PB];exact UR,fun j v e=>by simpa using e,fun g' w' hm hr=>UK hm h1 (by rw[size_madeCells];exact Nat.le_refl _) hr⟩
  ·cases e
 ·cases e
end
end Go.Ab
noncomputable section
namespace Go.Ab
variable [Io]
section
variable {P:Program}{o:Oper}
theorem Lb{g w h}(H:HR g w h):Ext g w h g w.drew h/\HR g w.drew h:=by
 have E:Ext g w h g w.drew h:=
  ⟨rfl,rfl,rfl,Nat.le_refl _,Nat.le_refl _,fun _ _ e=>e,fun _ _ _=>rfl,fun _=>Nat.le_refl _,fun _ i=>i,fun _ i=>.inl i,fun _ o=>.inl o⟩
 refine⟨E,H.fresh,?_,H.inj,H.mM,vm.ext H E⟩;intro id cs e;obtain⟨b,s,C,el,vs,hm,hw,hi,hv,hc⟩:=H.cz id cs e;exact⟨b,s,C,el,vs,hm,hw,hi,jy.mono H E _ _ hv,hc⟩
theorem US{g w h}(H:HR g w h)(id:Nat):Ext g w h g w (qj h id none)/\HR g w (qj h id none):=by
 have hg: ∀ i,(qj h id none).cz.get i=if i=id then none else h.cz.get i:=fun i=>Tr.qO _ _ _ _
 have E:Ext g w h g w (qj h id none):=by
  refine⟨rfl,rfl,rfl,Nat.le_refl _,Nat.le_refl _,fun _ _ e=>e,fun _ _ _=>rfl,fun _=>Nat.le_refl _,fun _ i=>i,fun _ i=>.inl i,?_⟩;rintro b ⟨i,cs,s,e,m⟩;rw[hg]at e;by_cases hi:i=id
  ·rw[if_pos hi]at e;cases e
  ·rw[if_neg hi]at e;exact .inl ⟨i,cs,s,e,m⟩
 refine⟨E,H.fresh,?_,?_,H.mM,vm.ext H E⟩
 ·intro i cs e;rw[hg]at e;by_cases hi:i=id
  ·rw[if_pos hi]at e;cases e
  ·rw[if_neg hi]at e;obtain⟨b,s,C,el,vs,hm,hw,hi,hv,hc⟩:=H.cz i cs e;exact⟨b,s,C,el,vs,hm,hw,hi,jy.mono H E _ _ hv,hc⟩
 ·intro i i' b s s' c1 c2 e1 e2;rw[hg]at e1 e2;by_cases h1:i=id
  ·rw[if_pos h1]at e1;cases e1
  ·by_cases h2:i'=id
   ·rw[if_pos h2]at e2;cases e2
   ·rw[if_neg h1]at e1;rw[if_neg h2]at e2;exact H.inj i i' b s s' c1 c2 e1 e2
omit [Io] in
theorem lJ(P:Program)(g o:Nat)(t:TypeId)(fz:Nat×Nat): ∀ (vs:List Value) (i:Nat) (cur:Array Value) (w:World),w.heap[g]? =some (.cells cur t fz)->(∀ i,i<cur.size-> ¬ (fz.1<=i/\i<fz.2))->
 o+i+vs.length<=cur.size->(∀ v∈vs,v.oneCell'=true)->
 (storeCells ⟨g,o,none⟩ vs i).run P w=.ok () (w.setRow g (cur.toList.take (o+i)++vs++cur.toList.drop (o+i+vs.length)).toArray)
 | [],i,cur,w,hg,_,_,_=>by
  simp only[storeCells,List.append_nil,List.length_nil,Nat.add_zero,List.take_append_drop,Array.toArray_toList];rw[setRow_self w g cur t fz hg];rfl
 |v::rest,i,cur,w,hg,hfz,hl,h1=>by
  have hi:o+i<cur.size:=by simp at hl;omega
  have ayk:(⟨g,o,none⟩:Addr).add i=⟨g,o+i,none⟩:=by unfold Addr.add;split<;>simp_all
  have arE:w.cell? ⟨g,o+i,none⟩=some cur[o+i]:=by simp[World.cell?,hg,hi]
  have ayl:w.frozen? ⟨g,o+i,none⟩=false:=by
   have:=hfz (o+i) hi;obtain⟨lo,A7⟩:=fz;simp only[World.frozen?,hg];simp only at this;rw[Bool.eq_false_iff];intro h;simp only[Bool.and_eq_true,decide_eq_true_eq]at h;exact this h
  have Ek:(store ((⟨g,o,none⟩:Addr).add i) v).run P w=.ok () (w.setRow g (cur.setIfInBounds (o+i) v)):=by
   rw[ayk,run_store P w _ v _ (h1 v (by simp)),arE];simp[ayl,setCell_eq_setRow w g (o+i) cur t fz v hg]
  have ih:=lJ P g o t fz rest (i+1) (cur.setIfInBounds (o+i) v) (w.setRow g (cur.setIfInBounds (o+i) v)) (setRow_heap w g cur _ t _ hg) (by simpa using hfz) (by simp at hl ⊢;omega) (fun x hx=>h1 x (by simp[hx]));simp only[storeCells,Sem.run_bind,Ek,Result.andThen_ok,ih,setRow_setRow];congr 3;have e:=list_seg_step cur.toList (o+i) v rest (by simp at hl ⊢;omega);simpa[Array.toList_setIfInBounds,Nat.add_assoc]using e
omit [Io] in
theorem nR{w:World}{b:Nat}{C C':Array Value}{el:TypeId}{fz:Nat×Nat}(hw:w.heap[b]? =some (.cells C el fz))(k:Nat):
 (w.setRow b C').heap[k]? =if k=b then some (.cells C' el fz)else w.heap[k]? :=by
 by_cases hk:k=b
 ·subst hk;rw[if_pos rfl];exact setRow_heap w k C C' el fz hw
 ·rw[if_neg hk];exact setRow_other w b k C' hk
theorem RF{g w h}(H:HR g w h){id b s s':Nat}{cs cs':Rw}{C C':Array Value}{el:FT C}{us:List Value}(he:h.cz.get id=some cs)(hm:g.m id=some (b,s))
 (hw:w.heap[b]? =some (.cells C el.el el.fz))(hs:C'.size=C.size)(hv:jy g w cs'.toL us)(hc: ∀ (j:Nat) (v:Value),us[j]? =some v->C'[s'+j]? =some v):
 Ext g w h ⟨fun i=>if i=h.next then some (b,s')else g.m i,g.mM⟩ (w.setRow b C') (kA (qj h id none) cs')/\
  HR ⟨fun i=>if i=h.next then some (b,s')else g.m i,g.mM⟩ (w.setRow b C') (kA (qj h id none) cs'):=by
 have hob:qM g h b:=⟨id,cs,s,he,hm⟩
 have hg: ∀ i,(kA (qj h id none) cs').cz.get i=if i=h.next then some cs' else if i=id then none else h.cz.get i:=by
  intro i;show((h.cz.set id none).set h.next (some cs')).get i=_;rw[Tr.qO,Tr.qO]
 have qF: ∀ i x,g.m i=some x->i≠h.next:=by
  intro i x e hi;rw[H.fresh i (by omega)]at e;cases e
 have E:Ext g w h ⟨fun i=>if i=h.next then some (b,s')else g.m i,g.mM⟩ (w.setRow b C') (kA (qj h id none) cs'):=by
  refine⟨rfl,rfl,rfl,by simp,Nat.le_succ _,?_,?_,?_,fun _ i=>i,fun _ i=>.inl i,?_⟩
  ·intro i x e;simp only[if_neg (qF i x e)];exact e
  ·intro k _ ho;rw[nR hw,if_neg];rintro rfl;exact ho hob
  ·intro k;unfold kP;rw[nR hw];by_cases hk:k=b
   ·subst hk;simp[hw,hs]
   ·rw[if_neg hk];exact Nat.le_refl _
  ·rintro k ⟨i,c,q,e,m⟩;rw[hg]at e
   by_cases hi:i=h.next
   ·simp only[if_pos hi]at m;obtain⟨rfl,_⟩:=Prod.mk.inj (Option.some.inj m);exact .inl hob
   ·rw[if_neg hi]at e;simp only[if_neg hi]at m;by_cases h2:i=id
    ·rw[if_pos h2]at e;cases e
    ·rw[if_neg h2]at e;exact .inl ⟨i,c,q,e,m⟩
 refine⟨E,?_,?_,?_,?_,vm.ext H E⟩
 ·intro i hi
  have A7:h.next+1<=i:=hi
  simp only;rw[if_neg (by omega)];exact H.fresh i (by omega)
 ·intro i c e;rw[hg]at e
  by_cases hi:i=h.next
  ·rw[if_pos hi]at e;cases e;exact⟨b,s',C',el.to hs,us,by simp[hi],by rw[nR hw,if_pos rfl];rfl,fun k=>H.tx k hob,jy.mono H E _ _ hv,hc⟩
  ·rw[if_neg hi]at e;by_cases h2:i=id
   ·rw[if_pos h2]at e;cases e
   ·rw[if_neg h2]at e;obtain⟨b2,s2,C2,el2,vs2,RG,UT,RD,hv2,hc2⟩:=H.cz i c e;have Lc:b2≠b:=by
     rintro rfl;exact h2 (H.inj i id b2 s2 s c cs e he RG hm)
    exact⟨b2,s2,C2,el2,vs2,by simp only[if_neg hi];exact RG,by rw[nR hw,if_neg Lc];exact UT,RD,jy.mono H E _ _ hv2,hc2⟩
 ·intro i i' k q q' c1 c2 e1 e2 m1 m2;rw[hg]at e1 e2;have zj: ∀ i c q,i≠h.next->(if i=id then none else h.cz.get i)=some c->g.m i=some (b,q)->False:=by
   intro i c q _ e m;by_cases h2:i=id
   ·rw[if_pos h2]at e;cases e
   ·rw[if_neg h2]at e;exact h2 (H.inj i id b q s c cs e he m hm)
  by_cases h1:i=h.next<;>by_cases h2:i'=h.next
  ·exact h1.trans h2.symm
  ·rw[if_neg h2]at e2;simp only[if_pos h1]at m1;simp only[if_neg h2]at m2;obtain⟨rfl,_⟩:=Prod.mk.inj (Option.some.inj m1);exact(zj i' _ _ h2 e2 m2).elim
  ·rw[if_neg h1]at e1;simp only[if_neg h1]at m1;simp only[if_pos h2]at m2;obtain⟨rfl,_⟩:=Prod.mk.inj (Option.some.inj m2);exact(zj i _ _ h1 e1 m1).elim
  ·rw[if_neg h1]at e1;rw[if_neg h2]at e2;simp only[if_neg h1]at m1;simp only[if_neg h2]at m2;by_cases k1:i=id
   ·rw[if_pos k1]at e1;cases e1
   ·by_cases k2:i'=id
    ·rw[if_pos k2]at e2;cases e2
    ·rw[if_neg k1]at e1;rw[if_neg k2]at e2;exact H.inj i i' k q q' c1 c2 e1 e2 m1 m2
 ·intro k i;have:=H.mM k i;simp;omega
theorem UU{g w h}(H:HR g w h){w':World}{id b s:Nat}{cs:Rw}{C:Array Value}{el el':FT C}(he:h.cz.get id=some cs)(hm:g.m id=some (b,s))
 (hw:w.heap[b]? =some (.cells C el.el el.fz))(h1:w'.os=w.os)(h2:w'.tape=w.tape)(h3:w'.output=w.output)(h4:w'.heap.size=w.heap.size)
 (hp: ∀ k,w'.heap[k]? =if k=b then some (.cells C el'.el el'.fz)else w.heap[k]?):Ext g w h g w' h/\HR g w' h:=by
 have hob:qM g h b:=⟨id,cs,s,he,hm⟩
 have E:Ext g w h g w' h:=by
  refine⟨h1,h2,h3,by omega,Nat.le_refl _,fun _ _ e=>e,?_,?_,fun _ i=>i,fun _ i=>.inl i,fun _ o=>.inl o⟩
  ·intro k _ ho;rw[hp,if_neg];rintro rfl;exact ho hob
  ·intro k;unfold kP;rw[hp];by_cases hk:k=b
   ·subst hk;simp[hw]
   ·rw[if_neg hk];exact Nat.le_refl _
 refine⟨E,H.fresh,?_,H.inj,?_,vm.ext H E⟩
 ·intro i c e;obtain⟨b2,s2,C2,el2,vs2,RG,UT,RD,hv2,hc2⟩:=H.cz i c e;by_cases Lc:b2=b
  ·subst Lc;rw[hw]at UT;injection UT with UT;injection UT with e1 e2 e3;subst e1;exact⟨b2,s2,C,el',vs2,RG,by rw[hp,if_pos rfl],RD,jy.mono H E _ _ hv2,hc2⟩
  ·exact⟨b2,s2,C2,el2,vs2,RG,by rw[hp,if_neg Lc];exact UT,RD,jy.mono H E _ _ hv2,hc2⟩
 ·intro k i;have:=H.mM k i;omega
theorem HM{g w h}(H:HR g w h){id b s:Nat}{cs cs':Rw}{C C':Array Value}{el:FT C}{us:List Value}(he:h.cz.get id=some cs)(hm:g.m id=some (b,s))
 (hw:w.heap[b]? =some (.cells C el.el el.fz))(hs:C'.size=C.size)(hv:jy g w cs'.toL us)(hc: ∀ (j:Nat) (v:Value),us[j]? =some v->C'[s+j]? =some v):
 Ext g w h g (w.setRow b C') (qj h id (some cs'))/\HR g (w.setRow b C') (qj h id (some cs')):=by
 have hob:qM g h b:=⟨id,cs,s,he,hm⟩
 have hg: ∀ i,(qj h id (some cs')).cz.get i=if i=id then some cs' else h.cz.get i:=fun i=>Tr.qO _ _ _ _
 have live: ∀ i c,(if i=id then some cs' else h.cz.get i)=some c-> ∃ c',h.cz.get i=some c':=by
  intro i c e;by_cases hi:i=id
  ·exact⟨cs,by rw[hi];exact he⟩
  ·rw[if_neg hi]at e;exact⟨c,e⟩
 have E:Ext g w h g (w.setRow b C') (qj h id (some cs')):=by
  refine⟨rfl,rfl,rfl,by simp,Nat.le_refl _,fun _ _ e=>e,?_,?_,fun _ i=>i,fun _ i=>.inl i,?_⟩
  ·intro k _ ho;rw[nR hw,if_neg];rintro rfl;exact ho hob
  ·intro k;unfold kP;rw[nR hw];by_cases hk:k=b
   ·subst hk;simp[hw,hs]
   ·rw[if_neg hk];exact Nat.le_refl _
  ·rintro k ⟨i,c,q,e,m⟩;rw[hg]at e;obtain⟨c',e'⟩:=live i c e;exact .inl ⟨i,c',q,e',m⟩
 refine⟨E,H.fresh,?_,?_,?_,vm.ext H E⟩
 ·intro i c e;rw[hg]at e;by_cases hi:i=id
  ·rw[if_pos hi]at e;cases e;exact⟨b,s,C',el.to hs,us,by rw[hi];exact hm,by rw[nR hw,if_pos rfl];rfl,fun k=>H.tx k hob,jy.mono H E _ _ hv,hc⟩
  ·rw[if_neg hi]at e;obtain⟨b2,s2,C2,el2,vs2,RG,UT,RD,hv2,hc2⟩:=H.cz i c e;have Lc:b2≠b:=by
    rintro rfl;exact hi (H.inj i id b2 s2 s c cs e he RG hm)
   exact⟨b2,s2,C2,el2,vs2,RG,by rw[nR hw,if_neg Lc];exact UT,RD,jy.mono H E _ _ hv2,hc2⟩
 ·intro i i' k q q' c1 c2 e1 e2 m1 m2;rw[hg]at e1 e2;obtain⟨c1',e1'⟩:=live i c1 e1;obtain⟨c2',e2'⟩:=live i' c2 e2;exact H.inj i i' k q q' c1' c2' e1' e2' m1 m2
 ·intro k i;have:=H.mM k i;simp;omega
omit [Io] in
theorem PK{C:Array Value}{s off:Nat}{us ns:List Value}(hc: ∀ (j:Nat) (v:Value),us[j]? =some v->C[s+j]? =some v)(h:s+off+ns.length<=C.size):
 ∀ (j:Nat) (v:Value),(us.take off++(ns++us.drop (off+ns.length)))[j]? =some v->
  off<=us.length->(C.toList.take (s+off)++ns++C.toList.drop (s+off+ns.length)).toArray[s+j]? =some v:=by
 intro j v e ho
 have hu:(us.take off).length=off:=by simp;omega
 have hC:(C.toList.take (s+off)).length=s+off:=by simp;omega
 rw[List.getElem?_toArray,List.append_assoc];by_cases h1:j<off
 ·rw[List.getElem?_append_left (by omega),List.getElem?_take_of_lt h1]at e;rw[List.getElem?_append_left (by omega),List.getElem?_take_of_lt (by omega)]
  simpa using hc j v e
 ·rw[List.getElem?_append_right (by omega),hu]at e;rw[List.getElem?_append_right (by omega),hC,show s+j - (s+off)=j - off by omega];by_cases h2:j - off<ns.length
  ·rw[List.getElem?_append_left h2]at e ⊢;exact e
  ·rw[List.getElem?_append_right (by omega),List.getElem?_drop]at e ⊢;have:=hc _ v e;rw[show s+off+ns.length+(j - off - ns.length)=s+(off+ns.length+(j - off - ns.length)) by omega]
   simpa using this
def IZ(P:Program)(T:TypeId)(x y:Operand):lO:=
 match P.info? T with
 |some i=>oL (Nat.blt 0 i.size) (tH i.size (cD x) (cD y)) jL
 |none=>jL
theorem NU{T:TypeId}{x y:Operand}(ho:o.op=.store T x y):tL P o (IZ P T x y):=by
 intro g w nt t h a v h' H Tr e;unfold IZ at e;cases hi:P.info? T with
 |none=>rw[hi]at e;cases e
 |some i=>
 rw[hi]at e;cases abJ:Nat.blt 0 i.size with
 |false=>simp only[abJ]at e;cases e
 |true=>
 simp only[abJ]at e;have aCW:=jn.1 abJ
 change tH i.size (cD x) (cD y) t h=.ok v h' at e
 unfold tH at e;split at e
 ·rename_i id off hx
  split at e
  ·rename_i av hy
   split at e
   ·rename_i cs hg
    cases hb:(Nat.beq (len av.cells) i.size&&(Nat.ble (Nat.add off (len av.cells)) cs.n&&jC kN av.cells))with
    |false=>rw[hb]at e;cases e
    |true=>
     rw[hb]at e;cases e;simp only[Bool.and_eq_true,jH]at hb;have h1:=Nat.eq_of_beq_eq_true hb.1;have h2':off+av.cells.length<=cs.n:=Nat.ble_eq.mp hb.2.1
     have h2:off+av.cells.length<=cs.toL.length:=by rw[lI];exact h2'
     have Nt:=cH x _ _ _ _ _ _ Tr hx;have Ej:=cH y _ _ _ _ _ _ Tr hy;simp only[VR]at Nt;obtain⟨b,s,hm,Nt⟩:=Nt;obtain⟨C,el,vs,hw,_,lP,hc⟩:=H.row hg hm;have nq:=Ej.cells;have zF:=jy.NK nq hb.2.2;have hl:=nq.length;simp only[Array.length_toList]at hl;have Ad:s+off+(a.eval y).cells.toList.length<=C.size:=by
      have:=jy.xR lP hc h2 (by omega);simp only[Array.length_toList];omega
     have Ek:=lJ P b (s+off) el.el el.fz (a.eval y).cells.toList 0 C w hw el.ok (by simpa using Ad) zF;simp only[Nat.add_zero]at Ek;have hlen:=lP.length;obtain⟨E,H'⟩:=HM H (C':=(C.toList.take (s+off)++(a.eval y).cells.toList++C.toList.drop (s+off+(a.eval y).cells.toList.length)).toArray)
      hg hm hw (by simp at Ad ⊢;omega) (cs':=cs.put off av.cells) (us:=vs.take off++((a.eval y).cells.toList++vs.drop (off+(a.eval y).cells.toList.length)))
      (by rw[Be h2',put_eq,<-nq.length];exact(lP.take _).append (nq.append (lP.drop _)))
      (fun j v e=>PK hc Ad j v e (by omega))
     refine⟨g,_,.skip,undef,?_,.inr ⟨rfl,rfl⟩,E,H',by simp only[n7,VR];exact⟨_,rfl,by simp[jy]⟩⟩
     have wH: ¬ (a.eval y).cells.size≠i.size:=by omega
     simp only[execOp,ho,Instr.storeAt,Instr.sureAddr,Nt,storeVar,sizeOf,typeInfo,hi,Ek,Sem.run_bind,Sem.run_pure,Result.andThen_ok,run_program,Sem.run_ite,if_neg wH]
   ·cases e
  ·cases e
 ·cases e
end
end Go.Ab
noncomputable section
namespace Go.Ab
variable [Io]
section
variable {P:Program}{o:Oper}
omit [Io] in
theorem xx(w:World)(t ty e:TypeId)(i:TypeInfo)(ht:P.underlying t=some (.slice e))(hi:P.info? e=some i)(b x:Option Addr)(jY lG c:Nat)(h:jY<=lG):
 (Builtin.append_ #[t,t] ty #[.slice b jY lG,.slice x 0 c]).run P w=.ok (.slice b jY lG) w:=by
 cases b<;>cases x<;>
  simp[Builtin.append_,run_underlying ht,sizeOf,typeInfo,hi,Builtin.lenOf,Builtin.firstCells,loadCells,loadCellsFrom,h,storeCells]
omit [Io] in
theorem G4(w:World)(t ty e:TypeId)(i:TypeInfo)(ht:P.underlying t=some (.slice e))(hi:P.info? e=some i)
 (g at_ jY lG:Nat)(cur:Array Value)(el:FT cur)(hg:w.heap[g]? =some (.cells cur el.el el.fz))
 (a:Addr)(m c:Nat)(news:List Value)(hl:news.length=m*i.size)(arG: ∀ j u,news[j]? =some u->w.cell? (a.add j)=some u)(h1: ∀ u∈news,u.oneCell'=true)
 (tN:jY+m<=lG)(Ae:at_+jY*i.size+news.length<=cur.size):
 (Builtin.append_ #[t,t] ty #[.slice (some ⟨g,at_,none⟩) jY lG,.slice (some a) m c]).run P w=
  .ok (.slice (some ⟨g,at_,none⟩) (jY+m) lG) (w.setRow g (cur.toList.take (at_+jY*i.size)++news++cur.toList.drop (at_+jY*i.size+news.length)).toArray):=by
 have hf:=run_firstCells_some (P:=P) w i.size m a m c news hl arG;have Ek:=lJ P g (at_+jY*i.size) el.el el.fz news 0 cur w hg el.ok (by simpa using Ae) h1;simp only[Nat.add_zero]at Ek;simp[Builtin.append_,run_underlying ht,sizeOf,typeInfo,hi,Builtin.lenOf,tN,hf,oP,Ek]
theorem vN{g w h}(H:HC g w h){x:AV}{v:Value}(hv:VR g w x v){n:Nat}{cs:List AV}(e:kp h x=some (n,cs)):
 ∃ a c,v=.slice a n c/\n<=c/\(cs=[]∨ ∃ b s vs,a=some ⟨b,s,none⟩/\jy g w cs vs/\lr w b s vs):=by
 unfold kp at e;split at e
 ·cases e;simp only[VR]at hv;obtain⟨a,rfl⟩:=hv;exact⟨a,0,rfl,Nat.le_refl _,.inl rfl⟩
 ·cases e;simp only[VR]at hv;obtain⟨a,c,rfl,hc,hr⟩:=hv;refine⟨a,c,rfl,hc,?_⟩
  rcases hr with⟨_,rfl⟩|⟨b,s,vs,rfl,_,vL,lP⟩
  ·exact .inl rfl
  ·exact .inr ⟨b,s,vs,rfl,lP,vL⟩
 ·rename_i id off n' sz
  split at e
  ·rename_i cs' hg
   split at e
   ·rename_i l hs
    cases e;obtain⟨rfl,hl,_⟩:=tK hs;simp only[VR]at hv
    rcases hv with⟨rfl,a,rfl⟩|⟨b,s,cap,hm,rfl,hc,_⟩
    ·refine⟨a,0,rfl,Nat.le_refl _,.inl ?_⟩;have:(List.take (Nat.mul 0 sz) (List.drop off cs'.toL))=[]:=by
      rw[show Nat.mul 0 sz=0 from Nat.zero_mul _];rfl
     exact this
    ·obtain⟨C,el,vs,hw,_,lP,hcc⟩:=H.row hg hm;exact⟨_,cap,rfl,hc,.inr ⟨b,s+off,_,rfl,(lP.drop off).take _,((qu hw hcc).drop off).take _⟩⟩
   ·cases e
  ·cases e
 ·cases e
theorem sH{g w h}(H:HR g w h){x:AV}{v:Value}(hv:VR g w x v){n:Nat}{cs:List AV}(e:kp h x=some (n,cs)):
 ∃ a c,v=.slice a n c/\n<=c/\(cs=[]∨ ∃ b s vs,a=some ⟨b,s,none⟩/\jy g w cs vs/\lr w b s vs):=vN H.toHC hv e
omit [Io] in
theorem tO{w:World}{b s:Nat}{vs:List Value}(h:lr w b s vs): ∀ j u,vs[j]? =some u->w.cell? ((⟨b,s,none⟩:Addr).add j)=some u:=by
 intro j u e;rw[oP];exact h j u e
structure arH(P:Program)(w:World)(Af:Array TypeId)(ty el:TypeId)(ie:TypeInfo)(zv:Value)(vx:Value)(n:Nat)(us:List Value):Prop where
 aym:0<n->n<=70368744177664->n*ie.bytes<=70368744177664->(Builtin.append_ Af ty #[.slice none 0 0,vx]).run P w=
  .ok (.slice (some ⟨w.heap.size,0,none⟩) n (grownCap w n 0 el)) (w.drew.alloc (.cells (us.toArray++Builtin.zeroCells zv.cells (grownCap w n 0 el - n)) el))
 ais: ∀ (b:Addr) (jY lG:Nat) (G5:List Value),G5.length=jY*ie.size->(∀ (j:Nat) (v:Value),G5[j]? =some v->w.cell? (b.add j)=some v)->0<n->lG<jY+n->jY+n<=70368744177664->(jY+n)*ie.bytes<=70368744177664->
  (Builtin.append_ Af ty #[.slice (some b) jY lG,vx]).run P w=.ok (.slice (some ⟨w.heap.size,0,none⟩) (jY+n) (grownCap w (jY+n) lG el))
    (w.drew.alloc (.cells (G5.toArray++us.toArray++Builtin.zeroCells zv.cells (grownCap w (jY+n) lG el - (jY+n))) el))
 aat: ∀ (g at_ jY lG:Nat) (cur:Array Value) (el:FT cur),w.heap[g]? =some (.cells cur el.el el.fz)->0<n->jY+n<=70368744177664->(jY+n)*ie.bytes<=70368744177664->(∀ u∈us,u.oneCell'=true)->
  jY+n<=lG->at_+jY*ie.size+us.length<=cur.size->(Builtin.append_ Af ty #[.slice (some ⟨g,at_,none⟩) jY lG,vx]).run P w=
   .ok (.slice (some ⟨g,at_,none⟩) (jY+n) lG) (w.setRow g (cur.toList.take (at_+jY*ie.size)++us++cur.toList.drop (at_+jY*ie.size+us.length)).toArray)
theorem xU{g:G}{w:World}{h h':Hp}{a:Act}{Af:Array TypeId}{el:TypeId}{ie:TypeInfo}{zv:Value}{vs0 vx:Value}{sv v:AV}{n:Nat}{new:List AV}(H:HR g w h)(lP:VR g w sv vs0)(h0:0<ie.size)(Bl:zv.cells.size=ie.size)
 (hex: ∀ vs r w',vs0=vs->(Builtin.append_ Af o.type #[vs,vx]).run P w=.ok r w'->(execOp a.eval o).run P w=.ok (.value r) w')
 (h00:n=0-> ∀ (b:Option Addr) (ln cap:Nat),ln<=cap->(Builtin.append_ Af o.type #[.slice b ln cap,vx]).run P w=.ok (.slice b ln cap) w)
 (hap:n≠0->new.length=n*ie.size-> ∃ us,jy g w new us/\arH P w Af o.type el ie zv vx n us)
 (e:Ba ie.size ie.bytes h sv n new=.ok v h'):
 ∃ g' w' nx x,(execOp a.eval o).run P w=.ok nx w'/\(nx=.value x∨(nx=.skip/\x=undef))/\Ext g w h g' w' h'/\HR g' w' h'/\VR g' w' v x:=by
   unfold Ba at e
   have fresh: ∀ (b:Option Addr) (h2:Hp) (rw0:Rw),rw0.toL=new->vs0=.slice b 0 0->n≠0->n*ie.bytes<=70368744177664->jC kN new=true->new.length=n*ie.size->n<=70368744177664->
    HR g w h2->Ext g w h g w h2->
    ∃ g' w' nx x,(execOp a.eval o).run P w=.ok nx w'/\(nx=.value x∨(nx=.skip/\x=undef))/\Ext g w h g' w' (kA h2 rw0)/\HR g' w' (kA h2 rw0)/\VR g' w' (.my h2.next 0 n ie.size) x:=by
    intro b h2 rw0 hrw DQ hn Nu zF hlen ayn H2 E2
    ·obtain⟨us,KL,A⟩:=hap hn hlen;have hul:=KL.length
     have Ld:us.length=n*ie.size:=by omega
     obtain⟨E3,H3⟩:=Lb H2
     have hC: ∀ cap,n<=cap->n*ie.size+(cap - n)*ie.size=cap*ie.size:=by intro cap hc;rw[<-Nat.add_mul];congr 1;omega
     cases b with
     |none=>
      have hr:=A.aym (by omega) ayn Nu;have UW:=grownCap_ge w n 0 el;obtain⟨E4,H4⟩:=Eh H3 (cs:=rw0) (C:=us.toArray++Builtin.zeroCells zv.cells (grownCap w n 0 el - n)) el (by rw[hrw];exact jy.mono H2 E3 _ _ KL) (fun j v e=>by
       rw[Array.getElem?_append_left (by have:=(List.getElem?_eq_some_iff.1 e).1;simpa using this)];simpa using e)
      refine⟨_,_,_,_,hex _ _ _ DQ hr,.inl rfl,E2.trans (E3.trans E4),H4,IL UW ?_⟩;rw[Array.size_append,size_zeroCells,Bl,List.size_toArray,Ld,hC _ UW];exact Nat.le_refl _
     |some b=>
      have hr:=A.ais b 0 0 [] (by simp) (by simp) (by omega) (by omega) (by omega) (by rw[Nat.zero_add];exact Nu);simp only[Nat.zero_add]at hr;have UW:=grownCap_ge w n 0 el;obtain⟨E4,H4⟩:=Eh H3 (cs:=rw0) (C:= #[]++us.toArray++Builtin.zeroCells zv.cells (grownCap w n 0 el - n)) el (by rw[hrw];exact jy.mono H2 E3 _ _ KL) (fun j v e=>by
       rw[Array.getElem?_append_left (by have:=(List.getElem?_eq_some_iff.1 e).1;simpa using this)];simpa using e)
      refine⟨_,_,_,_,hex _ _ _ DQ hr,.inl rfl,E2.trans (E3.trans E4),H4,IL UW ?_⟩;rw[Array.size_append,size_zeroCells,Bl,Array.empty_append,List.size_toArray,Ld,hC _ UW];exact Nat.le_refl _
   split at e
   ·
    simp only[VR]at lP;obtain⟨b,DQ⟩:=lP;cases hn:Nat.beq n 0 with
    |true=>
     rw[hn]at e;cases e;obtain rfl:=Nat.eq_of_beq_eq_true hn;exact⟨g,w,_,_,hex _ _ _ DQ (h00 rfl b 0 0 (Nat.le_refl _)),.inl rfl,Ext.refl _ _ _,H,by simp only[VR];exact⟨_,rfl⟩⟩
    |false=>
     rw[hn]at e
     have hn0:n≠0:=fun k=>by subst k;cases hn
     cases hc:(Nat.ble (Nat.mul n ie.bytes) 70368744177664&&(jC kN new&&(Nat.beq (len new) (Nat.mul n ie.size)&&Nat.ble n 70368744177664)))with
     |false=>simp only[hc]at e;cases e
     |true=>
      simp only[hc]at e;cases e;simp only[Bool.and_eq_true,jH]at hc;exact fresh b h (Ee new) (pj new) DQ hn0 (Nat.ble_eq.mp hc.1) hc.2.1 (Nat.eq_of_beq_eq_true hc.2.2.1) (Nat.ble_eq.mp hc.2.2.2) H (Ext.refl _ _ _)
   ·
    rename_i id off ln sz
    cases hn:Nat.beq n 0 with
    |true=>
     rw[hn]at e;cases e;obtain rfl:=Nat.eq_of_beq_eq_true hn;have NV:=lP;simp only[VR]at lP
     rcases lP with⟨rfl,b,DQ⟩|⟨b,s',cap,hm,DQ,Fh,_⟩
     ·rw[DQ]at NV;exact⟨g,w,_,_,hex _ _ _ DQ (h00 rfl b 0 0 (Nat.le_refl _)),.inl rfl,Ext.refl _ _ _,H,NV⟩
     ·rw[DQ]at NV;exact⟨g,w,_,_,hex _ _ _ DQ (h00 rfl _ ln cap Fh),.inl rfl,Ext.refl _ _ _,H,NV⟩
    |false=>
     rw[hn]at e
     have hn0:n≠0:=fun k=>by subst k;cases hn
     simp only[cond_false]at e;split at e
     ·cases e
     ·rename_i cs hg
      split at e
      ·cases e
      ·rename_i pre aj5
       cases hc:(Nat.ble (Nat.mul (Nat.add ln n) ie.bytes) 70368744177664&&(Nat.beq sz ie.size&&(jC kN new&&(Nat.beq (len new) (Nat.mul n ie.size)&&Nat.ble (Nat.add ln n) 70368744177664))))with
       |false=>rw[hc]at e;cases e
       |true=>
        rw[hc]at e;cases e;simp only[Bool.and_eq_true,jH]at hc;have Nu:(ln+n)*ie.bytes<=70368744177664:=Nat.ble_eq.mp hc.1;obtain rfl:sz=ie.size:=Nat.eq_of_beq_eq_true hc.2.1;have zF:=hc.2.2.1;have hlen:new.length=n*ie.size:=Nat.eq_of_beq_eq_true hc.2.2.2.1;have RH:ln+n<=70368744177664:=Nat.ble_eq.mp hc.2.2.2.2;obtain⟨hpt,hpl⟩:=KY aj5;rw[hpt]at hpl;have ayp:(List.take (ln*ie.size) (List.drop off cs.toL)).length=ln*ie.size:=hpl;obtain⟨E2,H2⟩:=US H id;simp only[VR]at lP
        rcases lP with⟨rfl,b,DQ⟩|⟨b,s',cap,hm,DQ,Fh,Ad⟩
        ·have:=fresh b (qj h id none) (pre.app new) (by
          rw[Bf,hpt,show(List.take (Nat.mul 0 ie.size) (List.drop off cs.toL))=[]from by rw[show Nat.mul 0 ie.size=0 from Nat.zero_mul _];rfl,List.nil_append]) DQ hn0 (by simpa using Nu) zF hlen (by simpa using RH) H2 E2
         rw[show Nat.add 0 n=n from Nat.zero_add n];exact this
        ·obtain⟨us,KL,A⟩:=hap hn0 hlen
         ·have hul:=KL.length
          have Ld:us.length=n*ie.size:=by omega
          obtain⟨C,el',vs,hw,_,lP,hcc⟩:=H.row hg hm;rw[qv hw]at Ad;have rJ:jy g w (List.take (ln*ie.size) (List.drop off cs.toL)) ((vs.drop off).take (ln*ie.size)):=(lP.drop off).take _
          have aj6:((vs.drop off).take (ln*ie.size)).length=ln*ie.size:=by rw[rJ.length,ayp]
          have hpc:lr w b (s'+off) ((vs.drop off).take (ln*ie.size)):=((qu hw hcc).drop off).take _;have aj7:=rJ.append KL;have ait:jy g w (pre.app new).toL ((vs.drop off).take (ln*ie.size)++us):=by
           rw[Bf,hpt];exact aj7
          by_cases tN:ln+n<=cap
          ·have hm1:ln*ie.size+n*ie.size<=cap*ie.size:=by rw[<-Nat.add_mul];exact Nat.mul_le_mul_right _ tN
           have Ae:s'+off+ln*ie.size+us.length<=C.size:=by omega
           have hr:=A.aat b (s'+off) ln cap C el' hw (by omega) RH Nu (jy.NK KL zF) tN Ae;obtain⟨E3,H3⟩:=RF H (C':=(C.toList.take (s'+off+ln*ie.size)++us++C.toList.drop (s'+off+ln*ie.size+us.length)).toArray) (s':=s'+off)
            hg hm hw (by simp;omega) ait (fun j v e=>by
             have UO:(C.toList.take (s'+off+ln*ie.size)).length=s'+off+ln*ie.size:=by simp;omega
             rw[List.getElem?_toArray,List.append_assoc];by_cases hj:j<ln*ie.size
             ·rw[List.getElem?_append_left (by omega)]at e;have:=hpc j v e;rw[List.getElem?_append_left (by omega),List.getElem?_take_of_lt (by omega)];simp only[World.cell?,hw]at this
              simpa using this
             ·rw[List.getElem?_append_right (by omega),aj6]at e;have PL:=(List.getElem?_eq_some_iff.1 e).1;rw[List.getElem?_append_right (by omega),UO,show s'+off+j - (s'+off+ln*ie.size)=j - ln*ie.size by omega,List.getElem?_append_left PL]
              exact e)
           refine⟨_,_,_,_,hex _ _ _ DQ hr,.inl rfl,E3,H3,?_⟩;simp only[VR];refine .inr ⟨b,s'+off,cap,by simp,rfl,tN,?_⟩;have abM:=nR (C':=(C.toList.take (s'+off+ln*ie.size)++us++C.toList.drop (s'+off+ln*ie.size+us.length)).toArray) hw b;rw[if_pos rfl]at abM;rw[qv abM];simp;omega
          ·have hr:=A.ais ⟨b,s'+off,none⟩ ln cap ((vs.drop off).take (ln*ie.size)) aj6 (tO hpc) (by omega) (by omega) RH Nu;have UW:=grownCap_ge w (ln+n) cap el;obtain⟨E3,H3⟩:=Lb H2;obtain⟨E4,H4⟩:=Eh H3 (C:=((vs.drop off).take (ln*ie.size)).toArray++us.toArray++Builtin.zeroCells zv.cells (grownCap w (ln+n) cap el - (ln+n))) el
            (jy.mono H2 E3 _ _ (jy.mono H E2 _ _ ait)) (fun j v e=>by
             rw[Array.getElem?_append_left (by have:=(List.getElem?_eq_some_iff.1 e).1;simp at this ⊢;omega)]
             simpa using e)
           refine⟨_,_,_,_,hex _ _ _ DQ hr,.inl rfl,E2.trans (E3.trans E4),H4,IL UW ?_⟩
           have hC:(ln+n)*ie.size+(grownCap w (ln+n) cap el - (ln+n))*ie.size=grownCap w (ln+n) cap el*ie.size:=by rw[<-Nat.add_mul];congr 1;omega
           rw[Array.size_append,size_zeroCells,Bl,Array.size_append,List.size_toArray,List.size_toArray,aj6,Ld,<-Nat.add_mul,hC];exact Nat.le_refl _
   ·
    rename_i ln cs
    cases hn:Nat.beq n 0 with
    |true=>
     rw[hn]at e;cases e;obtain rfl:=Nat.eq_of_beq_eq_true hn;have NV:=lP;simp only[VR]at lP;obtain⟨b,cap,DQ,Fh,_⟩:=lP;rw[DQ]at NV;exact⟨g,w,_,_,hex _ _ _ DQ (h00 rfl _ ln cap Fh),.inl rfl,Ext.refl _ _ _,H,NV⟩
    |false=>rw[hn]at e;cases e
   ·cases e
def Fi(P:Program)(T:TypeId)(s x:Operand):lO:=
 match P.underlying T with
 |some (.slice e)=>match P.info? e with
  |some ie=>match zeroOf P e with
   |some z=>oL (Nat.beq (len z) ie.size&&(Nat.blt 0 ie.size&&Nat.blt 0 ie.bytes)) (wK ie.size ie.bytes (wO (cD s)) (wO (cD x))) jL
   |none=>jL
  |none=>jL
 | _=>jL
theorem I0{T:TypeId}{s x:Operand}(ho:o.op=.call {callee:=.builtin .append,args:= #[s,x],argTypes:= #[T,T]}):tL P o (Fi P T s x):=by
 intro g w nt t h a v h' H Tr e;unfold Fi at e;cases hu:P.underlying T with
 |none=>rw[hu]at e;cases e
 |some d=>
 rw[hu]at e
 cases d<;>try (cases e;done)
 rename_i el
 simp only at e;cases uP:P.info? el with
 |none=>rw[uP]at e;cases e
 |some ie=>
 rw[uP]at e;cases hz:zeroOf P el with
 |none=>simp only[hz]at e;cases e
 |some z=>
 simp only[hz]at e;cases hb:(Nat.beq (len z) ie.size&&(Nat.blt 0 ie.size&&Nat.blt 0 ie.bytes))with
 |false=>rw[hb]at e;cases e
 |true=>
 rw[hb]at e;simp only[Bool.and_eq_true,jH]at hb;have hzl:=Nat.eq_of_beq_eq_true hb.1;have h0:0<ie.size:=jn.1 hb.2.1;obtain⟨i,zv,hi,Dz,PH⟩:=oQ hz
 obtain rfl:ie=i:=by rw[uP]at hi;exact Option.some.inj hi
 have Bl:zv.cells.size=ie.size:=by
  have:=(PH g w).length;simp only[Array.length_toList]at this;omega
 change wK ie.size ie.bytes (wO (cD s)) (wO (cD x)) t h=.ok v h' at e
 have hex: ∀ vs vx r w',a.eval s=vs->a.eval x=vx->(Builtin.append_ #[T,T] o.type #[vs,vx]).run P w=.ok r w'->(execOp a.eval o).run P w=.ok (.value r) w':=by
  intro vs vx r w' h1 h2 h3;unfold execOp;simp only[ho,resolve,invoke,builtin,Sem.run_bind,Sem.run_pure,Result.andThen_ok,List.map_toArray,List.map_cons,List.map_nil,h1,h2,h3]
 unfold wK at e;split at e
 ·rename_i sv hs
  split at e
  ·rename_i xv hx
   have lP:=ov s _ _ _ _ _ _ Tr hs;have Nt:=ov x _ _ _ _ _ _ Tr hx;split at e
   ·cases e
   ·rename_i n new hsc
    obtain⟨xa,xc,hxe,hxc,G6⟩:=sH H Nt hsc;refine xU (el:=el) H lP h0 Bl (fun vs r w' h1 h3=>hex vs _ r w' h1 hxe h3) (fun hn b ln cap hle=>by
     subst hn
     exact xx w T o.type el ie hu uP b xa ln cap xc hle) (fun hn hlen=>?_) e
    rcases G6 with rfl|⟨xb,xs,us,rfl,KL,vL⟩
    ·have:n*ie.size≠0:=Nat.mul_ne_zero hn (by omega);simp at hlen;omega
    ·have hul:=KL.length
     have Ld:us.length=n*ie.size:=by omega
     refine⟨us,KL,⟨fun hp RH Nu=>?_,fun b jY lG G5 hol hoc hp nM RH Nu=>?_,fun b at_ jY lG cur el' hw hp RH Nu zF tN Ae=>?_⟩⟩
     ·exact run_append_nil (P:=P) w T o.type el ie zv hu uP Dz ⟨xb,xs,none⟩ n xc us Ld (tO vL) (by omega) (by omega) (by omega)
     ·exact run_append_grow (P:=P) w T o.type el ie zv hu uP Dz b jY lG G5 hol hoc ⟨xb,xs,none⟩ n xc us Ld (tO vL) (by omega) (by omega) (growslice_fits (by omega) (by omega))
     ·exact G4 (P:=P) w T o.type el ie hu uP b at_ jY lG cur el' hw ⟨xb,xs,none⟩ n xc us Ld (tO vL) zF tN Ae
  ·cases e
 ·cases e
def El(P:Program)(T:TypeId)(s x:Operand):lO:=
 match P.underlying T with
 |some (.slice e)=>match P.info? e with
  |some ie=>match zeroOf P e with
   |some z=>oL (Nat.beq (len z) ie.size&&(Nat.blt 0 ie.size&&Nat.blt 0 ie.bytes)) (mR ie.size ie.bytes (cD s) (cD x)) jL
   |none=>jL
  |none=>jL
 | _=>jL
theorem Le{T:TypeId}{s x:Operand}(ho:o.op=.call {callee:=.builtin .append,args:= #[s,x],argTypes:= #[T,T]}):tL P o (El P T s x):=by
 intro g w nt t h a v h' H Tr e;have h0:=I0 (P:=P) ho g w nt t h a v h' H Tr;unfold El at e;unfold Fi at h0;cases hu:P.underlying T with
 |none=>rw[hu]at e;cases e
 |some d=>
 rw[hu]at e h0
 cases d<;>try (cases e;done)
 rename_i el
 simp only at e h0;cases uP:P.info? el with
 |none=>rw[uP]at e;cases e
 |some ie=>
 rw[uP]at e h0;cases hz:zeroOf P el with
 |none=>simp only[hz]at e;cases e
 |some z=>
 simp only[hz]at e h0;cases hb:(Nat.beq (len z) ie.size&&(Nat.blt 0 ie.size&&Nat.blt 0 ie.bytes))with
 |false=>rw[hb]at e;cases e
 |true=>
 rw[hb]at e h0
 change mR ie.size ie.bytes (cD s) (cD x) t h=.ok v h' at e
 unfold mR at e;split at e
 ·rename_i av hs
  split at e
  ·rename_i bv hx
   cases hE:(z9 av&&isZ bv)with
   |false=>rw[hE]at e;exact h0 e
   |true=>
    rw[hE]at e;cases e;rw[Bool.and_eq_true]at hE;have hv:=cH s _ _ _ _ _ _ Tr hs;obtain⟨b,DQ⟩:=E8 hE.1 hv;obtain⟨xa,xc,hxe⟩:=ajY hE.2 (cH x _ _ _ _ _ _ Tr hx);have hr:=xx (P:=P) w T o.type el ie hu uP b xa 0 0 xc (Nat.le_refl _);refine⟨g,w,_,a.eval s,?_,.inl rfl,Ext.refl _ _ _,H,hv⟩;unfold execOp;simp only[ho,resolve,invoke,builtin,Sem.run_bind,Sem.run_pure,Result.andThen_ok,List.map_toArray,List.map_cons,List.map_nil,DQ,hxe,hr]
  ·cases e
 ·cases e
def PM(P:Program)(T T':TypeId)(s x:Operand):lO:=
 match P.underlying T with
 |some (.slice e)=>match P.underlying T' with
  |some (.int _)=>match P.info? e with
   |some ie=>match zeroOf P e with
    |some z=>oL (Nat.beq (len z) ie.size&&(Nat.blt 0 ie.size&&Nat.blt 0 ie.bytes)) (xJ ie.size ie.bytes z (cD s) (cD x)) jL
    |none=>jL
   |none=>jL
  | _=>jL
 | _=>jL
omit [Io] in
theorem uQ(w:World)(t tn ty e:TypeId)(i:TypeInfo)(kn k:IntKind)(ht:P.underlying t=some (.slice e))(htn:P.underlying tn=some (.int kn))(hi:P.info? e=some i)(b:Option Addr)(jY lG:Nat)(h:jY<=lG):
 (Builtin.append_ #[t,tn] ty #[.slice b jY lG,.int k ((0:Nat):Int)]).run P w=.ok (.slice b jY lG) w:=by
 have hw:IntKind.i64.wrap 0=0:=by rw[IntKind.wrap_i64];omega
 cases b<;>simp[Builtin.append_,run_underlying ht,run_underlying htn,sizeOf,typeInfo,hi,asInt,asIntOf,hw,h,storeCells]
omit [Io] in
theorem Ag(w:World)(t tn ty e:TypeId)(i:TypeInfo)(z:Value)(kn k:IntKind)(ht:P.underlying t=some (.slice e))(htn:P.underlying tn=some (.int kn))(hi:P.info? e=some i)(hz:i.zero=some z)(hs:0<i.size)(hzl:z.cells.size=i.size)
 (g at_ jY lG n:Nat)(cur:Array Value)(el:FT cur)(hg:w.heap[g]? =some (.cells cur el.el el.fz))(h0:0<n)(RH:n<=70368744177664)(Nu:n*i.bytes<=70368744177664)
 (h1: ∀ u∈(Builtin.zeroCells z.cells n).toList,u.oneCell'=true)(tN:jY+n<=lG)(Ae:at_+jY*i.size+(Builtin.zeroCells z.cells n).toList.length<=cur.size):
 (Builtin.append_ #[t,tn] ty #[.slice (some ⟨g,at_,none⟩) jY lG,.int k n]).run P w=
  .ok (.slice (some ⟨g,at_,none⟩) (jY+n) lG) (w.setRow g (cur.toList.take (at_+jY*i.size)++(Builtin.zeroCells z.cells n).toList++cur.toList.drop (at_+jY*i.size+(Builtin.zeroCells z.cells n).toList.length)).toArray):=by
 have Ek:=lJ P g (at_+jY*i.size) el.el el.fz (Builtin.zeroCells z.cells n).toList 0 cur w hg el.ok (by simpa using Ae) h1;simp only[Nat.add_zero]at Ek
 have hw:IntKind.i64.wrap (n:Int)=n:=by rw[IntKind.wrap_i64];omega
 have I1: ¬ ((n:Int)<0):=by omega
 have ayq: ¬ (281474976710656<(n:Int)*(i.bytes:Int)):=by
  rw[<-Int.natCast_mul];omega
 have hns: ¬ (n*i.size=0):=Nat.mul_ne_zero (by omega) (by omega)
 have hk:n≠0:=by omega
 simp[Builtin.append_,run_underlying ht,run_underlying htn,sizeOf,typeInfo,zeroValue,hi,hz,asInt,asIntOf,hw,I1,ayq,hns,tN,oP];have aj9:(storeCells ⟨g,at_+jY*i.size,none⟩ (Builtin.zeroCells z.cells n).toList).run P w=_:=Ek;rw[aj9];simp
theorem RI{T T':TypeId}{s x:Operand}(ho:o.op=.call {callee:=.builtin .append,args:= #[s,x],argTypes:= #[T,T']}):tL P o (PM P T T' s x):=by
 intro g w nt t h a v h' H Tr e;unfold PM at e;cases hu:P.underlying T with
 |none=>rw[hu]at e;cases e
 |some d=>
 rw[hu]at e
 cases d<;>try (cases e;done)
 rename_i el
 simp only at e;cases NW:P.underlying T' with
 |none=>rw[NW]at e;cases e
 |some d'=>
 rw[NW]at e
 cases d'<;>try (cases e;done)
 rename_i kn
 simp only at e;cases uP:P.info? el with
 |none=>rw[uP]at e;cases e
 |some ie=>
 rw[uP]at e;cases hz:zeroOf P el with
 |none=>simp only[hz]at e;cases e
 |some z=>
 simp only[hz]at e;cases hb:(Nat.beq (len z) ie.size&&(Nat.blt 0 ie.size&&Nat.blt 0 ie.bytes))with
 |false=>rw[hb]at e;cases e
 |true=>
 rw[hb]at e;simp only[Bool.and_eq_true,jH]at hb;have hzl:=Nat.eq_of_beq_eq_true hb.1;have h0:0<ie.size:=jn.1 hb.2.1;obtain⟨i,zv,hi,Dz,PH⟩:=oQ hz
 obtain rfl:ie=i:=by rw[uP]at hi;exact Option.some.inj hi
 have Bl:zv.cells.size=ie.size:=by
  have:=(PH g w).length;simp only[Array.length_toList]at this;omega
 change xJ ie.size ie.bytes z (cD s) (cD x) t h=.ok v h' at e
 unfold xJ at e;split at e
 ·rename_i av hs
  split at e
  ·rename_i kx n hx
   have lP:=cH s _ _ _ _ _ _ Tr hs;have Nt:=cH x _ _ _ _ _ _ Tr hx;simp only[VR]at Nt;have Nt:a.eval x=.int kx (n:Int):=Nt;have hex: ∀ vs r w',a.eval s=vs->(Builtin.append_ #[T,T'] o.type #[vs,.int kx (n:Int)]).run P w=.ok r w'->(execOp a.eval o).run P w=.ok (.value r) w':=by
    intro vs r w' h1 h3;unfold execOp;simp only[ho,resolve,invoke,builtin,Sem.run_bind,Sem.run_pure,Result.andThen_ok,List.map_toArray,List.map_cons,List.map_nil,h1,Nt,h3]
   cases hE:(z9 av&&Nat.beq n 0)with
   |true=>
    rw[hE]at e;cases e;rw[Bool.and_eq_true]at hE;obtain rfl:=Nat.eq_of_beq_eq_true hE.2;obtain⟨b,DQ⟩:=E8 hE.1 lP;refine⟨g,w,_,a.eval s,hex _ _ _ rfl ?_,.inl rfl,Ext.refl _ _ _,H,lP⟩;rw[DQ];exact uQ w T T' o.type el ie kn kx hu NW uP b 0 0 (Nat.le_refl _)
   |false=>
    rw[hE]at e;simp only[cond_false]at e;refine xU (el:=el) H (NM lP) h0 Bl hex (fun hn b ln cap hle=>by
     subst hn
     exact uQ w T T' o.type el ie kn kx hu NW uP b ln cap hle) (fun hn hlen=>?_) e
    have hzc:jy g w (nn n z) (Builtin.zeroCells zv.cells n).toList:=by
     have:=(PH g w).repeat n
     rw[<-xS]at this;unfold Builtin.zeroCells;exact this
    refine⟨(Builtin.zeroCells zv.cells n).toList,hzc,⟨fun hp RH Nu=>?_,fun b jY lG G5 hol hoc hp nM RH Nu=>?_,fun b at_ jY lG cur el' hw hp RH Nu zF tN Ae=>?_⟩⟩
    ·have:=Lib.run_append_nil_zeros (P:=P) w T T' o.type el ie zv kx kn hu NW uP Dz n hp h0 (by omega) (by omega)
     simpa using this
    ·have hfo:=run_firstCells_some (P:=P) w.drew ie.size jY b jY lG G5 hol (by simpa using hoc);have hnb:n*ie.bytes<=(jY+n)*ie.bytes:=Nat.mul_le_mul_right _ (by omega);have:=Lib.run_append_grow_zeros (P:=P) w T T' o.type el ie zv kx kn hu NW uP Dz (some b) jY lG G5 hfo n hp h0 nM (by omega) (by omega) (growslice_fits (by omega) (by omega))
     simpa using this
    ·have hnb:n*ie.bytes<=(jY+n)*ie.bytes:=Nat.mul_le_mul_right _ (by omega);exact Ag w T T' o.type el ie zv kn kx hu NW uP Dz h0 Bl b at_ jY lG n cur el' hw hp (by omega) (by omega) zF tN Ae
  ·cases e
 ·cases e
def PN(P:Program)(T T':TypeId)(s x:Operand):lO:=
 match P.underlying T with
 |some (.slice e)=>match P.underlying T' with
  |some .string=>match P.info? e with
   |some ie=>match zeroOf P e with
    |some z=>oL (Nat.beq (len z) ie.size&&(Nat.beq ie.size 1&&Nat.blt 0 ie.bytes)) (Bb ie.bytes (cD s) (cD x)) jL
    |none=>jL
   |none=>jL
  | _=>jL
 | _=>jL
theorem jy.arM(g:G)(w:World): ∀ (l:List UInt8),jy g w (l.map fun b=>AV.int .u8 (.ofNat b.toNat)) (l.map fun b=>Value.int .u8 (b.toNat:Int))
 | []=>by simp[jy]
 |b::l=>by
  simp only[List.map_cons,jy];exact⟨_,_,rfl,by simp only[VR];rfl,jy.arM g w l⟩
omit [Io] in
theorem xy(w:World)(t tn ty e:TypeId)(i:TypeInfo)(ht:P.underlying t=some (.slice e))(htn:P.underlying tn=some .string)(hi:P.info? e=some i)(s:ByteArray)(hs:s.size=0)(b:Option Addr)(jY lG:Nat)(h:jY<=lG):
 (Builtin.append_ #[t,tn] ty #[.slice b jY lG,.string s]).run P w=.ok (.slice b jY lG) w:=by
 have h1:(Array.map (fun b:UInt8=>Value.int IntKind.u8 (b.toNat:Int)) s.data).extract 0 0= #[]:=by simp
 cases b<;>simp[Builtin.append_,run_underlying ht,run_underlying htn,sizeOf,typeInfo,hi,Builtin.lenOf,Builtin.firstCells,hs,h,h1,storeCells]
omit [Io] in
theorem CM(w:World)(t tn ty e:TypeId)(i:TypeInfo)(ht:P.underlying t=some (.slice e))(htn:P.underlying tn=some .string)(hi:P.info? e=some i)(G7:i.size=1)(s:ByteArray)
 (g at_ jY lG:Nat)(cur:Array Value)(el:FT cur)(hg:w.heap[g]? =some (.cells cur el.el el.fz))
 (tN:jY+s.size<=lG)(Ae:at_+jY*i.size+(Lib.strCells s).length<=cur.size):
 (Builtin.append_ #[t,tn] ty #[.slice (some ⟨g,at_,none⟩) jY lG,.string s]).run P w=
  .ok (.slice (some ⟨g,at_,none⟩) (jY+s.size) lG) (w.setRow g (cur.toList.take (at_+jY*i.size)++(Lib.strCells s)++cur.toList.drop (at_+jY*i.size+(Lib.strCells s).length)).toArray):=by
 have Ek:=lJ P g (at_+jY*i.size) el.el el.fz (Lib.strCells s) 0 cur w hg el.ok (by simpa using Ae) (by
  intro v hv;obtain⟨b,_,rfl⟩:=List.mem_map.1 hv
  rfl)
 simp only[Nat.add_zero]at Ek;have hf:=Lib.run_firstCells_string (P:=P) w i.size s;simp[Builtin.append_,run_underlying ht,run_underlying htn,sizeOf,typeInfo,hi,Builtin.lenOf,tN,hf,oP];have aj9:(storeCells ⟨g,at_+jY*i.size,none⟩ (Lib.strCells s)).run P w=_:=Ek;rw[aj9];simp
theorem RJ{T T':TypeId}{s x:Operand}(ho:o.op=.call {callee:=.builtin .append,args:= #[s,x],argTypes:= #[T,T']}):tL P o (PN P T T' s x):=by
 intro g w nt t h a v h' H Tr e;unfold PN at e;cases hu:P.underlying T with
 |none=>rw[hu]at e;cases e
 |some d=>
 rw[hu]at e
 cases d<;>try (cases e;done)
 rename_i el
 simp only at e;cases NW:P.underlying T' with
 |none=>rw[NW]at e;cases e
 |some d'=>
 rw[NW]at e
 cases d'<;>try (cases e;done)
 simp only at e;cases uP:P.info? el with
 |none=>rw[uP]at e;cases e
 |some ie=>
 rw[uP]at e;cases hz:zeroOf P el with
 |none=>simp only[hz]at e;cases e
 |some z=>
 simp only[hz]at e;cases hb:(Nat.beq (len z) ie.size&&(Nat.beq ie.size 1&&Nat.blt 0 ie.bytes))with
 |false=>rw[hb]at e;cases e
 |true=>
 rw[hb]at e;simp only[Bool.and_eq_true,jH]at hb;have hzl:=Nat.eq_of_beq_eq_true hb.1;have G7:ie.size=1:=Nat.eq_of_beq_eq_true hb.2.1
 have h0:0<ie.size:=by omega
 obtain⟨i,zv,hi,Dz,PH⟩:=oQ hz
 obtain rfl:ie=i:=by rw[uP]at hi;exact Option.some.inj hi
 have Bl:zv.cells.size=ie.size:=by
  have:=(PH g w).length;simp only[Array.length_toList]at this;omega
 change Bb ie.bytes (cD s) (cD x) t h=.ok v h' at e
 unfold Bb at e;split at e
 ·rename_i av hs
  split at e
  ·rename_i b hx
   have lP:=cH s _ _ _ _ _ _ Tr hs;have Nt:=cH x _ _ _ _ _ _ Tr hx;simp only[VR]at Nt;have Nt:a.eval x=.string b:=Nt.1;have hex: ∀ vs r w',a.eval s=vs->(Builtin.append_ #[T,T'] o.type #[vs,.string b]).run P w=.ok r w'->(execOp a.eval o).run P w=.ok (.value r) w':=by
    intro vs r w' h1 h3;unfold execOp;simp only[ho,resolve,invoke,builtin,Sem.run_bind,Sem.run_pure,Result.andThen_ok,List.map_toArray,List.map_cons,List.map_nil,h1,Nt,h3]
   cases hE:(z9 av&&Nat.beq b.size 0)with
   |true=>
    rw[hE]at e;cases e;rw[Bool.and_eq_true]at hE;obtain⟨p,DQ⟩:=E8 hE.1 lP;refine⟨g,w,_,a.eval s,hex _ _ _ rfl ?_,.inl rfl,Ext.refl _ _ _,H,lP⟩;rw[DQ];exact xy w T T' o.type el ie hu NW uP b (Nat.eq_of_beq_eq_true hE.2) p 0 0 (Nat.le_refl _)
   |false=>
    rw[hE]at e;simp only[cond_false]at e;rw[<-G7]at e;refine xU (el:=el) H (NM lP) h0 Bl hex (fun hn p ln cap hle=>xy w T T' o.type el ie hu NW uP b hn p ln cap hle) (fun hn hlen=>?_) e;refine⟨b.data.toList.map fun b=>Value.int .u8 (b.toNat:Int),jy.arM g w _,⟨fun hp RH Nu=>?_,fun p jY lG G5 hol hoc hp nM RH Nu=>?_,fun p at_ jY lG cur el' hw hp RH Nu zF tN Ae=>?_⟩⟩
    ·have:=run_append_nil_string (P:=P) w T T' o.type el ie zv hu NW uP Dz b hp (by omega) (by omega);rw[this];congr 4;apply Array.ext';simp
    ·have:=Lib.run_append_grow_string (P:=P) w T T' o.type el ie zv hu NW uP Dz p jY lG G5 hol hoc b nM (by omega) (growslice_fits (by omega) (by omega));rw[this];rfl
    ·exact CM w T T' o.type el ie hu NW uP G7 b p at_ jY lG cur el' hw tN Ae
  ·cases e
 ·cases e
def PQ(P:Program)(T T':TypeId)(s x:Operand):lO:=
 match P.underlying T' with
 |some .string=>PN P T T' s x
 | _=>PM P T T' s x
theorem RK{T T':TypeId}{s x:Operand}(ho:o.op=.call {callee:=.builtin .append,args:= #[s,x],argTypes:= #[T,T']}):tL P o (PQ P T T' s x):=by
 unfold PQ;split
 ·exact RJ ho
 ·exact RI ho
end
end Go.Ab
