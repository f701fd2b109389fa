import Derived.Test.YtcnkojgmochcgaaGreatDoorAb3
import Derived.Lib.AppendZerosOnto
import Derived.Lib.AppendStr
noncomputable section
namespace Go.Ab
variable [Io]
section
variable {P:Program}{o:Oper}
omit [Io] in
theorem xg(z:List Value): ∀ c:Nat,(List.range (c*z.length)).map (fun j=>z.toArray[j % z.length]!)=(List.replicate c z).flatten
 |0=>by simp
 |c+1=>by
  rw[Nat.succ_mul,Nat.add_comm,List.range_add,List.map_append,List.replicate_succ,List.flatten_cons,<-xg z c,List.map_map]
  congr 1
  ·apply List.ext_getElem?
   intro j
   by_cases hj:j<z.length
   ·have:j % z.length=j:=Nat.mod_eq_of_lt hj
    simp[hj,this]
   ·rw[List.getElem?_eq_none (by simp;omega),List.getElem?_eq_none (by omega)]
  ·apply List.map_congr_left
   intro j _
   simp[Function.comp]
omit [Io] in
theorem oY(z:Array Value)(c:Nat):((Array.range (c*z.size)).map (fun j=>z[j % z.size]!)).toList=(List.replicate c z.toList).flatten:=by
 rw[Array.toList_map,Array.toList_range]
 exact xg z.toList c
def kI(g:G)(w:World):List (Nat×AV)->List (Nat×Value)->Prop
 | [],l=>l=[]
 |p::r,l=> ∃ v l',l=(p.1,v)::l'/\VR g w p.2 v/\kI g w r l'
theorem zN{g w size}: ∀ (ps:List (Nat×AV)) (i:Nat) (r:List AV) (qs:List (Nat×Value)) (C:Array Value),qR size ps i=some r->kI g w ps qs->
 (i+ps.length)*size<=C.size-> ∃ C' us,Instr.fill (fun i=>some (i*size,size)) C qs=some C'/\bQ g w r us/\us.length=ps.length*size/\
  C'.toList=C.toList.take (i*size)++us++C.toList.drop ((i+ps.length)*size)
 | [],i,r,qs,C,e,h,hC=>by
  simp only[kI]at h
  subst h
  cases e
  exact⟨C,[],rfl,by simp[bQ],by simp,by simp⟩
 |p::ps,i,r,qs,C,e,h,hC=>by
  simp only[kI]at h
  obtain⟨v,qs',rfl,hr,h⟩:=h
  change (bif Nat.beq p.1 i&&Nat.beq (len p.2.cells) size then(match qR size ps (Nat.add i 1)with|some r=>some (app p.2.cells r)|none=>none)else none)=some r at e
  cases hb:(Nat.beq p.1 i&&Nat.beq (len p.2.cells) size)with
  |false=>rw[hb]at e;cases e
  |true=>
   rw[hb]at e
   simp only[Bool.and_eq_true,cF]at hb
   have h1:=Nat.eq_of_beq_eq_true hb.1
   have h2:=Nat.eq_of_beq_eq_true hb.2
   change (match qR size ps (i+1)with|some r=>some (app p.2.cells r)|none=>none)=some r at e
   split at e
   ·rename_i r' WT
    cases e
    have hc:=hr.cells
    have hl:=hc.length
    rw[h2]at hl
    have e1:(i+(ps.length+1))*size=i*size+size+ps.length*size:=by rw[Nat.add_mul,Nat.add_mul];omega
    have hC1:i*size+size+ps.length*size<=C.size:=by rw[List.length_cons,e1]at hC;exact hC
    have hl':v.cells.size=size:=by simpa using hl
    have hf:=u7 (i*size) v.cells.toList 0 C (by rw[hl];omega)
    simp only[Nat.add_zero,hl]at hf
    have pO:(C.toList.take (i*size)++v.cells.toList++C.toList.drop (i*size+size)).toArray.size=C.size:=by
     simp;omega
    obtain⟨C',us,Lx,zt,hlen,B3⟩:=zN ps (i+1) r' qs' (C.toList.take (i*size)++v.cells.toList++C.toList.drop (i*size+size)).toArray WT h (by
     rw[pO,show(i+1+ps.length)*size=i*size+size+ps.length*size from by rw[Nat.add_mul,Nat.add_mul];omega];exact hC1)
    refine⟨C',v.cells.toList++us,?_,?_,?_,?_⟩
    ·rw[h1]
     simp only[Instr.fill]
     rw[if_neg (by simp[hl'];omega)]
     rw[<-Lx,<-hf,<-Array.foldl_toList,Array.toList_zipIdx]
    ·rw[dn];exact hc.append zt
    ·rw[List.length_append,hl,hlen,List.length_cons,Nat.succ_mul];omega
    ·rw[B3]
     simp only[List.append_assoc]
     have d1:(i+1)*size=i*size+size:=by rw[Nat.add_mul];omega
     rw[d1,show(i+1+ps.length)*size=i*size+size+ps.length*size from by rw[Nat.add_mul,Nat.add_mul];omega,List.length_cons,e1]
     have t1:(C.toList.take (i*size)).length=i*size:=by simp;omega
     have:(C.toList.take (i*size)++(v.cells.toList++C.toList.drop (i*size+size)))=(C.toList.take (i*size)++v.cells.toList)++C.toList.drop (i*size+size):=by simp
     rw[this]
     have t2:(C.toList.take (i*size)++v.cells.toList).length=i*size+size:=by rw[List.length_append,t1,hl]
     rw[List.take_append_of_le_length (by omega),List.take_of_length_le (by omega)]
     rw[List.drop_append,List.drop_eq_nil_of_le (by omega),t2,List.drop_drop,List.nil_append,List.append_assoc]
     congr 4
     omega
   ·cases e
def nL(l:List (Nat×Operand)):List (Nat×eR):=l.map fun p=>(p.1,ba p.2)
theorem xh{g w nt t}{a:Act}(T:TR g w nt t a.tmps): ∀ (l:List (Nat×Operand)) {vs:List (Nat×AV)},mJ (nL l) t=some vs->kI g w vs (l.map fun p=>(p.1,a.eval p.2))
 | [],vs,e=>by cases e;simp[kI]
 |p::l,vs,e=>by
  change (match ba p.2 t with|some v=>(match mJ (nL l) t with|some vs=>some ((p.1,v)::vs)|none=>none)|none=>none)=some vs at e
  split at e
  ·rename_i v hv
   split at e
   ·rename_i us hu
    cases e
    simp only[kI,List.map_cons]
    exact⟨_,_,rfl,bB p.2 _ _ _ _ _ _ T hv,xh T l hu⟩
   ·cases e
  ·cases e
theorem q6{g w size}: ∀ {ps:List (Nat×AV)} {qs:List (Nat×Value)},kI g w ps qs->kG g w (fun i=>some (i*size,size)) (scale size ps) qs
 | [],qs,h=>by simp only[kI]at h;subst h;show kG g w _ [] [];simp[kG]
 |p::ps,qs,h=>by
  simp only[kI]at h
  obtain⟨v,l',rfl,hv,h⟩:=h
  show kG g w _ ((Nat.mul p.1 size,size,p.2)::scale size ps) _
  simp only[kG]
  exact⟨p.1,v,l',rfl,rfl,hv,q6 h⟩
theorem B4{g w n size}{z:List AV}{zv:List Value}{ps:List (Nat×AV)}{qs:List (Nat×Value)}{cs:List AV}(C:Array Value)(h:kI g w ps qs)
 (hz:bQ g w (fE n z) C.toList)(hC:C.size=n*size)(e:pJ n size z ps=some cs)(_:zv=zv):
 ∃ C',Instr.fill (fun i=>some (i*size,size)) C qs=some C'/\bQ g w cs C'.toList/\C'.size=C.size:=by
 unfold pJ at e
 split at e
 ·rename_i cs' gu
  cases e
  cases hb:Nat.beq (len ps) n with
  |false=>rw[hb]at gu;cases gu
  |true=>
   rw[hb]at gu
   rw[cF]at hb
   have hl:=Nat.eq_of_beq_eq_true hb
   obtain⟨C',us,Lx,zt,hlen,B3⟩:=zN ps 0 _ qs C gu h (by rw[hC,Nat.zero_add,hl];exact Nat.le_refl _)
   have ht:C'.toList=us:=by
    rw[B3]
    simp only[Nat.zero_mul,List.take_zero,List.nil_append,Nat.zero_add]
    rw[List.drop_eq_nil_of_le (by rw[hl,<-hC];simp),List.append_nil]
   refine⟨C',Lx,by rw[ht];exact zt,?_⟩
   have:C'.toList.length=C'.size:=by simp
   rw[<-this,ht,hlen,hl,hC]
 ·exact yb _ _ _ _ C (q6 h) hz e
def Hj(P:Program)(T:TypeId)(n:Nat)(parts:List (Nat×Operand)):eP:=
 match P.underlying T with
 |some (.slice e)=>match P.info? e with
  |some ie=>match zeroOf P e with
   |some z=>gD (Nat.beq (len z) ie.size&&(Nat.ble (Nat.mul n ie.size) 16777216&&Nat.blt 0 ie.size)) (bH n ie.size z (nL parts)) cq
   |none=>cq
  |none=>cq
 | _=>cq
theorem Hk{T:TypeId}{n:Nat}{parts:Array (Nat×Operand)}(ho:o.op=.buildSlice T n parts):nd P o (Hj P T n parts.toList):=by
 intro g w nt t h a v h' H Tr e
 unfold Hj at e
 cases hu:P.underlying T with
 |none=>rw[hu]at e;cases e
 |some d=>
 rw[hu]at e
 cases d<;>try (cases e;done)
 rename_i el
 simp only at e
 cases mu:P.info? el with
 |none=>rw[mu]at e;cases e
 |some ie=>
 rw[mu]at e
 cases hz:zeroOf P el with
 |none=>simp only[hz]at e;cases e
 |some z=>
 simp only[hz]at e
 cases hb:(Nat.beq (len z) ie.size&&(Nat.ble (Nat.mul n ie.size) 16777216&&Nat.blt 0 ie.size))with
 |false=>rw[hb]at e;cases e
 |true=>
 rw[hb]at e
 simp only[Bool.and_eq_true,cF]at hb
 have WU:=Nat.eq_of_beq_eq_true hb.1
 have hsm:n*ie.size<=16777216:=Nat.ble_eq.mp hb.2.1
 have h0:0<ie.size:=ct.1 hb.2.2
 obtain⟨i,zv,hi,ux,Dq⟩:=gM hz
 obtain rfl:ie=i:=by rw[mu]at hi;exact Option.some.inj hi
 change bH n ie.size z (nL parts.toList) t h=.ok v h' at e
 unfold bH at e
 split at e
 ·rename_i vs eE
  have Hd:=xh Tr parts.toList eE
  have q7:zv.cells.size=ie.size:=by
   have:=(Dq g w).length
   simp only[Array.length_toList]at this
   omega
  cases hn:Nat.beq n 0 with
  |true=>
   rw[hn]at e
   obtain rfl:=Nat.eq_of_beq_eq_true hn
   cases vs with
   |cons _ _=>cases e
   |nil=>
    cases e
    simp only[kI,List.map_eq_nil_iff,Array.toList_eq_nil_iff]at Hd
    subst Hd
    refine .inl ⟨rfl,.slice (some ⟨w.heap.size,0,none⟩) 0 0,#[],el,?_,fun _ _=>Hg⟩
    ·simp[execOp,ho,Instr.buildSlice,run_underlying hu,sizeOf,typeInfo,mu,Instr.fill,newRow,Array.range_zero']
  |false=>
   rw[hn]at e
   have QF:n≠0:=fun k=>by subst k;cases hn
   have zu:n*ie.size≠0:=Nat.mul_ne_zero QF (by omega)
   simp only[cond_false]at e
   split at e
   ·rename_i cs gu
    cases e
    have Hl:bQ g w (fE n z) ((Array.range (n*ie.size)).map (fun j=>zv.cells[j % zv.cells.size]!)).toList:=by
     rw[<-q7,oY]
     exact(Dq g w).repeat n
    obtain⟨C',Lx,nF,hs⟩:=B4 (zv:=[]) _ Hd Hl (by simp) gu rfl
    refine .inr ⟨uq cs,C',el,C'.toList,.slice (some ⟨w.heap.size,0,none⟩) n n,rfl,?_,by rw[hJ];exact nF,fun j v e=>by simpa using e,
     fun g' w' hm hr=>Hf hm (Nat.le_refl _) (by rw[hs];simp) hr⟩
    have aeJ: ¬ 16777216<n*ie.size:=by omega
    simp only[execOp,ho]
    show((Instr.buildSlice T n (parts.map fun p=>(p.1,a.eval p.2))>>=fun v=>(pure (.value v):Sem Next))).run P w=_
    simp[Instr.buildSlice,run_underlying hu,sizeOf,typeInfo,mu,zeroValue,ux,aeJ,zu,Lx,newRow]
   ·cases e
 ·cases e
def zO(P:Program)(T:TypeId)(l c:Operand):eP:=
 match P.underlying T with
 |some (.slice e)=>match P.info? e with
  |some ie=>match zeroOf P e with
   |some z=>gD (Nat.beq (len z) ie.size&&Nat.blt 0 ie.bytes) (lO ie.size ie.bytes z (ba l) (ba c)) cq
   |none=>cq
  |none=>cq
 | _=>cq
theorem Fh{T:TypeId}{l c:Operand}(ho:o.op=.makeSlice T l c):nd P o (zO P T l c):=by
 intro g w nt t h a v h' H Tr e
 unfold zO at e
 cases hu:P.underlying T with
 |none=>rw[hu]at e;cases e
 |some d=>
 rw[hu]at e
 cases d<;>try (cases e;done)
 rename_i el
 simp only at e
 cases mu:P.info? el with
 |none=>rw[mu]at e;cases e
 |some ie=>
 rw[mu]at e
 cases hz:zeroOf P el with
 |none=>simp only[hz]at e;cases e
 |some z=>
 simp only[hz]at e
 cases hb:(Nat.beq (len z) ie.size&&Nat.blt 0 ie.bytes)with
 |false=>rw[hb]at e;cases e
 |true=>
 rw[hb]at e
 simp only[Bool.and_eq_true,cF]at hb
 have WU:=Nat.eq_of_beq_eq_true hb.1
 have h0:0<ie.bytes:=ct.1 hb.2
 obtain⟨i,zv,hi,ux,Dq⟩:=gM hz
 obtain rfl:ie=i:=by rw[mu]at hi;exact Option.some.inj hi
 have q7:zv.cells.size=ie.size:=by
  have:=(Dq g w).length
  simp only[Array.length_toList]at this
  omega
 change lO ie.size ie.bytes z (ba l) (ba c) t h=.ok v h' at e
 unfold lO at e
 split at e
 ·rename_i kl ln hl
  split at e
  ·rename_i kc cn hc
   have hvl:=bB l _ _ _ _ _ _ Tr hl
   have hvc:=bB c _ _ _ _ _ _ Tr hc
   simp only[VR]at hvl hvc
   cases hle:(Nat.ble ln cn&&Nat.ble (Nat.mul cn ie.bytes) 70368744177664)with
   |false=>rw[hle]at e;cases e
   |true=>
    rw[hle]at e
    simp only[Bool.and_eq_true]at hle
    have h1:ln<=cn:=Nat.ble_eq.mp hle.1
    have h2:cn*ie.bytes<=70368744177664:=Nat.ble_eq.mp hle.2
    have h3:cn<=cn*ie.bytes:=Nat.le_mul_of_pos_right _ h0
    have hr:=run_make (P:=P) w T el ie zv hu mu ux kl kc (Int.ofNat ln) (Int.ofNat cn) (Int.natCast_nonneg ln) (by show((ln:Nat):Int)<=(cn:Nat);omega) (by
     show((ie.bytes:Nat):Int)*((cn:Nat):Int)<=_
     rw[<-Int.natCast_mul,Nat.mul_comm];omega) (by show((cn:Nat):Int)<=_;omega)
    have hex:(execOp a.eval o).run P w=.ok (.value (.slice (some ⟨w.heap.size,0,none⟩) ln cn)) (w.alloc (.cells (madeCells zv.cells (cn*ie.size)) el)):=by
     simp only[execOp,ho,hvl,hvc,Sem.run_bind,hr,Result.andThen_ok,Sem.run_pure]
     rfl
    cases hc0:Nat.beq cn 0 with
    |true=>
     rw[hc0]at e
     cases e
     obtain rfl:=Nat.eq_of_beq_eq_true hc0
     obtain rfl:ln=0:=by omega
     exact .inl ⟨rfl,_,_,_,hex,fun _ _=>Hg⟩
    |false=>
     rw[hc0]at e
     cases e
     have Hl:bQ g w (fE cn z) (madeCells zv.cells (cn*ie.size)).toList:=by
      unfold madeCells
      rw[<-q7,oY]
      exact(Dq g w).repeat cn
     exact .inr ⟨_,_,_,_,_,rfl,hex,by rw[Dj];exact Hl,fun j v e=>by simpa using e,fun g' w' hm hr=>Hf hm h1 (by rw[size_madeCells];exact Nat.le_refl _) hr⟩
  ·cases e
 ·cases e
end
end Go.Ab

noncomputable section
namespace Go.Ab
variable [Io]
section
variable {P:Program}{o:Oper}
theorem zP{g w h}(H:HR g w h):Ext g w h g w.drew h/\HR g w.drew h:=by
 have E:Ext g w h g w.drew h:=
  ⟨rfl,rfl,rfl,Nat.le_refl _,Nat.le_refl _,fun _ _ e=>e,fun _ _ _=>rfl,fun _=>Nat.le_refl _,fun _ i=>i,fun _ i=>.inl i,fun _ o=>.inl o⟩
 refine⟨E,H.fresh,?_,H.inj,H.eL,kY.ext H E⟩
 intro id cs e
 obtain⟨b,s,C,el,vs,hm,hw,hi,hv,hc⟩:=H.aU id cs e
 exact⟨b,s,C,el,vs,hm,hw,hi,bQ.mono H E _ _ hv,hc⟩
theorem Hm{g w h}(H:HR g w h)(id:Nat):Ext g w h g w (gY h id none)/\HR g w (gY h id none):=by
 have hg: ∀ i,(gY h id none).aU.get i=if i=id then none else h.aU.get i:=fun i=>Tr.gZ _ _ _ _
 have E:Ext g w h g w (gY h id none):=by
  refine⟨rfl,rfl,rfl,Nat.le_refl _,Nat.le_refl _,fun _ _ e=>e,fun _ _ _=>rfl,fun _=>Nat.le_refl _,fun _ i=>i,fun _ i=>.inl i,?_⟩
  rintro b ⟨i,cs,s,e,m⟩
  rw[hg]at e
  by_cases hi:i=id
  ·rw[if_pos hi]at e;cases e
  ·rw[if_neg hi]at e
   exact .inl ⟨i,cs,s,e,m⟩
 refine⟨E,H.fresh,?_,?_,H.eL,kY.ext H E⟩
 ·intro i cs e
  rw[hg]at e
  by_cases hi:i=id
  ·rw[if_pos hi]at e;cases e
  ·rw[if_neg hi]at e
   obtain⟨b,s,C,el,vs,hm,hw,hi,hv,hc⟩:=H.aU i cs e
   exact⟨b,s,C,el,vs,hm,hw,hi,bQ.mono H E _ _ hv,hc⟩
 ·intro i i' b s s' c1 c2 e1 e2
  rw[hg]at e1 e2
  by_cases h1:i=id
  ·rw[if_pos h1]at e1;cases e1
  ·by_cases h2:i'=id
   ·rw[if_pos h2]at e2;cases e2
   ·rw[if_neg h1]at e1
    rw[if_neg h2]at e2
    exact H.inj i i' b s s' c1 c2 e1 e2
omit [Io] in
theorem eN(P:Program)(g o:Nat)(t:TypeId)(fz:Nat×Nat): ∀ (vs:List Value) (i:Nat) (cur:Array Value) (w:World),w.heap[g]? =some (.cells cur t fz)->(∀ i,i<cur.size-> ¬ (fz.1<=i/\i<fz.2))->
 o+i+vs.length<=cur.size->(∀ v∈vs,v.oneCell'=true)->
 (storeCells ⟨g,o,none⟩ vs i).run P w=.ok () (w.setRow g (cur.toList.take (o+i)++vs++cur.toList.drop (o+i+vs.length)).toArray)
 | [],i,cur,w,hg,_,_,_=>by
  simp only[storeCells,List.append_nil,List.length_nil,Nat.add_zero,List.take_append_drop,Array.toArray_toList]
  rw[setRow_self w g cur t fz hg]
  rfl
 |v::rest,i,cur,w,hg,V3,hl,h1=>by
  have hi:o+i<cur.size:=by simp at hl;omega
  have Hn:(⟨g,o,none⟩:Addr).add i=⟨g,o+i,none⟩:=by unfold Addr.add;split<;>simp_all
  have WV:w.cell? ⟨g,o+i,none⟩=some cur[o+i]:=by simp[World.cell?,hg,hi]
  have aeM:w.frozen? ⟨g,o+i,none⟩=false:=by
   have:=V3 (o+i) hi
   obtain⟨lo,sC⟩:=fz
   simp only[World.frozen?,hg]
   simp only at this
   rw[Bool.eq_false_iff]
   intro h
   simp only[Bool.and_eq_true,decide_eq_true_eq]at h
   exact this h
  have qe:(store ((⟨g,o,none⟩:Addr).add i) v).run P w=.ok () (w.setRow g (cur.setIfInBounds (o+i) v)):=by
   rw[Hn,run_store P w _ v _ (h1 v (by simp)),WV]
   simp[aeM,setCell_eq_setRow w g (o+i) cur t fz v hg]
  have ih:=eN P g o t fz rest (i+1) (cur.setIfInBounds (o+i) v) (w.setRow g (cur.setIfInBounds (o+i) v)) (setRow_heap w g cur _ t _ hg) (by simpa using V3) (by simp at hl ⊢;omega) (fun x hx=>h1 x (by simp[hx]))
  simp only[storeCells,Sem.run_bind,qe,Result.andThen_ok,ih,setRow_setRow]
  congr 3
  have e:=list_seg_step cur.toList (o+i) v rest (by simp at hl ⊢;omega)
  simpa[Array.toList_setIfInBounds,Nat.add_assoc]using e
omit [Io] in
theorem fR{w:World}{b:Nat}{C C':Array Value}{el:TypeId}{fz:Nat×Nat}(hw:w.heap[b]? =some (.cells C el fz))(k:Nat):
 (w.setRow b C').heap[k]? =if k=b then some (.cells C' el fz)else w.heap[k]? :=by
 by_cases hk:k=b
 ·subst hk;rw[if_pos rfl];exact setRow_heap w k C C' el fz hw
 ·rw[if_neg hk];exact setRow_other w b k C' hk
theorem Fi{g w h}(H:HR g w h){id b s s':Nat}{cs cs':Rw}{C C':Array Value}{el:FT C}{us:List Value}(he:h.aU.get id=some cs)(hm:g.m id=some (b,s))
 (hw:w.heap[b]? =some (.cells C el.el el.fz))(hs:C'.size=C.size)(hv:bQ g w cs'.toL us)(hc: ∀ (j:Nat) (v:Value),us[j]? =some v->C'[s'+j]? =some v):
 Ext g w h ⟨fun i=>if i=h.next then some (b,s')else g.m i,g.eL⟩ (w.setRow b C') (dK (gY h id none) cs')/\
  HR ⟨fun i=>if i=h.next then some (b,s')else g.m i,g.eL⟩ (w.setRow b C') (dK (gY h id none) cs'):=by
 have Ho:ik g h b:=⟨id,cs,s,he,hm⟩
 have hg: ∀ i,(dK (gY h id none) cs').aU.get i=if i=h.next then some cs' else if i=id then none else h.aU.get i:=by
  intro i
  show((h.aU.set id none).set h.next (some cs')).get i=_
  rw[Tr.gZ,Tr.gZ]
 have mW: ∀ i x,g.m i=some x->i≠h.next:=by
  intro i x e hi
  rw[H.fresh i (by omega)]at e;cases e
 have E:Ext g w h ⟨fun i=>if i=h.next then some (b,s')else g.m i,g.eL⟩ (w.setRow b C') (dK (gY h id none) cs'):=by
  refine⟨rfl,rfl,rfl,by simp,Nat.le_succ _,?_,?_,?_,fun _ i=>i,fun _ i=>.inl i,?_⟩
  ·intro i x e
   simp only[if_neg (mW i x e)]
   exact e
  ·intro k _ ho
   rw[fR hw,if_neg]
   rintro rfl
   exact ho Ho
  ·intro k
   unfold ed
   rw[fR hw]
   by_cases hk:k=b
   ·subst hk;simp[hw,hs]
   ·rw[if_neg hk];exact Nat.le_refl _
  ·rintro k ⟨i,c,q,e,m⟩
   rw[hg]at e
   by_cases hi:i=h.next
   ·simp only[if_pos hi]at m
    obtain⟨rfl,_⟩:=Prod.mk.inj (Option.some.inj m)
    exact .inl Ho
   ·rw[if_neg hi]at e
    simp only[if_neg hi]at m
    by_cases h2:i=id
    ·rw[if_pos h2]at e;cases e
    ·rw[if_neg h2]at e
     exact .inl ⟨i,c,q,e,m⟩
 refine⟨E,?_,?_,?_,?_,kY.ext H E⟩
 ·intro i hi
  have sC:h.next+1<=i:=hi
  simp only
  rw[if_neg (by omega)]
  exact H.fresh i (by omega)
 ·intro i c e
  rw[hg]at e
  by_cases hi:i=h.next
  ·rw[if_pos hi]at e
   cases e
   exact⟨b,s',C',el.to hs,us,by simp[hi],by rw[fR hw,if_pos rfl];rfl,fun k=>H.lK k Ho,bQ.mono H E _ _ hv,hc⟩
  ·rw[if_neg hi]at e
   by_cases h2:i=id
   ·rw[if_pos h2]at e;cases e
   ·rw[if_neg h2]at e
    obtain⟨b2,s2,C2,Sl,Ly,Fj,Hr,Gz,QG,QH⟩:=H.aU i c e
    have yc:b2≠b:=by
     rintro rfl
     exact h2 (H.inj i id b2 s2 s c cs e he Fj hm)
    exact⟨b2,s2,C2,Sl,Ly,by simp only[if_neg hi];exact Fj,by rw[fR hw,if_neg yc];exact Hr,Gz,bQ.mono H E _ _ QG,QH⟩
 ·intro i i' k q q' c1 c2 e1 e2 m1 m2
  rw[hg]at e1 e2
  have oL: ∀ i c q,i≠h.next->(if i=id then none else h.aU.get i)=some c->g.m i=some (b,q)->False:=by
   intro i c q _ e m
   by_cases h2:i=id
   ·rw[if_pos h2]at e;cases e
   ·rw[if_neg h2]at e
    exact h2 (H.inj i id b q s c cs e he m hm)
  by_cases h1:i=h.next<;>by_cases h2:i'=h.next
  ·exact h1.trans h2.symm
  ·rw[if_neg h2]at e2
   simp only[if_pos h1]at m1
   simp only[if_neg h2]at m2
   obtain⟨rfl,_⟩:=Prod.mk.inj (Option.some.inj m1)
   exact(oL i' _ _ h2 e2 m2).elim
  ·rw[if_neg h1]at e1
   simp only[if_neg h1]at m1
   simp only[if_pos h2]at m2
   obtain⟨rfl,_⟩:=Prod.mk.inj (Option.some.inj m2)
   exact(oL i _ _ h1 e1 m1).elim
  ·rw[if_neg h1]at e1
   rw[if_neg h2]at e2
   simp only[if_neg h1]at m1
   simp only[if_neg h2]at m2
   by_cases k1:i=id
   ·rw[if_pos k1]at e1;cases e1
   ·by_cases k2:i'=id
    ·rw[if_pos k2]at e2;cases e2
    ·rw[if_neg k1]at e1
     rw[if_neg k2]at e2
     exact H.inj i i' k q q' c1 c2 e1 e2 m1 m2
 ·intro k i
  have:=H.eL k i
  simp
  omega
theorem Hs{g w h}(H:HR g w h){w':World}{id b s:Nat}{cs:Rw}{C:Array Value}{el el':FT C}(he:h.aU.get id=some cs)(hm:g.m id=some (b,s))
 (hw:w.heap[b]? =some (.cells C el.el el.fz))(h1:w'.os=w.os)(h2:w'.tape=w.tape)(h3:w'.output=w.output)(h4:w'.heap.size=w.heap.size)
 (hp: ∀ k,w'.heap[k]? =if k=b then some (.cells C el'.el el'.fz)else w.heap[k]?):Ext g w h g w' h/\HR g w' h:=by
 have Ho:ik g h b:=⟨id,cs,s,he,hm⟩
 have E:Ext g w h g w' h:=by
  refine⟨h1,h2,h3,by omega,Nat.le_refl _,fun _ _ e=>e,?_,?_,fun _ i=>i,fun _ i=>.inl i,fun _ o=>.inl o⟩
  ·intro k _ ho
   rw[hp,if_neg]
   rintro rfl
   exact ho Ho
  ·intro k
   unfold ed
   rw[hp]
   by_cases hk:k=b
   ·subst hk;simp[hw]
   ·rw[if_neg hk];exact Nat.le_refl _
 refine⟨E,H.fresh,?_,H.inj,?_,kY.ext H E⟩
 ·intro i c e
  obtain⟨b2,s2,C2,Sl,Ly,Fj,Hr,Gz,QG,QH⟩:=H.aU i c e
  by_cases yc:b2=b
  ·subst yc
   rw[hw]at Hr
   injection Hr with Hr
   injection Hr with e1 e2 e3
   subst e1
   exact⟨b2,s2,C,el',Ly,Fj,by rw[hp,if_pos rfl],Gz,bQ.mono H E _ _ QG,QH⟩
  ·exact⟨b2,s2,C2,Sl,Ly,Fj,by rw[hp,if_neg yc];exact Hr,Gz,bQ.mono H E _ _ QG,QH⟩
 ·intro k i
  have:=H.eL k i
  omega
theorem sN{g w h}(H:HR g w h){id b s:Nat}{cs cs':Rw}{C C':Array Value}{el:FT C}{us:List Value}(he:h.aU.get id=some cs)(hm:g.m id=some (b,s))
 (hw:w.heap[b]? =some (.cells C el.el el.fz))(hs:C'.size=C.size)(hv:bQ g w cs'.toL us)(hc: ∀ (j:Nat) (v:Value),us[j]? =some v->C'[s+j]? =some v):
 Ext g w h g (w.setRow b C') (gY h id (some cs'))/\HR g (w.setRow b C') (gY h id (some cs')):=by
 have Ho:ik g h b:=⟨id,cs,s,he,hm⟩
 have hg: ∀ i,(gY h id (some cs')).aU.get i=if i=id then some cs' else h.aU.get i:=fun i=>Tr.gZ _ _ _ _
 have live: ∀ i c,(if i=id then some cs' else h.aU.get i)=some c-> ∃ c',h.aU.get i=some c':=by
  intro i c e
  by_cases hi:i=id
  ·exact⟨cs,by rw[hi];exact he⟩
  ·rw[if_neg hi]at e;exact⟨c,e⟩
 have E:Ext g w h g (w.setRow b C') (gY h id (some cs')):=by
  refine⟨rfl,rfl,rfl,by simp,Nat.le_refl _,fun _ _ e=>e,?_,?_,fun _ i=>i,fun _ i=>.inl i,?_⟩
  ·intro k _ ho
   rw[fR hw,if_neg]
   rintro rfl
   exact ho Ho
  ·intro k
   unfold ed
   rw[fR hw]
   by_cases hk:k=b
   ·subst hk;simp[hw,hs]
   ·rw[if_neg hk];exact Nat.le_refl _
  ·rintro k ⟨i,c,q,e,m⟩
   rw[hg]at e
   obtain⟨c',e'⟩:=live i c e
   exact .inl ⟨i,c',q,e',m⟩
 refine⟨E,H.fresh,?_,?_,?_,kY.ext H E⟩
 ·intro i c e
  rw[hg]at e
  by_cases hi:i=id
  ·rw[if_pos hi]at e
   cases e
   exact⟨b,s,C',el.to hs,us,by rw[hi];exact hm,by rw[fR hw,if_pos rfl];rfl,fun k=>H.lK k Ho,bQ.mono H E _ _ hv,hc⟩
  ·rw[if_neg hi]at e
   obtain⟨b2,s2,C2,Sl,Ly,Fj,Hr,Gz,QG,QH⟩:=H.aU i c e
   have yc:b2≠b:=by
    rintro rfl
    exact hi (H.inj i id b2 s2 s c cs e he Fj hm)
   exact⟨b2,s2,C2,Sl,Ly,Fj,by rw[fR hw,if_neg yc];exact Hr,Gz,bQ.mono H E _ _ QG,QH⟩
 ·intro i i' k q q' c1 c2 e1 e2 m1 m2
  rw[hg]at e1 e2
  obtain⟨c1',Mr⟩:=live i c1 e1
  obtain⟨c2',e2'⟩:=live i' c2 e2
  exact H.inj i i' k q q' c1' c2' Mr e2' m1 m2
 ·intro k i
  have:=H.eL k i
  simp
  omega
omit [Io] in
theorem yd{C:Array Value}{s off:Nat}{us ns:List Value}(hc: ∀ (j:Nat) (v:Value),us[j]? =some v->C[s+j]? =some v)(h:s+off+ns.length<=C.size):
 ∀ (j:Nat) (v:Value),(us.take off++(ns++us.drop (off+ns.length)))[j]? =some v->
  off<=us.length->(C.toList.take (s+off)++ns++C.toList.drop (s+off+ns.length)).toArray[s+j]? =some v:=by
 intro j v e ho
 have hu:(us.take off).length=off:=by simp;omega
 have hC:(C.toList.take (s+off)).length=s+off:=by simp;omega
 rw[List.getElem?_toArray,List.append_assoc]
 by_cases h1:j<off
 ·rw[List.getElem?_append_left (by omega),List.getElem?_take_of_lt h1]at e
  rw[List.getElem?_append_left (by omega),List.getElem?_take_of_lt (by omega)]
  simpa using hc j v e
 ·rw[List.getElem?_append_right (by omega),hu]at e
  rw[List.getElem?_append_right (by omega),hC,show s+j - (s+off)=j - off by omega]
  by_cases h2:j - off<ns.length
  ·rw[List.getElem?_append_left h2]at e ⊢
   exact e
  ·rw[List.getElem?_append_right (by omega),List.getElem?_drop]at e ⊢
   have:=hc _ v e
   rw[show s+off+ns.length+(j - off - ns.length)=s+(off+ns.length+(j - off - ns.length)) by omega]
   simpa using this
def ye(P:Program)(T:TypeId)(x y:Operand):eP:=
 match P.info? T with
 |some i=>gD (Nat.blt 0 i.size) (aA i.size (ba x) (ba y)) cq
 |none=>cq
theorem B5{T:TypeId}{x y:Operand}(ho:o.op=.store T x y):lQ P o (ye P T x y):=by
 intro g w nt t h a v h' H Tr e
 unfold ye at e
 cases hi:P.info? T with
 |none=>rw[hi]at e;cases e
 |some i=>
 rw[hi]at e
 cases Fk:Nat.blt 0 i.size with
 |false=>simp only[Fk]at e;cases e
 |true=>
 simp only[Fk]at e
 have ah5:=ct.1 Fk
 change aA i.size (ba x) (ba y) t h=.ok v h' at e
 unfold aA at e
 split at e
 ·rename_i id off hx
  split at e
  ·rename_i av hy
   split at e
   ·rename_i cs hg
    cases hb:(Nat.beq (len av.cells) i.size&&(Nat.ble (Nat.add off (len av.cells)) cs.n&&fB dU av.cells))with
    |false=>rw[hb]at e;cases e
    |true=>
     rw[hb]at e
     cases e
     simp only[Bool.and_eq_true,cF]at hb
     have h1:=Nat.eq_of_beq_eq_true hb.1
     have Ms:off+av.cells.length<=cs.n:=Nat.ble_eq.mp hb.2.1
     have h2:off+av.cells.length<=cs.toL.length:=by rw[eM];exact Ms
     have BE:=bB x _ _ _ _ _ _ Tr hx
     have uw:=bB y _ _ _ _ _ _ Tr hy
     simp only[VR]at BE
     obtain⟨b,s,hm,BE⟩:=BE
     obtain⟨C,el,vs,hw,_,eE,hc⟩:=H.row hg hm
     have fF:=uw.cells
     have qf:=bQ.BU fF hb.2.2
     have hl:=fF.length
     simp only[Array.length_toList]at hl
     have oD:s+off+(a.eval y).cells.toList.length<=C.size:=by
      have:=bQ.oW eE hc h2 (by omega)
      simp only[Array.length_toList]
      omega
     have qe:=eN P b (s+off) el.el el.fz (a.eval y).cells.toList 0 C w hw el.ok (by simpa using oD) qf
     simp only[Nat.add_zero]at qe
     have hlen:=eE.length
     obtain⟨E,H'⟩:=sN H (C':=(C.toList.take (s+off)++(a.eval y).cells.toList++C.toList.drop (s+off+(a.eval y).cells.toList.length)).toArray)
      hg hm hw (by simp at oD ⊢;omega) (cs':=cs.put off av.cells) (us:=vs.take off++((a.eval y).cells.toList++vs.drop (off+(a.eval y).cells.toList.length)))
      (by rw[pL Ms,put_eq,<-fF.length];exact(eE.take _).append (fF.append (eE.drop _)))
      (fun j v e=>yd hc oD j v e (by omega))
     refine⟨g,_,.skip,undef,?_,.inr ⟨rfl,rfl⟩,E,H',by simp only[gk,VR];exact⟨_,rfl,by simp[bQ]⟩⟩
     have pO: ¬ (a.eval y).cells.size≠i.size:=by omega
     simp only[execOp,ho,Instr.storeAt,Instr.sureAddr,BE,storeVar,sizeOf,typeInfo,hi,qe,Sem.run_bind,Sem.run_pure,Result.andThen_ok,run_program,Sem.run_ite,if_neg pO]
   ·cases e
  ·cases e
 ·cases e
end
end Go.Ab

noncomputable section
namespace Go.Ab
variable [Io]
section
variable {P:Program}{o:Oper}
omit [Io] in
theorem oc(w:World)(t ty e:TypeId)(i:TypeInfo)(ht:P.underlying t=some (.slice e))(hi:P.info? e=some i)(b x:Option Addr)(dc eH c:Nat)(h:dc<=eH):
 (Builtin.append_ #[t,t] ty #[.slice b dc eH,.slice x 0 c]).run P w=.ok (.slice b dc eH) w:=by
 cases b<;>cases x<;>
  simp[Builtin.append_,run_underlying ht,sizeOf,typeInfo,hi,Builtin.lenOf,Builtin.firstCells,loadCells,loadCellsFrom,h,storeCells]
omit [Io] in
theorem wE(w:World)(t ty e:TypeId)(i:TypeInfo)(ht:P.underlying t=some (.slice e))(hi:P.info? e=some i)
 (g at_ dc eH:Nat)(cur:Array Value)(el:FT cur)(hg:w.heap[g]? =some (.cells cur el.el el.fz))
 (a:Addr)(m c:Nat)(news:List Value)(hl:news.length=m*i.size)(vb: ∀ j u,news[j]? =some u->w.cell? (a.add j)=some u)(h1: ∀ u∈news,u.oneCell'=true)
 (lS:dc+m<=eH)(qx:at_+dc*i.size+news.length<=cur.size):
 (Builtin.append_ #[t,t] ty #[.slice (some ⟨g,at_,none⟩) dc eH,.slice (some a) m c]).run P w=
  .ok (.slice (some ⟨g,at_,none⟩) (dc+m) eH) (w.setRow g (cur.toList.take (at_+dc*i.size)++news++cur.toList.drop (at_+dc*i.size+news.length)).toArray):=by
 have hf:=run_firstCells_some (P:=P) w i.size m a m c news hl vb
 have qe:=eN P g (at_+dc*i.size) el.el el.fz news 0 cur w hg el.ok (by simpa using qx) h1
 simp only[Nat.add_zero]at qe
 simp[Builtin.append_,run_underlying ht,sizeOf,typeInfo,hi,Builtin.lenOf,lS,hf,gL,qe]
theorem kJ{g w h}(H:HR g w h){x:AV}{v:Value}(hv:VR g w x v){n:Nat}{cs:List AV}(e:dZ h x=some (n,cs)):
 ∃ a c,v=.slice a n c/\n<=c/\(cs=[]∨ ∃ b s vs,a=some ⟨b,s,none⟩/\bQ g w cs vs/\ee w b s vs):=by
 unfold dZ at e
 split at e
 ·cases e
  simp only[VR]at hv
  obtain⟨a,rfl⟩:=hv
  exact⟨a,0,rfl,Nat.le_refl _,.inl rfl⟩
 ·cases e
  simp only[VR]at hv
  obtain⟨a,c,rfl,hc,hr⟩:=hv
  refine⟨a,c,rfl,hc,?_⟩
  rcases hr with⟨_,rfl⟩|⟨b,s,vs,rfl,_,gu,eE⟩
  ·exact .inl rfl
  ·exact .inr ⟨b,s,vs,rfl,eE,gu⟩
 ·rename_i id off n' sz
  split at e
  ·rename_i cs' hg
   split at e
   ·rename_i l hs
    cases e
    obtain⟨rfl,hl,_⟩:=iz hs
    simp only[VR]at hv
    rcases hv with⟨rfl,a,rfl⟩|⟨b,s,cap,hm,rfl,hc,_⟩
    ·refine⟨a,0,rfl,Nat.le_refl _,.inl ?_⟩
     have:(List.take (Nat.mul 0 sz) (List.drop off cs'.toL))=[]:=by
      rw[show Nat.mul 0 sz=0 from Nat.zero_mul _];rfl
     exact this
    ·obtain⟨C,el,vs,hw,_,eE,Mt⟩:=H.row hg hm
     exact⟨_,cap,rfl,hc,.inr ⟨b,s+off,_,rfl,(eE.drop off).take _,((fN hw Mt).drop off).take _⟩⟩
   ·cases e
  ·cases e
 ·cases e
omit [Io] in
theorem lT{w:World}{b s:Nat}{vs:List Value}(h:ee w b s vs): ∀ j u,vs[j]? =some u->w.cell? ((⟨b,s,none⟩:Addr).add j)=some u:=by
 intro j u e
 rw[gL]
 exact h j u e
structure WW(P:Program)(w:World)(qy:Array TypeId)(ty el:TypeId)(ie:TypeInfo)(zv:Value)(vx:Value)(n:Nat)(us:List Value):Prop where
 aeN:0<n->n<=70368744177664->n*ie.bytes<=70368744177664->(Builtin.append_ qy ty #[.slice none 0 0,vx]).run P w=
  .ok (.slice (some ⟨w.heap.size,0,none⟩) n (grownCap w n 0 el)) (w.drew.alloc (.cells (us.toArray++Builtin.zeroCells zv.cells (grownCap w n 0 el - n)) el))
 QI: ∀ (b:Addr) (dc eH:Nat) (wF:List Value),wF.length=dc*ie.size->(∀ (j:Nat) (v:Value),wF[j]? =some v->w.cell? (b.add j)=some v)->0<n->eH<dc+n->dc+n<=70368744177664->(dc+n)*ie.bytes<=70368744177664->
  (Builtin.append_ qy ty #[.slice (some b) dc eH,vx]).run P w=.ok (.slice (some ⟨w.heap.size,0,none⟩) (dc+n) (grownCap w (dc+n) eH el))
    (w.drew.alloc (.cells (wF.toArray++us.toArray++Builtin.zeroCells zv.cells (grownCap w (dc+n) eH el - (dc+n))) el))
 aat: ∀ (g at_ dc eH:Nat) (cur:Array Value) (el:FT cur),w.heap[g]? =some (.cells cur el.el el.fz)->0<n->dc+n<=70368744177664->(dc+n)*ie.bytes<=70368744177664->(∀ u∈us,u.oneCell'=true)->
  dc+n<=eH->at_+dc*ie.size+us.length<=cur.size->(Builtin.append_ qy ty #[.slice (some ⟨g,at_,none⟩) dc eH,vx]).run P w=
   .ok (.slice (some ⟨g,at_,none⟩) (dc+n) eH) (w.setRow g (cur.toList.take (at_+dc*ie.size)++us++cur.toList.drop (at_+dc*ie.size+us.length)).toArray)
theorem o3{g:G}{w:World}{h h':Hp}{a:Act}{qy:Array TypeId}{el:TypeId}{ie:TypeInfo}{zv:Value}{vs0 vx:Value}{sv v:AV}{n:Nat}{new:List AV}(H:HR g w h)(eE:VR g w sv vs0)(h0:0<ie.size)(q7:zv.cells.size=ie.size)
 (hex: ∀ vs r w',vs0=vs->(Builtin.append_ qy o.type #[vs,vx]).run P w=.ok r w'->(execOp a.eval o).run P w=.ok (.value r) w')
 (WS:n=0-> ∀ (b:Option Addr) (ln cap:Nat),ln<=cap->(Builtin.append_ qy o.type #[.slice b ln cap,vx]).run P w=.ok (.slice b ln cap) w)
 (hap:n≠0->new.length=n*ie.size-> ∃ us,bQ g w new us/\WW P w qy o.type el ie zv vx n us)
 (e:qT ie.size ie.bytes h sv n new=.ok v h'):
 ∃ g' w' nx x,(execOp a.eval o).run P w=.ok nx w'/\(nx=.value x∨(nx=.skip/\x=undef))/\Ext g w h g' w' h'/\HR g' w' h'/\VR g' w' v x:=by
   unfold qT at e
   have fresh: ∀ (b:Option Addr) (h2:Hp) (V4:Rw),V4.toL=new->vs0=.slice b 0 0->n≠0->n*ie.bytes<=70368744177664->fB dU new=true->new.length=n*ie.size->n<=70368744177664->
    HR g w h2->Ext g w h g w h2->
    ∃ g' w' nx x,(execOp a.eval o).run P w=.ok nx w'/\(nx=.value x∨(nx=.skip/\x=undef))/\Ext g w h g' w' (dK h2 V4)/\HR g' w' (dK h2 V4)/\VR g' w' (.dV h2.next 0 n ie.size) x:=by
    intro b h2 V4 hrw tT hn BG qf hlen aeO H2 E2
    ·obtain⟨us,zt,A⟩:=hap hn hlen
     have WX:=zt.length
     have zQ:us.length=n*ie.size:=by omega
     obtain⟨E3,H3⟩:=zP H2
     have hC: ∀ cap,n<=cap->n*ie.size+(cap - n)*ie.size=cap*ie.size:=by intro cap hc;rw[<-Nat.add_mul];congr 1;omega
     cases b with
     |none=>
      have hr:=A.aeN (by omega) aeO BG
      have Ht:=grownCap_ge w n 0 el
      obtain⟨E4,H4⟩:=uu H3 (cs:=V4) (C:=us.toArray++Builtin.zeroCells zv.cells (grownCap w n 0 el - n)) el (by rw[hrw];exact bQ.mono H2 E3 _ _ zt) (fun j v e=>by
       rw[Array.getElem?_append_left (by have:=(List.getElem?_eq_some_iff.1 e).1;simpa using this)];simpa using e)
      refine⟨_,_,_,_,hex _ _ _ tT hr,.inl rfl,E2.trans (E3.trans E4),H4,xY Ht ?_⟩
      rw[Array.size_append,size_zeroCells,q7,List.size_toArray,zQ,hC _ Ht]
      exact Nat.le_refl _
     |some b=>
      have hr:=A.QI b 0 0 [] (by simp) (by simp) (by omega) (by omega) (by omega) (by rw[Nat.zero_add];exact BG)
      simp only[Nat.zero_add]at hr
      have Ht:=grownCap_ge w n 0 el
      obtain⟨E4,H4⟩:=uu H3 (cs:=V4) (C:= #[]++us.toArray++Builtin.zeroCells zv.cells (grownCap w n 0 el - n)) el (by rw[hrw];exact bQ.mono H2 E3 _ _ zt) (fun j v e=>by
       rw[Array.getElem?_append_left (by have:=(List.getElem?_eq_some_iff.1 e).1;simpa using this)];simpa using e)
      refine⟨_,_,_,_,hex _ _ _ tT hr,.inl rfl,E2.trans (E3.trans E4),H4,xY Ht ?_⟩
      rw[Array.size_append,size_zeroCells,q7,Array.empty_append,List.size_toArray,zQ,hC _ Ht]
      exact Nat.le_refl _
   split at e
   ·
    simp only[VR]at eE
    obtain⟨b,tT⟩:=eE
    cases hn:Nat.beq n 0 with
    |true=>
     rw[hn]at e
     cases e
     obtain rfl:=Nat.eq_of_beq_eq_true hn
     exact⟨g,w,_,_,hex _ _ _ tT (WS rfl b 0 0 (Nat.le_refl _)),.inl rfl,Ext.refl _ _ _,H,by simp only[VR];exact⟨_,rfl⟩⟩
    |false=>
     rw[hn]at e
     have QF:n≠0:=fun k=>by subst k;cases hn
     cases hc:(Nat.ble (Nat.mul n ie.bytes) 70368744177664&&(fB dU new&&(Nat.beq (len new) (Nat.mul n ie.size)&&Nat.ble n 70368744177664)))with
     |false=>simp only[hc]at e;cases e
     |true=>
      simp only[hc]at e
      cases e
      simp only[Bool.and_eq_true,cF]at hc
      exact fresh b h (uq new) (hJ new) tT QF (Nat.ble_eq.mp hc.1) hc.2.1 (Nat.eq_of_beq_eq_true hc.2.2.1) (Nat.ble_eq.mp hc.2.2.2) H (Ext.refl _ _ _)
   ·
    rename_i id off ln sz
    cases hn:Nat.beq n 0 with
    |true=>
     rw[hn]at e
     cases e
     obtain rfl:=Nat.eq_of_beq_eq_true hn
     have B6:=eE
     simp only[VR]at eE
     rcases eE with⟨rfl,b,tT⟩|⟨b,s',cap,hm,tT,q8,_⟩
     ·rw[tT]at B6
      exact⟨g,w,_,_,hex _ _ _ tT (WS rfl b 0 0 (Nat.le_refl _)),.inl rfl,Ext.refl _ _ _,H,B6⟩
     ·rw[tT]at B6
      exact⟨g,w,_,_,hex _ _ _ tT (WS rfl _ ln cap q8),.inl rfl,Ext.refl _ _ _,H,B6⟩
    |false=>
     rw[hn]at e
     have QF:n≠0:=fun k=>by subst k;cases hn
     simp only[cond_false]at e
     split at e
     ·cases e
     ·rename_i cs hg
      split at e
      ·cases e
      ·rename_i pre Sm
       cases hc:(Nat.ble (Nat.mul (Nat.add ln n) ie.bytes) 70368744177664&&(Nat.beq sz ie.size&&(fB dU new&&(Nat.beq (len new) (Nat.mul n ie.size)&&Nat.ble (Nat.add ln n) 70368744177664))))with
       |false=>rw[hc]at e;cases e
       |true=>
        rw[hc]at e
        cases e
        simp only[Bool.and_eq_true,cF]at hc
        have BG:(ln+n)*ie.bytes<=70368744177664:=Nat.ble_eq.mp hc.1
        obtain rfl:sz=ie.size:=Nat.eq_of_beq_eq_true hc.2.1
        have qf:=hc.2.2.1
        have hlen:new.length=n*ie.size:=Nat.eq_of_beq_eq_true hc.2.2.2.1
        have Fl:ln+n<=70368744177664:=Nat.ble_eq.mp hc.2.2.2.2
        obtain⟨WY,V2⟩:=zE Sm
        rw[WY]at V2
        have aeP:(List.take (ln*ie.size) (List.drop off cs.toL)).length=ln*ie.size:=V2
        obtain⟨E2,H2⟩:=Hm H id
        simp only[VR]at eE
        rcases eE with⟨rfl,b,tT⟩|⟨b,s',cap,hm,tT,q8,oD⟩
        ·have:=fresh b (gY h id none) (pre.app new) (by
          rw[qV,WY,show(List.take (Nat.mul 0 ie.size) (List.drop off cs.toL))=[]from by rw[show Nat.mul 0 ie.size=0 from Nat.zero_mul _];rfl,List.nil_append]) tT QF (by simpa using BG) qf hlen (by simpa using Fl) H2 E2
         rw[show Nat.add 0 n=n from Nat.zero_add n]
         exact this
        ·obtain⟨us,zt,A⟩:=hap QF hlen
         ·have WX:=zt.length
          have zQ:us.length=n*ie.size:=by omega
          obtain⟨C,el',vs,hw,_,eE,Mt⟩:=H.row hg hm
          rw[iV hw]at oD
          have kK:bQ g w (List.take (ln*ie.size) (List.drop off cs.toL)) ((vs.drop off).take (ln*ie.size)):=(eE.drop off).take _
          have Sn:((vs.drop off).take (ln*ie.size)).length=ln*ie.size:=by rw[kK.length,aeP]
          have Sp:ee w b (s'+off) ((vs.drop off).take (ln*ie.size)):=((fN hw Mt).drop off).take _
          have Sq:=kK.append zt
          have QJ:bQ g w (pre.app new).toL ((vs.drop off).take (ln*ie.size)++us):=by
           rw[qV,WY];exact Sq
          by_cases lS:ln+n<=cap
          ·have hm1:ln*ie.size+n*ie.size<=cap*ie.size:=by rw[<-Nat.add_mul];exact Nat.mul_le_mul_right _ lS
           have qx:s'+off+ln*ie.size+us.length<=C.size:=by omega
           have hr:=A.aat b (s'+off) ln cap C el' hw (by omega) Fl BG (bQ.BU zt qf) lS qx
           obtain⟨E3,H3⟩:=Fi H (C':=(C.toList.take (s'+off+ln*ie.size)++us++C.toList.drop (s'+off+ln*ie.size+us.length)).toArray) (s':=s'+off)
            hg hm hw (by simp;omega) QJ (fun j v e=>by
             have hC1:(C.toList.take (s'+off+ln*ie.size)).length=s'+off+ln*ie.size:=by simp;omega
             rw[List.getElem?_toArray,List.append_assoc]
             by_cases hj:j<ln*ie.size
             ·rw[List.getElem?_append_left (by omega)]at e
              have:=Sp j v e
              rw[List.getElem?_append_left (by omega),List.getElem?_take_of_lt (by omega)]
              simp only[World.cell?,hw]at this
              simpa using this
             ·rw[List.getElem?_append_right (by omega),Sn]at e
              have Lz:=(List.getElem?_eq_some_iff.1 e).1
              rw[List.getElem?_append_right (by omega),hC1,show s'+off+j - (s'+off+ln*ie.size)=j - ln*ie.size by omega,List.getElem?_append_left Lz]
              exact e)
           refine⟨_,_,_,_,hex _ _ _ tT hr,.inl rfl,E3,H3,?_⟩
           simp only[VR]
           refine .inr ⟨b,s'+off,cap,by simp,rfl,lS,?_⟩
           have B7:=fR (C':=(C.toList.take (s'+off+ln*ie.size)++us++C.toList.drop (s'+off+ln*ie.size+us.length)).toArray) hw b
           rw[if_pos rfl]at B7
           rw[iV B7]
           simp
           omega
          ·have hr:=A.QI ⟨b,s'+off,none⟩ ln cap ((vs.drop off).take (ln*ie.size)) Sn (lT Sp) (by omega) (by omega) Fl BG
           have Ht:=grownCap_ge w (ln+n) cap el
           obtain⟨E3,H3⟩:=zP H2
           obtain⟨E4,H4⟩:=uu H3 (C:=((vs.drop off).take (ln*ie.size)).toArray++us.toArray++Builtin.zeroCells zv.cells (grownCap w (ln+n) cap el - (ln+n))) el
            (bQ.mono H2 E3 _ _ (bQ.mono H E2 _ _ QJ)) (fun j v e=>by
             rw[Array.getElem?_append_left (by have:=(List.getElem?_eq_some_iff.1 e).1;simp at this ⊢;omega)]
             simpa using e)
           refine⟨_,_,_,_,hex _ _ _ tT hr,.inl rfl,E2.trans (E3.trans E4),H4,xY Ht ?_⟩
           have hC:(ln+n)*ie.size+(grownCap w (ln+n) cap el - (ln+n))*ie.size=grownCap w (ln+n) cap el*ie.size:=by rw[<-Nat.add_mul];congr 1;omega
           rw[Array.size_append,size_zeroCells,q7,Array.size_append,List.size_toArray,List.size_toArray,Sn,zQ,<-Nat.add_mul,hC]
           exact Nat.le_refl _
   ·
    rename_i ln cs
    cases hn:Nat.beq n 0 with
    |true=>
     rw[hn]at e
     cases e
     obtain rfl:=Nat.eq_of_beq_eq_true hn
     have B6:=eE
     simp only[VR]at eE
     obtain⟨b,cap,tT,q8,_⟩:=eE
     rw[tT]at B6
     exact⟨g,w,_,_,hex _ _ _ tT (WS rfl _ ln cap q8),.inl rfl,Ext.refl _ _ _,H,B6⟩
    |false=>rw[hn]at e;cases e
   ·cases e
def vc(P:Program)(T:TypeId)(s x:Operand):eP:=
 match P.underlying T with
 |some (.slice e)=>match P.info? e with
  |some ie=>match zeroOf P e with
   |some z=>gD (Nat.beq (len z) ie.size&&(Nat.blt 0 ie.size&&Nat.blt 0 ie.bytes)) (nI ie.size ie.bytes (wO (ba s)) (wO (ba x))) cq
   |none=>cq
  |none=>cq
 | _=>cq
theorem yf{T:TypeId}{s x:Operand}(ho:o.op=.call {callee:=.builtin .append,args:= #[s,x],argTypes:= #[T,T]}):lQ P o (vc P T s x):=by
 intro g w nt t h a v h' H Tr e
 unfold vc at e
 cases hu:P.underlying T with
 |none=>rw[hu]at e;cases e
 |some d=>
 rw[hu]at e
 cases d<;>try (cases e;done)
 rename_i el
 simp only at e
 cases mu:P.info? el with
 |none=>rw[mu]at e;cases e
 |some ie=>
 rw[mu]at e
 cases hz:zeroOf P el with
 |none=>simp only[hz]at e;cases e
 |some z=>
 simp only[hz]at e
 cases hb:(Nat.beq (len z) ie.size&&(Nat.blt 0 ie.size&&Nat.blt 0 ie.bytes))with
 |false=>rw[hb]at e;cases e
 |true=>
 rw[hb]at e
 simp only[Bool.and_eq_true,cF]at hb
 have WU:=Nat.eq_of_beq_eq_true hb.1
 have h0:0<ie.size:=ct.1 hb.2.1
 obtain⟨i,zv,hi,ux,Dq⟩:=gM hz
 obtain rfl:ie=i:=by rw[mu]at hi;exact Option.some.inj hi
 have q7:zv.cells.size=ie.size:=by
  have:=(Dq g w).length
  simp only[Array.length_toList]at this
  omega
 change nI ie.size ie.bytes (wO (ba s)) (wO (ba x)) t h=.ok v h' at e
 have hex: ∀ vs vx r w',a.eval s=vs->a.eval x=vx->(Builtin.append_ #[T,T] o.type #[vs,vx]).run P w=.ok r w'->(execOp a.eval o).run P w=.ok (.value r) w':=by
  intro vs vx r w' h1 h2 h3
  unfold execOp
  simp only[ho,resolve,invoke,builtin,Sem.run_bind,Sem.run_pure,Result.andThen_ok,List.map_toArray,List.map_cons,List.map_nil,h1,h2,h3]
 unfold nI at e
 split at e
 ·rename_i sv hs
  split at e
  ·rename_i xv hx
   have eE:=ic s _ _ _ _ _ _ Tr hs
   have BE:=ic x _ _ _ _ _ _ Tr hx
   split at e
   ·cases e
   ·rename_i n new WZ
    obtain⟨xa,xc,Mu,hxc,wG⟩:=kJ H BE WZ
    refine o3 (el:=el) H eE h0 q7 (fun vs r w' h1 h3=>hex vs _ r w' h1 Mu h3) (fun hn b ln cap hle=>by
     subst hn
     exact oc w T o.type el ie hu mu b xa ln cap xc hle) (fun hn hlen=>?_) e
    rcases wG with rfl|⟨xb,xs,us,rfl,zt,gu⟩
    ·have:n*ie.size≠0:=Nat.mul_ne_zero hn (by omega)
     simp at hlen;omega
    ·have WX:=zt.length
     have zQ:us.length=n*ie.size:=by omega
     refine⟨us,zt,⟨fun hp Fl BG=>?_,fun b dc eH wF W0 W3 hp fO Fl BG=>?_,fun b at_ dc eH cur el' hw hp Fl BG qf lS qx=>?_⟩⟩
     ·exact run_append_nil (P:=P) w T o.type el ie zv hu mu ux ⟨xb,xs,none⟩ n xc us zQ (lT gu) (by omega) (by omega) (by omega)
     ·exact run_append_grow (P:=P) w T o.type el ie zv hu mu ux b dc eH wF W0 W3 ⟨xb,xs,none⟩ n xc us zQ (lT gu) (by omega) (by omega) (growslice_fits (by omega) (by omega))
     ·exact wE (P:=P) w T o.type el ie hu mu b at_ dc eH cur el' hw ⟨xb,xs,none⟩ n xc us zQ (lT gu) qf lS qx
  ·cases e
 ·cases e
def uy(P:Program)(T:TypeId)(s x:Operand):eP:=
 match P.underlying T with
 |some (.slice e)=>match P.info? e with
  |some ie=>match zeroOf P e with
   |some z=>gD (Nat.beq (len z) ie.size&&(Nat.blt 0 ie.size&&Nat.blt 0 ie.bytes)) (aQ ie.size ie.bytes (ba s) (ba x)) cq
   |none=>cq
  |none=>cq
 | _=>cq
theorem zR{T:TypeId}{s x:Operand}(ho:o.op=.call {callee:=.builtin .append,args:= #[s,x],argTypes:= #[T,T]}):lQ P o (uy P T s x):=by
 intro g w nt t h a v h' H Tr e
 have h0:=yf (P:=P) ho g w nt t h a v h' H Tr
 unfold uy at e
 unfold vc at h0
 cases hu:P.underlying T with
 |none=>rw[hu]at e;cases e
 |some d=>
 rw[hu]at e h0
 cases d<;>try (cases e;done)
 rename_i el
 simp only at e h0
 cases mu:P.info? el with
 |none=>rw[mu]at e;cases e
 |some ie=>
 rw[mu]at e h0
 cases hz:zeroOf P el with
 |none=>simp only[hz]at e;cases e
 |some z=>
 simp only[hz]at e h0
 cases hb:(Nat.beq (len z) ie.size&&(Nat.blt 0 ie.size&&Nat.blt 0 ie.bytes))with
 |false=>rw[hb]at e;cases e
 |true=>
 rw[hb]at e h0
 change aQ ie.size ie.bytes (ba s) (ba x) t h=.ok v h' at e
 unfold aQ at e
 split at e
 ·rename_i av hs
  split at e
  ·rename_i bv hx
   cases hE:(qu av&&Lv bv)with
   |false=>rw[hE]at e;exact h0 e
   |true=>
    rw[hE]at e
    cases e
    rw[Bool.and_eq_true]at hE
    have hv:=bB s _ _ _ _ _ _ Tr hs
    obtain⟨b,tT⟩:=uZ hE.1 hv
    obtain⟨xa,xc,Mu⟩:=Sh hE.2 (bB x _ _ _ _ _ _ Tr hx)
    have hr:=oc (P:=P) w T o.type el ie hu mu b xa 0 0 xc (Nat.le_refl _)
    refine⟨g,w,_,a.eval s,?_,.inl rfl,Ext.refl _ _ _,H,hv⟩
    unfold execOp
    simp only[ho,resolve,invoke,builtin,Sem.run_bind,Sem.run_pure,Result.andThen_ok,List.map_toArray,List.map_cons,List.map_nil,tT,Mu,hr]
  ·cases e
 ·cases e
def Ds(P:Program)(T T':TypeId)(s x:Operand):eP:=
 match P.underlying T with
 |some (.slice e)=>match P.underlying T' with
  |some (.int _)=>match P.info? e with
   |some ie=>match zeroOf P e with
    |some z=>gD (Nat.beq (len z) ie.size&&(Nat.blt 0 ie.size&&Nat.blt 0 ie.bytes)) (n9 ie.size ie.bytes z (ba s) (ba x)) cq
    |none=>cq
   |none=>cq
  | _=>cq
 | _=>cq
omit [Io] in
theorem mw(w:World)(t tn ty e:TypeId)(i:TypeInfo)(kn k:IntKind)(ht:P.underlying t=some (.slice e))(Sr:P.underlying tn=some (.int kn))(hi:P.info? e=some i)(b:Option Addr)(dc eH:Nat)(h:dc<=eH):
 (Builtin.append_ #[t,tn] ty #[.slice b dc eH,.int k ((0:Nat):Int)]).run P w=.ok (.slice b dc eH) w:=by
 have hw:IntKind.i64.wrap 0=0:=by rw[IntKind.wrap_i64];omega
 cases b<;>simp[Builtin.append_,run_underlying ht,run_underlying Sr,sizeOf,typeInfo,hi,asInt,asIntOf,hw,h,storeCells]
omit [Io] in
theorem qz(w:World)(t tn ty e:TypeId)(i:TypeInfo)(z:Value)(kn k:IntKind)(ht:P.underlying t=some (.slice e))(Sr:P.underlying tn=some (.int kn))(hi:P.info? e=some i)(hz:i.zero=some z)(hs:0<i.size)(WU:z.cells.size=i.size)
 (g at_ dc eH n:Nat)(cur:Array Value)(el:FT cur)(hg:w.heap[g]? =some (.cells cur el.el el.fz))(h0:0<n)(Fl:n<=70368744177664)(BG:n*i.bytes<=70368744177664)
 (h1: ∀ u∈(Builtin.zeroCells z.cells n).toList,u.oneCell'=true)(lS:dc+n<=eH)(qx:at_+dc*i.size+(Builtin.zeroCells z.cells n).toList.length<=cur.size):
 (Builtin.append_ #[t,tn] ty #[.slice (some ⟨g,at_,none⟩) dc eH,.int k n]).run P w=
  .ok (.slice (some ⟨g,at_,none⟩) (dc+n) eH) (w.setRow g (cur.toList.take (at_+dc*i.size)++(Builtin.zeroCells z.cells n).toList++cur.toList.drop (at_+dc*i.size+(Builtin.zeroCells z.cells n).toList.length)).toArray):=by
 have qe:=eN P g (at_+dc*i.size) el.el el.fz (Builtin.zeroCells z.cells n).toList 0 cur w hg el.ok (by simpa using qx) h1
 simp only[Nat.add_zero]at qe
 have hw:IntKind.i64.wrap (n:Int)=n:=by rw[IntKind.wrap_i64];omega
 have aeQ: ¬ ((n:Int)<0):=by omega
 have aeR: ¬ (281474976710656<(n:Int)*(i.bytes:Int)):=by
  rw[<-Int.natCast_mul]
  omega
 have zu: ¬ (n*i.size=0):=Nat.mul_ne_zero (by omega) (by omega)
 have hk:n≠0:=by omega
 simp[Builtin.append_,run_underlying ht,run_underlying Sr,sizeOf,typeInfo,zeroValue,hi,hz,asInt,asIntOf,hw,aeQ,aeR,zu,lS,gL]
 have Ss:(storeCells ⟨g,at_+dc*i.size,none⟩ (Builtin.zeroCells z.cells n).toList).run P w=_:=qe
 rw[Ss]
 simp
theorem Fm{T T':TypeId}{s x:Operand}(ho:o.op=.call {callee:=.builtin .append,args:= #[s,x],argTypes:= #[T,T']}):lQ P o (Ds P T T' s x):=by
 intro g w nt t h a v h' H Tr e
 unfold Ds at e
 cases hu:P.underlying T with
 |none=>rw[hu]at e;cases e
 |some d=>
 rw[hu]at e
 cases d<;>try (cases e;done)
 rename_i el
 simp only at e
 cases B8:P.underlying T' with
 |none=>rw[B8]at e;cases e
 |some d'=>
 rw[B8]at e
 cases d'<;>try (cases e;done)
 rename_i kn
 simp only at e
 cases mu:P.info? el with
 |none=>rw[mu]at e;cases e
 |some ie=>
 rw[mu]at e
 cases hz:zeroOf P el with
 |none=>simp only[hz]at e;cases e
 |some z=>
 simp only[hz]at e
 cases hb:(Nat.beq (len z) ie.size&&(Nat.blt 0 ie.size&&Nat.blt 0 ie.bytes))with
 |false=>rw[hb]at e;cases e
 |true=>
 rw[hb]at e
 simp only[Bool.and_eq_true,cF]at hb
 have WU:=Nat.eq_of_beq_eq_true hb.1
 have h0:0<ie.size:=ct.1 hb.2.1
 obtain⟨i,zv,hi,ux,Dq⟩:=gM hz
 obtain rfl:ie=i:=by rw[mu]at hi;exact Option.some.inj hi
 have q7:zv.cells.size=ie.size:=by
  have:=(Dq g w).length
  simp only[Array.length_toList]at this
  omega
 change n9 ie.size ie.bytes z (ba s) (ba x) t h=.ok v h' at e
 unfold n9 at e
 split at e
 ·rename_i av hs
  split at e
  ·rename_i kx n hx
   have eE:=bB s _ _ _ _ _ _ Tr hs
   have BE:=bB x _ _ _ _ _ _ Tr hx
   simp only[VR]at BE
   have BE:a.eval x=.int kx (n:Int):=BE
   have hex: ∀ vs r w',a.eval s=vs->(Builtin.append_ #[T,T'] o.type #[vs,.int kx (n:Int)]).run P w=.ok r w'->(execOp a.eval o).run P w=.ok (.value r) w':=by
    intro vs r w' h1 h3
    unfold execOp
    simp only[ho,resolve,invoke,builtin,Sem.run_bind,Sem.run_pure,Result.andThen_ok,List.map_toArray,List.map_cons,List.map_nil,h1,BE,h3]
   cases hE:(qu av&&Nat.beq n 0)with
   |true=>
    rw[hE]at e
    cases e
    rw[Bool.and_eq_true]at hE
    obtain rfl:=Nat.eq_of_beq_eq_true hE.2
    obtain⟨b,tT⟩:=uZ hE.1 eE
    refine⟨g,w,_,a.eval s,hex _ _ _ rfl ?_,.inl rfl,Ext.refl _ _ _,H,eE⟩
    rw[tT]
    exact mw w T T' o.type el ie kn kx hu B8 mu b 0 0 (Nat.le_refl _)
   |false=>
    rw[hE]at e
    simp only[cond_false]at e
    refine o3 (el:=el) H (BW eE) h0 q7 hex (fun hn b ln cap hle=>by
     subst hn
     exact mw w T T' o.type el ie kn kx hu B8 mu b ln cap hle) (fun hn hlen=>?_) e
    have hzc:bQ g w (fE n z) (Builtin.zeroCells zv.cells n).toList:=by
     have:=(Dq g w).repeat n
     rw[<-oY]at this
     unfold Builtin.zeroCells
     exact this
    refine⟨(Builtin.zeroCells zv.cells n).toList,hzc,⟨fun hp Fl BG=>?_,fun b dc eH wF W0 W3 hp fO Fl BG=>?_,fun b at_ dc eH cur el' hw hp Fl BG qf lS qx=>?_⟩⟩
    ·have:=Lib.run_append_nil_zeros (P:=P) w T T' o.type el ie zv kx kn hu B8 mu ux n hp h0 (by omega) (by omega)
     simpa using this
    ·have hfo:=run_firstCells_some (P:=P) w.drew ie.size dc b dc eH wF W0 (by simpa using W3)
     have hnb:n*ie.bytes<=(dc+n)*ie.bytes:=Nat.mul_le_mul_right _ (by omega)
     have:=Lib.run_append_grow_zeros (P:=P) w T T' o.type el ie zv kx kn hu B8 mu ux (some b) dc eH wF hfo n hp h0 fO (by omega) (by omega) (growslice_fits (by omega) (by omega))
     simpa using this
    ·have hnb:n*ie.bytes<=(dc+n)*ie.bytes:=Nat.mul_le_mul_right _ (by omega)
     exact qz w T T' o.type el ie zv kn kx hu B8 mu ux h0 q7 b at_ dc eH n cur el' hw hp (by omega) (by omega) qf lS qx
  ·cases e
 ·cases e
def Dt(P:Program)(T T':TypeId)(s x:Operand):eP:=
 match P.underlying T with
 |some (.slice e)=>match P.underlying T' with
  |some .string=>match P.info? e with
   |some ie=>match zeroOf P e with
    |some z=>gD (Nat.beq (len z) ie.size&&(Nat.beq ie.size 1&&Nat.blt 0 ie.bytes)) (qU ie.bytes (ba s) (ba x)) cq
    |none=>cq
   |none=>cq
  | _=>cq
 | _=>cq
theorem bQ.W4(g:G)(w:World): ∀ (l:List UInt8),bQ g w (l.map fun b=>AV.int .u8 (.ofNat b.toNat)) (l.map fun b=>Value.int .u8 (b.toNat:Int))
 | []=>by simp[bQ]
 |b::l=>by
  simp only[List.map_cons,bQ]
  exact⟨_,_,rfl,by simp only[VR];rfl,bQ.W4 g w l⟩
omit [Io] in
theorem og(w:World)(t tn ty e:TypeId)(i:TypeInfo)(ht:P.underlying t=some (.slice e))(Sr:P.underlying tn=some .string)(hi:P.info? e=some i)(s:ByteArray)(hs:s.size=0)(b:Option Addr)(dc eH:Nat)(h:dc<=eH):
 (Builtin.append_ #[t,tn] ty #[.slice b dc eH,.string s]).run P w=.ok (.slice b dc eH) w:=by
 have h1:(Array.map (fun b:UInt8=>Value.int IntKind.u8 (b.toNat:Int)) s.data).extract 0 0= #[]:=by simp
 cases b<;>simp[Builtin.append_,run_underlying ht,run_underlying Sr,sizeOf,typeInfo,hi,Builtin.lenOf,Builtin.firstCells,hs,h,h1,storeCells]
omit [Io] in
theorem sO(w:World)(t tn ty e:TypeId)(i:TypeInfo)(ht:P.underlying t=some (.slice e))(Sr:P.underlying tn=some .string)(hi:P.info? e=some i)(BH:i.size=1)(s:ByteArray)
 (g at_ dc eH:Nat)(cur:Array Value)(el:FT cur)(hg:w.heap[g]? =some (.cells cur el.el el.fz))
 (lS:dc+s.size<=eH)(qx:at_+dc*i.size+(Lib.strCells s).length<=cur.size):
 (Builtin.append_ #[t,tn] ty #[.slice (some ⟨g,at_,none⟩) dc eH,.string s]).run P w=
  .ok (.slice (some ⟨g,at_,none⟩) (dc+s.size) eH) (w.setRow g (cur.toList.take (at_+dc*i.size)++(Lib.strCells s)++cur.toList.drop (at_+dc*i.size+(Lib.strCells s).length)).toArray):=by
 have qe:=eN P g (at_+dc*i.size) el.el el.fz (Lib.strCells s) 0 cur w hg el.ok (by simpa using qx) (by
  intro v hv
  obtain⟨b,_,rfl⟩:=List.mem_map.1 hv
  rfl)
 simp only[Nat.add_zero]at qe
 have hf:=Lib.run_firstCells_string (P:=P) w i.size s
 simp[Builtin.append_,run_underlying ht,run_underlying Sr,sizeOf,typeInfo,hi,Builtin.lenOf,lS,hf,gL]
 have Ss:(storeCells ⟨g,at_+dc*i.size,none⟩ (Lib.strCells s)).run P w=_:=qe
 rw[Ss]
 simp
theorem Fo{T T':TypeId}{s x:Operand}(ho:o.op=.call {callee:=.builtin .append,args:= #[s,x],argTypes:= #[T,T']}):lQ P o (Dt P T T' s x):=by
 intro g w nt t h a v h' H Tr e
 unfold Dt at e
 cases hu:P.underlying T with
 |none=>rw[hu]at e;cases e
 |some d=>
 rw[hu]at e
 cases d<;>try (cases e;done)
 rename_i el
 simp only at e
 cases B8:P.underlying T' with
 |none=>rw[B8]at e;cases e
 |some d'=>
 rw[B8]at e
 cases d'<;>try (cases e;done)
 simp only at e
 cases mu:P.info? el with
 |none=>rw[mu]at e;cases e
 |some ie=>
 rw[mu]at e
 cases hz:zeroOf P el with
 |none=>simp only[hz]at e;cases e
 |some z=>
 simp only[hz]at e
 cases hb:(Nat.beq (len z) ie.size&&(Nat.beq ie.size 1&&Nat.blt 0 ie.bytes))with
 |false=>rw[hb]at e;cases e
 |true=>
 rw[hb]at e
 simp only[Bool.and_eq_true,cF]at hb
 have WU:=Nat.eq_of_beq_eq_true hb.1
 have BH:ie.size=1:=Nat.eq_of_beq_eq_true hb.2.1
 have h0:0<ie.size:=by omega
 obtain⟨i,zv,hi,ux,Dq⟩:=gM hz
 obtain rfl:ie=i:=by rw[mu]at hi;exact Option.some.inj hi
 have q7:zv.cells.size=ie.size:=by
  have:=(Dq g w).length
  simp only[Array.length_toList]at this
  omega
 change qU ie.bytes (ba s) (ba x) t h=.ok v h' at e
 unfold qU at e
 split at e
 ·rename_i av hs
  split at e
  ·rename_i b hx
   have eE:=bB s _ _ _ _ _ _ Tr hs
   have BE:=bB x _ _ _ _ _ _ Tr hx
   simp only[VR]at BE
   have BE:a.eval x=.string b:=BE.1
   have hex: ∀ vs r w',a.eval s=vs->(Builtin.append_ #[T,T'] o.type #[vs,.string b]).run P w=.ok r w'->(execOp a.eval o).run P w=.ok (.value r) w':=by
    intro vs r w' h1 h3
    unfold execOp
    simp only[ho,resolve,invoke,builtin,Sem.run_bind,Sem.run_pure,Result.andThen_ok,List.map_toArray,List.map_cons,List.map_nil,h1,BE,h3]
   cases hE:(qu av&&Nat.beq b.size 0)with
   |true=>
    rw[hE]at e
    cases e
    rw[Bool.and_eq_true]at hE
    obtain⟨p,tT⟩:=uZ hE.1 eE
    refine⟨g,w,_,a.eval s,hex _ _ _ rfl ?_,.inl rfl,Ext.refl _ _ _,H,eE⟩
    rw[tT]
    exact og w T T' o.type el ie hu B8 mu b (Nat.eq_of_beq_eq_true hE.2) p 0 0 (Nat.le_refl _)
   |false=>
    rw[hE]at e
    simp only[cond_false]at e
    rw[<-BH]at e
    refine o3 (el:=el) H (BW eE) h0 q7 hex (fun hn p ln cap hle=>og w T T' o.type el ie hu B8 mu b hn p ln cap hle) (fun hn hlen=>?_) e
    refine⟨b.data.toList.map fun b=>Value.int .u8 (b.toNat:Int),bQ.W4 g w _,⟨fun hp Fl BG=>?_,fun p dc eH wF W0 W3 hp fO Fl BG=>?_,fun p at_ dc eH cur el' hw hp Fl BG qf lS qx=>?_⟩⟩
    ·have:=run_append_nil_string (P:=P) w T T' o.type el ie zv hu B8 mu ux b hp (by omega) (by omega)
     rw[this]
     congr 4
     apply Array.ext'
     simp
    ·have:=Lib.run_append_grow_string (P:=P) w T T' o.type el ie zv hu B8 mu ux p dc eH wF W0 W3 b fO (by omega) (growslice_fits (by omega) (by omega))
     rw[this]
     rfl
    ·exact sO w T T' o.type el ie hu B8 mu BH b p at_ dc eH cur el' hw lS qx
  ·cases e
 ·cases e
def Du(P:Program)(T T':TypeId)(s x:Operand):eP:=
 match P.underlying T' with
 |some .string=>Dt P T T' s x
 | _=>Ds P T T' s x
theorem Fp{T T':TypeId}{s x:Operand}(ho:o.op=.call {callee:=.builtin .append,args:= #[s,x],argTypes:= #[T,T']}):lQ P o (Du P T T' s x):=by
 unfold Du
 split
 ·exact Fo ho
 ·exact Fm ho
end
end Go.Ab

noncomputable section
namespace Go.Ab
variable [Io]
section
variable {P:Program}{o:Oper}
theorem Mv{g w h}(H:HR g w h){w':World}(h1:w'.os=w.os)(h2:w'.tape=w.tape)(h3:w'.output=w.output)(h4:w'.heap.size=w.heap.size+1)
 (h5: ∀ b,b<w.heap.size->w'.heap[b]? =w.heap[b]?):
 Ext g w h ⟨g.m,fun b=>g.eL b∨b=w.heap.size⟩ w' h/\HR ⟨g.m,fun b=>g.eL b∨b=w.heap.size⟩ w' h:=by
 have akm: ∀ b,ik g h b->b<w.heap.size:=by
  rintro b ⟨id,cs,s,e,m⟩
  obtain⟨_,_,_,hw,_⟩:=H.row e m
  exact(Array.getElem?_eq_some_iff.1 hw).1
 have E:Ext g w h ⟨g.m,fun b=>g.eL b∨b=w.heap.size⟩ w' h:=by
  refine⟨h1,h2,h3,by omega,Nat.le_refl _,fun _ _ e=>e,fun b hb _=>h5 b hb,?_,fun _ i=>.inl i,?_,fun _ o=>.inl o⟩
  ·intro b
   unfold ed
   by_cases hb:b<w.heap.size
   ·rw[h5 b hb];exact Nat.le_refl _
   ·rw[Array.getElem?_eq_none (by omega)];exact Nat.zero_le _
  ·rintro b (i|rfl)
   ·exact .inl i
   ·exact .inr (.inr (Nat.le_refl _))
 refine⟨E,H.fresh,?_,H.inj,?_,kY.ext H E⟩
 ·intro id cs e
  obtain⟨b,s,C,el,vs,hm,hw,hi,hv,hc⟩:=H.aU id cs e
  have hb:=(Array.getElem?_eq_some_iff.1 hw).1
  refine⟨b,s,C,el,vs,hm,by rw[h5 b hb];exact hw,?_,bQ.mono H E _ _ hv,hc⟩
  rintro(i|rfl)
  ·exact hi i
  ·omega
 ·rintro b (i|rfl)
  ·have:=H.eL b i;omega
  ·omega
def B9(s:ByteArray):List Value:=s.data.toList.map fun b=>Value.int .u8 (.ofNat b.toNat)
omit [Io] in
theorem Fs(w:World)(e:TypeId)(s:ByteArray): ∃ cap w',∃ C:Array Value,∃ el:FT C,(Conv.stringToBytes e s).run P w=.ok (.slice (some ⟨w.heap.size,0,none⟩) s.size cap) w'/\s.size<=cap/\cap<=C.size/\
 w'.os=w.os/\w'.tape=w.tape/\w'.output=w.output/\w'.heap.size=w.heap.size+1/\(∀ b,w'.heap[b]? =if b=w.heap.size then some (.cells C el.el el.fz)else w.heap[b]?)/\(∀ (j:Nat) (v:Value),(B9 s)[j]? =some v->C[j]? =some v):=by
 obtain⟨cap,q8⟩: ∃ cap,cap=(Question.appendCap s.size 0 e).cut (w.tape w.drawn (.appendCap s.size 0 e)):=⟨_,rfl⟩
 have Ht:s.size<=cap:=by rw[q8];simp[Question.cut]
 obtain⟨C,hC⟩: ∃ C:Array Value,C=s.data.map (fun b=>Value.int .u8 (b.toNat:Int))++Array.replicate (cap - s.size) (.int .u8 0):=⟨_,rfl⟩
 have hCs:C.size=cap:=by rw[hC];simp;show s.size+_=_;omega
 refine⟨cap,(w.drew.alloc (.cells C e)).freeze {block:=w.heap.size,off:=C.size} 1,C,⟨e,(C.size,C.size+1),.inr (Nat.le_refl _)⟩,?_,Ht,by omega,rfl,rfl,rfl,?_,?_,?_⟩
 ·have hsh:(w.drew.alloc (.cells C e)).shape? w.heap.size=some (e,C.size):=by
   have:((w.drew.alloc (.cells C e)).heap)[w.heap.size]? =some (.cells C e):=by
    show(w.heap.push _)[w.heap.size]? =_
    simp
   simp only[World.shape?,this]
  simp[Conv.stringToBytes,run_choose,Question.forced,<-q8,<-hC,newRow,markStringish,hsh]
 ·simp[World.freeze]
 ·intro b
  have h1:((w.drew.alloc (.cells C e)).heap)[b]? =if b=w.heap.size then some (.cells C e)else w.heap[b]? :=by
   show(w.heap.push _)[b]? =_
   rw[Array.getElem?_push]
  simp only[World.freeze,Nat.one_ne_zero,if_false]
  rw[Array.getElem?_modify,h1]
  by_cases hb:b=w.heap.size
  ·subst hb
   rw[if_pos rfl,if_pos rfl,if_pos rfl]
   rfl
  ·rw[if_neg hb,if_neg hb,if_neg (by show ¬ w.heap.size=b;omega)]
 ·intro j v hj
  unfold B9 at hj
  have hl:=(List.getElem?_eq_some_iff.1 hj).1
  rw[hC,Array.getElem?_append_left (by simpa using hl)]
  simpa using hj
theorem bQ.bytes(g:G)(w:World): ∀ (l:List UInt8),bQ g w (l.map fun b=>AV.int .u8 (.ofNat b.toNat)) (l.map fun b=>Value.int .u8 (.ofNat b.toNat))
 | []=>by simp[bQ]
 |b::l=>by
  simp only[List.map_cons,bQ]
  exact⟨_,_,rfl,by simp only[VR],bQ.bytes g w l⟩
theorem Ca{S D e:TypeId}{d:TypeDesc}{x:Operand}(ho:o.op=.convert S D x)(hS:P.underlying S=some d)(hD:P.underlying D=some (.slice e))(he:P.underlying e=some (.int .u8)):
 lQ P o (nH (ba x)):=by
 intro g w nt t h a v h' H Tr ev
 unfold nH at ev
 split at ev
 ·rename_i s hx
  have hv:=bB x _ _ _ _ _ _ Tr hx
  simp only[VR]at hv
  cases ev
  obtain⟨hv,_⟩:=hv
  obtain⟨cap,w',C,el,hr,Ht,hcC,h1,h2,h3,h4,h5,hc⟩:=Fs (P:=P) w e s
  obtain⟨E,H'⟩:=zF H el h1 h2 h3 h4 h5 (cs:=uq (s.data.toList.map fun b=>.int .u8 (.ofNat b.toNat))) (vs:=B9 s) (by rw[hJ];exact bQ.bytes g w s.data.toList) hc
  refine⟨_,w',.value (.slice (some ⟨w.heap.size,0,none⟩) s.size cap),_,?_,.inl rfl,E,H',?_⟩
  ·simp[execOp,ho,hv,convert,run_underlying hS,run_underlying hD,run_underlying he,hr]
  ·simp only[VR]
   refine .inr ⟨w.heap.size,0,cap,by simp[G.add],rfl,Ht,?_⟩
   have:w'.heap[w.heap.size]? =some (.cells C el.el el.fz):=by rw[h5,if_pos rfl]
   rw[iV this]
   omega
 ·cases ev
theorem Ft{D e:TypeId}{x:Operand}(ho:o.op=.convert D D x)(hD:P.underlying D=some (.slice e))(he:P.underlying e=some (.int .u8)):lQ P o (qb (ba x)):=by
 intro g w nt t h a v h' H Tr ev
 unfold qb at ev
 split at ev
 ·rename_i id off n sz hx
  have hv:=bB x _ _ _ _ _ _ Tr hx
  have nF:=hv
  cases hn:Nat.beq n 0 with
  |true=>rw[hn]at ev;cases ev
  |false=>
  rw[hn]at ev
  simp only[cond_false]at ev
  split at ev
  ·rename_i cs hg
   cases ev
   simp only[VR]at hv
   rcases hv with⟨rfl,_⟩|⟨b,s,cap,hm,hv,hc,_⟩
   ·cases hn
   obtain⟨C,el,vs,hw,hi,eE,Mt⟩:=H.row hg hm
   have hsh:w.shape? b=some (el.el,C.size):=by simp only[World.shape?,hw]
   have hok:=el.ok'
   obtain⟨E,H'⟩:=Hs H (w':=w.freeze {block:=b,off:=C.size} 1) (el:=el) (el':=⟨el.el,if el.fz.1 == el.fz.2 then(C.size,C.size+1)else(min el.fz.1 C.size,max el.fz.2 (C.size+1)),by
    by_cases h0:el.fz.1=el.fz.2
    ·simp[h0]
    ·simp only[beq_iff_eq,h0,if_false]
     right
     show C.size<=min el.fz.1 C.size
     omega⟩) hg hm hw rfl rfl rfl (by simp[World.freeze]) (fun k=>by
    simp only[World.freeze,Nat.one_ne_zero,if_false]
    rw[Array.getElem?_modify]
    by_cases hk:k=b
    ·subst hk
     rw[if_pos rfl,if_pos rfl,hw]
     rfl
    ·rw[if_neg hk,if_neg (fun q=>hk q.symm)])
   refine⟨g,_,.value (a.eval x),a.eval x,?_,.inl rfl,E,H',VR.mono H E _ _ nF⟩
   rw[hv]
   simp[execOp,ho,hv,convert,run_underlying hD,run_underlying he,markStringish,hsh]
  ·cases ev
 ·cases ev
omit [Io] in
theorem yg{P:Program}(t:TypeId)(w:World):(Instr.makeMap t none).run P w=.ok (.map (some w.heap.size)) (w.alloc (.map #[] 0)):=rfl
theorem Hu{T:TypeId}(ho:o.op=.makeMap T none):lQ P o E7:=by
 intro g w nt t h a v h' H Tr ev
 cases ev
 obtain⟨E,H'⟩:=Mv H (w':=w.alloc (.map #[] 0)) rfl rfl rfl (by show(w.heap.push _).size=_;rw[Array.size_push]) (fun b hb=>by
  show(w.heap.push _)[b]? =_
  rw[Array.getElem?_push,if_neg (by omega)])
 exact⟨_,_,.value (.map (some w.heap.size)),_,by simp[execOp,ho,yg],.inl rfl,E,H',by simp only[VR];rfl⟩
end
end Go.Ab

noncomputable section
namespace Go.Ab
variable [Io]
section
variable {P:Program}
theorem fG{op:BinOp}{T:TypeId}{f s:AV->AV->Option AV}(hf:dw P op T f)
 (hs: ∀ (a b r:AV),s a b=some r->(∀ (g:G) (w:World) (u v:Value),VR g w a u->VR g w b v-> ∃ k m k' n r0,u=.int k m/\v=.int k' n/\f (.int k m) (.int k' n)=some r0/\ ∀ z,VR g w r0 z->VR g w r z)):
 dw P op T (tR f s):=by
 intro g w a b r u v ha hb h
 unfold tR at h
 cases hr:f a b with
 |some r'=>
  rw[hr]at h
  cases h
  exact hf g w a b r u v ha hb hr
 |none=>
  rw[hr]at h
  obtain⟨k,m,k',n,r0,rfl,rfl,h1,h2⟩:=hs a b r h g w u v ha hb
  obtain⟨z,hz,hv,hg⟩:=hf g w (.int k m) (.int k' n) r0 (.int k m) (.int k' n) (by simp only[VR]) (by simp only[VR]) h1
  exact⟨z,hz,h2 z hv,hg⟩
def aeT(f s:AV->AV->Option AV):Prop:= ∀ (a b r:AV),s a b=some r->(∀ (g:G) (w:World) (u v:Value),VR g w a u->VR g w b v-> ∃ k m k' n r0,u=.int k m/\v=.int k' n/\f (.int k m) (.int k' n)=some r0/\ ∀ z,VR g w r0 z->VR g w r z)
theorem kQ{f:AV->AV->Option AV}:aeT f zq:=by
 intro a b r h
 cases h
omit [Io] in
theorem Mw{a b:Int}:p5 a b=false↔b<=a:=by rw[iO];simp
omit [Io] in
theorem gx{a b:Int}:eqI a b=true↔a=b:=by rw[sJ];simp
omit [Io] in
theorem zS{l:List Nat}: ∀ {m:List Nat},sB l m=true↔l=m:=by
 induction l with
 |nil=>intro m;cases m<;>simp[sB]
 |cons a l ih=>
  intro m
  cases m with
  |nil=>simp[sB]
  |cons b m=>
   show(bif Nat.beq a b then sB l m else false)=true↔_
   cases e:Nat.beq a b with
   |true=>
    rw[Nat.eq_of_beq_eq_true e]
    show sB l m=true↔_
    rw[ih];simp
   |false=>
    have:a≠b:=fun e'=>by subst e';rw[Nat.beq_refl]at e;cases e
    simp[this]
omit [Io] in
theorem Fu{a b:SV}(h:mY a b=true):a=b:=by
 cases a<;>cases b<;>simp[mY,gx,zS]at h<;>simp[h]
omit [Io] in
theorem Hv{a:SV}: ∀ {b:SV},E5 a b=true->a=b:=by
 induction a with
 |tm f k k' a oa b ob qv uT=>
  intro y h
  cases y with
  |tm f2 k2 k2' a2 oa2 b2 ob2=>
   change (Nat.beq f f2&&(ka k k2&&(ka k' k2'&&(eqI oa oa2&&(eqI ob ob2&&(E5 a a2&&E5 b b2))))))=true at h
   simp only[Bool.and_eq_true]at h
   obtain⟨h1,h2,h3,h4,h5,h6,h7⟩:=h
   rw[Nat.eq_of_beq_eq_true h1,eY.1 h2,eY.1 h3,gx.1 h4,gx.1 h5,qv h6,uT h7]
  | _=>cases h
 |ix l a o qv=>
  intro y h
  cases y with
  |ix l2 a2 o2=>
   change (sB l l2&&(eqI o o2&&E5 a a2))=true at h
   simp only[Bool.and_eq_true]at h
   obtain⟨h1,h2,h3⟩:=h
   rw[zS.1 h1,gx.1 h2,qv h3]
  | _=>cases h
 | _=>intro y h;exact Fu h
omit [Io] in
theorem cD{α:Type}{b:Bool}{x:Option α}{r:α}(h:(bif b then x else none)=some r):b=true/\x=some r:=by
 cases b
 ·cases h
 ·exact⟨rfl,h⟩
theorem Su{a b:AV}{c:Bool}(h:QC a b=some c){g:G}{w:World}{u v:Value}(ha:VR g w a u)(hb:VR g w b v): ∃ k m n,u=.int k m/\v=.int k n/\c=decide (m=n):=by cases h
theorem Hw{a b:AV}{c:Bool}(h:WI a b=some c){g:G}{w:World}{u v:Value}(ha:VR g w a u)(hb:VR g w b v): ∃ k m n,u=.int k m/\v=.int k n/\c=decide (m<n):=by cases h
theorem Hx(T:TypeId):dw P .add T aY:=fG (LZ T) kQ
theorem Hy(T:TypeId):dw P .sub T dk:=fG (L0 T) kQ
theorem Hz(T:TypeId):dw P .and T dO:=fG (Md T) kQ
theorem HA(T:TypeId):dw P .or T kb:=fG (Sj T) kQ
theorem HB(T:TypeId):dw P .xor T w6:=fG (Me T) kQ
theorem HD(T:TypeId):dw P .shl T iU:=fG (Mf T) kQ
theorem HF(T:TypeId):dw P .shr T dY:=fG (Mg T) kQ
theorem HG(T:TypeId):dw P .lss T aX:=fG (L4 T) kQ
theorem HH(T:TypeId):dw P .gtr T dN:=fG (L5 T) kQ
theorem HI(T:TypeId):dw P .leq T dL:=fG (L6 T) kQ
theorem HJ(T:TypeId):dw P .geq T cA:=fG (L8 T) kQ
theorem HK(T:TypeId):dw P .rem T p':=fG (L3 T) kQ
theorem HL(T:TypeId):dw P .quo T qQ:=fG (L2 T) kQ
theorem HM(T:TypeId):dw P .mul T iy:=fG (L1 T) kQ
theorem HO(T:TypeId):dw P .eql T (ak false):=fG (L9 T) kQ
theorem HP(T:TypeId):dw P .neq T (ak true):=fG (L' T) kQ
theorem Mx{k:IntKind}{b v:AV}{g:G}{w:World}{u:Value}(hf:aP k b=some v)(hv:VR g w b u): ∃ k' m r0,u=.int k' m/\GU k (.int k' m)=some r0/\ ∀ z,VR g w r0 z->VR g w v z:=by
 unfold aP WM at hf
 cases hr:GU k b with
 |some r=>
  rw[hr]at hf
  cases hf
  unfold GU at hr
  split at hr
  ·cases hr
   simp only[VR]at hv
   exact⟨_,_,_,hv,rfl,fun z h=>h⟩
  ·cases hr
 |none=>
  rw[hr]at hf
  cases hf
theorem Cb{o:Oper}{S D:TypeId}{d:TypeDesc}{k:IntKind}{x:Operand}(ho:o.op=.convert S D x)(hS:P.underlying S=some d)(hD:P.underlying D=some (.int k)):
 cy P o (cE (aP k) (ba x)):=by
 intro g w nt t h a v h' H Tr e
 obtain⟨b,hb,hf,rfl⟩:=qZ e
 have hv:=bB x _ _ _ _ _ _ Tr hb
 obtain⟨k',m,r0,nF,hr,hz⟩:=Mx hf hv
 cases hr
 exact⟨rfl,.int k (k.wrap m),by simp[execOp,ho,nF,convert,run_underlying hS,run_underlying hD,Conv.intToInt],hz _ (by simp only[VR,kd])⟩
theorem HQ{x y:Operand}{qy:Array TypeId}{o:Oper}(ho:o.op=.call {callee:=.builtin .min,args:= #[x,y],argTypes:=qy}):cy P o (sD (ba x) (ba y)):=by
 intro g w nt t h a v h' H Tr e
 unfold sD ae at e
 cases hx:ba x t with
 |none=>rw[hx]at e;cases e
 |some ax=>
  cases hy:ba y t with
  |none=>rw[hx,hy]at e;cases e
  |some ay=>
   rw[hx,hy]at e
   have h3:=bB x _ _ _ _ _ _ Tr hx
   have h4:=bB y _ _ _ _ _ _ Tr hy
   unfold tR at e
   cases hr:mX (fun k a b=>some (.int k (bif p5 b a then b else a))) ax ay with
   |some r=>
    simp only[hr]at e
    cases e
    obtain⟨k,m,n,rfl,rfl,h2⟩:=sK hr
    cases h2
    simp only[VR]at h3 h4
    refine⟨rfl,.int k (if n<m then n else m),by simp[execOp,ho,resolve,invoke,builtin,Builtin.min_,Builtin.min2,h3,h4],?_⟩
    simp only[VR,iO]
    by_cases fO:n<m<;>simp[fO]
   |none=>
    simp only[hr]at e
    cases hl:WI ay ax with
    |none=>rw[hl]at e;cases e
    |some c=>
     rw[hl]at e
     cases e
     obtain⟨k,p,q,e1,e2,rfl⟩:=Hw hl h4 h3
     have hex:(execOp a.eval o).run P w=.ok (.value (.int k (if p<q then p else q))) w:=by
      simp[execOp,ho,resolve,invoke,builtin,Builtin.min_,Builtin.min2,e1,e2]
     refine⟨rfl,_,hex,?_⟩
     by_cases fO:p<q
     ·simp only[fO,decide_true,cond_true,if_true,gt_iff_lt]
      rw[e1]at h4
      exact h4
     ·simp only[fO,decide_false,cond_false,if_false,gt_iff_lt]
      rw[e2]at h3
      exact h3
theorem HU{x y:Operand}{qy:Array TypeId}{o:Oper}(ho:o.op=.call {callee:=.builtin .max,args:= #[x,y],argTypes:=qy}):cy P o (wD (ba x) (ba y)):=by
 intro g w nt t h a v h' H Tr e
 unfold wD ae at e
 cases hx:ba x t with
 |none=>rw[hx]at e;cases e
 |some ax=>
  cases hy:ba y t with
  |none=>rw[hx,hy]at e;cases e
  |some ay=>
   rw[hx,hy]at e
   have h3:=bB x _ _ _ _ _ _ Tr hx
   have h4:=bB y _ _ _ _ _ _ Tr hy
   unfold tR at e
   cases hr:mX (fun k a b=>some (.int k (bif p5 a b then b else a))) ax ay with
   |some r=>
    simp only[hr]at e
    cases e
    obtain⟨k,m,n,rfl,rfl,h2⟩:=sK hr
    cases h2
    simp only[VR]at h3 h4
    refine⟨rfl,.int k (if n>m then n else m),by simp[execOp,ho,resolve,invoke,builtin,Builtin.max_,Builtin.max2,h3,h4],?_⟩
    simp only[VR,iO]
    by_cases fO:m<n<;>simp[fO]
   |none=>
    simp only[hr]at e
    cases hl:WI ax ay with
    |none=>rw[hl]at e;cases e
    |some c=>
     rw[hl]at e
     cases e
     obtain⟨k,p,q,e1,e2,rfl⟩:=Hw hl h3 h4
     have hex:(execOp a.eval o).run P w=.ok (.value (.int k (if q>p then q else p))) w:=by
      simp[execOp,ho,resolve,invoke,builtin,Builtin.max_,Builtin.max2,e1,e2]
     refine⟨rfl,_,hex,?_⟩
     by_cases fO:p<q
     ·simp only[fO,decide_true,cond_true,if_true,gt_iff_lt]
      rw[e2]at h4
      exact h4
     ·simp only[fO,decide_false,cond_false,if_false,gt_iff_lt]
      rw[e1]at h3
      exact h3
end
end Go.Ab
