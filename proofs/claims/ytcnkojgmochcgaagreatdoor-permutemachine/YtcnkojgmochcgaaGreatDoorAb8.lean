import Derived.Test.YtcnkojgmochcgaaGreatDoorAb3
import Derived.Lib.AppendZerosOnto
import Derived.Lib.AppendStr
import Derived.Laws.StructEq
noncomputable section
namespace Go.Ab
variable [Io]
section
variable {P:Program}{o:Oper}
theorem G5{g w h}(H:HR g w h):Ext g w h g w.drew h/\HR g w.drew h:=by
 have E:Ext g w h g w.drew h:=
  ⟨rfl,rfl,rfl,Nat.le_refl _,Nat.le_refl _,fun _ _ e=>e,fun _ _ _=>rfl,fun _=>Nat.le_refl _,fun _ i=>i,fun _ i=>.inl i,fun _ o=>.inl o⟩
 refine⟨E,H.fresh,?_,H.inj,H.nQ,s7.ext H E⟩
 intro id cs e
 obtain⟨b,s,C,el,vs,hm,hw,hi,hv,hc⟩:=H.cw id cs e
 exact⟨b,s,C,el,vs,hm,hw,hi,cH.mono H E _ _ hv,hc⟩
theorem RH{g w h}(H:HR g w h)(id:Nat):Ext g w h g w (qx h id none)/\HR g w (qx h id none):=by
 have hg: ∀ i,(qx h id none).cw.get i=if i=id then none else h.cw.get i:=fun i=>Tr.qQ _ _ _ _
 have E:Ext g w h g w (qx h id none):=by
  refine⟨rfl,rfl,rfl,Nat.le_refl _,Nat.le_refl _,fun _ _ e=>e,fun _ _ _=>rfl,fun _=>Nat.le_refl _,fun _ i=>i,fun _ i=>.inl i,?_⟩
  rintro b ⟨i,cs,s,e,m⟩
  rw[hg]at e
  by_cases hi:i=id
  ·rw[if_pos hi]at e;cases e
  ·rw[if_neg hi]at e
   exact .inl ⟨i,cs,s,e,m⟩
 refine⟨E,H.fresh,?_,?_,H.nQ,s7.ext H E⟩
 ·intro i cs e
  rw[hg]at e
  by_cases hi:i=id
  ·rw[if_pos hi]at e;cases e
  ·rw[if_neg hi]at e
   obtain⟨b,s,C,el,vs,hm,hw,hi,hv,hc⟩:=H.cw i cs e
   exact⟨b,s,C,el,vs,hm,hw,hi,cH.mono H E _ _ hv,hc⟩
 ·intro i i' b s s' c1 c2 e1 e2
  rw[hg]at e1 e2
  by_cases h1:i=id
  ·rw[if_pos h1]at e1;cases e1
  ·by_cases h2:i'=id
   ·rw[if_pos h2]at e2;cases e2
   ·rw[if_neg h1]at e1
    rw[if_neg h2]at e2
    exact H.inj i i' b s s' c1 c2 e1 e2
omit [Io] in
theorem nS(P:Program)(g o:Nat)(t:TypeId)(fz:Nat×Nat): ∀ (vs:List Value) (i:Nat) (cur:Array Value) (w:World),w.heap[g]? =some (.cells cur t fz)->(∀ i,i<cur.size-> ¬ (fz.1<=i/\i<fz.2))->
 o+i+vs.length<=cur.size->(∀ v∈vs,v.oneCell'=true)->
 (storeCells ⟨g,o,none⟩ vs i).run P w=.ok () (w.setRow g (cur.toList.take (o+i)++vs++cur.toList.drop (o+i+vs.length)).toArray)
 | [],i,cur,w,hg,_,_,_=>by
  simp only[storeCells,List.append_nil,List.length_nil,Nat.add_zero,List.take_append_drop,Array.toArray_toList]
  rw[setRow_self w g cur t fz hg]
  rfl
 |v::rest,i,cur,w,hg,hfz,hl,h1=>by
  have hi:o+i<cur.size:=by simp at hl;omega
  have anD:(⟨g,o,none⟩:Addr).add i=⟨g,o+i,none⟩:=by unfold Addr.add;split<;>simp_all
  have ah4:w.cell? ⟨g,o+i,none⟩=some cur[o+i]:=by simp[World.cell?,hg,hi]
  have anE:w.frozen? ⟨g,o+i,none⟩=false:=by
   have:=hfz (o+i) hi
   obtain⟨lo,vw⟩:=fz
   simp only[World.frozen?,hg]
   simp only at this
   rw[Bool.eq_false_iff]
   intro h
   simp only[Bool.and_eq_true,decide_eq_true_eq]at h
   exact this h
  have uP:(store ((⟨g,o,none⟩:Addr).add i) v).run P w=.ok () (w.setRow g (cur.setIfInBounds (o+i) v)):=by
   rw[anD,run_store P w _ v _ (h1 v (by simp)),ah4]
   simp[anE,setCell_eq_setRow w g (o+i) cur t fz v hg]
  have ih:=nS P g o t fz rest (i+1) (cur.setIfInBounds (o+i) v) (w.setRow g (cur.setIfInBounds (o+i) v)) (setRow_heap w g cur _ t _ hg) (by simpa using hfz) (by simp at hl ⊢;omega) (fun x hx=>h1 x (by simp[hx]))
  simp only[storeCells,Sem.run_bind,uP,Result.andThen_ok,ih,setRow_setRow]
  congr 3
  have e:=list_seg_step cur.toList (o+i) v rest (by simp at hl ⊢;omega)
  simpa[Array.toList_setIfInBounds,Nat.add_assoc]using e
omit [Io] in
theorem po{w:World}{b:Nat}{C C':Array Value}{el:TypeId}{fz:Nat×Nat}(hw:w.heap[b]? =some (.cells C el fz))(k:Nat):
 (w.setRow b C').heap[k]? =if k=b then some (.cells C' el fz)else w.heap[k]? :=by
 by_cases hk:k=b
 ·subst hk;rw[if_pos rfl];exact setRow_heap w k C C' el fz hw
 ·rw[if_neg hk];exact setRow_other w b k C' hk
theorem Pb{g w h}(H:HR g w h){id b s s':Nat}{cs cs':Rw}{C C':Array Value}{el:FT C}{us:List Value}(he:h.cw.get id=some cs)(hm:g.m id=some (b,s))
 (hw:w.heap[b]? =some (.cells C el.el el.fz))(hs:C'.size=C.size)(hv:cH g w cs'.toL us)(hc: ∀ (j:Nat) (v:Value),us[j]? =some v->C'[s'+j]? =some v):
 Ext g w h ⟨fun i=>if i=h.next then some (b,s')else g.m i,g.nQ⟩ (w.setRow b C') (nn (qx h id none) cs')/\
  HR ⟨fun i=>if i=h.next then some (b,s')else g.m i,g.nQ⟩ (w.setRow b C') (nn (qx h id none) cs'):=by
 have hob:qc g h b:=⟨id,cs,s,he,hm⟩
 have hg: ∀ i,(nn (qx h id none) cs').cw.get i=if i=h.next then some cs' else if i=id then none else h.cw.get i:=by
  intro i
  show((h.cw.set id none).set h.next (some cs')).get i=_
  rw[Tr.qQ,Tr.qQ]
 have xg: ∀ i x,g.m i=some x->i≠h.next:=by
  intro i x e hi
  rw[H.fresh i (by omega)]at e;cases e
 have E:Ext g w h ⟨fun i=>if i=h.next then some (b,s')else g.m i,g.nQ⟩ (w.setRow b C') (nn (qx h id none) cs'):=by
  refine⟨rfl,rfl,rfl,by simp,Nat.le_succ _,?_,?_,?_,fun _ i=>i,fun _ i=>.inl i,?_⟩
  ·intro i x e
   simp only[if_neg (xg i x e)]
   exact e
  ·intro k _ ho
   rw[po hw,if_neg]
   rintro rfl
   exact ho hob
  ·intro k
   unfold nE
   rw[po hw]
   by_cases hk:k=b
   ·subst hk;simp[hw,hs]
   ·rw[if_neg hk];exact Nat.le_refl _
  ·rintro k ⟨i,c,q,e,m⟩
   rw[hg]at e
   by_cases hi:i=h.next
   ·simp only[if_pos hi]at m
    obtain⟨rfl,_⟩:=Prod.mk.inj (Option.some.inj m)
    exact .inl hob
   ·rw[if_neg hi]at e
    simp only[if_neg hi]at m
    by_cases h2:i=id
    ·rw[if_pos h2]at e;cases e
    ·rw[if_neg h2]at e
     exact .inl ⟨i,c,q,e,m⟩
 refine⟨E,?_,?_,?_,?_,s7.ext H E⟩
 ·intro i hi
  have vw:h.next+1<=i:=hi
  simp only
  rw[if_neg (by omega)]
  exact H.fresh i (by omega)
 ·intro i c e
  rw[hg]at e
  by_cases hi:i=h.next
  ·rw[if_pos hi]at e
   cases e
   exact⟨b,s',C',el.to hs,us,by simp[hi],by rw[po hw,if_pos rfl];rfl,fun k=>H.sS k hob,cH.mono H E _ _ hv,hc⟩
  ·rw[if_neg hi]at e
   by_cases h2:i=id
   ·rw[if_pos h2]at e;cases e
   ·rw[if_neg h2]at e
    obtain⟨b2,s2,C2,el2,W7,Pc,RI,JU,hv2,W8⟩:=H.cw i c e
    have GC:b2≠b:=by
     rintro rfl
     exact h2 (H.inj i id b2 s2 s c cs e he Pc hm)
    exact⟨b2,s2,C2,el2,W7,by simp only[if_neg hi];exact Pc,by rw[po hw,if_neg GC];exact RI,JU,cH.mono H E _ _ hv2,W8⟩
 ·intro i i' k q q' c1 c2 e1 e2 m1 m2
  rw[hg]at e1 e2
  have vG: ∀ i c q,i≠h.next->(if i=id then none else h.cw.get i)=some c->g.m i=some (b,q)->False:=by
   intro i c q _ e m
   by_cases h2:i=id
   ·rw[if_pos h2]at e;cases e
   ·rw[if_neg h2]at e
    exact h2 (H.inj i id b q s c cs e he m hm)
  by_cases h1:i=h.next<;>by_cases h2:i'=h.next
  ·exact h1.trans h2.symm
  ·rw[if_neg h2]at e2
   simp only[if_pos h1]at m1
   simp only[if_neg h2]at m2
   obtain⟨rfl,_⟩:=Prod.mk.inj (Option.some.inj m1)
   exact(vG i' _ _ h2 e2 m2).elim
  ·rw[if_neg h1]at e1
   simp only[if_neg h1]at m1
   simp only[if_pos h2]at m2
   obtain⟨rfl,_⟩:=Prod.mk.inj (Option.some.inj m2)
   exact(vG i _ _ h1 e1 m1).elim
  ·rw[if_neg h1]at e1
   rw[if_neg h2]at e2
   simp only[if_neg h1]at m1
   simp only[if_neg h2]at m2
   by_cases k1:i=id
   ·rw[if_pos k1]at e1;cases e1
   ·by_cases k2:i'=id
    ·rw[if_pos k2]at e2;cases e2
    ·rw[if_neg k1]at e1
     rw[if_neg k2]at e2
     exact H.inj i i' k q q' c1 c2 e1 e2 m1 m2
 ·intro k i
  have:=H.nQ k i
  simp
  omega
theorem RJ{g w h}(H:HR g w h){w':World}{id b s:Nat}{cs:Rw}{C:Array Value}{el el':FT C}(he:h.cw.get id=some cs)(hm:g.m id=some (b,s))
 (hw:w.heap[b]? =some (.cells C el.el el.fz))(h1:w'.os=w.os)(h2:w'.tape=w.tape)(h3:w'.output=w.output)(h4:w'.heap.size=w.heap.size)
 (hp: ∀ k,w'.heap[k]? =if k=b then some (.cells C el'.el el'.fz)else w.heap[k]?):Ext g w h g w' h/\HR g w' h:=by
 have hob:qc g h b:=⟨id,cs,s,he,hm⟩
 have E:Ext g w h g w' h:=by
  refine⟨h1,h2,h3,by omega,Nat.le_refl _,fun _ _ e=>e,?_,?_,fun _ i=>i,fun _ i=>.inl i,fun _ o=>.inl o⟩
  ·intro k _ ho
   rw[hp,if_neg]
   rintro rfl
   exact ho hob
  ·intro k
   unfold nE
   rw[hp]
   by_cases hk:k=b
   ·subst hk;simp[hw]
   ·rw[if_neg hk];exact Nat.le_refl _
 refine⟨E,H.fresh,?_,H.inj,?_,s7.ext H E⟩
 ·intro i c e
  obtain⟨b2,s2,C2,el2,W7,Pc,RI,JU,hv2,W8⟩:=H.cw i c e
  by_cases GC:b2=b
  ·subst GC
   rw[hw]at RI
   injection RI with RI
   injection RI with e1 e2 e3
   subst e1
   exact⟨b2,s2,C,el',W7,Pc,by rw[hp,if_pos rfl],JU,cH.mono H E _ _ hv2,W8⟩
  ·exact⟨b2,s2,C2,el2,W7,Pc,by rw[hp,if_neg GC];exact RI,JU,cH.mono H E _ _ hv2,W8⟩
 ·intro k i
  have:=H.nQ k i
  omega
theorem D8{g w h}(H:HR g w h){id b s:Nat}{cs cs':Rw}{C C':Array Value}{el:FT C}{us:List Value}(he:h.cw.get id=some cs)(hm:g.m id=some (b,s))
 (hw:w.heap[b]? =some (.cells C el.el el.fz))(hs:C'.size=C.size)(hv:cH g w cs'.toL us)(hc: ∀ (j:Nat) (v:Value),us[j]? =some v->C'[s+j]? =some v):
 Ext g w h g (w.setRow b C') (qx h id (some cs'))/\HR g (w.setRow b C') (qx h id (some cs')):=by
 have hob:qc g h b:=⟨id,cs,s,he,hm⟩
 have hg: ∀ i,(qx h id (some cs')).cw.get i=if i=id then some cs' else h.cw.get i:=fun i=>Tr.qQ _ _ _ _
 have live: ∀ i c,(if i=id then some cs' else h.cw.get i)=some c-> ∃ c',h.cw.get i=some c':=by
  intro i c e
  by_cases hi:i=id
  ·exact⟨cs,by rw[hi];exact he⟩
  ·rw[if_neg hi]at e;exact⟨c,e⟩
 have E:Ext g w h g (w.setRow b C') (qx h id (some cs')):=by
  refine⟨rfl,rfl,rfl,by simp,Nat.le_refl _,fun _ _ e=>e,?_,?_,fun _ i=>i,fun _ i=>.inl i,?_⟩
  ·intro k _ ho
   rw[po hw,if_neg]
   rintro rfl
   exact ho hob
  ·intro k
   unfold nE
   rw[po hw]
   by_cases hk:k=b
   ·subst hk;simp[hw,hs]
   ·rw[if_neg hk];exact Nat.le_refl _
  ·rintro k ⟨i,c,q,e,m⟩
   rw[hg]at e
   obtain⟨c',e'⟩:=live i c e
   exact .inl ⟨i,c',q,e',m⟩
 refine⟨E,H.fresh,?_,?_,?_,s7.ext H E⟩
 ·intro i c e
  rw[hg]at e
  by_cases hi:i=id
  ·rw[if_pos hi]at e
   cases e
   exact⟨b,s,C',el.to hs,us,by rw[hi];exact hm,by rw[po hw,if_pos rfl];rfl,fun k=>H.sS k hob,cH.mono H E _ _ hv,hc⟩
  ·rw[if_neg hi]at e
   obtain⟨b2,s2,C2,el2,W7,Pc,RI,JU,hv2,W8⟩:=H.cw i c e
   have GC:b2≠b:=by
    rintro rfl
    exact hi (H.inj i id b2 s2 s c cs e he Pc hm)
   exact⟨b2,s2,C2,el2,W7,Pc,by rw[po hw,if_neg GC];exact RI,JU,cH.mono H E _ _ hv2,W8⟩
 ·intro i i' k q q' c1 c2 e1 e2 m1 m2
  rw[hg]at e1 e2
  obtain⟨c1',XU⟩:=live i c1 e1
  obtain⟨c2',e2'⟩:=live i' c2 e2
  exact H.inj i i' k q q' c1' c2' XU e2' m1 m2
 ·intro k i
  have:=H.nQ k i
  simp
  omega
omit [Io] in
theorem MO{C:Array Value}{s off:Nat}{us ns:List Value}(hc: ∀ (j:Nat) (v:Value),us[j]? =some v->C[s+j]? =some v)(h:s+off+ns.length<=C.size):
 ∀ (j:Nat) (v:Value),(us.take off++(ns++us.drop (off+ns.length)))[j]? =some v->
  off<=us.length->(C.toList.take (s+off)++ns++C.toList.drop (s+off+ns.length)).toArray[s+j]? =some v:=by
 intro j v e ho
 have hu:(us.take off).length=off:=by simp;omega
 have hC:(C.toList.take (s+off)).length=s+off:=by simp;omega
 rw[List.getElem?_toArray,List.append_assoc]
 by_cases h1:j<off
 ·rw[List.getElem?_append_left (by omega),List.getElem?_take_of_lt h1]at e
  rw[List.getElem?_append_left (by omega),List.getElem?_take_of_lt (by omega)]
  simpa using hc j v e
 ·rw[List.getElem?_append_right (by omega),hu]at e
  rw[List.getElem?_append_right (by omega),hC,show s+j - (s+off)=j - off by omega]
  by_cases h2:j - off<ns.length
  ·rw[List.getElem?_append_left h2]at e ⊢
   exact e
  ·rw[List.getElem?_append_right (by omega),List.getElem?_drop]at e ⊢
   have:=hc _ v e
   rw[show s+off+ns.length+(j - off - ns.length)=s+(off+ns.length+(j - off - ns.length)) by omega]
   simpa using this
def Fc(P:Program)(T:TypeId)(x y:Operand):nY:=
 match P.info? T with
 |some i=>pH (Nat.blt 0 i.size) (s6 i.size (cy x) (cy y)) cW
 |none=>cW
theorem JY{T:TypeId}{x y:Operand}(ho:o.op=.store T x y):s8 P o (Fc P T x y):=by
 intro g w nt t h a v h' H Tr e
 unfold Fc at e
 cases hi:P.info? T with
 |none=>rw[hi]at e;cases e
 |some i=>
 rw[hi]at e
 cases XV:Nat.blt 0 i.size with
 |false=>simp only[XV]at e;cases e
 |true=>
 simp only[XV]at e
 have at5:=cM.1 XV
 change s6 i.size (cy x) (cy y) t h=.ok v h' at e
 unfold s6 at e
 split at e
 ·rename_i id off hx
  split at e
  ·rename_i av hy
   split at e
   ·rename_i cs hg
    cases hb:(Nat.beq (len av.cells) i.size&&(Nat.ble (Nat.add off (len av.cells)) cs.n&&oD nA av.cells))with
    |false=>rw[hb]at e;cases e
    |true=>
     rw[hb]at e
     cases e
     simp only[Bool.and_eq_true,cQ]at hb
     have h1:=Nat.eq_of_beq_eq_true hb.1
     have XW:off+av.cells.length<=cs.n:=Nat.ble_eq.mp hb.2.1
     have h2:off+av.cells.length<=cs.toL.length:=by rw[nR];exact XW
     have Jx:=cC x _ _ _ _ _ _ Tr hx
     have A9:=cC y _ _ _ _ _ _ Tr hy
     simp only[VR]at Jx
     obtain⟨b,s,hm,Jx⟩:=Jx
     obtain⟨C,el,vs,hw,_,nP,hc⟩:=H.row hg hm
     have px:=A9.cells
     have xj:=cH.JN px hb.2.2
     have hl:=px.length
     simp only[Array.length_toList]at hl
     have xw:s+off+(a.eval y).cells.toList.length<=C.size:=by
      have:=cH.vP nP hc h2 (by omega)
      simp only[Array.length_toList]
      omega
     have uP:=nS P b (s+off) el.el el.fz (a.eval y).cells.toList 0 C w hw el.ok (by simpa using xw) xj
     simp only[Nat.add_zero]at uP
     have hlen:=nP.length
     obtain⟨E,H'⟩:=D8 H (C':=(C.toList.take (s+off)++(a.eval y).cells.toList++C.toList.drop (s+off+(a.eval y).cells.toList.length)).toArray)
      hg hm hw (by simp at xw ⊢;omega) (cs':=cs.put off av.cells) (us:=vs.take off++((a.eval y).cells.toList++vs.drop (off+(a.eval y).cells.toList.length)))
      (by rw[yd XW,put_eq,<-px.length];exact(nP.take _).append (px.append (nP.drop _)))
      (fun j v e=>MO hc xw j v e (by omega))
     refine⟨g,_,.skip,undef,?_,.inr ⟨rfl,rfl⟩,E,H',by simp only[pz,VR];exact⟨_,rfl,by simp[cH]⟩⟩
     have uO: ¬ (a.eval y).cells.size≠i.size:=by omega
     simp only[execOp,ho,Instr.storeAt,Instr.sureAddr,Jx,storeVar,sizeOf,typeInfo,hi,uP,Sem.run_bind,Sem.run_pure,Result.andThen_ok,run_program,Sem.run_ite,if_neg uO]
   ·cases e
  ·cases e
 ·cases e
end
end Go.Ab

noncomputable section
namespace Go.Ab
variable [Io]
section
variable {P:Program}{o:Oper}
omit [Io] in
theorem vn(w:World)(t ty e:TypeId)(i:TypeInfo)(ht:P.underlying t=some (.slice e))(hi:P.info? e=some i)(b x:Option Addr)(mQ nM c:Nat)(h:mQ<=nM):
 (Builtin.append_ #[t,t] ty #[.slice b mQ nM,.slice x 0 c]).run P w=.ok (.slice b mQ nM) w:=by
 cases b<;>cases x<;>
  simp[Builtin.append_,run_underlying ht,sizeOf,typeInfo,hi,Builtin.lenOf,Builtin.firstCells,loadCells,loadCellsFrom,h,storeCells]
omit [Io] in
theorem Dt(w:World)(t ty e:TypeId)(i:TypeInfo)(ht:P.underlying t=some (.slice e))(hi:P.info? e=some i)
 (g at_ mQ nM:Nat)(cur:Array Value)(el:FT cur)(hg:w.heap[g]? =some (.cells cur el.el el.fz))
 (a:Addr)(m c:Nat)(news:List Value)(hl:news.length=m*i.size)(ah5: ∀ j u,news[j]? =some u->w.cell? (a.add j)=some u)(h1: ∀ u∈news,u.oneCell'=true)
 (s9:mQ+m<=nM)(xx:at_+mQ*i.size+news.length<=cur.size):
 (Builtin.append_ #[t,t] ty #[.slice (some ⟨g,at_,none⟩) mQ nM,.slice (some a) m c]).run P w=
  .ok (.slice (some ⟨g,at_,none⟩) (mQ+m) nM) (w.setRow g (cur.toList.take (at_+mQ*i.size)++news++cur.toList.drop (at_+mQ*i.size+news.length)).toArray):=by
 have hf:=run_firstCells_some (P:=P) w i.size m a m c news hl ah5
 have uP:=nS P g (at_+mQ*i.size) el.el el.fz news 0 cur w hg el.ok (by simpa using xx) h1
 simp only[Nat.add_zero]at uP
 simp[Builtin.append_,run_underlying ht,sizeOf,typeInfo,hi,Builtin.lenOf,s9,hf,pK,uP]
theorem so{g w h}(H:HR g w h){x:AV}{v:Value}(hv:VR g w x v){n:Nat}{cs:List AV}(e:nC h x=some (n,cs)):
 ∃ a c,v=.slice a n c/\n<=c/\(cs=[]∨ ∃ b s vs,a=some ⟨b,s,none⟩/\cH g w cs vs/\nF w b s vs):=by
 unfold nC at e
 split at e
 ·cases e
  simp only[VR]at hv
  obtain⟨a,rfl⟩:=hv
  exact⟨a,0,rfl,Nat.le_refl _,.inl rfl⟩
 ·cases e
  simp only[VR]at hv
  obtain⟨a,c,rfl,hc,hr⟩:=hv
  refine⟨a,c,rfl,hc,?_⟩
  rcases hr with⟨_,rfl⟩|⟨b,s,vs,rfl,_,rj,nP⟩
  ·exact .inl rfl
  ·exact .inr ⟨b,s,vs,rfl,nP,rj⟩
 ·rename_i id off n' sz
  split at e
  ·rename_i cs' hg
   split at e
   ·rename_i l hs
    cases e
    obtain⟨rfl,hl,_⟩:=qS hs
    simp only[VR]at hv
    rcases hv with⟨rfl,a,rfl⟩|⟨b,s,cap,hm,rfl,hc,_⟩
    ·refine⟨a,0,rfl,Nat.le_refl _,.inl ?_⟩
     have:(List.take (Nat.mul 0 sz) (List.drop off cs'.toL))=[]:=by
      rw[show Nat.mul 0 sz=0 from Nat.zero_mul _];rfl
     exact this
    ·obtain⟨C,el,vs,hw,_,nP,XX⟩:=H.row hg hm
     exact⟨_,cap,rfl,hc,.inr ⟨b,s+off,_,rfl,(nP.drop off).take _,((pf hw XX).drop off).take _⟩⟩
   ·cases e
  ·cases e
 ·cases e
omit [Io] in
theorem ta{w:World}{b s:Nat}{vs:List Value}(h:nF w b s vs): ∀ j u,vs[j]? =some u->w.cell? ((⟨b,s,none⟩:Addr).add j)=some u:=by
 intro j u e
 rw[pK]
 exact h j u e
structure ah6(P:Program)(w:World)(xy:Array TypeId)(ty el:TypeId)(ie:TypeInfo)(zv:Value)(vx:Value)(n:Nat)(us:List Value):Prop where
 anF:0<n->n<=70368744177664->n*ie.bytes<=70368744177664->(Builtin.append_ xy ty #[.slice none 0 0,vx]).run P w=
  .ok (.slice (some ⟨w.heap.size,0,none⟩) n (grownCap w n 0 el)) (w.drew.alloc (.cells (us.toArray++Builtin.zeroCells zv.cells (grownCap w n 0 el - n)) el))
 ab0: ∀ (b:Addr) (mQ nM:Nat) (Du:List Value),Du.length=mQ*ie.size->(∀ (j:Nat) (v:Value),Du[j]? =some v->w.cell? (b.add j)=some v)->0<n->nM<mQ+n->mQ+n<=70368744177664->(mQ+n)*ie.bytes<=70368744177664->
  (Builtin.append_ xy ty #[.slice (some b) mQ nM,vx]).run P w=.ok (.slice (some ⟨w.heap.size,0,none⟩) (mQ+n) (grownCap w (mQ+n) nM el))
    (w.drew.alloc (.cells (Du.toArray++us.toArray++Builtin.zeroCells zv.cells (grownCap w (mQ+n) nM el - (mQ+n))) el))
 aat: ∀ (g at_ mQ nM:Nat) (cur:Array Value) (el:FT cur),w.heap[g]? =some (.cells cur el.el el.fz)->0<n->mQ+n<=70368744177664->(mQ+n)*ie.bytes<=70368744177664->(∀ u∈us,u.oneCell'=true)->
  mQ+n<=nM->at_+mQ*ie.size+us.length<=cur.size->(Builtin.append_ xy ty #[.slice (some ⟨g,at_,none⟩) mQ nM,vx]).run P w=
   .ok (.slice (some ⟨g,at_,none⟩) (mQ+n) nM) (w.setRow g (cur.toList.take (at_+mQ*ie.size)++us++cur.toList.drop (at_+mQ*ie.size+us.length)).toArray)
theorem vR{g:G}{w:World}{h h':Hp}{a:Act}{xy:Array TypeId}{el:TypeId}{ie:TypeInfo}{zv:Value}{vs0 vx:Value}{sv v:AV}{n:Nat}{new:List AV}(H:HR g w h)(nP:VR g w sv vs0)(h0:0<ie.size)(yk:zv.cells.size=ie.size)
 (hex: ∀ vs r w',vs0=vs->(Builtin.append_ xy o.type #[vs,vx]).run P w=.ok r w'->(execOp a.eval o).run P w=.ok (.value r) w')
 (h00:n=0-> ∀ (b:Option Addr) (ln cap:Nat),ln<=cap->(Builtin.append_ xy o.type #[.slice b ln cap,vx]).run P w=.ok (.slice b ln cap) w)
 (hap:n≠0->new.length=n*ie.size-> ∃ us,cH g w new us/\ah6 P w xy o.type el ie zv vx n us)
 (e:xZ ie.size ie.bytes h sv n new=.ok v h'):
 ∃ g' w' nx x,(execOp a.eval o).run P w=.ok nx w'/\(nx=.value x∨(nx=.skip/\x=undef))/\Ext g w h g' w' h'/\HR g' w' h'/\VR g' w' v x:=by
   unfold xZ at e
   have fresh: ∀ (b:Option Addr) (h2:Hp) (rw0:Rw),rw0.toL=new->vs0=.slice b 0 0->n≠0->n*ie.bytes<=70368744177664->oD nA new=true->new.length=n*ie.size->n<=70368744177664->
    HR g w h2->Ext g w h g w h2->
    ∃ g' w' nx x,(execOp a.eval o).run P w=.ok nx w'/\(nx=.value x∨(nx=.skip/\x=undef))/\Ext g w h g' w' (nn h2 rw0)/\HR g' w' (nn h2 rw0)/\VR g' w' (.nW h2.next 0 n ie.size) x:=by
    intro b h2 rw0 hrw AG hn Jy xj hlen anG H2 E2
    ·obtain⟨us,GB,A⟩:=hap hn hlen
     have hul:=GB.length
     have G6:us.length=n*ie.size:=by omega
     obtain⟨E3,H3⟩:=G5 H2
     have hC: ∀ cap,n<=cap->n*ie.size+(cap - n)*ie.size=cap*ie.size:=by intro cap hc;rw[<-Nat.add_mul];congr 1;omega
     cases b with
     |none=>
      have hr:=A.anF (by omega) anG Jy
      have RK:=grownCap_ge w n 0 el
      obtain⟨E4,H4⟩:=A7 H3 (cs:=rw0) (C:=us.toArray++Builtin.zeroCells zv.cells (grownCap w n 0 el - n)) el (by rw[hrw];exact cH.mono H2 E3 _ _ GB) (fun j v e=>by
       rw[Array.getElem?_append_left (by have:=(List.getElem?_eq_some_iff.1 e).1;simpa using this)];simpa using e)
      refine⟨_,_,_,_,hex _ _ _ AG hr,.inl rfl,E2.trans (E3.trans E4),H4,EY RK ?_⟩
      rw[Array.size_append,size_zeroCells,yk,List.size_toArray,G6,hC _ RK]
      exact Nat.le_refl _
     |some b=>
      have hr:=A.ab0 b 0 0 [] (by simp) (by simp) (by omega) (by omega) (by omega) (by rw[Nat.zero_add];exact Jy)
      simp only[Nat.zero_add]at hr
      have RK:=grownCap_ge w n 0 el
      obtain⟨E4,H4⟩:=A7 H3 (cs:=rw0) (C:= #[]++us.toArray++Builtin.zeroCells zv.cells (grownCap w n 0 el - n)) el (by rw[hrw];exact cH.mono H2 E3 _ _ GB) (fun j v e=>by
       rw[Array.getElem?_append_left (by have:=(List.getElem?_eq_some_iff.1 e).1;simpa using this)];simpa using e)
      refine⟨_,_,_,_,hex _ _ _ AG hr,.inl rfl,E2.trans (E3.trans E4),H4,EY RK ?_⟩
      rw[Array.size_append,size_zeroCells,yk,Array.empty_append,List.size_toArray,G6,hC _ RK]
      exact Nat.le_refl _
   split at e
   ·
    simp only[VR]at nP
    obtain⟨b,AG⟩:=nP
    cases hn:Nat.beq n 0 with
    |true=>
     rw[hn]at e
     cases e
     obtain rfl:=Nat.eq_of_beq_eq_true hn
     exact⟨g,w,_,_,hex _ _ _ AG (h00 rfl b 0 0 (Nat.le_refl _)),.inl rfl,Ext.refl _ _ _,H,by simp only[VR];exact⟨_,rfl⟩⟩
    |false=>
     rw[hn]at e
     have W6:n≠0:=fun k=>by subst k;cases hn
     cases hc:(Nat.ble (Nat.mul n ie.bytes) 70368744177664&&(oD nA new&&(Nat.beq (len new) (Nat.mul n ie.size)&&Nat.ble n 70368744177664)))with
     |false=>simp only[hc]at e;cases e
     |true=>
      simp only[hc]at e
      cases e
      simp only[Bool.and_eq_true,cQ]at hc
      exact fresh b h (A5 new) (pR new) AG W6 (Nat.ble_eq.mp hc.1) hc.2.1 (Nat.eq_of_beq_eq_true hc.2.2.1) (Nat.ble_eq.mp hc.2.2.2) H (Ext.refl _ _ _)
   ·
    rename_i id off ln sz
    cases hn:Nat.beq n 0 with
    |true=>
     rw[hn]at e
     cases e
     obtain rfl:=Nat.eq_of_beq_eq_true hn
     have JZ:=nP
     simp only[VR]at nP
     rcases nP with⟨rfl,b,AG⟩|⟨b,s',cap,hm,AG,B3,_⟩
     ·rw[AG]at JZ
      exact⟨g,w,_,_,hex _ _ _ AG (h00 rfl b 0 0 (Nat.le_refl _)),.inl rfl,Ext.refl _ _ _,H,JZ⟩
     ·rw[AG]at JZ
      exact⟨g,w,_,_,hex _ _ _ AG (h00 rfl _ ln cap B3),.inl rfl,Ext.refl _ _ _,H,JZ⟩
    |false=>
     rw[hn]at e
     have W6:n≠0:=fun k=>by subst k;cases hn
     simp only[cond_false]at e
     split at e
     ·cases e
     ·rename_i cs hg
      split at e
      ·cases e
      ·rename_i pre adI
       cases hc:(Nat.ble (Nat.mul (Nat.add ln n) ie.bytes) 70368744177664&&(Nat.beq sz ie.size&&(oD nA new&&(Nat.beq (len new) (Nat.mul n ie.size)&&Nat.ble (Nat.add ln n) 70368744177664))))with
       |false=>rw[hc]at e;cases e
       |true=>
        rw[hc]at e
        cases e
        simp only[Bool.and_eq_true,cQ]at hc
        have Jy:(ln+n)*ie.bytes<=70368744177664:=Nat.ble_eq.mp hc.1
        obtain rfl:sz=ie.size:=Nat.eq_of_beq_eq_true hc.2.1
        have xj:=hc.2.2.1
        have hlen:new.length=n*ie.size:=Nat.eq_of_beq_eq_true hc.2.2.2.1
        have Pd:ln+n<=70368744177664:=Nat.ble_eq.mp hc.2.2.2.2
        obtain⟨hpt,hpl⟩:=GS adI
        rw[hpt]at hpl
        have anI:(List.take (ln*ie.size) (List.drop off cs.toL)).length=ln*ie.size:=hpl
        obtain⟨E2,H2⟩:=RH H id
        simp only[VR]at nP
        rcases nP with⟨rfl,b,AG⟩|⟨b,s',cap,hm,AG,B3,xw⟩
        ·have:=fresh b (qx h id none) (pre.app new) (by
          rw[ye,hpt,show(List.take (Nat.mul 0 ie.size) (List.drop off cs.toL))=[]from by rw[show Nat.mul 0 ie.size=0 from Nat.zero_mul _];rfl,List.nil_append]) AG W6 (by simpa using Jy) xj hlen (by simpa using Pd) H2 E2
         rw[show Nat.add 0 n=n from Nat.zero_add n]
         exact this
        ·obtain⟨us,GB,A⟩:=hap W6 hlen
         ·have hul:=GB.length
          have G6:us.length=n*ie.size:=by omega
          obtain⟨C,el',vs,hw,_,nP,XX⟩:=H.row hg hm
          rw[qE hw]at xw
          have rA:cH g w (List.take (ln*ie.size) (List.drop off cs.toL)) ((vs.drop off).take (ln*ie.size)):=(nP.drop off).take _
          have adJ:((vs.drop off).take (ln*ie.size)).length=ln*ie.size:=by rw[rA.length,anI]
          have hpc:nF w b (s'+off) ((vs.drop off).take (ln*ie.size)):=((pf hw XX).drop off).take _
          have adK:=rA.append GB
          have ab1:cH g w (pre.app new).toL ((vs.drop off).take (ln*ie.size)++us):=by
           rw[ye,hpt];exact adK
          by_cases s9:ln+n<=cap
          ·have hm1:ln*ie.size+n*ie.size<=cap*ie.size:=by rw[<-Nat.add_mul];exact Nat.mul_le_mul_right _ s9
           have xx:s'+off+ln*ie.size+us.length<=C.size:=by omega
           have hr:=A.aat b (s'+off) ln cap C el' hw (by omega) Pd Jy (cH.JN GB xj) s9 xx
           obtain⟨E3,H3⟩:=Pb H (C':=(C.toList.take (s'+off+ln*ie.size)++us++C.toList.drop (s'+off+ln*ie.size+us.length)).toArray) (s':=s'+off)
            hg hm hw (by simp;omega) ab1 (fun j v e=>by
             have hC1:(C.toList.take (s'+off+ln*ie.size)).length=s'+off+ln*ie.size:=by simp;omega
             rw[List.getElem?_toArray,List.append_assoc]
             by_cases hj:j<ln*ie.size
             ·rw[List.getElem?_append_left (by omega)]at e
              have:=hpc j v e
              rw[List.getElem?_append_left (by omega),List.getElem?_take_of_lt (by omega)]
              simp only[World.cell?,hw]at this
              simpa using this
             ·rw[List.getElem?_append_right (by omega),adJ]at e
              have G7:=(List.getElem?_eq_some_iff.1 e).1
              rw[List.getElem?_append_right (by omega),hC1,show s'+off+j - (s'+off+ln*ie.size)=j - ln*ie.size by omega,List.getElem?_append_left G7]
              exact e)
           refine⟨_,_,_,_,hex _ _ _ AG hr,.inl rfl,E3,H3,?_⟩
           simp only[VR]
           refine .inr ⟨b,s'+off,cap,by simp,rfl,s9,?_⟩
           have XY:=po (C':=(C.toList.take (s'+off+ln*ie.size)++us++C.toList.drop (s'+off+ln*ie.size+us.length)).toArray) hw b
           rw[if_pos rfl]at XY
           rw[qE XY]
           simp
           omega
          ·have hr:=A.ab0 ⟨b,s'+off,none⟩ ln cap ((vs.drop off).take (ln*ie.size)) adJ (ta hpc) (by omega) (by omega) Pd Jy
           have RK:=grownCap_ge w (ln+n) cap el
           obtain⟨E3,H3⟩:=G5 H2
           obtain⟨E4,H4⟩:=A7 H3 (C:=((vs.drop off).take (ln*ie.size)).toArray++us.toArray++Builtin.zeroCells zv.cells (grownCap w (ln+n) cap el - (ln+n))) el
            (cH.mono H2 E3 _ _ (cH.mono H E2 _ _ ab1)) (fun j v e=>by
             rw[Array.getElem?_append_left (by have:=(List.getElem?_eq_some_iff.1 e).1;simp at this ⊢;omega)]
             simpa using e)
           refine⟨_,_,_,_,hex _ _ _ AG hr,.inl rfl,E2.trans (E3.trans E4),H4,EY RK ?_⟩
           have hC:(ln+n)*ie.size+(grownCap w (ln+n) cap el - (ln+n))*ie.size=grownCap w (ln+n) cap el*ie.size:=by rw[<-Nat.add_mul];congr 1;omega
           rw[Array.size_append,size_zeroCells,yk,Array.size_append,List.size_toArray,List.size_toArray,adJ,G6,<-Nat.add_mul,hC]
           exact Nat.le_refl _
   ·
    rename_i ln cs
    cases hn:Nat.beq n 0 with
    |true=>
     rw[hn]at e
     cases e
     obtain rfl:=Nat.eq_of_beq_eq_true hn
     have JZ:=nP
     simp only[VR]at nP
     obtain⟨b,cap,AG,B3,_⟩:=nP
     rw[AG]at JZ
     exact⟨g,w,_,_,hex _ _ _ AG (h00 rfl _ ln cap B3),.inl rfl,Ext.refl _ _ _,H,JZ⟩
    |false=>rw[hn]at e;cases e
   ·cases e
def B4(P:Program)(T:TypeId)(s x:Operand):nY:=
 match P.underlying T with
 |some (.slice e)=>match P.info? e with
  |some ie=>match zeroOf P e with
   |some z=>pH (Nat.beq (len z) ie.size&&(Nat.blt 0 ie.size&&Nat.blt 0 ie.bytes)) (uR ie.size ie.bytes (wO (cy s)) (wO (cy x))) cW
   |none=>cW
  |none=>cW
 | _=>cW
theorem Fe{T:TypeId}{s x:Operand}(ho:o.op=.call {callee:=.builtin .append,args:= #[s,x],argTypes:= #[T,T]}):s8 P o (B4 P T s x):=by
 intro g w nt t h a v h' H Tr e
 unfold B4 at e
 cases hu:P.underlying T with
 |none=>rw[hu]at e;cases e
 |some d=>
 rw[hu]at e
 cases d<;>try (cases e;done)
 rename_i el
 simp only at e
 cases tP:P.info? el with
 |none=>rw[tP]at e;cases e
 |some ie=>
 rw[tP]at e
 cases hz:zeroOf P el with
 |none=>simp only[hz]at e;cases e
 |some z=>
 simp only[hz]at e
 cases hb:(Nat.beq (len z) ie.size&&(Nat.blt 0 ie.size&&Nat.blt 0 ie.bytes))with
 |false=>rw[hb]at e;cases e
 |true=>
 rw[hb]at e
 simp only[Bool.and_eq_true,cQ]at hb
 have hzl:=Nat.eq_of_beq_eq_true hb.1
 have h0:0<ie.size:=cM.1 hb.2.1
 obtain⟨i,zv,hi,Aq,MM⟩:=pL hz
 obtain rfl:ie=i:=by rw[tP]at hi;exact Option.some.inj hi
 have yk:zv.cells.size=ie.size:=by
  have:=(MM g w).length
  simp only[Array.length_toList]at this
  omega
 change uR ie.size ie.bytes (wO (cy s)) (wO (cy x)) t h=.ok v h' at e
 have hex: ∀ vs vx r w',a.eval s=vs->a.eval x=vx->(Builtin.append_ #[T,T] o.type #[vs,vx]).run P w=.ok r w'->(execOp a.eval o).run P w=.ok (.value r) w':=by
  intro vs vx r w' h1 h2 h3
  unfold execOp
  simp only[ho,resolve,invoke,builtin,Sem.run_bind,Sem.run_pure,Result.andThen_ok,List.map_toArray,List.map_cons,List.map_nil,h1,h2,h3]
 unfold uR at e
 split at e
 ·rename_i sv hs
  split at e
  ·rename_i xv hx
   have nP:=pT s _ _ _ _ _ _ Tr hs
   have Jx:=pT x _ _ _ _ _ _ Tr hx
   split at e
   ·cases e
   ·rename_i n new hsc
    obtain⟨xa,xc,XZ,hxc,Dv⟩:=so H Jx hsc
    refine vR (el:=el) H nP h0 yk (fun vs r w' h1 h3=>hex vs _ r w' h1 XZ h3) (fun hn b ln cap hle=>by
     subst hn
     exact vn w T o.type el ie hu tP b xa ln cap xc hle) (fun hn hlen=>?_) e
    rcases Dv with rfl|⟨xb,xs,us,rfl,GB,rj⟩
    ·have:n*ie.size≠0:=Nat.mul_ne_zero hn (by omega)
     simp at hlen;omega
    ·have hul:=GB.length
     have G6:us.length=n*ie.size:=by omega
     refine⟨us,GB,⟨fun hp Pd Jy=>?_,fun b mQ nM Du hol hoc hp oI Pd Jy=>?_,fun b at_ mQ nM cur el' hw hp Pd Jy xj s9 xx=>?_⟩⟩
     ·exact run_append_nil (P:=P) w T o.type el ie zv hu tP Aq ⟨xb,xs,none⟩ n xc us G6 (ta rj) (by omega) (by omega) (by omega)
     ·exact run_append_grow (P:=P) w T o.type el ie zv hu tP Aq b mQ nM Du hol hoc ⟨xb,xs,none⟩ n xc us G6 (ta rj) (by omega) (by omega) (growslice_fits (by omega) (by omega))
     ·exact Dt (P:=P) w T o.type el ie hu tP b at_ mQ nM cur el' hw ⟨xb,xs,none⟩ n xc us G6 (ta rj) xj s9 xx
  ·cases e
 ·cases e
def A'(P:Program)(T:TypeId)(s x:Operand):nY:=
 match P.underlying T with
 |some (.slice e)=>match P.info? e with
  |some ie=>match zeroOf P e with
   |some z=>pH (Nat.beq (len z) ie.size&&(Nat.blt 0 ie.size&&Nat.blt 0 ie.bytes)) (oF ie.size ie.bytes (cy s) (cy x)) cW
   |none=>cW
  |none=>cW
 | _=>cW
theorem G8{T:TypeId}{s x:Operand}(ho:o.op=.call {callee:=.builtin .append,args:= #[s,x],argTypes:= #[T,T]}):s8 P o (A' P T s x):=by
 intro g w nt t h a v h' H Tr e
 have h0:=Fe (P:=P) ho g w nt t h a v h' H Tr
 unfold A' at e
 unfold B4 at h0
 cases hu:P.underlying T with
 |none=>rw[hu]at e;cases e
 |some d=>
 rw[hu]at e h0
 cases d<;>try (cases e;done)
 rename_i el
 simp only at e h0
 cases tP:P.info? el with
 |none=>rw[tP]at e;cases e
 |some ie=>
 rw[tP]at e h0
 cases hz:zeroOf P el with
 |none=>simp only[hz]at e;cases e
 |some z=>
 simp only[hz]at e h0
 cases hb:(Nat.beq (len z) ie.size&&(Nat.blt 0 ie.size&&Nat.blt 0 ie.bytes))with
 |false=>rw[hb]at e;cases e
 |true=>
 rw[hb]at e h0
 change oF ie.size ie.bytes (cy s) (cy x) t h=.ok v h' at e
 unfold oF at e
 split at e
 ·rename_i av hs
  split at e
  ·rename_i bv hx
   cases hE:(xq av&&W3 bv)with
   |false=>rw[hE]at e;exact h0 e
   |true=>
    rw[hE]at e
    cases e
    rw[Bool.and_eq_true]at hE
    have hv:=cC s _ _ _ _ _ _ Tr hs
    obtain⟨b,AG⟩:=BU hE.1 hv
    obtain⟨xa,xc,XZ⟩:=adC hE.2 (cC x _ _ _ _ _ _ Tr hx)
    have hr:=vn (P:=P) w T o.type el ie hu tP b xa 0 0 xc (Nat.le_refl _)
    refine⟨g,w,_,a.eval s,?_,.inl rfl,Ext.refl _ _ _,H,hv⟩
    unfold execOp
    simp only[ho,resolve,invoke,builtin,Sem.run_bind,Sem.run_pure,Result.andThen_ok,List.map_toArray,List.map_cons,List.map_nil,AG,XZ,hr]
  ·cases e
 ·cases e
def MP(P:Program)(T T':TypeId)(s x:Operand):nY:=
 match P.underlying T with
 |some (.slice e)=>match P.underlying T' with
  |some (.int _)=>match P.info? e with
   |some ie=>match zeroOf P e with
    |some z=>pH (Nat.beq (len z) ie.size&&(Nat.blt 0 ie.size&&Nat.blt 0 ie.bytes)) (tL ie.size ie.bytes z (cy s) (cy x)) cW
    |none=>cW
   |none=>cW
  | _=>cW
 | _=>cW
omit [Io] in
theorem tQ(w:World)(t tn ty e:TypeId)(i:TypeInfo)(kn k:IntKind)(ht:P.underlying t=some (.slice e))(htn:P.underlying tn=some (.int kn))(hi:P.info? e=some i)(b:Option Addr)(mQ nM:Nat)(h:mQ<=nM):
 (Builtin.append_ #[t,tn] ty #[.slice b mQ nM,.int k ((0:Nat):Int)]).run P w=.ok (.slice b mQ nM) w:=by
 have hw:IntKind.i64.wrap 0=0:=by rw[IntKind.wrap_i64];omega
 cases b<;>simp[Builtin.append_,run_underlying ht,run_underlying htn,sizeOf,typeInfo,hi,asInt,asIntOf,hw,h,storeCells]
omit [Io] in
theorem xz(w:World)(t tn ty e:TypeId)(i:TypeInfo)(z:Value)(kn k:IntKind)(ht:P.underlying t=some (.slice e))(htn:P.underlying tn=some (.int kn))(hi:P.info? e=some i)(hz:i.zero=some z)(hs:0<i.size)(hzl:z.cells.size=i.size)
 (g at_ mQ nM n:Nat)(cur:Array Value)(el:FT cur)(hg:w.heap[g]? =some (.cells cur el.el el.fz))(h0:0<n)(Pd:n<=70368744177664)(Jy:n*i.bytes<=70368744177664)
 (h1: ∀ u∈(Builtin.zeroCells z.cells n).toList,u.oneCell'=true)(s9:mQ+n<=nM)(xx:at_+mQ*i.size+(Builtin.zeroCells z.cells n).toList.length<=cur.size):
 (Builtin.append_ #[t,tn] ty #[.slice (some ⟨g,at_,none⟩) mQ nM,.int k n]).run P w=
  .ok (.slice (some ⟨g,at_,none⟩) (mQ+n) nM) (w.setRow g (cur.toList.take (at_+mQ*i.size)++(Builtin.zeroCells z.cells n).toList++cur.toList.drop (at_+mQ*i.size+(Builtin.zeroCells z.cells n).toList.length)).toArray):=by
 have uP:=nS P g (at_+mQ*i.size) el.el el.fz (Builtin.zeroCells z.cells n).toList 0 cur w hg el.ok (by simpa using xx) h1
 simp only[Nat.add_zero]at uP
 have hw:IntKind.i64.wrap (n:Int)=n:=by rw[IntKind.wrap_i64];omega
 have anJ: ¬ ((n:Int)<0):=by omega
 have anK: ¬ (281474976710656<(n:Int)*(i.bytes:Int)):=by
  rw[<-Int.natCast_mul]
  omega
 have hns: ¬ (n*i.size=0):=Nat.mul_ne_zero (by omega) (by omega)
 have hk:n≠0:=by omega
 simp[Builtin.append_,run_underlying ht,run_underlying htn,sizeOf,typeInfo,zeroValue,hi,hz,asInt,asIntOf,hw,anJ,anK,hns,s9,pK]
 have adM:(storeCells ⟨g,at_+mQ*i.size,none⟩ (Builtin.zeroCells z.cells n).toList).run P w=_:=uP
 rw[adM]
 simp
theorem Pe{T T':TypeId}{s x:Operand}(ho:o.op=.call {callee:=.builtin .append,args:= #[s,x],argTypes:= #[T,T']}):s8 P o (MP P T T' s x):=by
 intro g w nt t h a v h' H Tr e
 unfold MP at e
 cases hu:P.underlying T with
 |none=>rw[hu]at e;cases e
 |some d=>
 rw[hu]at e
 cases d<;>try (cases e;done)
 rename_i el
 simp only at e
 cases J0:P.underlying T' with
 |none=>rw[J0]at e;cases e
 |some d'=>
 rw[J0]at e
 cases d'<;>try (cases e;done)
 rename_i kn
 simp only at e
 cases tP:P.info? el with
 |none=>rw[tP]at e;cases e
 |some ie=>
 rw[tP]at e
 cases hz:zeroOf P el with
 |none=>simp only[hz]at e;cases e
 |some z=>
 simp only[hz]at e
 cases hb:(Nat.beq (len z) ie.size&&(Nat.blt 0 ie.size&&Nat.blt 0 ie.bytes))with
 |false=>rw[hb]at e;cases e
 |true=>
 rw[hb]at e
 simp only[Bool.and_eq_true,cQ]at hb
 have hzl:=Nat.eq_of_beq_eq_true hb.1
 have h0:0<ie.size:=cM.1 hb.2.1
 obtain⟨i,zv,hi,Aq,MM⟩:=pL hz
 obtain rfl:ie=i:=by rw[tP]at hi;exact Option.some.inj hi
 have yk:zv.cells.size=ie.size:=by
  have:=(MM g w).length
  simp only[Array.length_toList]at this
  omega
 change tL ie.size ie.bytes z (cy s) (cy x) t h=.ok v h' at e
 unfold tL at e
 split at e
 ·rename_i av hs
  split at e
  ·rename_i kx n hx
   have nP:=cC s _ _ _ _ _ _ Tr hs
   have Jx:=cC x _ _ _ _ _ _ Tr hx
   simp only[VR]at Jx
   have Jx:a.eval x=.int kx (n:Int):=Jx
   have hex: ∀ vs r w',a.eval s=vs->(Builtin.append_ #[T,T'] o.type #[vs,.int kx (n:Int)]).run P w=.ok r w'->(execOp a.eval o).run P w=.ok (.value r) w':=by
    intro vs r w' h1 h3
    unfold execOp
    simp only[ho,resolve,invoke,builtin,Sem.run_bind,Sem.run_pure,Result.andThen_ok,List.map_toArray,List.map_cons,List.map_nil,h1,Jx,h3]
   cases hE:(xq av&&Nat.beq n 0)with
   |true=>
    rw[hE]at e
    cases e
    rw[Bool.and_eq_true]at hE
    obtain rfl:=Nat.eq_of_beq_eq_true hE.2
    obtain⟨b,AG⟩:=BU hE.1 nP
    refine⟨g,w,_,a.eval s,hex _ _ _ rfl ?_,.inl rfl,Ext.refl _ _ _,H,nP⟩
    rw[AG]
    exact tQ w T T' o.type el ie kn kx hu J0 tP b 0 0 (Nat.le_refl _)
   |false=>
    rw[hE]at e
    simp only[cond_false]at e
    refine vR (el:=el) H (JP nP) h0 yk hex (fun hn b ln cap hle=>by
     subst hn
     exact tQ w T T' o.type el ie kn kx hu J0 tP b ln cap hle) (fun hn hlen=>?_) e
    have hzc:cH g w (oQ n z) (Builtin.zeroCells zv.cells n).toList:=by
     have:=(MM g w).repeat n
     rw[<-vQ]at this
     unfold Builtin.zeroCells
     exact this
    refine⟨(Builtin.zeroCells zv.cells n).toList,hzc,⟨fun hp Pd Jy=>?_,fun b mQ nM Du hol hoc hp oI Pd Jy=>?_,fun b at_ mQ nM cur el' hw hp Pd Jy xj s9 xx=>?_⟩⟩
    ·have:=Lib.run_append_nil_zeros (P:=P) w T T' o.type el ie zv kx kn hu J0 tP Aq n hp h0 (by omega) (by omega)
     simpa using this
    ·have hfo:=run_firstCells_some (P:=P) w.drew ie.size mQ b mQ nM Du hol (by simpa using hoc)
     have hnb:n*ie.bytes<=(mQ+n)*ie.bytes:=Nat.mul_le_mul_right _ (by omega)
     have:=Lib.run_append_grow_zeros (P:=P) w T T' o.type el ie zv kx kn hu J0 tP Aq (some b) mQ nM Du hfo n hp h0 oI (by omega) (by omega) (growslice_fits (by omega) (by omega))
     simpa using this
    ·have hnb:n*ie.bytes<=(mQ+n)*ie.bytes:=Nat.mul_le_mul_right _ (by omega)
     exact xz w T T' o.type el ie zv kn kx hu J0 tP Aq h0 yk b at_ mQ nM n cur el' hw hp (by omega) (by omega) xj s9 xx
  ·cases e
 ·cases e
def MQ(P:Program)(T T':TypeId)(s x:Operand):nY:=
 match P.underlying T with
 |some (.slice e)=>match P.underlying T' with
  |some .string=>match P.info? e with
   |some ie=>match zeroOf P e with
    |some z=>pH (Nat.beq (len z) ie.size&&(Nat.beq ie.size 1&&Nat.blt 0 ie.bytes)) (yc ie.bytes (cy s) (cy x)) cW
    |none=>cW
   |none=>cW
  | _=>cW
 | _=>cW
theorem cH.aib(g:G)(w:World): ∀ (l:List UInt8),cH g w (l.map fun b=>AV.int .u8 (.ofNat b.toNat)) (l.map fun b=>Value.int .u8 (b.toNat:Int))
 | []=>by simp[cH]
 |b::l=>by
  simp only[List.map_cons,cH]
  exact⟨_,_,rfl,by simp only[VR];rfl,cH.aib g w l⟩
omit [Io] in
theorem vo(w:World)(t tn ty e:TypeId)(i:TypeInfo)(ht:P.underlying t=some (.slice e))(htn:P.underlying tn=some .string)(hi:P.info? e=some i)(s:ByteArray)(hs:s.size=0)(b:Option Addr)(mQ nM:Nat)(h:mQ<=nM):
 (Builtin.append_ #[t,tn] ty #[.slice b mQ nM,.string s]).run P w=.ok (.slice b mQ nM) w:=by
 have h1:(Array.map (fun b:UInt8=>Value.int IntKind.u8 (b.toNat:Int)) s.data).extract 0 0= #[]:=by simp
 cases b<;>simp[Builtin.append_,run_underlying ht,run_underlying htn,sizeOf,typeInfo,hi,Builtin.lenOf,Builtin.firstCells,hs,h,h1,storeCells]
omit [Io] in
theorem zG(w:World)(t tn ty e:TypeId)(i:TypeInfo)(ht:P.underlying t=some (.slice e))(htn:P.underlying tn=some .string)(hi:P.info? e=some i)(B5:i.size=1)(s:ByteArray)
 (g at_ mQ nM:Nat)(cur:Array Value)(el:FT cur)(hg:w.heap[g]? =some (.cells cur el.el el.fz))
 (s9:mQ+s.size<=nM)(xx:at_+mQ*i.size+(Lib.strCells s).length<=cur.size):
 (Builtin.append_ #[t,tn] ty #[.slice (some ⟨g,at_,none⟩) mQ nM,.string s]).run P w=
  .ok (.slice (some ⟨g,at_,none⟩) (mQ+s.size) nM) (w.setRow g (cur.toList.take (at_+mQ*i.size)++(Lib.strCells s)++cur.toList.drop (at_+mQ*i.size+(Lib.strCells s).length)).toArray):=by
 have uP:=nS P g (at_+mQ*i.size) el.el el.fz (Lib.strCells s) 0 cur w hg el.ok (by simpa using xx) (by
  intro v hv
  obtain⟨b,_,rfl⟩:=List.mem_map.1 hv
  rfl)
 simp only[Nat.add_zero]at uP
 have hf:=Lib.run_firstCells_string (P:=P) w i.size s
 simp[Builtin.append_,run_underlying ht,run_underlying htn,sizeOf,typeInfo,hi,Builtin.lenOf,s9,hf,pK]
 have adM:(storeCells ⟨g,at_+mQ*i.size,none⟩ (Lib.strCells s)).run P w=_:=uP
 rw[adM]
 simp
theorem Pf{T T':TypeId}{s x:Operand}(ho:o.op=.call {callee:=.builtin .append,args:= #[s,x],argTypes:= #[T,T']}):s8 P o (MQ P T T' s x):=by
 intro g w nt t h a v h' H Tr e
 unfold MQ at e
 cases hu:P.underlying T with
 |none=>rw[hu]at e;cases e
 |some d=>
 rw[hu]at e
 cases d<;>try (cases e;done)
 rename_i el
 simp only at e
 cases J0:P.underlying T' with
 |none=>rw[J0]at e;cases e
 |some d'=>
 rw[J0]at e
 cases d'<;>try (cases e;done)
 simp only at e
 cases tP:P.info? el with
 |none=>rw[tP]at e;cases e
 |some ie=>
 rw[tP]at e
 cases hz:zeroOf P el with
 |none=>simp only[hz]at e;cases e
 |some z=>
 simp only[hz]at e
 cases hb:(Nat.beq (len z) ie.size&&(Nat.beq ie.size 1&&Nat.blt 0 ie.bytes))with
 |false=>rw[hb]at e;cases e
 |true=>
 rw[hb]at e
 simp only[Bool.and_eq_true,cQ]at hb
 have hzl:=Nat.eq_of_beq_eq_true hb.1
 have B5:ie.size=1:=Nat.eq_of_beq_eq_true hb.2.1
 have h0:0<ie.size:=by omega
 obtain⟨i,zv,hi,Aq,MM⟩:=pL hz
 obtain rfl:ie=i:=by rw[tP]at hi;exact Option.some.inj hi
 have yk:zv.cells.size=ie.size:=by
  have:=(MM g w).length
  simp only[Array.length_toList]at this
  omega
 change yc ie.bytes (cy s) (cy x) t h=.ok v h' at e
 unfold yc at e
 split at e
 ·rename_i av hs
  split at e
  ·rename_i b hx
   have nP:=cC s _ _ _ _ _ _ Tr hs
   have Jx:=cC x _ _ _ _ _ _ Tr hx
   simp only[VR]at Jx
   have Jx:a.eval x=.string b:=Jx.1
   have hex: ∀ vs r w',a.eval s=vs->(Builtin.append_ #[T,T'] o.type #[vs,.string b]).run P w=.ok r w'->(execOp a.eval o).run P w=.ok (.value r) w':=by
    intro vs r w' h1 h3
    unfold execOp
    simp only[ho,resolve,invoke,builtin,Sem.run_bind,Sem.run_pure,Result.andThen_ok,List.map_toArray,List.map_cons,List.map_nil,h1,Jx,h3]
   cases hE:(xq av&&Nat.beq b.size 0)with
   |true=>
    rw[hE]at e
    cases e
    rw[Bool.and_eq_true]at hE
    obtain⟨p,AG⟩:=BU hE.1 nP
    refine⟨g,w,_,a.eval s,hex _ _ _ rfl ?_,.inl rfl,Ext.refl _ _ _,H,nP⟩
    rw[AG]
    exact vo w T T' o.type el ie hu J0 tP b (Nat.eq_of_beq_eq_true hE.2) p 0 0 (Nat.le_refl _)
   |false=>
    rw[hE]at e
    simp only[cond_false]at e
    rw[<-B5]at e
    refine vR (el:=el) H (JP nP) h0 yk hex (fun hn p ln cap hle=>vo w T T' o.type el ie hu J0 tP b hn p ln cap hle) (fun hn hlen=>?_) e
    refine⟨b.data.toList.map fun b=>Value.int .u8 (b.toNat:Int),cH.aib g w _,⟨fun hp Pd Jy=>?_,fun p mQ nM Du hol hoc hp oI Pd Jy=>?_,fun p at_ mQ nM cur el' hw hp Pd Jy xj s9 xx=>?_⟩⟩
    ·have:=run_append_nil_string (P:=P) w T T' o.type el ie zv hu J0 tP Aq b hp (by omega) (by omega)
     rw[this]
     congr 4
     apply Array.ext'
     simp
    ·have:=Lib.run_append_grow_string (P:=P) w T T' o.type el ie zv hu J0 tP Aq p mQ nM Du hol hoc b oI (by omega) (growslice_fits (by omega) (by omega))
     rw[this]
     rfl
    ·exact zG w T T' o.type el ie hu J0 tP B5 b p at_ mQ nM cur el' hw s9 xx
  ·cases e
 ·cases e
def MR(P:Program)(T T':TypeId)(s x:Operand):nY:=
 match P.underlying T' with
 |some .string=>MQ P T T' s x
 | _=>MP P T T' s x
theorem Pg{T T':TypeId}{s x:Operand}(ho:o.op=.call {callee:=.builtin .append,args:= #[s,x],argTypes:= #[T,T']}):s8 P o (MR P T T' s x):=by
 unfold MR
 split
 ·exact Pf ho
 ·exact Pe ho
end
end Go.Ab

noncomputable section
namespace Go.Ab
variable [Io]
section
variable {P:Program}{o:Oper}
theorem X0{g w h}(H:HR g w h){w':World}(h1:w'.os=w.os)(h2:w'.tape=w.tape)(h3:w'.output=w.output)(h4:w'.heap.size=w.heap.size+1)
 (h5: ∀ b,b<w.heap.size->w'.heap[b]? =w.heap[b]?):
 Ext g w h ⟨g.m,fun b=>g.nQ b∨b=w.heap.size⟩ w' h/\HR ⟨g.m,fun b=>g.nQ b∨b=w.heap.size⟩ w' h:=by
 have awb: ∀ b,qc g h b->b<w.heap.size:=by
  rintro b ⟨id,cs,s,e,m⟩
  obtain⟨_,_,_,hw,_⟩:=H.row e m
  exact(Array.getElem?_eq_some_iff.1 hw).1
 have E:Ext g w h ⟨g.m,fun b=>g.nQ b∨b=w.heap.size⟩ w' h:=by
  refine⟨h1,h2,h3,by omega,Nat.le_refl _,fun _ _ e=>e,fun b hb _=>h5 b hb,?_,fun _ i=>.inl i,?_,fun _ o=>.inl o⟩
  ·intro b
   unfold nE
   by_cases hb:b<w.heap.size
   ·rw[h5 b hb];exact Nat.le_refl _
   ·rw[Array.getElem?_eq_none (by omega)];exact Nat.zero_le _
  ·rintro b (i|rfl)
   ·exact .inl i
   ·exact .inr (.inr (Nat.le_refl _))
 refine⟨E,H.fresh,?_,H.inj,?_,s7.ext H E⟩
 ·intro id cs e
  obtain⟨b,s,C,el,vs,hm,hw,hi,hv,hc⟩:=H.cw id cs e
  have hb:=(Array.getElem?_eq_some_iff.1 hw).1
  refine⟨b,s,C,el,vs,hm,by rw[h5 b hb];exact hw,?_,cH.mono H E _ _ hv,hc⟩
  rintro(i|rfl)
  ·exact hi i
  ·omega
 ·rintro b (i|rfl)
  ·have:=H.nQ b i;omega
  ·omega
def J1(s:ByteArray):List Value:=s.data.toList.map fun b=>Value.int .u8 (.ofNat b.toNat)
omit [Io] in
theorem Ph(w:World)(e:TypeId)(s:ByteArray): ∃ cap w',∃ C:Array Value,∃ el:FT C,(Conv.stringToBytes e s).run P w=.ok (.slice (some ⟨w.heap.size,0,none⟩) s.size cap) w'/\s.size<=cap/\cap<=C.size/\
 w'.os=w.os/\w'.tape=w.tape/\w'.output=w.output/\w'.heap.size=w.heap.size+1/\(∀ b,w'.heap[b]? =if b=w.heap.size then some (.cells C el.el el.fz)else w.heap[b]?)/\(∀ (j:Nat) (v:Value),(J1 s)[j]? =some v->C[j]? =some v):=by
 obtain⟨cap,B3⟩: ∃ cap,cap=(Question.appendCap s.size 0 e).cut (w.tape w.drawn (.appendCap s.size 0 e)):=⟨_,rfl⟩
 have RK:s.size<=cap:=by rw[B3];simp[Question.cut]
 obtain⟨C,hC⟩: ∃ C:Array Value,C=s.data.map (fun b=>Value.int .u8 (b.toNat:Int))++Array.replicate (cap - s.size) (.int .u8 0):=⟨_,rfl⟩
 have hCs:C.size=cap:=by rw[hC];simp;show s.size+_=_;omega
 refine⟨cap,(w.drew.alloc (.cells C e)).freeze {block:=w.heap.size,off:=C.size} 1,C,⟨e,(C.size,C.size+1),.inr (Nat.le_refl _)⟩,?_,RK,by omega,rfl,rfl,rfl,?_,?_,?_⟩
 ·have hsh:(w.drew.alloc (.cells C e)).shape? w.heap.size=some (e,C.size):=by
   have:((w.drew.alloc (.cells C e)).heap)[w.heap.size]? =some (.cells C e):=by
    show(w.heap.push _)[w.heap.size]? =_
    simp
   simp only[World.shape?,this]
  simp[Conv.stringToBytes,run_choose,Question.forced,<-B3,<-hC,newRow,markStringish,hsh]
 ·simp[World.freeze]
 ·intro b
  have h1:((w.drew.alloc (.cells C e)).heap)[b]? =if b=w.heap.size then some (.cells C e)else w.heap[b]? :=by
   show(w.heap.push _)[b]? =_
   rw[Array.getElem?_push]
  simp only[World.freeze,Nat.one_ne_zero,if_false]
  rw[Array.getElem?_modify,h1]
  by_cases hb:b=w.heap.size
  ·subst hb
   rw[if_pos rfl,if_pos rfl,if_pos rfl]
   rfl
  ·rw[if_neg hb,if_neg hb,if_neg (by show ¬ w.heap.size=b;omega)]
 ·intro j v hj
  unfold J1 at hj
  have hl:=(List.getElem?_eq_some_iff.1 hj).1
  rw[hC,Array.getElem?_append_left (by simpa using hl)]
  simpa using hj
theorem cH.bytes(g:G)(w:World): ∀ (l:List UInt8),cH g w (l.map fun b=>AV.int .u8 (.ofNat b.toNat)) (l.map fun b=>Value.int .u8 (.ofNat b.toNat))
 | []=>by simp[cH]
 |b::l=>by
  simp only[List.map_cons,cH]
  exact⟨_,_,rfl,by simp only[VR],cH.bytes g w l⟩
theorem J2{S D e:TypeId}{d:TypeDesc}{x:Operand}(ho:o.op=.convert S D x)(hS:P.underlying S=some d)(hD:P.underlying D=some (.slice e))(he:P.underlying e=some (.int .u8)):
 s8 P o (uQ (cy x)):=by
 intro g w nt t h a v h' H Tr ev
 unfold uQ at ev
 split at ev
 ·rename_i s hx
  have hv:=cC x _ _ _ _ _ _ Tr hx
  simp only[VR]at hv
  cases ev
  obtain⟨hv,_⟩:=hv
  obtain⟨cap,w',C,el,hr,RK,hcC,h1,h2,h3,h4,h5,hc⟩:=Ph (P:=P) w e s
  obtain⟨E,H'⟩:=GU H el h1 h2 h3 h4 h5 (cs:=A5 (s.data.toList.map fun b=>.int .u8 (.ofNat b.toNat))) (vs:=J1 s) (by rw[pR];exact cH.bytes g w s.data.toList) hc
  refine⟨_,w',.value (.slice (some ⟨w.heap.size,0,none⟩) s.size cap),_,?_,.inl rfl,E,H',?_⟩
  ·simp[execOp,ho,hv,convert,run_underlying hS,run_underlying hD,run_underlying he,hr]
  ·simp only[VR]
   refine .inr ⟨w.heap.size,0,cap,by simp[G.add],rfl,RK,?_⟩
   have:w'.heap[w.heap.size]? =some (.cells C el.el el.fz):=by rw[h5,if_pos rfl]
   rw[qE this]
   omega
 ·cases ev
theorem Pj{D e:TypeId}{x:Operand}(ho:o.op=.convert D D x)(hD:P.underlying D=some (.slice e))(he:P.underlying e=some (.int .u8)):s8 P o (xf (cy x)):=by
 intro g w nt t h a v h' H Tr ev
 unfold xf at ev
 split at ev
 ·rename_i id off n sz hx
  have hv:=cC x _ _ _ _ _ _ Tr hx
  have vA:=hv
  cases hn:Nat.beq n 0 with
  |true=>rw[hn]at ev;cases ev
  |false=>
  rw[hn]at ev
  simp only[cond_false]at ev
  split at ev
  ·rename_i cs hg
   cases ev
   simp only[VR]at hv
   rcases hv with⟨rfl,_⟩|⟨b,s,cap,hm,hv,hc,_⟩
   ·cases hn
   obtain⟨C,el,vs,hw,hi,nP,XX⟩:=H.row hg hm
   have hsh:w.shape? b=some (el.el,C.size):=by simp only[World.shape?,hw]
   have MS:=el.ok'
   obtain⟨E,H'⟩:=RJ H (w':=w.freeze {block:=b,off:=C.size} 1) (el:=el) (el':=⟨el.el,if el.fz.1 == el.fz.2 then(C.size,C.size+1)else(min el.fz.1 C.size,max el.fz.2 (C.size+1)),by
    by_cases h0:el.fz.1=el.fz.2
    ·simp[h0]
    ·simp only[beq_iff_eq,h0,if_false]
     right
     show C.size<=min el.fz.1 C.size
     omega⟩) hg hm hw rfl rfl rfl (by simp[World.freeze]) (fun k=>by
    simp only[World.freeze,Nat.one_ne_zero,if_false]
    rw[Array.getElem?_modify]
    by_cases hk:k=b
    ·subst hk
     rw[if_pos rfl,if_pos rfl,hw]
     rfl
    ·rw[if_neg hk,if_neg (fun q=>hk q.symm)])
   refine⟨g,_,.value (a.eval x),a.eval x,?_,.inl rfl,E,H',VR.mono H E _ _ vA⟩
   rw[hv]
   simp[execOp,ho,hv,convert,run_underlying hD,run_underlying he,markStringish,hsh]
  ·cases ev
 ·cases ev
omit [Io] in
theorem Ff{P:Program}(t:TypeId)(w:World):(Instr.makeMap t none).run P w=.ok (.map (some w.heap.size)) (w.alloc (.map #[] 0)):=rfl
theorem RL{T:TypeId}(ho:o.op=.makeMap T none):s8 P o O4:=by
 intro g w nt t h a v h' H Tr ev
 cases ev
 obtain⟨E,H'⟩:=X0 H (w':=w.alloc (.map #[] 0)) rfl rfl rfl (by show(w.heap.push _).size=_;rw[Array.size_push]) (fun b hb=>by
  show(w.heap.push _)[b]? =_
  rw[Array.getElem?_push,if_neg (by omega)])
 exact⟨_,_,.value (.map (some w.heap.size)),_,by simp[execOp,ho,Ff],.inl rfl,E,H',by simp only[VR];rfl⟩
end
end Go.Ab

noncomputable section
namespace Go.Ab
variable [Io]
section
variable {P:Program}
theorem oS{op:BinOp}{T:TypeId}{f s:AV->AV->Option AV}(hf:mT P op T f)
 (hs: ∀ (a b r:AV),s a b=some r->(∀ (g:G) (w:World) (u v:Value),VR g w a u->VR g w b v-> ∃ k m k' n r0,u=.int k m/\v=.int k' n/\f (.int k m) (.int k' n)=some r0/\ ∀ z,VR g w r0 z->VR g w r z)):
 mT P op T (AE f s):=by
 intro g w a b r u v ha hb h
 unfold AE at h
 cases hr:f a b with
 |some r'=>
  rw[hr]at h
  cases h
  exact hf g w a b r u v ha hb hr
 |none=>
  rw[hr]at h
  obtain⟨k,m,k',n,r0,rfl,rfl,h1,h2⟩:=hs a b r h g w u v ha hb
  obtain⟨z,hz,hv,hg⟩:=hf g w (.int k m) (.int k' n) r0 (.int k m) (.int k' n) (by simp only[VR]) (by simp only[VR]) h1
  exact⟨z,hz,h2 z hv,hg⟩
def anM(f s:AV->AV->Option AV):Prop:= ∀ (a b r:AV),s a b=some r->(∀ (g:G) (w:World) (u v:Value),VR g w a u->VR g w b v-> ∃ k m k' n r0,u=.int k m/\v=.int k' n/\f (.int k m) (.int k' n)=some r0/\ ∀ z,VR g w r0 z->VR g w r z)
theorem sF{f:AV->AV->Option AV}:anM f Gz:=by
 intro a b r h
 cases h
omit [Io] in
theorem amv{a b:Int}:r7 a b=true↔a<b:=by rw[qe];simp
omit [Io] in
theorem X4{a b:Int}:r7 a b=false↔b<=a:=by rw[qe];simp
omit [Io] in
theorem oU{a b:Int}:eqI a b=true↔a=b:=by rw[zC];simp
omit [Io] in
theorem amw(m n:Int):eqI m n=decide (m=n):=by
 by_cases e:m=n
 ·rw[oU.2 e];simp[e]
 ·rw[show eqI m n=false from by rw[Bool.eq_false_iff];exact fun h=>e (oU.1 h)];simp[e]
omit [Io] in
theorem G9{l:List Nat}: ∀ {m:List Nat},zw l m=true↔l=m:=by
 induction l with
 |nil=>intro m;cases m<;>simp[zw]
 |cons a l ih=>
  intro m
  cases m with
  |nil=>simp[zw]
  |cons b m=>
   show(bif Nat.beq a b then zw l m else false)=true↔_
   cases e:Nat.beq a b with
   |true=>
    rw[Nat.eq_of_beq_eq_true e]
    show zw l m=true↔_
    rw[ih];simp
   |false=>
    have:a≠b:=fun e'=>by subst e';rw[Nat.beq_refl]at e;cases e
    simp[this]
omit [Io] in
theorem Pk{a b:SV}(h:uu a b=true):a=b:=by
 cases a<;>cases b<;>simp[uu,oU,G9]at h<;>simp[h]
omit [Io] in
theorem RM{a:SV}: ∀ {b:SV},JK a b=true->a=b:=by
 induction a with
 |tm f k k' a oa b ob xr BG=>
  intro y h
  cases y with
  |tm f2 k2 k2' a2 oa2 b2 ob2=>
   change (Nat.beq f f2&&(qp k k2&&(qp k' k2'&&(eqI oa oa2&&(eqI ob ob2&&(JK a a2&&JK b b2))))))=true at h
   simp only[Bool.and_eq_true]at h
   obtain⟨h1,h2,h3,h4,h5,h6,h7⟩:=h
   rw[Nat.eq_of_beq_eq_true h1,oc.1 h2,oc.1 h3,oU.1 h4,oU.1 h5,xr h6,BG h7]
  | _=>cases h
 |ix l a o xr=>
  intro y h
  cases y with
  |ix l2 a2 o2=>
   change (zw l l2&&(eqI o o2&&JK a a2))=true at h
   simp only[Bool.and_eq_true]at h
   obtain⟨h1,h2,h3⟩:=h
   rw[G9.1 h1,oU.1 h2,xr h3]
  | _=>cases h
 | _=>intro y h;exact Pk h
omit [Io] in
theorem aic{f:IntKind->Int->Int->Option AV}{k:IntKind}{m n:Int}:tE f (.int k m) (.int k n)=f k m n:=by
 unfold tE
 simp only[oc.2 rfl,cond_true]
omit [Io] in
theorem cR{α:Type}{b:Bool}{x:Option α}{r:α}(h:(bif b then x else none)=some r):b=true/\x=some r:=by
 cases b
 ·cases h
 ·exact⟨rfl,h⟩
theorem adN{a b:AV}{c:Bool}(h:Xo a b=some c){g:G}{w:World}{u v:Value}(ha:VR g w a u)(hb:VR g w b v): ∃ k m n,u=.int k m/\v=.int k n/\c=decide (m=n):=by cases h
theorem RO{a b:AV}{c:Bool}(h:Q7 a b=some c){g:G}{w:World}{u v:Value}(ha:VR g w a u)(hb:VR g w b v): ∃ k m n,u=.int k m/\v=.int k n/\c=decide (m<n):=by cases h
theorem RP(T:TypeId):mT P .add T s0:=oS (Xs T) sF
theorem RQ(T:TypeId):mT P .sub T sC:=oS (Xt T) sF
theorem RR(T:TypeId):mT P .and T sD:=oS (XG T) sF
theorem RS(T:TypeId):mT P .or T GN:=oS (adF T) sF
theorem RT(T:TypeId):mT P .xor T Aj:=oS (XH T) sF
theorem RU(T:TypeId):mT P .shl T BH:=oS (XI T) sF
theorem RW(T:TypeId):mT P .shr T DW:=oS (XJ T) sF
theorem RX(T:TypeId):mT P .lss T qN:=oS (Xx T) sF
theorem RY(T:TypeId):mT P .gtr T qf:=oS (Xy T) sF
theorem RZ(T:TypeId):mT P .leq T rK:=oS (Xz T) sF
theorem R4(T:TypeId):mT P .geq T qD:=oS (XA T) sF
theorem R5(T:TypeId):mT P .rem T s5:=oS (Xw T) sF
theorem R6(T:TypeId):mT P .quo T uv:=oS (Xv T) sF
theorem R7(T:TypeId):mT P .mul T tJ:=oS (Xu T) sF
theorem R8(T:TypeId):mT P .eql T (Ak false):=oS (XB T) sF
theorem R9(T:TypeId):mT P .neq T (Ak true):=oS (XC T) sF
theorem X5{k:IntKind}{b v:AV}{g:G}{w:World}{u:Value}(hf:BN k b=some v)(hv:VR g w b u): ∃ k' m r0,u=.int k' m/\Q8 k (.int k' m)=some r0/\ ∀ z,VR g w r0 z->VR g w v z:=by
 unfold BN ahW at hf
 cases hr:Q8 k b with
 |some r=>
  rw[hr]at hf
  cases hf
  unfold Q8 at hr
  split at hr
  ·cases hr
   simp only[VR]at hv
   exact⟨_,_,_,hv,rfl,fun z h=>h⟩
  ·cases hr
 |none=>
  rw[hr]at hf
  cases hf
theorem J3{o:Oper}{S D:TypeId}{d:TypeDesc}{k:IntKind}{x:Operand}(ho:o.op=.convert S D x)(hS:P.underlying S=some d)(hD:P.underlying D=some (.int k)):
 cN P o (GP (BN k) (cy x)):=by
 intro g w nt t h a v h' H Tr e
 obtain⟨b,hb,hf,rfl⟩:=yi e
 have hv:=cC x _ _ _ _ _ _ Tr hb
 obtain⟨k',m,r0,vA,hr,hz⟩:=X5 hf hv
 cases hr
 exact⟨rfl,.int k (k.wrap m),by simp[execOp,ho,vA,convert,run_underlying hS,run_underlying hD,Conv.intToInt],hz _ (by simp only[VR,rM])⟩
theorem Sa{x y:Operand}{xy:Array TypeId}{o:Oper}(ho:o.op=.call {callee:=.builtin .min,args:= #[x,y],argTypes:=xy}):cN P o (Dr (cy x) (cy y)):=by
 intro g w nt t h a v h' H Tr e
 unfold Dr vz at e
 cases hx:cy x t with
 |none=>rw[hx]at e;cases e
 |some ax=>
  cases hy:cy y t with
  |none=>rw[hx,hy]at e;cases e
  |some ay=>
   rw[hx,hy]at e
   have h3:=cC x _ _ _ _ _ _ Tr hx
   have h4:=cC y _ _ _ _ _ _ Tr hy
   unfold AE at e
   cases hr:tE (fun k a b=>some (.int k (bif r7 b a then b else a))) ax ay with
   |some r=>
    simp only[hr]at e
    cases e
    obtain⟨k,m,n,rfl,rfl,h2⟩:=zD hr
    cases h2
    simp only[VR]at h3 h4
    refine⟨rfl,.int k (if n<m then n else m),by simp[execOp,ho,resolve,invoke,builtin,Builtin.min_,Builtin.min2,h3,h4],?_⟩
    simp only[VR,qe]
    by_cases oI:n<m<;>simp[oI]
   |none=>
    simp only[hr]at e
    cases hl:Q7 ay ax with
    |none=>rw[hl]at e;cases e
    |some c=>
     rw[hl]at e
     cases e
     obtain⟨k,p,q,e1,e2,rfl⟩:=RO hl h4 h3
     have hex:(execOp a.eval o).run P w=.ok (.value (.int k (if p<q then p else q))) w:=by
      simp[execOp,ho,resolve,invoke,builtin,Builtin.min_,Builtin.min2,e1,e2]
     refine⟨rfl,_,hex,?_⟩
     by_cases oI:p<q
     ·simp only[oI,decide_true,cond_true,if_true,gt_iff_lt]
      rw[e1]at h4
      exact h4
     ·simp only[oI,decide_false,cond_false,if_false,gt_iff_lt]
      rw[e2]at h3
      exact h3
theorem Sb{x y:Operand}{xy:Array TypeId}{o:Oper}(ho:o.op=.call {callee:=.builtin .max,args:= #[x,y],argTypes:=xy}):cN P o (Ds (cy x) (cy y)):=by
 intro g w nt t h a v h' H Tr e
 unfold Ds vz at e
 cases hx:cy x t with
 |none=>rw[hx]at e;cases e
 |some ax=>
  cases hy:cy y t with
  |none=>rw[hx,hy]at e;cases e
  |some ay=>
   rw[hx,hy]at e
   have h3:=cC x _ _ _ _ _ _ Tr hx
   have h4:=cC y _ _ _ _ _ _ Tr hy
   unfold AE at e
   cases hr:tE (fun k a b=>some (.int k (bif r7 a b then b else a))) ax ay with
   |some r=>
    simp only[hr]at e
    cases e
    obtain⟨k,m,n,rfl,rfl,h2⟩:=zD hr
    cases h2
    simp only[VR]at h3 h4
    refine⟨rfl,.int k (if n>m then n else m),by simp[execOp,ho,resolve,invoke,builtin,Builtin.max_,Builtin.max2,h3,h4],?_⟩
    simp only[VR,qe]
    by_cases oI:m<n<;>simp[oI]
   |none=>
    simp only[hr]at e
    cases hl:Q7 ax ay with
    |none=>rw[hl]at e;cases e
    |some c=>
     rw[hl]at e
     cases e
     obtain⟨k,p,q,e1,e2,rfl⟩:=RO hl h3 h4
     have hex:(execOp a.eval o).run P w=.ok (.value (.int k (if q>p then q else p))) w:=by
      simp[execOp,ho,resolve,invoke,builtin,Builtin.max_,Builtin.max2,e1,e2]
     refine⟨rfl,_,hex,?_⟩
     by_cases oI:p<q
     ·simp only[oI,decide_true,cond_true,if_true,gt_iff_lt]
      rw[e2]at h4
      exact h4
     ·simp only[oI,decide_false,cond_false,if_false,gt_iff_lt]
      rw[e1]at h3
      exact h3
end
end Go.Ab

noncomputable section
namespace Go.Ab
variable [Io]
section
variable {P:Program}
def scalars(P:Program)(n:Nat)(l:List Field):Option (List Bool):=
 List.rec (fun _=>some []) (fun f _ ih n=>bif Nat.beq f.offset n&& !(decide (f.name= "_"))then
  (match P.info? f.type with
  |some i=>bif Nat.beq i.size 1 then
   (match P.underlying f.type with
   |some (.int _)=>(match ih (Nat.add n 1)with|some r=>some (true::r)|none=>none)
   |some .bool=>(match ih (Nat.add n 1)with|some r=>some (false::r)|none=>none)
   | _=>none)else none
  |none=>none)else none) l n
theorem Sd{i:Bool}{x y:AV}{c:Bool}(h:eq1 i x y=some c){g:G}{w:World}{u v:Value}(hx:VR g w x u)(hy:VR g w y v){T:TypeId}{d:Nat}
 (hT:(i=true/\ ∃ k,P.underlying T=some (.int k))∨(i=false/\P.underlying T=some .bool)):(Op.equalIn (d+1) T u v).run P w=.ok c w:=by
 rcases hT with⟨rfl,k,hT⟩|⟨rfl,hT⟩
 ·change (match(generalizing:=false) x,y with| .int k a,.int k' b=>bif qp k k' then some (eqI a b)else none| _,_=>Xo x y)=some c at h
  split at h
  ·rename_i k1 a k2 b
   cases e:qp k1 k2 with
   |false=>rw[e]at h;cases h
   |true=>
    rw[e]at h
    cases h
    obtain rfl:=oc.1 e
    simp only[VR]at hx hy
    subst hx;subst hy
    rw[run_equalIn_int w d T k1 k a b hT,zC]
  ·obtain⟨k1,m,n,rfl,rfl,rfl⟩:=adN h hx hy
   rw[run_equalIn_int w d T k1 k m n hT]
   congr 1
 ·change (match(generalizing:=false) x,y with| .bool a,.bool b=>some (!(xor a b))| _,_=>none)=some c at h
  split at h
  ·rename_i a b
   cases h
   simp only[VR]at hx hy
   subst hx;subst hy
   rw[run_equalIn_bool' w d T a b hT]
   cases a<;>cases b<;>rfl
  ·cases h
omit [Io] in
theorem yn{T:TypeId}{td:TypeDesc}{i:TypeInfo}{vs:Array Value}{n:Nat}{v:Value}{w:World}(hd:P.underlying T=some td)(ha:qT td=false)(hv:vs[n]? =some v):
 (Go.part T vs n).run P w=.ok v w:=by
 unfold Go.part
 simp only[Sem.run_bind,ux hd,ha,Result.andThen_ok]
 simp[hv]
theorem Ar{g:G}{w:World}(d:Nat): ∀ (fs:List Field) (n:Nat) (l:List Bool) (xs ys:List AV) (us vs:Array Value) (c:Bool),scalars P n fs=some l->Dp l xs ys=some c->
 cH g w xs (us.toList.drop n)->cH g w ys (vs.toList.drop n)->(Op.eqFields (d+1) us vs fs).run P w=.ok c w
 | [],n,l,xs,ys,us,vs,c,hs,e,hx,hy=>by
  cases hs
  cases e
  simp[Op.eqFields]
 |f::fs,n,l,xs,ys,us,vs,c,hs,e,hx,hy=>by
  change (bif Nat.beq f.offset n&& !(decide (f.name= "_"))then
   (match P.info? f.type with
   |some i=>bif Nat.beq i.size 1 then
    (match P.underlying f.type with
    |some (.int _)=>(match scalars P (n+1) fs with|some r=>some (true::r)|none=>none)
    |some .bool=>(match scalars P (n+1) fs with|some r=>some (false::r)|none=>none)
    | _=>none)else none
   |none=>none)else none)=some l at hs
  replace hs:=cR hs
  obtain⟨h0,hs⟩:=hs
  rw[Bool.and_eq_true]at h0
  have aid:f.offset=n:=Nat.eq_of_beq_eq_true h0.1
  have aie:f.name≠ "_" :=by simpa using h0.2
  split at hs
  ·replace hs:=cR hs
   obtain⟨_,hs⟩:=hs
   have key: ∀ (i:Bool) (r:List Bool) (td:TypeDesc),P.underlying f.type=some td->qT td=false->scalars P (n+1) fs=some r->l=i::r->
    ((i=true/\ ∃ k,P.underlying f.type=some (.int k))∨(i=false/\P.underlying f.type=some .bool))->(Op.eqFields (d+1) us vs (f::fs)).run P w=.ok c w:=by
    intro i r td htd aif hr hl hT
    subst hl
    change (match(generalizing:=false) xs with
     | []=>none
     |x::xs=>match(generalizing:=false) ys with
      | []=>none
      |y::ys=>match eq1 i x y with
       |none=>none
       |some c=>(Bool.rec (some false) (Dp r xs ys) c:Option Bool))=some c at e
    cases xs with
    |nil=>cases e
    |cons x xs=>
    cases ys with
    |nil=>cases e
    |cons y ys=>
    simp only at e
    cases h1:eq1 i x y with
    |none=>rw[h1]at e;cases e
    |some c1=>
    rw[h1]at e
    simp only[cH]at hx hy
    obtain⟨u,us',hu,hxu,X6⟩:=hx
    obtain⟨v,vs',hv,X7,hys⟩:=hy
    have hu0:us[n]? =some u:=by
     have:(us.toList.drop n)[0]? =some u:=by rw[hu];rfl
     simpa using this
    have hv0:vs[n]? =some v:=by
     have:(vs.toList.drop n)[0]? =some v:=by rw[hv];rfl
     simpa using this
    have hu1:us.toList.drop (n+1)=us':=by rw[<-List.drop_drop,hu];rfl
    have hv1:vs.toList.drop (n+1)=vs':=by rw[<-List.drop_drop,hv];rfl
    have pu:(Go.part f.type us f.offset).run P w=.ok u w:=by rw[aid];exact yn (i:=default) htd aif hu0
    have pv:(Go.part f.type vs f.offset).run P w=.ok v w:=by rw[aid];exact yn (i:=default) htd aif hv0
    simp only[Op.eqFields,if_pos aie,Sem.run_bind,pu,pv,Result.andThen_ok,Sd (P:=P) (d:=d) h1 hxu X7 hT]
    cases c1 with
    |false=>cases e;simp
    |true=>
     simp only[Bool.not_true,Bool.false_eq_true,if_false]
     exact Ar d fs (n+1) r xs ys us vs c hr e (by rw[hu1];exact X6) (by rw[hv1];exact hys)
   split at hs
   ·rename_i k hT
    split at hs
    ·rename_i r hr;cases hs;exact key true r _ hT rfl hr rfl (.inl ⟨rfl,_,hT⟩)
    ·cases hs
   ·rename_i hT
    split at hs
    ·rename_i r hr;cases hs;exact key false r _ hT rfl hr rfl (.inr ⟨rfl,hT⟩)
    ·cases hs
   ·cases hs
  ·cases hs
omit [Io] in
theorem zH{neg:Bool}{l:List Bool}{x y r:AV}(h:BI neg l x y=some r): ∃ xs ys c,x=.agg xs/\y=.agg ys/\Dp l xs ys=some c/\r=.bool (bif neg then !c else c):=by
 unfold BI at h
 split at h
 ·rename_i xs
  split at h
  ·rename_i ys
   split at h
   ·rename_i c hc
    cases h
    exact⟨xs,ys,c,rfl,rfl,hc,rfl⟩
   ·cases h
  ·cases h
 ·cases h
theorem MT{T:TypeId}{fs:Array Field}{l:List Bool}(hT:P.underlying T=some (.struct fs))(hs:P.stoodInHeld T=false)(hl:scalars P 0 fs.toList=some l){g:G}{w:World}
 {xs ys:List AV}{c:Bool}(hc:Dp l xs ys=some c){us vs:Array Value}(hx:cH g w xs us.toList)(hy:cH g w ys vs.toList):(Op.equalIn 10000 T (.agg us) (.agg vs)).run P w=.ok c w:=by
 have hf:P.fieldsOf T=fs:=by unfold Program.fieldsOf;rw[hT]
 refine(run_equalIn_struct w 9999 T us vs (by rw[hf];exact hT) hs).trans ?_
 rw[hf]
 exact Ar 9998 fs.toList 0 l xs ys us vs c hl hc (by simpa using hx) (by simpa using hy)
theorem X8{T:TypeId}{fs:Array Field}{l:List Bool}(hT:P.underlying T=some (.struct fs))(hs:P.stoodInHeld T=false)(hg:P.eqGuardType P.depth T=false)(hl:scalars P 0 fs.toList=some l):
 mT P .eql T (BI false l):=by
 intro g w a b r u v ha hb h
 obtain⟨xs,ys,c,rfl,rfl,hc,rfl⟩:=zH h
 simp only[VR]at ha hb
 obtain⟨us,rfl,hx⟩:=ha
 obtain⟨vs,rfl,hy⟩:=hb
 refine⟨.bool c,?_,by simp only[VR];rfl,fun x y=>run_eqGuard_agg w .eql T x y us vs hg⟩
 rw[run_eql_struct,MT hT hs hl hc hx hy]
 rfl
theorem X9{T:TypeId}{fs:Array Field}{l:List Bool}(hT:P.underlying T=some (.struct fs))(hs:P.stoodInHeld T=false)(hg:P.eqGuardType P.depth T=false)(hl:scalars P 0 fs.toList=some l):
 mT P .neq T (BI true l):=by
 intro g w a b r u v ha hb h
 obtain⟨xs,ys,c,rfl,rfl,hc,rfl⟩:=zH h
 simp only[VR]at ha hb
 obtain⟨us,rfl,hx⟩:=ha
 obtain⟨vs,rfl,hy⟩:=hb
 refine⟨.bool (!c),?_,by simp only[VR];rfl,fun x y=>run_eqGuard_agg w .neq T x y us vs hg⟩
 rw[run_neq_struct,MT hT hs hl hc hx hy]
 rfl
theorem D9{T e:TypeId}{n:Nat}{k:IntKind}(ht:P.underlying T=some (.array n e))(he:P.underlying e=some (.int k))(uO: ∀ w,(sizeOf e).run P w=.ok 1 w){g:G}{w:World}{xs ys:List AV}{c:Bool}(hc:Dp (List.replicate n true) xs ys=some c){us vs:Array Value}(hx:cH g w xs us.toList)(hy:cH g w ys vs.toList):
 (Op.equalIn 10000 T (.agg us) (.agg vs)).run P w=.ok c w:=by
 rw[show(10000:Nat)=9998+2 from rfl,Op.equalIn]
 simp only[Sem.run_bind,run_underlying ht,Result.andThen_ok,uO,Std.Legacy.Range.forIn_eq_forIn_range',Std.Legacy.Range.size,Nat.sub_zero,Nat.add_sub_cancel,Nat.div_one]
 rw[<-List.drop_zero (l:=us.toList)]at hx
 rw[<-List.drop_zero (l:=vs.toList)]at hy
 clear ht
 revert hx hy hc
 generalize 0=a
 induction n generalizing a xs ys with
 |zero=>
  intro hc hx hy
  cases hc
  simp
 |succ n ih=>
  intro hc hx hy
  rw[List.replicate_succ]at hc
  change (match(generalizing:=false) xs with
   | []=>none
   |x::xs=>match(generalizing:=false) ys with
    | []=>none
    |y::ys=>match eq1 true x y with
     |none=>none
     |some c=>(Bool.rec (some false) (Dp (List.replicate n true) xs ys) c:Option Bool))=some c at hc
  cases xs with
  |nil=>cases hc
  |cons x xs=>
  cases ys with
  |nil=>cases hc
  |cons y ys=>
  simp only at hc
  cases h1:eq1 true x y with
  |none=>rw[h1]at hc;cases hc
  |some c1=>
  rw[h1]at hc
  simp only[cH]at hx hy
  obtain⟨u,us',hu,hxu,X6⟩:=hx
  obtain⟨v,vs',hv,X7,hys⟩:=hy
  have hu0:us[a]? =some u:=by
   have:(us.toList.drop a)[0]? =some u:=by rw[hu];rfl
   simpa using this
  have hv0:vs[a]? =some v:=by
   have:(vs.toList.drop a)[0]? =some v:=by rw[hv];rfl
   simpa using this
  have hu1:us.toList.drop (a+1)=us':=by rw[<-List.drop_drop,hu];rfl
  have hv1:vs.toList.drop (a+1)=vs':=by rw[<-List.drop_drop,hv];rfl
  have pu:(Go.part e us (a*1)).run P w=.ok u w:=by rw[Nat.mul_one];exact yn (i:=default) he rfl hu0
  have pv:(Go.part e vs (a*1)).run P w=.ok v w:=by rw[Nat.mul_one];exact yn (i:=default) he rfl hv0
  rw[List.range'_succ]
  simp only[List.forIn_cons,Sem.run_bind,pu,pv,Result.andThen_ok,Sd (P:=P) (d:=9998) h1 hxu X7 (.inl ⟨rfl,k,he⟩)]
  cases c1 with
  |false=>cases hc;simp
  |true=>
   simp only[Bool.not_true,Bool.false_eq_true,if_false,Sem.run_pure,Result.andThen_ok]
   exact ih (a+1) hc (by rw[hu1];exact X6) (by rw[hv1];exact hys)
theorem MU{T e:TypeId}{n:Nat}{k:IntKind}{i:TypeInfo}(ht:P.underlying T=some (.array n e))(hg:P.eqGuardType P.depth T=false)(hi:P.info? e=some i)(hs:i.size=1)(he:P.underlying e=some (.int k)):mT P .eql T (BI false (List.replicate n true))/\mT P .neq T (BI true (List.replicate n true)):=by
 have uO: ∀ w,(sizeOf e).run P w=.ok 1 w:=fun w=>by simp[sizeOf,typeInfo,hi,hs]
 refine⟨?_,?_⟩<;>
 ·intro g w a b r u v ha hb h
  obtain⟨xs,ys,c,rfl,rfl,hc,rfl⟩:=zH h
  simp only[VR]at ha hb
  obtain⟨us,rfl,hx⟩:=ha
  obtain⟨vs,rfl,hy⟩:=hb
  refine⟨_,?_,by simp only[VR];rfl,fun x y=>run_eqGuard_agg w _ T x y us vs hg⟩
  first
   |(rw[run_eql_struct,D9 ht he uO hc hx hy];rfl)
   |(rw[run_neq_struct,D9 ht he uO hc hx hy];rfl)
def Ha(P:Program)(neg:Bool)(T:TypeId):Option (AV->AV->Option AV):=match P.underlying T with
 |some (.struct fs)=>match P.stoodInHeld T with
  |false=>match P.eqGuardType P.depth T with
   |false=>match scalars P 0 fs.toList with
    |some l=>some (BI neg l)
    |none=>none
   |true=>none
  |true=>none
 |some (.array n e)=>match P.eqGuardType P.depth T with
  |false=>match P.info? e with
   |some i=>match Nat.beq i.size 1 with
    |true=>match P.underlying e with
     |some (.int _)=>some (BI neg (List.replicate n true))
     | _=>none
    |false=>none
   |none=>none
  |true=>none
 | _=>none
theorem MV{T:TypeId}{f:AV->AV->Option AV}{neg:Bool}(h:Ha P neg T=some f):mT P (match neg with|true=>.neq|false=>.eql) T f:=by
 unfold Ha at h
 split at h
 ·rename_i fs hT
  split at h
  ·rename_i hs
   split at h
   ·rename_i hg
    split at h
    ·rename_i l hl
     cases h
     cases neg
     ·exact X8 hT hs hg hl
     ·exact X9 hT hs hg hl
    ·cases h
   ·cases h
  ·cases h
 ·rename_i n e hT
  split at h
  ·rename_i hg
   split at h
   ·rename_i i hi
    split at h
    ·rename_i hs
     split at h
     ·rename_i k he
      cases h
      cases neg
      ·exact(MU hT hg hi (Nat.eq_of_beq_eq_true hs) he).1
      ·exact(MU hT hg hi (Nat.eq_of_beq_eq_true hs) he).2
     ·cases h
    ·cases h
   ·cases h
  ·cases h
 ·cases h
theorem MW{T:TypeId}{f:AV->AV->Option AV}(h:Ha P false T=some f):mT P .eql T f:=MV h
theorem MX{T:TypeId}{f:AV->AV->Option AV}(h:Ha P true T=some f):mT P .neq T f:=MV h
end
end Go.Ab
