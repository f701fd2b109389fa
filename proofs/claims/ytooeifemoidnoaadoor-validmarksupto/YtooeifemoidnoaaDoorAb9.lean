import Derived.Test.YtooeifemoidnoaaDoorBitsCore
import Derived.Lib.AppendZerosOnto
import Derived.Lib.AppendStr
import Derived.Laws.StructEq
import Derived.LoopN
noncomputable section
namespace Go.Ab
variable [Io]
section
variable {P:Program}{o:Oper}
omit [Io] in
theorem run_append_zero(w:World)(t ty e:TypeId)(i:TypeInfo)(ht:P.underlying t=some (.slice e))(hi:P.info? e=some i)(b x:Option Addr)(sLen sCap c:Nat)(h:sLen<=sCap):
 (Builtin.append_ #[t,t] ty #[.slice b sLen sCap,.slice x 0 c]).run P w=.ok (.slice b sLen sCap) w:=by
 cases b<;>cases x<;>
  simp[Builtin.append_,run_underlying ht,sizeOf,typeInfo,hi,Builtin.lenOf,Builtin.firstCells,loadCells,loadCellsFrom,h,storeCells]
omit [Io] in
theorem run_append_at(w:World)(t ty e:TypeId)(i:TypeInfo)(ht:P.underlying t=some (.slice e))(hi:P.info? e=some i)
 (g at_ sLen sCap:Nat)(cur:Array Value)(el:FT cur)(hg:w.heap[g]? =some (.cells cur el.el el.fz))
 (a:Addr)(m c:Nat)(news:List Value)(hl:news.length=m*i.size)(hnews: ∀ j u,news[j]? =some u->w.cell? (a.add j)=some u)(h1: ∀ u∈news,u.oneCell'=true)
 (hroom:sLen+m<=sCap)(hfit:at_+sLen*i.size+news.length<=cur.size):
 (Builtin.append_ #[t,t] ty #[.slice (some ⟨g,at_,none⟩) sLen sCap,.slice (some a) m c]).run P w=
  .ok (.slice (some ⟨g,at_,none⟩) (sLen+m) sCap) (w.setRow g (cur.toList.take (at_+sLen*i.size)++news++cur.toList.drop (at_+sLen*i.size+news.length)).toArray):=by
 have hf:=run_firstCells_some (P:=P) w i.size m a m c news hl hnews
 have hst:=run_storeCells_ft P g (at_+sLen*i.size) el.el el.fz news 0 cur w hg el.ok (by simpa using hfit) h1
 simp only[Nat.add_zero]at hst
 simp[Builtin.append_,run_underlying ht,sizeOf,typeInfo,hi,Builtin.lenOf,hroom,hf,add_none,hst]
theorem sliceCells_some{g w h}(H:HR g w h){x:AV}{v:Value}(hv:VR g w x v){n:Nat}{cs:List AV}(e:sliceCells h x=some (n,cs)):
 ∃ a c,v=.slice a n c/\n<=c/\(cs=[]∨ ∃ b s vs,a=some ⟨b,s,none⟩/\VRs g w cs vs/\CellsAt w b s vs):=by
 unfold sliceCells at e
 split at e
 ·cases e
  simp only[VR]at hv
  obtain⟨a,rfl⟩:=hv
  exact⟨a,0,rfl,Nat.le_refl _,.inl rfl⟩
 ·cases e
  simp only[VR]at hv
  obtain⟨a,c,rfl,hc,hr⟩:=hv
  refine⟨a,c,rfl,hc,?_⟩
  rcases hr with⟨_,rfl⟩|⟨b,s,vs,rfl,_,hcs,hvs⟩
  ·exact .inl rfl
  ·exact .inr ⟨b,s,vs,rfl,hvs,hcs⟩
 ·rename_i id off n' sz
  split at e
  ·rename_i cs' hg
   split at e
   ·rename_i l hs
    cases e
    obtain⟨rfl,hl,_⟩:=seg_some hs
    simp only[VR]at hv
    rcases hv with⟨rfl,a,rfl⟩|⟨b,s,cap,hm,rfl,hc,_⟩
    ·refine⟨a,0,rfl,Nat.le_refl _,.inl ?_⟩
     have:(List.take (Nat.mul 0 sz) (List.drop off cs'.toL))=[]:=by
      rw[show Nat.mul 0 sz=0 from Nat.zero_mul _];rfl
     exact this
    ·obtain⟨C,el,vs,hw,_,hvs,hcc⟩:=H.row hg hm
     exact⟨_,cap,rfl,hc,.inr ⟨b,s+off,_,rfl,(hvs.drop off).take _,((cellsAt_row hw hcc).drop off).take _⟩⟩
   ·cases e
  ·cases e
 ·cases e
omit [Io] in
theorem addr_cells{w:World}{b s:Nat}{vs:List Value}(h:CellsAt w b s vs): ∀ j u,vs[j]? =some u->w.cell? ((⟨b,s,none⟩:Addr).add j)=some u:=by
 intro j u e
 rw[add_none]
 exact h j u e
structure AppOk(P:Program)(w:World)(ats:Array TypeId)(ty el:TypeId)(ie:TypeInfo)(zv:Value)(vx:Value)(n:Nat)(us:List Value):Prop where
 anil:0<n->n<=70368744177664->n*ie.bytes<=70368744177664->(Builtin.append_ ats ty #[.slice none 0 0,vx]).run P w=
  .ok (.slice (some ⟨w.heap.size,0,none⟩) n (grownCap w n 0 el)) (w.drew.alloc (.cells (us.toArray++Builtin.zeroCells zv.cells (grownCap w n 0 el - n)) el))
 agrow: ∀ (b:Addr) (sLen sCap:Nat) (olds:List Value),olds.length=sLen*ie.size->(∀ (j:Nat) (v:Value),olds[j]? =some v->w.cell? (b.add j)=some v)->0<n->sCap<sLen+n->sLen+n<=70368744177664->(sLen+n)*ie.bytes<=70368744177664->
  (Builtin.append_ ats ty #[.slice (some b) sLen sCap,vx]).run P w=.ok (.slice (some ⟨w.heap.size,0,none⟩) (sLen+n) (grownCap w (sLen+n) sCap el))
    (w.drew.alloc (.cells (olds.toArray++us.toArray++Builtin.zeroCells zv.cells (grownCap w (sLen+n) sCap el - (sLen+n))) el))
 aat: ∀ (g at_ sLen sCap:Nat) (cur:Array Value) (el:FT cur),w.heap[g]? =some (.cells cur el.el el.fz)->0<n->sLen+n<=70368744177664->(sLen+n)*ie.bytes<=70368744177664->(∀ u∈us,u.oneCell'=true)->
  sLen+n<=sCap->at_+sLen*ie.size+us.length<=cur.size->(Builtin.append_ ats ty #[.slice (some ⟨g,at_,none⟩) sLen sCap,vx]).run P w=
   .ok (.slice (some ⟨g,at_,none⟩) (sLen+n) sCap) (w.setRow g (cur.toList.take (at_+sLen*ie.size)++us++cur.toList.drop (at_+sLen*ie.size+us.length)).toArray)
theorem append_core{g:G}{w:World}{h h':Hp}{a:Act}{ats:Array TypeId}{el:TypeId}{ie:TypeInfo}{zv:Value}{vs0 vx:Value}{sv v:AV}{n:Nat}{new:List AV}(H:HR g w h)(hvs:VR g w sv vs0)(h0:0<ie.size)(hzvl:zv.cells.size=ie.size)
 (hex: ∀ vs r w',vs0=vs->(Builtin.append_ ats o.type #[vs,vx]).run P w=.ok r w'->(execOp a.eval o).run P w=.ok (.value r) w')
 (h00:n=0-> ∀ (b:Option Addr) (ln cap:Nat),ln<=cap->(Builtin.append_ ats o.type #[.slice b ln cap,vx]).run P w=.ok (.slice b ln cap) w)
 (hap:n≠0->new.length=n*ie.size-> ∃ us,VRs g w new us/\AppOk P w ats o.type el ie zv vx n us)
 (e:kAppC ie.size ie.bytes h sv n new=.ok v h'):
 ∃ g' w' nx x,(execOp a.eval o).run P w=.ok nx w'/\(nx=.value x∨(nx=.skip/\x=undef))/\Ext g w h g' w' h'/\HR g' w' h'/\VR g' w' v x:=by
   unfold kAppC at e
   have fresh: ∀ (b:Option Addr) (h2:Hp) (rw0:Rw),rw0.toL=new->vs0=.slice b 0 0->n≠0->n*ie.bytes<=70368744177664->allB cell1 new=true->new.length=n*ie.size->n<=70368744177664->
    HR g w h2->Ext g w h g w h2->
    ∃ g' w' nx x,(execOp a.eval o).run P w=.ok nx w'/\(nx=.value x∨(nx=.skip/\x=undef))/\Ext g w h g' w' (newO h2 rw0)/\HR g' w' (newO h2 rw0)/\VR g' w' (.hsl h2.next 0 n ie.size) x:=by
    intro b h2 rw0 hrw hse hn hby hones hlen hn46 H2 E2
    ·obtain⟨us,hus,A⟩:=hap hn hlen
     have hul:=hus.length
     have hul2:us.length=n*ie.size:=by omega
     obtain⟨E3,H3⟩:=drew_ext H2
     have hC: ∀ cap,n<=cap->n*ie.size+(cap - n)*ie.size=cap*ie.size:=by intro cap hc;rw[<-Nat.add_mul];congr 1;omega
     cases b with
     |none=>
      have hr:=A.anil (by omega) hn46 hby
      have hge:=grownCap_ge w n 0 el
      obtain⟨E4,H4⟩:=new_ext H3 (cs:=rw0) (C:=us.toArray++Builtin.zeroCells zv.cells (grownCap w n 0 el - n)) el (by rw[hrw];exact VRs.mono H2 E3 _ _ hus) (fun j v e=>by
       rw[Array.getElem?_append_left (by have:=(List.getElem?_eq_some_iff.1 e).1;simpa using this)];simpa using e)
      refine⟨_,_,_,_,hex _ _ _ hse hr,.inl rfl,E2.trans (E3.trans E4),H4,new_hsl hge ?_⟩
      rw[Array.size_append,size_zeroCells,hzvl,List.size_toArray,hul2,hC _ hge]
      exact Nat.le_refl _
     |some b=>
      have hr:=A.agrow b 0 0 [] (by simp) (by simp) (by omega) (by omega) (by omega) (by rw[Nat.zero_add];exact hby)
      simp only[Nat.zero_add]at hr
      have hge:=grownCap_ge w n 0 el
      obtain⟨E4,H4⟩:=new_ext H3 (cs:=rw0) (C:= #[]++us.toArray++Builtin.zeroCells zv.cells (grownCap w n 0 el - n)) el (by rw[hrw];exact VRs.mono H2 E3 _ _ hus) (fun j v e=>by
       rw[Array.getElem?_append_left (by have:=(List.getElem?_eq_some_iff.1 e).1;simpa using this)];simpa using e)
      refine⟨_,_,_,_,hex _ _ _ hse hr,.inl rfl,E2.trans (E3.trans E4),H4,new_hsl hge ?_⟩
      rw[Array.size_append,size_zeroCells,hzvl,Array.empty_append,List.size_toArray,hul2,hC _ hge]
      exact Nat.le_refl _
   split at e
   ·
    simp only[VR]at hvs
    obtain⟨b,hse⟩:=hvs
    cases hn:Nat.beq n 0 with
    |true=>
     rw[hn]at e
     cases e
     obtain rfl:=Nat.eq_of_beq_eq_true hn
     exact⟨g,w,_,_,hex _ _ _ hse (h00 rfl b 0 0 (Nat.le_refl _)),.inl rfl,Ext.refl _ _ _,H,by simp only[VR];exact⟨_,rfl⟩⟩
    |false=>
     rw[hn]at e
     have hn0:n≠0:=fun k=>by subst k;cases hn
     cases hc:(Nat.ble (Nat.mul n ie.bytes) 70368744177664&&(allB cell1 new&&(Nat.beq (len new) (Nat.mul n ie.size)&&Nat.ble n 70368744177664)))with
     |false=>simp only[hc]at e;cases e
     |true=>
      simp only[hc]at e
      cases e
      simp only[Bool.and_eq_true,len_eq]at hc
      exact fresh b h (ofL new) (toL_ofL new) hse hn0 (Nat.ble_eq.mp hc.1) hc.2.1 (Nat.eq_of_beq_eq_true hc.2.2.1) (Nat.ble_eq.mp hc.2.2.2) H (Ext.refl _ _ _)
   ·
    rename_i id off ln sz
    cases hn:Nat.beq n 0 with
    |true=>
     rw[hn]at e
     cases e
     obtain rfl:=Nat.eq_of_beq_eq_true hn
     have hvs':=hvs
     simp only[VR]at hvs
     rcases hvs with⟨rfl,b,hse⟩|⟨b,s',cap,hm,hse,hcap,_⟩
     ·rw[hse]at hvs'
      exact⟨g,w,_,_,hex _ _ _ hse (h00 rfl b 0 0 (Nat.le_refl _)),.inl rfl,Ext.refl _ _ _,H,hvs'⟩
     ·rw[hse]at hvs'
      exact⟨g,w,_,_,hex _ _ _ hse (h00 rfl _ ln cap hcap),.inl rfl,Ext.refl _ _ _,H,hvs'⟩
    |false=>
     rw[hn]at e
     have hn0:n≠0:=fun k=>by subst k;cases hn
     simp only[cond_false]at e
     split at e
     ·cases e
     ·rename_i cs hg
      split at e
      ·cases e
      ·rename_i pre hpre
       cases hc:(Nat.ble (Nat.mul (Nat.add ln n) ie.bytes) 70368744177664&&(Nat.beq sz ie.size&&(allB cell1 new&&(Nat.beq (len new) (Nat.mul n ie.size)&&Nat.ble (Nat.add ln n) 70368744177664))))with
       |false=>rw[hc]at e;cases e
       |true=>
        rw[hc]at e
        cases e
        simp only[Bool.and_eq_true,len_eq]at hc
        have hby:(ln+n)*ie.bytes<=70368744177664:=Nat.ble_eq.mp hc.1
        obtain rfl:sz=ie.size:=Nat.eq_of_beq_eq_true hc.2.1
        have hones:=hc.2.2.1
        have hlen:new.length=n*ie.size:=Nat.eq_of_beq_eq_true hc.2.2.2.1
        have h46:ln+n<=70368744177664:=Nat.ble_eq.mp hc.2.2.2.2
        obtain⟨hpt,hpl⟩:=sub_some hpre
        rw[hpt]at hpl
        have hpl':(List.take (ln*ie.size) (List.drop off cs.toL)).length=ln*ie.size:=hpl
        obtain⟨E2,H2⟩:=kill_ext H id
        simp only[VR]at hvs
        rcases hvs with⟨rfl,b,hse⟩|⟨b,s',cap,hm,hse,hcap,hrow⟩
        ·have:=fresh b (setO h id none) (pre.app new) (by
          rw[toL_app,hpt,show(List.take (Nat.mul 0 ie.size) (List.drop off cs.toL))=[]from by rw[show Nat.mul 0 ie.size=0 from Nat.zero_mul _];rfl,List.nil_append]) hse hn0 (by simpa using hby) hones hlen (by simpa using h46) H2 E2
         rw[show Nat.add 0 n=n from Nat.zero_add n]
         exact this
        ·obtain⟨us,hus,A⟩:=hap hn0 hlen
         ·have hul:=hus.length
          have hul2:us.length=n*ie.size:=by omega
          obtain⟨C,el',vs,hw,_,hvs,hcc⟩:=H.row hg hm
          rw[rowSize_row hw]at hrow
          have hpv:VRs g w (List.take (ln*ie.size) (List.drop off cs.toL)) ((vs.drop off).take (ln*ie.size)):=(hvs.drop off).take _
          have hpvl:((vs.drop off).take (ln*ie.size)).length=ln*ie.size:=by rw[hpv.length,hpl']
          have hpc:CellsAt w b (s'+off) ((vs.drop off).take (ln*ie.size)):=((cellsAt_row hw hcc).drop off).take _
          have hboth0:=hpv.append hus
          have hboth:VRs g w (pre.app new).toL ((vs.drop off).take (ln*ie.size)++us):=by
           rw[toL_app,hpt];exact hboth0
          by_cases hroom:ln+n<=cap
          ·have hm1:ln*ie.size+n*ie.size<=cap*ie.size:=by rw[<-Nat.add_mul];exact Nat.mul_le_mul_right _ hroom
           have hfit:s'+off+ln*ie.size+us.length<=C.size:=by omega
           have hr:=A.aat b (s'+off) ln cap C el' hw (by omega) h46 hby (VRs.ones hus hones) hroom hfit
           obtain⟨E3,H3⟩:=write_ext H (C':=(C.toList.take (s'+off+ln*ie.size)++us++C.toList.drop (s'+off+ln*ie.size+us.length)).toArray) (s':=s'+off)
            hg hm hw (by simp;omega) hboth (fun j v e=>by
             have hC1:(C.toList.take (s'+off+ln*ie.size)).length=s'+off+ln*ie.size:=by simp;omega
             rw[List.getElem?_toArray,List.append_assoc]
             by_cases hj:j<ln*ie.size
             ·rw[List.getElem?_append_left (by omega)]at e
              have:=hpc j v e
              rw[List.getElem?_append_left (by omega),List.getElem?_take_of_lt (by omega)]
              simp only[World.cell?,hw]at this
              simpa using this
             ·rw[List.getElem?_append_right (by omega),hpvl]at e
              have hj2:=(List.getElem?_eq_some_iff.1 e).1
              rw[List.getElem?_append_right (by omega),hC1,show s'+off+j - (s'+off+ln*ie.size)=j - ln*ie.size by omega,List.getElem?_append_left hj2]
              exact e)
           refine⟨_,_,_,_,hex _ _ _ hse hr,.inl rfl,E3,H3,?_⟩
           simp only[VR]
           refine .inr ⟨b,s'+off,cap,by simp,rfl,hroom,?_⟩
           have hget:=setRow_get (C':=(C.toList.take (s'+off+ln*ie.size)++us++C.toList.drop (s'+off+ln*ie.size+us.length)).toArray) hw b
           rw[if_pos rfl]at hget
           rw[rowSize_row hget]
           simp
           omega
          ·have hr:=A.agrow ⟨b,s'+off,none⟩ ln cap ((vs.drop off).take (ln*ie.size)) hpvl (addr_cells hpc) (by omega) (by omega) h46 hby
           have hge:=grownCap_ge w (ln+n) cap el
           obtain⟨E3,H3⟩:=drew_ext H2
           obtain⟨E4,H4⟩:=new_ext H3 (C:=((vs.drop off).take (ln*ie.size)).toArray++us.toArray++Builtin.zeroCells zv.cells (grownCap w (ln+n) cap el - (ln+n))) el
            (VRs.mono H2 E3 _ _ (VRs.mono H E2 _ _ hboth)) (fun j v e=>by
             rw[Array.getElem?_append_left (by have:=(List.getElem?_eq_some_iff.1 e).1;simp at this ⊢;omega)]
             simpa using e)
           refine⟨_,_,_,_,hex _ _ _ hse hr,.inl rfl,E2.trans (E3.trans E4),H4,new_hsl hge ?_⟩
           have hC:(ln+n)*ie.size+(grownCap w (ln+n) cap el - (ln+n))*ie.size=grownCap w (ln+n) cap el*ie.size:=by rw[<-Nat.add_mul];congr 1;omega
           rw[Array.size_append,size_zeroCells,hzvl,Array.size_append,List.size_toArray,List.size_toArray,hpvl,hul2,<-Nat.add_mul,hC]
           exact Nat.le_refl _
   ·
    rename_i ln cs
    cases hn:Nat.beq n 0 with
    |true=>
     rw[hn]at e
     cases e
     obtain rfl:=Nat.eq_of_beq_eq_true hn
     have hvs':=hvs
     simp only[VR]at hvs
     obtain⟨b,cap,hse,hcap,_⟩:=hvs
     rw[hse]at hvs'
     exact⟨g,w,_,_,hex _ _ _ hse (h00 rfl _ ln cap hcap),.inl rfl,Ext.refl _ _ _,H,hvs'⟩
    |false=>rw[hn]at e;cases e
   ·cases e
def cAppend0(P:Program)(T:TypeId)(s x:Operand):OpF:=
 match P.underlying T with
 |some (.slice e)=>match P.info? e with
  |some ie=>match zeroOf P e with
   |some z=>ifb (Nat.beq (len z) ie.size&&(Nat.blt 0 ie.size&&Nat.blt 0 ie.bytes)) (kAppend ie.size ie.bytes (wO (cOpd s)) (wO (cOpd x))) kBad
   |none=>kBad
  |none=>kBad
 | _=>kBad
theorem run_kAppend0{T:TypeId}{s x:Operand}(ho:o.op=.call {callee:=.builtin .append,args:= #[s,x],argTypes:= #[T,T]}):OpRun P o (cAppend0 P T s x):=by
 intro g w nt t h a v h' H Tr e
 unfold cAppend0 at e
 cases hu:P.underlying T with
 |none=>rw[hu]at e;cases e
 |some d=>
 rw[hu]at e
 cases d<;>try (cases e;done)
 rename_i el
 simp only at e
 cases hie:P.info? el with
 |none=>rw[hie]at e;cases e
 |some ie=>
 rw[hie]at e
 cases hz:zeroOf P el with
 |none=>simp only[hz]at e;cases e
 |some z=>
 simp only[hz]at e
 cases hb:(Nat.beq (len z) ie.size&&(Nat.blt 0 ie.size&&Nat.blt 0 ie.bytes))with
 |false=>rw[hb]at e;cases e
 |true=>
 rw[hb]at e
 simp only[Bool.and_eq_true,len_eq]at hb
 have hzl:=Nat.eq_of_beq_eq_true hb.1
 have h0:0<ie.size:=blt_iff.1 hb.2.1
 obtain⟨i,zv,hi,hzv,hzr⟩:=zeroOf_some hz
 obtain rfl:ie=i:=by rw[hie]at hi;exact Option.some.inj hi
 have hzvl:zv.cells.size=ie.size:=by
  have:=(hzr g w).length
  simp only[Array.length_toList]at this
  omega
 change kAppend ie.size ie.bytes (wO (cOpd s)) (wO (cOpd x)) t h=.ok v h' at e
 have hex: ∀ vs vx r w',a.eval s=vs->a.eval x=vx->(Builtin.append_ #[T,T] o.type #[vs,vx]).run P w=.ok r w'->(execOp a.eval o).run P w=.ok (.value r) w':=by
  intro vs vx r w' h1 h2 h3
  unfold execOp
  simp only[ho,resolve,invoke,builtin,Sem.run_bind,Sem.run_pure,Result.andThen_ok,List.map_toArray,List.map_cons,List.map_nil,h1,h2,h3]
 unfold kAppend at e
 split at e
 ·rename_i sv hs
  split at e
  ·rename_i xv hx
   have hvs:=wOpd_ok s _ _ _ _ _ _ Tr hs
   have hvx:=wOpd_ok x _ _ _ _ _ _ Tr hx
   split at e
   ·cases e
   ·rename_i n new hsc
    obtain⟨xa,xc,hxe,hxc,hnew⟩:=sliceCells_some H hvx hsc
    refine append_core (el:=el) H hvs h0 hzvl (fun vs r w' h1 h3=>hex vs _ r w' h1 hxe h3) (fun hn b ln cap hle=>by
     subst hn
     exact run_append_zero w T o.type el ie hu hie b xa ln cap xc hle) (fun hn hlen=>?_) e
    rcases hnew with rfl|⟨xb,xs,us,rfl,hus,hcs⟩
    ·have:n*ie.size≠0:=Nat.mul_ne_zero hn (by omega)
     simp at hlen;omega
    ·have hul:=hus.length
     have hul2:us.length=n*ie.size:=by omega
     refine⟨us,hus,⟨fun hp h46 hby=>?_,fun b sLen sCap olds hol hoc hp hlt h46 hby=>?_,fun b at_ sLen sCap cur el' hw hp h46 hby hones hroom hfit=>?_⟩⟩
     ·exact run_append_nil (P:=P) w T o.type el ie zv hu hie hzv ⟨xb,xs,none⟩ n xc us hul2 (addr_cells hcs) (by omega) (by omega) (by omega)
     ·exact run_append_grow (P:=P) w T o.type el ie zv hu hie hzv b sLen sCap olds hol hoc ⟨xb,xs,none⟩ n xc us hul2 (addr_cells hcs) (by omega) (by omega) (growslice_fits (by omega) (by omega))
     ·exact run_append_at (P:=P) w T o.type el ie hu hie b at_ sLen sCap cur el' hw ⟨xb,xs,none⟩ n xc us hul2 (addr_cells hcs) hones hroom hfit
  ·cases e
 ·cases e
def cAppend(P:Program)(T:TypeId)(s x:Operand):OpF:=
 match P.underlying T with
 |some (.slice e)=>match P.info? e with
  |some ie=>match zeroOf P e with
   |some z=>ifb (Nat.beq (len z) ie.size&&(Nat.blt 0 ie.size&&Nat.blt 0 ie.bytes)) (kAppendN ie.size ie.bytes (cOpd s) (cOpd x)) kBad
   |none=>kBad
  |none=>kBad
 | _=>kBad
theorem run_kAppend{T:TypeId}{s x:Operand}(ho:o.op=.call {callee:=.builtin .append,args:= #[s,x],argTypes:= #[T,T]}):OpRun P o (cAppend P T s x):=by
 intro g w nt t h a v h' H Tr e
 have h0:=run_kAppend0 (P:=P) ho g w nt t h a v h' H Tr
 unfold cAppend at e
 unfold cAppend0 at h0
 cases hu:P.underlying T with
 |none=>rw[hu]at e;cases e
 |some d=>
 rw[hu]at e h0
 cases d<;>try (cases e;done)
 rename_i el
 simp only at e h0
 cases hie:P.info? el with
 |none=>rw[hie]at e;cases e
 |some ie=>
 rw[hie]at e h0
 cases hz:zeroOf P el with
 |none=>simp only[hz]at e;cases e
 |some z=>
 simp only[hz]at e h0
 cases hb:(Nat.beq (len z) ie.size&&(Nat.blt 0 ie.size&&Nat.blt 0 ie.bytes))with
 |false=>rw[hb]at e;cases e
 |true=>
 rw[hb]at e h0
 change kAppendN ie.size ie.bytes (cOpd s) (cOpd x) t h=.ok v h' at e
 unfold kAppendN at e
 split at e
 ·rename_i av hs
  split at e
  ·rename_i bv hx
   cases hE:(isE av&&isZ bv)with
   |false=>rw[hE]at e;exact h0 e
   |true=>
    rw[hE]at e
    cases e
    rw[Bool.and_eq_true]at hE
    have hv:=cOpd_ok s _ _ _ _ _ _ Tr hs
    obtain⟨b,hse⟩:=isE_ok hE.1 hv
    obtain⟨xa,xc,hxe⟩:=isZ_ok hE.2 (cOpd_ok x _ _ _ _ _ _ Tr hx)
    have hr:=run_append_zero (P:=P) w T o.type el ie hu hie b xa 0 0 xc (Nat.le_refl _)
    refine⟨g,w,_,a.eval s,?_,.inl rfl,Ext.refl _ _ _,H,hv⟩
    unfold execOp
    simp only[ho,resolve,invoke,builtin,Sem.run_bind,Sem.run_pure,Result.andThen_ok,List.map_toArray,List.map_cons,List.map_nil,hse,hxe,hr]
  ·cases e
 ·cases e
def cAppZ(P:Program)(T T':TypeId)(s x:Operand):OpF:=
 match P.underlying T with
 |some (.slice e)=>match P.underlying T' with
  |some (.int _)=>match P.info? e with
   |some ie=>match zeroOf P e with
    |some z=>ifb (Nat.beq (len z) ie.size&&(Nat.blt 0 ie.size&&Nat.blt 0 ie.bytes)) (kAppZ ie.size ie.bytes z (cOpd s) (cOpd x)) kBad
    |none=>kBad
   |none=>kBad
  | _=>kBad
 | _=>kBad
omit [Io] in
theorem run_append_zeros0(w:World)(t tn ty e:TypeId)(i:TypeInfo)(kn k:IntKind)(ht:P.underlying t=some (.slice e))(htn:P.underlying tn=some (.int kn))(hi:P.info? e=some i)(b:Option Addr)(sLen sCap:Nat)(h:sLen<=sCap):
 (Builtin.append_ #[t,tn] ty #[.slice b sLen sCap,.int k ((0:Nat):Int)]).run P w=.ok (.slice b sLen sCap) w:=by
 have hw:IntKind.i64.wrap 0=0:=by rw[IntKind.wrap_i64];omega
 cases b<;>simp[Builtin.append_,run_underlying ht,run_underlying htn,sizeOf,typeInfo,hi,asInt,asIntOf,hw,h,storeCells]
omit [Io] in
theorem run_append_zerosAt(w:World)(t tn ty e:TypeId)(i:TypeInfo)(z:Value)(kn k:IntKind)(ht:P.underlying t=some (.slice e))(htn:P.underlying tn=some (.int kn))(hi:P.info? e=some i)(hz:i.zero=some z)(hs:0<i.size)(hzl:z.cells.size=i.size)
 (g at_ sLen sCap n:Nat)(cur:Array Value)(el:FT cur)(hg:w.heap[g]? =some (.cells cur el.el el.fz))(h0:0<n)(h46:n<=70368744177664)(hby:n*i.bytes<=70368744177664)
 (h1: ∀ u∈(Builtin.zeroCells z.cells n).toList,u.oneCell'=true)(hroom:sLen+n<=sCap)(hfit:at_+sLen*i.size+(Builtin.zeroCells z.cells n).toList.length<=cur.size):
 (Builtin.append_ #[t,tn] ty #[.slice (some ⟨g,at_,none⟩) sLen sCap,.int k n]).run P w=
  .ok (.slice (some ⟨g,at_,none⟩) (sLen+n) sCap) (w.setRow g (cur.toList.take (at_+sLen*i.size)++(Builtin.zeroCells z.cells n).toList++cur.toList.drop (at_+sLen*i.size+(Builtin.zeroCells z.cells n).toList.length)).toArray):=by
 have hst:=run_storeCells_ft P g (at_+sLen*i.size) el.el el.fz (Builtin.zeroCells z.cells n).toList 0 cur w hg el.ok (by simpa using hfit) h1
 simp only[Nat.add_zero]at hst
 have hw:IntKind.i64.wrap (n:Int)=n:=by rw[IntKind.wrap_i64];omega
 have hneg: ¬ ((n:Int)<0):=by omega
 have h48i: ¬ (281474976710656<(n:Int)*(i.bytes:Int)):=by
  rw[<-Int.natCast_mul]
  omega
 have hns: ¬ (n*i.size=0):=Nat.mul_ne_zero (by omega) (by omega)
 have hk:n≠0:=by omega
 simp[Builtin.append_,run_underlying ht,run_underlying htn,sizeOf,typeInfo,zeroValue,hi,hz,asInt,asIntOf,hw,hneg,h48i,hns,hroom,add_none]
 have hst':(storeCells ⟨g,at_+sLen*i.size,none⟩ (Builtin.zeroCells z.cells n).toList).run P w=_:=hst
 rw[hst']
 simp
theorem run_kAppZ{T T':TypeId}{s x:Operand}(ho:o.op=.call {callee:=.builtin .append,args:= #[s,x],argTypes:= #[T,T']}):OpRun P o (cAppZ P T T' s x):=by
 intro g w nt t h a v h' H Tr e
 unfold cAppZ at e
 cases hu:P.underlying T with
 |none=>rw[hu]at e;cases e
 |some d=>
 rw[hu]at e
 cases d<;>try (cases e;done)
 rename_i el
 simp only at e
 cases hu':P.underlying T' with
 |none=>rw[hu']at e;cases e
 |some d'=>
 rw[hu']at e
 cases d'<;>try (cases e;done)
 rename_i kn
 simp only at e
 cases hie:P.info? el with
 |none=>rw[hie]at e;cases e
 |some ie=>
 rw[hie]at e
 cases hz:zeroOf P el with
 |none=>simp only[hz]at e;cases e
 |some z=>
 simp only[hz]at e
 cases hb:(Nat.beq (len z) ie.size&&(Nat.blt 0 ie.size&&Nat.blt 0 ie.bytes))with
 |false=>rw[hb]at e;cases e
 |true=>
 rw[hb]at e
 simp only[Bool.and_eq_true,len_eq]at hb
 have hzl:=Nat.eq_of_beq_eq_true hb.1
 have h0:0<ie.size:=blt_iff.1 hb.2.1
 obtain⟨i,zv,hi,hzv,hzr⟩:=zeroOf_some hz
 obtain rfl:ie=i:=by rw[hie]at hi;exact Option.some.inj hi
 have hzvl:zv.cells.size=ie.size:=by
  have:=(hzr g w).length
  simp only[Array.length_toList]at this
  omega
 change kAppZ ie.size ie.bytes z (cOpd s) (cOpd x) t h=.ok v h' at e
 unfold kAppZ at e
 split at e
 ·rename_i av hs
  split at e
  ·rename_i kx n hx
   have hvs:=cOpd_ok s _ _ _ _ _ _ Tr hs
   have hvx:=cOpd_ok x _ _ _ _ _ _ Tr hx
   simp only[VR]at hvx
   have hvx:a.eval x=.int kx (n:Int):=hvx
   have hex: ∀ vs r w',a.eval s=vs->(Builtin.append_ #[T,T'] o.type #[vs,.int kx (n:Int)]).run P w=.ok r w'->(execOp a.eval o).run P w=.ok (.value r) w':=by
    intro vs r w' h1 h3
    unfold execOp
    simp only[ho,resolve,invoke,builtin,Sem.run_bind,Sem.run_pure,Result.andThen_ok,List.map_toArray,List.map_cons,List.map_nil,h1,hvx,h3]
   cases hE:(isE av&&Nat.beq n 0)with
   |true=>
    rw[hE]at e
    cases e
    rw[Bool.and_eq_true]at hE
    obtain rfl:=Nat.eq_of_beq_eq_true hE.2
    obtain⟨b,hse⟩:=isE_ok hE.1 hvs
    refine⟨g,w,_,a.eval s,hex _ _ _ rfl ?_,.inl rfl,Ext.refl _ _ _,H,hvs⟩
    rw[hse]
    exact run_append_zeros0 w T T' o.type el ie kn kx hu hu' hie b 0 0 (Nat.le_refl _)
   |false=>
    rw[hE]at e
    simp only[cond_false]at e
    refine append_core (el:=el) H (wkE_ok hvs) h0 hzvl hex (fun hn b ln cap hle=>by
     subst hn
     exact run_append_zeros0 w T T' o.type el ie kn kx hu hu' hie b ln cap hle) (fun hn hlen=>?_) e
    have hzc:VRs g w (repeatL n z) (Builtin.zeroCells zv.cells n).toList:=by
     have:=(hzr g w).repeat n
     rw[<-made_toList]at this
     unfold Builtin.zeroCells
     exact this
    refine⟨(Builtin.zeroCells zv.cells n).toList,hzc,⟨fun hp h46 hby=>?_,fun b sLen sCap olds hol hoc hp hlt h46 hby=>?_,fun b at_ sLen sCap cur el' hw hp h46 hby hones hroom hfit=>?_⟩⟩
    ·have:=Lib.run_append_nil_zeros (P:=P) w T T' o.type el ie zv kx kn hu hu' hie hzv n hp h0 (by omega) (by omega)
     simpa using this
    ·have hfo:=run_firstCells_some (P:=P) w.drew ie.size sLen b sLen sCap olds hol (by simpa using hoc)
     have hnb:n*ie.bytes<=(sLen+n)*ie.bytes:=Nat.mul_le_mul_right _ (by omega)
     have:=Lib.run_append_grow_zeros (P:=P) w T T' o.type el ie zv kx kn hu hu' hie hzv (some b) sLen sCap olds hfo n hp h0 hlt (by omega) (by omega) (growslice_fits (by omega) (by omega))
     simpa using this
    ·have hnb:n*ie.bytes<=(sLen+n)*ie.bytes:=Nat.mul_le_mul_right _ (by omega)
     exact run_append_zerosAt w T T' o.type el ie zv kn kx hu hu' hie hzv h0 hzvl b at_ sLen sCap n cur el' hw hp (by omega) (by omega) hones hroom hfit
  ·cases e
 ·cases e
def cAppS(P:Program)(T T':TypeId)(s x:Operand):OpF:=
 match P.underlying T with
 |some (.slice e)=>match P.underlying T' with
  |some .string=>match P.info? e with
   |some ie=>match zeroOf P e with
    |some z=>ifb (Nat.beq (len z) ie.size&&(Nat.beq ie.size 1&&Nat.blt 0 ie.bytes)) (kAppS ie.bytes (cOpd s) (cOpd x)) kBad
    |none=>kBad
   |none=>kBad
  | _=>kBad
 | _=>kBad
theorem VRs.strB(g:G)(w:World): ∀ (l:List UInt8),VRs g w (l.map fun b=>AV.int .u8 (.ofNat b.toNat)) (l.map fun b=>Value.int .u8 (b.toNat:Int))
 | []=>by simp[VRs]
 |b::l=>by
  simp only[List.map_cons,VRs]
  exact⟨_,_,rfl,by simp only[VR];rfl,VRs.strB g w l⟩
omit [Io] in
theorem run_append_str0(w:World)(t tn ty e:TypeId)(i:TypeInfo)(ht:P.underlying t=some (.slice e))(htn:P.underlying tn=some .string)(hi:P.info? e=some i)(s:ByteArray)(hs:s.size=0)(b:Option Addr)(sLen sCap:Nat)(h:sLen<=sCap):
 (Builtin.append_ #[t,tn] ty #[.slice b sLen sCap,.string s]).run P w=.ok (.slice b sLen sCap) w:=by
 have h1:(Array.map (fun b:UInt8=>Value.int IntKind.u8 (b.toNat:Int)) s.data).extract 0 0= #[]:=by simp
 cases b<;>simp[Builtin.append_,run_underlying ht,run_underlying htn,sizeOf,typeInfo,hi,Builtin.lenOf,Builtin.firstCells,hs,h,h1,storeCells]
omit [Io] in
theorem run_append_strAt(w:World)(t tn ty e:TypeId)(i:TypeInfo)(ht:P.underlying t=some (.slice e))(htn:P.underlying tn=some .string)(hi:P.info? e=some i)(hs1:i.size=1)(s:ByteArray)
 (g at_ sLen sCap:Nat)(cur:Array Value)(el:FT cur)(hg:w.heap[g]? =some (.cells cur el.el el.fz))
 (hroom:sLen+s.size<=sCap)(hfit:at_+sLen*i.size+(Lib.strCells s).length<=cur.size):
 (Builtin.append_ #[t,tn] ty #[.slice (some ⟨g,at_,none⟩) sLen sCap,.string s]).run P w=
  .ok (.slice (some ⟨g,at_,none⟩) (sLen+s.size) sCap) (w.setRow g (cur.toList.take (at_+sLen*i.size)++(Lib.strCells s)++cur.toList.drop (at_+sLen*i.size+(Lib.strCells s).length)).toArray):=by
 have hst:=run_storeCells_ft P g (at_+sLen*i.size) el.el el.fz (Lib.strCells s) 0 cur w hg el.ok (by simpa using hfit) (by
  intro v hv
  obtain⟨b,_,rfl⟩:=List.mem_map.1 hv
  rfl)
 simp only[Nat.add_zero]at hst
 have hf:=Lib.run_firstCells_string (P:=P) w i.size s
 simp[Builtin.append_,run_underlying ht,run_underlying htn,sizeOf,typeInfo,hi,Builtin.lenOf,hroom,hf,add_none]
 have hst':(storeCells ⟨g,at_+sLen*i.size,none⟩ (Lib.strCells s)).run P w=_:=hst
 rw[hst']
 simp
theorem run_kAppS{T T':TypeId}{s x:Operand}(ho:o.op=.call {callee:=.builtin .append,args:= #[s,x],argTypes:= #[T,T']}):OpRun P o (cAppS P T T' s x):=by
 intro g w nt t h a v h' H Tr e
 unfold cAppS at e
 cases hu:P.underlying T with
 |none=>rw[hu]at e;cases e
 |some d=>
 rw[hu]at e
 cases d<;>try (cases e;done)
 rename_i el
 simp only at e
 cases hu':P.underlying T' with
 |none=>rw[hu']at e;cases e
 |some d'=>
 rw[hu']at e
 cases d'<;>try (cases e;done)
 simp only at e
 cases hie:P.info? el with
 |none=>rw[hie]at e;cases e
 |some ie=>
 rw[hie]at e
 cases hz:zeroOf P el with
 |none=>simp only[hz]at e;cases e
 |some z=>
 simp only[hz]at e
 cases hb:(Nat.beq (len z) ie.size&&(Nat.beq ie.size 1&&Nat.blt 0 ie.bytes))with
 |false=>rw[hb]at e;cases e
 |true=>
 rw[hb]at e
 simp only[Bool.and_eq_true,len_eq]at hb
 have hzl:=Nat.eq_of_beq_eq_true hb.1
 have hs1:ie.size=1:=Nat.eq_of_beq_eq_true hb.2.1
 have h0:0<ie.size:=by omega
 obtain⟨i,zv,hi,hzv,hzr⟩:=zeroOf_some hz
 obtain rfl:ie=i:=by rw[hie]at hi;exact Option.some.inj hi
 have hzvl:zv.cells.size=ie.size:=by
  have:=(hzr g w).length
  simp only[Array.length_toList]at this
  omega
 change kAppS ie.bytes (cOpd s) (cOpd x) t h=.ok v h' at e
 unfold kAppS at e
 split at e
 ·rename_i av hs
  split at e
  ·rename_i b hx
   have hvs:=cOpd_ok s _ _ _ _ _ _ Tr hs
   have hvx:=cOpd_ok x _ _ _ _ _ _ Tr hx
   simp only[VR]at hvx
   have hvx:a.eval x=.string b:=hvx.1
   have hex: ∀ vs r w',a.eval s=vs->(Builtin.append_ #[T,T'] o.type #[vs,.string b]).run P w=.ok r w'->(execOp a.eval o).run P w=.ok (.value r) w':=by
    intro vs r w' h1 h3
    unfold execOp
    simp only[ho,resolve,invoke,builtin,Sem.run_bind,Sem.run_pure,Result.andThen_ok,List.map_toArray,List.map_cons,List.map_nil,h1,hvx,h3]
   cases hE:(isE av&&Nat.beq b.size 0)with
   |true=>
    rw[hE]at e
    cases e
    rw[Bool.and_eq_true]at hE
    obtain⟨p,hse⟩:=isE_ok hE.1 hvs
    refine⟨g,w,_,a.eval s,hex _ _ _ rfl ?_,.inl rfl,Ext.refl _ _ _,H,hvs⟩
    rw[hse]
    exact run_append_str0 w T T' o.type el ie hu hu' hie b (Nat.eq_of_beq_eq_true hE.2) p 0 0 (Nat.le_refl _)
   |false=>
    rw[hE]at e
    simp only[cond_false]at e
    rw[<-hs1]at e
    refine append_core (el:=el) H (wkE_ok hvs) h0 hzvl hex (fun hn p ln cap hle=>run_append_str0 w T T' o.type el ie hu hu' hie b hn p ln cap hle) (fun hn hlen=>?_) e
    refine⟨b.data.toList.map fun b=>Value.int .u8 (b.toNat:Int),VRs.strB g w _,⟨fun hp h46 hby=>?_,fun p sLen sCap olds hol hoc hp hlt h46 hby=>?_,fun p at_ sLen sCap cur el' hw hp h46 hby hones hroom hfit=>?_⟩⟩
    ·have:=run_append_nil_string (P:=P) w T T' o.type el ie zv hu hu' hie hzv b hp (by omega) (by omega)
     rw[this]
     congr 4
     apply Array.ext'
     simp
    ·have:=Lib.run_append_grow_string (P:=P) w T T' o.type el ie zv hu hu' hie hzv p sLen sCap olds hol hoc b hlt (by omega) (growslice_fits (by omega) (by omega))
     rw[this]
     rfl
    ·exact run_append_strAt w T T' o.type el ie hu hu' hie hs1 b p at_ sLen sCap cur el' hw hroom hfit
  ·cases e
 ·cases e
def cAppO(P:Program)(T T':TypeId)(s x:Operand):OpF:=
 match P.underlying T' with
 |some .string=>cAppS P T T' s x
 | _=>cAppZ P T T' s x
theorem run_cAppO{T T':TypeId}{s x:Operand}(ho:o.op=.call {callee:=.builtin .append,args:= #[s,x],argTypes:= #[T,T']}):OpRun P o (cAppO P T T' s x):=by
 unfold cAppO
 split
 ·exact run_kAppS ho
 ·exact run_kAppZ ho
end
end Go.Ab

noncomputable section
namespace Go.Ab
variable [Io]
section
variable {P:Program}{o:Oper}
theorem imm_ext{g w h}(H:HR g w h){w':World}(h1:w'.os=w.os)(h2:w'.tape=w.tape)(h3:w'.output=w.output)(h4:w'.heap.size=w.heap.size+1)
 (h5: ∀ b,b<w.heap.size->w'.heap[b]? =w.heap[b]?):
 Ext g w h ⟨g.m,fun b=>g.imm b∨b=w.heap.size⟩ w' h/\HR ⟨g.m,fun b=>g.imm b∨b=w.heap.size⟩ w' h:=by
 have hown: ∀ b,Owned g h b->b<w.heap.size:=by
  rintro b ⟨id,cs,s,e,m⟩
  obtain⟨_,_,_,hw,_⟩:=H.row e m
  exact(Array.getElem?_eq_some_iff.1 hw).1
 have E:Ext g w h ⟨g.m,fun b=>g.imm b∨b=w.heap.size⟩ w' h:=by
  refine⟨h1,h2,h3,by omega,Nat.le_refl _,fun _ _ e=>e,fun b hb _=>h5 b hb,?_,fun _ i=>.inl i,?_,fun _ o=>.inl o⟩
  ·intro b
   unfold rowSize
   by_cases hb:b<w.heap.size
   ·rw[h5 b hb];exact Nat.le_refl _
   ·rw[Array.getElem?_eq_none (by omega)];exact Nat.zero_le _
  ·rintro b (i|rfl)
   ·exact .inl i
   ·exact .inr (.inr (Nat.le_refl _))
 refine⟨E,H.fresh,?_,H.inj,?_,TbOk.ext H E⟩
 ·intro id cs e
  obtain⟨b,s,C,el,vs,hm,hw,hi,hv,hc⟩:=H.objs id cs e
  have hb:=(Array.getElem?_eq_some_iff.1 hw).1
  refine⟨b,s,C,el,vs,hm,by rw[h5 b hb];exact hw,?_,VRs.mono H E _ _ hv,hc⟩
  rintro(i|rfl)
  ·exact hi i
  ·omega
 ·rintro b (i|rfl)
  ·have:=H.imm b i;omega
  ·omega
def bytesV(s:ByteArray):List Value:=s.data.toList.map fun b=>Value.int .u8 (.ofNat b.toNat)
omit [Io] in
theorem run_bytes(w:World)(e:TypeId)(s:ByteArray): ∃ cap w',∃ C:Array Value,∃ el:FT C,(Conv.stringToBytes e s).run P w=.ok (.slice (some ⟨w.heap.size,0,none⟩) s.size cap) w'/\s.size<=cap/\cap<=C.size/\
 w'.os=w.os/\w'.tape=w.tape/\w'.output=w.output/\w'.heap.size=w.heap.size+1/\(∀ b,w'.heap[b]? =if b=w.heap.size then some (.cells C el.el el.fz)else w.heap[b]?)/\(∀ (j:Nat) (v:Value),(bytesV s)[j]? =some v->C[j]? =some v):=by
 obtain⟨cap,hcap⟩: ∃ cap,cap=(Question.appendCap s.size 0 e).cut (w.tape w.drawn (.appendCap s.size 0 e)):=⟨_,rfl⟩
 have hge:s.size<=cap:=by rw[hcap];simp[Question.cut]
 obtain⟨C,hC⟩: ∃ C:Array Value,C=s.data.map (fun b=>Value.int .u8 (b.toNat:Int))++Array.replicate (cap - s.size) (.int .u8 0):=⟨_,rfl⟩
 have hCs:C.size=cap:=by rw[hC];simp;show s.size+_=_;omega
 refine⟨cap,(w.drew.alloc (.cells C e)).freeze {block:=w.heap.size,off:=C.size} 1,C,⟨e,(C.size,C.size+1),.inr (Nat.le_refl _)⟩,?_,hge,by omega,rfl,rfl,rfl,?_,?_,?_⟩
 ·have hsh:(w.drew.alloc (.cells C e)).shape? w.heap.size=some (e,C.size):=by
   have:((w.drew.alloc (.cells C e)).heap)[w.heap.size]? =some (.cells C e):=by
    show(w.heap.push _)[w.heap.size]? =_
    simp
   simp only[World.shape?,this]
  simp[Conv.stringToBytes,run_choose,Question.forced,<-hcap,<-hC,newRow,markStringish,hsh]
 ·simp[World.freeze]
 ·intro b
  have h1:((w.drew.alloc (.cells C e)).heap)[b]? =if b=w.heap.size then some (.cells C e)else w.heap[b]? :=by
   show(w.heap.push _)[b]? =_
   rw[Array.getElem?_push]
  simp only[World.freeze,Nat.one_ne_zero,if_false]
  rw[Array.getElem?_modify,h1]
  by_cases hb:b=w.heap.size
  ·subst hb
   rw[if_pos rfl,if_pos rfl,if_pos rfl]
   rfl
  ·rw[if_neg hb,if_neg hb,if_neg (by show ¬ w.heap.size=b;omega)]
 ·intro j v hj
  unfold bytesV at hj
  have hl:=(List.getElem?_eq_some_iff.1 hj).1
  rw[hC,Array.getElem?_append_left (by simpa using hl)]
  simpa using hj
theorem VRs.bytes(g:G)(w:World): ∀ (l:List UInt8),VRs g w (l.map fun b=>AV.int .u8 (.ofNat b.toNat)) (l.map fun b=>Value.int .u8 (.ofNat b.toNat))
 | []=>by simp[VRs]
 |b::l=>by
  simp only[List.map_cons,VRs]
  exact⟨_,_,rfl,by simp only[VR],VRs.bytes g w l⟩
theorem run_kBytes{S D e:TypeId}{d:TypeDesc}{x:Operand}(ho:o.op=.convert S D x)(hS:P.underlying S=some d)(hD:P.underlying D=some (.slice e))(he:P.underlying e=some (.int .u8)):
 OpRun P o (kBytes (cOpd x)):=by
 intro g w nt t h a v h' H Tr ev
 unfold kBytes at ev
 split at ev
 ·rename_i s hx
  have hv:=cOpd_ok x _ _ _ _ _ _ Tr hx
  simp only[VR]at hv
  cases ev
  obtain⟨hv,_⟩:=hv
  obtain⟨cap,w',C,el,hr,hge,hcC,h1,h2,h3,h4,h5,hc⟩:=run_bytes (P:=P) w e s
  obtain⟨E,H'⟩:=new_ext' H el h1 h2 h3 h4 h5 (cs:=ofL (s.data.toList.map fun b=>.int .u8 (.ofNat b.toNat))) (vs:=bytesV s) (by rw[toL_ofL];exact VRs.bytes g w s.data.toList) hc
  refine⟨_,w',.value (.slice (some ⟨w.heap.size,0,none⟩) s.size cap),_,?_,.inl rfl,E,H',?_⟩
  ·simp[execOp,ho,hv,convert,run_underlying hS,run_underlying hD,run_underlying he,hr]
  ·simp only[VR]
   refine .inr ⟨w.heap.size,0,cap,by simp[G.add],rfl,hge,?_⟩
   have:w'.heap[w.heap.size]? =some (.cells C el.el el.fz):=by rw[h5,if_pos rfl]
   rw[rowSize_row this]
   omega
 ·cases ev
theorem run_kMark{D e:TypeId}{x:Operand}(ho:o.op=.convert D D x)(hD:P.underlying D=some (.slice e))(he:P.underlying e=some (.int .u8)):OpRun P o (kMark (cOpd x)):=by
 intro g w nt t h a v h' H Tr ev
 unfold kMark at ev
 split at ev
 ·rename_i id off n sz hx
  have hv:=cOpd_ok x _ _ _ _ _ _ Tr hx
  have hv':=hv
  cases hn:Nat.beq n 0 with
  |true=>rw[hn]at ev;cases ev
  |false=>
  rw[hn]at ev
  simp only[cond_false]at ev
  split at ev
  ·rename_i cs hg
   cases ev
   simp only[VR]at hv
   rcases hv with⟨rfl,_⟩|⟨b,s,cap,hm,hv,hc,_⟩
   ·cases hn
   obtain⟨C,el,vs,hw,hi,hvs,hcc⟩:=H.row hg hm
   have hsh:w.shape? b=some (el.el,C.size):=by simp only[World.shape?,hw]
   have hok:=el.ok'
   obtain⟨E,H'⟩:=mark_ext H (w':=w.freeze {block:=b,off:=C.size} 1) (el:=el) (el':=⟨el.el,if el.fz.1 == el.fz.2 then(C.size,C.size+1)else(min el.fz.1 C.size,max el.fz.2 (C.size+1)),by
    by_cases h0:el.fz.1=el.fz.2
    ·simp[h0]
    ·simp only[beq_iff_eq,h0,if_false]
     right
     show C.size<=min el.fz.1 C.size
     omega⟩) hg hm hw rfl rfl rfl (by simp[World.freeze]) (fun k=>by
    simp only[World.freeze,Nat.one_ne_zero,if_false]
    rw[Array.getElem?_modify]
    by_cases hk:k=b
    ·subst hk
     rw[if_pos rfl,if_pos rfl,hw]
     rfl
    ·rw[if_neg hk,if_neg (fun q=>hk q.symm)])
   refine⟨g,_,.value (a.eval x),a.eval x,?_,.inl rfl,E,H',VR.mono H E _ _ hv'⟩
   rw[hv]
   simp[execOp,ho,hv,convert,run_underlying hD,run_underlying he,markStringish,hsh]
  ·cases ev
 ·cases ev
omit [Io] in
theorem run_makeMap'{P:Program}(t:TypeId)(w:World):(Instr.makeMap t none).run P w=.ok (.map (some w.heap.size)) (w.alloc (.map #[] 0)):=rfl
theorem run_kMap{T:TypeId}(ho:o.op=.makeMap T none):OpRun P o kMap:=by
 intro g w nt t h a v h' H Tr ev
 cases ev
 obtain⟨E,H'⟩:=imm_ext H (w':=w.alloc (.map #[] 0)) rfl rfl rfl (by show(w.heap.push _).size=_;rw[Array.size_push]) (fun b hb=>by
  show(w.heap.push _)[b]? =_
  rw[Array.getElem?_push,if_neg (by omega)])
 exact⟨_,_,.value (.map (some w.heap.size)),_,by simp[execOp,ho,run_makeMap'],.inl rfl,E,H',by simp only[VR];rfl⟩
end
end Go.Ab

noncomputable section
namespace Go.Ab
variable [Io]
section
variable {P:Program}
theorem bin_orS{op:BinOp}{T:TypeId}{f s:AV->AV->Option AV}(hf:BinOk P op T f)
 (hs: ∀ (a b r:AV),s a b=some r->(∀ (g:G) (w:World) (u v:Value),VR g w a u->VR g w b v-> ∃ k m k' n r0,u=.int k m/\v=.int k' n/\f (.int k m) (.int k' n)=some r0/\ ∀ z,VR g w r0 z->VR g w r z)):
 BinOk P op T (orS f s):=by
 intro g w a b r u v ha hb h
 unfold orS at h
 cases hr:f a b with
 |some r'=>
  rw[hr]at h
  cases h
  exact hf g w a b r u v ha hb hr
 |none=>
  rw[hr]at h
  obtain⟨k,m,k',n,r0,rfl,rfl,h1,h2⟩:=hs a b r h g w u v ha hb
  obtain⟨z,hz,hv,hg⟩:=hf g w (.int k m) (.int k' n) r0 (.int k m) (.int k' n) (by simp only[VR]) (by simp only[VR]) h1
  exact⟨z,hz,h2 z hv,hg⟩
def HsOk(f s:AV->AV->Option AV):Prop:= ∀ (a b r:AV),s a b=some r->(∀ (g:G) (w:World) (u v:Value),VR g w a u->VR g w b v-> ∃ k m k' n r0,u=.int k m/\v=.int k' n/\f (.int k m) (.int k' n)=some r0/\ ∀ z,VR g w r0 z->VR g w r z)
theorem hs_no{f:AV->AV->Option AV}:HsOk f noS:=by
 intro a b r h
 cases h
omit [Io] in
theorem ltI_not{a b:Int}:ltI a b=false↔b<=a:=by rw[ltI_eq];simp
omit [Io] in
theorem eqI_iff{a b:Int}:eqI a b=true↔a=b:=by rw[eqI_eq];simp
omit [Io] in
theorem eqNs_iff{l:List Nat}: ∀ {m:List Nat},eqNs l m=true↔l=m:=by
 induction l with
 |nil=>intro m;cases m<;>simp[eqNs]
 |cons a l ih=>
  intro m
  cases m with
  |nil=>simp[eqNs]
  |cons b m=>
   show(bif Nat.beq a b then eqNs l m else false)=true↔_
   cases e:Nat.beq a b with
   |true=>
    rw[Nat.eq_of_beq_eq_true e]
    show eqNs l m=true↔_
    rw[ih];simp
   |false=>
    have:a≠b:=fun e'=>by subst e';rw[Nat.beq_refl]at e;cases e
    simp[this]
omit [Io] in
theorem eqSV0_iff{a b:SV}(h:eqSV0 a b=true):a=b:=by
 cases a<;>cases b<;>simp[eqSV0,eqI_iff,eqNs_iff]at h<;>simp[h]
omit [Io] in
theorem eqSV_iff{a:SV}: ∀ {b:SV},eqSV a b=true->a=b:=by
 induction a with
 |tm f k k' a oa b ob iha ihb=>
  intro y h
  cases y with
  |tm f2 k2 k2' a2 oa2 b2 ob2=>
   change (Nat.beq f f2&&(eqK k k2&&(eqK k' k2'&&(eqI oa oa2&&(eqI ob ob2&&(eqSV a a2&&eqSV b b2))))))=true at h
   simp only[Bool.and_eq_true]at h
   obtain⟨h1,h2,h3,h4,h5,h6,h7⟩:=h
   rw[Nat.eq_of_beq_eq_true h1,eqK_iff.1 h2,eqK_iff.1 h3,eqI_iff.1 h4,eqI_iff.1 h5,iha h6,ihb h7]
  | _=>cases h
 |ix l a o iha=>
  intro y h
  cases y with
  |ix l2 a2 o2=>
   change (eqNs l l2&&(eqI o o2&&eqSV a a2))=true at h
   simp only[Bool.and_eq_true]at h
   obtain⟨h1,h2,h3⟩:=h
   rw[eqNs_iff.1 h1,eqI_iff.1 h2,iha h3]
  | _=>cases h
 | _=>intro y h;exact eqSV0_iff h
omit [Io] in
theorem condS{α:Type}{b:Bool}{x:Option α}{r:α}(h:(bif b then x else none)=some r):b=true/\x=some r:=by
 cases b
 ·cases h
 ·exact⟨rfl,h⟩
theorem eqS_ok{a b:AV}{c:Bool}(h:eqS a b=some c){g:G}{w:World}{u v:Value}(ha:VR g w a u)(hb:VR g w b v): ∃ k m n,u=.int k m/\v=.int k n/\c=decide (m=n):=by cases h
theorem ltS_ok{a b:AV}{c:Bool}(h:ltS a b=some c){g:G}{w:World}{u v:Value}(ha:VR g w a u)(hb:VR g w b v): ∃ k m n,u=.int k m/\v=.int k n/\c=decide (m<n):=by cases h
theorem bin_addS(T:TypeId):BinOk P .add T bAddS:=bin_orS (bin_add T) hs_no
theorem bin_subS(T:TypeId):BinOk P .sub T bSubS:=bin_orS (bin_sub T) hs_no
theorem bin_andS(T:TypeId):BinOk P .and T bAndS:=bin_orS (bin_and T) hs_no
theorem bin_orS'(T:TypeId):BinOk P .or T bOrS:=bin_orS (bin_or T) hs_no
theorem bin_xorS(T:TypeId):BinOk P .xor T bXorS:=bin_orS (bin_xor T) hs_no
theorem bin_shlS(T:TypeId):BinOk P .shl T bShlS:=bin_orS (bin_shl T) hs_no
theorem bin_shrS(T:TypeId):BinOk P .shr T bShrS:=bin_orS (bin_shr T) hs_no
theorem bin_lssS(T:TypeId):BinOk P .lss T bLssS:=bin_orS (bin_lss T) hs_no
theorem bin_gtrS(T:TypeId):BinOk P .gtr T bGtrS:=bin_orS (bin_gtr T) hs_no
theorem bin_leqS(T:TypeId):BinOk P .leq T bLeqS:=bin_orS (bin_leq T) hs_no
theorem bin_geqS(T:TypeId):BinOk P .geq T bGeqS:=bin_orS (bin_geq T) hs_no
theorem bin_remS(T:TypeId):BinOk P .rem T bRemS:=bin_orS (bin_rem T) hs_no
theorem bin_quoS(T:TypeId):BinOk P .quo T bQuoS:=bin_orS (bin_quo T) hs_no
theorem bin_mulS(T:TypeId):BinOk P .mul T bMulS:=bin_orS (bin_mul T) hs_no
theorem bin_eqIS(T:TypeId):BinOk P .eql T (bEqIS false):=bin_orS (bin_eqI T) hs_no
theorem bin_neIS(T:TypeId):BinOk P .neq T (bEqIS true):=bin_orS (bin_neI T) hs_no
theorem cInt_hs{k:IntKind}{b v:AV}{g:G}{w:World}{u:Value}(hf:cIntS k b=some v)(hv:VR g w b u): ∃ k' m r0,u=.int k' m/\cInt k (.int k' m)=some r0/\ ∀ z,VR g w r0 z->VR g w v z:=by
 unfold cIntS orS1 at hf
 cases hr:cInt k b with
 |some r=>
  rw[hr]at hf
  cases hf
  unfold cInt at hr
  split at hr
  ·cases hr
   simp only[VR]at hv
   exact⟨_,_,_,hv,rfl,fun z h=>h⟩
  ·cases hr
 |none=>
  rw[hr]at hf
  cases hf
theorem pure_cIntS{o:Oper}{S D:TypeId}{d:TypeDesc}{k:IntKind}{x:Operand}(ho:o.op=.convert S D x)(hS:P.underlying S=some d)(hD:P.underlying D=some (.int k)):
 OpPure P o (kUn (cIntS k) (cOpd x)):=by
 intro g w nt t h a v h' H Tr e
 obtain⟨b,hb,hf,rfl⟩:=kUn_some e
 have hv:=cOpd_ok x _ _ _ _ _ _ Tr hb
 obtain⟨k',m,r0,hv',hr,hz⟩:=cInt_hs hf hv
 cases hr
 exact⟨rfl,.int k (k.wrap m),by simp[execOp,ho,hv',convert,run_underlying hS,run_underlying hD,Conv.intToInt],hz _ (by simp only[VR,wrapF_eq])⟩
theorem pure_min{x y:Operand}{ats:Array TypeId}{o:Oper}(ho:o.op=.call {callee:=.builtin .min,args:= #[x,y],argTypes:=ats}):OpPure P o (kMin (cOpd x) (cOpd y)):=by
 intro g w nt t h a v h' H Tr e
 unfold kMin kBin at e
 cases hx:cOpd x t with
 |none=>rw[hx]at e;cases e
 |some ax=>
  cases hy:cOpd y t with
  |none=>rw[hx,hy]at e;cases e
  |some ay=>
   rw[hx,hy]at e
   have h3:=cOpd_ok x _ _ _ _ _ _ Tr hx
   have h4:=cOpd_ok y _ _ _ _ _ _ Tr hy
   unfold orS at e
   cases hr:bInt (fun k a b=>some (.int k (bif ltI b a then b else a))) ax ay with
   |some r=>
    simp only[hr]at e
    cases e
    obtain⟨k,m,n,rfl,rfl,h2⟩:=bInt_some hr
    cases h2
    simp only[VR]at h3 h4
    refine⟨rfl,.int k (if n<m then n else m),by simp[execOp,ho,resolve,invoke,builtin,Builtin.min_,Builtin.min2,h3,h4],?_⟩
    simp only[VR,ltI_eq]
    by_cases hlt:n<m<;>simp[hlt]
   |none=>
    simp only[hr]at e
    cases hl:ltS ay ax with
    |none=>rw[hl]at e;cases e
    |some c=>
     rw[hl]at e
     cases e
     obtain⟨k,p,q,e1,e2,rfl⟩:=ltS_ok hl h4 h3
     have hex:(execOp a.eval o).run P w=.ok (.value (.int k (if p<q then p else q))) w:=by
      simp[execOp,ho,resolve,invoke,builtin,Builtin.min_,Builtin.min2,e1,e2]
     refine⟨rfl,_,hex,?_⟩
     by_cases hlt:p<q
     ·simp only[hlt,decide_true,cond_true,if_true,gt_iff_lt]
      rw[e1]at h4
      exact h4
     ·simp only[hlt,decide_false,cond_false,if_false,gt_iff_lt]
      rw[e2]at h3
      exact h3
theorem pure_max{x y:Operand}{ats:Array TypeId}{o:Oper}(ho:o.op=.call {callee:=.builtin .max,args:= #[x,y],argTypes:=ats}):OpPure P o (kMax (cOpd x) (cOpd y)):=by
 intro g w nt t h a v h' H Tr e
 unfold kMax kBin at e
 cases hx:cOpd x t with
 |none=>rw[hx]at e;cases e
 |some ax=>
  cases hy:cOpd y t with
  |none=>rw[hx,hy]at e;cases e
  |some ay=>
   rw[hx,hy]at e
   have h3:=cOpd_ok x _ _ _ _ _ _ Tr hx
   have h4:=cOpd_ok y _ _ _ _ _ _ Tr hy
   unfold orS at e
   cases hr:bInt (fun k a b=>some (.int k (bif ltI a b then b else a))) ax ay with
   |some r=>
    simp only[hr]at e
    cases e
    obtain⟨k,m,n,rfl,rfl,h2⟩:=bInt_some hr
    cases h2
    simp only[VR]at h3 h4
    refine⟨rfl,.int k (if n>m then n else m),by simp[execOp,ho,resolve,invoke,builtin,Builtin.max_,Builtin.max2,h3,h4],?_⟩
    simp only[VR,ltI_eq]
    by_cases hlt:m<n<;>simp[hlt]
   |none=>
    simp only[hr]at e
    cases hl:ltS ax ay with
    |none=>rw[hl]at e;cases e
    |some c=>
     rw[hl]at e
     cases e
     obtain⟨k,p,q,e1,e2,rfl⟩:=ltS_ok hl h3 h4
     have hex:(execOp a.eval o).run P w=.ok (.value (.int k (if q>p then q else p))) w:=by
      simp[execOp,ho,resolve,invoke,builtin,Builtin.max_,Builtin.max2,e1,e2]
     refine⟨rfl,_,hex,?_⟩
     by_cases hlt:p<q
     ·simp only[hlt,decide_true,cond_true,if_true,gt_iff_lt]
      rw[e2]at h4
      exact h4
     ·simp only[hlt,decide_false,cond_false,if_false,gt_iff_lt]
      rw[e1]at h3
      exact h3
end
end Go.Ab

noncomputable section
namespace Go.Ab
variable [Io]
section
variable {P:Program}
def scalars(P:Program)(n:Nat)(l:List Field):Option (List Bool):=
 List.rec (fun _=>some []) (fun f _ ih n=>bif Nat.beq f.offset n&& !(decide (f.name= "_"))then
  (match P.info? f.type with
  |some i=>bif Nat.beq i.size 1 then
   (match P.underlying f.type with
   |some (.int _)=>(match ih (Nat.add n 1)with|some r=>some (true::r)|none=>none)
   |some .bool=>(match ih (Nat.add n 1)with|some r=>some (false::r)|none=>none)
   | _=>none)else none
  |none=>none)else none) l n
theorem eq1_ok{i:Bool}{x y:AV}{c:Bool}(h:eq1 i x y=some c){g:G}{w:World}{u v:Value}(hx:VR g w x u)(hy:VR g w y v){T:TypeId}{d:Nat}
 (hT:(i=true/\ ∃ k,P.underlying T=some (.int k))∨(i=false/\P.underlying T=some .bool)):(Op.equalIn (d+1) T u v).run P w=.ok c w:=by
 rcases hT with⟨rfl,k,hT⟩|⟨rfl,hT⟩
 ·change (match(generalizing:=false) x,y with| .int k a,.int k' b=>bif eqK k k' then some (eqI a b)else none| _,_=>eqS x y)=some c at h
  split at h
  ·rename_i k1 a k2 b
   cases e:eqK k1 k2 with
   |false=>rw[e]at h;cases h
   |true=>
    rw[e]at h
    cases h
    obtain rfl:=eqK_iff.1 e
    simp only[VR]at hx hy
    subst hx;subst hy
    rw[run_equalIn_int w d T k1 k a b hT,eqI_eq]
  ·obtain⟨k1,m,n,rfl,rfl,rfl⟩:=eqS_ok h hx hy
   rw[run_equalIn_int w d T k1 k m n hT]
   congr 1
 ·change (match(generalizing:=false) x,y with| .bool a,.bool b=>some (!(xor a b))| _,_=>none)=some c at h
  split at h
  ·rename_i a b
   cases h
   simp only[VR]at hx hy
   subst hx;subst hy
   rw[run_equalIn_bool' w d T a b hT]
   cases a<;>cases b<;>rfl
  ·cases h
omit [Io] in
theorem part_one{T:TypeId}{td:TypeDesc}{i:TypeInfo}{vs:Array Value}{n:Nat}{v:Value}{w:World}(hd:P.underlying T=some td)(ha:isAggD td=false)(hv:vs[n]? =some v):
 (Go.part T vs n).run P w=.ok v w:=by
 unfold Go.part
 simp only[Sem.run_bind,run_isAgg hd,ha,Result.andThen_ok]
 simp[hv]
theorem eqFields_ok{g:G}{w:World}(d:Nat): ∀ (fs:List Field) (n:Nat) (l:List Bool) (xs ys:List AV) (us vs:Array Value) (c:Bool),scalars P n fs=some l->eqCs l xs ys=some c->
 VRs g w xs (us.toList.drop n)->VRs g w ys (vs.toList.drop n)->(Op.eqFields (d+1) us vs fs).run P w=.ok c w
 | [],n,l,xs,ys,us,vs,c,hs,e,hx,hy=>by
  cases hs
  cases e
  simp[Op.eqFields]
 |f::fs,n,l,xs,ys,us,vs,c,hs,e,hx,hy=>by
  change (bif Nat.beq f.offset n&& !(decide (f.name= "_"))then
   (match P.info? f.type with
   |some i=>bif Nat.beq i.size 1 then
    (match P.underlying f.type with
    |some (.int _)=>(match scalars P (n+1) fs with|some r=>some (true::r)|none=>none)
    |some .bool=>(match scalars P (n+1) fs with|some r=>some (false::r)|none=>none)
    | _=>none)else none
   |none=>none)else none)=some l at hs
  replace hs:=condS hs
  obtain⟨h0,hs⟩:=hs
  rw[Bool.and_eq_true]at h0
  have hoff:f.offset=n:=Nat.eq_of_beq_eq_true h0.1
  have hname:f.name≠ "_" :=by simpa using h0.2
  split at hs
  ·replace hs:=condS hs
   obtain⟨_,hs⟩:=hs
   have key: ∀ (i:Bool) (r:List Bool) (td:TypeDesc),P.underlying f.type=some td->isAggD td=false->scalars P (n+1) fs=some r->l=i::r->
    ((i=true/\ ∃ k,P.underlying f.type=some (.int k))∨(i=false/\P.underlying f.type=some .bool))->(Op.eqFields (d+1) us vs (f::fs)).run P w=.ok c w:=by
    intro i r td htd hagg hr hl hT
    subst hl
    change (match(generalizing:=false) xs with
     | []=>none
     |x::xs=>match(generalizing:=false) ys with
      | []=>none
      |y::ys=>match eq1 i x y with
       |none=>none
       |some c=>(Bool.rec (some false) (eqCs r xs ys) c:Option Bool))=some c at e
    cases xs with
    |nil=>cases e
    |cons x xs=>
    cases ys with
    |nil=>cases e
    |cons y ys=>
    simp only at e
    cases h1:eq1 i x y with
    |none=>rw[h1]at e;cases e
    |some c1=>
    rw[h1]at e
    simp only[VRs]at hx hy
    obtain⟨u,us',hu,hxu,hxs⟩:=hx
    obtain⟨v,vs',hv,hyv,hys⟩:=hy
    have hu0:us[n]? =some u:=by
     have:(us.toList.drop n)[0]? =some u:=by rw[hu];rfl
     simpa using this
    have hv0:vs[n]? =some v:=by
     have:(vs.toList.drop n)[0]? =some v:=by rw[hv];rfl
     simpa using this
    have hu1:us.toList.drop (n+1)=us':=by rw[<-List.drop_drop,hu];rfl
    have hv1:vs.toList.drop (n+1)=vs':=by rw[<-List.drop_drop,hv];rfl
    have pu:(Go.part f.type us f.offset).run P w=.ok u w:=by rw[hoff];exact part_one (i:=default) htd hagg hu0
    have pv:(Go.part f.type vs f.offset).run P w=.ok v w:=by rw[hoff];exact part_one (i:=default) htd hagg hv0
    simp only[Op.eqFields,if_pos hname,Sem.run_bind,pu,pv,Result.andThen_ok,eq1_ok (P:=P) (d:=d) h1 hxu hyv hT]
    cases c1 with
    |false=>cases e;simp
    |true=>
     simp only[Bool.not_true,Bool.false_eq_true,if_false]
     exact eqFields_ok d fs (n+1) r xs ys us vs c hr e (by rw[hu1];exact hxs) (by rw[hv1];exact hys)
   split at hs
   ·rename_i k hT
    split at hs
    ·rename_i r hr;cases hs;exact key true r _ hT rfl hr rfl (.inl ⟨rfl,_,hT⟩)
    ·cases hs
   ·rename_i hT
    split at hs
    ·rename_i r hr;cases hs;exact key false r _ hT rfl hr rfl (.inr ⟨rfl,hT⟩)
    ·cases hs
   ·cases hs
  ·cases hs
omit [Io] in
theorem bEqA_some{neg:Bool}{l:List Bool}{x y r:AV}(h:bEqA neg l x y=some r): ∃ xs ys c,x=.agg xs/\y=.agg ys/\eqCs l xs ys=some c/\r=.bool (bif neg then !c else c):=by
 unfold bEqA at h
 split at h
 ·rename_i xs
  split at h
  ·rename_i ys
   split at h
   ·rename_i c hc
    cases h
    exact⟨xs,ys,c,rfl,rfl,hc,rfl⟩
   ·cases h
  ·cases h
 ·cases h
theorem eqA_run{T:TypeId}{fs:Array Field}{l:List Bool}(hT:P.underlying T=some (.struct fs))(hs:P.stoodInHeld T=false)(hl:scalars P 0 fs.toList=some l){g:G}{w:World}
 {xs ys:List AV}{c:Bool}(hc:eqCs l xs ys=some c){us vs:Array Value}(hx:VRs g w xs us.toList)(hy:VRs g w ys vs.toList):(Op.equalIn 10000 T (.agg us) (.agg vs)).run P w=.ok c w:=by
 have hf:P.fieldsOf T=fs:=by unfold Program.fieldsOf;rw[hT]
 refine(run_equalIn_struct w 9999 T us vs (by rw[hf];exact hT) hs).trans ?_
 rw[hf]
 exact eqFields_ok 9998 fs.toList 0 l xs ys us vs c hl hc (by simpa using hx) (by simpa using hy)
theorem bin_eqA{T:TypeId}{fs:Array Field}{l:List Bool}(hT:P.underlying T=some (.struct fs))(hs:P.stoodInHeld T=false)(hg:P.eqGuardType P.depth T=false)(hl:scalars P 0 fs.toList=some l):
 BinOk P .eql T (bEqA false l):=by
 intro g w a b r u v ha hb h
 obtain⟨xs,ys,c,rfl,rfl,hc,rfl⟩:=bEqA_some h
 simp only[VR]at ha hb
 obtain⟨us,rfl,hx⟩:=ha
 obtain⟨vs,rfl,hy⟩:=hb
 refine⟨.bool c,?_,by simp only[VR];rfl,fun x y=>run_eqGuard_agg w .eql T x y us vs hg⟩
 rw[run_eql_struct,eqA_run hT hs hl hc hx hy]
 rfl
theorem bin_neA{T:TypeId}{fs:Array Field}{l:List Bool}(hT:P.underlying T=some (.struct fs))(hs:P.stoodInHeld T=false)(hg:P.eqGuardType P.depth T=false)(hl:scalars P 0 fs.toList=some l):
 BinOk P .neq T (bEqA true l):=by
 intro g w a b r u v ha hb h
 obtain⟨xs,ys,c,rfl,rfl,hc,rfl⟩:=bEqA_some h
 simp only[VR]at ha hb
 obtain⟨us,rfl,hx⟩:=ha
 obtain⟨vs,rfl,hy⟩:=hb
 refine⟨.bool (!c),?_,by simp only[VR];rfl,fun x y=>run_eqGuard_agg w .neq T x y us vs hg⟩
 rw[run_neq_struct,eqA_run hT hs hl hc hx hy]
 rfl
def cEqA(P:Program)(neg:Bool)(T:TypeId):Option (AV->AV->Option AV):=match P.underlying T with
 |some (.struct fs)=>match P.stoodInHeld T with
  |false=>match P.eqGuardType P.depth T with
   |false=>match scalars P 0 fs.toList with
    |some l=>some (bEqA neg l)
    |none=>none
   |true=>none
  |true=>none
 | _=>none
theorem cEqA_eq{T:TypeId}{f:AV->AV->Option AV}(h:cEqA P false T=some f):BinOk P .eql T f:=by
 unfold cEqA at h
 split at h
 ·rename_i fs hT
  split at h
  ·rename_i hs
   split at h
   ·rename_i hg
    split at h
    ·rename_i l hl
     cases h
     exact bin_eqA hT hs hg hl
    ·cases h
   ·cases h
  ·cases h
 ·cases h
theorem cEqA_ne{T:TypeId}{f:AV->AV->Option AV}(h:cEqA P true T=some f):BinOk P .neq T f:=by
 unfold cEqA at h
 split at h
 ·rename_i fs hT
  split at h
  ·rename_i hs
   split at h
   ·rename_i hg
    split at h
    ·rename_i l hl
     cases h
     exact bin_neA hT hs hg hl
    ·cases h
   ·cases h
  ·cases h
 ·cases h
end
end Go.Ab

noncomputable section
namespace Go.Ab
variable [Io]
section
variable {P:Program}{o:Oper}
omit [Io] in
theorem run_copy_none(w:World)(dT sT ty elem:TypeId)(i:TypeInfo)(hu:P.underlying dT=some (.slice elem))(hi:P.info? elem=some i)(d x:Option Addr)(dLen dCap sLen sCap:Nat)(hn:Nat.min sLen dLen=0):
 (Builtin.copy_ #[dT,sT] ty #[.slice d dLen dCap,.slice x sLen sCap]).run P w=.ok (.int .i64 (Int.ofNat 0)) w:=by
 have hl: ∀ a:Addr,(loadCells a 0).run P w=.ok #[] w:=fun a=>run_loadCells_list (P:=P) w a [] (by simp)
 cases d<;>cases x<;>simp[Builtin.copy_,run_underlying hu,Builtin.lenOf,Builtin.firstCells,sizeOf,typeInfo,hi,hn,hl,storeCells,goInt]
omit [Io] in
theorem run_copy_some(w:World)(dT sT ty elem:TypeId)(i:TypeInfo)(hu:P.underlying dT=some (.slice elem))(hi:P.info? elem=some i)(g o dLen dCap:Nat)(a:Addr)(sLen sCap:Nat)(cur:Array Value)(t:FT cur)(cs:List Value)
 (hg:w.heap[g]? =some (.cells cur t.el t.fz))(hn:cs.length=Nat.min sLen dLen*i.size)(hsrc: ∀ j v,cs[j]? =some v->w.cell? (a.add j)=some v)(hfit:o+cs.length<=cur.size)(h1: ∀ v∈cs,v.oneCell'=true):
 (Builtin.copy_ #[dT,sT] ty #[.slice (some ⟨g,o,none⟩) dLen dCap,.slice (some a) sLen sCap]).run P w=
  .ok (.int .i64 (Int.ofNat (Nat.min sLen dLen))) (w.setRow g (cur.toList.take o++cs++cur.toList.drop (o+cs.length)).toArray):=by
 have hl:=run_loadCells_list (P:=P) w a cs hsrc
 have hst:=run_storeCells_ft P g o t.el t.fz cs 0 cur w hg t.ok (by simpa using hfit) h1
 simp[Builtin.copy_,run_underlying hu,Builtin.lenOf,Builtin.firstCells,sizeOf,typeInfo,hi,<-hn,hl,hst,goInt]
def cCopy(P:Program)(T:TypeId)(d s:Operand):OpF:=match P.underlying T with
 |some (.slice e)=>match P.info? e with
  |some i=>kCopy i.size (wO (cOpd d)) (wO (cOpd s))
  |none=>kBad
 | _=>kBad
theorem run_kCopy{T T':TypeId}{d s:Operand}(ho:o.op=.call {callee:=.builtin .copy,args:= #[d,s],argTypes:= #[T,T']}):OpRun P o (cCopy P T d s):=by
 intro g w nt t h a v h' H Tr e
 unfold cCopy at e
 cases hu:P.underlying T with
 |none=>rw[hu]at e;cases e
 |some dd=>
 rw[hu]at e
 cases dd<;>try (cases e;done)
 rename_i el
 simp only at e
 cases hi:P.info? el with
 |none=>rw[hi]at e;cases e
 |some i=>
  rw[hi]at e
  change kCopy i.size (wO (cOpd d)) (wO (cOpd s)) t h=.ok v h' at e
  have hex: ∀ vd vs r w',a.eval d=vd->a.eval s=vs->(Builtin.copy_ #[T,T'] o.type #[vd,vs]).run P w=.ok r w'->(execOp a.eval o).run P w=.ok (.value r) w':=by
   intro vd vs r w' h1 h2 h3
   unfold execOp
   simp only[ho,resolve,invoke,builtin,Sem.run_bind,Sem.run_pure,Result.andThen_ok,List.map_toArray,List.map_cons,List.map_nil,h1,h2,h3]
  unfold kCopy at e
  split at e
  ·rename_i hd
   split at e
   ·rename_i xv hs
    split at e
    ·rename_i p hsc
     cases e
     have hvd:=wOpd_ok d _ _ _ _ _ _ Tr hd
     have hvs:=wOpd_ok s _ _ _ _ _ _ Tr hs
     simp only[VR]at hvd
     obtain⟨b,hde⟩:=hvd
     obtain⟨n,cs⟩:=p
     obtain⟨xa,xc,hxe,hxc,hnew⟩:=sliceCells_some H hvs hsc
     exact⟨g,w,_,_,hex _ _ _ _ hde hxe (run_copy_none w T T' o.type el i hu hi _ _ _ _ _ _ (Nat.min_zero _)),.inl rfl,Ext.refl _ _ _,H,by simp only[VR]⟩
    ·cases e
   ·cases e
  ·rename_i id off n sz hd
   split at e
   ·rename_i xv hs
    split at e
    ·rename_i m src hsc
     have hvd:=wOpd_ok d _ _ _ _ _ _ Tr hd
     have hvs:=wOpd_ok s _ _ _ _ _ _ Tr hs
     obtain⟨xa,xc,hxe,hxc,hnew⟩:=sliceCells_some H hvs hsc
     simp only[VR]at hvd
     rw[minN_eq]at e
     cases hk:Nat.beq (min m n) 0 with
     |true=>
      rw[hk]at e
      cases e
      have hk0:Nat.min m n=0:=Nat.eq_of_beq_eq_true hk
      rcases hvd with⟨rfl,b,hde⟩|⟨b,s',cap,hm,hde,hcap,_⟩
      ·exact⟨g,w,_,_,hex _ _ _ _ hde hxe (run_copy_none w T T' o.type el i hu hi _ _ _ _ _ _ hk0),.inl rfl,Ext.refl _ _ _,H,by simp only[VR]⟩
      ·exact⟨g,w,_,_,hex _ _ _ _ hde hxe (run_copy_none w T T' o.type el i hu hi _ _ _ _ _ _ hk0),.inl rfl,Ext.refl _ _ _,H,by simp only[VR]⟩
     |false=>
      rw[hk]at e
      have hk0:min m n≠0:=fun k=>by rw[k]at hk;cases hk
      simp only[cond_false]at e
      split at e
      ·rename_i cs hg
       cases hb:((Nat.blt 0 i.size&&(Nat.beq sz i.size&&(Nat.beq (len src) (Nat.mul m i.size)&&allB cell1 src)))&&Nat.ble (Nat.add off (Nat.mul (min m n) i.size)) cs.n)with
       |false=>rw[hb]at e;cases e
       |true=>
        rw[hb]at e
        cases e
        simp only[Bool.and_eq_true,len_eq]at hb
        obtain⟨⟨b0,b1,b2,b3⟩,b4⟩:=hb
        have b0:=blt_iff.1 b0
        obtain rfl:=Nat.eq_of_beq_eq_true b1
        have b2:src.length=m*i.size:=Nat.eq_of_beq_eq_true b2
        have b4:off+min m n*i.size<=cs.n:=Nat.le_of_ble_eq_true b4
        have hmn:min m n*i.size<=m*i.size:=Nat.mul_le_mul_right _ (Nat.min_le_left m n)
        rcases hvd with⟨rfl,b,hde⟩|⟨b,s',cap,hm,hde,hcap,_⟩
        ·rw[Nat.min_zero]at hk0;exact absurd rfl hk0
        ·obtain⟨C,el',vs,hw,_,hvs2,hc⟩:=H.row hg hm
         rcases hnew with rfl|⟨xb,xs,us,rfl,hus,hcs⟩
         ·exfalso
          have hz:m*i.size=0:=b2.symm
          have hp:0<min m n*i.size:=Nat.mul_pos (by omega) b0
          omega
         ·have hul:=hus.length
          have htl:(us.take (min m n*i.size)).length=min m n*i.size:=by rw[List.length_take];omega
          have hstl:(src.take (min m n*i.size)).length=min m n*i.size:=by rw[List.length_take];omega
          have hrow:s'+off+(us.take (min m n*i.size)).length<=C.size:=by
           rw[htl]
           have hp:0<min m n*i.size:=Nat.mul_pos (by omega) b0
           have:=VRs.row_le hvs2 hc (n:=off+min m n*i.size) (by rw[toL_len];exact b4) (by omega)
           omega
          have hr:=run_copy_some (P:=P) w T T' o.type el i hu hi b (s'+off) n cap ⟨xb,xs,none⟩ m xc C el' (us.take (min m n*i.size)) hw htl (fun j v e=>by
           rw[List.getElem?_take]at e
           split at e
           ·exact addr_cells hcs j v e
           ·cases e) hrow (fun v hv=>VRs.ones hus b3 v (List.mem_of_mem_take hv))
          obtain⟨E,H'⟩:=store_ext H (C':=(C.toList.take (s'+off)++us.take (min m n*i.size)++C.toList.drop (s'+off+(us.take (min m n*i.size)).length)).toArray)
           hg hm hw (by simp at hrow ⊢;omega) (cs':=cs.put off (tk (Nat.mul (min m n) i.size) src)) (us:=vs.take off++(us.take (min m n*i.size)++vs.drop (off+(us.take (min m n*i.size)).length)))
           (by rw[tk_eq];show VRs g w (cs.put off (src.take (min m n*i.size))).toL _;rw[toL_put (by rw[hstl];exact b4),put_eq,hstl,htl];exact(hvs2.take _).append ((hus.take _).append (hvs2.drop _)))
           (fun j v e=>seg_get hc hrow j v e (by have:=hvs2.length;rw[toL_len]at this;omega))
          exact⟨g,_,_,_,hex _ _ _ _ hde hxe hr,.inl rfl,E,H',by simp only[VR]⟩
      ·cases e
    ·cases e
   ·cases e
  ·cases e
theorem pure_kEmp{T el:TypeId}{x y z:Operand}(ho:o.op=.slice T x none (some y) (some z))(hd:P.underlying T=some (.slice el)){i:TypeInfo}(hi:P.info? el=some i):OpPure P o (kEmp (wO (cOpd x)) (cOpd y) (cOpd z)):=by
 intro g w nt t h a v h' H Tr e
 unfold kEmp at e
 split at e
 ·rename_i ky n hy
  split at e
  ·rename_i kz m hz
   obtain⟨h1,h2⟩:=(by
    cases hb:(Nat.beq n 0&&Nat.beq m 0)with
    |false=>rw[hb]at e;cases e
    |true=>rw[Bool.and_eq_true]at hb;exact hb:Nat.beq n 0=true/\Nat.beq m 0=true)
   rw[h1,h2]at e
   simp only[Bool.and_self,cond_true]at e
   obtain rfl:=Nat.eq_of_beq_eq_true h1
   obtain rfl:=Nat.eq_of_beq_eq_true h2
   have hvy:=cOpd_ok y _ _ _ _ _ _ Tr hy
   have hvz:=cOpd_ok z _ _ _ _ _ _ Tr hz
   simp only[VR]at hvy hvz
   have hsz:(sizeOf el).run P w=.ok i.size w:=by simp[sizeOf,typeInfo,hi]
   have hrun: ∀ b n c,a.eval x=.slice b n c->(execOp a.eval o).run P w=.ok (.value (.slice b 0 0)) w:=by
    intro b n c hx
    simp[execOp,ho,hx,hvy,hvz,Instr.sliceAt,Instr.slice,run_underlying hd,Instr.sliceBounds,Instr.sliceBound,asIntOf,hsz]
   split at e
   ·rename_i hx
    cases e
    have hv:=wOpd_ok x _ _ _ _ _ _ Tr hx
    simp only[VR]at hv
    obtain⟨b,hv⟩:=hv
    exact⟨rfl,_,hrun _ _ _ hv,by simp only[VR];exact⟨_,rfl⟩⟩
   ·rename_i hx
    cases e
    have hv:=wOpd_ok x _ _ _ _ _ _ Tr hx
    simp only[VR]at hv
    rcases hv with⟨_,b,hv⟩|⟨b,s,cap,_,hv,_⟩
    ·exact⟨rfl,_,hrun _ _ _ hv,by simp only[VR];exact⟨_,rfl⟩⟩
    ·exact⟨rfl,_,hrun _ _ _ hv,by simp only[VR];exact⟨_,rfl⟩⟩
   ·rename_i hx
    cases e
    have hv:=wOpd_ok x _ _ _ _ _ _ Tr hx
    simp only[VR]at hv
    obtain⟨b,cap,hv,_⟩:=hv
    exact⟨rfl,_,hrun _ _ _ hv,by simp only[VR];exact⟨_,rfl⟩⟩
   ·cases e
  ·cases e
 ·cases e
end
end Go.Ab

noncomputable section
namespace Go.Ab
variable [Io]
def CallOk(P:Program)(call:CallF):Prop:=
 ∀ f args h v h',call f args h=.ok v h'->(∀ as w,(callFunc f as).run P w=.ok (.enter f as) w)/\
  ∀ (g:G) (w:World) (vs:List Value),HR g w h->VRs g w args vs->
   Calls P f vs.toArray w fun e w'=> ∃ x g',e=.returned x/\Ext g w h g' w' h'/\HR g' w' h'/\VR g' w' v x
def cBin(P:Program)(op:BinOp)(T:TypeId):Option (AV->AV->Option AV):=
 match op with
 | .add=>some bAddS| .sub=>some bSubS| .mul=>some bMulS| .quo=>some bQuoS| .rem=>some bRemS
 | .and=>some bAndS| .or=>some bOrS| .xor=>some bXorS| .andNot=>some bAndNot| .shl=>some bShlS| .shr=>some bShrS
 | .lss=>some bLssS| .leq=>some bLeqS| .gtr=>some bGtrS| .geq=>some bGeqS
 | .eql=>match P.underlying T with
  |some (.int _)=>some (bEqIS false)
  |some .bool=>some (bEqB false)
  |some .string=>some (bEqS false)
  |some (.pointer _)=>some (bEqP false)
  |some (.slice _)=>some (bEqN false)
  |some (.struct _)=>cEqA P false T
  | _=>none
 | .neq=>match P.underlying T with
  |some (.int _)=>some (bEqIS true)
  |some .bool=>some (bEqB true)
  |some .string=>some (bEqS true)
  |some (.pointer _)=>some (bEqP true)
  |some (.slice _)=>some (bEqN true)
  |some (.struct _)=>cEqA P true T
  | _=>none
theorem cBin_ok{P:Program}{op:BinOp}{T:TypeId}{f:AV->AV->Option AV}(h:cBin P op T=some f):BinOk P op T f:=by
 unfold cBin at h
 cases op<;>simp only at h
 case eql=>
  split at h
  ·cases h;exact bin_eqIS T
  ·rename_i hu;cases h;exact bin_eqB hu
  ·cases h;exact bin_eqS T
  ·rename_i hu;cases h;exact bin_eqP hu
  ·rename_i hu;cases h;exact bin_eqN hu
  ·exact cEqA_eq h
  ·cases h
 case neq=>
  split at h
  ·cases h;exact bin_neIS T
  ·rename_i hu;cases h;exact bin_neB hu
  ·cases h;exact bin_neS T
  ·rename_i hu;cases h;exact bin_neP hu
  ·rename_i hu;cases h;exact bin_neN hu
  ·exact cEqA_ne h
  ·cases h
 all_goals cases h
 case add=>exact bin_addS T
 case sub=>exact bin_subS T
 case mul=>exact bin_mulS T
 case quo=>exact bin_quoS T
 case rem=>exact bin_remS T
 case and=>exact bin_andS T
 case or=>exact bin_orS' T
 case xor=>exact bin_xorS T
 case shl=>exact bin_shlS T
 case shr=>exact bin_shrS T
 case andNot=>exact bin_andNot T
 case lss=>exact bin_lssS T
 case leq=>exact bin_leqS T
 case gtr=>exact bin_gtrS T
 case geq=>exact bin_geqS T
def cUn(op:UnOp):Option (AV->Option AV):=
 match op with
 | .not=>some uNot
 | .neg=>some uNeg
 | .xor=>some uXor
 | .plus=>none
def cLoad(P:Program)(T:TypeId)(x:Operand):OpF:=
 match P.underlying T with
 |some d=>match P.info? T with
  |some i=>kLoad i.size (isAggD d) (cOpd x)
  |none=>kBad
 |none=>kBad
def cConv(P:Program)(S D:TypeId)(x:Operand):OpF:=
 match P.underlying S with
 |some _=>match P.underlying D with
  |some (.int k)=>kUn (cIntS k) (cOpd x)
  | _=>kBad
 |none=>kBad
def cConvB(P:Program)(S D:TypeId)(x:Operand):OpF:=
 match P.underlying S with
 |some .string=>match P.underlying D with
  |some (.slice e)=>match P.underlying e with
   |some (.int .u8)=>kBytes (cOpd x)
   | _=>kBad
  | _=>kBad
 |some (.slice _)=>match P.underlying D with
  |some (.slice e)=>match P.underlying e with
   |some (.int .u8)=>ifb (Nat.beq S D) (kMark (cOpd x)) kBad
   | _=>kBad
  | _=>kBad
 | _=>kBad
def cFieldAddr(P:Program)(T:TypeId)(x:Operand)(n:Nat):OpF:=
 match P.underlying T with
 |some (.struct fs)=>match fs[n]? with
  |some f=>match P.info? f.type with
   |some i=>ifb (Nat.blt 0 i.size) (kFieldAddr f.offset (cOpd x)) kBad
   |none=>kBad
  |none=>kBad
 | _=>kBad
def cField(P:Program)(T:TypeId)(x:Operand)(n:Nat):OpF:=
 match P.underlying T with
 |some (.struct fs)=>match fs[n]? with
  |some f=>match P.underlying f.type with
   |some d=>match P.info? f.type with
    |some i=>kField f.offset i.size (isAggD d) (cOpd x)
    |none=>kBad
   |none=>kBad
  |none=>kBad
 | _=>kBad
def cIndexAddr(P:Program)(T:TypeId)(x y:Operand):OpF:=
 match P.underlying T with
 |some (.slice e)=>match P.info? e with
  |some i=>kIxS i.size (cOpd x) (cOpd y)
  |none=>kBad
 |some (.array n e)=>match P.info? e with
  |some i=>kIxA n i.size (cOpd x) (cOpd y)
  |none=>kBad
 | _=>kBad
def cIndex(P:Program)(T:TypeId)(x y:Operand):OpF:=
 match P.underlying T with
 |some (.array n e)=>match P.underlying e with
  |some d=>match P.info? e with
   |some i=>kIndex n i.size (isAggD d) (cOpd x) (cOpd y)
   |none=>kBad
  |none=>kBad
 |some .string=>kIndexS (cOpd x) (cOpd y)
 | _=>kBad
def cSlice(P:Program)(T:TypeId)(x:Operand)(lo hi:Option Operand):OpF:=
 match P.underlying T with
 |some .string=>kSliceS (cOpd x) (lo.map cOpd) (hi.map cOpd)
 |some (.slice e)=>match P.info? e with
  |some i=>kSliceN i.size (cOpd x) (lo.map cOpd) (hi.map cOpd)
  |none=>kBad
 |some (.array n e)=>match P.info? e with
  |some i=>ifb (Nat.blt 0 i.size) (kSliceA n i.size (cOpd x) (lo.map cOpd) (hi.map cOpd)) kBad
  |none=>kBad
 | _=>kBad
def cSlice3(P:Program)(T:TypeId)(x:Operand)(lo hi:Option Operand)(m:Operand):OpF:=
 match lo,hi with
 |none,some y=>match P.underlying T with
  |some (.slice e)=>match P.info? e with
   |some _=>kEmp (wO (cOpd x)) (cOpd y) (cOpd m)
   |none=>kBad
  | _=>kBad
 | _,_=>kBad
def cLen(P:Program)(T:TypeId)(x:Operand):OpF:=
 match P.underlying T with
 |some .string=>kLenS (cOpd x)
 |some (.slice _)=>kLen (wO (cOpd x))
 |some (.array n _)=>kMove (oC (.int .i64 (.ofNat n)))
 | _=>kBad
def cCap(P:Program)(T:TypeId)(x:Operand):OpF:=
 match P.underlying T with
 |some (.slice _)=>kCap (wO (cOpd x))
 | _=>kBad
def cNew(P:Program)(T:TypeId):OpF:=
 match zeroOf P T with
 |some z=>kNew z
 |none=>kBad
inductive Cl where
 |p0|p1|al|ch
def cCall(P:Program)(call:CallF)(c:Call):OpF:=
 match c with
 |⟨.builtin .append,args,ats⟩=>match args.toList,ats.toList with
  | [s,x],[T,T']=>ifb (Nat.beq T T') (cAppend P T s x) (cAppO P T T' s x)
  | _,_=>kBad
 |⟨.builtin .copy,args,ats⟩=>match args.toList,ats.toList with
  | [d,s],[T,_]=>cCopy P T d s
  | _,_=>kBad
 |⟨.value (.func f),args,_⟩=>kCall call f (args.toList.map cOpd)
 |⟨.value f,args,_⟩=>kCallV call (cOpd f) (args.toList.map cOpd)
 | _=>kBad
def cBuiltin(P:Program)(c:Call):Option OpF:=
 match c with
 |⟨.builtin .len,args,ats⟩=>match args.toList,ats.toList with
  | [x],[T]=>some (cLen P T x)
  | _,_=>some kBad
 |⟨.builtin .cap,args,ats⟩=>match args.toList,ats.toList with
  | [x],[T]=>some (cCap P T x)
  | _,_=>some kBad
 |⟨.builtin .min,args,_⟩=>match args.toList with
  | [x,y]=>some (kMin (cOpd x) (cOpd y))
  | _=>some kBad
 |⟨.builtin .max,args,_⟩=>match args.toList with
  | [x,y]=>some (kMax (cOpd x) (cOpd y))
  | _=>some kBad
 | _=>none
def cOp(P:Program)(call:CallF)(o:Op):Cl×OpF:=
 match o with
 | .move x=>(.p0,kMove (cOpd x))
 | .assign x=>(.p0,kMove (cOpd x))
 | .pick c x y=>(.p0,kPick (cOpd c) (cOpd x) (cOpd y))
 | .alloc T=>(.al,cNew P T)
 | .box _ x=>(.al,kBox (cOpd x))
 | .build T ps=>(.p0,cBuild P T ps.toList)
 | .buildSlice T n ps=>(.al,cRow P T n ps.toList)
 | .load T x=>(.p1,cLoad P T x)
 | .store T x y=>(.ch,cStore P T x y)
 | .nilCheck x=>(.p0,kNil (cOpd x))
 | .binOp op T x y _=>match cBin P op T with
  |some f=>(.p0,kBin f (cOpd x) (cOpd y))
  |none=>(.p0,kBad)
 | .unOp op _ x=>match cUn op with
  |some f=>(.p0,kUn f (cOpd x))
  |none=>(.p0,kBad)
 | .convert S D x=>match P.underlying D with
  |some (.slice _)=>(.ch,cConvB P S D x)
  | _=>(.p0,cConv P S D x)
 | .makeFunc (.func f) first caps=>match first.toList with
  | []=>(.p0,kFn f (caps.toList.map cOpd))
  | _=>(.p0,kBad)
 | .makeSlice T l c=>(.al,cMake P T l c)
 | .makeMap _ r=>match r with
  |none=>(.ch,kMap)
  |some _=>(.ch,kBad)
 | .slice T x lo hi none=>(.p1,cSlice P T x lo hi)
 | .slice T x lo hi (some m)=>(.p1,cSlice3 P T x lo hi m)
 | .fieldAddr T x n=>(.p0,cFieldAddr P T x n)
 | .field T x n=>(.p0,cField P T x n)
 | .indexAddr T x y=>(.p0,cIndexAddr P T x y)
 | .index T x y=>(.p0,cIndex P T x y)
 | .extract x i=>(.p0,kExtract (cOpd x) i)
 | .call c=>match cBuiltin P c with
  |some f=>(.p0,f)
  |none=>(.ch,cCall P call c)
 | _=>(.ch,kBad)
def OpOk(P:Program)(o:Oper)(f:OpF):Prop:=
 ∀ (g:G) (w:World) (nt:Nat) (t:Tm) (h:Hp) (a:Act) (v:AV) (h':Hp),HR g w h->TR g w nt t a.tmps->f t h=.ok v h'->
  ∀ next Q,(∀ g' w' x,Ext g w h g' w' h'->HR g' w' h'->VR g' w' v x->next (a.put o.dst x) w')->o.wp P a w next Q
section
variable {P:Program}{o:Oper}
theorem OpRun.ok{f:OpF}(h:OpRun P o f):OpOk P o f:=by
 intro g w nt t hp a v h' H T e next Q K
 obtain⟨g',w',nx,x,hr,hnx,E,H',hv⟩:=h g w nt t hp a v h' H T e
 unfold Oper.wp
 rw[hr]
 rcases hnx with rfl|⟨rfl,rfl⟩
 ·exact K g' w' x E H' hv
 ·exact K g' w' undef E H' hv
theorem OpPure.ok{f:OpF}(h:OpPure P o f):OpOk P o f:=h.run.ok
theorem OpNew.ok{f:OpF}(h:OpNew P o f):OpOk P o f:=h.run.ok
theorem ok_bad:OpOk P o kBad:=by intro g w nt t h a v h' _ _ e;cases e
theorem ok_call{f:FuncId}{args:Array Operand}{ats:Array TypeId}{call:CallF}(hc:CallOk P call)(ho:o.op=.call {callee:=.value (.func f),args,argTypes:=ats}):
 OpOk P o (kCall call f (args.toList.map cOpd)):=by
 intro g w nt t h a v h' H T e next Q K
 unfold kCall at e
 split at e
 ·rename_i vs hvs
  obtain⟨hen,hcall⟩:=hc f vs h v h' e
  have hv:=opds_ok T args.toList hvs
  have hr:(execOp a.eval o).run P w=.ok (.enter f (args.map a.eval)) w:=by
   simp[execOp,ho,resolve,Act.eval,Deferred.ofValue,invoke,hen]
  unfold Oper.wp
  rw[hr,Oper.upon_enter]
  have:=hcall g w (args.toList.map a.eval) H hv
  rw[show(args.toList.map a.eval).toArray=args.map a.eval from by rw[<-Array.toList_map,Array.toArray_toList]]at this
  refine this.mono ?_
  rintro e w' ⟨x,g',rfl,E,H',hx⟩
  exact K g' w' x E H' hx
 ·cases e
theorem ok_callV{f:Operand}{args:Array Operand}{ats:Array TypeId}{call:CallF}(hc:CallOk P call)(ho:o.op=.call {callee:=.value f,args,argTypes:=ats}):
 OpOk P o (kCallV call (cOpd f) (args.toList.map cOpd)):=by
 intro g w nt t h a v h' H T e next Q K
 unfold kCallV at e
 split at e
 ·rename_i k cap hf
  split at e
  ·rename_i vs hvs
   have hfv:=cOpd_ok f _ _ _ _ _ _ T hf
   simp only[VR]at hfv
   obtain⟨caps,hfe,hcaps⟩:=hfv
   obtain⟨hen,hcall⟩:=hc k _ h v h' e
   have hv:=opds_ok T args.toList hvs
   have hr:(execOp a.eval o).run P w=.ok (.enter k (args.map a.eval++caps)) w:=by
    simp[execOp,ho,resolve,hfe,Deferred.ofValue,invoke,hen]
   unfold Oper.wp
   rw[hr,Oper.upon_enter]
   rw[app_eq]at hcall
   have:=hcall g w (args.toList.map a.eval++caps.toList) H (hv.append hcaps)
   rw[show(args.toList.map a.eval++caps.toList).toArray=args.map a.eval++caps from by rw[<-Array.toList_map,<-Array.toList_append,Array.toArray_toList]]at this
   refine this.mono ?_
   rintro e w' ⟨x,g',rfl,E,H',hx⟩
   exact K g' w' x E H' hx
  ·cases e
 ·cases e
end
end Go.Ab

noncomputable section
namespace Go.Ab
variable [Io]
section
variable {P:Program}{o:Oper}{call:CallF}
theorem pure_cLoad{T:TypeId}{x:Operand}(ho:o.op=.load T x):OpPure P o (cLoad P T x):=by
 unfold cLoad
 split
 ·rename_i d hd
  split
  ·rename_i i hi;exact pure_load ho hd hi
  ·exact pure_bad
 ·exact pure_bad
theorem pure_cConv{S D:TypeId}{x:Operand}(ho:o.op=.convert S D x):OpPure P o (cConv P S D x):=by
 unfold cConv
 split
 ·rename_i d hd
  split
  ·rename_i k hk;exact pure_cIntS ho hd hk
  ·exact pure_bad
 ·exact pure_bad
theorem run_cConvB{S D:TypeId}{x:Operand}(ho:o.op=.convert S D x):OpRun P o (cConvB P S D x):=by
 unfold cConvB
 split
 ·rename_i hS
  split
  ·rename_i e hD
   split
   ·rename_i he;exact run_kBytes ho hS hD he
   ·exact pure_bad.run
  ·exact pure_bad.run
 ·split
  ·rename_i e hD
   split
   ·rename_i he
    cases h:Nat.beq S D with
    |true=>
     obtain rfl:=Nat.eq_of_beq_eq_true h
     exact run_kMark ho hD he
    |false=>exact pure_bad.run
   ·exact pure_bad.run
  ·exact pure_bad.run
 ·exact pure_bad.run
theorem pure_ifb{c:Bool}{f:OpF}(h:c=true->OpPure P o f):OpPure P o (ifb c f kBad):=by
 cases c with
 |true=>exact h rfl
 |false=>exact pure_bad
theorem pure_cFieldAddr{T:TypeId}{x:Operand}{n:Nat}(ho:o.op=.fieldAddr T x n):OpPure P o (cFieldAddr P T x n):=by
 unfold cFieldAddr
 split
 ·rename_i fs hd
  split
  ·rename_i f hf
   split
   ·rename_i i hi
    exact pure_ifb fun h=>pure_fieldAddr ho hd hf hi (by have:=blt_iff.1 h;omega)
   ·exact pure_bad
  ·exact pure_bad
 ·exact pure_bad
theorem pure_cField{T:TypeId}{x:Operand}{n:Nat}(ho:o.op=.field T x n):OpPure P o (cField P T x n):=by
 unfold cField
 split
 ·rename_i fs hd
  split
  ·rename_i f hf
   split
   ·rename_i d hd2
    split
    ·rename_i i hi
     exact pure_field ho hd hf hd2 hi
    ·exact pure_bad
   ·exact pure_bad
  ·exact pure_bad
 ·exact pure_bad
theorem pure_cIndexAddr{T:TypeId}{x y:Operand}(ho:o.op=.indexAddr T x y):OpPure P o (cIndexAddr P T x y):=by
 unfold cIndexAddr
 split
 ·rename_i e hd
  split
  ·rename_i i hi;exact pure_ixS ho hd hi
  ·exact pure_bad
 ·rename_i n e hd
  split
  ·rename_i i hi;exact pure_ixA ho hd hi
  ·exact pure_bad
 ·exact pure_bad
theorem pure_cIndex{T:TypeId}{x y:Operand}(ho:o.op=.index T x y):OpPure P o (cIndex P T x y):=by
 unfold cIndex
 split
 ·rename_i n e hd
  split
  ·rename_i d hd2
   split
   ·rename_i i hi;exact pure_index ho hd hd2 hi
   ·exact pure_bad
  ·exact pure_bad
 ·rename_i hd;exact pure_indexS ho hd
 ·exact pure_bad
theorem pure_cSlice3{T:TypeId}{x:Operand}{lo hi:Option Operand}{m:Operand}(ho:o.op=.slice T x lo hi (some m)):OpPure P o (cSlice3 P T x lo hi m):=by
 unfold cSlice3
 split
 ·split
  ·rename_i e hd
   split
   ·rename_i i hi;exact pure_kEmp ho hd hi
   ·exact pure_bad
  ·exact pure_bad
 ·exact pure_bad
theorem pure_cSlice{T:TypeId}{x:Operand}{lo hi:Option Operand}(ho:o.op=.slice T x lo hi none):OpPure P o (cSlice P T x lo hi):=by
 unfold cSlice
 split
 ·rename_i hd;exact pure_sliceS ho hd
 ·rename_i e hd
  split
  ·rename_i i hi;exact pure_sliceN ho hd hi
  ·exact pure_bad
 ·rename_i n e hd
  split
  ·rename_i i hi;exact pure_ifb fun h=>pure_sliceA ho hd hi (by have:=blt_iff.1 h;omega)
  ·exact pure_bad
 ·exact pure_bad
theorem pure_cCap{T:TypeId}{x:Operand}(ho:o.op=.call {callee:=.builtin .cap,args:= #[x],argTypes:= #[T]}):OpPure P o (cCap P T x):=by
 unfold cCap
 split
 ·rename_i hd;exact pure_cap ho hd
 ·exact pure_bad
theorem pure_cLen{T:TypeId}{x:Operand}(ho:o.op=.call {callee:=.builtin .len,args:= #[x],argTypes:= #[T]}):OpPure P o (cLen P T x):=by
 unfold cLen
 split
 ·rename_i hd;exact pure_lenS ho hd
 ·rename_i e hd;exact pure_len ho hd
 ·rename_i n e hd;exact pure_lenA ho hd
 ·exact pure_bad
theorem new_bad:OpNew P o kBad:=by intro g w nt t h a v h' _ _ e;cases e
theorem new_cNew{T:TypeId}(ho:o.op=.alloc T):OpNew P o (cNew P T):=by
 unfold cNew
 split
 ·rename_i z hz;exact run_kNew ho hz
 ·exact new_bad
theorem pure_cUn{op:UnOp}{T:TypeId}{x:Operand}{f:AV->Option AV}(ho:o.op=.unOp op T x)(h:cUn op=some f):OpPure P o (kUn f (cOpd x)):=by
 cases op<;>cases h
 ·exact pure_neg ho
 ·exact pure_xor ho
 ·exact pure_not ho
omit [Io] in
theorem arr1{α:Type}{a:Array α}{x:α}(h:a.toList=[x]):a= #[x]:=by
 rw[<-Array.toArray_toList (xs:=a),h]
omit [Io] in
theorem arr2{α:Type}{a:Array α}{x y:α}(h:a.toList=[x,y]):a= #[x,y]:=by
 rw[<-Array.toArray_toList (xs:=a),h]
theorem pure_cBuiltin{c:Call}{f:OpF}(ho:o.op=.call c)(h:cBuiltin P c=some f):OpPure P o f:=by
 unfold cBuiltin at h
 split at h
 ·rename_i args ats
  split at h
  ·rename_i x T h1 h2
   cases h
   rw[arr1 h1,arr1 h2]at ho
   exact pure_cLen ho
  ·cases h;exact pure_bad
 ·rename_i args ats
  split at h
  ·rename_i x T h1 h2
   cases h
   rw[arr1 h1,arr1 h2]at ho
   exact pure_cCap ho
  ·cases h;exact pure_bad
 ·rename_i args ats
  split at h
  ·rename_i x y h1
   cases h
   rw[arr2 h1]at ho
   exact pure_min ho
  ·cases h;exact pure_bad
 ·rename_i args ats
  split at h
  ·rename_i x y h1
   cases h
   rw[arr2 h1]at ho
   exact pure_max ho
  ·cases h;exact pure_bad
 ·cases h
theorem ok_cCall(hc:CallOk P call){c:Call}(ho:o.op=.call c):OpOk P o (cCall P call c):=by
 unfold cCall
 split
 ·rename_i args ats
  split
  ·rename_i s x T T' h1 h2
   rw[arr2 h1,arr2 h2]at ho
   cases h:Nat.beq T T' with
   |true=>
    obtain rfl:=Nat.eq_of_beq_eq_true h
    exact(run_kAppend ho).ok
   |false=>exact(run_cAppO ho).ok
  ·exact ok_bad
 ·rename_i args ats
  split
  ·rename_i d s T T' h1 h2
   rw[arr2 h1,arr2 h2]at ho
   exact(run_kCopy ho).ok
  ·exact ok_bad
 ·exact ok_call hc ho
 ·exact ok_callV hc ho
 ·exact ok_bad
theorem cOp_all(hc:CallOk P call):match cOp P call o.op with
 |(.p0,f)=>OpPure P o f
 |(.p1,f)=>OpPure P o f
 |(.al,f)=>OpNew P o f
 |(.ch,f)=>OpOk P o f:=by
 cases ho:o.op<;>simp only[cOp]
 case move x=>exact pure_move (.inl ho)
 case assign x=>exact pure_move (.inr ho)
 case pick c x y=>exact pure_pick ho
 case alloc T=>exact new_cNew ho
 case box T x=>exact run_kBox ho
 case build T ps=>exact pure_build ho
 case buildSlice T n ps=>exact run_kRow ho
 case load T x=>exact pure_cLoad ho
 case store T x y=>exact(run_kStore ho).ok
 case nilCheck x=>exact pure_nil ho
 case binOp op T x y yT=>
  cases h:cBin P op T with
  |some f=>exact pure_bin ho (cBin_ok h)
  |none=>exact pure_bad
 case unOp op T x=>
  cases h:cUn op with
  |some f=>exact pure_cUn ho h
  |none=>exact pure_bad
 case convert S D x=>
  cases h:P.underlying D with
  |none=>exact pure_cConv ho
  |some d=>cases d<;>first|exact pure_cConv ho|exact(run_cConvB ho).ok
 case makeFunc f first caps=>
  cases f<;>try exact ok_bad
  rename_i f
  simp only
  cases h:first.toList with
  |nil=>
   have:first= #[]:=by rw[<-Array.toArray_toList (xs:=first),h]
   subst this
   exact pure_fn ho
  |cons a l=>exact pure_bad
 case makeSlice T l c=>exact run_kMake ho
 case makeMap T r=>cases r with
  |none=>exact(run_kMap ho).ok
  |some _=>exact ok_bad
 case slice T x lo hi mx=>
  cases mx with
  |none=>exact pure_cSlice ho
  |some m=>exact pure_cSlice3 ho
 case fieldAddr T x n=>exact pure_cFieldAddr ho
 case field T x n=>exact pure_cField ho
 case indexAddr T x y=>exact pure_cIndexAddr ho
 case index T x y=>exact pure_cIndex ho
 case extract x i=>exact pure_extract ho
 case call c=>
  cases h:cBuiltin P c with
  |some f=>exact pure_cBuiltin ho h
  |none=>exact ok_cCall hc ho
 all_goals exact ok_bad
theorem cOp_ok(hc:CallOk P call):OpOk P o (cOp P call o.op).2:=by
 have:=cOp_all (o:=o) hc
 cases h:cOp P call o.op with
 |mk c f=>
  rw[h]at this
  cases c
  ·exact OpPure.ok this
  ·exact OpPure.ok this
  ·exact OpNew.ok this
  ·exact this
def gF(j:Opd)(want:Bool)(f:OpF):OpF:=fun t h=>match j t with
 |some (.bool b)=>ifb (ifb want b (!b)) (f t h) (.ok undefA h)
 |some (.tup [])=>.ok undefA h
 | _=>.bad
def gOp(P:Program)(call:CallF)(nt:Nat)(all:List Oper)(o:Oper):OpF:=
 match o.guard with
 |none=>(cOp P call o.op).2
 |some (j,want)=>match getN all j with
  |some oj=>match oj.dst with
   |some d=>ifb (Nat.blt d nt) (gF (oT d) want (cOp P call o.op).2) kBad
   |none=>kBad
  |none=>kBad
def cRegion(P:Program)(call:CallF)(nt:Nat)(all l:List Oper):RgF:=
 List.rec fi (fun o _ ih=>match o.dst with
  |some d=>ifb (Nat.blt d nt) (st (sT d) (gOp P call nt all o) ih) (fun _ _=>.bad)
  |none=>sn (gOp P call nt all o) ih) l
theorem step_ok(hc:CallOk P call){ops:Array Oper}{i:Nat}(hi:ops[i]? =some o){g w nt t h}{a:Act}{v:AV}{h':Hp}(H:HR g w h)(T:TR g w nt t a.tmps)
 (e:gOp P call nt ops.toList o t h=.ok v h'){Q:Exit->Act->World->Prop}{rest:List Nat}
 (K: ∀ g' w' x,Ext g w h g' w' h'->HR g' w' h'->VR g' w' v x->wpOps P ops Q rest (a.put o.dst x) w'):wpOps P ops Q (i::rest) a w:=by
 rw[wpOps,hi]
 simp only
 unfold gOp at e
 cases hg:o.guard with
 |none=>
  rw[hg]at e
  rw[if_pos (by simp[Region.wanted,hg])]
  exact .inl (cOp_ok hc g w nt t h a v h' H T e _ _ K)
 |some p=>
  obtain⟨j,want⟩:=p
  rw[hg]at e
  simp only[getN_eq]at e
  cases hj:ops.toList[j]? with
  |none=>simp only[hj]at e;cases e
  |some oj=>
  simp only[hj]at e
  cases hd:oj.dst with
  |none=>simp only[hd]at e;cases e
  |some d=>
  simp only[hd]at e
  cases hb:Nat.blt d nt with
  |false=>simp only[hb]at e;cases e
  |true=>
  simp only[hb]at e
  have hdn:=blt_iff.1 hb
  change gF (oT d) want (cOp P call o.op).2 t h=.ok v h' at e
  have hj':ops[j]? =some oj:=by simpa using hj
  have hsz:=T.2.1
  have hy: ∀ y,a.tmps.getD d undef=y->yielded ops a.tmps j=match y with| .bool b=>some b| _=>none:=by
   intro y hy
   have:a.tmps[d]? =some y:=by
    rw[Array.getD_eq_getD_getElem?]at hy
    rw[Array.getElem?_eq_getElem (by omega)]at hy ⊢
    simpa using hy
   simp[yielded,hj',hd,this]
   cases y<;>rfl
  unfold gF at e
  split at e
  ·rename_i b hb2
   have hv:=(T.2.2 d _ (by have:=T.1;omega) hb2).2
   simp only[VR]at hv
   have hy2:=hy _ hv
   cases hwb:(ifb want b (!b))with
   |true=>
    rw[hwb]at e
    have:b=want:=by cases want<;>cases b<;>simp[ifb]at hwb<;>rfl
    rw[if_pos (by simp[Region.wanted,hg,hy2,this])]
    exact .inl (cOp_ok hc g w nt t h a v h' H T e _ _ K)
   |false=>
    rw[hwb]at e
    have:b≠want:=by cases want<;>cases b<;>simp[ifb]at hwb<;>simp
    rw[if_neg (by simp[Region.wanted,hg,hy2,this])]
    cases e
    exact K g w undef (Ext.refl _ _ _) H (by simp only[undefA,VR];exact⟨_,rfl,by simp[VRs]⟩)
  ·rename_i hb2
   have hv:=(T.2.2 d _ (by have:=T.1;omega) hb2).2
   simp only[VR]at hv
   obtain⟨vs,hv,hvs⟩:=hv
   have hy2:=hy _ hv
   rw[if_neg (by simp[Region.wanted,hg,hy2])]
   cases e
   exact K g w undef (Ext.refl _ _ _) H (by simp only[undefA,VR];exact⟨_,rfl,by simp[VRs]⟩)
  ·cases e
end
end Go.Ab

noncomputable section
namespace Go.Ab
variable [Io]
section
variable {P:Program}{call:CallF}
def Post(g:G)(w:World)(h:Hp)(nt:Nat)(t':Tm)(h':Hp)(R:Act->World->Prop):Prop:=
 ∀ g' w' a',Ext g w h g' w' h'->HR g' w' h'->TR g' w' nt t' a'.tmps->a'.defers=[]->R a' w'
theorem Post.then{g w h nt h1 g1 w1 t2 h2}{R:Act->World->Prop}(E:Ext g w h g1 w1 h1)(K:Post g w h nt t2 h2 R):Post g1 w1 h1 nt t2 h2 R:=
 fun g' w' a' E' H' T' D'=>K g' w' a' (E.trans E') H' T' D'
def RgOk(P:Program)(nt:Nat)(c:Code)(r:RgF):Prop:=
 ∀ (g:G) (w:World) (t:Tm) (h:Hp) (a:Act) (t':Tm) (h':Hp),HR g w h->TR g w nt t a.tmps->a.defers=[]->r t h=.ok t' h'->
  ∀ Q:Exit->Act->World->Prop,Post g w h nt t' h' (Q .normal)->c.wp P Q a w
theorem put_dst{g w nt t}{a:Act}{d:Nat}{v:AV}{x:Value}(T:TR g w nt t a.tmps)(hd:d<nt)(hv:VR g w v x):TR g w nt (sT d v t) (a.put (some d) x).tmps:=
 T.put hd hv
theorem seq_ok(hc:CallOk P call){nt:Nat}(ops:Array Oper): ∀ (l pre:List Oper),ops.toList=pre++l-> ∀ (g:G) (w:World) (t:Tm) (h:Hp) (a:Act) (t':Tm) (h':Hp),
 HR g w h->TR g w nt t a.tmps->a.defers=[]->cRegion P call nt ops.toList l t h=.ok t' h'-> ∀ Q:Exit->Act->World->Prop,Post g w h nt t' h' (Q .normal)->
  wpOps P ops Q (List.range' pre.length l.length) a w
 | [],pre,_,g,w,t,h,a,t',h',H,T,D,e,Q,K=>by
  cases e
  exact K g w a (Ext.refl _ _ _) H T D
 |o::l,pre,hl,g,w,t,h,a,t',h',H,T,D,e,Q,K=>by
  have hi:ops[pre.length]? =some o:=by
   have:ops.toList[pre.length]? =some o:=by rw[hl];simp
   simpa using this
  have ih:=seq_ok hc (nt:=nt) ops l (pre++[o]) (by simp[hl])
  simp only[List.length_append,List.length_cons,List.length_nil,Nat.zero_add]at ih
  rw[List.length_cons,List.range'_succ]
  change (match o.dst with
   |some d=>ifb (Nat.blt d nt) (st (sT d) (gOp P call nt ops.toList o) (cRegion P call nt ops.toList l)) (fun _ _=>.bad)
   |none=>sn (gOp P call nt ops.toList o) (cRegion P call nt ops.toList l)) t h=.ok t' h' at e
  cases hd:o.dst with
  |none=>
   simp only[hd]at e
   unfold sn at e
   cases hg:gOp P call nt ops.toList o t h with
   |bad=>rw[hg]at e;cases e
   |ok v h1=>
    rw[hg]at e
    refine step_ok hc hi H T hg fun g1 w1 x E H1 hv=>?_
    rw[hd]
    exact ih g1 w1 t h1 a t' h' H1 (T.mono H E) D e Q (Post.then E K)
  |some d=>
   simp only[hd]at e
   cases hb:Nat.blt d nt with
   |false=>simp only[hb]at e;cases e
   |true=>
    simp only[hb]at e
    change st (sT d) (gOp P call nt ops.toList o) (cRegion P call nt ops.toList l) t h=.ok t' h' at e
    unfold st at e
    cases hg:gOp P call nt ops.toList o t h with
    |bad=>rw[hg]at e;cases e
    |ok v h1=>
     rw[hg]at e
     refine step_ok hc hi H T hg fun g1 w1 x E H1 hv=>?_
     rw[hd]
     exact ih g1 w1 (sT d v t) h1 (a.put (some d) x) t' h' H1 (put_dst (T.mono H E) (blt_iff.1 hb) hv) D e Q (Post.then E K)
theorem region_ok(hc:CallOk P call){nt:Nat}(id:Nat)(ops:Array Oper):RgOk P nt (.region id ops false) (cRegion P call nt ops.toList ops.toList):=by
 intro g w t h a t' h' H T D e Q K
 refine wp_region ?_
 have:=seq_ok hc ops ops.toList [] rfl g w t h a t' h' H T D e Q K
 rw[List.range_eq_range']
 simpa using this
def CdOk(P:Program)(nt:Nat)(c:Code)(f:CdF):Prop:=
 ∀ (g:G) (w:World) (t:Tm) (h:Hp) (a:Act) (Q:Exit->Act->World->Prop),HR g w h->TR g w nt t a.tmps->a.defers=[]->
  match f t h with
  | .bad=>True
  | .norm t' h'=>Post g w h nt t' h' (Q .normal)->c.wp P Q a w
  | .ret t' h'=>Post g w h nt t' h' (Q .ret)->c.wp P Q a w
  | .exit i t' h'=>Post g w h nt t' h' (Q (.exit i))->c.wp P Q a w
def cCode(P:Program)(draw:Array Oper->RgF)(call:CallF)(n nt:Nat)(c:Code):CdF:=
 Code.rec (motive:=fun _=>CdF) cSk
  (fun _ ops d=>cRg (Bool.rec (cRegion P call nt ops.toList ops.toList) (draw ops) d))
  (fun _ _ ia ib=>cSq ia ib)
  (fun c _ _ ia ib=>cIf (cOpd c) ia ib)
  (fun id _ ib=>cBl id ib)
  (fun _ ib=>cLp n ib)
  (fun _ _ _ _ _ _=>cBad)
  (fun i=>cEx i)
  (fun _ _=>cBad)
  (fun _=>cBad)
  (fun _=>cBad)
  cRt
  (fun _=>cBad) c
theorem cd_bad{nt:Nat}{c:Code}:CdOk P nt c cBad:=by
 intro g w t h a Q H T D
 exact trivial
theorem code_ok(hc:CallOk P call){draw:Array Oper->RgF}{nt:Nat}(hd: ∀ id ops,RgOk P nt (.region id ops true) (draw ops))(n:Nat): ∀ c,CdOk P nt c (cCode P draw call n nt c):=by
 intro c
 induction c with
 |skip=>
  intro g w t h a Q H T D K
  exact wp_skip (K g w a (Ext.refl _ _ _) H T D)
 |region id ops d=>
  intro g w t h a Q H T D
  have key:RgOk P nt (.region id ops d) (Bool.rec (cRegion P call nt ops.toList ops.toList) (draw ops) d):=by
   cases d with
   |false=>exact region_ok hc id ops
   |true=>exact hd id ops
  show match cRg (Bool.rec (cRegion P call nt ops.toList ops.toList) (draw ops) d) t h with| .bad=>_| .norm _ _=>_| .ret _ _=>_| .exit _ _ _=>_
  unfold cRg
  cases e:(Bool.rec (cRegion P call nt ops.toList ops.toList) (draw ops) d:RgF) t h with
  |bad=>exact trivial
  |ok t' h'=>exact fun K=>key g w t h a t' h' H T D e Q K
 |seq x y hx hy=>
  intro g w t h a Q H T D
  show match cSq (cCode P draw call n nt x) (cCode P draw call n nt y) t h with| .bad=>_| .norm _ _=>_| .ret _ _=>_| .exit _ _ _=>_
  unfold cSq
  have h1:=hx g w t h a (Exit.then (y.wp P Q) Q) H T D
  cases e:cCode P draw call n nt x t h with
  |bad=>exact trivial
  |ret t1 h1'=>rw[e]at h1;exact fun K=>wp_seq (h1 K)
  |exit i t1 h1'=>rw[e]at h1;exact fun K=>wp_seq (h1 K)
  |norm t1 h1'=>
   rw[e]at h1
   show match cCode P draw call n nt y t1 h1' with| .bad=>_| .norm _ _=>_| .ret _ _=>_| .exit _ _ _=>_
   cases e2:cCode P draw call n nt y t1 h1' with
   |bad=>exact trivial
   |norm t2 h2=>
    intro K
    refine wp_seq (h1 fun g1 w1 a1 E1 H1 T1 D1=>?_)
    have:=hy g1 w1 t1 h1' a1 Q H1 T1 D1
    rw[e2]at this
    exact this (Post.then E1 K)
   |ret t2 h2=>
    intro K
    refine wp_seq (h1 fun g1 w1 a1 E1 H1 T1 D1=>?_)
    have:=hy g1 w1 t1 h1' a1 Q H1 T1 D1
    rw[e2]at this
    exact this (Post.then E1 K)
   |exit i t2 h2=>
    intro K
    refine wp_seq (h1 fun g1 w1 a1 E1 H1 T1 D1=>?_)
    have:=hy g1 w1 t1 h1' a1 Q H1 T1 D1
    rw[e2]at this
    exact this (Post.then E1 K)
 |cond c x y hx hy=>
  intro g w t h a Q H T D
  show match cIf (cOpd c) (cCode P draw call n nt x) (cCode P draw call n nt y) t h with| .bad=>_| .norm _ _=>_| .ret _ _=>_| .exit _ _ _=>_
  unfold cIf
  cases hcv:cOpd c t with
  |none=>exact trivial
  |some v=>
   cases v<;>try exact trivial
   rename_i b
   have hv:=cOpd_ok c _ _ _ _ _ _ T hcv
   simp only[VR]at hv
   cases b with
   |true=>
    have:=hx g w t h a Q H T D
    show match cCode P draw call n nt x t h with| .bad=>_| .norm _ _=>_| .ret _ _=>_| .exit _ _ _=>_
    cases e:cCode P draw call n nt x t h<;>rw[e]at this
    ·exact trivial
    all_goals exact fun K=>wp_cond_true hv (this K)
   |false=>
    have:=hy g w t h a Q H T D
    show match cCode P draw call n nt y t h with| .bad=>_| .norm _ _=>_| .ret _ _=>_| .exit _ _ _=>_
    cases e:cCode P draw call n nt y t h<;>rw[e]at this
    ·exact trivial
    all_goals exact fun K=>wp_cond_false hv (this K)
 |block id x hx=>
  intro g w t h a Q H T D
  show match cBl id (cCode P draw call n nt x) t h with| .bad=>_| .norm _ _=>_| .ret _ _=>_| .exit _ _ _=>_
  unfold cBl
  have:=hx g w t h a (Exit.inBlock id Q) H T D
  cases e:cCode P draw call n nt x t h<;>rw[e]at this
  ·exact trivial
  ·exact fun K=>wp_block (this K)
  ·exact fun K=>wp_block (this K)
  ·rename_i i t1 h1
   show match(Bool.rec (Rc.exit i t1 h1) (Rc.norm t1 h1) (Nat.beq i id):Rc)with| .bad=>_| .norm _ _=>_| .ret _ _=>_| .exit _ _ _=>_
   cases hb:Nat.beq i id with
   |true=>
    obtain rfl:=Nat.eq_of_beq_eq_true hb
    exact fun K=>wp_block (this fun g' w' a' E' H' T' D'=>by
     show Exit.inBlock i Q (.exit i) a' w'
     simp only[Exit.inBlock,if_true]
     exact K g' w' a' E' H' T' D')
   |false=>
    have hne:i≠id:=fun k=>by rw[k,Nat.beq_refl]at hb;cases hb
    exact fun K=>wp_block (this fun g' w' a' E' H' T' D'=>by
     show Exit.inBlock id Q (.exit i) a' w'
     simp only[Exit.inBlock,if_neg hne]
     exact K g' w' a' E' H' T' D')
 |loop x hx=>
  intro g w t h a Q H T D
  show match cLp n (cCode P draw call n nt x) t h with| .bad=>_| .norm _ _=>_| .ret _ _=>_| .exit _ _ _=>_
  have key: ∀ m,∀ (g:G) (w:World) (t:Tm) (h:Hp) (a:Act),HR g w h->TR g w nt t a.tmps->a.defers=[]->
   match cLp m (cCode P draw call n nt x) t h with
   | .bad=>True
   | .norm t' h'=>Post g w h nt t' h' (Q .normal)->Code.rounds P x Q m a w
   | .ret t' h'=>Post g w h nt t' h' (Q .ret)->Code.rounds P x Q m a w
   | .exit i t' h'=>Post g w h nt t' h' (Q (.exit i))->Code.rounds P x Q m a w:=by
   intro m
   induction m with
   |zero=>intro g w t h a H T D;exact trivial
   |succ m ih=>
    intro g w t h a H T D
    have h1:=hx g w t h a (Exit.then (Code.rounds P x Q m) Q) H T D
    show match(Rc.rec Rc.bad (fun t h=>cLp m (cCode P draw call n nt x) t h) (fun t h=>Rc.ret t h) (fun i t h=>Rc.exit i t h) (cCode P draw call n nt x t h):Rc)with
     | .bad=>_| .norm _ _=>_| .ret _ _=>_| .exit _ _ _=>_
    cases e:cCode P draw call n nt x t h with
    |bad=>exact trivial
    |ret t1 h1'=>rw[e]at h1;exact fun K=>h1 K
    |exit i t1 h1'=>rw[e]at h1;exact fun K=>h1 K
    |norm t1 h1'=>
     rw[e]at h1
     show match cLp m (cCode P draw call n nt x) t1 h1' with| .bad=>_| .norm _ _=>_| .ret _ _=>_| .exit _ _ _=>_
     cases e2:cLp m (cCode P draw call n nt x) t1 h1' with
     |bad=>exact trivial
     |norm t2 h2=>
      intro K
      refine h1 fun g1 w1 a1 E1 H1 T1 D1=>?_
      have:=ih g1 w1 t1 h1' a1 H1 T1 D1
      rw[e2]at this
      exact this (Post.then E1 K)
     |ret t2 h2=>
      intro K
      refine h1 fun g1 w1 a1 E1 H1 T1 D1=>?_
      have:=ih g1 w1 t1 h1' a1 H1 T1 D1
      rw[e2]at this
      exact this (Post.then E1 K)
     |exit i t2 h2=>
      intro K
      refine h1 fun g1 w1 a1 E1 H1 T1 D1=>?_
      have:=ih g1 w1 t1 h1' a1 H1 T1 D1
      rw[e2]at this
      exact this (Post.then E1 K)
  have:=key n g w t h a H T D
  cases e:cLp n (cCode P draw call n nt x) t h<;>rw[e]at this
  ·exact trivial
  all_goals exact fun K=>wp_loop_rounds n (this K)
 |rangeFunc f ps x y _ _=>exact cd_bad
 |exit i=>
  intro g w t h a Q H T D K
  exact wp_exit (K g w a (Ext.refl _ _ _) H T D)
 |scope x _=>exact cd_bad
 |label l=>exact cd_bad
 |goto l=>exact cd_bad
 |ret=>
  intro g w t h a Q H T D K
  exact wp_ret (K g w a (Ext.refl _ _ _) H T D)
 |refuse s=>exact cd_bad
end
end Go.Ab

noncomputable section
namespace Go.Ab
variable [Io]
section
variable {P:Program}
def cRV(P:Program)(nt:Nat):ResultVar->Option RV
 | .tmp i=>ifb (Nat.blt i nt) (some (.tmp i)) none
 | .cell i T=>match P.underlying T with
  |some d=>match P.info? T with
   |some ti=>ifb (Nat.blt i nt) (some (.cell i ti.size (isAggD d))) none
   |none=>none
  |none=>none
def cRVs(P:Program)(nt:Nat)(l:List ResultVar):Option (List RV):=
 List.rec (some []) (fun r _ ih=>match cRV P nt r with
  |some v=>match ih with
   |some vs=>some (v::vs)
   |none=>none
  |none=>none) l
def resSem(tmps:Array Value):ResultVar->Sem Value
 | .tmp t=>pure (tmps.getD t undef)
 | .cell a t=>do loadVar t (<-asAddr (tmps.getD a undef))
theorem resV_ok{g w nt t h}{tmps:Array Value}(H:HR g w h)(T:TR g w nt t tmps){r:ResultVar}{rv:RV}{v:AV}(hr:cRV P nt r=some rv)(e:resV t h rv=some v):
 ∃ x,(resSem tmps r).run P w=.ok x w/\VR g w v x:=by
 cases r with
 |tmp i=>
  change ifb (Nat.blt i nt) (some (RV.tmp i)) none=some rv at hr
  cases hb:Nat.blt i nt with
  |false=>rw[hb]at hr;cases hr
  |true=>
   rw[hb]at hr
   cases hr
   exact⟨_,rfl,(T.2.2 i v (by have:=T.1;have:=blt_iff.1 hb;omega) e).2⟩
 |cell i ty=>
  unfold cRV at hr
  cases hd:P.underlying ty with
  |none=>simp only[hd]at hr;cases hr
  |some d=>
  simp only[hd]at hr
  cases hi:P.info? ty with
  |none=>simp only[hi]at hr;cases hr
  |some ti=>
  simp only[hi]at hr
  cases hb:Nat.blt i nt with
  |false=>rw[hb]at hr;cases hr
  |true=>
   rw[hb]at hr
   cases hr
   have hin: @LT.lt Nat _ i 512:=by have:=T.1;have:=blt_iff.1 hb;omega
   change (match t.at i with|some a=>aLoad h ti.size (isAggD d) a|none=>none)=some v at e
   split at e
   ·rename_i a ha
    have hv:=(T.2.2 i a hin ha).2
    unfold aLoad at e
    split at e
    ·rename_i id off
     split at e
     ·rename_i cs hg
      simp only[VR]at hv
      obtain⟨b,s,hm,hv⟩:=hv
      obtain⟨C,el,vs,hw,_,hvs,hc⟩:=H.row hg hm
      obtain⟨z,hz,hr⟩:=run_loadVar hd hi hvs (cellsAt_row hw hc) (partR_part e)
      exact⟨z,by simp only[resSem,hv,asAddr,Sem.run_bind,Sem.run_pure,Result.andThen_ok,hz],hr⟩
     ·cases e
    ·rename_i cs
     simp only[VR]at hv
     obtain⟨b,s,vs,hv,_,hc,hvs⟩:=hv
     obtain⟨z,hz,hr⟩:=run_loadVar hd hi hvs hc e
     rw[Nat.add_zero]at hz
     exact⟨z,by simp only[resSem,hv,asAddr,Sem.run_bind,Sem.run_pure,Result.andThen_ok,hz],hr⟩
    ·cases e
   ·cases e
theorem resVs_ok{g w nt t h}{tmps:Array Value}(H:HR g w h)(T:TR g w nt t tmps): ∀ (l:List ResultVar) {rvs:List RV} {vs:List AV},cRVs P nt l=some rvs->resVs t h rvs=some vs->
 ∃ xs,(l.mapM (resSem tmps)).run P w=.ok xs w/\VRs g w vs xs
 | [],rvs,vs,h1,h2=>by
  cases h1
  cases h2
  exact⟨[],by simp,by simp[VRs]⟩
 |r::l,rvs,vs,h1,h2=>by
  change (match cRV P nt r with|some v=>(match cRVs P nt l with|some vs=>some (v::vs)|none=>none)|none=>none)=some rvs at h1
  split at h1
  ·rename_i rv hrv
   split at h1
   ·rename_i rl hrl
    cases h1
    change (match resV t h rv with|some v=>(match resVs t h rl with|some vs=>some (v::vs)|none=>none)|none=>none)=some vs at h2
    split at h2
    ·rename_i v hv
     split at h2
     ·rename_i us hu
      cases h2
      obtain⟨x,hx,hxv⟩:=resV_ok H T hrv hv
      obtain⟨xs,hxs,hxsv⟩:=resVs_ok H T l hrl hu
      refine⟨x::xs,?_,by simp only[VRs];exact⟨x,xs,rfl,hxv,hxsv⟩⟩
      simp only[List.mapM_cons,Sem.run_bind,hx,hxs,Result.andThen_ok,Sem.run_pure]
     ·cases h2
    ·cases h2
   ·cases h1
  ·cases h1
theorem fin_ok{g w nt t h}{tmps:Array Value}{F:Func}{rvs:List RV}{v:AV}{h':Hp}(H:HR g w h)(T:TR g w nt t tmps)(hr:cRVs P nt F.results.toList=some rvs)(e:fin rvs t h=.ok v h'):
 h'=h/\ ∃ x,(results F tmps).run P w=.ok x w/\VR g w v x:=by
 have key: ∀ vs,resVs t h rvs=some vs-> ∃ xs:List Value,(results F tmps).run P w=.ok (if h:xs.toArray.size=1 then xs.toArray[0]else .tuple xs.toArray) w/\VRs g w vs xs:=by
  intro vs hvs
  obtain⟨xs,hxs,hv⟩:=resVs_ok H T F.results.toList hr hvs
  refine⟨xs,?_,hv⟩
  show((F.results.mapM (resSem tmps)>>=fun vs=>(pure (if h:vs.size=1 then vs[0]else .tuple vs):Sem Value))).run P w=_
  rw[Array.mapM_eq_mapM_toList]
  simp only[Sem.run_bind,Sem.run_map,hxs,Result.andThen_ok,Sem.run_pure]
 unfold fin at e
 split at e
 ·rename_i v1 hvs
  cases e
  obtain⟨xs,hx,hv⟩:=key _ hvs
  simp only[VRs]at hv
  obtain⟨x,l',rfl,hxv,rfl⟩:=hv
  exact⟨rfl,x,by rw[hx];rfl,hxv⟩
 ·rename_i vs hne hvs
  cases e
  obtain⟨xs,hx,hv⟩:=key _ hvs
  refine⟨rfl,.tuple xs.toArray,?_,by simp only[VR];exact⟨_,rfl,hv⟩⟩
  rw[hx,dif_neg]
  intro h1
  have hl:=hv.length
  have:vs.length=1:=by simpa[<-hl]using h1
  match vs,this with
  | [a],_=>exact hne a rfl
 ·cases e
def DrawOk(P:Program)(draw:CallF->Nat->Array Oper->RgF):Prop:=
 ∀ call nt,CallOk P call-> ∀ id ops,RgOk P nt (.region id ops true) (draw call nt ops)
structure FbOk(P:Program)(draw:CallF->Nat->Array Oper->RgF)(f:FuncId)(b:Fb):Prop where
 ex: ∃ F c,P.funcs[f]? =some F/\F.body=some c/\b.ntmps=F.ntmps/\b.ntmps<=512/\cRVs P b.ntmps F.results.toList=some b.res/\b.body=fun call n=>cCode P (draw call b.ntmps) call n b.ntmps c
 enter: ∀ as w,(callFunc f as).run P w=.ok (.enter f as) w
theorem enter_ok{g w}: ∀ (l:List AV) (vs:List Value) (i nt:Nat) (t:Tm) (tmps:Array Value),VRs g w l vs->i+l.length<=nt->TR g w nt t tmps->
 (∀ j v,vs[j]? =some v->tmps[i+j]? =some v)->TR g w nt (enterT l i t) tmps
 | [],vs,i,nt,t,tmps,h,hl,T,hj=>T
 |a::l,vs,i,nt,t,tmps,h,hl,T,hj=>by
  simp only[VRs]at h
  obtain⟨v,l',rfl,hv,h⟩:=h
  simp only[List.length_cons]at hl
  have h0:tmps[i]? =some v:=by simpa using hj 0 v rfl
  have hi:i<tmps.size:=(Array.getElem?_eq_some_iff.1 h0).1
  have hset:tmps.setIfInBounds i v=tmps:=by
   apply Array.ext
   ·simp
   ·intro k h1 h2
    rw[Array.getElem_setIfInBounds]
    split
    ·rename_i e
     subst e
     exact(Option.some.inj ((Array.getElem?_eq_getElem hi).symm.trans h0)).symm
    ·rfl
  have T':=T.put (d:=i) (by omega) hv
  rw[hset]at T'
  exact enter_ok l l' (i+1) nt _ tmps h (by omega) T' (fun j u e=>by
   have:=hj (j+1) u (by simpa using e)
   rwa [show i+1+j=i+(j+1) by omega])
theorem aCall_ok{draw:CallF->Nat->Array Oper->RgF}(hd:DrawOk P draw){fn:FuncId->Option Fb}(hf: ∀ f b,fn f=some b->FbOk P draw f b)(n:Nat): ∀ d,CallOk P (aCall fn n d):=by
 intro d
 induction d with
 |zero=>intro f args h v h' e;cases e
 |succ d ih=>
  intro f args h v h' e
  change (match fn f with
   |none=>Ro.bad
   |some b=>ifb (Nat.ble (len args) b.ntmps) (match b.body (aCall fn n d) n (enterT args 0 Tm.none) h with| .norm t h=>fin b.res t h| .ret t h=>fin b.res t h| _=>.bad) .bad)=.ok v h' at e
  cases hb:fn f with
  |none=>rw[hb]at e;cases e
  |some b=>
  rw[hb]at e
  simp only at e
  cases hle:Nat.ble (len args) b.ntmps with
  |false=>rw[hle]at e;cases e
  |true=>
  rw[hle]at e
  change (match b.body (aCall fn n d) n (enterT args 0 Tm.none) h with| .norm t h=>fin b.res t h| .ret t h=>fin b.res t h| _=>.bad)=Ro.ok v h' at e
  rw[len_eq]at hle
  have hle':args.length<=b.ntmps:=Nat.ble_eq.mp hle
  have F0:=hf f b hb
  obtain⟨F,c,hF,hc,hnt,h512,hres,hbody⟩:=F0.ex
  refine⟨F0.enter,fun g w vs H hv=>?_⟩
  rw[hbody]at e
  have hcode:=code_ok ih (draw:=draw (aCall fn n d) b.ntmps) (nt:=b.ntmps) (fun id ops=>hd _ _ ih id ops) n c
  have hvl:=hv.length
  have hsize:(vs.toArray++Array.replicate (F.ntmps - vs.toArray.size) undef).size=b.ntmps:=by simp;omega
  have hT0:TR g w b.ntmps Tm.none (vs.toArray++Array.replicate (F.ntmps - vs.toArray.size) undef):=
   ⟨h512,hsize,fun i v hi e=>by rw[Tm.at_none i hi]at e;cases e⟩
  have hT:=enter_ok args vs 0 b.ntmps Tm.none _ hv (by omega) hT0 (fun j v e=>by
   rw[Array.getElem?_append_left (by have:=(List.getElem?_eq_some_iff.1 e).1;simpa using this)]
   simpa using e)
  refine calls_of_wp hF hc ?_
  have:=hcode g w _ h {tmps:=vs.toArray++Array.replicate (F.ntmps - vs.toArray.size) undef,defers:=[]}
   (bodyPost P F (fun e w'=> ∃ x g',e=.returned x/\Ext g w h g' w' h'/\HR g' w' h'/\VR g' w' v x)) H hT rfl
  have fin': ∀ t1 h1,fin b.res t1 h1=.ok v h'-> ∀ g' w' (a':Act),Ext g w h g' w' h1->HR g' w' h1->TR g' w' b.ntmps t1 a'.tmps->a'.defers=[]->
   a'.defers=[]/\ ∃ x,(results F a'.tmps).run P w'=.ok x w'/\ ∃ y g',Ending.returned x=.returned y/\Ext g w h g' w' h'/\HR g' w' h'/\VR g' w' v y:=by
   intro t1 h1 hfin g' w' a' E' H' T' D'
   obtain⟨rfl,x,hx,hxv⟩:=fin_ok H' T' hres hfin
   exact⟨D',x,hx,x,g',rfl,E',H',hxv⟩
  simp only at e
  cases hr:cCode P (draw (aCall fn n d) b.ntmps) (aCall fn n d) n b.ntmps c (enterT args 0 Tm.none) h with
  |bad=>rw[hr]at e;cases e
  |norm t1 h1=>rw[hr]at e this;exact this (fin' t1 h1 e)
  |ret t1 h1=>rw[hr]at e this;exact this (fin' t1 h1 e)
  |exit i t1 h1=>rw[hr]at e;cases e
end
end Go.Ab

noncomputable section
namespace Go.Ab
variable [Io]
def LinE(ops:Array Oper):List Nat->List Nat->Prop
 |D,[]=> ∀ i,i<ops.size->i∈D
 |D,i::s=>i<ops.size/\i∉D/\(∀ o e,ops[i]? =some o->e∈o.after->Region.binds .any e=true->e.on∈D)/\LinE ops (i::D) s
omit [Io] in
theorem filter_one{p:Nat->Bool}: ∀ (l:List Nat) (i:Nat),l.Nodup->i∈l->p i=true->(l.filter fun x=>p x&&x != i).length+1=(l.filter p).length
 | [],i,_,h,_=>by cases h
 |a::l,i,hn,h,hp=>by
  rw[List.nodup_cons]at hn
  by_cases ha:a=i
  ·subst ha
   have:(l.filter fun x=>p x&&x != a)=l.filter p:=by
    apply List.filter_congr
    intro x hx
    have:x≠a:=fun e=>hn.1 (e▸hx)
    simp[this]
   simp[List.filter_cons,hp,this]
  ·have hi:i∈l:=by
    cases h with
    |head=>exact absurd rfl ha
    |tail _ h=>exact h
   have:=filter_one l i hn.2 hi hp
   by_cases hpa:p a=true
   ·simp only[List.filter_cons,hpa,Bool.true_and,bne_iff_ne,ne_eq,ha,not_false_eq_true,decide_true,if_true,List.length_cons]
    omega
   ·simp only[List.filter_cons,hpa,Bool.false_and,Bool.false_eq_true,if_false]
    exact this
omit [Io] in
theorem least{p:Nat->Prop}: ∀ (n:Nat),p n-> ∃ m,p m/\ ∀ k,k<m-> ¬ p k:=by
 intro n
 induction n using Nat.strongRecOn with
 | _ n ih=>
  intro h
  by_cases hk: ∃ k,k<n/\p k
  ·obtain⟨k,hk,hp⟩:=hk
   exact ih k hk hp
  ·exact⟨n,h,fun k hkn hp=>hk ⟨k,hkn,hp⟩⟩
def Down(ops:Array Oper):Prop:= ∀ (i:Nat) (o:Oper) (e:Edge),ops[i]? =some o->e∈o.after->Region.binds .any e=true->e.on<i
omit [Io] in
theorem go_lin{ops:Array Oper}(hd:Down ops): ∀ (fuel t:Nat) (listed:Array Bool) (acc D:List Nat),listed.size=ops.size->(∀ i,i<ops.size->(listed.getD i false=true↔i∈D))->
 ((List.range ops.size).filter fun i=> !listed.getD i false).length=fuel-> ∃ s,Region.linearise.go .any ops fuel t listed acc=acc.reverse++s/\LinE ops D s
 |0,t,listed,acc,D,hs,hD,hc=>by
  refine⟨[],by simp[Region.linearise.go],fun i hi=>?_⟩
  have he:((List.range ops.size).filter fun i=> !listed.getD i false)=[]:=List.eq_nil_of_length_eq_zero hc
  rw[List.filter_eq_nil_iff]at he
  have:=he i (by simpa using hi)
  exact(hD i hi).1 (by simpa using this)
 |fuel+1,t,listed,acc,D,hs,hD,hc=>by
  have hgd: ∀ i,i<ops.size->listed.getD i true=listed.getD i false:=by
   intro i hi
   rw[Array.getD_eq_getD_getElem?,Array.getD_eq_getD_getElem?,Array.getElem?_eq_getElem (by omega)]
   rfl
  obtain⟨rs,hrs⟩: ∃ rs,rs=(List.range ops.size).filter (fun i=> !listed.getD i true&&((ops[i]?).map (·.after.all fun e=> !Region.binds .any e||listed.getD e.on false)).getD false):=⟨_,rfl⟩
  have hmem: ∀ i,i∈rs↔i<ops.size/\i∉D/\ ∀ o e,ops[i]? =some o->e∈o.after->Region.binds .any e=true->e.on∈D:=by
   intro i
   rw[hrs,List.mem_filter,List.mem_range]
   constructor
   ·rintro⟨hi,h⟩
    simp only[Bool.and_eq_true,Bool.not_eq_true',hgd i hi]at h
    refine⟨hi,fun h2=>by rw[(hD i hi).2 h2]at h;exact absurd h.1 (by simp),?_⟩
    intro o e ho he hb
    rw[ho]at h
    simp only[Option.map_some,Option.getD_some,Array.all_eq_true_iff_forall_mem]at h
    have:=h.2 e he
    rw[hb]at this
    simp only[Bool.not_true,Bool.false_or]at this
    have hlt:e.on<ops.size:=by
     have:=hd i o e ho he hb;omega
    exact(hD _ hlt).1 this
   ·rintro⟨hi,h1,h2⟩
    refine⟨hi,?_⟩
    have ho:ops[i]? =some ops[i]:=Array.getElem?_eq_getElem hi
    have hf:listed.getD i false=false:=by
     rw[Bool.eq_false_iff]
     exact fun k=>h1 ((hD i hi).1 k)
    simp only[hgd i hi,hf,ho,Bool.not_false,Bool.true_and,Option.map_some,Option.getD_some,Array.all_eq_true_iff_forall_mem]
    intro e he
    cases hb:Region.binds .any e with
    |false=>rfl
    |true=>
     have hlt:e.on<ops.size:=by have:=hd i _ e ho he hb;omega
     simp only[Bool.not_true,Bool.false_or]
     exact(hD _ hlt).2 (h2 _ e ho he hb)
  have hne:rs≠[]:=by
   have:((List.range ops.size).filter fun i=> !listed.getD i false)≠[]:=by
    intro h;rw[h]at hc;cases hc
   obtain⟨x,hx⟩:=List.exists_mem_of_ne_nil _ this
   rw[List.mem_filter,List.mem_range]at hx
   obtain⟨m,⟨hm1,hm2⟩,hm3⟩:=least (p:=fun i=>i<ops.size/\i∉D) x ⟨hx.1,fun k=>by
    have:=(hD x hx.1).2 k
    rw[this]at hx;exact absurd hx.2 (by simp)⟩
   have:m∈rs:=by
    rw[hmem]
    refine⟨hm1,hm2,fun o e ho he hb=>?_⟩
    have hlt:=hd m o e ho he hb
    exact Classical.byContradiction fun k=>hm3 _ hlt ⟨by omega,k⟩
   intro h;rw[h]at this;cases this
  have hlen:0<rs.length:=List.length_pos_iff.2 hne
  have hlt:=Nat.mod_lt t hlen
  have hget:rs[t % rs.length]? =some rs[t % rs.length]:=List.getElem?_eq_getElem hlt
  obtain⟨i,hi⟩: ∃ i,i=rs[t % rs.length]:=⟨_,rfl⟩
  have him:i∈rs:=by rw[hi];exact List.getElem_mem hlt
  obtain⟨hi1,hi2,hi3⟩:=(hmem i).1 him
  have hl: ∀ j,j<ops.size->(listed.setIfInBounds i true).getD j false=(listed.getD j false||j == i):=by
   intro j hj
   rw[Array.getD_eq_getD_getElem?,Array.getD_eq_getD_getElem?]
   by_cases hji:j=i
   ·subst hji
    rw[Array.getElem?_setIfInBounds_self_of_lt (by omega)]
    simp
   ·rw[Array.getElem?_setIfInBounds_ne (by omega)]
    simp[hji]
  obtain⟨s,hs1,hs2⟩:=go_lin hd fuel (t / rs.length) (listed.setIfInBounds i true) (i::acc) (i::D) (by simpa using hs)
   (fun j hj=>by
    rw[hl j hj]
    simp only[Bool.or_eq_true,beq_iff_eq,List.mem_cons,hD j hj]
    exact Or.comm)
   (by
    have hnd:(List.range ops.size).Nodup:=List.nodup_range
    have hlf:listed.getD i false=false:=by rw[Bool.eq_false_iff];exact fun k=>hi2 ((hD i hi1).1 k)
    have h1:=filter_one (p:=fun i=> !listed.getD i false) (List.range ops.size) i hnd (by simpa using hi1) (by simp only[hlf];rfl)
    have h2:((List.range ops.size).filter fun j=> !(listed.setIfInBounds i true).getD j false)=(List.range ops.size).filter fun x=>(!listed.getD x false)&&x != i:=by
     apply List.filter_congr
     intro x hx
     rw[hl x (by simpa using hx)]
     cases listed.getD x false<;>simp[bne]
    rw[h2]
    omega)
  refine⟨i::s,?_,hi1,hi2,hi3,hs2⟩
  rw[Region.linearise.go]
  simp only[<-hrs,hget,<-hi,hs1,List.reverse_cons,List.append_assoc,List.singleton_append]
omit [Io] in
theorem schedule_lin{ops:Array Oper}(hd:Down ops)(t:Nat):LinE ops [] (Region.schedule true ops t):=by
 have hsize: ∀ i,i<ops.size->(Array.replicate ops.size false).getD i false=false:=by
  intro i hi
  rw[Array.getD_eq_getD_getElem?]
  simp[hi]
 obtain⟨s,h1,h2⟩:=go_lin hd ops.size t (Array.replicate ops.size false) [] [] (by simp) (fun i hi=>by rw[hsize i hi];simp) (by
  have:((List.range ops.size).filter fun i=> !(Array.replicate ops.size false).getD i false)=List.range ops.size:=by
   rw[List.filter_eq_self]
   intro i hi
   rw[hsize i (by simpa using hi)];rfl
  rw[this];simp)
 have:Region.schedule true ops t=s:=by
  simp only[Region.schedule,Bool.true_or,if_true,Region.linearise]
  rw[h1];simp
 rw[this]
 exact h2
def maskOf(acc:List Nat)(es:List Edge):Nat:=
 List.rec 0 (fun e _ ih=>ifb (Region.binds .any e) (Nat.lor (Nat.lor (Nat.pow 2 e.on) ((getN acc e.on).getD 0)) ih) ih) es
def masks(l:List Oper):List Nat->List Nat:=
 List.rec (fun acc=>acc) (fun o _ ih acc=>ih (app acc [maskOf acc o.after.toList])) l
omit [Io] in
theorem maskOf_bit{acc:List Nat}{k:Nat}: ∀ {es:List Edge},(maskOf acc es).testBit k=true-> ∃ e∈es,Region.binds .any e=true/\(e.on=k∨(acc.getD e.on 0).testBit k=true)
 | [],h=>by simp[maskOf]at h
 |e::es,h=>by
  change (ifb (Region.binds .any e) (Nat.lor (Nat.lor (Nat.pow 2 e.on) ((getN acc e.on).getD 0)) (maskOf acc es)) (maskOf acc es)).testBit k=true at h
  cases hb:Region.binds .any e with
  |false=>
   rw[hb]at h
   obtain⟨e',he,h'⟩:=maskOf_bit (es:=es) h
   exact⟨e',List.mem_cons_of_mem _ he,h'⟩
  |true=>
   rw[hb]at h
   change ((2 ^ e.on ||| (getN acc e.on).getD 0) ||| maskOf acc es).testBit k=true at h
   rw[Nat.testBit_or,Nat.testBit_or,Nat.testBit_two_pow,Bool.or_eq_true,Bool.or_eq_true,getN_eq]at h
   rcases h with(h|h)|h
   ·exact⟨e,List.mem_cons_self,hb,.inl (by simpa using h)⟩
   ·exact⟨e,List.mem_cons_self,hb,.inr (by simpa[List.getD]using h)⟩
   ·obtain⟨e',he,h'⟩:=maskOf_bit (es:=es) h
    exact⟨e',List.mem_cons_of_mem _ he,h'⟩
omit [Io] in
theorem masks_spec: ∀ (l:List Oper) (acc:List Nat),(masks l acc).length=acc.length+l.length/\(∀ k,k<acc.length->(masks l acc)[k]? =acc[k]?)/\
 ∀ i o k,l[i]? =some o->((masks l acc).getD (acc.length+i) 0).testBit k=true-> ∃ e∈o.after.toList,Region.binds .any e=true/\(e.on=k∨((masks l acc).getD e.on 0).testBit k=true)
 | [],acc=>⟨by simp[masks],fun k _=>rfl,fun i o k h=>by simp at h⟩
 |o::l,acc=>by
  have hm:masks (o::l) acc=masks l (acc++[maskOf acc o.after.toList]):=by
   show masks l (app acc _)=_
   rw[app_eq]
  obtain⟨h1,h2,h3⟩:=masks_spec l (acc++[maskOf acc o.after.toList])
  rw[<-hm]at h1 h2 h3
  refine⟨by rw[h1];simp;omega,fun k hk=>?_,?_⟩
  ·rw[h2 k (by simp;omega),List.getElem?_append_left hk]
  ·intro i o' k hi hk
   cases i with
   |zero=>
    simp at hi
    subst hi
    have hself:(masks (o::l) acc)[acc.length]? =some (maskOf acc o.after.toList):=by
     rw[h2 acc.length (by simp)];simp
    simp only[Nat.add_zero,List.getD,hself,Option.getD_some]at hk
    obtain⟨e,he,hb,hor⟩:=maskOf_bit hk
    refine⟨e,he,hb,hor.imp id fun h=>?_⟩
    by_cases hlt:e.on<acc.length
    ·simp only[List.getD]at h ⊢
     rw[h2 _ (by simp;omega),List.getElem?_append_left hlt];exact h
    ·simp only[List.getD,List.getElem?_eq_none (Nat.le_of_not_lt hlt)]at h
     simp at h
   |succ i=>
    have:=h3 i o' k (by simpa using hi) (by
     simp only[List.length_append,List.length_cons,List.length_nil,Nat.zero_add]
     rw[show acc.length+1+i=acc.length+(i+1) by omega];exact hk)
    exact this
def anc(ops:List Oper)(i k:Nat):Bool:=((masks ops []).getD i 0).testBit k
def Closed(ops:List Oper)(D:List Nat):Prop:= ∀ j∈D,∀ k,anc ops j k=true->k∈D
omit [Io] in
theorem closed_next{ops:Array Oper}{D:List Nat}(hc:Closed ops.toList D){i:Nat}{o:Oper}(ho:ops[i]? =some o)
 (h: ∀ o e,ops[i]? =some o->e∈o.after->Region.binds .any e=true->e.on∈D):(∀ k,anc ops.toList i k=true->k∈D)/\Closed ops.toList (i::D):=by
 have h1: ∀ k,anc ops.toList i k=true->k∈D:=by
  intro k hk
  obtain⟨_,_,h3⟩:=masks_spec ops.toList []
  obtain⟨e,he,hb,hor⟩:=h3 i o k (by simpa using ho) (by simpa[anc]using hk)
  have hin:=h o e ho (by simpa using he) hb
  rcases hor with rfl|hor
  ·exact hin
  ·exact hc _ hin k (by simpa[anc]using hor)
 refine⟨h1,fun j hj k hk=>?_⟩
 cases hj with
 |head=>exact List.mem_cons_of_mem _ (h1 k hk)
 |tail _ hj=>exact List.mem_cons_of_mem _ (hc j hj k hk)
end Go.Ab
