import Derived.Test.YtcnkojgmochcgaaGreatDoorAb7
import Derived.Laws.StructEq
import Derived.LoopN
noncomputable section
namespace Go.Ab
variable [Io]
section
variable {P:Program}
def scalars(P:Program)(n:Nat)(l:List Field):Option (List Bool):=
 List.rec (fun _=>some []) (fun f _ ih n=>bif Nat.beq f.offset n&& !(decide (f.name= "_"))then
  (match P.info? f.type with
  |some i=>bif Nat.beq i.size 1 then
   (match P.underlying f.type with
   |some (.int _)=>(match ih (Nat.add n 1)with|some r=>some (true::r)|none=>none)
   |some .bool=>(match ih (Nat.add n 1)with|some r=>some (false::r)|none=>none)
   | _=>none)else none
  |none=>none)else none) l n
theorem Sw{i:Bool}{x y:AV}{c:Bool}(h:V1 i x y=some c){g:G}{w:World}{u v:Value}(hx:VR g w x u)(hy:VR g w y v){T:TypeId}{d:Nat}
 (hT:(i=true/\ ∃ k,P.underlying T=some (.int k))∨(i=false/\P.underlying T=some .bool)):(Op.equalIn (d+1) T u v).run P w=.ok c w:=by
 rcases hT with⟨rfl,k,hT⟩|⟨rfl,hT⟩
 ·change (match(generalizing:=false) x,y with| .int k a,.int k' b=>bif ka k k' then some (eqI a b)else none| _,_=>QC x y)=some c at h
  split at h
  ·rename_i k1 a k2 b
   cases e:ka k1 k2 with
   |false=>rw[e]at h;cases h
   |true=>
    rw[e]at h
    cases h
    obtain rfl:=eY.1 e
    simp only[VR]at hx hy
    subst hx;subst hy
    rw[run_equalIn_int w d T k1 k a b hT,sJ]
  ·obtain⟨k1,m,n,rfl,rfl,rfl⟩:=Su h hx hy
   rw[run_equalIn_int w d T k1 k m n hT]
   congr 1
 ·change (match(generalizing:=false) x,y with| .bool a,.bool b=>some (!(xor a b))| _,_=>none)=some c at h
  split at h
  ·rename_i a b
   cases h
   simp only[VR]at hx hy
   subst hx;subst hy
   rw[run_equalIn_bool' w d T a b hT]
   cases a<;>cases b<;>rfl
  ·cases h
omit [Io] in
theorem zT{T:TypeId}{td:TypeDesc}{i:TypeInfo}{vs:Array Value}{n:Nat}{v:Value}{w:World}(hd:P.underlying T=some td)(ha:jh td=false)(hv:vs[n]? =some v):
 (Go.part T vs n).run P w=.ok v w:=by
 unfold Go.part
 simp only[Sem.run_bind,na hd,ha,Result.andThen_ok]
 simp[hv]
theorem tB{g:G}{w:World}(d:Nat): ∀ (fs:List Field) (n:Nat) (l:List Bool) (xs ys:List AV) (us vs:Array Value) (c:Bool),scalars P n fs=some l->zA l xs ys=some c->
 bQ g w xs (us.toList.drop n)->bQ g w ys (vs.toList.drop n)->(Op.eqFields (d+1) us vs fs).run P w=.ok c w
 | [],n,l,xs,ys,us,vs,c,hs,e,hx,hy=>by
  cases hs
  cases e
  simp[Op.eqFields]
 |f::fs,n,l,xs,ys,us,vs,c,hs,e,hx,hy=>by
  change (bif Nat.beq f.offset n&& !(decide (f.name= "_"))then
   (match P.info? f.type with
   |some i=>bif Nat.beq i.size 1 then
    (match P.underlying f.type with
    |some (.int _)=>(match scalars P (n+1) fs with|some r=>some (true::r)|none=>none)
    |some .bool=>(match scalars P (n+1) fs with|some r=>some (false::r)|none=>none)
    | _=>none)else none
   |none=>none)else none)=some l at hs
  replace hs:=cD hs
  obtain⟨h0,hs⟩:=hs
  rw[Bool.and_eq_true]at h0
  have W5:f.offset=n:=Nat.eq_of_beq_eq_true h0.1
  have W6:f.name≠ "_" :=by simpa using h0.2
  split at hs
  ·replace hs:=cD hs
   obtain⟨_,hs⟩:=hs
   have key: ∀ (i:Bool) (r:List Bool) (td:TypeDesc),P.underlying f.type=some td->jh td=false->scalars P (n+1) fs=some r->l=i::r->
    ((i=true/\ ∃ k,P.underlying f.type=some (.int k))∨(i=false/\P.underlying f.type=some .bool))->(Op.eqFields (d+1) us vs (f::fs)).run P w=.ok c w:=by
    intro i r td htd W7 hr hl hT
    subst hl
    change (match(generalizing:=false) xs with
     | []=>none
     |x::xs=>match(generalizing:=false) ys with
      | []=>none
      |y::ys=>match V1 i x y with
       |none=>none
       |some c=>(Bool.rec (some false) (zA r xs ys) c:Option Bool))=some c at e
    cases xs with
    |nil=>cases e
    |cons x xs=>
    cases ys with
    |nil=>cases e
    |cons y ys=>
    simp only at e
    cases h1:V1 i x y with
    |none=>rw[h1]at e;cases e
    |some c1=>
    rw[h1]at e
    simp only[bQ]at hx hy
    obtain⟨u,us',hu,hxu,Sx⟩:=hx
    obtain⟨v,WN,hv,W8,W9⟩:=hy
    have hu0:us[n]? =some u:=by
     have:(us.toList.drop n)[0]? =some u:=by rw[hu];rfl
     simpa using this
    have hv0:vs[n]? =some v:=by
     have:(vs.toList.drop n)[0]? =some v:=by rw[hv];rfl
     simpa using this
    have hu1:us.toList.drop (n+1)=us':=by rw[<-List.drop_drop,hu];rfl
    have Xa:vs.toList.drop (n+1)=WN:=by rw[<-List.drop_drop,hv];rfl
    have pu:(Go.part f.type us f.offset).run P w=.ok u w:=by rw[W5];exact zT (i:=default) htd W7 hu0
    have pv:(Go.part f.type vs f.offset).run P w=.ok v w:=by rw[W5];exact zT (i:=default) htd W7 hv0
    simp only[Op.eqFields,if_pos W6,Sem.run_bind,pu,pv,Result.andThen_ok,Sw (P:=P) (d:=d) h1 hxu W8 hT]
    cases c1 with
    |false=>cases e;simp
    |true=>
     simp only[Bool.not_true,Bool.false_eq_true,if_false]
     exact tB d fs (n+1) r xs ys us vs c hr e (by rw[hu1];exact Sx) (by rw[Xa];exact W9)
   split at hs
   ·rename_i k hT
    split at hs
    ·rename_i r hr;cases hs;exact key true r _ hT rfl hr rfl (.inl ⟨rfl,_,hT⟩)
    ·cases hs
   ·rename_i hT
    split at hs
    ·rename_i r hr;cases hs;exact key false r _ hT rfl hr rfl (.inr ⟨rfl,hT⟩)
    ·cases hs
   ·cases hs
  ·cases hs
omit [Io] in
theorem xi{neg:Bool}{l:List Bool}{x y r:AV}(h:BS neg l x y=some r): ∃ xs ys c,x=.agg xs/\y=.agg ys/\zA l xs ys=some c/\r=.bool (bif neg then !c else c):=by
 unfold BS at h
 split at h
 ·rename_i xs
  split at h
  ·rename_i ys
   split at h
   ·rename_i c hc
    cases h
    exact⟨xs,ys,c,rfl,rfl,hc,rfl⟩
   ·cases h
  ·cases h
 ·cases h
theorem Dv{T:TypeId}{fs:Array Field}{l:List Bool}(hT:P.underlying T=some (.struct fs))(hs:P.stoodInHeld T=false)(hl:scalars P 0 fs.toList=some l){g:G}{w:World}
 {xs ys:List AV}{c:Bool}(hc:zA l xs ys=some c){us vs:Array Value}(hx:bQ g w xs us.toList)(hy:bQ g w ys vs.toList):(Op.equalIn 10000 T (.agg us) (.agg vs)).run P w=.ok c w:=by
 have hf:P.fieldsOf T=fs:=by unfold Program.fieldsOf;rw[hT]
 refine(run_equalIn_struct w 9999 T us vs (by rw[hf];exact hT) hs).trans ?_
 rw[hf]
 exact tB 9998 fs.toList 0 l xs ys us vs c hl hc (by simpa using hx) (by simpa using hy)
theorem My{T:TypeId}{fs:Array Field}{l:List Bool}(hT:P.underlying T=some (.struct fs))(hs:P.stoodInHeld T=false)(hg:P.eqGuardType P.depth T=false)(hl:scalars P 0 fs.toList=some l):
 dw P .eql T (BS false l):=by
 intro g w a b r u v ha hb h
 obtain⟨xs,ys,c,rfl,rfl,hc,rfl⟩:=xi h
 simp only[VR]at ha hb
 obtain⟨us,rfl,hx⟩:=ha
 obtain⟨vs,rfl,hy⟩:=hb
 refine⟨.bool c,?_,by simp only[VR];rfl,fun x y=>run_eqGuard_agg w .eql T x y us vs hg⟩
 rw[run_eql_struct,Dv hT hs hl hc hx hy]
 rfl
theorem Mz{T:TypeId}{fs:Array Field}{l:List Bool}(hT:P.underlying T=some (.struct fs))(hs:P.stoodInHeld T=false)(hg:P.eqGuardType P.depth T=false)(hl:scalars P 0 fs.toList=some l):
 dw P .neq T (BS true l):=by
 intro g w a b r u v ha hb h
 obtain⟨xs,ys,c,rfl,rfl,hc,rfl⟩:=xi h
 simp only[VR]at ha hb
 obtain⟨us,rfl,hx⟩:=ha
 obtain⟨vs,rfl,hy⟩:=hb
 refine⟨.bool (!c),?_,by simp only[VR];rfl,fun x y=>run_eqGuard_agg w .neq T x y us vs hg⟩
 rw[run_neq_struct,Dv hT hs hl hc hx hy]
 rfl
def Fv(P:Program)(neg:Bool)(T:TypeId):Option (AV->AV->Option AV):=match P.underlying T with
 |some (.struct fs)=>match P.stoodInHeld T with
  |false=>match P.eqGuardType P.depth T with
   |false=>match scalars P 0 fs.toList with
    |some l=>some (BS neg l)
    |none=>none
   |true=>none
  |true=>none
 | _=>none
theorem MA{T:TypeId}{f:AV->AV->Option AV}(h:Fv P false T=some f):dw P .eql T f:=by
 unfold Fv at h
 split at h
 ·rename_i fs hT
  split at h
  ·rename_i hs
   split at h
   ·rename_i hg
    split at h
    ·rename_i l hl
     cases h
     exact My hT hs hg hl
    ·cases h
   ·cases h
  ·cases h
 ·cases h
theorem MB{T:TypeId}{f:AV->AV->Option AV}(h:Fv P true T=some f):dw P .neq T f:=by
 unfold Fv at h
 split at h
 ·rename_i fs hT
  split at h
  ·rename_i hs
   split at h
   ·rename_i hg
    split at h
    ·rename_i l hl
     cases h
     exact Mz hT hs hg hl
    ·cases h
   ·cases h
  ·cases h
 ·cases h
end
end Go.Ab

noncomputable section
namespace Go.Ab
variable [Io]
section
variable {P:Program}{o:Oper}
omit [Io] in
theorem run_copy_none(w:World)(dT sT ty elem:TypeId)(i:TypeInfo)(hu:P.underlying dT=some (.slice elem))(hi:P.info? elem=some i)(d x:Option Addr)(Fw Sy dc eH:Nat)(hn:Nat.min dc Fw=0):
 (Builtin.copy_ #[dT,sT] ty #[.slice d Fw Sy,.slice x dc eH]).run P w=.ok (.int .i64 (Int.ofNat 0)) w:=by
 have hl: ∀ a:Addr,(loadCells a 0).run P w=.ok #[] w:=fun a=>run_loadCells_list (P:=P) w a [] (by simp)
 cases d<;>cases x<;>simp[Builtin.copy_,run_underlying hu,Builtin.lenOf,Builtin.firstCells,sizeOf,typeInfo,hi,hn,hl,storeCells,goInt]
omit [Io] in
theorem wH(w:World)(dT sT ty elem:TypeId)(i:TypeInfo)(hu:P.underlying dT=some (.slice elem))(hi:P.info? elem=some i)(g o Fw Sy:Nat)(a:Addr)(dc eH:Nat)(cur:Array Value)(t:FT cur)(cs:List Value)
 (hg:w.heap[g]? =some (.cells cur t.el t.fz))(hn:cs.length=Nat.min dc Fw*i.size)(Sz: ∀ j v,cs[j]? =some v->w.cell? (a.add j)=some v)(qx:o+cs.length<=cur.size)(h1: ∀ v∈cs,v.oneCell'=true):
 (Builtin.copy_ #[dT,sT] ty #[.slice (some ⟨g,o,none⟩) Fw Sy,.slice (some a) dc eH]).run P w=
  .ok (.int .i64 (Int.ofNat (Nat.min dc Fw))) (w.setRow g (cur.toList.take o++cs++cur.toList.drop (o+cs.length)).toArray):=by
 have hl:=run_loadCells_list (P:=P) w a cs Sz
 have qe:=eN P g o t.el t.fz cs 0 cur w hg t.ok (by simpa using qx) h1
 simp[Builtin.copy_,run_underlying hu,Builtin.lenOf,Builtin.firstCells,sizeOf,typeInfo,hi,<-hn,hl,qe,goInt]
def Dw(P:Program)(T:TypeId)(d s:Operand):eP:=match P.underlying T with
 |some (.slice e)=>match P.info? e with
  |some i=>jL i.size (wO (ba d)) (wO (ba s))
  |none=>cq
 | _=>cq
theorem Fx{T T':TypeId}{d s:Operand}(ho:o.op=.call {callee:=.builtin .copy,args:= #[d,s],argTypes:= #[T,T']}):lQ P o (Dw P T d s):=by
 intro g w nt t h a v h' H Tr e
 unfold Dw at e
 cases hu:P.underlying T with
 |none=>rw[hu]at e;cases e
 |some dd=>
 rw[hu]at e
 cases dd<;>try (cases e;done)
 rename_i el
 simp only at e
 cases hi:P.info? el with
 |none=>rw[hi]at e;cases e
 |some i=>
  rw[hi]at e
  change jL i.size (wO (ba d)) (wO (ba s)) t h=.ok v h' at e
  have hex: ∀ vd vs r w',a.eval d=vd->a.eval s=vs->(Builtin.copy_ #[T,T'] o.type #[vd,vs]).run P w=.ok r w'->(execOp a.eval o).run P w=.ok (.value r) w':=by
   intro vd vs r w' h1 h2 h3
   unfold execOp
   simp only[ho,resolve,invoke,builtin,Sem.run_bind,Sem.run_pure,Result.andThen_ok,List.map_toArray,List.map_cons,List.map_nil,h1,h2,h3]
  unfold jL at e
  split at e
  ·rename_i hd
   split at e
   ·rename_i xv hs
    split at e
    ·rename_i p WZ
     cases e
     have V5:=ic d _ _ _ _ _ _ Tr hd
     have eE:=ic s _ _ _ _ _ _ Tr hs
     simp only[VR]at V5
     obtain⟨b,uz⟩:=V5
     obtain⟨n,cs⟩:=p
     obtain⟨xa,xc,Mu,hxc,wG⟩:=kJ H eE WZ
     exact⟨g,w,_,_,hex _ _ _ _ uz Mu (run_copy_none w T T' o.type el i hu hi _ _ _ _ _ _ (Nat.min_zero _)),.inl rfl,Ext.refl _ _ _,H,by simp only[VR]⟩
    ·cases e
   ·cases e
  ·rename_i id off n sz hd
   split at e
   ·rename_i xv hs
    split at e
    ·rename_i m src WZ
     have V5:=ic d _ _ _ _ _ _ Tr hd
     have eE:=ic s _ _ _ _ _ _ Tr hs
     obtain⟨xa,xc,Mu,hxc,wG⟩:=kJ H eE WZ
     simp only[VR]at V5
     rw[qW]at e
     cases hk:Nat.beq (min m n) 0 with
     |true=>
      rw[hk]at e
      cases e
      have QK:Nat.min m n=0:=Nat.eq_of_beq_eq_true hk
      rcases V5 with⟨rfl,b,uz⟩|⟨b,s',cap,hm,uz,q8,_⟩
      ·exact⟨g,w,_,_,hex _ _ _ _ uz Mu (run_copy_none w T T' o.type el i hu hi _ _ _ _ _ _ QK),.inl rfl,Ext.refl _ _ _,H,by simp only[VR]⟩
      ·exact⟨g,w,_,_,hex _ _ _ _ uz Mu (run_copy_none w T T' o.type el i hu hi _ _ _ _ _ _ QK),.inl rfl,Ext.refl _ _ _,H,by simp only[VR]⟩
     |false=>
      rw[hk]at e
      have QK:min m n≠0:=fun k=>by rw[k]at hk;cases hk
      simp only[cond_false]at e
      split at e
      ·rename_i cs hg
       cases hb:((Nat.blt 0 i.size&&(Nat.beq sz i.size&&(Nat.beq (len src) (Nat.mul m i.size)&&fB dU src)))&&Nat.ble (Nat.add off (Nat.mul (min m n) i.size)) cs.n)with
       |false=>rw[hb]at e;cases e
       |true=>
        rw[hb]at e
        cases e
        simp only[Bool.and_eq_true,cF]at hb
        obtain⟨⟨b0,b1,b2,b3⟩,b4⟩:=hb
        have b0:=ct.1 b0
        obtain rfl:=Nat.eq_of_beq_eq_true b1
        have b2:src.length=m*i.size:=Nat.eq_of_beq_eq_true b2
        have b4:off+min m n*i.size<=cs.n:=Nat.le_of_ble_eq_true b4
        have hmn:min m n*i.size<=m*i.size:=Nat.mul_le_mul_right _ (Nat.min_le_left m n)
        rcases V5 with⟨rfl,b,uz⟩|⟨b,s',cap,hm,uz,q8,_⟩
        ·rw[Nat.min_zero]at QK;exact absurd rfl QK
        ·obtain⟨C,el',vs,hw,_,MC,hc⟩:=H.row hg hm
         rcases wG with rfl|⟨xb,xs,us,rfl,zt,gu⟩
         ·exfalso
          have hz:m*i.size=0:=b2.symm
          have hp:0<min m n*i.size:=Nat.mul_pos (by omega) b0
          omega
         ·have WX:=zt.length
          have B3:(us.take (min m n*i.size)).length=min m n*i.size:=by rw[List.length_take];omega
          have Xb:(src.take (min m n*i.size)).length=min m n*i.size:=by rw[List.length_take];omega
          have oD:s'+off+(us.take (min m n*i.size)).length<=C.size:=by
           rw[B3]
           have hp:0<min m n*i.size:=Nat.mul_pos (by omega) b0
           have:=bQ.oW MC hc (n:=off+min m n*i.size) (by rw[eM];exact b4) (by omega)
           omega
          have hr:=wH (P:=P) w T T' o.type el i hu hi b (s'+off) n cap ⟨xb,xs,none⟩ m xc C el' (us.take (min m n*i.size)) hw B3 (fun j v e=>by
           rw[List.getElem?_take]at e
           split at e
           ·exact lT gu j v e
           ·cases e) oD (fun v hv=>bQ.BU zt b3 v (List.mem_of_mem_take hv))
          obtain⟨E,H'⟩:=sN H (C':=(C.toList.take (s'+off)++us.take (min m n*i.size)++C.toList.drop (s'+off+(us.take (min m n*i.size)).length)).toArray)
           hg hm hw (by simp at oD ⊢;omega) (cs':=cs.put off (tk (Nat.mul (min m n) i.size) src)) (us:=vs.take off++(us.take (min m n*i.size)++vs.drop (off+(us.take (min m n*i.size)).length)))
           (by rw[oP];show bQ g w (cs.put off (src.take (min m n*i.size))).toL _;rw[pL (by rw[Xb];exact b4),put_eq,Xb,B3];exact(MC.take _).append ((zt.take _).append (MC.drop _)))
           (fun j v e=>yd hc oD j v e (by have:=MC.length;rw[eM]at this;omega))
          exact⟨g,_,_,_,hex _ _ _ _ uz Mu hr,.inl rfl,E,H',by simp only[VR]⟩
      ·cases e
    ·cases e
   ·cases e
  ·cases e
theorem Fy{T el:TypeId}{x y z:Operand}(ho:o.op=.slice T x none (some y) (some z))(hd:P.underlying T=some (.slice el)){i:TypeInfo}(hi:P.info? el=some i):cy P o (uW (wO (ba x)) (ba y) (ba z)):=by
 intro g w nt t h a v h' H Tr e
 unfold uW at e
 split at e
 ·rename_i ky n hy
  split at e
  ·rename_i kz m hz
   obtain⟨h1,h2⟩:=(by
    cases hb:(Nat.beq n 0&&Nat.beq m 0)with
    |false=>rw[hb]at e;cases e
    |true=>rw[Bool.and_eq_true]at hb;exact hb:Nat.beq n 0=true/\Nat.beq m 0=true)
   rw[h1,h2]at e
   simp only[Bool.and_self,cond_true]at e
   obtain rfl:=Nat.eq_of_beq_eq_true h1
   obtain rfl:=Nat.eq_of_beq_eq_true h2
   have uw:=bB y _ _ _ _ _ _ Tr hy
   have hvz:=bB z _ _ _ _ _ _ Tr hz
   simp only[VR]at uw hvz
   have pO:(sizeOf el).run P w=.ok i.size w:=by simp[sizeOf,typeInfo,hi]
   have jV: ∀ b n c,a.eval x=.slice b n c->(execOp a.eval o).run P w=.ok (.value (.slice b 0 0)) w:=by
    intro b n c hx
    simp[execOp,ho,hx,uw,hvz,Instr.sliceAt,Instr.slice,run_underlying hd,Instr.sliceBounds,Instr.sliceBound,asIntOf,pO]
   split at e
   ·rename_i hx
    cases e
    have hv:=ic x _ _ _ _ _ _ Tr hx
    simp only[VR]at hv
    obtain⟨b,hv⟩:=hv
    exact⟨rfl,_,jV _ _ _ hv,by simp only[VR];exact⟨_,rfl⟩⟩
   ·rename_i hx
    cases e
    have hv:=ic x _ _ _ _ _ _ Tr hx
    simp only[VR]at hv
    rcases hv with⟨_,b,hv⟩|⟨b,s,cap,_,hv,_⟩
    ·exact⟨rfl,_,jV _ _ _ hv,by simp only[VR];exact⟨_,rfl⟩⟩
    ·exact⟨rfl,_,jV _ _ _ hv,by simp only[VR];exact⟨_,rfl⟩⟩
   ·rename_i hx
    cases e
    have hv:=ic x _ _ _ _ _ _ Tr hx
    simp only[VR]at hv
    obtain⟨b,cap,hv,_⟩:=hv
    exact⟨rfl,_,jV _ _ _ hv,by simp only[VR];exact⟨_,rfl⟩⟩
   ·cases e
  ·cases e
 ·cases e
end
end Go.Ab

noncomputable section
namespace Go.Ab
variable [Io]
def dR(P:Program)(call:cY):Prop:=
 ∀ f args h v h',call f args h=.ok v h'->(∀ as w,(callFunc f as).run P w=.ok (.enter f as) w)/\
  ∀ (g:G) (w:World) (vs:List Value),HR g w h->bQ g w args vs->
   Calls P f vs.toArray w fun e w'=> ∃ x g',e=.returned x/\Ext g w h g' w' h'/\HR g' w' h'/\VR g' w' v x
def zU(P:Program)(op:BinOp)(T:TypeId):Option (AV->AV->Option AV):=
 match op with
 | .add=>some aY| .sub=>some dk| .mul=>some iy| .quo=>some qQ| .rem=>some p'
 | .and=>some dO| .or=>some kb| .xor=>some w6| .andNot=>some nG| .shl=>some iU| .shr=>some dY
 | .lss=>some aX| .leq=>some dL| .gtr=>some dN| .geq=>some cA
 | .eql=>match P.underlying T with
  |some (.int _)=>some (ak false)
  |some .bool=>some (xU false)
  |some .string=>some (uS false)
  |some (.pointer _)=>some (kW false)
  |some (.slice _)=>some (kX false)
  |some (.struct _)=>Fv P false T
  | _=>none
 | .neq=>match P.underlying T with
  |some (.int _)=>some (ak true)
  |some .bool=>some (xU true)
  |some .string=>some (uS true)
  |some (.pointer _)=>some (kW true)
  |some (.slice _)=>some (kX true)
  |some (.struct _)=>Fv P true T
  | _=>none
theorem MD{P:Program}{op:BinOp}{T:TypeId}{f:AV->AV->Option AV}(h:zU P op T=some f):dw P op T f:=by
 unfold zU at h
 cases op<;>simp only at h
 case eql=>
  split at h
  ·cases h;exact HO T
  ·rename_i hu;cases h;exact Mh hu
  ·cases h;exact Mj T
  ·rename_i hu;cases h;exact Ml hu
  ·rename_i hu;cases h;exact Mn hu
  ·exact MA h
  ·cases h
 case neq=>
  split at h
  ·cases h;exact HP T
  ·rename_i hu;cases h;exact Mi hu
  ·cases h;exact Mk T
  ·rename_i hu;cases h;exact Mm hu
  ·rename_i hu;cases h;exact Mo hu
  ·exact MB h
  ·cases h
 all_goals cases h
 case add=>exact Hx T
 case sub=>exact Hy T
 case mul=>exact HM T
 case quo=>exact HL T
 case rem=>exact HK T
 case and=>exact Hz T
 case or=>exact HA T
 case xor=>exact HB T
 case shl=>exact HD T
 case shr=>exact HF T
 case andNot=>exact BX T
 case lss=>exact HG T
 case leq=>exact HI T
 case gtr=>exact HH T
 case geq=>exact HJ T
def SA(op:UnOp):Option (AV->Option AV):=
 match op with
 | .not=>some gC
 | .neg=>some xV
 | .xor=>some E6
 | .plus=>none
def zV(P:Program)(T:TypeId)(x:Operand):eP:=
 match P.underlying T with
 |some d=>match P.info? T with
  |some i=>bc i.size (jh d) (ba x)
  |none=>cq
 |none=>cq
def xj(P:Program)(S D:TypeId)(x:Operand):eP:=
 match P.underlying S with
 |some _=>match P.underlying D with
  |some (.int k)=>cE (aP k) (ba x)
  | _=>cq
 |none=>cq
def yh(P:Program)(S D:TypeId)(x:Operand):eP:=
 match P.underlying S with
 |some .string=>match P.underlying D with
  |some (.slice e)=>match P.underlying e with
   |some (.int .u8)=>nH (ba x)
   | _=>cq
  | _=>cq
 |some (.slice _)=>match P.underlying D with
  |some (.slice e)=>match P.underlying e with
   |some (.int .u8)=>gD (Nat.beq S D) (qb (ba x)) cq
   | _=>cq
  | _=>cq
 | _=>cq
def lU(P:Program)(T:TypeId)(x:Operand)(n:Nat):eP:=
 match P.underlying T with
 |some (.struct fs)=>match fs[n]? with
  |some f=>match P.info? f.type with
   |some i=>gD (Nat.blt 0 i.size) (ab f.offset (ba x)) cq
   |none=>cq
  |none=>cq
 | _=>cq
def ve(P:Program)(T:TypeId)(x:Operand)(n:Nat):eP:=
 match P.underlying T with
 |some (.struct fs)=>match fs[n]? with
  |some f=>match P.underlying f.type with
   |some d=>match P.info? f.type with
    |some i=>lP f.offset i.size (jh d) (ba x)
    |none=>cq
   |none=>cq
  |none=>cq
 | _=>cq
def lV(P:Program)(T:TypeId)(x y:Operand):eP:=
 match P.underlying T with
 |some (.slice e)=>match P.info? e with
  |some i=>bt i.size (ba x) (ba y)
  |none=>cq
 |some (.array n e)=>match P.info? e with
  |some i=>oB n i.size (ba x) (ba y)
  |none=>cq
 | _=>cq
def vf(P:Program)(T:TypeId)(x y:Operand):eP:=
 match P.underlying T with
 |some (.array n e)=>match P.underlying e with
  |some d=>match P.info? e with
   |some i=>kF n i.size (jh d) (ba x) (ba y)
   |none=>cq
  |none=>cq
 |some .string=>cC (ba x) (ba y)
 | _=>cq
def vg(P:Program)(T:TypeId)(x:Operand)(lo hi:Option Operand):eP:=
 match P.underlying T with
 |some .string=>dG (ba x) (lo.map ba) (hi.map ba)
 |some (.slice e)=>match P.info? e with
  |some i=>cB i.size (ba x) (lo.map ba) (hi.map ba)
  |none=>cq
 |some (.array n e)=>match P.info? e with
  |some i=>gD (Nat.blt 0 i.size) (gq n i.size (ba x) (lo.map ba) (hi.map ba)) cq
  |none=>cq
 | _=>cq
def q9(P:Program)(T:TypeId)(x:Operand)(lo hi:Option Operand)(m:Operand):eP:=
 match lo,hi with
 |none,some y=>match P.underlying T with
  |some (.slice e)=>match P.info? e with
   |some _=>uW (wO (ba x)) (ba y) (ba m)
   |none=>cq
  | _=>cq
 | _,_=>cq
def HV(P:Program)(T:TypeId)(x:Operand):eP:=
 match P.underlying T with
 |some .string=>jf (ba x)
 |some (.slice _)=>aT (wO (ba x))
 |some (.array n _)=>aa (oC (.int .i64 (.ofNat n)))
 | _=>cq
def HW(P:Program)(T:TypeId)(x:Operand):eP:=
 match P.underlying T with
 |some (.slice _)=>qS (wO (ba x))
 | _=>cq
def HX(P:Program)(T:TypeId):eP:=
 match zeroOf P T with
 |some z=>dB z
 |none=>cq
inductive Cl where
 |p0|p1|al|ch
def Dx(P:Program)(call:cY)(c:Call):eP:=
 match c with
 |⟨.builtin .append,args,qy⟩=>match args.toList,qy.toList with
  | [s,x],[T,T']=>gD (Nat.beq T T') (uy P T s x) (Du P T T' s x)
  | _,_=>cq
 |⟨.builtin .copy,args,qy⟩=>match args.toList,qy.toList with
  | [d,s],[T,_]=>Dw P T d s
  | _,_=>cq
 |⟨.value (.func f),args,_⟩=>aj call f (args.toList.map ba)
 |⟨.value f,args,_⟩=>gH call (ba f) (args.toList.map ba)
 | _=>cq
def iA(P:Program)(c:Call):Option eP:=
 match c with
 |⟨.builtin .len,args,qy⟩=>match args.toList,qy.toList with
  | [x],[T]=>some (HV P T x)
  | _,_=>some cq
 |⟨.builtin .cap,args,qy⟩=>match args.toList,qy.toList with
  | [x],[T]=>some (HW P T x)
  | _,_=>some cq
 |⟨.builtin .min,args,_⟩=>match args.toList with
  | [x,y]=>some (sD (ba x) (ba y))
  | _=>some cq
 |⟨.builtin .max,args,_⟩=>match args.toList with
  | [x,y]=>some (wD (ba x) (ba y))
  | _=>some cq
 | _=>none
def nM(P:Program)(call:cY)(o:Op):Cl×eP:=
 match o with
 | .move x=>(.p0,aa (ba x))
 | .assign x=>(.p0,aa (ba x))
 | .pick c x y=>(.p0,aS (ba c) (ba x) (ba y))
 | .alloc T=>(.al,HX P T)
 | .box _ x=>(.al,dr (ba x))
 | .build T ps=>(.p0,u9 P T ps.toList)
 | .buildSlice T n ps=>(.al,Hj P T n ps.toList)
 | .load T x=>(.p1,zV P T x)
 | .store T x y=>(.ch,ye P T x y)
 | .nilCheck x=>(.p0,aD (ba x))
 | .binOp op T x y _=>match zU P op T with
  |some f=>(.p0,ae f (ba x) (ba y))
  |none=>(.p0,cq)
 | .unOp op _ x=>match SA op with
  |some f=>(.p0,cE f (ba x))
  |none=>(.p0,cq)
 | .convert S D x=>match P.underlying D with
  |some (.slice _)=>(.ch,yh P S D x)
  | _=>(.p0,xj P S D x)
 | .makeFunc (.func f) first caps=>match first.toList with
  | []=>(.p0,Lw f (caps.toList.map ba))
  | _=>(.p0,cq)
 | .makeSlice T l c=>(.al,zO P T l c)
 | .makeMap _ r=>match r with
  |none=>(.ch,E7)
  |some _=>(.ch,cq)
 | .slice T x lo hi none=>(.p1,vg P T x lo hi)
 | .slice T x lo hi (some m)=>(.p1,q9 P T x lo hi m)
 | .fieldAddr T x n=>(.p0,lU P T x n)
 | .field T x n=>(.p0,ve P T x n)
 | .indexAddr T x y=>(.p0,lV P T x y)
 | .index T x y=>(.p0,vf P T x y)
 | .extract x i=>(.p0,aL (ba x) i)
 | .call c=>match iA P c with
  |some f=>(.p0,f)
  |none=>(.ch,Dx P call c)
 | _=>(.ch,cq)
def yi(P:Program)(o:Oper)(f:eP):Prop:=
 ∀ (g:G) (w:World) (nt:Nat) (t:Tm) (h:Hp) (a:Act) (v:AV) (h':Hp),HR g w h->TR g w nt t a.tmps->f t h=.ok v h'->
  ∀ next Q,(∀ g' w' x,Ext g w h g' w' h'->HR g' w' h'->VR g' w' v x->next (a.put o.dst x) w')->o.wp P a w next Q
section
variable {P:Program}{o:Oper}
theorem lQ.ok{f:eP}(h:lQ P o f):yi P o f:=by
 intro g w nt t hp a v h' H T e next Q K
 obtain⟨g',w',nx,x,hr,GA,E,H',hv⟩:=h g w nt t hp a v h' H T e
 unfold Oper.wp
 rw[hr]
 rcases GA with rfl|⟨rfl,rfl⟩
 ·exact K g' w' x E H' hv
 ·exact K g' w' undef E H' hv
theorem cy.ok{f:eP}(h:cy P o f):yi P o f:=h.run.ok
theorem nd.ok{f:eP}(h:nd P o f):yi P o f:=h.run.ok
theorem sP:yi P o cq:=by intro g w nt t h a v h' _ _ e;cases e
theorem ME{f:FuncId}{args:Array Operand}{qy:Array TypeId}{call:cY}(hc:dR P call)(ho:o.op=.call {callee:=.value (.func f),args,argTypes:=qy}):
 yi P o (aj call f (args.toList.map ba)):=by
 intro g w nt t h a v h' H T e next Q K
 unfold aj at e
 split at e
 ·rename_i vs eE
  obtain⟨Xc,xk⟩:=hc f vs h v h' e
  have hv:=uv T args.toList eE
  have hr:(execOp a.eval o).run P w=.ok (.enter f (args.map a.eval)) w:=by
   simp[execOp,ho,resolve,Act.eval,Deferred.ofValue,invoke,Xc]
  unfold Oper.wp
  rw[hr,Oper.upon_enter]
  have:=xk g w (args.toList.map a.eval) H hv
  rw[show(args.toList.map a.eval).toArray=args.map a.eval from by rw[<-Array.toList_map,Array.toArray_toList]]at this
  refine this.mono ?_
  rintro e w' ⟨x,g',rfl,E,H',hx⟩
  exact K g' w' x E H' hx
 ·cases e
theorem HY{f:Operand}{args:Array Operand}{qy:Array TypeId}{call:cY}(hc:dR P call)(ho:o.op=.call {callee:=.value f,args,argTypes:=qy}):
 yi P o (gH call (ba f) (args.toList.map ba)):=by
 intro g w nt t h a v h' H T e next Q K
 unfold gH at e
 split at e
 ·rename_i k cap hf
  split at e
  ·rename_i vs eE
   have hfv:=bB f _ _ _ _ _ _ T hf
   simp only[VR]at hfv
   obtain⟨caps,hfe,Xd⟩:=hfv
   obtain⟨Xc,xk⟩:=hc k _ h v h' e
   have hv:=uv T args.toList eE
   have hr:(execOp a.eval o).run P w=.ok (.enter k (args.map a.eval++caps)) w:=by
    simp[execOp,ho,resolve,hfe,Deferred.ofValue,invoke,Xc]
   unfold Oper.wp
   rw[hr,Oper.upon_enter]
   rw[dn]at xk
   have:=xk g w (args.toList.map a.eval++caps.toList) H (hv.append Xd)
   rw[show(args.toList.map a.eval++caps.toList).toArray=args.map a.eval++caps from by rw[<-Array.toList_map,<-Array.toList_append,Array.toArray_toList]]at this
   refine this.mono ?_
   rintro e w' ⟨x,g',rfl,E,H',hx⟩
   exact K g' w' x E H' hx
  ·cases e
 ·cases e
end
end Go.Ab

noncomputable section
namespace Go.Ab
variable [Io]
section
variable {P:Program}{o:Oper}{call:cY}
theorem Cc{T:TypeId}{x:Operand}(ho:o.op=.load T x):cy P o (zV P T x):=by
 unfold zV
 split
 ·rename_i d hd
  split
  ·rename_i i hi;exact Ff ho hd hi
  ·exact bZ
 ·exact bZ
theorem vh{S D:TypeId}{x:Operand}(ho:o.op=.convert S D x):cy P o (xj P S D x):=by
 unfold xj
 split
 ·rename_i d hd
  split
  ·rename_i k hk;exact Cb ho hd hk
  ·exact bZ
 ·exact bZ
theorem Cd{S D:TypeId}{x:Operand}(ho:o.op=.convert S D x):lQ P o (yh P S D x):=by
 unfold yh
 split
 ·rename_i hS
  split
  ·rename_i e hD
   split
   ·rename_i he;exact Ca ho hS hD he
   ·exact bZ.run
  ·exact bZ.run
 ·split
  ·rename_i e hD
   split
   ·rename_i he
    cases h:Nat.beq S D with
    |true=>
     obtain rfl:=Nat.eq_of_beq_eq_true h
     exact Ft ho hD he
    |false=>exact bZ.run
   ·exact bZ.run
  ·exact bZ.run
 ·exact bZ.run
theorem zW{c:Bool}{f:eP}(h:c=true->cy P o f):cy P o (gD c f cq):=by
 cases c with
 |true=>exact h rfl
 |false=>exact bZ
theorem tU{T:TypeId}{x:Operand}{n:Nat}(ho:o.op=.fieldAddr T x n):cy P o (lU P T x n):=by
 unfold lU
 split
 ·rename_i fs hd
  split
  ·rename_i f hf
   split
   ·rename_i i hi
    exact zW fun h=>u6 ho hd hf hi (by have:=ct.1 h;omega)
   ·exact bZ
  ·exact bZ
 ·exact bZ
theorem zX{T:TypeId}{x:Operand}{n:Nat}(ho:o.op=.field T x n):cy P o (ve P T x n):=by
 unfold ve
 split
 ·rename_i fs hd
  split
  ·rename_i f hf
   split
   ·rename_i d Dr
    split
    ·rename_i i hi
     exact BZ ho hd hf Dr hi
    ·exact bZ
   ·exact bZ
  ·exact bZ
 ·exact bZ
theorem tV{T:TypeId}{x y:Operand}(ho:o.op=.indexAddr T x y):cy P o (lV P T x y):=by
 unfold lV
 split
 ·rename_i e hd
  split
  ·rename_i i hi;exact Hb ho hd hi
  ·exact bZ
 ·rename_i n e hd
  split
  ·rename_i i hi;exact Hc ho hd hi
  ·exact bZ
 ·exact bZ
theorem zY{T:TypeId}{x y:Operand}(ho:o.op=.index T x y):cy P o (vf P T x y):=by
 unfold vf
 split
 ·rename_i n e hd
  split
  ·rename_i d Dr
   split
   ·rename_i i hi;exact B0 ho hd Dr hi
   ·exact bZ
  ·exact bZ
 ·rename_i hd;exact zI ho hd
 ·exact bZ
theorem yj{T:TypeId}{x:Operand}{lo hi:Option Operand}{m:Operand}(ho:o.op=.slice T x lo hi (some m)):cy P o (q9 P T x lo hi m):=by
 unfold q9
 split
 ·split
  ·rename_i e hd
   split
   ·rename_i i hi;exact Fy ho hd hi
   ·exact bZ
  ·exact bZ
 ·exact bZ
theorem zZ{T:TypeId}{x:Operand}{lo hi:Option Operand}(ho:o.op=.slice T x lo hi none):cy P o (vg P T x lo hi):=by
 unfold vg
 split
 ·rename_i hd;exact zJ ho hd
 ·rename_i e hd
  split
  ·rename_i i hi;exact zK ho hd hi
  ·exact bZ
 ·rename_i n e hd
  split
  ·rename_i i hi;exact zW fun h=>zL ho hd hi (by have:=ct.1 h;omega)
  ·exact bZ
 ·exact bZ
theorem FA{T:TypeId}{x:Operand}(ho:o.op=.call {callee:=.builtin .cap,args:= #[x],argTypes:= #[T]}):cy P o (HW P T x):=by
 unfold HW
 split
 ·rename_i hd;exact Ha ho hd
 ·exact bZ
theorem FB{T:TypeId}{x:Operand}(ho:o.op=.call {callee:=.builtin .len,args:= #[x],argTypes:= #[T]}):cy P o (HV P T x):=by
 unfold HV
 split
 ·rename_i hd;exact Fc ho hd
 ·rename_i e hd;exact G9 ho hd
 ·rename_i n e hd;exact Fe ho hd
 ·exact bZ
theorem MF:nd P o cq:=by intro g w nt t h a v h' _ _ e;cases e
theorem HZ{T:TypeId}(ho:o.op=.alloc T):nd P o (HX P T):=by
 unfold HX
 split
 ·rename_i z hz;exact Hh ho hz
 ·exact MF
theorem H5{op:UnOp}{T:TypeId}{x:Operand}{f:AV->Option AV}(ho:o.op=.unOp op T x)(h:SA op=some f):cy P o (cE f (ba x)):=by
 cases op<;>cases h
 ·exact G7 ho
 ·exact G8 ho
 ·exact G4 ho
omit [Io] in
theorem MG{α:Type}{a:Array α}{x:α}(h:a.toList=[x]):a= #[x]:=by
 rw[<-Array.toArray_toList (xs:=a),h]
omit [Io] in
theorem FC{α:Type}{a:Array α}{x y:α}(h:a.toList=[x,y]):a= #[x,y]:=by
 rw[<-Array.toArray_toList (xs:=a),h]
theorem wI{c:Call}{f:eP}(ho:o.op=.call c)(h:iA P c=some f):cy P o f:=by
 unfold iA at h
 split at h
 ·rename_i args qy
  split at h
  ·rename_i x T h1 h2
   cases h
   rw[MG h1,MG h2]at ho
   exact FB ho
  ·cases h;exact bZ
 ·rename_i args qy
  split at h
  ·rename_i x T h1 h2
   cases h
   rw[MG h1,MG h2]at ho
   exact FA ho
  ·cases h;exact bZ
 ·rename_i args qy
  split at h
  ·rename_i x y h1
   cases h
   rw[FC h1]at ho
   exact HQ ho
  ·cases h;exact bZ
 ·rename_i args qy
  split at h
  ·rename_i x y h1
   cases h
   rw[FC h1]at ho
   exact HU ho
  ·cases h;exact bZ
 ·cases h
theorem H6(hc:dR P call){c:Call}(ho:o.op=.call c):yi P o (Dx P call c):=by
 unfold Dx
 split
 ·rename_i args qy
  split
  ·rename_i s x T T' h1 h2
   rw[FC h1,FC h2]at ho
   cases h:Nat.beq T T' with
   |true=>
    obtain rfl:=Nat.eq_of_beq_eq_true h
    exact(zR ho).ok
   |false=>exact(Fp ho).ok
  ·exact sP
 ·rename_i args qy
  split
  ·rename_i d s T T' h1 h2
   rw[FC h1,FC h2]at ho
   exact(Fx ho).ok
  ·exact sP
 ·exact ME hc ho
 ·exact HY hc ho
 ·exact sP
theorem yk(hc:dR P call):match nM P call o.op with
 |(.p0,f)=>cy P o f
 |(.p1,f)=>cy P o f
 |(.al,f)=>nd P o f
 |(.ch,f)=>yi P o f:=by
 cases ho:o.op<;>simp only[nM]
 case move x=>exact w8 (.inl ho)
 case assign x=>exact w8 (.inr ho)
 case pick c x y=>exact Fa ho
 case alloc T=>exact HZ ho
 case box T x=>exact Hi ho
 case build T ps=>exact B2 ho
 case buildSlice T n ps=>exact Hk ho
 case load T x=>exact Cc ho
 case store T x y=>exact(B5 ho).ok
 case nilCheck x=>exact pure_nil ho
 case binOp op T x y yT=>
  cases h:zU P op T with
  |some f=>exact GZ ho (MD h)
  |none=>exact bZ
 case unOp op T x=>
  cases h:SA op with
  |some f=>exact H5 ho h
  |none=>exact bZ
 case convert S D x=>
  cases h:P.underlying D with
  |none=>exact vh ho
  |some d=>cases d<;>first|exact vh ho|exact(Cd ho).ok
 case makeFunc f first caps=>
  cases f<;>try exact sP
  rename_i f
  simp only
  cases h:first.toList with
  |nil=>
   have:first= #[]:=by rw[<-Array.toArray_toList (xs:=first),h]
   subst this
   exact Mp ho
  |cons a l=>exact bZ
 case makeSlice T l c=>exact Fh ho
 case makeMap T r=>cases r with
  |none=>exact(Hu ho).ok
  |some _=>exact sP
 case slice T x lo hi mx=>
  cases mx with
  |none=>exact zZ ho
  |some m=>exact yj ho
 case fieldAddr T x n=>exact tU ho
 case field T x n=>exact zX ho
 case indexAddr T x y=>exact tV ho
 case index T x y=>exact zY ho
 case extract x i=>exact ya ho
 case call c=>
  cases h:iA P c with
  |some f=>exact wI ho h
  |none=>exact H6 hc ho
 all_goals exact sP
theorem H7(hc:dR P call):yi P o (nM P call o.op).2:=by
 have:=yk (o:=o) hc
 cases h:nM P call o.op with
 |mk c f=>
  rw[h]at this
  cases c
  ·exact cy.ok this
  ·exact cy.ok this
  ·exact nd.ok this
  ·exact this
def gF(j:eR)(want:Bool)(f:eP):eP:=fun t h=>match j t with
 |some (.bool b)=>gD (gD want b (!b)) (f t h) (.ok gk h)
 |some (.qP [])=>.ok gk h
 | _=>.bad
def kC(P:Program)(call:cY)(nt:Nat)(all:List Oper)(o:Oper):eP:=
 match o.guard with
 |none=>(nM P call o.op).2
 |some (j,want)=>match kE all j with
  |some oj=>match oj.dst with
   |some d=>gD (Nat.blt d nt) (gF (oT d) want (nM P call o.op).2) cq
   |none=>cq
  |none=>cq
def la(P:Program)(call:cY)(nt:Nat)(all l:List Oper):me:=
 List.rec fi (fun o _ ih=>match o.dst with
  |some d=>gD (Nat.blt d nt) (st (sT d) (kC P call nt all o) ih) (fun _ _=>.bad)
  |none=>sn (kC P call nt all o) ih) l
theorem ym(hc:dR P call){ops:Array Oper}{i:Nat}(hi:ops[i]? =some o){g w nt t h}{a:Act}{v:AV}{h':Hp}(H:HR g w h)(T:TR g w nt t a.tmps)
 (e:kC P call nt ops.toList o t h=.ok v h'){Q:Exit->Act->World->Prop}{rest:List Nat}
 (K: ∀ g' w' x,Ext g w h g' w' h'->HR g' w' h'->VR g' w' v x->wpOps P ops Q rest (a.put o.dst x) w'):wpOps P ops Q (i::rest) a w:=by
 rw[wpOps,hi]
 simp only
 unfold kC at e
 cases hg:o.guard with
 |none=>
  rw[hg]at e
  rw[if_pos (by simp[Region.wanted,hg])]
  exact .inl (H7 hc g w nt t h a v h' H T e _ _ K)
 |some p=>
  obtain⟨j,want⟩:=p
  rw[hg]at e
  simp only[fQ]at e
  cases hj:ops.toList[j]? with
  |none=>simp only[hj]at e;cases e
  |some oj=>
  simp only[hj]at e
  cases hd:oj.dst with
  |none=>simp only[hd]at e;cases e
  |some d=>
  simp only[hd]at e
  cases hb:Nat.blt d nt with
  |false=>simp only[hb]at e;cases e
  |true=>
  simp only[hb]at e
  have GB:=ct.1 hb
  change gF (oT d) want (nM P call o.op).2 t h=.ok v h' at e
  have hj':ops[j]? =some oj:=by simpa using hj
  have pO:=T.2.1
  have hy: ∀ y,a.tmps.getD d undef=y->yielded ops a.tmps j=match y with| .bool b=>some b| _=>none:=by
   intro y hy
   have:a.tmps[d]? =some y:=by
    rw[Array.getD_eq_getD_getElem?]at hy
    rw[Array.getElem?_eq_getElem (by omega)]at hy ⊢
    simpa using hy
   simp[yielded,hj',hd,this]
   cases y<;>rfl
  unfold gF at e
  split at e
  ·rename_i b yc
   have hv:=(T.2.2 d _ (by have:=T.1;omega) yc).2
   simp only[VR]at hv
   have MH:=hy _ hv
   cases MI:(gD want b (!b))with
   |true=>
    rw[MI]at e
    have:b=want:=by cases want<;>cases b<;>simp[gD]at MI<;>rfl
    rw[if_pos (by simp[Region.wanted,hg,MH,this])]
    exact .inl (H7 hc g w nt t h a v h' H T e _ _ K)
   |false=>
    rw[MI]at e
    have:b≠want:=by cases want<;>cases b<;>simp[gD]at MI<;>simp
    rw[if_neg (by simp[Region.wanted,hg,MH,this])]
    cases e
    exact K g w undef (Ext.refl _ _ _) H (by simp only[gk,VR];exact⟨_,rfl,by simp[bQ]⟩)
  ·rename_i yc
   have hv:=(T.2.2 d _ (by have:=T.1;omega) yc).2
   simp only[VR]at hv
   obtain⟨vs,hv,eE⟩:=hv
   have MH:=hy _ hv
   rw[if_neg (by simp[Region.wanted,hg,MH])]
   cases e
   exact K g w undef (Ext.refl _ _ _) H (by simp only[gk,VR];exact⟨_,rfl,by simp[bQ]⟩)
  ·cases e
end
end Go.Ab

noncomputable section
namespace Go.Ab
variable [Io]
section
variable {P:Program}{call:cY}
def iP(g:G)(w:World)(h:Hp)(nt:Nat)(t':Tm)(h':Hp)(R:Act->World->Prop):Prop:=
 ∀ g' w' a',Ext g w h g' w' h'->HR g' w' h'->TR g' w' nt t' a'.tmps->a'.defers=[]->R a' w'
theorem iP.then{g w h nt h1 g1 w1 t2 h2}{R:Act->World->Prop}(E:Ext g w h g1 w1 h1)(K:iP g w h nt t2 h2 R):iP g1 w1 h1 nt t2 h2 R:=
 fun g' w' a' E' H' T' D'=>K g' w' a' (E.trans E') H' T' D'
def MJ(P:Program)(nt:Nat)(c:Code)(r:me):Prop:=
 ∀ (g:G) (w:World) (t:Tm) (h:Hp) (a:Act) (t':Tm) (h':Hp),HR g w h->TR g w nt t a.tmps->a.defers=[]->r t h=.ok t' h'->
  ∀ Q:Exit->Act->World->Prop,iP g w h nt t' h' (Q .normal)->c.wp P Q a w
theorem MK{g w nt t}{a:Act}{d:Nat}{v:AV}{x:Value}(T:TR g w nt t a.tmps)(hd:d<nt)(hv:VR g w v x):TR g w nt (sT d v t) (a.put (some d) x).tmps:=
 T.put hd hv
theorem H8(hc:dR P call){nt:Nat}(ops:Array Oper): ∀ (l pre:List Oper),ops.toList=pre++l-> ∀ (g:G) (w:World) (t:Tm) (h:Hp) (a:Act) (t':Tm) (h':Hp),
 HR g w h->TR g w nt t a.tmps->a.defers=[]->la P call nt ops.toList l t h=.ok t' h'-> ∀ Q:Exit->Act->World->Prop,iP g w h nt t' h' (Q .normal)->
  wpOps P ops Q (List.range' pre.length l.length) a w
 | [],pre,_,g,w,t,h,a,t',h',H,T,D,e,Q,K=>by
  cases e
  exact K g w a (Ext.refl _ _ _) H T D
 |o::l,pre,hl,g,w,t,h,a,t',h',H,T,D,e,Q,K=>by
  have hi:ops[pre.length]? =some o:=by
   have:ops.toList[pre.length]? =some o:=by rw[hl];simp
   simpa using this
  have ih:=H8 hc (nt:=nt) ops l (pre++[o]) (by simp[hl])
  simp only[List.length_append,List.length_cons,List.length_nil,Nat.zero_add]at ih
  rw[List.length_cons,List.range'_succ]
  change (match o.dst with
   |some d=>gD (Nat.blt d nt) (st (sT d) (kC P call nt ops.toList o) (la P call nt ops.toList l)) (fun _ _=>.bad)
   |none=>sn (kC P call nt ops.toList o) (la P call nt ops.toList l)) t h=.ok t' h' at e
  cases hd:o.dst with
  |none=>
   simp only[hd]at e
   unfold sn at e
   cases hg:kC P call nt ops.toList o t h with
   |bad=>rw[hg]at e;cases e
   |ok v h1=>
    rw[hg]at e
    refine ym hc hi H T hg fun g1 w1 x E H1 hv=>?_
    rw[hd]
    exact ih g1 w1 t h1 a t' h' H1 (T.mono H E) D e Q (iP.then E K)
  |some d=>
   simp only[hd]at e
   cases hb:Nat.blt d nt with
   |false=>simp only[hb]at e;cases e
   |true=>
    simp only[hb]at e
    change st (sT d) (kC P call nt ops.toList o) (la P call nt ops.toList l) t h=.ok t' h' at e
    unfold st at e
    cases hg:kC P call nt ops.toList o t h with
    |bad=>rw[hg]at e;cases e
    |ok v h1=>
     rw[hg]at e
     refine ym hc hi H T hg fun g1 w1 x E H1 hv=>?_
     rw[hd]
     exact ih g1 w1 (sT d v t) h1 (a.put (some d) x) t' h' H1 (MK (T.mono H E) (ct.1 hb) hv) D e Q (iP.then E K)
theorem FD(hc:dR P call){nt:Nat}(id:Nat)(ops:Array Oper):MJ P nt (.region id ops false) (la P call nt ops.toList ops.toList):=by
 intro g w t h a t' h' H T D e Q K
 refine wp_region ?_
 have:=H8 hc ops ops.toList [] rfl g w t h a t' h' H T D e Q K
 rw[List.range_eq_range']
 simpa using this
def Xe(P:Program)(nt:Nat)(c:Code)(f:wy):Prop:=
 ∀ (g:G) (w:World) (t:Tm) (h:Hp) (a:Act) (Q:Exit->Act->World->Prop),HR g w h->TR g w nt t a.tmps->a.defers=[]->
  match f t h with
  | .bad=>True
  | .norm t' h'=>iP g w h nt t' h' (Q .normal)->c.wp P Q a w
  | .ret t' h'=>iP g w h nt t' h' (Q .ret)->c.wp P Q a w
  | .exit i t' h'=>iP g w h nt t' h' (Q (.exit i))->c.wp P Q a w
def fY(P:Program)(draw:Array Oper->me)(call:cY)(n nt:Nat)(c:Code):wy:=
 Code.rec (motive:=fun _=>wy) bf
  (fun _ ops d=>ah (Bool.rec (la P call nt ops.toList ops.toList) (draw ops) d))
  (fun _ _ ia ib=>af ia ib)
  (fun c _ _ ia ib=>aI (ba c) ia ib)
  (fun id _ ib=>cH id ib)
  (fun _ ib=>fh n ib)
  (fun _ _ _ _ _ _=>zC)
  (fun i=>fq i)
  (fun _ _=>zC)
  (fun _=>zC)
  (fun _=>zC)
  bg
  (fun _=>zC) c
theorem vk{nt:Nat}{c:Code}:Xe P nt c zC:=by
 intro g w t h a Q H T D
 exact trivial
theorem ML(hc:dR P call){draw:Array Oper->me}{nt:Nat}(hd: ∀ id ops,MJ P nt (.region id ops true) (draw ops))(n:Nat): ∀ c,Xe P nt c (fY P draw call n nt c):=by
 intro c
 induction c with
 |skip=>
  intro g w t h a Q H T D K
  exact wp_skip (K g w a (Ext.refl _ _ _) H T D)
 |region id ops d=>
  intro g w t h a Q H T D
  have key:MJ P nt (.region id ops d) (Bool.rec (la P call nt ops.toList ops.toList) (draw ops) d):=by
   cases d with
   |false=>exact FD hc id ops
   |true=>exact hd id ops
  show match ah (Bool.rec (la P call nt ops.toList ops.toList) (draw ops) d) t h with| .bad=>_| .norm _ _=>_| .ret _ _=>_| .exit _ _ _=>_
  unfold ah
  cases e:(Bool.rec (la P call nt ops.toList ops.toList) (draw ops) d:me) t h with
  |bad=>exact trivial
  |ok t' h'=>exact fun K=>key g w t h a t' h' H T D e Q K
 |seq x y hx hy=>
  intro g w t h a Q H T D
  show match af (fY P draw call n nt x) (fY P draw call n nt y) t h with| .bad=>_| .norm _ _=>_| .ret _ _=>_| .exit _ _ _=>_
  unfold af
  have h1:=hx g w t h a (Exit.then (y.wp P Q) Q) H T D
  cases e:fY P draw call n nt x t h with
  |bad=>exact trivial
  |ret t1 oh=>rw[e]at h1;exact fun K=>wp_seq (h1 K)
  |exit i t1 oh=>rw[e]at h1;exact fun K=>wp_seq (h1 K)
  |norm t1 oh=>
   rw[e]at h1
   show match fY P draw call n nt y t1 oh with| .bad=>_| .norm _ _=>_| .ret _ _=>_| .exit _ _ _=>_
   cases e2:fY P draw call n nt y t1 oh with
   |bad=>exact trivial
   |norm t2 h2=>
    intro K
    refine wp_seq (h1 fun g1 w1 a1 E1 H1 T1 D1=>?_)
    have:=hy g1 w1 t1 oh a1 Q H1 T1 D1
    rw[e2]at this
    exact this (iP.then E1 K)
   |ret t2 h2=>
    intro K
    refine wp_seq (h1 fun g1 w1 a1 E1 H1 T1 D1=>?_)
    have:=hy g1 w1 t1 oh a1 Q H1 T1 D1
    rw[e2]at this
    exact this (iP.then E1 K)
   |exit i t2 h2=>
    intro K
    refine wp_seq (h1 fun g1 w1 a1 E1 H1 T1 D1=>?_)
    have:=hy g1 w1 t1 oh a1 Q H1 T1 D1
    rw[e2]at this
    exact this (iP.then E1 K)
 |cond c x y hx hy=>
  intro g w t h a Q H T D
  show match aI (ba c) (fY P draw call n nt x) (fY P draw call n nt y) t h with| .bad=>_| .norm _ _=>_| .ret _ _=>_| .exit _ _ _=>_
  unfold aI
  cases fL:ba c t with
  |none=>exact trivial
  |some v=>
   cases v<;>try exact trivial
   rename_i b
   have hv:=bB c _ _ _ _ _ _ T fL
   simp only[VR]at hv
   cases b with
   |true=>
    have:=hx g w t h a Q H T D
    show match fY P draw call n nt x t h with| .bad=>_| .norm _ _=>_| .ret _ _=>_| .exit _ _ _=>_
    cases e:fY P draw call n nt x t h<;>rw[e]at this
    ·exact trivial
    all_goals exact fun K=>wp_cond_true hv (this K)
   |false=>
    have:=hy g w t h a Q H T D
    show match fY P draw call n nt y t h with| .bad=>_| .norm _ _=>_| .ret _ _=>_| .exit _ _ _=>_
    cases e:fY P draw call n nt y t h<;>rw[e]at this
    ·exact trivial
    all_goals exact fun K=>wp_cond_false hv (this K)
 |block id x hx=>
  intro g w t h a Q H T D
  show match cH id (fY P draw call n nt x) t h with| .bad=>_| .norm _ _=>_| .ret _ _=>_| .exit _ _ _=>_
  unfold cH
  have:=hx g w t h a (Exit.inBlock id Q) H T D
  cases e:fY P draw call n nt x t h<;>rw[e]at this
  ·exact trivial
  ·exact fun K=>wp_block (this K)
  ·exact fun K=>wp_block (this K)
  ·rename_i i t1 h1
   show match(Bool.rec (Rc.exit i t1 h1) (Rc.norm t1 h1) (Nat.beq i id):Rc)with| .bad=>_| .norm _ _=>_| .ret _ _=>_| .exit _ _ _=>_
   cases hb:Nat.beq i id with
   |true=>
    obtain rfl:=Nat.eq_of_beq_eq_true hb
    exact fun K=>wp_block (this fun g' w' a' E' H' T' D'=>by
     show Exit.inBlock i Q (.exit i) a' w'
     simp only[Exit.inBlock,if_true]
     exact K g' w' a' E' H' T' D')
   |false=>
    have mW:i≠id:=fun k=>by rw[k,Nat.beq_refl]at hb;cases hb
    exact fun K=>wp_block (this fun g' w' a' E' H' T' D'=>by
     show Exit.inBlock id Q (.exit i) a' w'
     simp only[Exit.inBlock,if_neg mW]
     exact K g' w' a' E' H' T' D')
 |loop x hx=>
  intro g w t h a Q H T D
  show match fh n (fY P draw call n nt x) t h with| .bad=>_| .norm _ _=>_| .ret _ _=>_| .exit _ _ _=>_
  have key: ∀ m,∀ (g:G) (w:World) (t:Tm) (h:Hp) (a:Act),HR g w h->TR g w nt t a.tmps->a.defers=[]->
   match fh m (fY P draw call n nt x) t h with
   | .bad=>True
   | .norm t' h'=>iP g w h nt t' h' (Q .normal)->Code.rounds P x Q m a w
   | .ret t' h'=>iP g w h nt t' h' (Q .ret)->Code.rounds P x Q m a w
   | .exit i t' h'=>iP g w h nt t' h' (Q (.exit i))->Code.rounds P x Q m a w:=by
   intro m
   induction m with
   |zero=>intro g w t h a H T D;exact trivial
   |succ m ih=>
    intro g w t h a H T D
    have h1:=hx g w t h a (Exit.then (Code.rounds P x Q m) Q) H T D
    show match(Rc.rec Rc.bad (fun t h=>fh m (fY P draw call n nt x) t h) (fun t h=>Rc.ret t h) (fun i t h=>Rc.exit i t h) (fY P draw call n nt x t h):Rc)with
     | .bad=>_| .norm _ _=>_| .ret _ _=>_| .exit _ _ _=>_
    cases e:fY P draw call n nt x t h with
    |bad=>exact trivial
    |ret t1 oh=>rw[e]at h1;exact fun K=>h1 K
    |exit i t1 oh=>rw[e]at h1;exact fun K=>h1 K
    |norm t1 oh=>
     rw[e]at h1
     show match fh m (fY P draw call n nt x) t1 oh with| .bad=>_| .norm _ _=>_| .ret _ _=>_| .exit _ _ _=>_
     cases e2:fh m (fY P draw call n nt x) t1 oh with
     |bad=>exact trivial
     |norm t2 h2=>
      intro K
      refine h1 fun g1 w1 a1 E1 H1 T1 D1=>?_
      have:=ih g1 w1 t1 oh a1 H1 T1 D1
      rw[e2]at this
      exact this (iP.then E1 K)
     |ret t2 h2=>
      intro K
      refine h1 fun g1 w1 a1 E1 H1 T1 D1=>?_
      have:=ih g1 w1 t1 oh a1 H1 T1 D1
      rw[e2]at this
      exact this (iP.then E1 K)
     |exit i t2 h2=>
      intro K
      refine h1 fun g1 w1 a1 E1 H1 T1 D1=>?_
      have:=ih g1 w1 t1 oh a1 H1 T1 D1
      rw[e2]at this
      exact this (iP.then E1 K)
  have:=key n g w t h a H T D
  cases e:fh n (fY P draw call n nt x) t h<;>rw[e]at this
  ·exact trivial
  all_goals exact fun K=>wp_loop_rounds n (this K)
 |rangeFunc f ps x y _ _=>exact vk
 |exit i=>
  intro g w t h a Q H T D K
  exact wp_exit (K g w a (Ext.refl _ _ _) H T D)
 |scope x _=>exact vk
 |label l=>exact vk
 |goto l=>exact vk
 |ret=>
  intro g w t h a Q H T D K
  exact wp_ret (K g w a (Ext.refl _ _ _) H T D)
 |refuse s=>exact vk
end
end Go.Ab

noncomputable section
namespace Go.Ab
variable [Io]
section
variable {P:Program}
def cRV(P:Program)(nt:Nat):ResultVar->Option RV
 | .tmp i=>gD (Nat.blt i nt) (some (.tmp i)) none
 | .cell i T=>match P.underlying T with
  |some d=>match P.info? T with
   |some ti=>gD (Nat.blt i nt) (some (.cell i ti.size (jh d))) none
   |none=>none
  |none=>none
def H9(P:Program)(nt:Nat)(l:List ResultVar):Option (List RV):=
 List.rec (some []) (fun r _ ih=>match cRV P nt r with
  |some v=>match ih with
   |some vs=>some (v::vs)
   |none=>none
  |none=>none) l
def vm(tmps:Array Value):ResultVar->Sem Value
 | .tmp t=>pure (tmps.getD t undef)
 | .cell a t=>do loadVar t (<-asAddr (tmps.getD a undef))
theorem MM{g w nt t h}{tmps:Array Value}(H:HR g w h)(T:TR g w nt t tmps){r:ResultVar}{rv:RV}{v:AV}(hr:cRV P nt r=some rv)(e:GV t h rv=some v):
 ∃ x,(vm tmps r).run P w=.ok x w/\VR g w v x:=by
 cases r with
 |tmp i=>
  change gD (Nat.blt i nt) (some (RV.tmp i)) none=some rv at hr
  cases hb:Nat.blt i nt with
  |false=>rw[hb]at hr;cases hr
  |true=>
   rw[hb]at hr
   cases hr
   exact⟨_,rfl,(T.2.2 i v (by have:=T.1;have:=ct.1 hb;omega) e).2⟩
 |cell i ty=>
  unfold cRV at hr
  cases hd:P.underlying ty with
  |none=>simp only[hd]at hr;cases hr
  |some d=>
  simp only[hd]at hr
  cases hi:P.info? ty with
  |none=>simp only[hi]at hr;cases hr
  |some ti=>
  simp only[hi]at hr
  cases hb:Nat.blt i nt with
  |false=>rw[hb]at hr;cases hr
  |true=>
   rw[hb]at hr
   cases hr
   have Dy: @LT.lt Nat _ i 512:=by have:=T.1;have:=ct.1 hb;omega
   change (match t.at i with|some a=>uV h ti.size (jh d) a|none=>none)=some v at e
   split at e
   ·rename_i a ha
    have hv:=(T.2.2 i a Dy ha).2
    unfold uV at e
    split at e
    ·rename_i id off
     split at e
     ·rename_i cs hg
      simp only[VR]at hv
      obtain⟨b,s,hm,hv⟩:=hv
      obtain⟨C,el,vs,hw,_,eE,hc⟩:=H.row hg hm
      obtain⟨z,hz,hr⟩:=mr hd hi eE (fN hw hc) (uX e)
      exact⟨z,by simp only[vm,hv,asAddr,Sem.run_bind,Sem.run_pure,Result.andThen_ok,hz],hr⟩
     ·cases e
    ·rename_i cs
     simp only[VR]at hv
     obtain⟨b,s,vs,hv,_,hc,eE⟩:=hv
     obtain⟨z,hz,hr⟩:=mr hd hi eE hc e
     rw[Nat.add_zero]at hz
     exact⟨z,by simp only[vm,hv,asAddr,Sem.run_bind,Sem.run_pure,Result.andThen_ok,hz],hr⟩
    ·cases e
   ·cases e
theorem z6{g w nt t h}{tmps:Array Value}(H:HR g w h)(T:TR g w nt t tmps): ∀ (l:List ResultVar) {MN:List RV} {vs:List AV},H9 P nt l=some MN->w7 t h MN=some vs->
 ∃ xs,(l.mapM (vm tmps)).run P w=.ok xs w/\bQ g w vs xs
 | [],MN,vs,h1,h2=>by
  cases h1
  cases h2
  exact⟨[],by simp,by simp[bQ]⟩
 |r::l,MN,vs,h1,h2=>by
  change (match cRV P nt r with|some v=>(match H9 P nt l with|some vs=>some (v::vs)|none=>none)|none=>none)=some MN at h1
  split at h1
  ·rename_i rv Ia
   split at h1
   ·rename_i rl hrl
    cases h1
    change (match GV t h rv with|some v=>(match w7 t h rl with|some vs=>some (v::vs)|none=>none)|none=>none)=some vs at h2
    split at h2
    ·rename_i v hv
     split at h2
     ·rename_i us hu
      cases h2
      obtain⟨x,hx,Ib⟩:=MM H T Ia hv
      obtain⟨xs,Sx,aeX⟩:=z6 H T l hrl hu
      refine⟨x::xs,?_,by simp only[bQ];exact⟨x,xs,rfl,Ib,aeX⟩⟩
      simp only[List.mapM_cons,Sem.run_bind,hx,Sx,Result.andThen_ok,Sem.run_pure]
     ·cases h2
    ·cases h2
   ·cases h1
  ·cases h1
theorem SB{g w nt t h}{tmps:Array Value}{F:Func}{MN:List RV}{v:AV}{h':Hp}(H:HR g w h)(T:TR g w nt t tmps)(hr:H9 P nt F.results.toList=some MN)(e:fin MN t h=.ok v h'):
 h'=h/\ ∃ x,(results F tmps).run P w=.ok x w/\VR g w v x:=by
 have key: ∀ vs,w7 t h MN=some vs-> ∃ xs:List Value,(results F tmps).run P w=.ok (if h:xs.toArray.size=1 then xs.toArray[0]else .tuple xs.toArray) w/\bQ g w vs xs:=by
  intro vs eE
  obtain⟨xs,Sx,hv⟩:=z6 H T F.results.toList hr eE
  refine⟨xs,?_,hv⟩
  show((F.results.mapM (vm tmps)>>=fun vs=>(pure (if h:vs.size=1 then vs[0]else .tuple vs):Sem Value))).run P w=_
  rw[Array.mapM_eq_mapM_toList]
  simp only[Sem.run_bind,Sem.run_map,Sx,Result.andThen_ok,Sem.run_pure]
 unfold fin at e
 split at e
 ·rename_i v1 eE
  cases e
  obtain⟨xs,hx,hv⟩:=key _ eE
  simp only[bQ]at hv
  obtain⟨x,l',rfl,Ib,rfl⟩:=hv
  exact⟨rfl,x,by rw[hx];rfl,Ib⟩
 ·rename_i vs mW eE
  cases e
  obtain⟨xs,hx,hv⟩:=key _ eE
  refine⟨rfl,.tuple xs.toArray,?_,by simp only[VR];exact⟨_,rfl,hv⟩⟩
  rw[hx,dif_neg]
  intro h1
  have hl:=hv.length
  have:vs.length=1:=by simpa[<-hl]using h1
  match vs,this with
  | [a],_=>exact mW a rfl
 ·cases e
def Ce(P:Program)(draw:cY->Nat->Array Oper->me):Prop:=
 ∀ call nt,dR P call-> ∀ id ops,MJ P nt (.region id ops true) (draw call nt ops)
structure bm(P:Program)(draw:cY->Nat->Array Oper->me)(f:FuncId)(b:Fb):Prop where
 ex: ∃ F c,P.funcs[f]? =some F/\F.body=some c/\b.ntmps=F.ntmps/\b.ntmps<=512/\H9 P b.ntmps F.results.toList=some b.res/\b.body=fun call n=>fY P (draw call b.ntmps) call n b.ntmps c
 enter: ∀ as w,(callFunc f as).run P w=.ok (.enter f as) w
theorem ra{g w}: ∀ (l:List AV) (vs:List Value) (i nt:Nat) (t:Tm) (tmps:Array Value),bQ g w l vs->i+l.length<=nt->TR g w nt t tmps->
 (∀ j v,vs[j]? =some v->tmps[i+j]? =some v)->TR g w nt (nJ l i t) tmps
 | [],vs,i,nt,t,tmps,h,hl,T,hj=>T
 |a::l,vs,i,nt,t,tmps,h,hl,T,hj=>by
  simp only[bQ]at h
  obtain⟨v,l',rfl,hv,h⟩:=h
  simp only[List.length_cons]at hl
  have h0:tmps[i]? =some v:=by simpa using hj 0 v rfl
  have hi:i<tmps.size:=(Array.getElem?_eq_some_iff.1 h0).1
  have aeY:tmps.setIfInBounds i v=tmps:=by
   apply Array.ext
   ·simp
   ·intro k h1 h2
    rw[Array.getElem_setIfInBounds]
    split
    ·rename_i e
     subst e
     exact(Option.some.inj ((Array.getElem?_eq_getElem hi).symm.trans h0)).symm
    ·rfl
  have T':=T.put (d:=i) (by omega) hv
  rw[aeY]at T'
  exact ra l l' (i+1) nt _ tmps h (by omega) T' (fun j u e=>by
   have:=hj (j+1) u (by simpa using e)
   rwa [show i+1+j=i+(j+1) by omega])
end
end Go.Ab

noncomputable section
namespace Go.Ab
variable [Io]
def MO(ops:Array Oper):List Nat->List Nat->Prop
 |D,[]=> ∀ i,i<ops.size->i∈D
 |D,i::s=>i<ops.size/\i∉D/\(∀ o e,ops[i]? =some o->e∈o.after->Region.binds .any e=true->e.on∈D)/\MO ops (i::D) s
omit [Io] in
theorem filter_one{p:Nat->Bool}: ∀ (l:List Nat) (i:Nat),l.Nodup->i∈l->p i=true->(l.filter fun x=>p x&&x != i).length+1=(l.filter p).length
 | [],i,_,h,_=>by cases h
 |a::l,i,hn,h,hp=>by
  rw[List.nodup_cons]at hn
  by_cases ha:a=i
  ·subst ha
   have:(l.filter fun x=>p x&&x != a)=l.filter p:=by
    apply List.filter_congr
    intro x hx
    have:x≠a:=fun e=>hn.1 (e▸hx)
    simp[this]
   simp[List.filter_cons,hp,this]
  ·have hi:i∈l:=by
    cases h with
    |head=>exact absurd rfl ha
    |tail _ h=>exact h
   have:=filter_one l i hn.2 hi hp
   by_cases hpa:p a=true
   ·simp only[List.filter_cons,hpa,Bool.true_and,bne_iff_ne,ne_eq,ha,not_false_eq_true,decide_true,if_true,List.length_cons]
    omega
   ·simp only[List.filter_cons,hpa,Bool.false_and,Bool.false_eq_true,if_false]
    exact this
omit [Io] in
theorem least{p:Nat->Prop}: ∀ (n:Nat),p n-> ∃ m,p m/\ ∀ k,k<m-> ¬ p k:=by
 intro n
 induction n using Nat.strongRecOn with
 | _ n ih=>
  intro h
  by_cases hk: ∃ k,k<n/\p k
  ·obtain⟨k,hk,hp⟩:=hk
   exact ih k hk hp
  ·exact⟨n,h,fun k hkn hp=>hk ⟨k,hkn,hp⟩⟩
def Down(ops:Array Oper):Prop:= ∀ (i:Nat) (o:Oper) (e:Edge),ops[i]? =some o->e∈o.after->Region.binds .any e=true->e.on<i
omit [Io] in
theorem Ic{ops:Array Oper}(hd:Down ops): ∀ (fuel t:Nat) (listed:Array Bool) (acc D:List Nat),listed.size=ops.size->(∀ i,i<ops.size->(listed.getD i false=true↔i∈D))->
 ((List.range ops.size).filter fun i=> !listed.getD i false).length=fuel-> ∃ s,Region.linearise.go .any ops fuel t listed acc=acc.reverse++s/\MO ops D s
 |0,t,listed,acc,D,hs,hD,hc=>by
  refine⟨[],by simp[Region.linearise.go],fun i hi=>?_⟩
  have he:((List.range ops.size).filter fun i=> !listed.getD i false)=[]:=List.eq_nil_of_length_eq_zero hc
  rw[List.filter_eq_nil_iff]at he
  have:=he i (by simpa using hi)
  exact(hD i hi).1 (by simpa using this)
 |fuel+1,t,listed,acc,D,hs,hD,hc=>by
  have hgd: ∀ i,i<ops.size->listed.getD i true=listed.getD i false:=by
   intro i hi
   rw[Array.getD_eq_getD_getElem?,Array.getD_eq_getD_getElem?,Array.getElem?_eq_getElem (by omega)]
   rfl
  obtain⟨rs,hrs⟩: ∃ rs,rs=(List.range ops.size).filter (fun i=> !listed.getD i true&&((ops[i]?).map (·.after.all fun e=> !Region.binds .any e||listed.getD e.on false)).getD false):=⟨_,rfl⟩
  have Ie: ∀ i,i∈rs↔i<ops.size/\i∉D/\ ∀ o e,ops[i]? =some o->e∈o.after->Region.binds .any e=true->e.on∈D:=by
   intro i
   rw[hrs,List.mem_filter,List.mem_range]
   constructor
   ·rintro⟨hi,h⟩
    simp only[Bool.and_eq_true,Bool.not_eq_true',hgd i hi]at h
    refine⟨hi,fun h2=>by rw[(hD i hi).2 h2]at h;exact absurd h.1 (by simp),?_⟩
    intro o e ho he hb
    rw[ho]at h
    simp only[Option.map_some,Option.getD_some,Array.all_eq_true_iff_forall_mem]at h
    have:=h.2 e he
    rw[hb]at this
    simp only[Bool.not_true,Bool.false_or]at this
    have fO:e.on<ops.size:=by
     have:=hd i o e ho he hb;omega
    exact(hD _ fO).1 this
   ·rintro⟨hi,h1,h2⟩
    refine⟨hi,?_⟩
    have ho:ops[i]? =some ops[i]:=Array.getElem?_eq_getElem hi
    have hf:listed.getD i false=false:=by
     rw[Bool.eq_false_iff]
     exact fun k=>h1 ((hD i hi).1 k)
    simp only[hgd i hi,hf,ho,Bool.not_false,Bool.true_and,Option.map_some,Option.getD_some,Array.all_eq_true_iff_forall_mem]
    intro e he
    cases hb:Region.binds .any e with
    |false=>rfl
    |true=>
     have fO:e.on<ops.size:=by have:=hd i _ e ho he hb;omega
     simp only[Bool.not_true,Bool.false_or]
     exact(hD _ fO).2 (h2 _ e ho he hb)
  have mW:rs≠[]:=by
   have:((List.range ops.size).filter fun i=> !listed.getD i false)≠[]:=by
    intro h;rw[h]at hc;cases hc
   obtain⟨x,hx⟩:=List.exists_mem_of_ne_nil _ this
   rw[List.mem_filter,List.mem_range]at hx
   obtain⟨m,⟨hm1,Fj⟩,hm3⟩:=least (p:=fun i=>i<ops.size/\i∉D) x ⟨hx.1,fun k=>by
    have:=(hD x hx.1).2 k
    rw[this]at hx;exact absurd hx.2 (by simp)⟩
   have:m∈rs:=by
    rw[Ie]
    refine⟨hm1,Fj,fun o e ho he hb=>?_⟩
    have fO:=hd m o e ho he hb
    exact Classical.byContradiction fun k=>hm3 _ fO ⟨by omega,k⟩
   intro h;rw[h]at this;cases this
  have hlen:0<rs.length:=List.length_pos_iff.2 mW
  have fO:=Nat.mod_lt t hlen
  have B7:rs[t % rs.length]? =some rs[t % rs.length]:=List.getElem?_eq_getElem fO
  obtain⟨i,hi⟩: ∃ i,i=rs[t % rs.length]:=⟨_,rfl⟩
  have V6:i∈rs:=by rw[hi];exact List.getElem_mem fO
  obtain⟨hi1,Gz,hi3⟩:=(Ie i).1 V6
  have hl: ∀ j,j<ops.size->(listed.setIfInBounds i true).getD j false=(listed.getD j false||j == i):=by
   intro j hj
   rw[Array.getD_eq_getD_getElem?,Array.getD_eq_getD_getElem?]
   by_cases BI:j=i
   ·subst BI
    rw[Array.getElem?_setIfInBounds_self_of_lt (by omega)]
    simp
   ·rw[Array.getElem?_setIfInBounds_ne (by omega)]
    simp[BI]
  obtain⟨s,BH,hs2⟩:=Ic hd fuel (t / rs.length) (listed.setIfInBounds i true) (i::acc) (i::D) (by simpa using hs)
   (fun j hj=>by
    rw[hl j hj]
    simp only[Bool.or_eq_true,beq_iff_eq,List.mem_cons,hD j hj]
    exact Or.comm)
   (by
    have hnd:(List.range ops.size).Nodup:=List.nodup_range
    have Xf:listed.getD i false=false:=by rw[Bool.eq_false_iff];exact fun k=>Gz ((hD i hi1).1 k)
    have h1:=filter_one (p:=fun i=> !listed.getD i false) (List.range ops.size) i hnd (by simpa using hi1) (by simp only[Xf];rfl)
    have h2:((List.range ops.size).filter fun j=> !(listed.setIfInBounds i true).getD j false)=(List.range ops.size).filter fun x=>(!listed.getD x false)&&x != i:=by
     apply List.filter_congr
     intro x hx
     rw[hl x (by simpa using hx)]
     cases listed.getD x false<;>simp[bne]
    rw[h2]
    omega)
  refine⟨i::s,?_,hi1,Gz,hi3,hs2⟩
  rw[Region.linearise.go]
  simp only[<-hrs,B7,<-hi,BH,List.reverse_cons,List.append_assoc,List.singleton_append]
omit [Io] in
theorem yn{ops:Array Oper}(hd:Down ops)(t:Nat):MO ops [] (Region.schedule true ops t):=by
 have Dz: ∀ i,i<ops.size->(Array.replicate ops.size false).getD i false=false:=by
  intro i hi
  rw[Array.getD_eq_getD_getElem?]
  simp[hi]
 obtain⟨s,h1,h2⟩:=Ic hd ops.size t (Array.replicate ops.size false) [] [] (by simp) (fun i hi=>by rw[Dz i hi];simp) (by
  have:((List.range ops.size).filter fun i=> !(Array.replicate ops.size false).getD i false)=List.range ops.size:=by
   rw[List.filter_eq_self]
   intro i hi
   rw[Dz i (by simpa using hi)];rfl
  rw[this];simp)
 have:Region.schedule true ops t=s:=by
  simp only[Region.schedule,Bool.true_or,if_true,Region.linearise]
  rw[h1];simp
 rw[this]
 exact h2
def nN(acc:List Nat)(es:List Edge):Nat:=
 List.rec 0 (fun e _ ih=>gD (Region.binds .any e) (Nat.lor (Nat.lor (Nat.pow 2 e.on) ((kE acc e.on).getD 0)) ih) ih) es
def o4(l:List Oper):List Nat->List Nat:=
 List.rec (fun acc=>acc) (fun o _ ih acc=>ih (app acc [nN acc o.after.toList])) l
omit [Io] in
theorem qA{acc:List Nat}{k:Nat}: ∀ {es:List Edge},(nN acc es).testBit k=true-> ∃ e∈es,Region.binds .any e=true/\(e.on=k∨(acc.getD e.on 0).testBit k=true)
 | [],h=>by simp[nN]at h
 |e::es,h=>by
  change (gD (Region.binds .any e) (Nat.lor (Nat.lor (Nat.pow 2 e.on) ((kE acc e.on).getD 0)) (nN acc es)) (nN acc es)).testBit k=true at h
  cases hb:Region.binds .any e with
  |false=>
   rw[hb]at h
   obtain⟨e',he,h'⟩:=qA (es:=es) h
   exact⟨e',List.mem_cons_of_mem _ he,h'⟩
  |true=>
   rw[hb]at h
   change ((2 ^ e.on ||| (kE acc e.on).getD 0) ||| nN acc es).testBit k=true at h
   rw[Nat.testBit_or,Nat.testBit_or,Nat.testBit_two_pow,Bool.or_eq_true,Bool.or_eq_true,fQ]at h
   rcases h with(h|h)|h
   ·exact⟨e,List.mem_cons_self,hb,.inl (by simpa using h)⟩
   ·exact⟨e,List.mem_cons_self,hb,.inr (by simpa[List.getD]using h)⟩
   ·obtain⟨e',he,h'⟩:=qA (es:=es) h
    exact⟨e',List.mem_cons_of_mem _ he,h'⟩
omit [Io] in
theorem vn: ∀ (l:List Oper) (acc:List Nat),(o4 l acc).length=acc.length+l.length/\(∀ k,k<acc.length->(o4 l acc)[k]? =acc[k]?)/\
 ∀ i o k,l[i]? =some o->((o4 l acc).getD (acc.length+i) 0).testBit k=true-> ∃ e∈o.after.toList,Region.binds .any e=true/\(e.on=k∨((o4 l acc).getD e.on 0).testBit k=true)
 | [],acc=>⟨by simp[o4],fun k _=>rfl,fun i o k h=>by simp at h⟩
 |o::l,acc=>by
  have hm:o4 (o::l) acc=o4 l (acc++[nN acc o.after.toList]):=by
   show o4 l (app acc _)=_
   rw[dn]
  obtain⟨h1,h2,h3⟩:=vn l (acc++[nN acc o.after.toList])
  rw[<-hm]at h1 h2 h3
  refine⟨by rw[h1];simp;omega,fun k hk=>?_,?_⟩
  ·rw[h2 k (by simp;omega),List.getElem?_append_left hk]
  ·intro i o' k hi hk
   cases i with
   |zero=>
    simp at hi
    subst hi
    have Xg:(o4 (o::l) acc)[acc.length]? =some (nN acc o.after.toList):=by
     rw[h2 acc.length (by simp)];simp
    simp only[Nat.add_zero,List.getD,Xg,Option.getD_some]at hk
    obtain⟨e,he,hb,LA⟩:=qA hk
    refine⟨e,he,hb,LA.imp id fun h=>?_⟩
    by_cases fO:e.on<acc.length
    ·simp only[List.getD]at h ⊢
     rw[h2 _ (by simp;omega),List.getElem?_append_left fO];exact h
    ·simp only[List.getD,List.getElem?_eq_none (Nat.le_of_not_lt fO)]at h
     simp at h
   |succ i=>
    have:=h3 i o' k (by simpa using hi) (by
     simp only[List.length_append,List.length_cons,List.length_nil,Nat.zero_add]
     rw[show acc.length+1+i=acc.length+(i+1) by omega];exact hk)
    exact this
def Cf(ops:List Oper)(i k:Nat):Bool:=((o4 ops []).getD i 0).testBit k
def yo(ops:List Oper)(D:List Nat):Prop:= ∀ j∈D,∀ k,Cf ops j k=true->k∈D
omit [Io] in
theorem z7{ops:Array Oper}{D:List Nat}(hc:yo ops.toList D){i:Nat}{o:Oper}(ho:ops[i]? =some o)
 (h: ∀ o e,ops[i]? =some o->e∈o.after->Region.binds .any e=true->e.on∈D):(∀ k,Cf ops.toList i k=true->k∈D)/\yo ops.toList (i::D):=by
 have h1: ∀ k,Cf ops.toList i k=true->k∈D:=by
  intro k hk
  obtain⟨_,_,h3⟩:=vn ops.toList []
  obtain⟨e,he,hb,LA⟩:=h3 i o k (by simpa using ho) (by simpa[Cf]using hk)
  have Dy:=h o e ho (by simpa using he) hb
  rcases LA with rfl|LA
  ·exact Dy
  ·exact hc _ Dy k (by simpa[Cf]using LA)
 refine⟨h1,fun j hj k hk=>?_⟩
 cases hj with
 |head=>exact List.mem_cons_of_mem _ (h1 k hk)
 |tail _ hj=>exact List.mem_cons_of_mem _ (hc j hj k hk)
end Go.Ab
