import Derived.Test.YtcnkojgmochcgaaGreatDoorAb8
import Derived.LoopN
noncomputable section
namespace Go.Ab
variable [Io]
section
variable {P:Program}{o:Oper}
omit [Io] in
theorem run_copy_none(w:World)(dT sT ty elem:TypeId)(i:TypeInfo)(hu:P.underlying dT=some (.slice elem))(hi:P.info? elem=some i)(d x:Option Addr)(Pm adR mQ nM:Nat)(hn:Nat.min mQ Pm=0):
 (Builtin.copy_ #[dT,sT] ty #[.slice d Pm adR,.slice x mQ nM]).run P w=.ok (.int .i64 (Int.ofNat 0)) w:=by
 have hl: ∀ a:Addr,(loadCells a 0).run P w=.ok #[] w:=fun a=>run_loadCells_list (P:=P) w a [] (by simp)
 cases d<;>cases x<;>simp[Builtin.copy_,run_underlying hu,Builtin.lenOf,Builtin.firstCells,sizeOf,typeInfo,hi,hn,hl,storeCells,goInt]
omit [Io] in
theorem Dw(w:World)(dT sT ty elem:TypeId)(i:TypeInfo)(hu:P.underlying dT=some (.slice elem))(hi:P.info? elem=some i)(g o Pm adR:Nat)(a:Addr)(mQ nM:Nat)(cur:Array Value)(t:FT cur)(cs:List Value)
 (hg:w.heap[g]? =some (.cells cur t.el t.fz))(hn:cs.length=Nat.min mQ Pm*i.size)(anR: ∀ j v,cs[j]? =some v->w.cell? (a.add j)=some v)(xx:o+cs.length<=cur.size)(h1: ∀ v∈cs,v.oneCell'=true):
 (Builtin.copy_ #[dT,sT] ty #[.slice (some ⟨g,o,none⟩) Pm adR,.slice (some a) mQ nM]).run P w=
  .ok (.int .i64 (Int.ofNat (Nat.min mQ Pm))) (w.setRow g (cur.toList.take o++cs++cur.toList.drop (o+cs.length)).toArray):=by
 have hl:=run_loadCells_list (P:=P) w a cs anR
 have uP:=nS P g o t.el t.fz cs 0 cur w hg t.ok (by simpa using xx) h1
 simp[Builtin.copy_,run_underlying hu,Builtin.lenOf,Builtin.firstCells,sizeOf,typeInfo,hi,<-hn,hl,uP,goInt]
def MY(P:Program)(T:TypeId)(d s:Operand):nY:=match P.underlying T with
 |some (.slice e)=>match P.info? e with
  |some i=>sE i.size (wO (cy d)) (wO (cy s))
  |none=>cW
 | _=>cW
theorem Pn{T T':TypeId}{d s:Operand}(ho:o.op=.call {callee:=.builtin .copy,args:= #[d,s],argTypes:= #[T,T']}):s8 P o (MY P T d s):=by
 intro g w nt t h a v h' H Tr e
 unfold MY at e
 cases hu:P.underlying T with
 |none=>rw[hu]at e;cases e
 |some dd=>
 rw[hu]at e
 cases dd<;>try (cases e;done)
 rename_i el
 simp only at e
 cases hi:P.info? el with
 |none=>rw[hi]at e;cases e
 |some i=>
  rw[hi]at e
  change sE i.size (wO (cy d)) (wO (cy s)) t h=.ok v h' at e
  have hex: ∀ vd vs r w',a.eval d=vd->a.eval s=vs->(Builtin.copy_ #[T,T'] o.type #[vd,vs]).run P w=.ok r w'->(execOp a.eval o).run P w=.ok (.value r) w':=by
   intro vd vs r w' h1 h2 h3
   unfold execOp
   simp only[ho,resolve,invoke,builtin,Sem.run_bind,Sem.run_pure,Result.andThen_ok,List.map_toArray,List.map_cons,List.map_nil,h1,h2,h3]
  unfold sE at e
  split at e
  ·rename_i hd
   split at e
   ·rename_i xv hs
    split at e
    ·rename_i p hsc
     cases e
     have hvd:=pT d _ _ _ _ _ _ Tr hd
     have nP:=pT s _ _ _ _ _ _ Tr hs
     simp only[VR]at hvd
     obtain⟨b,hde⟩:=hvd
     obtain⟨n,cs⟩:=p
     obtain⟨xa,xc,XZ,hxc,Dv⟩:=so H nP hsc
     exact⟨g,w,_,_,hex _ _ _ _ hde XZ (run_copy_none w T T' o.type el i hu hi _ _ _ _ _ _ (Nat.min_zero _)),.inl rfl,Ext.refl _ _ _,H,by simp only[VR]⟩
    ·cases e
   ·cases e
  ·rename_i id off n sz hd
   split at e
   ·rename_i xv hs
    split at e
    ·rename_i m src hsc
     have hvd:=pT d _ _ _ _ _ _ Tr hd
     have nP:=pT s _ _ _ _ _ _ Tr hs
     obtain⟨xa,xc,XZ,hxc,Dv⟩:=so H nP hsc
     simp only[VR]at hvd
     rw[yf]at e
     cases hk:Nat.beq (min m n) 0 with
     |true=>
      rw[hk]at e
      cases e
      have hk0:Nat.min m n=0:=Nat.eq_of_beq_eq_true hk
      rcases hvd with⟨rfl,b,hde⟩|⟨b,s',cap,hm,hde,B3,_⟩
      ·exact⟨g,w,_,_,hex _ _ _ _ hde XZ (run_copy_none w T T' o.type el i hu hi _ _ _ _ _ _ hk0),.inl rfl,Ext.refl _ _ _,H,by simp only[VR]⟩
      ·exact⟨g,w,_,_,hex _ _ _ _ hde XZ (run_copy_none w T T' o.type el i hu hi _ _ _ _ _ _ hk0),.inl rfl,Ext.refl _ _ _,H,by simp only[VR]⟩
     |false=>
      rw[hk]at e
      have hk0:min m n≠0:=fun k=>by rw[k]at hk;cases hk
      simp only[cond_false]at e
      split at e
      ·rename_i cs hg
       cases hb:((Nat.blt 0 i.size&&(Nat.beq sz i.size&&(Nat.beq (len src) (Nat.mul m i.size)&&oD nA src)))&&Nat.ble (Nat.add off (Nat.mul (min m n) i.size)) cs.n)with
       |false=>rw[hb]at e;cases e
       |true=>
        rw[hb]at e
        cases e
        simp only[Bool.and_eq_true,cQ]at hb
        obtain⟨⟨b0,b1,b2,b3⟩,b4⟩:=hb
        have b0:=cM.1 b0
        obtain rfl:=Nat.eq_of_beq_eq_true b1
        have b2:src.length=m*i.size:=Nat.eq_of_beq_eq_true b2
        have b4:off+min m n*i.size<=cs.n:=Nat.le_of_ble_eq_true b4
        have hmn:min m n*i.size<=m*i.size:=Nat.mul_le_mul_right _ (Nat.min_le_left m n)
        rcases hvd with⟨rfl,b,hde⟩|⟨b,s',cap,hm,hde,B3,_⟩
        ·rw[Nat.min_zero]at hk0;exact absurd rfl hk0
        ·obtain⟨C,el',vs,hw,_,Ya,hc⟩:=H.row hg hm
         rcases Dv with rfl|⟨xb,xs,us,rfl,GB,rj⟩
         ·exfalso
          have hz:m*i.size=0:=b2.symm
          have hp:0<min m n*i.size:=Nat.mul_pos (by omega) b0
          omega
         ·have hul:=GB.length
          have JW:(us.take (min m n*i.size)).length=min m n*i.size:=by rw[List.length_take];omega
          have aij:(src.take (min m n*i.size)).length=min m n*i.size:=by rw[List.length_take];omega
          have xw:s'+off+(us.take (min m n*i.size)).length<=C.size:=by
           rw[JW]
           have hp:0<min m n*i.size:=Nat.mul_pos (by omega) b0
           have:=cH.vP Ya hc (n:=off+min m n*i.size) (by rw[nR];exact b4) (by omega)
           omega
          have hr:=Dw (P:=P) w T T' o.type el i hu hi b (s'+off) n cap ⟨xb,xs,none⟩ m xc C el' (us.take (min m n*i.size)) hw JW (fun j v e=>by
           rw[List.getElem?_take]at e
           split at e
           ·exact ta rj j v e
           ·cases e) xw (fun v hv=>cH.JN GB b3 v (List.mem_of_mem_take hv))
          obtain⟨E,H'⟩:=D8 H (C':=(C.toList.take (s'+off)++us.take (min m n*i.size)++C.toList.drop (s'+off+(us.take (min m n*i.size)).length)).toArray)
           hg hm hw (by simp at xw ⊢;omega) (cs':=cs.put off (tk (Nat.mul (min m n) i.size) src)) (us:=vs.take off++(us.take (min m n*i.size)++vs.drop (off+(us.take (min m n*i.size)).length)))
           (by rw[vJ];show cH g w (cs.put off (src.take (min m n*i.size))).toL _;rw[yd (by rw[aij];exact b4),put_eq,aij,JW];exact(Ya.take _).append ((GB.take _).append (Ya.drop _)))
           (fun j v e=>MO hc xw j v e (by have:=Ya.length;rw[nR]at this;omega))
          exact⟨g,_,_,_,hex _ _ _ _ hde XZ hr,.inl rfl,E,H',by simp only[VR]⟩
      ·cases e
    ·cases e
   ·cases e
  ·cases e
theorem Po{T el:TypeId}{x y z:Operand}(ho:o.op=.slice T x none (some y) (some z))(hd:P.underlying T=some (.slice el)){i:TypeInfo}(hi:P.info? el=some i):cN P o (BQ (wO (cy x)) (cy y) (cy z)):=by
 intro g w nt t h a v h' H Tr e
 unfold BQ at e
 split at e
 ·rename_i ky n hy
  split at e
  ·rename_i kz m hz
   obtain⟨h1,h2⟩:=(by
    cases hb:(Nat.beq n 0&&Nat.beq m 0)with
    |false=>rw[hb]at e;cases e
    |true=>rw[Bool.and_eq_true]at hb;exact hb:Nat.beq n 0=true/\Nat.beq m 0=true)
   rw[h1,h2]at e
   simp only[Bool.and_self,cond_true]at e
   obtain rfl:=Nat.eq_of_beq_eq_true h1
   obtain rfl:=Nat.eq_of_beq_eq_true h2
   have A9:=cC y _ _ _ _ _ _ Tr hy
   have hvz:=cC z _ _ _ _ _ _ Tr hz
   simp only[VR]at A9 hvz
   have uO:(sizeOf el).run P w=.ok i.size w:=by simp[sizeOf,typeInfo,hi]
   have rz: ∀ b n c,a.eval x=.slice b n c->(execOp a.eval o).run P w=.ok (.value (.slice b 0 0)) w:=by
    intro b n c hx
    simp[execOp,ho,hx,A9,hvz,Instr.sliceAt,Instr.slice,run_underlying hd,Instr.sliceBounds,Instr.sliceBound,asIntOf,uO]
   split at e
   ·rename_i hx
    cases e
    have hv:=pT x _ _ _ _ _ _ Tr hx
    simp only[VR]at hv
    obtain⟨b,hv⟩:=hv
    exact⟨rfl,_,rz _ _ _ hv,by simp only[VR];exact⟨_,rfl⟩⟩
   ·rename_i hx
    cases e
    have hv:=pT x _ _ _ _ _ _ Tr hx
    simp only[VR]at hv
    rcases hv with⟨_,b,hv⟩|⟨b,s,cap,_,hv,_⟩
    ·exact⟨rfl,_,rz _ _ _ hv,by simp only[VR];exact⟨_,rfl⟩⟩
    ·exact⟨rfl,_,rz _ _ _ hv,by simp only[VR];exact⟨_,rfl⟩⟩
   ·rename_i hx
    cases e
    have hv:=pT x _ _ _ _ _ _ Tr hx
    simp only[VR]at hv
    obtain⟨b,cap,hv,_⟩:=hv
    exact⟨rfl,_,rz _ _ _ hv,by simp only[VR];exact⟨_,rfl⟩⟩
   ·cases e
  ·cases e
 ·cases e
end
end Go.Ab

noncomputable section
namespace Go.Ab
variable [Io]
def nv(P:Program)(call:mS):Prop:=
 ∀ f args h v h',call f args h=.ok v h'->(∀ as w,(callFunc f as).run P w=.ok (.enter f as) w)/\
  ∀ (g:G) (w:World) (vs:List Value),HR g w h->cH g w args vs->
   Calls P f vs.toArray w fun e w'=> ∃ x g',e=.returned x/\Ext g w h g' w' h'/\HR g' w' h'/\VR g' w' v x
def Hb(P:Program)(op:BinOp)(T:TypeId):Option (AV->AV->Option AV):=
 match op with
 | .add=>some s0| .sub=>some sC| .mul=>some tJ| .quo=>some uv| .rem=>some s5
 | .and=>some sD| .or=>some GN| .xor=>some Aj| .andNot=>some sI| .shl=>some BH| .shr=>some DW
 | .lss=>some qN| .leq=>some rK| .gtr=>some qf| .geq=>some qD
 | .eql=>match P.underlying T with
  |some (.int _)=>some (Ak false)
  |some .bool=>some (EU false)
  |some .string=>some (BD false)
  |some (.pointer _)=>some (Dm false)
  |some (.slice _)=>some (BE false)
  |some (.struct _)=>Ha P false T
  |some (.array _ _)=>Ha P false T
  | _=>none
 | .neq=>match P.underlying T with
  |some (.int _)=>some (Ak true)
  |some .bool=>some (EU true)
  |some .string=>some (BD true)
  |some (.pointer _)=>some (Dm true)
  |some (.slice _)=>some (BE true)
  |some (.struct _)=>Ha P true T
  |some (.array _ _)=>Ha P true T
  | _=>none
theorem Yb{P:Program}{op:BinOp}{T:TypeId}{f:AV->AV->Option AV}(h:Hb P op T=some f):mT P op T f:=by
 unfold Hb at h
 cases op<;>simp only at h
 case eql=>
  split at h
  ·cases h;exact R8 T
  ·rename_i hu;cases h;exact XK hu
  ·cases h;exact XM T
  ·rename_i hu;cases h;exact XO hu
  ·rename_i hu;cases h;exact XQ hu
  ·exact MW h
  ·exact MW h
  ·cases h
 case neq=>
  split at h
  ·cases h;exact R9 T
  ·rename_i hu;cases h;exact XL hu
  ·cases h;exact XN T
  ·rename_i hu;cases h;exact XP hu
  ·rename_i hu;cases h;exact XR hu
  ·exact MX h
  ·exact MX h
  ·cases h
 all_goals cases h
 case add=>exact RP T
 case sub=>exact RQ T
 case mul=>exact R7 T
 case quo=>exact R6 T
 case rem=>exact R5 T
 case and=>exact RR T
 case or=>exact RS T
 case xor=>exact RT T
 case shl=>exact RU T
 case shr=>exact RW T
 case andNot=>exact JQ T
 case lss=>exact RX T
 case leq=>exact RZ T
 case gtr=>exact RY T
 case geq=>exact R4 T
def cUn(op:UnOp):Option (AV->Option AV):=
 match op with
 | .not=>some O2
 | .neg=>some O3
 | .xor=>some GO
 | .plus=>none
def Hc(P:Program)(T:TypeId)(x:Operand):nY:=
 match P.underlying T with
 |some d=>match P.info? T with
  |some i=>rL i.size (qT d) (cy x)
  |none=>cW
 |none=>cW
def Ea(P:Program)(S D:TypeId)(x:Operand):nY:=
 match P.underlying S with
 |some _=>match P.underlying D with
  |some (.int k)=>GP (BN k) (cy x)
  | _=>cW
 |none=>cW
def Fg(P:Program)(S D:TypeId)(x:Operand):nY:=
 match P.underlying S with
 |some .string=>match P.underlying D with
  |some (.slice e)=>match P.underlying e with
   |some (.int .u8)=>uQ (cy x)
   | _=>cW
  | _=>cW
 |some (.slice _)=>match P.underlying D with
  |some (.slice e)=>match P.underlying e with
   |some (.int .u8)=>pH (Nat.beq S D) (xf (cy x)) cW
   | _=>cW
  | _=>cW
 | _=>cW
def tc(P:Program)(T:TypeId)(x:Operand)(n:Nat):nY:=
 match P.underlying T with
 |some (.struct fs)=>match fs[n]? with
  |some f=>match P.info? f.type with
   |some i=>pH (Nat.blt 0 i.size) (nD f.offset (cy x)) cW
   |none=>cW
  |none=>cW
 | _=>cW
def B6(P:Program)(T:TypeId)(x:Operand)(n:Nat):nY:=
 match P.underlying T with
 |some (.struct fs)=>match fs[n]? with
  |some f=>match P.underlying f.type with
   |some d=>match P.info? f.type with
    |some i=>uc f.offset i.size (qT d) (cy x)
    |none=>cW
   |none=>cW
  |none=>cW
 | _=>cW
def tf(P:Program)(T:TypeId)(x y:Operand):nY:=
 match P.underlying T with
 |some (.slice e)=>match P.info? e with
  |some i=>xY i.size (cy x) (cy y)
  |none=>cW
 |some (.array n e)=>match P.info? e with
  |some i=>w4 n i.size (cy x) (cy y)
  |none=>cW
 | _=>cW
def B7(P:Program)(T:TypeId)(x y:Operand):nY:=
 match P.underlying T with
 |some (.array n e)=>match P.underlying e with
  |some d=>match P.info? e with
   |some i=>sf n i.size (qT d) (cy x) (cy y)
   |none=>cW
  |none=>cW
 |some .string=>qP (cy x) (cy y)
 | _=>cW
def B8(P:Program)(T:TypeId)(x:Operand)(lo hi:Option Operand):nY:=
 match P.underlying T with
 |some .string=>qO (cy x) (lo.map cy) (hi.map cy)
 |some (.slice e)=>match P.info? e with
  |some i=>oE i.size (cy x) (lo.map cy) (hi.map cy)
  |none=>cW
 |some (.array n e)=>match P.info? e with
  |some i=>pH (Nat.blt 0 i.size) (pP n i.size (cy x) (lo.map cy) (hi.map cy)) cW
  |none=>cW
 | _=>cW
def yp(P:Program)(T:TypeId)(x:Operand)(lo hi:Option Operand)(m:Operand):nY:=
 match lo,hi with
 |none,some y=>match P.underlying T with
  |some (.slice e)=>match P.info? e with
   |some _=>BQ (wO (cy x)) (cy y) (cy m)
   |none=>cW
  | _=>cW
 | _,_=>cW
def Se(P:Program)(T:TypeId)(x:Operand):nY:=
 match P.underlying T with
 |some .string=>vm (cy x)
 |some (.slice _)=>BP (wO (cy x))
 |some (.array n _)=>qg (oC (.int .i64 (.ofNat n)))
 | _=>cW
def Sf(P:Program)(T:TypeId)(x:Operand):nY:=
 match P.underlying T with
 |some (.slice _)=>BO (wO (cy x))
 | _=>cW
def Sg(P:Program)(T:TypeId):nY:=
 match zeroOf P T with
 |some z=>JL z
 |none=>cW
inductive Cl where
 |p0|p1|al|ch
def MZ(P:Program)(call:mS)(c:Call):nY:=
 match c with
 |⟨.builtin .append,args,xy⟩=>match args.toList,xy.toList with
  | [s,x],[T,T']=>pH (Nat.beq T T') (A' P T s x) (MR P T T' s x)
  | _,_=>cW
 |⟨.builtin .copy,args,xy⟩=>match args.toList,xy.toList with
  | [d,s],[T,_]=>MY P T d s
  | _,_=>cW
 |⟨.value (.func f),args,_⟩=>Al call f (args.toList.map cy)
 |⟨.value f,args,_⟩=>vH call (cy f) (args.toList.map cy)
 | _=>cW
def qh(P:Program)(c:Call):Option nY:=
 match c with
 |⟨.builtin .len,args,xy⟩=>match args.toList,xy.toList with
  | [x],[T]=>some (Se P T x)
  | _,_=>some cW
 |⟨.builtin .cap,args,xy⟩=>match args.toList,xy.toList with
  | [x],[T]=>some (Sf P T x)
  | _,_=>some cW
 |⟨.builtin .min,args,_⟩=>match args.toList with
  | [x,y]=>some (Dr (cy x) (cy y))
  | _=>some cW
 |⟨.builtin .max,args,_⟩=>match args.toList with
  | [x,y]=>some (Ds (cy x) (cy y))
  | _=>some cW
 | _=>none
def uV(P:Program)(call:mS)(o:Op):Cl×nY:=
 match o with
 | .move x=>(.p0,qg (cy x))
 | .assign x=>(.p0,qg (cy x))
 | .pick c x y=>(.p0,vk (cy c) (cy x) (cy y))
 | .alloc T=>(.al,Sg P T)
 | .box _ x=>(.al,Dq (cy x))
 | .build T ps=>(.p0,B2 P T ps.toList)
 | .buildSlice T n ps=>(.al,RE P T n ps.toList)
 | .load T x=>(.p1,Hc P T x)
 | .store T x y=>(.ch,Fc P T x y)
 | .nilCheck x=>(.p0,BM (cy x))
 | .binOp op T x y _=>match Hb P op T with
  |some f=>(.p0,vz f (cy x) (cy y))
  |none=>(.p0,cW)
 | .unOp op _ x=>match cUn op with
  |some f=>(.p0,GP f (cy x))
  |none=>(.p0,cW)
 | .convert S D x=>match P.underlying D with
  |some (.slice _)=>(.ch,Fg P S D x)
  | _=>(.p0,Ea P S D x)
 | .makeFunc (.func f) first caps=>match first.toList with
  | []=>(.p0,JM f (caps.toList.map cy))
  | _=>(.p0,cW)
 | .makeSlice T l c=>(.al,G4 P T l c)
 | .makeMap _ r=>match r with
  |none=>(.ch,O4)
  |some _=>(.ch,cW)
 | .slice T x lo hi none=>(.p1,B8 P T x lo hi)
 | .slice T x lo hi (some m)=>(.p1,yp P T x lo hi m)
 | .fieldAddr T x n=>(.p0,tc P T x n)
 | .field T x n=>(.p0,B6 P T x n)
 | .indexAddr T x y=>(.p0,tf P T x y)
 | .index T x y=>(.p0,B7 P T x y)
 | .extract x i=>(.p0,pI (cy x) i)
 | .call c=>match qh P c with
  |some f=>(.p0,f)
  |none=>(.ch,MZ P call c)
 | _=>(.ch,cW)
def Fh(P:Program)(o:Oper)(f:nY):Prop:=
 ∀ (g:G) (w:World) (nt:Nat) (t:Tm) (h:Hp) (a:Act) (v:AV) (h':Hp),HR g w h->TR g w nt t a.tmps->f t h=.ok v h'->
  ∀ next Q,(∀ g' w' x,Ext g w h g' w' h'->HR g' w' h'->VR g' w' v x->next (a.put o.dst x) w')->o.wp P a w next Q
section
variable {P:Program}{o:Oper}
theorem s8.ok{f:nY}(h:s8 P o f):Fh P o f:=by
 intro g w nt t hp a v h' H T e next Q K
 obtain⟨g',w',nx,x,hr,hnx,E,H',hv⟩:=h g w nt t hp a v h' H T e
 unfold Oper.wp
 rw[hr]
 rcases hnx with rfl|⟨rfl,rfl⟩
 ·exact K g' w' x E H' hv
 ·exact K g' w' undef E H' hv
theorem cN.ok{f:nY}(h:cN P o f):Fh P o f:=h.run.ok
theorem uy.ok{f:nY}(h:uy P o f):Fh P o f:=h.run.ok
theorem zI:Fh P o cW:=by intro g w nt t h a v h' _ _ e;cases e
theorem Yc{f:FuncId}{args:Array Operand}{xy:Array TypeId}{call:mS}(hc:nv P call)(ho:o.op=.call {callee:=.value (.func f),args,argTypes:=xy}):
 Fh P o (Al call f (args.toList.map cy)):=by
 intro g w nt t h a v h' H T e next Q K
 unfold Al at e
 split at e
 ·rename_i vs nP
  obtain⟨hen,Eb⟩:=hc f vs h v h' e
  have hv:=A8 T args.toList nP
  have hr:(execOp a.eval o).run P w=.ok (.enter f (args.map a.eval)) w:=by
   simp[execOp,ho,resolve,Act.eval,Deferred.ofValue,invoke,hen]
  unfold Oper.wp
  rw[hr,Oper.upon_enter]
  have:=Eb g w (args.toList.map a.eval) H hv
  rw[show(args.toList.map a.eval).toArray=args.map a.eval from by rw[<-Array.toList_map,Array.toArray_toList]]at this
  refine this.mono ?_
  rintro e w' ⟨x,g',rfl,E,H',hx⟩
  exact K g' w' x E H' hx
 ·cases e
theorem Sh{f:Operand}{args:Array Operand}{xy:Array TypeId}{call:mS}(hc:nv P call)(ho:o.op=.call {callee:=.value f,args,argTypes:=xy}):
 Fh P o (vH call (cy f) (args.toList.map cy)):=by
 intro g w nt t h a v h' H T e next Q K
 unfold vH at e
 split at e
 ·rename_i k cap hf
  split at e
  ·rename_i vs nP
   have hfv:=cC f _ _ _ _ _ _ T hf
   simp only[VR]at hfv
   obtain⟨caps,hfe,ail⟩:=hfv
   obtain⟨hen,Eb⟩:=hc k _ h v h' e
   have hv:=A8 T args.toList nP
   have hr:(execOp a.eval o).run P w=.ok (.enter k (args.map a.eval++caps)) w:=by
    simp[execOp,ho,resolve,hfe,Deferred.ofValue,invoke,hen]
   unfold Oper.wp
   rw[hr,Oper.upon_enter]
   rw[mP]at Eb
   have:=Eb g w (args.toList.map a.eval++caps.toList) H (hv.append ail)
   rw[show(args.toList.map a.eval++caps.toList).toArray=args.map a.eval++caps from by rw[<-Array.toList_map,<-Array.toList_append,Array.toArray_toList]]at this
   refine this.mono ?_
   rintro e w' ⟨x,g',rfl,E,H',hx⟩
   exact K g' w' x E H' hx
  ·cases e
 ·cases e
end
end Go.Ab

noncomputable section
namespace Go.Ab
variable [Io]
section
variable {P:Program}{o:Oper}{call:mS}
theorem J4{T:TypeId}{x:Operand}(ho:o.op=.load T x):cN P o (Hc P T x):=by
 unfold Hc
 split
 ·rename_i d hd
  split
  ·rename_i i hi;exact O' ho hd hi
  ·exact cK
 ·exact cK
theorem B9{S D:TypeId}{x:Operand}(ho:o.op=.convert S D x):cN P o (Ea P S D x):=by
 unfold Ea
 split
 ·rename_i d hd
  split
  ·rename_i k hk;exact J3 ho hd hk
  ·exact cK
 ·exact cK
theorem J5{S D:TypeId}{x:Operand}(ho:o.op=.convert S D x):s8 P o (Fg P S D x):=by
 unfold Fg
 split
 ·rename_i hS
  split
  ·rename_i e hD
   split
   ·rename_i he;exact J2 ho hS hD he
   ·exact cK.run
  ·exact cK.run
 ·split
  ·rename_i e hD
   split
   ·rename_i he
    cases h:Nat.beq S D with
    |true=>
     obtain rfl:=Nat.eq_of_beq_eq_true h
     exact Pj ho hD he
    |false=>exact cK.run
   ·exact cK.run
  ·exact cK.run
 ·exact cK.run
theorem Hd{c:Bool}{f:nY}(h:c=true->cN P o f):cN P o (pH c f cW):=by
 cases c with
 |true=>exact h rfl
 |false=>exact cK
theorem AH{T:TypeId}{x:Operand}{n:Nat}(ho:o.op=.fieldAddr T x n):cN P o (tc P T x n):=by
 unfold tc
 split
 ·rename_i fs hd
  split
  ·rename_i f hf
   split
   ·rename_i i hi
    exact Hd fun h=>BZ ho hd hf hi (by have:=cM.1 h;omega)
   ·exact cK
  ·exact cK
 ·exact cK
theorem He{T:TypeId}{x:Operand}{n:Nat}(ho:o.op=.field T x n):cN P o (B6 P T x n):=by
 unfold B6
 split
 ·rename_i fs hd
  split
  ·rename_i f hf
   split
   ·rename_i d MN
    split
    ·rename_i i hi
     exact JR ho hd hf MN hi
    ·exact cK
   ·exact cK
  ·exact cK
 ·exact cK
theorem AJ{T:TypeId}{x y:Operand}(ho:o.op=.indexAddr T x y):cN P o (tf P T x y):=by
 unfold tf
 split
 ·rename_i e hd
  split
  ·rename_i i hi;exact Rv ho hd hi
  ·exact cK
 ·rename_i n e hd
  split
  ·rename_i i hi;exact Ry ho hd hi
  ·exact cK
 ·exact cK
theorem Hf{T:TypeId}{x y:Operand}(ho:o.op=.index T x y):cN P o (B7 P T x y):=by
 unfold B7
 split
 ·rename_i n e hd
  split
  ·rename_i d MN
   split
   ·rename_i i hi;exact JS ho hd MN hi
   ·exact cK
  ·exact cK
 ·rename_i hd;exact GX ho hd
 ·exact cK
theorem Fi{T:TypeId}{x:Operand}{lo hi:Option Operand}{m:Operand}(ho:o.op=.slice T x lo hi (some m)):cN P o (yp P T x lo hi m):=by
 unfold yp
 split
 ·split
  ·rename_i e hd
   split
   ·rename_i i hi;exact Po ho hd hi
   ·exact cK
  ·exact cK
 ·exact cK
theorem Hg{T:TypeId}{x:Operand}{lo hi:Option Operand}(ho:o.op=.slice T x lo hi none):cN P o (B8 P T x lo hi):=by
 unfold B8
 split
 ·rename_i hd;exact GY ho hd
 ·rename_i e hd
  split
  ·rename_i i hi;exact GZ ho hd hi
  ·exact cK
 ·rename_i n e hd
  split
  ·rename_i i hi;exact Hd fun h=>G1 ho hd hi (by have:=cM.1 h;omega)
  ·exact cK
 ·exact cK
theorem Pp{T:TypeId}{x:Operand}(ho:o.op=.call {callee:=.builtin .cap,args:= #[x],argTypes:= #[T]}):cN P o (Sf P T x):=by
 unfold Sf
 split
 ·rename_i hd;exact Ru ho hd
 ·exact cK
theorem Pq{T:TypeId}{x:Operand}(ho:o.op=.call {callee:=.builtin .len,args:= #[x],argTypes:= #[T]}):cN P o (Se P T x):=by
 unfold Se
 split
 ·rename_i hd;exact O8 ho hd
 ·rename_i e hd;exact Rq ho hd
 ·rename_i n e hd;exact O9 ho hd
 ·exact cK
theorem Yd:uy P o cW:=by intro g w nt t h a v h' _ _ e;cases e
theorem Si{T:TypeId}(ho:o.op=.alloc T):uy P o (Sg P T):=by
 unfold Sg
 split
 ·rename_i z hz;exact RC ho hz
 ·exact Yd
theorem Sj{op:UnOp}{T:TypeId}{x:Operand}{f:AV->Option AV}(ho:o.op=.unOp op T x)(h:cUn op=some f):cN P o (GP f (cy x)):=by
 cases op<;>cases h
 ·exact Rm ho
 ·exact Rp ho
 ·exact Rj ho
omit [Io] in
theorem Ye{α:Type}{a:Array α}{x:α}(h:a.toList=[x]):a= #[x]:=by
 rw[<-Array.toArray_toList (xs:=a),h]
omit [Io] in
theorem Pr{α:Type}{a:Array α}{x y:α}(h:a.toList=[x,y]):a= #[x,y]:=by
 rw[<-Array.toArray_toList (xs:=a),h]
theorem Dx{c:Call}{f:nY}(ho:o.op=.call c)(h:qh P c=some f):cN P o f:=by
 unfold qh at h
 split at h
 ·rename_i args xy
  split at h
  ·rename_i x T h1 h2
   cases h
   rw[Ye h1,Ye h2]at ho
   exact Pq ho
  ·cases h;exact cK
 ·rename_i args xy
  split at h
  ·rename_i x T h1 h2
   cases h
   rw[Ye h1,Ye h2]at ho
   exact Pp ho
  ·cases h;exact cK
 ·rename_i args xy
  split at h
  ·rename_i x y h1
   cases h
   rw[Pr h1]at ho
   exact Sa ho
  ·cases h;exact cK
 ·rename_i args xy
  split at h
  ·rename_i x y h1
   cases h
   rw[Pr h1]at ho
   exact Sb ho
  ·cases h;exact cK
 ·cases h
theorem Sk(hc:nv P call){c:Call}(ho:o.op=.call c):Fh P o (MZ P call c):=by
 unfold MZ
 split
 ·rename_i args xy
  split
  ·rename_i s x T T' h1 h2
   rw[Pr h1,Pr h2]at ho
   cases h:Nat.beq T T' with
   |true=>
    obtain rfl:=Nat.eq_of_beq_eq_true h
    exact(G8 ho).ok
   |false=>exact(Pg ho).ok
  ·exact zI
 ·rename_i args xy
  split
  ·rename_i d s T T' h1 h2
   rw[Pr h1,Pr h2]at ho
   exact(Pn ho).ok
  ·exact zI
 ·exact Yc hc ho
 ·exact Sh hc ho
 ·exact zI
theorem Fj(hc:nv P call):match uV P call o.op with
 |(.p0,f)=>cN P o f
 |(.p1,f)=>cN P o f
 |(.al,f)=>uy P o f
 |(.ch,f)=>Fh P o f:=by
 cases ho:o.op<;>simp only[uV]
 case move x=>exact DZ (.inl ho)
 case assign x=>exact DZ (.inr ho)
 case pick c x y=>exact O7 ho
 case alloc T=>exact Si ho
 case box T x=>exact RD ho
 case build T ps=>exact JV ho
 case buildSlice T n ps=>exact RF ho
 case load T x=>exact J4 ho
 case store T x y=>exact(JY ho).ok
 case nilCheck x=>exact pure_nil ho
 case binOp op T x y yT=>
  cases h:Hb P op T with
  |some f=>exact Rf ho (Yb h)
  |none=>exact cK
 case unOp op T x=>
  cases h:cUn op with
  |some f=>exact Sj ho h
  |none=>exact cK
 case convert S D x=>
  cases h:P.underlying D with
  |none=>exact B9 ho
  |some d=>cases d<;>first|exact B9 ho|exact(J5 ho).ok
 case makeFunc f first caps=>
  cases f<;>try exact zI
  rename_i f
  simp only
  cases h:first.toList with
  |nil=>
   have:first= #[]:=by rw[<-Array.toArray_toList (xs:=first),h]
   subst this
   exact XS ho
  |cons a l=>exact cK
 case makeSlice T l c=>exact Pa ho
 case makeMap T r=>cases r with
  |none=>exact(RL ho).ok
  |some _=>exact zI
 case slice T x lo hi mx=>
  cases mx with
  |none=>exact Hg ho
  |some m=>exact Fi ho
 case fieldAddr T x n=>exact AH ho
 case field T x n=>exact He ho
 case indexAddr T x y=>exact AJ ho
 case index T x y=>exact Hf ho
 case extract x i=>exact E9 ho
 case call c=>
  cases h:qh P c with
  |some f=>exact Dx ho h
  |none=>exact Sk hc ho
 all_goals exact zI
theorem Sl(hc:nv P call):Fh P o (uV P call o.op).2:=by
 have:=Fj (o:=o) hc
 cases h:uV P call o.op with
 |mk c f=>
  rw[h]at this
  cases c
  ·exact cN.ok this
  ·exact cN.ok this
  ·exact uy.ok this
  ·exact this
def gF(j:n9)(want:Bool)(f:nY):nY:=fun t h=>match j t with
 |some (.bool b)=>pH (pH want b (!b)) (f t h) (.ok pz h)
 |some (.wZ [])=>.ok pz h
 | _=>.bad
def r8(P:Program)(call:mS)(nt:Nat)(all:List Oper)(o:Oper):nY:=
 match o.guard with
 |none=>(uV P call o.op).2
 |some (j,want)=>match sa all j with
  |some oj=>match oj.dst with
   |some d=>pH (Nat.blt d nt) (gF (oT d) want (uV P call o.op).2) cW
   |none=>cW
  |none=>cW
def sK(P:Program)(call:mS)(nt:Nat)(all l:List Oper):tH:=
 List.rec fi (fun o _ ih=>match o.dst with
  |some d=>pH (Nat.blt d nt) (st (sT d) (r8 P call nt all o) ih) (fun _ _=>.bad)
  |none=>sn (r8 P call nt all o) ih) l
theorem Fk(hc:nv P call){ops:Array Oper}{i:Nat}(hi:ops[i]? =some o){g w nt t h}{a:Act}{v:AV}{h':Hp}(H:HR g w h)(T:TR g w nt t a.tmps)
 (e:r8 P call nt ops.toList o t h=.ok v h'){Q:Exit->Act->World->Prop}{rest:List Nat}
 (K: ∀ g' w' x,Ext g w h g' w' h'->HR g' w' h'->VR g' w' v x->wpOps P ops Q rest (a.put o.dst x) w'):wpOps P ops Q (i::rest) a w:=by
 rw[wpOps,hi]
 simp only
 unfold r8 at e
 cases hg:o.guard with
 |none=>
  rw[hg]at e
  rw[if_pos (by simp[Region.wanted,hg])]
  exact .inl (Sl hc g w nt t h a v h' H T e _ _ K)
 |some p=>
  obtain⟨j,want⟩:=p
  rw[hg]at e
  simp only[pn]at e
  cases hj:ops.toList[j]? with
  |none=>simp only[hj]at e;cases e
  |some oj=>
  simp only[hj]at e
  cases hd:oj.dst with
  |none=>simp only[hd]at e;cases e
  |some d=>
  simp only[hd]at e
  cases hb:Nat.blt d nt with
  |false=>simp only[hb]at e;cases e
  |true=>
  simp only[hb]at e
  have QR:=cM.1 hb
  change gF (oT d) want (uV P call o.op).2 t h=.ok v h' at e
  have hj':ops[j]? =some oj:=by simpa using hj
  have uO:=T.2.1
  have hy: ∀ y,a.tmps.getD d undef=y->yielded ops a.tmps j=match y with| .bool b=>some b| _=>none:=by
   intro y hy
   have:a.tmps[d]? =some y:=by
    rw[Array.getD_eq_getD_getElem?]at hy
    rw[Array.getElem?_eq_getElem (by omega)]at hy ⊢
    simpa using hy
   simp[yielded,hj',hd,this]
   cases y<;>rfl
  unfold gF at e
  split at e
  ·rename_i b GC
   have hv:=(T.2.2 d _ (by have:=T.1;omega) GC).2
   simp only[VR]at hv
   have Yf:=hy _ hv
   cases Yg:(pH want b (!b))with
   |true=>
    rw[Yg]at e
    have:b=want:=by cases want<;>cases b<;>simp[pH]at Yg<;>rfl
    rw[if_pos (by simp[Region.wanted,hg,Yf,this])]
    exact .inl (Sl hc g w nt t h a v h' H T e _ _ K)
   |false=>
    rw[Yg]at e
    have:b≠want:=by cases want<;>cases b<;>simp[pH]at Yg<;>simp
    rw[if_neg (by simp[Region.wanted,hg,Yf,this])]
    cases e
    exact K g w undef (Ext.refl _ _ _) H (by simp only[pz,VR];exact⟨_,rfl,by simp[cH]⟩)
  ·rename_i GC
   have hv:=(T.2.2 d _ (by have:=T.1;omega) GC).2
   simp only[VR]at hv
   obtain⟨vs,hv,nP⟩:=hv
   have Yf:=hy _ hv
   rw[if_neg (by simp[Region.wanted,hg,Yf])]
   cases e
   exact K g w undef (Ext.refl _ _ _) H (by simp only[pz,VR];exact⟨_,rfl,by simp[cH]⟩)
  ·cases e
end
end Go.Ab

noncomputable section
namespace Go.Ab
variable [Io]
section
variable {P:Program}{call:mS}
def uz(g:G)(w:World)(h:Hp)(nt:Nat)(t':Tm)(h':Hp)(R:Act->World->Prop):Prop:=
 ∀ g' w' a',Ext g w h g' w' h'->HR g' w' h'->TR g' w' nt t' a'.tmps->a'.defers=[]->R a' w'
theorem uz.then{g w h nt h1 g1 w1 t2 h2}{R:Act->World->Prop}(E:Ext g w h g1 w1 h1)(K:uz g w h nt t2 h2 R):uz g1 w1 h1 nt t2 h2 R:=
 fun g' w' a' E' H' T' D'=>K g' w' a' (E.trans E') H' T' D'
def Yh(P:Program)(nt:Nat)(c:Code)(r:tH):Prop:=
 ∀ (g:G) (w:World) (t:Tm) (h:Hp) (a:Act) (t':Tm) (h':Hp),HR g w h->TR g w nt t a.tmps->a.defers=[]->r t h=.ok t' h'->
  ∀ Q:Exit->Act->World->Prop,uz g w h nt t' h' (Q .normal)->c.wp P Q a w
theorem Yi{g w nt t}{a:Act}{d:Nat}{v:AV}{x:Value}(T:TR g w nt t a.tmps)(hd:d<nt)(hv:VR g w v x):TR g w nt (sT d v t) (a.put (some d) x).tmps:=
 T.put hd hv
theorem Sm(hc:nv P call){nt:Nat}(ops:Array Oper): ∀ (l pre:List Oper),ops.toList=pre++l-> ∀ (g:G) (w:World) (t:Tm) (h:Hp) (a:Act) (t':Tm) (h':Hp),
 HR g w h->TR g w nt t a.tmps->a.defers=[]->sK P call nt ops.toList l t h=.ok t' h'-> ∀ Q:Exit->Act->World->Prop,uz g w h nt t' h' (Q .normal)->
  wpOps P ops Q (List.range' pre.length l.length) a w
 | [],pre,_,g,w,t,h,a,t',h',H,T,D,e,Q,K=>by
  cases e
  exact K g w a (Ext.refl _ _ _) H T D
 |o::l,pre,hl,g,w,t,h,a,t',h',H,T,D,e,Q,K=>by
  have hi:ops[pre.length]? =some o:=by
   have:ops.toList[pre.length]? =some o:=by rw[hl];simp
   simpa using this
  have ih:=Sm hc (nt:=nt) ops l (pre++[o]) (by simp[hl])
  simp only[List.length_append,List.length_cons,List.length_nil,Nat.zero_add]at ih
  rw[List.length_cons,List.range'_succ]
  change (match o.dst with
   |some d=>pH (Nat.blt d nt) (st (sT d) (r8 P call nt ops.toList o) (sK P call nt ops.toList l)) (fun _ _=>.bad)
   |none=>sn (r8 P call nt ops.toList o) (sK P call nt ops.toList l)) t h=.ok t' h' at e
  cases hd:o.dst with
  |none=>
   simp only[hd]at e
   unfold sn at e
   cases hg:r8 P call nt ops.toList o t h with
   |bad=>rw[hg]at e;cases e
   |ok v h1=>
    rw[hg]at e
    refine Fk hc hi H T hg fun g1 w1 x E H1 hv=>?_
    rw[hd]
    exact ih g1 w1 t h1 a t' h' H1 (T.mono H E) D e Q (uz.then E K)
  |some d=>
   simp only[hd]at e
   cases hb:Nat.blt d nt with
   |false=>simp only[hb]at e;cases e
   |true=>
    simp only[hb]at e
    change st (sT d) (r8 P call nt ops.toList o) (sK P call nt ops.toList l) t h=.ok t' h' at e
    unfold st at e
    cases hg:r8 P call nt ops.toList o t h with
    |bad=>rw[hg]at e;cases e
    |ok v h1=>
     rw[hg]at e
     refine Fk hc hi H T hg fun g1 w1 x E H1 hv=>?_
     rw[hd]
     exact ih g1 w1 (sT d v t) h1 (a.put (some d) x) t' h' H1 (Yi (T.mono H E) (cM.1 hb) hv) D e Q (uz.then E K)
theorem Pt(hc:nv P call){nt:Nat}(id:Nat)(ops:Array Oper):Yh P nt (.region id ops false) (sK P call nt ops.toList ops.toList):=by
 intro g w t h a t' h' H T D e Q K
 refine wp_region ?_
 have:=Sm hc ops ops.toList [] rfl g w t h a t' h' H T D e Q K
 rw[List.range_eq_range']
 simpa using this
def aim(P:Program)(nt:Nat)(c:Code)(f:Dh):Prop:=
 ∀ (g:G) (w:World) (t:Tm) (h:Hp) (a:Act) (Q:Exit->Act->World->Prop),HR g w h->TR g w nt t a.tmps->a.defers=[]->
  match f t h with
  | .bad=>True
  | .norm t' h'=>uz g w h nt t' h' (Q .normal)->c.wp P Q a w
  | .ret t' h'=>uz g w h nt t' h' (Q .ret)->c.wp P Q a w
  | .exit i t' h'=>uz g w h nt t' h' (Q (.exit i))->c.wp P Q a w
def pg(P:Program)(draw:Array Oper->tH)(call:mS)(n nt:Nat)(c:Code):Dh:=
 Code.rec (motive:=fun _=>Dh) xt
  (fun _ ops d=>cRg (Bool.rec (sK P call nt ops.toList ops.toList) (draw ops) d))
  (fun _ _ ia ib=>nu ia ib)
  (fun c _ _ ia ib=>W4 (cy c) ia ib)
  (fun id _ ib=>xV id ib)
  (fun _ ib=>Xp n ib)
  (fun _ _ _ _ _ _=>GQ)
  (fun i=>Q9 i)
  (fun _ _=>GQ)
  (fun _=>GQ)
  (fun _=>GQ)
  nI
  (fun _=>GQ) c
theorem Ca{nt:Nat}{c:Code}:aim P nt c GQ:=by
 intro g w t h a Q H T D
 exact trivial
theorem Yj(hc:nv P call){draw:Array Oper->tH}{nt:Nat}(hd: ∀ id ops,Yh P nt (.region id ops true) (draw ops))(n:Nat): ∀ c,aim P nt c (pg P draw call n nt c):=by
 intro c
 induction c with
 |skip=>
  intro g w t h a Q H T D K
  exact wp_skip (K g w a (Ext.refl _ _ _) H T D)
 |region id ops d=>
  intro g w t h a Q H T D
  have key:Yh P nt (.region id ops d) (Bool.rec (sK P call nt ops.toList ops.toList) (draw ops) d):=by
   cases d with
   |false=>exact Pt hc id ops
   |true=>exact hd id ops
  show match cRg (Bool.rec (sK P call nt ops.toList ops.toList) (draw ops) d) t h with| .bad=>_| .norm _ _=>_| .ret _ _=>_| .exit _ _ _=>_
  unfold cRg
  cases e:(Bool.rec (sK P call nt ops.toList ops.toList) (draw ops) d:tH) t h with
  |bad=>exact trivial
  |ok t' h'=>exact fun K=>key g w t h a t' h' H T D e Q K
 |seq x y hx hy=>
  intro g w t h a Q H T D
  show match nu (pg P draw call n nt x) (pg P draw call n nt y) t h with| .bad=>_| .norm _ _=>_| .ret _ _=>_| .exit _ _ _=>_
  unfold nu
  have h1:=hx g w t h a (Exit.then (y.wp P Q) Q) H T D
  cases e:pg P draw call n nt x t h with
  |bad=>exact trivial
  |ret t1 vp=>rw[e]at h1;exact fun K=>wp_seq (h1 K)
  |exit i t1 vp=>rw[e]at h1;exact fun K=>wp_seq (h1 K)
  |norm t1 vp=>
   rw[e]at h1
   show match pg P draw call n nt y t1 vp with| .bad=>_| .norm _ _=>_| .ret _ _=>_| .exit _ _ _=>_
   cases e2:pg P draw call n nt y t1 vp with
   |bad=>exact trivial
   |norm t2 h2=>
    intro K
    refine wp_seq (h1 fun g1 w1 a1 E1 H1 T1 D1=>?_)
    have:=hy g1 w1 t1 vp a1 Q H1 T1 D1
    rw[e2]at this
    exact this (uz.then E1 K)
   |ret t2 h2=>
    intro K
    refine wp_seq (h1 fun g1 w1 a1 E1 H1 T1 D1=>?_)
    have:=hy g1 w1 t1 vp a1 Q H1 T1 D1
    rw[e2]at this
    exact this (uz.then E1 K)
   |exit i t2 h2=>
    intro K
    refine wp_seq (h1 fun g1 w1 a1 E1 H1 T1 D1=>?_)
    have:=hy g1 w1 t1 vp a1 Q H1 T1 D1
    rw[e2]at this
    exact this (uz.then E1 K)
 |cond c x y hx hy=>
  intro g w t h a Q H T D
  show match W4 (cy c) (pg P draw call n nt x) (pg P draw call n nt y) t h with| .bad=>_| .norm _ _=>_| .ret _ _=>_| .exit _ _ _=>_
  unfold W4
  cases oN:cy c t with
  |none=>exact trivial
  |some v=>
   cases v<;>try exact trivial
   rename_i b
   have hv:=cC c _ _ _ _ _ _ T oN
   simp only[VR]at hv
   cases b with
   |true=>
    have:=hx g w t h a Q H T D
    show match pg P draw call n nt x t h with| .bad=>_| .norm _ _=>_| .ret _ _=>_| .exit _ _ _=>_
    cases e:pg P draw call n nt x t h<;>rw[e]at this
    ·exact trivial
    all_goals exact fun K=>wp_cond_true hv (this K)
   |false=>
    have:=hy g w t h a Q H T D
    show match pg P draw call n nt y t h with| .bad=>_| .norm _ _=>_| .ret _ _=>_| .exit _ _ _=>_
    cases e:pg P draw call n nt y t h<;>rw[e]at this
    ·exact trivial
    all_goals exact fun K=>wp_cond_false hv (this K)
 |block id x hx=>
  intro g w t h a Q H T D
  show match xV id (pg P draw call n nt x) t h with| .bad=>_| .norm _ _=>_| .ret _ _=>_| .exit _ _ _=>_
  unfold xV
  have:=hx g w t h a (Exit.inBlock id Q) H T D
  cases e:pg P draw call n nt x t h<;>rw[e]at this
  ·exact trivial
  ·exact fun K=>wp_block (this K)
  ·exact fun K=>wp_block (this K)
  ·rename_i i t1 h1
   show match(Bool.rec (Rc.exit i t1 h1) (Rc.norm t1 h1) (Nat.beq i id):Rc)with| .bad=>_| .norm _ _=>_| .ret _ _=>_| .exit _ _ _=>_
   cases hb:Nat.beq i id with
   |true=>
    obtain rfl:=Nat.eq_of_beq_eq_true hb
    exact fun K=>wp_block (this fun g' w' a' E' H' T' D'=>by
     show Exit.inBlock i Q (.exit i) a' w'
     simp only[Exit.inBlock,if_true]
     exact K g' w' a' E' H' T' D')
   |false=>
    have xg:i≠id:=fun k=>by rw[k,Nat.beq_refl]at hb;cases hb
    exact fun K=>wp_block (this fun g' w' a' E' H' T' D'=>by
     show Exit.inBlock id Q (.exit i) a' w'
     simp only[Exit.inBlock,if_neg xg]
     exact K g' w' a' E' H' T' D')
 |loop x hx=>
  intro g w t h a Q H T D
  show match Xp n (pg P draw call n nt x) t h with| .bad=>_| .norm _ _=>_| .ret _ _=>_| .exit _ _ _=>_
  have key: ∀ m,∀ (g:G) (w:World) (t:Tm) (h:Hp) (a:Act),HR g w h->TR g w nt t a.tmps->a.defers=[]->
   match Xp m (pg P draw call n nt x) t h with
   | .bad=>True
   | .norm t' h'=>uz g w h nt t' h' (Q .normal)->Code.rounds P x Q m a w
   | .ret t' h'=>uz g w h nt t' h' (Q .ret)->Code.rounds P x Q m a w
   | .exit i t' h'=>uz g w h nt t' h' (Q (.exit i))->Code.rounds P x Q m a w:=by
   intro m
   induction m with
   |zero=>intro g w t h a H T D;exact trivial
   |succ m ih=>
    intro g w t h a H T D
    have h1:=hx g w t h a (Exit.then (Code.rounds P x Q m) Q) H T D
    show match(Rc.rec Rc.bad (fun t h=>Xp m (pg P draw call n nt x) t h) (fun t h=>Rc.ret t h) (fun i t h=>Rc.exit i t h) (pg P draw call n nt x t h):Rc)with
     | .bad=>_| .norm _ _=>_| .ret _ _=>_| .exit _ _ _=>_
    cases e:pg P draw call n nt x t h with
    |bad=>exact trivial
    |ret t1 vp=>rw[e]at h1;exact fun K=>h1 K
    |exit i t1 vp=>rw[e]at h1;exact fun K=>h1 K
    |norm t1 vp=>
     rw[e]at h1
     show match Xp m (pg P draw call n nt x) t1 vp with| .bad=>_| .norm _ _=>_| .ret _ _=>_| .exit _ _ _=>_
     cases e2:Xp m (pg P draw call n nt x) t1 vp with
     |bad=>exact trivial
     |norm t2 h2=>
      intro K
      refine h1 fun g1 w1 a1 E1 H1 T1 D1=>?_
      have:=ih g1 w1 t1 vp a1 H1 T1 D1
      rw[e2]at this
      exact this (uz.then E1 K)
     |ret t2 h2=>
      intro K
      refine h1 fun g1 w1 a1 E1 H1 T1 D1=>?_
      have:=ih g1 w1 t1 vp a1 H1 T1 D1
      rw[e2]at this
      exact this (uz.then E1 K)
     |exit i t2 h2=>
      intro K
      refine h1 fun g1 w1 a1 E1 H1 T1 D1=>?_
      have:=ih g1 w1 t1 vp a1 H1 T1 D1
      rw[e2]at this
      exact this (uz.then E1 K)
  have:=key n g w t h a H T D
  cases e:Xp n (pg P draw call n nt x) t h<;>rw[e]at this
  ·exact trivial
  all_goals exact fun K=>wp_loop_rounds n (this K)
 |rangeFunc f ps x y _ _=>exact Ca
 |exit i=>
  intro g w t h a Q H T D K
  exact wp_exit (K g w a (Ext.refl _ _ _) H T D)
 |scope x _=>exact Ca
 |label l=>exact Ca
 |goto l=>exact Ca
 |ret=>
  intro g w t h a Q H T D K
  exact wp_ret (K g w a (Ext.refl _ _ _) H T D)
 |refuse s=>exact Ca
end
end Go.Ab

noncomputable section
namespace Go.Ab
variable [Io]
section
variable {P:Program}
def cRV(P:Program)(nt:Nat):ResultVar->Option RV
 | .tmp i=>pH (Nat.blt i nt) (some (.tmp i)) none
 | .cell i T=>match P.underlying T with
  |some d=>match P.info? T with
   |some ti=>pH (Nat.blt i nt) (some (.cell i ti.size (qT d))) none
   |none=>none
  |none=>none
def Hh(P:Program)(nt:Nat)(l:List ResultVar):Option (List RV):=
 List.rec (some []) (fun r _ ih=>match cRV P nt r with
  |some v=>match ih with
   |some vs=>some (v::vs)
   |none=>none
  |none=>none) l
def Cb(tmps:Array Value):ResultVar->Sem Value
 | .tmp t=>pure (tmps.getD t undef)
 | .cell a t=>do loadVar t (<-asAddr (tmps.getD a undef))
theorem Yk{g w nt t h}{tmps:Array Value}(H:HR g w h)(T:TR g w nt t tmps){r:ResultVar}{rv:RV}{v:AV}(hr:cRV P nt r=some rv)(e:Ra t h rv=some v):
 ∃ x,(Cb tmps r).run P w=.ok x w/\VR g w v x:=by
 cases r with
 |tmp i=>
  change pH (Nat.blt i nt) (some (RV.tmp i)) none=some rv at hr
  cases hb:Nat.blt i nt with
  |false=>rw[hb]at hr;cases hr
  |true=>
   rw[hb]at hr
   cases hr
   exact⟨_,rfl,(T.2.2 i v (by have:=T.1;have:=cM.1 hb;omega) e).2⟩
 |cell i ty=>
  unfold cRV at hr
  cases hd:P.underlying ty with
  |none=>simp only[hd]at hr;cases hr
  |some d=>
  simp only[hd]at hr
  cases hi:P.info? ty with
  |none=>simp only[hi]at hr;cases hr
  |some ti=>
  simp only[hi]at hr
  cases hb:Nat.blt i nt with
  |false=>rw[hb]at hr;cases hr
  |true=>
   rw[hb]at hr
   cases hr
   have Fl: @LT.lt Nat _ i 512:=by have:=T.1;have:=cM.1 hb;omega
   change (match t.at i with|some a=>BK h ti.size (qT d) a|none=>none)=some v at e
   split at e
   ·rename_i a ha
    have hv:=(T.2.2 i a Fl ha).2
    unfold BK at e
    split at e
    ·rename_i id off
     split at e
     ·rename_i cs hg
      simp only[VR]at hv
      obtain⟨b,s,hm,hv⟩:=hv
      obtain⟨C,el,vs,hw,_,nP,hc⟩:=H.row hg hm
      obtain⟨z,hz,hr⟩:=tO hd hi nP (pf hw hc) (BR e)
      exact⟨z,by simp only[Cb,hv,asAddr,Sem.run_bind,Sem.run_pure,Result.andThen_ok,hz],hr⟩
     ·cases e
    ·rename_i cs
     simp only[VR]at hv
     obtain⟨b,s,vs,hv,_,hc,nP⟩:=hv
     obtain⟨z,hz,hr⟩:=tO hd hi nP hc e
     rw[Nat.add_zero]at hz
     exact⟨z,by simp only[Cb,hv,asAddr,Sem.run_bind,Sem.run_pure,Result.andThen_ok,hz],hr⟩
    ·cases e
   ·cases e
theorem Hj{g w nt t h}{tmps:Array Value}(H:HR g w h)(T:TR g w nt t tmps): ∀ (l:List ResultVar) {Yl:List RV} {vs:List AV},Hh P nt l=some Yl->DX t h Yl=some vs->
 ∃ xs,(l.mapM (Cb tmps)).run P w=.ok xs w/\cH g w vs xs
 | [],Yl,vs,h1,h2=>by
  cases h1
  cases h2
  exact⟨[],by simp,by simp[cH]⟩
 |r::l,Yl,vs,h1,h2=>by
  change (match cRV P nt r with|some v=>(match Hh P nt l with|some vs=>some (v::vs)|none=>none)|none=>none)=some Yl at h1
  split at h1
  ·rename_i rv Sn
   split at h1
   ·rename_i rl hrl
    cases h1
    change (match Ra t h rv with|some v=>(match DX t h rl with|some vs=>some (v::vs)|none=>none)|none=>none)=some vs at h2
    split at h2
    ·rename_i v hv
     split at h2
     ·rename_i us hu
      cases h2
      obtain⟨x,hx,So⟩:=Yk H T Sn hv
      obtain⟨xs,X6,anT⟩:=Hj H T l hrl hu
      refine⟨x::xs,?_,by simp only[cH];exact⟨x,xs,rfl,So,anT⟩⟩
      simp only[List.mapM_cons,Sem.run_bind,hx,X6,Result.andThen_ok,Sem.run_pure]
     ·cases h2
    ·cases h2
   ·cases h1
  ·cases h1
theorem adT{g w nt t h}{tmps:Array Value}{F:Func}{Yl:List RV}{v:AV}{h':Hp}(H:HR g w h)(T:TR g w nt t tmps)(hr:Hh P nt F.results.toList=some Yl)(e:fin Yl t h=.ok v h'):
 h'=h/\ ∃ x,(results F tmps).run P w=.ok x w/\VR g w v x:=by
 have key: ∀ vs,DX t h Yl=some vs-> ∃ xs:List Value,(results F tmps).run P w=.ok (if h:xs.toArray.size=1 then xs.toArray[0]else .tuple xs.toArray) w/\cH g w vs xs:=by
  intro vs nP
  obtain⟨xs,X6,hv⟩:=Hj H T F.results.toList hr nP
  refine⟨xs,?_,hv⟩
  show((F.results.mapM (Cb tmps)>>=fun vs=>(pure (if h:vs.size=1 then vs[0]else .tuple vs):Sem Value))).run P w=_
  rw[Array.mapM_eq_mapM_toList]
  simp only[Sem.run_bind,Sem.run_map,X6,Result.andThen_ok,Sem.run_pure]
 unfold fin at e
 split at e
 ·rename_i v1 nP
  cases e
  obtain⟨xs,hx,hv⟩:=key _ nP
  simp only[cH]at hv
  obtain⟨x,l',rfl,So,rfl⟩:=hv
  exact⟨rfl,x,by rw[hx];rfl,So⟩
 ·rename_i vs xg nP
  cases e
  obtain⟨xs,hx,hv⟩:=key _ nP
  refine⟨rfl,.tuple xs.toArray,?_,by simp only[VR];exact⟨_,rfl,hv⟩⟩
  rw[hx,dif_neg]
  intro h1
  have hl:=hv.length
  have:vs.length=1:=by simpa[<-hl]using h1
  match vs,this with
  | [a],_=>exact xg a rfl
 ·cases e
def J6(P:Program)(draw:mS->Nat->Array Oper->tH):Prop:=
 ∀ call nt,nv P call-> ∀ id ops,Yh P nt (.region id ops true) (draw call nt ops)
structure Pu(P:Program)(draw:mS->Nat->Array Oper->tH)(f:FuncId)(b:Fb):Prop where
 ex: ∃ F c,P.funcs[f]? =some F/\F.body=some c/\b.ntmps=F.ntmps/\b.ntmps<=512/\Hh P b.ntmps F.results.toList=some b.res/\b.body=fun call n=>pg P (draw call b.ntmps) call n b.ntmps c
 enter: ∀ as w,(callFunc f as).run P w=.ok (.enter f as) w
theorem yq{g w}: ∀ (l:List AV) (vs:List Value) (i nt:Nat) (t:Tm) (tmps:Array Value),cH g w l vs->i+l.length<=nt->TR g w nt t tmps->
 (∀ j v,vs[j]? =some v->tmps[i+j]? =some v)->TR g w nt (uS l i t) tmps
 | [],vs,i,nt,t,tmps,h,hl,T,hj=>T
 |a::l,vs,i,nt,t,tmps,h,hl,T,hj=>by
  simp only[cH]at h
  obtain⟨v,l',rfl,hv,h⟩:=h
  simp only[List.length_cons]at hl
  have h0:tmps[i]? =some v:=by simpa using hj 0 v rfl
  have hi:i<tmps.size:=(Array.getElem?_eq_some_iff.1 h0).1
  have anU:tmps.setIfInBounds i v=tmps:=by
   apply Array.ext
   ·simp
   ·intro k h1 h2
    rw[Array.getElem_setIfInBounds]
    split
    ·rename_i e
     subst e
     exact(Option.some.inj ((Array.getElem?_eq_getElem hi).symm.trans h0)).symm
    ·rfl
  have T':=T.put (d:=i) (by omega) hv
  rw[anU]at T'
  exact yq l l' (i+1) nt _ tmps h (by omega) T' (fun j u e=>by
   have:=hj (j+1) u (by simpa using e)
   rwa [show i+1+j=i+(j+1) by omega])
end
end Go.Ab

noncomputable section
namespace Go.Ab
variable [Io]
def Ym(ops:Array Oper):List Nat->List Nat->Prop
 |D,[]=> ∀ i,i<ops.size->i∈D
 |D,i::s=>i<ops.size/\i∉D/\(∀ o e,ops[i]? =some o->e∈o.after->Region.binds .any e=true->e.on∈D)/\Ym ops (i::D) s
omit [Io] in
theorem filter_one{p:Nat->Bool}: ∀ (l:List Nat) (i:Nat),l.Nodup->i∈l->p i=true->(l.filter fun x=>p x&&x != i).length+1=(l.filter p).length
 | [],i,_,h,_=>by cases h
 |a::l,i,hn,h,hp=>by
  rw[List.nodup_cons]at hn
  by_cases ha:a=i
  ·subst ha
   have:(l.filter fun x=>p x&&x != a)=l.filter p:=by
    apply List.filter_congr
    intro x hx
    have:x≠a:=fun e=>hn.1 (e▸hx)
    simp[this]
   simp[List.filter_cons,hp,this]
  ·have hi:i∈l:=by
    cases h with
    |head=>exact absurd rfl ha
    |tail _ h=>exact h
   have:=filter_one l i hn.2 hi hp
   by_cases hpa:p a=true
   ·simp only[List.filter_cons,hpa,Bool.true_and,bne_iff_ne,ne_eq,ha,not_false_eq_true,decide_true,if_true,List.length_cons]
    omega
   ·simp only[List.filter_cons,hpa,Bool.false_and,Bool.false_eq_true,if_false]
    exact this
omit [Io] in
theorem least{p:Nat->Prop}: ∀ (n:Nat),p n-> ∃ m,p m/\ ∀ k,k<m-> ¬ p k:=by
 intro n
 induction n using Nat.strongRecOn with
 | _ n ih=>
  intro h
  by_cases hk: ∃ k,k<n/\p k
  ·obtain⟨k,hk,hp⟩:=hk
   exact ih k hk hp
  ·exact⟨n,h,fun k hkn hp=>hk ⟨k,hkn,hp⟩⟩
def Down(ops:Array Oper):Prop:= ∀ (i:Nat) (o:Oper) (e:Edge),ops[i]? =some o->e∈o.after->Region.binds .any e=true->e.on<i
omit [Io] in
theorem Sp{ops:Array Oper}(hd:Down ops): ∀ (fuel t:Nat) (listed:Array Bool) (acc D:List Nat),listed.size=ops.size->(∀ i,i<ops.size->(listed.getD i false=true↔i∈D))->
 ((List.range ops.size).filter fun i=> !listed.getD i false).length=fuel-> ∃ s,Region.linearise.go .any ops fuel t listed acc=acc.reverse++s/\Ym ops D s
 |0,t,listed,acc,D,hs,hD,hc=>by
  refine⟨[],by simp[Region.linearise.go],fun i hi=>?_⟩
  have he:((List.range ops.size).filter fun i=> !listed.getD i false)=[]:=List.eq_nil_of_length_eq_zero hc
  rw[List.filter_eq_nil_iff]at he
  have:=he i (by simpa using hi)
  exact(hD i hi).1 (by simpa using this)
 |fuel+1,t,listed,acc,D,hs,hD,hc=>by
  have hgd: ∀ i,i<ops.size->listed.getD i true=listed.getD i false:=by
   intro i hi
   rw[Array.getD_eq_getD_getElem?,Array.getD_eq_getD_getElem?,Array.getElem?_eq_getElem (by omega)]
   rfl
  obtain⟨rs,hrs⟩: ∃ rs,rs=(List.range ops.size).filter (fun i=> !listed.getD i true&&((ops[i]?).map (·.after.all fun e=> !Region.binds .any e||listed.getD e.on false)).getD false):=⟨_,rfl⟩
  have ain: ∀ i,i∈rs↔i<ops.size/\i∉D/\ ∀ o e,ops[i]? =some o->e∈o.after->Region.binds .any e=true->e.on∈D:=by
   intro i
   rw[hrs,List.mem_filter,List.mem_range]
   constructor
   ·rintro⟨hi,h⟩
    simp only[Bool.and_eq_true,Bool.not_eq_true',hgd i hi]at h
    refine⟨hi,fun h2=>by rw[(hD i hi).2 h2]at h;exact absurd h.1 (by simp),?_⟩
    intro o e ho he hb
    rw[ho]at h
    simp only[Option.map_some,Option.getD_some,Array.all_eq_true_iff_forall_mem]at h
    have:=h.2 e he
    rw[hb]at this
    simp only[Bool.not_true,Bool.false_or]at this
    have oI:e.on<ops.size:=by
     have:=hd i o e ho he hb;omega
    exact(hD _ oI).1 this
   ·rintro⟨hi,h1,h2⟩
    refine⟨hi,?_⟩
    have ho:ops[i]? =some ops[i]:=Array.getElem?_eq_getElem hi
    have hf:listed.getD i false=false:=by
     rw[Bool.eq_false_iff]
     exact fun k=>h1 ((hD i hi).1 k)
    simp only[hgd i hi,hf,ho,Bool.not_false,Bool.true_and,Option.map_some,Option.getD_some,Array.all_eq_true_iff_forall_mem]
    intro e he
    cases hb:Region.binds .any e with
    |false=>rfl
    |true=>
     have oI:e.on<ops.size:=by have:=hd i _ e ho he hb;omega
     simp only[Bool.not_true,Bool.false_or]
     exact(hD _ oI).2 (h2 _ e ho he hb)
  have xg:rs≠[]:=by
   have:((List.range ops.size).filter fun i=> !listed.getD i false)≠[]:=by
    intro h;rw[h]at hc;cases hc
   obtain⟨x,hx⟩:=List.exists_mem_of_ne_nil _ this
   rw[List.mem_filter,List.mem_range]at hx
   obtain⟨m,⟨hm1,Pc⟩,hm3⟩:=least (p:=fun i=>i<ops.size/\i∉D) x ⟨hx.1,fun k=>by
    have:=(hD x hx.1).2 k
    rw[this]at hx;exact absurd hx.2 (by simp)⟩
   have:m∈rs:=by
    rw[ain]
    refine⟨hm1,Pc,fun o e ho he hb=>?_⟩
    have oI:=hd m o e ho he hb
    exact Classical.byContradiction fun k=>hm3 _ oI ⟨by omega,k⟩
   intro h;rw[h]at this;cases this
  have hlen:0<rs.length:=List.length_pos_iff.2 xg
  have oI:=Nat.mod_lt t hlen
  have XY:rs[t % rs.length]? =some rs[t % rs.length]:=List.getElem?_eq_getElem oI
  obtain⟨i,hi⟩: ∃ i,i=rs[t % rs.length]:=⟨_,rfl⟩
  have him:i∈rs:=by rw[hi];exact List.getElem_mem oI
  obtain⟨hi1,JU,hi3⟩:=(ain i).1 him
  have hl: ∀ j,j<ops.size->(listed.setIfInBounds i true).getD j false=(listed.getD j false||j == i):=by
   intro j hj
   rw[Array.getD_eq_getD_getElem?,Array.getD_eq_getD_getElem?]
   by_cases Jz:j=i
   ·subst Jz
    rw[Array.getElem?_setIfInBounds_self_of_lt (by omega)]
    simp
   ·rw[Array.getElem?_setIfInBounds_ne (by omega)]
    simp[Jz]
  obtain⟨s,B5,hs2⟩:=Sp hd fuel (t / rs.length) (listed.setIfInBounds i true) (i::acc) (i::D) (by simpa using hs)
   (fun j hj=>by
    rw[hl j hj]
    simp only[Bool.or_eq_true,beq_iff_eq,List.mem_cons,hD j hj]
    exact Or.comm)
   (by
    have hnd:(List.range ops.size).Nodup:=List.nodup_range
    have hlf:listed.getD i false=false:=by rw[Bool.eq_false_iff];exact fun k=>JU ((hD i hi1).1 k)
    have h1:=filter_one (p:=fun i=> !listed.getD i false) (List.range ops.size) i hnd (by simpa using hi1) (by simp only[hlf];rfl)
    have h2:((List.range ops.size).filter fun j=> !(listed.setIfInBounds i true).getD j false)=(List.range ops.size).filter fun x=>(!listed.getD x false)&&x != i:=by
     apply List.filter_congr
     intro x hx
     rw[hl x (by simpa using hx)]
     cases listed.getD x false<;>simp[bne]
    rw[h2]
    omega)
  refine⟨i::s,?_,hi1,JU,hi3,hs2⟩
  rw[Region.linearise.go]
  simp only[<-hrs,XY,<-hi,B5,List.reverse_cons,List.append_assoc,List.singleton_append]
omit [Io] in
theorem Fm{ops:Array Oper}(hd:Down ops)(t:Nat):Ym ops [] (Region.schedule true ops t):=by
 have M3: ∀ i,i<ops.size->(Array.replicate ops.size false).getD i false=false:=by
  intro i hi
  rw[Array.getD_eq_getD_getElem?]
  simp[hi]
 obtain⟨s,h1,h2⟩:=Sp hd ops.size t (Array.replicate ops.size false) [] [] (by simp) (fun i hi=>by rw[M3 i hi];simp) (by
  have:((List.range ops.size).filter fun i=> !(Array.replicate ops.size false).getD i false)=List.range ops.size:=by
   rw[List.filter_eq_self]
   intro i hi
   rw[M3 i (by simpa using hi)];rfl
  rw[this];simp)
 have:Region.schedule true ops t=s:=by
  simp only[Region.schedule,Bool.true_or,if_true,Region.linearise]
  rw[h1];simp
 rw[this]
 exact h2
def uW(acc:List Nat)(es:List Edge):Nat:=
 List.rec 0 (fun e _ ih=>pH (Region.binds .any e) (Nat.lor (Nat.lor (Nat.pow 2 e.on) ((sa acc e.on).getD 0)) ih) ih) es
def vS(l:List Oper):List Nat->List Nat:=
 List.rec (fun acc=>acc) (fun o _ ih acc=>ih (app acc [uW acc o.after.toList])) l
omit [Io] in
theorem xA{acc:List Nat}{k:Nat}: ∀ {es:List Edge},(uW acc es).testBit k=true-> ∃ e∈es,Region.binds .any e=true/\(e.on=k∨(acc.getD e.on 0).testBit k=true)
 | [],h=>by simp[uW]at h
 |e::es,h=>by
  change (pH (Region.binds .any e) (Nat.lor (Nat.lor (Nat.pow 2 e.on) ((sa acc e.on).getD 0)) (uW acc es)) (uW acc es)).testBit k=true at h
  cases hb:Region.binds .any e with
  |false=>
   rw[hb]at h
   obtain⟨e',he,h'⟩:=xA (es:=es) h
   exact⟨e',List.mem_cons_of_mem _ he,h'⟩
  |true=>
   rw[hb]at h
   change ((2 ^ e.on ||| (sa acc e.on).getD 0) ||| uW acc es).testBit k=true at h
   rw[Nat.testBit_or,Nat.testBit_or,Nat.testBit_two_pow,Bool.or_eq_true,Bool.or_eq_true,pn]at h
   rcases h with(h|h)|h
   ·exact⟨e,List.mem_cons_self,hb,.inl (by simpa using h)⟩
   ·exact⟨e,List.mem_cons_self,hb,.inr (by simpa[List.getD]using h)⟩
   ·obtain⟨e',he,h'⟩:=xA (es:=es) h
    exact⟨e',List.mem_cons_of_mem _ he,h'⟩
omit [Io] in
theorem Cc: ∀ (l:List Oper) (acc:List Nat),(vS l acc).length=acc.length+l.length/\(∀ k,k<acc.length->(vS l acc)[k]? =acc[k]?)/\
 ∀ i o k,l[i]? =some o->((vS l acc).getD (acc.length+i) 0).testBit k=true-> ∃ e∈o.after.toList,Region.binds .any e=true/\(e.on=k∨((vS l acc).getD e.on 0).testBit k=true)
 | [],acc=>⟨by simp[vS],fun k _=>rfl,fun i o k h=>by simp at h⟩
 |o::l,acc=>by
  have hm:vS (o::l) acc=vS l (acc++[uW acc o.after.toList]):=by
   show vS l (app acc _)=_
   rw[mP]
  obtain⟨h1,h2,h3⟩:=Cc l (acc++[uW acc o.after.toList])
  rw[<-hm]at h1 h2 h3
  refine⟨by rw[h1];simp;omega,fun k hk=>?_,?_⟩
  ·rw[h2 k (by simp;omega),List.getElem?_append_left hk]
  ·intro i o' k hi hk
   cases i with
   |zero=>
    simp at hi
    subst hi
    have air:(vS (o::l) acc)[acc.length]? =some (uW acc o.after.toList):=by
     rw[h2 acc.length (by simp)];simp
    simp only[Nat.add_zero,List.getD,air,Option.getD_some]at hk
    obtain⟨e,he,hb,W9⟩:=xA hk
    refine⟨e,he,hb,W9.imp id fun h=>?_⟩
    by_cases oI:e.on<acc.length
    ·simp only[List.getD]at h ⊢
     rw[h2 _ (by simp;omega),List.getElem?_append_left oI];exact h
    ·simp only[List.getD,List.getElem?_eq_none (Nat.le_of_not_lt oI)]at h
     simp at h
   |succ i=>
    have:=h3 i o' k (by simpa using hi) (by
     simp only[List.length_append,List.length_cons,List.length_nil,Nat.zero_add]
     rw[show acc.length+1+i=acc.length+(i+1) by omega];exact hk)
    exact this
def J7(ops:List Oper)(i k:Nat):Bool:=((vS ops []).getD i 0).testBit k
def Fo(ops:List Oper)(D:List Nat):Prop:= ∀ j∈D,∀ k,J7 ops j k=true->k∈D
omit [Io] in
theorem Hk{ops:Array Oper}{D:List Nat}(hc:Fo ops.toList D){i:Nat}{o:Oper}(ho:ops[i]? =some o)
 (h: ∀ o e,ops[i]? =some o->e∈o.after->Region.binds .any e=true->e.on∈D):(∀ k,J7 ops.toList i k=true->k∈D)/\Fo ops.toList (i::D):=by
 have h1: ∀ k,J7 ops.toList i k=true->k∈D:=by
  intro k hk
  obtain⟨_,_,h3⟩:=Cc ops.toList []
  obtain⟨e,he,hb,W9⟩:=h3 i o k (by simpa using ho) (by simpa[J7]using hk)
  have Fl:=h o e ho (by simpa using he) hb
  rcases W9 with rfl|W9
  ·exact Fl
  ·exact hc _ Fl k (by simpa[J7]using W9)
 refine⟨h1,fun j hj k hk=>?_⟩
 cases hj with
 |head=>exact List.mem_cons_of_mem _ (h1 k hk)
 |tail _ hj=>exact List.mem_cons_of_mem _ (hc j hj k hk)
end Go.Ab

noncomputable section
namespace Go.Ab
variable [Io]
section
variable {P:Program}{call:mS}
omit [Io] in
theorem yt{t t':Tm}: ∀ (l:List Operand),(∀ x∈l,cy x t=cy x t')->zu (l.map cy) t=zu (l.map cy) t'
 | [],_=>rfl
 |x::l,h=>by
  show(Option.rec none (fun v=>Option.rec none (fun vs=>some (v::vs)) (zu (l.map cy) t)) (cy x t):Option (List AV))=
   Option.rec none (fun v=>Option.rec none (fun vs=>some (v::vs)) (zu (l.map cy) t')) (cy x t')
  rw[h x List.mem_cons_self,yt l fun y hy=>h y (List.mem_cons_of_mem _ hy)]
omit [Io] in
theorem Cd{t t':Tm}: ∀ (l:List (Nat×Operand)),(∀ x∈l.map (·.2),cy x t=cy x t')->tX (uU l) t=tX (uU l) t'
 | [],_=>rfl
 |p::l,h=>by
  show(match cy p.2 t with|some v=>(match tX (uU l) t with|some vs=>some ((p.1,v)::vs)|none=>none)|none=>none)=
   (match cy p.2 t' with|some v=>(match tX (uU l) t' with|some vs=>some ((p.1,v)::vs)|none=>none)|none=>none)
  rw[h p.2 List.mem_cons_self,Cd l fun y hy=>h y (List.mem_cons_of_mem _ hy)]
omit [Io] in
theorem Ce{t t':Tm}{place:Nat->Option (Nat×Nat)}: ∀ (l:List (Nat×Operand)) (ps:List (Nat×Nat×n9)),zF place l=some ps->(∀ x∈l.map (·.2),cy x t=cy x t')->tY ps t=tY ps t'
 | [],ps,e,_=>by cases e;rfl
 |p::l,ps,e,h=>by
  change (match place p.1 with|some (off,size)=>(match zF place l with|some r=>some ((off,size,cy p.2)::r)|none=>none)|none=>none)=some ps at e
  split at e
  ·split at e
   ·rename_i r hr
    cases e
    show(match cy p.2 t with|some v=>(match tY r t with|some vs=>some ((_,_,v)::vs)|none=>none)|none=>none)=
     (match cy p.2 t' with|some v=>(match tY r t' with|some vs=>some ((_,_,v)::vs)|none=>none)|none=>none)
    rw[h p.2 List.mem_cons_self,Ce l r hr fun y hy=>h y (List.mem_cons_of_mem _ hy)]
   ·cases e
  ·cases e
omit [Io] in
theorem Cf{t t':Tm}{d:Nat}(x:Option Operand)(h: ∀ y∈x.toList,cy y t=cy y t'):ua (x.map cy) t d=ua (x.map cy) t' d:=by
 cases x with
 |none=>rfl
 |some y=>simp only[Option.map_some,ua,h y (by simp)]
omit [Io] in
theorem J8{t t':Tm}{n:Nat}(lo hi:Option Operand)(h1: ∀ y∈lo.toList,cy y t=cy y t')(h2: ∀ y∈hi.toList,cy y t=cy y t'):
 bounds (lo.map cy) (hi.map cy) t n=bounds (lo.map cy) (hi.map cy) t' n:=by
 unfold bounds
 rw[Cf lo h1,Cf hi h2]
def oB(t t':Tm)(h:Hp)(f:nY):Prop:=f t h=f t' h
omit [Io] in
theorem Yn{t t':Tm}{h:Hp}:oB t t' h cW:=rfl
omit [Io] in
theorem sL{t t':Tm}{h:Hp}{c:Bool}{f:nY}(e:oB t t' h f):oB t t' h (pH c f cW):=by cases c;exact Yn;exact e
omit [Io] in
theorem Sq{t t':Tm}{h:Hp}{c:Bool}{f f':nY}(e:oB t t' h f)(e':oB t t' h f'):oB t t' h (pH c f f'):=by cases c;exact e';exact e
omit [Io] in
theorem Yo{t t':Tm}{h:Hp}(o:Op)(e: ∀ x∈o.operands.toList,cy x t=cy x t'):oB t t' h (uV P call o).2:=by
 cases o<;>simp only[uV]
 case move x=>simp only[oB,qg,e x (by simp[Op.operands])]
 case assign x=>simp only[oB,qg,e x (by simp[Op.operands])]
 case pick c x y=>simp only[oB,vk,qg,e c (by simp[Op.operands]),e x (by simp[Op.operands]),e y (by simp[Op.operands])]
 case alloc T=>unfold Sg;split<;>rfl
 case box T x=>simp only[oB,Dq,e x (by simp[Op.operands])]
 case build T ps=>
  unfold B2
  split
  ·split
   ·split
    ·rename_i q h3
     simp only[oB,tZ,Ce (t:=t) (t':=t') ps.toList q h3 (fun x hx=>e x (by simpa[Op.operands]using hx))]
    ·rfl
   ·rfl
  ·rfl
 case buildSlice T n ps=>
  have hp:=Cd (t:=t) (t':=t') ps.toList (fun x hx=>e x (by simpa[Op.operands]using hx))
  unfold RE
  split
  ·split
   ·split
    ·refine sL ?_
     simp only[oB,BL,hp]
    ·rfl
   ·rfl
  ·rfl
 case load T x=>
  unfold Hc
  split
  ·split
   ·simp only[oB,rL,e x (by simp[Op.operands])]
   ·rfl
  ·rfl
 case store T x y=>
  unfold Fc
  split
  ·refine sL ?_
   simp only[oB,s6,e x (by simp[Op.operands]),e y (by simp[Op.operands])]
  ·rfl
 case nilCheck x=>simp only[oB,BM,e x (by simp[Op.operands])]
 case binOp op T x y yT=>
  cases Hb P op T with
  |none=>rfl
  |some f=>simp only[oB,vz,e x (by simp[Op.operands]),e y (by simp[Op.operands])]
 case unOp op T x=>
  cases cUn op with
  |none=>rfl
  |some f=>simp only[oB,GP,e x (by simp[Op.operands])]
 case convert S D x=>
  have hx:=e x (by simp[Op.operands])
  split
  ·simp only[Fg]
   split
   ·split
    ·split
     ·simp only[oB,uQ,hx]
     ·rfl
    ·rfl
   ·split
    ·split
     ·refine sL ?_
      simp only[oB,xf,hx]
     ·rfl
    ·rfl
   ·rfl
  ·simp only[Ea]
   split
   ·split
    ·simp only[oB,GP,hx]
    ·rfl
   ·rfl
 case makeFunc f first caps=>
  cases f<;>try rfl
  simp only
  split
  ·simp only[oB,JM,yt (t:=t) (t':=t') caps.toList (fun x hx=>e x (by simp[Op.operands];exact .inr (by simpa using hx)))]
  ·rfl
 case makeMap T r=>cases r<;>rfl
 case makeSlice T l c=>
  have h1:=e l (by simp[Op.operands])
  have h2:=e c (by simp[Op.operands])
  unfold G4
  split
  ·split
   ·split
    ·refine sL ?_
     simp only[oB,tK,h1,h2]
    ·rfl
   ·rfl
  ·rfl
 case slice T x lo hi mx=>
  cases mx with
  |some m=>
   have hx:=e x (by simp[Op.operands])
   have hm:=e m (by simp[Op.operands])
   have hh: ∀ y∈hi.toList,cy y t=cy y t':=fun y hy=>e y (by simp[Op.operands];right;right;left;simpa using hy)
   simp only
   unfold yp
   split
   ·rename_i y
    have hy:=hh y (by simp)
    split
    ·split
     ·simp only[oB,BQ,wO,hx,hy,hm]
     ·rfl
    ·rfl
   ·rfl
  |none=>
  have hx:=e x (by simp[Op.operands])
  have hl: ∀ y∈lo.toList,cy y t=cy y t':=fun y hy=>e y (by simp[Op.operands];right;left;simpa using hy)
  have hh: ∀ y∈hi.toList,cy y t=cy y t':=fun y hy=>e y (by simp[Op.operands];right;right;simpa using hy)
  have hb: ∀ n,bounds (lo.map cy) (hi.map cy) t n=bounds (lo.map cy) (hi.map cy) t' n:=fun n=>J8 lo hi hl hh
  simp only
  unfold B8
  split
  ·simp only[oB,qO,hx,hb]
  ·split
   ·simp only[oB,oE,ub,hx,hb]
   ·rfl
  ·split
   ·refine sL ?_
    simp only[oB,pP,hx,hb]
   ·rfl
  ·rfl
 case fieldAddr T x n=>
  have hx:=e x (by simp[Op.operands])
  unfold tc
  split
  ·split
   ·split
    ·refine sL ?_
     simp only[oB,nD,hx]
    ·rfl
   ·rfl
  ·rfl
 case field T x n=>
  have hx:=e x (by simp[Op.operands])
  unfold B6
  split
  ·split
   ·split
    ·split
     ·simp only[oB,uc,hx]
     ·rfl
    ·rfl
   ·rfl
  ·rfl
 case indexAddr T x y=>
  have hx:=e x (by simp[Op.operands])
  have hy:=e y (by simp[Op.operands])
  unfold tf
  split
  ·split
   ·simp only[oB,xY,hx,hy]
   ·rfl
  ·split
   ·simp only[oB,w4,hx,hy]
   ·rfl
  ·rfl
 case index T x y=>
  have hx:=e x (by simp[Op.operands])
  have hy:=e y (by simp[Op.operands])
  unfold B7
  split
  ·split
   ·split
    ·simp only[oB,sf,hx,hy]
    ·rfl
   ·rfl
  ·simp only[oB,qP,hx,hy]
  ·rfl
 case extract x i=>simp only[oB,pI,e x (by simp[Op.operands])]
 case call c=>
  have uA: ∀ x∈c.args.toList,cy x t=cy x t':=fun x hx=>e x (by simp[Op.operands,Call.operands];right;simpa using hx)
  cases hb:qh P c with
  |some f=>
   simp only
   unfold qh at hb
   split at hb
   ·split at hb
    ·rename_i x T h1 h2
     cases hb
     have hx:=uA x (by simp[h1])
     unfold Se
     split
     ·simp only[oB,vm,hx]
     ·simp only[oB,BP,wO,hx]
     ·rfl
     ·rfl
    ·cases hb;rfl
   ·split at hb
    ·rename_i x T h1 h2
     cases hb
     have hx:=uA x (by simp[h1])
     unfold Sf
     split
     ·simp only[oB,BO,wO,hx]
     ·rfl
    ·cases hb;rfl
   ·split at hb
    ·rename_i x y h1
     cases hb
     simp only[oB,Dr,vz,uA x (by simp[h1]),uA y (by simp[h1])]
    ·cases hb;rfl
   ·split at hb
    ·rename_i x y h1
     cases hb
     simp only[oB,Ds,vz,uA x (by simp[h1]),uA y (by simp[h1])]
    ·cases hb;rfl
   ·cases hb
  |none=>
   simp only
   unfold MZ
   split
   ·split
    ·rename_i s x T T' h1 h2
     have h3:=uA s (by simp[h1])
     have h4:=uA x (by simp[h1])
     refine Sq ?_ ?_
     ·unfold A'
      split
      ·split
       ·split
        ·refine sL ?_
         simp only[oB,oF,uR,wO,h3,h4]
        ·rfl
       ·rfl
      ·rfl
     ·unfold MR
      split
      ·unfold MQ
       split
       ·split
        ·split
         ·split
          ·refine sL ?_
           simp only[oB,yc,h3,h4]
          ·rfl
         ·rfl
        ·rfl
       ·rfl
      ·unfold MP
       split
       ·split
        ·split
         ·split
          ·refine sL ?_
           simp only[oB,tL,h3,h4]
          ·rfl
         ·rfl
        ·rfl
       ·rfl
    ·rfl
   ·split
    ·rename_i d s T T' h1 h2
     have h3:=uA d (by simp[h1])
     have h4:=uA s (by simp[h1])
     unfold MY
     split
     ·split
      ·simp only[oB,sE,wO,h3,h4]
      ·rfl
     ·rfl
    ·rfl
   ·rename_i f args xy
    simp only[oB,Al,yt (t:=t) (t':=t') args.toList uA]
   ·rename_i f args xy _
    have hf:=e f (by simp[Op.operands,Call.operands])
    simp only[oB,vH,hf,yt (t:=t) (t':=t') args.toList uA]
   ·rfl
 all_goals rfl
def Hl:Operand->List Nat
 | .tmp i=>[i]
 | _=>[]
def wE(all:List Oper)(o:Oper):List Nat:=
 app (List.rec [] (fun x _ ih=>app (Hl x) ih) o.op.operands.toList) (match o.guard with
  |none=>[]
  |some (j,_)=>match sa all j with
   |some oj=>match oj.dst with
    |some d=>[d]
    |none=>[]
   |none=>[])
omit [Io] in
theorem Hm{x:Operand}{i:Nat}: ∀ {l:List Operand},x∈l->i∈Hl x->i∈(List.rec [] (fun x _ ih=>app (Hl x) ih) l:List Nat)
 | [],h,_=>by cases h
 |y::l,h,hi=>by
  show i∈app (Hl y) _
  rw[mP]
  cases h with
  |head=>exact List.mem_append_left _ hi
  |tail _ h=>exact List.mem_append_right _ (Hm h hi)
omit [Io] in
theorem Yp{nt:Nat}{all:List Oper}{o:Oper}{t t':Tm}{h:Hp}(e: ∀ u∈wE all o,t.at u=t'.at u):r8 P call nt all o t h=r8 P call nt all o t' h:=by
 have hx: ∀ x∈o.op.operands.toList,cy x t=cy x t':=by
  intro x hx
  cases x with
  |tmp i=>
   have:=e i (by unfold wE;rw[mP];exact List.mem_append_left _ (Hm hx (by simp[Hl])))
   show pH (Nat.blt i 512) (oT i) oX t=pH (Nat.blt i 512) (oT i) oX t'
   cases Nat.blt i 512
   ·rfl
   ·exact this
  |const v=>show(match O1 v with|some a=>oC a|none=>oX) t=(match O1 v with|some a=>oC a|none=>oX) t';cases O1 v<;>rfl
  |global g=>rfl
  |func f=>rfl
 have hd:=Yo (P:=P) (call:=call) (h:=h) o.op hx
 unfold r8
 cases hg:o.guard with
 |none=>exact hd
 |some p=>
  obtain⟨j,want⟩:=p
  simp only
  cases hj:sa all j with
  |none=>rfl
  |some oj=>
   simp only
   cases hdj:oj.dst with
   |none=>rfl
   |some d=>
    simp only
    cases Nat.blt d nt with
    |false=>rfl
    |true=>
     have MN:t.at d=t'.at d:=e d (by
      unfold wE
      rw[mP,hg]
      refine List.mem_append_right _ ?_
      simp[hj,hdj])
     show gF (oT d) want (uV P call o.op).2 t h=gF (oT d) want (uV P call o.op).2 t' h
     unfold gF
     unfold oB at hd
     rw[hd]
     show(match t.at d with|some (.bool b)=>_|some (.wZ [])=>_| _=>_)=(match t'.at d with|some (.bool b)=>_|some (.wZ [])=>_| _=>_)
     rw[MN]
end
end Go.Ab

noncomputable section
namespace Go.Ab
variable [Io]
section
variable {P:Program}{call:mS}
def rN(f:nY):Prop:= ∀ t h h0,f t h=(match f t h0 with| .ok v _=>.ok v h| .bad=>.bad)
omit [Io] in
theorem rN.ok{f:nY}(i:rN f){t:Tm}{h h':Hp}{v:AV}(e:f t h=.ok v h'):h'=h/\ ∀ h0,f t h0=.ok v h0:=by
 refine⟨?_,fun h0=>by rw[i t h0 h,e]⟩
 have:=i t h h
 rw[e]at this
 exact(Ro.ok.inj this).2
omit [Io] in
theorem mV:rN cW:=fun _ _ _=>rfl
omit [Io] in
theorem M4{c:Bool}{f:nY}(i:rN f):rN (pH c f cW):=by cases c;exact mV;exact i
omit [Io] in
theorem vT{x:n9}:rN (qg x):=by intro t h h0;unfold qg;cases x t<;>rfl
omit [Io] in
theorem Sr{c x y:n9}:rN (vk c x y):=by
 intro t h h0;unfold vk;cases c t<;>try rfl
 rename_i a;cases a<;>try rfl
 rename_i b;cases b
 ·exact vT t h h0
 ·exact vT t h h0
omit [Io] in
theorem Yq{x:n9}:rN (BM x):=by intro t h h0;unfold BM;cases x t<;>try rfl
                               rename_i a;cases a<;>rfl
omit [Io] in
theorem Fp{f:AV->AV->Option AV}{x y:n9}:rN (vz f x y):=by
 intro t h h0;unfold vz;cases x t<;>try rfl
 rename_i a;cases y t<;>try rfl
 rename_i b;simp only;cases f a b<;>rfl
omit [Io] in
theorem Ss{f:AV->Option AV}{x:n9}:rN (GP f x):=by
 intro t h h0;unfold GP;cases x t<;>try rfl
 rename_i a;simp only;cases f a<;>rfl
omit [Io] in
theorem adU{f:FuncId}{l:List n9}:rN (JM f l):=by intro t h h0;unfold JM;cases zu l t<;>rfl
omit [Io] in
theorem Pv{z:List AV}{ps:List (Nat×Nat×n9)}:rN (tZ z ps):=by
 intro t h h0;unfold tZ;cases tY ps t<;>try rfl
 rename_i vs;simp only;cases BJ vs z<;>rfl
omit [Io] in
theorem Dy{n:Nat}{x:n9}:rN (nD n x):=by intro t h h0;unfold nD;cases x t<;>try rfl
                                        rename_i a;cases a<;>rfl
omit [Io] in
theorem Pw{n m:Nat}{b:Bool}{x:n9}:rN (uc n m b x):=by
 intro t h h0;unfold uc;cases x t<;>try rfl
 rename_i a;cases a<;>try rfl
 rename_i cs;simp only;cases part b cs n m<;>rfl
omit [Io] in
theorem Yr{n:Nat}{x y:n9}:rN (xY n x y):=by
 intro t h h0;unfold xY;cases y t<;>try rfl
 rename_i a;cases a<;>try rfl
 rename_i k i;cases i<;>try rfl
 rename_i i;simp only;cases x t<;>try rfl
 rename_i a;cases a<;>try rfl
 ·rename_i id off m sz;simp only;cases(Nat.blt i m&&Nat.beq sz n)<;>rfl
 ·rename_i m cs;simp only;cases Nat.blt i m<;>rfl
omit [Io] in
theorem Ys{m n:Nat}{x y:n9}:rN (w4 m n x y):=by
 intro t h h0;unfold w4;cases y t<;>try rfl
 rename_i a;cases a<;>try rfl
 rename_i k i;cases i<;>try rfl
 rename_i i;simp only;cases x t<;>try rfl
 rename_i a;cases a<;>try rfl
 ·simp only;cases Nat.blt i m<;>rfl
 ·simp only;cases Nat.blt i m<;>rfl
omit [Io] in
theorem Px{m n:Nat}{b:Bool}{x y:n9}:rN (sf m n b x y):=by
 intro t h h0;unfold sf;cases x t<;>try rfl
 rename_i a;cases a<;>try rfl
 rename_i cs;simp only;cases y t<;>try rfl
 rename_i a;cases a<;>try rfl
 rename_i k i;cases i<;>try rfl
 rename_i i;simp only;cases Nat.blt i m<;>try rfl
 simp only[cond_true];cases part b cs (Nat.mul i n) n<;>rfl
omit [Io] in
theorem J9{x y:n9}:rN (qP x y):=by
 intro t h h0;unfold qP;cases x t<;>try rfl
 rename_i a;cases a<;>try rfl
 rename_i v;cases v<;>try rfl
 rename_i s;simp only;cases y t<;>try rfl
 rename_i a;cases a<;>try rfl
 ·rename_i k i;cases i<;>try rfl
  rename_i i;simp only;cases sa s.data.toList i<;>rfl
 ·rename_i k sv lo hi o;simp only;cases(!(r7 (Int.add lo o) 0)&&r7 (Int.add hi o) (.ofNat s.size))<;>rfl
omit [Io] in
theorem Hn{x:n9}{i:Nat}:rN (pI x i):=by
 intro t h h0;unfold pI;cases x t<;>try rfl
 rename_i a;cases a<;>try rfl
 rename_i vs;simp only;cases sa vs i<;>rfl
omit [Io] in
theorem Su{x:n9}:rN (vm x):=by
 intro t h h0;unfold vm;cases x t<;>try rfl
 rename_i a;cases a<;>try rfl
 rename_i v;cases v<;>rfl
omit [Io] in
theorem Yt{x:n9}:rN (BP x):=by
 intro t h h0;unfold BP;cases x t<;>try rfl
 rename_i a;cases a<;>rfl
omit [Io] in
theorem Yu{x:n9}:rN (BO x):=by
 intro t h h0;unfold BO;cases x t<;>try rfl
 rename_i a;cases a<;>rfl
omit [Io] in
theorem Yv{o:Op}(hc:(uV P call o).1=.p0):rN (uV P call o).2:=by
 cases o<;>simp only[uV]at hc ⊢
 case move x=>exact vT
 case assign x=>exact vT
 case pick c x y=>exact Sr
 case alloc T=>cases hc
 case box T x=>cases hc
 case build T ps=>
  unfold B2
  split
  ·split
   ·split
    ·exact Pv
    ·exact mV
   ·exact mV
  ·exact mV
 case buildSlice T n ps=>cases hc
 case load T x=>cases hc
 case store T x y=>cases hc
 case nilCheck x=>exact Yq
 case binOp op T x y yT=>
  cases Hb P op T with
  |some f=>exact Fp
  |none=>exact mV
 case unOp op T x=>
  cases cUn op with
  |some f=>exact Ss
  |none=>exact mV
 case convert S D x=>
  have oN:rN (Ea P S D x):=by
   unfold Ea
   split
   ·split
    ·exact Ss
    ·exact mV
   ·exact mV
  split
  ·rename_i h
   rw[h]at hc
   cases hc
  ·exact oN
 case makeFunc f first caps=>
  cases f<;>try (cases hc;done)
  simp only
  cases first.toList with
  |nil=>exact adU
  |cons a l=>exact mV
 case makeSlice T l c=>cases hc
 case slice T x lo hi mx=>cases mx<;>cases hc
 case fieldAddr T x n=>
  unfold tc
  split
  ·split
   ·split
    ·exact M4 Dy
    ·exact mV
   ·exact mV
  ·exact mV
 case field T x n=>
  unfold B6
  split
  ·split
   ·split
    ·split
     ·exact Pw
     ·exact mV
    ·exact mV
   ·exact mV
  ·exact mV
 case indexAddr T x y=>
  unfold tf
  split
  ·split
   ·exact Yr
   ·exact mV
  ·split
   ·exact Ys
   ·exact mV
  ·exact mV
 case index T x y=>
  unfold B7
  split
  ·split
   ·split
    ·exact Px
    ·exact mV
   ·exact mV
  ·exact J9
  ·exact mV
 case extract x i=>exact Hn
 case call c=>
  cases hb:qh P c with
  |none=>rw[hb]at hc;cases hc
  |some f=>
   simp only
   unfold qh at hb
   split at hb
   ·split at hb
    ·cases hb
     unfold Se
     split
     ·exact Su
     ·exact Yt
     ·exact vT
     ·exact mV
    ·cases hb;exact mV
   ·split at hb
    ·cases hb
     unfold Sf
     split
     ·exact Yu
     ·exact mV
    ·cases hb;exact mV
   ·split at hb
    ·cases hb;exact Fp
    ·cases hb;exact mV
   ·split at hb
    ·cases hb;exact Fp
    ·cases hb;exact mV
   ·cases hb
 case makeMap T r=>cases r<;>cases hc
 all_goals (cases hc)
def Py(f:nY):Prop:= ∀ t h v h',f t h=.ok v h'-> ∀ h0:Hp,h0.next=h.next->(h'=h/\f t h0=.ok v h0)∨ ∃ cs,h'=nn h cs/\f t h0=.ok v (nn h0 cs)
omit [Io] in
theorem qi:Py cW:=by intro t h v h' e;cases e
omit [Io] in
theorem Ch{c:Bool}{f:nY}(i:Py f):Py (pH c f cW):=by cases c;exact qi;exact i
omit [Io] in
theorem Sx{o:Op}(hc:(uV P call o).1=.al):Py (uV P call o).2:=by
 cases o<;>simp only[uV]at hc ⊢
 case alloc T=>
  unfold Sg
  split
  ·intro t h v h' e h0 hn
   cases e
   exact .inr ⟨_,rfl,by unfold JL;rw[hn]⟩
  ·exact qi
 case box T x=>
  intro t h v h' e h0 hn
  unfold Dq at e ⊢
  cases hx:cy x t with
  |none=>rw[hx]at e;cases e
  |some a=>rw[hx]at e;cases e;exact .inr ⟨_,rfl,by rw[hn]⟩
 case buildSlice T n ps=>
  unfold RE
  split
  ·split
   ·split
    ·refine Ch ?_
     rename_i ie tP _ z hz0
     intro t h v h' e h0 hn
     unfold BL at e ⊢
     cases hp:tX (uU ps.toList) t with
     |none=>rw[hp]at e;cases e
     |some vs=>
      rw[hp]at e
      simp only at e ⊢
      cases hz:Nat.beq n 0 with
      |true=>
       rw[hz]at e
       cases vs with
       |nil=>cases e;exact .inl ⟨rfl,rfl⟩
       |cons _ _=>cases e
      |false=>
       rw[hz]at e
       simp only[cond_false]at e ⊢
       cases hf:wA n ie.size z vs with
       |none=>rw[hf]at e;cases e
       |some cs=>rw[hf]at e;cases e;exact .inr ⟨_,rfl,by rw[hn]⟩
    ·exact qi
   ·exact qi
  ·exact qi
 case makeSlice T l c=>
  unfold G4
  split
  ·split
   ·split
    ·refine Ch ?_
     rename_i ie tP _ z hz0
     intro t h v h' e h0 hn
     unfold tK at e ⊢
     cases hl:cy l t with
     |none=>rw[hl]at e;cases e
     |some a=>
     cases a<;>try (rw[hl]at e;cases e;done)
     rename_i k i
     cases i<;>try (rw[hl]at e;cases e;done)
     rename_i i
     rw[hl]at e
     simp only at e ⊢
     cases XX:cy c t with
     |none=>rw[XX]at e;cases e
     |some a=>
     cases a<;>try (rw[XX]at e;cases e;done)
     rename_i k2 j
     cases j<;>try (rw[XX]at e;cases e;done)
     rename_i j
     rw[XX]at e
     simp only at e ⊢
     cases hb:(Nat.ble i j&&Nat.ble (Nat.mul j ie.bytes) 70368744177664)with
     |false=>rw[hb]at e;cases e
     |true=>
     rw[hb]at e
     simp only[cond_true]at e ⊢
     cases hz:Nat.beq j 0 with
     |true=>rw[hz]at e;cases e;exact .inl ⟨rfl,rfl⟩
     |false=>rw[hz]at e;cases e;exact .inr ⟨_,rfl,by simp only[cond_false];rw[hn]⟩
    ·exact qi
   ·exact qi
  ·exact qi
 case binOp op T x y yT=>cases h:Hb P op T<;>rw[h]at hc<;>cases hc
 case unOp op T x=>cases h:cUn op<;>rw[h]at hc<;>cases hc
 case convert S D x=>
  cases h:P.underlying D with
  |none=>rw[h]at hc;cases hc
  |some d=>cases d<;>rw[h]at hc<;>cases hc
 case makeFunc f first caps=>
  cases f<;>try (cases hc;done)
  simp only at hc
  cases h:first.toList<;>rw[h]at hc<;>cases hc
 case slice T x lo hi mx=>cases mx<;>cases hc
 case makeMap T r=>cases r<;>cases hc
 case call c=>cases h:qh P c<;>rw[h]at hc<;>cases hc
 all_goals (cases hc)
end
end Go.Ab
