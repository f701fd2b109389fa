import Derived.Test.YtcnkojgmochcgaaGreatDoorAb10
import Derived.LoopN
noncomputable section
namespace Go.Ab
variable [Io]
section
variable {P:Program}{o:Oper}
omit [Io] in
theorem run_copy_none(w:World)(dT sT ty elem:TypeId)(i:TypeInfo)(hu:P.underlying dT=some (.slice elem))(hi:P.info? elem=some i)(d x:Option Addr)(BA Nl bX cZ:Nat)(hn:Nat.min bX BA=0):
 (Builtin.copy_ #[dT,sT] ty #[.slice d BA Nl,.slice x bX cZ]).run P w=.ok (.int .i64 (Int.ofNat 0)) w:=by
 have hl: ∀ a:Addr,(loadCells a 0).run P w=.ok #[] w:=fun a=>run_loadCells_list (P:=P) w a [] (by simp)
 cases d<;>cases x<;>simp[Builtin.copy_,run_underlying hu,Builtin.lenOf,Builtin.firstCells,sizeOf,typeInfo,hi,hn,hl,storeCells,goInt]
omit [Io] in
theorem rN(w:World)(dT sT ty elem:TypeId)(i:TypeInfo)(hu:P.underlying dT=some (.slice elem))(hi:P.info? elem=some i)(g o BA Nl:Nat)(a:Addr)(bX cZ:Nat)(cur:Array Value)(t:FT cur)(cs:List Value)
 (hg:w.heap[g]? =some (.cells cur t.el t.fz))(hn:cs.length=Nat.min bX BA*i.size)(Y2: ∀ j v,cs[j]? =some v->w.cell? (a.add j)=some v)(jL:o+cs.length<=cur.size)(h1: ∀ v∈cs,v.oneCell'=true):
 (Builtin.copy_ #[dT,sT] ty #[.slice (some ⟨g,o,none⟩) BA Nl,.slice (some a) bX cZ]).run P w=
  .ok (.int .i64 (Int.ofNat (Nat.min bX BA))) (w.setRow g (cur.toList.take o++cs++cur.toList.drop (o+cs.length)).toArray):=by
 have hl:=run_loadCells_list (P:=P) w a cs Y2
 have pH:=db P g o t.el t.fz cs 0 cur w hg t.ok (by simpa using jL) h1
 simp[Builtin.copy_,run_underlying hu,Builtin.lenOf,Builtin.firstCells,sizeOf,typeInfo,hi,<-hn,hl,pH,goInt]
def zx(P:Program)(T:TypeId)(d s:Operand):dh:=match P.underlying T with
 |some (.slice e)=>match P.info? e with
  |some i=>fQ i.size (wO (aU d)) (wO (aU s))
  |none=>bE
 | _=>bE
theorem BB{T T':TypeId}{d s:Operand}(ho:o.op=.call {callee:=.builtin .copy,args:= #[d,s],argTypes:= #[T,T']}):iz P o (zx P T d s):=by
 intro g w nt t h a v h' H Tr e
 unfold zx at e
 cases hu:P.underlying T with
 |none=>rw[hu]at e;cases e
 |some dd=>
 rw[hu]at e
 cases dd<;>try (cases e;done)
 rename_i el
 simp only at e
 cases hi:P.info? el with
 |none=>rw[hi]at e;cases e
 |some i=>
  rw[hi]at e
  change fQ i.size (wO (aU d)) (wO (aU s)) t h=.ok v h' at e
  have hex: ∀ vd vs r w',a.eval d=vd->a.eval s=vs->(Builtin.copy_ #[T,T'] o.type #[vd,vs]).run P w=.ok r w'->(execOp a.eval o).run P w=.ok (.value r) w':=by
   intro vd vs r w' h1 h2 h3
   unfold execOp
   simp only[ho,resolve,invoke,builtin,Sem.run_bind,Sem.run_pure,Result.andThen_ok,List.map_toArray,List.map_cons,List.map_nil,h1,h2,h3]
  unfold fQ at e
  split at e
  ·rename_i hd
   split at e
   ·rename_i xv hs
    split at e
    ·rename_i p Q'
     cases e
     have Qq:=eM d _ _ _ _ _ _ Tr hd
     have da:=eM s _ _ _ _ _ _ Tr hs
     simp only[VR]at Qq
     obtain⟨b,Lp⟩:=Qq
     obtain⟨n,cs⟩:=p
     obtain⟨xa,xc,HW,hxc,rM⟩:=gK H da Q'
     exact⟨g,w,_,_,hex _ _ _ _ Lp HW (run_copy_none w T T' o.type el i hu hi _ _ _ _ _ _ (Nat.min_zero _)),.inl rfl,Ext.refl _ _ _,H,by simp only[VR]⟩
    ·cases e
   ·cases e
  ·rename_i id off n sz hd
   split at e
   ·rename_i xv hs
    split at e
    ·rename_i m src Q'
     have Qq:=eM d _ _ _ _ _ _ Tr hd
     have da:=eM s _ _ _ _ _ _ Tr hs
     obtain⟨xa,xc,HW,hxc,rM⟩:=gK H da Q'
     simp only[VR]at Qq
     rw[mH]at e
     cases hk:Nat.beq (min m n) 0 with
     |true=>
      rw[hk]at e
      cases e
      have Rl:Nat.min m n=0:=Nat.eq_of_beq_eq_true hk
      rcases Qq with⟨rfl,b,Lp⟩|⟨b,s',cap,hm,Lp,qn,_⟩
      ·exact⟨g,w,_,_,hex _ _ _ _ Lp HW (run_copy_none w T T' o.type el i hu hi _ _ _ _ _ _ Rl),.inl rfl,Ext.refl _ _ _,H,by simp only[VR]⟩
      ·exact⟨g,w,_,_,hex _ _ _ _ Lp HW (run_copy_none w T T' o.type el i hu hi _ _ _ _ _ _ Rl),.inl rfl,Ext.refl _ _ _,H,by simp only[VR]⟩
     |false=>
      rw[hk]at e
      have Rl:min m n≠0:=fun k=>by rw[k]at hk;cases hk
      simp only[cond_false]at e
      split at e
      ·rename_i cs hg
       cases hb:((Nat.blt 0 i.size&&(Nat.beq sz i.size&&(Nat.beq (len src) (Nat.mul m i.size)&&dJ cJ src)))&&Nat.ble (Nat.add off (Nat.mul (min m n) i.size)) cs.n)with
       |false=>rw[hb]at e;cases e
       |true=>
        rw[hb]at e
        cases e
        simp only[Bool.and_eq_true,bJ]at hb
        obtain⟨⟨b0,b1,b2,b3⟩,b4⟩:=hb
        have b0:=bt.1 b0
        obtain rfl:=Nat.eq_of_beq_eq_true b1
        have b2:src.length=m*i.size:=Nat.eq_of_beq_eq_true b2
        have b4:off+min m n*i.size<=cs.n:=Nat.le_of_ble_eq_true b4
        have hmn:min m n*i.size<=m*i.size:=Nat.mul_le_mul_right _ (Nat.min_le_left m n)
        rcases Qq with⟨rfl,b,Lp⟩|⟨b,s',cap,hm,Lp,qn,_⟩
        ·rw[Nat.min_zero]at Rl;exact absurd rfl Rl
        ·obtain⟨C,el',vs,hw,_,Ip,hc⟩:=H.row hg hm
         rcases rM with rfl|⟨xb,xs,us,rfl,uT,fO⟩
         ·exfalso
          have hz:m*i.size=0:=b2.symm
          have hp:0<min m n*i.size:=Nat.mul_pos (by omega) b0
          omega
         ·have YS:=uT.length
          have xN:(us.take (min m n*i.size)).length=min m n*i.size:=by rw[List.length_take];omega
          have Rm:(src.take (min m n*i.size)).length=min m n*i.size:=by rw[List.length_take];omega
          have l5:s'+off+(us.take (min m n*i.size)).length<=C.size:=by
           rw[xN]
           have hp:0<min m n*i.size:=Nat.mul_pos (by omega) b0
           have:=bA.kr Ip hc (n:=off+min m n*i.size) (by rw[dm];exact b4) (by omega)
           omega
          have hr:=rN (P:=P) w T T' o.type el i hu hi b (s'+off) n cap ⟨xb,xs,none⟩ m xc C el' (us.take (min m n*i.size)) hw xN (fun j v e=>by
           rw[List.getElem?_take]at e
           split at e
           ·exact iB fO j v e
           ·cases e) l5 (fun v hv=>bA.xF uT b3 v (List.mem_of_mem_take hv))
          obtain⟨E,H'⟩:=sj H (C':=(C.toList.take (s'+off)++us.take (min m n*i.size)++C.toList.drop (s'+off+(us.take (min m n*i.size)).length)).toArray)
           hg hm hw (by simp at l5 ⊢;omega) (cs':=cs.put off (tk (Nat.mul (min m n) i.size) src)) (us:=vs.take off++(us.take (min m n*i.size)++vs.drop (off+(us.take (min m n*i.size)).length)))
           (by rw[ki];show bA g w (cs.put off (src.take (min m n*i.size))).toL _;rw[mF (by rw[Rm];exact b4),put_eq,Rm,xN];exact(Ip.take _).append ((uT.take _).append (Ip.drop _)))
           (fun j v e=>zj hc l5 j v e (by have:=Ip.length;rw[dm]at this;omega))
          exact⟨g,_,_,_,hex _ _ _ _ Lp HW hr,.inl rfl,E,H',by simp only[VR]⟩
      ·cases e
    ·cases e
   ·cases e
  ·cases e
theorem BC{T el:TypeId}{x y z:Operand}(ho:o.op=.slice T x none (some y) (some z))(hd:P.underlying T=some (.slice el)){i:TypeInfo}(hi:P.info? el=some i):bG P o (qa (wO (aU x)) (aU y) (aU z)):=by
 intro g w nt t h a v h' H Tr e
 unfold qa at e
 split at e
 ·rename_i ky n hy
  split at e
  ·rename_i kz m hz
   obtain⟨h1,h2⟩:=(by
    cases hb:(Nat.beq n 0&&Nat.beq m 0)with
    |false=>rw[hb]at e;cases e
    |true=>rw[Bool.and_eq_true]at hb;exact hb:Nat.beq n 0=true/\Nat.beq m 0=true)
   rw[h1,h2]at e
   simp only[Bool.and_self,cond_true]at e
   obtain rfl:=Nat.eq_of_beq_eq_true h1
   obtain rfl:=Nat.eq_of_beq_eq_true h2
   have pF:=bh y _ _ _ _ _ _ Tr hy
   have hvz:=bh z _ _ _ _ _ _ Tr hz
   simp only[VR]at pF hvz
   have lM:(sizeOf el).run P w=.ok i.size w:=by simp[sizeOf,typeInfo,hi]
   have fV: ∀ b n c,a.eval x=.slice b n c->(execOp a.eval o).run P w=.ok (.value (.slice b 0 0)) w:=by
    intro b n c hx
    simp[execOp,ho,hx,pF,hvz,Instr.sliceAt,Instr.slice,run_underlying hd,Instr.sliceBounds,Instr.sliceBound,asIntOf,lM]
   split at e
   ·rename_i hx
    cases e
    have hv:=eM x _ _ _ _ _ _ Tr hx
    simp only[VR]at hv
    obtain⟨b,hv⟩:=hv
    exact⟨rfl,_,fV _ _ _ hv,by simp only[VR];exact⟨_,rfl⟩⟩
   ·rename_i hx
    cases e
    have hv:=eM x _ _ _ _ _ _ Tr hx
    simp only[VR]at hv
    rcases hv with⟨_,b,hv⟩|⟨b,s,cap,_,hv,_⟩
    ·exact⟨rfl,_,fV _ _ _ hv,by simp only[VR];exact⟨_,rfl⟩⟩
    ·exact⟨rfl,_,fV _ _ _ hv,by simp only[VR];exact⟨_,rfl⟩⟩
   ·rename_i hx
    cases e
    have hv:=eM x _ _ _ _ _ _ Tr hx
    simp only[VR]at hv
    obtain⟨b,cap,hv,_⟩:=hv
    exact⟨rfl,_,fV _ _ _ hv,by simp only[VR];exact⟨_,rfl⟩⟩
   ·cases e
  ·cases e
 ·cases e
end
end Go.Ab

noncomputable section
namespace Go.Ab
variable [Io]
def cI(P:Program)(call:bV):Prop:=
 ∀ f args h v h',call f args h=.ok v h'->(∀ as w,(callFunc f as).run P w=.ok (.enter f as) w)/\
  ∀ (g:G) (w:World) (vs:List Value),HR g w h->bA g w args vs->
   Calls P f vs.toArray w fun e w'=> ∃ x g',e=.returned x/\Ext g w h g' w' h'/\HR g' w' h'/\VR g' w' v x
def vB(P:Program)(op:BinOp)(T:TypeId):Option (AV->AV->Option AV):=
 match op with
 | .add=>some aX| .sub=>some cg| .mul=>some eQ| .quo=>some mA| .rem=>some mz
 | .and=>some cB| .or=>some gh| .xor=>some rZ| .andNot=>some jF| .shl=>some fl| .shr=>some cM
 | .lss=>some aV| .leq=>some cC| .gtr=>some cK| .geq=>some bS
 | .eql=>match P.underlying T with
  |some (.int _)=>some (ak false)
  |some .bool=>some (th false)
  |some .string=>some (p6 false)
  |some (.pointer _)=>some (gQ false)
  |some (.slice _)=>some (gR false)
  |some (.struct _)=>Bz P false T
  | _=>none
 | .neq=>match P.underlying T with
  |some (.int _)=>some (ak true)
  |some .bool=>some (th true)
  |some .string=>some (p6 true)
  |some (.pointer _)=>some (gQ true)
  |some (.slice _)=>some (gR true)
  |some (.struct _)=>Bz P true T
  | _=>none
theorem Iq{P:Program}{op:BinOp}{T:TypeId}{f:AV->AV->Option AV}(h:vB P op T=some f):bZ P op T f:=by
 unfold vB at h
 cases op<;>simp only at h
 case eql=>
  split at h
  ·cases h;exact Ds T
  ·rename_i hu;cases h;exact HH hu
  ·cases h;exact HJ T
  ·rename_i hu;cases h;exact HL hu
  ·rename_i hu;cases h;exact HN hu
  ·exact Il h
  ·cases h
 case neq=>
  split at h
  ·cases h;exact Dt T
  ·rename_i hu;cases h;exact HI hu
  ·cases h;exact HK T
  ·rename_i hu;cases h;exact HM hu
  ·rename_i hu;cases h;exact HO hu
  ·exact Im h
  ·cases h
 all_goals cases h
 case add=>exact De T
 case sub=>exact Df T
 case mul=>exact Dw T
 case quo=>exact Dv T
 case rem=>exact Du T
 case and=>exact Di T
 case or=>exact Dj T
 case xor=>exact Dk T
 case shl=>exact Dl T
 case shr=>exact Dm T
 case andNot=>exact xI T
 case lss=>exact Dn T
 case leq=>exact Dq T
 case gtr=>exact Dp T
 case geq=>exact Dr T
def Nn(op:UnOp):Option (AV->Option AV):=
 match op with
 | .not=>some eA
 | .neg=>some tl
 | .xor=>some Bg
 | .plus=>none
def vC(P:Program)(T:TypeId)(x:Operand):dh:=
 match P.underlying T with
 |some d=>match P.info? T with
  |some i=>ae i.size (fF d) (aU x)
  |none=>bE
 |none=>bE
def su(P:Program)(S D:TypeId)(x:Operand):dh:=
 match P.underlying S with
 |some _=>match P.underlying D with
  |some (.int k)=>bL (aM k) (aU x)
  | _=>bE
 |none=>bE
def tK(P:Program)(S D:TypeId)(x:Operand):dh:=
 match P.underlying S with
 |some .string=>match P.underlying D with
  |some (.slice e)=>match P.underlying e with
   |some (.int .u8)=>jH (aU x)
   | _=>bE
  | _=>bE
 |some (.slice _)=>match P.underlying D with
  |some (.slice e)=>match P.underlying e with
   |some (.int .u8)=>ek (Nat.beq S D) (lS (aU x)) bE
   | _=>bE
  | _=>bE
 | _=>bE
def iC(P:Program)(T:TypeId)(x:Operand)(n:Nat):dh:=
 match P.underlying T with
 |some (.struct fs)=>match fs[n]? with
  |some f=>match P.info? f.type with
   |some i=>ek (Nat.blt 0 i.size) (ab f.offset (aU x)) bE
   |none=>bE
  |none=>bE
 | _=>bE
def qx(P:Program)(T:TypeId)(x:Operand)(n:Nat):dh:=
 match P.underlying T with
 |some (.struct fs)=>match fs[n]? with
  |some f=>match P.underlying f.type with
   |some d=>match P.info? f.type with
    |some i=>iy f.offset i.size (fF d) (aU x)
    |none=>bE
   |none=>bE
  |none=>bE
 | _=>bE
def iD(P:Program)(T:TypeId)(x y:Operand):dh:=
 match P.underlying T with
 |some (.slice e)=>match P.info? e with
  |some i=>bq i.size (aU x) (aU y)
  |none=>bE
 |some (.array n e)=>match P.info? e with
  |some i=>j9 n i.size (aU x) (aU y)
  |none=>bE
 | _=>bE
def qy(P:Program)(T:TypeId)(x y:Operand):dh:=
 match P.underlying T with
 |some (.array n e)=>match P.underlying e with
  |some d=>match P.info? e with
   |some i=>gH n i.size (fF d) (aU x) (aU y)
   |none=>bE
  |none=>bE
 |some .string=>bK (aU x) (aU y)
 | _=>bE
def qz(P:Program)(T:TypeId)(x:Operand)(lo hi:Option Operand):dh:=
 match P.underlying T with
 |some .string=>ct (aU x) (lo.map aU) (hi.map aU)
 |some (.slice e)=>match P.info? e with
  |some i=>bM i.size (aU x) (lo.map aU) (hi.map aU)
  |none=>bE
 |some (.array n e)=>match P.info? e with
  |some i=>ek (Nat.blt 0 i.size) (en n i.size (aU x) (lo.map aU) (hi.map aU)) bE
  |none=>bE
 | _=>bE
def mP(P:Program)(T:TypeId)(x:Operand)(lo hi:Option Operand)(m:Operand):dh:=
 match lo,hi with
 |none,some y=>match P.underlying T with
  |some (.slice e)=>match P.info? e with
   |some _=>qa (wO (aU x)) (aU y) (aU m)
   |none=>bE
  | _=>bE
 | _,_=>bE
def Dz(P:Program)(T:TypeId)(x:Operand):dh:=
 match P.underlying T with
 |some .string=>fy (aU x)
 |some (.slice _)=>aT (wO (aU x))
 |some (.array n _)=>aa (oC (.int .i64 (.ofNat n)))
 | _=>bE
def DA(P:Program)(T:TypeId)(x:Operand):dh:=
 match P.underlying T with
 |some (.slice _)=>mC (wO (aU x))
 | _=>bE
def DB(P:Program)(T:TypeId):dh:=
 match zeroOf P T with
 |some z=>cf z
 |none=>bE
inductive Cl where
 |p0|p1|al|ch
def zy(P:Program)(call:bV)(c:Call):dh:=
 match c with
 |⟨.builtin .append,args,l6⟩=>match args.toList,l6.toList with
  | [s,x],[T,T']=>ek (Nat.beq T T') (pI P T s x) (zm P T T' s x)
  | _,_=>bE
 |⟨.builtin .copy,args,l6⟩=>match args.toList,l6.toList with
  | [d,s],[T,_]=>zx P T d s
  | _,_=>bE
 |⟨.value (.func f),args,_⟩=>aj call f (args.toList.map aU)
 |⟨.value f,args,_⟩=>eB call (aU f) (args.toList.map aU)
 | _=>bE
def eR(P:Program)(c:Call):Option dh:=
 match c with
 |⟨.builtin .len,args,l6⟩=>match args.toList,l6.toList with
  | [x],[T]=>some (Dz P T x)
  | _,_=>some bE
 |⟨.builtin .cap,args,l6⟩=>match args.toList,l6.toList with
  | [x],[T]=>some (DA P T x)
  | _,_=>some bE
 |⟨.builtin .min,args,_⟩=>match args.toList with
  | [x,y]=>some (nS (aU x) (aU y))
  | _=>some bE
 |⟨.builtin .max,args,_⟩=>match args.toList with
  | [x,y]=>some (rJ (aU x) (aU y))
  | _=>some bE
 | _=>none
def jM(P:Program)(call:bV)(o:Op):Cl×dh:=
 match o with
 | .move x=>(.p0,aa (aU x))
 | .assign x=>(.p0,aa (aU x))
 | .pick c x y=>(.p0,aR (aU c) (aU x) (aU y))
 | .alloc T=>(.al,DB P T)
 | .box _ x=>(.al,cp (aU x))
 | .build T ps=>(.p0,qm P T ps.toList)
 | .buildSlice T n ps=>(.al,C4 P T n ps.toList)
 | .load T x=>(.p1,vC P T x)
 | .store T x y=>(.ch,tE P T x y)
 | .nilCheck x=>(.p0,aB (aU x))
 | .binOp op T x y _=>match vB P op T with
  |some f=>(.p0,af f (aU x) (aU y))
  |none=>(.p0,bE)
 | .unOp op _ x=>match Nn op with
  |some f=>(.p0,bL f (aU x))
  |none=>(.p0,bE)
 | .convert S D x=>match P.underlying D with
  |some (.slice _)=>(.ch,tK P S D x)
  | _=>(.p0,su P S D x)
 | .makeFunc (.func f) first caps=>match first.toList with
  | []=>(.p0,GR f (caps.toList.map aU))
  | _=>(.p0,bE)
 | .makeSlice T l c=>(.al,vp P T l c)
 | .makeMap _ r=>match r with
  |none=>(.ch,Bh)
  |some _=>(.ch,bE)
 | .slice T x lo hi none=>(.p1,qz P T x lo hi)
 | .slice T x lo hi (some m)=>(.p1,mP P T x lo hi m)
 | .fieldAddr T x n=>(.p0,iC P T x n)
 | .field T x n=>(.p0,qx P T x n)
 | .indexAddr T x y=>(.p0,iD P T x y)
 | .index T x y=>(.p0,qy P T x y)
 | .extract x i=>(.p0,aJ (aU x) i)
 | .call c=>match eR P c with
  |some f=>(.p0,f)
  |none=>(.ch,zy P call c)
 | _=>(.ch,bE)
def tL(P:Program)(o:Oper)(f:dh):Prop:=
 ∀ (g:G) (w:World) (nt:Nat) (t:Tm) (h:Hp) (a:Act) (v:AV) (h':Hp),HR g w h->TR g w nt t a.tmps->f t h=.ok v h'->
  ∀ next Q,(∀ g' w' x,Ext g w h g' w' h'->HR g' w' h'->VR g' w' v x->next (a.put o.dst x) w')->o.wp P a w next Q
section
variable {P:Program}{o:Oper}
theorem iz.ok{f:dh}(h:iz P o f):tL P o f:=by
 intro g w nt t hp a v h' H T e next Q K
 obtain⟨g',w',nx,x,hr,XV,E,H',hv⟩:=h g w nt t hp a v h' H T e
 unfold Oper.wp
 rw[hr]
 rcases XV with rfl|⟨rfl,rfl⟩
 ·exact K g' w' x E H' hv
 ·exact K g' w' undef E H' hv
theorem bG.ok{f:dh}(h:bG P o f):tL P o f:=h.run.ok
theorem jt.ok{f:dh}(h:jt P o f):tL P o f:=h.run.ok
theorem n8:tL P o bE:=by intro g w nt t h a v h' _ _ e;cases e
theorem Ir{f:FuncId}{args:Array Operand}{l6:Array TypeId}{call:bV}(hc:cI P call)(ho:o.op=.call {callee:=.value (.func f),args,argTypes:=l6}):
 tL P o (aj call f (args.toList.map aU)):=by
 intro g w nt t h a v h' H T e next Q K
 unfold aj at e
 split at e
 ·rename_i vs da
  obtain⟨Rp,sw⟩:=hc f vs h v h' e
  have hv:=pE T args.toList da
  have hr:(execOp a.eval o).run P w=.ok (.enter f (args.map a.eval)) w:=by
   simp[execOp,ho,resolve,Act.eval,Deferred.ofValue,invoke,Rp]
  unfold Oper.wp
  rw[hr,Oper.upon_enter]
  have:=sw g w (args.toList.map a.eval) H hv
  rw[show(args.toList.map a.eval).toArray=args.map a.eval from by rw[<-Array.toList_map,Array.toArray_toList]]at this
  refine this.mono ?_
  rintro e w' ⟨x,g',rfl,E,H',hx⟩
  exact K g' w' x E H' hx
 ·cases e
theorem DC{f:Operand}{args:Array Operand}{l6:Array TypeId}{call:bV}(hc:cI P call)(ho:o.op=.call {callee:=.value f,args,argTypes:=l6}):
 tL P o (eB call (aU f) (args.toList.map aU)):=by
 intro g w nt t h a v h' H T e next Q K
 unfold eB at e
 split at e
 ·rename_i k cap hf
  split at e
  ·rename_i vs da
   have hfv:=bh f _ _ _ _ _ _ T hf
   simp only[VR]at hfv
   obtain⟨caps,hfe,Rq⟩:=hfv
   obtain⟨Rp,sw⟩:=hc k _ h v h' e
   have hv:=pE T args.toList da
   have hr:(execOp a.eval o).run P w=.ok (.enter k (args.map a.eval++caps)) w:=by
    simp[execOp,ho,resolve,hfe,Deferred.ofValue,invoke,Rp]
   unfold Oper.wp
   rw[hr,Oper.upon_enter]
   rw[bO]at sw
   have:=sw g w (args.toList.map a.eval++caps.toList) H (hv.append Rq)
   rw[show(args.toList.map a.eval++caps.toList).toArray=args.map a.eval++caps from by rw[<-Array.toList_map,<-Array.toList_append,Array.toArray_toList]]at this
   refine this.mono ?_
   rintro e w' ⟨x,g',rfl,E,H',hx⟩
   exact K g' w' x E H' hx
  ·cases e
 ·cases e
end
end Go.Ab

noncomputable section
namespace Go.Ab
variable [Io]
section
variable {P:Program}{o:Oper}{call:bV}
theorem x5{T:TypeId}{x:Operand}(ho:o.op=.load T x):bG P o (vC P T x):=by
 unfold vC
 split
 ·rename_i d hd
  split
  ·rename_i i hi;exact Bn ho hd hi
  ·exact bB
 ·exact bB
theorem qA{S D:TypeId}{x:Operand}(ho:o.op=.convert S D x):bG P o (su P S D x):=by
 unfold su
 split
 ·rename_i d hd
  split
  ·rename_i k hk;exact xZ ho hd hk
  ·exact bB
 ·exact bB
theorem x6{S D:TypeId}{x:Operand}(ho:o.op=.convert S D x):iz P o (tK P S D x):=by
 unfold tK
 split
 ·rename_i hS
  split
  ·rename_i e hD
   split
   ·rename_i he;exact xU ho hS hD he
   ·exact bB.run
  ·exact bB.run
 ·split
  ·rename_i e hD
   split
   ·rename_i he
    cases h:Nat.beq S D with
    |true=>
     obtain rfl:=Nat.eq_of_beq_eq_true h
     exact Bw ho hD he
    |false=>exact bB.run
   ·exact bB.run
  ·exact bB.run
 ·exact bB.run
theorem vD{c:Bool}{f:dh}(h:c=true->bG P o f):bG P o (ek c f bE):=by
 cases c with
 |true=>exact h rfl
 |false=>exact bB
theorem o8{T:TypeId}{x:Operand}{n:Nat}(ho:o.op=.fieldAddr T x n):bG P o (iC P T x n):=by
 unfold iC
 split
 ·rename_i fs hd
  split
  ·rename_i f hf
   split
   ·rename_i i hi
    exact vD fun h=>qk ho hd hf hi (by have:=bt.1 h;omega)
   ·exact bB
  ·exact bB
 ·exact bB
theorem vE{T:TypeId}{x:Operand}{n:Nat}(ho:o.op=.field T x n):bG P o (qx P T x n):=by
 unfold qx
 split
 ·rename_i fs hd
  split
  ·rename_i f hf
   split
   ·rename_i d sa
    split
    ·rename_i i hi
     exact xJ ho hd hf sa hi
    ·exact bB
   ·exact bB
  ·exact bB
 ·exact bB
theorem o9{T:TypeId}{x y:Operand}(ho:o.op=.indexAddr T x y):bG P o (iD P T x y):=by
 unfold iD
 split
 ·rename_i e hd
  split
  ·rename_i i hi;exact CV ho hd hi
  ·exact bB
 ·rename_i n e hd
  split
  ·rename_i i hi;exact CW ho hd hi
  ·exact bB
 ·exact bB
theorem vF{T:TypeId}{x y:Operand}(ho:o.op=.index T x y):bG P o (qy P T x y):=by
 unfold qy
 split
 ·rename_i n e hd
  split
  ·rename_i d sa
   split
   ·rename_i i hi;exact xK ho hd sa hi
   ·exact bB
  ·exact bB
 ·rename_i hd;exact vh ho hd
 ·exact bB
theorem tN{T:TypeId}{x:Operand}{lo hi:Option Operand}{m:Operand}(ho:o.op=.slice T x lo hi (some m)):bG P o (mP P T x lo hi m):=by
 unfold mP
 split
 ·split
  ·rename_i e hd
   split
   ·rename_i i hi;exact BC ho hd hi
   ·exact bB
  ·exact bB
 ·exact bB
theorem vG{T:TypeId}{x:Operand}{lo hi:Option Operand}(ho:o.op=.slice T x lo hi none):bG P o (qz P T x lo hi):=by
 unfold qz
 split
 ·rename_i hd;exact vi ho hd
 ·rename_i e hd
  split
  ·rename_i i hi;exact vj ho hd hi
  ·exact bB
 ·rename_i n e hd
  split
  ·rename_i i hi;exact vD fun h=>vk ho hd hi (by have:=bt.1 h;omega)
  ·exact bB
 ·exact bB
theorem BD{T:TypeId}{x:Operand}(ho:o.op=.call {callee:=.builtin .cap,args:= #[x],argTypes:= #[T]}):bG P o (DA P T x):=by
 unfold DA
 split
 ·rename_i hd;exact CU ho hd
 ·exact bB
theorem BE{T:TypeId}{x:Operand}(ho:o.op=.call {callee:=.builtin .len,args:= #[x],argTypes:= #[T]}):bG P o (Dz P T x):=by
 unfold Dz
 split
 ·rename_i hd;exact Bl ho hd
 ·rename_i e hd;exact CT ho hd
 ·rename_i n e hd;exact Bm ho hd
 ·exact bB
theorem Is:jt P o bE:=by intro g w nt t h a v h' _ _ e;cases e
theorem DD{T:TypeId}(ho:o.op=.alloc T):jt P o (DB P T):=by
 unfold DB
 split
 ·rename_i z hz;exact C1 ho hz
 ·exact Is
theorem DE{op:UnOp}{T:TypeId}{x:Operand}{f:AV->Option AV}(ho:o.op=.unOp op T x)(h:Nn op=some f):bG P o (bL f (aU x)):=by
 cases op<;>cases h
 ·exact CR ho
 ·exact CS ho
 ·exact CP ho
omit [Io] in
theorem It{α:Type}{a:Array α}{x:α}(h:a.toList=[x]):a= #[x]:=by
 rw[<-Array.toArray_toList (xs:=a),h]
omit [Io] in
theorem BG{α:Type}{a:Array α}{x y:α}(h:a.toList=[x,y]):a= #[x,y]:=by
 rw[<-Array.toArray_toList (xs:=a),h]
theorem rO{c:Call}{f:dh}(ho:o.op=.call c)(h:eR P c=some f):bG P o f:=by
 unfold eR at h
 split at h
 ·rename_i args l6
  split at h
  ·rename_i x T h1 h2
   cases h
   rw[It h1,It h2]at ho
   exact BE ho
  ·cases h;exact bB
 ·rename_i args l6
  split at h
  ·rename_i x T h1 h2
   cases h
   rw[It h1,It h2]at ho
   exact BD ho
  ·cases h;exact bB
 ·rename_i args l6
  split at h
  ·rename_i x y h1
   cases h
   rw[BG h1]at ho
   exact Dx ho
  ·cases h;exact bB
 ·rename_i args l6
  split at h
  ·rename_i x y h1
   cases h
   rw[BG h1]at ho
   exact Dy ho
  ·cases h;exact bB
 ·cases h
theorem DF(hc:cI P call){c:Call}(ho:o.op=.call c):tL P o (zy P call c):=by
 unfold zy
 split
 ·rename_i args l6
  split
  ·rename_i s x T T' h1 h2
   rw[BG h1,BG h2]at ho
   cases h:Nat.beq T T' with
   |true=>
    obtain rfl:=Nat.eq_of_beq_eq_true h
    exact(vt ho).ok
   |false=>exact(Bu ho).ok
  ·exact n8
 ·rename_i args l6
  split
  ·rename_i d s T T' h1 h2
   rw[BG h1,BG h2]at ho
   exact(BB ho).ok
  ·exact n8
 ·exact Ir hc ho
 ·exact DC hc ho
 ·exact n8
theorem tO(hc:cI P call):match jM P call o.op with
 |(.p0,f)=>bG P o f
 |(.p1,f)=>bG P o f
 |(.al,f)=>jt P o f
 |(.ch,f)=>tL P o f:=by
 cases ho:o.op<;>simp only[jM]
 case move x=>exact r6 (.inl ho)
 case assign x=>exact r6 (.inr ho)
 case pick c x y=>exact Bk ho
 case alloc T=>exact DD ho
 case box T x=>exact C3 ho
 case build T ps=>exact xM ho
 case buildSlice T n ps=>exact C5 ho
 case load T x=>exact x5 ho
 case store T x y=>exact(xP ho).ok
 case nilCheck x=>exact pure_nil ho
 case binOp op T x y yT=>
  cases h:vB P op T with
  |some f=>exact CL ho (Iq h)
  |none=>exact bB
 case unOp op T x=>
  cases h:Nn op with
  |some f=>exact DE ho h
  |none=>exact bB
 case convert S D x=>
  cases h:P.underlying D with
  |none=>exact qA ho
  |some d=>cases d<;>first|exact qA ho|exact(x6 ho).ok
 case makeFunc f first caps=>
  cases f<;>try exact n8
  rename_i f
  simp only
  cases h:first.toList with
  |nil=>
   have:first= #[]:=by rw[<-Array.toArray_toList (xs:=first),h]
   subst this
   exact HP ho
  |cons a l=>exact bB
 case makeSlice T l c=>exact Bo ho
 case makeMap T r=>cases r with
  |none=>exact(Dc ho).ok
  |some _=>exact n8
 case slice T x lo hi mx=>
  cases mx with
  |none=>exact vG ho
  |some m=>exact tN ho
 case fieldAddr T x n=>exact o8 ho
 case field T x n=>exact vE ho
 case indexAddr T x y=>exact o9 ho
 case index T x y=>exact vF ho
 case extract x i=>exact tC ho
 case call c=>
  cases h:eR P c with
  |some f=>exact rO ho h
  |none=>exact DF hc ho
 all_goals exact n8
theorem DG(hc:cI P call):tL P o (jM P call o.op).2:=by
 have:=tO (o:=o) hc
 cases h:jM P call o.op with
 |mk c f=>
  rw[h]at this
  cases c
  ·exact bG.ok this
  ·exact bG.ok this
  ·exact jt.ok this
  ·exact this
def gF(j:dk)(want:Bool)(f:dh):dh:=fun t h=>match j t with
 |some (.bool b)=>ek (ek want b (!b)) (f t h) (.ok ej h)
 |some (.mw [])=>.ok ej h
 | _=>.bad
def gA(P:Program)(call:bV)(nt:Nat)(all:List Oper)(o:Oper):dh:=
 match o.guard with
 |none=>(jM P call o.op).2
 |some (j,want)=>match gG all j with
  |some oj=>match oj.dst with
   |some d=>ek (Nat.blt d nt) (gF (oT d) want (jM P call o.op).2) bE
   |none=>bE
  |none=>bE
def gX(P:Program)(call:bV)(nt:Nat)(all l:List Oper):iu:=
 List.rec fi (fun o _ ih=>match o.dst with
  |some d=>ek (Nat.blt d nt) (st (sT d) (gA P call nt all o) ih) (fun _ _=>.bad)
  |none=>sn (gA P call nt all o) ih) l
theorem tP(hc:cI P call){ops:Array Oper}{i:Nat}(hi:ops[i]? =some o){g w nt t h}{a:Act}{v:AV}{h':Hp}(H:HR g w h)(T:TR g w nt t a.tmps)
 (e:gA P call nt ops.toList o t h=.ok v h'){Q:Exit->Act->World->Prop}{rest:List Nat}
 (K: ∀ g' w' x,Ext g w h g' w' h'->HR g' w' h'->VR g' w' v x->wpOps P ops Q rest (a.put o.dst x) w'):wpOps P ops Q (i::rest) a w:=by
 rw[wpOps,hi]
 simp only
 unfold gA at e
 cases hg:o.guard with
 |none=>
  rw[hg]at e
  rw[if_pos (by simp[Region.wanted,hg])]
  exact .inl (DG hc g w nt t h a v h' H T e _ _ K)
 |some p=>
  obtain⟨j,want⟩:=p
  rw[hg]at e
  simp only[ec]at e
  cases hj:ops.toList[j]? with
  |none=>simp only[hj]at e;cases e
  |some oj=>
  simp only[hj]at e
  cases hd:oj.dst with
  |none=>simp only[hd]at e;cases e
  |some d=>
  simp only[hd]at e
  cases hb:Nat.blt d nt with
  |false=>simp only[hb]at e;cases e
  |true=>
  simp only[hb]at e
  have Ct:=bt.1 hb
  change gF (oT d) want (jM P call o.op).2 t h=.ok v h' at e
  have Y3:ops[j]? =some oj:=by simpa using hj
  have lM:=T.2.1
  have hy: ∀ y,a.tmps.getD d undef=y->yielded ops a.tmps j=match y with| .bool b=>some b| _=>none:=by
   intro y hy
   have:a.tmps[d]? =some y:=by
    rw[Array.getD_eq_getD_getElem?]at hy
    rw[Array.getElem?_eq_getElem (by omega)]at hy ⊢
    simpa using hy
   simp[yielded,Y3,hd,this]
   cases y<;>rfl
  unfold gF at e
  split at e
  ·rename_i b si
   have hv:=(T.2.2 d _ (by have:=T.1;omega) si).2
   simp only[VR]at hv
   have zA:=hy _ hv
   cases Iu:(ek want b (!b))with
   |true=>
    rw[Iu]at e
    have:b=want:=by cases want<;>cases b<;>simp[ek]at Iu<;>rfl
    rw[if_pos (by simp[Region.wanted,hg,zA,this])]
    exact .inl (DG hc g w nt t h a v h' H T e _ _ K)
   |false=>
    rw[Iu]at e
    have:b≠want:=by cases want<;>cases b<;>simp[ek]at Iu<;>simp
    rw[if_neg (by simp[Region.wanted,hg,zA,this])]
    cases e
    exact K g w undef (Ext.refl _ _ _) H (by simp only[ej,VR];exact⟨_,rfl,by simp[bA]⟩)
  ·rename_i si
   have hv:=(T.2.2 d _ (by have:=T.1;omega) si).2
   simp only[VR]at hv
   obtain⟨vs,hv,da⟩:=hv
   have zA:=hy _ hv
   rw[if_neg (by simp[Region.wanted,hg,zA])]
   cases e
   exact K g w undef (Ext.refl _ _ _) H (by simp only[ej,VR];exact⟨_,rfl,by simp[bA]⟩)
  ·cases e
end
end Go.Ab

noncomputable section
namespace Go.Ab
variable [Io]
section
variable {P:Program}{call:bV}
def jv(g:G)(w:World)(h:Hp)(nt:Nat)(t':Tm)(h':Hp)(R:Act->World->Prop):Prop:=
 ∀ g' w' a',Ext g w h g' w' h'->HR g' w' h'->TR g' w' nt t' a'.tmps->a'.defers=[]->R a' w'
theorem jv.then{g w h nt h1 g1 w1 t2 h2}{R:Act->World->Prop}(E:Ext g w h g1 w1 h1)(K:jv g w h nt t2 h2 R):jv g1 w1 h1 nt t2 h2 R:=
 fun g' w' a' E' H' T' D'=>K g' w' a' (E.trans E') H' T' D'
def Iv(P:Program)(nt:Nat)(c:Code)(r:iu):Prop:=
 ∀ (g:G) (w:World) (t:Tm) (h:Hp) (a:Act) (t':Tm) (h':Hp),HR g w h->TR g w nt t a.tmps->a.defers=[]->r t h=.ok t' h'->
  ∀ Q:Exit->Act->World->Prop,jv g w h nt t' h' (Q .normal)->c.wp P Q a w
theorem Iw{g w nt t}{a:Act}{d:Nat}{v:AV}{x:Value}(T:TR g w nt t a.tmps)(hd:d<nt)(hv:VR g w v x):TR g w nt (sT d v t) (a.put (some d) x).tmps:=
 T.put hd hv
theorem DH(hc:cI P call){nt:Nat}(ops:Array Oper): ∀ (l pre:List Oper),ops.toList=pre++l-> ∀ (g:G) (w:World) (t:Tm) (h:Hp) (a:Act) (t':Tm) (h':Hp),
 HR g w h->TR g w nt t a.tmps->a.defers=[]->gX P call nt ops.toList l t h=.ok t' h'-> ∀ Q:Exit->Act->World->Prop,jv g w h nt t' h' (Q .normal)->
  wpOps P ops Q (List.range' pre.length l.length) a w
 | [],pre,_,g,w,t,h,a,t',h',H,T,D,e,Q,K=>by
  cases e
  exact K g w a (Ext.refl _ _ _) H T D
 |o::l,pre,hl,g,w,t,h,a,t',h',H,T,D,e,Q,K=>by
  have hi:ops[pre.length]? =some o:=by
   have:ops.toList[pre.length]? =some o:=by rw[hl];simp
   simpa using this
  have ih:=DH hc (nt:=nt) ops l (pre++[o]) (by simp[hl])
  simp only[List.length_append,List.length_cons,List.length_nil,Nat.zero_add]at ih
  rw[List.length_cons,List.range'_succ]
  change (match o.dst with
   |some d=>ek (Nat.blt d nt) (st (sT d) (gA P call nt ops.toList o) (gX P call nt ops.toList l)) (fun _ _=>.bad)
   |none=>sn (gA P call nt ops.toList o) (gX P call nt ops.toList l)) t h=.ok t' h' at e
  cases hd:o.dst with
  |none=>
   simp only[hd]at e
   unfold sn at e
   cases hg:gA P call nt ops.toList o t h with
   |bad=>rw[hg]at e;cases e
   |ok v h1=>
    rw[hg]at e
    refine tP hc hi H T hg fun g1 w1 x E H1 hv=>?_
    rw[hd]
    exact ih g1 w1 t h1 a t' h' H1 (T.mono H E) D e Q (jv.then E K)
  |some d=>
   simp only[hd]at e
   cases hb:Nat.blt d nt with
   |false=>simp only[hb]at e;cases e
   |true=>
    simp only[hb]at e
    change st (sT d) (gA P call nt ops.toList o) (gX P call nt ops.toList l) t h=.ok t' h' at e
    unfold st at e
    cases hg:gA P call nt ops.toList o t h with
    |bad=>rw[hg]at e;cases e
    |ok v h1=>
     rw[hg]at e
     refine tP hc hi H T hg fun g1 w1 x E H1 hv=>?_
     rw[hd]
     exact ih g1 w1 (sT d v t) h1 (a.put (some d) x) t' h' H1 (Iw (T.mono H E) (bt.1 hb) hv) D e Q (jv.then E K)
theorem BH(hc:cI P call){nt:Nat}(id:Nat)(ops:Array Oper):Iv P nt (.region id ops false) (gX P call nt ops.toList ops.toList):=by
 intro g w t h a t' h' H T D e Q K
 refine wp_region ?_
 have:=DH hc ops ops.toList [] rfl g w t h a t' h' H T D e Q K
 rw[List.range_eq_range']
 simpa using this
def Ru(P:Program)(nt:Nat)(c:Code)(f:rD):Prop:=
 ∀ (g:G) (w:World) (t:Tm) (h:Hp) (a:Act) (Q:Exit->Act->World->Prop),HR g w h->TR g w nt t a.tmps->a.defers=[]->
  match f t h with
  | .bad=>True
  | .norm t' h'=>jv g w h nt t' h' (Q .normal)->c.wp P Q a w
  | .ret t' h'=>jv g w h nt t' h' (Q .ret)->c.wp P Q a w
  | .exit i t' h'=>jv g w h nt t' h' (Q (.exit i))->c.wp P Q a w
def dX(P:Program)(draw:Array Oper->iu)(call:bV)(n nt:Nat)(c:Code):rD:=
 Code.rec (motive:=fun _=>rD) aY
  (fun _ ops d=>ai (Bool.rec (gX P call nt ops.toList ops.toList) (draw ops) d))
  (fun _ _ ia ib=>ah ia ib)
  (fun c _ _ ia ib=>aD (aU c) ia ib)
  (fun id _ ib=>bP id ib)
  (fun _ ib=>dH n ib)
  (fun _ _ _ _ _ _=>u9)
  (fun i=>dK i)
  (fun _ _=>u9)
  (fun _=>u9)
  (fun _=>u9)
  ba
  (fun _=>u9) c
theorem qB{nt:Nat}{c:Code}:Ru P nt c u9:=by
 intro g w t h a Q H T D
 exact trivial
theorem zC(hc:cI P call){draw:Array Oper->iu}{nt:Nat}(hd: ∀ id ops,Iv P nt (.region id ops true) (draw ops))(n:Nat): ∀ c,Ru P nt c (dX P draw call n nt c):=by
 intro c
 induction c with
 |skip=>
  intro g w t h a Q H T D K
  exact wp_skip (K g w a (Ext.refl _ _ _) H T D)
 |region id ops d=>
  intro g w t h a Q H T D
  have key:Iv P nt (.region id ops d) (Bool.rec (gX P call nt ops.toList ops.toList) (draw ops) d):=by
   cases d with
   |false=>exact BH hc id ops
   |true=>exact hd id ops
  show match ai (Bool.rec (gX P call nt ops.toList ops.toList) (draw ops) d) t h with| .bad=>_| .norm _ _=>_| .ret _ _=>_| .exit _ _ _=>_
  unfold ai
  cases e:(Bool.rec (gX P call nt ops.toList ops.toList) (draw ops) d:iu) t h with
  |bad=>exact trivial
  |ok t' h'=>exact fun K=>key g w t h a t' h' H T D e Q K
 |seq x y hx hy=>
  intro g w t h a Q H T D
  show match ah (dX P draw call n nt x) (dX P draw call n nt y) t h with| .bad=>_| .norm _ _=>_| .ret _ _=>_| .exit _ _ _=>_
  unfold ah
  have h1:=hx g w t h a (Exit.then (y.wp P Q) Q) H T D
  cases e:dX P draw call n nt x t h with
  |bad=>exact trivial
  |ret t1 ju=>rw[e]at h1;exact fun K=>wp_seq (h1 K)
  |exit i t1 ju=>rw[e]at h1;exact fun K=>wp_seq (h1 K)
  |norm t1 ju=>
   rw[e]at h1
   show match dX P draw call n nt y t1 ju with| .bad=>_| .norm _ _=>_| .ret _ _=>_| .exit _ _ _=>_
   cases e2:dX P draw call n nt y t1 ju with
   |bad=>exact trivial
   |norm t2 h2=>
    intro K
    refine wp_seq (h1 fun g1 w1 a1 E1 H1 T1 D1=>?_)
    have:=hy g1 w1 t1 ju a1 Q H1 T1 D1
    rw[e2]at this
    exact this (jv.then E1 K)
   |ret t2 h2=>
    intro K
    refine wp_seq (h1 fun g1 w1 a1 E1 H1 T1 D1=>?_)
    have:=hy g1 w1 t1 ju a1 Q H1 T1 D1
    rw[e2]at this
    exact this (jv.then E1 K)
   |exit i t2 h2=>
    intro K
    refine wp_seq (h1 fun g1 w1 a1 E1 H1 T1 D1=>?_)
    have:=hy g1 w1 t1 ju a1 Q H1 T1 D1
    rw[e2]at this
    exact this (jv.then E1 K)
 |cond c x y hx hy=>
  intro g w t h a Q H T D
  show match aD (aU c) (dX P draw call n nt x) (dX P draw call n nt y) t h with| .bad=>_| .norm _ _=>_| .ret _ _=>_| .exit _ _ _=>_
  unfold aD
  cases dV:aU c t with
  |none=>exact trivial
  |some v=>
   cases v<;>try exact trivial
   rename_i b
   have hv:=bh c _ _ _ _ _ _ T dV
   simp only[VR]at hv
   cases b with
   |true=>
    have:=hx g w t h a Q H T D
    show match dX P draw call n nt x t h with| .bad=>_| .norm _ _=>_| .ret _ _=>_| .exit _ _ _=>_
    cases e:dX P draw call n nt x t h<;>rw[e]at this
    ·exact trivial
    all_goals exact fun K=>wp_cond_true hv (this K)
   |false=>
    have:=hy g w t h a Q H T D
    show match dX P draw call n nt y t h with| .bad=>_| .norm _ _=>_| .ret _ _=>_| .exit _ _ _=>_
    cases e:dX P draw call n nt y t h<;>rw[e]at this
    ·exact trivial
    all_goals exact fun K=>wp_cond_false hv (this K)
 |block id x hx=>
  intro g w t h a Q H T D
  show match bP id (dX P draw call n nt x) t h with| .bad=>_| .norm _ _=>_| .ret _ _=>_| .exit _ _ _=>_
  unfold bP
  have:=hx g w t h a (Exit.inBlock id Q) H T D
  cases e:dX P draw call n nt x t h<;>rw[e]at this
  ·exact trivial
  ·exact fun K=>wp_block (this K)
  ·exact fun K=>wp_block (this K)
  ·rename_i i t1 h1
   show match(Bool.rec (Rc.exit i t1 h1) (Rc.norm t1 h1) (Nat.beq i id):Rc)with| .bad=>_| .norm _ _=>_| .ret _ _=>_| .exit _ _ _=>_
   cases hb:Nat.beq i id with
   |true=>
    obtain rfl:=Nat.eq_of_beq_eq_true hb
    exact fun K=>wp_block (this fun g' w' a' E' H' T' D'=>by
     show Exit.inBlock i Q (.exit i) a' w'
     simp only[Exit.inBlock,if_true]
     exact K g' w' a' E' H' T' D')
   |false=>
    have lj:i≠id:=fun k=>by rw[k,Nat.beq_refl]at hb;cases hb
    exact fun K=>wp_block (this fun g' w' a' E' H' T' D'=>by
     show Exit.inBlock id Q (.exit i) a' w'
     simp only[Exit.inBlock,if_neg lj]
     exact K g' w' a' E' H' T' D')
 |loop x hx=>
  intro g w t h a Q H T D
  show match dH n (dX P draw call n nt x) t h with| .bad=>_| .norm _ _=>_| .ret _ _=>_| .exit _ _ _=>_
  have key: ∀ m,∀ (g:G) (w:World) (t:Tm) (h:Hp) (a:Act),HR g w h->TR g w nt t a.tmps->a.defers=[]->
   match dH m (dX P draw call n nt x) t h with
   | .bad=>True
   | .norm t' h'=>jv g w h nt t' h' (Q .normal)->Code.rounds P x Q m a w
   | .ret t' h'=>jv g w h nt t' h' (Q .ret)->Code.rounds P x Q m a w
   | .exit i t' h'=>jv g w h nt t' h' (Q (.exit i))->Code.rounds P x Q m a w:=by
   intro m
   induction m with
   |zero=>intro g w t h a H T D;exact trivial
   |succ m ih=>
    intro g w t h a H T D
    have h1:=hx g w t h a (Exit.then (Code.rounds P x Q m) Q) H T D
    show match(Rc.rec Rc.bad (fun t h=>dH m (dX P draw call n nt x) t h) (fun t h=>Rc.ret t h) (fun i t h=>Rc.exit i t h) (dX P draw call n nt x t h):Rc)with
     | .bad=>_| .norm _ _=>_| .ret _ _=>_| .exit _ _ _=>_
    cases e:dX P draw call n nt x t h with
    |bad=>exact trivial
    |ret t1 ju=>rw[e]at h1;exact fun K=>h1 K
    |exit i t1 ju=>rw[e]at h1;exact fun K=>h1 K
    |norm t1 ju=>
     rw[e]at h1
     show match dH m (dX P draw call n nt x) t1 ju with| .bad=>_| .norm _ _=>_| .ret _ _=>_| .exit _ _ _=>_
     cases e2:dH m (dX P draw call n nt x) t1 ju with
     |bad=>exact trivial
     |norm t2 h2=>
      intro K
      refine h1 fun g1 w1 a1 E1 H1 T1 D1=>?_
      have:=ih g1 w1 t1 ju a1 H1 T1 D1
      rw[e2]at this
      exact this (jv.then E1 K)
     |ret t2 h2=>
      intro K
      refine h1 fun g1 w1 a1 E1 H1 T1 D1=>?_
      have:=ih g1 w1 t1 ju a1 H1 T1 D1
      rw[e2]at this
      exact this (jv.then E1 K)
     |exit i t2 h2=>
      intro K
      refine h1 fun g1 w1 a1 E1 H1 T1 D1=>?_
      have:=ih g1 w1 t1 ju a1 H1 T1 D1
      rw[e2]at this
      exact this (jv.then E1 K)
  have:=key n g w t h a H T D
  cases e:dH n (dX P draw call n nt x) t h<;>rw[e]at this
  ·exact trivial
  all_goals exact fun K=>wp_loop_rounds n (this K)
 |rangeFunc f ps x y _ _=>exact qB
 |exit i=>
  intro g w t h a Q H T D K
  exact wp_exit (K g w a (Ext.refl _ _ _) H T D)
 |scope x _=>exact qB
 |label l=>exact qB
 |goto l=>exact qB
 |ret=>
  intro g w t h a Q H T D K
  exact wp_ret (K g w a (Ext.refl _ _ _) H T D)
 |refuse s=>exact qB
end
end Go.Ab

noncomputable section
namespace Go.Ab
variable [Io]
section
variable {P:Program}
def XW(P:Program)(nt:Nat):ResultVar->Option RV
 | .tmp i=>ek (Nat.blt i nt) (some (.tmp i)) none
 | .cell i T=>match P.underlying T with
  |some d=>match P.info? T with
   |some ti=>ek (Nat.blt i nt) (some (.cell i ti.size (fF d))) none
   |none=>none
  |none=>none
def DI(P:Program)(nt:Nat)(l:List ResultVar):Option (List RV):=
 List.rec (some []) (fun r _ ih=>match XW P nt r with
  |some v=>match ih with
   |some vs=>some (v::vs)
   |none=>none
  |none=>none) l
def qC(tmps:Array Value):ResultVar->Sem Value
 | .tmp t=>pure (tmps.getD t undef)
 | .cell a t=>do loadVar t (<-asAddr (tmps.getD a undef))
theorem Ix{g w nt t h}{tmps:Array Value}(H:HR g w h)(T:TR g w nt t tmps){r:ResultVar}{rv:RV}{v:AV}(hr:XW P nt r=some rv)(e:CG t h rv=some v):
 ∃ x,(qC tmps r).run P w=.ok x w/\VR g w v x:=by
 cases r with
 |tmp i=>
  change ek (Nat.blt i nt) (some (RV.tmp i)) none=some rv at hr
  cases hb:Nat.blt i nt with
  |false=>rw[hb]at hr;cases hr
  |true=>
   rw[hb]at hr
   cases hr
   exact⟨_,rfl,(T.2.2 i v (by have:=T.1;have:=bt.1 hb;omega) e).2⟩
 |cell i ty=>
  unfold XW at hr
  cases hd:P.underlying ty with
  |none=>simp only[hd]at hr;cases hr
  |some d=>
  simp only[hd]at hr
  cases hi:P.info? ty with
  |none=>simp only[hi]at hr;cases hr
  |some ti=>
  simp only[hi]at hr
  cases hb:Nat.blt i nt with
  |false=>rw[hb]at hr;cases hr
  |true=>
   rw[hb]at hr
   cases hr
   have zD: @LT.lt Nat _ i 512:=by have:=T.1;have:=bt.1 hb;omega
   change (match t.at i with|some a=>p9 h ti.size (fF d) a|none=>none)=some v at e
   split at e
   ·rename_i a ha
    have hv:=(T.2.2 i a zD ha).2
    unfold p9 at e
    split at e
    ·rename_i id off
     split at e
     ·rename_i cs hg
      simp only[VR]at hv
      obtain⟨b,s,hm,hv⟩:=hv
      obtain⟨C,el,vs,hw,_,da,hc⟩:=H.row hg hm
      obtain⟨z,hz,hr⟩:=iR hd hi da (dW hw hc) (qd e)
      exact⟨z,by simp only[qC,hv,asAddr,Sem.run_bind,Sem.run_pure,Result.andThen_ok,hz],hr⟩
     ·cases e
    ·rename_i cs
     simp only[VR]at hv
     obtain⟨b,s,vs,hv,_,hc,da⟩:=hv
     obtain⟨z,hz,hr⟩:=iR hd hi da hc e
     rw[Nat.add_zero]at hz
     exact⟨z,by simp only[qC,hv,asAddr,Sem.run_bind,Sem.run_pure,Result.andThen_ok,hz],hr⟩
    ·cases e
   ·cases e
theorem vH{g w nt t h}{tmps:Array Value}(H:HR g w h)(T:TR g w nt t tmps): ∀ (l:List ResultVar) {Iy:List RV} {vs:List AV},DI P nt l=some Iy->r5 t h Iy=some vs->
 ∃ xs,(l.mapM (qC tmps)).run P w=.ok xs w/\bA g w vs xs
 | [],Iy,vs,h1,h2=>by
  cases h1
  cases h2
  exact⟨[],by simp,by simp[bA]⟩
 |r::l,Iy,vs,h1,h2=>by
  change (match XW P nt r with|some v=>(match DI P nt l with|some vs=>some (v::vs)|none=>none)|none=>none)=some Iy at h1
  split at h1
  ·rename_i rv DJ
   split at h1
   ·rename_i rl hrl
    cases h1
    change (match CG t h rv with|some v=>(match r5 t h rl with|some vs=>some (v::vs)|none=>none)|none=>none)=some vs at h2
    split at h2
    ·rename_i v hv
     split at h2
     ·rename_i us hu
      cases h2
      obtain⟨x,hx,BI⟩:=Ix H T DJ hv
      obtain⟨xs,Nk,Y4⟩:=vH H T l hrl hu
      refine⟨x::xs,?_,by simp only[bA];exact⟨x,xs,rfl,BI,Y4⟩⟩
      simp only[List.mapM_cons,Sem.run_bind,hx,Nk,Result.andThen_ok,Sem.run_pure]
     ·cases h2
    ·cases h2
   ·cases h1
  ·cases h1
theorem DK{g w nt t h}{tmps:Array Value}{F:Func}{Iy:List RV}{v:AV}{h':Hp}(H:HR g w h)(T:TR g w nt t tmps)(hr:DI P nt F.results.toList=some Iy)(e:fin Iy t h=.ok v h'):
 h'=h/\ ∃ x,(results F tmps).run P w=.ok x w/\VR g w v x:=by
 have key: ∀ vs,r5 t h Iy=some vs-> ∃ xs:List Value,(results F tmps).run P w=.ok (if h:xs.toArray.size=1 then xs.toArray[0]else .tuple xs.toArray) w/\bA g w vs xs:=by
  intro vs da
  obtain⟨xs,Nk,hv⟩:=vH H T F.results.toList hr da
  refine⟨xs,?_,hv⟩
  show((F.results.mapM (qC tmps)>>=fun vs=>(pure (if h:vs.size=1 then vs[0]else .tuple vs):Sem Value))).run P w=_
  rw[Array.mapM_eq_mapM_toList]
  simp only[Sem.run_bind,Sem.run_map,Nk,Result.andThen_ok,Sem.run_pure]
 unfold fin at e
 split at e
 ·rename_i v1 da
  cases e
  obtain⟨xs,hx,hv⟩:=key _ da
  simp only[bA]at hv
  obtain⟨x,l',rfl,BI,rfl⟩:=hv
  exact⟨rfl,x,by rw[hx];rfl,BI⟩
 ·rename_i vs lj da
  cases e
  obtain⟨xs,hx,hv⟩:=key _ da
  refine⟨rfl,.tuple xs.toArray,?_,by simp only[VR];exact⟨_,rfl,hv⟩⟩
  rw[hx,dif_neg]
  intro h1
  have hl:=hv.length
  have:vs.length=1:=by simpa[<-hl]using h1
  match vs,this with
  | [a],_=>exact lj a rfl
 ·cases e
def tQ(P:Program)(draw:bV->Nat->Array Oper->iu):Prop:=
 ∀ call nt,cI P call-> ∀ id ops,Iv P nt (.region id ops true) (draw call nt ops)
structure aZ(P:Program)(draw:bV->Nat->Array Oper->iu)(f:FuncId)(b:Fb):Prop where
 ex: ∃ F c,P.funcs[f]? =some F/\F.body=some c/\b.ntmps=F.ntmps/\b.ntmps<=512/\DI P b.ntmps F.results.toList=some b.res/\b.body=fun call n=>dX P (draw call b.ntmps) call n b.ntmps c
 enter: ∀ as w,(callFunc f as).run P w=.ok (.enter f as) w
theorem kE{g w}: ∀ (l:List AV) (vs:List Value) (i nt:Nat) (t:Tm) (tmps:Array Value),bA g w l vs->i+l.length<=nt->TR g w nt t tmps->
 (∀ j v,vs[j]? =some v->tmps[i+j]? =some v)->TR g w nt (fU l i t) tmps
 | [],vs,i,nt,t,tmps,h,hl,T,hj=>T
 |a::l,vs,i,nt,t,tmps,h,hl,T,hj=>by
  simp only[bA]at h
  obtain⟨v,l',rfl,hv,h⟩:=h
  simp only[List.length_cons]at hl
  have h0:tmps[i]? =some v:=by simpa using hj 0 v rfl
  have hi:i<tmps.size:=(Array.getElem?_eq_some_iff.1 h0).1
  have Y5:tmps.setIfInBounds i v=tmps:=by
   apply Array.ext
   ·simp
   ·intro k h1 h2
    rw[Array.getElem_setIfInBounds]
    split
    ·rename_i e
     subst e
     exact(Option.some.inj ((Array.getElem?_eq_getElem hi).symm.trans h0)).symm
    ·rfl
  have T':=T.put (d:=i) (by omega) hv
  rw[Y5]at T'
  exact kE l l' (i+1) nt _ tmps h (by omega) T' (fun j u e=>by
   have:=hj (j+1) u (by simpa using e)
   rwa [show i+1+j=i+(j+1) by omega])
theorem DL{draw:bV->Nat->Array Oper->iu}(hd:tQ P draw){fn:FuncId->Option Fb}(hf: ∀ f b,fn f=some b->aZ P draw f b)(n:Nat): ∀ d,cI P (qb fn n d):=by
 intro d
 induction d with
 |zero=>intro f args h v h' e;cases e
 |succ d ih=>
  intro f args h v h' e
  change (match fn f with
   |none=>Ro.bad
   |some b=>ek (Nat.ble (len args) b.ntmps) (match b.body (qb fn n d) n (fU args 0 Tm.none) h with| .norm t h=>fin b.res t h| .ret t h=>fin b.res t h| _=>.bad) .bad)=.ok v h' at e
  cases hb:fn f with
  |none=>rw[hb]at e;cases e
  |some b=>
  rw[hb]at e
  simp only at e
  cases hle:Nat.ble (len args) b.ntmps with
  |false=>rw[hle]at e;cases e
  |true=>
  rw[hle]at e
  change (match b.body (qb fn n d) n (fU args 0 Tm.none) h with| .norm t h=>fin b.res t h| .ret t h=>fin b.res t h| _=>.bad)=Ro.ok v h' at e
  rw[bJ]at hle
  have No:args.length<=b.ntmps:=Nat.ble_eq.mp hle
  have F0:=hf f b hb
  obtain⟨F,c,hF,hc,eS,pd,Np,DM⟩:=F0.ex
  refine⟨F0.enter,fun g w vs H hv=>?_⟩
  rw[DM]at e
  have DN:=zC ih (draw:=draw (qb fn n d) b.ntmps) (nt:=b.ntmps) (fun id ops=>hd _ _ ih id ops) n c
  have XR:=hv.length
  have sx:(vs.toArray++Array.replicate (F.ntmps - vs.toArray.size) undef).size=b.ntmps:=by simp;omega
  have Rv:TR g w b.ntmps Tm.none (vs.toArray++Array.replicate (F.ntmps - vs.toArray.size) undef):=
   ⟨pd,sx,fun i v hi e=>by rw[Tm.pC i hi]at e;cases e⟩
  have hT:=kE args vs 0 b.ntmps Tm.none _ hv (by omega) Rv (fun j v e=>by
   rw[Array.getElem?_append_left (by have:=(List.getElem?_eq_some_iff.1 e).1;simpa using this)]
   simpa using e)
  refine calls_of_wp hF hc ?_
  have:=DN g w _ h {tmps:=vs.toArray++Array.replicate (F.ntmps - vs.toArray.size) undef,defers:=[]}
   (bodyPost P F (fun e w'=> ∃ x g',e=.returned x/\Ext g w h g' w' h'/\HR g' w' h'/\VR g' w' v x)) H hT rfl
  have vI: ∀ t1 h1,fin b.res t1 h1=.ok v h'-> ∀ g' w' (a':Act),Ext g w h g' w' h1->HR g' w' h1->TR g' w' b.ntmps t1 a'.tmps->a'.defers=[]->
   a'.defers=[]/\ ∃ x,(results F a'.tmps).run P w'=.ok x w'/\ ∃ y g',Ending.returned x=.returned y/\Ext g w h g' w' h'/\HR g' w' h'/\VR g' w' v y:=by
   intro t1 h1 Nq g' w' a' E' H' T' D'
   obtain⟨rfl,x,hx,BI⟩:=DK H' T' Np Nq
   exact⟨D',x,hx,x,g',rfl,E',H',BI⟩
  simp only at e
  cases hr:dX P (draw (qb fn n d) b.ntmps) (qb fn n d) n b.ntmps c (fU args 0 Tm.none) h with
  |bad=>rw[hr]at e;cases e
  |norm t1 h1=>rw[hr]at e this;exact this (vI t1 h1 e)
  |ret t1 h1=>rw[hr]at e this;exact this (vI t1 h1 e)
  |exit i t1 h1=>rw[hr]at e;cases e
end
end Go.Ab

noncomputable section
namespace Go.Ab
variable [Io]
def Iz(ops:Array Oper):List Nat->List Nat->Prop
 |D,[]=> ∀ i,i<ops.size->i∈D
 |D,i::s=>i<ops.size/\i∉D/\(∀ o e,ops[i]? =some o->e∈o.after->Region.binds .any e=true->e.on∈D)/\Iz ops (i::D) s
omit [Io] in
theorem filter_one{p:Nat->Bool}: ∀ (l:List Nat) (i:Nat),l.Nodup->i∈l->p i=true->(l.filter fun x=>p x&&x != i).length+1=(l.filter p).length
 | [],i,_,h,_=>by cases h
 |a::l,i,hn,h,hp=>by
  rw[List.nodup_cons]at hn
  by_cases ha:a=i
  ·subst ha
   have:(l.filter fun x=>p x&&x != a)=l.filter p:=by
    apply List.filter_congr
    intro x hx
    have:x≠a:=fun e=>hn.1 (e▸hx)
    simp[this]
   simp[List.filter_cons,hp,this]
  ·have hi:i∈l:=by
    cases h with
    |head=>exact absurd rfl ha
    |tail _ h=>exact h
   have:=filter_one l i hn.2 hi hp
   by_cases hpa:p a=true
   ·simp only[List.filter_cons,hpa,Bool.true_and,bne_iff_ne,ne_eq,ha,not_false_eq_true,decide_true,if_true,List.length_cons]
    omega
   ·simp only[List.filter_cons,hpa,Bool.false_and,Bool.false_eq_true,if_false]
    exact this
omit [Io] in
theorem least{p:Nat->Prop}: ∀ (n:Nat),p n-> ∃ m,p m/\ ∀ k,k<m-> ¬ p k:=by
 intro n
 induction n using Nat.strongRecOn with
 | _ n ih=>
  intro h
  by_cases hk: ∃ k,k<n/\p k
  ·obtain⟨k,hk,hp⟩:=hk
   exact ih k hk hp
  ·exact⟨n,h,fun k hkn hp=>hk ⟨k,hkn,hp⟩⟩
def Down(ops:Array Oper):Prop:= ∀ (i:Nat) (o:Oper) (e:Edge),ops[i]? =some o->e∈o.after->Region.binds .any e=true->e.on<i
omit [Io] in
theorem DO{ops:Array Oper}(hd:Down ops): ∀ (fuel t:Nat) (listed:Array Bool) (acc D:List Nat),listed.size=ops.size->(∀ i,i<ops.size->(listed.getD i false=true↔i∈D))->
 ((List.range ops.size).filter fun i=> !listed.getD i false).length=fuel-> ∃ s,Region.linearise.go .any ops fuel t listed acc=acc.reverse++s/\Iz ops D s
 |0,t,listed,acc,D,hs,hD,hc=>by
  refine⟨[],by simp[Region.linearise.go],fun i hi=>?_⟩
  have he:((List.range ops.size).filter fun i=> !listed.getD i false)=[]:=List.eq_nil_of_length_eq_zero hc
  rw[List.filter_eq_nil_iff]at he
  have:=he i (by simpa using hi)
  exact(hD i hi).1 (by simpa using this)
 |fuel+1,t,listed,acc,D,hs,hD,hc=>by
  have hgd: ∀ i,i<ops.size->listed.getD i true=listed.getD i false:=by
   intro i hi
   rw[Array.getD_eq_getD_getElem?,Array.getD_eq_getD_getElem?,Array.getElem?_eq_getElem (by omega)]
   rfl
  obtain⟨rs,hrs⟩: ∃ rs,rs=(List.range ops.size).filter (fun i=> !listed.getD i true&&((ops[i]?).map (·.after.all fun e=> !Region.binds .any e||listed.getD e.on false)).getD false):=⟨_,rfl⟩
  have Ry: ∀ i,i∈rs↔i<ops.size/\i∉D/\ ∀ o e,ops[i]? =some o->e∈o.after->Region.binds .any e=true->e.on∈D:=by
   intro i
   rw[hrs,List.mem_filter,List.mem_range]
   constructor
   ·rintro⟨hi,h⟩
    simp only[Bool.and_eq_true,Bool.not_eq_true',hgd i hi]at h
    refine⟨hi,fun h2=>by rw[(hD i hi).2 h2]at h;exact absurd h.1 (by simp),?_⟩
    intro o e ho he hb
    rw[ho]at h
    simp only[Option.map_some,Option.getD_some,Array.all_eq_true_iff_forall_mem]at h
    have:=h.2 e he
    rw[hb]at this
    simp only[Bool.not_true,Bool.false_or]at this
    have eg:e.on<ops.size:=by
     have:=hd i o e ho he hb;omega
    exact(hD _ eg).1 this
   ·rintro⟨hi,h1,h2⟩
    refine⟨hi,?_⟩
    have ho:ops[i]? =some ops[i]:=Array.getElem?_eq_getElem hi
    have hf:listed.getD i false=false:=by
     rw[Bool.eq_false_iff]
     exact fun k=>h1 ((hD i hi).1 k)
    simp only[hgd i hi,hf,ho,Bool.not_false,Bool.true_and,Option.map_some,Option.getD_some,Array.all_eq_true_iff_forall_mem]
    intro e he
    cases hb:Region.binds .any e with
    |false=>rfl
    |true=>
     have eg:e.on<ops.size:=by have:=hd i _ e ho he hb;omega
     simp only[Bool.not_true,Bool.false_or]
     exact(hD _ eg).2 (h2 _ e ho he hb)
  have lj:rs≠[]:=by
   have:((List.range ops.size).filter fun i=> !listed.getD i false)≠[]:=by
    intro h;rw[h]at hc;cases hc
   obtain⟨x,hx⟩:=List.exists_mem_of_ne_nil _ this
   rw[List.mem_filter,List.mem_range]at hx
   obtain⟨m,⟨hm1,Bq⟩,hm3⟩:=least (p:=fun i=>i<ops.size/\i∉D) x ⟨hx.1,fun k=>by
    have:=(hD x hx.1).2 k
    rw[this]at hx;exact absurd hx.2 (by simp)⟩
   have:m∈rs:=by
    rw[Ry]
    refine⟨hm1,Bq,fun o e ho he hb=>?_⟩
    have eg:=hd m o e ho he hb
    exact Classical.byContradiction fun k=>hm3 _ eg ⟨by omega,k⟩
   intro h;rw[h]at this;cases this
  have hlen:0<rs.length:=List.length_pos_iff.2 lj
  have eg:=Nat.mod_lt t hlen
  have HV:rs[t % rs.length]? =some rs[t % rs.length]:=List.getElem?_eq_getElem eg
  obtain⟨i,hi⟩: ∃ i,i=rs[t % rs.length]:=⟨_,rfl⟩
  have Qr:i∈rs:=by rw[hi];exact List.getElem_mem eg
  obtain⟨Y6,CX,hi3⟩:=(Ry i).1 Qr
  have hl: ∀ j,j<ops.size->(listed.setIfInBounds i true).getD j false=(listed.getD j false||j == i):=by
   intro j hj
   rw[Array.getD_eq_getD_getElem?,Array.getD_eq_getD_getElem?]
   by_cases xz:j=i
   ·subst xz
    rw[Array.getElem?_setIfInBounds_self_of_lt (by omega)]
    simp
   ·rw[Array.getElem?_setIfInBounds_ne (by omega)]
    simp[xz]
  obtain⟨s,xy,hs2⟩:=DO hd fuel (t / rs.length) (listed.setIfInBounds i true) (i::acc) (i::D) (by simpa using hs)
   (fun j hj=>by
    rw[hl j hj]
    simp only[Bool.or_eq_true,beq_iff_eq,List.mem_cons,hD j hj]
    exact Or.comm)
   (by
    have hnd:(List.range ops.size).Nodup:=List.nodup_range
    have Y7:listed.getD i false=false:=by rw[Bool.eq_false_iff];exact fun k=>CX ((hD i Y6).1 k)
    have h1:=filter_one (p:=fun i=> !listed.getD i false) (List.range ops.size) i hnd (by simpa using Y6) (by simp only[Y7];rfl)
    have h2:((List.range ops.size).filter fun j=> !(listed.setIfInBounds i true).getD j false)=(List.range ops.size).filter fun x=>(!listed.getD x false)&&x != i:=by
     apply List.filter_congr
     intro x hx
     rw[hl x (by simpa using hx)]
     cases listed.getD x false<;>simp[bne]
    rw[h2]
    omega)
  refine⟨i::s,?_,Y6,CX,hi3,hs2⟩
  rw[Region.linearise.go]
  simp only[<-hrs,HV,<-hi,xy,List.reverse_cons,List.append_assoc,List.singleton_append]
omit [Io] in
theorem tR{ops:Array Oper}(hd:Down ops)(t:Nat):Iz ops [] (Region.schedule true ops t):=by
 have sx: ∀ i,i<ops.size->(Array.replicate ops.size false).getD i false=false:=by
  intro i hi
  rw[Array.getD_eq_getD_getElem?]
  simp[hi]
 obtain⟨s,h1,h2⟩:=DO hd ops.size t (Array.replicate ops.size false) [] [] (by simp) (fun i hi=>by rw[sx i hi];simp) (by
  have:((List.range ops.size).filter fun i=> !(Array.replicate ops.size false).getD i false)=List.range ops.size:=by
   rw[List.filter_eq_self]
   intro i hi
   rw[sx i (by simpa using hi)];rfl
  rw[this];simp)
 have:Region.schedule true ops t=s:=by
  simp only[Region.schedule,Bool.true_or,if_true,Region.linearise]
  rw[h1];simp
 rw[this]
 exact h2
def jN(acc:List Nat)(es:List Edge):Nat:=
 List.rec 0 (fun e _ ih=>ek (Region.binds .any e) (Nat.lor (Nat.lor (Nat.pow 2 e.on) ((gG acc e.on).getD 0)) ih) ih) es
def kF(l:List Oper):List Nat->List Nat:=
 List.rec (fun acc=>acc) (fun o _ ih acc=>ih (app acc [jN acc o.after.toList])) l
omit [Io] in
theorem l8{acc:List Nat}{k:Nat}: ∀ {es:List Edge},(jN acc es).testBit k=true-> ∃ e∈es,Region.binds .any e=true/\(e.on=k∨(acc.getD e.on 0).testBit k=true)
 | [],h=>by simp[jN]at h
 |e::es,h=>by
  change (ek (Region.binds .any e) (Nat.lor (Nat.lor (Nat.pow 2 e.on) ((gG acc e.on).getD 0)) (jN acc es)) (jN acc es)).testBit k=true at h
  cases hb:Region.binds .any e with
  |false=>
   rw[hb]at h
   obtain⟨e',he,h'⟩:=l8 (es:=es) h
   exact⟨e',List.mem_cons_of_mem _ he,h'⟩
  |true=>
   rw[hb]at h
   change ((2 ^ e.on ||| (gG acc e.on).getD 0) ||| jN acc es).testBit k=true at h
   rw[Nat.testBit_or,Nat.testBit_or,Nat.testBit_two_pow,Bool.or_eq_true,Bool.or_eq_true,ec]at h
   rcases h with(h|h)|h
   ·exact⟨e,List.mem_cons_self,hb,.inl (by simpa using h)⟩
   ·exact⟨e,List.mem_cons_self,hb,.inr (by simpa[List.getD]using h)⟩
   ·obtain⟨e',he,h'⟩:=l8 (es:=es) h
    exact⟨e',List.mem_cons_of_mem _ he,h'⟩
omit [Io] in
theorem qD: ∀ (l:List Oper) (acc:List Nat),(kF l acc).length=acc.length+l.length/\(∀ k,k<acc.length->(kF l acc)[k]? =acc[k]?)/\
 ∀ i o k,l[i]? =some o->((kF l acc).getD (acc.length+i) 0).testBit k=true-> ∃ e∈o.after.toList,Region.binds .any e=true/\(e.on=k∨((kF l acc).getD e.on 0).testBit k=true)
 | [],acc=>⟨by simp[kF],fun k _=>rfl,fun i o k h=>by simp at h⟩
 |o::l,acc=>by
  have hm:kF (o::l) acc=kF l (acc++[jN acc o.after.toList]):=by
   show kF l (app acc _)=_
   rw[bO]
  obtain⟨h1,h2,h3⟩:=qD l (acc++[jN acc o.after.toList])
  rw[<-hm]at h1 h2 h3
  refine⟨by rw[h1];simp;omega,fun k hk=>?_,?_⟩
  ·rw[h2 k (by simp;omega),List.getElem?_append_left hk]
  ·intro i o' k hi hk
   cases i with
   |zero=>
    simp at hi
    subst hi
    have Rz:(kF (o::l) acc)[acc.length]? =some (jN acc o.after.toList):=by
     rw[h2 acc.length (by simp)];simp
    simp only[Nat.add_zero,List.getD,Rz,Option.getD_some]at hk
    obtain⟨e,he,hb,GV⟩:=l8 hk
    refine⟨e,he,hb,GV.imp id fun h=>?_⟩
    by_cases eg:e.on<acc.length
    ·simp only[List.getD]at h ⊢
     rw[h2 _ (by simp;omega),List.getElem?_append_left eg];exact h
    ·simp only[List.getD,List.getElem?_eq_none (Nat.le_of_not_lt eg)]at h
     simp at h
   |succ i=>
    have:=h3 i o' k (by simpa using hi) (by
     simp only[List.length_append,List.length_cons,List.length_nil,Nat.zero_add]
     rw[show acc.length+1+i=acc.length+(i+1) by omega];exact hk)
    exact this
def x7(ops:List Oper)(i k:Nat):Bool:=((kF ops []).getD i 0).testBit k
def tT(ops:List Oper)(D:List Nat):Prop:= ∀ j∈D,∀ k,x7 ops j k=true->k∈D
omit [Io] in
theorem vJ{ops:Array Oper}{D:List Nat}(hc:tT ops.toList D){i:Nat}{o:Oper}(ho:ops[i]? =some o)
 (h: ∀ o e,ops[i]? =some o->e∈o.after->Region.binds .any e=true->e.on∈D):(∀ k,x7 ops.toList i k=true->k∈D)/\tT ops.toList (i::D):=by
 have h1: ∀ k,x7 ops.toList i k=true->k∈D:=by
  intro k hk
  obtain⟨_,_,h3⟩:=qD ops.toList []
  obtain⟨e,he,hb,GV⟩:=h3 i o k (by simpa using ho) (by simpa[x7]using hk)
  have zD:=h o e ho (by simpa using he) hb
  rcases GV with rfl|GV
  ·exact zD
  ·exact hc _ zD k (by simpa[x7]using GV)
 refine⟨h1,fun j hj k hk=>?_⟩
 cases hj with
 |head=>exact List.mem_cons_of_mem _ (h1 k hk)
 |tail _ hj=>exact List.mem_cons_of_mem _ (hc j hj k hk)
end Go.Ab

noncomputable section
namespace Go.Ab
variable [Io]
section
variable {P:Program}{call:bV}
omit [Io] in
theorem mQ{t t':Tm}: ∀ (l:List Operand),(∀ x∈l,aU x t=aU x t')->nP (l.map aU) t=nP (l.map aU) t'
 | [],_=>rfl
 |x::l,h=>by
  show(Option.rec none (fun v=>Option.rec none (fun vs=>some (v::vs)) (nP (l.map aU) t)) (aU x t):Option (List AV))=
   Option.rec none (fun v=>Option.rec none (fun vs=>some (v::vs)) (nP (l.map aU) t')) (aU x t')
  rw[h x List.mem_cons_self,mQ l fun y hy=>h y (List.mem_cons_of_mem _ hy)]
omit [Io] in
theorem qE{t t':Tm}: ∀ (l:List (Nat×Operand)),(∀ x∈l.map (·.2),aU x t=aU x t')->iW (jK l) t=iW (jK l) t'
 | [],_=>rfl
 |p::l,h=>by
  show(match aU p.2 t with|some v=>(match iW (jK l) t with|some vs=>some ((p.1,v)::vs)|none=>none)|none=>none)=
   (match aU p.2 t' with|some v=>(match iW (jK l) t' with|some vs=>some ((p.1,v)::vs)|none=>none)|none=>none)
  rw[h p.2 List.mem_cons_self,qE l fun y hy=>h y (List.mem_cons_of_mem _ hy)]
omit [Io] in
theorem qF{t t':Tm}{place:Nat->Option (Nat×Nat)}: ∀ (l:List (Nat×Operand)) (ps:List (Nat×Nat×dk)),nZ place l=some ps->(∀ x∈l.map (·.2),aU x t=aU x t')->iX ps t=iX ps t'
 | [],ps,e,_=>by cases e;rfl
 |p::l,ps,e,h=>by
  change (match place p.1 with|some (off,size)=>(match nZ place l with|some r=>some ((off,size,aU p.2)::r)|none=>none)|none=>none)=some ps at e
  split at e
  ·split at e
   ·rename_i r hr
    cases e
    show(match aU p.2 t with|some v=>(match iX r t with|some vs=>some ((_,_,v)::vs)|none=>none)|none=>none)=
     (match aU p.2 t' with|some v=>(match iX r t' with|some vs=>some ((_,_,v)::vs)|none=>none)|none=>none)
    rw[h p.2 List.mem_cons_self,qF l r hr fun y hy=>h y (List.mem_cons_of_mem _ hy)]
   ·cases e
  ·cases e
omit [Io] in
theorem qG{t t':Tm}{d:Nat}(x:Option Operand)(h: ∀ y∈x.toList,aU y t=aU y t'):iY (x.map aU) t d=iY (x.map aU) t' d:=by
 cases x with
 |none=>rfl
 |some y=>simp only[Option.map_some,iY,h y (by simp)]
omit [Io] in
theorem x8{t t':Tm}{n:Nat}(lo hi:Option Operand)(h1: ∀ y∈lo.toList,aU y t=aU y t')(h2: ∀ y∈hi.toList,aU y t=aU y t'):
 bounds (lo.map aU) (hi.map aU) t n=bounds (lo.map aU) (hi.map aU) t' n:=by
 unfold bounds
 rw[qG lo h1,qG hi h2]
def dA(t t':Tm)(h:Hp)(f:dh):Prop:=f t h=f t' h
omit [Io] in
theorem IA{t t':Tm}{h:Hp}:dA t t' h bE:=rfl
omit [Io] in
theorem gY{t t':Tm}{h:Hp}{c:Bool}{f:dh}(e:dA t t' h f):dA t t' h (ek c f bE):=by cases c;exact IA;exact e
omit [Io] in
theorem DP{t t':Tm}{h:Hp}{c:Bool}{f f':dh}(e:dA t t' h f)(e':dA t t' h f'):dA t t' h (ek c f f'):=by cases c;exact e';exact e
omit [Io] in
theorem IB{t t':Tm}{h:Hp}(o:Op)(e: ∀ x∈o.operands.toList,aU x t=aU x t'):dA t t' h (jM P call o).2:=by
 cases o<;>simp only[jM]
 case move x=>simp only[dA,aa,e x (by simp[Op.operands])]
 case assign x=>simp only[dA,aa,e x (by simp[Op.operands])]
 case pick c x y=>simp only[dA,aR,aa,e c (by simp[Op.operands]),e x (by simp[Op.operands]),e y (by simp[Op.operands])]
 case alloc T=>unfold DB;split<;>rfl
 case box T x=>simp only[dA,cp,e x (by simp[Op.operands])]
 case build T ps=>
  unfold qm
  split
  ·split
   ·split
    ·rename_i q h3
     simp only[dA,ao,qF (t:=t) (t':=t') ps.toList q h3 (fun x hx=>e x (by simpa[Op.operands]using hx))]
    ·rfl
   ·rfl
  ·rfl
 case buildSlice T n ps=>
  have hp:=qE (t:=t) (t':=t') ps.toList (fun x hx=>e x (by simpa[Op.operands]using hx))
  unfold C4
  split
  ·split
   ·split
    ·refine gY ?_
     simp only[dA,bp,hp]
    ·rfl
   ·rfl
  ·rfl
 case load T x=>
  unfold vC
  split
  ·split
   ·simp only[dA,ae,e x (by simp[Op.operands])]
   ·rfl
  ·rfl
 case store T x y=>
  unfold tE
  split
  ·refine gY ?_
   simp only[dA,aA,e x (by simp[Op.operands]),e y (by simp[Op.operands])]
  ·rfl
 case nilCheck x=>simp only[dA,aB,e x (by simp[Op.operands])]
 case binOp op T x y yT=>
  cases vB P op T with
  |none=>rfl
  |some f=>simp only[dA,af,e x (by simp[Op.operands]),e y (by simp[Op.operands])]
 case unOp op T x=>
  cases Nn op with
  |none=>rfl
  |some f=>simp only[dA,bL,e x (by simp[Op.operands])]
 case convert S D x=>
  have hx:=e x (by simp[Op.operands])
  split
  ·simp only[tK]
   split
   ·split
    ·split
     ·simp only[dA,jH,hx]
     ·rfl
    ·rfl
   ·split
    ·split
     ·refine gY ?_
      simp only[dA,lS,hx]
     ·rfl
    ·rfl
   ·rfl
  ·simp only[su]
   split
   ·split
    ·simp only[dA,bL,hx]
    ·rfl
   ·rfl
 case makeFunc f first caps=>
  cases f<;>try rfl
  simp only
  split
  ·simp only[dA,GR,mQ (t:=t) (t':=t') caps.toList (fun x hx=>e x (by simp[Op.operands];exact .inr (by simpa using hx)))]
  ·rfl
 case makeMap T r=>cases r<;>rfl
 case makeSlice T l c=>
  have h1:=e l (by simp[Op.operands])
  have h2:=e c (by simp[Op.operands])
  unfold vp
  split
  ·split
   ·split
    ·refine gY ?_
     simp only[dA,jo,h1,h2]
    ·rfl
   ·rfl
  ·rfl
 case slice T x lo hi mx=>
  cases mx with
  |some m=>
   have hx:=e x (by simp[Op.operands])
   have hm:=e m (by simp[Op.operands])
   have hh: ∀ y∈hi.toList,aU y t=aU y t':=fun y hy=>e y (by simp[Op.operands];right;right;left;simpa using hy)
   simp only
   unfold mP
   split
   ·rename_i y
    have hy:=hh y (by simp)
    split
    ·split
     ·simp only[dA,qa,wO,hx,hy,hm]
     ·rfl
    ·rfl
   ·rfl
  |none=>
  have hx:=e x (by simp[Op.operands])
  have hl: ∀ y∈lo.toList,aU y t=aU y t':=fun y hy=>e y (by simp[Op.operands];right;left;simpa using hy)
  have hh: ∀ y∈hi.toList,aU y t=aU y t':=fun y hy=>e y (by simp[Op.operands];right;right;simpa using hy)
  have hb: ∀ n,bounds (lo.map aU) (hi.map aU) t n=bounds (lo.map aU) (hi.map aU) t' n:=fun n=>x8 lo hi hl hh
  simp only
  unfold qz
  split
  ·simp only[dA,ct,hx,hb]
  ·split
   ·simp only[dA,bM,iZ,hx,hb]
   ·rfl
  ·split
   ·refine gY ?_
    simp only[dA,en,hx,hb]
   ·rfl
  ·rfl
 case fieldAddr T x n=>
  have hx:=e x (by simp[Op.operands])
  unfold iC
  split
  ·split
   ·split
    ·refine gY ?_
     simp only[dA,ab,hx]
    ·rfl
   ·rfl
  ·rfl
 case field T x n=>
  have hx:=e x (by simp[Op.operands])
  unfold qx
  split
  ·split
   ·split
    ·split
     ·simp only[dA,iy,hx]
     ·rfl
    ·rfl
   ·rfl
  ·rfl
 case indexAddr T x y=>
  have hx:=e x (by simp[Op.operands])
  have hy:=e y (by simp[Op.operands])
  unfold iD
  split
  ·split
   ·simp only[dA,bq,hx,hy]
   ·rfl
  ·split
   ·simp only[dA,j9,hx,hy]
   ·rfl
  ·rfl
 case index T x y=>
  have hx:=e x (by simp[Op.operands])
  have hy:=e y (by simp[Op.operands])
  unfold qy
  split
  ·split
   ·split
    ·simp only[dA,gH,hx,hy]
    ·rfl
   ·rfl
  ·simp only[dA,bK,hx,hy]
  ·rfl
 case extract x i=>simp only[dA,aJ,e x (by simp[Op.operands])]
 case call c=>
  have jw: ∀ x∈c.args.toList,aU x t=aU x t':=fun x hx=>e x (by simp[Op.operands,Call.operands];right;simpa using hx)
  cases hb:eR P c with
  |some f=>
   simp only
   unfold eR at hb
   split at hb
   ·split at hb
    ·rename_i x T h1 h2
     cases hb
     have hx:=jw x (by simp[h1])
     unfold Dz
     split
     ·simp only[dA,fy,hx]
     ·simp only[dA,aT,wO,hx]
     ·rfl
     ·rfl
    ·cases hb;rfl
   ·split at hb
    ·rename_i x T h1 h2
     cases hb
     have hx:=jw x (by simp[h1])
     unfold DA
     split
     ·simp only[dA,mC,wO,hx]
     ·rfl
    ·cases hb;rfl
   ·split at hb
    ·rename_i x y h1
     cases hb
     simp only[dA,nS,af,jw x (by simp[h1]),jw y (by simp[h1])]
    ·cases hb;rfl
   ·split at hb
    ·rename_i x y h1
     cases hb
     simp only[dA,rJ,af,jw x (by simp[h1]),jw y (by simp[h1])]
    ·cases hb;rfl
   ·cases hb
  |none=>
   simp only
   unfold zy
   split
   ·split
    ·rename_i s x T T' h1 h2
     have h3:=jw s (by simp[h1])
     have h4:=jw x (by simp[h1])
     refine DP ?_ ?_
     ·unfold pI
      split
      ·split
       ·split
        ·refine gY ?_
         simp only[dA,aF,jI,wO,h3,h4]
        ·rfl
       ·rfl
      ·rfl
     ·unfold zm
      split
      ·unfold zl
       split
       ·split
        ·split
         ·split
          ·refine gY ?_
           simp only[dA,mE,h3,h4]
          ·rfl
         ·rfl
        ·rfl
       ·rfl
      ·unfold zk
       split
       ·split
        ·split
         ·split
          ·refine gY ?_
           simp only[dA,j1,h3,h4]
          ·rfl
         ·rfl
        ·rfl
       ·rfl
    ·rfl
   ·split
    ·rename_i d s T T' h1 h2
     have h3:=jw d (by simp[h1])
     have h4:=jw s (by simp[h1])
     unfold zx
     split
     ·split
      ·simp only[dA,fQ,wO,h3,h4]
      ·rfl
     ·rfl
    ·rfl
   ·rename_i f args l6
    simp only[dA,aj,mQ (t:=t) (t':=t') args.toList jw]
   ·rename_i f args l6 _
    have hf:=e f (by simp[Op.operands,Call.operands])
    simp only[dA,eB,hf,mQ (t:=t) (t':=t') args.toList jw]
   ·rfl
 all_goals rfl
def vK:Operand->List Nat
 | .tmp i=>[i]
 | _=>[]
def lA(all:List Oper)(o:Oper):List Nat:=
 app (List.rec [] (fun x _ ih=>app (vK x) ih) o.op.operands.toList) (match o.guard with
  |none=>[]
  |some (j,_)=>match gG all j with
   |some oj=>match oj.dst with
    |some d=>[d]
    |none=>[]
   |none=>[])
omit [Io] in
theorem vL{x:Operand}{i:Nat}: ∀ {l:List Operand},x∈l->i∈vK x->i∈(List.rec [] (fun x _ ih=>app (vK x) ih) l:List Nat)
 | [],h,_=>by cases h
 |y::l,h,hi=>by
  show i∈app (vK y) _
  rw[bO]
  cases h with
  |head=>exact List.mem_append_left _ hi
  |tail _ h=>exact List.mem_append_right _ (vL h hi)
omit [Io] in
theorem IC{nt:Nat}{all:List Oper}{o:Oper}{t t':Tm}{h:Hp}(e: ∀ u∈lA all o,t.at u=t'.at u):gA P call nt all o t h=gA P call nt all o t' h:=by
 have hx: ∀ x∈o.op.operands.toList,aU x t=aU x t':=by
  intro x hx
  cases x with
  |tmp i=>
   have:=e i (by unfold lA;rw[bO];exact List.mem_append_left _ (vL hx (by simp[vK])))
   show ek (Nat.blt i 512) (oT i) oX t=ek (Nat.blt i 512) (oT i) oX t'
   cases Nat.blt i 512
   ·rfl
   ·exact this
  |const v=>show(match G5 v with|some a=>oC a|none=>oX) t=(match G5 v with|some a=>oC a|none=>oX) t';cases G5 v<;>rfl
  |global g=>rfl
  |func f=>rfl
 have hd:=IB (P:=P) (call:=call) (h:=h) o.op hx
 unfold gA
 cases hg:o.guard with
 |none=>exact hd
 |some p=>
  obtain⟨j,want⟩:=p
  simp only
  cases hj:gG all j with
  |none=>rfl
  |some oj=>
   simp only
   cases hdj:oj.dst with
   |none=>rfl
   |some d=>
    simp only
    cases Nat.blt d nt with
    |false=>rfl
    |true=>
     have sa:t.at d=t'.at d:=e d (by
      unfold lA
      rw[bO,hg]
      refine List.mem_append_right _ ?_
      simp[hj,hdj])
     show gF (oT d) want (jM P call o.op).2 t h=gF (oT d) want (jM P call o.op).2 t' h
     unfold gF
     unfold dA at hd
     rw[hd]
     show(match t.at d with|some (.bool b)=>_|some (.mw [])=>_| _=>_)=(match t'.at d with|some (.bool b)=>_|some (.mw [])=>_| _=>_)
     rw[sa]
end
end Go.Ab
