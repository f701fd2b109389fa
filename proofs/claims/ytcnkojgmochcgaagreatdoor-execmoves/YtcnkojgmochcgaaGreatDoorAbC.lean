import Derived.Test.YtcnkojgmochcgaaGreatDoorAb10
import Derived.LoopN
noncomputable section
namespace Go.Ab
variable [Io]
section
variable {P:Program}{o:Oper}
omit [Io] in
theorem run_copy_none(w:World)(dT sT ty elem:TypeId)(i:TypeInfo)(hu:P.underlying dT=some (.slice elem))(hi:P.info? elem=some i)(d x:Option Addr)(Bo Nu bS cY:Nat)(hn:Nat.min bS Bo=0):
 (Builtin.copy_ #[dT,sT] ty #[.slice d Bo Nu,.slice x bS cY]).run P w=.ok (.int .i64 (Int.ofNat 0)) w:=by
 have hl: ∀ a:Addr,(loadCells a 0).run P w=.ok #[] w:=fun a=>run_loadCells_list (P:=P) w a [] (by simp)
 cases d<;>cases x<;>simp[Builtin.copy_,run_underlying hu,Builtin.lenOf,Builtin.firstCells,sizeOf,typeInfo,hi,hn,hl,storeCells,goInt]
omit [Io] in
theorem rF(w:World)(dT sT ty elem:TypeId)(i:TypeInfo)(hu:P.underlying dT=some (.slice elem))(hi:P.info? elem=some i)(g o Bo Nu:Nat)(a:Addr)(bS cY:Nat)(cur:Array Value)(t:FT cur)(cs:List Value)
 (hg:w.heap[g]? =some (.cells cur t.el t.fz))(hn:cs.length=Nat.min bS Bo*i.size)(Nv: ∀ j v,cs[j]? =some v->w.cell? (a.add j)=some v)(jF:o+cs.length<=cur.size)(h1: ∀ v∈cs,v.oneCell'=true):
 (Builtin.copy_ #[dT,sT] ty #[.slice (some ⟨g,o,none⟩) Bo Nu,.slice (some a) bS cY]).run P w=
  .ok (.int .i64 (Int.ofNat (Nat.min bS Bo))) (w.setRow g (cur.toList.take o++cs++cur.toList.drop (o+cs.length)).toArray):=by
 have hl:=run_loadCells_list (P:=P) w a cs Nv
 have oM:=db P g o t.el t.fz cs 0 cur w hg t.ok (by simpa using jF) h1
 simp[Builtin.copy_,run_underlying hu,Builtin.lenOf,Builtin.firstCells,sizeOf,typeInfo,hi,<-hn,hl,oM,goInt]
def zk(P:Program)(T:TypeId)(d s:Operand):dg:=match P.underlying T with
 |some (.slice e)=>match P.info? e with
  |some i=>fQ i.size (wO (aR d)) (wO (aR s))
  |none=>bA
 | _=>bA
theorem Bp{T T':TypeId}{d s:Operand}(ho:o.op=.call {callee:=.builtin .copy,args:= #[d,s],argTypes:= #[T,T']}):ik P o (zk P T d s):=by
 intro g w nt t h a v h' H Tr e
 unfold zk at e
 cases hu:P.underlying T with
 |none=>rw[hu]at e;cases e
 |some dd=>
 rw[hu]at e
 cases dd<;>try (cases e;done)
 rename_i el
 simp only at e
 cases hi:P.info? el with
 |none=>rw[hi]at e;cases e
 |some i=>
  rw[hi]at e
  change fQ i.size (wO (aR d)) (wO (aR s)) t h=.ok v h' at e
  have hex: ∀ vd vs r w',a.eval d=vd->a.eval s=vs->(Builtin.copy_ #[T,T'] o.type #[vd,vs]).run P w=.ok r w'->(execOp a.eval o).run P w=.ok (.value r) w':=by
   intro vd vs r w' h1 h2 h3
   unfold execOp
   simp only[ho,resolve,invoke,builtin,Sem.run_bind,Sem.run_pure,Result.andThen_ok,List.map_toArray,List.map_cons,List.map_nil,h1,h2,h3]
  unfold fQ at e
  split at e
  ·rename_i hd
   split at e
   ·rename_i xv hs
    split at e
    ·rename_i p Rk
     cases e
     have QB:=eS d _ _ _ _ _ _ Tr hd
     have cU:=eS s _ _ _ _ _ _ Tr hs
     simp only[VR]at QB
     obtain⟨b,Ls⟩:=QB
     obtain⟨n,cs⟩:=p
     obtain⟨xa,xc,HK,hxc,rE⟩:=gC H cU Rk
     exact⟨g,w,_,_,hex _ _ _ _ Ls HK (run_copy_none w T T' o.type el i hu hi _ _ _ _ _ _ (Nat.min_zero _)),.inl rfl,Ext.refl _ _ _,H,by simp only[VR]⟩
    ·cases e
   ·cases e
  ·rename_i id off n sz hd
   split at e
   ·rename_i xv hs
    split at e
    ·rename_i m src Rk
     have QB:=eS d _ _ _ _ _ _ Tr hd
     have cU:=eS s _ _ _ _ _ _ Tr hs
     obtain⟨xa,xc,HK,hxc,rE⟩:=gC H cU Rk
     simp only[VR]at QB
     rw[mM]at e
     cases hk:Nat.beq (min m n) 0 with
     |true=>
      rw[hk]at e
      cases e
      have RE:Nat.min m n=0:=Nat.eq_of_beq_eq_true hk
      rcases QB with⟨rfl,b,Ls⟩|⟨b,s',cap,hm,Ls,mS,_⟩
      ·exact⟨g,w,_,_,hex _ _ _ _ Ls HK (run_copy_none w T T' o.type el i hu hi _ _ _ _ _ _ RE),.inl rfl,Ext.refl _ _ _,H,by simp only[VR]⟩
      ·exact⟨g,w,_,_,hex _ _ _ _ Ls HK (run_copy_none w T T' o.type el i hu hi _ _ _ _ _ _ RE),.inl rfl,Ext.refl _ _ _,H,by simp only[VR]⟩
     |false=>
      rw[hk]at e
      have RE:min m n≠0:=fun k=>by rw[k]at hk;cases hk
      simp only[cond_false]at e
      split at e
      ·rename_i cs hg
       cases hb:((Nat.blt 0 i.size&&(Nat.beq sz i.size&&(Nat.beq (len src) (Nat.mul m i.size)&&dK cH src)))&&Nat.ble (Nat.add off (Nat.mul (min m n) i.size)) cs.n)with
       |false=>rw[hb]at e;cases e
       |true=>
        rw[hb]at e
        cases e
        simp only[Bool.and_eq_true,bE]at hb
        obtain⟨⟨b0,b1,b2,b3⟩,b4⟩:=hb
        have b0:=bh.1 b0
        obtain rfl:=Nat.eq_of_beq_eq_true b1
        have b2:src.length=m*i.size:=Nat.eq_of_beq_eq_true b2
        have b4:off+min m n*i.size<=cs.n:=Nat.le_of_ble_eq_true b4
        have hmn:min m n*i.size<=m*i.size:=Nat.mul_le_mul_right _ (Nat.min_le_left m n)
        rcases QB with⟨rfl,b,Ls⟩|⟨b,s',cap,hm,Ls,mS,_⟩
        ·rw[Nat.min_zero]at RE;exact absurd rfl RE
        ·obtain⟨C,el',vs,hw,_,H9,hc⟩:=H.row hg hm
         rcases rE with rfl|⟨xb,xs,us,rfl,uN,fh⟩
         ·exfalso
          have hz:m*i.size=0:=b2.symm
          have hp:0<min m n*i.size:=Nat.mul_pos (by omega) b0
          omega
         ·have Ri:=uN.length
          have xN:(us.take (min m n*i.size)).length=min m n*i.size:=by rw[List.length_take];omega
          have RF:(src.take (min m n*i.size)).length=min m n*i.size:=by rw[List.length_take];omega
          have kb:s'+off+(us.take (min m n*i.size)).length<=C.size:=by
           rw[xN]
           have hp:0<min m n*i.size:=Nat.mul_pos (by omega) b0
           have:=bq.ku H9 hc (n:=off+min m n*i.size) (by rw[da];exact b4) (by omega)
           omega
          have hr:=rF (P:=P) w T T' o.type el i hu hi b (s'+off) n cap ⟨xb,xs,none⟩ m xc C el' (us.take (min m n*i.size)) hw xN (fun j v e=>by
           rw[List.getElem?_take]at e
           split at e
           ·exact iq fh j v e
           ·cases e) kb (fun v hv=>bq.xF uN b3 v (List.mem_of_mem_take hv))
          obtain⟨E,H'⟩:=n8 H (C':=(C.toList.take (s'+off)++us.take (min m n*i.size)++C.toList.drop (s'+off+(us.take (min m n*i.size)).length)).toArray)
           hg hm hw (by simp at kb ⊢;omega) (cs':=cs.put off (tk (Nat.mul (min m n) i.size) src)) (us:=vs.take off++(us.take (min m n*i.size)++vs.drop (off+(us.take (min m n*i.size)).length)))
           (by rw[kp];show bq g w (cs.put off (src.take (min m n*i.size))).toL _;rw[lh (by rw[RF];exact b4),put_eq,RF,xN];exact(H9.take _).append ((uN.take _).append (H9.drop _)))
           (fun j v e=>tp hc kb j v e (by have:=H9.length;rw[da]at this;omega))
          exact⟨g,_,_,_,hex _ _ _ _ Ls HK hr,.inl rfl,E,H',by simp only[VR]⟩
      ·cases e
    ·cases e
   ·cases e
  ·cases e
theorem Bq{T el:TypeId}{x y z:Operand}(ho:o.op=.slice T x none (some y) (some z))(hd:P.underlying T=some (.slice el)){i:TypeInfo}(hi:P.info? el=some i):bC P o (pY (wO (aR x)) (aR y) (aR z)):=by
 intro g w nt t h a v h' H Tr e
 unfold pY at e
 split at e
 ·rename_i ky n hy
  split at e
  ·rename_i kz m hz
   obtain⟨h1,h2⟩:=(by
    cases hb:(Nat.beq n 0&&Nat.beq m 0)with
    |false=>rw[hb]at e;cases e
    |true=>rw[Bool.and_eq_true]at hb;exact hb:Nat.beq n 0=true/\Nat.beq m 0=true)
   rw[h1,h2]at e
   simp only[Bool.and_self,cond_true]at e
   obtain rfl:=Nat.eq_of_beq_eq_true h1
   obtain rfl:=Nat.eq_of_beq_eq_true h2
   have pB:=bc y _ _ _ _ _ _ Tr hy
   have hvz:=bc z _ _ _ _ _ _ Tr hz
   simp only[VR]at pB hvz
   have lx:(sizeOf el).run P w=.ok i.size w:=by simp[sizeOf,typeInfo,hi]
   have fX: ∀ b n c,a.eval x=.slice b n c->(execOp a.eval o).run P w=.ok (.value (.slice b 0 0)) w:=by
    intro b n c hx
    simp[execOp,ho,hx,pB,hvz,Instr.sliceAt,Instr.slice,run_underlying hd,Instr.sliceBounds,Instr.sliceBound,asIntOf,lx]
   split at e
   ·rename_i hx
    cases e
    have hv:=eS x _ _ _ _ _ _ Tr hx
    simp only[VR]at hv
    obtain⟨b,hv⟩:=hv
    exact⟨rfl,_,fX _ _ _ hv,by simp only[VR];exact⟨_,rfl⟩⟩
   ·rename_i hx
    cases e
    have hv:=eS x _ _ _ _ _ _ Tr hx
    simp only[VR]at hv
    rcases hv with⟨_,b,hv⟩|⟨b,s,cap,_,hv,_⟩
    ·exact⟨rfl,_,fX _ _ _ hv,by simp only[VR];exact⟨_,rfl⟩⟩
    ·exact⟨rfl,_,fX _ _ _ hv,by simp only[VR];exact⟨_,rfl⟩⟩
   ·rename_i hx
    cases e
    have hv:=eS x _ _ _ _ _ _ Tr hx
    simp only[VR]at hv
    obtain⟨b,cap,hv,_⟩:=hv
    exact⟨rfl,_,fX _ _ _ hv,by simp only[VR];exact⟨_,rfl⟩⟩
   ·cases e
  ·cases e
 ·cases e
end
end Go.Ab

noncomputable section
namespace Go.Ab
variable [Io]
def cC(P:Program)(call:bP):Prop:=
 ∀ f args h v h',call f args h=.ok v h'->(∀ as w,(callFunc f as).run P w=.ok (.enter f as) w)/\
  ∀ (g:G) (w:World) (vs:List Value),HR g w h->bq g w args vs->
   Calls P f vs.toArray w fun e w'=> ∃ x g',e=.returned x/\Ext g w h g' w' h'/\HR g' w' h'/\VR g' w' v x
def vz(P:Program)(op:BinOp)(T:TypeId):Option (AV->AV->Option AV):=
 match op with
 | .add=>some aT| .sub=>some bT| .mul=>some eU| .quo=>some mF| .rem=>some jZ
 | .and=>some cz| .or=>some gi| .xor=>some rU| .andNot=>some jy| .shl=>some fo| .shr=>some cJ
 | .lss=>some aS| .leq=>some cB| .gtr=>some cE| .geq=>some bN
 | .eql=>match P.underlying T with
  |some (.int _)=>some (ak false)
  |some .bool=>some (sZ false)
  |some .string=>some (pU false)
  |some (.pointer _)=>some (gL false)
  |some (.slice _)=>some (gM false)
  |some (.struct _)=>Bn P false T
  | _=>none
 | .neq=>match P.underlying T with
  |some (.int _)=>some (ak true)
  |some .bool=>some (sZ true)
  |some .string=>some (pU true)
  |some (.pointer _)=>some (gL true)
  |some (.slice _)=>some (gM true)
  |some (.struct _)=>Bn P true T
  | _=>none
theorem Ia{P:Program}{op:BinOp}{T:TypeId}{f:AV->AV->Option AV}(h:vz P op T=some f):bY P op T f:=by
 unfold vz at h
 cases op<;>simp only at h
 case eql=>
  split at h
  ·cases h;exact Dh T
  ·rename_i hu;cases h;exact Hx hu
  ·cases h;exact Hz T
  ·rename_i hu;cases h;exact HB hu
  ·rename_i hu;cases h;exact HE hu
  ·exact H7 h
  ·cases h
 case neq=>
  split at h
  ·cases h;exact Di T
  ·rename_i hu;cases h;exact Hy hu
  ·cases h;exact HA T
  ·rename_i hu;cases h;exact HD hu
  ·rename_i hu;cases h;exact HF hu
  ·exact H8 h
  ·cases h
 all_goals cases h
 case add=>exact C4 T
 case sub=>exact C5 T
 case mul=>exact Dl T
 case quo=>exact Dk T
 case rem=>exact Dj T
 case and=>exact C8 T
 case or=>exact C9 T
 case xor=>exact Da T
 case shl=>exact Db T
 case shr=>exact Dc T
 case andNot=>exact xI T
 case lss=>exact Dd T
 case leq=>exact Df T
 case gtr=>exact De T
 case geq=>exact Dg T
def Nw(op:UnOp):Option (AV->Option AV):=
 match op with
 | .not=>some ed
 | .neg=>some s6
 | .xor=>some A5
 | .plus=>none
def vA(P:Program)(T:TypeId)(x:Operand):dg:=
 match P.underlying T with
 |some d=>match P.info? T with
  |some i=>ae i.size (fF d) (aR x)
  |none=>bA
 |none=>bA
def sa(P:Program)(S D:TypeId)(x:Operand):dg:=
 match P.underlying S with
 |some _=>match P.underlying D with
  |some (.int k)=>bF (aJ k) (aR x)
  | _=>bA
 |none=>bA
def tB(P:Program)(S D:TypeId)(x:Operand):dg:=
 match P.underlying S with
 |some .string=>match P.underlying D with
  |some (.slice e)=>match P.underlying e with
   |some (.int .u8)=>jA (aR x)
   | _=>bA
  | _=>bA
 |some (.slice _)=>match P.underlying D with
  |some (.slice e)=>match P.underlying e with
   |some (.int .u8)=>ej (Nat.beq S D) (lW (aR x)) bA
   | _=>bA
  | _=>bA
 | _=>bA
def iu(P:Program)(T:TypeId)(x:Operand)(n:Nat):dg:=
 match P.underlying T with
 |some (.struct fs)=>match fs[n]? with
  |some f=>match P.info? f.type with
   |some i=>ej (Nat.blt 0 i.size) (ab f.offset (aR x)) bA
   |none=>bA
  |none=>bA
 | _=>bA
def qm(P:Program)(T:TypeId)(x:Operand)(n:Nat):dg:=
 match P.underlying T with
 |some (.struct fs)=>match fs[n]? with
  |some f=>match P.underlying f.type with
   |some d=>match P.info? f.type with
    |some i=>ij f.offset i.size (fF d) (aR x)
    |none=>bA
   |none=>bA
  |none=>bA
 | _=>bA
def iw(P:Program)(T:TypeId)(x y:Operand):dg:=
 match P.underlying T with
 |some (.slice e)=>match P.info? e with
  |some i=>bg i.size (aR x) (aR y)
  |none=>bA
 |some (.array n e)=>match P.info? e with
  |some i=>j9 n i.size (aR x) (aR y)
  |none=>bA
 | _=>bA
def qn(P:Program)(T:TypeId)(x y:Operand):dg:=
 match P.underlying T with
 |some (.array n e)=>match P.underlying e with
  |some d=>match P.info? e with
   |some i=>gy n i.size (fF d) (aR x) (aR y)
   |none=>bA
  |none=>bA
 |some .string=>bG (aR x) (aR y)
 | _=>bA
def qo(P:Program)(T:TypeId)(x:Operand)(lo hi:Option Operand):dg:=
 match P.underlying T with
 |some .string=>ct (aR x) (lo.map aR) (hi.map aR)
 |some (.slice e)=>match P.info? e with
  |some i=>bB i.size (aR x) (lo.map aR) (hi.map aR)
  |none=>bA
 |some (.array n e)=>match P.info? e with
  |some i=>ej (Nat.blt 0 i.size) (ek n i.size (aR x) (lo.map aR) (hi.map aR)) bA
  |none=>bA
 | _=>bA
def mU(P:Program)(T:TypeId)(x:Operand)(lo hi:Option Operand)(m:Operand):dg:=
 match lo,hi with
 |none,some y=>match P.underlying T with
  |some (.slice e)=>match P.info? e with
   |some _=>pY (wO (aR x)) (aR y) (aR m)
   |none=>bA
  | _=>bA
 | _,_=>bA
def Dp(P:Program)(T:TypeId)(x:Operand):dg:=
 match P.underlying T with
 |some .string=>fB (aR x)
 |some (.slice _)=>aP (wO (aR x))
 |some (.array n _)=>aa (oC (.int .i64 (.ofNat n)))
 | _=>bA
def Dq(P:Program)(T:TypeId)(x:Operand):dg:=
 match P.underlying T with
 |some (.slice _)=>mH (wO (aR x))
 | _=>bA
def Dr(P:Program)(T:TypeId):dg:=
 match zeroOf P T with
 |some z=>bX z
 |none=>bA
inductive Cl where
 |p0|p1|al|ch
def zl(P:Program)(call:bP)(c:Call):dg:=
 match c with
 |⟨.builtin .append,args,mc⟩=>match args.toList,mc.toList with
  | [s,x],[T,T']=>ej (Nat.beq T T') (pD P T s x) (ze P T T' s x)
  | _,_=>bA
 |⟨.builtin .copy,args,mc⟩=>match args.toList,mc.toList with
  | [d,s],[T,_]=>zk P T d s
  | _,_=>bA
 |⟨.value (.func f),args,_⟩=>aj call f (args.toList.map aR)
 |⟨.value f,args,_⟩=>eB call (aR f) (args.toList.map aR)
 | _=>bA
def eW(P:Program)(c:Call):Option dg:=
 match c with
 |⟨.builtin .len,args,mc⟩=>match args.toList,mc.toList with
  | [x],[T]=>some (Dp P T x)
  | _,_=>some bA
 |⟨.builtin .cap,args,mc⟩=>match args.toList,mc.toList with
  | [x],[T]=>some (Dq P T x)
  | _,_=>some bA
 |⟨.builtin .min,args,_⟩=>match args.toList with
  | [x,y]=>some (mK (aR x) (aR y))
  | _=>some bA
 |⟨.builtin .max,args,_⟩=>match args.toList with
  | [x,y]=>some (rA (aR x) (aR y))
  | _=>some bA
 | _=>none
def jG(P:Program)(call:bP)(o:Op):Cl×dg:=
 match o with
 | .move x=>(.p0,aa (aR x))
 | .assign x=>(.p0,aa (aR x))
 | .pick c x y=>(.p0,aO (aR c) (aR x) (aR y))
 | .alloc T=>(.al,Dr P T)
 | .box _ x=>(.al,cb (aR x))
 | .build T ps=>(.p0,qe P T ps.toList)
 | .buildSlice T n ps=>(.al,CS P T n ps.toList)
 | .load T x=>(.p1,vA P T x)
 | .store T x y=>(.ch,tt P T x y)
 | .nilCheck x=>(.p0,aA (aR x))
 | .binOp op T x y _=>match vz P op T with
  |some f=>(.p0,af f (aR x) (aR y))
  |none=>(.p0,bA)
 | .unOp op _ x=>match Nw op with
  |some f=>(.p0,bF f (aR x))
  |none=>(.p0,bA)
 | .convert S D x=>match P.underlying D with
  |some (.slice _)=>(.ch,tB P S D x)
  | _=>(.p0,sa P S D x)
 | .makeFunc (.func f) first caps=>match first.toList with
  | []=>(.p0,GF f (caps.toList.map aR))
  | _=>(.p0,bA)
 | .makeSlice T l c=>(.al,vo P T l c)
 | .makeMap _ r=>match r with
  |none=>(.ch,A6)
  |some _=>(.ch,bA)
 | .slice T x lo hi none=>(.p1,qo P T x lo hi)
 | .slice T x lo hi (some m)=>(.p1,mU P T x lo hi m)
 | .fieldAddr T x n=>(.p0,iu P T x n)
 | .field T x n=>(.p0,qm P T x n)
 | .indexAddr T x y=>(.p0,iw P T x y)
 | .index T x y=>(.p0,qn P T x y)
 | .extract x i=>(.p0,aD (aR x) i)
 | .call c=>match eW P c with
  |some f=>(.p0,f)
  |none=>(.ch,zl P call c)
 | _=>(.ch,bA)
def tC(P:Program)(o:Oper)(f:dg):Prop:=
 ∀ (g:G) (w:World) (nt:Nat) (t:Tm) (h:Hp) (a:Act) (v:AV) (h':Hp),HR g w h->TR g w nt t a.tmps->f t h=.ok v h'->
  ∀ next Q,(∀ g' w' x,Ext g w h g' w' h'->HR g' w' h'->VR g' w' v x->next (a.put o.dst x) w')->o.wp P a w next Q
section
variable {P:Program}{o:Oper}
theorem ik.ok{f:dg}(h:ik P o f):tC P o f:=by
 intro g w nt t hp a v h' H T e next Q K
 obtain⟨g',w',nx,x,hr,QC,E,H',hv⟩:=h g w nt t hp a v h' H T e
 unfold Oper.wp
 rw[hr]
 rcases QC with rfl|⟨rfl,rfl⟩
 ·exact K g' w' x E H' hv
 ·exact K g' w' undef E H' hv
theorem bC.ok{f:dg}(h:bC P o f):tC P o f:=h.run.ok
theorem jj.ok{f:dg}(h:jj P o f):tC P o f:=h.run.ok
theorem oe:tC P o bA:=by intro g w nt t h a v h' _ _ e;cases e
theorem Ib{f:FuncId}{args:Array Operand}{mc:Array TypeId}{call:bP}(hc:cC P call)(ho:o.op=.call {callee:=.value (.func f),args,argTypes:=mc}):
 tC P o (aj call f (args.toList.map aR)):=by
 intro g w nt t h a v h' H T e next Q K
 unfold aj at e
 split at e
 ·rename_i vs cU
  obtain⟨RG,oP⟩:=hc f vs h v h' e
  have hv:=pA T args.toList cU
  have hr:(execOp a.eval o).run P w=.ok (.enter f (args.map a.eval)) w:=by
   simp[execOp,ho,resolve,Act.eval,Deferred.ofValue,invoke,RG]
  unfold Oper.wp
  rw[hr,Oper.upon_enter]
  have:=oP g w (args.toList.map a.eval) H hv
  rw[show(args.toList.map a.eval).toArray=args.map a.eval from by rw[<-Array.toList_map,Array.toArray_toList]]at this
  refine this.mono ?_
  rintro e w' ⟨x,g',rfl,E,H',hx⟩
  exact K g' w' x E H' hx
 ·cases e
theorem Ds{f:Operand}{args:Array Operand}{mc:Array TypeId}{call:bP}(hc:cC P call)(ho:o.op=.call {callee:=.value f,args,argTypes:=mc}):
 tC P o (eB call (aR f) (args.toList.map aR)):=by
 intro g w nt t h a v h' H T e next Q K
 unfold eB at e
 split at e
 ·rename_i k cap hf
  split at e
  ·rename_i vs cU
   have hfv:=bc f _ _ _ _ _ _ T hf
   simp only[VR]at hfv
   obtain⟨caps,hfe,RH⟩:=hfv
   obtain⟨RG,oP⟩:=hc k _ h v h' e
   have hv:=pA T args.toList cU
   have hr:(execOp a.eval o).run P w=.ok (.enter k (args.map a.eval++caps)) w:=by
    simp[execOp,ho,resolve,hfe,Deferred.ofValue,invoke,RG]
   unfold Oper.wp
   rw[hr,Oper.upon_enter]
   rw[bQ]at oP
   have:=oP g w (args.toList.map a.eval++caps.toList) H (hv.append RH)
   rw[show(args.toList.map a.eval++caps.toList).toArray=args.map a.eval++caps from by rw[<-Array.toList_map,<-Array.toList_append,Array.toArray_toList]]at this
   refine this.mono ?_
   rintro e w' ⟨x,g',rfl,E,H',hx⟩
   exact K g' w' x E H' hx
  ·cases e
 ·cases e
end
end Go.Ab

noncomputable section
namespace Go.Ab
variable [Io]
section
variable {P:Program}{o:Oper}{call:bP}
theorem x5{T:TypeId}{x:Operand}(ho:o.op=.load T x):bC P o (vA P T x):=by
 unfold vA
 split
 ·rename_i d hd
  split
  ·rename_i i hi;exact Bb ho hd hi
  ·exact bw
 ·exact bw
theorem qp{S D:TypeId}{x:Operand}(ho:o.op=.convert S D x):bC P o (sa P S D x):=by
 unfold sa
 split
 ·rename_i d hd
  split
  ·rename_i k hk;exact x0 ho hd hk
  ·exact bw
 ·exact bw
theorem x6{S D:TypeId}{x:Operand}(ho:o.op=.convert S D x):ik P o (tB P S D x):=by
 unfold tB
 split
 ·rename_i hS
  split
  ·rename_i e hD
   split
   ·rename_i he;exact xV ho hS hD he
   ·exact bw.run
  ·exact bw.run
 ·split
  ·rename_i e hD
   split
   ·rename_i he
    cases h:Nat.beq S D with
    |true=>
     obtain rfl:=Nat.eq_of_beq_eq_true h
     exact Bk ho hD he
    |false=>exact bw.run
   ·exact bw.run
  ·exact bw.run
 ·exact bw.run
theorem vB{c:Bool}{f:dg}(h:c=true->bC P o f):bC P o (ej c f bA):=by
 cases c with
 |true=>exact h rfl
 |false=>exact bw
theorem o4{T:TypeId}{x:Operand}{n:Nat}(ho:o.op=.fieldAddr T x n):bC P o (iu P T x n):=by
 unfold iu
 split
 ·rename_i fs hd
  split
  ·rename_i f hf
   split
   ·rename_i i hi
    exact vB fun h=>qc ho hd hf hi (by have:=bh.1 h;omega)
   ·exact bw
  ·exact bw
 ·exact bw
theorem vC{T:TypeId}{x:Operand}{n:Nat}(ho:o.op=.field T x n):bC P o (qm P T x n):=by
 unfold qm
 split
 ·rename_i fs hd
  split
  ·rename_i f hf
   split
   ·rename_i d zb
    split
    ·rename_i i hi
     exact xJ ho hd hf zb hi
    ·exact bw
   ·exact bw
  ·exact bw
 ·exact bw
theorem o5{T:TypeId}{x y:Operand}(ho:o.op=.indexAddr T x y):bC P o (iw P T x y):=by
 unfold iw
 split
 ·rename_i e hd
  split
  ·rename_i i hi;exact CJ ho hd hi
  ·exact bw
 ·rename_i n e hd
  split
  ·rename_i i hi;exact CK ho hd hi
  ·exact bw
 ·exact bw
theorem vD{T:TypeId}{x y:Operand}(ho:o.op=.index T x y):bC P o (qn P T x y):=by
 unfold qn
 split
 ·rename_i n e hd
  split
  ·rename_i d zb
   split
   ·rename_i i hi;exact xK ho hd zb hi
   ·exact bw
  ·exact bw
 ·rename_i hd;exact vf ho hd
 ·exact bw
theorem tD{T:TypeId}{x:Operand}{lo hi:Option Operand}{m:Operand}(ho:o.op=.slice T x lo hi (some m)):bC P o (mU P T x lo hi m):=by
 unfold mU
 split
 ·split
  ·rename_i e hd
   split
   ·rename_i i hi;exact Bq ho hd hi
   ·exact bw
  ·exact bw
 ·exact bw
theorem vE{T:TypeId}{x:Operand}{lo hi:Option Operand}(ho:o.op=.slice T x lo hi none):bC P o (qo P T x lo hi):=by
 unfold qo
 split
 ·rename_i hd;exact vg ho hd
 ·rename_i e hd
  split
  ·rename_i i hi;exact vh ho hd hi
  ·exact bw
 ·rename_i n e hd
  split
  ·rename_i i hi;exact vB fun h=>vk ho hd hi (by have:=bh.1 h;omega)
  ·exact bw
 ·exact bw
theorem Br{T:TypeId}{x:Operand}(ho:o.op=.call {callee:=.builtin .cap,args:= #[x],argTypes:= #[T]}):bC P o (Dq P T x):=by
 unfold Dq
 split
 ·rename_i hd;exact CI ho hd
 ·exact bw
theorem Bs{T:TypeId}{x:Operand}(ho:o.op=.call {callee:=.builtin .len,args:= #[x],argTypes:= #[T]}):bC P o (Dp P T x):=by
 unfold Dp
 split
 ·rename_i hd;exact A' ho hd
 ·rename_i e hd;exact CH ho hd
 ·rename_i n e hd;exact Ba ho hd
 ·exact bw
theorem Ic:jj P o bA:=by intro g w nt t h a v h' _ _ e;cases e
theorem Dt{T:TypeId}(ho:o.op=.alloc T):jj P o (Dr P T):=by
 unfold Dr
 split
 ·rename_i z hz;exact CQ ho hz
 ·exact Ic
theorem Du{op:UnOp}{T:TypeId}{x:Operand}{f:AV->Option AV}(ho:o.op=.unOp op T x)(h:Nw op=some f):bC P o (bF f (aR x)):=by
 cases op<;>cases h
 ·exact CF ho
 ·exact CG ho
 ·exact CD ho
omit [Io] in
theorem Ie{α:Type}{a:Array α}{x:α}(h:a.toList=[x]):a= #[x]:=by
 rw[<-Array.toArray_toList (xs:=a),h]
omit [Io] in
theorem Bt{α:Type}{a:Array α}{x y:α}(h:a.toList=[x,y]):a= #[x,y]:=by
 rw[<-Array.toArray_toList (xs:=a),h]
theorem rG{c:Call}{f:dg}(ho:o.op=.call c)(h:eW P c=some f):bC P o f:=by
 unfold eW at h
 split at h
 ·rename_i args mc
  split at h
  ·rename_i x T h1 h2
   cases h
   rw[Ie h1,Ie h2]at ho
   exact Bs ho
  ·cases h;exact bw
 ·rename_i args mc
  split at h
  ·rename_i x T h1 h2
   cases h
   rw[Ie h1,Ie h2]at ho
   exact Br ho
  ·cases h;exact bw
 ·rename_i args mc
  split at h
  ·rename_i x y h1
   cases h
   rw[Bt h1]at ho
   exact Dm ho
  ·cases h;exact bw
 ·rename_i args mc
  split at h
  ·rename_i x y h1
   cases h
   rw[Bt h1]at ho
   exact Dn ho
  ·cases h;exact bw
 ·cases h
theorem Dv(hc:cC P call){c:Call}(ho:o.op=.call c):tC P o (zl P call c):=by
 unfold zl
 split
 ·rename_i args mc
  split
  ·rename_i s x T T' h1 h2
   rw[Bt h1,Bt h2]at ho
   cases h:Nat.beq T T' with
   |true=>
    obtain rfl:=Nat.eq_of_beq_eq_true h
    exact(vr ho).ok
   |false=>exact(Bi ho).ok
  ·exact oe
 ·rename_i args mc
  split
  ·rename_i d s T T' h1 h2
   rw[Bt h1,Bt h2]at ho
   exact(Bp ho).ok
  ·exact oe
 ·exact Ib hc ho
 ·exact Ds hc ho
 ·exact oe
theorem tE(hc:cC P call):match jG P call o.op with
 |(.p0,f)=>bC P o f
 |(.p1,f)=>bC P o f
 |(.al,f)=>jj P o f
 |(.ch,f)=>tC P o f:=by
 cases ho:o.op<;>simp only[jG]
 case move x=>exact rW (.inl ho)
 case assign x=>exact rW (.inr ho)
 case pick c x y=>exact A9 ho
 case alloc T=>exact Dt ho
 case box T x=>exact CR ho
 case build T ps=>exact xM ho
 case buildSlice T n ps=>exact CT ho
 case load T x=>exact x5 ho
 case store T x y=>exact(xP ho).ok
 case nilCheck x=>exact pure_nil ho
 case binOp op T x y yT=>
  cases h:vz P op T with
  |some f=>exact Cz ho (Ia h)
  |none=>exact bw
 case unOp op T x=>
  cases h:Nw op with
  |some f=>exact Du ho h
  |none=>exact bw
 case convert S D x=>
  cases h:P.underlying D with
  |none=>exact qp ho
  |some d=>cases d<;>first|exact qp ho|exact(x6 ho).ok
 case makeFunc f first caps=>
  cases f<;>try exact oe
  rename_i f
  simp only
  cases h:first.toList with
  |nil=>
   have:first= #[]:=by rw[<-Array.toArray_toList (xs:=first),h]
   subst this
   exact HG ho
  |cons a l=>exact bw
 case makeSlice T l c=>exact Bc ho
 case makeMap T r=>cases r with
  |none=>exact(C1 ho).ok
  |some _=>exact oe
 case slice T x lo hi mx=>
  cases mx with
  |none=>exact vE ho
  |some m=>exact tD ho
 case fieldAddr T x n=>exact o4 ho
 case field T x n=>exact vC ho
 case indexAddr T x y=>exact o5 ho
 case index T x y=>exact vD ho
 case extract x i=>exact tj ho
 case call c=>
  cases h:eW P c with
  |some f=>exact rG ho h
  |none=>exact Dv hc ho
 all_goals exact oe
theorem Dw(hc:cC P call):tC P o (jG P call o.op).2:=by
 have:=tE (o:=o) hc
 cases h:jG P call o.op with
 |mk c f=>
  rw[h]at this
  cases c
  ·exact bC.ok this
  ·exact bC.ok this
  ·exact jj.ok this
  ·exact this
def gF(j:dj)(want:Bool)(f:dg):dg:=fun t h=>match j t with
 |some (.bool b)=>ej (ej want b (!b)) (f t h) (.ok eh h)
 |some (.mD [])=>.ok eh h
 | _=>.bad
def gv(P:Program)(call:bP)(nt:Nat)(all:List Oper)(o:Oper):dg:=
 match o.guard with
 |none=>(jG P call o.op).2
 |some (j,want)=>match gx all j with
  |some oj=>match oj.dst with
   |some d=>ej (Nat.blt d nt) (gF (oT d) want (jG P call o.op).2) bA
   |none=>bA
  |none=>bA
def gQ(P:Program)(call:bP)(nt:Nat)(all l:List Oper):ic:=
 List.rec fi (fun o _ ih=>match o.dst with
  |some d=>ej (Nat.blt d nt) (st (sT d) (gv P call nt all o) ih) (fun _ _=>.bad)
  |none=>sn (gv P call nt all o) ih) l
theorem tF(hc:cC P call){ops:Array Oper}{i:Nat}(hi:ops[i]? =some o){g w nt t h}{a:Act}{v:AV}{h':Hp}(H:HR g w h)(T:TR g w nt t a.tmps)
 (e:gv P call nt ops.toList o t h=.ok v h'){Q:Exit->Act->World->Prop}{rest:List Nat}
 (K: ∀ g' w' x,Ext g w h g' w' h'->HR g' w' h'->VR g' w' v x->wpOps P ops Q rest (a.put o.dst x) w'):wpOps P ops Q (i::rest) a w:=by
 rw[wpOps,hi]
 simp only
 unfold gv at e
 cases hg:o.guard with
 |none=>
  rw[hg]at e
  rw[if_pos (by simp[Region.wanted,hg])]
  exact .inl (Dw hc g w nt t h a v h' H T e _ _ K)
 |some p=>
  obtain⟨j,want⟩:=p
  rw[hg]at e
  simp only[dW]at e
  cases hj:ops.toList[j]? with
  |none=>simp only[hj]at e;cases e
  |some oj=>
  simp only[hj]at e
  cases hd:oj.dst with
  |none=>simp only[hd]at e;cases e
  |some d=>
  simp only[hd]at e
  cases hb:Nat.blt d nt with
  |false=>simp only[hb]at e;cases e
  |true=>
  simp only[hb]at e
  have zm:=bh.1 hb
  change gF (oT d) want (jG P call o.op).2 t h=.ok v h' at e
  have Zk:ops[j]? =some oj:=by simpa using hj
  have lx:=T.2.1
  have hy: ∀ y,a.tmps.getD d undef=y->yielded ops a.tmps j=match y with| .bool b=>some b| _=>none:=by
   intro y hy
   have:a.tmps[d]? =some y:=by
    rw[Array.getD_eq_getD_getElem?]at hy
    rw[Array.getElem?_eq_getElem (by omega)]at hy ⊢
    simpa using hy
   simp[yielded,Zk,hd,this]
   cases y<;>rfl
  unfold gF at e
  split at e
  ·rename_i b uO
   have hv:=(T.2.2 d _ (by have:=T.1;omega) uO).2
   simp only[VR]at hv
   have Ig:=hy _ hv
   cases Ih:(ej want b (!b))with
   |true=>
    rw[Ih]at e
    have:b=want:=by cases want<;>cases b<;>simp[ej]at Ih<;>rfl
    rw[if_pos (by simp[Region.wanted,hg,Ig,this])]
    exact .inl (Dw hc g w nt t h a v h' H T e _ _ K)
   |false=>
    rw[Ih]at e
    have:b≠want:=by cases want<;>cases b<;>simp[ej]at Ih<;>simp
    rw[if_neg (by simp[Region.wanted,hg,Ig,this])]
    cases e
    exact K g w undef (Ext.refl _ _ _) H (by simp only[eh,VR];exact⟨_,rfl,by simp[bq]⟩)
  ·rename_i uO
   have hv:=(T.2.2 d _ (by have:=T.1;omega) uO).2
   simp only[VR]at hv
   obtain⟨vs,hv,cU⟩:=hv
   have Ig:=hy _ hv
   rw[if_neg (by simp[Region.wanted,hg,Ig])]
   cases e
   exact K g w undef (Ext.refl _ _ _) H (by simp only[eh,VR];exact⟨_,rfl,by simp[bq]⟩)
  ·cases e
end
end Go.Ab

noncomputable section
namespace Go.Ab
variable [Io]
section
variable {P:Program}{call:bP}
def jk(g:G)(w:World)(h:Hp)(nt:Nat)(t':Tm)(h':Hp)(R:Act->World->Prop):Prop:=
 ∀ g' w' a',Ext g w h g' w' h'->HR g' w' h'->TR g' w' nt t' a'.tmps->a'.defers=[]->R a' w'
theorem jk.then{g w h nt h1 g1 w1 t2 h2}{R:Act->World->Prop}(E:Ext g w h g1 w1 h1)(K:jk g w h nt t2 h2 R):jk g1 w1 h1 nt t2 h2 R:=
 fun g' w' a' E' H' T' D'=>K g' w' a' (E.trans E') H' T' D'
def Ii(P:Program)(nt:Nat)(c:Code)(r:ic):Prop:=
 ∀ (g:G) (w:World) (t:Tm) (h:Hp) (a:Act) (t':Tm) (h':Hp),HR g w h->TR g w nt t a.tmps->a.defers=[]->r t h=.ok t' h'->
  ∀ Q:Exit->Act->World->Prop,jk g w h nt t' h' (Q .normal)->c.wp P Q a w
theorem Ij{g w nt t}{a:Act}{d:Nat}{v:AV}{x:Value}(T:TR g w nt t a.tmps)(hd:d<nt)(hv:VR g w v x):TR g w nt (sT d v t) (a.put (some d) x).tmps:=
 T.put hd hv
theorem Dx(hc:cC P call){nt:Nat}(ops:Array Oper): ∀ (l pre:List Oper),ops.toList=pre++l-> ∀ (g:G) (w:World) (t:Tm) (h:Hp) (a:Act) (t':Tm) (h':Hp),
 HR g w h->TR g w nt t a.tmps->a.defers=[]->gQ P call nt ops.toList l t h=.ok t' h'-> ∀ Q:Exit->Act->World->Prop,jk g w h nt t' h' (Q .normal)->
  wpOps P ops Q (List.range' pre.length l.length) a w
 | [],pre,_,g,w,t,h,a,t',h',H,T,D,e,Q,K=>by
  cases e
  exact K g w a (Ext.refl _ _ _) H T D
 |o::l,pre,hl,g,w,t,h,a,t',h',H,T,D,e,Q,K=>by
  have hi:ops[pre.length]? =some o:=by
   have:ops.toList[pre.length]? =some o:=by rw[hl];simp
   simpa using this
  have ih:=Dx hc (nt:=nt) ops l (pre++[o]) (by simp[hl])
  simp only[List.length_append,List.length_cons,List.length_nil,Nat.zero_add]at ih
  rw[List.length_cons,List.range'_succ]
  change (match o.dst with
   |some d=>ej (Nat.blt d nt) (st (sT d) (gv P call nt ops.toList o) (gQ P call nt ops.toList l)) (fun _ _=>.bad)
   |none=>sn (gv P call nt ops.toList o) (gQ P call nt ops.toList l)) t h=.ok t' h' at e
  cases hd:o.dst with
  |none=>
   simp only[hd]at e
   unfold sn at e
   cases hg:gv P call nt ops.toList o t h with
   |bad=>rw[hg]at e;cases e
   |ok v h1=>
    rw[hg]at e
    refine tF hc hi H T hg fun g1 w1 x E H1 hv=>?_
    rw[hd]
    exact ih g1 w1 t h1 a t' h' H1 (T.mono H E) D e Q (jk.then E K)
  |some d=>
   simp only[hd]at e
   cases hb:Nat.blt d nt with
   |false=>simp only[hb]at e;cases e
   |true=>
    simp only[hb]at e
    change st (sT d) (gv P call nt ops.toList o) (gQ P call nt ops.toList l) t h=.ok t' h' at e
    unfold st at e
    cases hg:gv P call nt ops.toList o t h with
    |bad=>rw[hg]at e;cases e
    |ok v h1=>
     rw[hg]at e
     refine tF hc hi H T hg fun g1 w1 x E H1 hv=>?_
     rw[hd]
     exact ih g1 w1 (sT d v t) h1 (a.put (some d) x) t' h' H1 (Ij (T.mono H E) (bh.1 hb) hv) D e Q (jk.then E K)
theorem Bu(hc:cC P call){nt:Nat}(id:Nat)(ops:Array Oper):Ii P nt (.region id ops false) (gQ P call nt ops.toList ops.toList):=by
 intro g w t h a t' h' H T D e Q K
 refine wp_region ?_
 have:=Dx hc ops ops.toList [] rfl g w t h a t' h' H T D e Q K
 rw[List.range_eq_range']
 simpa using this
def RI(P:Program)(nt:Nat)(c:Code)(f:rr):Prop:=
 ∀ (g:G) (w:World) (t:Tm) (h:Hp) (a:Act) (Q:Exit->Act->World->Prop),HR g w h->TR g w nt t a.tmps->a.defers=[]->
  match f t h with
  | .bad=>True
  | .norm t' h'=>jk g w h nt t' h' (Q .normal)->c.wp P Q a w
  | .ret t' h'=>jk g w h nt t' h' (Q .ret)->c.wp P Q a w
  | .exit i t' h'=>jk g w h nt t' h' (Q (.exit i))->c.wp P Q a w
def dU(P:Program)(draw:Array Oper->ic)(call:bP)(n nt:Nat)(c:Code):rr:=
 Code.rec (motive:=fun _=>rr) aU
  (fun _ ops d=>ai (Bool.rec (gQ P call nt ops.toList ops.toList) (draw ops) d))
  (fun _ _ ia ib=>ah ia ib)
  (fun c _ _ ia ib=>aE (aR c) ia ib)
  (fun id _ ib=>bI id ib)
  (fun _ ib=>dE n ib)
  (fun _ _ _ _ _ _=>u6)
  (fun i=>dG i)
  (fun _ _=>u6)
  (fun _=>u6)
  (fun _=>u6)
  aZ
  (fun _=>u6) c
theorem qt{nt:Nat}{c:Code}:RI P nt c u6:=by
 intro g w t h a Q H T D
 exact trivial
theorem zn(hc:cC P call){draw:Array Oper->ic}{nt:Nat}(hd: ∀ id ops,Ii P nt (.region id ops true) (draw ops))(n:Nat): ∀ c,RI P nt c (dU P draw call n nt c):=by
 intro c
 induction c with
 |skip=>
  intro g w t h a Q H T D K
  exact wp_skip (K g w a (Ext.refl _ _ _) H T D)
 |region id ops d=>
  intro g w t h a Q H T D
  have key:Ii P nt (.region id ops d) (Bool.rec (gQ P call nt ops.toList ops.toList) (draw ops) d):=by
   cases d with
   |false=>exact Bu hc id ops
   |true=>exact hd id ops
  show match ai (Bool.rec (gQ P call nt ops.toList ops.toList) (draw ops) d) t h with| .bad=>_| .norm _ _=>_| .ret _ _=>_| .exit _ _ _=>_
  unfold ai
  cases e:(Bool.rec (gQ P call nt ops.toList ops.toList) (draw ops) d:ic) t h with
  |bad=>exact trivial
  |ok t' h'=>exact fun K=>key g w t h a t' h' H T D e Q K
 |seq x y hx hy=>
  intro g w t h a Q H T D
  show match ah (dU P draw call n nt x) (dU P draw call n nt y) t h with| .bad=>_| .norm _ _=>_| .ret _ _=>_| .exit _ _ _=>_
  unfold ah
  have h1:=hx g w t h a (Exit.then (y.wp P Q) Q) H T D
  cases e:dU P draw call n nt x t h with
  |bad=>exact trivial
  |ret t1 kd=>rw[e]at h1;exact fun K=>wp_seq (h1 K)
  |exit i t1 kd=>rw[e]at h1;exact fun K=>wp_seq (h1 K)
  |norm t1 kd=>
   rw[e]at h1
   show match dU P draw call n nt y t1 kd with| .bad=>_| .norm _ _=>_| .ret _ _=>_| .exit _ _ _=>_
   cases e2:dU P draw call n nt y t1 kd with
   |bad=>exact trivial
   |norm t2 h2=>
    intro K
    refine wp_seq (h1 fun g1 w1 a1 E1 H1 T1 D1=>?_)
    have:=hy g1 w1 t1 kd a1 Q H1 T1 D1
    rw[e2]at this
    exact this (jk.then E1 K)
   |ret t2 h2=>
    intro K
    refine wp_seq (h1 fun g1 w1 a1 E1 H1 T1 D1=>?_)
    have:=hy g1 w1 t1 kd a1 Q H1 T1 D1
    rw[e2]at this
    exact this (jk.then E1 K)
   |exit i t2 h2=>
    intro K
    refine wp_seq (h1 fun g1 w1 a1 E1 H1 T1 D1=>?_)
    have:=hy g1 w1 t1 kd a1 Q H1 T1 D1
    rw[e2]at this
    exact this (jk.then E1 K)
 |cond c x y hx hy=>
  intro g w t h a Q H T D
  show match aE (aR c) (dU P draw call n nt x) (dU P draw call n nt y) t h with| .bad=>_| .norm _ _=>_| .ret _ _=>_| .exit _ _ _=>_
  unfold aE
  cases dR:aR c t with
  |none=>exact trivial
  |some v=>
   cases v<;>try exact trivial
   rename_i b
   have hv:=bc c _ _ _ _ _ _ T dR
   simp only[VR]at hv
   cases b with
   |true=>
    have:=hx g w t h a Q H T D
    show match dU P draw call n nt x t h with| .bad=>_| .norm _ _=>_| .ret _ _=>_| .exit _ _ _=>_
    cases e:dU P draw call n nt x t h<;>rw[e]at this
    ·exact trivial
    all_goals exact fun K=>wp_cond_true hv (this K)
   |false=>
    have:=hy g w t h a Q H T D
    show match dU P draw call n nt y t h with| .bad=>_| .norm _ _=>_| .ret _ _=>_| .exit _ _ _=>_
    cases e:dU P draw call n nt y t h<;>rw[e]at this
    ·exact trivial
    all_goals exact fun K=>wp_cond_false hv (this K)
 |block id x hx=>
  intro g w t h a Q H T D
  show match bI id (dU P draw call n nt x) t h with| .bad=>_| .norm _ _=>_| .ret _ _=>_| .exit _ _ _=>_
  unfold bI
  have:=hx g w t h a (Exit.inBlock id Q) H T D
  cases e:dU P draw call n nt x t h<;>rw[e]at this
  ·exact trivial
  ·exact fun K=>wp_block (this K)
  ·exact fun K=>wp_block (this K)
  ·rename_i i t1 h1
   show match(Bool.rec (Rc.exit i t1 h1) (Rc.norm t1 h1) (Nat.beq i id):Rc)with| .bad=>_| .norm _ _=>_| .ret _ _=>_| .exit _ _ _=>_
   cases hb:Nat.beq i id with
   |true=>
    obtain rfl:=Nat.eq_of_beq_eq_true hb
    exact fun K=>wp_block (this fun g' w' a' E' H' T' D'=>by
     show Exit.inBlock i Q (.exit i) a' w'
     simp only[Exit.inBlock,if_true]
     exact K g' w' a' E' H' T' D')
   |false=>
    have kj:i≠id:=fun k=>by rw[k,Nat.beq_refl]at hb;cases hb
    exact fun K=>wp_block (this fun g' w' a' E' H' T' D'=>by
     show Exit.inBlock id Q (.exit i) a' w'
     simp only[Exit.inBlock,if_neg kj]
     exact K g' w' a' E' H' T' D')
 |loop x hx=>
  intro g w t h a Q H T D
  show match dE n (dU P draw call n nt x) t h with| .bad=>_| .norm _ _=>_| .ret _ _=>_| .exit _ _ _=>_
  have key: ∀ m,∀ (g:G) (w:World) (t:Tm) (h:Hp) (a:Act),HR g w h->TR g w nt t a.tmps->a.defers=[]->
   match dE m (dU P draw call n nt x) t h with
   | .bad=>True
   | .norm t' h'=>jk g w h nt t' h' (Q .normal)->Code.rounds P x Q m a w
   | .ret t' h'=>jk g w h nt t' h' (Q .ret)->Code.rounds P x Q m a w
   | .exit i t' h'=>jk g w h nt t' h' (Q (.exit i))->Code.rounds P x Q m a w:=by
   intro m
   induction m with
   |zero=>intro g w t h a H T D;exact trivial
   |succ m ih=>
    intro g w t h a H T D
    have h1:=hx g w t h a (Exit.then (Code.rounds P x Q m) Q) H T D
    show match(Rc.rec Rc.bad (fun t h=>dE m (dU P draw call n nt x) t h) (fun t h=>Rc.ret t h) (fun i t h=>Rc.exit i t h) (dU P draw call n nt x t h):Rc)with
     | .bad=>_| .norm _ _=>_| .ret _ _=>_| .exit _ _ _=>_
    cases e:dU P draw call n nt x t h with
    |bad=>exact trivial
    |ret t1 kd=>rw[e]at h1;exact fun K=>h1 K
    |exit i t1 kd=>rw[e]at h1;exact fun K=>h1 K
    |norm t1 kd=>
     rw[e]at h1
     show match dE m (dU P draw call n nt x) t1 kd with| .bad=>_| .norm _ _=>_| .ret _ _=>_| .exit _ _ _=>_
     cases e2:dE m (dU P draw call n nt x) t1 kd with
     |bad=>exact trivial
     |norm t2 h2=>
      intro K
      refine h1 fun g1 w1 a1 E1 H1 T1 D1=>?_
      have:=ih g1 w1 t1 kd a1 H1 T1 D1
      rw[e2]at this
      exact this (jk.then E1 K)
     |ret t2 h2=>
      intro K
      refine h1 fun g1 w1 a1 E1 H1 T1 D1=>?_
      have:=ih g1 w1 t1 kd a1 H1 T1 D1
      rw[e2]at this
      exact this (jk.then E1 K)
     |exit i t2 h2=>
      intro K
      refine h1 fun g1 w1 a1 E1 H1 T1 D1=>?_
      have:=ih g1 w1 t1 kd a1 H1 T1 D1
      rw[e2]at this
      exact this (jk.then E1 K)
  have:=key n g w t h a H T D
  cases e:dE n (dU P draw call n nt x) t h<;>rw[e]at this
  ·exact trivial
  all_goals exact fun K=>wp_loop_rounds n (this K)
 |rangeFunc f ps x y _ _=>exact qt
 |exit i=>
  intro g w t h a Q H T D K
  exact wp_exit (K g w a (Ext.refl _ _ _) H T D)
 |scope x _=>exact qt
 |label l=>exact qt
 |goto l=>exact qt
 |ret=>
  intro g w t h a Q H T D K
  exact wp_ret (K g w a (Ext.refl _ _ _) H T D)
 |refuse s=>exact qt
end
end Go.Ab

noncomputable section
namespace Go.Ab
variable [Io]
section
variable {P:Program}
def Yh(P:Program)(nt:Nat):ResultVar->Option RV
 | .tmp i=>ej (Nat.blt i nt) (some (.tmp i)) none
 | .cell i T=>match P.underlying T with
  |some d=>match P.info? T with
   |some ti=>ej (Nat.blt i nt) (some (.cell i ti.size (fF d))) none
   |none=>none
  |none=>none
def Dy(P:Program)(nt:Nat)(l:List ResultVar):Option (List RV):=
 List.rec (some []) (fun r _ ih=>match Yh P nt r with
  |some v=>match ih with
   |some vs=>some (v::vs)
   |none=>none
  |none=>none) l
def qu(tmps:Array Value):ResultVar->Sem Value
 | .tmp t=>pure (tmps.getD t undef)
 | .cell a t=>do loadVar t (<-asAddr (tmps.getD a undef))
theorem Ik{g w nt t h}{tmps:Array Value}(H:HR g w h)(T:TR g w nt t tmps){r:ResultVar}{rv:RV}{v:AV}(hr:Yh P nt r=some rv)(e:Ct t h rv=some v):
 ∃ x,(qu tmps r).run P w=.ok x w/\VR g w v x:=by
 cases r with
 |tmp i=>
  change ej (Nat.blt i nt) (some (RV.tmp i)) none=some rv at hr
  cases hb:Nat.blt i nt with
  |false=>rw[hb]at hr;cases hr
  |true=>
   rw[hb]at hr
   cases hr
   exact⟨_,rfl,(T.2.2 i v (by have:=T.1;have:=bh.1 hb;omega) e).2⟩
 |cell i ty=>
  unfold Yh at hr
  cases hd:P.underlying ty with
  |none=>simp only[hd]at hr;cases hr
  |some d=>
  simp only[hd]at hr
  cases hi:P.info? ty with
  |none=>simp only[hi]at hr;cases hr
  |some ti=>
  simp only[hi]at hr
  cases hb:Nat.blt i nt with
  |false=>rw[hb]at hr;cases hr
  |true=>
   rw[hb]at hr
   cases hr
   have zq: @LT.lt Nat _ i 512:=by have:=T.1;have:=bh.1 hb;omega
   change (match t.at i with|some a=>pX h ti.size (fF d) a|none=>none)=some v at e
   split at e
   ·rename_i a ha
    have hv:=(T.2.2 i a zq ha).2
    unfold pX at e
    split at e
    ·rename_i id off
     split at e
     ·rename_i cs hg
      simp only[VR]at hv
      obtain⟨b,s,hm,hv⟩:=hv
      obtain⟨C,el,vs,hw,_,cU,hc⟩:=H.row hg hm
      obtain⟨z,hz,hr⟩:=iM hd hi cU (dS hw hc) (p5 e)
      exact⟨z,by simp only[qu,hv,asAddr,Sem.run_bind,Sem.run_pure,Result.andThen_ok,hz],hr⟩
     ·cases e
    ·rename_i cs
     simp only[VR]at hv
     obtain⟨b,s,vs,hv,_,hc,cU⟩:=hv
     obtain⟨z,hz,hr⟩:=iM hd hi cU hc e
     rw[Nat.add_zero]at hz
     exact⟨z,by simp only[qu,hv,asAddr,Sem.run_bind,Sem.run_pure,Result.andThen_ok,hz],hr⟩
    ·cases e
   ·cases e
theorem vF{g w nt t h}{tmps:Array Value}(H:HR g w h)(T:TR g w nt t tmps): ∀ (l:List ResultVar) {Il:List RV} {vs:List AV},Dy P nt l=some Il->rV t h Il=some vs->
 ∃ xs,(l.mapM (qu tmps)).run P w=.ok xs w/\bq g w vs xs
 | [],Il,vs,h1,h2=>by
  cases h1
  cases h2
  exact⟨[],by simp,by simp[bq]⟩
 |r::l,Il,vs,h1,h2=>by
  change (match Yh P nt r with|some v=>(match Dy P nt l with|some vs=>some (v::vs)|none=>none)|none=>none)=some Il at h1
  split at h1
  ·rename_i rv Dz
   split at h1
   ·rename_i rl hrl
    cases h1
    change (match Ct t h rv with|some v=>(match rV t h rl with|some vs=>some (v::vs)|none=>none)|none=>none)=some vs at h2
    split at h2
    ·rename_i v hv
     split at h2
     ·rename_i us hu
      cases h2
      obtain⟨x,hx,Bv⟩:=Ik H T Dz hv
      obtain⟨xs,Nt,Zl⟩:=vF H T l hrl hu
      refine⟨x::xs,?_,by simp only[bq];exact⟨x,xs,rfl,Bv,Zl⟩⟩
      simp only[List.mapM_cons,Sem.run_bind,hx,Nt,Result.andThen_ok,Sem.run_pure]
     ·cases h2
    ·cases h2
   ·cases h1
  ·cases h1
theorem DA{g w nt t h}{tmps:Array Value}{F:Func}{Il:List RV}{v:AV}{h':Hp}(H:HR g w h)(T:TR g w nt t tmps)(hr:Dy P nt F.results.toList=some Il)(e:fin Il t h=.ok v h'):
 h'=h/\ ∃ x,(results F tmps).run P w=.ok x w/\VR g w v x:=by
 have key: ∀ vs,rV t h Il=some vs-> ∃ xs:List Value,(results F tmps).run P w=.ok (if h:xs.toArray.size=1 then xs.toArray[0]else .tuple xs.toArray) w/\bq g w vs xs:=by
  intro vs cU
  obtain⟨xs,Nt,hv⟩:=vF H T F.results.toList hr cU
  refine⟨xs,?_,hv⟩
  show((F.results.mapM (qu tmps)>>=fun vs=>(pure (if h:vs.size=1 then vs[0]else .tuple vs):Sem Value))).run P w=_
  rw[Array.mapM_eq_mapM_toList]
  simp only[Sem.run_bind,Sem.run_map,Nt,Result.andThen_ok,Sem.run_pure]
 unfold fin at e
 split at e
 ·rename_i v1 cU
  cases e
  obtain⟨xs,hx,hv⟩:=key _ cU
  simp only[bq]at hv
  obtain⟨x,l',rfl,Bv,rfl⟩:=hv
  exact⟨rfl,x,by rw[hx];rfl,Bv⟩
 ·rename_i vs kj cU
  cases e
  obtain⟨xs,hx,hv⟩:=key _ cU
  refine⟨rfl,.tuple xs.toArray,?_,by simp only[VR];exact⟨_,rfl,hv⟩⟩
  rw[hx,dif_neg]
  intro h1
  have hl:=hv.length
  have:vs.length=1:=by simpa[<-hl]using h1
  match vs,this with
  | [a],_=>exact kj a rfl
 ·cases e
def tG(P:Program)(draw:bP->Nat->Array Oper->ic):Prop:=
 ∀ call nt,cC P call-> ∀ id ops,Ii P nt (.region id ops true) (draw call nt ops)
structure aY(P:Program)(draw:bP->Nat->Array Oper->ic)(f:FuncId)(b:Fb):Prop where
 ex: ∃ F c,P.funcs[f]? =some F/\F.body=some c/\b.ntmps=F.ntmps/\b.ntmps<=512/\Dy P b.ntmps F.results.toList=some b.res/\b.body=fun call n=>dU P (draw call b.ntmps) call n b.ntmps c
 enter: ∀ as w,(callFunc f as).run P w=.ok (.enter f as) w
theorem kI{g w}: ∀ (l:List AV) (vs:List Value) (i nt:Nat) (t:Tm) (tmps:Array Value),bq g w l vs->i+l.length<=nt->TR g w nt t tmps->
 (∀ j v,vs[j]? =some v->tmps[i+j]? =some v)->TR g w nt (fW l i t) tmps
 | [],vs,i,nt,t,tmps,h,hl,T,hj=>T
 |a::l,vs,i,nt,t,tmps,h,hl,T,hj=>by
  simp only[bq]at h
  obtain⟨v,l',rfl,hv,h⟩:=h
  simp only[List.length_cons]at hl
  have h0:tmps[i]? =some v:=by simpa using hj 0 v rfl
  have hi:i<tmps.size:=(Array.getElem?_eq_some_iff.1 h0).1
  have Zm:tmps.setIfInBounds i v=tmps:=by
   apply Array.ext
   ·simp
   ·intro k h1 h2
    rw[Array.getElem_setIfInBounds]
    split
    ·rename_i e
     subst e
     exact(Option.some.inj ((Array.getElem?_eq_getElem hi).symm.trans h0)).symm
    ·rfl
  have T':=T.put (d:=i) (by omega) hv
  rw[Zm]at T'
  exact kI l l' (i+1) nt _ tmps h (by omega) T' (fun j u e=>by
   have:=hj (j+1) u (by simpa using e)
   rwa [show i+1+j=i+(j+1) by omega])
theorem DB{draw:bP->Nat->Array Oper->ic}(hd:tG P draw){fn:FuncId->Option Fb}(hf: ∀ f b,fn f=some b->aY P draw f b)(n:Nat): ∀ d,cC P (pZ fn n d):=by
 intro d
 induction d with
 |zero=>intro f args h v h' e;cases e
 |succ d ih=>
  intro f args h v h' e
  change (match fn f with
   |none=>Ro.bad
   |some b=>ej (Nat.ble (len args) b.ntmps) (match b.body (pZ fn n d) n (fW args 0 Tm.none) h with| .norm t h=>fin b.res t h| .ret t h=>fin b.res t h| _=>.bad) .bad)=.ok v h' at e
  cases hb:fn f with
  |none=>rw[hb]at e;cases e
  |some b=>
  rw[hb]at e
  simp only at e
  cases hle:Nat.ble (len args) b.ntmps with
  |false=>rw[hle]at e;cases e
  |true=>
  rw[hle]at e
  change (match b.body (pZ fn n d) n (fW args 0 Tm.none) h with| .norm t h=>fin b.res t h| .ret t h=>fin b.res t h| _=>.bad)=Ro.ok v h' at e
  rw[bE]at hle
  have Ny:args.length<=b.ntmps:=Nat.ble_eq.mp hle
  have F0:=hf f b hb
  obtain⟨F,c,hF,hc,eX,o6,Nz,DC⟩:=F0.ex
  refine⟨F0.enter,fun g w vs H hv=>?_⟩
  rw[DC]at e
  have DD:=zn ih (draw:=draw (pZ fn n d) b.ntmps) (nt:=b.ntmps) (fun id ops=>hd _ _ ih id ops) n c
  have Yc:=hv.length
  have sb:(vs.toArray++Array.replicate (F.ntmps - vs.toArray.size) undef).size=b.ntmps:=by simp;omega
  have RJ:TR g w b.ntmps Tm.none (vs.toArray++Array.replicate (F.ntmps - vs.toArray.size) undef):=
   ⟨o6,sb,fun i v hi e=>by rw[Tm.py i hi]at e;cases e⟩
  have hT:=kI args vs 0 b.ntmps Tm.none _ hv (by omega) RJ (fun j v e=>by
   rw[Array.getElem?_append_left (by have:=(List.getElem?_eq_some_iff.1 e).1;simpa using this)]
   simpa using e)
  refine calls_of_wp hF hc ?_
  have:=DD g w _ h {tmps:=vs.toArray++Array.replicate (F.ntmps - vs.toArray.size) undef,defers:=[]}
   (bodyPost P F (fun e w'=> ∃ x g',e=.returned x/\Ext g w h g' w' h'/\HR g' w' h'/\VR g' w' v x)) H hT rfl
  have vG: ∀ t1 h1,fin b.res t1 h1=.ok v h'-> ∀ g' w' (a':Act),Ext g w h g' w' h1->HR g' w' h1->TR g' w' b.ntmps t1 a'.tmps->a'.defers=[]->
   a'.defers=[]/\ ∃ x,(results F a'.tmps).run P w'=.ok x w'/\ ∃ y g',Ending.returned x=.returned y/\Ext g w h g' w' h'/\HR g' w' h'/\VR g' w' v y:=by
   intro t1 h1 NA g' w' a' E' H' T' D'
   obtain⟨rfl,x,hx,Bv⟩:=DA H' T' Nz NA
   exact⟨D',x,hx,x,g',rfl,E',H',Bv⟩
  simp only at e
  cases hr:dU P (draw (pZ fn n d) b.ntmps) (pZ fn n d) n b.ntmps c (fW args 0 Tm.none) h with
  |bad=>rw[hr]at e;cases e
  |norm t1 h1=>rw[hr]at e this;exact this (vG t1 h1 e)
  |ret t1 h1=>rw[hr]at e this;exact this (vG t1 h1 e)
  |exit i t1 h1=>rw[hr]at e;cases e
end
end Go.Ab

noncomputable section
namespace Go.Ab
variable [Io]
def Im(ops:Array Oper):List Nat->List Nat->Prop
 |D,[]=> ∀ i,i<ops.size->i∈D
 |D,i::s=>i<ops.size/\i∉D/\(∀ o e,ops[i]? =some o->e∈o.after->Region.binds .any e=true->e.on∈D)/\Im ops (i::D) s
omit [Io] in
theorem filter_one{p:Nat->Bool}: ∀ (l:List Nat) (i:Nat),l.Nodup->i∈l->p i=true->(l.filter fun x=>p x&&x != i).length+1=(l.filter p).length
 | [],i,_,h,_=>by cases h
 |a::l,i,hn,h,hp=>by
  rw[List.nodup_cons]at hn
  by_cases ha:a=i
  ·subst ha
   have:(l.filter fun x=>p x&&x != a)=l.filter p:=by
    apply List.filter_congr
    intro x hx
    have:x≠a:=fun e=>hn.1 (e▸hx)
    simp[this]
   simp[List.filter_cons,hp,this]
  ·have hi:i∈l:=by
    cases h with
    |head=>exact absurd rfl ha
    |tail _ h=>exact h
   have:=filter_one l i hn.2 hi hp
   by_cases hpa:p a=true
   ·simp only[List.filter_cons,hpa,Bool.true_and,bne_iff_ne,ne_eq,ha,not_false_eq_true,decide_true,if_true,List.length_cons]
    omega
   ·simp only[List.filter_cons,hpa,Bool.false_and,Bool.false_eq_true,if_false]
    exact this
omit [Io] in
theorem least{p:Nat->Prop}: ∀ (n:Nat),p n-> ∃ m,p m/\ ∀ k,k<m-> ¬ p k:=by
 intro n
 induction n using Nat.strongRecOn with
 | _ n ih=>
  intro h
  by_cases hk: ∃ k,k<n/\p k
  ·obtain⟨k,hk,hp⟩:=hk
   exact ih k hk hp
  ·exact⟨n,h,fun k Zn hp=>hk ⟨k,Zn,hp⟩⟩
def Down(ops:Array Oper):Prop:= ∀ (i:Nat) (o:Oper) (e:Edge),ops[i]? =some o->e∈o.after->Region.binds .any e=true->e.on<i
omit [Io] in
theorem DE{ops:Array Oper}(hd:Down ops): ∀ (fuel t:Nat) (listed:Array Bool) (acc D:List Nat),listed.size=ops.size->(∀ i,i<ops.size->(listed.getD i false=true↔i∈D))->
 ((List.range ops.size).filter fun i=> !listed.getD i false).length=fuel-> ∃ s,Region.linearise.go .any ops fuel t listed acc=acc.reverse++s/\Im ops D s
 |0,t,listed,acc,D,hs,hD,hc=>by
  refine⟨[],by simp[Region.linearise.go],fun i hi=>?_⟩
  have he:((List.range ops.size).filter fun i=> !listed.getD i false)=[]:=List.eq_nil_of_length_eq_zero hc
  rw[List.filter_eq_nil_iff]at he
  have:=he i (by simpa using hi)
  exact(hD i hi).1 (by simpa using this)
 |fuel+1,t,listed,acc,D,hs,hD,hc=>by
  have hgd: ∀ i,i<ops.size->listed.getD i true=listed.getD i false:=by
   intro i hi
   rw[Array.getD_eq_getD_getElem?,Array.getD_eq_getD_getElem?,Array.getElem?_eq_getElem (by omega)]
   rfl
  obtain⟨rs,Yi⟩: ∃ rs,rs=(List.range ops.size).filter (fun i=> !listed.getD i true&&((ops[i]?).map (·.after.all fun e=> !Region.binds .any e||listed.getD e.on false)).getD false):=⟨_,rfl⟩
  have RK: ∀ i,i∈rs↔i<ops.size/\i∉D/\ ∀ o e,ops[i]? =some o->e∈o.after->Region.binds .any e=true->e.on∈D:=by
   intro i
   rw[Yi,List.mem_filter,List.mem_range]
   constructor
   ·rintro⟨hi,h⟩
    simp only[Bool.and_eq_true,Bool.not_eq_true',hgd i hi]at h
    refine⟨hi,fun h2=>by rw[(hD i hi).2 h2]at h;exact absurd h.1 (by simp),?_⟩
    intro o e ho he hb
    rw[ho]at h
    simp only[Option.map_some,Option.getD_some,Array.all_eq_true_iff_forall_mem]at h
    have:=h.2 e he
    rw[hb]at this
    simp only[Bool.not_true,Bool.false_or]at this
    have ee:e.on<ops.size:=by
     have:=hd i o e ho he hb;omega
    exact(hD _ ee).1 this
   ·rintro⟨hi,h1,h2⟩
    refine⟨hi,?_⟩
    have ho:ops[i]? =some ops[i]:=Array.getElem?_eq_getElem hi
    have hf:listed.getD i false=false:=by
     rw[Bool.eq_false_iff]
     exact fun k=>h1 ((hD i hi).1 k)
    simp only[hgd i hi,hf,ho,Bool.not_false,Bool.true_and,Option.map_some,Option.getD_some,Array.all_eq_true_iff_forall_mem]
    intro e he
    cases hb:Region.binds .any e with
    |false=>rfl
    |true=>
     have ee:e.on<ops.size:=by have:=hd i _ e ho he hb;omega
     simp only[Bool.not_true,Bool.false_or]
     exact(hD _ ee).2 (h2 _ e ho he hb)
  have kj:rs≠[]:=by
   have:((List.range ops.size).filter fun i=> !listed.getD i false)≠[]:=by
    intro h;rw[h]at hc;cases hc
   obtain⟨x,hx⟩:=List.exists_mem_of_ne_nil _ this
   rw[List.mem_filter,List.mem_range]at hx
   obtain⟨m,⟨hm1,Be⟩,hm3⟩:=least (p:=fun i=>i<ops.size/\i∉D) x ⟨hx.1,fun k=>by
    have:=(hD x hx.1).2 k
    rw[this]at hx;exact absurd hx.2 (by simp)⟩
   have:m∈rs:=by
    rw[RK]
    refine⟨hm1,Be,fun o e ho he hb=>?_⟩
    have ee:=hd m o e ho he hb
    exact Classical.byContradiction fun k=>hm3 _ ee ⟨by omega,k⟩
   intro h;rw[h]at this;cases this
  have hlen:0<rs.length:=List.length_pos_iff.2 kj
  have ee:=Nat.mod_lt t hlen
  have xR:rs[t % rs.length]? =some rs[t % rs.length]:=List.getElem?_eq_getElem ee
  obtain⟨i,hi⟩: ∃ i,i=rs[t % rs.length]:=⟨_,rfl⟩
  have QD:i∈rs:=by rw[hi];exact List.getElem_mem ee
  obtain⟨Zo,CL,hi3⟩:=(RK i).1 QD
  have hl: ∀ j,j<ops.size->(listed.setIfInBounds i true).getD j false=(listed.getD j false||j == i):=by
   intro j hj
   rw[Array.getD_eq_getD_getElem?,Array.getD_eq_getD_getElem?]
   by_cases xy:j=i
   ·subst xy
    rw[Array.getElem?_setIfInBounds_self_of_lt (by omega)]
    simp
   ·rw[Array.getElem?_setIfInBounds_ne (by omega)]
    simp[xy]
  obtain⟨s,xx,hs2⟩:=DE hd fuel (t / rs.length) (listed.setIfInBounds i true) (i::acc) (i::D) (by simpa using hs)
   (fun j hj=>by
    rw[hl j hj]
    simp only[Bool.or_eq_true,beq_iff_eq,List.mem_cons,hD j hj]
    exact Or.comm)
   (by
    have Zp:(List.range ops.size).Nodup:=List.nodup_range
    have Zq:listed.getD i false=false:=by rw[Bool.eq_false_iff];exact fun k=>CL ((hD i Zo).1 k)
    have h1:=filter_one (p:=fun i=> !listed.getD i false) (List.range ops.size) i Zp (by simpa using Zo) (by simp only[Zq];rfl)
    have h2:((List.range ops.size).filter fun j=> !(listed.setIfInBounds i true).getD j false)=(List.range ops.size).filter fun x=>(!listed.getD x false)&&x != i:=by
     apply List.filter_congr
     intro x hx
     rw[hl x (by simpa using hx)]
     cases listed.getD x false<;>simp[bne]
    rw[h2]
    omega)
  refine⟨i::s,?_,Zo,CL,hi3,hs2⟩
  rw[Region.linearise.go]
  simp only[<-Yi,xR,<-hi,xx,List.reverse_cons,List.append_assoc,List.singleton_append]
omit [Io] in
theorem tH{ops:Array Oper}(hd:Down ops)(t:Nat):Im ops [] (Region.schedule true ops t):=by
 have sb: ∀ i,i<ops.size->(Array.replicate ops.size false).getD i false=false:=by
  intro i hi
  rw[Array.getD_eq_getD_getElem?]
  simp[hi]
 obtain⟨s,h1,h2⟩:=DE hd ops.size t (Array.replicate ops.size false) [] [] (by simp) (fun i hi=>by rw[sb i hi];simp) (by
  have:((List.range ops.size).filter fun i=> !(Array.replicate ops.size false).getD i false)=List.range ops.size:=by
   rw[List.filter_eq_self]
   intro i hi
   rw[sb i (by simpa using hi)];rfl
  rw[this];simp)
 have:Region.schedule true ops t=s:=by
  simp only[Region.schedule,Bool.true_or,if_true,Region.linearise]
  rw[h1];simp
 rw[this]
 exact h2
def jH(acc:List Nat)(es:List Edge):Nat:=
 List.rec 0 (fun e _ ih=>ej (Region.binds .any e) (Nat.lor (Nat.lor (Nat.pow 2 e.on) ((gx acc e.on).getD 0)) ih) ih) es
def kJ(l:List Oper):List Nat->List Nat:=
 List.rec (fun acc=>acc) (fun o _ ih acc=>ih (app acc [jH acc o.after.toList])) l
omit [Io] in
theorem mf{acc:List Nat}{k:Nat}: ∀ {es:List Edge},(jH acc es).testBit k=true-> ∃ e∈es,Region.binds .any e=true/\(e.on=k∨(acc.getD e.on 0).testBit k=true)
 | [],h=>by simp[jH]at h
 |e::es,h=>by
  change (ej (Region.binds .any e) (Nat.lor (Nat.lor (Nat.pow 2 e.on) ((gx acc e.on).getD 0)) (jH acc es)) (jH acc es)).testBit k=true at h
  cases hb:Region.binds .any e with
  |false=>
   rw[hb]at h
   obtain⟨e',he,h'⟩:=mf (es:=es) h
   exact⟨e',List.mem_cons_of_mem _ he,h'⟩
  |true=>
   rw[hb]at h
   change ((2 ^ e.on ||| (gx acc e.on).getD 0) ||| jH acc es).testBit k=true at h
   rw[Nat.testBit_or,Nat.testBit_or,Nat.testBit_two_pow,Bool.or_eq_true,Bool.or_eq_true,dW]at h
   rcases h with(h|h)|h
   ·exact⟨e,List.mem_cons_self,hb,.inl (by simpa using h)⟩
   ·exact⟨e,List.mem_cons_self,hb,.inr (by simpa[List.getD]using h)⟩
   ·obtain⟨e',he,h'⟩:=mf (es:=es) h
    exact⟨e',List.mem_cons_of_mem _ he,h'⟩
omit [Io] in
theorem qv: ∀ (l:List Oper) (acc:List Nat),(kJ l acc).length=acc.length+l.length/\(∀ k,k<acc.length->(kJ l acc)[k]? =acc[k]?)/\
 ∀ i o k,l[i]? =some o->((kJ l acc).getD (acc.length+i) 0).testBit k=true-> ∃ e∈o.after.toList,Region.binds .any e=true/\(e.on=k∨((kJ l acc).getD e.on 0).testBit k=true)
 | [],acc=>⟨by simp[kJ],fun k _=>rfl,fun i o k h=>by simp at h⟩
 |o::l,acc=>by
  have hm:kJ (o::l) acc=kJ l (acc++[jH acc o.after.toList]):=by
   show kJ l (app acc _)=_
   rw[bQ]
  obtain⟨h1,h2,h3⟩:=qv l (acc++[jH acc o.after.toList])
  rw[<-hm]at h1 h2 h3
  refine⟨by rw[h1];simp;omega,fun k hk=>?_,?_⟩
  ·rw[h2 k (by simp;omega),List.getElem?_append_left hk]
  ·intro i o' k hi hk
   cases i with
   |zero=>
    simp at hi
    subst hi
    have RL:(kJ (o::l) acc)[acc.length]? =some (jH acc o.after.toList):=by
     rw[h2 acc.length (by simp)];simp
    simp only[Nat.add_zero,List.getD,RL,Option.getD_some]at hk
    obtain⟨e,he,hb,GL⟩:=mf hk
    refine⟨e,he,hb,GL.imp id fun h=>?_⟩
    by_cases ee:e.on<acc.length
    ·simp only[List.getD]at h ⊢
     rw[h2 _ (by simp;omega),List.getElem?_append_left ee];exact h
    ·simp only[List.getD,List.getElem?_eq_none (Nat.le_of_not_lt ee)]at h
     simp at h
   |succ i=>
    have:=h3 i o' k (by simpa using hi) (by
     simp only[List.length_append,List.length_cons,List.length_nil,Nat.zero_add]
     rw[show acc.length+1+i=acc.length+(i+1) by omega];exact hk)
    exact this
def x7(ops:List Oper)(i k:Nat):Bool:=((kJ ops []).getD i 0).testBit k
def tJ(ops:List Oper)(D:List Nat):Prop:= ∀ j∈D,∀ k,x7 ops j k=true->k∈D
omit [Io] in
theorem vH{ops:Array Oper}{D:List Nat}(hc:tJ ops.toList D){i:Nat}{o:Oper}(ho:ops[i]? =some o)
 (h: ∀ o e,ops[i]? =some o->e∈o.after->Region.binds .any e=true->e.on∈D):(∀ k,x7 ops.toList i k=true->k∈D)/\tJ ops.toList (i::D):=by
 have h1: ∀ k,x7 ops.toList i k=true->k∈D:=by
  intro k hk
  obtain⟨_,_,h3⟩:=qv ops.toList []
  obtain⟨e,he,hb,GL⟩:=h3 i o k (by simpa using ho) (by simpa[x7]using hk)
  have zq:=h o e ho (by simpa using he) hb
  rcases GL with rfl|GL
  ·exact zq
  ·exact hc _ zq k (by simpa[x7]using GL)
 refine⟨h1,fun j hj k hk=>?_⟩
 cases hj with
 |head=>exact List.mem_cons_of_mem _ (h1 k hk)
 |tail _ hj=>exact List.mem_cons_of_mem _ (hc j hj k hk)
end Go.Ab

noncomputable section
namespace Go.Ab
variable [Io]
section
variable {P:Program}{call:bP}
omit [Io] in
theorem mV{t t':Tm}: ∀ (l:List Operand),(∀ x∈l,aR x t=aR x t')->nQ (l.map aR) t=nQ (l.map aR) t'
 | [],_=>rfl
 |x::l,h=>by
  show(Option.rec none (fun v=>Option.rec none (fun vs=>some (v::vs)) (nQ (l.map aR) t)) (aR x t):Option (List AV))=
   Option.rec none (fun v=>Option.rec none (fun vs=>some (v::vs)) (nQ (l.map aR) t')) (aR x t')
  rw[h x List.mem_cons_self,mV l fun y hy=>h y (List.mem_cons_of_mem _ hy)]
omit [Io] in
theorem qw{t t':Tm}: ∀ (l:List (Nat×Operand)),(∀ x∈l.map (·.2),aR x t=aR x t')->iR (jE l) t=iR (jE l) t'
 | [],_=>rfl
 |p::l,h=>by
  show(match aR p.2 t with|some v=>(match iR (jE l) t with|some vs=>some ((p.1,v)::vs)|none=>none)|none=>none)=
   (match aR p.2 t' with|some v=>(match iR (jE l) t' with|some vs=>some ((p.1,v)::vs)|none=>none)|none=>none)
  rw[h p.2 List.mem_cons_self,qw l fun y hy=>h y (List.mem_cons_of_mem _ hy)]
omit [Io] in
theorem qx{t t':Tm}{place:Nat->Option (Nat×Nat)}: ∀ (l:List (Nat×Operand)) (ps:List (Nat×Nat×dj)),n7 place l=some ps->(∀ x∈l.map (·.2),aR x t=aR x t')->iS ps t=iS ps t'
 | [],ps,e,_=>by cases e;rfl
 |p::l,ps,e,h=>by
  change (match place p.1 with|some (off,size)=>(match n7 place l with|some r=>some ((off,size,aR p.2)::r)|none=>none)|none=>none)=some ps at e
  split at e
  ·split at e
   ·rename_i r hr
    cases e
    show(match aR p.2 t with|some v=>(match iS r t with|some vs=>some ((_,_,v)::vs)|none=>none)|none=>none)=
     (match aR p.2 t' with|some v=>(match iS r t' with|some vs=>some ((_,_,v)::vs)|none=>none)|none=>none)
    rw[h p.2 List.mem_cons_self,qx l r hr fun y hy=>h y (List.mem_cons_of_mem _ hy)]
   ·cases e
  ·cases e
omit [Io] in
theorem qy{t t':Tm}{d:Nat}(x:Option Operand)(h: ∀ y∈x.toList,aR y t=aR y t'):iT (x.map aR) t d=iT (x.map aR) t' d:=by
 cases x with
 |none=>rfl
 |some y=>simp only[Option.map_some,iT,h y (by simp)]
omit [Io] in
theorem x8{t t':Tm}{n:Nat}(lo hi:Option Operand)(h1: ∀ y∈lo.toList,aR y t=aR y t')(h2: ∀ y∈hi.toList,aR y t=aR y t'):
 bounds (lo.map aR) (hi.map aR) t n=bounds (lo.map aR) (hi.map aR) t' n:=by
 unfold bounds
 rw[qy lo h1,qy hi h2]
def dx(t t':Tm)(h:Hp)(f:dg):Prop:=f t h=f t' h
omit [Io] in
theorem Ip{t t':Tm}{h:Hp}:dx t t' h bA:=rfl
omit [Io] in
theorem gR{t t':Tm}{h:Hp}{c:Bool}{f:dg}(e:dx t t' h f):dx t t' h (ej c f bA):=by cases c;exact Ip;exact e
omit [Io] in
theorem DF{t t':Tm}{h:Hp}{c:Bool}{f f':dg}(e:dx t t' h f)(e':dx t t' h f'):dx t t' h (ej c f f'):=by cases c;exact e';exact e
omit [Io] in
theorem Iq{t t':Tm}{h:Hp}(o:Op)(e: ∀ x∈o.operands.toList,aR x t=aR x t'):dx t t' h (jG P call o).2:=by
 cases o<;>simp only[jG]
 case move x=>simp only[dx,aa,e x (by simp[Op.operands])]
 case assign x=>simp only[dx,aa,e x (by simp[Op.operands])]
 case pick c x y=>simp only[dx,aO,aa,e c (by simp[Op.operands]),e x (by simp[Op.operands]),e y (by simp[Op.operands])]
 case alloc T=>unfold Dr;split<;>rfl
 case box T x=>simp only[dx,cb,e x (by simp[Op.operands])]
 case build T ps=>
  unfold qe
  split
  ·split
   ·split
    ·rename_i q h3
     simp only[dx,an,qx (t:=t) (t':=t') ps.toList q h3 (fun x hx=>e x (by simpa[Op.operands]using hx))]
    ·rfl
   ·rfl
  ·rfl
 case buildSlice T n ps=>
  have hp:=qw (t:=t) (t':=t') ps.toList (fun x hx=>e x (by simpa[Op.operands]using hx))
  unfold CS
  split
  ·split
   ·split
    ·refine gR ?_
     simp only[dx,bf,hp]
    ·rfl
   ·rfl
  ·rfl
 case load T x=>
  unfold vA
  split
  ·split
   ·simp only[dx,ae,e x (by simp[Op.operands])]
   ·rfl
  ·rfl
 case store T x y=>
  unfold tt
  split
  ·refine gR ?_
   simp only[dx,aq,e x (by simp[Op.operands]),e y (by simp[Op.operands])]
  ·rfl
 case nilCheck x=>simp only[dx,aA,e x (by simp[Op.operands])]
 case binOp op T x y yT=>
  cases vz P op T with
  |none=>rfl
  |some f=>simp only[dx,af,e x (by simp[Op.operands]),e y (by simp[Op.operands])]
 case unOp op T x=>
  cases Nw op with
  |none=>rfl
  |some f=>simp only[dx,bF,e x (by simp[Op.operands])]
 case convert S D x=>
  have hx:=e x (by simp[Op.operands])
  split
  ·simp only[tB]
   split
   ·split
    ·split
     ·simp only[dx,jA,hx]
     ·rfl
    ·rfl
   ·split
    ·split
     ·refine gR ?_
      simp only[dx,lW,hx]
     ·rfl
    ·rfl
   ·rfl
  ·simp only[sa]
   split
   ·split
    ·simp only[dx,bF,hx]
    ·rfl
   ·rfl
 case makeFunc f first caps=>
  cases f<;>try rfl
  simp only
  split
  ·simp only[dx,GF,mV (t:=t) (t':=t') caps.toList (fun x hx=>e x (by simp[Op.operands];exact .inr (by simpa using hx)))]
  ·rfl
 case makeMap T r=>cases r<;>rfl
 case makeSlice T l c=>
  have h1:=e l (by simp[Op.operands])
  have h2:=e c (by simp[Op.operands])
  unfold vo
  split
  ·split
   ·split
    ·refine gR ?_
     simp only[dx,jf,h1,h2]
    ·rfl
   ·rfl
  ·rfl
 case slice T x lo hi mx=>
  cases mx with
  |some m=>
   have hx:=e x (by simp[Op.operands])
   have hm:=e m (by simp[Op.operands])
   have hh: ∀ y∈hi.toList,aR y t=aR y t':=fun y hy=>e y (by simp[Op.operands];right;right;left;simpa using hy)
   simp only
   unfold mU
   split
   ·rename_i y
    have hy:=hh y (by simp)
    split
    ·split
     ·simp only[dx,pY,wO,hx,hy,hm]
     ·rfl
    ·rfl
   ·rfl
  |none=>
  have hx:=e x (by simp[Op.operands])
  have hl: ∀ y∈lo.toList,aR y t=aR y t':=fun y hy=>e y (by simp[Op.operands];right;left;simpa using hy)
  have hh: ∀ y∈hi.toList,aR y t=aR y t':=fun y hy=>e y (by simp[Op.operands];right;right;simpa using hy)
  have hb: ∀ n,bounds (lo.map aR) (hi.map aR) t n=bounds (lo.map aR) (hi.map aR) t' n:=fun n=>x8 lo hi hl hh
  simp only
  unfold qo
  split
  ·simp only[dx,ct,hx,hb]
  ·split
   ·simp only[dx,bB,iU,hx,hb]
   ·rfl
  ·split
   ·refine gR ?_
    simp only[dx,ek,hx,hb]
   ·rfl
  ·rfl
 case fieldAddr T x n=>
  have hx:=e x (by simp[Op.operands])
  unfold iu
  split
  ·split
   ·split
    ·refine gR ?_
     simp only[dx,ab,hx]
    ·rfl
   ·rfl
  ·rfl
 case field T x n=>
  have hx:=e x (by simp[Op.operands])
  unfold qm
  split
  ·split
   ·split
    ·split
     ·simp only[dx,ij,hx]
     ·rfl
    ·rfl
   ·rfl
  ·rfl
 case indexAddr T x y=>
  have hx:=e x (by simp[Op.operands])
  have hy:=e y (by simp[Op.operands])
  unfold iw
  split
  ·split
   ·simp only[dx,bg,hx,hy]
   ·rfl
  ·split
   ·simp only[dx,j9,hx,hy]
   ·rfl
  ·rfl
 case index T x y=>
  have hx:=e x (by simp[Op.operands])
  have hy:=e y (by simp[Op.operands])
  unfold qn
  split
  ·split
   ·split
    ·simp only[dx,gy,hx,hy]
    ·rfl
   ·rfl
  ·simp only[dx,bG,hx,hy]
  ·rfl
 case extract x i=>simp only[dx,aD,e x (by simp[Op.operands])]
 case call c=>
  have jl: ∀ x∈c.args.toList,aR x t=aR x t':=fun x hx=>e x (by simp[Op.operands,Call.operands];right;simpa using hx)
  cases hb:eW P c with
  |some f=>
   simp only
   unfold eW at hb
   split at hb
   ·split at hb
    ·rename_i x T h1 h2
     cases hb
     have hx:=jl x (by simp[h1])
     unfold Dp
     split
     ·simp only[dx,fB,hx]
     ·simp only[dx,aP,wO,hx]
     ·rfl
     ·rfl
    ·cases hb;rfl
   ·split at hb
    ·rename_i x T h1 h2
     cases hb
     have hx:=jl x (by simp[h1])
     unfold Dq
     split
     ·simp only[dx,mH,wO,hx]
     ·rfl
    ·cases hb;rfl
   ·split at hb
    ·rename_i x y h1
     cases hb
     simp only[dx,mK,af,jl x (by simp[h1]),jl y (by simp[h1])]
    ·cases hb;rfl
   ·split at hb
    ·rename_i x y h1
     cases hb
     simp only[dx,rA,af,jl x (by simp[h1]),jl y (by simp[h1])]
    ·cases hb;rfl
   ·cases hb
  |none=>
   simp only
   unfold zl
   split
   ·split
    ·rename_i s x T T' h1 h2
     have h3:=jl s (by simp[h1])
     have h4:=jl x (by simp[h1])
     refine DF ?_ ?_
     ·unfold pD
      split
      ·split
       ·split
        ·refine gR ?_
         simp only[dx,aC,jB,wO,h3,h4]
        ·rfl
       ·rfl
      ·rfl
     ·unfold ze
      split
      ·unfold zd
       split
       ·split
        ·split
         ·split
          ·refine gR ?_
           simp only[dx,mJ,h3,h4]
          ·rfl
         ·rfl
        ·rfl
       ·rfl
      ·unfold zc
       split
       ·split
        ·split
         ·split
          ·refine gR ?_
           simp only[dx,j1,h3,h4]
          ·rfl
         ·rfl
        ·rfl
       ·rfl
    ·rfl
   ·split
    ·rename_i d s T T' h1 h2
     have h3:=jl d (by simp[h1])
     have h4:=jl s (by simp[h1])
     unfold zk
     split
     ·split
      ·simp only[dx,fQ,wO,h3,h4]
      ·rfl
     ·rfl
    ·rfl
   ·rename_i f args mc
    simp only[dx,aj,mV (t:=t) (t':=t') args.toList jl]
   ·rename_i f args mc _
    have hf:=e f (by simp[Op.operands,Call.operands])
    simp only[dx,eB,hf,mV (t:=t) (t':=t') args.toList jl]
   ·rfl
 all_goals rfl
def vI:Operand->List Nat
 | .tmp i=>[i]
 | _=>[]
def lA(all:List Oper)(o:Oper):List Nat:=
 app (List.rec [] (fun x _ ih=>app (vI x) ih) o.op.operands.toList) (match o.guard with
  |none=>[]
  |some (j,_)=>match gx all j with
   |some oj=>match oj.dst with
    |some d=>[d]
    |none=>[]
   |none=>[])
omit [Io] in
theorem vJ{x:Operand}{i:Nat}: ∀ {l:List Operand},x∈l->i∈vI x->i∈(List.rec [] (fun x _ ih=>app (vI x) ih) l:List Nat)
 | [],h,_=>by cases h
 |y::l,h,hi=>by
  show i∈app (vI y) _
  rw[bQ]
  cases h with
  |head=>exact List.mem_append_left _ hi
  |tail _ h=>exact List.mem_append_right _ (vJ h hi)
omit [Io] in
theorem Ir{nt:Nat}{all:List Oper}{o:Oper}{t t':Tm}{h:Hp}(e: ∀ u∈lA all o,t.at u=t'.at u):gv P call nt all o t h=gv P call nt all o t' h:=by
 have hx: ∀ x∈o.op.operands.toList,aR x t=aR x t':=by
  intro x hx
  cases x with
  |tmp i=>
   have:=e i (by unfold lA;rw[bQ];exact List.mem_append_left _ (vJ hx (by simp[vI])))
   show ej (Nat.blt i 512) (oT i) oX t=ej (Nat.blt i 512) (oT i) oX t'
   cases Nat.blt i 512
   ·rfl
   ·exact this
  |const v=>show(match GV v with|some a=>oC a|none=>oX) t=(match GV v with|some a=>oC a|none=>oX) t';cases GV v<;>rfl
  |global g=>rfl
  |func f=>rfl
 have hd:=Iq (P:=P) (call:=call) (h:=h) o.op hx
 unfold gv
 cases hg:o.guard with
 |none=>exact hd
 |some p=>
  obtain⟨j,want⟩:=p
  simp only
  cases hj:gx all j with
  |none=>rfl
  |some oj=>
   simp only
   cases hdj:oj.dst with
   |none=>rfl
   |some d=>
    simp only
    cases Nat.blt d nt with
    |false=>rfl
    |true=>
     have zb:t.at d=t'.at d:=e d (by
      unfold lA
      rw[bQ,hg]
      refine List.mem_append_right _ ?_
      simp[hj,hdj])
     show gF (oT d) want (jG P call o.op).2 t h=gF (oT d) want (jG P call o.op).2 t' h
     unfold gF
     unfold dx at hd
     rw[hd]
     show(match t.at d with|some (.bool b)=>_|some (.mD [])=>_| _=>_)=(match t'.at d with|some (.bool b)=>_|some (.mD [])=>_| _=>_)
     rw[zb]
end
end Go.Ab
