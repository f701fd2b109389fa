import Derived.Test.YtbplobpobnagkaaGreatDoorAb6
import Derived.Laws.StructEq
import Derived.LoopN
noncomputable section
namespace Go.Ab
variable [Io]
section
variable {P:Program}{o:Oper}
theorem Q4{g w h}(H:HR g w h){w':World}(h1:w'.os=w.os)(h2:w'.tape=w.tape)(h3:w'.output=w.output)(h4:w'.heap.size=w.heap.size+1)
 (h5: ∀ b,b<w.heap.size->w'.heap[b]? =w.heap[b]?):
 Ext g w h ⟨g.m,fun b=>g.fB b∨b=w.heap.size⟩ w' h/\HR ⟨g.m,fun b=>g.fB b∨b=w.heap.size⟩ w' h:=by
 have aoB: ∀ b,jZ g h b->b<w.heap.size:=by
  rintro b ⟨id,cs,s,e,m⟩
  obtain⟨_,_,_,hw,_⟩:=H.row e m
  exact(Array.getElem?_eq_some_iff.1 hw).1
 have E:Ext g w h ⟨g.m,fun b=>g.fB b∨b=w.heap.size⟩ w' h:=by
  refine⟨h1,h2,h3,by omega,Nat.le_refl _,fun _ _ e=>e,fun b hb _=>h5 b hb,?_,fun _ i=>.inl i,?_,fun _ o=>.inl o⟩
  ·intro b
   unfold dS
   by_cases hb:b<w.heap.size
   ·rw[h5 b hb];exact Nat.le_refl _
   ·rw[Array.getElem?_eq_none (by omega)];exact Nat.zero_le _
  ·rintro b (i|rfl)
   ·exact .inl i
   ·exact .inr (.inr (Nat.le_refl _))
 refine⟨E,H.fresh,?_,H.inj,?_,nO.ext H E⟩
 ·intro id cs e
  obtain⟨b,s,C,el,vs,hm,hw,hi,hv,hc⟩:=H.aL id cs e
  have hb:=(Array.getElem?_eq_some_iff.1 hw).1
  refine⟨b,s,C,el,vs,hm,by rw[h5 b hb];exact hw,?_,bF.mono H E _ _ hv,hc⟩
  rintro(i|rfl)
  ·exact hi i
  ·omega
 ·rintro b (i|rfl)
  ·have:=H.fB b i;omega
  ·omega
def Ff(s:ByteArray):List Value:=s.data.toList.map fun b=>Value.int .u8 (.ofNat b.toNat)
omit [Io] in
theorem IM(w:World)(e:TypeId)(s:ByteArray): ∃ cap w',∃ C:Array Value,∃ el:FT C,(Conv.stringToBytes e s).run P w=.ok (.slice (some ⟨w.heap.size,0,none⟩) s.size cap) w'/\s.size<=cap/\cap<=C.size/\
 w'.os=w.os/\w'.tape=w.tape/\w'.output=w.output/\w'.heap.size=w.heap.size+1/\(∀ b,w'.heap[b]? =if b=w.heap.size then some (.cells C el.el el.fz)else w.heap[b]?)/\(∀ (j:Nat) (v:Value),(Ff s)[j]? =some v->C[j]? =some v):=by
 obtain⟨cap,xy⟩: ∃ cap,cap=(Question.appendCap s.size 0 e).cut (w.tape w.drawn (.appendCap s.size 0 e)):=⟨_,rfl⟩
 have K9:s.size<=cap:=by rw[xy];simp[Question.cut]
 obtain⟨C,hC⟩: ∃ C:Array Value,C=s.data.map (fun b=>Value.int .u8 (b.toNat:Int))++Array.replicate (cap - s.size) (.int .u8 0):=⟨_,rfl⟩
 have hCs:C.size=cap:=by rw[hC];simp;show s.size+_=_;omega
 refine⟨cap,(w.drew.alloc (.cells C e)).freeze {block:=w.heap.size,off:=C.size} 1,C,⟨e,(C.size,C.size+1),.inr (Nat.le_refl _)⟩,?_,K9,by omega,rfl,rfl,rfl,?_,?_,?_⟩
 ·have hsh:(w.drew.alloc (.cells C e)).shape? w.heap.size=some (e,C.size):=by
   have:((w.drew.alloc (.cells C e)).heap)[w.heap.size]? =some (.cells C e):=by
    show(w.heap.push _)[w.heap.size]? =_
    simp
   simp only[World.shape?,this]
  simp[Conv.stringToBytes,run_choose,Question.forced,<-xy,<-hC,newRow,markStringish,hsh]
 ·simp[World.freeze]
 ·intro b
  have h1:((w.drew.alloc (.cells C e)).heap)[b]? =if b=w.heap.size then some (.cells C e)else w.heap[b]? :=by
   show(w.heap.push _)[b]? =_
   rw[Array.getElem?_push]
  simp only[World.freeze,Nat.one_ne_zero,if_false]
  rw[Array.getElem?_modify,h1]
  by_cases hb:b=w.heap.size
  ·subst hb
   rw[if_pos rfl,if_pos rfl,if_pos rfl]
   rfl
  ·rw[if_neg hb,if_neg hb,if_neg (by show ¬ w.heap.size=b;omega)]
 ·intro j v hj
  unfold Ff at hj
  have hl:=(List.getElem?_eq_some_iff.1 hj).1
  rw[hC,Array.getElem?_append_left (by simpa using hl)]
  simpa using hj
theorem bF.bytes(g:G)(w:World): ∀ (l:List UInt8),bF g w (l.map fun b=>AV.int .u8 (.ofNat b.toNat)) (l.map fun b=>Value.int .u8 (.ofNat b.toNat))
 | []=>by simp[bF]
 |b::l=>by
  simp only[List.map_cons,bF]
  exact⟨_,_,rfl,by simp only[VR],bF.bytes g w l⟩
theorem Fg{S D e:TypeId}{d:TypeDesc}{x:Operand}(ho:o.op=.convert S D x)(hS:P.underlying S=some d)(hD:P.underlying D=some (.slice e))(he:P.underlying e=some (.int .u8)):
 mD P o (ph (aQ x)):=by
 intro g w nt t h a v h' H Tr ev
 unfold ph at ev
 split at ev
 ·rename_i s hx
  have hv:=bb x _ _ _ _ _ _ Tr hx
  simp only[VR]at hv
  cases ev
  obtain⟨hv,_⟩:=hv
  obtain⟨cap,w',C,el,hr,K9,hcC,h1,h2,h3,h4,h5,hc⟩:=IM (P:=P) w e s
  obtain⟨E,H'⟩:=Cw H el h1 h2 h3 h4 h5 (cs:=wG (s.data.toList.map fun b=>.int .u8 (.ofNat b.toNat))) (vs:=Ff s) (by rw[iS];exact bF.bytes g w s.data.toList) hc
  refine⟨_,w',.value (.slice (some ⟨w.heap.size,0,none⟩) s.size cap),_,?_,.inl rfl,E,H',?_⟩
  ·simp[execOp,ho,hv,convert,run_underlying hS,run_underlying hD,run_underlying he,hr]
  ·simp only[VR]
   refine .inr ⟨w.heap.size,0,cap,by simp[G.add],rfl,K9,?_⟩
   have:w'.heap[w.heap.size]? =some (.cells C el.el el.fz):=by rw[h5,if_pos rfl]
   rw[jK this]
   omega
 ·cases ev
theorem IP{D e:TypeId}{x:Operand}(ho:o.op=.convert D D x)(hD:P.underlying D=some (.slice e))(he:P.underlying e=some (.int .u8)):mD P o (r7 (aQ x)):=by
 intro g w nt t h a v h' H Tr ev
 unfold r7 at ev
 split at ev
 ·rename_i id off n sz hx
  have hv:=bb x _ _ _ _ _ _ Tr hx
  have rr:=hv
  cases hn:Nat.beq n 0 with
  |true=>rw[hn]at ev;cases ev
  |false=>
  rw[hn]at ev
  simp only[cond_false]at ev
  split at ev
  ·rename_i cs hg
   cases ev
   simp only[VR]at hv
   rcases hv with⟨rfl,_⟩|⟨b,s,cap,hm,hv,hc,_⟩
   ·cases hn
   obtain⟨C,el,vs,hw,hi,eI,Q1⟩:=H.row hg hm
   have hsh:w.shape? b=some (el.el,C.size):=by simp only[World.shape?,hw]
   have hok:=el.ok'
   obtain⟨E,H'⟩:=K8 H (w':=w.freeze {block:=b,off:=C.size} 1) (el:=el) (el':=⟨el.el,if el.fz.1 == el.fz.2 then(C.size,C.size+1)else(min el.fz.1 C.size,max el.fz.2 (C.size+1)),by
    by_cases h0:el.fz.1=el.fz.2
    ·simp[h0]
    ·simp only[beq_iff_eq,h0,if_false]
     right
     show C.size<=min el.fz.1 C.size
     omega⟩) hg hm hw rfl rfl rfl (by simp[World.freeze]) (fun k=>by
    simp only[World.freeze,Nat.one_ne_zero,if_false]
    rw[Array.getElem?_modify]
    by_cases hk:k=b
    ·subst hk
     rw[if_pos rfl,if_pos rfl,hw]
     rfl
    ·rw[if_neg hk,if_neg (fun q=>hk q.symm)])
   refine⟨g,_,.value (a.eval x),a.eval x,?_,.inl rfl,E,H',VR.mono H E _ _ rr⟩
   rw[hv]
   simp[execOp,ho,hv,convert,run_underlying hD,run_underlying he,markStringish,hsh]
  ·cases ev
 ·cases ev
omit [Io] in
theorem AU{P:Program}(t:TypeId)(w:World):(Instr.makeMap t none).run P w=.ok (.map (some w.heap.size)) (w.alloc (.map #[] 0)):=rfl
theorem K'{T:TypeId}(ho:o.op=.makeMap T none):mD P o Ix:=by
 intro g w nt t h a v h' H Tr ev
 cases ev
 obtain⟨E,H'⟩:=Q4 H (w':=w.alloc (.map #[] 0)) rfl rfl rfl (by show(w.heap.push _).size=_;rw[Array.size_push]) (fun b hb=>by
  show(w.heap.push _)[b]? =_
  rw[Array.getElem?_push,if_neg (by omega)])
 exact⟨_,_,.value (.map (some w.heap.size)),_,by simp[execOp,ho,AU],.inl rfl,E,H',by simp only[VR];rfl⟩
end
end Go.Ab

noncomputable section
namespace Go.Ab
variable [Io]
section
variable {P:Program}
theorem gb{op:BinOp}{T:TypeId}{f s:AV->AV->Option AV}(hf:cR P op T f)
 (hs: ∀ (a b r:AV),s a b=some r->(∀ (g:G) (w:World) (u v:Value),VR g w a u->VR g w b v-> ∃ k m k' n r0,u=.int k m/\v=.int k' n/\f (.int k m) (.int k' n)=some r0/\ ∀ z,VR g w r0 z->VR g w r z)):
 cR P op T (wh f s):=by
 intro g w a b r u v ha hb h
 unfold wh at h
 cases hr:f a b with
 |some r'=>
  rw[hr]at h
  cases h
  exact hf g w a b r u v ha hb hr
 |none=>
  rw[hr]at h
  obtain⟨k,m,k',n,r0,rfl,rfl,h1,h2⟩:=hs a b r h g w u v ha hb
  obtain⟨z,hz,hv,hg⟩:=hf g w (.int k m) (.int k' n) r0 (.int k m) (.int k' n) (by simp only[VR]) (by simp only[VR]) h1
  exact⟨z,hz,h2 z hv,hg⟩
def ahU(f s:AV->AV->Option AV):Prop:= ∀ (a b r:AV),s a b=some r->(∀ (g:G) (w:World) (u v:Value),VR g w a u->VR g w b v-> ∃ k m k' n r0,u=.int k m/\v=.int k' n/\f (.int k m) (.int k' n)=some r0/\ ∀ z,VR g w r0 z->VR g w r z)
theorem lK{f:AV->AV->Option AV}:ahU f Ch:=by
 intro a b r h
 cases h
omit [Io] in
theorem af2{a b:Int}:lj a b=true↔a<b:=by rw[ji];simp
omit [Io] in
theorem Q5{a b:Int}:lj a b=false↔b<=a:=by rw[ji];simp
omit [Io] in
theorem gf{a b:Int}:eqI a b=true↔a=b:=by rw[vb];simp
omit [Io] in
theorem af3(m n:Int):eqI m n=decide (m=n):=by
 by_cases e:m=n
 ·rw[gf.2 e];simp[e]
 ·rw[show eqI m n=false from by rw[Bool.eq_false_iff];exact fun h=>e (gf.1 h)];simp[e]
omit [Io] in
theorem CM{l:List Nat}: ∀ {m:List Nat},u4 l m=true↔l=m:=by
 induction l with
 |nil=>intro m;cases m<;>simp[u4]
 |cons a l ih=>
  intro m
  cases m with
  |nil=>simp[u4]
  |cons b m=>
   show(bif Nat.beq a b then u4 l m else false)=true↔_
   cases e:Nat.beq a b with
   |true=>
    rw[Nat.eq_of_beq_eq_true e]
    show u4 l m=true↔_
    rw[ih];simp
   |false=>
    have:a≠b:=fun e'=>by subst e';rw[Nat.beq_refl]at e;cases e
    simp[this]
omit [Io] in
theorem IQ{a b:SV}(h:n7 a b=true):a=b:=by
 cases a<;>cases b<;>simp[n7,gf,CM]at h<;>simp[h]
omit [Io] in
theorem La{a:SV}: ∀ {b:SV},ES a b=true->a=b:=by
 induction a with
 |tm f k k' a oa b ob sG xh=>
  intro y h
  cases y with
  |tm f2 k2 k2' a2 oa2 b2 ob2=>
   change (Nat.beq f f2&&(jv k k2&&(jv k' k2'&&(eqI oa oa2&&(eqI ob ob2&&(ES a a2&&ES b b2))))))=true at h
   simp only[Bool.and_eq_true]at h
   obtain⟨h1,h2,h3,h4,h5,h6,h7⟩:=h
   rw[Nat.eq_of_beq_eq_true h1,eQ.1 h2,eQ.1 h3,gf.1 h4,gf.1 h5,sG h6,xh h7]
  | _=>cases h
 |ix l a o sG=>
  intro y h
  cases y with
  |ix l2 a2 o2=>
   change (u4 l l2&&(eqI o o2&&ES a a2))=true at h
   simp only[Bool.and_eq_true]at h
   obtain⟨h1,h2,h3⟩:=h
   rw[CM.1 h1,gf.1 h2,sG h3]
  | _=>cases h
 | _=>intro y h;exact IQ h
omit [Io] in
theorem aca{f:IntKind->Int->Int->Option AV}{k:IntKind}{m n:Int}:nd f (.int k m) (.int k n)=f k m n:=by
 unfold nd
 simp only[eQ.2 rfl,cond_true]
omit [Io] in
theorem bR{α:Type}{b:Bool}{x:Option α}{r:α}(h:(bif b then x else none)=some r):b=true/\x=some r:=by
 cases b
 ·cases h
 ·exact⟨rfl,h⟩
theorem W4{a b:AV}{c:Bool}(h:Qu a b=some c){g:G}{w:World}{u v:Value}(ha:VR g w a u)(hb:VR g w b v): ∃ k m n,u=.int k m/\v=.int k n/\c=decide (m=n):=by cases h
theorem Lb{a b:AV}{c:Bool}(h:KB a b=some c){g:G}{w:World}{u v:Value}(ha:VR g w a u)(hb:VR g w b v): ∃ k m n,u=.int k m/\v=.int k n/\c=decide (m<n):=by cases h
theorem Lc(T:TypeId):cR P .add T bw:=gb (Qw T) lK
theorem Ld(T:TypeId):cR P .sub T fm:=gb (Qx T) lK
theorem Le(T:TypeId):cR P .and T n8:=gb (QK T) lK
theorem Lg(T:TypeId):cR P .or T nI:=gb (WT T) lK
theorem Lh(T:TypeId):cR P .xor T GU:=gb (QL T) lK
theorem Li(T:TypeId):cR P .shl T mB:=gb (QM T) lK
theorem Lj(T:TypeId):cR P .shr T lJ:=gb (QN T) lK
theorem Lk(T:TypeId):cR P .lss T ba:=gb (QB T) lK
theorem Ll(T:TypeId):cR P .gtr T fN:=gb (QC T) lK
theorem Lm(T:TypeId):cR P .leq T g5:=gb (QD T) lK
theorem Ln(T:TypeId):cR P .geq T fU:=gb (QE T) lK
theorem Lo(T:TypeId):cR P .rem T Cr:=gb (QA T) lK
theorem Lp(T:TypeId):cR P .quo T GS:=gb (Qz T) lK
theorem Lq(T:TypeId):cR P .mul T ng:=gb (Qy T) lK
theorem Lr(T:TypeId):cR P .eql T (aG false):=gb (QF T) lK
theorem Ls(T:TypeId):cR P .neq T (aG true):=gb (QG T) lK
theorem Q6{k:IntKind}{b v:AV}{g:G}{w:World}{u:Value}(hf:bU k b=some v)(hv:VR g w b u): ∃ k' m r0,u=.int k' m/\KC k (.int k' m)=some r0/\ ∀ z,VR g w r0 z->VR g w v z:=by
 unfold bU abT at hf
 cases hr:KC k b with
 |some r=>
  rw[hr]at hf
  cases hf
  unfold KC at hr
  split at hr
  ·cases hr
   simp only[VR]at hv
   exact⟨_,_,_,hv,rfl,fun z h=>h⟩
  ·cases hr
 |none=>
  rw[hr]at hf
  cases hf
theorem Fh{o:Oper}{S D:TypeId}{d:TypeDesc}{k:IntKind}{x:Operand}(ho:o.op=.convert S D x)(hS:P.underlying S=some d)(hD:P.underlying D=some (.int k)):
 bN P o (eG (bU k) (aQ x)):=by
 intro g w nt t h a v h' H Tr e
 obtain⟨b,hb,hf,rfl⟩:=tP e
 have hv:=bb x _ _ _ _ _ _ Tr hb
 obtain⟨k',m,r0,rr,hr,hz⟩:=Q6 hf hv
 cases hr
 exact⟨rfl,.int k (k.wrap m),by simp[execOp,ho,rr,convert,run_underlying hS,run_underlying hD,Conv.intToInt],hz _ (by simp only[VR,kP])⟩
theorem Lt{x y:Operand}{sJ:Array TypeId}{o:Oper}(ho:o.op=.call {callee:=.builtin .min,args:= #[x,y],argTypes:=sJ}):bN P o (AA (aQ x) (aQ y)):=by
 intro g w nt t h a v h' H Tr e
 unfold AA ah at e
 cases hx:aQ x t with
 |none=>rw[hx]at e;cases e
 |some ax=>
  cases hy:aQ y t with
  |none=>rw[hx,hy]at e;cases e
  |some ay=>
   rw[hx,hy]at e
   have h3:=bb x _ _ _ _ _ _ Tr hx
   have h4:=bb y _ _ _ _ _ _ Tr hy
   unfold wh at e
   cases hr:nd (fun k a b=>some (.int k (bif lj b a then b else a))) ax ay with
   |some r=>
    simp only[hr]at e
    cases e
    obtain⟨k,m,n,rfl,rfl,h2⟩:=vc hr
    cases h2
    simp only[VR]at h3 h4
    refine⟨rfl,.int k (if n<m then n else m),by simp[execOp,ho,resolve,invoke,builtin,Builtin.min_,Builtin.min2,h3,h4],?_⟩
    simp only[VR,ji]
    by_cases gB:n<m<;>simp[gB]
   |none=>
    simp only[hr]at e
    cases hl:KB ay ax with
    |none=>rw[hl]at e;cases e
    |some c=>
     rw[hl]at e
     cases e
     obtain⟨k,p,q,e1,e2,rfl⟩:=Lb hl h4 h3
     have hex:(execOp a.eval o).run P w=.ok (.value (.int k (if p<q then p else q))) w:=by
      simp[execOp,ho,resolve,invoke,builtin,Builtin.min_,Builtin.min2,e1,e2]
     refine⟨rfl,_,hex,?_⟩
     by_cases gB:p<q
     ·simp only[gB,decide_true,cond_true,if_true,gt_iff_lt]
      rw[e1]at h4
      exact h4
     ·simp only[gB,decide_false,cond_false,if_false,gt_iff_lt]
      rw[e2]at h3
      exact h3
theorem Lu{x y:Operand}{sJ:Array TypeId}{o:Oper}(ho:o.op=.call {callee:=.builtin .max,args:= #[x,y],argTypes:=sJ}):bN P o (AB (aQ x) (aQ y)):=by
 intro g w nt t h a v h' H Tr e
 unfold AB ah at e
 cases hx:aQ x t with
 |none=>rw[hx]at e;cases e
 |some ax=>
  cases hy:aQ y t with
  |none=>rw[hx,hy]at e;cases e
  |some ay=>
   rw[hx,hy]at e
   have h3:=bb x _ _ _ _ _ _ Tr hx
   have h4:=bb y _ _ _ _ _ _ Tr hy
   unfold wh at e
   cases hr:nd (fun k a b=>some (.int k (bif lj a b then b else a))) ax ay with
   |some r=>
    simp only[hr]at e
    cases e
    obtain⟨k,m,n,rfl,rfl,h2⟩:=vc hr
    cases h2
    simp only[VR]at h3 h4
    refine⟨rfl,.int k (if n>m then n else m),by simp[execOp,ho,resolve,invoke,builtin,Builtin.max_,Builtin.max2,h3,h4],?_⟩
    simp only[VR,ji]
    by_cases gB:m<n<;>simp[gB]
   |none=>
    simp only[hr]at e
    cases hl:KB ax ay with
    |none=>rw[hl]at e;cases e
    |some c=>
     rw[hl]at e
     cases e
     obtain⟨k,p,q,e1,e2,rfl⟩:=Lb hl h3 h4
     have hex:(execOp a.eval o).run P w=.ok (.value (.int k (if q>p then q else p))) w:=by
      simp[execOp,ho,resolve,invoke,builtin,Builtin.max_,Builtin.max2,e1,e2]
     refine⟨rfl,_,hex,?_⟩
     by_cases gB:p<q
     ·simp only[gB,decide_true,cond_true,if_true,gt_iff_lt]
      rw[e2]at h4
      exact h4
     ·simp only[gB,decide_false,cond_false,if_false,gt_iff_lt]
      rw[e1]at h3
      exact h3
end
end Go.Ab

noncomputable section
namespace Go.Ab
variable [Io]
section
variable {P:Program}
def scalars(P:Program)(n:Nat)(l:List Field):Option (List Bool):=
 List.rec (fun _=>some []) (fun f _ ih n=>bif Nat.beq f.offset n&& !(decide (f.name= "_"))then
  (match P.info? f.type with
  |some i=>bif Nat.beq i.size 1 then
   (match P.underlying f.type with
   |some (.int _)=>(match ih (Nat.add n 1)with|some r=>some (true::r)|none=>none)
   |some .bool=>(match ih (Nat.add n 1)with|some r=>some (false::r)|none=>none)
   | _=>none)else none
  |none=>none)else none) l n
theorem W5{i:Bool}{x y:AV}{c:Bool}(h:eq1 i x y=some c){g:G}{w:World}{u v:Value}(hx:VR g w x u)(hy:VR g w y v){T:TypeId}{d:Nat}
 (hT:(i=true/\ ∃ k,P.underlying T=some (.int k))∨(i=false/\P.underlying T=some .bool)):(Op.equalIn (d+1) T u v).run P w=.ok c w:=by
 rcases hT with⟨rfl,k,hT⟩|⟨rfl,hT⟩
 ·change (match(generalizing:=false) x,y with| .int k a,.int k' b=>bif jv k k' then some (eqI a b)else none| _,_=>Qu x y)=some c at h
  split at h
  ·rename_i k1 a k2 b
   cases e:jv k1 k2 with
   |false=>rw[e]at h;cases h
   |true=>
    rw[e]at h
    cases h
    obtain rfl:=eQ.1 e
    simp only[VR]at hx hy
    subst hx;subst hy
    rw[run_equalIn_int w d T k1 k a b hT,vb]
  ·obtain⟨k1,m,n,rfl,rfl,rfl⟩:=W4 h hx hy
   rw[run_equalIn_int w d T k1 k m n hT]
   congr 1
 ·change (match(generalizing:=false) x,y with| .bool a,.bool b=>some (!(xor a b))| _,_=>none)=some c at h
  split at h
  ·rename_i a b
   cases h
   simp only[VR]at hx hy
   subst hx;subst hy
   rw[run_equalIn_bool' w d T a b hT]
   cases a<;>cases b<;>rfl
  ·cases h
omit [Io] in
theorem CN{T:TypeId}{td:TypeDesc}{i:TypeInfo}{vs:Array Value}{n:Nat}{v:Value}{w:World}(hd:P.underlying T=some td)(ha:j3 td=false)(hv:vs[n]? =some v):
 (Go.part T vs n).run P w=.ok v w:=by
 unfold Go.part
 simp only[Sem.run_bind,oc hd,ha,Result.andThen_ok]
 simp[hv]
theorem vK{g:G}{w:World}(d:Nat): ∀ (fs:List Field) (n:Nat) (l:List Bool) (xs ys:List AV) (us vs:Array Value) (c:Bool),scalars P n fs=some l->Cs l xs ys=some c->
 bF g w xs (us.toList.drop n)->bF g w ys (vs.toList.drop n)->(Op.eqFields (d+1) us vs fs).run P w=.ok c w
 | [],n,l,xs,ys,us,vs,c,hs,e,hx,hy=>by
  cases hs
  cases e
  simp[Op.eqFields]
 |f::fs,n,l,xs,ys,us,vs,c,hs,e,hx,hy=>by
  change (bif Nat.beq f.offset n&& !(decide (f.name= "_"))then
   (match P.info? f.type with
   |some i=>bif Nat.beq i.size 1 then
    (match P.underlying f.type with
    |some (.int _)=>(match scalars P (n+1) fs with|some r=>some (true::r)|none=>none)
    |some .bool=>(match scalars P (n+1) fs with|some r=>some (false::r)|none=>none)
    | _=>none)else none
   |none=>none)else none)=some l at hs
  replace hs:=bR hs
  obtain⟨h0,hs⟩:=hs
  rw[Bool.and_eq_true]at h0
  have acb:f.offset=n:=Nat.eq_of_beq_eq_true h0.1
  have acd:f.name≠ "_" :=by simpa using h0.2
  split at hs
  ·replace hs:=bR hs
   obtain⟨_,hs⟩:=hs
   have key: ∀ (i:Bool) (r:List Bool) (td:TypeDesc),P.underlying f.type=some td->j3 td=false->scalars P (n+1) fs=some r->l=i::r->
    ((i=true/\ ∃ k,P.underlying f.type=some (.int k))∨(i=false/\P.underlying f.type=some .bool))->(Op.eqFields (d+1) us vs (f::fs)).run P w=.ok c w:=by
    intro i r td htd ace hr hl hT
    subst hl
    change (match(generalizing:=false) xs with
     | []=>none
     |x::xs=>match(generalizing:=false) ys with
      | []=>none
      |y::ys=>match eq1 i x y with
       |none=>none
       |some c=>(Bool.rec (some false) (Cs r xs ys) c:Option Bool))=some c at e
    cases xs with
    |nil=>cases e
    |cons x xs=>
    cases ys with
    |nil=>cases e
    |cons y ys=>
    simp only at e
    cases h1:eq1 i x y with
    |none=>rw[h1]at e;cases e
    |some c1=>
    rw[h1]at e
    simp only[bF]at hx hy
    obtain⟨u,us',hu,hxu,W6⟩:=hx
    obtain⟨v,vs',hv,hyv,hys⟩:=hy
    have hu0:us[n]? =some u:=by
     have:(us.toList.drop n)[0]? =some u:=by rw[hu];rfl
     simpa using this
    have hv0:vs[n]? =some v:=by
     have:(vs.toList.drop n)[0]? =some v:=by rw[hv];rfl
     simpa using this
    have hu1:us.toList.drop (n+1)=us':=by rw[<-List.drop_drop,hu];rfl
    have hv1:vs.toList.drop (n+1)=vs':=by rw[<-List.drop_drop,hv];rfl
    have pu:(Go.part f.type us f.offset).run P w=.ok u w:=by rw[acb];exact CN (i:=default) htd ace hu0
    have pv:(Go.part f.type vs f.offset).run P w=.ok v w:=by rw[acb];exact CN (i:=default) htd ace hv0
    simp only[Op.eqFields,if_pos acd,Sem.run_bind,pu,pv,Result.andThen_ok,W5 (P:=P) (d:=d) h1 hxu hyv hT]
    cases c1 with
    |false=>cases e;simp
    |true=>
     simp only[Bool.not_true,Bool.false_eq_true,if_false]
     exact vK d fs (n+1) r xs ys us vs c hr e (by rw[hu1];exact W6) (by rw[hv1];exact hys)
   split at hs
   ·rename_i k hT
    split at hs
    ·rename_i r hr;cases hs;exact key true r _ hT rfl hr rfl (.inl ⟨rfl,_,hT⟩)
    ·cases hs
   ·rename_i hT
    split at hs
    ·rename_i r hr;cases hs;exact key false r _ hT rfl hr rfl (.inr ⟨rfl,hT⟩)
    ·cases hs
   ·cases hs
  ·cases hs
omit [Io] in
theorem zU{neg:Bool}{l:List Bool}{x y r:AV}(h:ET neg l x y=some r): ∃ xs ys c,x=.agg xs/\y=.agg ys/\Cs l xs ys=some c/\r=.bool (bif neg then !c else c):=by
 unfold ET at h
 split at h
 ·rename_i xs
  split at h
  ·rename_i ys
   split at h
   ·rename_i c hc
    cases h
    exact⟨xs,ys,c,rfl,rfl,hc,rfl⟩
   ·cases h
  ·cases h
 ·cases h
theorem G8{T:TypeId}{fs:Array Field}{l:List Bool}(hT:P.underlying T=some (.struct fs))(hs:P.stoodInHeld T=false)(hl:scalars P 0 fs.toList=some l){g:G}{w:World}
 {xs ys:List AV}{c:Bool}(hc:Cs l xs ys=some c){us vs:Array Value}(hx:bF g w xs us.toList)(hy:bF g w ys vs.toList):(Op.equalIn 10000 T (.agg us) (.agg vs)).run P w=.ok c w:=by
 have hf:P.fieldsOf T=fs:=by unfold Program.fieldsOf;rw[hT]
 refine(run_equalIn_struct w 9999 T us vs (by rw[hf];exact hT) hs).trans ?_
 rw[hf]
 exact vK 9998 fs.toList 0 l xs ys us vs c hl hc (by simpa using hx) (by simpa using hy)
theorem Q7{T:TypeId}{fs:Array Field}{l:List Bool}(hT:P.underlying T=some (.struct fs))(hs:P.stoodInHeld T=false)(hg:P.eqGuardType P.depth T=false)(hl:scalars P 0 fs.toList=some l):
 cR P .eql T (ET false l):=by
 intro g w a b r u v ha hb h
 obtain⟨xs,ys,c,rfl,rfl,hc,rfl⟩:=zU h
 simp only[VR]at ha hb
 obtain⟨us,rfl,hx⟩:=ha
 obtain⟨vs,rfl,hy⟩:=hb
 refine⟨.bool c,?_,by simp only[VR];rfl,fun x y=>run_eqGuard_agg w .eql T x y us vs hg⟩
 rw[run_eql_struct,G8 hT hs hl hc hx hy]
 rfl
theorem Q8{T:TypeId}{fs:Array Field}{l:List Bool}(hT:P.underlying T=some (.struct fs))(hs:P.stoodInHeld T=false)(hg:P.eqGuardType P.depth T=false)(hl:scalars P 0 fs.toList=some l):
 cR P .neq T (ET true l):=by
 intro g w a b r u v ha hb h
 obtain⟨xs,ys,c,rfl,rfl,hc,rfl⟩:=zU h
 simp only[VR]at ha hb
 obtain⟨us,rfl,hx⟩:=ha
 obtain⟨vs,rfl,hy⟩:=hb
 refine⟨.bool (!c),?_,by simp only[VR];rfl,fun x y=>run_eqGuard_agg w .neq T x y us vs hg⟩
 rw[run_neq_struct,G8 hT hs hl hc hx hy]
 rfl
def IU(P:Program)(neg:Bool)(T:TypeId):Option (AV->AV->Option AV):=match P.underlying T with
 |some (.struct fs)=>match P.stoodInHeld T with
  |false=>match P.eqGuardType P.depth T with
   |false=>match scalars P 0 fs.toList with
    |some l=>some (ET neg l)
    |none=>none
   |true=>none
  |true=>none
 | _=>none
theorem Q9{T:TypeId}{f:AV->AV->Option AV}(h:IU P false T=some f):cR P .eql T f:=by
 unfold IU at h
 split at h
 ·rename_i fs hT
  split at h
  ·rename_i hs
   split at h
   ·rename_i hg
    split at h
    ·rename_i l hl
     cases h
     exact Q7 hT hs hg hl
    ·cases h
   ·cases h
  ·cases h
 ·cases h
theorem Q'{T:TypeId}{f:AV->AV->Option AV}(h:IU P true T=some f):cR P .neq T f:=by
 unfold IU at h
 split at h
 ·rename_i fs hT
  split at h
  ·rename_i hs
   split at h
   ·rename_i hg
    split at h
    ·rename_i l hl
     cases h
     exact Q8 hT hs hg hl
    ·cases h
   ·cases h
  ·cases h
 ·cases h
end
end Go.Ab

noncomputable section
namespace Go.Ab
variable [Io]
section
variable {P:Program}{o:Oper}
omit [Io] in
theorem run_copy_none(w:World)(dT sT ty elem:TypeId)(i:TypeInfo)(hu:P.underlying dT=some (.slice elem))(hi:P.info? elem=some i)(d x:Option Addr)(IV W7 cH en:Nat)(hn:Nat.min cH IV=0):
 (Builtin.copy_ #[dT,sT] ty #[.slice d IV W7,.slice x cH en]).run P w=.ok (.int .i64 (Int.ofNat 0)) w:=by
 have hl: ∀ a:Addr,(loadCells a 0).run P w=.ok #[] w:=fun a=>run_loadCells_list (P:=P) w a [] (by simp)
 cases d<;>cases x<;>simp[Builtin.copy_,run_underlying hu,Builtin.lenOf,Builtin.firstCells,sizeOf,typeInfo,hi,hn,hl,storeCells,goInt]
omit [Io] in
theorem zf(w:World)(dT sT ty elem:TypeId)(i:TypeInfo)(hu:P.underlying dT=some (.slice elem))(hi:P.info? elem=some i)(g o IV W7:Nat)(a:Addr)(cH en:Nat)(cur:Array Value)(t:FT cur)(cs:List Value)
 (hg:w.heap[g]? =some (.cells cur t.el t.fz))(hn:cs.length=Nat.min cH IV*i.size)(ahX: ∀ j v,cs[j]? =some v->w.cell? (a.add j)=some v)(qF:o+cs.length<=cur.size)(h1: ∀ v∈cs,v.oneCell'=true):
 (Builtin.copy_ #[dT,sT] ty #[.slice (some ⟨g,o,none⟩) IV W7,.slice (some a) cH en]).run P w=
  .ok (.int .i64 (Int.ofNat (Nat.min cH IV))) (w.setRow g (cur.toList.take o++cs++cur.toList.drop (o+cs.length)).toArray):=by
 have hl:=run_loadCells_list (P:=P) w a cs ahX
 have wM:=eA P g o t.el t.fz cs 0 cur w hg t.ok (by simpa using qF) h1
 simp[Builtin.copy_,run_underlying hu,Builtin.lenOf,Builtin.firstCells,sizeOf,typeInfo,hi,<-hn,hl,wM,goInt]
def G9(P:Program)(T:TypeId)(d s:Operand):eH:=match P.underlying T with
 |some (.slice e)=>match P.info? e with
  |some i=>kr i.size (wO (aQ d)) (wO (aQ s))
  |none=>bI
 | _=>bI
theorem IW{T T':TypeId}{d s:Operand}(ho:o.op=.call {callee:=.builtin .copy,args:= #[d,s],argTypes:= #[T,T']}):mD P o (G9 P T d s):=by
 intro g w nt t h a v h' H Tr e
 unfold G9 at e
 cases hu:P.underlying T with
 |none=>rw[hu]at e;cases e
 |some dd=>
 rw[hu]at e
 cases dd<;>try (cases e;done)
 rename_i el
 simp only at e
 cases hi:P.info? el with
 |none=>rw[hi]at e;cases e
 |some i=>
  rw[hi]at e
  change kr i.size (wO (aQ d)) (wO (aQ s)) t h=.ok v h' at e
  have hex: ∀ vd vs r w',a.eval d=vd->a.eval s=vs->(Builtin.copy_ #[T,T'] o.type #[vd,vs]).run P w=.ok r w'->(execOp a.eval o).run P w=.ok (.value r) w':=by
   intro vd vs r w' h1 h2 h3
   unfold execOp
   simp only[ho,resolve,invoke,builtin,Sem.run_bind,Sem.run_pure,Result.andThen_ok,List.map_toArray,List.map_cons,List.map_nil,h1,h2,h3]
  unfold kr at e
  split at e
  ·rename_i hd
   split at e
   ·rename_i xv hs
    split at e
    ·rename_i p hsc
     cases e
     have hvd:=iU d _ _ _ _ _ _ Tr hd
     have eI:=iU s _ _ _ _ _ _ Tr hs
     simp only[VR]at hvd
     obtain⟨b,Vf⟩:=hvd
     obtain⟨n,cs⟩:=p
     obtain⟨xa,xc,Q3,hxc,ze⟩:=lE H eI hsc
     exact⟨g,w,_,_,hex _ _ _ _ Vf Q3 (run_copy_none w T T' o.type el i hu hi _ _ _ _ _ _ (Nat.min_zero _)),.inl rfl,Ext.refl _ _ _,H,by simp only[VR]⟩
    ·cases e
   ·cases e
  ·rename_i id off n sz hd
   split at e
   ·rename_i xv hs
    split at e
    ·rename_i m src hsc
     have hvd:=iU d _ _ _ _ _ _ Tr hd
     have eI:=iU s _ _ _ _ _ _ Tr hs
     obtain⟨xa,xc,Q3,hxc,ze⟩:=lE H eI hsc
     simp only[VR]at hvd
     rw[tL]at e
     cases hk:Nat.beq (min m n) 0 with
     |true=>
      rw[hk]at e
      cases e
      have hk0:Nat.min m n=0:=Nat.eq_of_beq_eq_true hk
      rcases hvd with⟨rfl,b,Vf⟩|⟨b,s',cap,hm,Vf,xy,_⟩
      ·exact⟨g,w,_,_,hex _ _ _ _ Vf Q3 (run_copy_none w T T' o.type el i hu hi _ _ _ _ _ _ hk0),.inl rfl,Ext.refl _ _ _,H,by simp only[VR]⟩
      ·exact⟨g,w,_,_,hex _ _ _ _ Vf Q3 (run_copy_none w T T' o.type el i hu hi _ _ _ _ _ _ hk0),.inl rfl,Ext.refl _ _ _,H,by simp only[VR]⟩
     |false=>
      rw[hk]at e
      have hk0:min m n≠0:=fun k=>by rw[k]at hk;cases hk
      simp only[cond_false]at e
      split at e
      ·rename_i cs hg
       cases hb:((Nat.blt 0 i.size&&(Nat.beq sz i.size&&(Nat.beq (len src) (Nat.mul m i.size)&&cb dO src)))&&Nat.ble (Nat.add off (Nat.mul (min m n) i.size)) cs.n)with
       |false=>rw[hb]at e;cases e
       |true=>
        rw[hb]at e
        cases e
        simp only[Bool.and_eq_true,bS]at hb
        obtain⟨⟨b0,b1,b2,b3⟩,b4⟩:=hb
        have b0:=bH.1 b0
        obtain rfl:=Nat.eq_of_beq_eq_true b1
        have b2:src.length=m*i.size:=Nat.eq_of_beq_eq_true b2
        have b4:off+min m n*i.size<=cs.n:=Nat.le_of_ble_eq_true b4
        have hmn:min m n*i.size<=m*i.size:=Nat.mul_le_mul_right _ (Nat.min_le_left m n)
        rcases hvd with⟨rfl,b,Vf⟩|⟨b,s',cap,hm,Vf,xy,_⟩
        ·rw[Nat.min_zero]at hk0;exact absurd rfl hk0
        ·obtain⟨C,el',vs,hw,_,Ra,hc⟩:=H.row hg hm
         rcases ze with rfl|⟨xb,xs,us,rfl,Ci,po⟩
         ·exfalso
          have hz:m*i.size=0:=b2.symm
          have hp:0<min m n*i.size:=Nat.mul_pos (by omega) b0
          omega
         ·have hul:=Ci.length
          have E8:(us.take (min m n*i.size)).length=min m n*i.size:=by rw[List.length_take];omega
          have aci:(src.take (min m n*i.size)).length=min m n*i.size:=by rw[List.length_take];omega
          have sI:s'+off+(us.take (min m n*i.size)).length<=C.size:=by
           rw[E8]
           have hp:0<min m n*i.size:=Nat.mul_pos (by omega) b0
           have:=bF.qD Ra hc (n:=off+min m n*i.size) (by rw[eO];exact b4) (by omega)
           omega
          have hr:=zf (P:=P) w T T' o.type el i hu hi b (s'+off) n cap ⟨xb,xs,none⟩ m xc C el' (us.take (min m n*i.size)) hw E8 (fun j v e=>by
           rw[List.getElem?_take]at e
           split at e
           ·exact mF po j v e
           ·cases e) sI (fun v hv=>bF.EU Ci b3 v (List.mem_of_mem_take hv))
          obtain⟨E,H'⟩:=zT H (C':=(C.toList.take (s'+off)++us.take (min m n*i.size)++C.toList.drop (s'+off+(us.take (min m n*i.size)).length)).toArray)
           hg hm hw (by simp at sI ⊢;omega) (cs':=cs.put off (tk (Nat.mul (min m n) i.size) src)) (us:=vs.take off++(us.take (min m n*i.size)++vs.drop (off+(us.take (min m n*i.size)).length)))
           (by rw[qy];show bF g w (cs.put off (src.take (min m n*i.size))).toL _;rw[tJ (by rw[aci];exact b4),put_eq,aci,E8];exact(Ra.take _).append ((Ci.take _).append (Ra.drop _)))
           (fun j v e=>G3 hc sI j v e (by have:=Ra.length;rw[eO]at this;omega))
          exact⟨g,_,_,_,hex _ _ _ _ Vf Q3 hr,.inl rfl,E,H',by simp only[VR]⟩
      ·cases e
    ·cases e
   ·cases e
  ·cases e
theorem IX{T el:TypeId}{x y z:Operand}(ho:o.op=.slice T x none (some y) (some z))(hd:P.underlying T=some (.slice el)){i:TypeInfo}(hi:P.info? el=some i):bN P o (xk (wO (aQ x)) (aQ y) (aQ z)):=by
 intro g w nt t h a v h' H Tr e
 unfold xk at e
 split at e
 ·rename_i ky n hy
  split at e
  ·rename_i kz m hz
   obtain⟨h1,h2⟩:=(by
    cases hb:(Nat.beq n 0&&Nat.beq m 0)with
    |false=>rw[hb]at e;cases e
    |true=>rw[Bool.and_eq_true]at hb;exact hb:Nat.beq n 0=true/\Nat.beq m 0=true)
   rw[h1,h2]at e
   simp only[Bool.and_self,cond_true]at e
   obtain rfl:=Nat.eq_of_beq_eq_true h1
   obtain rfl:=Nat.eq_of_beq_eq_true h2
   have wK:=bb y _ _ _ _ _ _ Tr hy
   have hvz:=bb z _ _ _ _ _ _ Tr hz
   simp only[VR]at wK hvz
   have rQ:(sizeOf el).run P w=.ok i.size w:=by simp[sizeOf,typeInfo,hi]
   have ku: ∀ b n c,a.eval x=.slice b n c->(execOp a.eval o).run P w=.ok (.value (.slice b 0 0)) w:=by
    intro b n c hx
    simp[execOp,ho,hx,wK,hvz,Instr.sliceAt,Instr.slice,run_underlying hd,Instr.sliceBounds,Instr.sliceBound,asIntOf,rQ]
   split at e
   ·rename_i hx
    cases e
    have hv:=iU x _ _ _ _ _ _ Tr hx
    simp only[VR]at hv
    obtain⟨b,hv⟩:=hv
    exact⟨rfl,_,ku _ _ _ hv,by simp only[VR];exact⟨_,rfl⟩⟩
   ·rename_i hx
    cases e
    have hv:=iU x _ _ _ _ _ _ Tr hx
    simp only[VR]at hv
    rcases hv with⟨_,b,hv⟩|⟨b,s,cap,_,hv,_⟩
    ·exact⟨rfl,_,ku _ _ _ hv,by simp only[VR];exact⟨_,rfl⟩⟩
    ·exact⟨rfl,_,ku _ _ _ hv,by simp only[VR];exact⟨_,rfl⟩⟩
   ·rename_i hx
    cases e
    have hv:=iU x _ _ _ _ _ _ Tr hx
    simp only[VR]at hv
    obtain⟨b,cap,hv,_⟩:=hv
    exact⟨rfl,_,ku _ _ _ hv,by simp only[VR];exact⟨_,rfl⟩⟩
   ·cases e
  ·cases e
 ·cases e
end
end Go.Ab

noncomputable section
namespace Go.Ab
variable [Io]
def eR(P:Program)(call:cV):Prop:=
 ∀ f args h v h',call f args h=.ok v h'->(∀ as w,(callFunc f as).run P w=.ok (.enter f as) w)/\
  ∀ (g:G) (w:World) (vs:List Value),HR g w h->bF g w args vs->
   Calls P f vs.toArray w fun e w'=> ∃ x g',e=.returned x/\Ext g w h g' w' h'/\HR g' w' h'/\VR g' w' v x
def CO(P:Program)(op:BinOp)(T:TypeId):Option (AV->AV->Option AV):=
 match op with
 | .add=>some bw| .sub=>some fm| .mul=>some ng| .quo=>some GS| .rem=>some Cr
 | .and=>some n8| .or=>some nI| .xor=>some GU| .andNot=>some pg| .shl=>some mB| .shr=>some lJ
 | .lss=>some ba| .leq=>some g5| .gtr=>some fN| .geq=>some fU
 | .eql=>match P.underlying T with
  |some (.int _)=>some (aG false)
  |some .bool=>some (Ay false)
  |some .string=>some (Az false)
  |some (.pointer _)=>some (n6 false)
  |some (.slice _)=>some (nH false)
  |some (.struct _)=>IU P false T
  | _=>none
 | .neq=>match P.underlying T with
  |some (.int _)=>some (aG true)
  |some .bool=>some (Ay true)
  |some .string=>some (Az true)
  |some (.pointer _)=>some (n6 true)
  |some (.slice _)=>some (nH true)
  |some (.struct _)=>IU P true T
  | _=>none
theorem Rb{P:Program}{op:BinOp}{T:TypeId}{f:AV->AV->Option AV}(h:CO P op T=some f):cR P op T f:=by
 unfold CO at h
 cases op<;>simp only at h
 case eql=>
  split at h
  ·cases h;exact Lr T
  ·rename_i hu;cases h;exact QO hu
  ·cases h;exact QQ T
  ·rename_i hu;cases h;exact QS hu
  ·rename_i hu;cases h;exact QU hu
  ·exact Q9 h
  ·cases h
 case neq=>
  split at h
  ·cases h;exact Ls T
  ·rename_i hu;cases h;exact QP hu
  ·cases h;exact QR T
  ·rename_i hu;cases h;exact QT hu
  ·rename_i hu;cases h;exact QV hu
  ·exact Q' h
  ·cases h
 all_goals cases h
 case add=>exact Lc T
 case sub=>exact Ld T
 case mul=>exact Lq T
 case quo=>exact Lp T
 case rem=>exact Lo T
 case and=>exact Le T
 case or=>exact Lg T
 case xor=>exact Lh T
 case shl=>exact Li T
 case shr=>exact Lj T
 case andNot=>exact EY T
 case lss=>exact Lk T
 case leq=>exact Lm T
 case gtr=>exact Ll T
 case geq=>exact Ln T
def W8(op:UnOp):Option (AV->Option AV):=
 match op with
 | .not=>some jP
 | .neg=>some KD
 | .xor=>some Iw
 | .plus=>none
def CP(P:Program)(T:TypeId)(x:Operand):eH:=
 match P.underlying T with
 |some d=>match P.info? T with
  |some i=>bh i.size (j3 d) (aQ x)
  |none=>bI
 |none=>bI
def zV(P:Program)(S D:TypeId)(x:Operand):eH:=
 match P.underlying S with
 |some _=>match P.underlying D with
  |some (.int k)=>eG (bU k) (aQ x)
  | _=>bI
 |none=>bI
def AW(P:Program)(S D:TypeId)(x:Operand):eH:=
 match P.underlying S with
 |some .string=>match P.underlying D with
  |some (.slice e)=>match P.underlying e with
   |some (.int .u8)=>ph (aQ x)
   | _=>bI
  | _=>bI
 |some (.slice _)=>match P.underlying D with
  |some (.slice e)=>match P.underlying e with
   |some (.int .u8)=>iw (Nat.beq S D) (r7 (aQ x)) bI
   | _=>bI
  | _=>bI
 | _=>bI
def mG(P:Program)(T:TypeId)(x:Operand)(n:Nat):eH:=
 match P.underlying T with
 |some (.struct fs)=>match fs[n]? with
  |some f=>match P.info? f.type with
   |some i=>iw (Nat.blt 0 i.size) (ab f.offset (aQ x)) bI
   |none=>bI
  |none=>bI
 | _=>bI
def xA(P:Program)(T:TypeId)(x:Operand)(n:Nat):eH:=
 match P.underlying T with
 |some (.struct fs)=>match fs[n]? with
  |some f=>match P.underlying f.type with
   |some d=>match P.info? f.type with
    |some i=>nN f.offset i.size (j3 d) (aQ x)
    |none=>bI
   |none=>bI
  |none=>bI
 | _=>bI
def mH(P:Program)(T:TypeId)(x y:Operand):eH:=
 match P.underlying T with
 |some (.slice e)=>match P.info? e with
  |some i=>bB i.size (aQ x) (aQ y)
  |none=>bI
 |some (.array n e)=>match P.info? e with
  |some i=>rO n i.size (aQ x) (aQ y)
  |none=>bI
 | _=>bI
def xB(P:Program)(T:TypeId)(x y:Operand):eH:=
 match P.underlying T with
 |some (.array n e)=>match P.underlying e with
  |some d=>match P.info? e with
   |some i=>lA n i.size (j3 d) (aQ x) (aQ y)
   |none=>bI
  |none=>bI
 |some .string=>cu (aQ x) (aQ y)
 | _=>bI
def xC(P:Program)(T:TypeId)(x:Operand)(lo hi:Option Operand):eH:=
 match P.underlying T with
 |some .string=>di (aQ x) (lo.map aQ) (hi.map aQ)
 |some (.slice e)=>match P.info? e with
  |some i=>cZ i.size (aQ x) (lo.map aQ) (hi.map aQ)
  |none=>bI
 |some (.array n e)=>match P.info? e with
  |some i=>iw (Nat.blt 0 i.size) (jX n i.size (aQ x) (lo.map aQ) (hi.map aQ)) bI
  |none=>bI
 | _=>bI
def tT(P:Program)(T:TypeId)(x:Operand)(lo hi:Option Operand)(m:Operand):eH:=
 match lo,hi with
 |none,some y=>match P.underlying T with
  |some (.slice e)=>match P.info? e with
   |some _=>xk (wO (aQ x)) (aQ y) (aQ m)
   |none=>bI
  | _=>bI
 | _,_=>bI
def Lv(P:Program)(T:TypeId)(x:Operand):eH:=
 match P.underlying T with
 |some .string=>jY (aQ x)
 |some (.slice _)=>aX (wO (aQ x))
 |some (.array n _)=>aa (oC (.int .i64 (.ofNat n)))
 | _=>bI
def Lw(P:Program)(T:TypeId)(x:Operand):eH:=
 match P.underlying T with
 |some (.slice _)=>tE (wO (aQ x))
 | _=>bI
def Lx(P:Program)(T:TypeId):eH:=
 match zeroOf P T with
 |some z=>dW z
 |none=>bI
inductive Cl where
 |p0|p1|al|ch
def Ha(P:Program)(call:cV)(c:Call):eH:=
 match c with
 |⟨.builtin .append,args,sJ⟩=>match args.toList,sJ.toList with
  | [s,x],[T,T']=>iw (Nat.beq T T') (wN P T s x) (G7 P T T' s x)
  | _,_=>bI
 |⟨.builtin .copy,args,sJ⟩=>match args.toList,sJ.toList with
  | [d,s],[T,_]=>G9 P T d s
  | _,_=>bI
 |⟨.value (.func f),args,_⟩=>an call f (args.toList.map aQ)
 |⟨.value f,args,_⟩=>iz call (aQ f) (args.toList.map aQ)
 | _=>bI
def jn(P:Program)(c:Call):Option eH:=
 match c with
 |⟨.builtin .len,args,sJ⟩=>match args.toList,sJ.toList with
  | [x],[T]=>some (Lv P T x)
  | _,_=>some bI
 |⟨.builtin .cap,args,sJ⟩=>match args.toList,sJ.toList with
  | [x],[T]=>some (Lw P T x)
  | _,_=>some bI
 |⟨.builtin .min,args,_⟩=>match args.toList with
  | [x,y]=>some (AA (aQ x) (aQ y))
  | _=>some bI
 |⟨.builtin .max,args,_⟩=>match args.toList with
  | [x,y]=>some (AB (aQ x) (aQ y))
  | _=>some bI
 | _=>none
def py(P:Program)(call:cV)(o:Op):Cl×eH:=
 match o with
 | .move x=>(.p0,aa (aQ x))
 | .assign x=>(.p0,aa (aQ x))
 | .pick c x y=>(.p0,aU (aQ c) (aQ x) (aQ y))
 | .alloc T=>(.al,Lx P T)
 | .box _ x=>(.al,ef (aQ x))
 | .build T ps=>(.p0,xx P T ps.toList)
 | .buildSlice T n ps=>(.al,K3 P T n ps.toList)
 | .load T x=>(.p1,CP P T x)
 | .store T x y=>(.ch,AP P T x y)
 | .nilCheck x=>(.p0,bq (aQ x))
 | .binOp op T x y _=>match CO P op T with
  |some f=>(.p0,ah f (aQ x) (aQ y))
  |none=>(.p0,bI)
 | .unOp op _ x=>match W8 op with
  |some f=>(.p0,eG f (aQ x))
  |none=>(.p0,bI)
 | .convert S D x=>match P.underlying D with
  |some (.slice _)=>(.ch,AW P S D x)
  | _=>(.p0,zV P S D x)
 | .makeFunc (.func f) first caps=>match first.toList with
  | []=>(.p0,P5 f (caps.toList.map aQ))
  | _=>(.p0,bI)
 | .makeSlice T l c=>(.al,CG P T l c)
 | .makeMap _ r=>match r with
  |none=>(.ch,Ix)
  |some _=>(.ch,bI)
 | .slice T x lo hi none=>(.p1,xC P T x lo hi)
 | .slice T x lo hi (some m)=>(.p1,tT P T x lo hi m)
 | .fieldAddr T x n=>(.p0,mG P T x n)
 | .field T x n=>(.p0,xA P T x n)
 | .indexAddr T x y=>(.p0,mH P T x y)
 | .index T x y=>(.p0,xB P T x y)
 | .extract x i=>(.p0,aR (aQ x) i)
 | .call c=>match jn P c with
  |some f=>(.p0,f)
  |none=>(.ch,Ha P call c)
 | _=>(.ch,bI)
def AX(P:Program)(o:Oper)(f:eH):Prop:=
 ∀ (g:G) (w:World) (nt:Nat) (t:Tm) (h:Hp) (a:Act) (v:AV) (h':Hp),HR g w h->TR g w nt t a.tmps->f t h=.ok v h'->
  ∀ next Q,(∀ g' w' x,Ext g w h g' w' h'->HR g' w' h'->VR g' w' v x->next (a.put o.dst x) w')->o.wp P a w next Q
section
variable {P:Program}{o:Oper}
theorem mD.ok{f:eH}(h:mD P o f):AX P o f:=by
 intro g w nt t hp a v h' H T e next Q K
 obtain⟨g',w',nx,x,hr,hnx,E,H',hv⟩:=h g w nt t hp a v h' H T e
 unfold Oper.wp
 rw[hr]
 rcases hnx with rfl|⟨rfl,rfl⟩
 ·exact K g' w' x E H' hv
 ·exact K g' w' undef E H' hv
theorem bN.ok{f:eH}(h:bN P o f):AX P o f:=h.run.ok
theorem oe.ok{f:eH}(h:oe P o f):AX P o f:=h.run.ok
theorem vh:AX P o bI:=by intro g w nt t h a v h' _ _ e;cases e
theorem Rd{f:FuncId}{args:Array Operand}{sJ:Array TypeId}{call:cV}(hc:eR P call)(ho:o.op=.call {callee:=.value (.func f),args,argTypes:=sJ}):
 AX P o (an call f (args.toList.map aQ)):=by
 intro g w nt t h a v h' H T e next Q K
 unfold an at e
 split at e
 ·rename_i vs eI
  obtain⟨hen,zW⟩:=hc f vs h v h' e
  have hv:=wJ T args.toList eI
  have hr:(execOp a.eval o).run P w=.ok (.enter f (args.map a.eval)) w:=by
   simp[execOp,ho,resolve,Act.eval,Deferred.ofValue,invoke,hen]
  unfold Oper.wp
  rw[hr,Oper.upon_enter]
  have:=zW g w (args.toList.map a.eval) H hv
  rw[show(args.toList.map a.eval).toArray=args.map a.eval from by rw[<-Array.toList_map,Array.toArray_toList]]at this
  refine this.mono ?_
  rintro e w' ⟨x,g',rfl,E,H',hx⟩
  exact K g' w' x E H' hx
 ·cases e
theorem Ly{f:Operand}{args:Array Operand}{sJ:Array TypeId}{call:cV}(hc:eR P call)(ho:o.op=.call {callee:=.value f,args,argTypes:=sJ}):
 AX P o (iz call (aQ f) (args.toList.map aQ)):=by
 intro g w nt t h a v h' H T e next Q K
 unfold iz at e
 split at e
 ·rename_i k cap hf
  split at e
  ·rename_i vs eI
   have hfv:=bb f _ _ _ _ _ _ T hf
   simp only[VR]at hfv
   obtain⟨caps,hfe,ack⟩:=hfv
   obtain⟨hen,zW⟩:=hc k _ h v h' e
   have hv:=wJ T args.toList eI
   have hr:(execOp a.eval o).run P w=.ok (.enter k (args.map a.eval++caps)) w:=by
    simp[execOp,ho,resolve,hfe,Deferred.ofValue,invoke,hen]
   unfold Oper.wp
   rw[hr,Oper.upon_enter]
   rw[bp]at zW
   have:=zW g w (args.toList.map a.eval++caps.toList) H (hv.append ack)
   rw[show(args.toList.map a.eval++caps.toList).toArray=args.map a.eval++caps from by rw[<-Array.toList_map,<-Array.toList_append,Array.toArray_toList]]at this
   refine this.mono ?_
   rintro e w' ⟨x,g',rfl,E,H',hx⟩
   exact K g' w' x E H' hx
  ·cases e
 ·cases e
end
end Go.Ab

noncomputable section
namespace Go.Ab
variable [Io]
section
variable {P:Program}{o:Oper}{call:cV}
theorem Fi{T:TypeId}{x:Operand}(ho:o.op=.load T x):bN P o (CP P T x):=by
 unfold CP
 split
 ·rename_i d hd
  split
  ·rename_i i hi;exact ID ho hd hi
  ·exact bC
 ·exact bC
theorem xD{S D:TypeId}{x:Operand}(ho:o.op=.convert S D x):bN P o (zV P S D x):=by
 unfold zV
 split
 ·rename_i d hd
  split
  ·rename_i k hk;exact Fh ho hd hk
  ·exact bC
 ·exact bC
theorem Fj{S D:TypeId}{x:Operand}(ho:o.op=.convert S D x):mD P o (AW P S D x):=by
 unfold AW
 split
 ·rename_i hS
  split
  ·rename_i e hD
   split
   ·rename_i he;exact Fg ho hS hD he
   ·exact bC.run
  ·exact bC.run
 ·split
  ·rename_i e hD
   split
   ·rename_i he
    cases h:Nat.beq S D with
    |true=>
     obtain rfl:=Nat.eq_of_beq_eq_true h
     exact IP ho hD he
    |false=>exact bC.run
   ·exact bC.run
  ·exact bC.run
 ·exact bC.run
theorem CQ{c:Bool}{f:eH}(h:c=true->bN P o f):bN P o (iw c f bI):=by
 cases c with
 |true=>exact h rfl
 |false=>exact bC
theorem wm{T:TypeId}{x:Operand}{n:Nat}(ho:o.op=.fieldAddr T x n):bN P o (mG P T x n):=by
 unfold mG
 split
 ·rename_i fs hd
  split
  ·rename_i f hf
   split
   ·rename_i i hi
    exact CQ fun h=>xu ho hd hf hi (by have:=bH.1 h;omega)
   ·exact bC
  ·exact bC
 ·exact bC
theorem CR{T:TypeId}{x:Operand}{n:Nat}(ho:o.op=.field T x n):bN P o (xA P T x n):=by
 unfold xA
 split
 ·rename_i fs hd
  split
  ·rename_i f hf
   split
   ·rename_i d G2
    split
    ·rename_i i hi
     exact EZ ho hd hf G2 hi
    ·exact bC
   ·exact bC
  ·exact bC
 ·exact bC
theorem wo{T:TypeId}{x y:Operand}(ho:o.op=.indexAddr T x y):bN P o (mH P T x y):=by
 unfold mH
 split
 ·rename_i e hd
  split
  ·rename_i i hi;exact KT ho hd hi
  ·exact bC
 ·rename_i n e hd
  split
  ·rename_i i hi;exact KU ho hd hi
  ·exact bC
 ·exact bC
theorem CS{T:TypeId}{x y:Operand}(ho:o.op=.index T x y):bN P o (xB P T x y):=by
 unfold xB
 split
 ·rename_i n e hd
  split
  ·rename_i d G2
   split
   ·rename_i i hi;exact E5 ho hd G2 hi
   ·exact bC
  ·exact bC
 ·rename_i hd;exact CA ho hd
 ·exact bC
theorem AY{T:TypeId}{x:Operand}{lo hi:Option Operand}{m:Operand}(ho:o.op=.slice T x lo hi (some m)):bN P o (tT P T x lo hi m):=by
 unfold tT
 split
 ·split
  ·rename_i e hd
   split
   ·rename_i i hi;exact IX ho hd hi
   ·exact bC
  ·exact bC
 ·exact bC
theorem CT{T:TypeId}{x:Operand}{lo hi:Option Operand}(ho:o.op=.slice T x lo hi none):bN P o (xC P T x lo hi):=by
 unfold xC
 split
 ·rename_i hd;exact CB ho hd
 ·rename_i e hd
  split
  ·rename_i i hi;exact CC ho hd hi
  ·exact bC
 ·rename_i n e hd
  split
  ·rename_i i hi;exact CQ fun h=>CD ho hd hi (by have:=bH.1 h;omega)
  ·exact bC
 ·exact bC
theorem IY{T:TypeId}{x:Operand}(ho:o.op=.call {callee:=.builtin .cap,args:= #[x],argTypes:= #[T]}):bN P o (Lw P T x):=by
 unfold Lw
 split
 ·rename_i hd;exact KS ho hd
 ·exact bC
theorem IZ{T:TypeId}{x:Operand}(ho:o.op=.call {callee:=.builtin .len,args:= #[x],argTypes:= #[T]}):bN P o (Lv P T x):=by
 unfold Lv
 split
 ·rename_i hd;exact IB ho hd
 ·rename_i e hd;exact KR ho hd
 ·rename_i n e hd;exact IC ho hd
 ·exact bC
theorem Re:oe P o bI:=by intro g w nt t h a v h' _ _ e;cases e
theorem Lz{T:TypeId}(ho:o.op=.alloc T):oe P o (Lx P T):=by
 unfold Lx
 split
 ·rename_i z hz;exact KY ho hz
 ·exact Re
theorem LA{op:UnOp}{T:TypeId}{x:Operand}{f:AV->Option AV}(ho:o.op=.unOp op T x)(h:W8 op=some f):bN P o (eG f (aQ x)):=by
 cases op<;>cases h
 ·exact KP ho
 ·exact KQ ho
 ·exact KM ho
omit [Io] in
theorem Rf{α:Type}{a:Array α}{x:α}(h:a.toList=[x]):a= #[x]:=by
 rw[<-Array.toArray_toList (xs:=a),h]
omit [Io] in
theorem I0{α:Type}{a:Array α}{x y:α}(h:a.toList=[x,y]):a= #[x,y]:=by
 rw[<-Array.toArray_toList (xs:=a),h]
theorem zg{c:Call}{f:eH}(ho:o.op=.call c)(h:jn P c=some f):bN P o f:=by
 unfold jn at h
 split at h
 ·rename_i args sJ
  split at h
  ·rename_i x T h1 h2
   cases h
   rw[Rf h1,Rf h2]at ho
   exact IZ ho
  ·cases h;exact bC
 ·rename_i args sJ
  split at h
  ·rename_i x T h1 h2
   cases h
   rw[Rf h1,Rf h2]at ho
   exact IY ho
  ·cases h;exact bC
 ·rename_i args sJ
  split at h
  ·rename_i x y h1
   cases h
   rw[I0 h1]at ho
   exact Lt ho
  ·cases h;exact bC
 ·rename_i args sJ
  split at h
  ·rename_i x y h1
   cases h
   rw[I0 h1]at ho
   exact Lu ho
  ·cases h;exact bC
 ·cases h
theorem LC(hc:eR P call){c:Call}(ho:o.op=.call c):AX P o (Ha P call c):=by
 unfold Ha
 split
 ·rename_i args sJ
  split
  ·rename_i s x T T' h1 h2
   rw[I0 h1,I0 h2]at ho
   cases h:Nat.beq T T' with
   |true=>
    obtain rfl:=Nat.eq_of_beq_eq_true h
    exact(CK ho).ok
   |false=>exact(IL ho).ok
  ·exact vh
 ·rename_i args sJ
  split
  ·rename_i d s T T' h1 h2
   rw[I0 h1,I0 h2]at ho
   exact(IW ho).ok
  ·exact vh
 ·exact Rd hc ho
 ·exact Ly hc ho
 ·exact vh
theorem AZ(hc:eR P call):match py P call o.op with
 |(.p0,f)=>bN P o f
 |(.p1,f)=>bN P o f
 |(.al,f)=>oe P o f
 |(.ch,f)=>AX P o f:=by
 cases ho:o.op<;>simp only[py]
 case move x=>exact zM (.inl ho)
 case assign x=>exact zM (.inr ho)
 case pick c x y=>exact IA ho
 case alloc T=>exact Lz ho
 case box T x=>exact KZ ho
 case build T ps=>exact E7 ho
 case buildSlice T n ps=>exact K4 ho
 case load T x=>exact Fi ho
 case store T x y=>exact(Fa ho).ok
 case nilCheck x=>exact pure_nil ho
 case binOp op T x y yT=>
  cases h:CO P op T with
  |some f=>exact KI ho (Rb h)
  |none=>exact bC
 case unOp op T x=>
  cases h:W8 op with
  |some f=>exact LA ho h
  |none=>exact bC
 case convert S D x=>
  cases h:P.underlying D with
  |none=>exact xD ho
  |some d=>cases d<;>first|exact xD ho|exact(Fj ho).ok
 case makeFunc f first caps=>
  cases f<;>try exact vh
  rename_i f
  simp only
  cases h:first.toList with
  |nil=>
   have:first= #[]:=by rw[<-Array.toArray_toList (xs:=first),h]
   subst this
   exact QW ho
  |cons a l=>exact bC
 case makeSlice T l c=>exact IE ho
 case makeMap T r=>cases r with
  |none=>exact(K' ho).ok
  |some _=>exact vh
 case slice T x lo hi mx=>
  cases mx with
  |none=>exact CT ho
  |some m=>exact AY ho
 case fieldAddr T x n=>exact wm ho
 case field T x n=>exact CR ho
 case indexAddr T x y=>exact wo ho
 case index T x y=>exact CS ho
 case extract x i=>exact AN ho
 case call c=>
  cases h:jn P c with
  |some f=>exact zg ho h
  |none=>exact LC hc ho
 all_goals exact vh
theorem LD(hc:eR P call):AX P o (py P call o.op).2:=by
 have:=AZ (o:=o) hc
 cases h:py P call o.op with
 |mk c f=>
  rw[h]at this
  cases c
  ·exact bN.ok this
  ·exact bN.ok this
  ·exact oe.ok this
  ·exact this
def gF(j:eN)(want:Bool)(f:eH):eH:=fun t h=>match j t with
 |some (.bool b)=>iw (iw want b (!b)) (f t h) (.ok gV h)
 |some (.wg [])=>.ok gV h
 | _=>.bad
def lr(P:Program)(call:cV)(nt:Nat)(all:List Oper)(o:Oper):eH:=
 match o.guard with
 |none=>(py P call o.op).2
 |some (j,want)=>match lz all j with
  |some oj=>match oj.dst with
   |some d=>iw (Nat.blt d nt) (gF (oT d) want (py P call o.op).2) bI
   |none=>bI
  |none=>bI
def lP(P:Program)(call:cV)(nt:Nat)(all l:List Oper):na:=
 List.rec fi (fun o _ ih=>match o.dst with
  |some d=>iw (Nat.blt d nt) (st (sT d) (lr P call nt all o) ih) (fun _ _=>.bad)
  |none=>sn (lr P call nt all o) ih) l
theorem A0(hc:eR P call){ops:Array Oper}{i:Nat}(hi:ops[i]? =some o){g w nt t h}{a:Act}{v:AV}{h':Hp}(H:HR g w h)(T:TR g w nt t a.tmps)
 (e:lr P call nt ops.toList o t h=.ok v h'){Q:Exit->Act->World->Prop}{rest:List Nat}
 (K: ∀ g' w' x,Ext g w h g' w' h'->HR g' w' h'->VR g' w' v x->wpOps P ops Q rest (a.put o.dst x) w'):wpOps P ops Q (i::rest) a w:=by
 rw[wpOps,hi]
 simp only
 unfold lr at e
 cases hg:o.guard with
 |none=>
  rw[hg]at e
  rw[if_pos (by simp[Region.wanted,hg])]
  exact .inl (LD hc g w nt t h a v h' H T e _ _ K)
 |some p=>
  obtain⟨j,want⟩:=p
  rw[hg]at e
  simp only[gK]at e
  cases hj:ops.toList[j]? with
  |none=>simp only[hj]at e;cases e
  |some oj=>
  simp only[hj]at e
  cases hd:oj.dst with
  |none=>simp only[hd]at e;cases e
  |some d=>
  simp only[hd]at e
  cases hb:Nat.blt d nt with
  |false=>simp only[hb]at e;cases e
  |true=>
  simp only[hb]at e
  have Kk:=bH.1 hb
  change gF (oT d) want (py P call o.op).2 t h=.ok v h' at e
  have hj':ops[j]? =some oj:=by simpa using hj
  have rQ:=T.2.1
  have hy: ∀ y,a.tmps.getD d undef=y->yielded ops a.tmps j=match y with| .bool b=>some b| _=>none:=by
   intro y hy
   have:a.tmps[d]? =some y:=by
    rw[Array.getD_eq_getD_getElem?]at hy
    rw[Array.getElem?_eq_getElem (by omega)]at hy ⊢
    simpa using hy
   simp[yielded,hj',hd,this]
   cases y<;>rfl
  unfold gF at e
  split at e
  ·rename_i b CI
   have hv:=(T.2.2 d _ (by have:=T.1;omega) CI).2
   simp only[VR]at hv
   have Rg:=hy _ hv
   cases Rh:(iw want b (!b))with
   |true=>
    rw[Rh]at e
    have:b=want:=by cases want<;>cases b<;>simp[iw]at Rh<;>rfl
    rw[if_pos (by simp[Region.wanted,hg,Rg,this])]
    exact .inl (LD hc g w nt t h a v h' H T e _ _ K)
   |false=>
    rw[Rh]at e
    have:b≠want:=by cases want<;>cases b<;>simp[iw]at Rh<;>simp
    rw[if_neg (by simp[Region.wanted,hg,Rg,this])]
    cases e
    exact K g w undef (Ext.refl _ _ _) H (by simp only[gV,VR];exact⟨_,rfl,by simp[bF]⟩)
  ·rename_i CI
   have hv:=(T.2.2 d _ (by have:=T.1;omega) CI).2
   simp only[VR]at hv
   obtain⟨vs,hv,eI⟩:=hv
   have Rg:=hy _ hv
   rw[if_neg (by simp[Region.wanted,hg,Rg])]
   cases e
   exact K g w undef (Ext.refl _ _ _) H (by simp only[gV,VR];exact⟨_,rfl,by simp[bF]⟩)
  ·cases e
end
end Go.Ab

noncomputable section
namespace Go.Ab
variable [Io]
section
variable {P:Program}{call:cV}
def og(g:G)(w:World)(h:Hp)(nt:Nat)(t':Tm)(h':Hp)(R:Act->World->Prop):Prop:=
 ∀ g' w' a',Ext g w h g' w' h'->HR g' w' h'->TR g' w' nt t' a'.tmps->a'.defers=[]->R a' w'
theorem og.then{g w h nt h1 g1 w1 t2 h2}{R:Act->World->Prop}(E:Ext g w h g1 w1 h1)(K:og g w h nt t2 h2 R):og g1 w1 h1 nt t2 h2 R:=
 fun g' w' a' E' H' T' D'=>K g' w' a' (E.trans E') H' T' D'
def Ri(P:Program)(nt:Nat)(c:Code)(r:na):Prop:=
 ∀ (g:G) (w:World) (t:Tm) (h:Hp) (a:Act) (t':Tm) (h':Hp),HR g w h->TR g w nt t a.tmps->a.defers=[]->r t h=.ok t' h'->
  ∀ Q:Exit->Act->World->Prop,og g w h nt t' h' (Q .normal)->c.wp P Q a w
theorem Rj{g w nt t}{a:Act}{d:Nat}{v:AV}{x:Value}(T:TR g w nt t a.tmps)(hd:d<nt)(hv:VR g w v x):TR g w nt (sT d v t) (a.put (some d) x).tmps:=
 T.put hd hv
theorem LF(hc:eR P call){nt:Nat}(ops:Array Oper): ∀ (l pre:List Oper),ops.toList=pre++l-> ∀ (g:G) (w:World) (t:Tm) (h:Hp) (a:Act) (t':Tm) (h':Hp),
 HR g w h->TR g w nt t a.tmps->a.defers=[]->lP P call nt ops.toList l t h=.ok t' h'-> ∀ Q:Exit->Act->World->Prop,og g w h nt t' h' (Q .normal)->
  wpOps P ops Q (List.range' pre.length l.length) a w
 | [],pre,_,g,w,t,h,a,t',h',H,T,D,e,Q,K=>by
  cases e
  exact K g w a (Ext.refl _ _ _) H T D
 |o::l,pre,hl,g,w,t,h,a,t',h',H,T,D,e,Q,K=>by
  have hi:ops[pre.length]? =some o:=by
   have:ops.toList[pre.length]? =some o:=by rw[hl];simp
   simpa using this
  have ih:=LF hc (nt:=nt) ops l (pre++[o]) (by simp[hl])
  simp only[List.length_append,List.length_cons,List.length_nil,Nat.zero_add]at ih
  rw[List.length_cons,List.range'_succ]
  change (match o.dst with
   |some d=>iw (Nat.blt d nt) (st (sT d) (lr P call nt ops.toList o) (lP P call nt ops.toList l)) (fun _ _=>.bad)
   |none=>sn (lr P call nt ops.toList o) (lP P call nt ops.toList l)) t h=.ok t' h' at e
  cases hd:o.dst with
  |none=>
   simp only[hd]at e
   unfold sn at e
   cases hg:lr P call nt ops.toList o t h with
   |bad=>rw[hg]at e;cases e
   |ok v h1=>
    rw[hg]at e
    refine A0 hc hi H T hg fun g1 w1 x E H1 hv=>?_
    rw[hd]
    exact ih g1 w1 t h1 a t' h' H1 (T.mono H E) D e Q (og.then E K)
  |some d=>
   simp only[hd]at e
   cases hb:Nat.blt d nt with
   |false=>simp only[hb]at e;cases e
   |true=>
    simp only[hb]at e
    change st (sT d) (lr P call nt ops.toList o) (lP P call nt ops.toList l) t h=.ok t' h' at e
    unfold st at e
    cases hg:lr P call nt ops.toList o t h with
    |bad=>rw[hg]at e;cases e
    |ok v h1=>
     rw[hg]at e
     refine A0 hc hi H T hg fun g1 w1 x E H1 hv=>?_
     rw[hd]
     exact ih g1 w1 (sT d v t) h1 (a.put (some d) x) t' h' H1 (Rj (T.mono H E) (bH.1 hb) hv) D e Q (og.then E K)
theorem I1(hc:eR P call){nt:Nat}(id:Nat)(ops:Array Oper):Ri P nt (.region id ops false) (lP P call nt ops.toList ops.toList):=by
 intro g w t h a t' h' H T D e Q K
 refine wp_region ?_
 have:=LF hc ops ops.toList [] rfl g w t h a t' h' H T D e Q K
 rw[List.range_eq_range']
 simpa using this
def I2(P:Program)(nt:Nat)(c:Code)(f:yY):Prop:=
 ∀ (g:G) (w:World) (t:Tm) (h:Hp) (a:Act) (Q:Exit->Act->World->Prop),HR g w h->TR g w nt t a.tmps->a.defers=[]->
  match f t h with
  | .bad=>True
  | .norm t' h'=>og g w h nt t' h' (Q .normal)->c.wp P Q a w
  | .ret t' h'=>og g w h nt t' h' (Q .ret)->c.wp P Q a w
  | .exit i t' h'=>og g w h nt t' h' (Q (.exit i))->c.wp P Q a w
def gR(P:Program)(draw:Array Oper->na)(call:cV)(n nt:Nat)(c:Code):yY:=
 Code.rec (motive:=fun _=>yY) bT
  (fun _ ops d=>ai (Bool.rec (lP P call nt ops.toList ops.toList) (draw ops) d))
  (fun _ _ ia ib=>af ia ib)
  (fun c _ _ ia ib=>bt (aQ c) ia ib)
  (fun id _ ib=>dm id ib)
  (fun _ ib=>iQ n ib)
  (fun _ _ _ _ _ _=>Ct)
  (fun i=>jh i)
  (fun _ _=>Ct)
  (fun _=>Ct)
  (fun _=>Ct)
  cF
  (fun _=>Ct) c
theorem xE{nt:Nat}{c:Code}:I2 P nt c Ct:=by
 intro g w t h a Q H T D
 exact trivial
theorem A1(hc:eR P call){draw:Array Oper->na}{nt:Nat}(hd: ∀ id ops,Ri P nt (.region id ops true) (draw ops))(n:Nat): ∀ c,I2 P nt c (gR P draw call n nt c):=by
 intro c
 induction c with
 |skip=>
  intro g w t h a Q H T D K
  exact wp_skip (K g w a (Ext.refl _ _ _) H T D)
 |region id ops d=>
  intro g w t h a Q H T D
  have key:Ri P nt (.region id ops d) (Bool.rec (lP P call nt ops.toList ops.toList) (draw ops) d):=by
   cases d with
   |false=>exact I1 hc id ops
   |true=>exact hd id ops
  show match ai (Bool.rec (lP P call nt ops.toList ops.toList) (draw ops) d) t h with| .bad=>_| .norm _ _=>_| .ret _ _=>_| .exit _ _ _=>_
  unfold ai
  cases e:(Bool.rec (lP P call nt ops.toList ops.toList) (draw ops) d:na) t h with
  |bad=>exact trivial
  |ok t' h'=>exact fun K=>key g w t h a t' h' H T D e Q K
 |seq x y hx hy=>
  intro g w t h a Q H T D
  show match af (gR P draw call n nt x) (gR P draw call n nt y) t h with| .bad=>_| .norm _ _=>_| .ret _ _=>_| .exit _ _ _=>_
  unfold af
  have h1:=hx g w t h a (Exit.then (y.wp P Q) Q) H T D
  cases e:gR P draw call n nt x t h with
  |bad=>exact trivial
  |ret t1 n5=>rw[e]at h1;exact fun K=>wp_seq (h1 K)
  |exit i t1 n5=>rw[e]at h1;exact fun K=>wp_seq (h1 K)
  |norm t1 n5=>
   rw[e]at h1
   show match gR P draw call n nt y t1 n5 with| .bad=>_| .norm _ _=>_| .ret _ _=>_| .exit _ _ _=>_
   cases e2:gR P draw call n nt y t1 n5 with
   |bad=>exact trivial
   |norm t2 h2=>
    intro K
    refine wp_seq (h1 fun g1 w1 a1 E1 H1 T1 D1=>?_)
    have:=hy g1 w1 t1 n5 a1 Q H1 T1 D1
    rw[e2]at this
    exact this (og.then E1 K)
   |ret t2 h2=>
    intro K
    refine wp_seq (h1 fun g1 w1 a1 E1 H1 T1 D1=>?_)
    have:=hy g1 w1 t1 n5 a1 Q H1 T1 D1
    rw[e2]at this
    exact this (og.then E1 K)
   |exit i t2 h2=>
    intro K
    refine wp_seq (h1 fun g1 w1 a1 E1 H1 T1 D1=>?_)
    have:=hy g1 w1 t1 n5 a1 Q H1 T1 D1
    rw[e2]at this
    exact this (og.then E1 K)
 |cond c x y hx hy=>
  intro g w t h a Q H T D
  show match bt (aQ c) (gR P draw call n nt x) (gR P draw call n nt y) t h with| .bad=>_| .norm _ _=>_| .ret _ _=>_| .exit _ _ _=>_
  unfold bt
  cases gD:aQ c t with
  |none=>exact trivial
  |some v=>
   cases v<;>try exact trivial
   rename_i b
   have hv:=bb c _ _ _ _ _ _ T gD
   simp only[VR]at hv
   cases b with
   |true=>
    have:=hx g w t h a Q H T D
    show match gR P draw call n nt x t h with| .bad=>_| .norm _ _=>_| .ret _ _=>_| .exit _ _ _=>_
    cases e:gR P draw call n nt x t h<;>rw[e]at this
    ·exact trivial
    all_goals exact fun K=>wp_cond_true hv (this K)
   |false=>
    have:=hy g w t h a Q H T D
    show match gR P draw call n nt y t h with| .bad=>_| .norm _ _=>_| .ret _ _=>_| .exit _ _ _=>_
    cases e:gR P draw call n nt y t h<;>rw[e]at this
    ·exact trivial
    all_goals exact fun K=>wp_cond_false hv (this K)
 |block id x hx=>
  intro g w t h a Q H T D
  show match dm id (gR P draw call n nt x) t h with| .bad=>_| .norm _ _=>_| .ret _ _=>_| .exit _ _ _=>_
  unfold dm
  have:=hx g w t h a (Exit.inBlock id Q) H T D
  cases e:gR P draw call n nt x t h<;>rw[e]at this
  ·exact trivial
  ·exact fun K=>wp_block (this K)
  ·exact fun K=>wp_block (this K)
  ·rename_i i t1 h1
   show match(Bool.rec (Rc.exit i t1 h1) (Rc.norm t1 h1) (Nat.beq i id):Rc)with| .bad=>_| .norm _ _=>_| .ret _ _=>_| .exit _ _ _=>_
   cases hb:Nat.beq i id with
   |true=>
    obtain rfl:=Nat.eq_of_beq_eq_true hb
    exact fun K=>wp_block (this fun g' w' a' E' H' T' D'=>by
     show Exit.inBlock i Q (.exit i) a' w'
     simp only[Exit.inBlock,if_true]
     exact K g' w' a' E' H' T' D')
   |false=>
    have jQ:i≠id:=fun k=>by rw[k,Nat.beq_refl]at hb;cases hb
    exact fun K=>wp_block (this fun g' w' a' E' H' T' D'=>by
     show Exit.inBlock id Q (.exit i) a' w'
     simp only[Exit.inBlock,if_neg jQ]
     exact K g' w' a' E' H' T' D')
 |loop x hx=>
  intro g w t h a Q H T D
  show match iQ n (gR P draw call n nt x) t h with| .bad=>_| .norm _ _=>_| .ret _ _=>_| .exit _ _ _=>_
  have key: ∀ m,∀ (g:G) (w:World) (t:Tm) (h:Hp) (a:Act),HR g w h->TR g w nt t a.tmps->a.defers=[]->
   match iQ m (gR P draw call n nt x) t h with
   | .bad=>True
   | .norm t' h'=>og g w h nt t' h' (Q .normal)->Code.rounds P x Q m a w
   | .ret t' h'=>og g w h nt t' h' (Q .ret)->Code.rounds P x Q m a w
   | .exit i t' h'=>og g w h nt t' h' (Q (.exit i))->Code.rounds P x Q m a w:=by
   intro m
   induction m with
   |zero=>intro g w t h a H T D;exact trivial
   |succ m ih=>
    intro g w t h a H T D
    have h1:=hx g w t h a (Exit.then (Code.rounds P x Q m) Q) H T D
    show match(Rc.rec Rc.bad (fun t h=>iQ m (gR P draw call n nt x) t h) (fun t h=>Rc.ret t h) (fun i t h=>Rc.exit i t h) (gR P draw call n nt x t h):Rc)with
     | .bad=>_| .norm _ _=>_| .ret _ _=>_| .exit _ _ _=>_
    cases e:gR P draw call n nt x t h with
    |bad=>exact trivial
    |ret t1 n5=>rw[e]at h1;exact fun K=>h1 K
    |exit i t1 n5=>rw[e]at h1;exact fun K=>h1 K
    |norm t1 n5=>
     rw[e]at h1
     show match iQ m (gR P draw call n nt x) t1 n5 with| .bad=>_| .norm _ _=>_| .ret _ _=>_| .exit _ _ _=>_
     cases e2:iQ m (gR P draw call n nt x) t1 n5 with
     |bad=>exact trivial
     |norm t2 h2=>
      intro K
      refine h1 fun g1 w1 a1 E1 H1 T1 D1=>?_
      have:=ih g1 w1 t1 n5 a1 H1 T1 D1
      rw[e2]at this
      exact this (og.then E1 K)
     |ret t2 h2=>
      intro K
      refine h1 fun g1 w1 a1 E1 H1 T1 D1=>?_
      have:=ih g1 w1 t1 n5 a1 H1 T1 D1
      rw[e2]at this
      exact this (og.then E1 K)
     |exit i t2 h2=>
      intro K
      refine h1 fun g1 w1 a1 E1 H1 T1 D1=>?_
      have:=ih g1 w1 t1 n5 a1 H1 T1 D1
      rw[e2]at this
      exact this (og.then E1 K)
  have:=key n g w t h a H T D
  cases e:iQ n (gR P draw call n nt x) t h<;>rw[e]at this
  ·exact trivial
  all_goals exact fun K=>wp_loop_rounds n (this K)
 |rangeFunc f ps x y _ _=>exact xE
 |exit i=>
  intro g w t h a Q H T D K
  exact wp_exit (K g w a (Ext.refl _ _ _) H T D)
 |scope x _=>exact xE
 |label l=>exact xE
 |goto l=>exact xE
 |ret=>
  intro g w t h a Q H T D K
  exact wp_ret (K g w a (Ext.refl _ _ _) H T D)
 |refuse s=>exact xE
end
end Go.Ab

noncomputable section
namespace Go.Ab
variable [Io]
section
variable {P:Program}
def cRV(P:Program)(nt:Nat):ResultVar->Option RV
 | .tmp i=>iw (Nat.blt i nt) (some (.tmp i)) none
 | .cell i T=>match P.underlying T with
  |some d=>match P.info? T with
   |some ti=>iw (Nat.blt i nt) (some (.cell i ti.size (j3 d))) none
   |none=>none
  |none=>none
def LG(P:Program)(nt:Nat)(l:List ResultVar):Option (List RV):=
 List.rec (some []) (fun r _ ih=>match cRV P nt r with
  |some v=>match ih with
   |some vs=>some (v::vs)
   |none=>none
  |none=>none) l
def xF(tmps:Array Value):ResultVar->Sem Value
 | .tmp t=>pure (tmps.getD t undef)
 | .cell a t=>do loadVar t (<-asAddr (tmps.getD a undef))
theorem Rk{g w nt t h}{tmps:Array Value}(H:HR g w h)(T:TR g w nt t tmps){r:ResultVar}{rv:RV}{v:AV}(hr:cRV P nt r=some rv)(e:KE t h rv=some v):
 ∃ x,(xF tmps r).run P w=.ok x w/\VR g w v x:=by
 cases r with
 |tmp i=>
  change iw (Nat.blt i nt) (some (RV.tmp i)) none=some rv at hr
  cases hb:Nat.blt i nt with
  |false=>rw[hb]at hr;cases hr
  |true=>
   rw[hb]at hr
   cases hr
   exact⟨_,rfl,(T.2.2 i v (by have:=T.1;have:=bH.1 hb;omega) e).2⟩
 |cell i ty=>
  unfold cRV at hr
  cases hd:P.underlying ty with
  |none=>simp only[hd]at hr;cases hr
  |some d=>
  simp only[hd]at hr
  cases hi:P.info? ty with
  |none=>simp only[hi]at hr;cases hr
  |some ti=>
  simp only[hi]at hr
  cases hb:Nat.blt i nt with
  |false=>rw[hb]at hr;cases hr
  |true=>
   rw[hb]at hr
   cases hr
   have Hb: @LT.lt Nat _ i 512:=by have:=T.1;have:=bH.1 hb;omega
   change (match t.at i with|some a=>xj h ti.size (j3 d) a|none=>none)=some v at e
   split at e
   ·rename_i a ha
    have hv:=(T.2.2 i a Hb ha).2
    unfold xj at e
    split at e
    ·rename_i id off
     split at e
     ·rename_i cs hg
      simp only[VR]at hv
      obtain⟨b,s,hm,hv⟩:=hv
      obtain⟨C,el,vs,hw,_,eI,hc⟩:=H.row hg hm
      obtain⟨z,hz,hr⟩:=nq hd hi eI (jJ hw hc) (xm e)
      exact⟨z,by simp only[xF,hv,asAddr,Sem.run_bind,Sem.run_pure,Result.andThen_ok,hz],hr⟩
     ·cases e
    ·rename_i cs
     simp only[VR]at hv
     obtain⟨b,s,vs,hv,_,hc,eI⟩:=hv
     obtain⟨z,hz,hr⟩:=nq hd hi eI hc e
     rw[Nat.add_zero]at hz
     exact⟨z,by simp only[xF,hv,asAddr,Sem.run_bind,Sem.run_pure,Result.andThen_ok,hz],hr⟩
    ·cases e
   ·cases e
theorem CU{g w nt t h}{tmps:Array Value}(H:HR g w h)(T:TR g w nt t tmps): ∀ (l:List ResultVar) {Rl:List RV} {vs:List AV},LG P nt l=some Rl->zK t h Rl=some vs->
 ∃ xs,(l.mapM (xF tmps)).run P w=.ok xs w/\bF g w vs xs
 | [],Rl,vs,h1,h2=>by
  cases h1
  cases h2
  exact⟨[],by simp,by simp[bF]⟩
 |r::l,Rl,vs,h1,h2=>by
  change (match cRV P nt r with|some v=>(match LG P nt l with|some vs=>some (v::vs)|none=>none)|none=>none)=some Rl at h1
  split at h1
  ·rename_i rv LH
   split at h1
   ·rename_i rl hrl
    cases h1
    change (match KE t h rv with|some v=>(match zK t h rl with|some vs=>some (v::vs)|none=>none)|none=>none)=some vs at h2
    split at h2
    ·rename_i v hv
     split at h2
     ·rename_i us hu
      cases h2
      obtain⟨x,hx,LJ⟩:=Rk H T LH hv
      obtain⟨xs,W6,ahZ⟩:=CU H T l hrl hu
      refine⟨x::xs,?_,by simp only[bF];exact⟨x,xs,rfl,LJ,ahZ⟩⟩
      simp only[List.mapM_cons,Sem.run_bind,hx,W6,Result.andThen_ok,Sem.run_pure]
     ·cases h2
    ·cases h2
   ·cases h1
  ·cases h1
theorem W9{g w nt t h}{tmps:Array Value}{F:Func}{Rl:List RV}{v:AV}{h':Hp}(H:HR g w h)(T:TR g w nt t tmps)(hr:LG P nt F.results.toList=some Rl)(e:fin Rl t h=.ok v h'):
 h'=h/\ ∃ x,(results F tmps).run P w=.ok x w/\VR g w v x:=by
 have key: ∀ vs,zK t h Rl=some vs-> ∃ xs:List Value,(results F tmps).run P w=.ok (if h:xs.toArray.size=1 then xs.toArray[0]else .tuple xs.toArray) w/\bF g w vs xs:=by
  intro vs eI
  obtain⟨xs,W6,hv⟩:=CU H T F.results.toList hr eI
  refine⟨xs,?_,hv⟩
  show((F.results.mapM (xF tmps)>>=fun vs=>(pure (if h:vs.size=1 then vs[0]else .tuple vs):Sem Value))).run P w=_
  rw[Array.mapM_eq_mapM_toList]
  simp only[Sem.run_bind,Sem.run_map,W6,Result.andThen_ok,Sem.run_pure]
 unfold fin at e
 split at e
 ·rename_i v1 eI
  cases e
  obtain⟨xs,hx,hv⟩:=key _ eI
  simp only[bF]at hv
  obtain⟨x,l',rfl,LJ,rfl⟩:=hv
  exact⟨rfl,x,by rw[hx];rfl,LJ⟩
 ·rename_i vs jQ eI
  cases e
  obtain⟨xs,hx,hv⟩:=key _ eI
  refine⟨rfl,.tuple xs.toArray,?_,by simp only[VR];exact⟨_,rfl,hv⟩⟩
  rw[hx,dif_neg]
  intro h1
  have hl:=hv.length
  have:vs.length=1:=by simpa[<-hl]using h1
  match vs,this with
  | [a],_=>exact jQ a rfl
 ·cases e
def Fk(P:Program)(draw:cV->Nat->Array Oper->na):Prop:=
 ∀ call nt,eR P call-> ∀ id ops,Ri P nt (.region id ops true) (draw call nt ops)
structure bG(P:Program)(draw:cV->Nat->Array Oper->na)(f:FuncId)(b:Fb):Prop where
 ex: ∃ F c,P.funcs[f]? =some F/\F.body=some c/\b.ntmps=F.ntmps/\b.ntmps<=512/\LG P b.ntmps F.results.toList=some b.res/\b.body=fun call n=>gR P (draw call b.ntmps) call n b.ntmps c
 enter: ∀ as w,(callFunc f as).run P w=.ok (.enter f as) w
theorem tU{g w}: ∀ (l:List AV) (vs:List Value) (i nt:Nat) (t:Tm) (tmps:Array Value),bF g w l vs->i+l.length<=nt->TR g w nt t tmps->
 (∀ j v,vs[j]? =some v->tmps[i+j]? =some v)->TR g w nt (pn l i t) tmps
 | [],vs,i,nt,t,tmps,h,hl,T,hj=>T
 |a::l,vs,i,nt,t,tmps,h,hl,T,hj=>by
  simp only[bF]at h
  obtain⟨v,l',rfl,hv,h⟩:=h
  simp only[List.length_cons]at hl
  have h0:tmps[i]? =some v:=by simpa using hj 0 v rfl
  have hi:i<tmps.size:=(Array.getElem?_eq_some_iff.1 h0).1
  have ah0:tmps.setIfInBounds i v=tmps:=by
   apply Array.ext
   ·simp
   ·intro k h1 h2
    rw[Array.getElem_setIfInBounds]
    split
    ·rename_i e
     subst e
     exact(Option.some.inj ((Array.getElem?_eq_getElem hi).symm.trans h0)).symm
    ·rfl
  have T':=T.put (d:=i) (by omega) hv
  rw[ah0]at T'
  exact tU l l' (i+1) nt _ tmps h (by omega) T' (fun j u e=>by
   have:=hj (j+1) u (by simpa using e)
   rwa [show i+1+j=i+(j+1) by omega])
end
end Go.Ab
