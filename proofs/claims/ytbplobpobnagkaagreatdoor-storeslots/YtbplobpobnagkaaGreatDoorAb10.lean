import Derived.Test.YtbplobpobnagkaaGreatDoorAb6
import Derived.Laws.StructEq
import Derived.LoopN
noncomputable section
namespace Go.Ab
variable [Io]
section
variable {P:Program}{o:Oper}
theorem Ra{g w h}(H:HR g w h){w':World}(h1:w'.os=w.os)(h2:w'.tape=w.tape)(h3:w'.output=w.output)(h4:w'.heap.size=w.heap.size+1)
 (h5: ∀ b,b<w.heap.size->w'.heap[b]? =w.heap[b]?):
 Ext g w h ⟨g.m,fun b=>g.fx b∨b=w.heap.size⟩ w' h/\HR ⟨g.m,fun b=>g.fx b∨b=w.heap.size⟩ w' h:=by
 have apn: ∀ b,j1 g h b->b<w.heap.size:=by
  rintro b ⟨id,cs,s,e,m⟩
  obtain⟨_,_,_,hw,_⟩:=H.row e m
  exact(Array.getElem?_eq_some_iff.1 hw).1
 have E:Ext g w h ⟨g.m,fun b=>g.fx b∨b=w.heap.size⟩ w' h:=by
  refine⟨h1,h2,h3,by omega,Nat.le_refl _,fun _ _ e=>e,fun b hb _=>h5 b hb,?_,fun _ i=>.inl i,?_,fun _ o=>.inl o⟩
  ·intro b
   unfold dS
   by_cases hb:b<w.heap.size
   ·rw[h5 b hb];exact Nat.le_refl _
   ·rw[Array.getElem?_eq_none (by omega)];exact Nat.zero_le _
  ·rintro b (i|rfl)
   ·exact .inl i
   ·exact .inr (.inr (Nat.le_refl _))
 refine⟨E,H.fresh,?_,H.inj,?_,nQ.ext H E⟩
 ·intro id cs e
  obtain⟨b,s,C,el,vs,hm,hw,hi,hv,hc⟩:=H.aP id cs e
  have hb:=(Array.getElem?_eq_some_iff.1 hw).1
  refine⟨b,s,C,el,vs,hm,by rw[h5 b hb];exact hw,?_,bL.mono H E _ _ hv,hc⟩
  rintro(i|rfl)
  ·exact hi i
  ·omega
 ·rintro b (i|rfl)
  ·have:=H.fx b i;omega
  ·omega
def FA(s:ByteArray):List Value:=s.data.toList.map fun b=>Value.int .u8 (.ofNat b.toNat)
omit [Io] in
theorem I4(w:World)(e:TypeId)(s:ByteArray): ∃ cap w',∃ C:Array Value,∃ el:FT C,(Conv.stringToBytes e s).run P w=.ok (.slice (some ⟨w.heap.size,0,none⟩) s.size cap) w'/\s.size<=cap/\cap<=C.size/\
 w'.os=w.os/\w'.tape=w.tape/\w'.output=w.output/\w'.heap.size=w.heap.size+1/\(∀ b,w'.heap[b]? =if b=w.heap.size then some (.cells C el.el el.fz)else w.heap[b]?)/\(∀ (j:Nat) (v:Value),(FA s)[j]? =some v->C[j]? =some v):=by
 obtain⟨cap,xR⟩: ∃ cap,cap=(Question.appendCap s.size 0 e).cut (w.tape w.drawn (.appendCap s.size 0 e)):=⟨_,rfl⟩
 have Lp:s.size<=cap:=by rw[xR];simp[Question.cut]
 obtain⟨C,hC⟩: ∃ C:Array Value,C=s.data.map (fun b=>Value.int .u8 (b.toNat:Int))++Array.replicate (cap - s.size) (.int .u8 0):=⟨_,rfl⟩
 have hCs:C.size=cap:=by rw[hC];simp;show s.size+_=_;omega
 refine⟨cap,(w.drew.alloc (.cells C e)).freeze {block:=w.heap.size,off:=C.size} 1,C,⟨e,(C.size,C.size+1),.inr (Nat.le_refl _)⟩,?_,Lp,by omega,rfl,rfl,rfl,?_,?_,?_⟩
 ·have hsh:(w.drew.alloc (.cells C e)).shape? w.heap.size=some (e,C.size):=by
   have:((w.drew.alloc (.cells C e)).heap)[w.heap.size]? =some (.cells C e):=by
    show(w.heap.push _)[w.heap.size]? =_
    simp
   simp only[World.shape?,this]
  simp[Conv.stringToBytes,run_choose,Question.forced,<-xR,<-hC,newRow,markStringish,hsh]
 ·simp[World.freeze]
 ·intro b
  have h1:((w.drew.alloc (.cells C e)).heap)[b]? =if b=w.heap.size then some (.cells C e)else w.heap[b]? :=by
   show(w.heap.push _)[b]? =_
   rw[Array.getElem?_push]
  simp only[World.freeze,Nat.one_ne_zero,if_false]
  rw[Array.getElem?_modify,h1]
  by_cases hb:b=w.heap.size
  ·subst hb
   rw[if_pos rfl,if_pos rfl,if_pos rfl]
   rfl
  ·rw[if_neg hb,if_neg hb,if_neg (by show ¬ w.heap.size=b;omega)]
 ·intro j v hj
  unfold FA at hj
  have hl:=(List.getElem?_eq_some_iff.1 hj).1
  rw[hC,Array.getElem?_append_left (by simpa using hl)]
  simpa using hj
theorem bL.bytes(g:G)(w:World): ∀ (l:List UInt8),bL g w (l.map fun b=>AV.int .u8 (.ofNat b.toNat)) (l.map fun b=>Value.int .u8 (.ofNat b.toNat))
 | []=>by simp[bL]
 |b::l=>by
  simp only[List.map_cons,bL]
  exact⟨_,_,rfl,by simp only[VR],bL.bytes g w l⟩
theorem FB{S D e:TypeId}{d:TypeDesc}{x:Operand}(ho:o.op=.convert S D x)(hS:P.underlying S=some d)(hD:P.underlying D=some (.slice e))(he:P.underlying e=some (.int .u8)):
 mH P o (py (aQ x)):=by
 intro g w nt t h a v h' H Tr ev
 unfold py at ev
 split at ev
 ·rename_i s hx
  have hv:=bg x _ _ _ _ _ _ Tr hx
  simp only[VR]at hv
  cases ev
  obtain⟨hv,_⟩:=hv
  obtain⟨cap,w',C,el,hr,Lp,hcC,h1,h2,h3,h4,h5,hc⟩:=I4 (P:=P) w e s
  obtain⟨E,H'⟩:=CK H el h1 h2 h3 h4 h5 (cs:=xe (s.data.toList.map fun b=>.int .u8 (.ofNat b.toNat))) (vs:=FA s) (by rw[iO];exact bL.bytes g w s.data.toList) hc
  refine⟨_,w',.value (.slice (some ⟨w.heap.size,0,none⟩) s.size cap),_,?_,.inl rfl,E,H',?_⟩
  ·simp[execOp,ho,hv,convert,run_underlying hS,run_underlying hD,run_underlying he,hr]
  ·simp only[VR]
   refine .inr ⟨w.heap.size,0,cap,by simp[G.add],rfl,Lp,?_⟩
   have:w'.heap[w.heap.size]? =some (.cells C el.el el.fz):=by rw[h5,if_pos rfl]
   rw[jM this]
   omega
 ·cases ev
theorem I5{D e:TypeId}{x:Operand}(ho:o.op=.convert D D x)(hD:P.underlying D=some (.slice e))(he:P.underlying e=some (.int .u8)):mH P o (sG (aQ x)):=by
 intro g w nt t h a v h' H Tr ev
 unfold sG at ev
 split at ev
 ·rename_i id off n sz hx
  have hv:=bg x _ _ _ _ _ _ Tr hx
  have rQ:=hv
  cases hn:Nat.beq n 0 with
  |true=>rw[hn]at ev;cases ev
  |false=>
  rw[hn]at ev
  simp only[cond_false]at ev
  split at ev
  ·rename_i cs hg
   cases ev
   simp only[VR]at hv
   rcases hv with⟨rfl,_⟩|⟨b,s,cap,hm,hv,hc,_⟩
   ·cases hn
   obtain⟨C,el,vs,hw,hi,eH,Q9⟩:=H.row hg hm
   have hsh:w.shape? b=some (el.el,C.size):=by simp only[World.shape?,hw]
   have hok:=el.ok'
   obtain⟨E,H'⟩:=Lo H (w':=w.freeze {block:=b,off:=C.size} 1) (el:=el) (el':=⟨el.el,if el.fz.1 == el.fz.2 then(C.size,C.size+1)else(min el.fz.1 C.size,max el.fz.2 (C.size+1)),by
    by_cases h0:el.fz.1=el.fz.2
    ·simp[h0]
    ·simp only[beq_iff_eq,h0,if_false]
     right
     show C.size<=min el.fz.1 C.size
     omega⟩) hg hm hw rfl rfl rfl (by simp[World.freeze]) (fun k=>by
    simp only[World.freeze,Nat.one_ne_zero,if_false]
    rw[Array.getElem?_modify]
    by_cases hk:k=b
    ·subst hk
     rw[if_pos rfl,if_pos rfl,hw]
     rfl
    ·rw[if_neg hk,if_neg (fun q=>hk q.symm)])
   refine⟨g,_,.value (a.eval x),a.eval x,?_,.inl rfl,E,H',VR.mono H E _ _ rQ⟩
   rw[hv]
   simp[execOp,ho,hv,convert,run_underlying hD,run_underlying he,markStringish,hsh]
  ·cases ev
 ·cases ev
omit [Io] in
theorem Bh{P:Program}(t:TypeId)(w:World):(Instr.makeMap t none).run P w=.ok (.map (some w.heap.size)) (w.alloc (.map #[] 0)):=rfl
theorem Lq{T:TypeId}(ho:o.op=.makeMap T none):mH P o IL:=by
 intro g w nt t h a v h' H Tr ev
 cases ev
 obtain⟨E,H'⟩:=Ra H (w':=w.alloc (.map #[] 0)) rfl rfl rfl (by show(w.heap.push _).size=_;rw[Array.size_push]) (fun b hb=>by
  show(w.heap.push _)[b]? =_
  rw[Array.getElem?_push,if_neg (by omega)])
 exact⟨_,_,.value (.map (some w.heap.size)),_,by simp[execOp,ho,Bh],.inl rfl,E,H',by simp only[VR];rfl⟩
end
end Go.Ab

noncomputable section
namespace Go.Ab
variable [Io]
section
variable {P:Program}
theorem fZ{op:BinOp}{T:TypeId}{f s:AV->AV->Option AV}(hf:cU P op T f)
 (hs: ∀ (a b r:AV),s a b=some r->(∀ (g:G) (w:World) (u v:Value),VR g w a u->VR g w b v-> ∃ k m k' n r0,u=.int k m/\v=.int k' n/\f (.int k m) (.int k' n)=some r0/\ ∀ z,VR g w r0 z->VR g w r z)):
 cU P op T (wL f s):=by
 intro g w a b r u v ha hb h
 unfold wL at h
 cases hr:f a b with
 |some r'=>
  rw[hr]at h
  cases h
  exact hf g w a b r u v ha hb hr
 |none=>
  rw[hr]at h
  obtain⟨k,m,k',n,r0,rfl,rfl,h1,h2⟩:=hs a b r h g w u v ha hb
  obtain⟨z,hz,hv,hg⟩:=hf g w (.int k m) (.int k' n) r0 (.int k m) (.int k' n) (by simp only[VR]) (by simp only[VR]) h1
  exact⟨z,hz,h2 z hv,hg⟩
def aim(f s:AV->AV->Option AV):Prop:= ∀ (a b r:AV),s a b=some r->(∀ (g:G) (w:World) (u v:Value),VR g w a u->VR g w b v-> ∃ k m k' n r0,u=.int k m/\v=.int k' n/\f (.int k m) (.int k' n)=some r0/\ ∀ z,VR g w r0 z->VR g w r z)
theorem lK{f:AV->AV->Option AV}:aim f Cy:=by
 intro a b r h
 cases h
omit [Io] in
theorem agy{a b:Int}:la a b=true↔a<b:=by rw[jg];simp
omit [Io] in
theorem Rb{a b:Int}:la a b=false↔b<=a:=by rw[jg];simp
omit [Io] in
theorem ga{a b:Int}:eqI a b=true↔a=b:=by rw[vB];simp
omit [Io] in
theorem agz(m n:Int):eqI m n=decide (m=n):=by
 by_cases e:m=n
 ·rw[ga.2 e];simp[e]
 ·rw[show eqI m n=false from by rw[Bool.eq_false_iff];exact fun h=>e (ga.1 h)];simp[e]
omit [Io] in
theorem CZ{l:List Nat}: ∀ {m:List Nat},vu l m=true↔l=m:=by
 induction l with
 |nil=>intro m;cases m<;>simp[vu]
 |cons a l ih=>
  intro m
  cases m with
  |nil=>simp[vu]
  |cons b m=>
   show(bif Nat.beq a b then vu l m else false)=true↔_
   cases e:Nat.beq a b with
   |true=>
    rw[Nat.eq_of_beq_eq_true e]
    show vu l m=true↔_
    rw[ih];simp
   |false=>
    have:a≠b:=fun e'=>by subst e';rw[Nat.beq_refl]at e;cases e
    simp[this]
omit [Io] in
theorem I6{a b:SV}(h:oc a b=true):a=b:=by
 cases a<;>cases b<;>simp[oc,ga,CZ]at h<;>simp[h]
omit [Io] in
theorem Lr{a:SV}: ∀ {b:SV},Fg a b=true->a=b:=by
 induction a with
 |tm f k k' a oa b ob sY xD=>
  intro y h
  cases y with
  |tm f2 k2 k2' a2 oa2 b2 ob2=>
   change (Nat.beq f f2&&(jA k k2&&(jA k' k2'&&(eqI oa oa2&&(eqI ob ob2&&(Fg a a2&&Fg b b2))))))=true at h
   simp only[Bool.and_eq_true]at h
   obtain⟨h1,h2,h3,h4,h5,h6,h7⟩:=h
   rw[Nat.eq_of_beq_eq_true h1,eQ.1 h2,eQ.1 h3,ga.1 h4,ga.1 h5,sY h6,xD h7]
  | _=>cases h
 |ix l a o sY=>
  intro y h
  cases y with
  |ix l2 a2 o2=>
   change (vu l l2&&(eqI o o2&&Fg a a2))=true at h
   simp only[Bool.and_eq_true]at h
   obtain⟨h1,h2,h3⟩:=h
   rw[CZ.1 h1,ga.1 h2,sY h3]
  | _=>cases h
 | _=>intro y h;exact I6 h
omit [Io] in
theorem acQ{f:IntKind->Int->Int->Option AV}{k:IntKind}{m n:Int}:nn f (.int k m) (.int k n)=f k m n:=by
 unfold nn
 simp only[eQ.2 rfl,cond_true]
omit [Io] in
theorem bV{α:Type}{b:Bool}{x:Option α}{r:α}(h:(bif b then x else none)=some r):b=true/\x=some r:=by
 cases b
 ·cases h
 ·exact⟨rfl,h⟩
theorem Xv{a b:AV}{c:Bool}(h:QC a b=some c){g:G}{w:World}{u v:Value}(ha:VR g w a u)(hb:VR g w b v): ∃ k m n,u=.int k m/\v=.int k n/\c=decide (m=n):=by cases h
theorem Ls{a b:AV}{c:Bool}(h:KQ a b=some c){g:G}{w:World}{u v:Value}(ha:VR g w a u)(hb:VR g w b v): ∃ k m n,u=.int k m/\v=.int k n/\c=decide (m<n):=by cases h
theorem Lt(T:TypeId):cU P .add T bA:=fZ (QF T) lK
theorem Lu(T:TypeId):cU P .sub T fC:=fZ (QG T) lK
theorem Lv(T:TypeId):cU P .and T lH:=fZ (QS T) lK
theorem Lw(T:TypeId):cU P .or T nq:=fZ (Xk T) lK
theorem Lx(T:TypeId):cU P .xor T G9:=fZ (QT T) lK
theorem Ly(T:TypeId):cU P .shl T lI:=fZ (QU T) lK
theorem Lz(T:TypeId):cU P .shr T lJ:=fZ (QV T) lK
theorem LA(T:TypeId):cU P .lss T a8:=fZ (QK T) lK
theorem LC(T:TypeId):cU P .gtr T fT:=fZ (QL T) lK
theorem LD(T:TypeId):cU P .leq T iq:=fZ (QM T) lK
theorem LF(T:TypeId):cU P .geq T fJ:=fZ (QN T) lK
theorem LG(T:TypeId):cU P .rem T z9:=fZ (QJ T) lK
theorem LH(T:TypeId):cU P .quo T G8:=fZ (QI T) lK
theorem LJ(T:TypeId):cU P .mul T mF:=fZ (QH T) lK
theorem LK(T:TypeId):cU P .eql T (aD false):=fZ (QO T) lK
theorem LL(T:TypeId):cU P .neq T (aD true):=fZ (QP T) lK
theorem Rd{k:IntKind}{b v:AV}{g:G}{w:World}{u:Value}(hf:cp k b=some v)(hv:VR g w b u): ∃ k' m r0,u=.int k' m/\KR k (.int k' m)=some r0/\ ∀ z,VR g w r0 z->VR g w v z:=by
 unfold cp acy at hf
 cases hr:KR k b with
 |some r=>
  rw[hr]at hf
  cases hf
  unfold KR at hr
  split at hr
  ·cases hr
   simp only[VR]at hv
   exact⟨_,_,_,hv,rfl,fun z h=>h⟩
  ·cases hr
 |none=>
  rw[hr]at hf
  cases hf
theorem FC{o:Oper}{S D:TypeId}{d:TypeDesc}{k:IntKind}{x:Operand}(ho:o.op=.convert S D x)(hS:P.underlying S=some d)(hD:P.underlying D=some (.int k)):
 bT P o (fm (cp k) (aQ x)):=by
 intro g w nt t h a v h' H Tr e
 obtain⟨b,hb,hf,rfl⟩:=ug e
 have hv:=bg x _ _ _ _ _ _ Tr hb
 obtain⟨k',m,r0,rQ,hr,hz⟩:=Rd hf hv
 cases hr
 exact⟨rfl,.int k (k.wrap m),by simp[execOp,ho,rQ,convert,run_underlying hS,run_underlying hD,Conv.intToInt],hz _ (by simp only[VR,kN])⟩
theorem LM{x y:Operand}{s7:Array TypeId}{o:Oper}(ho:o.op=.call {callee:=.builtin .min,args:= #[x,y],argTypes:=s7}):bT P o (A1 (aQ x) (aQ y)):=by
 intro g w nt t h a v h' H Tr e
 unfold A1 ah at e
 cases hx:aQ x t with
 |none=>rw[hx]at e;cases e
 |some ax=>
  cases hy:aQ y t with
  |none=>rw[hx,hy]at e;cases e
  |some ay=>
   rw[hx,hy]at e
   have h3:=bg x _ _ _ _ _ _ Tr hx
   have h4:=bg y _ _ _ _ _ _ Tr hy
   unfold wL at e
   cases hr:nn (fun k a b=>some (.int k (bif la b a then b else a))) ax ay with
   |some r=>
    simp only[hr]at e
    cases e
    obtain⟨k,m,n,rfl,rfl,h2⟩:=vC hr
    cases h2
    simp only[VR]at h3 h4
    refine⟨rfl,.int k (if n<m then n else m),by simp[execOp,ho,resolve,invoke,builtin,Builtin.min_,Builtin.min2,h3,h4],?_⟩
    simp only[VR,jg]
    by_cases gB:n<m<;>simp[gB]
   |none=>
    simp only[hr]at e
    cases hl:KQ ay ax with
    |none=>rw[hl]at e;cases e
    |some c=>
     rw[hl]at e
     cases e
     obtain⟨k,p,q,e1,e2,rfl⟩:=Ls hl h4 h3
     have hex:(execOp a.eval o).run P w=.ok (.value (.int k (if p<q then p else q))) w:=by
      simp[execOp,ho,resolve,invoke,builtin,Builtin.min_,Builtin.min2,e1,e2]
     refine⟨rfl,_,hex,?_⟩
     by_cases gB:p<q
     ·simp only[gB,decide_true,cond_true,if_true,gt_iff_lt]
      rw[e1]at h4
      exact h4
     ·simp only[gB,decide_false,cond_false,if_false,gt_iff_lt]
      rw[e2]at h3
      exact h3
theorem LN{x y:Operand}{s7:Array TypeId}{o:Oper}(ho:o.op=.call {callee:=.builtin .max,args:= #[x,y],argTypes:=s7}):bT P o (A2 (aQ x) (aQ y)):=by
 intro g w nt t h a v h' H Tr e
 unfold A2 ah at e
 cases hx:aQ x t with
 |none=>rw[hx]at e;cases e
 |some ax=>
  cases hy:aQ y t with
  |none=>rw[hx,hy]at e;cases e
  |some ay=>
   rw[hx,hy]at e
   have h3:=bg x _ _ _ _ _ _ Tr hx
   have h4:=bg y _ _ _ _ _ _ Tr hy
   unfold wL at e
   cases hr:nn (fun k a b=>some (.int k (bif la a b then b else a))) ax ay with
   |some r=>
    simp only[hr]at e
    cases e
    obtain⟨k,m,n,rfl,rfl,h2⟩:=vC hr
    cases h2
    simp only[VR]at h3 h4
    refine⟨rfl,.int k (if n>m then n else m),by simp[execOp,ho,resolve,invoke,builtin,Builtin.max_,Builtin.max2,h3,h4],?_⟩
    simp only[VR,jg]
    by_cases gB:m<n<;>simp[gB]
   |none=>
    simp only[hr]at e
    cases hl:KQ ax ay with
    |none=>rw[hl]at e;cases e
    |some c=>
     rw[hl]at e
     cases e
     obtain⟨k,p,q,e1,e2,rfl⟩:=Ls hl h3 h4
     have hex:(execOp a.eval o).run P w=.ok (.value (.int k (if q>p then q else p))) w:=by
      simp[execOp,ho,resolve,invoke,builtin,Builtin.max_,Builtin.max2,e1,e2]
     refine⟨rfl,_,hex,?_⟩
     by_cases gB:p<q
     ·simp only[gB,decide_true,cond_true,if_true,gt_iff_lt]
      rw[e2]at h4
      exact h4
     ·simp only[gB,decide_false,cond_false,if_false,gt_iff_lt]
      rw[e1]at h3
      exact h3
end
end Go.Ab

noncomputable section
namespace Go.Ab
variable [Io]
section
variable {P:Program}
def scalars(P:Program)(n:Nat)(l:List Field):Option (List Bool):=
 List.rec (fun _=>some []) (fun f _ ih n=>bif Nat.beq f.offset n&& !(decide (f.name= "_"))then
  (match P.info? f.type with
  |some i=>bif Nat.beq i.size 1 then
   (match P.underlying f.type with
   |some (.int _)=>(match ih (Nat.add n 1)with|some r=>some (true::r)|none=>none)
   |some .bool=>(match ih (Nat.add n 1)with|some r=>some (false::r)|none=>none)
   | _=>none)else none
  |none=>none)else none) l n
theorem Xw{i:Bool}{x y:AV}{c:Bool}(h:eq1 i x y=some c){g:G}{w:World}{u v:Value}(hx:VR g w x u)(hy:VR g w y v){T:TypeId}{d:Nat}
 (hT:(i=true/\ ∃ k,P.underlying T=some (.int k))∨(i=false/\P.underlying T=some .bool)):(Op.equalIn (d+1) T u v).run P w=.ok c w:=by
 rcases hT with⟨rfl,k,hT⟩|⟨rfl,hT⟩
 ·change (match(generalizing:=false) x,y with| .int k a,.int k' b=>bif jA k k' then some (eqI a b)else none| _,_=>QC x y)=some c at h
  split at h
  ·rename_i k1 a k2 b
   cases e:jA k1 k2 with
   |false=>rw[e]at h;cases h
   |true=>
    rw[e]at h
    cases h
    obtain rfl:=eQ.1 e
    simp only[VR]at hx hy
    subst hx;subst hy
    rw[run_equalIn_int w d T k1 k a b hT,vB]
  ·obtain⟨k1,m,n,rfl,rfl,rfl⟩:=Xv h hx hy
   rw[run_equalIn_int w d T k1 k m n hT]
   congr 1
 ·change (match(generalizing:=false) x,y with| .bool a,.bool b=>some (!(xor a b))| _,_=>none)=some c at h
  split at h
  ·rename_i a b
   cases h
   simp only[VR]at hx hy
   subst hx;subst hy
   rw[run_equalIn_bool' w d T a b hT]
   cases a<;>cases b<;>rfl
  ·cases h
omit [Io] in
theorem C1{T:TypeId}{td:TypeDesc}{i:TypeInfo}{vs:Array Value}{n:Nat}{v:Value}{w:World}(hd:P.underlying T=some td)(ha:j4 td=false)(hv:vs[n]? =some v):
 (Go.part T vs n).run P w=.ok v w:=by
 unfold Go.part
 simp only[Sem.run_bind,oh hd,ha,Result.andThen_ok]
 simp[hv]
theorem we{g:G}{w:World}(d:Nat): ∀ (fs:List Field) (n:Nat) (l:List Bool) (xs ys:List AV) (us vs:Array Value) (c:Bool),scalars P n fs=some l->CG l xs ys=some c->
 bL g w xs (us.toList.drop n)->bL g w ys (vs.toList.drop n)->(Op.eqFields (d+1) us vs fs).run P w=.ok c w
 | [],n,l,xs,ys,us,vs,c,hs,e,hx,hy=>by
  cases hs
  cases e
  simp[Op.eqFields]
 |f::fs,n,l,xs,ys,us,vs,c,hs,e,hx,hy=>by
  change (bif Nat.beq f.offset n&& !(decide (f.name= "_"))then
   (match P.info? f.type with
   |some i=>bif Nat.beq i.size 1 then
    (match P.underlying f.type with
    |some (.int _)=>(match scalars P (n+1) fs with|some r=>some (true::r)|none=>none)
    |some .bool=>(match scalars P (n+1) fs with|some r=>some (false::r)|none=>none)
    | _=>none)else none
   |none=>none)else none)=some l at hs
  replace hs:=bV hs
  obtain⟨h0,hs⟩:=hs
  rw[Bool.and_eq_true]at h0
  have acR:f.offset=n:=Nat.eq_of_beq_eq_true h0.1
  have acS:f.name≠ "_" :=by simpa using h0.2
  split at hs
  ·replace hs:=bV hs
   obtain⟨_,hs⟩:=hs
   have key: ∀ (i:Bool) (r:List Bool) (td:TypeDesc),P.underlying f.type=some td->j4 td=false->scalars P (n+1) fs=some r->l=i::r->
    ((i=true/\ ∃ k,P.underlying f.type=some (.int k))∨(i=false/\P.underlying f.type=some .bool))->(Op.eqFields (d+1) us vs (f::fs)).run P w=.ok c w:=by
    intro i r td htd acT hr hl hT
    subst hl
    change (match(generalizing:=false) xs with
     | []=>none
     |x::xs=>match(generalizing:=false) ys with
      | []=>none
      |y::ys=>match eq1 i x y with
       |none=>none
       |some c=>(Bool.rec (some false) (CG r xs ys) c:Option Bool))=some c at e
    cases xs with
    |nil=>cases e
    |cons x xs=>
    cases ys with
    |nil=>cases e
    |cons y ys=>
    simp only at e
    cases h1:eq1 i x y with
    |none=>rw[h1]at e;cases e
    |some c1=>
    rw[h1]at e
    simp only[bL]at hx hy
    obtain⟨u,us',hu,hxu,Xx⟩:=hx
    obtain⟨v,vs',hv,Xy,hys⟩:=hy
    have hu0:us[n]? =some u:=by
     have:(us.toList.drop n)[0]? =some u:=by rw[hu];rfl
     simpa using this
    have hv0:vs[n]? =some v:=by
     have:(vs.toList.drop n)[0]? =some v:=by rw[hv];rfl
     simpa using this
    have hu1:us.toList.drop (n+1)=us':=by rw[<-List.drop_drop,hu];rfl
    have hv1:vs.toList.drop (n+1)=vs':=by rw[<-List.drop_drop,hv];rfl
    have pu:(Go.part f.type us f.offset).run P w=.ok u w:=by rw[acR];exact C1 (i:=default) htd acT hu0
    have pv:(Go.part f.type vs f.offset).run P w=.ok v w:=by rw[acR];exact C1 (i:=default) htd acT hv0
    simp only[Op.eqFields,if_pos acS,Sem.run_bind,pu,pv,Result.andThen_ok,Xw (P:=P) (d:=d) h1 hxu Xy hT]
    cases c1 with
    |false=>cases e;simp
    |true=>
     simp only[Bool.not_true,Bool.false_eq_true,if_false]
     exact we d fs (n+1) r xs ys us vs c hr e (by rw[hu1];exact Xx) (by rw[hv1];exact hys)
   split at hs
   ·rename_i k hT
    split at hs
    ·rename_i r hr;cases hs;exact key true r _ hT rfl hr rfl (.inl ⟨rfl,_,hT⟩)
    ·cases hs
   ·rename_i hT
    split at hs
    ·rename_i r hr;cases hs;exact key false r _ hT rfl hr rfl (.inr ⟨rfl,hT⟩)
    ·cases hs
   ·cases hs
  ·cases hs
omit [Io] in
theorem Am{neg:Bool}{l:List Bool}{x y r:AV}(h:Fh neg l x y=some r): ∃ xs ys c,x=.agg xs/\y=.agg ys/\CG l xs ys=some c/\r=.bool (bif neg then !c else c):=by
 unfold Fh at h
 split at h
 ·rename_i xs
  split at h
  ·rename_i ys
   split at h
   ·rename_i c hc
    cases h
    exact⟨xs,ys,c,rfl,rfl,hc,rfl⟩
   ·cases h
  ·cases h
 ·cases h
theorem Hm{T:TypeId}{fs:Array Field}{l:List Bool}(hT:P.underlying T=some (.struct fs))(hs:P.stoodInHeld T=false)(hl:scalars P 0 fs.toList=some l){g:G}{w:World}
 {xs ys:List AV}{c:Bool}(hc:CG l xs ys=some c){us vs:Array Value}(hx:bL g w xs us.toList)(hy:bL g w ys vs.toList):(Op.equalIn 10000 T (.agg us) (.agg vs)).run P w=.ok c w:=by
 have hf:P.fieldsOf T=fs:=by unfold Program.fieldsOf;rw[hT]
 refine(run_equalIn_struct w 9999 T us vs (by rw[hf];exact hT) hs).trans ?_
 rw[hf]
 exact we 9998 fs.toList 0 l xs ys us vs c hl hc (by simpa using hx) (by simpa using hy)
theorem Re{T:TypeId}{fs:Array Field}{l:List Bool}(hT:P.underlying T=some (.struct fs))(hs:P.stoodInHeld T=false)(hg:P.eqGuardType P.depth T=false)(hl:scalars P 0 fs.toList=some l):
 cU P .eql T (Fh false l):=by
 intro g w a b r u v ha hb h
 obtain⟨xs,ys,c,rfl,rfl,hc,rfl⟩:=Am h
 simp only[VR]at ha hb
 obtain⟨us,rfl,hx⟩:=ha
 obtain⟨vs,rfl,hy⟩:=hb
 refine⟨.bool c,?_,by simp only[VR];rfl,fun x y=>run_eqGuard_agg w .eql T x y us vs hg⟩
 rw[run_eql_struct,Hm hT hs hl hc hx hy]
 rfl
theorem Rf{T:TypeId}{fs:Array Field}{l:List Bool}(hT:P.underlying T=some (.struct fs))(hs:P.stoodInHeld T=false)(hg:P.eqGuardType P.depth T=false)(hl:scalars P 0 fs.toList=some l):
 cU P .neq T (Fh true l):=by
 intro g w a b r u v ha hb h
 obtain⟨xs,ys,c,rfl,rfl,hc,rfl⟩:=Am h
 simp only[VR]at ha hb
 obtain⟨us,rfl,hx⟩:=ha
 obtain⟨vs,rfl,hy⟩:=hb
 refine⟨.bool (!c),?_,by simp only[VR];rfl,fun x y=>run_eqGuard_agg w .neq T x y us vs hg⟩
 rw[run_neq_struct,Hm hT hs hl hc hx hy]
 rfl
def I7(P:Program)(neg:Bool)(T:TypeId):Option (AV->AV->Option AV):=match P.underlying T with
 |some (.struct fs)=>match P.stoodInHeld T with
  |false=>match P.eqGuardType P.depth T with
   |false=>match scalars P 0 fs.toList with
    |some l=>some (Fh neg l)
    |none=>none
   |true=>none
  |true=>none
 | _=>none
theorem Rg{T:TypeId}{f:AV->AV->Option AV}(h:I7 P false T=some f):cU P .eql T f:=by
 unfold I7 at h
 split at h
 ·rename_i fs hT
  split at h
  ·rename_i hs
   split at h
   ·rename_i hg
    split at h
    ·rename_i l hl
     cases h
     exact Re hT hs hg hl
    ·cases h
   ·cases h
  ·cases h
 ·cases h
theorem Rh{T:TypeId}{f:AV->AV->Option AV}(h:I7 P true T=some f):cU P .neq T f:=by
 unfold I7 at h
 split at h
 ·rename_i fs hT
  split at h
  ·rename_i hs
   split at h
   ·rename_i hg
    split at h
    ·rename_i l hl
     cases h
     exact Rf hT hs hg hl
    ·cases h
   ·cases h
  ·cases h
 ·cases h
end
end Go.Ab

noncomputable section
namespace Go.Ab
variable [Io]
section
variable {P:Program}{o:Oper}
omit [Io] in
theorem run_copy_none(w:World)(dT sT ty elem:TypeId)(i:TypeInfo)(hu:P.underlying dT=some (.slice elem))(hi:P.info? elem=some i)(d x:Option Addr)(I8 Xz cQ ek:Nat)(hn:Nat.min cQ I8=0):
 (Builtin.copy_ #[dT,sT] ty #[.slice d I8 Xz,.slice x cQ ek]).run P w=.ok (.int .i64 (Int.ofNat 0)) w:=by
 have hl: ∀ a:Addr,(loadCells a 0).run P w=.ok #[] w:=fun a=>run_loadCells_list (P:=P) w a [] (by simp)
 cases d<;>cases x<;>simp[Builtin.copy_,run_underlying hu,Builtin.lenOf,Builtin.firstCells,sizeOf,typeInfo,hi,hn,hl,storeCells,goInt]
omit [Io] in
theorem zE(w:World)(dT sT ty elem:TypeId)(i:TypeInfo)(hu:P.underlying dT=some (.slice elem))(hi:P.info? elem=some i)(g o I8 Xz:Nat)(a:Addr)(cQ ek:Nat)(cur:Array Value)(t:FT cur)(cs:List Value)
 (hg:w.heap[g]? =some (.cells cur t.el t.fz))(hn:cs.length=Nat.min cQ I8*i.size)(aip: ∀ j v,cs[j]? =some v->w.cell? (a.add j)=some v)(s6:o+cs.length<=cur.size)(h1: ∀ v∈cs,v.oneCell'=true):
 (Builtin.copy_ #[dT,sT] ty #[.slice (some ⟨g,o,none⟩) I8 Xz,.slice (some a) cQ ek]).run P w=
  .ok (.int .i64 (Int.ofNat (Nat.min cQ I8))) (w.setRow g (cur.toList.take o++cs++cur.toList.drop (o+cs.length)).toArray):=by
 have hl:=run_loadCells_list (P:=P) w a cs aip
 have xj:=ey P g o t.el t.fz cs 0 cur w hg t.ok (by simpa using s6) h1
 simp[Builtin.copy_,run_underlying hu,Builtin.lenOf,Builtin.firstCells,sizeOf,typeInfo,hi,<-hn,hl,xj,goInt]
def Hn(P:Program)(T:TypeId)(d s:Operand):eG:=match P.underlying T with
 |some (.slice e)=>match P.info? e with
  |some i=>kr i.size (wO (aQ d)) (wO (aQ s))
  |none=>bP
 | _=>bP
theorem I9{T T':TypeId}{d s:Operand}(ho:o.op=.call {callee:=.builtin .copy,args:= #[d,s],argTypes:= #[T,T']}):mH P o (Hn P T d s):=by
 intro g w nt t h a v h' H Tr e
 unfold Hn at e
 cases hu:P.underlying T with
 |none=>rw[hu]at e;cases e
 |some dd=>
 rw[hu]at e
 cases dd<;>try (cases e;done)
 rename_i el
 simp only at e
 cases hi:P.info? el with
 |none=>rw[hi]at e;cases e
 |some i=>
  rw[hi]at e
  change kr i.size (wO (aQ d)) (wO (aQ s)) t h=.ok v h' at e
  have hex: ∀ vd vs r w',a.eval d=vd->a.eval s=vs->(Builtin.copy_ #[T,T'] o.type #[vd,vs]).run P w=.ok r w'->(execOp a.eval o).run P w=.ok (.value r) w':=by
   intro vd vs r w' h1 h2 h3
   unfold execOp
   simp only[ho,resolve,invoke,builtin,Sem.run_bind,Sem.run_pure,Result.andThen_ok,List.map_toArray,List.map_cons,List.map_nil,h1,h2,h3]
  unfold kr at e
  split at e
  ·rename_i hd
   split at e
   ·rename_i xv hs
    split at e
    ·rename_i p hsc
     cases e
     have hvd:=iQ d _ _ _ _ _ _ Tr hd
     have eH:=iQ s _ _ _ _ _ _ Tr hs
     simp only[VR]at hvd
     obtain⟨b,VC⟩:=hvd
     obtain⟨n,cs⟩:=p
     obtain⟨xa,xc,Q',hxc,zD⟩:=lB H eH hsc
     exact⟨g,w,_,_,hex _ _ _ _ VC Q' (run_copy_none w T T' o.type el i hu hi _ _ _ _ _ _ (Nat.min_zero _)),.inl rfl,Ext.refl _ _ _,H,by simp only[VR]⟩
    ·cases e
   ·cases e
  ·rename_i id off n sz hd
   split at e
   ·rename_i xv hs
    split at e
    ·rename_i m src hsc
     have hvd:=iQ d _ _ _ _ _ _ Tr hd
     have eH:=iQ s _ _ _ _ _ _ Tr hs
     obtain⟨xa,xc,Q',hxc,zD⟩:=lB H eH hsc
     simp only[VR]at hvd
     rw[ud]at e
     cases hk:Nat.beq (min m n) 0 with
     |true=>
      rw[hk]at e
      cases e
      have hk0:Nat.min m n=0:=Nat.eq_of_beq_eq_true hk
      rcases hvd with⟨rfl,b,VC⟩|⟨b,s',cap,hm,VC,xR,_⟩
      ·exact⟨g,w,_,_,hex _ _ _ _ VC Q' (run_copy_none w T T' o.type el i hu hi _ _ _ _ _ _ hk0),.inl rfl,Ext.refl _ _ _,H,by simp only[VR]⟩
      ·exact⟨g,w,_,_,hex _ _ _ _ VC Q' (run_copy_none w T T' o.type el i hu hi _ _ _ _ _ _ hk0),.inl rfl,Ext.refl _ _ _,H,by simp only[VR]⟩
     |false=>
      rw[hk]at e
      have hk0:min m n≠0:=fun k=>by rw[k]at hk;cases hk
      simp only[cond_false]at e
      split at e
      ·rename_i cs hg
       cases hb:((Nat.blt 0 i.size&&(Nat.beq sz i.size&&(Nat.beq (len src) (Nat.mul m i.size)&&cu dN src)))&&Nat.ble (Nat.add off (Nat.mul (min m n) i.size)) cs.n)with
       |false=>rw[hb]at e;cases e
       |true=>
        rw[hb]at e
        cases e
        simp only[Bool.and_eq_true,bW]at hb
        obtain⟨⟨b0,b1,b2,b3⟩,b4⟩:=hb
        have b0:=bO.1 b0
        obtain rfl:=Nat.eq_of_beq_eq_true b1
        have b2:src.length=m*i.size:=Nat.eq_of_beq_eq_true b2
        have b4:off+min m n*i.size<=cs.n:=Nat.le_of_ble_eq_true b4
        have hmn:min m n*i.size<=m*i.size:=Nat.mul_le_mul_right _ (Nat.min_le_left m n)
        rcases hvd with⟨rfl,b,VC⟩|⟨b,s',cap,hm,VC,xR,_⟩
        ·rw[Nat.min_zero]at hk0;exact absurd rfl hk0
        ·obtain⟨C,el',vs,hw,_,Ri,hc⟩:=H.row hg hm
         rcases zD with rfl|⟨xb,xs,us,rfl,Cz,pD⟩
         ·exfalso
          have hz:m*i.size=0:=b2.symm
          have hp:0<min m n*i.size:=Nat.mul_pos (by omega) b0
          omega
         ·have hul:=Cz.length
          have Ft:(us.take (min m n*i.size)).length=min m n*i.size:=by rw[List.length_take];omega
          have acW:(src.take (min m n*i.size)).length=min m n*i.size:=by rw[List.length_take];omega
          have s5:s'+off+(us.take (min m n*i.size)).length<=C.size:=by
           rw[Ft]
           have hp:0<min m n*i.size:=Nat.mul_pos (by omega) b0
           have:=bL.qT Ri hc (n:=off+min m n*i.size) (by rw[eO];exact b4) (by omega)
           omega
          have hr:=zE (P:=P) w T T' o.type el i hu hi b (s'+off) n cap ⟨xb,xs,none⟩ m xc C el' (us.take (min m n*i.size)) hw Ft (fun j v e=>by
           rw[List.getElem?_take]at e
           split at e
           ·exact mK pD j v e
           ·cases e) s5 (fun v hv=>bL.Fi Cz b3 v (List.mem_of_mem_take hv))
          obtain⟨E,H'⟩:=Al H (C':=(C.toList.take (s'+off)++us.take (min m n*i.size)++C.toList.drop (s'+off+(us.take (min m n*i.size)).length)).toArray)
           hg hm hw (by simp at s5 ⊢;omega) (cs':=cs.put off (tk (Nat.mul (min m n) i.size) src)) (us:=vs.take off++(us.take (min m n*i.size)++vs.drop (off+(us.take (min m n*i.size)).length)))
           (by rw[qO];show bL g w (cs.put off (src.take (min m n*i.size))).toL _;rw[ub (by rw[acW];exact b4),put_eq,acW,Ft];exact(Ri.take _).append ((Cz.take _).append (Ri.drop _)))
           (fun j v e=>Hg hc s5 j v e (by have:=Ri.length;rw[eO]at this;omega))
          exact⟨g,_,_,_,hex _ _ _ _ VC Q' hr,.inl rfl,E,H',by simp only[VR]⟩
      ·cases e
    ·cases e
   ·cases e
  ·cases e
theorem I'{T el:TypeId}{x y z:Operand}(ho:o.op=.slice T x none (some y) (some z))(hd:P.underlying T=some (.slice el)){i:TypeInfo}(hi:P.info? el=some i):bT P o (xG (wO (aQ x)) (aQ y) (aQ z)):=by
 intro g w nt t h a v h' H Tr e
 unfold xG at e
 split at e
 ·rename_i ky n hy
  split at e
  ·rename_i kz m hz
   obtain⟨h1,h2⟩:=(by
    cases hb:(Nat.beq n 0&&Nat.beq m 0)with
    |false=>rw[hb]at e;cases e
    |true=>rw[Bool.and_eq_true]at hb;exact hb:Nat.beq n 0=true/\Nat.beq m 0=true)
   rw[h1,h2]at e
   simp only[Bool.and_self,cond_true]at e
   obtain rfl:=Nat.eq_of_beq_eq_true h1
   obtain rfl:=Nat.eq_of_beq_eq_true h2
   have xi:=bg y _ _ _ _ _ _ Tr hy
   have hvz:=bg z _ _ _ _ _ _ Tr hz
   simp only[VR]at xi hvz
   have sr:(sizeOf el).run P w=.ok i.size w:=by simp[sizeOf,typeInfo,hi]
   have kB: ∀ b n c,a.eval x=.slice b n c->(execOp a.eval o).run P w=.ok (.value (.slice b 0 0)) w:=by
    intro b n c hx
    simp[execOp,ho,hx,xi,hvz,Instr.sliceAt,Instr.slice,run_underlying hd,Instr.sliceBounds,Instr.sliceBound,asIntOf,sr]
   split at e
   ·rename_i hx
    cases e
    have hv:=iQ x _ _ _ _ _ _ Tr hx
    simp only[VR]at hv
    obtain⟨b,hv⟩:=hv
    exact⟨rfl,_,kB _ _ _ hv,by simp only[VR];exact⟨_,rfl⟩⟩
   ·rename_i hx
    cases e
    have hv:=iQ x _ _ _ _ _ _ Tr hx
    simp only[VR]at hv
    rcases hv with⟨_,b,hv⟩|⟨b,s,cap,_,hv,_⟩
    ·exact⟨rfl,_,kB _ _ _ hv,by simp only[VR];exact⟨_,rfl⟩⟩
    ·exact⟨rfl,_,kB _ _ _ hv,by simp only[VR];exact⟨_,rfl⟩⟩
   ·rename_i hx
    cases e
    have hv:=iQ x _ _ _ _ _ _ Tr hx
    simp only[VR]at hv
    obtain⟨b,cap,hv,_⟩:=hv
    exact⟨rfl,_,kB _ _ _ hv,by simp only[VR];exact⟨_,rfl⟩⟩
   ·cases e
  ·cases e
 ·cases e
end
end Go.Ab

noncomputable section
namespace Go.Ab
variable [Io]
def eR(P:Program)(call:cZ):Prop:=
 ∀ f args h v h',call f args h=.ok v h'->(∀ as w,(callFunc f as).run P w=.ok (.enter f as) w)/\
  ∀ (g:G) (w:World) (vs:List Value),HR g w h->bL g w args vs->
   Calls P f vs.toArray w fun e w'=> ∃ x g',e=.returned x/\Ext g w h g' w' h'/\HR g' w' h'/\VR g' w' v x
def C3(P:Program)(op:BinOp)(T:TypeId):Option (AV->AV->Option AV):=
 match op with
 | .add=>some bA| .sub=>some fC| .mul=>some mF| .quo=>some G8| .rem=>some z9
 | .and=>some lH| .or=>some nq| .xor=>some G9| .andNot=>some px| .shl=>some lI| .shr=>some lJ
 | .lss=>some a8| .leq=>some iq| .gtr=>some fT| .geq=>some fJ
 | .eql=>match P.underlying T with
  |some (.int _)=>some (aD false)
  |some .bool=>some (AZ false)
  |some .string=>some (A0 false)
  |some (.pointer _)=>some (qz false)
  |some (.slice _)=>some (nK false)
  |some (.struct _)=>I7 P false T
  | _=>none
 | .neq=>match P.underlying T with
  |some (.int _)=>some (aD true)
  |some .bool=>some (AZ true)
  |some .string=>some (A0 true)
  |some (.pointer _)=>some (qz true)
  |some (.slice _)=>some (nK true)
  |some (.struct _)=>I7 P true T
  | _=>none
theorem Rj{P:Program}{op:BinOp}{T:TypeId}{f:AV->AV->Option AV}(h:C3 P op T=some f):cU P op T f:=by
 unfold C3 at h
 cases op<;>simp only at h
 case eql=>
  split at h
  ·cases h;exact LK T
  ·rename_i hu;cases h;exact QW hu
  ·cases h;exact QY T
  ·rename_i hu;cases h;exact Q0 hu
  ·rename_i hu;cases h;exact Q2 hu
  ·exact Rg h
  ·cases h
 case neq=>
  split at h
  ·cases h;exact LL T
  ·rename_i hu;cases h;exact QX hu
  ·cases h;exact QZ T
  ·rename_i hu;cases h;exact Q1 hu
  ·rename_i hu;cases h;exact Q3 hu
  ·exact Rh h
  ·cases h
 all_goals cases h
 case add=>exact Lt T
 case sub=>exact Lu T
 case mul=>exact LJ T
 case quo=>exact LH T
 case rem=>exact LG T
 case and=>exact Lv T
 case or=>exact Lw T
 case xor=>exact Lx T
 case shl=>exact Ly T
 case shr=>exact Lz T
 case andNot=>exact Fl T
 case lss=>exact LA T
 case leq=>exact LD T
 case gtr=>exact LC T
 case geq=>exact LF T
def XA(op:UnOp):Option (AV->Option AV):=
 match op with
 | .not=>some jY
 | .neg=>some KS
 | .xor=>some IK
 | .plus=>none
def C4(P:Program)(T:TypeId)(x:Operand):eG:=
 match P.underlying T with
 |some d=>match P.info? T with
  |some i=>bh i.size (j4 d) (aQ x)
  |none=>bP
 |none=>bP
def Ao(P:Program)(S D:TypeId)(x:Operand):eG:=
 match P.underlying S with
 |some _=>match P.underlying D with
  |some (.int k)=>fm (cp k) (aQ x)
  | _=>bP
 |none=>bP
def Bi(P:Program)(S D:TypeId)(x:Operand):eG:=
 match P.underlying S with
 |some .string=>match P.underlying D with
  |some (.slice e)=>match P.underlying e with
   |some (.int .u8)=>py (aQ x)
   | _=>bP
  | _=>bP
 |some (.slice _)=>match P.underlying D with
  |some (.slice e)=>match P.underlying e with
   |some (.int .u8)=>il (Nat.beq S D) (sG (aQ x)) bP
   | _=>bP
  | _=>bP
 | _=>bP
def mL(P:Program)(T:TypeId)(x:Operand)(n:Nat):eG:=
 match P.underlying T with
 |some (.struct fs)=>match fs[n]? with
  |some f=>match P.info? f.type with
   |some i=>il (Nat.blt 0 i.size) (ab f.offset (aQ x)) bP
   |none=>bP
  |none=>bP
 | _=>bP
def xU(P:Program)(T:TypeId)(x:Operand)(n:Nat):eG:=
 match P.underlying T with
 |some (.struct fs)=>match fs[n]? with
  |some f=>match P.underlying f.type with
   |some d=>match P.info? f.type with
    |some i=>nP f.offset i.size (j4 d) (aQ x)
    |none=>bP
   |none=>bP
  |none=>bP
 | _=>bP
def mM(P:Program)(T:TypeId)(x y:Operand):eG:=
 match P.underlying T with
 |some (.slice e)=>match P.info? e with
  |some i=>bH i.size (aQ x) (aQ y)
  |none=>bP
 |some (.array n e)=>match P.info? e with
  |some i=>sj n i.size (aQ x) (aQ y)
  |none=>bP
 | _=>bP
def xV(P:Program)(T:TypeId)(x y:Operand):eG:=
 match P.underlying T with
 |some (.array n e)=>match P.underlying e with
  |some d=>match P.info? e with
   |some i=>ly n i.size (j4 d) (aQ x) (aQ y)
   |none=>bP
  |none=>bP
 |some .string=>cF (aQ x) (aQ y)
 | _=>bP
def xW(P:Program)(T:TypeId)(x:Operand)(lo hi:Option Operand):eG:=
 match P.underlying T with
 |some .string=>dk (aQ x) (lo.map aQ) (hi.map aQ)
 |some (.slice e)=>match P.info? e with
  |some i=>dg i.size (aQ x) (lo.map aQ) (hi.map aQ)
  |none=>bP
 |some (.array n e)=>match P.info? e with
  |some i=>il (Nat.blt 0 i.size) (fX n i.size (aQ x) (lo.map aQ) (hi.map aQ)) bP
  |none=>bP
 | _=>bP
def uj(P:Program)(T:TypeId)(x:Operand)(lo hi:Option Operand)(m:Operand):eG:=
 match lo,hi with
 |none,some y=>match P.underlying T with
  |some (.slice e)=>match P.info? e with
   |some _=>xG (wO (aQ x)) (aQ y) (aQ m)
   |none=>bP
  | _=>bP
 | _,_=>bP
def LO(P:Program)(T:TypeId)(x:Operand):eG:=
 match P.underlying T with
 |some .string=>jZ (aQ x)
 |some (.slice _)=>aV (wO (aQ x))
 |some (.array n _)=>aa (oC (.int .i64 (.ofNat n)))
 | _=>bP
def LP(P:Program)(T:TypeId)(x:Operand):eG:=
 match P.underlying T with
 |some (.slice _)=>tX (wO (aQ x))
 | _=>bP
def LQ(P:Program)(T:TypeId):eG:=
 match zeroOf P T with
 |some z=>dJ z
 |none=>bP
inductive Cl where
 |p0|p1|al|ch
def Ho(P:Program)(call:cZ)(c:Call):eG:=
 match c with
 |⟨.builtin .append,args,s7⟩=>match args.toList,s7.toList with
  | [s,x],[T,T']=>il (Nat.beq T T') (xk P T s x) (Hl P T T' s x)
  | _,_=>bP
 |⟨.builtin .copy,args,s7⟩=>match args.toList,s7.toList with
  | [d,s],[T,_]=>Hn P T d s
  | _,_=>bP
 |⟨.value (.func f),args,_⟩=>an call f (args.toList.map aQ)
 |⟨.value f,args,_⟩=>iu call (aQ f) (args.toList.map aQ)
 | _=>bP
def jm(P:Program)(c:Call):Option eG:=
 match c with
 |⟨.builtin .len,args,s7⟩=>match args.toList,s7.toList with
  | [x],[T]=>some (LO P T x)
  | _,_=>some bP
 |⟨.builtin .cap,args,s7⟩=>match args.toList,s7.toList with
  | [x],[T]=>some (LP P T x)
  | _,_=>some bP
 |⟨.builtin .min,args,_⟩=>match args.toList with
  | [x,y]=>some (A1 (aQ x) (aQ y))
  | _=>some bP
 |⟨.builtin .max,args,_⟩=>match args.toList with
  | [x,y]=>some (A2 (aQ x) (aQ y))
  | _=>some bP
 | _=>none
def pG(P:Program)(call:cZ)(o:Op):Cl×eG:=
 match o with
 | .move x=>(.p0,aa (aQ x))
 | .assign x=>(.p0,aa (aQ x))
 | .pick c x y=>(.p0,aW (aQ c) (aQ x) (aQ y))
 | .alloc T=>(.al,LQ P T)
 | .box _ x=>(.al,dV (aQ x))
 | .build T ps=>(.p0,xQ P T ps.toList)
 | .buildSlice T n ps=>(.al,Li P T n ps.toList)
 | .load T x=>(.p1,C4 P T x)
 | .store T x y=>(.ch,Be P T x y)
 | .nilCheck x=>(.p0,bt (aQ x))
 | .binOp op T x y _=>match C3 P op T with
  |some f=>(.p0,ah f (aQ x) (aQ y))
  |none=>(.p0,bP)
 | .unOp op _ x=>match XA op with
  |some f=>(.p0,fm f (aQ x))
  |none=>(.p0,bP)
 | .convert S D x=>match P.underlying D with
  |some (.slice _)=>(.ch,Bi P S D x)
  | _=>(.p0,Ao P S D x)
 | .makeFunc (.func f) first caps=>match first.toList with
  | []=>(.p0,Qc f (caps.toList.map aQ))
  | _=>(.p0,bP)
 | .makeSlice T l c=>(.al,CU P T l c)
 | .makeMap _ r=>match r with
  |none=>(.ch,IL)
  |some _=>(.ch,bP)
 | .slice T x lo hi none=>(.p1,xW P T x lo hi)
 | .slice T x lo hi (some m)=>(.p1,uj P T x lo hi m)
 | .fieldAddr T x n=>(.p0,mL P T x n)
 | .field T x n=>(.p0,xU P T x n)
 | .indexAddr T x y=>(.p0,mM P T x y)
 | .index T x y=>(.p0,xV P T x y)
 | .extract x i=>(.p0,aO (aQ x) i)
 | .call c=>match jm P c with
  |some f=>(.p0,f)
  |none=>(.ch,Ho P call c)
 | _=>(.ch,bP)
def Bj(P:Program)(o:Oper)(f:eG):Prop:=
 ∀ (g:G) (w:World) (nt:Nat) (t:Tm) (h:Hp) (a:Act) (v:AV) (h':Hp),HR g w h->TR g w nt t a.tmps->f t h=.ok v h'->
  ∀ next Q,(∀ g' w' x,Ext g w h g' w' h'->HR g' w' h'->VR g' w' v x->next (a.put o.dst x) w')->o.wp P a w next Q
section
variable {P:Program}{o:Oper}
theorem mH.ok{f:eG}(h:mH P o f):Bj P o f:=by
 intro g w nt t hp a v h' H T e next Q K
 obtain⟨g',w',nx,x,hr,hnx,E,H',hv⟩:=h g w nt t hp a v h' H T e
 unfold Oper.wp
 rw[hr]
 rcases hnx with rfl|⟨rfl,rfl⟩
 ·exact K g' w' x E H' hv
 ·exact K g' w' undef E H' hv
theorem bT.ok{f:eG}(h:bT P o f):Bj P o f:=h.run.ok
theorem oi.ok{f:eG}(h:oi P o f):Bj P o f:=h.run.ok
theorem vG:Bj P o bP:=by intro g w nt t h a v h' _ _ e;cases e
theorem Rk{f:FuncId}{args:Array Operand}{s7:Array TypeId}{call:cZ}(hc:eR P call)(ho:o.op=.call {callee:=.value (.func f),args,argTypes:=s7}):
 Bj P o (an call f (args.toList.map aQ)):=by
 intro g w nt t h a v h' H T e next Q K
 unfold an at e
 split at e
 ·rename_i vs eH
  obtain⟨hen,Ap⟩:=hc f vs h v h' e
  have hv:=xh T args.toList eH
  have hr:(execOp a.eval o).run P w=.ok (.enter f (args.map a.eval)) w:=by
   simp[execOp,ho,resolve,Act.eval,Deferred.ofValue,invoke,hen]
  unfold Oper.wp
  rw[hr,Oper.upon_enter]
  have:=Ap g w (args.toList.map a.eval) H hv
  rw[show(args.toList.map a.eval).toArray=args.map a.eval from by rw[<-Array.toList_map,Array.toArray_toList]]at this
  refine this.mono ?_
  rintro e w' ⟨x,g',rfl,E,H',hx⟩
  exact K g' w' x E H' hx
 ·cases e
theorem LU{f:Operand}{args:Array Operand}{s7:Array TypeId}{call:cZ}(hc:eR P call)(ho:o.op=.call {callee:=.value f,args,argTypes:=s7}):
 Bj P o (iu call (aQ f) (args.toList.map aQ)):=by
 intro g w nt t h a v h' H T e next Q K
 unfold iu at e
 split at e
 ·rename_i k cap hf
  split at e
  ·rename_i vs eH
   have VD:=bg f _ _ _ _ _ _ T hf
   simp only[VR]at VD
   obtain⟨caps,hfe,acY⟩:=VD
   obtain⟨hen,Ap⟩:=hc k _ h v h' e
   have hv:=xh T args.toList eH
   have hr:(execOp a.eval o).run P w=.ok (.enter k (args.map a.eval++caps)) w:=by
    simp[execOp,ho,resolve,hfe,Deferred.ofValue,invoke,hen]
   unfold Oper.wp
   rw[hr,Oper.upon_enter]
   rw[bp]at Ap
   have:=Ap g w (args.toList.map a.eval++caps.toList) H (hv.append acY)
   rw[show(args.toList.map a.eval++caps.toList).toArray=args.map a.eval++caps from by rw[<-Array.toList_map,<-Array.toList_append,Array.toArray_toList]]at this
   refine this.mono ?_
   rintro e w' ⟨x,g',rfl,E,H',hx⟩
   exact K g' w' x E H' hx
  ·cases e
 ·cases e
end
end Go.Ab

noncomputable section
namespace Go.Ab
variable [Io]
section
variable {P:Program}{o:Oper}{call:cZ}
theorem FD{T:TypeId}{x:Operand}(ho:o.op=.load T x):bT P o (C4 P T x):=by
 unfold C4
 split
 ·rename_i d hd
  split
  ·rename_i i hi;exact IW ho hd hi
  ·exact bG
 ·exact bG
theorem xX{S D:TypeId}{x:Operand}(ho:o.op=.convert S D x):bT P o (Ao P S D x):=by
 unfold Ao
 split
 ·rename_i d hd
  split
  ·rename_i k hk;exact FC ho hd hk
  ·exact bG
 ·exact bG
theorem FF{S D:TypeId}{x:Operand}(ho:o.op=.convert S D x):mH P o (Bi P S D x):=by
 unfold Bi
 split
 ·rename_i hS
  split
  ·rename_i e hD
   split
   ·rename_i he;exact FB ho hS hD he
   ·exact bG.run
  ·exact bG.run
 ·split
  ·rename_i e hD
   split
   ·rename_i he
    cases h:Nat.beq S D with
    |true=>
     obtain rfl:=Nat.eq_of_beq_eq_true h
     exact I5 ho hD he
    |false=>exact bG.run
   ·exact bG.run
  ·exact bG.run
 ·exact bG.run
theorem C5{c:Bool}{f:eG}(h:c=true->bT P o f):bT P o (il c f bP):=by
 cases c with
 |true=>exact h rfl
 |false=>exact bG
theorem wN{T:TypeId}{x:Operand}{n:Nat}(ho:o.op=.fieldAddr T x n):bT P o (mL P T x n):=by
 unfold mL
 split
 ·rename_i fs hd
  split
  ·rename_i f hf
   split
   ·rename_i i hi
    exact C5 fun h=>xO ho hd hf hi (by have:=bO.1 h;omega)
   ·exact bG
  ·exact bG
 ·exact bG
theorem C6{T:TypeId}{x:Operand}{n:Nat}(ho:o.op=.field T x n):bT P o (xU P T x n):=by
 unfold xU
 split
 ·rename_i fs hd
  split
  ·rename_i f hf
   split
   ·rename_i d zu
    split
    ·rename_i i hi
     exact Fm ho hd hf zu hi
    ·exact bG
   ·exact bG
  ·exact bG
 ·exact bG
theorem wP{T:TypeId}{x y:Operand}(ho:o.op=.indexAddr T x y):bT P o (mM P T x y):=by
 unfold mM
 split
 ·rename_i e hd
  split
  ·rename_i i hi;exact La ho hd hi
  ·exact bG
 ·rename_i n e hd
  split
  ·rename_i i hi;exact Lb ho hd hi
  ·exact bG
 ·exact bG
theorem C7{T:TypeId}{x y:Operand}(ho:o.op=.index T x y):bT P o (xV P T x y):=by
 unfold xV
 split
 ·rename_i n e hd
  split
  ·rename_i d zu
   split
   ·rename_i i hi;exact Fo ho hd zu hi
   ·exact bG
  ·exact bG
 ·rename_i hd;exact CO ho hd
 ·exact bG
theorem Bk{T:TypeId}{x:Operand}{lo hi:Option Operand}{m:Operand}(ho:o.op=.slice T x lo hi (some m)):bT P o (uj P T x lo hi m):=by
 unfold uj
 split
 ·split
  ·rename_i e hd
   split
   ·rename_i i hi;exact I' ho hd hi
   ·exact bG
  ·exact bG
 ·exact bG
theorem C8{T:TypeId}{x:Operand}{lo hi:Option Operand}(ho:o.op=.slice T x lo hi none):bT P o (xW P T x lo hi):=by
 unfold xW
 split
 ·rename_i hd;exact CP ho hd
 ·rename_i e hd
  split
  ·rename_i i hi;exact CQ ho hd hi
  ·exact bG
 ·rename_i n e hd
  split
  ·rename_i i hi;exact C5 fun h=>CR ho hd hi (by have:=bO.1 h;omega)
  ·exact bG
 ·exact bG
theorem Ja{T:TypeId}{x:Operand}(ho:o.op=.call {callee:=.builtin .cap,args:= #[x],argTypes:= #[T]}):bT P o (LP P T x):=by
 unfold LP
 split
 ·rename_i hd;exact K' ho hd
 ·exact bG
theorem Jb{T:TypeId}{x:Operand}(ho:o.op=.call {callee:=.builtin .len,args:= #[x],argTypes:= #[T]}):bT P o (LO P T x):=by
 unfold LO
 split
 ·rename_i hd;exact IU ho hd
 ·rename_i e hd;exact K9 ho hd
 ·rename_i n e hd;exact IV ho hd
 ·exact bG
theorem Rl:oi P o bP:=by intro g w nt t h a v h' _ _ e;cases e
theorem LV{T:TypeId}(ho:o.op=.alloc T):oi P o (LQ P T):=by
 unfold LQ
 split
 ·rename_i z hz;exact Lg ho hz
 ·exact Rl
theorem LW{op:UnOp}{T:TypeId}{x:Operand}{f:AV->Option AV}(ho:o.op=.unOp op T x)(h:XA op=some f):bT P o (fm f (aQ x)):=by
 cases op<;>cases h
 ·exact K7 ho
 ·exact K8 ho
 ·exact K4 ho
omit [Io] in
theorem Rm{α:Type}{a:Array α}{x:α}(h:a.toList=[x]):a= #[x]:=by
 rw[<-Array.toArray_toList (xs:=a),h]
omit [Io] in
theorem Jc{α:Type}{a:Array α}{x y:α}(h:a.toList=[x,y]):a= #[x,y]:=by
 rw[<-Array.toArray_toList (xs:=a),h]
theorem zF{c:Call}{f:eG}(ho:o.op=.call c)(h:jm P c=some f):bT P o f:=by
 unfold jm at h
 split at h
 ·rename_i args s7
  split at h
  ·rename_i x T h1 h2
   cases h
   rw[Rm h1,Rm h2]at ho
   exact Jb ho
  ·cases h;exact bG
 ·rename_i args s7
  split at h
  ·rename_i x T h1 h2
   cases h
   rw[Rm h1,Rm h2]at ho
   exact Ja ho
  ·cases h;exact bG
 ·rename_i args s7
  split at h
  ·rename_i x y h1
   cases h
   rw[Jc h1]at ho
   exact LM ho
  ·cases h;exact bG
 ·rename_i args s7
  split at h
  ·rename_i x y h1
   cases h
   rw[Jc h1]at ho
   exact LN ho
  ·cases h;exact bG
 ·cases h
theorem LX(hc:eR P call){c:Call}(ho:o.op=.call c):Bj P o (Ho P call c):=by
 unfold Ho
 split
 ·rename_i args s7
  split
  ·rename_i s x T T' h1 h2
   rw[Jc h1,Jc h2]at ho
   cases h:Nat.beq T T' with
   |true=>
    obtain rfl:=Nat.eq_of_beq_eq_true h
    exact(CY ho).ok
   |false=>exact(I3 ho).ok
  ·exact vG
 ·rename_i args s7
  split
  ·rename_i d s T T' h1 h2
   rw[Jc h1,Jc h2]at ho
   exact(I9 ho).ok
  ·exact vG
 ·exact Rk hc ho
 ·exact LU hc ho
 ·exact vG
theorem Bl(hc:eR P call):match pG P call o.op with
 |(.p0,f)=>bT P o f
 |(.p1,f)=>bT P o f
 |(.al,f)=>oi P o f
 |(.ch,f)=>Bj P o f:=by
 cases ho:o.op<;>simp only[pG]
 case move x=>exact Ad (.inl ho)
 case assign x=>exact Ad (.inr ho)
 case pick c x y=>exact IQ ho
 case alloc T=>exact LV ho
 case box T x=>exact Lh ho
 case build T ps=>exact Fs ho
 case buildSlice T n ps=>exact Lj ho
 case load T x=>exact FD ho
 case store T x y=>exact(Fv ho).ok
 case nilCheck x=>exact pure_nil ho
 case binOp op T x y yT=>
  cases h:C3 P op T with
  |some f=>exact KX ho (Rj h)
  |none=>exact bG
 case unOp op T x=>
  cases h:XA op with
  |some f=>exact LW ho h
  |none=>exact bG
 case convert S D x=>
  cases h:P.underlying D with
  |none=>exact xX ho
  |some d=>cases d<;>first|exact xX ho|exact(FF ho).ok
 case makeFunc f first caps=>
  cases f<;>try exact vG
  rename_i f
  simp only
  cases h:first.toList with
  |nil=>
   have:first= #[]:=by rw[<-Array.toArray_toList (xs:=first),h]
   subst this
   exact Q4 ho
  |cons a l=>exact bG
 case makeSlice T l c=>exact IX ho
 case makeMap T r=>cases r with
  |none=>exact(Lq ho).ok
  |some _=>exact vG
 case slice T x lo hi mx=>
  cases mx with
  |none=>exact C8 ho
  |some m=>exact Bk ho
 case fieldAddr T x n=>exact wN ho
 case field T x n=>exact C6 ho
 case indexAddr T x y=>exact wP ho
 case index T x y=>exact C7 ho
 case extract x i=>exact Bb ho
 case call c=>
  cases h:jm P c with
  |some f=>exact zF ho h
  |none=>exact LX hc ho
 all_goals exact vG
theorem LY(hc:eR P call):Bj P o (pG P call o.op).2:=by
 have:=Bl (o:=o) hc
 cases h:pG P call o.op with
 |mk c f=>
  rw[h]at this
  cases c
  ·exact bT.ok this
  ·exact bT.ok this
  ·exact oi.ok this
  ·exact this
def gF(j:eN)(want:Bool)(f:eG):eG:=fun t h=>match j t with
 |some (.bool b)=>il (il want b (!b)) (f t h) (.ok gQ h)
 |some (.wK [])=>.ok gQ h
 | _=>.bad
def lh(P:Program)(call:cZ)(nt:Nat)(all:List Oper)(o:Oper):eG:=
 match o.guard with
 |none=>(pG P call o.op).2
 |some (j,want)=>match lr all j with
  |some oj=>match oj.dst with
   |some d=>il (Nat.blt d nt) (gF (oT d) want (pG P call o.op).2) bP
   |none=>bP
  |none=>bP
def lQ(P:Program)(call:cZ)(nt:Nat)(all l:List Oper):ng:=
 List.rec fi (fun o _ ih=>match o.dst with
  |some d=>il (Nat.blt d nt) (st (sT d) (lh P call nt all o) ih) (fun _ _=>.bad)
  |none=>sn (lh P call nt all o) ih) l
theorem Bm(hc:eR P call){ops:Array Oper}{i:Nat}(hi:ops[i]? =some o){g w nt t h}{a:Act}{v:AV}{h':Hp}(H:HR g w h)(T:TR g w nt t a.tmps)
 (e:lh P call nt ops.toList o t h=.ok v h'){Q:Exit->Act->World->Prop}{rest:List Nat}
 (K: ∀ g' w' x,Ext g w h g' w' h'->HR g' w' h'->VR g' w' v x->wpOps P ops Q rest (a.put o.dst x) w'):wpOps P ops Q (i::rest) a w:=by
 rw[wpOps,hi]
 simp only
 unfold lh at e
 cases hg:o.guard with
 |none=>
  rw[hg]at e
  rw[if_pos (by simp[Region.wanted,hg])]
  exact .inl (LY hc g w nt t h a v h' H T e _ _ K)
 |some p=>
  obtain⟨j,want⟩:=p
  rw[hg]at e
  simp only[gH]at e
  cases hj:ops.toList[j]? with
  |none=>simp only[hj]at e;cases e
  |some oj=>
  simp only[hj]at e
  cases hd:oj.dst with
  |none=>simp only[hd]at e;cases e
  |some d=>
  simp only[hd]at e
  cases hb:Nat.blt d nt with
  |false=>simp only[hb]at e;cases e
  |true=>
  simp only[hb]at e
  have KA:=bO.1 hb
  change gF (oT d) want (pG P call o.op).2 t h=.ok v h' at e
  have hj':ops[j]? =some oj:=by simpa using hj
  have sr:=T.2.1
  have hy: ∀ y,a.tmps.getD d undef=y->yielded ops a.tmps j=match y with| .bool b=>some b| _=>none:=by
   intro y hy
   have:a.tmps[d]? =some y:=by
    rw[Array.getD_eq_getD_getElem?]at hy
    rw[Array.getElem?_eq_getElem (by omega)]at hy ⊢
    simpa using hy
   simp[yielded,hj',hd,this]
   cases y<;>rfl
  unfold gF at e
  split at e
  ·rename_i b CW
   have hv:=(T.2.2 d _ (by have:=T.1;omega) CW).2
   simp only[VR]at hv
   have Rp:=hy _ hv
   cases Rq:(il want b (!b))with
   |true=>
    rw[Rq]at e
    have:b=want:=by cases want<;>cases b<;>simp[il]at Rq<;>rfl
    rw[if_pos (by simp[Region.wanted,hg,Rp,this])]
    exact .inl (LY hc g w nt t h a v h' H T e _ _ K)
   |false=>
    rw[Rq]at e
    have:b≠want:=by cases want<;>cases b<;>simp[il]at Rq<;>simp
    rw[if_neg (by simp[Region.wanted,hg,Rp,this])]
    cases e
    exact K g w undef (Ext.refl _ _ _) H (by simp only[gQ,VR];exact⟨_,rfl,by simp[bL]⟩)
  ·rename_i CW
   have hv:=(T.2.2 d _ (by have:=T.1;omega) CW).2
   simp only[VR]at hv
   obtain⟨vs,hv,eH⟩:=hv
   have Rp:=hy _ hv
   rw[if_neg (by simp[Region.wanted,hg,Rp])]
   cases e
   exact K g w undef (Ext.refl _ _ _) H (by simp only[gQ,VR];exact⟨_,rfl,by simp[bL]⟩)
  ·cases e
end
end Go.Ab

noncomputable section
namespace Go.Ab
variable [Io]
section
variable {P:Program}{call:cZ}
def ou(g:G)(w:World)(h:Hp)(nt:Nat)(t':Tm)(h':Hp)(R:Act->World->Prop):Prop:=
 ∀ g' w' a',Ext g w h g' w' h'->HR g' w' h'->TR g' w' nt t' a'.tmps->a'.defers=[]->R a' w'
theorem ou.then{g w h nt h1 g1 w1 t2 h2}{R:Act->World->Prop}(E:Ext g w h g1 w1 h1)(K:ou g w h nt t2 h2 R):ou g1 w1 h1 nt t2 h2 R:=
 fun g' w' a' E' H' T' D'=>K g' w' a' (E.trans E') H' T' D'
def Ru(P:Program)(nt:Nat)(c:Code)(r:ng):Prop:=
 ∀ (g:G) (w:World) (t:Tm) (h:Hp) (a:Act) (t':Tm) (h':Hp),HR g w h->TR g w nt t a.tmps->a.defers=[]->r t h=.ok t' h'->
  ∀ Q:Exit->Act->World->Prop,ou g w h nt t' h' (Q .normal)->c.wp P Q a w
theorem Rv{g w nt t}{a:Act}{d:Nat}{v:AV}{x:Value}(T:TR g w nt t a.tmps)(hd:d<nt)(hv:VR g w v x):TR g w nt (sT d v t) (a.put (some d) x).tmps:=
 T.put hd hv
theorem LZ(hc:eR P call){nt:Nat}(ops:Array Oper): ∀ (l pre:List Oper),ops.toList=pre++l-> ∀ (g:G) (w:World) (t:Tm) (h:Hp) (a:Act) (t':Tm) (h':Hp),
 HR g w h->TR g w nt t a.tmps->a.defers=[]->lQ P call nt ops.toList l t h=.ok t' h'-> ∀ Q:Exit->Act->World->Prop,ou g w h nt t' h' (Q .normal)->
  wpOps P ops Q (List.range' pre.length l.length) a w
 | [],pre,_,g,w,t,h,a,t',h',H,T,D,e,Q,K=>by
  cases e
  exact K g w a (Ext.refl _ _ _) H T D
 |o::l,pre,hl,g,w,t,h,a,t',h',H,T,D,e,Q,K=>by
  have hi:ops[pre.length]? =some o:=by
   have:ops.toList[pre.length]? =some o:=by rw[hl];simp
   simpa using this
  have ih:=LZ hc (nt:=nt) ops l (pre++[o]) (by simp[hl])
  simp only[List.length_append,List.length_cons,List.length_nil,Nat.zero_add]at ih
  rw[List.length_cons,List.range'_succ]
  change (match o.dst with
   |some d=>il (Nat.blt d nt) (st (sT d) (lh P call nt ops.toList o) (lQ P call nt ops.toList l)) (fun _ _=>.bad)
   |none=>sn (lh P call nt ops.toList o) (lQ P call nt ops.toList l)) t h=.ok t' h' at e
  cases hd:o.dst with
  |none=>
   simp only[hd]at e
   unfold sn at e
   cases hg:lh P call nt ops.toList o t h with
   |bad=>rw[hg]at e;cases e
   |ok v h1=>
    rw[hg]at e
    refine Bm hc hi H T hg fun g1 w1 x E H1 hv=>?_
    rw[hd]
    exact ih g1 w1 t h1 a t' h' H1 (T.mono H E) D e Q (ou.then E K)
  |some d=>
   simp only[hd]at e
   cases hb:Nat.blt d nt with
   |false=>simp only[hb]at e;cases e
   |true=>
    simp only[hb]at e
    change st (sT d) (lh P call nt ops.toList o) (lQ P call nt ops.toList l) t h=.ok t' h' at e
    unfold st at e
    cases hg:lh P call nt ops.toList o t h with
    |bad=>rw[hg]at e;cases e
    |ok v h1=>
     rw[hg]at e
     refine Bm hc hi H T hg fun g1 w1 x E H1 hv=>?_
     rw[hd]
     exact ih g1 w1 (sT d v t) h1 (a.put (some d) x) t' h' H1 (Rv (T.mono H E) (bO.1 hb) hv) D e Q (ou.then E K)
theorem Jd(hc:eR P call){nt:Nat}(id:Nat)(ops:Array Oper):Ru P nt (.region id ops false) (lQ P call nt ops.toList ops.toList):=by
 intro g w t h a t' h' H T D e Q K
 refine wp_region ?_
 have:=LZ hc ops ops.toList [] rfl g w t h a t' h' H T D e Q K
 rw[List.range_eq_range']
 simpa using this
def Je(P:Program)(nt:Nat)(c:Code)(f:zt):Prop:=
 ∀ (g:G) (w:World) (t:Tm) (h:Hp) (a:Act) (Q:Exit->Act->World->Prop),HR g w h->TR g w nt t a.tmps->a.defers=[]->
  match f t h with
  | .bad=>True
  | .norm t' h'=>ou g w h nt t' h' (Q .normal)->c.wp P Q a w
  | .ret t' h'=>ou g w h nt t' h' (Q .ret)->c.wp P Q a w
  | .exit i t' h'=>ou g w h nt t' h' (Q (.exit i))->c.wp P Q a w
def gP(P:Program)(draw:Array Oper->ng)(call:cZ)(n nt:Nat)(c:Code):zt:=
 Code.rec (motive:=fun _=>zt) bU
  (fun _ ops d=>ai (Bool.rec (lQ P call nt ops.toList ops.toList) (draw ops) d))
  (fun _ _ ia ib=>af ia ib)
  (fun c _ _ ia ib=>bu (aQ c) ia ib)
  (fun id _ ib=>di id ib)
  (fun _ ib=>iw n ib)
  (fun _ _ _ _ _ _=>CH)
  (fun i=>jd i)
  (fun _ _=>CH)
  (fun _=>CH)
  (fun _=>CH)
  cN
  (fun _=>CH) c
theorem xY{nt:Nat}{c:Code}:Je P nt c CH:=by
 intro g w t h a Q H T D
 exact trivial
theorem Bn(hc:eR P call){draw:Array Oper->ng}{nt:Nat}(hd: ∀ id ops,Ru P nt (.region id ops true) (draw ops))(n:Nat): ∀ c,Je P nt c (gP P draw call n nt c):=by
 intro c
 induction c with
 |skip=>
  intro g w t h a Q H T D K
  exact wp_skip (K g w a (Ext.refl _ _ _) H T D)
 |region id ops d=>
  intro g w t h a Q H T D
  have key:Ru P nt (.region id ops d) (Bool.rec (lQ P call nt ops.toList ops.toList) (draw ops) d):=by
   cases d with
   |false=>exact Jd hc id ops
   |true=>exact hd id ops
  show match ai (Bool.rec (lQ P call nt ops.toList ops.toList) (draw ops) d) t h with| .bad=>_| .norm _ _=>_| .ret _ _=>_| .exit _ _ _=>_
  unfold ai
  cases e:(Bool.rec (lQ P call nt ops.toList ops.toList) (draw ops) d:ng) t h with
  |bad=>exact trivial
  |ok t' h'=>exact fun K=>key g w t h a t' h' H T D e Q K
 |seq x y hx hy=>
  intro g w t h a Q H T D
  show match af (gP P draw call n nt x) (gP P draw call n nt y) t h with| .bad=>_| .norm _ _=>_| .ret _ _=>_| .exit _ _ _=>_
  unfold af
  have h1:=hx g w t h a (Exit.then (y.wp P Q) Q) H T D
  cases e:gP P draw call n nt x t h with
  |bad=>exact trivial
  |ret t1 n8=>rw[e]at h1;exact fun K=>wp_seq (h1 K)
  |exit i t1 n8=>rw[e]at h1;exact fun K=>wp_seq (h1 K)
  |norm t1 n8=>
   rw[e]at h1
   show match gP P draw call n nt y t1 n8 with| .bad=>_| .norm _ _=>_| .ret _ _=>_| .exit _ _ _=>_
   cases e2:gP P draw call n nt y t1 n8 with
   |bad=>exact trivial
   |norm t2 h2=>
    intro K
    refine wp_seq (h1 fun g1 w1 a1 E1 H1 T1 D1=>?_)
    have:=hy g1 w1 t1 n8 a1 Q H1 T1 D1
    rw[e2]at this
    exact this (ou.then E1 K)
   |ret t2 h2=>
    intro K
    refine wp_seq (h1 fun g1 w1 a1 E1 H1 T1 D1=>?_)
    have:=hy g1 w1 t1 n8 a1 Q H1 T1 D1
    rw[e2]at this
    exact this (ou.then E1 K)
   |exit i t2 h2=>
    intro K
    refine wp_seq (h1 fun g1 w1 a1 E1 H1 T1 D1=>?_)
    have:=hy g1 w1 t1 n8 a1 Q H1 T1 D1
    rw[e2]at this
    exact this (ou.then E1 K)
 |cond c x y hx hy=>
  intro g w t h a Q H T D
  show match bu (aQ c) (gP P draw call n nt x) (gP P draw call n nt y) t h with| .bad=>_| .norm _ _=>_| .ret _ _=>_| .exit _ _ _=>_
  unfold bu
  cases gh:aQ c t with
  |none=>exact trivial
  |some v=>
   cases v<;>try exact trivial
   rename_i b
   have hv:=bg c _ _ _ _ _ _ T gh
   simp only[VR]at hv
   cases b with
   |true=>
    have:=hx g w t h a Q H T D
    show match gP P draw call n nt x t h with| .bad=>_| .norm _ _=>_| .ret _ _=>_| .exit _ _ _=>_
    cases e:gP P draw call n nt x t h<;>rw[e]at this
    ·exact trivial
    all_goals exact fun K=>wp_cond_true hv (this K)
   |false=>
    have:=hy g w t h a Q H T D
    show match gP P draw call n nt y t h with| .bad=>_| .norm _ _=>_| .ret _ _=>_| .exit _ _ _=>_
    cases e:gP P draw call n nt y t h<;>rw[e]at this
    ·exact trivial
    all_goals exact fun K=>wp_cond_false hv (this K)
 |block id x hx=>
  intro g w t h a Q H T D
  show match di id (gP P draw call n nt x) t h with| .bad=>_| .norm _ _=>_| .ret _ _=>_| .exit _ _ _=>_
  unfold di
  have:=hx g w t h a (Exit.inBlock id Q) H T D
  cases e:gP P draw call n nt x t h<;>rw[e]at this
  ·exact trivial
  ·exact fun K=>wp_block (this K)
  ·exact fun K=>wp_block (this K)
  ·rename_i i t1 h1
   show match(Bool.rec (Rc.exit i t1 h1) (Rc.norm t1 h1) (Nat.beq i id):Rc)with| .bad=>_| .norm _ _=>_| .ret _ _=>_| .exit _ _ _=>_
   cases hb:Nat.beq i id with
   |true=>
    obtain rfl:=Nat.eq_of_beq_eq_true hb
    exact fun K=>wp_block (this fun g' w' a' E' H' T' D'=>by
     show Exit.inBlock i Q (.exit i) a' w'
     simp only[Exit.inBlock,if_true]
     exact K g' w' a' E' H' T' D')
   |false=>
    have jR:i≠id:=fun k=>by rw[k,Nat.beq_refl]at hb;cases hb
    exact fun K=>wp_block (this fun g' w' a' E' H' T' D'=>by
     show Exit.inBlock id Q (.exit i) a' w'
     simp only[Exit.inBlock,if_neg jR]
     exact K g' w' a' E' H' T' D')
 |loop x hx=>
  intro g w t h a Q H T D
  show match iw n (gP P draw call n nt x) t h with| .bad=>_| .norm _ _=>_| .ret _ _=>_| .exit _ _ _=>_
  have key: ∀ m,∀ (g:G) (w:World) (t:Tm) (h:Hp) (a:Act),HR g w h->TR g w nt t a.tmps->a.defers=[]->
   match iw m (gP P draw call n nt x) t h with
   | .bad=>True
   | .norm t' h'=>ou g w h nt t' h' (Q .normal)->Code.rounds P x Q m a w
   | .ret t' h'=>ou g w h nt t' h' (Q .ret)->Code.rounds P x Q m a w
   | .exit i t' h'=>ou g w h nt t' h' (Q (.exit i))->Code.rounds P x Q m a w:=by
   intro m
   induction m with
   |zero=>intro g w t h a H T D;exact trivial
   |succ m ih=>
    intro g w t h a H T D
    have h1:=hx g w t h a (Exit.then (Code.rounds P x Q m) Q) H T D
    show match(Rc.rec Rc.bad (fun t h=>iw m (gP P draw call n nt x) t h) (fun t h=>Rc.ret t h) (fun i t h=>Rc.exit i t h) (gP P draw call n nt x t h):Rc)with
     | .bad=>_| .norm _ _=>_| .ret _ _=>_| .exit _ _ _=>_
    cases e:gP P draw call n nt x t h with
    |bad=>exact trivial
    |ret t1 n8=>rw[e]at h1;exact fun K=>h1 K
    |exit i t1 n8=>rw[e]at h1;exact fun K=>h1 K
    |norm t1 n8=>
     rw[e]at h1
     show match iw m (gP P draw call n nt x) t1 n8 with| .bad=>_| .norm _ _=>_| .ret _ _=>_| .exit _ _ _=>_
     cases e2:iw m (gP P draw call n nt x) t1 n8 with
     |bad=>exact trivial
     |norm t2 h2=>
      intro K
      refine h1 fun g1 w1 a1 E1 H1 T1 D1=>?_
      have:=ih g1 w1 t1 n8 a1 H1 T1 D1
      rw[e2]at this
      exact this (ou.then E1 K)
     |ret t2 h2=>
      intro K
      refine h1 fun g1 w1 a1 E1 H1 T1 D1=>?_
      have:=ih g1 w1 t1 n8 a1 H1 T1 D1
      rw[e2]at this
      exact this (ou.then E1 K)
     |exit i t2 h2=>
      intro K
      refine h1 fun g1 w1 a1 E1 H1 T1 D1=>?_
      have:=ih g1 w1 t1 n8 a1 H1 T1 D1
      rw[e2]at this
      exact this (ou.then E1 K)
  have:=key n g w t h a H T D
  cases e:iw n (gP P draw call n nt x) t h<;>rw[e]at this
  ·exact trivial
  all_goals exact fun K=>wp_loop_rounds n (this K)
 |rangeFunc f ps x y _ _=>exact xY
 |exit i=>
  intro g w t h a Q H T D K
  exact wp_exit (K g w a (Ext.refl _ _ _) H T D)
 |scope x _=>exact xY
 |label l=>exact xY
 |goto l=>exact xY
 |ret=>
  intro g w t h a Q H T D K
  exact wp_ret (K g w a (Ext.refl _ _ _) H T D)
 |refuse s=>exact xY
end
end Go.Ab

noncomputable section
namespace Go.Ab
variable [Io]
section
variable {P:Program}
def cRV(P:Program)(nt:Nat):ResultVar->Option RV
 | .tmp i=>il (Nat.blt i nt) (some (.tmp i)) none
 | .cell i T=>match P.underlying T with
  |some d=>match P.info? T with
   |some ti=>il (Nat.blt i nt) (some (.cell i ti.size (j4 d))) none
   |none=>none
  |none=>none
def L1(P:Program)(nt:Nat)(l:List ResultVar):Option (List RV):=
 List.rec (some []) (fun r _ ih=>match cRV P nt r with
  |some v=>match ih with
   |some vs=>some (v::vs)
   |none=>none
  |none=>none) l
def xZ(tmps:Array Value):ResultVar->Sem Value
 | .tmp t=>pure (tmps.getD t undef)
 | .cell a t=>do loadVar t (<-asAddr (tmps.getD a undef))
theorem Ry{g w nt t h}{tmps:Array Value}(H:HR g w h)(T:TR g w nt t tmps){r:ResultVar}{rv:RV}{v:AV}(hr:cRV P nt r=some rv)(e:KT t h rv=some v):
 ∃ x,(xZ tmps r).run P w=.ok x w/\VR g w v x:=by
 cases r with
 |tmp i=>
  change il (Nat.blt i nt) (some (RV.tmp i)) none=some rv at hr
  cases hb:Nat.blt i nt with
  |false=>rw[hb]at hr;cases hr
  |true=>
   rw[hb]at hr
   cases hr
   exact⟨_,rfl,(T.2.2 i v (by have:=T.1;have:=bO.1 hb;omega) e).2⟩
 |cell i ty=>
  unfold cRV at hr
  cases hd:P.underlying ty with
  |none=>simp only[hd]at hr;cases hr
  |some d=>
  simp only[hd]at hr
  cases hi:P.info? ty with
  |none=>simp only[hi]at hr;cases hr
  |some ti=>
  simp only[hi]at hr
  cases hb:Nat.blt i nt with
  |false=>rw[hb]at hr;cases hr
  |true=>
   rw[hb]at hr
   cases hr
   have Hr: @LT.lt Nat _ i 512:=by have:=T.1;have:=bO.1 hb;omega
   change (match t.at i with|some a=>xF h ti.size (j4 d) a|none=>none)=some v at e
   split at e
   ·rename_i a ha
    have hv:=(T.2.2 i a Hr ha).2
    unfold xF at e
    split at e
    ·rename_i id off
     split at e
     ·rename_i cs hg
      simp only[VR]at hv
      obtain⟨b,s,hm,hv⟩:=hv
      obtain⟨C,el,vs,hw,_,eH,hc⟩:=H.row hg hm
      obtain⟨z,hz,hr⟩:=nv hd hi eH (jL hw hc) (xI e)
      exact⟨z,by simp only[xZ,hv,asAddr,Sem.run_bind,Sem.run_pure,Result.andThen_ok,hz],hr⟩
     ·cases e
    ·rename_i cs
     simp only[VR]at hv
     obtain⟨b,s,vs,hv,_,hc,eH⟩:=hv
     obtain⟨z,hz,hr⟩:=nv hd hi eH hc e
     rw[Nat.add_zero]at hz
     exact⟨z,by simp only[xZ,hv,asAddr,Sem.run_bind,Sem.run_pure,Result.andThen_ok,hz],hr⟩
    ·cases e
   ·cases e
theorem C9{g w nt t h}{tmps:Array Value}(H:HR g w h)(T:TR g w nt t tmps): ∀ (l:List ResultVar) {Rz:List RV} {vs:List AV},L1 P nt l=some Rz->Aa t h Rz=some vs->
 ∃ xs,(l.mapM (xZ tmps)).run P w=.ok xs w/\bL g w vs xs
 | [],Rz,vs,h1,h2=>by
  cases h1
  cases h2
  exact⟨[],by simp,by simp[bL]⟩
 |r::l,Rz,vs,h1,h2=>by
  change (match cRV P nt r with|some v=>(match L1 P nt l with|some vs=>some (v::vs)|none=>none)|none=>none)=some Rz at h1
  split at h1
  ·rename_i rv L2
   split at h1
   ·rename_i rl hrl
    cases h1
    change (match KT t h rv with|some v=>(match Aa t h rl with|some vs=>some (v::vs)|none=>none)|none=>none)=some vs at h2
    split at h2
    ·rename_i v hv
     split at h2
     ·rename_i us hu
      cases h2
      obtain⟨x,hx,L3⟩:=Ry H T L2 hv
      obtain⟨xs,Xx,air⟩:=C9 H T l hrl hu
      refine⟨x::xs,?_,by simp only[bL];exact⟨x,xs,rfl,L3,air⟩⟩
      simp only[List.mapM_cons,Sem.run_bind,hx,Xx,Result.andThen_ok,Sem.run_pure]
     ·cases h2
    ·cases h2
   ·cases h1
  ·cases h1
theorem XB{g w nt t h}{tmps:Array Value}{F:Func}{Rz:List RV}{v:AV}{h':Hp}(H:HR g w h)(T:TR g w nt t tmps)(hr:L1 P nt F.results.toList=some Rz)(e:fin Rz t h=.ok v h'):
 h'=h/\ ∃ x,(results F tmps).run P w=.ok x w/\VR g w v x:=by
 have key: ∀ vs,Aa t h Rz=some vs-> ∃ xs:List Value,(results F tmps).run P w=.ok (if h:xs.toArray.size=1 then xs.toArray[0]else .tuple xs.toArray) w/\bL g w vs xs:=by
  intro vs eH
  obtain⟨xs,Xx,hv⟩:=C9 H T F.results.toList hr eH
  refine⟨xs,?_,hv⟩
  show((F.results.mapM (xZ tmps)>>=fun vs=>(pure (if h:vs.size=1 then vs[0]else .tuple vs):Sem Value))).run P w=_
  rw[Array.mapM_eq_mapM_toList]
  simp only[Sem.run_bind,Sem.run_map,Xx,Result.andThen_ok,Sem.run_pure]
 unfold fin at e
 split at e
 ·rename_i v1 eH
  cases e
  obtain⟨xs,hx,hv⟩:=key _ eH
  simp only[bL]at hv
  obtain⟨x,l',rfl,L3,rfl⟩:=hv
  exact⟨rfl,x,by rw[hx];rfl,L3⟩
 ·rename_i vs jR eH
  cases e
  obtain⟨xs,hx,hv⟩:=key _ eH
  refine⟨rfl,.tuple xs.toArray,?_,by simp only[VR];exact⟨_,rfl,hv⟩⟩
  rw[hx,dif_neg]
  intro h1
  have hl:=hv.length
  have:vs.length=1:=by simpa[<-hl]using h1
  match vs,this with
  | [a],_=>exact jR a rfl
 ·cases e
def FG(P:Program)(draw:cZ->Nat->Array Oper->ng):Prop:=
 ∀ call nt,eR P call-> ∀ id ops,Ru P nt (.region id ops true) (draw call nt ops)
structure bK(P:Program)(draw:cZ->Nat->Array Oper->ng)(f:FuncId)(b:Fb):Prop where
 ex: ∃ F c,P.funcs[f]? =some F/\F.body=some c/\b.ntmps=F.ntmps/\b.ntmps<=512/\L1 P b.ntmps F.results.toList=some b.res/\b.body=fun call n=>gP P (draw call b.ntmps) call n b.ntmps c
 enter: ∀ as w,(callFunc f as).run P w=.ok (.enter f as) w
theorem uk{g w}: ∀ (l:List AV) (vs:List Value) (i nt:Nat) (t:Tm) (tmps:Array Value),bL g w l vs->i+l.length<=nt->TR g w nt t tmps->
 (∀ j v,vs[j]? =some v->tmps[i+j]? =some v)->TR g w nt (pA l i t) tmps
 | [],vs,i,nt,t,tmps,h,hl,T,hj=>T
 |a::l,vs,i,nt,t,tmps,h,hl,T,hj=>by
  simp only[bL]at h
  obtain⟨v,l',rfl,hv,h⟩:=h
  simp only[List.length_cons]at hl
  have h0:tmps[i]? =some v:=by simpa using hj 0 v rfl
  have hi:i<tmps.size:=(Array.getElem?_eq_some_iff.1 h0).1
  have ais:tmps.setIfInBounds i v=tmps:=by
   apply Array.ext
   ·simp
   ·intro k h1 h2
    rw[Array.getElem_setIfInBounds]
    split
    ·rename_i e
     subst e
     exact(Option.some.inj ((Array.getElem?_eq_getElem hi).symm.trans h0)).symm
    ·rfl
  have T':=T.put (d:=i) (by omega) hv
  rw[ais]at T'
  exact uk l l' (i+1) nt _ tmps h (by omega) T' (fun j u e=>by
   have:=hj (j+1) u (by simpa using e)
   rwa [show i+1+j=i+(j+1) by omega])
end
end Go.Ab
