import Derived.Test.YtcnkojgmochcgaaGreatDoorAb6
import Derived.Laws.StructEq
import Derived.LoopN
noncomputable section
namespace Go.Ab
variable [Io]
section
variable {P:Program}{o:Oper}
theorem WK{g w h}(H:HR g w h){w':World}(h1:w'.os=w.os)(h2:w'.tape=w.tape)(h3:w'.output=w.output)(h4:w'.heap.size=w.heap.size+1)
 (h5: ∀ b,b<w.heap.size->w'.heap[b]? =w.heap[b]?):
 Ext g w h ⟨g.m,fun b=>g.oz b∨b=w.heap.size⟩ w' h/\HR ⟨g.m,fun b=>g.oz b∨b=w.heap.size⟩ w' h:=by
 have avK: ∀ b,qt g h b->b<w.heap.size:=by
  rintro b ⟨id,cs,s,e,m⟩
  obtain⟨_,_,_,hw,_⟩:=H.row e m
  exact(Array.getElem?_eq_some_iff.1 hw).1
 have E:Ext g w h ⟨g.m,fun b=>g.oz b∨b=w.heap.size⟩ w' h:=by
  refine⟨h1,h2,h3,by omega,Nat.le_refl _,fun _ _ e=>e,fun b hb _=>h5 b hb,?_,fun _ i=>.inl i,?_,fun _ o=>.inl o⟩
  ·intro b
   unfold nY
   by_cases hb:b<w.heap.size
   ·rw[h5 b hb];exact Nat.le_refl _
   ·rw[Array.getElem?_eq_none (by omega)];exact Nat.zero_le _
  ·rintro b (i|rfl)
   ·exact .inl i
   ·exact .inr (.inr (Nat.le_refl _))
 refine⟨E,H.fresh,?_,H.inj,?_,tF.ext H E⟩
 ·intro id cs e
  obtain⟨b,s,C,el,vs,hm,hw,hi,hv,hc⟩:=H.cw id cs e
  have hb:=(Array.getElem?_eq_some_iff.1 hw).1
  refine⟨b,s,C,el,vs,hm,by rw[h5 b hb];exact hw,?_,cJ.mono H E _ _ hv,hc⟩
  rintro(i|rfl)
  ·exact hi i
  ·omega
 ·rintro b (i|rfl)
  ·have:=H.oz b i;omega
  ·omega
def KJ(s:ByteArray):List Value:=s.data.toList.map fun b=>Value.int .u8 (.ofNat b.toNat)
omit [Io] in
theorem OG(w:World)(e:TypeId)(s:ByteArray): ∃ cap w',∃ C:Array Value,∃ el:FT C,(Conv.stringToBytes e s).run P w=.ok (.slice (some ⟨w.heap.size,0,none⟩) s.size cap) w'/\s.size<=cap/\cap<=C.size/\
 w'.os=w.os/\w'.tape=w.tape/\w'.output=w.output/\w'.heap.size=w.heap.size+1/\(∀ b,w'.heap[b]? =if b=w.heap.size then some (.cells C el.el el.fz)else w.heap[b]?)/\(∀ (j:Nat) (v:Value),(KJ s)[j]? =some v->C[j]? =some v):=by
 obtain⟨cap,CK⟩: ∃ cap,cap=(Question.appendCap s.size 0 e).cut (w.tape w.drawn (.appendCap s.size 0 e)):=⟨_,rfl⟩
 have QQ:s.size<=cap:=by rw[CK];simp[Question.cut]
 obtain⟨C,hC⟩: ∃ C:Array Value,C=s.data.map (fun b=>Value.int .u8 (b.toNat:Int))++Array.replicate (cap - s.size) (.int .u8 0):=⟨_,rfl⟩
 have hCs:C.size=cap:=by rw[hC];simp;show s.size+_=_;omega
 refine⟨cap,(w.drew.alloc (.cells C e)).freeze {block:=w.heap.size,off:=C.size} 1,C,⟨e,(C.size,C.size+1),.inr (Nat.le_refl _)⟩,?_,QQ,by omega,rfl,rfl,rfl,?_,?_,?_⟩
 ·have hsh:(w.drew.alloc (.cells C e)).shape? w.heap.size=some (e,C.size):=by
   have:((w.drew.alloc (.cells C e)).heap)[w.heap.size]? =some (.cells C e):=by
    show(w.heap.push _)[w.heap.size]? =_
    simp
   simp only[World.shape?,this]
  simp[Conv.stringToBytes,run_choose,Question.forced,<-CK,<-hC,newRow,markStringish,hsh]
 ·simp[World.freeze]
 ·intro b
  have h1:((w.drew.alloc (.cells C e)).heap)[b]? =if b=w.heap.size then some (.cells C e)else w.heap[b]? :=by
   show(w.heap.push _)[b]? =_
   rw[Array.getElem?_push]
  simp only[World.freeze,Nat.one_ne_zero,if_false]
  rw[Array.getElem?_modify,h1]
  by_cases hb:b=w.heap.size
  ·subst hb
   rw[if_pos rfl,if_pos rfl,if_pos rfl]
   rfl
  ·rw[if_neg hb,if_neg hb,if_neg (by show ¬ w.heap.size=b;omega)]
 ·intro j v hj
  unfold KJ at hj
  have hl:=(List.getElem?_eq_some_iff.1 hj).1
  rw[hC,Array.getElem?_append_left (by simpa using hl)]
  simpa using hj
theorem cJ.bytes(g:G)(w:World): ∀ (l:List UInt8),cJ g w (l.map fun b=>AV.int .u8 (.ofNat b.toNat)) (l.map fun b=>Value.int .u8 (.ofNat b.toNat))
 | []=>by simp[cJ]
 |b::l=>by
  simp only[List.map_cons,cJ]
  exact⟨_,_,rfl,by simp only[VR],cJ.bytes g w l⟩
theorem KK{S D e:TypeId}{d:TypeDesc}{x:Operand}(ho:o.op=.convert S D x)(hS:P.underlying S=some d)(hD:P.underlying D=some (.slice e))(he:P.underlying e=some (.int .u8)):
 tG P o (vm (cx x)):=by
 intro g w nt t h a v h' H Tr ev
 unfold vm at ev
 split at ev
 ·rename_i s hx
  have hv:=cD x _ _ _ _ _ _ Tr hx
  simp only[VR]at hv
  cases ev
  obtain⟨hv,_⟩:=hv
  obtain⟨cap,w',C,el,hr,QQ,hcC,h1,h2,h3,h4,h5,hc⟩:=OG (P:=P) w e s
  obtain⟨E,H'⟩:=HV H el h1 h2 h3 h4 h5 (cs:=BW (s.data.toList.map fun b=>.int .u8 (.ofNat b.toNat))) (vs:=KJ s) (by rw[ql];exact cJ.bytes g w s.data.toList) hc
  refine⟨_,w',.value (.slice (some ⟨w.heap.size,0,none⟩) s.size cap),_,?_,.inl rfl,E,H',?_⟩
  ·simp[execOp,ho,hv,convert,run_underlying hS,run_underlying hD,run_underlying he,hr]
  ·simp only[VR]
   refine .inr ⟨w.heap.size,0,cap,by simp[G.add],rfl,QQ,?_⟩
   have:w'.heap[w.heap.size]? =some (.cells C el.el el.fz):=by rw[h5,if_pos rfl]
   rw[qT this]
   omega
 ·cases ev
theorem OH{D e:TypeId}{x:Operand}(ho:o.op=.convert D D x)(hD:P.underlying D=some (.slice e))(he:P.underlying e=some (.int .u8)):tG P o (xQ (cx x)):=by
 intro g w nt t h a v h' H Tr ev
 unfold xQ at ev
 split at ev
 ·rename_i id off n sz hx
  have hv:=cD x _ _ _ _ _ _ Tr hx
  have vp:=hv
  cases hn:Nat.beq n 0 with
  |true=>rw[hn]at ev;cases ev
  |false=>
  rw[hn]at ev
  simp only[cond_false]at ev
  split at ev
  ·rename_i cs hg
   cases ev
   simp only[VR]at hv
   rcases hv with⟨rfl,_⟩|⟨b,s,cap,hm,hv,hc,_⟩
   ·cases hn
   obtain⟨C,el,vs,hw,hi,ov,WE⟩:=H.row hg hm
   have hsh:w.shape? b=some (el.el,C.size):=by simp only[World.shape?,hw]
   have EL:=el.ok'
   obtain⟨E,H'⟩:=QP H (w':=w.freeze {block:=b,off:=C.size} 1) (el:=el) (el':=⟨el.el,if el.fz.1 == el.fz.2 then(C.size,C.size+1)else(min el.fz.1 C.size,max el.fz.2 (C.size+1)),by
    by_cases h0:el.fz.1=el.fz.2
    ·simp[h0]
    ·simp only[beq_iff_eq,h0,if_false]
     right
     show C.size<=min el.fz.1 C.size
     omega⟩) hg hm hw rfl rfl rfl (by simp[World.freeze]) (fun k=>by
    simp only[World.freeze,Nat.one_ne_zero,if_false]
    rw[Array.getElem?_modify]
    by_cases hk:k=b
    ·subst hk
     rw[if_pos rfl,if_pos rfl,hw]
     rfl
    ·rw[if_neg hk,if_neg (fun q=>hk q.symm)])
   refine⟨g,_,.value (a.eval x),a.eval x,?_,.inl rfl,E,H',VR.mono H E _ _ vp⟩
   rw[hv]
   simp[execOp,ho,hv,convert,run_underlying hD,run_underlying he,markStringish,hsh]
  ·cases ev
 ·cases ev
omit [Io] in
theorem Gb{P:Program}(t:TypeId)(w:World):(Instr.makeMap t none).run P w=.ok (.map (some w.heap.size)) (w.alloc (.map #[] 0)):=rfl
theorem QS{T:TypeId}(ho:o.op=.makeMap T none):tG P o Ol:=by
 intro g w nt t h a v h' H Tr ev
 cases ev
 obtain⟨E,H'⟩:=WK H (w':=w.alloc (.map #[] 0)) rfl rfl rfl (by show(w.heap.push _).size=_;rw[Array.size_push]) (fun b hb=>by
  show(w.heap.push _)[b]? =_
  rw[Array.getElem?_push,if_neg (by omega)])
 exact⟨_,_,.value (.map (some w.heap.size)),_,by simp[execOp,ho,Gb],.inl rfl,E,H',by simp only[VR];rfl⟩
end
end Go.Ab

noncomputable section
namespace Go.Ab
variable [Io]
section
variable {P:Program}
theorem ph{op:BinOp}{T:TypeId}{f s:AV->AV->Option AV}(hf:ny P op T f)
 (hs: ∀ (a b r:AV),s a b=some r->(∀ (g:G) (w:World) (u v:Value),VR g w a u->VR g w b v-> ∃ k m k' n r0,u=.int k m/\v=.int k' n/\f (.int k m) (.int k' n)=some r0/\ ∀ z,VR g w r0 z->VR g w r z)):
 ny P op T (Bs f s):=by
 intro g w a b r u v ha hb h
 unfold Bs at h
 cases hr:f a b with
 |some r'=>
  rw[hr]at h
  cases h
  exact hf g w a b r u v ha hb hr
 |none=>
  rw[hr]at h
  obtain⟨k,m,k',n,r0,rfl,rfl,h1,h2⟩:=hs a b r h g w u v ha hb
  obtain⟨z,hz,hv,hg⟩:=hf g w (.int k m) (.int k' n) r0 (.int k m) (.int k' n) (by simp only[VR]) (by simp only[VR]) h1
  exact⟨z,hz,h2 z hv,hg⟩
def anl(f s:AV->AV->Option AV):Prop:= ∀ (a b r:AV),s a b=some r->(∀ (g:G) (w:World) (u v:Value),VR g w a u->VR g w b v-> ∃ k m k' n r0,u=.int k m/\v=.int k' n/\f (.int k m) (.int k' n)=some r0/\ ∀ z,VR g w r0 z->VR g w r z)
theorem sY{f:AV->AV->Option AV}:anl f HE:=by
 intro a b r h
 cases h
omit [Io] in
theorem al8{a b:Int}:sD a b=true↔a<b:=by rw[qv];simp
omit [Io] in
theorem WL{a b:Int}:sD a b=false↔b<=a:=by rw[qv];simp
omit [Io] in
theorem pj{a b:Int}:eqI a b=true↔a=b:=by rw[Aw];simp
omit [Io] in
theorem al9(m n:Int):eqI m n=decide (m=n):=by
 by_cases e:m=n
 ·rw[pj.2 e];simp[e]
 ·rw[show eqI m n=false from by rw[Bool.eq_false_iff];exact fun h=>e (pj.1 h)];simp[e]
omit [Io] in
theorem Ig{l:List Nat}: ∀ {m:List Nat},As l m=true↔l=m:=by
 induction l with
 |nil=>intro m;cases m<;>simp[As]
 |cons a l ih=>
  intro m
  cases m with
  |nil=>simp[As]
  |cons b m=>
   show(bif Nat.beq a b then As l m else false)=true↔_
   cases e:Nat.beq a b with
   |true=>
    rw[Nat.eq_of_beq_eq_true e]
    show As l m=true↔_
    rw[ih];simp
   |false=>
    have:a≠b:=fun e'=>by subst e';rw[Nat.beq_refl]at e;cases e
    simp[this]
omit [Io] in
theorem OI{a b:SV}(h:uS a b=true):a=b:=by
 cases a<;>cases b<;>simp[uS,pj,Ig]at h<;>simp[h]
omit [Io] in
theorem QT{a:SV}: ∀ {b:SV},Kv a b=true->a=b:=by
 induction a with
 |tm f k k' a oa b ob yd Cq=>
  intro y h
  cases y with
  |tm f2 k2 k2' a2 oa2 b2 ob2=>
   change (Nat.beq f f2&&(qL k k2&&(qL k' k2'&&(eqI oa oa2&&(eqI ob ob2&&(Kv a a2&&Kv b b2))))))=true at h
   simp only[Bool.and_eq_true]at h
   obtain⟨h1,h2,h3,h4,h5,h6,h7⟩:=h
   rw[Nat.eq_of_beq_eq_true h1,oK.1 h2,oK.1 h3,pj.1 h4,pj.1 h5,yd h6,Cq h7]
  | _=>cases h
 |ix l a o yd=>
  intro y h
  cases y with
  |ix l2 a2 o2=>
   change (As l l2&&(eqI o o2&&Kv a a2))=true at h
   simp only[Bool.and_eq_true]at h
   obtain⟨h1,h2,h3⟩:=h
   rw[Ig.1 h1,pj.1 h2,yd h3]
  | _=>cases h
 | _=>intro y h;exact OI h
omit [Io] in
theorem ahf{f:IntKind->Int->Int->Option AV}{k:IntKind}{m n:Int}:ue f (.int k m) (.int k n)=f k m n:=by
 unfold ue
 simp only[oK.2 rfl,cond_true]
omit [Io] in
theorem cR{α:Type}{b:Bool}{x:Option α}{r:α}(h:(bif b then x else none)=some r):b=true/\x=some r:=by
 cases b
 ·cases h
 ·exact⟨rfl,h⟩
theorem acR{a b:AV}{c:Bool}(h:V4 a b=some c){g:G}{w:World}{u v:Value}(ha:VR g w a u)(hb:VR g w b v): ∃ k m n,u=.int k m/\v=.int k n/\c=decide (m=n):=by cases h
theorem QU{a b:AV}{c:Bool}(h:Qk a b=some c){g:G}{w:World}{u v:Value}(ha:VR g w a u)(hb:VR g w b v): ∃ k m n,u=.int k m/\v=.int k n/\c=decide (m<n):=by cases h
theorem QV(T:TypeId):ny P .add T tD:=ph (V7 T) sY
theorem QW(T:TypeId):ny P .sub T r6:=ph (V8 T) sY
theorem QX(T:TypeId):ny P .and T sV:=ph (Wl T) sY
theorem QY(T:TypeId):ny P .or T HO:=ph (acK T) sY
theorem QZ(T:TypeId):ny P .xor T A5:=ph (Wm T) sY
theorem Q0(T:TypeId):ny P .shl T Ez:=ph (Wo T) sY
theorem Q1(T:TypeId):ny P .shr T EA:=ph (Wp T) sY
theorem Q2(T:TypeId):ny P .lss T r7:=ph (Wb T) sY
theorem Q3(T:TypeId):ny P .gtr T qy:=ph (Wc T) sY
theorem Q4(T:TypeId):ny P .leq T ui:=ph (We T) sY
theorem Q5(T:TypeId):ny P .geq T qz:=ph (Wf T) sY
theorem Q6(T:TypeId):ny P .rem T ra:=ph (Wa T) sY
theorem Q7(T:TypeId):ny P .quo T vM:=ph (V' T) sY
theorem Q8(T:TypeId):ny P .mul T uT:=ph (V9 T) sY
theorem Q9(T:TypeId):ny P .eql T (A6 false):=ph (Wg T) sY
theorem Ra(T:TypeId):ny P .neq T (A6 true):=ph (Wh T) sY
theorem WM{k:IntKind}{b v:AV}{g:G}{w:World}{u:Value}(hf:Cw k b=some v)(hv:VR g w b u): ∃ k' m r0,u=.int k' m/\Ql k (.int k' m)=some r0/\ ∀ z,VR g w r0 z->VR g w v z:=by
 unfold Cw agZ at hf
 cases hr:Ql k b with
 |some r=>
  rw[hr]at hf
  cases hf
  unfold Ql at hr
  split at hr
  ·cases hr
   simp only[VR]at hv
   exact⟨_,_,_,hv,rfl,fun z h=>h⟩
  ·cases hr
 |none=>
  rw[hr]at hf
  cases hf
theorem KL{o:Oper}{S D:TypeId}{d:TypeDesc}{k:IntKind}{x:Operand}(ho:o.op=.convert S D x)(hS:P.underlying S=some d)(hD:P.underlying D=some (.int k)):
 cQ P o (HQ (Cw k) (cx x)):=by
 intro g w nt t h a v h' H Tr e
 obtain⟨b,hb,hf,rfl⟩:=zb e
 have hv:=cD x _ _ _ _ _ _ Tr hb
 obtain⟨k',m,r0,vp,hr,hz⟩:=WM hf hv
 cases hr
 exact⟨rfl,.int k (k.wrap m),by simp[execOp,ho,vp,convert,run_underlying hS,run_underlying hD,Conv.intToInt],hz _ (by simp only[VR,rq])⟩
theorem Rb{x y:Operand}{yh:Array TypeId}{o:Oper}(ho:o.op=.call {callee:=.builtin .min,args:= #[x,y],argTypes:=yh}):cQ P o (DY (cx x) (cx y)):=by
 intro g w nt t h a v h' H Tr e
 unfold DY wa at e
 cases hx:cx x t with
 |none=>rw[hx]at e;cases e
 |some ax=>
  cases hy:cx y t with
  |none=>rw[hx,hy]at e;cases e
  |some ay=>
   rw[hx,hy]at e
   have h3:=cD x _ _ _ _ _ _ Tr hx
   have h4:=cD y _ _ _ _ _ _ Tr hy
   unfold Bs at e
   cases hr:ue (fun k a b=>some (.int k (bif sD b a then b else a))) ax ay with
   |some r=>
    simp only[hr]at e
    cases e
    obtain⟨k,m,n,rfl,rfl,h2⟩:=Ax hr
    cases h2
    simp only[VR]at h3 h4
    refine⟨rfl,.int k (if n<m then n else m),by simp[execOp,ho,resolve,invoke,builtin,Builtin.min_,Builtin.min2,h3,h4],?_⟩
    simp only[VR,qv]
    by_cases o5:n<m<;>simp[o5]
   |none=>
    simp only[hr]at e
    cases hl:Qk ay ax with
    |none=>rw[hl]at e;cases e
    |some c=>
     rw[hl]at e
     cases e
     obtain⟨k,p,q,e1,e2,rfl⟩:=QU hl h4 h3
     have hex:(execOp a.eval o).run P w=.ok (.value (.int k (if p<q then p else q))) w:=by
      simp[execOp,ho,resolve,invoke,builtin,Builtin.min_,Builtin.min2,e1,e2]
     refine⟨rfl,_,hex,?_⟩
     by_cases o5:p<q
     ·simp only[o5,decide_true,cond_true,if_true,gt_iff_lt]
      rw[e1]at h4
      exact h4
     ·simp only[o5,decide_false,cond_false,if_false,gt_iff_lt]
      rw[e2]at h3
      exact h3
theorem Rd{x y:Operand}{yh:Array TypeId}{o:Oper}(ho:o.op=.call {callee:=.builtin .max,args:= #[x,y],argTypes:=yh}):cQ P o (DZ (cx x) (cx y)):=by
 intro g w nt t h a v h' H Tr e
 unfold DZ wa at e
 cases hx:cx x t with
 |none=>rw[hx]at e;cases e
 |some ax=>
  cases hy:cx y t with
  |none=>rw[hx,hy]at e;cases e
  |some ay=>
   rw[hx,hy]at e
   have h3:=cD x _ _ _ _ _ _ Tr hx
   have h4:=cD y _ _ _ _ _ _ Tr hy
   unfold Bs at e
   cases hr:ue (fun k a b=>some (.int k (bif sD a b then b else a))) ax ay with
   |some r=>
    simp only[hr]at e
    cases e
    obtain⟨k,m,n,rfl,rfl,h2⟩:=Ax hr
    cases h2
    simp only[VR]at h3 h4
    refine⟨rfl,.int k (if n>m then n else m),by simp[execOp,ho,resolve,invoke,builtin,Builtin.max_,Builtin.max2,h3,h4],?_⟩
    simp only[VR,qv]
    by_cases o5:m<n<;>simp[o5]
   |none=>
    simp only[hr]at e
    cases hl:Qk ax ay with
    |none=>rw[hl]at e;cases e
    |some c=>
     rw[hl]at e
     cases e
     obtain⟨k,p,q,e1,e2,rfl⟩:=QU hl h3 h4
     have hex:(execOp a.eval o).run P w=.ok (.value (.int k (if q>p then q else p))) w:=by
      simp[execOp,ho,resolve,invoke,builtin,Builtin.max_,Builtin.max2,e1,e2]
     refine⟨rfl,_,hex,?_⟩
     by_cases o5:p<q
     ·simp only[o5,decide_true,cond_true,if_true,gt_iff_lt]
      rw[e2]at h4
      exact h4
     ·simp only[o5,decide_false,cond_false,if_false,gt_iff_lt]
      rw[e1]at h3
      exact h3
end
end Go.Ab

noncomputable section
namespace Go.Ab
variable [Io]
section
variable {P:Program}
def scalars(P:Program)(n:Nat)(l:List Field):Option (List Bool):=
 List.rec (fun _=>some []) (fun f _ ih n=>bif Nat.beq f.offset n&& !(decide (f.name= "_"))then
  (match P.info? f.type with
  |some i=>bif Nat.beq i.size 1 then
   (match P.underlying f.type with
   |some (.int _)=>(match ih (Nat.add n 1)with|some r=>some (true::r)|none=>none)
   |some .bool=>(match ih (Nat.add n 1)with|some r=>some (false::r)|none=>none)
   | _=>none)else none
  |none=>none)else none) l n
theorem Re{i:Bool}{x y:AV}{c:Bool}(h:eq1 i x y=some c){g:G}{w:World}{u v:Value}(hx:VR g w x u)(hy:VR g w y v){T:TypeId}{d:Nat}
 (hT:(i=true/\ ∃ k,P.underlying T=some (.int k))∨(i=false/\P.underlying T=some .bool)):(Op.equalIn (d+1) T u v).run P w=.ok c w:=by
 rcases hT with⟨rfl,k,hT⟩|⟨rfl,hT⟩
 ·change (match(generalizing:=false) x,y with| .int k a,.int k' b=>bif qL k k' then some (eqI a b)else none| _,_=>V4 x y)=some c at h
  split at h
  ·rename_i k1 a k2 b
   cases e:qL k1 k2 with
   |false=>rw[e]at h;cases h
   |true=>
    rw[e]at h
    cases h
    obtain rfl:=oK.1 e
    simp only[VR]at hx hy
    subst hx;subst hy
    rw[run_equalIn_int w d T k1 k a b hT,Aw]
  ·obtain⟨k1,m,n,rfl,rfl,rfl⟩:=acR h hx hy
   rw[run_equalIn_int w d T k1 k m n hT]
   congr 1
 ·change (match(generalizing:=false) x,y with| .bool a,.bool b=>some (!(xor a b))| _,_=>none)=some c at h
  split at h
  ·rename_i a b
   cases h
   simp only[VR]at hx hy
   subst hx;subst hy
   rw[run_equalIn_bool' w d T a b hT]
   cases a<;>cases b<;>rfl
  ·cases h
omit [Io] in
theorem ze{T:TypeId}{td:TypeDesc}{i:TypeInfo}{vs:Array Value}{n:Nat}{v:Value}{w:World}(hd:P.underlying T=some td)(ha:rr td=false)(hv:vs[n]? =some v):
 (Go.part T vs n).run P w=.ok v w:=by
 unfold Go.part
 simp only[Sem.run_bind,uV hd,ha,Result.andThen_ok]
 simp[hv]
theorem Ba{g:G}{w:World}(d:Nat): ∀ (fs:List Field) (n:Nat) (l:List Bool) (xs ys:List AV) (us vs:Array Value) (c:Bool),scalars P n fs=some l->DW l xs ys=some c->
 cJ g w xs (us.toList.drop n)->cJ g w ys (vs.toList.drop n)->(Op.eqFields (d+1) us vs fs).run P w=.ok c w
 | [],n,l,xs,ys,us,vs,c,hs,e,hx,hy=>by
  cases hs
  cases e
  simp[Op.eqFields]
 |f::fs,n,l,xs,ys,us,vs,c,hs,e,hx,hy=>by
  change (bif Nat.beq f.offset n&& !(decide (f.name= "_"))then
   (match P.info? f.type with
   |some i=>bif Nat.beq i.size 1 then
    (match P.underlying f.type with
    |some (.int _)=>(match scalars P (n+1) fs with|some r=>some (true::r)|none=>none)
    |some .bool=>(match scalars P (n+1) fs with|some r=>some (false::r)|none=>none)
    | _=>none)else none
   |none=>none)else none)=some l at hs
  replace hs:=cR hs
  obtain⟨h0,hs⟩:=hs
  rw[Bool.and_eq_true]at h0
  have ahg:f.offset=n:=Nat.eq_of_beq_eq_true h0.1
  have ahh:f.name≠ "_" :=by simpa using h0.2
  split at hs
  ·replace hs:=cR hs
   obtain⟨_,hs⟩:=hs
   have key: ∀ (i:Bool) (r:List Bool) (td:TypeDesc),P.underlying f.type=some td->rr td=false->scalars P (n+1) fs=some r->l=i::r->
    ((i=true/\ ∃ k,P.underlying f.type=some (.int k))∨(i=false/\P.underlying f.type=some .bool))->(Op.eqFields (d+1) us vs (f::fs)).run P w=.ok c w:=by
    intro i r td htd ahi hr hl hT
    subst hl
    change (match(generalizing:=false) xs with
     | []=>none
     |x::xs=>match(generalizing:=false) ys with
      | []=>none
      |y::ys=>match eq1 i x y with
       |none=>none
       |some c=>(Bool.rec (some false) (DW r xs ys) c:Option Bool))=some c at e
    cases xs with
    |nil=>cases e
    |cons x xs=>
    cases ys with
    |nil=>cases e
    |cons y ys=>
    simp only at e
    cases h1:eq1 i x y with
    |none=>rw[h1]at e;cases e
    |some c1=>
    rw[h1]at e
    simp only[cJ]at hx hy
    obtain⟨u,us',hu,hxu,WN⟩:=hx
    obtain⟨v,vs',hv,WO,hys⟩:=hy
    have hu0:us[n]? =some u:=by
     have:(us.toList.drop n)[0]? =some u:=by rw[hu];rfl
     simpa using this
    have hv0:vs[n]? =some v:=by
     have:(vs.toList.drop n)[0]? =some v:=by rw[hv];rfl
     simpa using this
    have hu1:us.toList.drop (n+1)=us':=by rw[<-List.drop_drop,hu];rfl
    have hv1:vs.toList.drop (n+1)=vs':=by rw[<-List.drop_drop,hv];rfl
    have pu:(Go.part f.type us f.offset).run P w=.ok u w:=by rw[ahg];exact ze (i:=default) htd ahi hu0
    have pv:(Go.part f.type vs f.offset).run P w=.ok v w:=by rw[ahg];exact ze (i:=default) htd ahi hv0
    simp only[Op.eqFields,if_pos ahh,Sem.run_bind,pu,pv,Result.andThen_ok,Re (P:=P) (d:=d) h1 hxu WO hT]
    cases c1 with
    |false=>cases e;simp
    |true=>
     simp only[Bool.not_true,Bool.false_eq_true,if_false]
     exact Ba d fs (n+1) r xs ys us vs c hr e (by rw[hu1];exact WN) (by rw[hv1];exact hys)
   split at hs
   ·rename_i k hT
    split at hs
    ·rename_i r hr;cases hs;exact key true r _ hT rfl hr rfl (.inl ⟨rfl,_,hT⟩)
    ·cases hs
   ·rename_i hT
    split at hs
    ·rename_i r hr;cases hs;exact key false r _ hT rfl hr rfl (.inr ⟨rfl,hT⟩)
    ·cases hs
   ·cases hs
  ·cases hs
omit [Io] in
theorem AB{neg:Bool}{l:List Bool}{x y r:AV}(h:Cr neg l x y=some r): ∃ xs ys c,x=.agg xs/\y=.agg ys/\DW l xs ys=some c/\r=.bool (bif neg then !c else c):=by
 unfold Cr at h
 split at h
 ·rename_i xs
  split at h
  ·rename_i ys
   split at h
   ·rename_i c hc
    cases h
    exact⟨xs,ys,c,rfl,rfl,hc,rfl⟩
   ·cases h
  ·cases h
 ·cases h
theorem Mo{T:TypeId}{fs:Array Field}{l:List Bool}(hT:P.underlying T=some (.struct fs))(hs:P.stoodInHeld T=false)(hl:scalars P 0 fs.toList=some l){g:G}{w:World}
 {xs ys:List AV}{c:Bool}(hc:DW l xs ys=some c){us vs:Array Value}(hx:cJ g w xs us.toList)(hy:cJ g w ys vs.toList):(Op.equalIn 10000 T (.agg us) (.agg vs)).run P w=.ok c w:=by
 have hf:P.fieldsOf T=fs:=by unfold Program.fieldsOf;rw[hT]
 refine(run_equalIn_struct w 9999 T us vs (by rw[hf];exact hT) hs).trans ?_
 rw[hf]
 exact Ba 9998 fs.toList 0 l xs ys us vs c hl hc (by simpa using hx) (by simpa using hy)
theorem WR{T:TypeId}{fs:Array Field}{l:List Bool}(hT:P.underlying T=some (.struct fs))(hs:P.stoodInHeld T=false)(hg:P.eqGuardType P.depth T=false)(hl:scalars P 0 fs.toList=some l):
 ny P .eql T (Cr false l):=by
 intro g w a b r u v ha hb h
 obtain⟨xs,ys,c,rfl,rfl,hc,rfl⟩:=AB h
 simp only[VR]at ha hb
 obtain⟨us,rfl,hx⟩:=ha
 obtain⟨vs,rfl,hy⟩:=hb
 refine⟨.bool c,?_,by simp only[VR];rfl,fun x y=>run_eqGuard_agg w .eql T x y us vs hg⟩
 rw[run_eql_struct,Mo hT hs hl hc hx hy]
 rfl
theorem WT{T:TypeId}{fs:Array Field}{l:List Bool}(hT:P.underlying T=some (.struct fs))(hs:P.stoodInHeld T=false)(hg:P.eqGuardType P.depth T=false)(hl:scalars P 0 fs.toList=some l):
 ny P .neq T (Cr true l):=by
 intro g w a b r u v ha hb h
 obtain⟨xs,ys,c,rfl,rfl,hc,rfl⟩:=AB h
 simp only[VR]at ha hb
 obtain⟨us,rfl,hx⟩:=ha
 obtain⟨vs,rfl,hy⟩:=hb
 refine⟨.bool (!c),?_,by simp only[VR];rfl,fun x y=>run_eqGuard_agg w .neq T x y us vs hg⟩
 rw[run_neq_struct,Mo hT hs hl hc hx hy]
 rfl
theorem EM{T e:TypeId}{n:Nat}{k:IntKind}(ht:P.underlying T=some (.array n e))(he:P.underlying e=some (.int k))(vQ: ∀ w,(sizeOf e).run P w=.ok 1 w){g:G}{w:World}{xs ys:List AV}{c:Bool}(hc:DW (List.replicate n true) xs ys=some c){us vs:Array Value}(hx:cJ g w xs us.toList)(hy:cJ g w ys vs.toList):
 (Op.equalIn 10000 T (.agg us) (.agg vs)).run P w=.ok c w:=by
 rw[show(10000:Nat)=9998+2 from rfl,Op.equalIn]
 simp only[Sem.run_bind,run_underlying ht,Result.andThen_ok,vQ,Std.Legacy.Range.forIn_eq_forIn_range',Std.Legacy.Range.size,Nat.sub_zero,Nat.add_sub_cancel,Nat.div_one]
 rw[<-List.drop_zero (l:=us.toList)]at hx
 rw[<-List.drop_zero (l:=vs.toList)]at hy
 clear ht
 revert hx hy hc
 generalize 0=a
 induction n generalizing a xs ys with
 |zero=>
  intro hc hx hy
  cases hc
  simp
 |succ n ih=>
  intro hc hx hy
  rw[List.replicate_succ]at hc
  change (match(generalizing:=false) xs with
   | []=>none
   |x::xs=>match(generalizing:=false) ys with
    | []=>none
    |y::ys=>match eq1 true x y with
     |none=>none
     |some c=>(Bool.rec (some false) (DW (List.replicate n true) xs ys) c:Option Bool))=some c at hc
  cases xs with
  |nil=>cases hc
  |cons x xs=>
  cases ys with
  |nil=>cases hc
  |cons y ys=>
  simp only at hc
  cases h1:eq1 true x y with
  |none=>rw[h1]at hc;cases hc
  |some c1=>
  rw[h1]at hc
  simp only[cJ]at hx hy
  obtain⟨u,us',hu,hxu,WN⟩:=hx
  obtain⟨v,vs',hv,WO,hys⟩:=hy
  have hu0:us[a]? =some u:=by
   have:(us.toList.drop a)[0]? =some u:=by rw[hu];rfl
   simpa using this
  have hv0:vs[a]? =some v:=by
   have:(vs.toList.drop a)[0]? =some v:=by rw[hv];rfl
   simpa using this
  have hu1:us.toList.drop (a+1)=us':=by rw[<-List.drop_drop,hu];rfl
  have hv1:vs.toList.drop (a+1)=vs':=by rw[<-List.drop_drop,hv];rfl
  have pu:(Go.part e us (a*1)).run P w=.ok u w:=by rw[Nat.mul_one];exact ze (i:=default) he rfl hu0
  have pv:(Go.part e vs (a*1)).run P w=.ok v w:=by rw[Nat.mul_one];exact ze (i:=default) he rfl hv0
  rw[List.range'_succ]
  simp only[List.forIn_cons,Sem.run_bind,pu,pv,Result.andThen_ok,Re (P:=P) (d:=9998) h1 hxu WO (.inl ⟨rfl,k,he⟩)]
  cases c1 with
  |false=>cases hc;simp
  |true=>
   simp only[Bool.not_true,Bool.false_eq_true,if_false,Sem.run_pure,Result.andThen_ok]
   exact ih (a+1) hc (by rw[hu1];exact WN) (by rw[hv1];exact hys)
theorem Mp{T e:TypeId}{n:Nat}{k:IntKind}{i:TypeInfo}(ht:P.underlying T=some (.array n e))(hg:P.eqGuardType P.depth T=false)(hi:P.info? e=some i)(hs:i.size=1)(he:P.underlying e=some (.int k)):ny P .eql T (Cr false (List.replicate n true))/\ny P .neq T (Cr true (List.replicate n true)):=by
 have vQ: ∀ w,(sizeOf e).run P w=.ok 1 w:=fun w=>by simp[sizeOf,typeInfo,hi,hs]
 refine⟨?_,?_⟩<;>
 ·intro g w a b r u v ha hb h
  obtain⟨xs,ys,c,rfl,rfl,hc,rfl⟩:=AB h
  simp only[VR]at ha hb
  obtain⟨us,rfl,hx⟩:=ha
  obtain⟨vs,rfl,hy⟩:=hb
  refine⟨_,?_,by simp only[VR];rfl,fun x y=>run_eqGuard_agg w _ T x y us vs hg⟩
  first
   |(rw[run_eql_struct,EM ht he vQ hc hx hy];rfl)
   |(rw[run_neq_struct,EM ht he vQ hc hx hy];rfl)
def Ih(P:Program)(neg:Bool)(T:TypeId):Option (AV->AV->Option AV):=match P.underlying T with
 |some (.struct fs)=>match P.stoodInHeld T with
  |false=>match P.eqGuardType P.depth T with
   |false=>match scalars P 0 fs.toList with
    |some l=>some (Cr neg l)
    |none=>none
   |true=>none
  |true=>none
 |some (.array n e)=>match P.eqGuardType P.depth T with
  |false=>match P.info? e with
   |some i=>match Nat.beq i.size 1 with
    |true=>match P.underlying e with
     |some (.int _)=>some (Cr neg (List.replicate n true))
     | _=>none
    |false=>none
   |none=>none
  |true=>none
 | _=>none
theorem Mq{T:TypeId}{f:AV->AV->Option AV}{neg:Bool}(h:Ih P neg T=some f):ny P (match neg with|true=>.neq|false=>.eql) T f:=by
 unfold Ih at h
 split at h
 ·rename_i fs hT
  split at h
  ·rename_i hs
   split at h
   ·rename_i hg
    split at h
    ·rename_i l hl
     cases h
     cases neg
     ·exact WR hT hs hg hl
     ·exact WT hT hs hg hl
    ·cases h
   ·cases h
  ·cases h
 ·rename_i n e hT
  split at h
  ·rename_i hg
   split at h
   ·rename_i i hi
    split at h
    ·rename_i hs
     split at h
     ·rename_i k he
      cases h
      cases neg
      ·exact(Mp hT hg hi (Nat.eq_of_beq_eq_true hs) he).1
      ·exact(Mp hT hg hi (Nat.eq_of_beq_eq_true hs) he).2
     ·cases h
    ·cases h
   ·cases h
  ·cases h
 ·cases h
theorem Mr{T:TypeId}{f:AV->AV->Option AV}(h:Ih P false T=some f):ny P .eql T f:=Mq h
theorem Ms{T:TypeId}{f:AV->AV->Option AV}(h:Ih P true T=some f):ny P .neq T f:=Mq h
end
end Go.Ab

noncomputable section
namespace Go.Ab
variable [Io]
section
variable {P:Program}{o:Oper}
omit [Io] in
theorem run_copy_none(w:World)(dT sT ty elem:TypeId)(i:TypeInfo)(hu:P.underlying dT=some (.slice elem))(hi:P.info? elem=some i)(d x:Option Addr)(OJ acU nu ot:Nat)(hn:Nat.min nu OJ=0):
 (Builtin.copy_ #[dT,sT] ty #[.slice d OJ acU,.slice x nu ot]).run P w=.ok (.int .i64 (Int.ofNat 0)) w:=by
 have hl: ∀ a:Addr,(loadCells a 0).run P w=.ok #[] w:=fun a=>run_loadCells_list (P:=P) w a [] (by simp)
 cases d<;>cases x<;>simp[Builtin.copy_,run_underlying hu,Builtin.lenOf,Builtin.firstCells,sizeOf,typeInfo,hi,hn,hl,storeCells,goInt]
omit [Io] in
theorem D5(w:World)(dT sT ty elem:TypeId)(i:TypeInfo)(hu:P.underlying dT=some (.slice elem))(hi:P.info? elem=some i)(g o OJ acU:Nat)(a:Addr)(nu ot:Nat)(cur:Array Value)(t:FT cur)(cs:List Value)
 (hg:w.heap[g]? =some (.cells cur t.el t.fz))(hn:cs.length=Nat.min nu OJ*i.size)(anr: ∀ j v,cs[j]? =some v->w.cell? (a.add j)=some v)(yg:o+cs.length<=cur.size)(h1: ∀ v∈cs,v.oneCell'=true):
 (Builtin.copy_ #[dT,sT] ty #[.slice (some ⟨g,o,none⟩) OJ acU,.slice (some a) nu ot]).run P w=
  .ok (.int .i64 (Int.ofNat (Nat.min nu OJ))) (w.setRow g (cur.toList.take o++cs++cur.toList.drop (o+cs.length)).toArray):=by
 have hl:=run_loadCells_list (P:=P) w a cs anr
 have vj:=oA P g o t.el t.fz cs 0 cur w hg t.ok (by simpa using yg) h1
 simp[Builtin.copy_,run_underlying hu,Builtin.lenOf,Builtin.firstCells,sizeOf,typeInfo,hi,<-hn,hl,vj,goInt]
def Mt(P:Program)(T:TypeId)(d s:Operand):oH:=match P.underlying T with
 |some (.slice e)=>match P.info? e with
  |some i=>sW i.size (wO (cx d)) (wO (cx s))
  |none=>cY
 | _=>cY
theorem OK{T T':TypeId}{d s:Operand}(ho:o.op=.call {callee:=.builtin .copy,args:= #[d,s],argTypes:= #[T,T']}):tG P o (Mt P T d s):=by
 intro g w nt t h a v h' H Tr e
 unfold Mt at e
 cases hu:P.underlying T with
 |none=>rw[hu]at e;cases e
 |some dd=>
 rw[hu]at e
 cases dd<;>try (cases e;done)
 rename_i el
 simp only at e
 cases hi:P.info? el with
 |none=>rw[hi]at e;cases e
 |some i=>
  rw[hi]at e
  change sW i.size (wO (cx d)) (wO (cx s)) t h=.ok v h' at e
  have hex: ∀ vd vs r w',a.eval d=vd->a.eval s=vs->(Builtin.copy_ #[T,T'] o.type #[vd,vs]).run P w=.ok r w'->(execOp a.eval o).run P w=.ok (.value r) w':=by
   intro vd vs r w' h1 h2 h3
   unfold execOp
   simp only[ho,resolve,invoke,builtin,Sem.run_bind,Sem.run_pure,Result.andThen_ok,List.map_toArray,List.map_cons,List.map_nil,h1,h2,h3]
  unfold sW at e
  split at e
  ·rename_i hd
   split at e
   ·rename_i xv hs
    split at e
    ·rename_i p hsc
     cases e
     have hvd:=qn d _ _ _ _ _ _ Tr hd
     have ov:=qn s _ _ _ _ _ _ Tr hs
     simp only[VR]at hvd
     obtain⟨b,hde⟩:=hvd
     obtain⟨n,cs⟩:=p
     obtain⟨xa,xc,WH,hxc,D4⟩:=sM H ov hsc
     exact⟨g,w,_,_,hex _ _ _ _ hde WH (run_copy_none w T T' o.type el i hu hi _ _ _ _ _ _ (Nat.min_zero _)),.inl rfl,Ext.refl _ _ _,H,by simp only[VR]⟩
    ·cases e
   ·cases e
  ·rename_i id off n sz hd
   split at e
   ·rename_i xv hs
    split at e
    ·rename_i m src hsc
     have hvd:=qn d _ _ _ _ _ _ Tr hd
     have ov:=qn s _ _ _ _ _ _ Tr hs
     obtain⟨xa,xc,WH,hxc,D4⟩:=sM H ov hsc
     simp only[VR]at hvd
     rw[yY]at e
     cases hk:Nat.beq (min m n) 0 with
     |true=>
      rw[hk]at e
      cases e
      have hk0:Nat.min m n=0:=Nat.eq_of_beq_eq_true hk
      rcases hvd with⟨rfl,b,hde⟩|⟨b,s',cap,hm,hde,CK,_⟩
      ·exact⟨g,w,_,_,hex _ _ _ _ hde WH (run_copy_none w T T' o.type el i hu hi _ _ _ _ _ _ hk0),.inl rfl,Ext.refl _ _ _,H,by simp only[VR]⟩
      ·exact⟨g,w,_,_,hex _ _ _ _ hde WH (run_copy_none w T T' o.type el i hu hi _ _ _ _ _ _ hk0),.inl rfl,Ext.refl _ _ _,H,by simp only[VR]⟩
     |false=>
      rw[hk]at e
      have hk0:min m n≠0:=fun k=>by rw[k]at hk;cases hk
      simp only[cond_false]at e
      split at e
      ·rename_i cs hg
       cases hb:((Nat.blt 0 i.size&&(Nat.beq sz i.size&&(Nat.beq (len src) (Nat.mul m i.size)&&nU nT src)))&&Nat.ble (Nat.add off (Nat.mul (min m n) i.size)) cs.n)with
       |false=>rw[hb]at e;cases e
       |true=>
        rw[hb]at e
        cases e
        simp only[Bool.and_eq_true,cS]at hb
        obtain⟨⟨b0,b1,b2,b3⟩,b4⟩:=hb
        have b0:=cP.1 b0
        obtain rfl:=Nat.eq_of_beq_eq_true b1
        have b2:src.length=m*i.size:=Nat.eq_of_beq_eq_true b2
        have b4:off+min m n*i.size<=cs.n:=Nat.le_of_ble_eq_true b4
        have hmn:min m n*i.size<=m*i.size:=Nat.mul_le_mul_right _ (Nat.min_le_left m n)
        rcases hvd with⟨rfl,b,hde⟩|⟨b,s',cap,hm,hde,CK,_⟩
        ·rw[Nat.min_zero]at hk0;exact absurd rfl hk0
        ·obtain⟨C,el',vs,hw,_,WU,hc⟩:=H.row hg hm
         rcases D4 with rfl|⟨xb,xs,us,rfl,HF,q8⟩
         ·exfalso
          have hz:m*i.size=0:=b2.symm
          have hp:0<min m n*i.size:=Nat.mul_pos (by omega) b0
          omega
         ·have hul:=HF.length
          have KF:(us.take (min m n*i.size)).length=min m n*i.size:=by rw[List.length_take];omega
          have ahk:(src.take (min m n*i.size)).length=min m n*i.size:=by rw[List.length_take];omega
          have yf:s'+off+(us.take (min m n*i.size)).length<=C.size:=by
           rw[KF]
           have hp:0<min m n*i.size:=Nat.mul_pos (by omega) b0
           have:=cJ.wx WU hc (n:=off+min m n*i.size) (by rw[oJ];exact b4) (by omega)
           omega
          have hr:=D5 (P:=P) w T T' o.type el i hu hi b (s'+off) n cap ⟨xb,xs,none⟩ m xc C el' (us.take (min m n*i.size)) hw KF (fun j v e=>by
           rw[List.getElem?_take]at e
           split at e
           ·exact tJ q8 j v e
           ·cases e) yf (fun v hv=>cJ.Kx HF b3 v (List.mem_of_mem_take hv))
          obtain⟨E,H'⟩:=EK H (C':=(C.toList.take (s'+off)++us.take (min m n*i.size)++C.toList.drop (s'+off+(us.take (min m n*i.size)).length)).toArray)
           hg hm hw (by simp at yf ⊢;omega) (cs':=cs.put off (tk (Nat.mul (min m n) i.size) src)) (us:=vs.take off++(us.take (min m n*i.size)++vs.drop (off+(us.take (min m n*i.size)).length)))
           (by rw[wm];show cJ g w (cs.put off (src.take (min m n*i.size))).toL _;rw[yW (by rw[ahk];exact b4),put_eq,ahk,KF];exact(WU.take _).append ((HF.take _).append (WU.drop _)))
           (fun j v e=>Mj hc yf j v e (by have:=WU.length;rw[oJ]at this;omega))
          exact⟨g,_,_,_,hex _ _ _ _ hde WH hr,.inl rfl,E,H',by simp only[VR]⟩
      ·cases e
    ·cases e
   ·cases e
  ·cases e
theorem OL{T el:TypeId}{x y z:Operand}(ho:o.op=.slice T x none (some y) (some z))(hd:P.underlying T=some (.slice el)){i:TypeInfo}(hi:P.info? el=some i):cQ P o (CA (wO (cx x)) (cx y) (cx z)):=by
 intro g w nt t h a v h' H Tr e
 unfold CA at e
 split at e
 ·rename_i ky n hy
  split at e
  ·rename_i kz m hz
   obtain⟨h1,h2⟩:=(by
    cases hb:(Nat.beq n 0&&Nat.beq m 0)with
    |false=>rw[hb]at e;cases e
    |true=>rw[Bool.and_eq_true]at hb;exact hb:Nat.beq n 0=true/\Nat.beq m 0=true)
   rw[h1,h2]at e
   simp only[Bool.and_self,cond_true]at e
   obtain rfl:=Nat.eq_of_beq_eq_true h1
   obtain rfl:=Nat.eq_of_beq_eq_true h2
   have B1:=cD y _ _ _ _ _ _ Tr hy
   have hvz:=cD z _ _ _ _ _ _ Tr hz
   simp only[VR]at B1 hvz
   have vQ:(sizeOf el).run P w=.ok i.size w:=by simp[sizeOf,typeInfo,hi]
   have rO: ∀ b n c,a.eval x=.slice b n c->(execOp a.eval o).run P w=.ok (.value (.slice b 0 0)) w:=by
    intro b n c hx
    simp[execOp,ho,hx,B1,hvz,Instr.sliceAt,Instr.slice,run_underlying hd,Instr.sliceBounds,Instr.sliceBound,asIntOf,vQ]
   split at e
   ·rename_i hx
    cases e
    have hv:=qn x _ _ _ _ _ _ Tr hx
    simp only[VR]at hv
    obtain⟨b,hv⟩:=hv
    exact⟨rfl,_,rO _ _ _ hv,by simp only[VR];exact⟨_,rfl⟩⟩
   ·rename_i hx
    cases e
    have hv:=qn x _ _ _ _ _ _ Tr hx
    simp only[VR]at hv
    rcases hv with⟨_,b,hv⟩|⟨b,s,cap,_,hv,_⟩
    ·exact⟨rfl,_,rO _ _ _ hv,by simp only[VR];exact⟨_,rfl⟩⟩
    ·exact⟨rfl,_,rO _ _ _ hv,by simp only[VR];exact⟨_,rfl⟩⟩
   ·rename_i hx
    cases e
    have hv:=qn x _ _ _ _ _ _ Tr hx
    simp only[VR]at hv
    obtain⟨b,cap,hv,_⟩:=hv
    exact⟨rfl,_,rO _ _ _ hv,by simp only[VR];exact⟨_,rfl⟩⟩
   ·cases e
  ·cases e
 ·cases e
end
end Go.Ab

noncomputable section
namespace Go.Ab
variable [Io]
def nP(P:Program)(call:nv):Prop:=
 ∀ f args h v h',call f args h=.ok v h'->(∀ as w,(callFunc f as).run P w=.ok (.enter f as) w)/\
  ∀ (g:G) (w:World) (vs:List Value),HR g w h->cJ g w args vs->
   Calls P f vs.toArray w fun e w'=> ∃ x g',e=.returned x/\Ext g w h g' w' h'/\HR g' w' h'/\VR g' w' v x
def Ii(P:Program)(op:BinOp)(T:TypeId):Option (AV->AV->Option AV):=
 match op with
 | .add=>some tD| .sub=>some r6| .mul=>some uT| .quo=>some vM| .rem=>some ra
 | .and=>some sV| .or=>some HO| .xor=>some A5| .andNot=>some s0| .shl=>some Ez| .shr=>some EA
 | .lss=>some r7| .leq=>some ui| .gtr=>some qy| .geq=>some qz
 | .eql=>match P.underlying T with
  |some (.int _)=>some (A6 false)
  |some .bool=>some (FU false)
  |some .string=>some (Co false)
  |some (.pointer _)=>some (DU false)
  |some (.slice _)=>some (Cp false)
  |some (.struct _)=>Ih P false T
  |some (.array _ _)=>Ih P false T
  | _=>none
 | .neq=>match P.underlying T with
  |some (.int _)=>some (A6 true)
  |some .bool=>some (FU true)
  |some .string=>some (Co true)
  |some (.pointer _)=>some (DU true)
  |some (.slice _)=>some (Cp true)
  |some (.struct _)=>Ih P true T
  |some (.array _ _)=>Ih P true T
  | _=>none
theorem WV{P:Program}{op:BinOp}{T:TypeId}{f:AV->AV->Option AV}(h:Ii P op T=some f):ny P op T f:=by
 unfold Ii at h
 cases op<;>simp only at h
 case eql=>
  split at h
  ·cases h;exact Q9 T
  ·rename_i hu;cases h;exact Wr hu
  ·cases h;exact Wt T
  ·rename_i hu;cases h;exact Wv hu
  ·rename_i hu;cases h;exact Wx hu
  ·exact Mr h
  ·exact Mr h
  ·cases h
 case neq=>
  split at h
  ·cases h;exact Ra T
  ·rename_i hu;cases h;exact Ws hu
  ·cases h;exact Wu T
  ·rename_i hu;cases h;exact Ww hu
  ·rename_i hu;cases h;exact Wy hu
  ·exact Ms h
  ·exact Ms h
  ·cases h
 all_goals cases h
 case add=>exact QV T
 case sub=>exact QW T
 case mul=>exact Q8 T
 case quo=>exact Q7 T
 case rem=>exact Q6 T
 case and=>exact QX T
 case or=>exact QY T
 case xor=>exact QZ T
 case shl=>exact Q0 T
 case shr=>exact Q1 T
 case andNot=>exact KA T
 case lss=>exact Q2 T
 case leq=>exact Q4 T
 case gtr=>exact Q3 T
 case geq=>exact Q5 T
def cUn(op:UnOp):Option (AV->Option AV):=
 match op with
 | .not=>some Oh
 | .neg=>some Oi
 | .xor=>some HP
 | .plus=>none
def Ij(P:Program)(T:TypeId)(x:Operand):oH:=
 match P.underlying T with
 |some d=>match P.info? T with
  |some i=>r8 i.size (rr d) (cx x)
  |none=>cY
 |none=>cY
def EN(P:Program)(S D:TypeId)(x:Operand):oH:=
 match P.underlying S with
 |some _=>match P.underlying D with
  |some (.int k)=>HQ (Cw k) (cx x)
  | _=>cY
 |none=>cY
def Gc(P:Program)(S D:TypeId)(x:Operand):oH:=
 match P.underlying S with
 |some .string=>match P.underlying D with
  |some (.slice e)=>match P.underlying e with
   |some (.int .u8)=>vm (cx x)
   | _=>cY
  | _=>cY
 |some (.slice _)=>match P.underlying D with
  |some (.slice e)=>match P.underlying e with
   |some (.int .u8)=>pZ (Nat.beq S D) (xQ (cx x)) cY
   | _=>cY
  | _=>cY
 | _=>cY
def tK(P:Program)(T:TypeId)(x:Operand)(n:Nat):oH:=
 match P.underlying T with
 |some (.struct fs)=>match fs[n]? with
  |some f=>match P.info? f.type with
   |some i=>pZ (Nat.blt 0 i.size) (nW f.offset (cx x)) cY
   |none=>cY
  |none=>cY
 | _=>cY
def CM(P:Program)(T:TypeId)(x:Operand)(n:Nat):oH:=
 match P.underlying T with
 |some (.struct fs)=>match fs[n]? with
  |some f=>match P.underlying f.type with
   |some d=>match P.info? f.type with
    |some i=>uD f.offset i.size (rr d) (cx x)
    |none=>cY
   |none=>cY
  |none=>cY
 | _=>cY
def tL(P:Program)(T:TypeId)(x y:Operand):oH:=
 match P.underlying T with
 |some (.slice e)=>match P.info? e with
  |some i=>yS i.size (cx x) (cx y)
  |none=>cY
 |some (.array n e)=>match P.info? e with
  |some i=>Bt n i.size (cx x) (cx y)
  |none=>cY
 | _=>cY
def CN(P:Program)(T:TypeId)(x y:Operand):oH:=
 match P.underlying T with
 |some (.array n e)=>match P.underlying e with
  |some d=>match P.info? e with
   |some i=>sJ n i.size (rr d) (cx x) (cx y)
   |none=>cY
  |none=>cY
 |some .string=>rh (cx x) (cx y)
 | _=>cY
def CO(P:Program)(T:TypeId)(x:Operand)(lo hi:Option Operand):oH:=
 match P.underlying T with
 |some .string=>rb (cx x) (lo.map cx) (hi.map cx)
 |some (.slice e)=>match P.info? e with
  |some i=>o6 i.size (cx x) (lo.map cx) (hi.map cx)
  |none=>cY
 |some (.array n e)=>match P.info? e with
  |some i=>pZ (Nat.blt 0 i.size) (qj n i.size (cx x) (lo.map cx) (hi.map cx)) cY
  |none=>cY
 | _=>cY
def zf(P:Program)(T:TypeId)(x:Operand)(lo hi:Option Operand)(m:Operand):oH:=
 match lo,hi with
 |none,some y=>match P.underlying T with
  |some (.slice e)=>match P.info? e with
   |some _=>CA (wO (cx x)) (cx y) (cx m)
   |none=>cY
  | _=>cY
 | _,_=>cY
def Rf(P:Program)(T:TypeId)(x:Operand):oH:=
 match P.underlying T with
 |some .string=>vP (cx x)
 |some (.slice _)=>Cz (wO (cx x))
 |some (.array n _)=>qA (oC (.int .i64 (.ofNat n)))
 | _=>cY
def Rg(P:Program)(T:TypeId)(x:Operand):oH:=
 match P.underlying T with
 |some (.slice _)=>Cy (wO (cx x))
 | _=>cY
def Rh(P:Program)(T:TypeId):oH:=
 match zeroOf P T with
 |some z=>Kw z
 |none=>cY
inductive Cl where
 |p0|p1|al|ch
def Mu(P:Program)(call:nv)(c:Call):oH:=
 match c with
 |⟨.builtin .append,args,yh⟩=>match args.toList,yh.toList with
  | [s,x],[T,T']=>pZ (Nat.beq T T') (B2 P T s x) (Mn P T T' s x)
  | _,_=>cY
 |⟨.builtin .copy,args,yh⟩=>match args.toList,yh.toList with
  | [d,s],[T,_]=>Mt P T d s
  | _,_=>cY
 |⟨.value (.func f),args,_⟩=>A7 call f (args.toList.map cx)
 |⟨.value f,args,_⟩=>wj call (cx f) (args.toList.map cx)
 | _=>cY
def qB(P:Program)(c:Call):Option oH:=
 match c with
 |⟨.builtin .len,args,yh⟩=>match args.toList,yh.toList with
  | [x],[T]=>some (Rf P T x)
  | _,_=>some cY
 |⟨.builtin .cap,args,yh⟩=>match args.toList,yh.toList with
  | [x],[T]=>some (Rg P T x)
  | _,_=>some cY
 |⟨.builtin .min,args,_⟩=>match args.toList with
  | [x,y]=>some (DY (cx x) (cx y))
  | _=>some cY
 |⟨.builtin .max,args,_⟩=>match args.toList with
  | [x,y]=>some (DZ (cx x) (cx y))
  | _=>some cY
 | _=>none
def vt(P:Program)(call:nv)(o:Op):Cl×oH:=
 match o with
 | .move x=>(.p0,qA (cx x))
 | .assign x=>(.p0,qA (cx x))
 | .pick c x y=>(.p0,vN (cx c) (cx x) (cx y))
 | .alloc T=>(.al,Rh P T)
 | .box _ x=>(.al,DX (cx x))
 | .build T ps=>(.p0,CJ P T ps.toList)
 | .buildSlice T n ps=>(.al,QK P T n ps.toList)
 | .load T x=>(.p1,Ij P T x)
 | .store T x y=>(.ch,F' P T x y)
 | .nilCheck x=>(.p0,Cv (cx x))
 | .binOp op T x y _=>match Ii P op T with
  |some f=>(.p0,wa f (cx x) (cx y))
  |none=>(.p0,cY)
 | .unOp op _ x=>match cUn op with
  |some f=>(.p0,HQ f (cx x))
  |none=>(.p0,cY)
 | .convert S D x=>match P.underlying D with
  |some (.slice _)=>(.ch,Gc P S D x)
  | _=>(.p0,EN P S D x)
 | .makeFunc (.func f) first caps=>match first.toList with
  | []=>(.p0,Oj f (caps.toList.map cx))
  | _=>(.p0,cY)
 | .makeSlice T l c=>(.al,H9 P T l c)
 | .makeMap _ r=>match r with
  |none=>(.ch,Ol)
  |some _=>(.ch,cY)
 | .slice T x lo hi none=>(.p1,CO P T x lo hi)
 | .slice T x lo hi (some m)=>(.p1,zf P T x lo hi m)
 | .fieldAddr T x n=>(.p0,tK P T x n)
 | .field T x n=>(.p0,CM P T x n)
 | .indexAddr T x y=>(.p0,tL P T x y)
 | .index T x y=>(.p0,CN P T x y)
 | .extract x i=>(.p0,qa (cx x) i)
 | .call c=>match qB P c with
  |some f=>(.p0,f)
  |none=>(.ch,Mu P call c)
 | _=>(.ch,cY)
def Gd(P:Program)(o:Oper)(f:oH):Prop:=
 ∀ (g:G) (w:World) (nt:Nat) (t:Tm) (h:Hp) (a:Act) (v:AV) (h':Hp),HR g w h->TR g w nt t a.tmps->f t h=.ok v h'->
  ∀ next Q,(∀ g' w' x,Ext g w h g' w' h'->HR g' w' h'->VR g' w' v x->next (a.put o.dst x) w')->o.wp P a w next Q
section
variable {P:Program}{o:Oper}
theorem tG.ok{f:oH}(h:tG P o f):Gd P o f:=by
 intro g w nt t hp a v h' H T e next Q K
 obtain⟨g',w',nx,x,hr,hnx,E,H',hv⟩:=h g w nt t hp a v h' H T e
 unfold Oper.wp
 rw[hr]
 rcases hnx with rfl|⟨rfl,rfl⟩
 ·exact K g' w' x E H' hv
 ·exact K g' w' undef E H' hv
theorem cQ.ok{f:oH}(h:cQ P o f):Gd P o f:=h.run.ok
theorem uW.ok{f:oH}(h:uW P o f):Gd P o f:=h.run.ok
theorem AD:Gd P o cY:=by intro g w nt t h a v h' _ _ e;cases e
theorem WW{f:FuncId}{args:Array Operand}{yh:Array TypeId}{call:nv}(hc:nP P call)(ho:o.op=.call {callee:=.value (.func f),args,argTypes:=yh}):
 Gd P o (A7 call f (args.toList.map cx)):=by
 intro g w nt t h a v h' H T e next Q K
 unfold A7 at e
 split at e
 ·rename_i vs ov
  obtain⟨hen,EO⟩:=hc f vs h v h' e
  have hv:=B0 T args.toList ov
  have hr:(execOp a.eval o).run P w=.ok (.enter f (args.map a.eval)) w:=by
   simp[execOp,ho,resolve,Act.eval,Deferred.ofValue,invoke,hen]
  unfold Oper.wp
  rw[hr,Oper.upon_enter]
  have:=EO g w (args.toList.map a.eval) H hv
  rw[show(args.toList.map a.eval).toArray=args.map a.eval from by rw[<-Array.toList_map,Array.toArray_toList]]at this
  refine this.mono ?_
  rintro e w' ⟨x,g',rfl,E,H',hx⟩
  exact K g' w' x E H' hx
 ·cases e
theorem Ri{f:Operand}{args:Array Operand}{yh:Array TypeId}{call:nv}(hc:nP P call)(ho:o.op=.call {callee:=.value f,args,argTypes:=yh}):
 Gd P o (wj call (cx f) (args.toList.map cx)):=by
 intro g w nt t h a v h' H T e next Q K
 unfold wj at e
 split at e
 ·rename_i k cap hf
  split at e
  ·rename_i vs ov
   have hfv:=cD f _ _ _ _ _ _ T hf
   simp only[VR]at hfv
   obtain⟨caps,hfe,ahm⟩:=hfv
   obtain⟨hen,EO⟩:=hc k _ h v h' e
   have hv:=B0 T args.toList ov
   have hr:(execOp a.eval o).run P w=.ok (.enter k (args.map a.eval++caps)) w:=by
    simp[execOp,ho,resolve,hfe,Deferred.ofValue,invoke,hen]
   unfold Oper.wp
   rw[hr,Oper.upon_enter]
   rw[nD]at EO
   have:=EO g w (args.toList.map a.eval++caps.toList) H (hv.append ahm)
   rw[show(args.toList.map a.eval++caps.toList).toArray=args.map a.eval++caps from by rw[<-Array.toList_map,<-Array.toList_append,Array.toArray_toList]]at this
   refine this.mono ?_
   rintro e w' ⟨x,g',rfl,E,H',hx⟩
   exact K g' w' x E H' hx
  ·cases e
 ·cases e
end
end Go.Ab

noncomputable section
namespace Go.Ab
variable [Io]
section
variable {P:Program}{o:Oper}{call:nv}
theorem KM{T:TypeId}{x:Operand}(ho:o.op=.load T x):cQ P o (Ij P T x):=by
 unfold Ij
 split
 ·rename_i d hd
  split
  ·rename_i i hi;exact Ow ho hd hi
  ·exact cM
 ·exact cM
theorem CP{S D:TypeId}{x:Operand}(ho:o.op=.convert S D x):cQ P o (EN P S D x):=by
 unfold EN
 split
 ·rename_i d hd
  split
  ·rename_i k hk;exact KL ho hd hk
  ·exact cM
 ·exact cM
theorem KN{S D:TypeId}{x:Operand}(ho:o.op=.convert S D x):tG P o (Gc P S D x):=by
 unfold Gc
 split
 ·rename_i hS
  split
  ·rename_i e hD
   split
   ·rename_i he;exact KK ho hS hD he
   ·exact cM.run
  ·exact cM.run
 ·split
  ·rename_i e hD
   split
   ·rename_i he
    cases h:Nat.beq S D with
    |true=>
     obtain rfl:=Nat.eq_of_beq_eq_true h
     exact OH ho hD he
    |false=>exact cM.run
   ·exact cM.run
  ·exact cM.run
 ·exact cM.run
theorem Ik{c:Bool}{f:oH}(h:c=true->cQ P o f):cQ P o (pZ c f cY):=by
 cases c with
 |true=>exact h rfl
 |false=>exact cM
theorem Bw{T:TypeId}{x:Operand}{n:Nat}(ho:o.op=.fieldAddr T x n):cQ P o (tK P T x n):=by
 unfold tK
 split
 ·rename_i fs hd
  split
  ·rename_i f hf
   split
   ·rename_i i hi
    exact Ik fun h=>CH ho hd hf hi (by have:=cP.1 h;omega)
   ·exact cM
  ·exact cM
 ·exact cM
theorem Il{T:TypeId}{x:Operand}{n:Nat}(ho:o.op=.field T x n):cQ P o (CM P T x n):=by
 unfold CM
 split
 ·rename_i fs hd
  split
  ·rename_i f hf
   split
   ·rename_i d Mh
    split
    ·rename_i i hi
     exact KB ho hd hf Mh hi
    ·exact cM
   ·exact cM
  ·exact cM
 ·exact cM
theorem Bx{T:TypeId}{x y:Operand}(ho:o.op=.indexAddr T x y):cQ P o (tL P T x y):=by
 unfold tL
 split
 ·rename_i e hd
  split
  ·rename_i i hi;exact QC ho hd hi
  ·exact cM
 ·rename_i n e hd
  split
  ·rename_i i hi;exact QD ho hd hi
  ·exact cM
 ·exact cM
theorem Im{T:TypeId}{x y:Operand}(ho:o.op=.index T x y):cQ P o (CN P T x y):=by
 unfold CN
 split
 ·rename_i n e hd
  split
  ·rename_i d Mh
   split
   ·rename_i i hi;exact KC ho hd Mh hi
   ·exact cM
  ·exact cM
 ·rename_i hd;exact HY ho hd
 ·exact cM
theorem Ge{T:TypeId}{x:Operand}{lo hi:Option Operand}{m:Operand}(ho:o.op=.slice T x lo hi (some m)):cQ P o (zf P T x lo hi m):=by
 unfold zf
 split
 ·split
  ·rename_i e hd
   split
   ·rename_i i hi;exact OL ho hd hi
   ·exact cM
  ·exact cM
 ·exact cM
theorem Ip{T:TypeId}{x:Operand}{lo hi:Option Operand}(ho:o.op=.slice T x lo hi none):cQ P o (CO P T x lo hi):=by
 unfold CO
 split
 ·rename_i hd;exact HZ ho hd
 ·rename_i e hd
  split
  ·rename_i i hi;exact H5 ho hd hi
  ·exact cM
 ·rename_i n e hd
  split
  ·rename_i i hi;exact Ik fun h=>H6 ho hd hi (by have:=cP.1 h;omega)
  ·exact cM
 ·exact cM
theorem OM{T:TypeId}{x:Operand}(ho:o.op=.call {callee:=.builtin .cap,args:= #[x],argTypes:= #[T]}):cQ P o (Rg P T x):=by
 unfold Rg
 split
 ·rename_i hd;exact QB ho hd
 ·exact cM
theorem ON{T:TypeId}{x:Operand}(ho:o.op=.call {callee:=.builtin .len,args:= #[x],argTypes:= #[T]}):cQ P o (Rf P T x):=by
 unfold Rf
 split
 ·rename_i hd;exact Ou ho hd
 ·rename_i e hd;exact QA ho hd
 ·rename_i n e hd;exact Ov ho hd
 ·exact cM
theorem WX:uW P o cY:=by intro g w nt t h a v h' _ _ e;cases e
theorem Rj{T:TypeId}(ho:o.op=.alloc T):uW P o (Rh P T):=by
 unfold Rh
 split
 ·rename_i z hz;exact QI ho hz
 ·exact WX
theorem Rk{op:UnOp}{T:TypeId}{x:Operand}{f:AV->Option AV}(ho:o.op=.unOp op T x)(h:cUn op=some f):cQ P o (HQ f (cx x)):=by
 cases op<;>cases h
 ·exact Qy ho
 ·exact Qz ho
 ·exact Qv ho
omit [Io] in
theorem WY{α:Type}{a:Array α}{x:α}(h:a.toList=[x]):a= #[x]:=by
 rw[<-Array.toArray_toList (xs:=a),h]
omit [Io] in
theorem OO{α:Type}{a:Array α}{x y:α}(h:a.toList=[x,y]):a= #[x,y]:=by
 rw[<-Array.toArray_toList (xs:=a),h]
theorem D6{c:Call}{f:oH}(ho:o.op=.call c)(h:qB P c=some f):cQ P o f:=by
 unfold qB at h
 split at h
 ·rename_i args yh
  split at h
  ·rename_i x T h1 h2
   cases h
   rw[WY h1,WY h2]at ho
   exact ON ho
  ·cases h;exact cM
 ·rename_i args yh
  split at h
  ·rename_i x T h1 h2
   cases h
   rw[WY h1,WY h2]at ho
   exact OM ho
  ·cases h;exact cM
 ·rename_i args yh
  split at h
  ·rename_i x y h1
   cases h
   rw[OO h1]at ho
   exact Rb ho
  ·cases h;exact cM
 ·rename_i args yh
  split at h
  ·rename_i x y h1
   cases h
   rw[OO h1]at ho
   exact Rd ho
  ·cases h;exact cM
 ·cases h
theorem Rm(hc:nP P call){c:Call}(ho:o.op=.call c):Gd P o (Mu P call c):=by
 unfold Mu
 split
 ·rename_i args yh
  split
  ·rename_i s x T T' h1 h2
   rw[OO h1,OO h2]at ho
   cases h:Nat.beq T T' with
   |true=>
    obtain rfl:=Nat.eq_of_beq_eq_true h
    exact(Ic ho).ok
   |false=>exact(OE ho).ok
  ·exact AD
 ·rename_i args yh
  split
  ·rename_i d s T T' h1 h2
   rw[OO h1,OO h2]at ho
   exact(OK ho).ok
  ·exact AD
 ·exact WW hc ho
 ·exact Ri hc ho
 ·exact AD
theorem Gf(hc:nP P call):match vt P call o.op with
 |(.p0,f)=>cQ P o f
 |(.p1,f)=>cQ P o f
 |(.al,f)=>uW P o f
 |(.ch,f)=>Gd P o f:=by
 cases ho:o.op<;>simp only[vt]
 case move x=>exact ED (.inl ho)
 case assign x=>exact ED (.inr ho)
 case pick c x y=>exact Oo ho
 case alloc T=>exact Rj ho
 case box T x=>exact QJ ho
 case build T ps=>exact KE ho
 case buildSlice T n ps=>exact QL ho
 case load T x=>exact KM ho
 case store T x y=>exact(KH ho).ok
 case nilCheck x=>exact pure_nil ho
 case binOp op T x y yT=>
  cases h:Ii P op T with
  |some f=>exact Qr ho (WV h)
  |none=>exact cM
 case unOp op T x=>
  cases h:cUn op with
  |some f=>exact Rk ho h
  |none=>exact cM
 case convert S D x=>
  cases h:P.underlying D with
  |none=>exact CP ho
  |some d=>cases d<;>first|exact CP ho|exact(KN ho).ok
 case makeFunc f first caps=>
  cases f<;>try exact AD
  rename_i f
  simp only
  cases h:first.toList with
  |nil=>
   have:first= #[]:=by rw[<-Array.toArray_toList (xs:=first),h]
   subst this
   exact Wz ho
  |cons a l=>exact cM
 case makeSlice T l c=>exact Oy ho
 case makeMap T r=>cases r with
  |none=>exact(QS ho).ok
  |some _=>exact AD
 case slice T x lo hi mx=>
  cases mx with
  |none=>exact Ip ho
  |some m=>exact Ge ho
 case fieldAddr T x n=>exact Bw ho
 case field T x n=>exact Il ho
 case indexAddr T x y=>exact Bx ho
 case index T x y=>exact Im ho
 case extract x i=>exact F7 ho
 case call c=>
  cases h:qB P c with
  |some f=>exact D6 ho h
  |none=>exact Rm hc ho
 all_goals exact AD
theorem Rp(hc:nP P call):Gd P o (vt P call o.op).2:=by
 have:=Gf (o:=o) hc
 cases h:vt P call o.op with
 |mk c f=>
  rw[h]at this
  cases c
  ·exact cQ.ok this
  ·exact cQ.ok this
  ·exact uW.ok this
  ·exact this
def gF(j:oI)(want:Bool)(f:oH):oH:=fun t h=>match j t with
 |some (.bool b)=>pZ (pZ want b (!b)) (f t h) (.ok pQ h)
 |some (.xJ [])=>.ok pQ h
 | _=>.bad
def sE(P:Program)(call:nv)(nt:Nat)(all:List Oper)(o:Oper):oH:=
 match o.guard with
 |none=>(vt P call o.op).2
 |some (j,want)=>match sI all j with
  |some oj=>match oj.dst with
   |some d=>pZ (Nat.blt d nt) (gF (oT d) want (vt P call o.op).2) cY
   |none=>cY
  |none=>cY
def s7(P:Program)(call:nv)(nt:Nat)(all l:List Oper):ud:=
 List.rec fi (fun o _ ih=>match o.dst with
  |some d=>pZ (Nat.blt d nt) (st (sT d) (sE P call nt all o) ih) (fun _ _=>.bad)
  |none=>sn (sE P call nt all o) ih) l
theorem Gg(hc:nP P call){ops:Array Oper}{i:Nat}(hi:ops[i]? =some o){g w nt t h}{a:Act}{v:AV}{h':Hp}(H:HR g w h)(T:TR g w nt t a.tmps)
 (e:sE P call nt ops.toList o t h=.ok v h'){Q:Exit->Act->World->Prop}{rest:List Nat}
 (K: ∀ g' w' x,Ext g w h g' w' h'->HR g' w' h'->VR g' w' v x->wpOps P ops Q rest (a.put o.dst x) w'):wpOps P ops Q (i::rest) a w:=by
 rw[wpOps,hi]
 simp only
 unfold sE at e
 cases hg:o.guard with
 |none=>
  rw[hg]at e
  rw[if_pos (by simp[Region.wanted,hg])]
  exact .inl (Rp hc g w nt t h a v h' H T e _ _ K)
 |some p=>
  obtain⟨j,want⟩:=p
  rw[hg]at e
  simp only[pI]at e
  cases hj:ops.toList[j]? with
  |none=>simp only[hj]at e;cases e
  |some oj=>
  simp only[hj]at e
  cases hd:oj.dst with
  |none=>simp only[hd]at e;cases e
  |some d=>
  simp only[hd]at e
  cases hb:Nat.blt d nt with
  |false=>simp only[hb]at e;cases e
  |true=>
  simp only[hb]at e
  have P7:=cP.1 hb
  change gF (oT d) want (vt P call o.op).2 t h=.ok v h' at e
  have hj':ops[j]? =some oj:=by simpa using hj
  have vQ:=T.2.1
  have hy: ∀ y,a.tmps.getD d undef=y->yielded ops a.tmps j=match y with| .bool b=>some b| _=>none:=by
   intro y hy
   have:a.tmps[d]? =some y:=by
    rw[Array.getD_eq_getD_getElem?]at hy
    rw[Array.getElem?_eq_getElem (by omega)]at hy ⊢
    simpa using hy
   simp[yielded,hj',hd,this]
   cases y<;>rfl
  unfold gF at e
  split at e
  ·rename_i b HG
   have hv:=(T.2.2 d _ (by have:=T.1;omega) HG).2
   simp only[VR]at hv
   have WZ:=hy _ hv
   cases W0:(pZ want b (!b))with
   |true=>
    rw[W0]at e
    have:b=want:=by cases want<;>cases b<;>simp[pZ]at W0<;>rfl
    rw[if_pos (by simp[Region.wanted,hg,WZ,this])]
    exact .inl (Rp hc g w nt t h a v h' H T e _ _ K)
   |false=>
    rw[W0]at e
    have:b≠want:=by cases want<;>cases b<;>simp[pZ]at W0<;>simp
    rw[if_neg (by simp[Region.wanted,hg,WZ,this])]
    cases e
    exact K g w undef (Ext.refl _ _ _) H (by simp only[pQ,VR];exact⟨_,rfl,by simp[cJ]⟩)
  ·rename_i HG
   have hv:=(T.2.2 d _ (by have:=T.1;omega) HG).2
   simp only[VR]at hv
   obtain⟨vs,hv,ov⟩:=hv
   have WZ:=hy _ hv
   rw[if_neg (by simp[Region.wanted,hg,WZ])]
   cases e
   exact K g w undef (Ext.refl _ _ _) H (by simp only[pQ,VR];exact⟨_,rfl,by simp[cJ]⟩)
  ·cases e
end
end Go.Ab

noncomputable section
namespace Go.Ab
variable [Io]
section
variable {P:Program}{call:nv}
def uf(g:G)(w:World)(h:Hp)(nt:Nat)(t':Tm)(h':Hp)(R:Act->World->Prop):Prop:=
 ∀ g' w' a',Ext g w h g' w' h'->HR g' w' h'->TR g' w' nt t' a'.tmps->a'.defers=[]->R a' w'
theorem uf.then{g w h nt h1 g1 w1 t2 h2}{R:Act->World->Prop}(E:Ext g w h g1 w1 h1)(K:uf g w h nt t2 h2 R):uf g1 w1 h1 nt t2 h2 R:=
 fun g' w' a' E' H' T' D'=>K g' w' a' (E.trans E') H' T' D'
def Rq(P:Program)(nt:Nat)(c:Code)(r:ud):Prop:=
 ∀ (g:G) (w:World) (t:Tm) (h:Hp) (a:Act) (t':Tm) (h':Hp),HR g w h->TR g w nt t a.tmps->a.defers=[]->r t h=.ok t' h'->
  ∀ Q:Exit->Act->World->Prop,uf g w h nt t' h' (Q .normal)->c.wp P Q a w
theorem W6{g w nt t}{a:Act}{d:Nat}{v:AV}{x:Value}(T:TR g w nt t a.tmps)(hd:d<nt)(hv:VR g w v x):TR g w nt (sT d v t) (a.put (some d) x).tmps:=
 T.put hd hv
theorem Ru(hc:nP P call){nt:Nat}(ops:Array Oper): ∀ (l pre:List Oper),ops.toList=pre++l-> ∀ (g:G) (w:World) (t:Tm) (h:Hp) (a:Act) (t':Tm) (h':Hp),
 HR g w h->TR g w nt t a.tmps->a.defers=[]->s7 P call nt ops.toList l t h=.ok t' h'-> ∀ Q:Exit->Act->World->Prop,uf g w h nt t' h' (Q .normal)->
  wpOps P ops Q (List.range' pre.length l.length) a w
 | [],pre,_,g,w,t,h,a,t',h',H,T,D,e,Q,K=>by
  cases e
  exact K g w a (Ext.refl _ _ _) H T D
 |o::l,pre,hl,g,w,t,h,a,t',h',H,T,D,e,Q,K=>by
  have hi:ops[pre.length]? =some o:=by
   have:ops.toList[pre.length]? =some o:=by rw[hl];simp
   simpa using this
  have ih:=Ru hc (nt:=nt) ops l (pre++[o]) (by simp[hl])
  simp only[List.length_append,List.length_cons,List.length_nil,Nat.zero_add]at ih
  rw[List.length_cons,List.range'_succ]
  change (match o.dst with
   |some d=>pZ (Nat.blt d nt) (st (sT d) (sE P call nt ops.toList o) (s7 P call nt ops.toList l)) (fun _ _=>.bad)
   |none=>sn (sE P call nt ops.toList o) (s7 P call nt ops.toList l)) t h=.ok t' h' at e
  cases hd:o.dst with
  |none=>
   simp only[hd]at e
   unfold sn at e
   cases hg:sE P call nt ops.toList o t h with
   |bad=>rw[hg]at e;cases e
   |ok v h1=>
    rw[hg]at e
    refine Gg hc hi H T hg fun g1 w1 x E H1 hv=>?_
    rw[hd]
    exact ih g1 w1 t h1 a t' h' H1 (T.mono H E) D e Q (uf.then E K)
  |some d=>
   simp only[hd]at e
   cases hb:Nat.blt d nt with
   |false=>simp only[hb]at e;cases e
   |true=>
    simp only[hb]at e
    change st (sT d) (sE P call nt ops.toList o) (s7 P call nt ops.toList l) t h=.ok t' h' at e
    unfold st at e
    cases hg:sE P call nt ops.toList o t h with
    |bad=>rw[hg]at e;cases e
    |ok v h1=>
     rw[hg]at e
     refine Gg hc hi H T hg fun g1 w1 x E H1 hv=>?_
     rw[hd]
     exact ih g1 w1 (sT d v t) h1 (a.put (some d) x) t' h' H1 (W6 (T.mono H E) (cP.1 hb) hv) D e Q (uf.then E K)
theorem OP(hc:nP P call){nt:Nat}(id:Nat)(ops:Array Oper):Rq P nt (.region id ops false) (s7 P call nt ops.toList ops.toList):=by
 intro g w t h a t' h' H T D e Q K
 refine wp_region ?_
 have:=Ru hc ops ops.toList [] rfl g w t h a t' h' H T D e Q K
 rw[List.range_eq_range']
 simpa using this
def ahn(P:Program)(nt:Nat)(c:Code)(f:BV):Prop:=
 ∀ (g:G) (w:World) (t:Tm) (h:Hp) (a:Act) (Q:Exit->Act->World->Prop),HR g w h->TR g w nt t a.tmps->a.defers=[]->
  match f t h with
  | .bad=>True
  | .norm t' h'=>uf g w h nt t' h' (Q .normal)->c.wp P Q a w
  | .ret t' h'=>uf g w h nt t' h' (Q .ret)->c.wp P Q a w
  | .exit i t' h'=>uf g w h nt t' h' (Q (.exit i))->c.wp P Q a w
def oZ(P:Program)(draw:Array Oper->ud)(call:nv)(n nt:Nat)(c:Code):BV:=
 Code.rec (motive:=fun _=>BV) wg
  (fun _ ops d=>cRg (Bool.rec (s7 P call nt ops.toList ops.toList) (draw ops) d))
  (fun _ _ ia ib=>nH ia ib)
  (fun c _ _ ia ib=>VK (cx c) ia ib)
  (fun id _ ib=>yP id ib)
  (fun _ ib=>V5 n ib)
  (fun _ _ _ _ _ _=>HS)
  (fun i=>Qm i)
  (fun _ _=>HS)
  (fun _=>HS)
  (fun _=>HS)
  og
  (fun _=>HS) c
theorem CQ{nt:Nat}{c:Code}:ahn P nt c HS:=by
 intro g w t h a Q H T D
 exact trivial
theorem Mv(hc:nP P call){draw:Array Oper->ud}{nt:Nat}(hd: ∀ id ops,Rq P nt (.region id ops true) (draw ops))(n:Nat): ∀ c,ahn P nt c (oZ P draw call n nt c):=by
 intro c
 induction c with
 |skip=>
  intro g w t h a Q H T D K
  exact wp_skip (K g w a (Ext.refl _ _ _) H T D)
 |region id ops d=>
  intro g w t h a Q H T D
  have key:Rq P nt (.region id ops d) (Bool.rec (s7 P call nt ops.toList ops.toList) (draw ops) d):=by
   cases d with
   |false=>exact OP hc id ops
   |true=>exact hd id ops
  show match cRg (Bool.rec (s7 P call nt ops.toList ops.toList) (draw ops) d) t h with| .bad=>_| .norm _ _=>_| .ret _ _=>_| .exit _ _ _=>_
  unfold cRg
  cases e:(Bool.rec (s7 P call nt ops.toList ops.toList) (draw ops) d:ud) t h with
  |bad=>exact trivial
  |ok t' h'=>exact fun K=>key g w t h a t' h' H T D e Q K
 |seq x y hx hy=>
  intro g w t h a Q H T D
  show match nH (oZ P draw call n nt x) (oZ P draw call n nt y) t h with| .bad=>_| .norm _ _=>_| .ret _ _=>_| .exit _ _ _=>_
  unfold nH
  have h1:=hx g w t h a (Exit.then (y.wp P Q) Q) H T D
  cases e:oZ P draw call n nt x t h with
  |bad=>exact trivial
  |ret t1 vT=>rw[e]at h1;exact fun K=>wp_seq (h1 K)
  |exit i t1 vT=>rw[e]at h1;exact fun K=>wp_seq (h1 K)
  |norm t1 vT=>
   rw[e]at h1
   show match oZ P draw call n nt y t1 vT with| .bad=>_| .norm _ _=>_| .ret _ _=>_| .exit _ _ _=>_
   cases e2:oZ P draw call n nt y t1 vT with
   |bad=>exact trivial
   |norm t2 h2=>
    intro K
    refine wp_seq (h1 fun g1 w1 a1 E1 H1 T1 D1=>?_)
    have:=hy g1 w1 t1 vT a1 Q H1 T1 D1
    rw[e2]at this
    exact this (uf.then E1 K)
   |ret t2 h2=>
    intro K
    refine wp_seq (h1 fun g1 w1 a1 E1 H1 T1 D1=>?_)
    have:=hy g1 w1 t1 vT a1 Q H1 T1 D1
    rw[e2]at this
    exact this (uf.then E1 K)
   |exit i t2 h2=>
    intro K
    refine wp_seq (h1 fun g1 w1 a1 E1 H1 T1 D1=>?_)
    have:=hy g1 w1 t1 vT a1 Q H1 T1 D1
    rw[e2]at this
    exact this (uf.then E1 K)
 |cond c x y hx hy=>
  intro g w t h a Q H T D
  show match VK (cx c) (oZ P draw call n nt x) (oZ P draw call n nt y) t h with| .bad=>_| .norm _ _=>_| .ret _ _=>_| .exit _ _ _=>_
  unfold VK
  cases pq:cx c t with
  |none=>exact trivial
  |some v=>
   cases v<;>try exact trivial
   rename_i b
   have hv:=cD c _ _ _ _ _ _ T pq
   simp only[VR]at hv
   cases b with
   |true=>
    have:=hx g w t h a Q H T D
    show match oZ P draw call n nt x t h with| .bad=>_| .norm _ _=>_| .ret _ _=>_| .exit _ _ _=>_
    cases e:oZ P draw call n nt x t h<;>rw[e]at this
    ·exact trivial
    all_goals exact fun K=>wp_cond_true hv (this K)
   |false=>
    have:=hy g w t h a Q H T D
    show match oZ P draw call n nt y t h with| .bad=>_| .norm _ _=>_| .ret _ _=>_| .exit _ _ _=>_
    cases e:oZ P draw call n nt y t h<;>rw[e]at this
    ·exact trivial
    all_goals exact fun K=>wp_cond_false hv (this K)
 |block id x hx=>
  intro g w t h a Q H T D
  show match yP id (oZ P draw call n nt x) t h with| .bad=>_| .norm _ _=>_| .ret _ _=>_| .exit _ _ _=>_
  unfold yP
  have:=hx g w t h a (Exit.inBlock id Q) H T D
  cases e:oZ P draw call n nt x t h<;>rw[e]at this
  ·exact trivial
  ·exact fun K=>wp_block (this K)
  ·exact fun K=>wp_block (this K)
  ·rename_i i t1 h1
   show match(Bool.rec (Rc.exit i t1 h1) (Rc.norm t1 h1) (Nat.beq i id):Rc)with| .bad=>_| .norm _ _=>_| .ret _ _=>_| .exit _ _ _=>_
   cases hb:Nat.beq i id with
   |true=>
    obtain rfl:=Nat.eq_of_beq_eq_true hb
    exact fun K=>wp_block (this fun g' w' a' E' H' T' D'=>by
     show Exit.inBlock i Q (.exit i) a' w'
     simp only[Exit.inBlock,if_true]
     exact K g' w' a' E' H' T' D')
   |false=>
    have vi:i≠id:=fun k=>by rw[k,Nat.beq_refl]at hb;cases hb
    exact fun K=>wp_block (this fun g' w' a' E' H' T' D'=>by
     show Exit.inBlock id Q (.exit i) a' w'
     simp only[Exit.inBlock,if_neg vi]
     exact K g' w' a' E' H' T' D')
 |loop x hx=>
  intro g w t h a Q H T D
  show match V5 n (oZ P draw call n nt x) t h with| .bad=>_| .norm _ _=>_| .ret _ _=>_| .exit _ _ _=>_
  have key: ∀ m,∀ (g:G) (w:World) (t:Tm) (h:Hp) (a:Act),HR g w h->TR g w nt t a.tmps->a.defers=[]->
   match V5 m (oZ P draw call n nt x) t h with
   | .bad=>True
   | .norm t' h'=>uf g w h nt t' h' (Q .normal)->Code.rounds P x Q m a w
   | .ret t' h'=>uf g w h nt t' h' (Q .ret)->Code.rounds P x Q m a w
   | .exit i t' h'=>uf g w h nt t' h' (Q (.exit i))->Code.rounds P x Q m a w:=by
   intro m
   induction m with
   |zero=>intro g w t h a H T D;exact trivial
   |succ m ih=>
    intro g w t h a H T D
    have h1:=hx g w t h a (Exit.then (Code.rounds P x Q m) Q) H T D
    show match(Rc.rec Rc.bad (fun t h=>V5 m (oZ P draw call n nt x) t h) (fun t h=>Rc.ret t h) (fun i t h=>Rc.exit i t h) (oZ P draw call n nt x t h):Rc)with
     | .bad=>_| .norm _ _=>_| .ret _ _=>_| .exit _ _ _=>_
    cases e:oZ P draw call n nt x t h with
    |bad=>exact trivial
    |ret t1 vT=>rw[e]at h1;exact fun K=>h1 K
    |exit i t1 vT=>rw[e]at h1;exact fun K=>h1 K
    |norm t1 vT=>
     rw[e]at h1
     show match V5 m (oZ P draw call n nt x) t1 vT with| .bad=>_| .norm _ _=>_| .ret _ _=>_| .exit _ _ _=>_
     cases e2:V5 m (oZ P draw call n nt x) t1 vT with
     |bad=>exact trivial
     |norm t2 h2=>
      intro K
      refine h1 fun g1 w1 a1 E1 H1 T1 D1=>?_
      have:=ih g1 w1 t1 vT a1 H1 T1 D1
      rw[e2]at this
      exact this (uf.then E1 K)
     |ret t2 h2=>
      intro K
      refine h1 fun g1 w1 a1 E1 H1 T1 D1=>?_
      have:=ih g1 w1 t1 vT a1 H1 T1 D1
      rw[e2]at this
      exact this (uf.then E1 K)
     |exit i t2 h2=>
      intro K
      refine h1 fun g1 w1 a1 E1 H1 T1 D1=>?_
      have:=ih g1 w1 t1 vT a1 H1 T1 D1
      rw[e2]at this
      exact this (uf.then E1 K)
  have:=key n g w t h a H T D
  cases e:V5 n (oZ P draw call n nt x) t h<;>rw[e]at this
  ·exact trivial
  all_goals exact fun K=>wp_loop_rounds n (this K)
 |rangeFunc f ps x y _ _=>exact CQ
 |exit i=>
  intro g w t h a Q H T D K
  exact wp_exit (K g w a (Ext.refl _ _ _) H T D)
 |scope x _=>exact CQ
 |label l=>exact CQ
 |goto l=>exact CQ
 |ret=>
  intro g w t h a Q H T D K
  exact wp_ret (K g w a (Ext.refl _ _ _) H T D)
 |refuse s=>exact CQ
end
end Go.Ab

noncomputable section
namespace Go.Ab
variable [Io]
section
variable {P:Program}
def cRV(P:Program)(nt:Nat):ResultVar->Option RV
 | .tmp i=>pZ (Nat.blt i nt) (some (.tmp i)) none
 | .cell i T=>match P.underlying T with
  |some d=>match P.info? T with
   |some ti=>pZ (Nat.blt i nt) (some (.cell i ti.size (rr d))) none
   |none=>none
  |none=>none
def Iq(P:Program)(nt:Nat)(l:List ResultVar):Option (List RV):=
 List.rec (some []) (fun r _ ih=>match cRV P nt r with
  |some v=>match ih with
   |some vs=>some (v::vs)
   |none=>none
  |none=>none) l
def CR(tmps:Array Value):ResultVar->Sem Value
 | .tmp t=>pure (tmps.getD t undef)
 | .cell a t=>do loadVar t (<-asAddr (tmps.getD a undef))
theorem W7{g w nt t h}{tmps:Array Value}(H:HR g w h)(T:TR g w nt t tmps){r:ResultVar}{rv:RV}{v:AV}(hr:cRV P nt r=some rv)(e:Qn t h rv=some v):
 ∃ x,(CR tmps r).run P w=.ok x w/\VR g w v x:=by
 cases r with
 |tmp i=>
  change pZ (Nat.blt i nt) (some (RV.tmp i)) none=some rv at hr
  cases hb:Nat.blt i nt with
  |false=>rw[hb]at hr;cases hr
  |true=>
   rw[hb]at hr
   cases hr
   exact⟨_,rfl,(T.2.2 i v (by have:=T.1;have:=cP.1 hb;omega) e).2⟩
 |cell i ty=>
  unfold cRV at hr
  cases hd:P.underlying ty with
  |none=>simp only[hd]at hr;cases hr
  |some d=>
  simp only[hd]at hr
  cases hi:P.info? ty with
  |none=>simp only[hi]at hr;cases hr
  |some ti=>
  simp only[hi]at hr
  cases hb:Nat.blt i nt with
  |false=>rw[hb]at hr;cases hr
  |true=>
   rw[hb]at hr
   cases hr
   have Gh: @LT.lt Nat _ i 512:=by have:=T.1;have:=cP.1 hb;omega
   change (match t.at i with|some a=>Ct h ti.size (rr d) a|none=>none)=some v at e
   split at e
   ·rename_i a ha
    have hv:=(T.2.2 i a Gh ha).2
    unfold Ct at e
    split at e
    ·rename_i id off
     split at e
     ·rename_i cs hg
      simp only[VR]at hv
      obtain⟨b,s,hm,hv⟩:=hv
      obtain⟨C,el,vs,hw,_,ov,hc⟩:=H.row hg hm
      obtain⟨z,hz,hr⟩:=uo hd hi ov (pE hw hc) (CB e)
      exact⟨z,by simp only[CR,hv,asAddr,Sem.run_bind,Sem.run_pure,Result.andThen_ok,hz],hr⟩
     ·cases e
    ·rename_i cs
     simp only[VR]at hv
     obtain⟨b,s,vs,hv,_,hc,ov⟩:=hv
     obtain⟨z,hz,hr⟩:=uo hd hi ov hc e
     rw[Nat.add_zero]at hz
     exact⟨z,by simp only[CR,hv,asAddr,Sem.run_bind,Sem.run_pure,Result.andThen_ok,hz],hr⟩
    ·cases e
   ·cases e
theorem Ir{g w nt t h}{tmps:Array Value}(H:HR g w h)(T:TR g w nt t tmps): ∀ (l:List ResultVar) {W8:List RV} {vs:List AV},Iq P nt l=some W8->EB t h W8=some vs->
 ∃ xs,(l.mapM (CR tmps)).run P w=.ok xs w/\cJ g w vs xs
 | [],W8,vs,h1,h2=>by
  cases h1
  cases h2
  exact⟨[],by simp,by simp[cJ]⟩
 |r::l,W8,vs,h1,h2=>by
  change (match cRV P nt r with|some v=>(match Iq P nt l with|some vs=>some (v::vs)|none=>none)|none=>none)=some W8 at h1
  split at h1
  ·rename_i rv Rv
   split at h1
   ·rename_i rl hrl
    cases h1
    change (match Qn t h rv with|some v=>(match EB t h rl with|some vs=>some (v::vs)|none=>none)|none=>none)=some vs at h2
    split at h2
    ·rename_i v hv
     split at h2
     ·rename_i us hu
      cases h2
      obtain⟨x,hx,Ry⟩:=W7 H T Rv hv
      obtain⟨xs,WN,ant⟩:=Ir H T l hrl hu
      refine⟨x::xs,?_,by simp only[cJ];exact⟨x,xs,rfl,Ry,ant⟩⟩
      simp only[List.mapM_cons,Sem.run_bind,hx,WN,Result.andThen_ok,Sem.run_pure]
     ·cases h2
    ·cases h2
   ·cases h1
  ·cases h1
theorem acW{g w nt t h}{tmps:Array Value}{F:Func}{W8:List RV}{v:AV}{h':Hp}(H:HR g w h)(T:TR g w nt t tmps)(hr:Iq P nt F.results.toList=some W8)(e:fin W8 t h=.ok v h'):
 h'=h/\ ∃ x,(results F tmps).run P w=.ok x w/\VR g w v x:=by
 have key: ∀ vs,EB t h W8=some vs-> ∃ xs:List Value,(results F tmps).run P w=.ok (if h:xs.toArray.size=1 then xs.toArray[0]else .tuple xs.toArray) w/\cJ g w vs xs:=by
  intro vs ov
  obtain⟨xs,WN,hv⟩:=Ir H T F.results.toList hr ov
  refine⟨xs,?_,hv⟩
  show((F.results.mapM (CR tmps)>>=fun vs=>(pure (if h:vs.size=1 then vs[0]else .tuple vs):Sem Value))).run P w=_
  rw[Array.mapM_eq_mapM_toList]
  simp only[Sem.run_bind,Sem.run_map,WN,Result.andThen_ok,Sem.run_pure]
 unfold fin at e
 split at e
 ·rename_i v1 ov
  cases e
  obtain⟨xs,hx,hv⟩:=key _ ov
  simp only[cJ]at hv
  obtain⟨x,l',rfl,Ry,rfl⟩:=hv
  exact⟨rfl,x,by rw[hx];rfl,Ry⟩
 ·rename_i vs vi ov
  cases e
  obtain⟨xs,hx,hv⟩:=key _ ov
  refine⟨rfl,.tuple xs.toArray,?_,by simp only[VR];exact⟨_,rfl,hv⟩⟩
  rw[hx,dif_neg]
  intro h1
  have hl:=hv.length
  have:vs.length=1:=by simpa[<-hl]using h1
  match vs,this with
  | [a],_=>exact vi a rfl
 ·cases e
def KO(P:Program)(draw:nv->Nat->Array Oper->ud):Prop:=
 ∀ call nt,nP P call-> ∀ id ops,Rq P nt (.region id ops true) (draw call nt ops)
structure OQ(P:Program)(draw:nv->Nat->Array Oper->ud)(f:FuncId)(b:Fb):Prop where
 ex: ∃ F c,P.funcs[f]? =some F/\F.body=some c/\b.ntmps=F.ntmps/\b.ntmps<=512/\Iq P b.ntmps F.results.toList=some b.res/\b.body=fun call n=>oZ P (draw call b.ntmps) call n b.ntmps c
 enter: ∀ as w,(callFunc f as).run P w=.ok (.enter f as) w
theorem zg{g w}: ∀ (l:List AV) (vs:List Value) (i nt:Nat) (t:Tm) (tmps:Array Value),cJ g w l vs->i+l.length<=nt->TR g w nt t tmps->
 (∀ j v,vs[j]? =some v->tmps[i+j]? =some v)->TR g w nt (vo l i t) tmps
 | [],vs,i,nt,t,tmps,h,hl,T,hj=>T
 |a::l,vs,i,nt,t,tmps,h,hl,T,hj=>by
  simp only[cJ]at h
  obtain⟨v,l',rfl,hv,h⟩:=h
  simp only[List.length_cons]at hl
  have h0:tmps[i]? =some v:=by simpa using hj 0 v rfl
  have hi:i<tmps.size:=(Array.getElem?_eq_some_iff.1 h0).1
  have anu:tmps.setIfInBounds i v=tmps:=by
   apply Array.ext
   ·simp
   ·intro k h1 h2
    rw[Array.getElem_setIfInBounds]
    split
    ·rename_i e
     subst e
     exact(Option.some.inj ((Array.getElem?_eq_getElem hi).symm.trans h0)).symm
    ·rfl
  have T':=T.put (d:=i) (by omega) hv
  rw[anu]at T'
  exact zg l l' (i+1) nt _ tmps h (by omega) T' (fun j u e=>by
   have:=hj (j+1) u (by simpa using e)
   rwa [show i+1+j=i+(j+1) by omega])
end
end Go.Ab
