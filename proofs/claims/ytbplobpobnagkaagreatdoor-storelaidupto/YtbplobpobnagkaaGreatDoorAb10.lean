import Derived.Test.YtbplobpobnagkaaGreatDoorAb6
import Derived.Laws.BytesArg
import Derived.Laws.IdiomStrings
import Derived.Laws.StructEq
import Derived.LoopN
noncomputable section
namespace Go.Ab
variable [Io]
section
variable {P:Program}{o:Oper}
theorem Q3{g w h}(H:HR g w h){w':World}(h1:w'.os=w.os)(h2:w'.tape=w.tape)(h3:w'.output=w.output)(h4:w'.heap.size=w.heap.size+1)
 (h5: ∀ b,b<w.heap.size->w'.heap[b]? =w.heap[b]?):
 Ext g w h ⟨g.m,fun b=>g.fw b∨b=w.heap.size⟩ w' h/\HR ⟨g.m,fun b=>g.fw b∨b=w.heap.size⟩ w' h:=by
 have aoC: ∀ b,jW g h b->b<w.heap.size:=by
  rintro b ⟨id,cs,s,e,m⟩
  obtain⟨_,_,_,hw,_⟩:=H.row e m
  exact(Array.getElem?_eq_some_iff.1 hw).1
 have E:Ext g w h ⟨g.m,fun b=>g.fw b∨b=w.heap.size⟩ w' h:=by
  refine⟨h1,h2,h3,by omega,Nat.le_refl _,fun _ _ e=>e,fun b hb _=>h5 b hb,?_,fun _ i=>.inl i,?_,fun _ o=>.inl o⟩
  ·intro b
   unfold dU
   by_cases hb:b<w.heap.size
   ·rw[h5 b hb];exact Nat.le_refl _
   ·rw[Array.getElem?_eq_none (by omega)];exact Nat.zero_le _
  ·rintro b (i|rfl)
   ·exact .inl i
   ·exact .inr (.inr (Nat.le_refl _))
 refine⟨E,H.fresh,?_,H.inj,?_,nJ.ext H E⟩
 ·intro id cs e
  obtain⟨b,s,C,el,vs,hm,hw,hi,hv,hc⟩:=H.aL id cs e
  have hb:=(Array.getElem?_eq_some_iff.1 hw).1
  refine⟨b,s,C,el,vs,hm,by rw[h5 b hb];exact hw,?_,bD.mono H E _ _ hv,hc⟩
  rintro(i|rfl)
  ·exact hi i
  ·omega
 ·rintro b (i|rfl)
  ·have:=H.fw b i;omega
  ·omega
def Fa(s:ByteArray):List Value:=s.data.toList.map fun b=>Value.int .u8 (.ofNat b.toNat)
omit [Io] in
theorem II(w:World)(e:TypeId)(s:ByteArray): ∃ cap w',∃ C:Array Value,∃ el:FT C,(Conv.stringToBytes e s).run P w=.ok (.slice (some ⟨w.heap.size,0,none⟩) s.size cap) w'/\s.size<=cap/\cap<=C.size/\
 w'.os=w.os/\w'.tape=w.tape/\w'.output=w.output/\w'.heap.size=w.heap.size+1/\(∀ b,w'.heap[b]? =if b=w.heap.size then some (.cells C el.el el.fz)else w.heap[b]?)/\(∀ (j:Nat) (v:Value),(Fa s)[j]? =some v->C[j]? =some v):=by
 obtain⟨cap,xE⟩: ∃ cap,cap=(Question.appendCap s.size 0 e).cut (w.tape w.drawn (.appendCap s.size 0 e)):=⟨_,rfl⟩
 have K5:s.size<=cap:=by rw[xE];simp[Question.cut]
 obtain⟨C,hC⟩: ∃ C:Array Value,C=s.data.map (fun b=>Value.int .u8 (b.toNat:Int))++Array.replicate (cap - s.size) (.int .u8 0):=⟨_,rfl⟩
 have hCs:C.size=cap:=by rw[hC];simp;show s.size+_=_;omega
 refine⟨cap,(w.drew.alloc (.cells C e)).freeze {block:=w.heap.size,off:=C.size} 1,C,⟨e,(C.size,C.size+1),.inr (Nat.le_refl _)⟩,?_,K5,by omega,rfl,rfl,rfl,?_,?_,?_⟩
 ·have hsh:(w.drew.alloc (.cells C e)).shape? w.heap.size=some (e,C.size):=by
   have:((w.drew.alloc (.cells C e)).heap)[w.heap.size]? =some (.cells C e):=by
    show(w.heap.push _)[w.heap.size]? =_
    simp
   simp only[World.shape?,this]
  simp[Conv.stringToBytes,run_choose,Question.forced,<-xE,<-hC,newRow,markStringish,hsh]
 ·simp[World.freeze]
 ·intro b
  have h1:((w.drew.alloc (.cells C e)).heap)[b]? =if b=w.heap.size then some (.cells C e)else w.heap[b]? :=by
   show(w.heap.push _)[b]? =_
   rw[Array.getElem?_push]
  simp only[World.freeze,Nat.one_ne_zero,if_false]
  rw[Array.getElem?_modify,h1]
  by_cases hb:b=w.heap.size
  ·subst hb
   rw[if_pos rfl,if_pos rfl,if_pos rfl]
   rfl
  ·rw[if_neg hb,if_neg hb,if_neg (by show ¬ w.heap.size=b;omega)]
 ·intro j v hj
  unfold Fa at hj
  have hl:=(List.getElem?_eq_some_iff.1 hj).1
  rw[hC,Array.getElem?_append_left (by simpa using hl)]
  simpa using hj
theorem bD.bytes(g:G)(w:World): ∀ (l:List UInt8),bD g w (l.map fun b=>AV.int .u8 (.ofNat b.toNat)) (l.map fun b=>Value.int .u8 (.ofNat b.toNat))
 | []=>by simp[bD]
 |b::l=>by
  simp only[List.map_cons,bD]
  exact⟨_,_,rfl,by simp only[VR],bD.bytes g w l⟩
theorem Fc{S D e:TypeId}{d:TypeDesc}{x:Operand}(ho:o.op=.convert S D x)(hS:P.underlying S=some d)(hD:P.underlying D=some (.slice e))(he:P.underlying e=some (.int .u8)):
 my P o (pf (aM x)):=by
 intro g w nt t h a v h' H Tr ev
 unfold pf at ev
 split at ev
 ·rename_i s hx
  have hv:=ba x _ _ _ _ _ _ Tr hx
  simp only[VR]at hv
  cases ev
  obtain⟨hv,_⟩:=hv
  obtain⟨cap,w',C,el,hr,K5,hcC,h1,h2,h3,h4,h5,hc⟩:=II (P:=P) w e s
  obtain⟨E,H'⟩:=Cu H el h1 h2 h3 h4 h5 (cs:=wM (s.data.toList.map fun b=>.int .u8 (.ofNat b.toNat))) (vs:=Fa s) (by rw[iQ];exact bD.bytes g w s.data.toList) hc
  refine⟨_,w',.value (.slice (some ⟨w.heap.size,0,none⟩) s.size cap),_,?_,.inl rfl,E,H',?_⟩
  ·simp[execOp,ho,hv,convert,run_underlying hS,run_underlying hD,run_underlying he,hr]
  ·simp only[VR]
   refine .inr ⟨w.heap.size,0,cap,by simp[G.add],rfl,K5,?_⟩
   have:w'.heap[w.heap.size]? =some (.cells C el.el el.fz):=by rw[h5,if_pos rfl]
   rw[jJ this]
   omega
 ·cases ev
theorem CJ{g:G}{w:World}: ∀ {cs:List AV} {l:List Int} {vs:List Value},xq cs=some l->bD g w cs vs->vs=l.map (Value.int .u8)
 | [],l,vs,e,hv=>by
  cases e
  simp only[bD]at hv
  subst hv
  rfl
 |a::cs,l,vs,e,hv=>by
  simp only[bD]at hv
  obtain⟨u,us,rfl,h1,h2⟩:=hv
  cases a with
  |int k n=>
   cases k with
   |u8=>
    change (match xq cs with|some r=>some (n::r)|none=>none)=some l at e
    split at e
    ·rename_i r hr
     cases e
     simp only[VR]at h1
     rw[h1,CJ hr h2]
     rfl
    ·cases e
   | _=>cases e
  | _=>cases e
theorem IJ{S D e:TypeId}{x:Operand}(ho:o.op=.convert S D x)(hS:P.underlying S=some (.slice e))(he:P.underlying e=some (.int .u8))(hD:P.underlying D=some .string):
 bI P o (wu (aM x)):=by
 intro g w nt t h a v h' H Tr ev
 unfold wu at ev
 split at ev
 ·rename_i b hx
  have hv:=hX x _ _ _ _ _ _ Tr hx
  split at ev
  ·rename_i n cs hs
   split at ev
   ·rename_i l hl
    cases hn:Nat.beq (len l) n with
    |false=>rw[hn]at ev;cases ev
    |true=>
     rw[hn]at ev
     cases ev
     have hn:=Nat.eq_of_beq_eq_true hn
     rw[bM]at hn
     obtain⟨ad,c,hve,hc,hr⟩:=oc H hv hs
     refine⟨rfl,.string (wq l),?_,by simp only[VR];exact⟨trivial,rfl⟩⟩
     have key:(convert S D (.slice ad n c)).run P w=.ok (.string (wq l)) w:=by
      rcases hr with rfl|⟨bk,s,vs,rfl,eI,n8⟩
      ·cases hl
       cases ad with
       |none=>exact run_convert_bytes_nil w S e hS he n c D hD
       |some ad=>
        have hn:0=n:=hn
        subst hn
        exact run_convert_bytes_back w S D e ad c [] hS he hD (fun j hj=>absurd hj (Nat.not_lt_zero j))
      ·refine run_convert_bytes_arg w S e hS he bk s n c l hn (fun i hi=>?_) D hD
       have hvl:=CJ hl eI
       subst hvl
       refine n8 i _ ?_
       rw[List.getElem?_map,List.getElem?_eq_getElem (by omega),List.getD_eq_getElem?_getD,List.getElem?_eq_getElem (by omega)]
       rfl
     simp[execOp,ho,hve,key]
   ·cases ev
  ·cases ev
 ·cases ev
theorem IK{D e:TypeId}{x:Operand}(ho:o.op=.convert D D x)(hD:P.underlying D=some (.slice e))(he:P.underlying e=some (.int .u8)):my P o (rZ (aM x)):=by
 intro g w nt t h a v h' H Tr ev
 unfold rZ at ev
 split at ev
 ·rename_i id off n sz hx
  have hv:=ba x _ _ _ _ _ _ Tr hx
  have rm:=hv
  cases hn:Nat.beq n 0 with
  |true=>rw[hn]at ev;cases ev
  |false=>
  rw[hn]at ev
  simp only[cond_false]at ev
  split at ev
  ·rename_i cs hg
   cases ev
   simp only[VR]at hv
   rcases hv with⟨rfl,_⟩|⟨b,s,cap,hm,hv,hc,_⟩
   ·cases hn
   obtain⟨C,el,vs,hw,hi,eI,Q0⟩:=H.row hg hm
   have hsh:w.shape? b=some (el.el,C.size):=by simp only[World.shape?,hw]
   have hok:=el.ok'
   obtain⟨E,H'⟩:=K4 H (w':=w.freeze {block:=b,off:=C.size} 1) (el:=el) (el':=⟨el.el,if el.fz.1 == el.fz.2 then(C.size,C.size+1)else(min el.fz.1 C.size,max el.fz.2 (C.size+1)),by
    by_cases h0:el.fz.1=el.fz.2
    ·simp[h0]
    ·simp only[beq_iff_eq,h0,if_false]
     right
     show C.size<=min el.fz.1 C.size
     omega⟩) hg hm hw rfl rfl rfl (by simp[World.freeze]) (fun k=>by
    simp only[World.freeze,Nat.one_ne_zero,if_false]
    rw[Array.getElem?_modify]
    by_cases hk:k=b
    ·subst hk
     rw[if_pos rfl,if_pos rfl,hw]
     rfl
    ·rw[if_neg hk,if_neg (fun q=>hk q.symm)])
   refine⟨g,_,.value (a.eval x),a.eval x,?_,.inl rfl,E,H',VR.mono H E _ _ rm⟩
   rw[hv]
   simp[execOp,ho,hv,convert,run_underlying hD,run_underlying he,markStringish,hsh]
  ·cases ev
 ·cases ev
omit [Io] in
theorem A1{P:Program}(t:TypeId)(w:World):(Instr.makeMap t none).run P w=.ok (.map (some w.heap.size)) (w.alloc (.map #[] 0)):=rfl
theorem K6{T:TypeId}(ho:o.op=.makeMap T none):my P o It:=by
 intro g w nt t h a v h' H Tr ev
 cases ev
 obtain⟨E,H'⟩:=Q3 H (w':=w.alloc (.map #[] 0)) rfl rfl rfl (by show(w.heap.push _).size=_;rw[Array.size_push]) (fun b hb=>by
  show(w.heap.push _)[b]? =_
  rw[Array.getElem?_push,if_neg (by omega)])
 exact⟨_,_,.value (.map (some w.heap.size)),_,by simp[execOp,ho,A1],.inl rfl,E,H',by simp only[VR];rfl⟩
end
end Go.Ab

noncomputable section
namespace Go.Ab
variable [Io]
section
variable {P:Program}
theorem fZ{op:BinOp}{T:TypeId}{f s:AV->AV->Option AV}(hf:cP P op T f)
 (hs: ∀ (a b r:AV),s a b=some r->(∀ (g:G) (w:World) (u v:Value),VR g w a u->VR g w b v-> ∃ k m k' n r0,u=.int k m/\v=.int k' n/\f (.int k m) (.int k' n)=some r0/\ ∀ z,VR g w r0 z->VR g w r z)):
 cP P op T (wo f s):=by
 intro g w a b r u v ha hb h
 unfold wo at h
 cases hr:f a b with
 |some r'=>
  rw[hr]at h
  cases h
  exact hf g w a b r u v ha hb hr
 |none=>
  rw[hr]at h
  obtain⟨k,m,k',n,r0,rfl,rfl,h1,h2⟩:=hs a b r h g w u v ha hb
  obtain⟨z,hz,hv,hg⟩:=hf g w (.int k m) (.int k' n) r0 (.int k m) (.int k' n) (by simp only[VR]) (by simp only[VR]) h1
  exact⟨z,hz,h2 z hv,hg⟩
def ahM(f s:AV->AV->Option AV):Prop:= ∀ (a b r:AV),s a b=some r->(∀ (g:G) (w:World) (u v:Value),VR g w a u->VR g w b v-> ∃ k m k' n r0,u=.int k m/\v=.int k' n/\f (.int k m) (.int k' n)=some r0/\ ∀ z,VR g w r0 z->VR g w r z)
theorem lE{f:AV->AV->Option AV}:ahM f Ce:=by
 intro a b r h
 cases h
omit [Io] in
theorem afV{a b:Int}:kV a b=true↔a<b:=by rw[jf];simp
omit [Io] in
theorem Q4{a b:Int}:kV a b=false↔b<=a:=by rw[jf];simp
omit [Io] in
theorem ga{a b:Int}:eqI a b=true↔a=b:=by rw[u4];simp
omit [Io] in
theorem afW(m n:Int):eqI m n=decide (m=n):=by
 by_cases e:m=n
 ·rw[ga.2 e];simp[e]
 ·rw[show eqI m n=false from by rw[Bool.eq_false_iff];exact fun h=>e (ga.1 h)];simp[e]
omit [Io] in
theorem CK{l:List Nat}: ∀ {m:List Nat},uW l m=true↔l=m:=by
 induction l with
 |nil=>intro m;cases m<;>simp[uW]
 |cons a l ih=>
  intro m
  cases m with
  |nil=>simp[uW]
  |cons b m=>
   show(bif Nat.beq a b then uW l m else false)=true↔_
   cases e:Nat.beq a b with
   |true=>
    rw[Nat.eq_of_beq_eq_true e]
    show uW l m=true↔_
    rw[ih];simp
   |false=>
    have:a≠b:=fun e'=>by subst e';rw[Nat.beq_refl]at e;cases e
    simp[this]
omit [Io] in
theorem IL{a b:SV}(h:nY a b=true):a=b:=by
 cases a<;>cases b<;>simp[nY,ga,CK]at h<;>simp[h]
omit [Io] in
theorem K7{a:SV}: ∀ {b:SV},EO a b=true->a=b:=by
 induction a with
 |tm f k k' a oa b ob sB xm=>
  intro y h
  cases y with
  |tm f2 k2 k2' a2 oa2 b2 ob2=>
   change (Nat.beq f f2&&(jv k k2&&(jv k' k2'&&(eqI oa oa2&&(eqI ob ob2&&(EO a a2&&EO b b2))))))=true at h
   simp only[Bool.and_eq_true]at h
   obtain⟨h1,h2,h3,h4,h5,h6,h7⟩:=h
   rw[Nat.eq_of_beq_eq_true h1,eO.1 h2,eO.1 h3,ga.1 h4,ga.1 h5,sB h6,xm h7]
  | _=>cases h
 |ix l a o sB=>
  intro y h
  cases y with
  |ix l2 a2 o2=>
   change (uW l l2&&(eqI o o2&&EO a a2))=true at h
   simp only[Bool.and_eq_true]at h
   obtain⟨h1,h2,h3⟩:=h
   rw[CK.1 h1,ga.1 h2,sB h3]
  | _=>cases h
 | _=>intro y h;exact IL h
omit [Io] in
theorem ab7{f:IntKind->Int->Int->Option AV}{k:IntKind}{m n:Int}:mY f (.int k m) (.int k n)=f k m n:=by
 unfold mY
 simp only[eO.2 rfl,cond_true]
omit [Io] in
theorem bQ{α:Type}{b:Bool}{x:Option α}{r:α}(h:(bif b then x else none)=some r):b=true/\x=some r:=by
 cases b
 ·cases h
 ·exact⟨rfl,h⟩
theorem W8{a b:AV}{c:Bool}(h:Qt a b=some c){g:G}{w:World}{u v:Value}(ha:VR g w a u)(hb:VR g w b v): ∃ k m n,u=.int k m/\v=.int k n/\c=decide (m=n):=by cases h
theorem K8{a b:AV}{c:Bool}(h:Kx a b=some c){g:G}{w:World}{u v:Value}(ha:VR g w a u)(hb:VR g w b v): ∃ k m n,u=.int k m/\v=.int k n/\c=decide (m<n):=by cases h
theorem K9(T:TypeId):cP P .add T bA:=fZ (Qv T) lE
theorem K'(T:TypeId):cP P .sub T fB:=fZ (Qw T) lE
theorem La(T:TypeId):cP P .and T nZ:=fZ (QJ T) lE
theorem Lb(T:TypeId):cP P .or T nD:=fZ (WX T) lE
theorem Lc(T:TypeId):cP P .xor T GR:=fZ (QK T) lE
theorem Ld(T:TypeId):cP P .shl T mr:=fZ (QL T) lE
theorem Le(T:TypeId):cP P .shr T lC:=fZ (QM T) lE
theorem Lg(T:TypeId):cP P .lss T a8:=fZ (QA T) lE
theorem Lh(T:TypeId):cP P .gtr T fI:=fZ (QB T) lE
theorem Li(T:TypeId):cP P .leq T hJ:=fZ (QC T) lE
theorem Lj(T:TypeId):cP P .geq T gf:=fZ (QD T) lE
theorem Lk(T:TypeId):cP P .rem T GP:=fZ (Qz T) lE
theorem Ll(T:TypeId):cP P .quo T GQ:=fZ (Qy T) lE
theorem Lm(T:TypeId):cP P .mul T mZ:=fZ (Qx T) lE
theorem Ln(T:TypeId):cP P .eql T (aF false):=fZ (QE T) lE
theorem Lo(T:TypeId):cP P .neq T (aF true):=fZ (QF T) lE
theorem Q5{k:IntKind}{b v:AV}{g:G}{w:World}{u:Value}(hf:bV k b=some v)(hv:VR g w b u): ∃ k' m r0,u=.int k' m/\Ky k (.int k' m)=some r0/\ ∀ z,VR g w r0 z->VR g w v z:=by
 unfold bV abO at hf
 cases hr:Ky k b with
 |some r=>
  rw[hr]at hf
  cases hf
  unfold Ky at hr
  split at hr
  ·cases hr
   simp only[VR]at hv
   exact⟨_,_,_,hv,rfl,fun z h=>h⟩
  ·cases hr
 |none=>
  rw[hr]at hf
  cases hf
theorem Fe{o:Oper}{S D:TypeId}{d:TypeDesc}{k:IntKind}{x:Operand}(ho:o.op=.convert S D x)(hS:P.underlying S=some d)(hD:P.underlying D=some (.int k)):
 bI P o (fg (bV k) (aM x)):=by
 intro g w nt t h a v h' H Tr e
 obtain⟨b,hb,hf,rfl⟩:=tF e
 have hv:=ba x _ _ _ _ _ _ Tr hb
 obtain⟨k',m,r0,rm,hr,hz⟩:=Q5 hf hv
 cases hr
 exact⟨rfl,.int k (k.wrap m),by simp[execOp,ho,rm,convert,run_underlying hS,run_underlying hD,Conv.intToInt],hz _ (by simp only[VR,kL])⟩
theorem Lp{x y:Operand}{sF:Array TypeId}{o:Oper}(ho:o.op=.call {callee:=.builtin .min,args:= #[x,y],argTypes:=sF}):bI P o (AH (aM x) (aM y)):=by
 intro g w nt t h a v h' H Tr e
 unfold AH ah at e
 cases hx:aM x t with
 |none=>rw[hx]at e;cases e
 |some ax=>
  cases hy:aM y t with
  |none=>rw[hx,hy]at e;cases e
  |some ay=>
   rw[hx,hy]at e
   have h3:=ba x _ _ _ _ _ _ Tr hx
   have h4:=ba y _ _ _ _ _ _ Tr hy
   unfold wo at e
   cases hr:mY (fun k a b=>some (.int k (bif kV b a then b else a))) ax ay with
   |some r=>
    simp only[hr]at e
    cases e
    obtain⟨k,m,n,rfl,rfl,h2⟩:=u5 hr
    cases h2
    simp only[VR]at h3 h4
    refine⟨rfl,.int k (if n<m then n else m),by simp[execOp,ho,resolve,invoke,builtin,Builtin.min_,Builtin.min2,h3,h4],?_⟩
    simp only[VR,jf]
    by_cases gG:n<m<;>simp[gG]
   |none=>
    simp only[hr]at e
    cases hl:Kx ay ax with
    |none=>rw[hl]at e;cases e
    |some c=>
     rw[hl]at e
     cases e
     obtain⟨k,p,q,e1,e2,rfl⟩:=K8 hl h4 h3
     have hex:(execOp a.eval o).run P w=.ok (.value (.int k (if p<q then p else q))) w:=by
      simp[execOp,ho,resolve,invoke,builtin,Builtin.min_,Builtin.min2,e1,e2]
     refine⟨rfl,_,hex,?_⟩
     by_cases gG:p<q
     ·simp only[gG,decide_true,cond_true,if_true,gt_iff_lt]
      rw[e1]at h4
      exact h4
     ·simp only[gG,decide_false,cond_false,if_false,gt_iff_lt]
      rw[e2]at h3
      exact h3
theorem Lq{x y:Operand}{sF:Array TypeId}{o:Oper}(ho:o.op=.call {callee:=.builtin .max,args:= #[x,y],argTypes:=sF}):bI P o (AJ (aM x) (aM y)):=by
 intro g w nt t h a v h' H Tr e
 unfold AJ ah at e
 cases hx:aM x t with
 |none=>rw[hx]at e;cases e
 |some ax=>
  cases hy:aM y t with
  |none=>rw[hx,hy]at e;cases e
  |some ay=>
   rw[hx,hy]at e
   have h3:=ba x _ _ _ _ _ _ Tr hx
   have h4:=ba y _ _ _ _ _ _ Tr hy
   unfold wo at e
   cases hr:mY (fun k a b=>some (.int k (bif kV a b then b else a))) ax ay with
   |some r=>
    simp only[hr]at e
    cases e
    obtain⟨k,m,n,rfl,rfl,h2⟩:=u5 hr
    cases h2
    simp only[VR]at h3 h4
    refine⟨rfl,.int k (if n>m then n else m),by simp[execOp,ho,resolve,invoke,builtin,Builtin.max_,Builtin.max2,h3,h4],?_⟩
    simp only[VR,jf]
    by_cases gG:m<n<;>simp[gG]
   |none=>
    simp only[hr]at e
    cases hl:Kx ax ay with
    |none=>rw[hl]at e;cases e
    |some c=>
     rw[hl]at e
     cases e
     obtain⟨k,p,q,e1,e2,rfl⟩:=K8 hl h3 h4
     have hex:(execOp a.eval o).run P w=.ok (.value (.int k (if q>p then q else p))) w:=by
      simp[execOp,ho,resolve,invoke,builtin,Builtin.max_,Builtin.max2,e1,e2]
     refine⟨rfl,_,hex,?_⟩
     by_cases gG:p<q
     ·simp only[gG,decide_true,cond_true,if_true,gt_iff_lt]
      rw[e2]at h4
      exact h4
     ·simp only[gG,decide_false,cond_false,if_false,gt_iff_lt]
      rw[e1]at h3
      exact h3
end
end Go.Ab

noncomputable section
namespace Go.Ab
variable [Io]
section
variable {P:Program}
def scalars(P:Program)(n:Nat)(l:List Field):Option (List Bool):=
 List.rec (fun _=>some []) (fun f _ ih n=>bif Nat.beq f.offset n&& !(decide (f.name= "_"))then
  (match P.info? f.type with
  |some i=>bif Nat.beq i.size 1 then
   (match P.underlying f.type with
   |some (.int _)=>(match ih (Nat.add n 1)with|some r=>some (true::r)|none=>none)
   |some .bool=>(match ih (Nat.add n 1)with|some r=>some (false::r)|none=>none)
   | _=>none)else none
  |none=>none)else none) l n
theorem W9{i:Bool}{x y:AV}{c:Bool}(h:eq1 i x y=some c){g:G}{w:World}{u v:Value}(hx:VR g w x u)(hy:VR g w y v){T:TypeId}{d:Nat}
 (hT:(i=true/\ ∃ k,P.underlying T=some (.int k))∨(i=false/\P.underlying T=some .bool)):(Op.equalIn (d+1) T u v).run P w=.ok c w:=by
 rcases hT with⟨rfl,k,hT⟩|⟨rfl,hT⟩
 ·change (match(generalizing:=false) x,y with| .int k a,.int k' b=>bif jv k k' then some (eqI a b)else none| _,_=>Qt x y)=some c at h
  split at h
  ·rename_i k1 a k2 b
   cases e:jv k1 k2 with
   |false=>rw[e]at h;cases h
   |true=>
    rw[e]at h
    cases h
    obtain rfl:=eO.1 e
    simp only[VR]at hx hy
    subst hx;subst hy
    rw[run_equalIn_int w d T k1 k a b hT,u4]
  ·obtain⟨k1,m,n,rfl,rfl,rfl⟩:=W8 h hx hy
   rw[run_equalIn_int w d T k1 k m n hT]
   congr 1
 ·change (match(generalizing:=false) x,y with| .bool a,.bool b=>some (!(xor a b))| _,_=>none)=some c at h
  split at h
  ·rename_i a b
   cases h
   simp only[VR]at hx hy
   subst hx;subst hy
   rw[run_equalIn_bool' w d T a b hT]
   cases a<;>cases b<;>rfl
  ·cases h
omit [Io] in
theorem CM{T:TypeId}{td:TypeDesc}{i:TypeInfo}{vs:Array Value}{n:Nat}{v:Value}{w:World}(hd:P.underlying T=some td)(ha:jZ td=false)(hv:vs[n]? =some v):
 (Go.part T vs n).run P w=.ok v w:=by
 unfold Go.part
 simp only[Sem.run_bind,n7 hd,ha,Result.andThen_ok]
 simp[hv]
theorem vI{g:G}{w:World}(d:Nat): ∀ (fs:List Field) (n:Nat) (l:List Bool) (xs ys:List AV) (us vs:Array Value) (c:Bool),scalars P n fs=some l->Cq l xs ys=some c->
 bD g w xs (us.toList.drop n)->bD g w ys (vs.toList.drop n)->(Op.eqFields (d+1) us vs fs).run P w=.ok c w
 | [],n,l,xs,ys,us,vs,c,hs,e,hx,hy=>by
  cases hs
  cases e
  simp[Op.eqFields]
 |f::fs,n,l,xs,ys,us,vs,c,hs,e,hx,hy=>by
  change (bif Nat.beq f.offset n&& !(decide (f.name= "_"))then
   (match P.info? f.type with
   |some i=>bif Nat.beq i.size 1 then
    (match P.underlying f.type with
    |some (.int _)=>(match scalars P (n+1) fs with|some r=>some (true::r)|none=>none)
    |some .bool=>(match scalars P (n+1) fs with|some r=>some (false::r)|none=>none)
    | _=>none)else none
   |none=>none)else none)=some l at hs
  replace hs:=bQ hs
  obtain⟨h0,hs⟩:=hs
  rw[Bool.and_eq_true]at h0
  have ab8:f.offset=n:=Nat.eq_of_beq_eq_true h0.1
  have ab9:f.name≠ "_" :=by simpa using h0.2
  split at hs
  ·replace hs:=bQ hs
   obtain⟨_,hs⟩:=hs
   have key: ∀ (i:Bool) (r:List Bool) (td:TypeDesc),P.underlying f.type=some td->jZ td=false->scalars P (n+1) fs=some r->l=i::r->
    ((i=true/\ ∃ k,P.underlying f.type=some (.int k))∨(i=false/\P.underlying f.type=some .bool))->(Op.eqFields (d+1) us vs (f::fs)).run P w=.ok c w:=by
    intro i r td htd ab' hr hl hT
    subst hl
    change (match(generalizing:=false) xs with
     | []=>none
     |x::xs=>match(generalizing:=false) ys with
      | []=>none
      |y::ys=>match eq1 i x y with
       |none=>none
       |some c=>(Bool.rec (some false) (Cq r xs ys) c:Option Bool))=some c at e
    cases xs with
    |nil=>cases e
    |cons x xs=>
    cases ys with
    |nil=>cases e
    |cons y ys=>
    simp only at e
    cases h1:eq1 i x y with
    |none=>rw[h1]at e;cases e
    |some c1=>
    rw[h1]at e
    simp only[bD]at hx hy
    obtain⟨u,us',hu,hxu,Xa⟩:=hx
    obtain⟨v,vs',hv,Xb,hys⟩:=hy
    have hu0:us[n]? =some u:=by
     have:(us.toList.drop n)[0]? =some u:=by rw[hu];rfl
     simpa using this
    have hv0:vs[n]? =some v:=by
     have:(vs.toList.drop n)[0]? =some v:=by rw[hv];rfl
     simpa using this
    have hu1:us.toList.drop (n+1)=us':=by rw[<-List.drop_drop,hu];rfl
    have hv1:vs.toList.drop (n+1)=vs':=by rw[<-List.drop_drop,hv];rfl
    have pu:(Go.part f.type us f.offset).run P w=.ok u w:=by rw[ab8];exact CM (i:=default) htd ab' hu0
    have pv:(Go.part f.type vs f.offset).run P w=.ok v w:=by rw[ab8];exact CM (i:=default) htd ab' hv0
    simp only[Op.eqFields,if_pos ab9,Sem.run_bind,pu,pv,Result.andThen_ok,W9 (P:=P) (d:=d) h1 hxu Xb hT]
    cases c1 with
    |false=>cases e;simp
    |true=>
     simp only[Bool.not_true,Bool.false_eq_true,if_false]
     exact vI d fs (n+1) r xs ys us vs c hr e (by rw[hu1];exact Xa) (by rw[hv1];exact hys)
   split at hs
   ·rename_i k hT
    split at hs
    ·rename_i r hr;cases hs;exact key true r _ hT rfl hr rfl (.inl ⟨rfl,_,hT⟩)
    ·cases hs
   ·rename_i hT
    split at hs
    ·rename_i r hr;cases hs;exact key false r _ hT rfl hr rfl (.inr ⟨rfl,hT⟩)
    ·cases hs
   ·cases hs
  ·cases hs
omit [Io] in
theorem z7{neg:Bool}{l:List Bool}{x y r:AV}(h:EP neg l x y=some r): ∃ xs ys c,x=.agg xs/\y=.agg ys/\Cq l xs ys=some c/\r=.bool (bif neg then !c else c):=by
 unfold EP at h
 split at h
 ·rename_i xs
  split at h
  ·rename_i ys
   split at h
   ·rename_i c hc
    cases h
    exact⟨xs,ys,c,rfl,rfl,hc,rfl⟩
   ·cases h
  ·cases h
 ·cases h
theorem G6{T:TypeId}{fs:Array Field}{l:List Bool}(hT:P.underlying T=some (.struct fs))(hs:P.stoodInHeld T=false)(hl:scalars P 0 fs.toList=some l){g:G}{w:World}
 {xs ys:List AV}{c:Bool}(hc:Cq l xs ys=some c){us vs:Array Value}(hx:bD g w xs us.toList)(hy:bD g w ys vs.toList):(Op.equalIn 10000 T (.agg us) (.agg vs)).run P w=.ok c w:=by
 have hf:P.fieldsOf T=fs:=by unfold Program.fieldsOf;rw[hT]
 refine(run_equalIn_struct w 9999 T us vs (by rw[hf];exact hT) hs).trans ?_
 rw[hf]
 exact vI 9998 fs.toList 0 l xs ys us vs c hl hc (by simpa using hx) (by simpa using hy)
theorem Q6{T:TypeId}{fs:Array Field}{l:List Bool}(hT:P.underlying T=some (.struct fs))(hs:P.stoodInHeld T=false)(hg:P.eqGuardType P.depth T=false)(hl:scalars P 0 fs.toList=some l):
 cP P .eql T (EP false l):=by
 intro g w a b r u v ha hb h
 obtain⟨xs,ys,c,rfl,rfl,hc,rfl⟩:=z7 h
 simp only[VR]at ha hb
 obtain⟨us,rfl,hx⟩:=ha
 obtain⟨vs,rfl,hy⟩:=hb
 refine⟨.bool c,?_,by simp only[VR];rfl,fun x y=>run_eqGuard_agg w .eql T x y us vs hg⟩
 rw[run_eql_struct,G6 hT hs hl hc hx hy]
 rfl
theorem Q7{T:TypeId}{fs:Array Field}{l:List Bool}(hT:P.underlying T=some (.struct fs))(hs:P.stoodInHeld T=false)(hg:P.eqGuardType P.depth T=false)(hl:scalars P 0 fs.toList=some l):
 cP P .neq T (EP true l):=by
 intro g w a b r u v ha hb h
 obtain⟨xs,ys,c,rfl,rfl,hc,rfl⟩:=z7 h
 simp only[VR]at ha hb
 obtain⟨us,rfl,hx⟩:=ha
 obtain⟨vs,rfl,hy⟩:=hb
 refine⟨.bool (!c),?_,by simp only[VR];rfl,fun x y=>run_eqGuard_agg w .neq T x y us vs hg⟩
 rw[run_neq_struct,G6 hT hs hl hc hx hy]
 rfl
def IM(P:Program)(neg:Bool)(T:TypeId):Option (AV->AV->Option AV):=match P.underlying T with
 |some (.struct fs)=>match P.stoodInHeld T with
  |false=>match P.eqGuardType P.depth T with
   |false=>match scalars P 0 fs.toList with
    |some l=>some (EP neg l)
    |none=>none
   |true=>none
  |true=>none
 | _=>none
theorem Q8{T:TypeId}{f:AV->AV->Option AV}(h:IM P false T=some f):cP P .eql T f:=by
 unfold IM at h
 split at h
 ·rename_i fs hT
  split at h
  ·rename_i hs
   split at h
   ·rename_i hg
    split at h
    ·rename_i l hl
     cases h
     exact Q6 hT hs hg hl
    ·cases h
   ·cases h
  ·cases h
 ·cases h
theorem Q9{T:TypeId}{f:AV->AV->Option AV}(h:IM P true T=some f):cP P .neq T f:=by
 unfold IM at h
 split at h
 ·rename_i fs hT
  split at h
  ·rename_i hs
   split at h
   ·rename_i hg
    split at h
    ·rename_i l hl
     cases h
     exact Q7 hT hs hg hl
    ·cases h
   ·cases h
  ·cases h
 ·cases h
end
end Go.Ab

noncomputable section
namespace Go.Ab
variable [Io]
section
variable {P:Program}{o:Oper}
omit [Io] in
theorem run_copy_none(w:World)(dT sT ty elem:TypeId)(i:TypeInfo)(hu:P.underlying dT=some (.slice elem))(hi:P.info? elem=some i)(d x:Option Addr)(IP Xc cF ez:Nat)(hn:Nat.min cF IP=0):
 (Builtin.copy_ #[dT,sT] ty #[.slice d IP Xc,.slice x cF ez]).run P w=.ok (.int .i64 (Int.ofNat 0)) w:=by
 have hl: ∀ a:Addr,(loadCells a 0).run P w=.ok #[] w:=fun a=>run_loadCells_list (P:=P) w a [] (by simp)
 cases d<;>cases x<;>simp[Builtin.copy_,run_underlying hu,Builtin.lenOf,Builtin.firstCells,sizeOf,typeInfo,hi,hn,hl,storeCells,goInt]
omit [Io] in
theorem zm(w:World)(dT sT ty elem:TypeId)(i:TypeInfo)(hu:P.underlying dT=some (.slice elem))(hi:P.info? elem=some i)(g o IP Xc:Nat)(a:Addr)(cF ez:Nat)(cur:Array Value)(t:FT cur)(cs:List Value)
 (hg:w.heap[g]? =some (.cells cur t.el t.fz))(hn:cs.length=Nat.min cF IP*i.size)(ahP: ∀ j v,cs[j]? =some v->w.cell? (a.add j)=some v)(sE:o+cs.length<=cur.size)(h1: ∀ v∈cs,v.oneCell'=true):
 (Builtin.copy_ #[dT,sT] ty #[.slice (some ⟨g,o,none⟩) IP Xc,.slice (some a) cF ez]).run P w=
  .ok (.int .i64 (Int.ofNat (Nat.min cF IP))) (w.setRow g (cur.toList.take o++cs++cur.toList.drop (o+cs.length)).toArray):=by
 have hl:=run_loadCells_list (P:=P) w a cs ahP
 have wS:=eE P g o t.el t.fz cs 0 cur w hg t.ok (by simpa using sE) h1
 simp[Builtin.copy_,run_underlying hu,Builtin.lenOf,Builtin.firstCells,sizeOf,typeInfo,hi,<-hn,hl,wS,goInt]
def G7(P:Program)(T:TypeId)(d s:Operand):eH:=match P.underlying T with
 |some (.slice e)=>match P.info? e with
  |some i=>jV i.size (wO (aM d)) (wO (aM s))
  |none=>bE
 | _=>bE
theorem IQ{T T':TypeId}{d s:Operand}(ho:o.op=.call {callee:=.builtin .copy,args:= #[d,s],argTypes:= #[T,T']}):my P o (G7 P T d s):=by
 intro g w nt t h a v h' H Tr e
 unfold G7 at e
 cases hu:P.underlying T with
 |none=>rw[hu]at e;cases e
 |some dd=>
 rw[hu]at e
 cases dd<;>try (cases e;done)
 rename_i el
 simp only at e
 cases hi:P.info? el with
 |none=>rw[hi]at e;cases e
 |some i=>
  rw[hi]at e
  change jV i.size (wO (aM d)) (wO (aM s)) t h=.ok v h' at e
  have hex: ∀ vd vs r w',a.eval d=vd->a.eval s=vs->(Builtin.copy_ #[T,T'] o.type #[vd,vs]).run P w=.ok r w'->(execOp a.eval o).run P w=.ok (.value r) w':=by
   intro vd vs r w' h1 h2 h3
   unfold execOp
   simp only[ho,resolve,invoke,builtin,Sem.run_bind,Sem.run_pure,Result.andThen_ok,List.map_toArray,List.map_cons,List.map_nil,h1,h2,h3]
  unfold jV at e
  split at e
  ·rename_i hd
   split at e
   ·rename_i xv hs
    split at e
    ·rename_i p hsc
     cases e
     have hvd:=hX d _ _ _ _ _ _ Tr hd
     have eI:=hX s _ _ _ _ _ _ Tr hs
     simp only[VR]at hvd
     obtain⟨b,Vi⟩:=hvd
     obtain⟨n,cs⟩:=p
     obtain⟨xa,xc,Q2,hxc,zl⟩:=lj H eI hsc
     exact⟨g,w,_,_,hex _ _ _ _ Vi Q2 (run_copy_none w T T' o.type el i hu hi _ _ _ _ _ _ (Nat.min_zero _)),.inl rfl,Ext.refl _ _ _,H,by simp only[VR]⟩
    ·cases e
   ·cases e
  ·rename_i id off n sz hd
   split at e
   ·rename_i xv hs
    split at e
    ·rename_i m src hsc
     have hvd:=hX d _ _ _ _ _ _ Tr hd
     have eI:=hX s _ _ _ _ _ _ Tr hs
     obtain⟨xa,xc,Q2,hxc,zl⟩:=lj H eI hsc
     simp only[VR]at hvd
     rw[tC]at e
     cases hk:Nat.beq (min m n) 0 with
     |true=>
      rw[hk]at e
      cases e
      have hk0:Nat.min m n=0:=Nat.eq_of_beq_eq_true hk
      rcases hvd with⟨rfl,b,Vi⟩|⟨b,s',cap,hm,Vi,xE,_⟩
      ·exact⟨g,w,_,_,hex _ _ _ _ Vi Q2 (run_copy_none w T T' o.type el i hu hi _ _ _ _ _ _ hk0),.inl rfl,Ext.refl _ _ _,H,by simp only[VR]⟩
      ·exact⟨g,w,_,_,hex _ _ _ _ Vi Q2 (run_copy_none w T T' o.type el i hu hi _ _ _ _ _ _ hk0),.inl rfl,Ext.refl _ _ _,H,by simp only[VR]⟩
     |false=>
      rw[hk]at e
      have hk0:min m n≠0:=fun k=>by rw[k]at hk;cases hk
      simp only[cond_false]at e
      split at e
      ·rename_i cs hg
       cases hb:((Nat.blt 0 i.size&&(Nat.beq sz i.size&&(Nat.beq (len src) (Nat.mul m i.size)&&cf dQ src)))&&Nat.ble (Nat.add off (Nat.mul (min m n) i.size)) cs.n)with
       |false=>rw[hb]at e;cases e
       |true=>
        rw[hb]at e
        cases e
        simp only[Bool.and_eq_true,bM]at hb
        obtain⟨⟨b0,b1,b2,b3⟩,b4⟩:=hb
        have b0:=bH.1 b0
        obtain rfl:=Nat.eq_of_beq_eq_true b1
        have b2:src.length=m*i.size:=Nat.eq_of_beq_eq_true b2
        have b4:off+min m n*i.size<=cs.n:=Nat.le_of_ble_eq_true b4
        have hmn:min m n*i.size<=m*i.size:=Nat.mul_le_mul_right _ (Nat.min_le_left m n)
        rcases hvd with⟨rfl,b,Vi⟩|⟨b,s',cap,hm,Vi,xE,_⟩
        ·rw[Nat.min_zero]at hk0;exact absurd rfl hk0
        ·obtain⟨C,el',vs,hw,_,Q',hc⟩:=H.row hg hm
         rcases zl with rfl|⟨xb,xs,us,rfl,Cg,n8⟩
         ·exfalso
          have hz:m*i.size=0:=b2.symm
          have hp:0<min m n*i.size:=Nat.mul_pos (by omega) b0
          omega
         ·have hul:=Cg.length
          have E5:(us.take (min m n*i.size)).length=min m n*i.size:=by rw[List.length_take];omega
          have acd:(src.take (min m n*i.size)).length=min m n*i.size:=by rw[List.length_take];omega
          have sD:s'+off+(us.take (min m n*i.size)).length<=C.size:=by
           rw[E5]
           have hp:0<min m n*i.size:=Nat.mul_pos (by omega) b0
           have:=bD.qC Q' hc (n:=off+min m n*i.size) (by rw[eN];exact b4) (by omega)
           omega
          have hr:=zm (P:=P) w T T' o.type el i hu hi b (s'+off) n cap ⟨xb,xs,none⟩ m xc C el' (us.take (min m n*i.size)) hw E5 (fun j v e=>by
           rw[List.getElem?_take]at e
           split at e
           ·exact mA n8 j v e
           ·cases e) sD (fun v hv=>bD.ER Cg b3 v (List.mem_of_mem_take hv))
          obtain⟨E,H'⟩:=z6 H (C':=(C.toList.take (s'+off)++us.take (min m n*i.size)++C.toList.drop (s'+off+(us.take (min m n*i.size)).length)).toArray)
           hg hm hw (by simp at sD ⊢;omega) (cs':=cs.put off (tk (Nat.mul (min m n) i.size) src)) (us:=vs.take off++(us.take (min m n*i.size)++vs.drop (off+(us.take (min m n*i.size)).length)))
           (by rw[qx];show bD g w (cs.put off (src.take (min m n*i.size))).toL _;rw[tA (by rw[acd];exact b4),put_eq,acd,E5];exact(Q'.take _).append ((Cg.take _).append (Q'.drop _)))
           (fun j v e=>G1 hc sD j v e (by have:=Q'.length;rw[eN]at this;omega))
          exact⟨g,_,_,_,hex _ _ _ _ Vi Q2 hr,.inl rfl,E,H',by simp only[VR]⟩
      ·cases e
    ·cases e
   ·cases e
  ·cases e
theorem IU{T el:TypeId}{x y z:Operand}(ho:o.op=.slice T x none (some y) (some z))(hd:P.underlying T=some (.slice el)){i:TypeInfo}(hi:P.info? el=some i):bI P o (xr (wO (aM x)) (aM y) (aM z)):=by
 intro g w nt t h a v h' H Tr e
 unfold xr at e
 split at e
 ·rename_i ky n hy
  split at e
  ·rename_i kz m hz
   obtain⟨h1,h2⟩:=(by
    cases hb:(Nat.beq n 0&&Nat.beq m 0)with
    |false=>rw[hb]at e;cases e
    |true=>rw[Bool.and_eq_true]at hb;exact hb:Nat.beq n 0=true/\Nat.beq m 0=true)
   rw[h1,h2]at e
   simp only[Bool.and_self,cond_true]at e
   obtain rfl:=Nat.eq_of_beq_eq_true h1
   obtain rfl:=Nat.eq_of_beq_eq_true h2
   have wR:=ba y _ _ _ _ _ _ Tr hy
   have hvz:=ba z _ _ _ _ _ _ Tr hz
   simp only[VR]at wR hvz
   have rM:(sizeOf el).run P w=.ok i.size w:=by simp[sizeOf,typeInfo,hi]
   have kr: ∀ b n c,a.eval x=.slice b n c->(execOp a.eval o).run P w=.ok (.value (.slice b 0 0)) w:=by
    intro b n c hx
    simp[execOp,ho,hx,wR,hvz,Instr.sliceAt,Instr.slice,run_underlying hd,Instr.sliceBounds,Instr.sliceBound,asIntOf,rM]
   split at e
   ·rename_i hx
    cases e
    have hv:=hX x _ _ _ _ _ _ Tr hx
    simp only[VR]at hv
    obtain⟨b,hv⟩:=hv
    exact⟨rfl,_,kr _ _ _ hv,by simp only[VR];exact⟨_,rfl⟩⟩
   ·rename_i hx
    cases e
    have hv:=hX x _ _ _ _ _ _ Tr hx
    simp only[VR]at hv
    rcases hv with⟨_,b,hv⟩|⟨b,s,cap,_,hv,_⟩
    ·exact⟨rfl,_,kr _ _ _ hv,by simp only[VR];exact⟨_,rfl⟩⟩
    ·exact⟨rfl,_,kr _ _ _ hv,by simp only[VR];exact⟨_,rfl⟩⟩
   ·rename_i hx
    cases e
    have hv:=hX x _ _ _ _ _ _ Tr hx
    simp only[VR]at hv
    obtain⟨b,cap,hv,_⟩:=hv
    exact⟨rfl,_,kr _ _ _ hv,by simp only[VR];exact⟨_,rfl⟩⟩
   ·cases e
  ·cases e
 ·cases e
end
end Go.Ab

noncomputable section
namespace Go.Ab
variable [Io]
def eQ(P:Program)(call:cX):Prop:=
 ∀ f args h v h',call f args h=.ok v h'->(∀ as w,(callFunc f as).run P w=.ok (.enter f as) w)/\
  ∀ (g:G) (w:World) (vs:List Value),HR g w h->bD g w args vs->
   Calls P f vs.toArray w fun e w'=> ∃ x g',e=.returned x/\Ext g w h g' w' h'/\HR g' w' h'/\VR g' w' v x
def CN(P:Program)(op:BinOp)(T:TypeId):Option (AV->AV->Option AV):=
 match op with
 | .add=>some bA| .sub=>some fB| .mul=>some mZ| .quo=>some GQ| .rem=>some GP
 | .and=>some nZ| .or=>some nD| .xor=>some GR| .andNot=>some pe| .shl=>some mr| .shr=>some lC
 | .lss=>some a8| .leq=>some hJ| .gtr=>some fI| .geq=>some gf
 | .eql=>match P.underlying T with
  |some (.int _)=>some (aF false)
  |some .bool=>some (Co false)
  |some .string=>some (zh false)
  |some (.pointer _)=>some (nX false)
  |some (.slice _)=>some (nC false)
  |some (.struct _)=>IM P false T
  | _=>none
 | .neq=>match P.underlying T with
  |some (.int _)=>some (aF true)
  |some .bool=>some (Co true)
  |some .string=>some (zh true)
  |some (.pointer _)=>some (nX true)
  |some (.slice _)=>some (nC true)
  |some (.struct _)=>IM P true T
  | _=>none
theorem Ra{P:Program}{op:BinOp}{T:TypeId}{f:AV->AV->Option AV}(h:CN P op T=some f):cP P op T f:=by
 unfold CN at h
 cases op<;>simp only at h
 case eql=>
  split at h
  ·cases h;exact Ln T
  ·rename_i hu;cases h;exact QN hu
  ·cases h;exact QP T
  ·rename_i hu;cases h;exact QR hu
  ·rename_i hu;cases h;exact QT hu
  ·exact Q8 h
  ·cases h
 case neq=>
  split at h
  ·cases h;exact Lo T
  ·rename_i hu;cases h;exact QO hu
  ·cases h;exact QQ T
  ·rename_i hu;cases h;exact QS hu
  ·rename_i hu;cases h;exact QU hu
  ·exact Q9 h
  ·cases h
 all_goals cases h
 case add=>exact K9 T
 case sub=>exact K' T
 case mul=>exact Lm T
 case quo=>exact Ll T
 case rem=>exact Lk T
 case and=>exact La T
 case or=>exact Lb T
 case xor=>exact Lc T
 case shl=>exact Ld T
 case shr=>exact Le T
 case andNot=>exact EU T
 case lss=>exact Lg T
 case leq=>exact Li T
 case gtr=>exact Lh T
 case geq=>exact Lj T
def Xd(op:UnOp):Option (AV->Option AV):=
 match op with
 | .not=>some km
 | .neg=>some Kz
 | .xor=>some Is
 | .plus=>none
def CO(P:Program)(T:TypeId)(x:Operand):eH:=
 match P.underlying T with
 |some d=>match P.info? T with
  |some i=>bg i.size (jZ d) (aM x)
  |none=>bE
 |none=>bE
def z8(P:Program)(S D:TypeId)(x:Operand):eH:=
 match P.underlying S with
 |some _=>match P.underlying D with
  |some (.int k)=>fg (bV k) (aM x)
  | _=>bE
 |none=>bE
def Lr(P:Program)(S:TypeId)(x:Operand):eH:=
 match P.underlying S with
 |some (.slice e)=>match P.underlying e with
  |some (.int .u8)=>wu (aM x)
  | _=>bE
 | _=>bE
def A2(P:Program)(S D:TypeId)(x:Operand):eH:=
 match P.underlying S with
 |some .string=>match P.underlying D with
  |some (.slice e)=>match P.underlying e with
   |some (.int .u8)=>pf (aM x)
   | _=>bE
  | _=>bE
 |some (.slice _)=>match P.underlying D with
  |some (.slice e)=>match P.underlying e with
   |some (.int .u8)=>iu (Nat.beq S D) (rZ (aM x)) bE
   | _=>bE
  | _=>bE
 | _=>bE
def mB(P:Program)(T:TypeId)(x:Operand)(n:Nat):eH:=
 match P.underlying T with
 |some (.struct fs)=>match fs[n]? with
  |some f=>match P.info? f.type with
   |some i=>iu (Nat.blt 0 i.size) (ab f.offset (aM x)) bE
   |none=>bE
  |none=>bE
 | _=>bE
def xG(P:Program)(T:TypeId)(x:Operand)(n:Nat):eH:=
 match P.underlying T with
 |some (.struct fs)=>match fs[n]? with
  |some f=>match P.underlying f.type with
   |some d=>match P.info? f.type with
    |some i=>nI f.offset i.size (jZ d) (aM x)
    |none=>bE
   |none=>bE
  |none=>bE
 | _=>bE
def mC(P:Program)(T:TypeId)(x y:Operand):eH:=
 match P.underlying T with
 |some (.slice e)=>match P.info? e with
  |some i=>bG i.size (aM x) (aM y)
  |none=>bE
 |some (.array n e)=>match P.info? e with
  |some i=>rK n i.size (aM x) (aM y)
  |none=>bE
 | _=>bE
def xH(P:Program)(T:TypeId)(x y:Operand):eH:=
 match P.underlying T with
 |some (.array n e)=>match P.underlying e with
  |some d=>match P.info? e with
   |some i=>kZ n i.size (jZ d) (aM x) (aM y)
   |none=>bE
  |none=>bE
 |some .string=>cq (aM x) (aM y)
 | _=>bE
def xI(P:Program)(T:TypeId)(x:Operand)(lo hi:Option Operand):eH:=
 match P.underlying T with
 |some .string=>dg (aM x) (lo.map aM) (hi.map aM)
 |some (.slice e)=>match P.info? e with
  |some i=>cK i.size (aM x) (lo.map aM) (hi.map aM)
  |none=>bE
 |some (.array n e)=>match P.info? e with
  |some i=>iu (Nat.blt 0 i.size) (iO n i.size (aM x) (lo.map aM) (hi.map aM)) bE
  |none=>bE
 | _=>bE
def tJ(P:Program)(T:TypeId)(x:Operand)(lo hi:Option Operand)(m:Operand):eH:=
 match lo,hi with
 |none,some y=>match P.underlying T with
  |some (.slice e)=>match P.info? e with
   |some _=>xr (wO (aM x)) (aM y) (aM m)
   |none=>bE
  | _=>bE
 | _,_=>bE
def Ls(P:Program)(T:TypeId)(x:Operand):eH:=
 match P.underlying T with
 |some .string=>jU (aM x)
 |some (.slice _)=>aW (wO (aM x))
 |some (.array n _)=>aa (oC (.int .i64 (.ofNat n)))
 | _=>bE
def Lt(P:Program)(T:TypeId)(x:Operand):eH:=
 match P.underlying T with
 |some (.slice _)=>tv (wO (aM x))
 | _=>bE
def Lu(P:Program)(T:TypeId):eH:=
 match zeroOf P T with
 |some z=>dY z
 |none=>bE
inductive Cl where
 |p0|p1|al|ch
def G8(P:Program)(call:cX)(c:Call):eH:=
 match c with
 |⟨.builtin .append,args,sF⟩=>match args.toList,sF.toList with
  | [s,x],[T,T']=>iu (Nat.beq T T') (wU P T s x) (G5 P T T' s x)
  | _,_=>bE
 |⟨.builtin .copy,args,sF⟩=>match args.toList,sF.toList with
  | [d,s],[T,_]=>G7 P T d s
  | _,_=>bE
 |⟨.value (.func f),args,_⟩=>an call f (args.toList.map aM)
 |⟨.value f,args,_⟩=>iy call (aM f) (args.toList.map aM)
 | _=>bE
def jl(P:Program)(c:Call):Option eH:=
 match c with
 |⟨.builtin .len,args,sF⟩=>match args.toList,sF.toList with
  | [x],[T]=>some (Ls P T x)
  | _,_=>some bE
 |⟨.builtin .cap,args,sF⟩=>match args.toList,sF.toList with
  | [x],[T]=>some (Lt P T x)
  | _,_=>some bE
 |⟨.builtin .min,args,_⟩=>match args.toList with
  | [x,y]=>some (AH (aM x) (aM y))
  | _=>some bE
 |⟨.builtin .max,args,_⟩=>match args.toList with
  | [x,y]=>some (AJ (aM x) (aM y))
  | _=>some bE
 | _=>none
def po(P:Program)(call:cX)(o:Op):Cl×eH:=
 match o with
 | .move x=>(.p0,aa (aM x))
 | .assign x=>(.p0,aa (aM x))
 | .pick c x y=>(.p0,aV (aM c) (aM x) (aM y))
 | .alloc T=>(.al,Lu P T)
 | .box _ x=>(.al,en (aM x))
 | .build T ps=>(.p0,xD P T ps.toList)
 | .buildSlice T n ps=>(.al,KW P T n ps.toList)
 | .load T x=>(.p1,CO P T x)
 | .store T x y=>(.ch,AY P T x y)
 | .nilCheck x=>(.p0,bq (aM x))
 | .binOp op T x y _=>match CN P op T with
  |some f=>(.p0,ah f (aM x) (aM y))
  |none=>(.p0,bE)
 | .unOp op _ x=>match Xd op with
  |some f=>(.p0,fg f (aM x))
  |none=>(.p0,bE)
 | .convert S D x=>match P.underlying D with
  |some (.slice _)=>(.ch,A2 P S D x)
  |some .string=>(.p1,Lr P S x)
  | _=>(.p0,z8 P S D x)
 | .makeFunc (.func f) first caps=>match first.toList with
  | []=>(.p0,P4 f (caps.toList.map aM))
  | _=>(.p0,bE)
 | .makeSlice T l c=>(.al,CE P T l c)
 | .makeMap _ r=>match r with
  |none=>(.ch,It)
  |some _=>(.ch,bE)
 | .slice T x lo hi none=>(.p1,xI P T x lo hi)
 | .slice T x lo hi (some m)=>(.p1,tJ P T x lo hi m)
 | .fieldAddr T x n=>(.p0,mB P T x n)
 | .field T x n=>(.p0,xG P T x n)
 | .indexAddr T x y=>(.p0,mC P T x y)
 | .index T x y=>(.p0,xH P T x y)
 | .extract x i=>(.p0,aS (aM x) i)
 | .call c=>match jl P c with
  |some f=>(.p0,f)
  |none=>(.ch,G8 P call c)
 | _=>(.ch,bE)
def A3(P:Program)(o:Oper)(f:eH):Prop:=
 ∀ (g:G) (w:World) (nt:Nat) (t:Tm) (h:Hp) (a:Act) (v:AV) (h':Hp),HR g w h->TR g w nt t a.tmps->f t h=.ok v h'->
  ∀ next Q,(∀ g' w' x,Ext g w h g' w' h'->HR g' w' h'->VR g' w' v x->next (a.put o.dst x) w')->o.wp P a w next Q
section
variable {P:Program}{o:Oper}
theorem my.ok{f:eH}(h:my P o f):A3 P o f:=by
 intro g w nt t hp a v h' H T e next Q K
 obtain⟨g',w',nx,x,hr,hnx,E,H',hv⟩:=h g w nt t hp a v h' H T e
 unfold Oper.wp
 rw[hr]
 rcases hnx with rfl|⟨rfl,rfl⟩
 ·exact K g' w' x E H' hv
 ·exact K g' w' undef E H' hv
theorem bI.ok{f:eH}(h:bI P o f):A3 P o f:=h.run.ok
theorem n9.ok{f:eH}(h:n9 P o f):A3 P o f:=h.run.ok
theorem vb:A3 P o bE:=by intro g w nt t h a v h' _ _ e;cases e
theorem Rb{f:FuncId}{args:Array Operand}{sF:Array TypeId}{call:cX}(hc:eQ P call)(ho:o.op=.call {callee:=.value (.func f),args,argTypes:=sF}):
 A3 P o (an call f (args.toList.map aM)):=by
 intro g w nt t h a v h' H T e next Q K
 unfold an at e
 split at e
 ·rename_i vs eI
  obtain⟨hen,Aa⟩:=hc f vs h v h' e
  have hv:=wQ T args.toList eI
  have hr:(execOp a.eval o).run P w=.ok (.enter f (args.map a.eval)) w:=by
   simp[execOp,ho,resolve,Act.eval,Deferred.ofValue,invoke,hen]
  unfold Oper.wp
  rw[hr,Oper.upon_enter]
  have:=Aa g w (args.toList.map a.eval) H hv
  rw[show(args.toList.map a.eval).toArray=args.map a.eval from by rw[<-Array.toList_map,Array.toArray_toList]]at this
  refine this.mono ?_
  rintro e w' ⟨x,g',rfl,E,H',hx⟩
  exact K g' w' x E H' hx
 ·cases e
theorem Lv{f:Operand}{args:Array Operand}{sF:Array TypeId}{call:cX}(hc:eQ P call)(ho:o.op=.call {callee:=.value f,args,argTypes:=sF}):
 A3 P o (iy call (aM f) (args.toList.map aM)):=by
 intro g w nt t h a v h' H T e next Q K
 unfold iy at e
 split at e
 ·rename_i k cap hf
  split at e
  ·rename_i vs eI
   have hfv:=ba f _ _ _ _ _ _ T hf
   simp only[VR]at hfv
   obtain⟨caps,hfe,acf⟩:=hfv
   obtain⟨hen,Aa⟩:=hc k _ h v h' e
   have hv:=wQ T args.toList eI
   have hr:(execOp a.eval o).run P w=.ok (.enter k (args.map a.eval++caps)) w:=by
    simp[execOp,ho,resolve,hfe,Deferred.ofValue,invoke,hen]
   unfold Oper.wp
   rw[hr,Oper.upon_enter]
   rw[bp]at Aa
   have:=Aa g w (args.toList.map a.eval++caps.toList) H (hv.append acf)
   rw[show(args.toList.map a.eval++caps.toList).toArray=args.map a.eval++caps from by rw[<-Array.toList_map,<-Array.toList_append,Array.toArray_toList]]at this
   refine this.mono ?_
   rintro e w' ⟨x,g',rfl,E,H',hx⟩
   exact K g' w' x E H' hx
  ·cases e
 ·cases e
end
end Go.Ab

noncomputable section
namespace Go.Ab
variable [Io]
section
variable {P:Program}{o:Oper}{call:cX}
theorem Ff{T:TypeId}{x:Operand}(ho:o.op=.load T x):bI P o (CO P T x):=by
 unfold CO
 split
 ·rename_i d hd
  split
  ·rename_i i hi;exact Iz ho hd hi
  ·exact bw
 ·exact bw
theorem xJ{S D:TypeId}{x:Operand}(ho:o.op=.convert S D x):bI P o (z8 P S D x):=by
 unfold z8
 split
 ·rename_i d hd
  split
  ·rename_i k hk;exact Fe ho hd hk
  ·exact bw
 ·exact bw
theorem IV{S D:TypeId}{x:Operand}(ho:o.op=.convert S D x)(hD:P.underlying D=some .string):bI P o (Lr P S x):=by
 unfold Lr
 split
 ·rename_i e hS
  split
  ·rename_i he;exact IJ ho hS he hD
  ·exact bw
 ·exact bw
theorem Fg{S D:TypeId}{x:Operand}(ho:o.op=.convert S D x):my P o (A2 P S D x):=by
 unfold A2
 split
 ·rename_i hS
  split
  ·rename_i e hD
   split
   ·rename_i he;exact Fc ho hS hD he
   ·exact bw.run
  ·exact bw.run
 ·split
  ·rename_i e hD
   split
   ·rename_i he
    cases h:Nat.beq S D with
    |true=>
     obtain rfl:=Nat.eq_of_beq_eq_true h
     exact IK ho hD he
    |false=>exact bw.run
   ·exact bw.run
  ·exact bw.run
 ·exact bw.run
theorem CP{c:Bool}{f:eH}(h:c=true->bI P o f):bI P o (iu c f bE):=by
 cases c with
 |true=>exact h rfl
 |false=>exact bw
theorem wy{T:TypeId}{x:Operand}{n:Nat}(ho:o.op=.fieldAddr T x n):bI P o (mB P T x n):=by
 unfold mB
 split
 ·rename_i fs hd
  split
  ·rename_i f hf
   split
   ·rename_i i hi
    exact CP fun h=>xB ho hd hf hi (by have:=bH.1 h;omega)
   ·exact bw
  ·exact bw
 ·exact bw
theorem CQ{T:TypeId}{x:Operand}{n:Nat}(ho:o.op=.field T x n):bI P o (xG P T x n):=by
 unfold xG
 split
 ·rename_i fs hd
  split
  ·rename_i f hf
   split
   ·rename_i d GZ
    split
    ·rename_i i hi
     exact EW ho hd hf GZ hi
    ·exact bw
   ·exact bw
  ·exact bw
 ·exact bw
theorem wz{T:TypeId}{x y:Operand}(ho:o.op=.indexAddr T x y):bI P o (mC P T x y):=by
 unfold mC
 split
 ·rename_i e hd
  split
  ·rename_i i hi;exact KP ho hd hi
  ·exact bw
 ·rename_i n e hd
  split
  ·rename_i i hi;exact KQ ho hd hi
  ·exact bw
 ·exact bw
theorem CR{T:TypeId}{x y:Operand}(ho:o.op=.index T x y):bI P o (xH P T x y):=by
 unfold xH
 split
 ·rename_i n e hd
  split
  ·rename_i d GZ
   split
   ·rename_i i hi;exact EX ho hd GZ hi
   ·exact bw
  ·exact bw
 ·rename_i hd;exact Cy ho hd
 ·exact bw
theorem A4{T:TypeId}{x:Operand}{lo hi:Option Operand}{m:Operand}(ho:o.op=.slice T x lo hi (some m)):bI P o (tJ P T x lo hi m):=by
 unfold tJ
 split
 ·split
  ·rename_i e hd
   split
   ·rename_i i hi;exact IU ho hd hi
   ·exact bw
  ·exact bw
 ·exact bw
theorem CS{T:TypeId}{x:Operand}{lo hi:Option Operand}(ho:o.op=.slice T x lo hi none):bI P o (xI P T x lo hi):=by
 unfold xI
 split
 ·rename_i hd;exact Cz ho hd
 ·rename_i e hd
  split
  ·rename_i i hi;exact CA ho hd hi
  ·exact bw
 ·rename_i n e hd
  split
  ·rename_i i hi;exact CP fun h=>CB ho hd hi (by have:=bH.1 h;omega)
  ·exact bw
 ·exact bw
theorem IW{T:TypeId}{x:Operand}(ho:o.op=.call {callee:=.builtin .cap,args:= #[x],argTypes:= #[T]}):bI P o (Lt P T x):=by
 unfold Lt
 split
 ·rename_i hd;exact KO ho hd
 ·exact bw
theorem IX{T:TypeId}{x:Operand}(ho:o.op=.call {callee:=.builtin .len,args:= #[x],argTypes:= #[T]}):bI P o (Ls P T x):=by
 unfold Ls
 split
 ·rename_i hd;exact Ix ho hd
 ·rename_i e hd;exact KN ho hd
 ·rename_i n e hd;exact Iy ho hd
 ·exact bw
theorem Rd:n9 P o bE:=by intro g w nt t h a v h' _ _ e;cases e
theorem Lw{T:TypeId}(ho:o.op=.alloc T):n9 P o (Lu P T):=by
 unfold Lu
 split
 ·rename_i z hz;exact KU ho hz
 ·exact Rd
theorem Lx{op:UnOp}{T:TypeId}{x:Operand}{f:AV->Option AV}(ho:o.op=.unOp op T x)(h:Xd op=some f):bI P o (fg f (aM x)):=by
 cases op<;>cases h
 ·exact KL ho
 ·exact KM ho
 ·exact KI ho
omit [Io] in
theorem Re{α:Type}{a:Array α}{x:α}(h:a.toList=[x]):a= #[x]:=by
 rw[<-Array.toArray_toList (xs:=a),h]
omit [Io] in
theorem IY{α:Type}{a:Array α}{x y:α}(h:a.toList=[x,y]):a= #[x,y]:=by
 rw[<-Array.toArray_toList (xs:=a),h]
theorem zn{c:Call}{f:eH}(ho:o.op=.call c)(h:jl P c=some f):bI P o f:=by
 unfold jl at h
 split at h
 ·rename_i args sF
  split at h
  ·rename_i x T h1 h2
   cases h
   rw[Re h1,Re h2]at ho
   exact IX ho
  ·cases h;exact bw
 ·rename_i args sF
  split at h
  ·rename_i x T h1 h2
   cases h
   rw[Re h1,Re h2]at ho
   exact IW ho
  ·cases h;exact bw
 ·rename_i args sF
  split at h
  ·rename_i x y h1
   cases h
   rw[IY h1]at ho
   exact Lp ho
  ·cases h;exact bw
 ·rename_i args sF
  split at h
  ·rename_i x y h1
   cases h
   rw[IY h1]at ho
   exact Lq ho
  ·cases h;exact bw
 ·cases h
theorem Ly(hc:eQ P call){c:Call}(ho:o.op=.call c):A3 P o (G8 P call c):=by
 unfold G8
 split
 ·rename_i args sF
  split
  ·rename_i s x T T' h1 h2
   rw[IY h1,IY h2]at ho
   cases h:Nat.beq T T' with
   |true=>
    obtain rfl:=Nat.eq_of_beq_eq_true h
    exact(CI ho).ok
   |false=>exact(IG ho).ok
  ·exact vb
 ·rename_i args sF
  split
  ·rename_i d s T T' h1 h2
   rw[IY h1,IY h2]at ho
   exact(IQ ho).ok
  ·exact vb
 ·exact Rb hc ho
 ·exact Lv hc ho
 ·exact vb
theorem A5(hc:eQ P call):match po P call o.op with
 |(.p0,f)=>bI P o f
 |(.p1,f)=>bI P o f
 |(.al,f)=>n9 P o f
 |(.ch,f)=>A3 P o f:=by
 cases ho:o.op<;>simp only[po]
 case move x=>exact zT (.inl ho)
 case assign x=>exact zT (.inr ho)
 case pick c x y=>exact Iw ho
 case alloc T=>exact Lw ho
 case box T x=>exact KV ho
 case build T ps=>exact EZ ho
 case buildSlice T n ps=>exact KX ho
 case load T x=>exact Ff ho
 case store T x y=>exact(E7 ho).ok
 case nilCheck x=>exact pure_nil ho
 case binOp op T x y yT=>
  cases h:CN P op T with
  |some f=>exact KE ho (Ra h)
  |none=>exact bw
 case unOp op T x=>
  cases h:Xd op with
  |some f=>exact Lx ho h
  |none=>exact bw
 case convert S D x=>
  cases h:P.underlying D with
  |none=>exact xJ ho
  |some d=>cases d<;>first|exact xJ ho|exact(Fg ho).ok|exact IV ho h
 case makeFunc f first caps=>
  cases f<;>try exact vb
  rename_i f
  simp only
  cases h:first.toList with
  |nil=>
   have:first= #[]:=by rw[<-Array.toArray_toList (xs:=first),h]
   subst this
   exact QV ho
  |cons a l=>exact bw
 case makeSlice T l c=>exact IA ho
 case makeMap T r=>cases r with
  |none=>exact(K6 ho).ok
  |some _=>exact vb
 case slice T x lo hi mx=>
  cases mx with
  |none=>exact CS ho
  |some m=>exact A4 ho
 case fieldAddr T x n=>exact wy ho
 case field T x n=>exact CQ ho
 case indexAddr T x y=>exact wz ho
 case index T x y=>exact CR ho
 case extract x i=>exact AW ho
 case call c=>
  cases h:jl P c with
  |some f=>exact zn ho h
  |none=>exact Ly hc ho
 all_goals exact vb
theorem Lz(hc:eQ P call):A3 P o (po P call o.op).2:=by
 have:=A5 (o:=o) hc
 cases h:po P call o.op with
 |mk c f=>
  rw[h]at this
  cases c
  ·exact bI.ok this
  ·exact bI.ok this
  ·exact n9.ok this
  ·exact this
def gF(j:eJ)(want:Bool)(f:eH):eH:=fun t h=>match j t with
 |some (.bool b)=>iu (iu want b (!b)) (f t h) (.ok gQ h)
 |some (.wm [])=>.ok gQ h
 | _=>.bad
def kW(P:Program)(call:cX)(nt:Nat)(all:List Oper)(o:Oper):eH:=
 match o.guard with
 |none=>(po P call o.op).2
 |some (j,want)=>match kY all j with
  |some oj=>match oj.dst with
   |some d=>iu (Nat.blt d nt) (gF (oT d) want (po P call o.op).2) bE
   |none=>bE
  |none=>bE
def lI(P:Program)(call:cX)(nt:Nat)(all l:List Oper):mV:=
 List.rec fi (fun o _ ih=>match o.dst with
  |some d=>iu (Nat.blt d nt) (st (sT d) (kW P call nt all o) ih) (fun _ _=>.bad)
  |none=>sn (kW P call nt all o) ih) l
theorem A6(hc:eQ P call){ops:Array Oper}{i:Nat}(hi:ops[i]? =some o){g w nt t h}{a:Act}{v:AV}{h':Hp}(H:HR g w h)(T:TR g w nt t a.tmps)
 (e:kW P call nt ops.toList o t h=.ok v h'){Q:Exit->Act->World->Prop}{rest:List Nat}
 (K: ∀ g' w' x,Ext g w h g' w' h'->HR g' w' h'->VR g' w' v x->wpOps P ops Q rest (a.put o.dst x) w'):wpOps P ops Q (i::rest) a w:=by
 rw[wpOps,hi]
 simp only
 unfold kW at e
 cases hg:o.guard with
 |none=>
  rw[hg]at e
  rw[if_pos (by simp[Region.wanted,hg])]
  exact .inl (Lz hc g w nt t h a v h' H T e _ _ K)
 |some p=>
  obtain⟨j,want⟩:=p
  rw[hg]at e
  simp only[gD]at e
  cases hj:ops.toList[j]? with
  |none=>simp only[hj]at e;cases e
  |some oj=>
  simp only[hj]at e
  cases hd:oj.dst with
  |none=>simp only[hd]at e;cases e
  |some d=>
  simp only[hd]at e
  cases hb:Nat.blt d nt with
  |false=>simp only[hb]at e;cases e
  |true=>
  simp only[hb]at e
  have Kk:=bH.1 hb
  change gF (oT d) want (po P call o.op).2 t h=.ok v h' at e
  have hj':ops[j]? =some oj:=by simpa using hj
  have rM:=T.2.1
  have hy: ∀ y,a.tmps.getD d undef=y->yielded ops a.tmps j=match y with| .bool b=>some b| _=>none:=by
   intro y hy
   have:a.tmps[d]? =some y:=by
    rw[Array.getD_eq_getD_getElem?]at hy
    rw[Array.getElem?_eq_getElem (by omega)]at hy ⊢
    simpa using hy
   simp[yielded,hj',hd,this]
   cases y<;>rfl
  unfold gF at e
  split at e
  ·rename_i b CG
   have hv:=(T.2.2 d _ (by have:=T.1;omega) CG).2
   simp only[VR]at hv
   have Rf:=hy _ hv
   cases Rg:(iu want b (!b))with
   |true=>
    rw[Rg]at e
    have:b=want:=by cases want<;>cases b<;>simp[iu]at Rg<;>rfl
    rw[if_pos (by simp[Region.wanted,hg,Rf,this])]
    exact .inl (Lz hc g w nt t h a v h' H T e _ _ K)
   |false=>
    rw[Rg]at e
    have:b≠want:=by cases want<;>cases b<;>simp[iu]at Rg<;>simp
    rw[if_neg (by simp[Region.wanted,hg,Rf,this])]
    cases e
    exact K g w undef (Ext.refl _ _ _) H (by simp only[gQ,VR];exact⟨_,rfl,by simp[bD]⟩)
  ·rename_i CG
   have hv:=(T.2.2 d _ (by have:=T.1;omega) CG).2
   simp only[VR]at hv
   obtain⟨vs,hv,eI⟩:=hv
   have Rf:=hy _ hv
   rw[if_neg (by simp[Region.wanted,hg,Rf])]
   cases e
   exact K g w undef (Ext.refl _ _ _) H (by simp only[gQ,VR];exact⟨_,rfl,by simp[bD]⟩)
  ·cases e
end
end Go.Ab

noncomputable section
namespace Go.Ab
variable [Io]
section
variable {P:Program}{call:cX}
def oe(g:G)(w:World)(h:Hp)(nt:Nat)(t':Tm)(h':Hp)(R:Act->World->Prop):Prop:=
 ∀ g' w' a',Ext g w h g' w' h'->HR g' w' h'->TR g' w' nt t' a'.tmps->a'.defers=[]->R a' w'
theorem oe.then{g w h nt h1 g1 w1 t2 h2}{R:Act->World->Prop}(E:Ext g w h g1 w1 h1)(K:oe g w h nt t2 h2 R):oe g1 w1 h1 nt t2 h2 R:=
 fun g' w' a' E' H' T' D'=>K g' w' a' (E.trans E') H' T' D'
def Rh(P:Program)(nt:Nat)(c:Code)(r:mV):Prop:=
 ∀ (g:G) (w:World) (t:Tm) (h:Hp) (a:Act) (t':Tm) (h':Hp),HR g w h->TR g w nt t a.tmps->a.defers=[]->r t h=.ok t' h'->
  ∀ Q:Exit->Act->World->Prop,oe g w h nt t' h' (Q .normal)->c.wp P Q a w
theorem Ri{g w nt t}{a:Act}{d:Nat}{v:AV}{x:Value}(T:TR g w nt t a.tmps)(hd:d<nt)(hv:VR g w v x):TR g w nt (sT d v t) (a.put (some d) x).tmps:=
 T.put hd hv
theorem LA(hc:eQ P call){nt:Nat}(ops:Array Oper): ∀ (l pre:List Oper),ops.toList=pre++l-> ∀ (g:G) (w:World) (t:Tm) (h:Hp) (a:Act) (t':Tm) (h':Hp),
 HR g w h->TR g w nt t a.tmps->a.defers=[]->lI P call nt ops.toList l t h=.ok t' h'-> ∀ Q:Exit->Act->World->Prop,oe g w h nt t' h' (Q .normal)->
  wpOps P ops Q (List.range' pre.length l.length) a w
 | [],pre,_,g,w,t,h,a,t',h',H,T,D,e,Q,K=>by
  cases e
  exact K g w a (Ext.refl _ _ _) H T D
 |o::l,pre,hl,g,w,t,h,a,t',h',H,T,D,e,Q,K=>by
  have hi:ops[pre.length]? =some o:=by
   have:ops.toList[pre.length]? =some o:=by rw[hl];simp
   simpa using this
  have ih:=LA hc (nt:=nt) ops l (pre++[o]) (by simp[hl])
  simp only[List.length_append,List.length_cons,List.length_nil,Nat.zero_add]at ih
  rw[List.length_cons,List.range'_succ]
  change (match o.dst with
   |some d=>iu (Nat.blt d nt) (st (sT d) (kW P call nt ops.toList o) (lI P call nt ops.toList l)) (fun _ _=>.bad)
   |none=>sn (kW P call nt ops.toList o) (lI P call nt ops.toList l)) t h=.ok t' h' at e
  cases hd:o.dst with
  |none=>
   simp only[hd]at e
   unfold sn at e
   cases hg:kW P call nt ops.toList o t h with
   |bad=>rw[hg]at e;cases e
   |ok v h1=>
    rw[hg]at e
    refine A6 hc hi H T hg fun g1 w1 x E H1 hv=>?_
    rw[hd]
    exact ih g1 w1 t h1 a t' h' H1 (T.mono H E) D e Q (oe.then E K)
  |some d=>
   simp only[hd]at e
   cases hb:Nat.blt d nt with
   |false=>simp only[hb]at e;cases e
   |true=>
    simp only[hb]at e
    change st (sT d) (kW P call nt ops.toList o) (lI P call nt ops.toList l) t h=.ok t' h' at e
    unfold st at e
    cases hg:kW P call nt ops.toList o t h with
    |bad=>rw[hg]at e;cases e
    |ok v h1=>
     rw[hg]at e
     refine A6 hc hi H T hg fun g1 w1 x E H1 hv=>?_
     rw[hd]
     exact ih g1 w1 (sT d v t) h1 (a.put (some d) x) t' h' H1 (Ri (T.mono H E) (bH.1 hb) hv) D e Q (oe.then E K)
theorem IZ(hc:eQ P call){nt:Nat}(id:Nat)(ops:Array Oper):Rh P nt (.region id ops false) (lI P call nt ops.toList ops.toList):=by
 intro g w t h a t' h' H T D e Q K
 refine wp_region ?_
 have:=LA hc ops ops.toList [] rfl g w t h a t' h' H T D e Q K
 rw[List.range_eq_range']
 simpa using this
def I0(P:Program)(nt:Nat)(c:Code)(f:ze):Prop:=
 ∀ (g:G) (w:World) (t:Tm) (h:Hp) (a:Act) (Q:Exit->Act->World->Prop),HR g w h->TR g w nt t a.tmps->a.defers=[]->
  match f t h with
  | .bad=>True
  | .norm t' h'=>oe g w h nt t' h' (Q .normal)->c.wp P Q a w
  | .ret t' h'=>oe g w h nt t' h' (Q .ret)->c.wp P Q a w
  | .exit i t' h'=>oe g w h nt t' h' (Q (.exit i))->c.wp P Q a w
def gO(P:Program)(draw:Array Oper->mV)(call:cX)(n nt:Nat)(c:Code):ze:=
 Code.rec (motive:=fun _=>ze) bR
  (fun _ ops d=>ai (Bool.rec (lI P call nt ops.toList ops.toList) (draw ops) d))
  (fun _ _ ia ib=>af ia ib)
  (fun c _ _ ia ib=>bu (aM c) ia ib)
  (fun id _ ib=>dn id ib)
  (fun _ ib=>iP n ib)
  (fun _ _ _ _ _ _=>Cr)
  (fun i=>jk i)
  (fun _ _=>Cr)
  (fun _=>Cr)
  (fun _=>Cr)
  cD
  (fun _=>Cr) c
theorem xK{nt:Nat}{c:Code}:I0 P nt c Cr:=by
 intro g w t h a Q H T D
 exact trivial
theorem A7(hc:eQ P call){draw:Array Oper->mV}{nt:Nat}(hd: ∀ id ops,Rh P nt (.region id ops true) (draw ops))(n:Nat): ∀ c,I0 P nt c (gO P draw call n nt c):=by
 intro c
 induction c with
 |skip=>
  intro g w t h a Q H T D K
  exact wp_skip (K g w a (Ext.refl _ _ _) H T D)
 |region id ops d=>
  intro g w t h a Q H T D
  have key:Rh P nt (.region id ops d) (Bool.rec (lI P call nt ops.toList ops.toList) (draw ops) d):=by
   cases d with
   |false=>exact IZ hc id ops
   |true=>exact hd id ops
  show match ai (Bool.rec (lI P call nt ops.toList ops.toList) (draw ops) d) t h with| .bad=>_| .norm _ _=>_| .ret _ _=>_| .exit _ _ _=>_
  unfold ai
  cases e:(Bool.rec (lI P call nt ops.toList ops.toList) (draw ops) d:mV) t h with
  |bad=>exact trivial
  |ok t' h'=>exact fun K=>key g w t h a t' h' H T D e Q K
 |seq x y hx hy=>
  intro g w t h a Q H T D
  show match af (gO P draw call n nt x) (gO P draw call n nt y) t h with| .bad=>_| .norm _ _=>_| .ret _ _=>_| .exit _ _ _=>_
  unfold af
  have h1:=hx g w t h a (Exit.then (y.wp P Q) Q) H T D
  cases e:gO P draw call n nt x t h with
  |bad=>exact trivial
  |ret t1 nW=>rw[e]at h1;exact fun K=>wp_seq (h1 K)
  |exit i t1 nW=>rw[e]at h1;exact fun K=>wp_seq (h1 K)
  |norm t1 nW=>
   rw[e]at h1
   show match gO P draw call n nt y t1 nW with| .bad=>_| .norm _ _=>_| .ret _ _=>_| .exit _ _ _=>_
   cases e2:gO P draw call n nt y t1 nW with
   |bad=>exact trivial
   |norm t2 h2=>
    intro K
    refine wp_seq (h1 fun g1 w1 a1 E1 H1 T1 D1=>?_)
    have:=hy g1 w1 t1 nW a1 Q H1 T1 D1
    rw[e2]at this
    exact this (oe.then E1 K)
   |ret t2 h2=>
    intro K
    refine wp_seq (h1 fun g1 w1 a1 E1 H1 T1 D1=>?_)
    have:=hy g1 w1 t1 nW a1 Q H1 T1 D1
    rw[e2]at this
    exact this (oe.then E1 K)
   |exit i t2 h2=>
    intro K
    refine wp_seq (h1 fun g1 w1 a1 E1 H1 T1 D1=>?_)
    have:=hy g1 w1 t1 nW a1 Q H1 T1 D1
    rw[e2]at this
    exact this (oe.then E1 K)
 |cond c x y hx hy=>
  intro g w t h a Q H T D
  show match bu (aM c) (gO P draw call n nt x) (gO P draw call n nt y) t h with| .bad=>_| .norm _ _=>_| .ret _ _=>_| .exit _ _ _=>_
  unfold bu
  cases gh:aM c t with
  |none=>exact trivial
  |some v=>
   cases v<;>try exact trivial
   rename_i b
   have hv:=ba c _ _ _ _ _ _ T gh
   simp only[VR]at hv
   cases b with
   |true=>
    have:=hx g w t h a Q H T D
    show match gO P draw call n nt x t h with| .bad=>_| .norm _ _=>_| .ret _ _=>_| .exit _ _ _=>_
    cases e:gO P draw call n nt x t h<;>rw[e]at this
    ·exact trivial
    all_goals exact fun K=>wp_cond_true hv (this K)
   |false=>
    have:=hy g w t h a Q H T D
    show match gO P draw call n nt y t h with| .bad=>_| .norm _ _=>_| .ret _ _=>_| .exit _ _ _=>_
    cases e:gO P draw call n nt y t h<;>rw[e]at this
    ·exact trivial
    all_goals exact fun K=>wp_cond_false hv (this K)
 |block id x hx=>
  intro g w t h a Q H T D
  show match dn id (gO P draw call n nt x) t h with| .bad=>_| .norm _ _=>_| .ret _ _=>_| .exit _ _ _=>_
  unfold dn
  have:=hx g w t h a (Exit.inBlock id Q) H T D
  cases e:gO P draw call n nt x t h<;>rw[e]at this
  ·exact trivial
  ·exact fun K=>wp_block (this K)
  ·exact fun K=>wp_block (this K)
  ·rename_i i t1 h1
   show match(Bool.rec (Rc.exit i t1 h1) (Rc.norm t1 h1) (Nat.beq i id):Rc)with| .bad=>_| .norm _ _=>_| .ret _ _=>_| .exit _ _ _=>_
   cases hb:Nat.beq i id with
   |true=>
    obtain rfl:=Nat.eq_of_beq_eq_true hb
    exact fun K=>wp_block (this fun g' w' a' E' H' T' D'=>by
     show Exit.inBlock i Q (.exit i) a' w'
     simp only[Exit.inBlock,if_true]
     exact K g' w' a' E' H' T' D')
   |false=>
    have jN:i≠id:=fun k=>by rw[k,Nat.beq_refl]at hb;cases hb
    exact fun K=>wp_block (this fun g' w' a' E' H' T' D'=>by
     show Exit.inBlock id Q (.exit i) a' w'
     simp only[Exit.inBlock,if_neg jN]
     exact K g' w' a' E' H' T' D')
 |loop x hx=>
  intro g w t h a Q H T D
  show match iP n (gO P draw call n nt x) t h with| .bad=>_| .norm _ _=>_| .ret _ _=>_| .exit _ _ _=>_
  have key: ∀ m,∀ (g:G) (w:World) (t:Tm) (h:Hp) (a:Act),HR g w h->TR g w nt t a.tmps->a.defers=[]->
   match iP m (gO P draw call n nt x) t h with
   | .bad=>True
   | .norm t' h'=>oe g w h nt t' h' (Q .normal)->Code.rounds P x Q m a w
   | .ret t' h'=>oe g w h nt t' h' (Q .ret)->Code.rounds P x Q m a w
   | .exit i t' h'=>oe g w h nt t' h' (Q (.exit i))->Code.rounds P x Q m a w:=by
   intro m
   induction m with
   |zero=>intro g w t h a H T D;exact trivial
   |succ m ih=>
    intro g w t h a H T D
    have h1:=hx g w t h a (Exit.then (Code.rounds P x Q m) Q) H T D
    show match(Rc.rec Rc.bad (fun t h=>iP m (gO P draw call n nt x) t h) (fun t h=>Rc.ret t h) (fun i t h=>Rc.exit i t h) (gO P draw call n nt x t h):Rc)with
     | .bad=>_| .norm _ _=>_| .ret _ _=>_| .exit _ _ _=>_
    cases e:gO P draw call n nt x t h with
    |bad=>exact trivial
    |ret t1 nW=>rw[e]at h1;exact fun K=>h1 K
    |exit i t1 nW=>rw[e]at h1;exact fun K=>h1 K
    |norm t1 nW=>
     rw[e]at h1
     show match iP m (gO P draw call n nt x) t1 nW with| .bad=>_| .norm _ _=>_| .ret _ _=>_| .exit _ _ _=>_
     cases e2:iP m (gO P draw call n nt x) t1 nW with
     |bad=>exact trivial
     |norm t2 h2=>
      intro K
      refine h1 fun g1 w1 a1 E1 H1 T1 D1=>?_
      have:=ih g1 w1 t1 nW a1 H1 T1 D1
      rw[e2]at this
      exact this (oe.then E1 K)
     |ret t2 h2=>
      intro K
      refine h1 fun g1 w1 a1 E1 H1 T1 D1=>?_
      have:=ih g1 w1 t1 nW a1 H1 T1 D1
      rw[e2]at this
      exact this (oe.then E1 K)
     |exit i t2 h2=>
      intro K
      refine h1 fun g1 w1 a1 E1 H1 T1 D1=>?_
      have:=ih g1 w1 t1 nW a1 H1 T1 D1
      rw[e2]at this
      exact this (oe.then E1 K)
  have:=key n g w t h a H T D
  cases e:iP n (gO P draw call n nt x) t h<;>rw[e]at this
  ·exact trivial
  all_goals exact fun K=>wp_loop_rounds n (this K)
 |rangeFunc f ps x y _ _=>exact xK
 |exit i=>
  intro g w t h a Q H T D K
  exact wp_exit (K g w a (Ext.refl _ _ _) H T D)
 |scope x _=>exact xK
 |label l=>exact xK
 |goto l=>exact xK
 |ret=>
  intro g w t h a Q H T D K
  exact wp_ret (K g w a (Ext.refl _ _ _) H T D)
 |refuse s=>exact xK
end
end Go.Ab

noncomputable section
namespace Go.Ab
variable [Io]
section
variable {P:Program}
def cRV(P:Program)(nt:Nat):ResultVar->Option RV
 | .tmp i=>iu (Nat.blt i nt) (some (.tmp i)) none
 | .cell i T=>match P.underlying T with
  |some d=>match P.info? T with
   |some ti=>iu (Nat.blt i nt) (some (.cell i ti.size (jZ d))) none
   |none=>none
  |none=>none
def LC(P:Program)(nt:Nat)(l:List ResultVar):Option (List RV):=
 List.rec (some []) (fun r _ ih=>match cRV P nt r with
  |some v=>match ih with
   |some vs=>some (v::vs)
   |none=>none
  |none=>none) l
def xL(tmps:Array Value):ResultVar->Sem Value
 | .tmp t=>pure (tmps.getD t undef)
 | .cell a t=>do loadVar t (<-asAddr (tmps.getD a undef))
theorem Rj{g w nt t h}{tmps:Array Value}(H:HR g w h)(T:TR g w nt t tmps){r:ResultVar}{rv:RV}{v:AV}(hr:cRV P nt r=some rv)(e:KA t h rv=some v):
 ∃ x,(xL tmps r).run P w=.ok x w/\VR g w v x:=by
 cases r with
 |tmp i=>
  change iu (Nat.blt i nt) (some (RV.tmp i)) none=some rv at hr
  cases hb:Nat.blt i nt with
  |false=>rw[hb]at hr;cases hr
  |true=>
   rw[hb]at hr
   cases hr
   exact⟨_,rfl,(T.2.2 i v (by have:=T.1;have:=bH.1 hb;omega) e).2⟩
 |cell i ty=>
  unfold cRV at hr
  cases hd:P.underlying ty with
  |none=>simp only[hd]at hr;cases hr
  |some d=>
  simp only[hd]at hr
  cases hi:P.info? ty with
  |none=>simp only[hi]at hr;cases hr
  |some ti=>
  simp only[hi]at hr
  cases hb:Nat.blt i nt with
  |false=>rw[hb]at hr;cases hr
  |true=>
   rw[hb]at hr
   cases hr
   have G9: @LT.lt Nat _ i 512:=by have:=T.1;have:=bH.1 hb;omega
   change (match t.at i with|some a=>xp h ti.size (jZ d) a|none=>none)=some v at e
   split at e
   ·rename_i a ha
    have hv:=(T.2.2 i a G9 ha).2
    unfold xp at e
    split at e
    ·rename_i id off
     split at e
     ·rename_i cs hg
      simp only[VR]at hv
      obtain⟨b,s,hm,hv⟩:=hv
      obtain⟨C,el,vs,hw,_,eI,hc⟩:=H.row hg hm
      obtain⟨z,hz,hr⟩:=nc hd hi eI (jI hw hc) (xu e)
      exact⟨z,by simp only[xL,hv,asAddr,Sem.run_bind,Sem.run_pure,Result.andThen_ok,hz],hr⟩
     ·cases e
    ·rename_i cs
     simp only[VR]at hv
     obtain⟨b,s,vs,hv,_,hc,eI⟩:=hv
     obtain⟨z,hz,hr⟩:=nc hd hi eI hc e
     rw[Nat.add_zero]at hz
     exact⟨z,by simp only[xL,hv,asAddr,Sem.run_bind,Sem.run_pure,Result.andThen_ok,hz],hr⟩
    ·cases e
   ·cases e
theorem CT{g w nt t h}{tmps:Array Value}(H:HR g w h)(T:TR g w nt t tmps): ∀ (l:List ResultVar) {Rk:List RV} {vs:List AV},LC P nt l=some Rk->zR t h Rk=some vs->
 ∃ xs,(l.mapM (xL tmps)).run P w=.ok xs w/\bD g w vs xs
 | [],Rk,vs,h1,h2=>by
  cases h1
  cases h2
  exact⟨[],by simp,by simp[bD]⟩
 |r::l,Rk,vs,h1,h2=>by
  change (match cRV P nt r with|some v=>(match LC P nt l with|some vs=>some (v::vs)|none=>none)|none=>none)=some Rk at h1
  split at h1
  ·rename_i rv LD
   split at h1
   ·rename_i rl hrl
    cases h1
    change (match KA t h rv with|some v=>(match zR t h rl with|some vs=>some (v::vs)|none=>none)|none=>none)=some vs at h2
    split at h2
    ·rename_i v hv
     split at h2
     ·rename_i us hu
      cases h2
      obtain⟨x,hx,LF⟩:=Rj H T LD hv
      obtain⟨xs,Xa,ahR⟩:=CT H T l hrl hu
      refine⟨x::xs,?_,by simp only[bD];exact⟨x,xs,rfl,LF,ahR⟩⟩
      simp only[List.mapM_cons,Sem.run_bind,hx,Xa,Result.andThen_ok,Sem.run_pure]
     ·cases h2
    ·cases h2
   ·cases h1
  ·cases h1
theorem Xe{g w nt t h}{tmps:Array Value}{F:Func}{Rk:List RV}{v:AV}{h':Hp}(H:HR g w h)(T:TR g w nt t tmps)(hr:LC P nt F.results.toList=some Rk)(e:fin Rk t h=.ok v h'):
 h'=h/\ ∃ x,(results F tmps).run P w=.ok x w/\VR g w v x:=by
 have key: ∀ vs,zR t h Rk=some vs-> ∃ xs:List Value,(results F tmps).run P w=.ok (if h:xs.toArray.size=1 then xs.toArray[0]else .tuple xs.toArray) w/\bD g w vs xs:=by
  intro vs eI
  obtain⟨xs,Xa,hv⟩:=CT H T F.results.toList hr eI
  refine⟨xs,?_,hv⟩
  show((F.results.mapM (xL tmps)>>=fun vs=>(pure (if h:vs.size=1 then vs[0]else .tuple vs):Sem Value))).run P w=_
  rw[Array.mapM_eq_mapM_toList]
  simp only[Sem.run_bind,Sem.run_map,Xa,Result.andThen_ok,Sem.run_pure]
 unfold fin at e
 split at e
 ·rename_i v1 eI
  cases e
  obtain⟨xs,hx,hv⟩:=key _ eI
  simp only[bD]at hv
  obtain⟨x,l',rfl,LF,rfl⟩:=hv
  exact⟨rfl,x,by rw[hx];rfl,LF⟩
 ·rename_i vs jN eI
  cases e
  obtain⟨xs,hx,hv⟩:=key _ eI
  refine⟨rfl,.tuple xs.toArray,?_,by simp only[VR];exact⟨_,rfl,hv⟩⟩
  rw[hx,dif_neg]
  intro h1
  have hl:=hv.length
  have:vs.length=1:=by simpa[<-hl]using h1
  match vs,this with
  | [a],_=>exact jN a rfl
 ·cases e
def Fh(P:Program)(draw:cX->Nat->Array Oper->mV):Prop:=
 ∀ call nt,eQ P call-> ∀ id ops,Rh P nt (.region id ops true) (draw call nt ops)
structure bF(P:Program)(draw:cX->Nat->Array Oper->mV)(f:FuncId)(b:Fb):Prop where
 ex: ∃ F c,P.funcs[f]? =some F/\F.body=some c/\b.ntmps=F.ntmps/\b.ntmps<=512/\LC P b.ntmps F.results.toList=some b.res/\b.body=fun call n=>gO P (draw call b.ntmps) call n b.ntmps c
 enter: ∀ as w,(callFunc f as).run P w=.ok (.enter f as) w
theorem tK{g w}: ∀ (l:List AV) (vs:List Value) (i nt:Nat) (t:Tm) (tmps:Array Value),bD g w l vs->i+l.length<=nt->TR g w nt t tmps->
 (∀ j v,vs[j]? =some v->tmps[i+j]? =some v)->TR g w nt (ph l i t) tmps
 | [],vs,i,nt,t,tmps,h,hl,T,hj=>T
 |a::l,vs,i,nt,t,tmps,h,hl,T,hj=>by
  simp only[bD]at h
  obtain⟨v,l',rfl,hv,h⟩:=h
  simp only[List.length_cons]at hl
  have h0:tmps[i]? =some v:=by simpa using hj 0 v rfl
  have hi:i<tmps.size:=(Array.getElem?_eq_some_iff.1 h0).1
  have ahS:tmps.setIfInBounds i v=tmps:=by
   apply Array.ext
   ·simp
   ·intro k h1 h2
    rw[Array.getElem_setIfInBounds]
    split
    ·rename_i e
     subst e
     exact(Option.some.inj ((Array.getElem?_eq_getElem hi).symm.trans h0)).symm
    ·rfl
  have T':=T.put (d:=i) (by omega) hv
  rw[ahS]at T'
  exact tK l l' (i+1) nt _ tmps h (by omega) T' (fun j u e=>by
   have:=hj (j+1) u (by simpa using e)
   rwa [show i+1+j=i+(j+1) by omega])
end
end Go.Ab
