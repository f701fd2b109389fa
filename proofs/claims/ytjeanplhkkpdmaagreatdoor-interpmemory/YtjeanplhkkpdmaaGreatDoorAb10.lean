import Derived.Test.YtjeanplhkkpdmaaGreatDoorAb6
import Derived.Laws.BytesArg
import Derived.Laws.IdiomStrings
import Derived.Laws.StructEq
import Derived.LoopN
noncomputable section
namespace Go.Ab
variable [Io]
section
variable {P:Program}{o:Oper}
theorem UD{g w h}(H:HR g w h){w':World}(h1:w'.os=w.os)(h2:w'.tape=w.tape)(h3:w'.output=w.output)(h4:w'.heap.size=w.heap.size+1)
 (h5: ∀ b,b<w.heap.size->w'.heap[b]? =w.heap[b]?):
 Ext g w h ⟨g.m,fun b=>g.j3 b∨b=w.heap.size⟩ w' h/\HR ⟨g.m,fun b=>g.j3 b∨b=w.heap.size⟩ w' h:=by
 have arC: ∀ b,nn g h b->b<w.heap.size:=by
  rintro b ⟨id,cs,s,e,m⟩
  obtain⟨_,_,_,hw,_⟩:=H.row e m
  exact(Array.getElem?_eq_some_iff.1 hw).1
 have E:Ext g w h ⟨g.m,fun b=>g.j3 b∨b=w.heap.size⟩ w' h:=by
  refine⟨h1,h2,h3,by omega,Nat.le_refl _,fun _ _ e=>e,fun b hb _=>h5 b hb,?_,fun _ i=>.inl i,?_,fun _ o=>.inl o⟩
  ·intro b
   unfold jl
   by_cases hb:b<w.heap.size
   ·rw[h5 b hb];exact Nat.le_refl _
   ·rw[Array.getElem?_eq_none (by omega)];exact Nat.zero_le _
  ·rintro b (i|rfl)
   ·exact .inl i
   ·exact .inr (.inr (Nat.le_refl _))
 refine⟨E,H.fresh,?_,H.inj,?_,qF.ext H E⟩
 ·intro id cs e
  obtain⟨b,s,C,el,vs,hm,hw,hi,hv,hc⟩:=H.cw id cs e
  have hb:=(Array.getElem?_eq_some_iff.1 hw).1
  refine⟨b,s,C,el,vs,hm,by rw[h5 b hb];exact hw,?_,cZ.mono H E _ _ hv,hc⟩
  rintro(i|rfl)
  ·exact hi i
  ·omega
 ·rintro b (i|rfl)
  ·have:=H.j3 b i;omega
  ·omega
def Hr(s:ByteArray):List Value:=s.data.toList.map fun b=>Value.int .u8 (.ofNat b.toNat)
omit [Io] in
theorem KR(w:World)(e:TypeId)(s:ByteArray): ∃ cap w',∃ C:Array Value,∃ el:FT C,(Conv.stringToBytes e s).run P w=.ok (.slice (some ⟨w.heap.size,0,none⟩) s.size cap) w'/\s.size<=cap/\cap<=C.size/\
 w'.os=w.os/\w'.tape=w.tape/\w'.output=w.output/\w'.heap.size=w.heap.size+1/\(∀ b,w'.heap[b]? =if b=w.heap.size then some (.cells C el.el el.fz)else w.heap[b]?)/\(∀ (j:Nat) (v:Value),(Hr s)[j]? =some v->C[j]? =some v):=by
 obtain⟨cap,z5⟩: ∃ cap,cap=(Question.appendCap s.size 0 e).cut (w.tape w.drawn (.appendCap s.size 0 e)):=⟨_,rfl⟩
 have NL:s.size<=cap:=by rw[z5];simp[Question.cut]
 obtain⟨C,hC⟩: ∃ C:Array Value,C=s.data.map (fun b=>Value.int .u8 (b.toNat:Int))++Array.replicate (cap - s.size) (.int .u8 0):=⟨_,rfl⟩
 have hCs:C.size=cap:=by rw[hC];simp;show s.size+_=_;omega
 refine⟨cap,(w.drew.alloc (.cells C e)).freeze {block:=w.heap.size,off:=C.size} 1,C,⟨e,(C.size,C.size+1),.inr (Nat.le_refl _)⟩,?_,NL,by omega,rfl,rfl,rfl,?_,?_,?_⟩
 ·have hsh:(w.drew.alloc (.cells C e)).shape? w.heap.size=some (e,C.size):=by
   have:((w.drew.alloc (.cells C e)).heap)[w.heap.size]? =some (.cells C e):=by
    show(w.heap.push _)[w.heap.size]? =_
    simp
   simp only[World.shape?,this]
  simp[Conv.stringToBytes,run_choose,Question.forced,<-z5,<-hC,newRow,markStringish,hsh]
 ·simp[World.freeze]
 ·intro b
  have h1:((w.drew.alloc (.cells C e)).heap)[b]? =if b=w.heap.size then some (.cells C e)else w.heap[b]? :=by
   show(w.heap.push _)[b]? =_
   rw[Array.getElem?_push]
  simp only[World.freeze,Nat.one_ne_zero,if_false]
  rw[Array.getElem?_modify,h1]
  by_cases hb:b=w.heap.size
  ·subst hb
   rw[if_pos rfl,if_pos rfl,if_pos rfl]
   rfl
  ·rw[if_neg hb,if_neg hb,if_neg (by show ¬ w.heap.size=b;omega)]
 ·intro j v hj
  unfold Hr at hj
  have hl:=(List.getElem?_eq_some_iff.1 hj).1
  rw[hC,Array.getElem?_append_left (by simpa using hl)]
  simpa using hj
theorem cZ.bytes(g:G)(w:World): ∀ (l:List UInt8),cZ g w (l.map fun b=>AV.int .u8 (.ofNat b.toNat)) (l.map fun b=>Value.int .u8 (.ofNat b.toNat))
 | []=>by simp[cZ]
 |b::l=>by
  simp only[List.map_cons,cZ]
  exact⟨_,_,rfl,by simp only[VR],cZ.bytes g w l⟩
theorem Hs{S D e:TypeId}{d:TypeDesc}{x:Operand}(ho:o.op=.convert S D x)(hS:P.underlying S=some d)(hD:P.underlying D=some (.slice e))(he:P.underlying e=some (.int .u8)):
 pP P o (rT (cx x)):=by
 intro g w nt t h a v h' H Tr ev
 unfold rT at ev
 split at ev
 ·rename_i s hx
  have hv:=cH x _ _ _ _ _ _ Tr hx
  simp only[VR]at hv
  cases ev
  obtain⟨hv,_⟩:=hv
  obtain⟨cap,w',C,el,hr,NL,hcC,h1,h2,h3,h4,h5,hc⟩:=KR (P:=P) w e s
  obtain⟨E,H'⟩:=EL H el h1 h2 h3 h4 h5 (cs:=yX (s.data.toList.map fun b=>.int .u8 (.ofNat b.toNat))) (vs:=Hr s) (by rw[lT];exact cZ.bytes g w s.data.toList) hc
  refine⟨_,w',.value (.slice (some ⟨w.heap.size,0,none⟩) s.size cap),_,?_,.inl rfl,E,H',?_⟩
  ·simp[execOp,ho,hv,convert,run_underlying hS,run_underlying hD,run_underlying he,hr]
  ·simp only[VR]
   refine .inr ⟨w.heap.size,0,cap,by simp[G.add],rfl,NL,?_⟩
   have:w'.heap[w.heap.size]? =some (.cells C el.el el.fz):=by rw[h5,if_pos rfl]
   rw[mY this]
   omega
 ·cases ev
theorem E6{g:G}{w:World}: ∀ {cs:List AV} {l:List Int} {vs:List Value},zO cs=some l->cZ g w cs vs->vs=l.map (Value.int .u8)
 | [],l,vs,e,hv=>by
  cases e
  simp only[cZ]at hv
  subst hv
  rfl
 |a::cs,l,vs,e,hv=>by
  simp only[cZ]at hv
  obtain⟨u,us,rfl,h1,h2⟩:=hv
  cases a with
  |int k n=>
   cases k with
   |u8=>
    change (match zO cs with|some r=>some (n::r)|none=>none)=some l at e
    split at e
    ·rename_i r hr
     cases e
     simp only[VR]at h1
     rw[h1,E6 hr h2]
     rfl
    ·cases e
   | _=>cases e
  | _=>cases e
theorem KS{S D e:TypeId}{x:Operand}(ho:o.op=.convert S D x)(hS:P.underlying S=some (.slice e))(he:P.underlying e=some (.int .u8))(hD:P.underlying D=some .string):
 ik P o (yz (cx x)):=by
 intro g w nt t h a v h' H Tr ev
 unfold yz at ev
 split at ev
 ·rename_i b hx
  have hv:=kU x _ _ _ _ _ _ Tr hx
  split at ev
  ·rename_i n cs hs
   split at ev
   ·rename_i l hl
    cases hn:Nat.beq (len l) n with
    |false=>rw[hn]at ev;cases ev
    |true=>
     rw[hn]at ev
     cases ev
     have hn:=Nat.eq_of_beq_eq_true hn
     rw[iq]at hn
     obtain⟨ad,c,hve,hc,hr⟩:=q9 H hv hs
     refine⟨rfl,.string (yy l),?_,by simp only[VR];exact⟨trivial,rfl⟩⟩
     have key:(convert S D (.slice ad n c)).run P w=.ok (.string (yy l)) w:=by
      rcases hr with rfl|⟨bk,s,vs,rfl,jE,qY⟩
      ·cases hl
       cases ad with
       |none=>exact run_convert_bytes_nil w S e hS he n c D hD
       |some ad=>
        have hn:0=n:=hn
        subst hn
        exact run_convert_bytes_back w S D e ad c [] hS he hD (fun j hj=>absurd hj (Nat.not_lt_zero j))
      ·refine run_convert_bytes_arg w S e hS he bk s n c l hn (fun i hi=>?_) D hD
       have hvl:=E6 hl jE
       subst hvl
       refine qY i _ ?_
       rw[List.getElem?_map,List.getElem?_eq_getElem (by omega),List.getD_eq_getElem?_getD,List.getElem?_eq_getElem (by omega)]
       rfl
     simp[execOp,ho,hve,key]
   ·cases ev
  ·cases ev
 ·cases ev
theorem KT{D e:TypeId}{x:Operand}(ho:o.op=.convert D D x)(hD:P.underlying D=some (.slice e))(he:P.underlying e=some (.int .u8)):pP P o (uS (cx x)):=by
 intro g w nt t h a v h' H Tr ev
 unfold uS at ev
 split at ev
 ·rename_i id off n sz hx
  have hv:=cH x _ _ _ _ _ _ Tr hx
  have um:=hv
  cases hn:Nat.beq n 0 with
  |true=>rw[hn]at ev;cases ev
  |false=>
  rw[hn]at ev
  simp only[cond_false]at ev
  split at ev
  ·rename_i cs hg
   cases ev
   simp only[VR]at hv
   rcases hv with⟨rfl,_⟩|⟨b,s,cap,hm,hv,hc,_⟩
   ·cases hn
   obtain⟨C,el,vs,hw,hi,jE,UA⟩:=H.row hg hm
   have hsh:w.shape? b=some (el.el,C.size):=by simp only[World.shape?,hw]
   have hok:=el.ok'
   obtain⟨E,H'⟩:=NK H (w':=w.freeze {block:=b,off:=C.size} 1) (el:=el) (el':=⟨el.el,if el.fz.1 == el.fz.2 then(C.size,C.size+1)else(min el.fz.1 C.size,max el.fz.2 (C.size+1)),by
    by_cases h0:el.fz.1=el.fz.2
    ·simp[h0]
    ·simp only[beq_iff_eq,h0,if_false]
     right
     show C.size<=min el.fz.1 C.size
     omega⟩) hg hm hw rfl rfl rfl (by simp[World.freeze]) (fun k=>by
    simp only[World.freeze,Nat.one_ne_zero,if_false]
    rw[Array.getElem?_modify]
    by_cases hk:k=b
    ·subst hk
     rw[if_pos rfl,if_pos rfl,hw]
     rfl
    ·rw[if_neg hk,if_neg (fun q=>hk q.symm)])
   refine⟨g,_,.value (a.eval x),a.eval x,?_,.inl rfl,E,H',VR.mono H E _ _ um⟩
   rw[hv]
   simp[execOp,ho,hv,convert,run_underlying hD,run_underlying he,markStringish,hsh]
  ·cases ev
 ·cases ev
omit [Io] in
theorem C8{P:Program}(t:TypeId)(w:World):(Instr.makeMap t none).run P w=.ok (.map (some w.heap.size)) (w.alloc (.map #[] 0)):=rfl
theorem NN{T:TypeId}(ho:o.op=.makeMap T none):pP P o KC:=by
 intro g w nt t h a v h' H Tr ev
 cases ev
 obtain⟨E,H'⟩:=UD H (w':=w.alloc (.map #[] 0)) rfl rfl rfl (by show(w.heap.push _).size=_;rw[Array.size_push]) (fun b hb=>by
  show(w.heap.push _)[b]? =_
  rw[Array.getElem?_push,if_neg (by omega)])
 exact⟨_,_,.value (.map (some w.heap.size)),_,by simp[execOp,ho,C8],.inl rfl,E,H',by simp only[VR];rfl⟩
end
end Go.Ab

noncomputable section
namespace Go.Ab
variable [Io]
section
variable {P:Program}
theorem km{op:BinOp}{T:TypeId}{f s:AV->AV->Option AV}(hf:iL P op T f)
 (hs: ∀ (a b r:AV),s a b=some r->(∀ (g:G) (w:World) (u v:Value),VR g w a u->VR g w b v-> ∃ k m k' n r0,u=.int k m/\v=.int k' n/\f (.int k m) (.int k' n)=some r0/\ ∀ z,VR g w r0 z->VR g w r z)):
 iL P op T (yw f s):=by
 intro g w a b r u v ha hb h
 unfold yw at h
 cases hr:f a b with
 |some r'=>
  rw[hr]at h
  cases h
  exact hf g w a b r u v ha hb hr
 |none=>
  rw[hr]at h
  obtain⟨k,m,k',n,r0,rfl,rfl,h1,h2⟩:=hs a b r h g w u v ha hb
  obtain⟨z,hz,hv,hg⟩:=hf g w (.int k m) (.int k' n) r0 (.int k m) (.int k' n) (by simp only[VR]) (by simp only[VR]) h1
  exact⟨z,hz,h2 z hv,hg⟩
def ali(f s:AV->AV->Option AV):Prop:= ∀ (a b r:AV),s a b=some r->(∀ (g:G) (w:World) (u v:Value),VR g w a u->VR g w b v-> ∃ k m k' n r0,u=.int k m/\v=.int k' n/\f (.int k m) (.int k' n)=some r0/\ ∀ z,VR g w r0 z->VR g w r z)
theorem oS{f:AV->AV->Option AV}:ali f Ey:=by
 intro a b r h
 cases h
omit [Io] in
theorem ajQ{a b:Int}:oD a b=true↔a<b:=by rw[mr];simp
omit [Io] in
theorem UE{a b:Int}:oD a b=false↔b<=a:=by rw[mr];simp
omit [Io] in
theorem ko{a b:Int}:eqI a b=true↔a=b:=by rw[xr];simp
omit [Io] in
theorem ajR(m n:Int):eqI m n=decide (m=n):=by
 by_cases e:m=n
 ·rw[ko.2 e];simp[e]
 ·rw[show eqI m n=false from by rw[Bool.eq_false_iff];exact fun h=>e (ko.1 h)];simp[e]
omit [Io] in
theorem E7{l:List Nat}: ∀ {m:List Nat},xl l m=true↔l=m:=by
 induction l with
 |nil=>intro m;cases m<;>simp[xl]
 |cons a l ih=>
  intro m
  cases m with
  |nil=>simp[xl]
  |cons b m=>
   show(bif Nat.beq a b then xl l m else false)=true↔_
   cases e:Nat.beq a b with
   |true=>
    rw[Nat.eq_of_beq_eq_true e]
    show xl l m=true↔_
    rw[ih];simp
   |false=>
    have:a≠b:=fun e'=>by subst e';rw[Nat.beq_refl]at e;cases e
    simp[this]
omit [Io] in
theorem KU{a b:SV}(h:qU a b=true):a=b:=by
 cases a<;>cases b<;>simp[qU,ko,E7]at h<;>simp[h]
omit [Io] in
theorem NO{a:SV}: ∀ {b:SV},G8 a b=true->a=b:=by
 induction a with
 |tm f k k' a oa b ob vi zF=>
  intro y h
  cases y with
  |tm f2 k2 k2' a2 oa2 b2 ob2=>
   change (Nat.beq f f2&&(mK k k2&&(mK k' k2'&&(eqI oa oa2&&(eqI ob ob2&&(G8 a a2&&G8 b b2))))))=true at h
   simp only[Bool.and_eq_true]at h
   obtain⟨h1,h2,h3,h4,h5,h6,h7⟩:=h
   rw[Nat.eq_of_beq_eq_true h1,jK.1 h2,jK.1 h3,ko.1 h4,ko.1 h5,vi h6,zF h7]
  | _=>cases h
 |ix l a o vi=>
  intro y h
  cases y with
  |ix l2 a2 o2=>
   change (xl l l2&&(eqI o o2&&G8 a a2))=true at h
   simp only[Bool.and_eq_true]at h
   obtain⟨h1,h2,h3⟩:=h
   rw[E7.1 h1,ko.1 h2,vi h3]
  | _=>cases h
 | _=>intro y h;exact KU h
omit [Io] in
theorem agf{f:IntKind->Int->Int->Option AV}{k:IntKind}{m n:Int}:qg f (.int k m) (.int k n)=f k m n:=by
 unfold qg
 simp only[jK.2 rfl,cond_true]
omit [Io] in
theorem iu{α:Type}{b:Bool}{x:Option α}{r:α}(h:(bif b then x else none)=some r):b=true/\x=some r:=by
 cases b
 ·cases h
 ·exact⟨rfl,h⟩
theorem aaG{a b:AV}{c:Bool}(h:Kz a b=some c){g:G}{w:World}{u v:Value}(ha:VR g w a u)(hb:VR g w b v): ∃ k m n,u=.int k m/\v=.int k n/\c=decide (m=n):=by cases h
theorem NP{a b:AV}{c:Bool}(h:Nc a b=some c){g:G}{w:World}{u v:Value}(ha:VR g w a u)(hb:VR g w b v): ∃ k m n,u=.int k m/\v=.int k n/\c=decide (m<n):=by cases h
theorem NQ(T:TypeId):iL P .add T qi:=km (T5 T) oS
theorem NR(T:TypeId):iL P .sub T oe:=km (T6 T) oS
theorem NS(T:TypeId):iL P .and T ya:=km (Uj T) oS
theorem NT(T:TypeId):iL P .or T zG:=km (aaw T) oS
theorem NU(T:TypeId):iL P .xor T EG:=km (Uk T) oS
theorem NV(T:TypeId):iL P .shl T uQ:=km (Ul T) oS
theorem NW(T:TypeId):iL P .shr T vR:=km (Um T) oS
theorem NX(T:TypeId):iL P .lss T sM:=km (Ua T) oS
theorem NY(T:TypeId):iL P .gtr T tc:=km (Ub T) oS
theorem NZ(T:TypeId):iL P .leq T xZ:=km (Uc T) oS
theorem N2(T:TypeId):iL P .geq T nK:=km (Ud T) oS
theorem N3(T:TypeId):iL P .rem T vQ:=km (T9 T) oS
theorem N4(T:TypeId):iL P .quo T oO:=km (T8 T) oS
theorem N5(T:TypeId):iL P .mul T sL:=km (T7 T) oS
theorem N6(T:TypeId):iL P .eql T (yb false):=km (Ue T) oS
theorem N7(T:TypeId):iL P .neq T (yb true):=km (Uf T) oS
theorem UG{k:IntKind}{b v:AV}{g:G}{w:World}{u:Value}(hf:zL k b=some v)(hv:VR g w b u): ∃ k' m r0,u=.int k' m/\Nd k (.int k' m)=some r0/\ ∀ z,VR g w r0 z->VR g w v z:=by
 unfold zL afX at hf
 cases hr:Nd k b with
 |some r=>
  rw[hr]at hf
  cases hf
  unfold Nd at hr
  split at hr
  ·cases hr
   simp only[VR]at hv
   exact⟨_,_,_,hv,rfl,fun z h=>h⟩
  ·cases hr
 |none=>
  rw[hr]at hf
  cases hf
theorem Ht{o:Oper}{S D:TypeId}{d:TypeDesc}{k:IntKind}{x:Operand}(ho:o.op=.convert S D x)(hS:P.underlying S=some d)(hD:P.underlying D=some (.int k)):
 ik P o (EH (zL k) (cx x)):=by
 intro g w nt t h a v h' H Tr e
 obtain⟨b,hb,hf,rfl⟩:=v7 e
 have hv:=cH x _ _ _ _ _ _ Tr hb
 obtain⟨k',m,r0,um,hr,hz⟩:=UG hf hv
 cases hr
 exact⟨rfl,.int k (k.wrap m),by simp[execOp,ho,um,convert,run_underlying hS,run_underlying hD,Conv.intToInt],hz _ (by simp only[VR,oh])⟩
theorem N8{x y:Operand}{vn:Array TypeId}{o:Oper}(ho:o.op=.call {callee:=.builtin .min,args:= #[x,y],argTypes:=vn}):ik P o (Bx (cx x) (cx y)):=by
 intro g w nt t h a v h' H Tr e
 unfold Bx sZ at e
 cases hx:cx x t with
 |none=>rw[hx]at e;cases e
 |some ax=>
  cases hy:cx y t with
  |none=>rw[hx,hy]at e;cases e
  |some ay=>
   rw[hx,hy]at e
   have h3:=cH x _ _ _ _ _ _ Tr hx
   have h4:=cH y _ _ _ _ _ _ Tr hy
   unfold yw at e
   cases hr:qg (fun k a b=>some (.int k (bif oD b a then b else a))) ax ay with
   |some r=>
    simp only[hr]at e
    cases e
    obtain⟨k,m,n,rfl,rfl,h2⟩:=xt hr
    cases h2
    simp only[VR]at h3 h4
    refine⟨rfl,.int k (if n<m then n else m),by simp[execOp,ho,resolve,invoke,builtin,Builtin.min_,Builtin.min2,h3,h4],?_⟩
    simp only[VR,mr]
    by_cases kC:n<m<;>simp[kC]
   |none=>
    simp only[hr]at e
    cases hl:Nc ay ax with
    |none=>rw[hl]at e;cases e
    |some c=>
     rw[hl]at e
     cases e
     obtain⟨k,p,q,e1,e2,rfl⟩:=NP hl h4 h3
     have hex:(execOp a.eval o).run P w=.ok (.value (.int k (if p<q then p else q))) w:=by
      simp[execOp,ho,resolve,invoke,builtin,Builtin.min_,Builtin.min2,e1,e2]
     refine⟨rfl,_,hex,?_⟩
     by_cases kC:p<q
     ·simp only[kC,decide_true,cond_true,if_true,gt_iff_lt]
      rw[e1]at h4
      exact h4
     ·simp only[kC,decide_false,cond_false,if_false,gt_iff_lt]
      rw[e2]at h3
      exact h3
theorem N9{x y:Operand}{vn:Array TypeId}{o:Oper}(ho:o.op=.call {callee:=.builtin .max,args:= #[x,y],argTypes:=vn}):ik P o (Bz (cx x) (cx y)):=by
 intro g w nt t h a v h' H Tr e
 unfold Bz sZ at e
 cases hx:cx x t with
 |none=>rw[hx]at e;cases e
 |some ax=>
  cases hy:cx y t with
  |none=>rw[hx,hy]at e;cases e
  |some ay=>
   rw[hx,hy]at e
   have h3:=cH x _ _ _ _ _ _ Tr hx
   have h4:=cH y _ _ _ _ _ _ Tr hy
   unfold yw at e
   cases hr:qg (fun k a b=>some (.int k (bif oD a b then b else a))) ax ay with
   |some r=>
    simp only[hr]at e
    cases e
    obtain⟨k,m,n,rfl,rfl,h2⟩:=xt hr
    cases h2
    simp only[VR]at h3 h4
    refine⟨rfl,.int k (if n>m then n else m),by simp[execOp,ho,resolve,invoke,builtin,Builtin.max_,Builtin.max2,h3,h4],?_⟩
    simp only[VR,mr]
    by_cases kC:m<n<;>simp[kC]
   |none=>
    simp only[hr]at e
    cases hl:Nc ax ay with
    |none=>rw[hl]at e;cases e
    |some c=>
     rw[hl]at e
     cases e
     obtain⟨k,p,q,e1,e2,rfl⟩:=NP hl h3 h4
     have hex:(execOp a.eval o).run P w=.ok (.value (.int k (if q>p then q else p))) w:=by
      simp[execOp,ho,resolve,invoke,builtin,Builtin.max_,Builtin.max2,e1,e2]
     refine⟨rfl,_,hex,?_⟩
     by_cases kC:p<q
     ·simp only[kC,decide_true,cond_true,if_true,gt_iff_lt]
      rw[e2]at h4
      exact h4
     ·simp only[kC,decide_false,cond_false,if_false,gt_iff_lt]
      rw[e1]at h3
      exact h3
end
end Go.Ab

noncomputable section
namespace Go.Ab
variable [Io]
section
variable {P:Program}
def scalars(P:Program)(n:Nat)(l:List Field):Option (List Bool):=
 List.rec (fun _=>some []) (fun f _ ih n=>bif Nat.beq f.offset n&& !(decide (f.name= "_"))then
  (match P.info? f.type with
  |some i=>bif Nat.beq i.size 1 then
   (match P.underlying f.type with
   |some (.int _)=>(match ih (Nat.add n 1)with|some r=>some (true::r)|none=>none)
   |some .bool=>(match ih (Nat.add n 1)with|some r=>some (false::r)|none=>none)
   | _=>none)else none
  |none=>none)else none) l n
theorem Oa{i:Bool}{x y:AV}{c:Bool}(h:YT i x y=some c){g:G}{w:World}{u v:Value}(hx:VR g w x u)(hy:VR g w y v){T:TypeId}{d:Nat}
 (hT:(i=true/\ ∃ k,P.underlying T=some (.int k))∨(i=false/\P.underlying T=some .bool)):(Op.equalIn (d+1) T u v).run P w=.ok c w:=by
 rcases hT with⟨rfl,k,hT⟩|⟨rfl,hT⟩
 ·change (match(generalizing:=false) x,y with| .int k a,.int k' b=>bif mK k k' then some (eqI a b)else none| _,_=>Kz x y)=some c at h
  split at h
  ·rename_i k1 a k2 b
   cases e:mK k1 k2 with
   |false=>rw[e]at h;cases h
   |true=>
    rw[e]at h
    cases h
    obtain rfl:=jK.1 e
    simp only[VR]at hx hy
    subst hx;subst hy
    rw[run_equalIn_int w d T k1 k a b hT,xr]
  ·obtain⟨k1,m,n,rfl,rfl,rfl⟩:=aaG h hx hy
   rw[run_equalIn_int w d T k1 k m n hT]
   congr 1
 ·change (match(generalizing:=false) x,y with| .bool a,.bool b=>some (!(xor a b))| _,_=>none)=some c at h
  split at h
  ·rename_i a b
   cases h
   simp only[VR]at hx hy
   subst hx;subst hy
   rw[run_equalIn_bool' w d T a b hT]
   cases a<;>cases b<;>rfl
  ·cases h
omit [Io] in
theorem wb{T:TypeId}{td:TypeDesc}{i:TypeInfo}{vs:Array Value}{n:Nat}{v:Value}{w:World}(hd:P.underlying T=some td)(ha:nu td=false)(hv:vs[n]? =some v):
 (Go.part T vs n).run P w=.ok v w:=by
 unfold Go.part
 simp only[Sem.run_bind,qX hd,ha,Result.andThen_ok]
 simp[hv]
theorem yg{g:G}{w:World}(d:Nat): ∀ (fs:List Field) (n:Nat) (l:List Bool) (xs ys:List AV) (us vs:Array Value) (c:Bool),scalars P n fs=some l->Bu l xs ys=some c->
 cZ g w xs (us.toList.drop n)->cZ g w ys (vs.toList.drop n)->(Op.eqFields (d+1) us vs fs).run P w=.ok c w
 | [],n,l,xs,ys,us,vs,c,hs,e,hx,hy=>by
  cases hs
  cases e
  simp[Op.eqFields]
 |f::fs,n,l,xs,ys,us,vs,c,hs,e,hx,hy=>by
  change (bif Nat.beq f.offset n&& !(decide (f.name= "_"))then
   (match P.info? f.type with
   |some i=>bif Nat.beq i.size 1 then
    (match P.underlying f.type with
    |some (.int _)=>(match scalars P (n+1) fs with|some r=>some (true::r)|none=>none)
    |some .bool=>(match scalars P (n+1) fs with|some r=>some (false::r)|none=>none)
    | _=>none)else none
   |none=>none)else none)=some l at hs
  replace hs:=iu hs
  obtain⟨h0,hs⟩:=hs
  rw[Bool.and_eq_true]at h0
  have agh:f.offset=n:=Nat.eq_of_beq_eq_true h0.1
  have agi:f.name≠ "_" :=by simpa using h0.2
  split at hs
  ·replace hs:=iu hs
   obtain⟨_,hs⟩:=hs
   have key: ∀ (i:Bool) (r:List Bool) (td:TypeDesc),P.underlying f.type=some td->nu td=false->scalars P (n+1) fs=some r->l=i::r->
    ((i=true/\ ∃ k,P.underlying f.type=some (.int k))∨(i=false/\P.underlying f.type=some .bool))->(Op.eqFields (d+1) us vs (f::fs)).run P w=.ok c w:=by
    intro i r td htd agj hr hl hT
    subst hl
    change (match(generalizing:=false) xs with
     | []=>none
     |x::xs=>match(generalizing:=false) ys with
      | []=>none
      |y::ys=>match YT i x y with
       |none=>none
       |some c=>(Bool.rec (some false) (Bu r xs ys) c:Option Bool))=some c at e
    cases xs with
    |nil=>cases e
    |cons x xs=>
    cases ys with
    |nil=>cases e
    |cons y ys=>
    simp only at e
    cases h1:YT i x y with
    |none=>rw[h1]at e;cases e
    |some c1=>
    rw[h1]at e
    simp only[cZ]at hx hy
    obtain⟨u,us',hu,hxu,UH⟩:=hx
    obtain⟨v,vs',hv,UI,hys⟩:=hy
    have hu0:us[n]? =some u:=by
     have:(us.toList.drop n)[0]? =some u:=by rw[hu];rfl
     simpa using this
    have hv0:vs[n]? =some v:=by
     have:(vs.toList.drop n)[0]? =some v:=by rw[hv];rfl
     simpa using this
    have hu1:us.toList.drop (n+1)=us':=by rw[<-List.drop_drop,hu];rfl
    have hv1:vs.toList.drop (n+1)=vs':=by rw[<-List.drop_drop,hv];rfl
    have pu:(Go.part f.type us f.offset).run P w=.ok u w:=by rw[agh];exact wb (i:=default) htd agj hu0
    have pv:(Go.part f.type vs f.offset).run P w=.ok v w:=by rw[agh];exact wb (i:=default) htd agj hv0
    simp only[Op.eqFields,if_pos agi,Sem.run_bind,pu,pv,Result.andThen_ok,Oa (P:=P) (d:=d) h1 hxu UI hT]
    cases c1 with
    |false=>cases e;simp
    |true=>
     simp only[Bool.not_true,Bool.false_eq_true,if_false]
     exact yg d fs (n+1) r xs ys us vs c hr e (by rw[hu1];exact UH) (by rw[hv1];exact hys)
   split at hs
   ·rename_i k hT
    split at hs
    ·rename_i r hr;cases hs;exact key true r _ hT rfl hr rfl (.inl ⟨rfl,_,hT⟩)
    ·cases hs
   ·rename_i hT
    split at hs
    ·rename_i r hr;cases hs;exact key false r _ hT rfl hr rfl (.inr ⟨rfl,hT⟩)
    ·cases hs
   ·cases hs
  ·cases hs
omit [Io] in
theorem xy{neg:Bool}{l:List Bool}{x y r:AV}(h:Bv neg l x y=some r): ∃ xs ys c,x=.agg xs/\y=.agg ys/\Bu l xs ys=some c/\r=.bool (bif neg then !c else c):=by
 unfold Bv at h
 split at h
 ·rename_i xs
  split at h
  ·rename_i ys
   split at h
   ·rename_i c hc
    cases h
    exact⟨xs,ys,c,rfl,rfl,hc,rfl⟩
   ·cases h
  ·cases h
 ·cases h
theorem Jh{T:TypeId}{fs:Array Field}{l:List Bool}(hT:P.underlying T=some (.struct fs))(hs:P.stoodInHeld T=false)(hl:scalars P 0 fs.toList=some l){g:G}{w:World}
 {xs ys:List AV}{c:Bool}(hc:Bu l xs ys=some c){us vs:Array Value}(hx:cZ g w xs us.toList)(hy:cZ g w ys vs.toList):(Op.equalIn 10000 T (.agg us) (.agg vs)).run P w=.ok c w:=by
 have hf:P.fieldsOf T=fs:=by unfold Program.fieldsOf;rw[hT]
 refine(run_equalIn_struct w 9999 T us vs (by rw[hf];exact hT) hs).trans ?_
 rw[hf]
 exact yg 9998 fs.toList 0 l xs ys us vs c hl hc (by simpa using hx) (by simpa using hy)
theorem UJ{T:TypeId}{fs:Array Field}{l:List Bool}(hT:P.underlying T=some (.struct fs))(hs:P.stoodInHeld T=false)(hg:P.eqGuardType P.depth T=false)(hl:scalars P 0 fs.toList=some l):
 iL P .eql T (Bv false l):=by
 intro g w a b r u v ha hb h
 obtain⟨xs,ys,c,rfl,rfl,hc,rfl⟩:=xy h
 simp only[VR]at ha hb
 obtain⟨us,rfl,hx⟩:=ha
 obtain⟨vs,rfl,hy⟩:=hb
 refine⟨.bool c,?_,by simp only[VR];rfl,fun x y=>run_eqGuard_agg w .eql T x y us vs hg⟩
 rw[run_eql_struct,Jh hT hs hl hc hx hy]
 rfl
theorem UK{T:TypeId}{fs:Array Field}{l:List Bool}(hT:P.underlying T=some (.struct fs))(hs:P.stoodInHeld T=false)(hg:P.eqGuardType P.depth T=false)(hl:scalars P 0 fs.toList=some l):
 iL P .neq T (Bv true l):=by
 intro g w a b r u v ha hb h
 obtain⟨xs,ys,c,rfl,rfl,hc,rfl⟩:=xy h
 simp only[VR]at ha hb
 obtain⟨us,rfl,hx⟩:=ha
 obtain⟨vs,rfl,hy⟩:=hb
 refine⟨.bool (!c),?_,by simp only[VR];rfl,fun x y=>run_eqGuard_agg w .neq T x y us vs hg⟩
 rw[run_neq_struct,Jh hT hs hl hc hx hy]
 rfl
theorem Cd{T e:TypeId}{n:Nat}{k:IntKind}(ht:P.underlying T=some (.array n e))(he:P.underlying e=some (.int k))(sP: ∀ w,(sizeOf e).run P w=.ok 1 w){g:G}{w:World}{xs ys:List AV}{c:Bool}(hc:Bu (List.replicate n true) xs ys=some c){us vs:Array Value}(hx:cZ g w xs us.toList)(hy:cZ g w ys vs.toList):
 (Op.equalIn 10000 T (.agg us) (.agg vs)).run P w=.ok c w:=by
 rw[show(10000:Nat)=9998+2 from rfl,Op.equalIn]
 simp only[Sem.run_bind,run_underlying ht,Result.andThen_ok,sP,Std.Legacy.Range.forIn_eq_forIn_range',Std.Legacy.Range.size,Nat.sub_zero,Nat.add_sub_cancel,Nat.div_one]
 rw[<-List.drop_zero (l:=us.toList)]at hx
 rw[<-List.drop_zero (l:=vs.toList)]at hy
 clear ht
 revert hx hy hc
 generalize 0=a
 induction n generalizing a xs ys with
 |zero=>
  intro hc hx hy
  cases hc
  simp
 |succ n ih=>
  intro hc hx hy
  rw[List.replicate_succ]at hc
  change (match(generalizing:=false) xs with
   | []=>none
   |x::xs=>match(generalizing:=false) ys with
    | []=>none
    |y::ys=>match YT true x y with
     |none=>none
     |some c=>(Bool.rec (some false) (Bu (List.replicate n true) xs ys) c:Option Bool))=some c at hc
  cases xs with
  |nil=>cases hc
  |cons x xs=>
  cases ys with
  |nil=>cases hc
  |cons y ys=>
  simp only at hc
  cases h1:YT true x y with
  |none=>rw[h1]at hc;cases hc
  |some c1=>
  rw[h1]at hc
  simp only[cZ]at hx hy
  obtain⟨u,us',hu,hxu,UH⟩:=hx
  obtain⟨v,vs',hv,UI,hys⟩:=hy
  have hu0:us[a]? =some u:=by
   have:(us.toList.drop a)[0]? =some u:=by rw[hu];rfl
   simpa using this
  have hv0:vs[a]? =some v:=by
   have:(vs.toList.drop a)[0]? =some v:=by rw[hv];rfl
   simpa using this
  have hu1:us.toList.drop (a+1)=us':=by rw[<-List.drop_drop,hu];rfl
  have hv1:vs.toList.drop (a+1)=vs':=by rw[<-List.drop_drop,hv];rfl
  have pu:(Go.part e us (a*1)).run P w=.ok u w:=by rw[Nat.mul_one];exact wb (i:=default) he rfl hu0
  have pv:(Go.part e vs (a*1)).run P w=.ok v w:=by rw[Nat.mul_one];exact wb (i:=default) he rfl hv0
  rw[List.range'_succ]
  simp only[List.forIn_cons,Sem.run_bind,pu,pv,Result.andThen_ok,Oa (P:=P) (d:=9998) h1 hxu UI (.inl ⟨rfl,k,he⟩)]
  cases c1 with
  |false=>cases hc;simp
  |true=>
   simp only[Bool.not_true,Bool.false_eq_true,if_false,Sem.run_pure,Result.andThen_ok]
   exact ih (a+1) hc (by rw[hu1];exact UH) (by rw[hv1];exact hys)
theorem Ji{T e:TypeId}{n:Nat}{k:IntKind}{i:TypeInfo}(ht:P.underlying T=some (.array n e))(hg:P.eqGuardType P.depth T=false)(hi:P.info? e=some i)(hs:i.size=1)(he:P.underlying e=some (.int k)):iL P .eql T (Bv false (List.replicate n true))/\iL P .neq T (Bv true (List.replicate n true)):=by
 have sP: ∀ w,(sizeOf e).run P w=.ok 1 w:=fun w=>by simp[sizeOf,typeInfo,hi,hs]
 refine⟨?_,?_⟩<;>
 ·intro g w a b r u v ha hb h
  obtain⟨xs,ys,c,rfl,rfl,hc,rfl⟩:=xy h
  simp only[VR]at ha hb
  obtain⟨us,rfl,hx⟩:=ha
  obtain⟨vs,rfl,hy⟩:=hb
  refine⟨_,?_,by simp only[VR];rfl,fun x y=>run_eqGuard_agg w _ T x y us vs hg⟩
  first
   |(rw[run_eql_struct,Cd ht he sP hc hx hy];rfl)
   |(rw[run_neq_struct,Cd ht he sP hc hx hy];rfl)
def E8(P:Program)(neg:Bool)(T:TypeId):Option (AV->AV->Option AV):=match P.underlying T with
 |some (.struct fs)=>match P.stoodInHeld T with
  |false=>match P.eqGuardType P.depth T with
   |false=>match scalars P 0 fs.toList with
    |some l=>some (Bv neg l)
    |none=>none
   |true=>none
  |true=>none
 |some (.array n e)=>match P.eqGuardType P.depth T with
  |false=>match P.info? e with
   |some i=>match Nat.beq i.size 1 with
    |true=>match P.underlying e with
     |some (.int _)=>some (Bv neg (List.replicate n true))
     | _=>none
    |false=>none
   |none=>none
  |true=>none
 | _=>none
theorem Jj{T:TypeId}{f:AV->AV->Option AV}{neg:Bool}(h:E8 P neg T=some f):iL P (match neg with|true=>.neq|false=>.eql) T f:=by
 unfold E8 at h
 split at h
 ·rename_i fs hT
  split at h
  ·rename_i hs
   split at h
   ·rename_i hg
    split at h
    ·rename_i l hl
     cases h
     cases neg
     ·exact UJ hT hs hg hl
     ·exact UK hT hs hg hl
    ·cases h
   ·cases h
  ·cases h
 ·rename_i n e hT
  split at h
  ·rename_i hg
   split at h
   ·rename_i i hi
    split at h
    ·rename_i hs
     split at h
     ·rename_i k he
      cases h
      cases neg
      ·exact(Ji hT hg hi (Nat.eq_of_beq_eq_true hs) he).1
      ·exact(Ji hT hg hi (Nat.eq_of_beq_eq_true hs) he).2
     ·cases h
    ·cases h
   ·cases h
  ·cases h
 ·cases h
theorem Jk{T:TypeId}{f:AV->AV->Option AV}(h:E8 P false T=some f):iL P .eql T f:=Jj h
theorem Jl{T:TypeId}{f:AV->AV->Option AV}(h:E8 P true T=some f):iL P .neq T f:=Jj h
end
end Go.Ab

noncomputable section
namespace Go.Ab
variable [Io]
section
variable {P:Program}{o:Oper}
omit [Io] in
theorem run_copy_none(w:World)(dT sT ty elem:TypeId)(i:TypeInfo)(hu:P.underlying dT=some (.slice elem))(hi:P.info? elem=some i)(d x:Option Addr)(KV aaI iJ jx:Nat)(hn:Nat.min iJ KV=0):
 (Builtin.copy_ #[dT,sT] ty #[.slice d KV aaI,.slice x iJ jx]).run P w=.ok (.int .i64 (Int.ofNat 0)) w:=by
 have hl: ∀ a:Addr,(loadCells a 0).run P w=.ok #[] w:=fun a=>run_loadCells_list (P:=P) w a [] (by simp)
 cases d<;>cases x<;>simp[Builtin.copy_,run_underlying hu,Builtin.lenOf,Builtin.firstCells,sizeOf,typeInfo,hi,hn,hl,storeCells,goInt]
omit [Io] in
theorem BE(w:World)(dT sT ty elem:TypeId)(i:TypeInfo)(hu:P.underlying dT=some (.slice elem))(hi:P.info? elem=some i)(g o KV aaI:Nat)(a:Addr)(iJ jx:Nat)(cur:Array Value)(t:FT cur)(cs:List Value)
 (hg:w.heap[g]? =some (.cells cur t.el t.fz))(hn:cs.length=Nat.min iJ KV*i.size)(alo: ∀ j v,cs[j]? =some v->w.cell? (a.add j)=some v)(vm:o+cs.length<=cur.size)(h1: ∀ v∈cs,v.oneCell'=true):
 (Builtin.copy_ #[dT,sT] ty #[.slice (some ⟨g,o,none⟩) KV aaI,.slice (some a) iJ jx]).run P w=
  .ok (.int .i64 (Int.ofNat (Nat.min iJ KV))) (w.setRow g (cur.toList.take o++cs++cur.toList.drop (o+cs.length)).toArray):=by
 have hl:=run_loadCells_list (P:=P) w a cs alo
 have zc:=jA P g o t.el t.fz cs 0 cur w hg t.ok (by simpa using vm) h1
 simp[Builtin.copy_,run_underlying hu,Builtin.lenOf,Builtin.firstCells,sizeOf,typeInfo,hi,<-hn,hl,zc,goInt]
def Jm(P:Program)(T:TypeId)(d s:Operand):jC:=match P.underlying T with
 |some (.slice e)=>match P.info? e with
  |some i=>oQ i.size (wO (cx d)) (wO (cx s))
  |none=>iw
 | _=>iw
theorem KW{T T':TypeId}{d s:Operand}(ho:o.op=.call {callee:=.builtin .copy,args:= #[d,s],argTypes:= #[T,T']}):pP P o (Jm P T d s):=by
 intro g w nt t h a v h' H Tr e
 unfold Jm at e
 cases hu:P.underlying T with
 |none=>rw[hu]at e;cases e
 |some dd=>
 rw[hu]at e
 cases dd<;>try (cases e;done)
 rename_i el
 simp only at e
 cases hi:P.info? el with
 |none=>rw[hi]at e;cases e
 |some i=>
  rw[hi]at e
  change oQ i.size (wO (cx d)) (wO (cx s)) t h=.ok v h' at e
  have hex: ∀ vd vs r w',a.eval d=vd->a.eval s=vs->(Builtin.copy_ #[T,T'] o.type #[vd,vs]).run P w=.ok r w'->(execOp a.eval o).run P w=.ok (.value r) w':=by
   intro vd vs r w' h1 h2 h3
   unfold execOp
   simp only[ho,resolve,invoke,builtin,Sem.run_bind,Sem.run_pure,Result.andThen_ok,List.map_toArray,List.map_cons,List.map_nil,h1,h2,h3]
  unfold oQ at e
  split at e
  ·rename_i hd
   split at e
   ·rename_i xv hs
    split at e
    ·rename_i p hsc
     cases e
     have hvd:=kU d _ _ _ _ _ _ Tr hd
     have jE:=kU s _ _ _ _ _ _ Tr hs
     simp only[VR]at hvd
     obtain⟨b,Y2⟩:=hvd
     obtain⟨n,cs⟩:=p
     obtain⟨xa,xc,UC,hxc,BC⟩:=oL H jE hsc
     exact⟨g,w,_,_,hex _ _ _ _ Y2 UC (run_copy_none w T T' o.type el i hu hi _ _ _ _ _ _ (Nat.min_zero _)),.inl rfl,Ext.refl _ _ _,H,by simp only[VR]⟩
    ·cases e
   ·cases e
  ·rename_i id off n sz hd
   split at e
   ·rename_i xv hs
    split at e
    ·rename_i m src hsc
     have hvd:=kU d _ _ _ _ _ _ Tr hd
     have jE:=kU s _ _ _ _ _ _ Tr hs
     obtain⟨xa,xc,UC,hxc,BC⟩:=oL H jE hsc
     simp only[VR]at hvd
     rw[vZ]at e
     cases hk:Nat.beq (min m n) 0 with
     |true=>
      rw[hk]at e
      cases e
      have hk0:Nat.min m n=0:=Nat.eq_of_beq_eq_true hk
      rcases hvd with⟨rfl,b,Y2⟩|⟨b,s',cap,hm,Y2,z5,_⟩
      ·exact⟨g,w,_,_,hex _ _ _ _ Y2 UC (run_copy_none w T T' o.type el i hu hi _ _ _ _ _ _ hk0),.inl rfl,Ext.refl _ _ _,H,by simp only[VR]⟩
      ·exact⟨g,w,_,_,hex _ _ _ _ Y2 UC (run_copy_none w T T' o.type el i hu hi _ _ _ _ _ _ hk0),.inl rfl,Ext.refl _ _ _,H,by simp only[VR]⟩
     |false=>
      rw[hk]at e
      have hk0:min m n≠0:=fun k=>by rw[k]at hk;cases hk
      simp only[cond_false]at e
      split at e
      ·rename_i cs hg
       cases hb:((Nat.blt 0 i.size&&(Nat.beq sz i.size&&(Nat.beq (len src) (Nat.mul m i.size)&&iD ji src)))&&Nat.ble (Nat.add off (Nat.mul (min m n) i.size)) cs.n)with
       |false=>rw[hb]at e;cases e
       |true=>
        rw[hb]at e
        cases e
        simp only[Bool.and_eq_true,iq]at hb
        obtain⟨⟨b0,b1,b2,b3⟩,b4⟩:=hb
        have b0:=ic.1 b0
        obtain rfl:=Nat.eq_of_beq_eq_true b1
        have b2:src.length=m*i.size:=Nat.eq_of_beq_eq_true b2
        have b4:off+min m n*i.size<=cs.n:=Nat.le_of_ble_eq_true b4
        have hmn:min m n*i.size<=m*i.size:=Nat.mul_le_mul_right _ (Nat.min_le_left m n)
        rcases hvd with⟨rfl,b,Y2⟩|⟨b,s',cap,hm,Y2,z5,_⟩
        ·rw[Nat.min_zero]at hk0;exact absurd rfl hk0
        ·obtain⟨C,el',vs,hw,_,UL,hc⟩:=H.row hg hm
         rcases BC with rfl|⟨xb,xs,us,rfl,Ez,qY⟩
         ·exfalso
          have hz:m*i.size=0:=b2.symm
          have hp:0<min m n*i.size:=Nat.mul_pos (by omega) b0
          omega
         ·have hul:=Ez.length
          have Hk:(us.take (min m n*i.size)).length=min m n*i.size:=by rw[List.length_take];omega
          have agn:(src.take (min m n*i.size)).length=min m n*i.size:=by rw[List.length_take];omega
          have vk:s'+off+(us.take (min m n*i.size)).length<=C.size:=by
           rw[Hk]
           have hp:0<min m n*i.size:=Nat.mul_pos (by omega) b0
           have:=cZ.tx UL hc (n:=off+min m n*i.size) (by rw[jJ];exact b4) (by omega)
           omega
          have hr:=BE (P:=P) w T T' o.type el i hu hi b (s'+off) n cap ⟨xb,xs,none⟩ m xc C el' (us.take (min m n*i.size)) hw Hk (fun j v e=>by
           rw[List.getElem?_take]at e
           split at e
           ·exact pR qY j v e
           ·cases e) vk (fun v hv=>cZ.Hb Ez b3 v (List.mem_of_mem_take hv))
          obtain⟨E,H'⟩:=Cc H (C':=(C.toList.take (s'+off)++us.take (min m n*i.size)++C.toList.drop (s'+off+(us.take (min m n*i.size)).length)).toArray)
           hg hm hw (by simp at vk ⊢;omega) (cs':=cs.put off (tk (Nat.mul (min m n) i.size) src)) (us:=vs.take off++(us.take (min m n*i.size)++vs.drop (off+(us.take (min m n*i.size)).length)))
           (by rw[tl];show cZ g w (cs.put off (src.take (min m n*i.size))).toL _;rw[vX (by rw[agn];exact b4),put_eq,agn,Hk];exact(UL.take _).append ((Ez.take _).append (UL.drop _)))
           (fun j v e=>Jd hc vk j v e (by have:=UL.length;rw[jJ]at this;omega))
          exact⟨g,_,_,_,hex _ _ _ _ Y2 UC hr,.inl rfl,E,H',by simp only[VR]⟩
      ·cases e
    ·cases e
   ·cases e
  ·cases e
theorem KX{T el:TypeId}{x y z:Operand}(ho:o.op=.slice T x none (some y) (some z))(hd:P.underlying T=some (.slice el)){i:TypeInfo}(hi:P.info? el=some i):ik P o (zP (wO (cx x)) (cx y) (cx z)):=by
 intro g w nt t h a v h' H Tr e
 unfold zP at e
 split at e
 ·rename_i ky n hy
  split at e
  ·rename_i kz m hz
   obtain⟨h1,h2⟩:=(by
    cases hb:(Nat.beq n 0&&Nat.beq m 0)with
    |false=>rw[hb]at e;cases e
    |true=>rw[Bool.and_eq_true]at hb;exact hb:Nat.beq n 0=true/\Nat.beq m 0=true)
   rw[h1,h2]at e
   simp only[Bool.and_self,cond_true]at e
   obtain rfl:=Nat.eq_of_beq_eq_true h1
   obtain rfl:=Nat.eq_of_beq_eq_true h2
   have za:=cH y _ _ _ _ _ _ Tr hy
   have hvz:=cH z _ _ _ _ _ _ Tr hz
   simp only[VR]at za hvz
   have sP:(sizeOf el).run P w=.ok i.size w:=by simp[sizeOf,typeInfo,hi]
   have nN: ∀ b n c,a.eval x=.slice b n c->(execOp a.eval o).run P w=.ok (.value (.slice b 0 0)) w:=by
    intro b n c hx
    simp[execOp,ho,hx,za,hvz,Instr.sliceAt,Instr.slice,run_underlying hd,Instr.sliceBounds,Instr.sliceBound,asIntOf,sP]
   split at e
   ·rename_i hx
    cases e
    have hv:=kU x _ _ _ _ _ _ Tr hx
    simp only[VR]at hv
    obtain⟨b,hv⟩:=hv
    exact⟨rfl,_,nN _ _ _ hv,by simp only[VR];exact⟨_,rfl⟩⟩
   ·rename_i hx
    cases e
    have hv:=kU x _ _ _ _ _ _ Tr hx
    simp only[VR]at hv
    rcases hv with⟨_,b,hv⟩|⟨b,s,cap,_,hv,_⟩
    ·exact⟨rfl,_,nN _ _ _ hv,by simp only[VR];exact⟨_,rfl⟩⟩
    ·exact⟨rfl,_,nN _ _ _ hv,by simp only[VR];exact⟨_,rfl⟩⟩
   ·rename_i hx
    cases e
    have hv:=kU x _ _ _ _ _ _ Tr hx
    simp only[VR]at hv
    obtain⟨b,cap,hv,_⟩:=hv
    exact⟨rfl,_,nN _ _ _ hv,by simp only[VR];exact⟨_,rfl⟩⟩
   ·cases e
  ·cases e
 ·cases e
end
end Go.Ab

noncomputable section
namespace Go.Ab
variable [Io]
def jL(P:Program)(call:iP):Prop:=
 ∀ f args h v h',call f args h=.ok v h'->(∀ as w,(callFunc f as).run P w=.ok (.enter f as) w)/\
  ∀ (g:G) (w:World) (vs:List Value),HR g w h->cZ g w args vs->
   Calls P f vs.toArray w fun e w'=> ∃ x g',e=.returned x/\Ext g w h g' w' h'/\HR g' w' h'/\VR g' w' v x
def E9(P:Program)(op:BinOp)(T:TypeId):Option (AV->AV->Option AV):=
 match op with
 | .add=>some qi| .sub=>some oe| .mul=>some sL| .quo=>some oO| .rem=>some vQ
 | .and=>some ya| .or=>some zG| .xor=>some EG| .andNot=>some rS| .shl=>some uQ| .shr=>some vR
 | .lss=>some sM| .leq=>some xZ| .gtr=>some tc| .geq=>some nK
 | .eql=>match P.underlying T with
  |some (.int _)=>some (yb false)
  |some .bool=>some (Bq false)
  |some .string=>some (Br false)
  |some (.pointer _)=>some (CR false)
  |some (.slice _)=>some (zE false)
  |some (.struct _)=>E8 P false T
  |some (.array _ _)=>E8 P false T
  | _=>none
 | .neq=>match P.underlying T with
  |some (.int _)=>some (yb true)
  |some .bool=>some (Bq true)
  |some .string=>some (Br true)
  |some (.pointer _)=>some (CR true)
  |some (.slice _)=>some (zE true)
  |some (.struct _)=>E8 P true T
  |some (.array _ _)=>E8 P true T
  | _=>none
theorem UM{P:Program}{op:BinOp}{T:TypeId}{f:AV->AV->Option AV}(h:E9 P op T=some f):iL P op T f:=by
 unfold E9 at h
 cases op<;>simp only at h
 case eql=>
  split at h
  ·cases h;exact N6 T
  ·rename_i hu;cases h;exact Un hu
  ·cases h;exact Up T
  ·rename_i hu;cases h;exact Ur hu
  ·rename_i hu;cases h;exact Ut hu
  ·exact Jk h
  ·exact Jk h
  ·cases h
 case neq=>
  split at h
  ·cases h;exact N7 T
  ·rename_i hu;cases h;exact Uo hu
  ·cases h;exact Uq T
  ·rename_i hu;cases h;exact Us hu
  ·rename_i hu;cases h;exact Uu hu
  ·exact Jl h
  ·exact Jl h
  ·cases h
 all_goals cases h
 case add=>exact NQ T
 case sub=>exact NR T
 case mul=>exact N5 T
 case quo=>exact N4 T
 case rem=>exact N3 T
 case and=>exact NS T
 case or=>exact NT T
 case xor=>exact NU T
 case shl=>exact NV T
 case shr=>exact NW T
 case andNot=>exact He T
 case lss=>exact NX T
 case leq=>exact NZ T
 case gtr=>exact NY T
 case geq=>exact N2 T
def cUn(op:UnOp):Option (AV->Option AV):=
 match op with
 | .not=>some KA
 | .neg=>some G9
 | .xor=>some KB
 | .plus=>none
def Fa(P:Program)(T:TypeId)(x:Operand):jC:=
 match P.underlying T with
 |some d=>match P.info? T with
  |some i=>og i.size (nu d) (cx x)
  |none=>iw
 |none=>iw
def Ce(P:Program)(S D:TypeId)(x:Operand):jC:=
 match P.underlying S with
 |some _=>match P.underlying D with
  |some (.int k)=>EH (zL k) (cx x)
  | _=>iw
 |none=>iw
def Ob(P:Program)(S:TypeId)(x:Operand):jC:=
 match P.underlying S with
 |some (.slice e)=>match P.underlying e with
  |some (.int .u8)=>yz (cx x)
  | _=>iw
 | _=>iw
def C9(P:Program)(S D:TypeId)(x:Operand):jC:=
 match P.underlying S with
 |some .string=>match P.underlying D with
  |some (.slice e)=>match P.underlying e with
   |some (.int .u8)=>rT (cx x)
   | _=>iw
  | _=>iw
 |some (.slice _)=>match P.underlying D with
  |some (.slice e)=>match P.underlying e with
   |some (.int .u8)=>lA (Nat.beq S D) (uS (cx x)) iw
   | _=>iw
  | _=>iw
 | _=>iw
def pS(P:Program)(T:TypeId)(x:Operand)(n:Nat):jC:=
 match P.underlying T with
 |some (.struct fs)=>match fs[n]? with
  |some f=>match P.info? f.type with
   |some i=>lA (Nat.blt 0 i.size) (jk f.offset (cx x)) iw
   |none=>iw
  |none=>iw
 | _=>iw
def z7(P:Program)(T:TypeId)(x:Operand)(n:Nat):jC:=
 match P.underlying T with
 |some (.struct fs)=>match fs[n]? with
  |some f=>match P.underlying f.type with
   |some d=>match P.info? f.type with
    |some i=>pN f.offset i.size (nu d) (cx x)
    |none=>iw
   |none=>iw
  |none=>iw
 | _=>iw
def pT(P:Program)(T:TypeId)(x y:Operand):jC:=
 match P.underlying T with
 |some (.slice e)=>match P.info? e with
  |some i=>vT i.size (cx x) (cx y)
  |none=>iw
 |some (.array n e)=>match P.info? e with
  |some i=>yx n i.size (cx x) (cx y)
  |none=>iw
 | _=>iw
def z8(P:Program)(T:TypeId)(x y:Operand):jC:=
 match P.underlying T with
 |some (.array n e)=>match P.underlying e with
  |some d=>match P.info? e with
   |some i=>oI n i.size (nu d) (cx x) (cx y)
   |none=>iw
  |none=>iw
 |some .string=>nU (cx x) (cx y)
 | _=>iw
def z9(P:Program)(T:TypeId)(x:Operand)(lo hi:Option Operand):jC:=
 match P.underlying T with
 |some .string=>nT (cx x) (lo.map cx) (hi.map cx)
 |some (.slice e)=>match P.info? e with
  |some i=>j9 i.size (cx x) (lo.map cx) (hi.map cx)
  |none=>iw
 |some (.array n e)=>match P.info? e with
  |some i=>lA (Nat.blt 0 i.size) (lQ n i.size (cx x) (lo.map cx) (hi.map cx)) iw
  |none=>iw
 | _=>iw
def wc(P:Program)(T:TypeId)(x:Operand)(lo hi:Option Operand)(m:Operand):jC:=
 match lo,hi with
 |none,some y=>match P.underlying T with
  |some (.slice e)=>match P.info? e with
   |some _=>zP (wO (cx x)) (cx y) (cx m)
   |none=>iw
  | _=>iw
 | _,_=>iw
def Oe(P:Program)(T:TypeId)(x:Operand):jC:=
 match P.underlying T with
 |some .string=>sO (cx x)
 |some (.slice _)=>zN (wO (cx x))
 |some (.array n _)=>mC (oC (.int .i64 (.ofNat n)))
 | _=>iw
def Of(P:Program)(T:TypeId)(x:Operand):jC:=
 match P.underlying T with
 |some (.slice _)=>zM (wO (cx x))
 | _=>iw
def Og(P:Program)(T:TypeId):jC:=
 match zeroOf P T with
 |some z=>Ha z
 |none=>iw
inductive Cl where
 |p0|p1|al|ch
def Jn(P:Program)(call:iP)(c:Call):jC:=
 match c with
 |⟨.builtin .append,args,vn⟩=>match args.toList,vn.toList with
  | [s,x],[T,T']=>lA (Nat.beq T T') (zd P T s x) (Jg P T T' s x)
  | _,_=>iw
 |⟨.builtin .copy,args,vn⟩=>match args.toList,vn.toList with
  | [d,s],[T,_]=>Jm P T d s
  | _,_=>iw
 |⟨.value (.func f),args,_⟩=>yc call f (args.toList.map cx)
 |⟨.value f,args,_⟩=>th call (cx f) (args.toList.map cx)
 | _=>iw
def mD(P:Program)(c:Call):Option jC:=
 match c with
 |⟨.builtin .len,args,vn⟩=>match args.toList,vn.toList with
  | [x],[T]=>some (Oe P T x)
  | _,_=>some iw
 |⟨.builtin .cap,args,vn⟩=>match args.toList,vn.toList with
  | [x],[T]=>some (Of P T x)
  | _,_=>some iw
 |⟨.builtin .min,args,_⟩=>match args.toList with
  | [x,y]=>some (Bx (cx x) (cx y))
  | _=>some iw
 |⟨.builtin .max,args,_⟩=>match args.toList with
  | [x,y]=>some (Bz (cx x) (cx y))
  | _=>some iw
 | _=>none
def rY(P:Program)(call:iP)(o:Op):Cl×jC:=
 match o with
 | .move x=>(.p0,mC (cx x))
 | .assign x=>(.p0,mC (cx x))
 | .pick c x y=>(.p0,sN (cx c) (cx x) (cx y))
 | .alloc T=>(.al,Og P T)
 | .box _ x=>(.al,Bw (cx x))
 | .build T ps=>(.p0,zZ P T ps.toList)
 | .buildSlice T n ps=>(.al,ND P T n ps.toList)
 | .load T x=>(.p1,Fa P T x)
 | .store T x y=>(.ch,C5 P T x y)
 | .nilCheck x=>(.p0,zK (cx x))
 | .binOp op T x y _=>match E9 P op T with
  |some f=>(.p0,sZ f (cx x) (cx y))
  |none=>(.p0,iw)
 | .unOp op _ x=>match cUn op with
  |some f=>(.p0,EH f (cx x))
  |none=>(.p0,iw)
 | .convert S D x=>match P.underlying D with
  |some (.slice _)=>(.ch,C9 P S D x)
  |some .string=>(.p1,Ob P S x)
  | _=>(.p0,Ce P S D x)
 | .makeFunc (.func f) first caps=>match first.toList with
  | []=>(.p0,Tw f (caps.toList.map cx))
  | _=>(.p0,iw)
 | .makeSlice T l c=>(.al,EW P T l c)
 | .makeMap _ r=>match r with
  |none=>(.ch,KC)
  |some _=>(.ch,iw)
 | .slice T x lo hi none=>(.p1,z9 P T x lo hi)
 | .slice T x lo hi (some m)=>(.p1,wc P T x lo hi m)
 | .fieldAddr T x n=>(.p0,pS P T x n)
 | .field T x n=>(.p0,z7 P T x n)
 | .indexAddr T x y=>(.p0,pT P T x y)
 | .index T x y=>(.p0,z8 P T x y)
 | .extract x i=>(.p0,lC (cx x) i)
 | .call c=>match mD P c with
  |some f=>(.p0,f)
  |none=>(.ch,Jn P call c)
 | _=>(.ch,iw)
def Da(P:Program)(o:Oper)(f:jC):Prop:=
 ∀ (g:G) (w:World) (nt:Nat) (t:Tm) (h:Hp) (a:Act) (v:AV) (h':Hp),HR g w h->TR g w nt t a.tmps->f t h=.ok v h'->
  ∀ next Q,(∀ g' w' x,Ext g w h g' w' h'->HR g' w' h'->VR g' w' v x->next (a.put o.dst x) w')->o.wp P a w next Q
section
variable {P:Program}{o:Oper}
theorem pP.ok{f:jC}(h:pP P o f):Da P o f:=by
 intro g w nt t hp a v h' H T e next Q K
 obtain⟨g',w',nx,x,hr,hnx,E,H',hv⟩:=h g w nt t hp a v h' H T e
 unfold Oper.wp
 rw[hr]
 rcases hnx with rfl|⟨rfl,rfl⟩
 ·exact K g' w' x E H' hv
 ·exact K g' w' undef E H' hv
theorem ik.ok{f:jC}(h:ik P o f):Da P o f:=h.run.ok
theorem qZ.ok{f:jC}(h:qZ P o f):Da P o f:=h.run.ok
theorem xz:Da P o iw:=by intro g w nt t h a v h' _ _ e;cases e
theorem UN{f:FuncId}{args:Array Operand}{vn:Array TypeId}{call:iP}(hc:jL P call)(ho:o.op=.call {callee:=.value (.func f),args,argTypes:=vn}):
 Da P o (yc call f (args.toList.map cx)):=by
 intro g w nt t h a v h' H T e next Q K
 unfold yc at e
 split at e
 ·rename_i vs jE
  obtain⟨hen,Cf⟩:=hc f vs h v h' e
  have hv:=y0 T args.toList jE
  have hr:(execOp a.eval o).run P w=.ok (.enter f (args.map a.eval)) w:=by
   simp[execOp,ho,resolve,Act.eval,Deferred.ofValue,invoke,hen]
  unfold Oper.wp
  rw[hr,Oper.upon_enter]
  have:=Cf g w (args.toList.map a.eval) H hv
  rw[show(args.toList.map a.eval).toArray=args.map a.eval from by rw[<-Array.toList_map,Array.toArray_toList]]at this
  refine this.mono ?_
  rintro e w' ⟨x,g',rfl,E,H',hx⟩
  exact K g' w' x E H' hx
 ·cases e
theorem Oh{f:Operand}{args:Array Operand}{vn:Array TypeId}{call:iP}(hc:jL P call)(ho:o.op=.call {callee:=.value f,args,argTypes:=vn}):
 Da P o (th call (cx f) (args.toList.map cx)):=by
 intro g w nt t h a v h' H T e next Q K
 unfold th at e
 split at e
 ·rename_i k cap hf
  split at e
  ·rename_i vs jE
   have yB:=cH f _ _ _ _ _ _ T hf
   simp only[VR]at yB
   obtain⟨caps,hfe,agp⟩:=yB
   obtain⟨hen,Cf⟩:=hc k _ h v h' e
   have hv:=y0 T args.toList jE
   have hr:(execOp a.eval o).run P w=.ok (.enter k (args.map a.eval++caps)) w:=by
    simp[execOp,ho,resolve,hfe,Deferred.ofValue,invoke,hen]
   unfold Oper.wp
   rw[hr,Oper.upon_enter]
   rw[cX]at Cf
   have:=Cf g w (args.toList.map a.eval++caps.toList) H (hv.append agp)
   rw[show(args.toList.map a.eval++caps.toList).toArray=args.map a.eval++caps from by rw[<-Array.toList_map,<-Array.toList_append,Array.toArray_toList]]at this
   refine this.mono ?_
   rintro e w' ⟨x,g',rfl,E,H',hx⟩
   exact K g' w' x E H' hx
  ·cases e
 ·cases e
end
end Go.Ab

noncomputable section
namespace Go.Ab
variable [Io]
section
variable {P:Program}{o:Oper}{call:iP}
theorem Hu{T:TypeId}{x:Operand}(ho:o.op=.load T x):ik P o (Fa P T x):=by
 unfold Fa
 split
 ·rename_i d hd
  split
  ·rename_i i hi;exact KI ho hd hi
  ·exact cU
 ·exact cU
theorem Aa{S D:TypeId}{x:Operand}(ho:o.op=.convert S D x):ik P o (Ce P S D x):=by
 unfold Ce
 split
 ·rename_i d hd
  split
  ·rename_i k hk;exact Ht ho hd hk
  ·exact cU
 ·exact cU
theorem KY{S D:TypeId}{x:Operand}(ho:o.op=.convert S D x)(hD:P.underlying D=some .string):ik P o (Ob P S x):=by
 unfold Ob
 split
 ·rename_i e hS
  split
  ·rename_i he;exact KS ho hS he hD
  ·exact cU
 ·exact cU
theorem Hv{S D:TypeId}{x:Operand}(ho:o.op=.convert S D x):pP P o (C9 P S D x):=by
 unfold C9
 split
 ·rename_i hS
  split
  ·rename_i e hD
   split
   ·rename_i he;exact Hs ho hS hD he
   ·exact cU.run
  ·exact cU.run
 ·split
  ·rename_i e hD
   split
   ·rename_i he
    cases h:Nat.beq S D with
    |true=>
     obtain rfl:=Nat.eq_of_beq_eq_true h
     exact KT ho hD he
    |false=>exact cU.run
   ·exact cU.run
  ·exact cU.run
 ·exact cU.run
theorem Fc{c:Bool}{f:jC}(h:c=true->ik P o f):ik P o (lA c f iw):=by
 cases c with
 |true=>exact h rfl
 |false=>exact cU
theorem yC{T:TypeId}{x:Operand}{n:Nat}(ho:o.op=.fieldAddr T x n):ik P o (pS P T x n):=by
 unfold pS
 split
 ·rename_i fs hd
  split
  ·rename_i f hf
   split
   ·rename_i i hi
    exact Fc fun h=>zX ho hd hf hi (by have:=ic.1 h;omega)
   ·exact cU
  ·exact cU
 ·exact cU
theorem Fe{T:TypeId}{x:Operand}{n:Nat}(ho:o.op=.field T x n):ik P o (z7 P T x n):=by
 unfold z7
 split
 ·rename_i fs hd
  split
  ·rename_i f hf
   split
   ·rename_i d Jc
    split
    ·rename_i i hi
     exact Hf ho hd hf Jc hi
    ·exact cU
   ·exact cU
  ·exact cU
 ·exact cU
theorem yD{T:TypeId}{x y:Operand}(ho:o.op=.indexAddr T x y):ik P o (pT P T x y):=by
 unfold pT
 split
 ·rename_i e hd
  split
  ·rename_i i hi;exact Nv ho hd hi
  ·exact cU
 ·rename_i n e hd
  split
  ·rename_i i hi;exact Nw ho hd hi
  ·exact cU
 ·exact cU
theorem Ff{T:TypeId}{x y:Operand}(ho:o.op=.index T x y):ik P o (z8 P T x y):=by
 unfold z8
 split
 ·rename_i n e hd
  split
  ·rename_i d Jc
   split
   ·rename_i i hi;exact Hg ho hd Jc hi
   ·exact cU
  ·exact cU
 ·rename_i hd;exact EO ho hd
 ·exact cU
theorem Db{T:TypeId}{x:Operand}{lo hi:Option Operand}{m:Operand}(ho:o.op=.slice T x lo hi (some m)):ik P o (wc P T x lo hi m):=by
 unfold wc
 split
 ·split
  ·rename_i e hd
   split
   ·rename_i i hi;exact KX ho hd hi
   ·exact cU
  ·exact cU
 ·exact cU
theorem Fg{T:TypeId}{x:Operand}{lo hi:Option Operand}(ho:o.op=.slice T x lo hi none):ik P o (z9 P T x lo hi):=by
 unfold z9
 split
 ·rename_i hd;exact EP ho hd
 ·rename_i e hd
  split
  ·rename_i i hi;exact ER ho hd hi
  ·exact cU
 ·rename_i n e hd
  split
  ·rename_i i hi;exact Fc fun h=>ES ho hd hi (by have:=ic.1 h;omega)
  ·exact cU
 ·exact cU
theorem KZ{T:TypeId}{x:Operand}(ho:o.op=.call {callee:=.builtin .cap,args:= #[x],argTypes:= #[T]}):ik P o (Of P T x):=by
 unfold Of
 split
 ·rename_i hd;exact Nu ho hd
 ·exact cU
theorem K3{T:TypeId}{x:Operand}(ho:o.op=.call {callee:=.builtin .len,args:= #[x],argTypes:= #[T]}):ik P o (Oe P T x):=by
 unfold Oe
 split
 ·rename_i hd;exact KG ho hd
 ·rename_i e hd;exact Nt ho hd
 ·rename_i n e hd;exact KH ho hd
 ·exact cU
theorem UO:qZ P o iw:=by intro g w nt t h a v h' _ _ e;cases e
theorem Oi{T:TypeId}(ho:o.op=.alloc T):qZ P o (Og P T):=by
 unfold Og
 split
 ·rename_i z hz;exact NB ho hz
 ·exact UO
theorem Oj{op:UnOp}{T:TypeId}{x:Operand}{f:AV->Option AV}(ho:o.op=.unOp op T x)(h:cUn op=some f):ik P o (EH f (cx x)):=by
 cases op<;>cases h
 ·exact Nr ho
 ·exact Ns ho
 ·exact Nn ho
omit [Io] in
theorem UP{α:Type}{a:Array α}{x:α}(h:a.toList=[x]):a= #[x]:=by
 rw[<-Array.toArray_toList (xs:=a),h]
omit [Io] in
theorem K4{α:Type}{a:Array α}{x y:α}(h:a.toList=[x,y]):a= #[x,y]:=by
 rw[<-Array.toArray_toList (xs:=a),h]
theorem BG{c:Call}{f:jC}(ho:o.op=.call c)(h:mD P c=some f):ik P o f:=by
 unfold mD at h
 split at h
 ·rename_i args vn
  split at h
  ·rename_i x T h1 h2
   cases h
   rw[UP h1,UP h2]at ho
   exact K3 ho
  ·cases h;exact cU
 ·rename_i args vn
  split at h
  ·rename_i x T h1 h2
   cases h
   rw[UP h1,UP h2]at ho
   exact KZ ho
  ·cases h;exact cU
 ·rename_i args vn
  split at h
  ·rename_i x y h1
   cases h
   rw[K4 h1]at ho
   exact N8 ho
  ·cases h;exact cU
 ·rename_i args vn
  split at h
  ·rename_i x y h1
   cases h
   rw[K4 h1]at ho
   exact N9 ho
  ·cases h;exact cU
 ·cases h
theorem Ol(hc:jL P call){c:Call}(ho:o.op=.call c):Da P o (Jn P call c):=by
 unfold Jn
 split
 ·rename_i args vn
  split
  ·rename_i s x T T' h1 h2
   rw[K4 h1,K4 h2]at ho
   cases h:Nat.beq T T' with
   |true=>
    obtain rfl:=Nat.eq_of_beq_eq_true h
    exact(E5 ho).ok
   |false=>exact(KQ ho).ok
  ·exact xz
 ·rename_i args vn
  split
  ·rename_i d s T T' h1 h2
   rw[K4 h1,K4 h2]at ho
   exact(KW ho).ok
  ·exact xz
 ·exact UN hc ho
 ·exact Oh hc ho
 ·exact xz
theorem Dc(hc:jL P call):match rY P call o.op with
 |(.p0,f)=>ik P o f
 |(.p1,f)=>ik P o f
 |(.al,f)=>qZ P o f
 |(.ch,f)=>Da P o f:=by
 cases ho:o.op<;>simp only[rY]
 case move x=>exact B4 (.inl ho)
 case assign x=>exact B4 (.inr ho)
 case pick c x y=>exact KF ho
 case alloc T=>exact Oi ho
 case box T x=>exact NC ho
 case build T ps=>exact Hj ho
 case buildSlice T n ps=>exact NF ho
 case load T x=>exact Hu ho
 case store T x y=>exact(Hm ho).ok
 case nilCheck x=>exact pure_nil ho
 case binOp op T x y yT=>
  cases h:E9 P op T with
  |some f=>exact Nj ho (UM h)
  |none=>exact cU
 case unOp op T x=>
  cases h:cUn op with
  |some f=>exact Oj ho h
  |none=>exact cU
 case convert S D x=>
  cases h:P.underlying D with
  |none=>exact Aa ho
  |some d=>cases d<;>first|exact Aa ho|exact(Hv ho).ok|exact KY ho h
 case makeFunc f first caps=>
  cases f<;>try exact xz
  rename_i f
  simp only
  cases h:first.toList with
  |nil=>
   have:first= #[]:=by rw[<-Array.toArray_toList (xs:=first),h]
   subst this
   exact Uv ho
  |cons a l=>exact cU
 case makeSlice T l c=>exact KK ho
 case makeMap T r=>cases r with
  |none=>exact(NN ho).ok
  |some _=>exact xz
 case slice T x lo hi mx=>
  cases mx with
  |none=>exact Fg ho
  |some m=>exact Db ho
 case fieldAddr T x n=>exact yC ho
 case field T x n=>exact Fe ho
 case indexAddr T x y=>exact yD ho
 case index T x y=>exact Ff ho
 case extract x i=>exact C3 ho
 case call c=>
  cases h:mD P c with
  |some f=>exact BG ho h
  |none=>exact Ol hc ho
 all_goals exact xz
theorem Om(hc:jL P call):Da P o (rY P call o.op).2:=by
 have:=Dc (o:=o) hc
 cases h:rY P call o.op with
 |mk c f=>
  rw[h]at this
  cases c
  ·exact ik.ok this
  ·exact ik.ok this
  ·exact qZ.ok this
  ·exact this
def gF(j:jF)(want:Bool)(f:jC):jC:=fun t h=>match j t with
 |some (.bool b)=>lA (lA want b (!b)) (f t h) (.ok kN h)
 |some (.yv [])=>.ok kN h
 | _=>.bad
def oE(P:Program)(call:iP)(nt:Nat)(all:List Oper)(o:Oper):jC:=
 match o.guard with
 |none=>(rY P call o.op).2
 |some (j,want)=>match oH all j with
  |some oj=>match oj.dst with
   |some d=>lA (Nat.blt d nt) (gF (oT d) want (rY P call o.op).2) iw
   |none=>iw
  |none=>iw
def oY(P:Program)(call:iP)(nt:Nat)(all l:List Oper):qh:=
 List.rec fi (fun o _ ih=>match o.dst with
  |some d=>lA (Nat.blt d nt) (st (sT d) (oE P call nt all o) ih) (fun _ _=>.bad)
  |none=>sn (oE P call nt all o) ih) l
theorem Dd(hc:jL P call){ops:Array Oper}{i:Nat}(hi:ops[i]? =some o){g w nt t h}{a:Act}{v:AV}{h':Hp}(H:HR g w h)(T:TR g w nt t a.tmps)
 (e:oE P call nt ops.toList o t h=.ok v h'){Q:Exit->Act->World->Prop}{rest:List Nat}
 (K: ∀ g' w' x,Ext g w h g' w' h'->HR g' w' h'->VR g' w' v x->wpOps P ops Q rest (a.put o.dst x) w'):wpOps P ops Q (i::rest) a w:=by
 rw[wpOps,hi]
 simp only
 unfold oE at e
 cases hg:o.guard with
 |none=>
  rw[hg]at e
  rw[if_pos (by simp[Region.wanted,hg])]
  exact .inl (Om hc g w nt t h a v h' H T e _ _ K)
 |some p=>
  obtain⟨j,want⟩:=p
  rw[hg]at e
  simp only[kG]at e
  cases hj:ops.toList[j]? with
  |none=>simp only[hj]at e;cases e
  |some oj=>
  simp only[hj]at e
  cases hd:oj.dst with
  |none=>simp only[hd]at e;cases e
  |some d=>
  simp only[hd]at e
  cases hb:Nat.blt d nt with
  |false=>simp only[hb]at e;cases e
  |true=>
  simp only[hb]at e
  have MV:=ic.1 hb
  change gF (oT d) want (rY P call o.op).2 t h=.ok v h' at e
  have hj':ops[j]? =some oj:=by simpa using hj
  have sP:=T.2.1
  have hy: ∀ y,a.tmps.getD d undef=y->yielded ops a.tmps j=match y with| .bool b=>some b| _=>none:=by
   intro y hy
   have:a.tmps[d]? =some y:=by
    rw[Array.getD_eq_getD_getElem?]at hy
    rw[Array.getElem?_eq_getElem (by omega)]at hy ⊢
    simpa using hy
   simp[yielded,hj',hd,this]
   cases y<;>rfl
  unfold gF at e
  split at e
  ·rename_i b EY
   have hv:=(T.2.2 d _ (by have:=T.1;omega) EY).2
   simp only[VR]at hv
   have UQ:=hy _ hv
   cases UR:(lA want b (!b))with
   |true=>
    rw[UR]at e
    have:b=want:=by cases want<;>cases b<;>simp[lA]at UR<;>rfl
    rw[if_pos (by simp[Region.wanted,hg,UQ,this])]
    exact .inl (Om hc g w nt t h a v h' H T e _ _ K)
   |false=>
    rw[UR]at e
    have:b≠want:=by cases want<;>cases b<;>simp[lA]at UR<;>simp
    rw[if_neg (by simp[Region.wanted,hg,UQ,this])]
    cases e
    exact K g w undef (Ext.refl _ _ _) H (by simp only[kN,VR];exact⟨_,rfl,by simp[cZ]⟩)
  ·rename_i EY
   have hv:=(T.2.2 d _ (by have:=T.1;omega) EY).2
   simp only[VR]at hv
   obtain⟨vs,hv,jE⟩:=hv
   have UQ:=hy _ hv
   rw[if_neg (by simp[Region.wanted,hg,UQ])]
   cases e
   exact K g w undef (Ext.refl _ _ _) H (by simp only[kN,VR];exact⟨_,rfl,by simp[cZ]⟩)
  ·cases e
end
end Go.Ab

noncomputable section
namespace Go.Ab
variable [Io]
section
variable {P:Program}{call:iP}
def ra(g:G)(w:World)(h:Hp)(nt:Nat)(t':Tm)(h':Hp)(R:Act->World->Prop):Prop:=
 ∀ g' w' a',Ext g w h g' w' h'->HR g' w' h'->TR g' w' nt t' a'.tmps->a'.defers=[]->R a' w'
theorem ra.then{g w h nt h1 g1 w1 t2 h2}{R:Act->World->Prop}(E:Ext g w h g1 w1 h1)(K:ra g w h nt t2 h2 R):ra g1 w1 h1 nt t2 h2 R:=
 fun g' w' a' E' H' T' D'=>K g' w' a' (E.trans E') H' T' D'
def US(P:Program)(nt:Nat)(c:Code)(r:qh):Prop:=
 ∀ (g:G) (w:World) (t:Tm) (h:Hp) (a:Act) (t':Tm) (h':Hp),HR g w h->TR g w nt t a.tmps->a.defers=[]->r t h=.ok t' h'->
  ∀ Q:Exit->Act->World->Prop,ra g w h nt t' h' (Q .normal)->c.wp P Q a w
theorem UT{g w nt t}{a:Act}{d:Nat}{v:AV}{x:Value}(T:TR g w nt t a.tmps)(hd:d<nt)(hv:VR g w v x):TR g w nt (sT d v t) (a.put (some d) x).tmps:=
 T.put hd hv
theorem On(hc:jL P call){nt:Nat}(ops:Array Oper): ∀ (l pre:List Oper),ops.toList=pre++l-> ∀ (g:G) (w:World) (t:Tm) (h:Hp) (a:Act) (t':Tm) (h':Hp),
 HR g w h->TR g w nt t a.tmps->a.defers=[]->oY P call nt ops.toList l t h=.ok t' h'-> ∀ Q:Exit->Act->World->Prop,ra g w h nt t' h' (Q .normal)->
  wpOps P ops Q (List.range' pre.length l.length) a w
 | [],pre,_,g,w,t,h,a,t',h',H,T,D,e,Q,K=>by
  cases e
  exact K g w a (Ext.refl _ _ _) H T D
 |o::l,pre,hl,g,w,t,h,a,t',h',H,T,D,e,Q,K=>by
  have hi:ops[pre.length]? =some o:=by
   have:ops.toList[pre.length]? =some o:=by rw[hl];simp
   simpa using this
  have ih:=On hc (nt:=nt) ops l (pre++[o]) (by simp[hl])
  simp only[List.length_append,List.length_cons,List.length_nil,Nat.zero_add]at ih
  rw[List.length_cons,List.range'_succ]
  change (match o.dst with
   |some d=>lA (Nat.blt d nt) (st (sT d) (oE P call nt ops.toList o) (oY P call nt ops.toList l)) (fun _ _=>.bad)
   |none=>sn (oE P call nt ops.toList o) (oY P call nt ops.toList l)) t h=.ok t' h' at e
  cases hd:o.dst with
  |none=>
   simp only[hd]at e
   unfold sn at e
   cases hg:oE P call nt ops.toList o t h with
   |bad=>rw[hg]at e;cases e
   |ok v h1=>
    rw[hg]at e
    refine Dd hc hi H T hg fun g1 w1 x E H1 hv=>?_
    rw[hd]
    exact ih g1 w1 t h1 a t' h' H1 (T.mono H E) D e Q (ra.then E K)
  |some d=>
   simp only[hd]at e
   cases hb:Nat.blt d nt with
   |false=>simp only[hb]at e;cases e
   |true=>
    simp only[hb]at e
    change st (sT d) (oE P call nt ops.toList o) (oY P call nt ops.toList l) t h=.ok t' h' at e
    unfold st at e
    cases hg:oE P call nt ops.toList o t h with
    |bad=>rw[hg]at e;cases e
    |ok v h1=>
     rw[hg]at e
     refine Dd hc hi H T hg fun g1 w1 x E H1 hv=>?_
     rw[hd]
     exact ih g1 w1 (sT d v t) h1 (a.put (some d) x) t' h' H1 (UT (T.mono H E) (ic.1 hb) hv) D e Q (ra.then E K)
theorem K5(hc:jL P call){nt:Nat}(id:Nat)(ops:Array Oper):US P nt (.region id ops false) (oY P call nt ops.toList ops.toList):=by
 intro g w t h a t' h' H T D e Q K
 refine wp_region ?_
 have:=On hc ops ops.toList [] rfl g w t h a t' h' H T D e Q K
 rw[List.range_eq_range']
 simpa using this
def K6(P:Program)(nt:Nat)(c:Code)(f:Bn):Prop:=
 ∀ (g:G) (w:World) (t:Tm) (h:Hp) (a:Act) (Q:Exit->Act->World->Prop),HR g w h->TR g w nt t a.tmps->a.defers=[]->
  match f t h with
  | .bad=>True
  | .norm t' h'=>ra g w h nt t' h' (Q .normal)->c.wp P Q a w
  | .ret t' h'=>ra g w h nt t' h' (Q .ret)->c.wp P Q a w
  | .exit i t' h'=>ra g w h nt t' h' (Q (.exit i))->c.wp P Q a w
def kF(P:Program)(draw:Array Oper->qh)(call:iP)(n nt:Nat)(c:Code):Bn:=
 Code.rec (motive:=fun _=>Bn) uT
  (fun _ ops d=>cRg (Bool.rec (oY P call nt ops.toList ops.toList) (draw ops) d))
  (fun _ _ ia ib=>jw ia ib)
  (fun c _ _ ia ib=>TZ (cx c) ia ib)
  (fun id _ ib=>B0 id ib)
  (fun _ ib=>T3 n ib)
  (fun _ _ _ _ _ _=>EI)
  (fun i=>YU i)
  (fun _ _=>EI)
  (fun _=>EI)
  (fun _=>EI)
  jn
  (fun _=>EI) c
theorem Ac{nt:Nat}{c:Code}:K6 P nt c EI:=by
 intro g w t h a Q H T D
 exact trivial
theorem De(hc:jL P call){draw:Array Oper->qh}{nt:Nat}(hd: ∀ id ops,US P nt (.region id ops true) (draw ops))(n:Nat): ∀ c,K6 P nt c (kF P draw call n nt c):=by
 intro c
 induction c with
 |skip=>
  intro g w t h a Q H T D K
  exact wp_skip (K g w a (Ext.refl _ _ _) H T D)
 |region id ops d=>
  intro g w t h a Q H T D
  have key:US P nt (.region id ops d) (Bool.rec (oY P call nt ops.toList ops.toList) (draw ops) d):=by
   cases d with
   |false=>exact K5 hc id ops
   |true=>exact hd id ops
  show match cRg (Bool.rec (oY P call nt ops.toList ops.toList) (draw ops) d) t h with| .bad=>_| .norm _ _=>_| .ret _ _=>_| .exit _ _ _=>_
  unfold cRg
  cases e:(Bool.rec (oY P call nt ops.toList ops.toList) (draw ops) d:qh) t h with
  |bad=>exact trivial
  |ok t' h'=>exact fun K=>key g w t h a t' h' H T D e Q K
 |seq x y hx hy=>
  intro g w t h a Q H T D
  show match jw (kF P draw call n nt x) (kF P draw call n nt y) t h with| .bad=>_| .norm _ _=>_| .ret _ _=>_| .exit _ _ _=>_
  unfold jw
  have h1:=hx g w t h a (Exit.then (y.wp P Q) Q) H T D
  cases e:kF P draw call n nt x t h with
  |bad=>exact trivial
  |ret t1 qn=>rw[e]at h1;exact fun K=>wp_seq (h1 K)
  |exit i t1 qn=>rw[e]at h1;exact fun K=>wp_seq (h1 K)
  |norm t1 qn=>
   rw[e]at h1
   show match kF P draw call n nt y t1 qn with| .bad=>_| .norm _ _=>_| .ret _ _=>_| .exit _ _ _=>_
   cases e2:kF P draw call n nt y t1 qn with
   |bad=>exact trivial
   |norm t2 h2=>
    intro K
    refine wp_seq (h1 fun g1 w1 a1 E1 H1 T1 D1=>?_)
    have:=hy g1 w1 t1 qn a1 Q H1 T1 D1
    rw[e2]at this
    exact this (ra.then E1 K)
   |ret t2 h2=>
    intro K
    refine wp_seq (h1 fun g1 w1 a1 E1 H1 T1 D1=>?_)
    have:=hy g1 w1 t1 qn a1 Q H1 T1 D1
    rw[e2]at this
    exact this (ra.then E1 K)
   |exit i t2 h2=>
    intro K
    refine wp_seq (h1 fun g1 w1 a1 E1 H1 T1 D1=>?_)
    have:=hy g1 w1 t1 qn a1 Q H1 T1 D1
    rw[e2]at this
    exact this (ra.then E1 K)
 |cond c x y hx hy=>
  intro g w t h a Q H T D
  show match TZ (cx c) (kF P draw call n nt x) (kF P draw call n nt y) t h with| .bad=>_| .norm _ _=>_| .ret _ _=>_| .exit _ _ _=>_
  unfold TZ
  cases kr:cx c t with
  |none=>exact trivial
  |some v=>
   cases v<;>try exact trivial
   rename_i b
   have hv:=cH c _ _ _ _ _ _ T kr
   simp only[VR]at hv
   cases b with
   |true=>
    have:=hx g w t h a Q H T D
    show match kF P draw call n nt x t h with| .bad=>_| .norm _ _=>_| .ret _ _=>_| .exit _ _ _=>_
    cases e:kF P draw call n nt x t h<;>rw[e]at this
    ·exact trivial
    all_goals exact fun K=>wp_cond_true hv (this K)
   |false=>
    have:=hy g w t h a Q H T D
    show match kF P draw call n nt y t h with| .bad=>_| .norm _ _=>_| .ret _ _=>_| .exit _ _ _=>_
    cases e:kF P draw call n nt y t h<;>rw[e]at this
    ·exact trivial
    all_goals exact fun K=>wp_cond_false hv (this K)
 |block id x hx=>
  intro g w t h a Q H T D
  show match B0 id (kF P draw call n nt x) t h with| .bad=>_| .norm _ _=>_| .ret _ _=>_| .exit _ _ _=>_
  unfold B0
  have:=hx g w t h a (Exit.inBlock id Q) H T D
  cases e:kF P draw call n nt x t h<;>rw[e]at this
  ·exact trivial
  ·exact fun K=>wp_block (this K)
  ·exact fun K=>wp_block (this K)
  ·rename_i i t1 h1
   show match(Bool.rec (Rc.exit i t1 h1) (Rc.norm t1 h1) (Nat.beq i id):Rc)with| .bad=>_| .norm _ _=>_| .ret _ _=>_| .exit _ _ _=>_
   cases hb:Nat.beq i id with
   |true=>
    obtain rfl:=Nat.eq_of_beq_eq_true hb
    exact fun K=>wp_block (this fun g' w' a' E' H' T' D'=>by
     show Exit.inBlock i Q (.exit i) a' w'
     simp only[Exit.inBlock,if_true]
     exact K g' w' a' E' H' T' D')
   |false=>
    have nd:i≠id:=fun k=>by rw[k,Nat.beq_refl]at hb;cases hb
    exact fun K=>wp_block (this fun g' w' a' E' H' T' D'=>by
     show Exit.inBlock id Q (.exit i) a' w'
     simp only[Exit.inBlock,if_neg nd]
     exact K g' w' a' E' H' T' D')
 |loop x hx=>
  intro g w t h a Q H T D
  show match T3 n (kF P draw call n nt x) t h with| .bad=>_| .norm _ _=>_| .ret _ _=>_| .exit _ _ _=>_
  have key: ∀ m,∀ (g:G) (w:World) (t:Tm) (h:Hp) (a:Act),HR g w h->TR g w nt t a.tmps->a.defers=[]->
   match T3 m (kF P draw call n nt x) t h with
   | .bad=>True
   | .norm t' h'=>ra g w h nt t' h' (Q .normal)->Code.rounds P x Q m a w
   | .ret t' h'=>ra g w h nt t' h' (Q .ret)->Code.rounds P x Q m a w
   | .exit i t' h'=>ra g w h nt t' h' (Q (.exit i))->Code.rounds P x Q m a w:=by
   intro m
   induction m with
   |zero=>intro g w t h a H T D;exact trivial
   |succ m ih=>
    intro g w t h a H T D
    have h1:=hx g w t h a (Exit.then (Code.rounds P x Q m) Q) H T D
    show match(Rc.rec Rc.bad (fun t h=>T3 m (kF P draw call n nt x) t h) (fun t h=>Rc.ret t h) (fun i t h=>Rc.exit i t h) (kF P draw call n nt x t h):Rc)with
     | .bad=>_| .norm _ _=>_| .ret _ _=>_| .exit _ _ _=>_
    cases e:kF P draw call n nt x t h with
    |bad=>exact trivial
    |ret t1 qn=>rw[e]at h1;exact fun K=>h1 K
    |exit i t1 qn=>rw[e]at h1;exact fun K=>h1 K
    |norm t1 qn=>
     rw[e]at h1
     show match T3 m (kF P draw call n nt x) t1 qn with| .bad=>_| .norm _ _=>_| .ret _ _=>_| .exit _ _ _=>_
     cases e2:T3 m (kF P draw call n nt x) t1 qn with
     |bad=>exact trivial
     |norm t2 h2=>
      intro K
      refine h1 fun g1 w1 a1 E1 H1 T1 D1=>?_
      have:=ih g1 w1 t1 qn a1 H1 T1 D1
      rw[e2]at this
      exact this (ra.then E1 K)
     |ret t2 h2=>
      intro K
      refine h1 fun g1 w1 a1 E1 H1 T1 D1=>?_
      have:=ih g1 w1 t1 qn a1 H1 T1 D1
      rw[e2]at this
      exact this (ra.then E1 K)
     |exit i t2 h2=>
      intro K
      refine h1 fun g1 w1 a1 E1 H1 T1 D1=>?_
      have:=ih g1 w1 t1 qn a1 H1 T1 D1
      rw[e2]at this
      exact this (ra.then E1 K)
  have:=key n g w t h a H T D
  cases e:T3 n (kF P draw call n nt x) t h<;>rw[e]at this
  ·exact trivial
  all_goals exact fun K=>wp_loop_rounds n (this K)
 |rangeFunc f ps x y _ _=>exact Ac
 |exit i=>
  intro g w t h a Q H T D K
  exact wp_exit (K g w a (Ext.refl _ _ _) H T D)
 |scope x _=>exact Ac
 |label l=>exact Ac
 |goto l=>exact Ac
 |ret=>
  intro g w t h a Q H T D K
  exact wp_ret (K g w a (Ext.refl _ _ _) H T D)
 |refuse s=>exact Ac
end
end Go.Ab
