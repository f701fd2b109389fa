import Derived.Test.YtjeanplhkkpdmaaGreatDoorAb6
import Derived.Laws.BytesArg
import Derived.Laws.IdiomStrings
import Derived.Laws.StructEq
import Derived.LoopN
noncomputable section
namespace Go.Ab
variable [Io]
section
variable {P:Program}{o:Oper}
theorem abO{g w h}(H:HR g w h){w':World}(h1:w'.os=w.os)(h2:w'.tape=w.tape)(h3:w'.output=w.output)(h4:w'.heap.size=w.heap.size+1)
 (h5: ∀ b,b<w.heap.size->w'.heap[b]? =w.heap[b]?):
 Ext g w h ⟨g.m,fun b=>g.mM b∨b=w.heap.size⟩ w' h/\HR ⟨g.m,fun b=>g.mM b∨b=w.heap.size⟩ w' h:=by
 have aFu: ∀ b,qM g h b->b<w.heap.size:=by
  rintro b ⟨id,cs,s,e,m⟩;obtain⟨_,_,_,hw,_⟩:=H.row e m;exact(Array.getElem?_eq_some_iff.1 hw).1
 have E:Ext g w h ⟨g.m,fun b=>g.mM b∨b=w.heap.size⟩ w' h:=by
  refine⟨h1,h2,h3,by omega,Nat.le_refl _,fun _ _ e=>e,fun b hb _=>h5 b hb,?_,fun _ i=>.inl i,?_,fun _ o=>.inl o⟩
  ·intro b;unfold kP;by_cases hb:b<w.heap.size
   ·rw[h5 b hb];exact Nat.le_refl _
   ·rw[Array.getElem?_eq_none (by omega)];exact Nat.zero_le _
  ·rintro b (i|rfl)
   ·exact .inl i
   ·exact .inr (.inr (Nat.le_refl _))
 refine⟨E,H.fresh,?_,H.inj,?_,vm.ext H E⟩
 ·intro id cs e;obtain⟨b,s,C,el,vs,hm,hw,hi,hv,hc⟩:=H.cz id cs e;have hb:=(Array.getElem?_eq_some_iff.1 hw).1;refine⟨b,s,C,el,vs,hm,by rw[h5 b hb];exact hw,?_,jy.mono H E _ _ hv,hc⟩;rintro(i|rfl)
  ·exact hi i
  ·omega
 ·rintro b (i|rfl)
  ·have:=H.mM b i;omega
  ·omega
def NX(s:ByteArray):List Value:=s.data.toList.map fun b=>Value.int .u8 (.ofNat b.toNat)
omit [Io] in
theorem RL(w:World)(e:TypeId)(s:ByteArray): ∃ cap w',∃ C:Array Value,∃ el:FT C,(Conv.stringToBytes e s).run P w=.ok (.slice (some ⟨w.heap.size,0,none⟩) s.size cap) w'/\s.size<=cap/\cap<=C.size/\
 w'.os=w.os/\w'.tape=w.tape/\w'.output=w.output/\w'.heap.size=w.heap.size+1/\(∀ b,w'.heap[b]? =if b=w.heap.size then some (.cells C el.el el.fz)else w.heap[b]?)/\(∀ (j:Nat) (v:Value),(NX s)[j]? =some v->C[j]? =some v):=by
 obtain⟨cap,Fh⟩: ∃ cap,cap=(Question.appendCap s.size 0 e).cut (w.tape w.drawn (.appendCap s.size 0 e)):=⟨_,rfl⟩
 have UW:s.size<=cap:=by rw[Fh];simp[Question.cut]
 obtain⟨C,hC⟩: ∃ C:Array Value,C=s.data.map (fun b=>Value.int .u8 (b.toNat:Int))++Array.replicate (cap - s.size) (.int .u8 0):=⟨_,rfl⟩
 have hCs:C.size=cap:=by rw[hC];simp;show s.size+_=_;omega
 refine⟨cap,(w.drew.alloc (.cells C e)).freeze {block:=w.heap.size,off:=C.size} 1,C,⟨e,(C.size,C.size+1),.inr (Nat.le_refl _)⟩,?_,UW,by omega,rfl,rfl,rfl,?_,?_,?_⟩
 ·have hsh:(w.drew.alloc (.cells C e)).shape? w.heap.size=some (e,C.size):=by
   have:((w.drew.alloc (.cells C e)).heap)[w.heap.size]? =some (.cells C e):=by
    show(w.heap.push _)[w.heap.size]? =_;simp
   simp only[World.shape?,this]
  simp[Conv.stringToBytes,run_choose,Question.forced,<-Fh,<-hC,newRow,markStringish,hsh]
 ·simp[World.freeze]
 ·intro b;have h1:((w.drew.alloc (.cells C e)).heap)[b]? =if b=w.heap.size then some (.cells C e)else w.heap[b]? :=by
   show(w.heap.push _)[b]? =_;rw[Array.getElem?_push]
  simp only[World.freeze,Nat.one_ne_zero,if_false];rw[Array.getElem?_modify,h1];by_cases hb:b=w.heap.size
  ·subst hb;rw[if_pos rfl,if_pos rfl,if_pos rfl];rfl
  ·rw[if_neg hb,if_neg hb,if_neg (by show ¬ w.heap.size=b;omega)]
 ·intro j v hj;unfold NX at hj;have hl:=(List.getElem?_eq_some_iff.1 hj).1;rw[hC,Array.getElem?_append_left (by simpa using hl)]
  simpa using hj
theorem jy.bytes(g:G)(w:World): ∀ (l:List UInt8),jy g w (l.map fun b=>AV.int .u8 (.ofNat b.toNat)) (l.map fun b=>Value.int .u8 (.ofNat b.toNat))
 | []=>by simp[jy]
 |b::l=>by
  simp only[List.map_cons,jy];exact⟨_,_,rfl,by simp only[VR],jy.bytes g w l⟩
theorem NY{S D e:TypeId}{d:TypeDesc}{x:Operand}(ho:o.op=.convert S D x)(hS:P.underlying S=some d)(hD:P.underlying D=some (.slice e))(he:P.underlying e=some (.int .u8)):
 tL P o (wJ (cD x)):=by
 intro g w nt t h a v h' H Tr ev;unfold wJ at ev;split at ev
 ·rename_i s hx
  have hv:=cH x _ _ _ _ _ _ Tr hx;simp only[VR]at hv;cases ev;obtain⟨hv,_⟩:=hv;obtain⟨cap,w',C,el,hr,UW,hcC,h1,h2,h3,h4,h5,hc⟩:=RL (P:=P) w e s;obtain⟨E,H'⟩:=KZ H el h1 h2 h3 h4 h5 (cs:=Ee (s.data.toList.map fun b=>.int .u8 (.ofNat b.toNat))) (vs:=NX s) (by rw[pj];exact jy.bytes g w s.data.toList) hc;refine⟨_,w',.value (.slice (some ⟨w.heap.size,0,none⟩) s.size cap),_,?_,.inl rfl,E,H',?_⟩
  ·simp[execOp,ho,hv,convert,run_underlying hS,run_underlying hD,run_underlying he,hr]
  ·simp only[VR];refine .inr ⟨w.heap.size,0,cap,by simp[G.add],rfl,UW,?_⟩
   have:w'.heap[w.heap.size]? =some (.cells C el.el el.fz):=by rw[h5,if_pos rfl]
   rw[qv this];omega
 ·cases ev
theorem Lg{g:G}{w:World}: ∀ {cs:List AV} {l:List Int} {vs:List Value},E5 cs=some l->jy g w cs vs->vs=l.map (Value.int .u8)
 | [],l,vs,e,hv=>by
  cases e;simp only[jy]at hv;subst hv;rfl
 |a::cs,l,vs,e,hv=>by
  simp only[jy]at hv;obtain⟨u,us,rfl,h1,h2⟩:=hv;cases a with
  |int k n=>
   cases k with
   |u8=>
    change (match E5 cs with|some r=>some (n::r)|none=>none)=some l at e
    split at e
    ·rename_i r hr
     cases e;simp only[VR]at h1;rw[h1,Lg hr h2];rfl
    ·cases e
   | _=>cases e
  | _=>cases e
theorem RM{S D e:TypeId}{x:Operand}(ho:o.op=.convert S D x)(hS:P.underlying S=some (.slice e))(he:P.underlying e=some (.int .u8))(hD:P.underlying D=some .string):
 jE P o (GZ (cD x)):=by
 intro g w nt t h a v h' H Tr ev;unfold GZ at ev;split at ev
 ·rename_i b hx
  have hv:=ov x _ _ _ _ _ _ Tr hx;split at ev
  ·rename_i n cs hs
   split at ev
   ·rename_i l hl
    cases hn:Nat.beq (len l) n with
    |false=>rw[hn]at ev;cases ev
    |true=>
     rw[hn]at ev;cases ev;have hn:=Nat.eq_of_beq_eq_true hn;rw[jH]at hn;obtain⟨ad,c,hve,hc,hr⟩:=vN H hv hs;refine⟨rfl,.string (KW l),?_,by simp only[VR];exact⟨trivial,rfl⟩⟩;have key:(convert S D (.slice ad n c)).run P w=.ok (.string (KW l)) w:=by
      rcases hr with rfl|⟨bk,s,vs,rfl,lP,vL⟩
      ·cases hl;cases ad with
       |none=>exact run_convert_bytes_nil w S e hS he n c D hD
       |some ad=>
        have hn:0=n:=hn;subst hn;exact run_convert_bytes_back w S D e ad c [] hS he hD (fun j hj=>absurd hj (Nat.not_lt_zero j))
      ·refine run_convert_bytes_arg w S e hS he bk s n c l hn (fun i hi=>?_) D hD;have hvl:=Lg hl lP;subst hvl;refine vL i _ ?_;rw[List.getElem?_map,List.getElem?_eq_getElem (by omega),List.getD_eq_getElem?_getD,List.getElem?_eq_getElem (by omega)];rfl
     simp[execOp,ho,hve,key]
   ·cases ev
  ·cases ev
 ·cases ev
theorem RO{D e:TypeId}{x:Operand}(ho:o.op=.convert D D x)(hD:P.underlying D=some (.slice e))(he:P.underlying e=some (.int .u8)):tL P o (zC (cD x)):=by
 intro g w nt t h a v h' H Tr ev;unfold zC at ev;split at ev
 ·rename_i id off n sz hx
  have hv:=cH x _ _ _ _ _ _ Tr hx;have yJ:=hv;cases hn:Nat.beq n 0 with
  |true=>rw[hn]at ev;cases ev
  |false=>
  rw[hn]at ev;simp only[cond_false]at ev;split at ev
  ·rename_i cs hg
   cases ev;simp only[VR]at hv
   rcases hv with⟨rfl,_⟩|⟨b,s,cap,hm,hv,hc,_⟩
   ·cases hn
   obtain⟨C,el,vs,hw,hi,lP,hcc⟩:=H.row hg hm
   have hsh:w.shape? b=some (el.el,C.size):=by simp only[World.shape?,hw]
   have hok:=el.ok';obtain⟨E,H'⟩:=UU H (w':=w.freeze {block:=b,off:=C.size} 1) (el:=el) (el':=⟨el.el,if el.fz.1 == el.fz.2 then(C.size,C.size+1)else(min el.fz.1 C.size,max el.fz.2 (C.size+1)),by
    by_cases h0:el.fz.1=el.fz.2
    ·simp[h0]
    ·simp only[beq_iff_eq,h0,if_false];right;show C.size<=min el.fz.1 C.size;omega⟩) hg hm hw rfl rfl rfl (by simp[World.freeze]) (fun k=>by
    simp only[World.freeze,Nat.one_ne_zero,if_false];rw[Array.getElem?_modify];by_cases hk:k=b
    ·subst hk;rw[if_pos rfl,if_pos rfl,hw];rfl
    ·rw[if_neg hk,if_neg (fun q=>hk q.symm)])
   refine⟨g,_,.value (a.eval x),a.eval x,?_,.inl rfl,E,H',VR.mono H E _ _ yJ⟩;rw[hv];simp[execOp,ho,hv,convert,run_underlying hD,run_underlying he,markStringish,hsh]
  ·cases ev
 ·cases ev
omit [Io] in
theorem I2{P:Program}(t:TypeId)(w:World):(Instr.makeMap t none).run P w=.ok (.map (some w.heap.size)) (w.alloc (.map #[] 0)):=rfl
theorem UX{T:TypeId}(ho:o.op=.makeMap T none):tL P o Ru:=by
 intro g w nt t h a v h' H Tr ev;cases ev;obtain⟨E,H'⟩:=abO H (w':=w.alloc (.map #[] 0)) rfl rfl rfl (by show(w.heap.push _).size=_;rw[Array.size_push]) (fun b hb=>by
  show(w.heap.push _)[b]? =_
  rw[Array.getElem?_push,if_neg (by omega)])
 exact⟨_,_,.value (.map (some w.heap.size)),_,by simp[execOp,ho,I2],.inl rfl,E,H',by simp only[VR];rfl⟩
end
end Go.Ab
noncomputable section
namespace Go.Ab
variable [Io]
section
variable {P:Program}
theorem nr{op:BinOp}{T:TypeId}{f s:AV->AV->Option AV}(hf:j2 P op T f)
 (hs: ∀ (a b r:AV),s a b=some r->(∀ (g:G) (w:World) (u v:Value),VR g w a u->VR g w b v-> ∃ k m k' n r0,u=.int k m/\v=.int k' n/\f (.int k m) (.int k' n)=some r0/\ ∀ z,VR g w r0 z->VR g w r z)):
 j2 P op T (DP f s):=by
 intro g w a b r u v ha hb h;unfold DP at h;cases hr:f a b with
 |some r'=>
  rw[hr]at h;cases h;exact hf g w a b r u v ha hb hr
 |none=>
  rw[hr]at h;obtain⟨k,m,k',n,r0,rfl,rfl,h1,h2⟩:=hs a b r h g w u v ha hb;obtain⟨z,hz,hv,hg⟩:=hf g w (.int k m) (.int k' n) r0 (.int k m) (.int k' n) (by simp only[VR]) (by simp only[VR]) h1;exact⟨z,hz,h2 z hv,hg⟩
def ays(f s:AV->AV->Option AV):Prop:= ∀ (a b r:AV),s a b=some r->(∀ (g:G) (w:World) (u v:Value),VR g w a u->VR g w b v-> ∃ k m k' n r0,u=.int k m/\v=.int k' n/\f (.int k m) (.int k' n)=some r0/\ ∀ z,VR g w r0 z->VR g w r z)
theorem sP{f:AV->AV->Option AV}:ays f KK:=by
 intro a b r h;cases h
omit [Io] in
theorem awX{a b:Int}:sB a b=true↔a<b:=by rw[pL];simp
omit [Io] in
theorem abP{a b:Int}:sB a b=false↔b<=a:=by rw[pL];simp
omit [Io] in
theorem nu{a b:Int}:eqI a b=true↔a=b:=by rw[CH];simp
omit [Io] in
theorem awY(m n:Int):eqI m n=decide (m=n):=by
 by_cases e:m=n
 ·rw[nu.2 e];simp[e]
 ·rw[show eqI m n=false from by rw[Bool.eq_false_iff];exact fun h=>e (nu.1 h)];simp[e]
omit [Io] in
theorem Lh{l:List Nat}: ∀ {m:List Nat},CD l m=true↔l=m:=by
 induction l with
 |nil=>intro m;cases m<;>simp[CD]
 |cons a l ih=>
  intro m;cases m with
  |nil=>simp[CD]
  |cons b m=>
   show(bif Nat.beq a b then CD l m else false)=true↔_;cases e:Nat.beq a b with
   |true=>
    rw[Nat.eq_of_beq_eq_true e];show CD l m=true↔_;rw[ih];simp
   |false=>
    have:a≠b:=fun e'=>by subst e';rw[Nat.beq_refl]at e;cases e
    simp[this]
omit [Io] in
theorem RP{a b:SV}(h:vH a b=true):a=b:=by
 cases a<;>cases b<;>simp[vH,nu,Lh]at h<;>simp[h]
omit [Io] in
theorem UY{a:SV}: ∀ {b:SV},NG a b=true->a=b:=by
 induction a with
 |tm f k k' a oa b ob Aa EN=>
  intro y h;cases y with
  |tm f2 k2 k2' a2 oa2 b2 ob2=>
   change (Nat.beq f f2&&(qf k k2&&(qf k' k2'&&(eqI oa oa2&&(eqI ob ob2&&(NG a a2&&NG b b2))))))=true at h
   simp only[Bool.and_eq_true]at h;obtain⟨h1,h2,h3,h4,h5,h6,h7⟩:=h;rw[Nat.eq_of_beq_eq_true h1,l8.1 h2,l8.1 h3,nu.1 h4,nu.1 h5,Aa h6,EN h7]
  | _=>cases h
 |ix l a o Aa=>
  intro y h;cases y with
  |ix l2 a2 o2=>
   change (CD l l2&&(eqI o o2&&NG a a2))=true at h
   simp only[Bool.and_eq_true]at h;obtain⟨h1,h2,h3⟩:=h;rw[Lh.1 h1,nu.1 h2,Aa h3]
  | _=>cases h
 | _=>intro y h;exact RP h
omit [Io] in
theorem arN{f:IntKind->Int->Int->Option AV}{k:IntKind}{m n:Int}:uG f (.int k m) (.int k n)=f k m n:=by
 unfold uG;simp only[l8.2 rfl,cond_true]
omit [Io] in
theorem jI{α:Type}{b:Bool}{x:Option α}{r:α}(h:(bif b then x else none)=some r):b=true/\x=some r:=by
 cases b
 ·cases h
 ·exact⟨rfl,h⟩
theorem aj'{a b:AV}{c:Bool}(h:eqS a b=some c){g:G}{w:World}{u v:Value}(ha:VR g w a u)(hb:VR g w b v): ∃ k m n,u=.int k m/\v=.int k n/\c=decide (m=n):=by cases h
theorem UZ{a b:AV}{c:Bool}(h:Up a b=some c){g:G}{w:World}{u v:Value}(ha:VR g w a u)(hb:VR g w b v): ∃ k m n,u=.int k m/\v=.int k n/\c=decide (m<n):=by cases h
theorem U0(T:TypeId):j2 P .add T pF:=nr (abf T) sP
theorem U1(T:TypeId):j2 P .sub T oM:=nr (abg T) sP
theorem U2(T:TypeId):j2 P .and T vI:=nr (abu T) sP
theorem U3(T:TypeId):j2 P .or T EO:=nr (aj0 T) sP
theorem U4(T:TypeId):j2 P .xor T EP:=nr (abv T) sP
theorem U5(T:TypeId):j2 P .shl T tG:=nr (abw T) sP
theorem U6(T:TypeId):j2 P .shr T A8:=nr (abx T) sP
theorem U7(T:TypeId):j2 P .lss T qJ:=nr (abk T) sP
theorem U8(T:TypeId):j2 P .gtr T pT:=nr (abl T) sP
theorem U9(T:TypeId):j2 P .leq T tF:=nr (abm T) sP
theorem U'(T:TypeId):j2 P .geq T pG:=nr (abn T) sP
theorem Va(T:TypeId):j2 P .rem T zy:=nr (abj T) sP
theorem Vb(T:TypeId):j2 P .quo T qt:=nr (abi T) sP
theorem Vc(T:TypeId):j2 P .mul T pS:=nr (abh T) sP
theorem Ve(T:TypeId):j2 P .eql T (Du false):=nr (abo T) sP
theorem Vf(T:TypeId):j2 P .neq T (Du true):=nr (abp T) sP
theorem abQ{k:IntKind}{b v:AV}{g:G}{w:World}{u:Value}(hf:EX k b=some v)(hv:VR g w b u): ∃ k' m r0,u=.int k' m/\Uq k (.int k' m)=some r0/\ ∀ z,VR g w r0 z->VR g w v z:=by
 unfold EX art at hf;cases hr:Uq k b with
 |some r=>
  rw[hr]at hf;cases hf;unfold Uq at hr;split at hr
  ·cases hr;simp only[VR]at hv;exact⟨_,_,_,hv,rfl,fun z h=>h⟩
  ·cases hr
 |none=>
  rw[hr]at hf;cases hf
theorem NZ{o:Oper}{S D:TypeId}{d:TypeDesc}{k:IntKind}{x:Operand}(ho:o.op=.convert S D x)(hS:P.underlying S=some d)(hD:P.underlying D=some (.int k)):
 jE P o (KV (EX k) (cD x)):=by
 intro g w nt t h a v h' H Tr e;obtain⟨b,hb,hf,rfl⟩:=Bj e;have hv:=cH x _ _ _ _ _ _ Tr hb;obtain⟨k',m,r0,yJ,hr,hz⟩:=abQ hf hv;cases hr;exact⟨rfl,.int k (k.wrap m),by simp[execOp,ho,yJ,convert,run_underlying hS,run_underlying hD,Conv.intToInt],hz _ (by simp only[VR,r8])⟩
theorem Vg{x y:Operand}{Af:Array TypeId}{o:Oper}(ho:o.op=.call {callee:=.builtin .min,args:= #[x,y],argTypes:=Af}):jE P o (G2 (cD x) (cD y)):=by
 intro g w nt t h a v h' H Tr e;unfold G2 xF at e;cases hx:cD x t with
 |none=>rw[hx]at e;cases e
 |some ax=>
  cases hy:cD y t with
  |none=>rw[hx,hy]at e;cases e
  |some ay=>
   rw[hx,hy]at e;have h3:=cH x _ _ _ _ _ _ Tr hx;have h4:=cH y _ _ _ _ _ _ Tr hy;unfold DP at e;cases hr:uG (fun k a b=>some (.int k (bif sB b a then b else a))) ax ay with
   |some r=>
    simp only[hr]at e;cases e;obtain⟨k,m,n,rfl,rfl,h2⟩:=CI hr;cases h2;simp only[VR]at h3 h4;refine⟨rfl,.int k (if n<m then n else m),by simp[execOp,ho,resolve,invoke,builtin,Builtin.min_,Builtin.min2,h3,h4],?_⟩;simp only[VR,pL];by_cases nM:n<m<;>simp[nM]
   |none=>
    simp only[hr]at e;cases hl:Up ay ax with
    |none=>rw[hl]at e;cases e
    |some c=>
     rw[hl]at e;cases e;obtain⟨k,p,q,e1,e2,rfl⟩:=UZ hl h4 h3;have hex:(execOp a.eval o).run P w=.ok (.value (.int k (if p<q then p else q))) w:=by
      simp[execOp,ho,resolve,invoke,builtin,Builtin.min_,Builtin.min2,e1,e2]
     refine⟨rfl,_,hex,?_⟩;by_cases nM:p<q
     ·simp only[nM,decide_true,cond_true,if_true,gt_iff_lt];rw[e1]at h4;exact h4
     ·simp only[nM,decide_false,cond_false,if_false,gt_iff_lt];rw[e2]at h3;exact h3
theorem Vh{x y:Operand}{Af:Array TypeId}{o:Oper}(ho:o.op=.call {callee:=.builtin .max,args:= #[x,y],argTypes:=Af}):jE P o (G3 (cD x) (cD y)):=by
 intro g w nt t h a v h' H Tr e;unfold G3 xF at e;cases hx:cD x t with
 |none=>rw[hx]at e;cases e
 |some ax=>
  cases hy:cD y t with
  |none=>rw[hx,hy]at e;cases e
  |some ay=>
   rw[hx,hy]at e;have h3:=cH x _ _ _ _ _ _ Tr hx;have h4:=cH y _ _ _ _ _ _ Tr hy;unfold DP at e;cases hr:uG (fun k a b=>some (.int k (bif sB a b then b else a))) ax ay with
   |some r=>
    simp only[hr]at e;cases e;obtain⟨k,m,n,rfl,rfl,h2⟩:=CI hr;cases h2;simp only[VR]at h3 h4;refine⟨rfl,.int k (if n>m then n else m),by simp[execOp,ho,resolve,invoke,builtin,Builtin.max_,Builtin.max2,h3,h4],?_⟩;simp only[VR,pL];by_cases nM:m<n<;>simp[nM]
   |none=>
    simp only[hr]at e;cases hl:Up ax ay with
    |none=>rw[hl]at e;cases e
    |some c=>
     rw[hl]at e;cases e;obtain⟨k,p,q,e1,e2,rfl⟩:=UZ hl h3 h4;have hex:(execOp a.eval o).run P w=.ok (.value (.int k (if q>p then q else p))) w:=by
      simp[execOp,ho,resolve,invoke,builtin,Builtin.max_,Builtin.max2,e1,e2]
     refine⟨rfl,_,hex,?_⟩;by_cases nM:p<q
     ·simp only[nM,decide_true,cond_true,if_true,gt_iff_lt];rw[e2]at h4;exact h4
     ·simp only[nM,decide_false,cond_false,if_false,gt_iff_lt];rw[e1]at h3;exact h3
end
end Go.Ab
noncomputable section
namespace Go.Ab
variable [Io]
section
variable {P:Program}
def scalars(P:Program)(n:Nat)(l:List Field):Option (List Bool):=
 List.rec (fun _=>some []) (fun f _ ih n=>bif Nat.beq f.offset n&& !(decide (f.name= "_"))then
  (match P.info? f.type with
  |some i=>bif Nat.beq i.size 1 then
   (match P.underlying f.type with
   |some (.int _)=>(match ih (Nat.add n 1)with|some r=>some (true::r)|none=>none)
   |some .bool=>(match ih (Nat.add n 1)with|some r=>some (false::r)|none=>none)
   | _=>none)else none
  |none=>none)else none) l n
theorem Vi{i:Bool}{x y:AV}{c:Bool}(h:eq1 i x y=some c){g:G}{w:World}{u v:Value}(hx:VR g w x u)(hy:VR g w y v){T:TypeId}{d:Nat}
 (hT:(i=true/\ ∃ k,P.underlying T=some (.int k))∨(i=false/\P.underlying T=some .bool)):(Op.equalIn (d+1) T u v).run P w=.ok c w:=by
 rcases hT with⟨rfl,k,hT⟩|⟨rfl,hT⟩
 ·change (match(generalizing:=false) x,y with| .int k a,.int k' b=>bif qf k k' then some (eqI a b)else none| _,_=>eqS x y)=some c at h
  split at h
  ·rename_i k1 a k2 b
   cases e:qf k1 k2 with
   |false=>rw[e]at h;cases h
   |true=>
    rw[e]at h;cases h;obtain rfl:=l8.1 e;simp only[VR]at hx hy;subst hx;subst hy;rw[run_equalIn_int w d T k1 k a b hT,CH]
  ·obtain⟨k1,m,n,rfl,rfl,rfl⟩:=aj' h hx hy;rw[run_equalIn_int w d T k1 k m n hT];congr 1
 ·change (match(generalizing:=false) x,y with| .bool a,.bool b=>some (!(xor a b))| _,_=>none)=some c at h
  split at h
  ·rename_i a b
   cases h;simp only[VR]at hx hy;subst hx;subst hy;rw[run_equalIn_bool' w d T a b hT];cases a<;>cases b<;>rfl
  ·cases h
omit [Io] in
theorem Bm{T:TypeId}{td:TypeDesc}{i:TypeInfo}{vs:Array Value}{n:Nat}{v:Value}{w:World}(hd:P.underlying T=some td)(ha:qQ td=false)(hv:vs[n]? =some v):
 (Go.part T vs n).run P w=.ok v w:=by
 unfold Go.part;simp only[Sem.run_bind,vK hd,ha,Result.andThen_ok];simp[hv]
theorem DB{g:G}{w:World}(d:Nat): ∀ (fs:List Field) (n:Nat) (l:List Bool) (xs ys:List AV) (us vs:Array Value) (c:Bool),scalars P n fs=some l->GX l xs ys=some c->
 jy g w xs (us.toList.drop n)->jy g w ys (vs.toList.drop n)->(Op.eqFields (d+1) us vs fs).run P w=.ok c w
 | [],n,l,xs,ys,us,vs,c,hs,e,hx,hy=>by
  cases hs;cases e;simp[Op.eqFields]
 |f::fs,n,l,xs,ys,us,vs,c,hs,e,hx,hy=>by
  change (bif Nat.beq f.offset n&& !(decide (f.name= "_"))then
   (match P.info? f.type with
   |some i=>bif Nat.beq i.size 1 then
    (match P.underlying f.type with
    |some (.int _)=>(match scalars P (n+1) fs with|some r=>some (true::r)|none=>none)
    |some .bool=>(match scalars P (n+1) fs with|some r=>some (false::r)|none=>none)
    | _=>none)else none
   |none=>none)else none)=some l at hs
  replace hs:=jI hs
  obtain⟨h0,hs⟩:=hs;rw[Bool.and_eq_true]at h0;have arO:f.offset=n:=Nat.eq_of_beq_eq_true h0.1
  have arP:f.name≠ "_" :=by simpa using h0.2
  split at hs
  ·replace hs:=jI hs
   obtain⟨_,hs⟩:=hs
   have key: ∀ (i:Bool) (r:List Bool) (td:TypeDesc),P.underlying f.type=some td->qQ td=false->scalars P (n+1) fs=some r->l=i::r->
    ((i=true/\ ∃ k,P.underlying f.type=some (.int k))∨(i=false/\P.underlying f.type=some .bool))->(Op.eqFields (d+1) us vs (f::fs)).run P w=.ok c w:=by
    intro i r td htd arQ hr hl hT;subst hl
    change (match(generalizing:=false) xs with
     | []=>none
     |x::xs=>match(generalizing:=false) ys with
      | []=>none
      |y::ys=>match eq1 i x y with
       |none=>none
       |some c=>(Bool.rec (some false) (GX r xs ys) c:Option Bool))=some c at e
    cases xs with
    |nil=>cases e
    |cons x xs=>
    cases ys with
    |nil=>cases e
    |cons y ys=>
    simp only at e;cases h1:eq1 i x y with
    |none=>rw[h1]at e;cases e
    |some c1=>
    rw[h1]at e;simp only[jy]at hx hy;obtain⟨u,us',hu,hxu,hxs⟩:=hx;obtain⟨v,vs',hv,hyv,hys⟩:=hy;have hu0:us[n]? =some u:=by
     have:(us.toList.drop n)[0]? =some u:=by rw[hu];rfl
     simpa using this
    have hv0:vs[n]? =some v:=by
     have:(vs.toList.drop n)[0]? =some v:=by rw[hv];rfl
     simpa using this
    have hu1:us.toList.drop (n+1)=us':=by rw[<-List.drop_drop,hu];rfl
    have hv1:vs.toList.drop (n+1)=vs':=by rw[<-List.drop_drop,hv];rfl
    have pu:(Go.part f.type us f.offset).run P w=.ok u w:=by rw[arO];exact Bm (i:=default) htd arQ hu0
    have pv:(Go.part f.type vs f.offset).run P w=.ok v w:=by rw[arO];exact Bm (i:=default) htd arQ hv0
    simp only[Op.eqFields,if_pos arP,Sem.run_bind,pu,pv,Result.andThen_ok,Vi (P:=P) (d:=d) h1 hxu hyv hT];cases c1 with
    |false=>cases e;simp
    |true=>
     simp only[Bool.not_true,Bool.false_eq_true,if_false];exact DB d fs (n+1) r xs ys us vs c hr e (by rw[hu1];exact hxs) (by rw[hv1];exact hys)
   split at hs
   ·rename_i k hT
    split at hs
    ·rename_i r hr;cases hs;exact key true r _ hT rfl hr rfl (.inl ⟨rfl,_,hT⟩)
    ·cases hs
   ·rename_i hT
    split at hs
    ·rename_i r hr;cases hs;exact key false r _ hT rfl hr rfl (.inr ⟨rfl,hT⟩)
    ·cases hs
   ·cases hs
  ·cases hs
omit [Io] in
theorem CN{neg:Bool}{l:List Bool}{x y r:AV}(h:ER neg l x y=some r): ∃ xs ys c,x=.agg xs/\y=.agg ys/\GX l xs ys=some c/\r=.bool (bif neg then !c else c):=by
 unfold ER at h;split at h
 ·rename_i xs
  split at h
  ·rename_i ys
   split at h
   ·rename_i c hc
    cases h;exact⟨xs,ys,c,rfl,rfl,hc,rfl⟩
   ·cases h
  ·cases h
 ·cases h
theorem PR{T:TypeId}{fs:Array Field}{l:List Bool}(hT:P.underlying T=some (.struct fs))(hs:P.stoodInHeld T=false)(hl:scalars P 0 fs.toList=some l){g:G}{w:World}
 {xs ys:List AV}{c:Bool}(hc:GX l xs ys=some c){us vs:Array Value}(hx:jy g w xs us.toList)(hy:jy g w ys vs.toList):(Op.equalIn 10000 T (.agg us) (.agg vs)).run P w=.ok c w:=by
 have hf:P.fieldsOf T=fs:=by unfold Program.fieldsOf;rw[hT]
 refine(run_equalIn_struct w 9999 T us vs (by rw[hf];exact hT) hs).trans ?_;rw[hf];exact DB 9998 fs.toList 0 l xs ys us vs c hl hc (by simpa using hx) (by simpa using hy)
theorem abT{T:TypeId}{fs:Array Field}{l:List Bool}(hT:P.underlying T=some (.struct fs))(hs:P.stoodInHeld T=false)(hg:P.eqGuardType P.depth T=false)(hl:scalars P 0 fs.toList=some l):
 j2 P .eql T (ER false l):=by
 intro g w a b r u v ha hb h;obtain⟨xs,ys,c,rfl,rfl,hc,rfl⟩:=CN h;simp only[VR]at ha hb;obtain⟨us,rfl,hx⟩:=ha;obtain⟨vs,rfl,hy⟩:=hb;refine⟨.bool c,?_,by simp only[VR];rfl,fun x y=>run_eqGuard_agg w .eql T x y us vs hg⟩;rw[run_eql_struct,PR hT hs hl hc hx hy];rfl
theorem abU{T:TypeId}{fs:Array Field}{l:List Bool}(hT:P.underlying T=some (.struct fs))(hs:P.stoodInHeld T=false)(hg:P.eqGuardType P.depth T=false)(hl:scalars P 0 fs.toList=some l):
 j2 P .neq T (ER true l):=by
 intro g w a b r u v ha hb h;obtain⟨xs,ys,c,rfl,rfl,hc,rfl⟩:=CN h;simp only[VR]at ha hb;obtain⟨us,rfl,hx⟩:=ha;obtain⟨vs,rfl,hy⟩:=hb;refine⟨.bool (!c),?_,by simp only[VR];rfl,fun x y=>run_eqGuard_agg w .neq T x y us vs hg⟩;rw[run_neq_struct,PR hT hs hl hc hx hy];rfl
theorem HN{T e:TypeId}{n:Nat}{k:IntKind}(ht:P.underlying T=some (.array n e))(he:P.underlying e=some (.int k))(wH: ∀ w,(sizeOf e).run P w=.ok 1 w){g:G}{w:World}{xs ys:List AV}{c:Bool}(hc:GX (List.replicate n true) xs ys=some c){us vs:Array Value}(hx:jy g w xs us.toList)(hy:jy g w ys vs.toList):
 (Op.equalIn 10000 T (.agg us) (.agg vs)).run P w=.ok c w:=by
 rw[show(10000:Nat)=9998+2 from rfl,Op.equalIn];simp only[Sem.run_bind,run_underlying ht,Result.andThen_ok,wH,Std.Legacy.Range.forIn_eq_forIn_range',Std.Legacy.Range.size,Nat.sub_zero,Nat.add_sub_cancel,Nat.div_one];rw[<-List.drop_zero (l:=us.toList)]at hx;rw[<-List.drop_zero (l:=vs.toList)]at hy;clear ht
 revert hx hy hc
 generalize 0=a
 induction n generalizing a xs ys with
 |zero=>
  intro hc hx hy;cases hc;simp
 |succ n ih=>
  intro hc hx hy;rw[List.replicate_succ]at hc
  change (match(generalizing:=false) xs with
   | []=>none
   |x::xs=>match(generalizing:=false) ys with
    | []=>none
    |y::ys=>match eq1 true x y with
     |none=>none
     |some c=>(Bool.rec (some false) (GX (List.replicate n true) xs ys) c:Option Bool))=some c at hc
  cases xs with
  |nil=>cases hc
  |cons x xs=>
  cases ys with
  |nil=>cases hc
  |cons y ys=>
  simp only at hc;cases h1:eq1 true x y with
  |none=>rw[h1]at hc;cases hc
  |some c1=>
  rw[h1]at hc;simp only[jy]at hx hy;obtain⟨u,us',hu,hxu,hxs⟩:=hx;obtain⟨v,vs',hv,hyv,hys⟩:=hy;have hu0:us[a]? =some u:=by
   have:(us.toList.drop a)[0]? =some u:=by rw[hu];rfl
   simpa using this
  have hv0:vs[a]? =some v:=by
   have:(vs.toList.drop a)[0]? =some v:=by rw[hv];rfl
   simpa using this
  have hu1:us.toList.drop (a+1)=us':=by rw[<-List.drop_drop,hu];rfl
  have hv1:vs.toList.drop (a+1)=vs':=by rw[<-List.drop_drop,hv];rfl
  have pu:(Go.part e us (a*1)).run P w=.ok u w:=by rw[Nat.mul_one];exact Bm (i:=default) he rfl hu0
  have pv:(Go.part e vs (a*1)).run P w=.ok v w:=by rw[Nat.mul_one];exact Bm (i:=default) he rfl hv0
  rw[List.range'_succ];simp only[List.forIn_cons,Sem.run_bind,pu,pv,Result.andThen_ok,Vi (P:=P) (d:=9998) h1 hxu hyv (.inl ⟨rfl,k,he⟩)];cases c1 with
  |false=>cases hc;simp
  |true=>
   simp only[Bool.not_true,Bool.false_eq_true,if_false,Sem.run_pure,Result.andThen_ok];exact ih (a+1) hc (by rw[hu1];exact hxs) (by rw[hv1];exact hys)
theorem PS{T e:TypeId}{n:Nat}{k:IntKind}{i:TypeInfo}(ht:P.underlying T=some (.array n e))(hg:P.eqGuardType P.depth T=false)(hi:P.info? e=some i)(hs:i.size=1)(he:P.underlying e=some (.int k)):j2 P .eql T (ER false (List.replicate n true))/\j2 P .neq T (ER true (List.replicate n true)):=by
 have wH: ∀ w,(sizeOf e).run P w=.ok 1 w:=fun w=>by simp[sizeOf,typeInfo,hi,hs]
 refine⟨?_,?_⟩<;>
 ·intro g w a b r u v ha hb h;obtain⟨xs,ys,c,rfl,rfl,hc,rfl⟩:=CN h;simp only[VR]at ha hb;obtain⟨us,rfl,hx⟩:=ha;obtain⟨vs,rfl,hy⟩:=hb;refine⟨_,?_,by simp only[VR];rfl,fun x y=>run_eqGuard_agg w _ T x y us vs hg⟩
  first
   |(rw[run_eql_struct,HN ht he wH hc hx hy];rfl)
   |(rw[run_neq_struct,HN ht he wH hc hx hy];rfl)
def Li(P:Program)(neg:Bool)(T:TypeId):Option (AV->AV->Option AV):=match P.underlying T with
 |some (.struct fs)=>match P.stoodInHeld T with
  |false=>match P.eqGuardType P.depth T with
   |false=>match scalars P 0 fs.toList with
    |some l=>some (ER neg l)
    |none=>none
   |true=>none
  |true=>none
 |some (.array n e)=>match P.eqGuardType P.depth T with
  |false=>match P.info? e with
   |some i=>match Nat.beq i.size 1 with
    |true=>match P.underlying e with
     |some (.int _)=>some (ER neg (List.replicate n true))
     | _=>none
    |false=>none
   |none=>none
  |true=>none
 | _=>none
theorem PT{T:TypeId}{f:AV->AV->Option AV}{neg:Bool}(h:Li P neg T=some f):j2 P (match neg with|true=>.neq|false=>.eql) T f:=by
 unfold Li at h;split at h
 ·rename_i fs hT
  split at h
  ·rename_i hs
   split at h
   ·rename_i hg
    split at h
    ·rename_i l hl
     cases h;cases neg
     ·exact abT hT hs hg hl
     ·exact abU hT hs hg hl
    ·cases h
   ·cases h
  ·cases h
 ·rename_i n e hT
  split at h
  ·rename_i hg
   split at h
   ·rename_i i hi
    split at h
    ·rename_i hs
     split at h
     ·rename_i k he
      cases h;cases neg
      ·exact(PS hT hg hi (Nat.eq_of_beq_eq_true hs) he).1
      ·exact(PS hT hg hi (Nat.eq_of_beq_eq_true hs) he).2
     ·cases h
    ·cases h
   ·cases h
  ·cases h
 ·cases h
theorem PU{T:TypeId}{f:AV->AV->Option AV}(h:Li P false T=some f):j2 P .eql T f:=PT h
theorem PV{T:TypeId}{f:AV->AV->Option AV}(h:Li P true T=some f):j2 P .neq T f:=PT h
end
end Go.Ab
noncomputable section
namespace Go.Ab
variable [Io]
section
variable {P:Program}{o:Oper}
omit [Io] in
theorem run_copy_none(w:World)(dT sT ty elem:TypeId)(i:TypeInfo)(hu:P.underlying dT=some (.slice elem))(hi:P.info? elem=some i)(d x:Option Addr)(RQ akb jY lG:Nat)(hn:Nat.min jY RQ=0):
 (Builtin.copy_ #[dT,sT] ty #[.slice d RQ akb,.slice x jY lG]).run P w=.ok (.int .i64 (Int.ofNat 0)) w:=by
 have hl: ∀ a:Addr,(loadCells a 0).run P w=.ok #[] w:=fun a=>run_loadCells_list (P:=P) w a [] (by simp)
 cases d<;>cases x<;>simp[Builtin.copy_,run_underlying hu,Builtin.lenOf,Builtin.firstCells,sizeOf,typeInfo,hi,hn,hl,storeCells,goInt]
omit [Io] in
theorem G8(w:World)(dT sT ty elem:TypeId)(i:TypeInfo)(hu:P.underlying dT=some (.slice elem))(hi:P.info? elem=some i)(g o RQ akb:Nat)(a:Addr)(jY lG:Nat)(cur:Array Value)(t:FT cur)(cs:List Value)
 (hg:w.heap[g]? =some (.cells cur t.el t.fz))(hn:cs.length=Nat.min jY RQ*i.size)(ayx: ∀ j v,cs[j]? =some v->w.cell? (a.add j)=some v)(Ae:o+cs.length<=cur.size)(h1: ∀ v∈cs,v.oneCell'=true):
 (Builtin.copy_ #[dT,sT] ty #[.slice (some ⟨g,o,none⟩) RQ akb,.slice (some a) jY lG]).run P w=
  .ok (.int .i64 (Int.ofNat (Nat.min jY RQ))) (w.setRow g (cur.toList.take o++cs++cur.toList.drop (o+cs.length)).toArray):=by
 have hl:=run_loadCells_list (P:=P) w a cs ayx;have Ek:=lJ P g o t.el t.fz cs 0 cur w hg t.ok (by simpa using Ae) h1;simp[Builtin.copy_,run_underlying hu,Builtin.lenOf,Builtin.firstCells,sizeOf,typeInfo,hi,<-hn,hl,Ek,goInt]
def PW(P:Program)(T:TypeId)(d s:Operand):lO:=match P.underlying T with
 |some (.slice e)=>match P.info? e with
  |some i=>sO i.size (wO (cD d)) (wO (cD s))
  |none=>jL
 | _=>jL
theorem RR{T T':TypeId}{d s:Operand}(ho:o.op=.call {callee:=.builtin .copy,args:= #[d,s],argTypes:= #[T,T']}):tL P o (PW P T d s):=by
 intro g w nt t h a v h' H Tr e;unfold PW at e;cases hu:P.underlying T with
 |none=>rw[hu]at e;cases e
 |some dd=>
 rw[hu]at e
 cases dd<;>try (cases e;done)
 rename_i el
 simp only at e;cases hi:P.info? el with
 |none=>rw[hi]at e;cases e
 |some i=>
  rw[hi]at e
  change sO i.size (wO (cD d)) (wO (cD s)) t h=.ok v h' at e
  have hex: ∀ vd vs r w',a.eval d=vd->a.eval s=vs->(Builtin.copy_ #[T,T'] o.type #[vd,vs]).run P w=.ok r w'->(execOp a.eval o).run P w=.ok (.value r) w':=by
   intro vd vs r w' h1 h2 h3;unfold execOp;simp only[ho,resolve,invoke,builtin,Sem.run_bind,Sem.run_pure,Result.andThen_ok,List.map_toArray,List.map_cons,List.map_nil,h1,h2,h3]
  unfold sO at e;split at e
  ·rename_i hd
   split at e
   ·rename_i xv hs
    split at e
    ·rename_i p hsc
     cases e;have hvd:=ov d _ _ _ _ _ _ Tr hd;have lP:=ov s _ _ _ _ _ _ Tr hs;simp only[VR]at hvd;obtain⟨b,hde⟩:=hvd;obtain⟨n,cs⟩:=p;obtain⟨xa,xc,hxe,hxc,G6⟩:=sH H lP hsc;exact⟨g,w,_,_,hex _ _ _ _ hde hxe (run_copy_none w T T' o.type el i hu hi _ _ _ _ _ _ (Nat.min_zero _)),.inl rfl,Ext.refl _ _ _,H,by simp only[VR]⟩
    ·cases e
   ·cases e
  ·rename_i id off n sz hd
   split at e
   ·rename_i xv hs
    split at e
    ·rename_i m src hsc
     have hvd:=ov d _ _ _ _ _ _ Tr hd;have lP:=ov s _ _ _ _ _ _ Tr hs;obtain⟨xa,xc,hxe,hxc,G6⟩:=sH H lP hsc;simp only[VR]at hvd;rw[Bg]at e;cases hk:Nat.beq (min m n) 0 with
     |true=>
      rw[hk]at e;cases e;have hk0:Nat.min m n=0:=Nat.eq_of_beq_eq_true hk
      rcases hvd with⟨rfl,b,hde⟩|⟨b,s',cap,hm,hde,Fh,_⟩
      ·exact⟨g,w,_,_,hex _ _ _ _ hde hxe (run_copy_none w T T' o.type el i hu hi _ _ _ _ _ _ hk0),.inl rfl,Ext.refl _ _ _,H,by simp only[VR]⟩
      ·exact⟨g,w,_,_,hex _ _ _ _ hde hxe (run_copy_none w T T' o.type el i hu hi _ _ _ _ _ _ hk0),.inl rfl,Ext.refl _ _ _,H,by simp only[VR]⟩
     |false=>
      rw[hk]at e
      have hk0:min m n≠0:=fun k=>by rw[k]at hk;cases hk
      simp only[cond_false]at e;split at e
      ·rename_i cs hg
       cases hb:((Nat.blt 0 i.size&&(Nat.beq sz i.size&&(Nat.beq (len src) (Nat.mul m i.size)&&jC kN src)))&&Nat.ble (Nat.add off (Nat.mul (min m n) i.size)) cs.n)with
       |false=>rw[hb]at e;cases e
       |true=>
        rw[hb]at e;cases e;simp only[Bool.and_eq_true,jH]at hb;obtain⟨⟨b0,b1,b2,b3⟩,b4⟩:=hb;have b0:=jn.1 b0;obtain rfl:=Nat.eq_of_beq_eq_true b1;have b2:src.length=m*i.size:=Nat.eq_of_beq_eq_true b2;have b4:off+min m n*i.size<=cs.n:=Nat.le_of_ble_eq_true b4;have hmn:min m n*i.size<=m*i.size:=Nat.mul_le_mul_right _ (Nat.min_le_left m n)
        rcases hvd with⟨rfl,b,hde⟩|⟨b,s',cap,hm,hde,Fh,_⟩
        ·rw[Nat.min_zero]at hk0;exact absurd rfl hk0
        ·obtain⟨C,el',vs,hw,_,abV,hc⟩:=H.row hg hm
         rcases G6 with rfl|⟨xb,xs,us,rfl,KL,vL⟩
         ·exfalso;have hz:m*i.size=0:=b2.symm;have hp:0<min m n*i.size:=Nat.mul_pos (by omega) b0;omega
         ·have hul:=KL.length
          have NS:(us.take (min m n*i.size)).length=min m n*i.size:=by rw[List.length_take];omega
          have arU:(src.take (min m n*i.size)).length=min m n*i.size:=by rw[List.length_take];omega
          have Ad:s'+off+(us.take (min m n*i.size)).length<=C.size:=by
           rw[NS];have hp:0<min m n*i.size:=Nat.mul_pos (by omega) b0;have:=jy.xR abV hc (n:=off+min m n*i.size) (by rw[lI];exact b4) (by omega);omega
          have hr:=G8 (P:=P) w T T' o.type el i hu hi b (s'+off) n cap ⟨xb,xs,none⟩ m xc C el' (us.take (min m n*i.size)) hw NS (fun j v e=>by
           rw[List.getElem?_take]at e;split at e
           ·exact tO vL j v e
           ·cases e) Ad (fun v hv=>jy.NK KL b3 v (List.mem_of_mem_take hv))
          obtain⟨E,H'⟩:=HM H (C':=(C.toList.take (s'+off)++us.take (min m n*i.size)++C.toList.drop (s'+off+(us.take (min m n*i.size)).length)).toArray)
           hg hm hw (by simp at Ad ⊢;omega) (cs':=cs.put off (tk (Nat.mul (min m n) i.size) src)) (us:=vs.take off++(us.take (min m n*i.size)++vs.drop (off+(us.take (min m n*i.size)).length)))
           (by rw[xM];show jy g w (cs.put off (src.take (min m n*i.size))).toL _;rw[Be (by rw[arU];exact b4),put_eq,arU,NS];exact(abV.take _).append ((KL.take _).append (abV.drop _)))
           (fun j v e=>PK hc Ad j v e (by have:=abV.length;rw[lI]at this;omega))
          exact⟨g,_,_,_,hex _ _ _ _ hde hxe hr,.inl rfl,E,H',by simp only[VR]⟩
      ·cases e
    ·cases e
   ·cases e
  ·cases e
theorem RS{T el:TypeId}{x y z:Operand}(ho:o.op=.slice T x none (some y) (some z))(hd:P.underlying T=some (.slice el)){i:TypeInfo}(hi:P.info? el=some i):jE P o (G1 (wO (cD x)) (cD y) (cD z)):=by
 intro g w nt t h a v h' H Tr e;unfold G1 at e;split at e
 ·rename_i ky n hy
  split at e
  ·rename_i kz m hz
   obtain⟨h1,h2⟩:=(by
    cases hb:(Nat.beq n 0&&Nat.beq m 0)with
    |false=>rw[hb]at e;cases e
    |true=>rw[Bool.and_eq_true]at hb;exact hb:Nat.beq n 0=true/\Nat.beq m 0=true)
   rw[h1,h2]at e;simp only[Bool.and_self,cond_true]at e;obtain rfl:=Nat.eq_of_beq_eq_true h1;obtain rfl:=Nat.eq_of_beq_eq_true h2;have Ej:=cH y _ _ _ _ _ _ Tr hy;have hvz:=cH z _ _ _ _ _ _ Tr hz;simp only[VR]at Ej hvz
   have wH:(sizeOf el).run P w=.ok i.size w:=by simp[sizeOf,typeInfo,hi]
   have rI: ∀ b n c,a.eval x=.slice b n c->(execOp a.eval o).run P w=.ok (.value (.slice b 0 0)) w:=by
    intro b n c hx;simp[execOp,ho,hx,Ej,hvz,Instr.sliceAt,Instr.slice,run_underlying hd,Instr.sliceBounds,Instr.sliceBound,asIntOf,wH]
   split at e
   ·rename_i hx
    cases e;have hv:=ov x _ _ _ _ _ _ Tr hx;simp only[VR]at hv;obtain⟨b,hv⟩:=hv;exact⟨rfl,_,rI _ _ _ hv,by simp only[VR];exact⟨_,rfl⟩⟩
   ·rename_i hx
    cases e;have hv:=ov x _ _ _ _ _ _ Tr hx;simp only[VR]at hv
    rcases hv with⟨_,b,hv⟩|⟨b,s,cap,_,hv,_⟩
    ·exact⟨rfl,_,rI _ _ _ hv,by simp only[VR];exact⟨_,rfl⟩⟩
    ·exact⟨rfl,_,rI _ _ _ hv,by simp only[VR];exact⟨_,rfl⟩⟩
   ·rename_i hx
    cases e;have hv:=ov x _ _ _ _ _ _ Tr hx;simp only[VR]at hv;obtain⟨b,cap,hv,_⟩:=hv;exact⟨rfl,_,rI _ _ _ hv,by simp only[VR];exact⟨_,rfl⟩⟩
   ·cases e
  ·cases e
 ·cases e
end
end Go.Ab
noncomputable section
namespace Go.Ab
variable [Io]
def mb(P:Program)(call:kh):Prop:=
 ∀ f args h v h',call f args h=.ok v h'->(∀ as w,(callFunc f as).run P w=.ok (.enter f as) w)/\
  ∀ (g:G) (w:World) (vs:List Value),HR g w h->jy g w args vs->
   Calls P f vs.toArray w fun e w'=> ∃ x g',e=.returned x/\Ext g w h g' w' h'/\HR g' w' h'/\VR g' w' v x
def Lj(P:Program)(op:BinOp)(T:TypeId):Option (AV->AV->Option AV):=
 match op with
 | .add=>some pF| .sub=>some oM| .mul=>some pS| .quo=>some qt| .rem=>some zy
 | .and=>some vI| .or=>some EO| .xor=>some EP| .andNot=>some sR| .shl=>some tG| .shr=>some A8
 | .lss=>some qJ| .leq=>some tF| .gtr=>some pT| .geq=>some pG
 | .eql=>match P.underlying T with
  |some (.int _)=>some (Du false)
  |some .bool=>some (KT false)
  |some .string=>some (IG false)
  |some (.pointer _)=>some (II false)
  |some (.slice _)=>some (EM false)
  |some (.struct _)=>Li P false T
  |some (.array _ _)=>Li P false T
  | _=>none
 | .neq=>match P.underlying T with
  |some (.int _)=>some (Du true)
  |some .bool=>some (KT true)
  |some .string=>some (IG true)
  |some (.pointer _)=>some (II true)
  |some (.slice _)=>some (EM true)
  |some (.struct _)=>Li P true T
  |some (.array _ _)=>Li P true T
  | _=>none
theorem abW{P:Program}{op:BinOp}{T:TypeId}{f:AV->AV->Option AV}(h:Lj P op T=some f):j2 P op T f:=by
 unfold Lj at h;cases op<;>simp only at h
 case eql=>
  split at h
  ·cases h;exact Ve T
  ·rename_i hu;cases h;exact aby hu
  ·cases h;exact abA T
  ·rename_i hu;cases h;exact abC hu
  ·rename_i hu;cases h;exact abE hu
  ·exact PU h
  ·exact PU h
  ·cases h
 case neq=>
  split at h
  ·cases h;exact Vf T
  ·rename_i hu;cases h;exact abz hu
  ·cases h;exact abB T
  ·rename_i hu;cases h;exact abD hu
  ·rename_i hu;cases h;exact abF hu
  ·exact PV h
  ·exact PV h
  ·cases h
 all_goals cases h
 case add=>exact U0 T
 case sub=>exact U1 T
 case mul=>exact Vc T
 case quo=>exact Vb T
 case rem=>exact Va T
 case and=>exact U2 T
 case or=>exact U3 T
 case xor=>exact U4 T
 case shl=>exact U5 T
 case shr=>exact U6 T
 case andNot=>exact NN T
 case lss=>exact U7 T
 case leq=>exact U9 T
 case gtr=>exact U8 T
 case geq=>exact U' T
def cUn(op:UnOp):Option (AV->Option AV):=
 match op with
 | .not=>some Rp
 | .neg=>some Rq
 | .xor=>some NH
 | .plus=>none
def Lk(P:Program)(T:TypeId)(x:Operand):lO:=
 match P.underlying T with
 |some d=>match P.info? T with
  |some i=>r7 i.size (qQ d) (cD x)
  |none=>jL
 |none=>jL
def HO(P:Program)(S D:TypeId)(x:Operand):lO:=
 match P.underlying S with
 |some _=>match P.underlying D with
  |some (.int k)=>KV (EX k) (cD x)
  | _=>jL
 |none=>jL
def Vj(P:Program)(S:TypeId)(x:Operand):lO:=
 match P.underlying S with
 |some (.slice e)=>match P.underlying e with
  |some (.int .u8)=>GZ (cD x)
  | _=>jL
 | _=>jL
def I3(P:Program)(S D:TypeId)(x:Operand):lO:=
 match P.underlying S with
 |some .string=>match P.underlying D with
  |some (.slice e)=>match P.underlying e with
   |some (.int .u8)=>wJ (cD x)
   | _=>jL
  | _=>jL
 |some (.slice _)=>match P.underlying D with
  |some (.slice e)=>match P.underlying e with
   |some (.int .u8)=>oL (Nat.beq S D) (zC (cD x)) jL
   | _=>jL
  | _=>jL
 | _=>jL
def tP(P:Program)(T:TypeId)(x:Operand)(n:Nat):lO:=
 match P.underlying T with
 |some (.struct fs)=>match fs[n]? with
  |some f=>match P.info? f.type with
   |some i=>oL (Nat.blt 0 i.size) (kO f.offset (cD x)) jL
   |none=>jL
  |none=>jL
 | _=>jL
def Fj(P:Program)(T:TypeId)(x:Operand)(n:Nat):lO:=
 match P.underlying T with
 |some (.struct fs)=>match fs[n]? with
  |some f=>match P.underlying f.type with
   |some d=>match P.info? f.type with
    |some i=>tJ f.offset i.size (qQ d) (cD x)
    |none=>jL
   |none=>jL
  |none=>jL
 | _=>jL
def tQ(P:Program)(T:TypeId)(x y:Operand):lO:=
 match P.underlying T with
 |some (.slice e)=>match P.info? e with
  |some i=>A' i.size (cD x) (cD y)
  |none=>jL
 |some (.array n e)=>match P.info? e with
  |some i=>zi n i.size (cD x) (cD y)
  |none=>jL
 | _=>jL
def Fk(P:Program)(T:TypeId)(x y:Operand):lO:=
 match P.underlying T with
 |some (.array n e)=>match P.underlying e with
  |some d=>match P.info? e with
   |some i=>sE n i.size (qQ d) (cD x) (cD y)
   |none=>jL
  |none=>jL
 |some .string=>qL (cD x) (cD y)
 | _=>jL
def Fl(P:Program)(T:TypeId)(x:Operand)(lo hi:Option Operand):lO:=
 match P.underlying T with
 |some .string=>qK (cD x) (lo.map cD) (hi.map cD)
 |some (.slice e)=>match P.info? e with
  |some i=>mQ i.size (cD x) (lo.map cD) (hi.map cD)
  |none=>jL
 |some (.array n e)=>match P.info? e with
  |some i=>oL (Nat.blt 0 i.size) (ph n i.size (cD x) (lo.map cD) (hi.map cD)) jL
  |none=>jL
 | _=>jL
def Bn(P:Program)(T:TypeId)(x:Operand)(lo hi:Option Operand)(m:Operand):lO:=
 match lo,hi with
 |none,some y=>match P.underlying T with
  |some (.slice e)=>match P.info? e with
   |some _=>G1 (wO (cD x)) (cD y) (cD m)
   |none=>jL
  | _=>jL
 | _,_=>jL
def Vk(P:Program)(T:TypeId)(x:Operand):lO:=
 match P.underlying T with
 |some .string=>xu (cD x)
 |some (.slice _)=>EZ (wO (cD x))
 |some (.array n _)=>pW (oC (.int .i64 (.ofNat n)))
 | _=>jL
def Vl(P:Program)(T:TypeId)(x:Operand):lO:=
 match P.underlying T with
 |some (.slice _)=>EY (wO (cD x))
 | _=>jL
def Vm(P:Program)(T:TypeId):lO:=
 match zeroOf P T with
 |some z=>NI z
 |none=>jL
inductive Cl where
 |p0|p1|al|ch
def PX(P:Program)(call:kh)(c:Call):lO:=
 match c with
 |⟨.builtin .append,args,Af⟩=>match args.toList,Af.toList with
  | [s,x],[T,T']=>oL (Nat.beq T T') (El P T s x) (PQ P T T' s x)
  | _,_=>jL
 |⟨.builtin .copy,args,Af⟩=>match args.toList,Af.toList with
  | [d,s],[T,_]=>PW P T d s
  | _,_=>jL
 |⟨.value (.func f),args,_⟩=>Dv call f (args.toList.map cD)
 |⟨.value f,args,_⟩=>xK call (cD f) (args.toList.map cD)
 | _=>jL
def pY(P:Program)(c:Call):Option lO:=
 match c with
 |⟨.builtin .len,args,Af⟩=>match args.toList,Af.toList with
  | [x],[T]=>some (Vk P T x)
  | _,_=>some jL
 |⟨.builtin .cap,args,Af⟩=>match args.toList,Af.toList with
  | [x],[T]=>some (Vl P T x)
  | _,_=>some jL
 |⟨.builtin .min,args,_⟩=>match args.toList with
  | [x,y]=>some (G2 (cD x) (cD y))
  | _=>some jL
 |⟨.builtin .max,args,_⟩=>match args.toList with
  | [x,y]=>some (G3 (cD x) (cD y))
  | _=>some jL
 | _=>none
def wP(P:Program)(call:kh)(o:Op):Cl×lO:=
 match o with
 | .move x=>(.p0,pW (cD x))
 | .assign x=>(.p0,pW (cD x))
 | .pick c x y=>(.p0,xt (cD c) (cD x) (cD y))
 | .alloc T=>(.al,Vm P T)
 | .box _ x=>(.al,GY (cD x))
 | .build T ps=>(.p0,Fg P T ps.toList)
 | .buildSlice T n ps=>(.al,UP P T n ps.toList)
 | .load T x=>(.p1,Lk P T x)
 | .store T x y=>(.ch,IZ P T x y)
 | .nilCheck x=>(.p0,EW (cD x))
 | .binOp op T x y _=>match Lj P op T with
  |some f=>(.p0,xF f (cD x) (cD y))
  |none=>(.p0,jL)
 | .unOp op _ x=>match cUn op with
  |some f=>(.p0,KV f (cD x))
  |none=>(.p0,jL)
 | .convert S D x=>match P.underlying D with
  |some (.slice _)=>(.ch,I3 P S D x)
  |some .string=>(.p1,Vj P S x)
  | _=>(.p0,HO P S D x)
 | .makeFunc (.func f) first caps=>match first.toList with
  | []=>(.p0,kFn f (caps.toList.map cD))
  | _=>(.p0,jL)
 | .makeSlice T l c=>(.al,La P T l c)
 | .makeMap _ r=>match r with
  |none=>(.ch,Ru)
  |some _=>(.ch,jL)
 | .slice T x lo hi none=>(.p1,Fl P T x lo hi)
 | .slice T x lo hi (some m)=>(.p1,Bn P T x lo hi m)
 | .fieldAddr T x n=>(.p0,tP P T x n)
 | .field T x n=>(.p0,Fj P T x n)
 | .indexAddr T x y=>(.p0,tQ P T x y)
 | .index T x y=>(.p0,Fk P T x y)
 | .extract x i=>(.p0,oN (cD x) i)
 | .call c=>match pY P c with
  |some f=>(.p0,f)
  |none=>(.ch,PX P call c)
 | _=>(.ch,jL)
def I4(P:Program)(o:Oper)(f:lO):Prop:=
 ∀ (g:G) (w:World) (nt:Nat) (t:Tm) (h:Hp) (a:Act) (v:AV) (h':Hp),HR g w h->TR g w nt t a.tmps->f t h=.ok v h'->
  ∀ next Q,(∀ g' w' x,Ext g w h g' w' h'->HR g' w' h'->VR g' w' v x->next (a.put o.dst x) w')->o.wp P a w next Q
section
variable {P:Program}{o:Oper}
theorem tL.ok{f:lO}(h:tL P o f):I4 P o f:=by
 intro g w nt t hp a v h' H T e next Q K
 obtain⟨g',w',nx,x,hr,hnx,E,H',hv⟩:=h g w nt t hp a v h' H T e;unfold Oper.wp;rw[hr]
 rcases hnx with rfl|⟨rfl,rfl⟩
 ·exact K g' w' x E H' hv
 ·exact K g' w' undef E H' hv
theorem jE.ok{f:lO}(h:jE P o f):I4 P o f:=h.run.ok
theorem vM.ok{f:lO}(h:vM P o f):I4 P o f:=h.run.ok
theorem CO:I4 P o jL:=by intro g w nt t h a v h' _ _ e;cases e
theorem abX{f:FuncId}{args:Array Operand}{Af:Array TypeId}{call:kh}(hc:mb P call)(ho:o.op=.call {callee:=.value (.func f),args,argTypes:=Af}):
 I4 P o (Dv call f (args.toList.map cD)):=by
 intro g w nt t h a v h' H T e next Q K
 unfold Dv at e;split at e
 ·rename_i vs lP
  obtain⟨hen,HP⟩:=hc f vs h v h' e;have hv:=Ei T args.toList lP;have hr:(execOp a.eval o).run P w=.ok (.enter f (args.map a.eval)) w:=by
   simp[execOp,ho,resolve,Act.eval,Deferred.ofValue,invoke,hen]
  unfold Oper.wp;rw[hr,Oper.upon_enter];have:=HP g w (args.toList.map a.eval) H hv;rw[show(args.toList.map a.eval).toArray=args.map a.eval from by rw[<-Array.toList_map,Array.toArray_toList]]at this;refine this.mono ?_;rintro e w' ⟨x,g',rfl,E,H',hx⟩;exact K g' w' x E H' hx
 ·cases e
theorem Vn{f:Operand}{args:Array Operand}{Af:Array TypeId}{call:kh}(hc:mb P call)(ho:o.op=.call {callee:=.value f,args,argTypes:=Af}):
 I4 P o (xK call (cD f) (args.toList.map cD)):=by
 intro g w nt t h a v h' H T e next Q K
 unfold xK at e;split at e
 ·rename_i k cap hf
  split at e
  ·rename_i vs lP
   have hfv:=cH f _ _ _ _ _ _ T hf;simp only[VR]at hfv;obtain⟨caps,hfe,arW⟩:=hfv;obtain⟨hen,HP⟩:=hc k _ h v h' e;have hv:=Ei T args.toList lP;have hr:(execOp a.eval o).run P w=.ok (.enter k (args.map a.eval++caps)) w:=by
    simp[execOp,ho,resolve,hfe,Deferred.ofValue,invoke,hen]
   unfold Oper.wp;rw[hr,Oper.upon_enter];rw[cZ]at HP;have:=HP g w (args.toList.map a.eval++caps.toList) H (hv.append arW);rw[show(args.toList.map a.eval++caps.toList).toArray=args.map a.eval++caps from by rw[<-Array.toList_map,<-Array.toList_append,Array.toArray_toList]]at this;refine this.mono ?_;rintro e w' ⟨x,g',rfl,E,H',hx⟩;exact K g' w' x E H' hx
  ·cases e
 ·cases e
end
end Go.Ab
noncomputable section
namespace Go.Ab
variable [Io]
section
variable {P:Program}{o:Oper}{call:kh}
theorem N2{T:TypeId}{x:Operand}(ho:o.op=.load T x):jE P o (Lk P T x):=by
 unfold Lk;split
 ·rename_i d hd
  split
  ·rename_i i hi;exact RC ho hd hi
  ·exact cX
 ·exact cX
theorem Fm{S D:TypeId}{x:Operand}(ho:o.op=.convert S D x):jE P o (HO P S D x):=by
 unfold HO;split
 ·rename_i d hd
  split
  ·rename_i k hk;exact NZ ho hd hk
  ·exact cX
 ·exact cX
theorem RT{S D:TypeId}{x:Operand}(ho:o.op=.convert S D x)(hD:P.underlying D=some .string):jE P o (Vj P S x):=by
 unfold Vj;split
 ·rename_i e hS
  split
  ·rename_i he;exact RM ho hS he hD
  ·exact cX
 ·exact cX
theorem N3{S D:TypeId}{x:Operand}(ho:o.op=.convert S D x):tL P o (I3 P S D x):=by
 unfold I3;split
 ·rename_i hS
  split
  ·rename_i e hD
   split
   ·rename_i he;exact NY ho hS hD he
   ·exact cX.run
  ·exact cX.run
 ·split
  ·rename_i e hD
   split
   ·rename_i he
    cases h:Nat.beq S D with
    |true=>
     obtain rfl:=Nat.eq_of_beq_eq_true h;exact RO ho hD he
    |false=>exact cX.run
   ·exact cX.run
  ·exact cX.run
 ·exact cX.run
theorem Ll{c:Bool}{f:lO}(h:c=true->jE P o f):jE P o (oL c f jL):=by
 cases c with
 |true=>exact h rfl
 |false=>exact cX
theorem DR{T:TypeId}{x:Operand}{n:Nat}(ho:o.op=.fieldAddr T x n):jE P o (tP P T x n):=by
 unfold tP;split
 ·rename_i fs hd
  split
  ·rename_i f hf
   split
   ·rename_i i hi
    exact Ll fun h=>Fe ho hd hf hi (by have:=jn.1 h;omega)
   ·exact cX
  ·exact cX
 ·exact cX
theorem Lm{T:TypeId}{x:Operand}{n:Nat}(ho:o.op=.field T x n):jE P o (Fj P T x n):=by
 unfold Fj;split
 ·rename_i fs hd
  split
  ·rename_i f hf
   split
   ·rename_i d PJ
    split
    ·rename_i i hi
     exact NO ho hd hf PJ hi
    ·exact cX
   ·exact cX
  ·exact cX
 ·exact cX
theorem DS{T:TypeId}{x y:Operand}(ho:o.op=.indexAddr T x y):jE P o (tQ P T x y):=by
 unfold tQ;split
 ·rename_i e hd
  split
  ·rename_i i hi;exact UH ho hd hi
  ·exact cX
 ·rename_i n e hd
  split
  ·rename_i i hi;exact UI ho hd hi
  ·exact cX
 ·exact cX
theorem Ln{T:TypeId}{x y:Operand}(ho:o.op=.index T x y):jE P o (Fk P T x y):=by
 unfold Fk;split
 ·rename_i n e hd
  split
  ·rename_i d PJ
   split
   ·rename_i i hi;exact NP ho hd PJ hi
   ·exact cX
  ·exact cX
 ·rename_i hd;exact K5 ho hd
 ·exact cX
theorem I5{T:TypeId}{x:Operand}{lo hi:Option Operand}{m:Operand}(ho:o.op=.slice T x lo hi (some m)):jE P o (Bn P T x lo hi m):=by
 unfold Bn;split
 ·split
  ·rename_i e hd
   split
   ·rename_i i hi;exact RS ho hd hi
   ·exact cX
  ·exact cX
 ·exact cX
theorem Lp{T:TypeId}{x:Operand}{lo hi:Option Operand}(ho:o.op=.slice T x lo hi none):jE P o (Fl P T x lo hi):=by
 unfold Fl;split
 ·rename_i hd;exact K6 ho hd
 ·rename_i e hd
  split
  ·rename_i i hi;exact K7 ho hd hi
  ·exact cX
 ·rename_i n e hd
  split
  ·rename_i i hi;exact Ll fun h=>K8 ho hd hi (by have:=jn.1 h;omega)
  ·exact cX
 ·exact cX
theorem RU{T:TypeId}{x:Operand}(ho:o.op=.call {callee:=.builtin .cap,args:= #[x],argTypes:= #[T]}):jE P o (Vl P T x):=by
 unfold Vl;split
 ·rename_i hd;exact UG ho hd
 ·exact cX
theorem RW{T:TypeId}{x:Operand}(ho:o.op=.call {callee:=.builtin .len,args:= #[x],argTypes:= #[T]}):jE P o (Vk P T x):=by
 unfold Vk;split
 ·rename_i hd;exact RA ho hd
 ·rename_i e hd;exact UE ho hd
 ·rename_i n e hd;exact RB ho hd
 ·exact cX
theorem abY:vM P o jL:=by intro g w nt t h a v h' _ _ e;cases e
theorem Vo{T:TypeId}(ho:o.op=.alloc T):vM P o (Vm P T):=by
 unfold Vm;split
 ·rename_i z hz;exact UM ho hz
 ·exact abY
theorem Vp{op:UnOp}{T:TypeId}{x:Operand}{f:AV->Option AV}(ho:o.op=.unOp op T x)(h:cUn op=some f):jE P o (KV f (cD x)):=by
 cases op<;>cases h
 ·exact UC ho
 ·exact UD ho
 ·exact Uz ho
omit [Io] in
theorem abZ{α:Type}{a:Array α}{x:α}(h:a.toList=[x]):a= #[x]:=by
 rw[<-Array.toArray_toList (xs:=a),h]
omit [Io] in
theorem RX{α:Type}{a:Array α}{x y:α}(h:a.toList=[x,y]):a= #[x,y]:=by
 rw[<-Array.toArray_toList (xs:=a),h]
theorem G9{c:Call}{f:lO}(ho:o.op=.call c)(h:pY P c=some f):jE P o f:=by
 unfold pY at h;split at h
 ·rename_i args Af
  split at h
  ·rename_i x T h1 h2
   cases h;rw[abZ h1,abZ h2]at ho;exact RW ho
  ·cases h;exact cX
 ·rename_i args Af
  split at h
  ·rename_i x T h1 h2
   cases h;rw[abZ h1,abZ h2]at ho;exact RU ho
  ·cases h;exact cX
 ·rename_i args Af
  split at h
  ·rename_i x y h1
   cases h;rw[RX h1]at ho;exact Vg ho
  ·cases h;exact cX
 ·rename_i args Af
  split at h
  ·rename_i x y h1
   cases h;rw[RX h1]at ho;exact Vh ho
  ·cases h;exact cX
 ·cases h
theorem Vq(hc:mb P call){c:Call}(ho:o.op=.call c):I4 P o (PX P call c):=by
 unfold PX;split
 ·rename_i args Af
  split
  ·rename_i s x T T' h1 h2
   rw[RX h1,RX h2]at ho;cases h:Nat.beq T T' with
   |true=>
    obtain rfl:=Nat.eq_of_beq_eq_true h;exact(Le ho).ok
   |false=>exact(RK ho).ok
  ·exact CO
 ·rename_i args Af
  split
  ·rename_i d s T T' h1 h2
   rw[RX h1,RX h2]at ho;exact(RR ho).ok
  ·exact CO
 ·exact abX hc ho
 ·exact Vn hc ho
 ·exact CO
theorem I6(hc:mb P call):match wP P call o.op with
 |(.p0,f)=>jE P o f
 |(.p1,f)=>jE P o f
 |(.al,f)=>vM P o f
 |(.ch,f)=>I4 P o f:=by
 cases ho:o.op<;>simp only[wP]
 case move x=>exact HD (.inl ho)
 case assign x=>exact HD (.inr ho)
 case pick c x y=>exact Rz ho
 case alloc T=>exact Vo ho
 case box T x=>exact UN ho
 case build T ps=>exact NR ho
 case buildSlice T n ps=>exact UQ ho
 case load T x=>exact N2 ho
 case store T x y=>exact(NU ho).ok
 case nilCheck x=>exact pure_nil ho
 case binOp op T x y yT=>
  cases h:Lj P op T with
  |some f=>exact Uv ho (abW h)
  |none=>exact cX
 case unOp op T x=>
  cases h:cUn op with
  |some f=>exact Vp ho h
  |none=>exact cX
 case convert S D x=>
  cases h:P.underlying D with
  |none=>exact Fm ho
  |some d=>cases d<;>first|exact Fm ho|exact(N3 ho).ok|exact RT ho h
 case makeFunc f first caps=>
  cases f<;>try exact CO
  rename_i f
  simp only;cases h:first.toList with
  |nil=>
   have:first= #[]:=by rw[<-Array.toArray_toList (xs:=first),h]
   subst this;exact abG ho
  |cons a l=>exact cX
 case makeSlice T l c=>exact RE ho
 case makeMap T r=>cases r with
  |none=>exact(UX ho).ok
  |some _=>exact CO
 case slice T x lo hi mx=>
  cases mx with
  |none=>exact Lp ho
  |some m=>exact I5 ho
 case fieldAddr T x n=>exact DR ho
 case field T x n=>exact Lm ho
 case indexAddr T x y=>exact DS ho
 case index T x y=>exact Ln ho
 case extract x i=>exact IX ho
 case call c=>
  cases h:pY P c with
  |some f=>exact G9 ho h
  |none=>exact Vq hc ho
 all_goals exact CO
theorem Vr(hc:mb P call):I4 P o (wP P call o.op).2:=by
 have:=I6 (o:=o) hc;cases h:wP P call o.op with
 |mk c f=>
  rw[h]at this;cases c
  ·exact jE.ok this
  ·exact jE.ok this
  ·exact vM.ok this
  ·exact this
def gF(j:lT)(want:Bool)(f:lO):lO:=fun t h=>match j t with
 |some (.bool b)=>oL (oL want b (!b)) (f t h) (.ok n7 h)
 |some (.DO [])=>.ok n7 h
 | _=>.bad
def sC(P:Program)(call:kh)(nt:Nat)(all:List Oper)(o:Oper):lO:=
 match o.guard with
 |none=>(wP P call o.op).2
 |some (j,want)=>match sD all j with
  |some oj=>match oj.dst with
   |some d=>oL (Nat.blt d nt) (gF (oT d) want (wP P call o.op).2) jL
   |none=>jL
  |none=>jL
def sV(P:Program)(call:kh)(nt:Nat)(all l:List Oper):uM:=
 List.rec fi (fun o _ ih=>match o.dst with
  |some d=>oL (Nat.blt d nt) (st (sT d) (sC P call nt all o) ih) (fun _ _=>.bad)
  |none=>sn (sC P call nt all o) ih) l
theorem I7(hc:mb P call){ops:Array Oper}{i:Nat}(hi:ops[i]? =some o){g w nt t h}{a:Act}{v:AV}{h':Hp}(H:HR g w h)(T:TR g w nt t a.tmps)
 (e:sC P call nt ops.toList o t h=.ok v h'){Q:Exit->Act->World->Prop}{rest:List Nat}
 (K: ∀ g' w' x,Ext g w h g' w' h'->HR g' w' h'->VR g' w' v x->wpOps P ops Q rest (a.put o.dst x) w'):wpOps P ops Q (i::rest) a w:=by
 rw[wpOps,hi];simp only;unfold sC at e;cases hg:o.guard with
 |none=>
  rw[hg]at e;rw[if_pos (by simp[Region.wanted,hg])];exact .inl (Vr hc g w nt t h a v h' H T e _ _ K)
 |some p=>
  obtain⟨j,want⟩:=p;rw[hg]at e;simp only[nQ]at e;cases hj:ops.toList[j]? with
  |none=>simp only[hj]at e;cases e
  |some oj=>
  simp only[hj]at e;cases hd:oj.dst with
  |none=>simp only[hd]at e;cases e
  |some d=>
  simp only[hd]at e;cases hb:Nat.blt d nt with
  |false=>simp only[hb]at e;cases e
  |true=>
  simp only[hb]at e;have T6:=jn.1 hb
  change gF (oT d) want (wP P call o.op).2 t h=.ok v h' at e
  have hj':ops[j]? =some oj:=by simpa using hj
  have wH:=T.2.1;have hy: ∀ y,a.tmps.getD d undef=y->yielded ops a.tmps j=match y with| .bool b=>some b| _=>none:=by
   intro y hy;have:a.tmps[d]? =some y:=by
    rw[Array.getD_eq_getD_getElem?]at hy;rw[Array.getElem?_eq_getElem (by omega)]at hy ⊢
    simpa using hy
   simp[yielded,hj',hd,this];cases y<;>rfl
  unfold gF at e;split at e
  ·rename_i b Lc
   have hv:=(T.2.2 d _ (by have:=T.1;omega) Lc).2;simp only[VR]at hv;have hy2:=hy _ hv;cases hwb:(oL want b (!b))with
   |true=>
    rw[hwb]at e
    have:b=want:=by cases want<;>cases b<;>simp[oL]at hwb<;>rfl
    rw[if_pos (by simp[Region.wanted,hg,hy2,this])];exact .inl (Vr hc g w nt t h a v h' H T e _ _ K)
   |false=>
    rw[hwb]at e
    have:b≠want:=by cases want<;>cases b<;>simp[oL]at hwb<;>simp
    rw[if_neg (by simp[Region.wanted,hg,hy2,this])];cases e;exact K g w undef (Ext.refl _ _ _) H (by simp only[n7,VR];exact⟨_,rfl,by simp[jy]⟩)
  ·rename_i Lc
   have hv:=(T.2.2 d _ (by have:=T.1;omega) Lc).2;simp only[VR]at hv;obtain⟨vs,hv,lP⟩:=hv;have hy2:=hy _ hv;rw[if_neg (by simp[Region.wanted,hg,hy2])];cases e;exact K g w undef (Ext.refl _ _ _) H (by simp only[n7,VR];exact⟨_,rfl,by simp[jy]⟩)
  ·cases e
end
end Go.Ab
noncomputable section
namespace Go.Ab
variable [Io]
section
variable {P:Program}{call:kh}
def vP(g:G)(w:World)(h:Hp)(nt:Nat)(t':Tm)(h':Hp)(R:Act->World->Prop):Prop:=
 ∀ g' w' a',Ext g w h g' w' h'->HR g' w' h'->TR g' w' nt t' a'.tmps->a'.defers=[]->R a' w'
theorem vP.then{g w h nt h1 g1 w1 t2 h2}{R:Act->World->Prop}(E:Ext g w h g1 w1 h1)(K:vP g w h nt t2 h2 R):vP g1 w1 h1 nt t2 h2 R:=
 fun g' w' a' E' H' T' D'=>K g' w' a' (E.trans E') H' T' D'
def ab2(P:Program)(nt:Nat)(c:Code)(r:uM):Prop:=
 ∀ (g:G) (w:World) (t:Tm) (h:Hp) (a:Act) (t':Tm) (h':Hp),HR g w h->TR g w nt t a.tmps->a.defers=[]->r t h=.ok t' h'->
  ∀ Q:Exit->Act->World->Prop,vP g w h nt t' h' (Q .normal)->c.wp P Q a w
theorem ab3{g w nt t}{a:Act}{d:Nat}{v:AV}{x:Value}(T:TR g w nt t a.tmps)(hd:d<nt)(hv:VR g w v x):TR g w nt (sT d v t) (a.put (some d) x).tmps:=
 T.put hd hv
theorem Vt(hc:mb P call){nt:Nat}(ops:Array Oper): ∀ (l pre:List Oper),ops.toList=pre++l-> ∀ (g:G) (w:World) (t:Tm) (h:Hp) (a:Act) (t':Tm) (h':Hp),
 HR g w h->TR g w nt t a.tmps->a.defers=[]->sV P call nt ops.toList l t h=.ok t' h'-> ∀ Q:Exit->Act->World->Prop,vP g w h nt t' h' (Q .normal)->
  wpOps P ops Q (List.range' pre.length l.length) a w
 | [],pre,_,g,w,t,h,a,t',h',H,T,D,e,Q,K=>by
  cases e;exact K g w a (Ext.refl _ _ _) H T D
 |o::l,pre,hl,g,w,t,h,a,t',h',H,T,D,e,Q,K=>by
  have hi:ops[pre.length]? =some o:=by
   have:ops.toList[pre.length]? =some o:=by rw[hl];simp
   simpa using this
  have ih:=Vt hc (nt:=nt) ops l (pre++[o]) (by simp[hl]);simp only[List.length_append,List.length_cons,List.length_nil,Nat.zero_add]at ih;rw[List.length_cons,List.range'_succ]
  change (match o.dst with
   |some d=>oL (Nat.blt d nt) (st (sT d) (sC P call nt ops.toList o) (sV P call nt ops.toList l)) (fun _ _=>.bad)
   |none=>sn (sC P call nt ops.toList o) (sV P call nt ops.toList l)) t h=.ok t' h' at e
  cases hd:o.dst with
  |none=>
   simp only[hd]at e;unfold sn at e;cases hg:sC P call nt ops.toList o t h with
   |bad=>rw[hg]at e;cases e
   |ok v h1=>
    rw[hg]at e
    refine I7 hc hi H T hg fun g1 w1 x E H1 hv=>?_
    rw[hd];exact ih g1 w1 t h1 a t' h' H1 (T.mono H E) D e Q (vP.then E K)
  |some d=>
   simp only[hd]at e;cases hb:Nat.blt d nt with
   |false=>simp only[hb]at e;cases e
   |true=>
    simp only[hb]at e
    change st (sT d) (sC P call nt ops.toList o) (sV P call nt ops.toList l) t h=.ok t' h' at e
    unfold st at e;cases hg:sC P call nt ops.toList o t h with
    |bad=>rw[hg]at e;cases e
    |ok v h1=>
     rw[hg]at e
     refine I7 hc hi H T hg fun g1 w1 x E H1 hv=>?_
     rw[hd];exact ih g1 w1 (sT d v t) h1 (a.put (some d) x) t' h' H1 (ab3 (T.mono H E) (jn.1 hb) hv) D e Q (vP.then E K)
theorem RY(hc:mb P call){nt:Nat}(id:Nat)(ops:Array Oper):ab2 P nt (.region id ops false) (sV P call nt ops.toList ops.toList):=by
 intro g w t h a t' h' H T D e Q K;refine wp_region ?_;have:=Vt hc ops ops.toList [] rfl g w t h a t' h' H T D e Q K;rw[List.range_eq_range']
 simpa using this
def RZ(P:Program)(nt:Nat)(c:Code)(f:GP):Prop:=
 ∀ (g:G) (w:World) (t:Tm) (h:Hp) (a:Act) (Q:Exit->Act->World->Prop),HR g w h->TR g w nt t a.tmps->a.defers=[]->
  match f t h with
  | .bad=>True
  | .norm t' h'=>vP g w h nt t' h' (Q .normal)->c.wp P Q a w
  | .ret t' h'=>vP g w h nt t' h' (Q .ret)->c.wp P Q a w
  | .exit i t' h'=>vP g w h nt t' h' (Q (.exit i))->c.wp P Q a w
def nN(P:Program)(draw:Array Oper->uM)(call:kh)(n nt:Nat)(c:Code):GP:=
 Code.rec (motive:=fun _=>GP) xw
  (fun _ ops d=>cRg (Bool.rec (sV P call nt ops.toList ops.toList) (draw ops) d))
  (fun _ _ ia ib=>lF ia ib)
  (fun c _ _ ia ib=>cIf (cD c) ia ib)
  (fun id _ ib=>Cu id ib)
  (fun _ ib=>cLp n ib)
  (fun _ _ _ _ _ _=>NJ)
  (fun i=>Ur i)
  (fun _ _=>NJ)
  (fun _=>NJ)
  (fun _=>NJ)
  ks
  (fun _=>NJ) c
theorem Fo{nt:Nat}{c:Code}:RZ P nt c NJ:=by
 intro g w t h a Q H T D;exact trivial
theorem I8(hc:mb P call){draw:Array Oper->uM}{nt:Nat}(hd: ∀ id ops,ab2 P nt (.region id ops true) (draw ops))(n:Nat): ∀ c,RZ P nt c (nN P draw call n nt c):=by
 intro c
 induction c with
 |skip=>
  intro g w t h a Q H T D K;exact wp_skip (K g w a (Ext.refl _ _ _) H T D)
 |region id ops d=>
  intro g w t h a Q H T D;have key:ab2 P nt (.region id ops d) (Bool.rec (sV P call nt ops.toList ops.toList) (draw ops) d):=by
   cases d with
   |false=>exact RY hc id ops
   |true=>exact hd id ops
  show match cRg (Bool.rec (sV P call nt ops.toList ops.toList) (draw ops) d) t h with| .bad=>_| .norm _ _=>_| .ret _ _=>_| .exit _ _ _=>_
  unfold cRg;cases e:(Bool.rec (sV P call nt ops.toList ops.toList) (draw ops) d:uM) t h with
  |bad=>exact trivial
  |ok t' h'=>exact fun K=>key g w t h a t' h' H T D e Q K
 |seq x y hx hy=>
  intro g w t h a Q H T D
  show match lF (nN P draw call n nt x) (nN P draw call n nt y) t h with| .bad=>_| .norm _ _=>_| .ret _ _=>_| .exit _ _ _=>_
  unfold lF;have h1:=hx g w t h a (Exit.then (y.wp P Q) Q) H T D;cases e:nN P draw call n nt x t h with
  |bad=>exact trivial
  |ret t1 uR=>rw[e]at h1;exact fun K=>wp_seq (h1 K)
  |exit i t1 uR=>rw[e]at h1;exact fun K=>wp_seq (h1 K)
  |norm t1 uR=>
   rw[e]at h1
   show match nN P draw call n nt y t1 uR with| .bad=>_| .norm _ _=>_| .ret _ _=>_| .exit _ _ _=>_
   cases e2:nN P draw call n nt y t1 uR with
   |bad=>exact trivial
   |norm t2 h2=>
    intro K;refine wp_seq (h1 fun g1 w1 a1 E1 H1 T1 D1=>?_);have:=hy g1 w1 t1 uR a1 Q H1 T1 D1;rw[e2]at this;exact this (vP.then E1 K)
   |ret t2 h2=>
    intro K;refine wp_seq (h1 fun g1 w1 a1 E1 H1 T1 D1=>?_);have:=hy g1 w1 t1 uR a1 Q H1 T1 D1;rw[e2]at this;exact this (vP.then E1 K)
   |exit i t2 h2=>
    intro K;refine wp_seq (h1 fun g1 w1 a1 E1 H1 T1 D1=>?_);have:=hy g1 w1 t1 uR a1 Q H1 T1 D1;rw[e2]at this;exact this (vP.then E1 K)
 |cond c x y hx hy=>
  intro g w t h a Q H T D
  show match cIf (cD c) (nN P draw call n nt x) (nN P draw call n nt y) t h with| .bad=>_| .norm _ _=>_| .ret _ _=>_| .exit _ _ _=>_
  unfold cIf;cases nd:cD c t with
  |none=>exact trivial
  |some v=>
   cases v<;>try exact trivial
   rename_i b
   have hv:=cH c _ _ _ _ _ _ T nd;simp only[VR]at hv;cases b with
   |true=>
    have:=hx g w t h a Q H T D
    show match nN P draw call n nt x t h with| .bad=>_| .norm _ _=>_| .ret _ _=>_| .exit _ _ _=>_
    cases e:nN P draw call n nt x t h<;>rw[e]at this
    ·exact trivial
    all_goals exact fun K=>wp_cond_true hv (this K)
   |false=>
    have:=hy g w t h a Q H T D
    show match nN P draw call n nt y t h with| .bad=>_| .norm _ _=>_| .ret _ _=>_| .exit _ _ _=>_
    cases e:nN P draw call n nt y t h<;>rw[e]at this
    ·exact trivial
    all_goals exact fun K=>wp_cond_false hv (this K)
 |block id x hx=>
  intro g w t h a Q H T D
  show match Cu id (nN P draw call n nt x) t h with| .bad=>_| .norm _ _=>_| .ret _ _=>_| .exit _ _ _=>_
  unfold Cu;have:=hx g w t h a (Exit.inBlock id Q) H T D;cases e:nN P draw call n nt x t h<;>rw[e]at this
  ·exact trivial
  ·exact fun K=>wp_block (this K)
  ·exact fun K=>wp_block (this K)
  ·rename_i i t1 h1
   show match(Bool.rec (Rc.exit i t1 h1) (Rc.norm t1 h1) (Nat.beq i id):Rc)with| .bad=>_| .norm _ _=>_| .ret _ _=>_| .exit _ _ _=>_
   cases hb:Nat.beq i id with
   |true=>
    obtain rfl:=Nat.eq_of_beq_eq_true hb;exact fun K=>wp_block (this fun g' w' a' E' H' T' D'=>by
     show Exit.inBlock i Q (.exit i) a' w';simp only[Exit.inBlock,if_true]
     exact K g' w' a' E' H' T' D')
   |false=>
    have qF:i≠id:=fun k=>by rw[k,Nat.beq_refl]at hb;cases hb
    exact fun K=>wp_block (this fun g' w' a' E' H' T' D'=>by
     show Exit.inBlock id Q (.exit i) a' w';simp only[Exit.inBlock,if_neg qF]
     exact K g' w' a' E' H' T' D')
 |loop x hx=>
  intro g w t h a Q H T D
  show match cLp n (nN P draw call n nt x) t h with| .bad=>_| .norm _ _=>_| .ret _ _=>_| .exit _ _ _=>_
  have key: ∀ m,∀ (g:G) (w:World) (t:Tm) (h:Hp) (a:Act),HR g w h->TR g w nt t a.tmps->a.defers=[]->
   match cLp m (nN P draw call n nt x) t h with
   | .bad=>True
   | .norm t' h'=>vP g w h nt t' h' (Q .normal)->Code.rounds P x Q m a w
   | .ret t' h'=>vP g w h nt t' h' (Q .ret)->Code.rounds P x Q m a w
   | .exit i t' h'=>vP g w h nt t' h' (Q (.exit i))->Code.rounds P x Q m a w:=by
   intro m
   induction m with
   |zero=>intro g w t h a H T D;exact trivial
   |succ m ih=>
    intro g w t h a H T D;have h1:=hx g w t h a (Exit.then (Code.rounds P x Q m) Q) H T D;show match(Rc.rec Rc.bad (fun t h=>cLp m (nN P draw call n nt x) t h) (fun t h=>Rc.ret t h) (fun i t h=>Rc.exit i t h) (nN P draw call n nt x t h):Rc)with
     | .bad=>_| .norm _ _=>_| .ret _ _=>_| .exit _ _ _=>_
    cases e:nN P draw call n nt x t h with
    |bad=>exact trivial
    |ret t1 uR=>rw[e]at h1;exact fun K=>h1 K
    |exit i t1 uR=>rw[e]at h1;exact fun K=>h1 K
    |norm t1 uR=>
     rw[e]at h1
     show match cLp m (nN P draw call n nt x) t1 uR with| .bad=>_| .norm _ _=>_| .ret _ _=>_| .exit _ _ _=>_
     cases e2:cLp m (nN P draw call n nt x) t1 uR with
     |bad=>exact trivial
     |norm t2 h2=>
      intro K
      refine h1 fun g1 w1 a1 E1 H1 T1 D1=>?_
      have:=ih g1 w1 t1 uR a1 H1 T1 D1;rw[e2]at this;exact this (vP.then E1 K)
     |ret t2 h2=>
      intro K
      refine h1 fun g1 w1 a1 E1 H1 T1 D1=>?_
      have:=ih g1 w1 t1 uR a1 H1 T1 D1;rw[e2]at this;exact this (vP.then E1 K)
     |exit i t2 h2=>
      intro K
      refine h1 fun g1 w1 a1 E1 H1 T1 D1=>?_
      have:=ih g1 w1 t1 uR a1 H1 T1 D1;rw[e2]at this;exact this (vP.then E1 K)
  have:=key n g w t h a H T D;cases e:cLp n (nN P draw call n nt x) t h<;>rw[e]at this
  ·exact trivial
  all_goals exact fun K=>wp_loop_rounds n (this K)
 |rangeFunc f ps x y _ _=>exact Fo
 |exit i=>
  intro g w t h a Q H T D K;exact wp_exit (K g w a (Ext.refl _ _ _) H T D)
 |scope x _=>exact Fo
 |label l=>exact Fo
 |goto l=>exact Fo
 |ret=>
  intro g w t h a Q H T D K;exact wp_ret (K g w a (Ext.refl _ _ _) H T D)
 |refuse s=>exact Fo
end
end Go.Ab
