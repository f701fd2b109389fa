import Derived.Test.YtcnkojgmochcgaaGreatDoorAb6
import Derived.Laws.StructEq
noncomputable section
namespace Go.Ab
variable [Io]
section
variable {P:Program}{o:Oper}
theorem HX{g w h}(H:HR g w h){w':World}(h1:w'.os=w.os)(h2:w'.tape=w.tape)(h3:w'.output=w.output)(h4:w'.heap.size=w.heap.size+1)
 (h5: ∀ b,b<w.heap.size->w'.heap[b]? =w.heap[b]?):
 Ext g w h ⟨g.m,fun b=>g.cV b∨b=w.heap.size⟩ w' h/\HR ⟨g.m,fun b=>g.cV b∨b=w.heap.size⟩ w' h:=by
 have adB: ∀ b,eN g h b->b<w.heap.size:=by
  rintro b ⟨id,cs,s,e,m⟩
  obtain⟨_,_,_,hw,_⟩:=H.row e m
  exact(Array.getElem?_eq_some_iff.1 hw).1
 have E:Ext g w h ⟨g.m,fun b=>g.cV b∨b=w.heap.size⟩ w' h:=by
  refine⟨h1,h2,h3,by omega,Nat.le_refl _,fun _ _ e=>e,fun b hb _=>h5 b hb,?_,fun _ i=>.inl i,?_,fun _ o=>.inl o⟩
  ·intro b
   unfold cO
   by_cases hb:b<w.heap.size
   ·rw[h5 b hb];exact Nat.le_refl _
   ·rw[Array.getElem?_eq_none (by omega)];exact Nat.zero_le _
  ·rintro b (i|rfl)
   ·exact .inl i
   ·exact .inr (.inr (Nat.le_refl _))
 refine⟨E,H.fresh,?_,H.inj,?_,gT.ext H E⟩
 ·intro id cs e
  obtain⟨b,s,C,el,vs,hm,hw,hi,hv,hc⟩:=H.aQ id cs e
  have hb:=(Array.getElem?_eq_some_iff.1 hw).1
  refine⟨b,s,C,el,vs,hm,by rw[h5 b hb];exact hw,?_,bA.mono H E _ _ hv,hc⟩
  rintro(i|rfl)
  ·exact hi i
  ·omega
 ·rintro b (i|rfl)
  ·have:=H.cV b i;omega
  ·omega
def xS(s:ByteArray):List Value:=s.data.toList.map fun b=>Value.int .u8 (.ofNat b.toNat)
omit [Io] in
theorem Bv(w:World)(e:TypeId)(s:ByteArray): ∃ cap w',∃ C:Array Value,∃ el:FT C,(Conv.stringToBytes e s).run P w=.ok (.slice (some ⟨w.heap.size,0,none⟩) s.size cap) w'/\s.size<=cap/\cap<=C.size/\
 w'.os=w.os/\w'.tape=w.tape/\w'.output=w.output/\w'.heap.size=w.heap.size+1/\(∀ b,w'.heap[b]? =if b=w.heap.size then some (.cells C el.el el.fz)else w.heap[b]?)/\(∀ (j:Nat) (v:Value),(xS s)[j]? =some v->C[j]? =some v):=by
 obtain⟨cap,qn⟩: ∃ cap,cap=(Question.appendCap s.size 0 e).cut (w.tape w.drawn (.appendCap s.size 0 e)):=⟨_,rfl⟩
 have Db:s.size<=cap:=by rw[qn];simp[Question.cut]
 obtain⟨C,hC⟩: ∃ C:Array Value,C=s.data.map (fun b=>Value.int .u8 (b.toNat:Int))++Array.replicate (cap - s.size) (.int .u8 0):=⟨_,rfl⟩
 have hCs:C.size=cap:=by rw[hC];simp;show s.size+_=_;omega
 refine⟨cap,(w.drew.alloc (.cells C e)).freeze {block:=w.heap.size,off:=C.size} 1,C,⟨e,(C.size,C.size+1),.inr (Nat.le_refl _)⟩,?_,Db,by omega,rfl,rfl,rfl,?_,?_,?_⟩
 ·have YW:(w.drew.alloc (.cells C e)).shape? w.heap.size=some (e,C.size):=by
   have:((w.drew.alloc (.cells C e)).heap)[w.heap.size]? =some (.cells C e):=by
    show(w.heap.push _)[w.heap.size]? =_
    simp
   simp only[World.shape?,this]
  simp[Conv.stringToBytes,run_choose,Question.forced,<-qn,<-hC,newRow,markStringish,YW]
 ·simp[World.freeze]
 ·intro b
  have h1:((w.drew.alloc (.cells C e)).heap)[b]? =if b=w.heap.size then some (.cells C e)else w.heap[b]? :=by
   show(w.heap.push _)[b]? =_
   rw[Array.getElem?_push]
  simp only[World.freeze,Nat.one_ne_zero,if_false]
  rw[Array.getElem?_modify,h1]
  by_cases hb:b=w.heap.size
  ·subst hb
   rw[if_pos rfl,if_pos rfl,if_pos rfl]
   rfl
  ·rw[if_neg hb,if_neg hb,if_neg (by show ¬ w.heap.size=b;omega)]
 ·intro j v hj
  unfold xS at hj
  have hl:=(List.getElem?_eq_some_iff.1 hj).1
  rw[hC,Array.getElem?_append_left (by simpa using hl)]
  simpa using hj
theorem bA.bytes(g:G)(w:World): ∀ (l:List UInt8),bA g w (l.map fun b=>AV.int .u8 (.ofNat b.toNat)) (l.map fun b=>Value.int .u8 (.ofNat b.toNat))
 | []=>by simp[bA]
 |b::l=>by
  simp only[List.map_cons,bA]
  exact⟨_,_,rfl,by simp only[VR],bA.bytes g w l⟩
theorem xU{S D e:TypeId}{d:TypeDesc}{x:Operand}(ho:o.op=.convert S D x)(hS:P.underlying S=some d)(hD:P.underlying D=some (.slice e))(he:P.underlying e=some (.int .u8)):
 iz P o (jH (aU x)):=by
 intro g w nt t h a v h' H Tr ev
 unfold jH at ev
 split at ev
 ·rename_i s hx
  have hv:=bh x _ _ _ _ _ _ Tr hx
  simp only[VR]at hv
  cases ev
  obtain⟨hv,_⟩:=hv
  obtain⟨cap,w',C,el,hr,Db,hcC,h1,h2,h3,h4,h5,hc⟩:=Bv (P:=P) w e s
  obtain⟨E,H'⟩:=ve H el h1 h2 h3 h4 h5 (cs:=pz (s.data.toList.map fun b=>.int .u8 (.ofNat b.toNat))) (vs:=xS s) (by rw[eK];exact bA.bytes g w s.data.toList) hc
  refine⟨_,w',.value (.slice (some ⟨w.heap.size,0,none⟩) s.size cap),_,?_,.inl rfl,E,H',?_⟩
  ·simp[execOp,ho,hv,convert,run_underlying hS,run_underlying hD,run_underlying he,hr]
  ·simp only[VR]
   refine .inr ⟨w.heap.size,0,cap,by simp[G.add],rfl,Db,?_⟩
   have:w'.heap[w.heap.size]? =some (.cells C el.el el.fz):=by rw[h5,if_pos rfl]
   rw[fm this]
   omega
 ·cases ev
theorem Bw{D e:TypeId}{x:Operand}(ho:o.op=.convert D D x)(hD:P.underlying D=some (.slice e))(he:P.underlying e=some (.int .u8)):iz P o (lS (aU x)):=by
 intro g w nt t h a v h' H Tr ev
 unfold lS at ev
 split at ev
 ·rename_i id off n sz hx
  have hv:=bh x _ _ _ _ _ _ Tr hx
  have kb:=hv
  cases hn:Nat.beq n 0 with
  |true=>rw[hn]at ev;cases ev
  |false=>
  rw[hn]at ev
  simp only[cond_false]at ev
  split at ev
  ·rename_i cs hg
   cases ev
   simp only[VR]at hv
   rcases hv with⟨rfl,_⟩|⟨b,s,cap,hm,hv,hc,_⟩
   ·cases hn
   obtain⟨C,el,vs,hw,hi,da,HU⟩:=H.row hg hm
   have YW:w.shape? b=some (el.el,C.size):=by simp only[World.shape?,hw]
   have hok:=el.YE
   obtain⟨E,H'⟩:=Da H (w':=w.freeze {block:=b,off:=C.size} 1) (el:=el) (el':=⟨el.el,if el.fz.1 == el.fz.2 then(C.size,C.size+1)else(min el.fz.1 C.size,max el.fz.2 (C.size+1)),by
    by_cases h0:el.fz.1=el.fz.2
    ·simp[h0]
    ·simp only[beq_iff_eq,h0,if_false]
     right
     show C.size<=min el.fz.1 C.size
     omega⟩) hg hm hw rfl rfl rfl (by simp[World.freeze]) (fun k=>by
    simp only[World.freeze,Nat.one_ne_zero,if_false]
    rw[Array.getElem?_modify]
    by_cases hk:k=b
    ·subst hk
     rw[if_pos rfl,if_pos rfl,hw]
     rfl
    ·rw[if_neg hk,if_neg (fun q=>hk q.symm)])
   refine⟨g,_,.value (a.eval x),a.eval x,?_,.inl rfl,E,H',VR.mono H E _ _ kb⟩
   rw[hv]
   simp[execOp,ho,hv,convert,run_underlying hD,run_underlying he,markStringish,YW]
  ·cases ev
 ·cases ev
omit [Io] in
theorem tG{P:Program}(t:TypeId)(w:World):(Instr.makeMap t none).run P w=.ok (.map (some w.heap.size)) (w.alloc (.map #[] 0)):=rfl
theorem Dc{T:TypeId}(ho:o.op=.makeMap T none):iz P o Bh:=by
 intro g w nt t h a v h' H Tr ev
 cases ev
 obtain⟨E,H'⟩:=HX H (w':=w.alloc (.map #[] 0)) rfl rfl rfl (by show(w.heap.push _).size=_;rw[Array.size_push]) (fun b hb=>by
  show(w.heap.push _)[b]? =_
  rw[Array.getElem?_push,if_neg (by omega)])
 exact⟨_,_,.value (.map (some w.heap.size)),_,by simp[execOp,ho,tG],.inl rfl,E,H',by simp only[VR];rfl⟩
end
end Go.Ab

noncomputable section
namespace Go.Ab
variable [Io]
section
variable {P:Program}
theorem dP{op:BinOp}{T:TypeId}{f s:AV->AV->Option AV}(hf:bZ P op T f)
 (hs: ∀ (a b r:AV),s a b=some r->(∀ (g:G) (w:World) (u v:Value),VR g w a u->VR g w b v-> ∃ k m k' n r0,u=.int k m/\v=.int k' n/\f (.int k m) (.int k' n)=some r0/\ ∀ z,VR g w r0 z->VR g w r z)):
 bZ P op T (gS f s):=by
 intro g w a b r u v ha hb h
 unfold gS at h
 cases hr:f a b with
 |some r'=>
  rw[hr]at h
  cases h
  exact hf g w a b r u v ha hb hr
 |none=>
  rw[hr]at h
  obtain⟨k,m,k',n,r0,rfl,rfl,h1,h2⟩:=hs a b r h g w u v ha hb
  obtain⟨z,hz,hv,hg⟩:=hf g w (.int k m) (.int k' n) r0 (.int k m) (.int k' n) (by simp only[VR]) (by simp only[VR]) h1
  exact⟨z,hz,h2 z hv,hg⟩
def fk(f s:AV->AV->Option AV):Prop:= ∀ (a b r:AV),s a b=some r->(∀ (g:G) (w:World) (u v:Value),VR g w a u->VR g w b v-> ∃ k m k' n r0,u=.int k m/\v=.int k' n/\f (.int k m) (.int k' n)=some r0/\ ∀ z,VR g w r0 z->VR g w r z)
theorem lW{f s1 s2:AV->AV->Option AV}(h1:fk f s1)(h2:fk f s2):fk f (gS s1 s2):=by
 intro a b r h g w u v ha hb
 unfold gS at h
 cases hr:s1 a b with
 |some r'=>rw[hr]at h;cases h;exact h1 a b r hr g w u v ha hb
 |none=>rw[hr]at h;exact h2 a b r h g w u v ha hb
theorem oO{F:AV->AV->Option AV}{c:Nat}{ok:IntKind->IntKind->Int->Int->Int->Int->Bool}
 (hF: ∀ k k' m n l u l' u',ok k k' l u l' u'=true->l<=m->m<=u->l'<=n->n<=u'-> ∃ r,F (.int k m) (.int k' n)=some (.int k r)/\XP c k m n=some (.int k r)/\nJ k<=r/\r<=mr k):fk F (tS c ok):=by
 intro a b r h g w u v ha hb
 unfold tS at h
 split at h
 ·rename_i k s o l u' hs
  split at h
  ·rename_i k' s' o' l' u'' Qp
   obtain⟨e1,h1,h2⟩:=qj hs ha
   obtain⟨e2,h3,h4⟩:=qj Qp hb
   cases hc:ok k k' l u' l' u'' with
   |false=>rw[hc]at h;cases h
   |true=>
    rw[hc]at h
    cases h
    obtain⟨r,hr,hq,h5,h6⟩:=hF k k' _ _ _ _ _ _ hc h1 h2 h3 h4
    refine⟨k,_,k',_,_,e1,e2,hr,?_⟩
    intro z hz
    simp only[VR]at hz
    subst hz
    have e3:bu (.tm c k k' s o s' o')=r:=by
     show QY c k (bu s+o) (bu s'+o')=r
     unfold QY
     rw[hq]
    simp only[VR]
    rw[e3]
    exact⟨by rw[Int.add_zero],h5,h6⟩
  ·cases h
 ·cases h
omit [Io] in
theorem Re(a b:Int):Int.add a b=a+b:=rfl
omit [Io] in
theorem vu(a b:Int):Int.sub a b=a - b:=rfl
omit [Io] in
theorem gV{a b:Int}:ez a b=true↔a<b:=by rw[dE];simp
omit [Io] in
theorem ee{a b:Int}:ez a b=false↔b<=a:=by rw[dE];simp
omit [Io] in
theorem cH{a b:Int}:eqI a b=true↔a=b:=by rw[nW];simp
omit [Io] in
theorem pJ(m n:Int):eqI m n=decide (m=n):=by
 by_cases e:m=n
 ·rw[cH.2 e];simp[e]
 ·rw[show eqI m n=false from by rw[Bool.eq_false_iff];exact fun h=>e (cH.1 h)];simp[e]
omit [Io] in
theorem ku{l:List Nat}: ∀ {m:List Nat},lL l m=true↔l=m:=by
 induction l with
 |nil=>intro m;cases m<;>simp[lL]
 |cons a l ih=>
  intro m
  cases m with
  |nil=>simp[lL]
  |cons b m=>
   show(bif Nat.beq a b then lL l m else false)=true↔_
   cases e:Nat.beq a b with
   |true=>
    rw[Nat.eq_of_beq_eq_true e]
    show lL l m=true↔_
    rw[ih];simp
   |false=>
    have:a≠b:=fun e'=>by subst e';rw[Nat.beq_refl]at e;cases e
    simp[this]
omit [Io] in
theorem Bx{a b:SV}(h:jn a b=true):a=b:=by
 cases a<;>cases b<;>simp[jn,cH,ku]at h<;>simp[h]
omit [Io] in
theorem mN{a:SV}: ∀ {b:SV},rI a b=true->a=b:=by
 induction a with
 |tm f k k' a oa b ob lZ p7=>
  intro y h
  cases y with
  |tm f2 k2 Yy a2 Yz b2 YA=>
   change (Nat.beq f f2&&(eI k k2&&(eI k' Yy&&(eqI oa Yz&&(eqI ob YA&&(rI a a2&&rI b b2))))))=true at h
   simp only[Bool.and_eq_true]at h
   obtain⟨h1,h2,h3,h4,h5,h6,h7⟩:=h
   rw[Nat.eq_of_beq_eq_true h1,bH.1 h2,bH.1 h3,cH.1 h4,cH.1 h5,lZ h6,p7 h7]
  | _=>cases h
 |ix l a o lZ=>
  intro y h
  cases y with
  |ix l2 a2 o2=>
   change (lL l l2&&(eqI o o2&&rI a a2))=true at h
   simp only[Bool.and_eq_true]at h
   obtain⟨h1,h2,h3⟩:=h
   rw[ku.1 h1,cH.1 h2,lZ h3]
  | _=>cases h
 | _=>intro y h;exact Bx h
omit [Io] in
theorem kv{l h:Int}(hl:l<=h)(x:Int):l<=fR l h x/\fR l h x<=h:=by
 unfold fR
 split
 ·omega
 ·split<;>omega
omit [Io] in
theorem qp{k:IntKind}{lo hi o:Int}(h:u4 k lo hi o=true):nJ k<=lo+o/\hi+o<=mr k:=by
 unfold u4 at h
 simp only[Bool.and_eq_true,Bool.not_eq_true',ee]at h
 exact h
omit [Io] in
theorem qt{k:IntKind}{n x:Int}(h1:nJ k<=n)(h2:n<=mr k)(h:x=n∨x=n - lY k∨x=n+lY k):cF k x=n:=by
 cases k<;>simp only[nJ,mr,lY]at h1 h2 h<;>simp only[cF]<;>
  first
   |(show x % _=n;omega)
   |(show(x+_) % _ - _=n;omega)
theorem fX{k:IntKind}{s:SV}{lo hi o x:Int}{r:AV}(h:nQ k s lo hi o=some r)(h1:lo<=bu s)(h2:bu s<=hi)(hx:x=bu s+o)(g:G)(w:World):
 ∀ z,VR g w (.int k (cF k x)) z->VR g w r z:=by
 intro z hz
 simp only[VR]at hz
 subst hz
 unfold nQ at h
 cases c1:u4 k lo hi o with
 |true=>
  rw[c1]at h
  cases h
  obtain⟨f1,f2⟩:=qp c1
  simp only[VR]
  exact⟨by rw[qt (n:=bu s+o) (by omega) (by omega) (.inl hx)],h1,h2⟩
 |false=>
 rw[c1]at h
 simp only[cond_false]at h
 cases c2:u4 k lo hi (Int.add o (lY k))with
 |true=>
  rw[c2]at h
  cases h
  obtain⟨f1,f2⟩:=qp c2
  have e:Int.add o (lY k)=o+lY k:=rfl
  rw[e]at f1 f2
  simp only[VR,e]
  exact⟨by rw[qt (n:=bu s+(o+lY k)) (by omega) (by omega) (.inr (.inl (by omega)))],h1,h2⟩
 |false=>
 rw[c2]at h
 simp only[cond_false]at h
 cases c3:u4 k lo hi (Int.sub o (lY k))with
 |true=>
  rw[c3]at h
  cases h
  obtain⟨f1,f2⟩:=qp c3
  have e:Int.sub o (lY k)=o - lY k:=rfl
  rw[e]at f1 f2
  simp only[VR,e]
  exact⟨by rw[qt (n:=bu s+(o - lY k)) (by omega) (by omega) (.inr (.inr (by omega)))],h1,h2⟩
 |false=>rw[c3]at h;cases h
omit [Io] in
theorem cq{f:IntKind->Int->Int->Option AV}{k:IntKind}{m n:Int}:iM f (.int k m) (.int k n)=f k m n:=by
 unfold iM
 simp only[bH.2 rfl,cond_true]
omit [Io] in
theorem bg{α:Type}{b:Bool}{x:Option α}{r:α}(h:(bif b then x else none)=some r):b=true/\x=some r:=by
 cases b
 ·cases h
 ·exact⟨rfl,h⟩
omit [Io] in
theorem zn{k:IntKind}{l u:Int}(h:XQ k l u=true):nJ k<=l/\u<=mr k:=by
 unfold XQ at h
 simp only[Bool.and_eq_true,Bool.not_eq_true',ee]at h
 exact h
omit [Io] in
theorem zq(k:IntKind):nJ k<=0/\0<=mr k:=by cases k<;>decide
theorem MH:fk A' (tS 0 jG):=oO (by
 intro k k' m n l u l' u' h _ _ _ _
 obtain rfl:=bH.1 h
 have e:A' (.int k m) (.int k n)=some (.int k (cF k (Int.add m n))):=cq
 exact⟨_,e,e,fE k _⟩)
theorem MI:fk Ba (tS 1 jG):=oO (by
 intro k k' m n l u l' u' h _ _ _ _
 obtain rfl:=bH.1 h
 have e:Ba (.int k m) (.int k n)=some (.int k (cF k (Int.sub m n))):=cq
 exact⟨_,e,e,fE k _⟩)
theorem MJ:fk Bb (tS 2 jG):=oO (by
 intro k k' m n l u l' u' h _ _ _ _
 obtain rfl:=bH.1 h
 have e:Bb (.int k m) (.int k n)=some (.int k (cF k (Int.mul m n))):=cq
 exact⟨_,e,e,fE k _⟩)
omit [Io] in
theorem vv{k k':IntKind}{l u l' u' n:Int}(h:u5 k k' l u l' u'=true)(h1:l'<=n)(h2:n<=u'):k=k'/\nJ k<=l/\u<=mr k/\eqI n 0=false:=by
 unfold u5 at h
 simp only[Bool.and_eq_true,Bool.or_eq_true,gV]at h
 obtain⟨hk,hi,hz⟩:=h
 obtain⟨a,b⟩:=zn hi
 refine⟨bH.1 hk,a,b,?_⟩
 rw[pJ]
 simp
 omega
omit [Io] in
theorem HY{k:IntKind}{a:Int}(b:Int)(h1:nJ k<=a)(h2:a<=mr k):nJ k<=Int.tmod a b/\Int.tmod a b<=mr k:=by
 have h0:=zq k
 cases a with
 |ofNat m=>
  cases b with
  |ofNat n=>
   have:=Nat.mod_le m n
   show nJ k<=((m % n:Nat):Int)/\((m % n:Nat):Int)<=mr k
   have Cs:(m:Int)<=mr k:=h2
   omega
  |negSucc n=>
   have:=Nat.mod_le m (n+1)
   show nJ k<=((m % (n+1):Nat):Int)/\((m % (n+1):Nat):Int)<=mr k
   have Cs:(m:Int)<=mr k:=h2
   omega
 |negSucc m=>
  have ju:nJ k<= -((m:Int)+1):=by rw[Int.negSucc_eq]at h1;omega
  cases b with
  |ofNat n=>
   have:=Nat.mod_le (m+1) n
   show nJ k<= -(((m+1) % n:Nat):Int)/\ -(((m+1) % n:Nat):Int)<=mr k
   omega
  |negSucc n=>
   have:=Nat.mod_le (m+1) (n+1)
   show nJ k<= -(((m+1) % (n+1):Nat):Int)/\ -(((m+1) % (n+1):Nat):Int)<=mr k
   omega
theorem MK:fk s9 (tS 3 u5):=oO (by
 intro k k' m n l u l' u' h _ _ h3 h4
 obtain⟨rfl,_,_,hz⟩:=vv h h3 h4
 have e:s9 (.int k m) (.int k n)=some (.int k (cF k (Int.tdiv m n))):=by
  unfold s9
  rw[cq,hz]
  rfl
 exact⟨_,e,e,fE k _⟩)
theorem ML:fk ta (tS 4 u5):=oO (by
 intro k k' m n l u l' u' h h1 h2 h3 h4
 obtain⟨rfl,ha,hb,hz⟩:=vv h h3 h4
 have e:ta (.int k m) (.int k n)=some (.int k (Int.tmod m n)):=by
  unfold ta
  rw[cq,hz]
  rfl
 exact⟨_,e,e,HY n (by omega) (by omega)⟩)
omit [Io] in
theorem MM(k:IntKind):(kg k:Int)=mr k+1/\nJ k<=0/\ ∃ i,kg k=2 ^ i:=by
 cases k
 ·exact⟨rfl,by decide,7,rfl⟩
 ·exact⟨rfl,by decide,15,rfl⟩
 ·exact⟨rfl,by decide,31,rfl⟩
 ·exact⟨rfl,by decide,63,rfl⟩
 ·exact⟨rfl,by decide,8,rfl⟩
 ·exact⟨rfl,by decide,16,rfl⟩
 ·exact⟨rfl,by decide,32,rfl⟩
 ·exact⟨rfl,by decide,64,rfl⟩
omit [Io] in
theorem Dd{op:BinOp}{f:Nat->Nat->Nat}(Mx:op=.and∨op=.or∨op=.xor)(hf: ∀ {a b i:Nat},a<2 ^ i->b<2 ^ i->f a b<2 ^ i)(k:IntKind)(m n:Int):
 ∃ r,jZ op f (.int k m) (.int k n)=some (.int k r)/\nJ k<=r/\r<=mr k:=by
 have MN: ∀ m n:Int,∃ r,oL (fx (Op.intBits op k m n))=some (.int k r)/\nJ k<=r/\r<=mr k:=by
  intro m n
  rcases Mx with rfl|rfl|rfl<;>(refine⟨_,rfl,?_⟩;rw[<-fD];exact fE k _)
 unfold jZ
 rw[cq]
 cases m with
 |ofNat a=>
  cases n with
  |ofNat b=>
   show ∃ r,(bif Nat.blt a (kg k)&&Nat.blt b (kg k)then some (AV.int k (.ofNat (f a b)))else _)=_/\_
   cases hb:(Nat.blt a (kg k)&&Nat.blt b (kg k))with
   |true=>
    rw[Bool.and_eq_true,bt,bt]at hb
    obtain⟨h1,h2,i,h3⟩:=MM k
    rw[h3]at hb h1
    have:=hf hb.1 hb.2
    exact⟨_,rfl,by show nJ k<=((f a b:Nat):Int);omega,by show((f a b:Nat):Int)<=_;omega⟩
   |false=>exact MN _ _
  |negSucc b=>exact MN _ _
 |negSucc a=>exact MN _ _
theorem xV{op:BinOp}{c:Nat}{f:Nat->Nat->Nat}(Mx:op=.and∨op=.or∨op=.xor)(hc: ∀ k m n,XP c k m n=jZ op f (.int k m) (.int k n))(hf: ∀ {a b i:Nat},a<2 ^ i->b<2 ^ i->f a b<2 ^ i):fk (jZ op f) (tS c jG):=oO (by
 intro k k' m n l u l' u' h _ _ _ _
 obtain rfl:=bH.1 h
 obtain⟨r,e,h1,h2⟩:=Dd Mx hf k m n
 exact⟨r,e,by rw[hc,e],h1,h2⟩)
theorem MO:fk Bc (tS 5 jG):=xV (.inl rfl) (fun _ _ _=>rfl) (fun{_ _ _} h _=>Nat.lt_of_le_of_lt Nat.and_le_left h)
theorem Rf:fk Qi (tS 6 jG):=xV (.inr (.inl rfl)) (fun _ _ _=>rfl) Nat.or_lt_two_pow
theorem MP:fk Bd (tS 7 jG):=xV (.inr (.inr rfl)) (fun _ _ _=>rfl) Nat.xor_lt_two_pow
omit [Io] in
theorem so{l n:Int}(h:(!(ez l 0))=true)(h1:l<=n): ∃ c:Nat,n=c:=by
 simp only[Bool.not_eq_true',ee]at h
 exact⟨n.toNat,by omega⟩
theorem MQ:fk tc (tS 8 zc):=oO (by
 intro k k' m n l u l' u' h _ _ h3 _
 obtain⟨c,rfl⟩:=so h h3
 exact⟨_,rfl,rfl,fE k _⟩)
omit [Io] in
theorem HZ{k:IntKind}{a:Int}(c:Nat)(h1:nJ k<=a)(h2:a<=mr k):nJ k<=Int.fdiv a (Int.ofNat (Nat.pow 2 c))/\Int.fdiv a (Int.ofNat (Nat.pow 2 c))<=mr k:=by
 have h0:=zq k
 have hp:0<Nat.pow 2 c:=Nat.pow_pos (by decide)
 rw[show Int.fdiv a (Int.ofNat (Nat.pow 2 c))=a / ((Nat.pow 2 c:Nat):Int)from Int.fdiv_eq_ediv_of_nonneg _ (Int.natCast_nonneg _)]
 generalize Nat.pow 2 c=p at hp ⊢
 have YX:(0:Int)<(p:Int):=by omega
 show nJ k<=a / (p:Int)/\a / (p:Int)<=mr k
 by_cases ha:0<=a
 ·have h3:=Int.ediv_nonneg ha (Int.le_of_lt YX)
  have h4:=Int.ediv_le_self (p:Int) ha
  omega
 ·have h3:a<=a / (p:Int):=by
   rw[Int.le_ediv_iff_mul_le YX]
   have:a*(p:Int)<=a*1:=Int.mul_le_mul_of_nonpos_left (by omega) (by omega)
   omega
  have h4:a / (p:Int)<0:=Int.ediv_neg_of_neg_of_pos (by omega) YX
  omega
theorem MR:fk tf (tS 9 u6):=oO (by
 intro k k' m n l u l' u' h h1 h2 h3 _
 unfold u6 at h
 rw[Bool.and_eq_true]at h
 obtain⟨ha,hb⟩:=zn h.1
 obtain⟨c,rfl⟩:=so h.2 h3
 exact⟨_,rfl,rfl,HZ _ (by omega) (by omega)⟩)
theorem MS:fk A' (gS Mk (tS 0 jG)):=(lW (by
 intro a b r h g w u v ha hb
 unfold Mk at h
 split at h
 ·replace h:=bg h
  obtain⟨hk,h⟩:=h
  obtain rfl:=bH.1 hk
  simp only[VR]at ha hb
  obtain⟨rfl,h1,h2⟩:=ha
  subst hb
  exact⟨_,_,_,_,_,rfl,rfl,cq,fX h h1 h2 (by simp only[Re];omega) g w⟩
 ·replace h:=bg h
  obtain⟨hk,h⟩:=h
  obtain rfl:=bH.1 hk
  simp only[VR]at ha hb
  obtain⟨rfl,h1,h2⟩:=hb
  subst ha
  exact⟨_,_,_,_,_,rfl,rfl,cq,fX h h1 h2 (by simp only[Re];omega) g w⟩
 ·cases h) MH)
theorem De(T:TypeId):bZ P .add T aX:=dP (Hm T) MS
theorem tH{b:List Nat}: ∀ {a m:List Nat},Ha b a=some m->bu (.sm a)=bu (.sm m)+bu (.sm b)
 | [],m,h=>by
  change (bif lL [] b then some []else none)=some m at h
  obtain⟨h1,h2⟩:=bg h
  cases h2
  rw[<-ku.1 h1]
  rfl
 |x::a,m,h=>by
  change (bif lL (x::a) b then some []else match Ha b a with
   |some m=>some (x::m)
   |none=>none)=some m at h
  cases hb:lL (x::a) b with
  |true=>
   rw[hb]at h
   cases h
   rw[<-ku.1 hb]
   show _=(0:Int)+_
   omega
  |false=>
   rw[hb]at h
   simp only[cond_false]at h
   split at h
   ·rename_i m' hm
    cases h
    have ih:=tH hm
    have e1:bu (.sm (x::a))=Io.io x+bu (.sm a):=rfl
    have e2:bu (.sm (x::m'))=Io.io x+bu (.sm m'):=rfl
    omega
   ·cases h
theorem MT:fk Ba (gS Ml (tS 1 jG)):=(lW (by
 intro a b r h g w u v ha hb
 unfold Ml at h
 split at h
 ·replace h:=bg h
  obtain⟨hk,h⟩:=h
  obtain rfl:=bH.1 hk
  simp only[VR]at ha hb
  obtain⟨rfl,h1,h2⟩:=ha
  subst hb
  exact⟨_,_,_,_,_,rfl,rfl,cq,fX h h1 h2 (by simp only[vu];omega) g w⟩
 ·rename_i k s lo hi o k' s' Qj nR o'
  cases hk:(eI k k'&&rI s s')with
  |true=>
   rw[hk]at h
   rw[Bool.and_eq_true]at hk
   obtain rfl:=bH.1 hk.1
   obtain rfl:=mN hk.2
   simp only[VR]at ha hb
   obtain⟨rfl,h1,h2⟩:=ha
   obtain⟨rfl,h3,h4⟩:=hb
   cases h
   refine⟨_,_,_,_,_,rfl,rfl,cq,?_⟩
   intro z hz
   simp only[VR]at hz ⊢
   rw[hz]
   congr 2
   simp only[vu]
   omega
  |false=>
   rw[hk]at h
   simp only[cond_false]at h
   replace h:=bg h
   obtain⟨YY,h⟩:=h
   obtain rfl:=bH.1 YY
   split at h
   ·rename_i i j l hh i'
    replace h:=bg h
    obtain⟨hc,h⟩:=h
    simp only[Bool.and_eq_true,Bool.not_eq_true',ee]at hc
    obtain rfl:=Nat.eq_of_beq_eq_true hc.1
    simp only[VR]at ha hb
    obtain⟨rfl,h1,h2⟩:=ha
    obtain⟨rfl,h3,h4⟩:=hb
    have dL:=kv hc.2 (Io.io j)
    exact⟨_,_,_,_,_,rfl,rfl,cq,fX h (s:=.cl j l hh) dL.1 dL.2 (by
     show Io.io i+fR l hh (Io.io j)+o - (Io.io i+o')=fR l hh (Io.io j)+(o - o')
     omega) g w⟩
   ·rename_i a b
    split at h
    ·rename_i m hm
     simp only[VR]at ha hb
     obtain⟨rfl,h1,h2⟩:=ha
     obtain⟨rfl,h3,h4⟩:=hb
     have hc:=tH hm
     exact⟨_,_,_,_,_,rfl,rfl,cq,fX h (s:=.sm m) (by simp only[vu];omega) (by simp only[vu];omega) (by simp only[vu];omega) g w⟩
    ·cases h
   ·rename_i a i
    split at h
    ·rename_i m hm
     simp only[VR]at ha hb
     obtain⟨rfl,h1,h2⟩:=ha
     obtain⟨rfl,h3,h4⟩:=hb
     have hc:=tH hm
     have h1i:bu (.sm [i])=bu (.var i):=by show Io.io i+0=Io.io i;omega
     exact⟨_,_,_,_,_,rfl,rfl,cq,fX h (s:=.sm m) (by simp only[vu];omega) (by simp only[vu];omega) (by simp only[vu];omega) g w⟩
    ·cases h
   ·cases h
 ·cases h) MI)
theorem Df(T:TypeId):bZ P .sub T cg:=dP (Hn T) MT
theorem kA{a b:AV}{c:Bool}(h:Cr a b=some c){g:G}{w:World}{u v:Value}(ha:VR g w a u)(hb:VR g w b v): ∃ k m n,u=.int k m/\v=.int k n/\c=decide (m<n):=by
 unfold Cr at h
 split at h
 ·replace h:=bg h
  obtain⟨hk,h⟩:=h
  obtain rfl:=bH.1 hk
  simp only[VR]at ha hb
  obtain⟨rfl,h1,h2⟩:=ha
  subst hb
  refine⟨_,_,_,rfl,rfl,?_⟩
  rename_i lo hi o c'
  cases c1:ez (Int.add hi o) c' with
  |true=>
   rw[c1]at h;cases h
   have:hi+o<c':=gV.1 c1
   simp;omega
  |false=>
   rw[c1]at h
   simp only[cond_false]at h
   cases c2:ez (Int.add lo o) c' with
   |true=>rw[c2]at h;cases h
   |false=>
    rw[c2]at h;cases h
    have:c'<=lo+o:=ee.1 c2
    simp;omega
 ·replace h:=bg h
  obtain⟨hk,h⟩:=h
  obtain rfl:=bH.1 hk
  simp only[VR]at ha hb
  obtain⟨rfl,h1,h2⟩:=hb
  subst ha
  refine⟨_,_,_,rfl,rfl,?_⟩
  rename_i c' k s lo hi o
  cases c1:ez c' (Int.add lo o)with
  |true=>
   rw[c1]at h;cases h
   have:c'<lo+o:=gV.1 c1
   simp;omega
  |false=>
   rw[c1]at h
   simp only[cond_false]at h
   cases c2:ez c' (Int.add hi o)with
   |true=>rw[c2]at h;cases h
   |false=>
    rw[c2]at h;cases h
    have:hi+o<=c':=ee.1 c2
    simp;omega
 ·rename_i k s lo hi o k' s' Qj nR o'
  cases hk:(eI k k'&&rI s s')with
  |true=>
   rw[hk]at h
   rw[Bool.and_eq_true]at hk
   obtain rfl:=bH.1 hk.1
   obtain rfl:=mN hk.2
   simp only[VR]at ha hb
   obtain⟨rfl,h1,h2⟩:=ha
   obtain⟨rfl,h3,h4⟩:=hb
   cases h
   refine⟨_,_,_,rfl,rfl,?_⟩
   rw[dE]
   congr 1
   apply propext
   constructor<;>omega
  |false=>
   rw[hk]at h
   simp only[cond_false]at h
   replace h:=bg h
   obtain⟨YY,h⟩:=h
   obtain rfl:=bH.1 YY
   have dec: ∀ {p q:Bool},(bif p then some true else bif q then none else some false)=some c->(p=true/\c=true)∨(p=false/\q=false/\c=false):=by
    intro p q e1
    cases p<;>cases q<;>simp_all
   split at h
   ·rename_i i j l hh i'
    replace h:=bg h
    obtain⟨hc,h⟩:=h
    simp only[Bool.and_eq_true,Bool.not_eq_true',ee]at hc
    obtain rfl:=Nat.eq_of_beq_eq_true hc.1
    simp only[VR]at ha hb
    obtain⟨rfl,h1,h2⟩:=ha
    obtain⟨rfl,h3,h4⟩:=hb
    have dL:=kv hc.2 (Io.io j)
    refine⟨_,_,_,rfl,rfl,?_⟩
    rcases dec h with⟨p,rfl⟩|⟨p,q,rfl⟩
    ·have p':hh+o<o':=gV.1 p
     show true=decide (Io.io i+fR l hh (Io.io j)+o<Io.io i+o')
     simp;omega
    ·have q':o'<=l+o:=ee.1 q
     show false=decide (Io.io i+fR l hh (Io.io j)+o<Io.io i+o')
     simp;omega
   ·rename_i i' i j l hh
    replace h:=bg h
    obtain⟨hc,h⟩:=h
    simp only[Bool.and_eq_true,Bool.not_eq_true',ee]at hc
    obtain rfl:=Nat.eq_of_beq_eq_true hc.1
    simp only[VR]at ha hb
    obtain⟨rfl,h1,h2⟩:=ha
    obtain⟨rfl,h3,h4⟩:=hb
    have dL:=kv hc.2 (Io.io j)
    refine⟨_,_,_,rfl,rfl,?_⟩
    rcases dec h with⟨p,rfl⟩|⟨p,q,rfl⟩
    ·have p':o<l+o':=gV.1 p
     show true=decide (Io.io i+o<Io.io i+fR l hh (Io.io j)+o')
     simp;omega
    ·have q':hh+o'<=o:=ee.1 q
     show false=decide (Io.io i+o<Io.io i+fR l hh (Io.io j)+o')
     simp;omega
   ·cases h
 ·cases h
theorem H5{a b:AV}{c:Bool}(h:He a b=some c){g:G}{w:World}{u v:Value}(ha:VR g w a u)(hb:VR g w b v): ∃ k m n,u=.int k m/\v=.int k n/\c=decide (m=n):=by
 have one: ∀ {lo hi o c' x:Int},(bif ez c' (Int.add lo o)||ez (Int.add hi o) c' then some false else bif eqI (Int.add lo o) c'&&eqI (Int.add hi o) c' then some true else none)=some c->lo<=x->x<=hi->c=decide (x+o=c'):=by
  intro lo hi o c' x h h1 h2
  cases c1:(ez c' (Int.add lo o)||ez (Int.add hi o) c')with
  |true=>
   rw[c1]at h;cases h
   rw[Bool.or_eq_true]at c1
   rcases c1 with c1|c1
   ·have:c'<lo+o:=gV.1 c1
    simp;omega
   ·have:hi+o<c':=gV.1 c1
    simp;omega
  |false=>
   rw[c1]at h
   simp only[cond_false]at h
   replace h:=bg h
   obtain⟨c2,h⟩:=h
   cases h
   rw[Bool.and_eq_true]at c2
   have e1:lo+o=c':=cH.1 c2.1
   have e2:hi+o=c':=cH.1 c2.2
   simp;omega
 unfold He at h
 split at h
 ·replace h:=bg h
  obtain⟨hk,h⟩:=h
  obtain rfl:=bH.1 hk
  simp only[VR]at ha hb
  obtain⟨rfl,h1,h2⟩:=ha
  subst hb
  exact⟨_,_,_,rfl,rfl,one h h1 h2⟩
 ·replace h:=bg h
  obtain⟨hk,h⟩:=h
  obtain rfl:=bH.1 hk
  simp only[VR]at ha hb
  obtain⟨rfl,h1,h2⟩:=hb
  subst ha
  refine⟨_,_,_,rfl,rfl,?_⟩
  rw[one h h1 h2]
  congr 1
  exact propext ⟨fun e=>e.symm,fun e=>e.symm⟩
 ·replace h:=bg h
  obtain⟨hk,h⟩:=h
  rw[Bool.and_eq_true]at hk
  obtain rfl:=bH.1 hk.1
  obtain rfl:=mN hk.2
  simp only[VR]at ha hb
  obtain⟨rfl,h1,h2⟩:=ha
  obtain⟨rfl,h3,h4⟩:=hb
  cases h
  refine⟨_,_,_,rfl,rfl,?_⟩
  rw[pJ]
  congr 1
  apply propext
  constructor<;>omega
 ·cases h
omit [Io] in
theorem pK{α:Type}(l m:List α):app l m=l++m:=by
 induction l with
 |nil=>rfl
 |cons a l ih=>show a::app l m=_;rw[ih];rfl
omit [Io] in
theorem vw(n:Nat):my n=List.replicate n 0:=by
 induction n with
 |zero=>rfl
 |succ n ih=>show 0::my n=_;rw[ih,List.replicate_succ]
omit [Io] in
theorem tJ(a b:Nat):Nat.beq a b=decide (a=b):=by
 cases e:Nat.beq a b with
 |true=>simp[Nat.eq_of_beq_eq_true e]
 |false=>
  have:a≠b:=fun e'=>by subst e';rw[Nat.beq_refl]at e;cases e
  simp[this]
omit [Io] in
theorem H6(a b:Nat):Nat.blt a b=decide (a<b):=by
 cases e:Nat.blt a b with
 |true=>simp[bt.1 e]
 |false=>
  have: ¬ a<b:=fun h=>by rw[bt.2 h]at e;cases e
  simp[this]
theorem MU(l:List Nat):ka (l.map dr)<=CE l:=by
 induction l with
 |nil=>exact Nat.le_refl _
 |cons c l ih=>
  show _<=Nat.add (Nat.mul 2 (CE l)) (Bool.rec 1 0 (Nat.beq c 0))
  rw[List.map_cons,ka,tJ]
  show _<=2*CE l+_
  by_cases e:c=0
  ·subst e;simp[dr];omega
  ·simp only[e,decide_false]
   cases dr c<;>simp<;>omega
theorem MV(l:List Nat):QR l<=ka (l.map dr):=by
 induction l with
 |nil=>exact Nat.le_refl _
 |cons c l ih=>
  show Nat.add (Nat.mul 2 (QR l)) (Bool.rec 0 1 (Nat.beq c 1))<=_
  rw[List.map_cons,ka,tJ]
  show 2*QR l+_<=_
  by_cases e:c=1
  ·subst e;simp[dr];omega
  ·simp only[e,decide_false]
   cases dr c<;>simp<;>omega
theorem H7(l:List Nat)(h:Hb l=true):ka (l.map dr)=CE l:=by
 induction l with
 |nil=>rfl
 |cons c l ih=>
  change (Bool.rec false (Hb l) (Nat.blt c 2):Bool)=true at h
  rw[H6]at h
  by_cases hc:c<2
  ·simp only[hc,decide_true]at h
   show _=Nat.add (Nat.mul 2 (CE l)) (Bool.rec 1 0 (Nat.beq c 0))
   rw[List.map_cons,ka,ih h,tJ]
   show _=2*CE l+_
   rcases(by omega:c=0∨c=1)with rfl|rfl<;>simp[dr]<;>omega
  ·simp[hc]at h
theorem qu{k:IntKind}{l:List Nat}{r:AV}(h:Qk k l=some r)(g:G)(w:World)(z:Value)(hz:VR g w (.int k ((ka (l.map dr):Nat):Int)) z):VR g w r z:=by
 simp only[VR]at hz
 subst hz
 unfold Qk at h
 cases c1:ez (mr k) (.ofNat (CE l))with
 |true=>rw[c1]at h;cases h
 |false=>
  rw[c1]at h
  simp only[cond_false]at h
  cases c2:Hb l with
  |true=>
   rw[c2]at h
   cases h
   simp only[VR]
   rw[H7 l c2];rfl
  |false=>
   rw[c2]at h
   cases h
   simp only[VR,bu]
   have h1:=MU l
   have h2:=MV l
   exact⟨by simp,by show((QR l:Nat):Int)<=_;omega,by show _<=((CE l:Nat):Int);omega⟩
theorem xW(w:Nat): ∀ n,n<2 ^ w->ka ((tj w n).map dr)=n:=by
 induction w with
 |zero=>intro n h;simp at h;subst h;rfl
 |succ w ih=>
  intro n h
  show ka ((Nat.mod n 2::tj w (Nat.div n 2)).map dr)=n
  rw[List.map_cons,ka,ih (Nat.div n 2) (by rw[Nat.pow_succ]at h;show n / 2<_;omega)]
  show(dr (n % 2)).toNat+2*(n / 2)=n
  rcases Nat.mod_two_eq_zero_or_one n with e|e<;>rw[e]<;>simp[dr]<;>omega
omit [Io] in
theorem kB(w:Nat): ∀ b j,(iP w b)[j]? =if j<w then some (b+j)else none:=by
 induction w with
 |zero=>intro b j;rw[if_neg (Nat.not_lt_zero j)];rfl
 |succ w ih=>
  intro b j
  show(b::iP w (b+1))[j]? =_
  cases j with
  |zero=>simp
  |succ j=>
   rw[List.getElem?_cons_succ,ih]
   simp only[Nat.add_lt_add_iff_right]
   congr 2
   omega
theorem qv(i w m n:Nat)(hw:w<=64)(hn:(Io.io i % 18446744073709551616).toNat=n)(h:n<2 ^ w):ka ((iP w (2+64*i)++List.replicate m 0).map dr)=n:=by
 apply Nat.eq_of_testBit_eq
 intro j
 rw[cY,List.getD,List.getElem?_map]
 by_cases hj:j<w
 ·have hl:j<(iP w (2+64*i)).length:=by
   rw[<-Nat.not_le]
   intro h'
   have:=List.getElem?_eq_none h'
   rw[kB,if_pos hj]at this
   cases this
  rw[List.getElem?_append_left hl,kB,if_pos hj]
  show dr (2+64*i+j)=_
  rw[show 2+64*i+j=(64*i+j)+2 from by omega]
  show(Io.io ((64*i+j) / 64) % 18446744073709551616).toNat.testBit ((64*i+j) % 64)=_
  rw[show(64*i+j) / 64=i from by omega,show(64*i+j) % 64=j from by omega,hn]
 ·have hl:(iP w (2+64*i)).length<=j:=by
   rw[<-Nat.not_lt]
   intro h'
   have:=List.getElem?_eq_getElem h'
   rw[kB,if_neg hj]at this
   cases this
  rw[List.getElem?_append_right hl,Nat.testBit_lt_two_pow (Nat.lt_of_lt_of_le h (Nat.pow_le_pow_right (by decide) (by omega)))]
  cases e:(List.replicate m 0)[j - (iP w (2+64*i)).length]? with
  |none=>rfl
  |some c=>
   have:=List.mem_of_getElem? e
   rw[List.mem_replicate]at this
   rw[this.2]
   rfl
theorem kC{x:AV}{k:IntKind}{l:List Nat}(h:toB x=some (k,l)){g:G}{w:World}{u:Value}(hx:VR g w x u):
 ∃ n:Nat,u=.int k (n:Int)/\n<kg k/\n=ka (l.map dr):=by
 have Rg: ∀ k,kg k<=2 ^ 64:=by intro k;cases k<;>decide
 unfold toB at h
 split at h
 ·rename_i k' n
  replace h:=bg h
  obtain⟨h1,h⟩:=h
  cases h
  rw[bt]at h1
  simp only[VR]at hx
  exact⟨n,hx,h1,(xW 64 n (Nat.lt_of_lt_of_le h1 (Rg _))).symm⟩
 ·rename_i k' l' lo hi o
  replace h:=bg h
  obtain⟨h1,h⟩:=h
  cases h
  rw[Bool.and_eq_true,bt]at h1
  obtain⟨ho,hh⟩:=h1
  obtain rfl:=Nat.eq_of_beq_eq_true ho
  simp only[VR,bu]at hx
  obtain⟨rfl,h2,h3⟩:=hx
  refine⟨_,?_,?_,rfl⟩
  ·simp
  ·have:((ka (l.map dr):Nat):Int)<=(hi:Int):=h3
   omega
 ·rename_i k' i lo hi o
  replace h:=bg h
  obtain⟨h1,h⟩:=h
  cases h
  simp only[Bool.and_eq_true,bt]at h1
  obtain⟨ho,hh,hp,hw⟩:=h1
  obtain rfl:=Nat.eq_of_beq_eq_true ho
  simp only[VR,bu]at hx
  obtain⟨rfl,h2,h3⟩:=hx
  have YZ:Nat.log2 hi+1<=64:=Nat.le_of_ble_eq_true hw
  have Cs:(lo:Int)<=Io.io i:=h2
  have h3':Io.io i<=(hi:Int):=h3
  have e:(Io.io i % 18446744073709551616).toNat=(Io.io i).toNat:=by
   have:=Rg k
   rw[Int.emod_eq_of_lt (by omega) (by omega)]
  refine⟨(Io.io i).toNat,?_,by omega,?_⟩
  ·congr 1
   show Io.io i+0=_
   omega
  ·rw[pK,vw]
   refine(qv i _ _ _ YZ e ?_).symm
   have:hi<2 ^ (Nat.log2 hi+1):=hp
   omega
 ·rename_i k' i lo hi o
  replace h:=bg h
  obtain⟨h1,h⟩:=h
  cases h
  rw[Bool.and_eq_true,bt]at h1
  obtain⟨ho,hh⟩:=h1
  obtain rfl:=Nat.eq_of_beq_eq_true ho
  simp only[VR,bu]at hx
  obtain⟨rfl,h2,h3⟩:=hx
  have h3':Io.io i % 18446744073709551616<=(hi:Int):=h3
  have h0:0<=Io.io i % 18446744073709551616:=Int.emod_nonneg _ (by decide)
  have h4:Io.io i % 18446744073709551616<18446744073709551616:=Int.emod_lt_of_pos _ (by decide)
  refine⟨(Io.io i % 18446744073709551616).toNat,?_,by omega,?_⟩
  ·congr 1
   show Io.io i % 18446744073709551616+0=_
   omega
  ·have:=qv i 64 0 _ (Nat.le_refl _) rfl (by omega:(Io.io i % 18446744073709551616).toNat<2 ^ 64)
   rw[List.replicate_zero,List.append_nil]at this
   exact this.symm
 ·cases h
theorem H8{f:Nat->Nat->Option Nat}{F:Bool->Bool->Bool}(hf: ∀ a b c,f a b=some c->dr c=F (dr a) (dr b))(l:List Nat):
 ∀ (m r:List Nat),Mm f l m=some r->l.length=m.length/\r.map dr=List.zipWith F (l.map dr) (m.map dr):=by
 induction l with
 |nil=>
  intro m r h
  cases m with
  |nil=>cases h;exact⟨rfl,rfl⟩
  |cons b m=>cases h
 |cons a l ih=>
  intro m r h
  cases m with
  |nil=>cases h
  |cons b m=>
   change (match(generalizing:=false) f a b with
    |some c=>match Mm f l m with
     |some r=>some (c::r)
     |none=>none
    |none=>none)=some r at h
   split at h
   ·rename_i c hc
    split at h
    ·rename_i r' hr
     cases h
     obtain⟨h1,h2⟩:=ih m r' hr
     exact⟨by simp[h1],by simp[h2,hf a b c hc]⟩
    ·cases h
   ·cases h
omit [Io] in
theorem Dg{a b:Bool}{x y z:Option Nat}{r:Option Nat}(h:(bif a then x else bif b then y else z)=r):(a=true/\x=r)∨(a=false/\b=true/\y=r)∨(a=false/\b=false/\z=r):=by
 cases a<;>cases b<;>simp_all
theorem H9(a b c:Nat)(h:Mn a b=some c):dr c=(dr a&&dr b):=by
 unfold Mn at h
 rcases Dg h with⟨h1,h⟩|⟨h1,h2,h⟩|⟨h1,h2,h⟩
 ·cases h
  rw[Bool.or_eq_true]at h1
  rcases h1 with e|e<;>rw[Nat.eq_of_beq_eq_true e]<;>simp[dr]
 ·cases h
  rw[Nat.eq_of_beq_eq_true h2]
  simp[dr]
 ·replace h:=bg h
  obtain⟨h3,h⟩:=h
  cases h
  rw[Bool.or_eq_true]at h3
  rcases h3 with e|e
  ·rw[Nat.eq_of_beq_eq_true e];simp[dr]
  ·rw[Nat.eq_of_beq_eq_true e];simp
theorem MW(a b c:Nat)(h:YB a b=some c):dr c=(dr a||dr b):=by
 unfold YB at h
 rcases Dg h with⟨h1,h⟩|⟨h1,h2,h⟩|⟨h1,h2,h⟩
 ·cases h
  rw[Bool.or_eq_true]at h1
  rcases h1 with e|e<;>rw[Nat.eq_of_beq_eq_true e]<;>simp[dr]
 ·cases h
  rw[Nat.eq_of_beq_eq_true h2]
  simp[dr]
 ·replace h:=bg h
  obtain⟨h3,h⟩:=h
  cases h
  rw[Bool.or_eq_true]at h3
  rcases h3 with e|e
  ·rw[Nat.eq_of_beq_eq_true e];simp[dr]
  ·rw[Nat.eq_of_beq_eq_true e];simp
theorem Ia(a b c:Nat)(h:Mo a b=some c):dr c=(dr a ^^ dr b):=by
 unfold Mo at h
 rcases Dg h with⟨h1,h⟩|⟨h1,h2,h⟩|⟨h1,h2,h⟩
 ·cases h
  rw[Nat.eq_of_beq_eq_true h1]
  simp[dr]
 ·cases h
  rw[Nat.eq_of_beq_eq_true h2]
  simp[dr]
 ·replace h:=bg h
  obtain⟨h3,h⟩:=h
  cases h
  rw[Nat.eq_of_beq_eq_true h3]
  simp[dr]
theorem Dh{op:BinOp}{f:Nat->Nat->Option Nat}{F:Bool->Bool->Bool}{N:Nat->Nat->Nat}(hf: ∀ a b c,f a b=some c->dr c=F (dr a) (dr b))
 (hN: ∀ a b i,(N a b).testBit i=F (a.testBit i) (b.testBit i))(h0:F false false=false)(a b r:AV)(h:zB f a b=some r)(g:G)(w:World)(u v:Value)(ha:VR g w a u)(hb:VR g w b v):
 ∃ k m k' n r0,u=.int k m/\v=.int k' n/\jZ op N (.int k m) (.int k' n)=some r0/\ ∀ z,VR g w r0 z->VR g w r z:=by
 unfold zB at h
 split at h
 ·rename_i k l k' m hl hm
  replace h:=bg h
  obtain⟨hk,h⟩:=h
  obtain rfl:=bH.1 hk
  obtain⟨x,rfl,hx,ex⟩:=kC hl ha
  obtain⟨y,rfl,hy,ey⟩:=kC hm hb
  split at h
  ·rename_i s hs
   obtain⟨e1,e2⟩:=H8 hf l m s hs
   refine⟨_,_,_,_,.int k (.ofNat (N x y)),rfl,rfl,?_,fun z hz=>qu h g w z ?_⟩
   ·unfold jZ
    rw[cq]
    show(bif Nat.blt x (kg k)&&Nat.blt y (kg k)then _ else _)=_
    rw[bt.2 hx,bt.2 hy]
    rfl
   ·rw[e2,Hj F N hN h0 _ _ (by simp[e1]),<-ex,<-ey]
    exact hz
  ·cases h
 ·cases h
theorem MX:fk Bc (gS QS (tS 5 jG)):=(lW (Dh H9 Nat.testBit_and rfl) MO)
theorem Di(T:TypeId):bZ P .and T cB:=dP (HD T) MX
theorem MY:fk Qi (gS sOr (tS 6 jG)):=(lW (Dh MW Nat.testBit_or rfl) Rf)
theorem Dj(T:TypeId):bZ P .or T gh:=dP (My T) MY
theorem MZ:fk Bd (gS QT (tS 7 jG)):=(lW (Dh Ia Nat.testBit_xor rfl) MP)
theorem Dk(T:TypeId):bZ P .xor T rZ:=dP (HE T) MZ
theorem n7(n:Nat):(my n).map dr=List.replicate n false:=by
 rw[vw,List.map_replicate];rfl
omit [Io] in
theorem zt(l:List Bool)(n:Nat):ka (l++List.replicate n false)=ka l:=by
 apply Hi
 intro i
 simp only[List.getD]
 by_cases h:i<l.length
 ·rw[List.getElem?_append_left h]
 ·rw[List.getElem?_append_right (Nat.le_of_not_lt h),List.getElem?_eq_none (Nat.le_of_not_lt h),List.getElem?_replicate]
  split<;>rfl
omit [Io] in
theorem M3{α:Type}(n:Nat)(l:List α):tk n l=l.take n:=by
 induction l generalizing n with
 |nil=>cases n<;>rfl
 |cons a l ih=>
  cases n with
  |zero=>rfl
  |succ n=>show a::tk n l=_;rw[ih];rfl
omit [Io] in
theorem M4{α:Type}(n:Nat)(l:List α):dp n l=l.drop n:=by
 induction l generalizing n with
 |nil=>cases n<;>rfl
 |cons a l ih=>
  cases n with
  |zero=>rfl
  |succ n=>show dp n l=_;rw[ih];rfl
omit [Io] in
theorem qw{k:IntKind}(h:Mp k=true)(n:Nat):cF k (n:Int)=((n % 2 ^ gg k:Nat):Int):=by
 cases k<;>first
  |(exact absurd h (by decide))
  |(show(n:Int) % _=_;simp only[gg];omega)
theorem xX{k:IntKind}(l:List Nat):ka ((app (tk (gg k) l) (my (Nat.sub 64 (gg k)))).map dr)=ka (l.map dr) % 2 ^ gg k:=by
 rw[pK,List.map_append,n7,zt,M3,List.map_take,CH]
theorem M5:fk tc (gS Hc (tS 8 zc)):=(lW (by
 intro a b r h g w u v ha hb
 unfold Hc at h
 split at h
 ·rename_i k l hl
  obtain⟨x,rfl,hx,ex⟩:=kC hl ha
  split at h
  ·rename_i k' n
   replace h:=bg h
   obtain⟨hk,h⟩:=h
   simp only[VR]at hb
   refine⟨_,_,_,_,_,rfl,hb,rfl,fun z hz=>qu h g w z ?_⟩
   rw[xX,pK,List.map_append,n7,Hk,<-ex]
   rw[<-qw hk]
   exact hz
  ·cases h
 ·cases h) MQ)
theorem Dl(T:TypeId):bZ P .shl T fl:=dP (HF T) M5
theorem M6:fk tf (gS Hd (tS 9 u6)):=(lW (by
 intro a b r h g w u v ha hb
 unfold Hd at h
 split at h
 ·rename_i k l hl
  obtain⟨x,rfl,hx,ex⟩:=kC hl ha
  split at h
  ·rename_i k' n
   simp only[VR]at hb
   refine⟨_,_,_,_,_,rfl,hb,rfl,fun z hz=>qu h g w z ?_⟩
   rw[pK,List.map_append,n7,zt,M4,List.map_drop,CI,<-ex]
   have e:Int.fdiv (x:Int) (Int.ofNat (Nat.pow 2 (lK n (gg k))))=((x / 2 ^ lK n (gg k):Nat):Int):=Int.fdiv_eq_ediv_of_nonneg _ (Int.natCast_nonneg _)
   rw[<-e]
   exact hz
  ·cases h
 ·cases h) MR)
theorem Dm(T:TypeId):bZ P .shr T cM:=dP (HG T) M6
theorem M7{a b:AV}{c:Bool}(h:Le a b=some c){g:G}{w:World}{u v:Value}(ha:VR g w a u)(hb:VR g w b v): ∃ k m n,u=.int k m/\v=.int k n/\c=decide (m=n):=by
 unfold Le at h
 split at h
 ·rename_i k l k' m hl hm
  replace h:=bg h
  obtain⟨hk,h⟩:=h
  rw[Bool.and_eq_true]at hk
  obtain rfl:=bH.1 hk.1
  obtain rfl:=ku.1 hk.2
  cases h
  obtain⟨x,rfl,_,ex⟩:=kC hl ha
  obtain⟨y,rfl,_,ey⟩:=kC hm hb
  refine⟨_,_,_,rfl,rfl,?_⟩
  rw[ex,ey];simp
 ·cases h
theorem Ib{a b:AV}{c:Bool}(h:Hf a b=some c){g:G}{w:World}{u v:Value}(ha:VR g w a u)(hb:VR g w b v): ∃ k m n,u=.int k m/\v=.int k n/\c=decide (m=n):=by
 unfold Hf at h
 cases e:He a b with
 |some c'=>rw[e]at h;cases h;exact H5 e ha hb
 |none=>rw[e]at h;exact M7 h ha hb
theorem M8{a b:AV}{c:Bool}(h:YC a b=some c){g:G}{w:World}{u v:Value}(ha:VR g w a u)(hb:VR g w b v): ∃ k m n,u=.int k m/\v=.int k n/\c=decide (m=n):=by
 unfold YC at h
 split at h
 ·rename_i e
  cases h
  obtain⟨k,m,n,rfl,rfl,e1⟩:=kA e ha hb
  have:m<n:=by simpa using e1.symm
  exact⟨_,_,_,rfl,rfl,by simp;omega⟩
 ·split at h
  ·rename_i e
   cases h
   obtain⟨k,m,n,rfl,rfl,e1⟩:=kA e hb ha
   have:m<n:=by simpa using e1.symm
   exact⟨_,_,_,rfl,rfl,by simp;omega⟩
  ·cases h
theorem xY{a b:AV}{c:Bool}(h:GQ a b=some c){g:G}{w:World}{u v:Value}(ha:VR g w a u)(hb:VR g w b v): ∃ k m n,u=.int k m/\v=.int k n/\c=decide (m=n):=by
 unfold GQ at h
 cases e:Hf a b with
 |some c'=>rw[e]at h;cases h;exact Ib e ha hb
 |none=>rw[e]at h;exact M8 h ha hb
omit [Io] in
theorem By{o:Option Bool}{f:Bool->AV}{r:AV}(h:(Option.rec none (fun b=>some (f b)) o:Option AV)=some r): ∃ b,o=some b/\r=f b:=by
 cases o with
 |none=>cases h
 |some b=>cases h;exact⟨b,rfl,rfl⟩
theorem ly{g:G}{w:World}{b c:Bool}(h:b=c): ∀ z,VR g w (.bool b) z->VR g w (.bool c) z:=by subst h;exact fun _ h=>h
theorem M9:fk G6 QU:=(by
 intro a b r h g w u v ha hb
 obtain⟨c,h',rfl⟩:=By h
 obtain⟨k,m,n,rfl,rfl,e⟩:=kA h' ha hb
 exact⟨_,_,_,_,_,rfl,rfl,cq,ly (by rw[e,dE])⟩)
theorem Dn(T:TypeId):bZ P .lss T aV:=dP (Ht T) M9
theorem Na:fk G8 QV:=(by
 intro a b r h g w u v ha hb
 obtain⟨c,h',rfl⟩:=By h
 obtain⟨k,m,n,rfl,rfl,e⟩:=kA h' hb ha
 exact⟨_,_,_,_,_,rfl,rfl,cq,ly (by rw[e,dE])⟩)
theorem Dp(T:TypeId):bZ P .gtr T cK:=dP (Hu T) Na
theorem Nb:fk G7 QW:=(by
 intro a b r h g w u v ha hb
 obtain⟨c,h',rfl⟩:=By h
 obtain⟨k,m,n,rfl,rfl,e⟩:=kA h' hb ha
 exact⟨_,_,_,_,_,rfl,rfl,cq,ly (by rw[e,dE])⟩)
theorem Dq(T:TypeId):bZ P .leq T cC:=dP (Hv T) Nb
theorem Nc:fk G9 QX:=(by
 intro a b r h g w u v ha hb
 obtain⟨c,h',rfl⟩:=By h
 obtain⟨k,m,n,rfl,rfl,e⟩:=kA h' ha hb
 exact⟨_,_,_,_,_,rfl,rfl,cq,ly (by rw[e,dE])⟩)
theorem Dr(T:TypeId):bZ P .geq T bS:=dP (Hw T) Nc
theorem Nd:fk (xD false) (YD false):=(by
 intro a b r h g w u v ha hb
 obtain⟨c,h',rfl⟩:=By h
 obtain⟨k,m,n,rfl,rfl,e⟩:=xY h' ha hb
 exact⟨_,_,_,_,_,rfl,rfl,cq,ly (by rw[e,pJ])⟩)
theorem Ds(T:TypeId):bZ P .eql T (ak false):=dP (Hx T) Nd
theorem Nf:fk (xD true) (YD true):=(by
 intro a b r h g w u v ha hb
 obtain⟨c,h',rfl⟩:=By h
 obtain⟨k,m,n,rfl,rfl,e⟩:=xY h' ha hb
 exact⟨_,_,_,_,_,rfl,rfl,cq,ly (by rw[e,pJ])⟩)
theorem Dt(T:TypeId):bZ P .neq T (ak true):=dP (Hy T) Nf
omit [Io] in
theorem vz{a b x:Int}{c:Nat}(hc:0<c)(h1:a<=x)(h2:x<=b)(ha:Int.fdiv a (.ofNat c)=Int.fdiv b (.ofNat c)):Int.fdiv x (.ofNat c)=Int.fdiv a (.ofNat c):=by
 have hp:(0:Int)<(Int.ofNat c):=by show(0:Int)<(c:Int);omega
 rw[Int.fdiv_eq_ediv_of_nonneg _ (by omega),Int.fdiv_eq_ediv_of_nonneg _ (by omega)]at*
 have e1:=Int.ediv_le_ediv hp h1
 have e2:=Int.ediv_le_ediv hp h2
 omega
theorem Ng:fk ta (gS Mq (tS 4 u5)):=(lW (by
 intro a b r h g w u v ha hb
 unfold Mq at h
 split at h
 ·rename_i k s lo hi o k' c
  replace h:=bg h
  obtain⟨hc,h⟩:=h
  simp only[Bool.and_eq_true,Bool.not_eq_true',ee]at hc
  obtain⟨hk,MA,Q2⟩:=hc
  obtain rfl:=bH.1 hk
  have XU:=bt.1 MA
  have Y0:0<=lo+o:=Q2
  simp only[VR]at ha hb
  obtain⟨rfl,h1,h2⟩:=ha
  subst hb
  have hx:0<=bu s+o:=by omega
  have Lo:(0:Int)<(Int.ofNat c):=by show(0:Int)<(c:Int);omega
  have lj:eqI (Int.ofNat c) 0=false:=by
   rw[Bool.eq_false_iff];intro e
   have:((c:Nat):Int)=0:=cH.1 e
   omega
  refine⟨_,_,_,_,AV.int k ((Int.tmod (bu s+o) (Int.ofNat c))),rfl,rfl,?_,?_⟩
  ·rw[ta,cq,lj]
   rfl
  ·intro z hz
   simp only[VR]at hz
   subst hz
   rw[Int.tmod_eq_emod_of_nonneg hx]
   cases e1:eqI (Int.fdiv (Int.add lo o) (.ofNat c)) (Int.fdiv (Int.add hi o) (.ofNat c))with
   |true=>
    rw[e1]at h
    cases h
    have e2:=vz XU (show lo+o<=bu s+o by omega) (show bu s+o<=hi+o by omega) (cH.1 e1)
    simp only[VR]
    refine⟨?_,h1,h2⟩
    have e3:=Int.emod_add_mul_ediv (bu s+o) (Int.ofNat c)
    rw[<-Int.fdiv_eq_ediv_of_nonneg _ (by omega),e2]at e3
    congr 1
    show _=bu s+(o - Int.fdiv (lo+o) (Int.ofNat c)*Int.ofNat c)
    rw[Int.mul_comm (Int.fdiv (lo+o) (Int.ofNat c))]
    omega
   |false=>
    rw[e1]at h
    simp only[cond_false]at h
    split at h
    ·rename_i i
     cases h
     simp only[VR]
     have hn:(0:Int)<=Io.io i % 18446744073709551616:=Int.emod_nonneg _ (by decide)
     have e:(bu (.uZ i)+Int.ofNat 0) % (Int.ofNat c)=bu (.umod i c):=by
      show(Io.io i % 18446744073709551616+0) % (c:Int)=(Io.io i % 18446744073709551616) % (c:Int)
      rw[Int.add_zero]
     refine⟨by rw[e,Int.add_zero],Int.emod_nonneg _ (by omega),?_⟩
     have:=Int.emod_lt_of_pos (Io.io i % 18446744073709551616) Lo
     show(Io.io i % 18446744073709551616) % (c:Int)<=(c:Int) - 1
     have h':(Io.io i % 18446744073709551616) % (c:Int)<(c:Int):=this
     omega
    ·rename_i i
     cases h
     simp only[VR]
     have e:(bu (.var i)+Int.ofNat 0) % (Int.ofNat c)=bu (.u0 i 1 c):=by
      show(Io.io i+0) % (c:Int)=(Io.io i / ((1:Nat):Int)) % (c:Int)
      rw[Int.add_zero,show((1:Nat):Int)=1 from rfl,Int.ediv_one]
     refine⟨by rw[e,Int.add_zero],Int.emod_nonneg _ (by omega),?_⟩
     have h':(Io.io i / ((1:Nat):Int)) % (c:Int)<(c:Int):=Int.emod_lt_of_pos _ Lo
     show(Io.io i / ((1:Nat):Int)) % (c:Int)<=(c:Int) - 1
     omega
    ·rename_i i p m
     replace h:=bg h
     obtain⟨hm,h⟩:=h
     obtain rfl:=Nat.eq_of_beq_eq_true hm
     cases h
     simp only[VR]
     have e:(bu (.u0 i p 0)+Int.ofNat 0) % (Int.ofNat c)=bu (.u0 i p c):=by
      show((Io.io i / (p:Int)) % ((0:Nat):Int)+0) % (c:Int)=(Io.io i / (p:Int)) % (c:Int)
      rw[Int.add_zero,show((0:Nat):Int)=0 from rfl,Int.emod_zero]
     refine⟨by rw[e,Int.add_zero],Int.emod_nonneg _ (by omega),?_⟩
     have h':(Io.io i / (p:Int)) % (c:Int)<(c:Int):=Int.emod_lt_of_pos _ Lo
     show(Io.io i / (p:Int)) % (c:Int)<=(c:Int) - 1
     omega
    ·rename_i i l hh j
     replace h:=bg h
     obtain⟨hq,h⟩:=h
     simp only[Bool.and_eq_true,Bool.not_eq_true',ee,gV]at hq
     obtain⟨GU,hl0,hh0,Y1⟩:=hq
     have hc3:=Nat.eq_of_beq_eq_true GU
     have hC:Int.ofNat c=(4294967296:Int):=by show((c:Nat):Int)=_;omega
     have dL:=kv Y1 (Io.io i)
     have e9:(bu (.pr i l hh j)+Int.ofNat 0) % (Int.ofNat c)=fR l hh (Io.io i):=by
      rw[hC]
      show(fR l hh (Io.io i)+4294967296*Io.io j+0) % 4294967296=_
      omega
     cases h
     cases he:eqI l hh with
     |true=>
      have:=cH.1 he
      simp only[cond_true,VR]
      rw[e9]
      congr 1
      omega
     |false=>
      simp only[cond_false,VR]
      refine⟨by rw[e9];show Value.int _ _=Value.int _ (fR l hh (Io.io i)+0);rw[Int.add_zero],dL.1,dL.2⟩
    ·rename_i i m o
     replace h:=bg h
     obtain⟨hq,h⟩:=h
     have hm:=Nat.eq_of_beq_eq_true hq
     cases h
     simp only[VR]
     congr 1
     show((m:Int)*Io.io i+(o:Int)) % (c:Int)=((o % c:Nat):Int)
     have pB:m % c=0:=hm
     obtain⟨d,hd⟩:=Nat.dvd_of_mod_eq_zero pB
     rw[hd,Int.natCast_mul,Int.mul_assoc,Int.add_comm,Int.add_mul_emod_self_left,Int.natCast_emod]
    ·cases h
 ·cases h) ML)
theorem Du(T:TypeId):bZ P .rem T mz:=dP (Hs T) Ng
theorem Nh:fk s9 (gS Mr (tS 3 u5)):=(lW (by
 intro a b r h g w u v ha hb
 unfold Mr at h
 split at h
 ·rename_i k s lo hi o k' c
  replace h:=bg h
  obtain⟨hc,h⟩:=h
  simp only[Bool.and_eq_true,Bool.not_eq_true',ee]at hc
  obtain⟨hk,MA,Q2⟩:=hc
  obtain rfl:=bH.1 hk
  have XU:=bt.1 MA
  have Y0:0<=lo+o:=Q2
  simp only[VR]at ha hb
  obtain⟨rfl,h1,h2⟩:=ha
  subst hb
  have hx:0<=bu s+o:=by omega
  have lj:eqI (Int.ofNat c) 0=false:=by
   rw[Bool.eq_false_iff];intro e
   have:((c:Nat):Int)=0:=cH.1 e
   omega
  have Lo:(0:Int)<(Int.ofNat c):=by show(0:Int)<(c:Int);omega
  refine⟨_,_,_,_,AV.int k (cF k (Int.tdiv (bu s+o) (Int.ofNat c))),rfl,rfl,?_,?_⟩
  ·rw[s9,cq,lj]
   rfl
  ·intro z hz
   rw[Int.tdiv_eq_ediv_of_nonneg hx]at hz
   cases e1:eqI (Int.fdiv (Int.add lo o) (.ofNat c)) (Int.fdiv (Int.add hi o) (.ofNat c))with
   |true=>
    rw[e1]at h
    cases h
    have e2:=vz XU (show lo+o<=bu s+o by omega) (show bu s+o<=hi+o by omega) (cH.1 e1)
    rw[<-Int.fdiv_eq_ediv_of_nonneg _ (by omega),e2]at hz
    exact hz
   |false=>
    rw[e1]at h
    simp only[cond_false]at h
    have mono: ∀ x y:Int,x<=y->Int.fdiv x (.ofNat c)<=Int.fdiv y (.ofNat c):=by
     intro x y hxy
     rw[Int.fdiv_eq_ediv_of_nonneg _ (by omega),Int.fdiv_eq_ediv_of_nonneg _ (by omega)]
     exact Int.ediv_le_ediv Lo hxy
    split at h
    ·rename_i i
     have e:bu (.u0 i c 0)=Int.fdiv (bu (.var i)) (.ofNat c):=by
      show(Io.io i / (c:Int)) % ((0:Nat):Int)=Int.fdiv (Io.io i) (c:Int)
      rw[show((0:Nat):Int)=0 from rfl,Int.emod_zero,Int.fdiv_eq_ediv_of_nonneg _ (by omega)]
     refine fX h (by rw[e];exact mono _ _ h1) (by rw[e];exact mono _ _ h2) (x:=(bu (.var i)+0) / (Int.ofNat c)) ?_ g w z hz
     rw[e,Int.fdiv_eq_ediv_of_nonneg _ (by omega),Int.add_zero,Int.add_zero]
    ·rename_i i p m
     replace h:=bg h
     obtain⟨hm,h⟩:=h
     obtain rfl:=Nat.eq_of_beq_eq_true hm
     have e:bu (.u0 i (Nat.mul p c) 0)=Int.fdiv (bu (.u0 i p 0)) (.ofNat c):=by
      show(Io.io i / ((p*c:Nat):Int)) % ((0:Nat):Int)=Int.fdiv ((Io.io i / (p:Int)) % ((0:Nat):Int)) (c:Int)
      rw[show((0:Nat):Int)=0 from rfl,Int.emod_zero,Int.emod_zero,Int.fdiv_eq_ediv_of_nonneg _ (by omega),Int.natCast_mul,Int.ediv_ediv_of_nonneg (by omega)]
     refine fX h (by rw[e];exact mono _ _ h1) (by rw[e];exact mono _ _ h2) (x:=(bu (.u0 i p 0)+0) / (Int.ofNat c)) ?_ g w z hz
     rw[e,Int.fdiv_eq_ediv_of_nonneg _ (by omega),Int.add_zero,Int.add_zero]
    ·cases h
 ·cases h) MK)
theorem Dv(T:TypeId):bZ P .quo T mA:=dP (Hr T) Nh
theorem zu{k:IntKind}{i c:Nat}{lo hi o:Int}{r:AV}(h:Ms k i lo hi o c=some r)(h1:lo<=bu (.var i))(h2:bu (.var i)<=hi)(g:G)(w:World):
 ∀ z,VR g w (.int k (cF k ((bu (.var i)+o)*(c:Int)))) z->VR g w r z:=by
 replace h:=bg h
 obtain⟨hc,h⟩:=h
 have XU:=bt.1 hc
 have Lo:(0:Int)<=(c:Int):=by omega
 refine fX h ?_ ?_ ?_ g w
 ·show(c:Int)*lo<=(c:Int)*Io.io i
  exact Int.mul_le_mul_of_nonneg_left h1 Lo
 ·show(c:Int)*Io.io i<=(c:Int)*hi
  exact Int.mul_le_mul_of_nonneg_left h2 Lo
 ·show(Io.io i+o)*(c:Int)=(c:Int)*Io.io i+(c:Int)*o
  rw[Int.mul_comm,Int.mul_add]
theorem Ni:fk Bb (gS Mt (tS 2 jG)):=(lW (by
 intro a b r h g w u v ha hb
 unfold Mt at h
 split at h
 ·rename_i k i lo hi o k' c
  replace h:=bg h
  obtain⟨hk,h⟩:=h
  obtain rfl:=bH.1 hk
  simp only[VR]at ha hb
  obtain⟨rfl,h1,h2⟩:=ha
  subst hb
  exact⟨_,_,_,_,_,rfl,rfl,cq,zu h h1 h2 g w⟩
 ·rename_i k' c k i lo hi o
  replace h:=bg h
  obtain⟨hk,h⟩:=h
  obtain rfl:=bH.1 hk
  simp only[VR]at ha hb
  obtain⟨rfl,h1,h2⟩:=hb
  subst ha
  refine⟨_,_,_,_,_,rfl,rfl,cq,fun z hz=>zu h h1 h2 g w z ?_⟩
  rw[Int.mul_comm]
  exact hz
 ·cases h) MJ)
theorem Dw(T:TypeId):bZ P .mul T eQ:=dP (Ho T) Ni
theorem Ic{k:IntKind}{x r:AV}(h:Be k x=some r){g:G}{w:World}{u:Value}(hx:VR g w x u): ∃ k' m,u=.int k' m/\VR g w r (.int k (cF k m)):=by
 unfold Be at h
 split at h
 ·rename_i k1 l hl
  replace h:=bg h
  obtain⟨hk,h⟩:=h
  obtain⟨x,e,_,ex⟩:=kC hl hx
  refine⟨_,_,e,qu h g w _ ?_⟩
  simp only[VR]
  rw[xX,<-ex,<-qw hk]
 ·cases h
omit [Io] in
theorem Ie(k:IntKind)(n:Int):cF k (cF (uK k) n)=cF k n:=by
 cases k<;>simp only[uK,cF]<;>
  first
   |(show(n % _) % _=n % _;omega)
   |(show((n % _)+_) % _ - _=(n+_) % _ - _;omega)
theorem Ig{k:IntKind}{x v:AV}(h:Hh k x=some v){g:G}{w:World}{u:Value}(hx:VR g w x u):
 ∃ k' m r0,u=.int k' m/\Bf k (.int k' m)=some r0/\ ∀ z,VR g w r0 z->VR g w v z:=by
 unfold Hh at h
 cases hc:Be (uK k) x with
 |some r=>
  rw[hc]at h
  change t1 11 k r=some v at h
  obtain⟨k',m,e,hr⟩:=Ic hc hx
  have hw:=fE k m
  refine⟨k',m,_,e,rfl,fun z hz=>?_⟩
  simp only[VR]at hz
  subst hz
  refine CQ h hr ?_ hw.1 hw.2
  show some (AV.int k (cF k (cF (uK k) m)))=_
  rw[Ie]
 |none=>
  rw[hc]at h
  change t1 11 k x=some v at h
  have hk: ∃ k' m,u=.int k' m:=by
   unfold t1 at h
   split at h
   ·rename_i kk s o l u' hs
    exact⟨_,_,(qj hs hx).1⟩
   ·cases h
  obtain⟨k',m,rfl⟩:=hk
  have hw:=fE k m
  refine⟨k',m,_,rfl,rfl,fun z hz=>?_⟩
  simp only[VR]at hz
  subst hz
  exact CQ h hx rfl hw.1 hw.2
theorem Ih{k:IntKind}{b v:AV}{g:G}{w:World}{u:Value}(hf:aM k b=some v)(hv:VR g w b u): ∃ k' m r0,u=.int k' m/\Bf k (.int k' m)=some r0/\ ∀ z,VR g w r0 z->VR g w v z:=by
 unfold aM CF at hf
 cases hr:Bf k b with
 |some r=>
  rw[hr]at hf
  cases hf
  unfold Bf at hr
  split at hr
  ·cases hr
   simp only[VR]at hv
   exact⟨_,_,_,hv,rfl,fun z h=>h⟩
  ·cases hr
 |none=>
  rw[hr]at hf
  change CF (Hg k) (Hh k) b=some v at hf
  unfold CF at hf
  cases hs:Hg k b with
  |none=>
   rw[hs]at hf
   exact Ig hf hv
  |some v'=>
  rw[hs]at hf
  cases hf
  have hf:=hs
  clear hs
  unfold Hg at hf
  split at hf
  ·rename_i k' s lo hi o
   simp only[VR]at hv
   obtain⟨hv,h1,h2⟩:=hv
   refine⟨_,_,_,hv,rfl,fun z hz=>?_⟩
   cases jL:nQ k s lo hi o with
   |some r=>
    rw[jL]at hf
    cases hf
    exact fX jL h1 h2 rfl g w z hz
   |none=>
    simp only[VR]at hz
    subst hz
    rw[jL]at hf
    simp only at hf
    unfold Lg at hf
    split at hf
    ·cases hf
     rename_i i
     have hn:(0:Int)<=Io.io i % 18446744073709551616:=Int.emod_nonneg _ (by decide)
     have hl:=Int.emod_lt_of_pos (Io.io i) (show(0:Int)<18446744073709551616 by decide)
     simp only[VR]
     refine⟨?_,hn,by show Io.io i % 18446744073709551616<=_;omega⟩
     show Value.int .u64 ((Io.io i+0) % 18446744073709551616)=Value.int .u64 (Io.io i % 18446744073709551616+0)
     rw[Int.add_zero,Int.add_zero]
    ·rename_i i l hh j
     replace hf:=bg hf
     obtain⟨hq,hf⟩:=hf
     simp only[Bool.and_eq_true,Bool.not_eq_true',ee,gV]at hq
     obtain⟨hl0,hh0,Y1⟩:=hq
     have dL:=kv Y1 (Io.io i)
     have e9:cF .u32 (bu (.pr i l hh j)+Int.ofNat 0)=fR l hh (Io.io i):=by
      show(fR l hh (Io.io i)+4294967296*Io.io j+0) % 4294967296=_
      omega
     cases hf
     cases he:eqI l hh with
     |true=>
      have:=cH.1 he
      simp only[cond_true,VR]
      rw[e9]
      congr 1
      omega
     |false=>
      simp only[cond_false,VR]
      refine⟨by rw[e9];show Value.int _ _=Value.int _ (fR l hh (Io.io i)+0);rw[Int.add_zero],dL.1,dL.2⟩
    ·unfold Be at hf
     split at hf
     ·rename_i k1 l hl
      replace hf:=bg hf
      obtain⟨hk,hf⟩:=hf
      obtain⟨x,e,_,ex⟩:=kC hl (show VR g w (.sym k' s lo hi o) (.int k' (bu s+o))from by simp only[VR];exact⟨trivial,h1,h2⟩)
      obtain⟨_,e⟩:=Value.int.inj e
      refine qu hf g w _ ?_
      simp only[VR]
      rw[xX,<-ex,<-qw hk,<-e]
     ·cases hf
  ·cases hf
theorem xZ{o:Oper}{S D:TypeId}{d:TypeDesc}{k:IntKind}{x:Operand}(ho:o.op=.convert S D x)(hS:P.underlying S=some d)(hD:P.underlying D=some (.int k)):
 bG P o (bL (aM k) (aU x)):=by
 intro g w nt t h a v h' H Tr e
 obtain⟨b,hb,hf,rfl⟩:=mK e
 have hv:=bh x _ _ _ _ _ _ Tr hb
 obtain⟨k',m,r0,kb,hr,hz⟩:=Ih hf hv
 cases hr
 exact⟨rfl,.int k (k.wrap m),by simp[execOp,ho,kb,convert,run_underlying hS,run_underlying hD,Conv.intToInt],hz _ (by simp only[VR,fD])⟩
theorem Dx{x y:Operand}{l6:Array TypeId}{o:Oper}(ho:o.op=.call {callee:=.builtin .min,args:= #[x,y],argTypes:=l6}):bG P o (nS (aU x) (aU y)):=by
 intro g w nt t h a v h' H Tr e
 unfold nS af at e
 cases hx:aU x t with
 |none=>rw[hx]at e;cases e
 |some ax=>
  cases hy:aU y t with
  |none=>rw[hx,hy]at e;cases e
  |some ay=>
   rw[hx,hy]at e
   have h3:=bh x _ _ _ _ _ _ Tr hx
   have h4:=bh y _ _ _ _ _ _ Tr hy
   unfold gS at e
   cases hr:iM (fun k a b=>some (.int k (bif ez b a then b else a))) ax ay with
   |some r=>
    simp only[hr]at e
    cases e
    obtain⟨k,m,n,rfl,rfl,h2⟩:=nX hr
    cases h2
    simp only[VR]at h3 h4
    refine⟨rfl,.int k (if n<m then n else m),by simp[execOp,ho,resolve,invoke,builtin,Builtin.min_,Builtin.min2,h3,h4],?_⟩
    simp only[VR,dE]
    by_cases eg:n<m<;>simp[eg]
   |none=>
    simp only[hr]at e
    cases hl:Cr ay ax with
    |none=>rw[hl]at e;cases e
    |some c=>
     rw[hl]at e
     cases e
     obtain⟨k,p,q,e1,e2,rfl⟩:=kA hl h4 h3
     have hex:(execOp a.eval o).run P w=.ok (.value (.int k (if p<q then p else q))) w:=by
      simp[execOp,ho,resolve,invoke,builtin,Builtin.min_,Builtin.min2,e1,e2]
     refine⟨rfl,_,hex,?_⟩
     by_cases eg:p<q
     ·simp only[eg,decide_true,cond_true,if_true,gt_iff_lt]
      rw[e1]at h4
      exact h4
     ·simp only[eg,decide_false,cond_false,if_false,gt_iff_lt]
      rw[e2]at h3
      exact h3
theorem Dy{x y:Operand}{l6:Array TypeId}{o:Oper}(ho:o.op=.call {callee:=.builtin .max,args:= #[x,y],argTypes:=l6}):bG P o (rJ (aU x) (aU y)):=by
 intro g w nt t h a v h' H Tr e
 unfold rJ af at e
 cases hx:aU x t with
 |none=>rw[hx]at e;cases e
 |some ax=>
  cases hy:aU y t with
  |none=>rw[hx,hy]at e;cases e
  |some ay=>
   rw[hx,hy]at e
   have h3:=bh x _ _ _ _ _ _ Tr hx
   have h4:=bh y _ _ _ _ _ _ Tr hy
   unfold gS at e
   cases hr:iM (fun k a b=>some (.int k (bif ez a b then b else a))) ax ay with
   |some r=>
    simp only[hr]at e
    cases e
    obtain⟨k,m,n,rfl,rfl,h2⟩:=nX hr
    cases h2
    simp only[VR]at h3 h4
    refine⟨rfl,.int k (if n>m then n else m),by simp[execOp,ho,resolve,invoke,builtin,Builtin.max_,Builtin.max2,h3,h4],?_⟩
    simp only[VR,dE]
    by_cases eg:m<n<;>simp[eg]
   |none=>
    simp only[hr]at e
    cases hl:Cr ax ay with
    |none=>rw[hl]at e;cases e
    |some c=>
     rw[hl]at e
     cases e
     obtain⟨k,p,q,e1,e2,rfl⟩:=kA hl h3 h4
     have hex:(execOp a.eval o).run P w=.ok (.value (.int k (if q>p then q else p))) w:=by
      simp[execOp,ho,resolve,invoke,builtin,Builtin.max_,Builtin.max2,e1,e2]
     refine⟨rfl,_,hex,?_⟩
     by_cases eg:p<q
     ·simp only[eg,decide_true,cond_true,if_true,gt_iff_lt]
      rw[e2]at h4
      exact h4
     ·simp only[eg,decide_false,cond_false,if_false,gt_iff_lt]
      rw[e1]at h3
      exact h3
end
end Go.Ab

noncomputable section
namespace Go.Ab
variable [Io]
section
variable {P:Program}
def scalars(P:Program)(n:Nat)(l:List Field):Option (List Bool):=
 List.rec (fun _=>some []) (fun f _ ih n=>bif Nat.beq f.offset n&& !(decide (f.name= "_"))then
  (match P.info? f.type with
  |some i=>bif Nat.beq i.size 1 then
   (match P.underlying f.type with
   |some (.int _)=>(match ih (Nat.add n 1)with|some r=>some (true::r)|none=>none)
   |some .bool=>(match ih (Nat.add n 1)with|some r=>some (false::r)|none=>none)
   | _=>none)else none
  |none=>none)else none) l n
theorem Nj{i:Bool}{x y:AV}{c:Bool}(h:Ql i x y=some c){g:G}{w:World}{u v:Value}(hx:VR g w x u)(hy:VR g w y v){T:TypeId}{d:Nat}
 (hT:(i=true/\ ∃ k,P.underlying T=some (.int k))∨(i=false/\P.underlying T=some .bool)):(Op.equalIn (d+1) T u v).run P w=.ok c w:=by
 rcases hT with⟨rfl,k,hT⟩|⟨rfl,hT⟩
 ·change (match(generalizing:=false) x,y with| .int k a,.int k' b=>bif eI k k' then some (eqI a b)else none| _,_=>GQ x y)=some c at h
  split at h
  ·rename_i k1 a k2 b
   cases e:eI k1 k2 with
   |false=>rw[e]at h;cases h
   |true=>
    rw[e]at h
    cases h
    obtain rfl:=bH.1 e
    simp only[VR]at hx hy
    subst hx;subst hy
    rw[run_equalIn_int w d T k1 k a b hT,nW]
  ·obtain⟨k1,m,n,rfl,rfl,rfl⟩:=xY h hx hy
   rw[run_equalIn_int w d T k1 k m n hT]
   congr 1
 ·change (match(generalizing:=false) x,y with| .bool a,.bool b=>some (!(xor a b))| _,_=>none)=some c at h
  split at h
  ·rename_i a b
   cases h
   simp only[VR]at hx hy
   subst hx;subst hy
   rw[run_equalIn_bool' w d T a b hT]
   cases a<;>cases b<;>rfl
  ·cases h
omit [Io] in
theorem vA{T:TypeId}{td:TypeDesc}{i:TypeInfo}{vs:Array Value}{n:Nat}{v:Value}{w:World}(hd:P.underlying T=some td)(ha:fF td=false)(hv:vs[n]? =some v):
 (Go.part T vs n).run P w=.ok v w:=by
 unfold Go.part
 simp only[Sem.run_bind,js hd,ha,Result.andThen_ok]
 simp[hv]
theorem oP{g:G}{w:World}(d:Nat): ∀ (fs:List Field) (n:Nat) (l:List Bool) (xs ys:List AV) (us vs:Array Value) (c:Bool),scalars P n fs=some l->u7 l xs ys=some c->
 bA g w xs (us.toList.drop n)->bA g w ys (vs.toList.drop n)->(Op.eqFields (d+1) us vs fs).run P w=.ok c w
 | [],n,l,xs,ys,us,vs,c,hs,e,hx,hy=>by
  cases hs
  cases e
  simp[Op.eqFields]
 |f::fs,n,l,xs,ys,us,vs,c,hs,e,hx,hy=>by
  change (bif Nat.beq f.offset n&& !(decide (f.name= "_"))then
   (match P.info? f.type with
   |some i=>bif Nat.beq i.size 1 then
    (match P.underlying f.type with
    |some (.int _)=>(match scalars P (n+1) fs with|some r=>some (true::r)|none=>none)
    |some .bool=>(match scalars P (n+1) fs with|some r=>some (false::r)|none=>none)
    | _=>none)else none
   |none=>none)else none)=some l at hs
  replace hs:=bg hs
  obtain⟨h0,hs⟩:=hs
  rw[Bool.and_eq_true]at h0
  have Rh:f.offset=n:=Nat.eq_of_beq_eq_true h0.1
  have Ri:f.name≠ "_" :=by simpa using h0.2
  split at hs
  ·replace hs:=bg hs
   obtain⟨_,hs⟩:=hs
   have key: ∀ (i:Bool) (r:List Bool) (td:TypeDesc),P.underlying f.type=some td->fF td=false->scalars P (n+1) fs=some r->l=i::r->
    ((i=true/\ ∃ k,P.underlying f.type=some (.int k))∨(i=false/\P.underlying f.type=some .bool))->(Op.eqFields (d+1) us vs (f::fs)).run P w=.ok c w:=by
    intro i r td htd Rj hr hl hT
    subst hl
    change (match(generalizing:=false) xs with
     | []=>none
     |x::xs=>match(generalizing:=false) ys with
      | []=>none
      |y::ys=>match Ql i x y with
       |none=>none
       |some c=>(Bool.rec (some false) (u7 r xs ys) c:Option Bool))=some c at e
    cases xs with
    |nil=>cases e
    |cons x xs=>
    cases ys with
    |nil=>cases e
    |cons y ys=>
    simp only at e
    cases h1:Ql i x y with
    |none=>rw[h1]at e;cases e
    |some c1=>
    rw[h1]at e
    simp only[bA]at hx hy
    obtain⟨u,us',hu,hxu,Nk⟩:=hx
    obtain⟨v,Q0,hv,Ii,x0⟩:=hy
    have hu0:us[n]? =some u:=by
     have:(us.toList.drop n)[0]? =some u:=by rw[hu];rfl
     simpa using this
    have hv0:vs[n]? =some v:=by
     have:(vs.toList.drop n)[0]? =some v:=by rw[hv];rfl
     simpa using this
    have hu1:us.toList.drop (n+1)=us':=by rw[<-List.drop_drop,hu];rfl
    have Rk:vs.toList.drop (n+1)=Q0:=by rw[<-List.drop_drop,hv];rfl
    have pu:(Go.part f.type us f.offset).run P w=.ok u w:=by rw[Rh];exact vA (i:=default) htd Rj hu0
    have pv:(Go.part f.type vs f.offset).run P w=.ok v w:=by rw[Rh];exact vA (i:=default) htd Rj hv0
    simp only[Op.eqFields,if_pos Ri,Sem.run_bind,pu,pv,Result.andThen_ok,Nj (P:=P) (d:=d) h1 hxu Ii hT]
    cases c1 with
    |false=>cases e;simp
    |true=>
     simp only[Bool.not_true,Bool.false_eq_true,if_false]
     exact oP d fs (n+1) r xs ys us vs c hr e (by rw[hu1];exact Nk) (by rw[Rk];exact x0)
   split at hs
   ·rename_i k hT
    split at hs
    ·rename_i r hr;cases hs;exact key true r _ hT rfl hr rfl (.inl ⟨rfl,_,hT⟩)
    ·cases hs
   ·rename_i hT
    split at hs
    ·rename_i r hr;cases hs;exact key false r _ hT rfl hr rfl (.inr ⟨rfl,hT⟩)
    ·cases hs
   ·cases hs
  ·cases hs
omit [Io] in
theorem sr{neg:Bool}{l:List Bool}{x y r:AV}(h:xE neg l x y=some r): ∃ xs ys c,x=.agg xs/\y=.agg ys/\u7 l xs ys=some c/\r=.bool (bif neg then !c else c):=by
 unfold xE at h
 split at h
 ·rename_i xs
  split at h
  ·rename_i ys
   split at h
   ·rename_i c hc
    cases h
    exact⟨xs,ys,c,rfl,rfl,hc,rfl⟩
   ·cases h
  ·cases h
 ·cases h
theorem zw{T:TypeId}{fs:Array Field}{l:List Bool}(hT:P.underlying T=some (.struct fs))(hs:P.stoodInHeld T=false)(hl:scalars P 0 fs.toList=some l){g:G}{w:World}
 {xs ys:List AV}{c:Bool}(hc:u7 l xs ys=some c){us vs:Array Value}(hx:bA g w xs us.toList)(hy:bA g w ys vs.toList):(Op.equalIn 10000 T (.agg us) (.agg vs)).run P w=.ok c w:=by
 have hf:P.fieldsOf T=fs:=by unfold Program.fieldsOf;rw[hT]
 refine(run_equalIn_struct w 9999 T us vs (by rw[hf];exact hT) hs).trans ?_
 rw[hf]
 exact oP 9998 fs.toList 0 l xs ys us vs c hl hc (by simpa using hx) (by simpa using hy)
theorem Ij{T:TypeId}{fs:Array Field}{l:List Bool}(hT:P.underlying T=some (.struct fs))(hs:P.stoodInHeld T=false)(hg:P.eqGuardType P.depth T=false)(hl:scalars P 0 fs.toList=some l):
 bZ P .eql T (xE false l):=by
 intro g w a b r u v ha hb h
 obtain⟨xs,ys,c,rfl,rfl,hc,rfl⟩:=sr h
 simp only[VR]at ha hb
 obtain⟨us,rfl,hx⟩:=ha
 obtain⟨vs,rfl,hy⟩:=hb
 refine⟨.bool c,?_,by simp only[VR];rfl,fun x y=>run_eqGuard_agg w .eql T x y us vs hg⟩
 rw[run_eql_struct,zw hT hs hl hc hx hy]
 rfl
theorem Ik{T:TypeId}{fs:Array Field}{l:List Bool}(hT:P.underlying T=some (.struct fs))(hs:P.stoodInHeld T=false)(hg:P.eqGuardType P.depth T=false)(hl:scalars P 0 fs.toList=some l):
 bZ P .neq T (xE true l):=by
 intro g w a b r u v ha hb h
 obtain⟨xs,ys,c,rfl,rfl,hc,rfl⟩:=sr h
 simp only[VR]at ha hb
 obtain⟨us,rfl,hx⟩:=ha
 obtain⟨vs,rfl,hy⟩:=hb
 refine⟨.bool (!c),?_,by simp only[VR];rfl,fun x y=>run_eqGuard_agg w .neq T x y us vs hg⟩
 rw[run_neq_struct,zw hT hs hl hc hx hy]
 rfl
def Bz(P:Program)(neg:Bool)(T:TypeId):Option (AV->AV->Option AV):=match P.underlying T with
 |some (.struct fs)=>match P.stoodInHeld T with
  |false=>match P.eqGuardType P.depth T with
   |false=>match scalars P 0 fs.toList with
    |some l=>some (xE neg l)
    |none=>none
   |true=>none
  |true=>none
 | _=>none
theorem Il{T:TypeId}{f:AV->AV->Option AV}(h:Bz P false T=some f):bZ P .eql T f:=by
 unfold Bz at h
 split at h
 ·rename_i fs hT
  split at h
  ·rename_i hs
   split at h
   ·rename_i hg
    split at h
    ·rename_i l hl
     cases h
     exact Ij hT hs hg hl
    ·cases h
   ·cases h
  ·cases h
 ·cases h
theorem Im{T:TypeId}{f:AV->AV->Option AV}(h:Bz P true T=some f):bZ P .neq T f:=by
 unfold Bz at h
 split at h
 ·rename_i fs hT
  split at h
  ·rename_i hs
   split at h
   ·rename_i hg
    split at h
    ·rename_i l hl
     cases h
     exact Ik hT hs hg hl
    ·cases h
   ·cases h
  ·cases h
 ·cases h
end
end Go.Ab
