import Derived.Test.YtcnkojgmochcgaaGreatDoorAb6
import Derived.Laws.StructEq
noncomputable section
namespace Go.Ab
variable [Io]
section
variable {P:Program}{o:Oper}
theorem HL{g w h}(H:HR g w h){w':World}(h1:w'.os=w.os)(h2:w'.tape=w.tape)(h3:w'.output=w.output)(h4:w'.heap.size=w.heap.size+1)
 (h5: ∀ b,b<w.heap.size->w'.heap[b]? =w.heap[b]?):
 Ext g w h ⟨g.m,fun b=>g.cT b∨b=w.heap.size⟩ w' h/\HR ⟨g.m,fun b=>g.cT b∨b=w.heap.size⟩ w' h:=by
 have adZ: ∀ b,eT g h b->b<w.heap.size:=by
  rintro b ⟨id,cs,s,e,m⟩
  obtain⟨_,_,_,hw,_⟩:=H.row e m
  exact(Array.getElem?_eq_some_iff.1 hw).1
 have E:Ext g w h ⟨g.m,fun b=>g.cT b∨b=w.heap.size⟩ w' h:=by
  refine⟨h1,h2,h3,by omega,Nat.le_refl _,fun _ _ e=>e,fun b hb _=>h5 b hb,?_,fun _ i=>.inl i,?_,fun _ o=>.inl o⟩
  ·intro b
   unfold cM
   by_cases hb:b<w.heap.size
   ·rw[h5 b hb];exact Nat.le_refl _
   ·rw[Array.getElem?_eq_none (by omega)];exact Nat.zero_le _
  ·rintro b (i|rfl)
   ·exact .inl i
   ·exact .inr (.inr (Nat.le_refl _))
 refine⟨E,H.fresh,?_,H.inj,?_,gz.ext H E⟩
 ·intro id cs e
  obtain⟨b,s,C,el,vs,hm,hw,hi,hv,hc⟩:=H.aN id cs e
  have hb:=(Array.getElem?_eq_some_iff.1 hw).1
  refine⟨b,s,C,el,vs,hm,by rw[h5 b hb];exact hw,?_,bq.mono H E _ _ hv,hc⟩
  rintro(i|rfl)
  ·exact hi i
  ·omega
 ·rintro b (i|rfl)
  ·have:=H.cT b i;omega
  ·omega
def xU(s:ByteArray):List Value:=s.data.toList.map fun b=>Value.int .u8 (.ofNat b.toNat)
omit [Io] in
theorem Bj(w:World)(e:TypeId)(s:ByteArray): ∃ cap w',∃ C:Array Value,∃ el:FT C,(Conv.stringToBytes e s).run P w=.ok (.slice (some ⟨w.heap.size,0,none⟩) s.size cap) w'/\s.size<=cap/\cap<=C.size/\
 w'.os=w.os/\w'.tape=w.tape/\w'.output=w.output/\w'.heap.size=w.heap.size+1/\(∀ b,w'.heap[b]? =if b=w.heap.size then some (.cells C el.el el.fz)else w.heap[b]?)/\(∀ (j:Nat) (v:Value),(xU s)[j]? =some v->C[j]? =some v):=by
 obtain⟨cap,mS⟩: ∃ cap,cap=(Question.appendCap s.size 0 e).cut (w.tape w.drawn (.appendCap s.size 0 e)):=⟨_,rfl⟩
 have C0:s.size<=cap:=by rw[mS];simp[Question.cut]
 obtain⟨C,hC⟩: ∃ C:Array Value,C=s.data.map (fun b=>Value.int .u8 (b.toNat:Int))++Array.replicate (cap - s.size) (.int .u8 0):=⟨_,rfl⟩
 have hCs:C.size=cap:=by rw[hC];simp;show s.size+_=_;omega
 refine⟨cap,(w.drew.alloc (.cells C e)).freeze {block:=w.heap.size,off:=C.size} 1,C,⟨e,(C.size,C.size+1),.inr (Nat.le_refl _)⟩,?_,C0,by omega,rfl,rfl,rfl,?_,?_,?_⟩
 ·have Ze:(w.drew.alloc (.cells C e)).shape? w.heap.size=some (e,C.size):=by
   have:((w.drew.alloc (.cells C e)).heap)[w.heap.size]? =some (.cells C e):=by
    show(w.heap.push _)[w.heap.size]? =_
    simp
   simp only[World.shape?,this]
  simp[Conv.stringToBytes,run_choose,Question.forced,<-mS,<-hC,newRow,markStringish,Ze]
 ·simp[World.freeze]
 ·intro b
  have h1:((w.drew.alloc (.cells C e)).heap)[b]? =if b=w.heap.size then some (.cells C e)else w.heap[b]? :=by
   show(w.heap.push _)[b]? =_
   rw[Array.getElem?_push]
  simp only[World.freeze,Nat.one_ne_zero,if_false]
  rw[Array.getElem?_modify,h1]
  by_cases hb:b=w.heap.size
  ·subst hb
   rw[if_pos rfl,if_pos rfl,if_pos rfl]
   rfl
  ·rw[if_neg hb,if_neg hb,if_neg (by show ¬ w.heap.size=b;omega)]
 ·intro j v hj
  unfold xU at hj
  have hl:=(List.getElem?_eq_some_iff.1 hj).1
  rw[hC,Array.getElem?_append_left (by simpa using hl)]
  simpa using hj
theorem bq.bytes(g:G)(w:World): ∀ (l:List UInt8),bq g w (l.map fun b=>AV.int .u8 (.ofNat b.toNat)) (l.map fun b=>Value.int .u8 (.ofNat b.toNat))
 | []=>by simp[bq]
 |b::l=>by
  simp only[List.map_cons,bq]
  exact⟨_,_,rfl,by simp only[VR],bq.bytes g w l⟩
theorem xV{S D e:TypeId}{d:TypeDesc}{x:Operand}(ho:o.op=.convert S D x)(hS:P.underlying S=some d)(hD:P.underlying D=some (.slice e))(he:P.underlying e=some (.int .u8)):
 ik P o (jA (aR x)):=by
 intro g w nt t h a v h' H Tr ev
 unfold jA at ev
 split at ev
 ·rename_i s hx
  have hv:=bc x _ _ _ _ _ _ Tr hx
  simp only[VR]at hv
  cases ev
  obtain⟨hv,_⟩:=hv
  obtain⟨cap,w',C,el,hr,C0,hcC,h1,h2,h3,h4,h5,hc⟩:=Bj (P:=P) w e s
  obtain⟨E,H'⟩:=vb H el h1 h2 h3 h4 h5 (cs:=pw (s.data.toList.map fun b=>.int .u8 (.ofNat b.toNat))) (vs:=xU s) (by rw[eQ];exact bq.bytes g w s.data.toList) hc
  refine⟨_,w',.value (.slice (some ⟨w.heap.size,0,none⟩) s.size cap),_,?_,.inl rfl,E,H',?_⟩
  ·simp[execOp,ho,hv,convert,run_underlying hS,run_underlying hD,run_underlying he,hr]
  ·simp only[VR]
   refine .inr ⟨w.heap.size,0,cap,by simp[G.add],rfl,C0,?_⟩
   have:w'.heap[w.heap.size]? =some (.cells C el.el el.fz):=by rw[h5,if_pos rfl]
   rw[fp this]
   omega
 ·cases ev
theorem Bk{D e:TypeId}{x:Operand}(ho:o.op=.convert D D x)(hD:P.underlying D=some (.slice e))(he:P.underlying e=some (.int .u8)):ik P o (lW (aR x)):=by
 intro g w nt t h a v h' H Tr ev
 unfold lW at ev
 split at ev
 ·rename_i id off n sz hx
  have hv:=bc x _ _ _ _ _ _ Tr hx
  have jx:=hv
  cases hn:Nat.beq n 0 with
  |true=>rw[hn]at ev;cases ev
  |false=>
  rw[hn]at ev
  simp only[cond_false]at ev
  split at ev
  ·rename_i cs hg
   cases ev
   simp only[VR]at hv
   rcases hv with⟨rfl,_⟩|⟨b,s,cap,hm,hv,hc,_⟩
   ·cases hn
   obtain⟨C,el,vs,hw,hi,cU,HJ⟩:=H.row hg hm
   have Ze:w.shape? b=some (el.el,C.size):=by simp only[World.shape?,hw]
   have hok:=el.YY
   obtain⟨E,H'⟩:=CZ H (w':=w.freeze {block:=b,off:=C.size} 1) (el:=el) (el':=⟨el.el,if el.fz.1 == el.fz.2 then(C.size,C.size+1)else(min el.fz.1 C.size,max el.fz.2 (C.size+1)),by
    by_cases h0:el.fz.1=el.fz.2
    ·simp[h0]
    ·simp only[beq_iff_eq,h0,if_false]
     right
     show C.size<=min el.fz.1 C.size
     omega⟩) hg hm hw rfl rfl rfl (by simp[World.freeze]) (fun k=>by
    simp only[World.freeze,Nat.one_ne_zero,if_false]
    rw[Array.getElem?_modify]
    by_cases hk:k=b
    ·subst hk
     rw[if_pos rfl,if_pos rfl,hw]
     rfl
    ·rw[if_neg hk,if_neg (fun q=>hk q.symm)])
   refine⟨g,_,.value (a.eval x),a.eval x,?_,.inl rfl,E,H',VR.mono H E _ _ jx⟩
   rw[hv]
   simp[execOp,ho,hv,convert,run_underlying hD,run_underlying he,markStringish,Ze]
  ·cases ev
 ·cases ev
omit [Io] in
theorem tw{P:Program}(t:TypeId)(w:World):(Instr.makeMap t none).run P w=.ok (.map (some w.heap.size)) (w.alloc (.map #[] 0)):=rfl
theorem C1{T:TypeId}(ho:o.op=.makeMap T none):ik P o A6:=by
 intro g w nt t h a v h' H Tr ev
 cases ev
 obtain⟨E,H'⟩:=HL H (w':=w.alloc (.map #[] 0)) rfl rfl rfl (by show(w.heap.push _).size=_;rw[Array.size_push]) (fun b hb=>by
  show(w.heap.push _)[b]? =_
  rw[Array.getElem?_push,if_neg (by omega)])
 exact⟨_,_,.value (.map (some w.heap.size)),_,by simp[execOp,ho,tw],.inl rfl,E,H',by simp only[VR];rfl⟩
end
end Go.Ab

noncomputable section
namespace Go.Ab
variable [Io]
section
variable {P:Program}
theorem dN{op:BinOp}{T:TypeId}{f s:AV->AV->Option AV}(hf:bY P op T f)
 (hs: ∀ (a b r:AV),s a b=some r->(∀ (g:G) (w:World) (u v:Value),VR g w a u->VR g w b v-> ∃ k m k' n r0,u=.int k m/\v=.int k' n/\f (.int k m) (.int k' n)=some r0/\ ∀ z,VR g w r0 z->VR g w r z)):
 bY P op T (gN f s):=by
 intro g w a b r u v ha hb h
 unfold gN at h
 cases hr:f a b with
 |some r'=>
  rw[hr]at h
  cases h
  exact hf g w a b r u v ha hb hr
 |none=>
  rw[hr]at h
  obtain⟨k,m,k',n,r0,rfl,rfl,h1,h2⟩:=hs a b r h g w u v ha hb
  obtain⟨z,hz,hv,hg⟩:=hf g w (.int k m) (.int k' n) r0 (.int k m) (.int k' n) (by simp only[VR]) (by simp only[VR]) h1
  exact⟨z,hz,h2 z hv,hg⟩
def fl(f s:AV->AV->Option AV):Prop:= ∀ (a b r:AV),s a b=some r->(∀ (g:G) (w:World) (u v:Value),VR g w a u->VR g w b v-> ∃ k m k' n r0,u=.int k m/\v=.int k' n/\f (.int k m) (.int k' n)=some r0/\ ∀ z,VR g w r0 z->VR g w r z)
theorem l4{f s1 s2:AV->AV->Option AV}(h1:fl f s1)(h2:fl f s2):fl f (gN s1 s2):=by
 intro a b r h g w u v ha hb
 unfold gN at h
 cases hr:s1 a b with
 |some r'=>rw[hr]at h;cases h;exact h1 a b r hr g w u v ha hb
 |none=>rw[hr]at h;exact h2 a b r h g w u v ha hb
theorem oN{F:AV->AV->Option AV}{c:Nat}{ok:IntKind->IntKind->Int->Int->Int->Int->Bool}
 (hF: ∀ k k' m n l u l' u',ok k k' l u l' u'=true->l<=m->m<=u->l'<=n->n<=u'-> ∃ r,F (.int k m) (.int k' n)=some (.int k r)/\Ya c k m n=some (.int k r)/\nL k<=r/\r<=mA k):fl F (tS c ok):=by
 intro a b r h g w u v ha hb
 unfold tS at h
 split at h
 ·rename_i k s o l u' hs
  split at h
  ·rename_i k' s' o' l' u'' GK
   obtain⟨e1,h1,h2⟩:=qb hs ha
   obtain⟨e2,h3,h4⟩:=qb GK hb
   cases hc:ok k k' l u' l' u'' with
   |false=>rw[hc]at h;cases h
   |true=>
    rw[hc]at h
    cases h
    obtain⟨r,hr,hq,h5,h6⟩:=hF k k' _ _ _ _ _ _ hc h1 h2 h3 h4
    refine⟨k,_,k',_,_,e1,e2,hr,?_⟩
    intro z hz
    simp only[VR]at hz
    subst hz
    have e3:bm (.tm c k k' s o s' o')=r:=by
     show Q9 c k (bm s+o) (bm s'+o')=r
     unfold Q9
     rw[hq]
    simp only[VR]
    rw[e3]
    exact⟨by rw[Int.add_zero],h5,h6⟩
  ·cases h
 ·cases h
omit [Io] in
theorem Rq(a b:Int):Int.add a b=a+b:=rfl
omit [Io] in
theorem vt(a b:Int):Int.sub a b=a - b:=rfl
omit [Io] in
theorem gP{a b:Int}:ez a b=true↔a<b:=by rw[dF];simp
omit [Io] in
theorem dY{a b:Int}:ez a b=false↔b<=a:=by rw[dF];simp
omit [Io] in
theorem cG{a b:Int}:eqI a b=true↔a=b:=by rw[nY];simp
omit [Io] in
theorem pE(m n:Int):eqI m n=decide (m=n):=by
 by_cases e:m=n
 ·rw[cG.2 e];simp[e]
 ·rw[show eqI m n=false from by rw[Bool.eq_false_iff];exact fun h=>e (cG.1 h)];simp[e]
omit [Io] in
theorem kB{l:List Nat}: ∀ {m:List Nat},lQ l m=true↔l=m:=by
 induction l with
 |nil=>intro m;cases m<;>simp[lQ]
 |cons a l ih=>
  intro m
  cases m with
  |nil=>simp[lQ]
  |cons b m=>
   show(bif Nat.beq a b then lQ l m else false)=true↔_
   cases e:Nat.beq a b with
   |true=>
    rw[Nat.eq_of_beq_eq_true e]
    show lQ l m=true↔_
    rw[ih];simp
   |false=>
    have:a≠b:=fun e'=>by subst e';rw[Nat.beq_refl]at e;cases e
    simp[this]
omit [Io] in
theorem Bl{a b:SV}(h:je a b=true):a=b:=by
 cases a<;>cases b<;>simp[je,cG,kB]at h<;>simp[h]
omit [Io] in
theorem mT{a:SV}: ∀ {b:SV},rz a b=true->a=b:=by
 induction a with
 |tm f k k' a oa b ob ma pV=>
  intro y h
  cases y with
  |tm f2 k2 YS a2 YT b2 YU=>
   change (Nat.beq f f2&&(eM k k2&&(eM k' YS&&(eqI oa YT&&(eqI ob YU&&(rz a a2&&rz b b2))))))=true at h
   simp only[Bool.and_eq_true]at h
   obtain⟨h1,h2,h3,h4,h5,h6,h7⟩:=h
   rw[Nat.eq_of_beq_eq_true h1,bD.1 h2,bD.1 h3,cG.1 h4,cG.1 h5,ma h6,pV h7]
  | _=>cases h
 |ix l a o ma=>
  intro y h
  cases y with
  |ix l2 a2 o2=>
   change (lQ l l2&&(eqI o o2&&rz a a2))=true at h
   simp only[Bool.and_eq_true]at h
   obtain⟨h1,h2,h3⟩:=h
   rw[kB.1 h1,cG.1 h2,ma h3]
  | _=>cases h
 | _=>intro y h;exact Bl h
omit [Io] in
theorem kC{l h:Int}(hl:l<=h)(x:Int):l<=fR l h x/\fR l h x<=h:=by
 unfold fR
 split
 ·omega
 ·split<;>omega
omit [Io] in
theorem qh{k:IntKind}{lo hi o:Int}(h:uZ k lo hi o=true):nL k<=lo+o/\hi+o<=mA k:=by
 unfold uZ at h
 simp only[Bool.and_eq_true,Bool.not_eq_true',dY]at h
 exact h
omit [Io] in
theorem qi{k:IntKind}{n x:Int}(h1:nL k<=n)(h2:n<=mA k)(h:x=n∨x=n - l9 k∨x=n+l9 k):cI k x=n:=by
 cases k<;>simp only[nL,mA,l9]at h1 h2 h<;>simp only[cI]<;>
  first
   |(show x % _=n;omega)
   |(show(x+_) % _ - _=n;omega)
theorem fZ{k:IntKind}{s:SV}{lo hi o x:Int}{r:AV}(h:nS k s lo hi o=some r)(h1:lo<=bm s)(h2:bm s<=hi)(hx:x=bm s+o)(g:G)(w:World):
 ∀ z,VR g w (.int k (cI k x)) z->VR g w r z:=by
 intro z hz
 simp only[VR]at hz
 subst hz
 unfold nS at h
 cases c1:uZ k lo hi o with
 |true=>
  rw[c1]at h
  cases h
  obtain⟨f1,f2⟩:=qh c1
  simp only[VR]
  exact⟨by rw[qi (n:=bm s+o) (by omega) (by omega) (.inl hx)],h1,h2⟩
 |false=>
 rw[c1]at h
 simp only[cond_false]at h
 cases c2:uZ k lo hi (Int.add o (l9 k))with
 |true=>
  rw[c2]at h
  cases h
  obtain⟨f1,f2⟩:=qh c2
  have e:Int.add o (l9 k)=o+l9 k:=rfl
  rw[e]at f1 f2
  simp only[VR,e]
  exact⟨by rw[qi (n:=bm s+(o+l9 k)) (by omega) (by omega) (.inr (.inl (by omega)))],h1,h2⟩
 |false=>
 rw[c2]at h
 simp only[cond_false]at h
 cases c3:uZ k lo hi (Int.sub o (l9 k))with
 |true=>
  rw[c3]at h
  cases h
  obtain⟨f1,f2⟩:=qh c3
  have e:Int.sub o (l9 k)=o - l9 k:=rfl
  rw[e]at f1 f2
  simp only[VR,e]
  exact⟨by rw[qi (n:=bm s+(o - l9 k)) (by omega) (by omega) (.inr (.inr (by omega)))],h1,h2⟩
 |false=>rw[c3]at h;cases h
omit [Io] in
theorem cf{f:IntKind->Int->Int->Option AV}{k:IntKind}{m n:Int}:iJ f (.int k m) (.int k n)=f k m n:=by
 unfold iJ
 simp only[bD.2 rfl,cond_true]
omit [Io] in
theorem bb{α:Type}{b:Bool}{x:Option α}{r:α}(h:(bif b then x else none)=some r):b=true/\x=some r:=by
 cases b
 ·cases h
 ·exact⟨rfl,h⟩
omit [Io] in
theorem zf{k:IntKind}{l u:Int}(h:Yb k l u=true):nL k<=l/\u<=mA k:=by
 unfold Yb at h
 simp only[Bool.and_eq_true,Bool.not_eq_true',dY]at h
 exact h
omit [Io] in
theorem zg(k:IntKind):nL k<=0/\0<=mA k:=by cases k<;>decide
theorem MP:fl AY (tS 0 jz):=oN (by
 intro k k' m n l u l' u' h _ _ _ _
 obtain rfl:=bD.1 h
 have e:AY (.int k m) (.int k n)=some (.int k (cI k (Int.add m n))):=cf
 exact⟨_,e,e,fE k _⟩)
theorem MQ:fl AZ (tS 1 jz):=oN (by
 intro k k' m n l u l' u' h _ _ _ _
 obtain rfl:=bD.1 h
 have e:AZ (.int k m) (.int k n)=some (.int k (cI k (Int.sub m n))):=cf
 exact⟨_,e,e,fE k _⟩)
theorem MR:fl A0 (tS 2 jz):=oN (by
 intro k k' m n l u l' u' h _ _ _ _
 obtain rfl:=bD.1 h
 have e:A0 (.int k m) (.int k n)=some (.int k (cI k (Int.mul m n))):=cf
 exact⟨_,e,e,fE k _⟩)
omit [Io] in
theorem vu{k k':IntKind}{l u l' u' n:Int}(h:u0 k k' l u l' u'=true)(h1:l'<=n)(h2:n<=u'):k=k'/\nL k<=l/\u<=mA k/\eqI n 0=false:=by
 unfold u0 at h
 simp only[Bool.and_eq_true,Bool.or_eq_true,gP]at h
 obtain⟨hk,hi,hz⟩:=h
 obtain⟨a,b⟩:=zf hi
 refine⟨bD.1 hk,a,b,?_⟩
 rw[pE]
 simp
 omega
omit [Io] in
theorem HM{k:IntKind}{a:Int}(b:Int)(h1:nL k<=a)(h2:a<=mA k):nL k<=Int.tmod a b/\Int.tmod a b<=mA k:=by
 have h0:=zg k
 cases a with
 |ofNat m=>
  cases b with
  |ofNat n=>
   have:=Nat.mod_le m n
   show nL k<=((m % n:Nat):Int)/\((m % n:Nat):Int)<=mA k
   have Cf:(m:Int)<=mA k:=h2
   omega
  |negSucc n=>
   have:=Nat.mod_le m (n+1)
   show nL k<=((m % (n+1):Nat):Int)/\((m % (n+1):Nat):Int)<=mA k
   have Cf:(m:Int)<=mA k:=h2
   omega
 |negSucc m=>
  have kd:nL k<= -((m:Int)+1):=by rw[Int.negSucc_eq]at h1;omega
  cases b with
  |ofNat n=>
   have:=Nat.mod_le (m+1) n
   show nL k<= -(((m+1) % n:Nat):Int)/\ -(((m+1) % n:Nat):Int)<=mA k
   omega
  |negSucc n=>
   have:=Nat.mod_le (m+1) (n+1)
   show nL k<= -(((m+1) % (n+1):Nat):Int)/\ -(((m+1) % (n+1):Nat):Int)<=mA k
   omega
theorem MS:fl sV (tS 3 u0):=oN (by
 intro k k' m n l u l' u' h _ _ h3 h4
 obtain⟨rfl,_,_,hz⟩:=vu h h3 h4
 have e:sV (.int k m) (.int k n)=some (.int k (cI k (Int.tdiv m n))):=by
  unfold sV
  rw[cf,hz]
  rfl
 exact⟨_,e,e,fE k _⟩)
theorem MT:fl sW (tS 4 u0):=oN (by
 intro k k' m n l u l' u' h h1 h2 h3 h4
 obtain⟨rfl,ha,hb,hz⟩:=vu h h3 h4
 have e:sW (.int k m) (.int k n)=some (.int k (Int.tmod m n)):=by
  unfold sW
  rw[cf,hz]
  rfl
 exact⟨_,e,e,HM n (by omega) (by omega)⟩)
omit [Io] in
theorem MU(k:IntKind):(ki k:Int)=mA k+1/\nL k<=0/\ ∃ i,ki k=2 ^ i:=by
 cases k
 ·exact⟨rfl,by decide,7,rfl⟩
 ·exact⟨rfl,by decide,15,rfl⟩
 ·exact⟨rfl,by decide,31,rfl⟩
 ·exact⟨rfl,by decide,63,rfl⟩
 ·exact⟨rfl,by decide,8,rfl⟩
 ·exact⟨rfl,by decide,16,rfl⟩
 ·exact⟨rfl,by decide,32,rfl⟩
 ·exact⟨rfl,by decide,64,rfl⟩
omit [Io] in
theorem C3{op:BinOp}{f:Nat->Nat->Nat}(MF:op=.and∨op=.or∨op=.xor)(hf: ∀ {a b i:Nat},a<2 ^ i->b<2 ^ i->f a b<2 ^ i)(k:IntKind)(m n:Int):
 ∃ r,jY op f (.int k m) (.int k n)=some (.int k r)/\nL k<=r/\r<=mA k:=by
 have MV: ∀ m n:Int,∃ r,oJ (fA (Op.intBits op k m n))=some (.int k r)/\nL k<=r/\r<=mA k:=by
  intro m n
  rcases MF with rfl|rfl|rfl<;>(refine⟨_,rfl,?_⟩;rw[<-fD];exact fE k _)
 unfold jY
 rw[cf]
 cases m with
 |ofNat a=>
  cases n with
  |ofNat b=>
   show ∃ r,(bif Nat.blt a (ki k)&&Nat.blt b (ki k)then some (AV.int k (.ofNat (f a b)))else _)=_/\_
   cases hb:(Nat.blt a (ki k)&&Nat.blt b (ki k))with
   |true=>
    rw[Bool.and_eq_true,bh,bh]at hb
    obtain⟨h1,h2,i,h3⟩:=MU k
    rw[h3]at hb h1
    have:=hf hb.1 hb.2
    exact⟨_,rfl,by show nL k<=((f a b:Nat):Int);omega,by show((f a b:Nat):Int)<=_;omega⟩
   |false=>exact MV _ _
  |negSucc b=>exact MV _ _
 |negSucc a=>exact MV _ _
theorem xW{op:BinOp}{c:Nat}{f:Nat->Nat->Nat}(MF:op=.and∨op=.or∨op=.xor)(hc: ∀ k m n,Ya c k m n=jY op f (.int k m) (.int k n))(hf: ∀ {a b i:Nat},a<2 ^ i->b<2 ^ i->f a b<2 ^ i):fl (jY op f) (tS c jz):=oN (by
 intro k k' m n l u l' u' h _ _ _ _
 obtain rfl:=bD.1 h
 obtain⟨r,e,h1,h2⟩:=C3 MF hf k m n
 exact⟨r,e,by rw[hc,e],h1,h2⟩)
theorem MW:fl A1 (tS 5 jz):=xW (.inl rfl) (fun _ _ _=>rfl) (fun{_ _ _} h _=>Nat.lt_of_le_of_lt Nat.and_le_left h)
theorem Ru:fl Qu (tS 6 jz):=xW (.inr (.inl rfl)) (fun _ _ _=>rfl) Nat.or_lt_two_pow
theorem MX:fl A2 (tS 7 jz):=xW (.inr (.inr rfl)) (fun _ _ _=>rfl) Nat.xor_lt_two_pow
omit [Io] in
theorem r8{l n:Int}(h:(!(ez l 0))=true)(h1:l<=n): ∃ c:Nat,n=c:=by
 simp only[Bool.not_eq_true',dY]at h
 exact⟨n.toNat,by omega⟩
theorem MY:fl sX (tS 8 yY):=oN (by
 intro k k' m n l u l' u' h _ _ h3 _
 obtain⟨c,rfl⟩:=r8 h h3
 exact⟨_,rfl,rfl,fE k _⟩)
omit [Io] in
theorem HN{k:IntKind}{a:Int}(c:Nat)(h1:nL k<=a)(h2:a<=mA k):nL k<=Int.fdiv a (Int.ofNat (Nat.pow 2 c))/\Int.fdiv a (Int.ofNat (Nat.pow 2 c))<=mA k:=by
 have h0:=zg k
 have hp:0<Nat.pow 2 c:=Nat.pow_pos (by decide)
 rw[show Int.fdiv a (Int.ofNat (Nat.pow 2 c))=a / ((Nat.pow 2 c:Nat):Int)from Int.fdiv_eq_ediv_of_nonneg _ (Int.natCast_nonneg _)]
 generalize Nat.pow 2 c=p at hp ⊢
 have Zf:(0:Int)<(p:Int):=by omega
 show nL k<=a / (p:Int)/\a / (p:Int)<=mA k
 by_cases ha:0<=a
 ·have h3:=Int.ediv_nonneg ha (Int.le_of_lt Zf)
  have h4:=Int.ediv_le_self (p:Int) ha
  omega
 ·have h3:a<=a / (p:Int):=by
   rw[Int.le_ediv_iff_mul_le Zf]
   have:a*(p:Int)<=a*1:=Int.mul_le_mul_of_nonpos_left (by omega) (by omega)
   omega
  have h4:a / (p:Int)<0:=Int.ediv_neg_of_neg_of_pos (by omega) Zf
  omega
theorem MZ:fl sY (tS 9 u4):=oN (by
 intro k k' m n l u l' u' h h1 h2 h3 _
 unfold u4 at h
 rw[Bool.and_eq_true]at h
 obtain⟨ha,hb⟩:=zf h.1
 obtain⟨c,rfl⟩:=r8 h.2 h3
 exact⟨_,rfl,rfl,HN _ (by omega) (by omega)⟩)
theorem M3:fl AY (gN Ms (tS 0 jz)):=(l4 (by
 intro a b r h g w u v ha hb
 unfold Ms at h
 split at h
 ·replace h:=bb h
  obtain⟨hk,h⟩:=h
  obtain rfl:=bD.1 hk
  simp only[VR]at ha hb
  obtain⟨rfl,h1,h2⟩:=ha
  subst hb
  exact⟨_,_,_,_,_,rfl,rfl,cf,fZ h h1 h2 (by simp only[Rq];omega) g w⟩
 ·replace h:=bb h
  obtain⟨hk,h⟩:=h
  obtain rfl:=bD.1 hk
  simp only[VR]at ha hb
  obtain⟨rfl,h1,h2⟩:=hb
  subst ha
  exact⟨_,_,_,_,_,rfl,rfl,cf,fZ h h1 h2 (by simp only[Rq];omega) g w⟩
 ·cases h) MP)
theorem C4(T:TypeId):bY P .add T aT:=dN (Hd T) M3
theorem tx{b:List Nat}: ∀ {a m:List Nat},G1 b a=some m->bm (.sm a)=bm (.sm m)+bm (.sm b)
 | [],m,h=>by
  change (bif lQ [] b then some []else none)=some m at h
  obtain⟨h1,h2⟩:=bb h
  cases h2
  rw[<-kB.1 h1]
  rfl
 |x::a,m,h=>by
  change (bif lQ (x::a) b then some []else match G1 b a with
   |some m=>some (x::m)
   |none=>none)=some m at h
  cases hb:lQ (x::a) b with
  |true=>
   rw[hb]at h
   cases h
   rw[<-kB.1 hb]
   show _=(0:Int)+_
   omega
  |false=>
   rw[hb]at h
   simp only[cond_false]at h
   split at h
   ·rename_i m' hm
    cases h
    have ih:=tx hm
    have e1:bm (.sm (x::a))=Io.io x+bm (.sm a):=rfl
    have e2:bm (.sm (x::m'))=Io.io x+bm (.sm m'):=rfl
    omega
   ·cases h
theorem M4:fl AZ (gN Mt (tS 1 jz)):=(l4 (by
 intro a b r h g w u v ha hb
 unfold Mt at h
 split at h
 ·replace h:=bb h
  obtain⟨hk,h⟩:=h
  obtain rfl:=bD.1 hk
  simp only[VR]at ha hb
  obtain⟨rfl,h1,h2⟩:=ha
  subst hb
  exact⟨_,_,_,_,_,rfl,rfl,cf,fZ h h1 h2 (by simp only[vt];omega) g w⟩
 ·rename_i k s lo hi o k' s' Qv nT o'
  cases hk:(eM k k'&&rz s s')with
  |true=>
   rw[hk]at h
   rw[Bool.and_eq_true]at hk
   obtain rfl:=bD.1 hk.1
   obtain rfl:=mT hk.2
   simp only[VR]at ha hb
   obtain⟨rfl,h1,h2⟩:=ha
   obtain⟨rfl,h3,h4⟩:=hb
   cases h
   refine⟨_,_,_,_,_,rfl,rfl,cf,?_⟩
   intro z hz
   simp only[VR]at hz ⊢
   rw[hz]
   congr 2
   simp only[vt]
   omega
  |false=>
   rw[hk]at h
   simp only[cond_false]at h
   replace h:=bb h
   obtain⟨Zg,h⟩:=h
   obtain rfl:=bD.1 Zg
   split at h
   ·rename_i i j l hh i'
    replace h:=bb h
    obtain⟨hc,h⟩:=h
    simp only[Bool.and_eq_true,Bool.not_eq_true',dY]at hc
    obtain rfl:=Nat.eq_of_beq_eq_true hc.1
    simp only[VR]at ha hb
    obtain⟨rfl,h1,h2⟩:=ha
    obtain⟨rfl,h3,h4⟩:=hb
    have dH:=kC hc.2 (Io.io j)
    exact⟨_,_,_,_,_,rfl,rfl,cf,fZ h (s:=.cl j l hh) dH.1 dH.2 (by
     show Io.io i+fR l hh (Io.io j)+o - (Io.io i+o')=fR l hh (Io.io j)+(o - o')
     omega) g w⟩
   ·rename_i a b
    split at h
    ·rename_i m hm
     simp only[VR]at ha hb
     obtain⟨rfl,h1,h2⟩:=ha
     obtain⟨rfl,h3,h4⟩:=hb
     have hc:=tx hm
     exact⟨_,_,_,_,_,rfl,rfl,cf,fZ h (s:=.sm m) (by simp only[vt];omega) (by simp only[vt];omega) (by simp only[vt];omega) g w⟩
    ·cases h
   ·rename_i a i
    split at h
    ·rename_i m hm
     simp only[VR]at ha hb
     obtain⟨rfl,h1,h2⟩:=ha
     obtain⟨rfl,h3,h4⟩:=hb
     have hc:=tx hm
     have h1i:bm (.sm [i])=bm (.var i):=by show Io.io i+0=Io.io i;omega
     exact⟨_,_,_,_,_,rfl,rfl,cf,fZ h (s:=.sm m) (by simp only[vt];omega) (by simp only[vt];omega) (by simp only[vt];omega) g w⟩
    ·cases h
   ·cases h
 ·cases h) MQ)
theorem C5(T:TypeId):bY P .sub T bT:=dN (He T) M4
theorem kE{a b:AV}{c:Bool}(h:Ce a b=some c){g:G}{w:World}{u v:Value}(ha:VR g w a u)(hb:VR g w b v): ∃ k m n,u=.int k m/\v=.int k n/\c=decide (m<n):=by
 unfold Ce at h
 split at h
 ·replace h:=bb h
  obtain⟨hk,h⟩:=h
  obtain rfl:=bD.1 hk
  simp only[VR]at ha hb
  obtain⟨rfl,h1,h2⟩:=ha
  subst hb
  refine⟨_,_,_,rfl,rfl,?_⟩
  rename_i lo hi o c'
  cases c1:ez (Int.add hi o) c' with
  |true=>
   rw[c1]at h;cases h
   have:hi+o<c':=gP.1 c1
   simp;omega
  |false=>
   rw[c1]at h
   simp only[cond_false]at h
   cases c2:ez (Int.add lo o) c' with
   |true=>rw[c2]at h;cases h
   |false=>
    rw[c2]at h;cases h
    have:c'<=lo+o:=dY.1 c2
    simp;omega
 ·replace h:=bb h
  obtain⟨hk,h⟩:=h
  obtain rfl:=bD.1 hk
  simp only[VR]at ha hb
  obtain⟨rfl,h1,h2⟩:=hb
  subst ha
  refine⟨_,_,_,rfl,rfl,?_⟩
  rename_i c' k s lo hi o
  cases c1:ez c' (Int.add lo o)with
  |true=>
   rw[c1]at h;cases h
   have:c'<lo+o:=gP.1 c1
   simp;omega
  |false=>
   rw[c1]at h
   simp only[cond_false]at h
   cases c2:ez c' (Int.add hi o)with
   |true=>rw[c2]at h;cases h
   |false=>
    rw[c2]at h;cases h
    have:hi+o<=c':=dY.1 c2
    simp;omega
 ·rename_i k s lo hi o k' s' Qv nT o'
  cases hk:(eM k k'&&rz s s')with
  |true=>
   rw[hk]at h
   rw[Bool.and_eq_true]at hk
   obtain rfl:=bD.1 hk.1
   obtain rfl:=mT hk.2
   simp only[VR]at ha hb
   obtain⟨rfl,h1,h2⟩:=ha
   obtain⟨rfl,h3,h4⟩:=hb
   cases h
   refine⟨_,_,_,rfl,rfl,?_⟩
   rw[dF]
   congr 1
   apply propext
   constructor<;>omega
  |false=>
   rw[hk]at h
   simp only[cond_false]at h
   replace h:=bb h
   obtain⟨Zg,h⟩:=h
   obtain rfl:=bD.1 Zg
   have dec: ∀ {p q:Bool},(bif p then some true else bif q then none else some false)=some c->(p=true/\c=true)∨(p=false/\q=false/\c=false):=by
    intro p q e1
    cases p<;>cases q<;>simp_all
   split at h
   ·rename_i i j l hh i'
    replace h:=bb h
    obtain⟨hc,h⟩:=h
    simp only[Bool.and_eq_true,Bool.not_eq_true',dY]at hc
    obtain rfl:=Nat.eq_of_beq_eq_true hc.1
    simp only[VR]at ha hb
    obtain⟨rfl,h1,h2⟩:=ha
    obtain⟨rfl,h3,h4⟩:=hb
    have dH:=kC hc.2 (Io.io j)
    refine⟨_,_,_,rfl,rfl,?_⟩
    rcases dec h with⟨p,rfl⟩|⟨p,q,rfl⟩
    ·have p':hh+o<o':=gP.1 p
     show true=decide (Io.io i+fR l hh (Io.io j)+o<Io.io i+o')
     simp;omega
    ·have q':o'<=l+o:=dY.1 q
     show false=decide (Io.io i+fR l hh (Io.io j)+o<Io.io i+o')
     simp;omega
   ·rename_i i' i j l hh
    replace h:=bb h
    obtain⟨hc,h⟩:=h
    simp only[Bool.and_eq_true,Bool.not_eq_true',dY]at hc
    obtain rfl:=Nat.eq_of_beq_eq_true hc.1
    simp only[VR]at ha hb
    obtain⟨rfl,h1,h2⟩:=ha
    obtain⟨rfl,h3,h4⟩:=hb
    have dH:=kC hc.2 (Io.io j)
    refine⟨_,_,_,rfl,rfl,?_⟩
    rcases dec h with⟨p,rfl⟩|⟨p,q,rfl⟩
    ·have p':o<l+o':=gP.1 p
     show true=decide (Io.io i+o<Io.io i+fR l hh (Io.io j)+o')
     simp;omega
    ·have q':hh+o'<=o:=dY.1 q
     show false=decide (Io.io i+o<Io.io i+fR l hh (Io.io j)+o')
     simp;omega
   ·cases h
 ·cases h
theorem HO{a b:AV}{c:Bool}(h:G5 a b=some c){g:G}{w:World}{u v:Value}(ha:VR g w a u)(hb:VR g w b v): ∃ k m n,u=.int k m/\v=.int k n/\c=decide (m=n):=by
 have one: ∀ {lo hi o c' x:Int},(bif ez c' (Int.add lo o)||ez (Int.add hi o) c' then some false else bif eqI (Int.add lo o) c'&&eqI (Int.add hi o) c' then some true else none)=some c->lo<=x->x<=hi->c=decide (x+o=c'):=by
  intro lo hi o c' x h h1 h2
  cases c1:(ez c' (Int.add lo o)||ez (Int.add hi o) c')with
  |true=>
   rw[c1]at h;cases h
   rw[Bool.or_eq_true]at c1
   rcases c1 with c1|c1
   ·have:c'<lo+o:=gP.1 c1
    simp;omega
   ·have:hi+o<c':=gP.1 c1
    simp;omega
  |false=>
   rw[c1]at h
   simp only[cond_false]at h
   replace h:=bb h
   obtain⟨c2,h⟩:=h
   cases h
   rw[Bool.and_eq_true]at c2
   have e1:lo+o=c':=cG.1 c2.1
   have e2:hi+o=c':=cG.1 c2.2
   simp;omega
 unfold G5 at h
 split at h
 ·replace h:=bb h
  obtain⟨hk,h⟩:=h
  obtain rfl:=bD.1 hk
  simp only[VR]at ha hb
  obtain⟨rfl,h1,h2⟩:=ha
  subst hb
  exact⟨_,_,_,rfl,rfl,one h h1 h2⟩
 ·replace h:=bb h
  obtain⟨hk,h⟩:=h
  obtain rfl:=bD.1 hk
  simp only[VR]at ha hb
  obtain⟨rfl,h1,h2⟩:=hb
  subst ha
  refine⟨_,_,_,rfl,rfl,?_⟩
  rw[one h h1 h2]
  congr 1
  exact propext ⟨fun e=>e.symm,fun e=>e.symm⟩
 ·replace h:=bb h
  obtain⟨hk,h⟩:=h
  rw[Bool.and_eq_true]at hk
  obtain rfl:=bD.1 hk.1
  obtain rfl:=mT hk.2
  simp only[VR]at ha hb
  obtain⟨rfl,h1,h2⟩:=ha
  obtain⟨rfl,h3,h4⟩:=hb
  cases h
  refine⟨_,_,_,rfl,rfl,?_⟩
  rw[pE]
  congr 1
  apply propext
  constructor<;>omega
 ·cases h
omit [Io] in
theorem pF{α:Type}(l m:List α):app l m=l++m:=by
 induction l with
 |nil=>rfl
 |cons a l ih=>show a::app l m=_;rw[ih];rfl
omit [Io] in
theorem vv(n:Nat):mE n=List.replicate n 0:=by
 induction n with
 |zero=>rfl
 |succ n ih=>show 0::mE n=_;rw[ih,List.replicate_succ]
omit [Io] in
theorem tA(a b:Nat):Nat.beq a b=decide (a=b):=by
 cases e:Nat.beq a b with
 |true=>simp[Nat.eq_of_beq_eq_true e]
 |false=>
  have:a≠b:=fun e'=>by subst e';rw[Nat.beq_refl]at e;cases e
  simp[this]
omit [Io] in
theorem HP(a b:Nat):Nat.blt a b=decide (a<b):=by
 cases e:Nat.blt a b with
 |true=>simp[bh.1 e]
 |false=>
  have: ¬ a<b:=fun h=>by rw[bh.2 h]at e;cases e
  simp[this]
theorem M5(l:List Nat):ka (l.map dm)<=Cr l:=by
 induction l with
 |nil=>exact Nat.le_refl _
 |cons c l ih=>
  show _<=Nat.add (Nat.mul 2 (Cr l)) (Bool.rec 1 0 (Nat.beq c 0))
  rw[List.map_cons,ka,tA]
  show _<=2*Cr l+_
  by_cases e:c=0
  ·subst e;simp[dm];omega
  ·simp only[e,decide_false]
   cases dm c<;>simp<;>omega
theorem M6(l:List Nat):Q2 l<=ka (l.map dm):=by
 induction l with
 |nil=>exact Nat.le_refl _
 |cons c l ih=>
  show Nat.add (Nat.mul 2 (Q2 l)) (Bool.rec 0 1 (Nat.beq c 1))<=_
  rw[List.map_cons,ka,tA]
  show 2*Q2 l+_<=_
  by_cases e:c=1
  ·subst e;simp[dm];omega
  ·simp only[e,decide_false]
   cases dm c<;>simp<;>omega
theorem HQ(l:List Nat)(h:G2 l=true):ka (l.map dm)=Cr l:=by
 induction l with
 |nil=>rfl
 |cons c l ih=>
  change (Bool.rec false (G2 l) (Nat.blt c 2):Bool)=true at h
  rw[HP]at h
  by_cases hc:c<2
  ·simp only[hc,decide_true]at h
   show _=Nat.add (Nat.mul 2 (Cr l)) (Bool.rec 1 0 (Nat.beq c 0))
   rw[List.map_cons,ka,ih h,tA]
   show _=2*Cr l+_
   rcases(by omega:c=0∨c=1)with rfl|rfl<;>simp[dm]<;>omega
  ·simp[hc]at h
theorem qj{k:IntKind}{l:List Nat}{r:AV}(h:Qw k l=some r)(g:G)(w:World)(z:Value)(hz:VR g w (.int k ((ka (l.map dm):Nat):Int)) z):VR g w r z:=by
 simp only[VR]at hz
 subst hz
 unfold Qw at h
 cases c1:ez (mA k) (.ofNat (Cr l))with
 |true=>rw[c1]at h;cases h
 |false=>
  rw[c1]at h
  simp only[cond_false]at h
  cases c2:G2 l with
  |true=>
   rw[c2]at h
   cases h
   simp only[VR]
   rw[HQ l c2];rfl
  |false=>
   rw[c2]at h
   cases h
   simp only[VR,bm]
   have h1:=M5 l
   have h2:=M6 l
   exact⟨by simp,by show((Q2 l:Nat):Int)<=_;omega,by show _<=((Cr l:Nat):Int);omega⟩
theorem xX(w:Nat): ∀ n,n<2 ^ w->ka ((s0 w n).map dm)=n:=by
 induction w with
 |zero=>intro n h;simp at h;subst h;rfl
 |succ w ih=>
  intro n h
  show ka ((Nat.mod n 2::s0 w (Nat.div n 2)).map dm)=n
  rw[List.map_cons,ka,ih (Nat.div n 2) (by rw[Nat.pow_succ]at h;show n / 2<_;omega)]
  show(dm (n % 2)).toNat+2*(n / 2)=n
  rcases Nat.mod_two_eq_zero_or_one n with e|e<;>rw[e]<;>simp[dm]<;>omega
omit [Io] in
theorem kF(w:Nat): ∀ b j,(iK w b)[j]? =if j<w then some (b+j)else none:=by
 induction w with
 |zero=>intro b j;rw[if_neg (Nat.not_lt_zero j)];rfl
 |succ w ih=>
  intro b j
  show(b::iK w (b+1))[j]? =_
  cases j with
  |zero=>simp
  |succ j=>
   rw[List.getElem?_cons_succ,ih]
   simp only[Nat.add_lt_add_iff_right]
   congr 2
   omega
theorem qk(i w m n:Nat)(hw:w<=64)(hn:(Io.io i % 18446744073709551616).toNat=n)(h:n<2 ^ w):ka ((iK w (2+64*i)++List.replicate m 0).map dm)=n:=by
 apply Nat.eq_of_testBit_eq
 intro j
 rw[cW,List.getD,List.getElem?_map]
 by_cases hj:j<w
 ·have hl:j<(iK w (2+64*i)).length:=by
   rw[<-Nat.not_le]
   intro h'
   have:=List.getElem?_eq_none h'
   rw[kF,if_pos hj]at this
   cases this
  rw[List.getElem?_append_left hl,kF,if_pos hj]
  show dm (2+64*i+j)=_
  rw[show 2+64*i+j=(64*i+j)+2 from by omega]
  show(Io.io ((64*i+j) / 64) % 18446744073709551616).toNat.testBit ((64*i+j) % 64)=_
  rw[show(64*i+j) / 64=i from by omega,show(64*i+j) % 64=j from by omega,hn]
 ·have hl:(iK w (2+64*i)).length<=j:=by
   rw[<-Nat.not_lt]
   intro h'
   have:=List.getElem?_eq_getElem h'
   rw[kF,if_neg hj]at this
   cases this
  rw[List.getElem?_append_right hl,Nat.testBit_lt_two_pow (Nat.lt_of_lt_of_le h (Nat.pow_le_pow_right (by decide) (by omega)))]
  cases e:(List.replicate m 0)[j - (iK w (2+64*i)).length]? with
  |none=>rfl
  |some c=>
   have:=List.mem_of_getElem? e
   rw[List.mem_replicate]at this
   rw[this.2]
   rfl
theorem kG{x:AV}{k:IntKind}{l:List Nat}(h:toB x=some (k,l)){g:G}{w:World}{u:Value}(hx:VR g w x u):
 ∃ n:Nat,u=.int k (n:Int)/\n<ki k/\n=ka (l.map dm):=by
 have Rv: ∀ k,ki k<=2 ^ 64:=by intro k;cases k<;>decide
 unfold toB at h
 split at h
 ·rename_i k' n
  replace h:=bb h
  obtain⟨h1,h⟩:=h
  cases h
  rw[bh]at h1
  simp only[VR]at hx
  exact⟨n,hx,h1,(xX 64 n (Nat.lt_of_lt_of_le h1 (Rv _))).symm⟩
 ·rename_i k' l' lo hi o
  replace h:=bb h
  obtain⟨h1,h⟩:=h
  cases h
  rw[Bool.and_eq_true,bh]at h1
  obtain⟨ho,hh⟩:=h1
  obtain rfl:=Nat.eq_of_beq_eq_true ho
  simp only[VR,bm]at hx
  obtain⟨rfl,h2,h3⟩:=hx
  refine⟨_,?_,?_,rfl⟩
  ·simp
  ·have:((ka (l.map dm):Nat):Int)<=(hi:Int):=h3
   omega
 ·rename_i k' i lo hi o
  replace h:=bb h
  obtain⟨h1,h⟩:=h
  cases h
  simp only[Bool.and_eq_true,bh]at h1
  obtain⟨ho,hh,hp,hw⟩:=h1
  obtain rfl:=Nat.eq_of_beq_eq_true ho
  simp only[VR,bm]at hx
  obtain⟨rfl,h2,h3⟩:=hx
  have Zh:Nat.log2 hi+1<=64:=Nat.le_of_ble_eq_true hw
  have Cf:(lo:Int)<=Io.io i:=h2
  have h3':Io.io i<=(hi:Int):=h3
  have e:(Io.io i % 18446744073709551616).toNat=(Io.io i).toNat:=by
   have:=Rv k
   rw[Int.emod_eq_of_lt (by omega) (by omega)]
  refine⟨(Io.io i).toNat,?_,by omega,?_⟩
  ·congr 1
   show Io.io i+0=_
   omega
  ·rw[pF,vv]
   refine(qk i _ _ _ Zh e ?_).symm
   have:hi<2 ^ (Nat.log2 hi+1):=hp
   omega
 ·rename_i k' i lo hi o
  replace h:=bb h
  obtain⟨h1,h⟩:=h
  cases h
  rw[Bool.and_eq_true,bh]at h1
  obtain⟨ho,hh⟩:=h1
  obtain rfl:=Nat.eq_of_beq_eq_true ho
  simp only[VR,bm]at hx
  obtain⟨rfl,h2,h3⟩:=hx
  have h3':Io.io i % 18446744073709551616<=(hi:Int):=h3
  have h0:0<=Io.io i % 18446744073709551616:=Int.emod_nonneg _ (by decide)
  have h4:Io.io i % 18446744073709551616<18446744073709551616:=Int.emod_lt_of_pos _ (by decide)
  refine⟨(Io.io i % 18446744073709551616).toNat,?_,by omega,?_⟩
  ·congr 1
   show Io.io i % 18446744073709551616+0=_
   omega
  ·have:=qk i 64 0 _ (Nat.le_refl _) rfl (by omega:(Io.io i % 18446744073709551616).toNat<2 ^ 64)
   rw[List.replicate_zero,List.append_nil]at this
   exact this.symm
 ·cases h
theorem HS{f:Nat->Nat->Option Nat}{F:Bool->Bool->Bool}(hf: ∀ a b c,f a b=some c->dm c=F (dm a) (dm b))(l:List Nat):
 ∀ (m r:List Nat),Mu f l m=some r->l.length=m.length/\r.map dm=List.zipWith F (l.map dm) (m.map dm):=by
 induction l with
 |nil=>
  intro m r h
  cases m with
  |nil=>cases h;exact⟨rfl,rfl⟩
  |cons b m=>cases h
 |cons a l ih=>
  intro m r h
  cases m with
  |nil=>cases h
  |cons b m=>
   change (match(generalizing:=false) f a b with
    |some c=>match Mu f l m with
     |some r=>some (c::r)
     |none=>none
    |none=>none)=some r at h
   split at h
   ·rename_i c hc
    split at h
    ·rename_i r' hr
     cases h
     obtain⟨h1,h2⟩:=ih m r' hr
     exact⟨by simp[h1],by simp[h2,hf a b c hc]⟩
    ·cases h
   ·cases h
omit [Io] in
theorem C6{a b:Bool}{x y z:Option Nat}{r:Option Nat}(h:(bif a then x else bif b then y else z)=r):(a=true/\x=r)∨(a=false/\b=true/\y=r)∨(a=false/\b=false/\z=r):=by
 cases a<;>cases b<;>simp_all
theorem HT(a b c:Nat)(h:Mv a b=some c):dm c=(dm a&&dm b):=by
 unfold Mv at h
 rcases C6 h with⟨h1,h⟩|⟨h1,h2,h⟩|⟨h1,h2,h⟩
 ·cases h
  rw[Bool.or_eq_true]at h1
  rcases h1 with e|e<;>rw[Nat.eq_of_beq_eq_true e]<;>simp[dm]
 ·cases h
  rw[Nat.eq_of_beq_eq_true h2]
  simp[dm]
 ·replace h:=bb h
  obtain⟨h3,h⟩:=h
  cases h
  rw[Bool.or_eq_true]at h3
  rcases h3 with e|e
  ·rw[Nat.eq_of_beq_eq_true e];simp[dm]
  ·rw[Nat.eq_of_beq_eq_true e];simp
theorem M7(a b c:Nat)(h:YV a b=some c):dm c=(dm a||dm b):=by
 unfold YV at h
 rcases C6 h with⟨h1,h⟩|⟨h1,h2,h⟩|⟨h1,h2,h⟩
 ·cases h
  rw[Bool.or_eq_true]at h1
  rcases h1 with e|e<;>rw[Nat.eq_of_beq_eq_true e]<;>simp[dm]
 ·cases h
  rw[Nat.eq_of_beq_eq_true h2]
  simp[dm]
 ·replace h:=bb h
  obtain⟨h3,h⟩:=h
  cases h
  rw[Bool.or_eq_true]at h3
  rcases h3 with e|e
  ·rw[Nat.eq_of_beq_eq_true e];simp[dm]
  ·rw[Nat.eq_of_beq_eq_true e];simp
theorem HU(a b c:Nat)(h:Mw a b=some c):dm c=(dm a ^^ dm b):=by
 unfold Mw at h
 rcases C6 h with⟨h1,h⟩|⟨h1,h2,h⟩|⟨h1,h2,h⟩
 ·cases h
  rw[Nat.eq_of_beq_eq_true h1]
  simp[dm]
 ·cases h
  rw[Nat.eq_of_beq_eq_true h2]
  simp[dm]
 ·replace h:=bb h
  obtain⟨h3,h⟩:=h
  cases h
  rw[Nat.eq_of_beq_eq_true h3]
  simp[dm]
theorem C7{op:BinOp}{f:Nat->Nat->Option Nat}{F:Bool->Bool->Bool}{N:Nat->Nat->Nat}(hf: ∀ a b c,f a b=some c->dm c=F (dm a) (dm b))
 (hN: ∀ a b i,(N a b).testBit i=F (a.testBit i) (b.testBit i))(h0:F false false=false)(a b r:AV)(h:zB f a b=some r)(g:G)(w:World)(u v:Value)(ha:VR g w a u)(hb:VR g w b v):
 ∃ k m k' n r0,u=.int k m/\v=.int k' n/\jY op N (.int k m) (.int k' n)=some r0/\ ∀ z,VR g w r0 z->VR g w r z:=by
 unfold zB at h
 split at h
 ·rename_i k l k' m hl hm
  replace h:=bb h
  obtain⟨hk,h⟩:=h
  obtain rfl:=bD.1 hk
  obtain⟨x,rfl,hx,ex⟩:=kG hl ha
  obtain⟨y,rfl,hy,ey⟩:=kG hm hb
  split at h
  ·rename_i s hs
   obtain⟨e1,e2⟩:=HS hf l m s hs
   refine⟨_,_,_,_,.int k (.ofNat (N x y)),rfl,rfl,?_,fun z hz=>qj h g w z ?_⟩
   ·unfold jY
    rw[cf]
    show(bif Nat.blt x (ki k)&&Nat.blt y (ki k)then _ else _)=_
    rw[bh.2 hx,bh.2 hy]
    rfl
   ·rw[e2,Ha F N hN h0 _ _ (by simp[e1]),<-ex,<-ey]
    exact hz
  ·cases h
 ·cases h
theorem M8:fl A1 (gN Q3 (tS 5 jz)):=(l4 (C7 HT Nat.testBit_and rfl) MW)
theorem C8(T:TypeId):bY P .and T cz:=dN (Ht T) M8
theorem M9:fl Qu (gN sOr (tS 6 jz)):=(l4 (C7 M7 Nat.testBit_or rfl) Ru)
theorem C9(T:TypeId):bY P .or T gi:=dN (MG T) M9
theorem Na:fl A2 (gN Q4 (tS 7 jz)):=(l4 (C7 HU Nat.testBit_xor rfl) MX)
theorem Da(T:TypeId):bY P .xor T rU:=dN (Hu T) Na
theorem oc(n:Nat):(mE n).map dm=List.replicate n false:=by
 rw[vv,List.map_replicate];rfl
omit [Io] in
theorem zh(l:List Bool)(n:Nat):ka (l++List.replicate n false)=ka l:=by
 apply G9
 intro i
 simp only[List.getD]
 by_cases h:i<l.length
 ·rw[List.getElem?_append_left h]
 ·rw[List.getElem?_append_right (Nat.le_of_not_lt h),List.getElem?_eq_none (Nat.le_of_not_lt h),List.getElem?_replicate]
  split<;>rfl
omit [Io] in
theorem Nb{α:Type}(n:Nat)(l:List α):tk n l=l.take n:=by
 induction l generalizing n with
 |nil=>cases n<;>rfl
 |cons a l ih=>
  cases n with
  |zero=>rfl
  |succ n=>show a::tk n l=_;rw[ih];rfl
omit [Io] in
theorem Nc{α:Type}(n:Nat)(l:List α):dp n l=l.drop n:=by
 induction l generalizing n with
 |nil=>cases n<;>rfl
 |cons a l ih=>
  cases n with
  |zero=>rfl
  |succ n=>show dp n l=_;rw[ih];rfl
omit [Io] in
theorem ql{k:IntKind}(h:Mx k=true)(n:Nat):cI k (n:Int)=((n % 2 ^ gh k:Nat):Int):=by
 cases k<;>first
  |(exact absurd h (by decide))
  |(show(n:Int) % _=_;simp only[gh];omega)
theorem xY{k:IntKind}(l:List Nat):ka ((app (tk (gh k) l) (mE (Nat.sub 64 (gh k)))).map dm)=ka (l.map dm) % 2 ^ gh k:=by
 rw[pF,List.map_append,oc,zh,Nb,List.map_take,Cu]
theorem Nd:fl sX (gN G3 (tS 8 yY)):=(l4 (by
 intro a b r h g w u v ha hb
 unfold G3 at h
 split at h
 ·rename_i k l hl
  obtain⟨x,rfl,hx,ex⟩:=kG hl ha
  split at h
  ·rename_i k' n
   replace h:=bb h
   obtain⟨hk,h⟩:=h
   simp only[VR]at hb
   refine⟨_,_,_,_,_,rfl,hb,rfl,fun z hz=>qj h g w z ?_⟩
   rw[xY,pF,List.map_append,oc,Hb,<-ex]
   rw[<-ql hk]
   exact hz
  ·cases h
 ·cases h) MY)
theorem Db(T:TypeId):bY P .shl T fo:=dN (Hv T) Nd
theorem Nf:fl sY (gN G4 (tS 9 u4)):=(l4 (by
 intro a b r h g w u v ha hb
 unfold G4 at h
 split at h
 ·rename_i k l hl
  obtain⟨x,rfl,hx,ex⟩:=kG hl ha
  split at h
  ·rename_i k' n
   simp only[VR]at hb
   refine⟨_,_,_,_,_,rfl,hb,rfl,fun z hz=>qj h g w z ?_⟩
   rw[pF,List.map_append,oc,zh,Nc,List.map_drop,Cv,<-ex]
   have e:Int.fdiv (x:Int) (Int.ofNat (Nat.pow 2 (nR n (gh k))))=((x / 2 ^ nR n (gh k):Nat):Int):=Int.fdiv_eq_ediv_of_nonneg _ (Int.natCast_nonneg _)
   rw[<-e]
   exact hz
  ·cases h
 ·cases h) MZ)
theorem Dc(T:TypeId):bY P .shr T cJ:=dN (Hw T) Nf
theorem Ng{a b:AV}{c:Bool}(h:Li a b=some c){g:G}{w:World}{u v:Value}(ha:VR g w a u)(hb:VR g w b v): ∃ k m n,u=.int k m/\v=.int k n/\c=decide (m=n):=by
 unfold Li at h
 split at h
 ·rename_i k l k' m hl hm
  replace h:=bb h
  obtain⟨hk,h⟩:=h
  rw[Bool.and_eq_true]at hk
  obtain rfl:=bD.1 hk.1
  obtain rfl:=kB.1 hk.2
  cases h
  obtain⟨x,rfl,_,ex⟩:=kG hl ha
  obtain⟨y,rfl,_,ey⟩:=kG hm hb
  refine⟨_,_,_,rfl,rfl,?_⟩
  rw[ex,ey];simp
 ·cases h
theorem HV{a b:AV}{c:Bool}(h:G6 a b=some c){g:G}{w:World}{u v:Value}(ha:VR g w a u)(hb:VR g w b v): ∃ k m n,u=.int k m/\v=.int k n/\c=decide (m=n):=by
 unfold G6 at h
 cases e:G5 a b with
 |some c'=>rw[e]at h;cases h;exact HO e ha hb
 |none=>rw[e]at h;exact Ng h ha hb
theorem Nh{a b:AV}{c:Bool}(h:YW a b=some c){g:G}{w:World}{u v:Value}(ha:VR g w a u)(hb:VR g w b v): ∃ k m n,u=.int k m/\v=.int k n/\c=decide (m=n):=by
 unfold YW at h
 split at h
 ·rename_i e
  cases h
  obtain⟨k,m,n,rfl,rfl,e1⟩:=kE e ha hb
  have:m<n:=by simpa using e1.symm
  exact⟨_,_,_,rfl,rfl,by simp;omega⟩
 ·split at h
  ·rename_i e
   cases h
   obtain⟨k,m,n,rfl,rfl,e1⟩:=kE e hb ha
   have:m<n:=by simpa using e1.symm
   exact⟨_,_,_,rfl,rfl,by simp;omega⟩
  ·cases h
theorem xZ{a b:AV}{c:Bool}(h:GD a b=some c){g:G}{w:World}{u v:Value}(ha:VR g w a u)(hb:VR g w b v): ∃ k m n,u=.int k m/\v=.int k n/\c=decide (m=n):=by
 unfold GD at h
 cases e:G6 a b with
 |some c'=>rw[e]at h;cases h;exact HV e ha hb
 |none=>rw[e]at h;exact Nh h ha hb
omit [Io] in
theorem Bm{o:Option Bool}{f:Bool->AV}{r:AV}(h:(Option.rec none (fun b=>some (f b)) o:Option AV)=some r): ∃ b,o=some b/\r=f b:=by
 cases o with
 |none=>cases h
 |some b=>cases h;exact⟨b,rfl,rfl⟩
theorem ly{g:G}{w:World}{b c:Bool}(h:b=c): ∀ z,VR g w (.bool b) z->VR g w (.bool c) z:=by subst h;exact fun _ h=>h
theorem Ni:fl GW Q5:=(by
 intro a b r h g w u v ha hb
 obtain⟨c,h',rfl⟩:=Bm h
 obtain⟨k,m,n,rfl,rfl,e⟩:=kE h' ha hb
 exact⟨_,_,_,_,_,rfl,rfl,cf,ly (by rw[e,dF])⟩)
theorem Dd(T:TypeId):bY P .lss T aS:=dN (Hi T) Ni
theorem Nj:fl GY Q6:=(by
 intro a b r h g w u v ha hb
 obtain⟨c,h',rfl⟩:=Bm h
 obtain⟨k,m,n,rfl,rfl,e⟩:=kE h' hb ha
 exact⟨_,_,_,_,_,rfl,rfl,cf,ly (by rw[e,dF])⟩)
theorem De(T:TypeId):bY P .gtr T cE:=dN (Hj T) Nj
theorem Nk:fl GX Q7:=(by
 intro a b r h g w u v ha hb
 obtain⟨c,h',rfl⟩:=Bm h
 obtain⟨k,m,n,rfl,rfl,e⟩:=kE h' hb ha
 exact⟨_,_,_,_,_,rfl,rfl,cf,ly (by rw[e,dF])⟩)
theorem Df(T:TypeId):bY P .leq T cB:=dN (Hk T) Nk
theorem Nl:fl GZ Q8:=(by
 intro a b r h g w u v ha hb
 obtain⟨c,h',rfl⟩:=Bm h
 obtain⟨k,m,n,rfl,rfl,e⟩:=kE h' ha hb
 exact⟨_,_,_,_,_,rfl,rfl,cf,ly (by rw[e,dF])⟩)
theorem Dg(T:TypeId):bY P .geq T bN:=dN (Hl T) Nl
theorem Nn:fl (xD false) (YX false):=(by
 intro a b r h g w u v ha hb
 obtain⟨c,h',rfl⟩:=Bm h
 obtain⟨k,m,n,rfl,rfl,e⟩:=xZ h' ha hb
 exact⟨_,_,_,_,_,rfl,rfl,cf,ly (by rw[e,pE])⟩)
theorem Dh(T:TypeId):bY P .eql T (ak false):=dN (Hm T) Nn
theorem No:fl (xD true) (YX true):=(by
 intro a b r h g w u v ha hb
 obtain⟨c,h',rfl⟩:=Bm h
 obtain⟨k,m,n,rfl,rfl,e⟩:=xZ h' ha hb
 exact⟨_,_,_,_,_,rfl,rfl,cf,ly (by rw[e,pE])⟩)
theorem Di(T:TypeId):bY P .neq T (ak true):=dN (Hn T) No
omit [Io] in
theorem vw{a b x:Int}{c:Nat}(hc:0<c)(h1:a<=x)(h2:x<=b)(ha:Int.fdiv a (.ofNat c)=Int.fdiv b (.ofNat c)):Int.fdiv x (.ofNat c)=Int.fdiv a (.ofNat c):=by
 have hp:(0:Int)<(Int.ofNat c):=by show(0:Int)<(c:Int);omega
 rw[Int.fdiv_eq_ediv_of_nonneg _ (by omega),Int.fdiv_eq_ediv_of_nonneg _ (by omega)]at*
 have e1:=Int.ediv_le_ediv hp h1
 have e2:=Int.ediv_le_ediv hp h2
 omega
theorem Np:fl sW (gN My (tS 4 u0)):=(l4 (by
 intro a b r h g w u v ha hb
 unfold My at h
 split at h
 ·rename_i k s lo hi o k' c
  replace h:=bb h
  obtain⟨hc,h⟩:=h
  simp only[Bool.and_eq_true,Bool.not_eq_true',dY]at hc
  obtain⟨hk,MI,Lm⟩:=hc
  obtain rfl:=bD.1 hk
  have Yg:=bh.1 MI
  have Zi:0<=lo+o:=Lm
  simp only[VR]at ha hb
  obtain⟨rfl,h1,h2⟩:=ha
  subst hb
  have hx:0<=bm s+o:=by omega
  have Lr:(0:Int)<(Int.ofNat c):=by show(0:Int)<(c:Int);omega
  have kj:eqI (Int.ofNat c) 0=false:=by
   rw[Bool.eq_false_iff];intro e
   have:((c:Nat):Int)=0:=cG.1 e
   omega
  refine⟨_,_,_,_,AV.int k ((Int.tmod (bm s+o) (Int.ofNat c))),rfl,rfl,?_,?_⟩
  ·rw[sW,cf,kj]
   rfl
  ·intro z hz
   simp only[VR]at hz
   subst hz
   rw[Int.tmod_eq_emod_of_nonneg hx]
   cases e1:eqI (Int.fdiv (Int.add lo o) (.ofNat c)) (Int.fdiv (Int.add hi o) (.ofNat c))with
   |true=>
    rw[e1]at h
    cases h
    have e2:=vw Yg (show lo+o<=bm s+o by omega) (show bm s+o<=hi+o by omega) (cG.1 e1)
    simp only[VR]
    refine⟨?_,h1,h2⟩
    have e3:=Int.emod_add_mul_ediv (bm s+o) (Int.ofNat c)
    rw[<-Int.fdiv_eq_ediv_of_nonneg _ (by omega),e2]at e3
    congr 1
    show _=bm s+(o - Int.fdiv (lo+o) (Int.ofNat c)*Int.ofNat c)
    rw[Int.mul_comm (Int.fdiv (lo+o) (Int.ofNat c))]
    omega
   |false=>
    rw[e1]at h
    simp only[cond_false]at h
    split at h
    ·rename_i i
     cases h
     simp only[VR]
     have hn:(0:Int)<=Io.io i % 18446744073709551616:=Int.emod_nonneg _ (by decide)
     have e:(bm (.uX i)+Int.ofNat 0) % (Int.ofNat c)=bm (.umod i c):=by
      show(Io.io i % 18446744073709551616+0) % (c:Int)=(Io.io i % 18446744073709551616) % (c:Int)
      rw[Int.add_zero]
     refine⟨by rw[e,Int.add_zero],Int.emod_nonneg _ (by omega),?_⟩
     have:=Int.emod_lt_of_pos (Io.io i % 18446744073709551616) Lr
     show(Io.io i % 18446744073709551616) % (c:Int)<=(c:Int) - 1
     have h':(Io.io i % 18446744073709551616) % (c:Int)<(c:Int):=this
     omega
    ·rename_i i
     cases h
     simp only[VR]
     have e:(bm (.var i)+Int.ofNat 0) % (Int.ofNat c)=bm (.uY i 1 c):=by
      show(Io.io i+0) % (c:Int)=(Io.io i / ((1:Nat):Int)) % (c:Int)
      rw[Int.add_zero,show((1:Nat):Int)=1 from rfl,Int.ediv_one]
     refine⟨by rw[e,Int.add_zero],Int.emod_nonneg _ (by omega),?_⟩
     have h':(Io.io i / ((1:Nat):Int)) % (c:Int)<(c:Int):=Int.emod_lt_of_pos _ Lr
     show(Io.io i / ((1:Nat):Int)) % (c:Int)<=(c:Int) - 1
     omega
    ·rename_i i p m
     replace h:=bb h
     obtain⟨hm,h⟩:=h
     obtain rfl:=Nat.eq_of_beq_eq_true hm
     cases h
     simp only[VR]
     have e:(bm (.uY i p 0)+Int.ofNat 0) % (Int.ofNat c)=bm (.uY i p c):=by
      show((Io.io i / (p:Int)) % ((0:Nat):Int)+0) % (c:Int)=(Io.io i / (p:Int)) % (c:Int)
      rw[Int.add_zero,show((0:Nat):Int)=0 from rfl,Int.emod_zero]
     refine⟨by rw[e,Int.add_zero],Int.emod_nonneg _ (by omega),?_⟩
     have h':(Io.io i / (p:Int)) % (c:Int)<(c:Int):=Int.emod_lt_of_pos _ Lr
     show(Io.io i / (p:Int)) % (c:Int)<=(c:Int) - 1
     omega
    ·rename_i i l hh j
     replace h:=bb h
     obtain⟨hq,h⟩:=h
     simp only[Bool.and_eq_true,Bool.not_eq_true',dY,gP]at hq
     obtain⟨GH,hl0,hh0,Zj⟩:=hq
     have hc3:=Nat.eq_of_beq_eq_true GH
     have hC:Int.ofNat c=(4294967296:Int):=by show((c:Nat):Int)=_;omega
     have dH:=kC Zj (Io.io i)
     have e9:(bm (.pr i l hh j)+Int.ofNat 0) % (Int.ofNat c)=fR l hh (Io.io i):=by
      rw[hC]
      show(fR l hh (Io.io i)+4294967296*Io.io j+0) % 4294967296=_
      omega
     cases h
     cases he:eqI l hh with
     |true=>
      have:=cG.1 he
      simp only[cond_true,VR]
      rw[e9]
      congr 1
      omega
     |false=>
      simp only[cond_false,VR]
      refine⟨by rw[e9];show Value.int _ _=Value.int _ (fR l hh (Io.io i)+0);rw[Int.add_zero],dH.1,dH.2⟩
    ·rename_i i m o
     replace h:=bb h
     obtain⟨hq,h⟩:=h
     have hm:=Nat.eq_of_beq_eq_true hq
     cases h
     simp only[VR]
     congr 1
     show((m:Int)*Io.io i+(o:Int)) % (c:Int)=((o % c:Nat):Int)
     have yZ:m % c=0:=hm
     obtain⟨d,hd⟩:=Nat.dvd_of_mod_eq_zero yZ
     rw[hd,Int.natCast_mul,Int.mul_assoc,Int.add_comm,Int.add_mul_emod_self_left,Int.natCast_emod]
    ·cases h
 ·cases h) MT)
theorem Dj(T:TypeId):bY P .rem T jZ:=dN (Hh T) Np
theorem Nq:fl sV (gN Mz (tS 3 u0)):=(l4 (by
 intro a b r h g w u v ha hb
 unfold Mz at h
 split at h
 ·rename_i k s lo hi o k' c
  replace h:=bb h
  obtain⟨hc,h⟩:=h
  simp only[Bool.and_eq_true,Bool.not_eq_true',dY]at hc
  obtain⟨hk,MI,Lm⟩:=hc
  obtain rfl:=bD.1 hk
  have Yg:=bh.1 MI
  have Zi:0<=lo+o:=Lm
  simp only[VR]at ha hb
  obtain⟨rfl,h1,h2⟩:=ha
  subst hb
  have hx:0<=bm s+o:=by omega
  have kj:eqI (Int.ofNat c) 0=false:=by
   rw[Bool.eq_false_iff];intro e
   have:((c:Nat):Int)=0:=cG.1 e
   omega
  have Lr:(0:Int)<(Int.ofNat c):=by show(0:Int)<(c:Int);omega
  refine⟨_,_,_,_,AV.int k (cI k (Int.tdiv (bm s+o) (Int.ofNat c))),rfl,rfl,?_,?_⟩
  ·rw[sV,cf,kj]
   rfl
  ·intro z hz
   rw[Int.tdiv_eq_ediv_of_nonneg hx]at hz
   cases e1:eqI (Int.fdiv (Int.add lo o) (.ofNat c)) (Int.fdiv (Int.add hi o) (.ofNat c))with
   |true=>
    rw[e1]at h
    cases h
    have e2:=vw Yg (show lo+o<=bm s+o by omega) (show bm s+o<=hi+o by omega) (cG.1 e1)
    rw[<-Int.fdiv_eq_ediv_of_nonneg _ (by omega),e2]at hz
    exact hz
   |false=>
    rw[e1]at h
    simp only[cond_false]at h
    have mono: ∀ x y:Int,x<=y->Int.fdiv x (.ofNat c)<=Int.fdiv y (.ofNat c):=by
     intro x y hxy
     rw[Int.fdiv_eq_ediv_of_nonneg _ (by omega),Int.fdiv_eq_ediv_of_nonneg _ (by omega)]
     exact Int.ediv_le_ediv Lr hxy
    split at h
    ·rename_i i
     have e:bm (.uY i c 0)=Int.fdiv (bm (.var i)) (.ofNat c):=by
      show(Io.io i / (c:Int)) % ((0:Nat):Int)=Int.fdiv (Io.io i) (c:Int)
      rw[show((0:Nat):Int)=0 from rfl,Int.emod_zero,Int.fdiv_eq_ediv_of_nonneg _ (by omega)]
     refine fZ h (by rw[e];exact mono _ _ h1) (by rw[e];exact mono _ _ h2) (x:=(bm (.var i)+0) / (Int.ofNat c)) ?_ g w z hz
     rw[e,Int.fdiv_eq_ediv_of_nonneg _ (by omega),Int.add_zero,Int.add_zero]
    ·rename_i i p m
     replace h:=bb h
     obtain⟨hm,h⟩:=h
     obtain rfl:=Nat.eq_of_beq_eq_true hm
     have e:bm (.uY i (Nat.mul p c) 0)=Int.fdiv (bm (.uY i p 0)) (.ofNat c):=by
      show(Io.io i / ((p*c:Nat):Int)) % ((0:Nat):Int)=Int.fdiv ((Io.io i / (p:Int)) % ((0:Nat):Int)) (c:Int)
      rw[show((0:Nat):Int)=0 from rfl,Int.emod_zero,Int.emod_zero,Int.fdiv_eq_ediv_of_nonneg _ (by omega),Int.natCast_mul,Int.ediv_ediv_of_nonneg (by omega)]
     refine fZ h (by rw[e];exact mono _ _ h1) (by rw[e];exact mono _ _ h2) (x:=(bm (.uY i p 0)+0) / (Int.ofNat c)) ?_ g w z hz
     rw[e,Int.fdiv_eq_ediv_of_nonneg _ (by omega),Int.add_zero,Int.add_zero]
    ·cases h
 ·cases h) MS)
theorem Dk(T:TypeId):bY P .quo T mF:=dN (Hg T) Nq
theorem zi{k:IntKind}{i c:Nat}{lo hi o:Int}{r:AV}(h:MA k i lo hi o c=some r)(h1:lo<=bm (.var i))(h2:bm (.var i)<=hi)(g:G)(w:World):
 ∀ z,VR g w (.int k (cI k ((bm (.var i)+o)*(c:Int)))) z->VR g w r z:=by
 replace h:=bb h
 obtain⟨hc,h⟩:=h
 have Yg:=bh.1 hc
 have Lr:(0:Int)<=(c:Int):=by omega
 refine fZ h ?_ ?_ ?_ g w
 ·show(c:Int)*lo<=(c:Int)*Io.io i
  exact Int.mul_le_mul_of_nonneg_left h1 Lr
 ·show(c:Int)*Io.io i<=(c:Int)*hi
  exact Int.mul_le_mul_of_nonneg_left h2 Lr
 ·show(Io.io i+o)*(c:Int)=(c:Int)*Io.io i+(c:Int)*o
  rw[Int.mul_comm,Int.mul_add]
theorem Nr:fl A0 (gN MB (tS 2 jz)):=(l4 (by
 intro a b r h g w u v ha hb
 unfold MB at h
 split at h
 ·rename_i k i lo hi o k' c
  replace h:=bb h
  obtain⟨hk,h⟩:=h
  obtain rfl:=bD.1 hk
  simp only[VR]at ha hb
  obtain⟨rfl,h1,h2⟩:=ha
  subst hb
  exact⟨_,_,_,_,_,rfl,rfl,cf,zi h h1 h2 g w⟩
 ·rename_i k' c k i lo hi o
  replace h:=bb h
  obtain⟨hk,h⟩:=h
  obtain rfl:=bD.1 hk
  simp only[VR]at ha hb
  obtain⟨rfl,h1,h2⟩:=hb
  subst ha
  refine⟨_,_,_,_,_,rfl,rfl,cf,fun z hz=>zi h h1 h2 g w z ?_⟩
  rw[Int.mul_comm]
  exact hz
 ·cases h) MR)
theorem Dl(T:TypeId):bY P .mul T eU:=dN (Hf T) Nr
theorem HW{k:IntKind}{x r:AV}(h:A3 k x=some r){g:G}{w:World}{u:Value}(hx:VR g w x u): ∃ k' m,u=.int k' m/\VR g w r (.int k (cI k m)):=by
 unfold A3 at h
 split at h
 ·rename_i k1 l hl
  replace h:=bb h
  obtain⟨hk,h⟩:=h
  obtain⟨x,e,_,ex⟩:=kG hl hx
  refine⟨_,_,e,qj h g w _ ?_⟩
  simp only[VR]
  rw[xY,<-ex,<-ql hk]
 ·cases h
omit [Io] in
theorem HX(k:IntKind)(n:Int):cI k (cI (uK k) n)=cI k n:=by
 cases k<;>simp only[uK,cI]<;>
  first
   |(show(n % _) % _=n % _;omega)
   |(show((n % _)+_) % _ - _=(n+_) % _ - _;omega)
theorem HY{k:IntKind}{x v:AV}(h:G8 k x=some v){g:G}{w:World}{u:Value}(hx:VR g w x u):
 ∃ k' m r0,u=.int k' m/\A4 k (.int k' m)=some r0/\ ∀ z,VR g w r0 z->VR g w v z:=by
 unfold G8 at h
 cases hc:A3 (uK k) x with
 |some r=>
  rw[hc]at h
  change t1 11 k r=some v at h
  obtain⟨k',m,e,hr⟩:=HW hc hx
  have hw:=fE k m
  refine⟨k',m,_,e,rfl,fun z hz=>?_⟩
  simp only[VR]at hz
  subst hz
  refine CE h hr ?_ hw.1 hw.2
  show some (AV.int k (cI k (cI (uK k) m)))=_
  rw[HX]
 |none=>
  rw[hc]at h
  change t1 11 k x=some v at h
  have hk: ∃ k' m,u=.int k' m:=by
   unfold t1 at h
   split at h
   ·rename_i kk s o l u' hs
    exact⟨_,_,(qb hs hx).1⟩
   ·cases h
  obtain⟨k',m,rfl⟩:=hk
  have hw:=fE k m
  refine⟨k',m,_,rfl,rfl,fun z hz=>?_⟩
  simp only[VR]at hz
  subst hz
  exact CE h hx rfl hw.1 hw.2
theorem HZ{k:IntKind}{b v:AV}{g:G}{w:World}{u:Value}(hf:aJ k b=some v)(hv:VR g w b u): ∃ k' m r0,u=.int k' m/\A4 k (.int k' m)=some r0/\ ∀ z,VR g w r0 z->VR g w v z:=by
 unfold aJ Cs at hf
 cases hr:A4 k b with
 |some r=>
  rw[hr]at hf
  cases hf
  unfold A4 at hr
  split at hr
  ·cases hr
   simp only[VR]at hv
   exact⟨_,_,_,hv,rfl,fun z h=>h⟩
  ·cases hr
 |none=>
  rw[hr]at hf
  change Cs (G7 k) (G8 k) b=some v at hf
  unfold Cs at hf
  cases hs:G7 k b with
  |none=>
   rw[hs]at hf
   exact HY hf hv
  |some v'=>
  rw[hs]at hf
  cases hf
  have hf:=hs
  clear hs
  unfold G7 at hf
  split at hf
  ·rename_i k' s lo hi o
   simp only[VR]at hv
   obtain⟨hv,h1,h2⟩:=hv
   refine⟨_,_,_,hv,rfl,fun z hz=>?_⟩
   cases jF:nS k s lo hi o with
   |some r=>
    rw[jF]at hf
    cases hf
    exact fZ jF h1 h2 rfl g w z hz
   |none=>
    simp only[VR]at hz
    subst hz
    rw[jF]at hf
    simp only at hf
    unfold Lj at hf
    split at hf
    ·cases hf
     rename_i i
     have hn:(0:Int)<=Io.io i % 18446744073709551616:=Int.emod_nonneg _ (by decide)
     have hl:=Int.emod_lt_of_pos (Io.io i) (show(0:Int)<18446744073709551616 by decide)
     simp only[VR]
     refine⟨?_,hn,by show Io.io i % 18446744073709551616<=_;omega⟩
     show Value.int .u64 ((Io.io i+0) % 18446744073709551616)=Value.int .u64 (Io.io i % 18446744073709551616+0)
     rw[Int.add_zero,Int.add_zero]
    ·rename_i i l hh j
     replace hf:=bb hf
     obtain⟨hq,hf⟩:=hf
     simp only[Bool.and_eq_true,Bool.not_eq_true',dY,gP]at hq
     obtain⟨hl0,hh0,Zj⟩:=hq
     have dH:=kC Zj (Io.io i)
     have e9:cI .u32 (bm (.pr i l hh j)+Int.ofNat 0)=fR l hh (Io.io i):=by
      show(fR l hh (Io.io i)+4294967296*Io.io j+0) % 4294967296=_
      omega
     cases hf
     cases he:eqI l hh with
     |true=>
      have:=cG.1 he
      simp only[cond_true,VR]
      rw[e9]
      congr 1
      omega
     |false=>
      simp only[cond_false,VR]
      refine⟨by rw[e9];show Value.int _ _=Value.int _ (fR l hh (Io.io i)+0);rw[Int.add_zero],dH.1,dH.2⟩
    ·unfold A3 at hf
     split at hf
     ·rename_i k1 l hl
      replace hf:=bb hf
      obtain⟨hk,hf⟩:=hf
      obtain⟨x,e,_,ex⟩:=kG hl (show VR g w (.sym k' s lo hi o) (.int k' (bm s+o))from by simp only[VR];exact⟨trivial,h1,h2⟩)
      obtain⟨_,e⟩:=Value.int.inj e
      refine qj hf g w _ ?_
      simp only[VR]
      rw[xY,<-ex,<-ql hk,<-e]
     ·cases hf
  ·cases hf
theorem x0{o:Oper}{S D:TypeId}{d:TypeDesc}{k:IntKind}{x:Operand}(ho:o.op=.convert S D x)(hS:P.underlying S=some d)(hD:P.underlying D=some (.int k)):
 bC P o (bF (aJ k) (aR x)):=by
 intro g w nt t h a v h' H Tr e
 obtain⟨b,hb,hf,rfl⟩:=mP e
 have hv:=bc x _ _ _ _ _ _ Tr hb
 obtain⟨k',m,r0,jx,hr,hz⟩:=HZ hf hv
 cases hr
 exact⟨rfl,.int k (k.wrap m),by simp[execOp,ho,jx,convert,run_underlying hS,run_underlying hD,Conv.intToInt],hz _ (by simp only[VR,fD])⟩
theorem Dm{x y:Operand}{mc:Array TypeId}{o:Oper}(ho:o.op=.call {callee:=.builtin .min,args:= #[x,y],argTypes:=mc}):bC P o (mK (aR x) (aR y)):=by
 intro g w nt t h a v h' H Tr e
 unfold mK af at e
 cases hx:aR x t with
 |none=>rw[hx]at e;cases e
 |some ax=>
  cases hy:aR y t with
  |none=>rw[hx,hy]at e;cases e
  |some ay=>
   rw[hx,hy]at e
   have h3:=bc x _ _ _ _ _ _ Tr hx
   have h4:=bc y _ _ _ _ _ _ Tr hy
   unfold gN at e
   cases hr:iJ (fun k a b=>some (.int k (bif ez b a then b else a))) ax ay with
   |some r=>
    simp only[hr]at e
    cases e
    obtain⟨k,m,n,rfl,rfl,h2⟩:=nZ hr
    cases h2
    simp only[VR]at h3 h4
    refine⟨rfl,.int k (if n<m then n else m),by simp[execOp,ho,resolve,invoke,builtin,Builtin.min_,Builtin.min2,h3,h4],?_⟩
    simp only[VR,dF]
    by_cases ee:n<m<;>simp[ee]
   |none=>
    simp only[hr]at e
    cases hl:Ce ay ax with
    |none=>rw[hl]at e;cases e
    |some c=>
     rw[hl]at e
     cases e
     obtain⟨k,p,q,e1,e2,rfl⟩:=kE hl h4 h3
     have hex:(execOp a.eval o).run P w=.ok (.value (.int k (if p<q then p else q))) w:=by
      simp[execOp,ho,resolve,invoke,builtin,Builtin.min_,Builtin.min2,e1,e2]
     refine⟨rfl,_,hex,?_⟩
     by_cases ee:p<q
     ·simp only[ee,decide_true,cond_true,if_true,gt_iff_lt]
      rw[e1]at h4
      exact h4
     ·simp only[ee,decide_false,cond_false,if_false,gt_iff_lt]
      rw[e2]at h3
      exact h3
theorem Dn{x y:Operand}{mc:Array TypeId}{o:Oper}(ho:o.op=.call {callee:=.builtin .max,args:= #[x,y],argTypes:=mc}):bC P o (rA (aR x) (aR y)):=by
 intro g w nt t h a v h' H Tr e
 unfold rA af at e
 cases hx:aR x t with
 |none=>rw[hx]at e;cases e
 |some ax=>
  cases hy:aR y t with
  |none=>rw[hx,hy]at e;cases e
  |some ay=>
   rw[hx,hy]at e
   have h3:=bc x _ _ _ _ _ _ Tr hx
   have h4:=bc y _ _ _ _ _ _ Tr hy
   unfold gN at e
   cases hr:iJ (fun k a b=>some (.int k (bif ez a b then b else a))) ax ay with
   |some r=>
    simp only[hr]at e
    cases e
    obtain⟨k,m,n,rfl,rfl,h2⟩:=nZ hr
    cases h2
    simp only[VR]at h3 h4
    refine⟨rfl,.int k (if n>m then n else m),by simp[execOp,ho,resolve,invoke,builtin,Builtin.max_,Builtin.max2,h3,h4],?_⟩
    simp only[VR,dF]
    by_cases ee:m<n<;>simp[ee]
   |none=>
    simp only[hr]at e
    cases hl:Ce ax ay with
    |none=>rw[hl]at e;cases e
    |some c=>
     rw[hl]at e
     cases e
     obtain⟨k,p,q,e1,e2,rfl⟩:=kE hl h3 h4
     have hex:(execOp a.eval o).run P w=.ok (.value (.int k (if q>p then q else p))) w:=by
      simp[execOp,ho,resolve,invoke,builtin,Builtin.max_,Builtin.max2,e1,e2]
     refine⟨rfl,_,hex,?_⟩
     by_cases ee:p<q
     ·simp only[ee,decide_true,cond_true,if_true,gt_iff_lt]
      rw[e2]at h4
      exact h4
     ·simp only[ee,decide_false,cond_false,if_false,gt_iff_lt]
      rw[e1]at h3
      exact h3
end
end Go.Ab

noncomputable section
namespace Go.Ab
variable [Io]
section
variable {P:Program}
def scalars(P:Program)(n:Nat)(l:List Field):Option (List Bool):=
 List.rec (fun _=>some []) (fun f _ ih n=>bif Nat.beq f.offset n&& !(decide (f.name= "_"))then
  (match P.info? f.type with
  |some i=>bif Nat.beq i.size 1 then
   (match P.underlying f.type with
   |some (.int _)=>(match ih (Nat.add n 1)with|some r=>some (true::r)|none=>none)
   |some .bool=>(match ih (Nat.add n 1)with|some r=>some (false::r)|none=>none)
   | _=>none)else none
  |none=>none)else none) l n
theorem Ns{i:Bool}{x y:AV}{c:Bool}(h:Qx i x y=some c){g:G}{w:World}{u v:Value}(hx:VR g w x u)(hy:VR g w y v){T:TypeId}{d:Nat}
 (hT:(i=true/\ ∃ k,P.underlying T=some (.int k))∨(i=false/\P.underlying T=some .bool)):(Op.equalIn (d+1) T u v).run P w=.ok c w:=by
 rcases hT with⟨rfl,k,hT⟩|⟨rfl,hT⟩
 ·change (match(generalizing:=false) x,y with| .int k a,.int k' b=>bif eM k k' then some (eqI a b)else none| _,_=>GD x y)=some c at h
  split at h
  ·rename_i k1 a k2 b
   cases e:eM k1 k2 with
   |false=>rw[e]at h;cases h
   |true=>
    rw[e]at h
    cases h
    obtain rfl:=bD.1 e
    simp only[VR]at hx hy
    subst hx;subst hy
    rw[run_equalIn_int w d T k1 k a b hT,nY]
  ·obtain⟨k1,m,n,rfl,rfl,rfl⟩:=xZ h hx hy
   rw[run_equalIn_int w d T k1 k m n hT]
   congr 1
 ·change (match(generalizing:=false) x,y with| .bool a,.bool b=>some (!(xor a b))| _,_=>none)=some c at h
  split at h
  ·rename_i a b
   cases h
   simp only[VR]at hx hy
   subst hx;subst hy
   rw[run_equalIn_bool' w d T a b hT]
   cases a<;>cases b<;>rfl
  ·cases h
omit [Io] in
theorem vy{T:TypeId}{td:TypeDesc}{i:TypeInfo}{vs:Array Value}{n:Nat}{v:Value}{w:World}(hd:P.underlying T=some td)(ha:fF td=false)(hv:vs[n]? =some v):
 (Go.part T vs n).run P w=.ok v w:=by
 unfold Go.part
 simp only[Sem.run_bind,ji hd,ha,Result.andThen_ok]
 simp[hv]
theorem oO{g:G}{w:World}(d:Nat): ∀ (fs:List Field) (n:Nat) (l:List Bool) (xs ys:List AV) (us vs:Array Value) (c:Bool),scalars P n fs=some l->u5 l xs ys=some c->
 bq g w xs (us.toList.drop n)->bq g w ys (vs.toList.drop n)->(Op.eqFields (d+1) us vs fs).run P w=.ok c w
 | [],n,l,xs,ys,us,vs,c,hs,e,hx,hy=>by
  cases hs
  cases e
  simp[Op.eqFields]
 |f::fs,n,l,xs,ys,us,vs,c,hs,e,hx,hy=>by
  change (bif Nat.beq f.offset n&& !(decide (f.name= "_"))then
   (match P.info? f.type with
   |some i=>bif Nat.beq i.size 1 then
    (match P.underlying f.type with
    |some (.int _)=>(match scalars P (n+1) fs with|some r=>some (true::r)|none=>none)
    |some .bool=>(match scalars P (n+1) fs with|some r=>some (false::r)|none=>none)
    | _=>none)else none
   |none=>none)else none)=some l at hs
  replace hs:=bb hs
  obtain⟨h0,hs⟩:=hs
  rw[Bool.and_eq_true]at h0
  have Ry:f.offset=n:=Nat.eq_of_beq_eq_true h0.1
  have Rz:f.name≠ "_" :=by simpa using h0.2
  split at hs
  ·replace hs:=bb hs
   obtain⟨_,hs⟩:=hs
   have key: ∀ (i:Bool) (r:List Bool) (td:TypeDesc),P.underlying f.type=some td->fF td=false->scalars P (n+1) fs=some r->l=i::r->
    ((i=true/\ ∃ k,P.underlying f.type=some (.int k))∨(i=false/\P.underlying f.type=some .bool))->(Op.eqFields (d+1) us vs (f::fs)).run P w=.ok c w:=by
    intro i r td htd RA hr hl hT
    subst hl
    change (match(generalizing:=false) xs with
     | []=>none
     |x::xs=>match(generalizing:=false) ys with
      | []=>none
      |y::ys=>match Qx i x y with
       |none=>none
       |some c=>(Bool.rec (some false) (u5 r xs ys) c:Option Bool))=some c at e
    cases xs with
    |nil=>cases e
    |cons x xs=>
    cases ys with
    |nil=>cases e
    |cons y ys=>
    simp only at e
    cases h1:Qx i x y with
    |none=>rw[h1]at e;cases e
    |some c1=>
    rw[h1]at e
    simp only[bq]at hx hy
    obtain⟨u,us',hu,hxu,Nt⟩:=hx
    obtain⟨v,Ra,hv,RB,RC⟩:=hy
    have hu0:us[n]? =some u:=by
     have:(us.toList.drop n)[0]? =some u:=by rw[hu];rfl
     simpa using this
    have hv0:vs[n]? =some v:=by
     have:(vs.toList.drop n)[0]? =some v:=by rw[hv];rfl
     simpa using this
    have hu1:us.toList.drop (n+1)=us':=by rw[<-List.drop_drop,hu];rfl
    have RD:vs.toList.drop (n+1)=Ra:=by rw[<-List.drop_drop,hv];rfl
    have pu:(Go.part f.type us f.offset).run P w=.ok u w:=by rw[Ry];exact vy (i:=default) htd RA hu0
    have pv:(Go.part f.type vs f.offset).run P w=.ok v w:=by rw[Ry];exact vy (i:=default) htd RA hv0
    simp only[Op.eqFields,if_pos Rz,Sem.run_bind,pu,pv,Result.andThen_ok,Ns (P:=P) (d:=d) h1 hxu RB hT]
    cases c1 with
    |false=>cases e;simp
    |true=>
     simp only[Bool.not_true,Bool.false_eq_true,if_false]
     exact oO d fs (n+1) r xs ys us vs c hr e (by rw[hu1];exact Nt) (by rw[RD];exact RC)
   split at hs
   ·rename_i k hT
    split at hs
    ·rename_i r hr;cases hs;exact key true r _ hT rfl hr rfl (.inl ⟨rfl,_,hT⟩)
    ·cases hs
   ·rename_i hT
    split at hs
    ·rename_i r hr;cases hs;exact key false r _ hT rfl hr rfl (.inr ⟨rfl,hT⟩)
    ·cases hs
   ·cases hs
  ·cases hs
omit [Io] in
theorem r9{neg:Bool}{l:List Bool}{x y r:AV}(h:xE neg l x y=some r): ∃ xs ys c,x=.agg xs/\y=.agg ys/\u5 l xs ys=some c/\r=.bool (bif neg then !c else c):=by
 unfold xE at h
 split at h
 ·rename_i xs
  split at h
  ·rename_i ys
   split at h
   ·rename_i c hc
    cases h
    exact⟨xs,ys,c,rfl,rfl,hc,rfl⟩
   ·cases h
  ·cases h
 ·cases h
theorem zj{T:TypeId}{fs:Array Field}{l:List Bool}(hT:P.underlying T=some (.struct fs))(hs:P.stoodInHeld T=false)(hl:scalars P 0 fs.toList=some l){g:G}{w:World}
 {xs ys:List AV}{c:Bool}(hc:u5 l xs ys=some c){us vs:Array Value}(hx:bq g w xs us.toList)(hy:bq g w ys vs.toList):(Op.equalIn 10000 T (.agg us) (.agg vs)).run P w=.ok c w:=by
 have hf:P.fieldsOf T=fs:=by unfold Program.fieldsOf;rw[hT]
 refine(run_equalIn_struct w 9999 T us vs (by rw[hf];exact hT) hs).trans ?_
 rw[hf]
 exact oO 9998 fs.toList 0 l xs ys us vs c hl hc (by simpa using hx) (by simpa using hy)
theorem H5{T:TypeId}{fs:Array Field}{l:List Bool}(hT:P.underlying T=some (.struct fs))(hs:P.stoodInHeld T=false)(hg:P.eqGuardType P.depth T=false)(hl:scalars P 0 fs.toList=some l):
 bY P .eql T (xE false l):=by
 intro g w a b r u v ha hb h
 obtain⟨xs,ys,c,rfl,rfl,hc,rfl⟩:=r9 h
 simp only[VR]at ha hb
 obtain⟨us,rfl,hx⟩:=ha
 obtain⟨vs,rfl,hy⟩:=hb
 refine⟨.bool c,?_,by simp only[VR];rfl,fun x y=>run_eqGuard_agg w .eql T x y us vs hg⟩
 rw[run_eql_struct,zj hT hs hl hc hx hy]
 rfl
theorem H6{T:TypeId}{fs:Array Field}{l:List Bool}(hT:P.underlying T=some (.struct fs))(hs:P.stoodInHeld T=false)(hg:P.eqGuardType P.depth T=false)(hl:scalars P 0 fs.toList=some l):
 bY P .neq T (xE true l):=by
 intro g w a b r u v ha hb h
 obtain⟨xs,ys,c,rfl,rfl,hc,rfl⟩:=r9 h
 simp only[VR]at ha hb
 obtain⟨us,rfl,hx⟩:=ha
 obtain⟨vs,rfl,hy⟩:=hb
 refine⟨.bool (!c),?_,by simp only[VR];rfl,fun x y=>run_eqGuard_agg w .neq T x y us vs hg⟩
 rw[run_neq_struct,zj hT hs hl hc hx hy]
 rfl
def Bn(P:Program)(neg:Bool)(T:TypeId):Option (AV->AV->Option AV):=match P.underlying T with
 |some (.struct fs)=>match P.stoodInHeld T with
  |false=>match P.eqGuardType P.depth T with
   |false=>match scalars P 0 fs.toList with
    |some l=>some (xE neg l)
    |none=>none
   |true=>none
  |true=>none
 | _=>none
theorem H7{T:TypeId}{f:AV->AV->Option AV}(h:Bn P false T=some f):bY P .eql T f:=by
 unfold Bn at h
 split at h
 ·rename_i fs hT
  split at h
  ·rename_i hs
   split at h
   ·rename_i hg
    split at h
    ·rename_i l hl
     cases h
     exact H5 hT hs hg hl
    ·cases h
   ·cases h
  ·cases h
 ·cases h
theorem H8{T:TypeId}{f:AV->AV->Option AV}(h:Bn P true T=some f):bY P .neq T f:=by
 unfold Bn at h
 split at h
 ·rename_i fs hT
  split at h
  ·rename_i hs
   split at h
   ·rename_i hg
    split at h
    ·rename_i l hl
     cases h
     exact H6 hT hs hg hl
    ·cases h
   ·cases h
  ·cases h
 ·cases h
end
end Go.Ab
