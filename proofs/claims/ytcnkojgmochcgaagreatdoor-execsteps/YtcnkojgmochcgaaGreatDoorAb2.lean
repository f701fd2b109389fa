import Derived.Test.YtcnkojgmochcgaaGreatDoorAb0
import Derived.Laws.Tables
noncomputable section
namespace Go.Ab
variable [Io]
omit [Io] in
theorem bO{α:Type}(l r:List α):app l r=l++r:=by
 induction l with
 |nil=>rfl
 |cons a l ih=>exact congrArg (a:: ·) ih
omit [Io] in
theorem Hl{α:Type}(l:List α): ∀ n,(List.rec (motive:=fun _=>Nat->Nat) (fun n=>n) (fun _ _ ih n=>ih (Nat.add n 1)) l:Nat->Nat) n=n+l.length:=by
 induction l with
 |nil=>intro n;rfl
 |cons a l ih=>intro n;refine(ih (n+1)).trans ?_;simp;omega
omit [Io] in
theorem bJ{α:Type}(l:List α):len l=l.length:=(Hl l 0).trans (Nat.zero_add _)
omit [Io] in
theorem ki{α:Type}(l:List α): ∀ n,tk n l=l.take n:=by
 induction l with
 |nil=>intro n;cases n<;>rfl
 |cons a l ih=>intro n;cases n with
  |zero=>rfl
  |succ n=>exact congrArg (a:: ·) (ih n)
omit [Io] in
theorem fB{α:Type}(l:List α): ∀ n,dp n l=l.drop n:=by
 induction l with
 |nil=>intro n;cases n<;>rfl
 |cons a l ih=>intro n;cases n with
  |zero=>rfl
  |succ n=>exact ih n
omit [Io] in
theorem ec{α:Type}(l:List α): ∀ n,gG l n=l[n]? :=by
 induction l with
 |nil=>intro n;rfl
 |cons a l ih=>intro n;cases n with
  |zero=>rfl
  |succ n=>refine(ih n).trans ?_;simp
omit [Io] in
theorem eJ{α:Type}(p:α->Bool)(l:List α):dJ p l=l.all p:=by
 induction l with
 |nil=>rfl
 |cons a l ih=>show(bif p a then dJ p l else false)=_;rw[ih];cases h:p a<;>simp[h]
omit [Io] in
theorem put_eq(cs:List AV)(off:Nat)(new:List AV):put cs off new=cs.take off++(new++cs.drop (off+new.length)):=by
 unfold put;rw[bO,bO,ki,fB,bJ];rfl
omit [Io] in
theorem gU{cs:List AV}{off n:Nat}{l:List AV}(h:pA cs off n=some l):l=(cs.drop off).take n/\l.length=n:=by
 change (bif Nat.beq (len (tk n (dp off cs))) n then some (tk n (dp off cs))else none)=some l at h
 rw[ki,fB,bJ]at h
 by_cases e:(List.take n (List.drop off cs)).length=n
 ·rw[show Nat.beq (List.take n (List.drop off cs)).length n=true from Nat.beq_eq.mpr e]at h
  obtain rfl:=Option.some.inj h
  exact⟨rfl,e⟩
 ·rw[show Nat.beq (List.take n (List.drop off cs)).length n=false from Bool.eq_false_iff.mpr (fun k=>e (Nat.eq_of_beq_eq_true k))]at h
  cases h
omit [Io] in
theorem nT(r:Rw): ∀ k i,(r.cells k i).length=k
 |0,_=>rfl
 |k+1,i=>by show(r.cell i::r.cells k (i+1)).length=_;rw[List.length_cons,nT r k (i+1)]
omit [Io] in
theorem nU(r:Rw): ∀ (k i j:Nat),(r.cells k i)[j]? =if j<k then some (r.cell (i+j))else none
 |0,i,j=>by show([]:List AV)[j]? =_;simp
 |k+1,i,0=>by show(r.cell i::r.cells k (i+1))[0]? =_;simp
 |k+1,i,j+1=>by
  show(r.cell i::r.cells k (i+1))[j+1]? =_
  rw[List.getElem?_cons_succ,nU r k (i+1) j,show i+1+j=i+(j+1) by omega]
  by_cases h:j<k
  ·rw[if_pos h,if_pos (by omega)]
  ·rw[if_neg h,if_neg (by omega)]
omit [Io] in
theorem dm(r:Rw):r.toL.length=r.n:=nT r r.n 0
omit [Io] in
theorem iQ(r:Rw)(j:Nat):r.toL[j]? =if j<r.n then some (r.cell j)else none:=by
 unfold Rw.toL;rw[nU,Nat.zero_add]
omit [Io] in
theorem fj: ∀ (l:List AV) (i:Nat) (t:Tr AV) (j:Nat),(iw l i t).get j=if i<=j/\j<i+l.length then l[j - i]? else t.get j
 | [],i,t,j=>by show t.get j=_;rw[if_neg (by simp)]
 |a::l,i,t,j=>by
  show(iw l (i+1) (t.set i (some a))).get j=_
  rw[fj l (i+1) _ j,Tr.fA]
  simp only[List.length_cons]
  by_cases h:i=j
  ·subst h
   rw[if_neg (by omega),if_pos rfl,if_pos (by omega),Nat.sub_self]
   rfl
  ·by_cases h2:i+1<=j/\j<i+1+l.length
   ·rw[if_pos h2,if_pos (by omega),show j - i=(j - (i+1))+1 by omega,List.getElem?_cons_succ]
   ·rw[if_neg h2,if_neg (fun e=>h e.symm),if_neg (by omega)]
omit [Io] in
theorem nV{r:Rw}{i:Nat}{v:AV}(h:r.t.get i=some v):r.cell i=v:=by unfold Rw.cell;rw[h]
omit [Io] in
theorem tp{r r':Rw}{i:Nat}(h:r.t.get i=r'.t.get i)(hd:r.d=r'.d):r.cell i=r'.cell i:=by unfold Rw.cell;rw[h,hd]
omit [Io] in
theorem eK(l:List AV):(pz l).toL=l:=by
 apply List.ext_getElem?
 intro j
 rw[iQ]
 show(if j<len l then _ else _)=_
 rw[bJ]
 by_cases h:j<l.length
 ·rw[if_pos h,nV (v:=l[j])]
  ·rw[List.getElem?_eq_getElem h]
  ·show(iw l 0 .nil).get j=_
   rw[fj,if_pos (by omega),Nat.sub_zero,List.getElem?_eq_getElem h]
 ·rw[if_neg h,List.getElem?_eq_none (by omega)]
omit [Io] in
theorem fC{r:Rw}{off k:Nat}{l:List AV}(h:r.fN off k=some l):l=(r.toL.drop off).take k/\l.length=k/\off+k<=r.n:=by
 unfold Rw.fN at h
 cases hb:Nat.ble (Nat.add off k) r.n with
 |false=>rw[hb]at h;cases h
 |true=>
  rw[hb]at h
  cases h
  have hle:off+k<=r.n:=Nat.le_of_ble_eq_true hb
  refine⟨?_,nT r k off,hle⟩
  apply List.ext_getElem?
  intro j
  rw[nU,List.getElem?_take,List.getElem?_drop,iQ]
  by_cases h:j<k
  ·rw[if_pos h,if_pos h,if_pos (by omega)]
  ·rw[if_neg h,if_neg h]
omit [Io] in
theorem vb{r:Rw}{off k:Nat}{l:List AV}(h:r.fN off k=some l):pA r.toL off k=some l:=by
 obtain⟨rfl,hl,_⟩:=fC h
 change (bif Nat.beq (len (tk k (dp off r.toL))) k then some (tk k (dp off r.toL))else none)=_
 rw[ki,fB,bJ,hl,Nat.beq_refl]
 rfl
omit [Io] in
theorem qd{agg:Bool}{r:Rw}{off size:Nat}{v:AV}(h:lQ agg r off size=some v):part agg r.toL off size=some v:=by
 unfold lQ at h
 split at h
 ·cases h
 ·rename_i l e
  unfold part
  rw[vb e]
  exact h
omit [Io] in
theorem mF{r:Rw}{off:Nat}{l:List AV}(h:off+l.length<=r.n):(r.put off l).toL=put r.toL off l:=by
 rw[put_eq]
 apply List.ext_getElem?
 intro j
 rw[iQ]
 show(if j<r.n then some ((r.put off l).cell j)else none)=_
 have hl:=dm r
 by_cases h1:j<off
 ·rw[if_pos (by omega),List.getElem?_append_left (by rw[List.length_take];omega),List.getElem?_take,if_pos h1,iQ,if_pos (by omega)]
  congr 1
  refine tp ?_ rfl
  show(iw l off r.t).get j=_
  rw[fj,if_neg (by omega)]
 ·rw[List.getElem?_append_right (by rw[List.length_take];omega),List.length_take,hl,Nat.min_eq_left (by omega)]
  by_cases h2:j<off+l.length
  ·rw[if_pos (by omega),List.getElem?_append_left (by omega),List.getElem?_eq_getElem (by omega)]
   congr 1
   refine nV ?_
   show(iw l off r.t).get j=_
   rw[fj,if_pos (by omega),List.getElem?_eq_getElem (by omega)]
  ·rw[List.getElem?_append_right (by omega),List.getElem?_drop,show off+l.length+(j - off - l.length)=j by omega,iQ]
   by_cases h3:j<r.n
   ·rw[if_pos h3,if_pos h3]
    congr 1
    refine tp ?_ rfl
    show(iw l off r.t).get j=_
    rw[fj,if_neg (by omega)]
   ·rw[if_neg h3,if_neg h3]
omit [Io] in
theorem mG(r:Rw)(l:List AV):(r.app l).toL=r.toL++l:=by
 apply List.ext_getElem?
 intro j
 rw[iQ]
 show(if j<Nat.add r.n (len l)then some ((r.app l).cell j)else none)=_
 rw[bJ]
 have hl:=dm r
 have ha:Nat.add r.n l.length=r.n+l.length:=rfl
 rw[ha]
 by_cases h1:j<r.n
 ·rw[if_pos (by omega),List.getElem?_append_left (by omega),iQ,if_pos h1]
  congr 1
  refine tp ?_ rfl
  show(iw l r.n r.t).get j=_
  rw[fj,if_neg (by omega)]
 ·rw[List.getElem?_append_right (by omega),hl]
  by_cases h2:j<r.n+l.length
  ·rw[if_pos h2,List.getElem?_eq_getElem (by omega)]
   congr 1
   refine nV ?_
   show(iw l r.n r.t).get j=_
   rw[fj,if_pos (by omega),List.getElem?_eq_getElem (by omega)]
  ·rw[if_neg h2,List.getElem?_eq_none (by omega)]
omit [Io] in
theorem vc{r p:Rw}{off k:Nat}(h:r.sub off k=some p):p.toL=(r.toL.drop off).take k/\p.toL.length=k:=by
 unfold Rw.sub at h
 cases hb:Nat.ble (Nat.add off k) r.n with
 |false=>rw[hb]at h;cases h
 |true=>
  rw[hb]at h
  have hle:off+k<=r.n:=Nat.le_of_ble_eq_true hb
  cases h
  have hs:r.fN off k=some (r.cells k off):=by unfold Rw.fN;rw[hb];rfl
  obtain⟨e1,e2,_⟩:=fC hs
  cases h0:Nat.beq off 0 with
  |true=>
   obtain rfl:=Nat.eq_of_beq_eq_true h0
   have:(r.upto k).toL=r.cells k 0:=rfl
   rw[cond_true,this,<-e1]
   exact⟨rfl,e2⟩
  |false=>
   rw[cond_false,eK,<-e1]
   exact⟨rfl,e2⟩
omit [Io] in
theorem oM(z:List AV): ∀ (c j:Nat),(dO c z)[j]? =if j<c*z.length then z[j % z.length]? else none
 |0,j=>by show([]:List AV)[j]? =_;simp
 |c+1,j=>by
  show(app z (dO c z))[j]? =_
  rw[bO]
  by_cases h:j<z.length
  ·rw[List.getElem?_append_left h,Nat.mod_eq_of_lt h,if_pos (by rw[Nat.add_mul];omega)]
  ·have YF:j % z.length=(j - z.length) % z.length:=Nat.mod_eq_sub_mod (by omega)
   rw[List.getElem?_append_right (by omega),oM z c,YF,Nat.add_mul,Nat.one_mul]
   by_cases h2:j - z.length<c*z.length
   ·rw[if_pos h2,if_pos (by omega)]
   ·rw[if_neg h2,if_neg (by omega)]
omit [Io] in
theorem zd(c:Nat)(z:List AV):(⟨Nat.mul c (len z),z,.nil⟩:Rw).toL=dO c z:=by
 apply List.ext_getElem?
 intro j
 rw[iQ,oM]
 show(if j<Nat.mul c (len z)then some (Rw.cell ⟨Nat.mul c (len z),z,.nil⟩ j)else none)=_
 rw[bJ]
 by_cases h:j<c*z.length
 ·have hm:Nat.mul c z.length=c*z.length:=rfl
  rw[hm,if_pos h,if_pos h]
  have hz:0<z.length:=by
   rcases Nat.eq_zero_or_pos z.length with e|e
   ·rw[e]at h;simp at h
   ·exact e
  have:j % z.length<z.length:=Nat.mod_lt _ hz
  show some (Option.rec (Option.rec ej (fun v=>v) (gG z (Nat.mod j (len z)))) (fun v=>v) ((Tr.nil:Tr AV).get j):AV)=_
  rw[Tr.get_nil,ec,bJ,show Nat.mod j z.length=j % z.length from rfl,List.getElem?_eq_getElem this]
 ·have hm:Nat.mul c z.length=c*z.length:=rfl
  rw[hm,if_neg h,if_neg h]
theorem bA.length{g w}: ∀ {l:List AV} {vs:List Value},bA g w l vs->vs.length=l.length
 | [],vs,h=>by simp only[bA]at h;subst h;rfl
 |a::l,vs,h=>by
  simp only[bA]at h
  obtain⟨v,l',rfl,_,r⟩:=h
  simp[bA.length r]
theorem bA.take{g w}: ∀ {l:List AV} {vs:List Value} (n:Nat),bA g w l vs->bA g w (l.take n) (vs.take n)
 | [],vs,n,h=>by simp only[bA]at h;subst h;simp[bA]
 |a::l,vs,0,h=>by simp[bA]
 |a::l,vs,n+1,h=>by
  simp only[bA]at h
  obtain⟨v,l',rfl,q,r⟩:=h
  simp only[List.take_succ_cons,bA]
  exact⟨v,_,rfl,q,bA.take n r⟩
theorem bA.drop{g w}: ∀ {l:List AV} {vs:List Value} (n:Nat),bA g w l vs->bA g w (l.drop n) (vs.drop n)
 | [],vs,n,h=>by simp only[bA]at h;subst h;simp[bA]
 |a::l,vs,0,h=>h
 |a::l,vs,n+1,h=>by
  simp only[bA]at h
  obtain⟨v,l',rfl,q,r⟩:=h
  exact bA.drop n r
theorem bA.append{g w}: ∀ {l r:List AV} {vs us:List Value},bA g w l vs->bA g w r us->bA g w (l++r) (vs++us)
 | [],r,vs,us,h,k=>by simp only[bA]at h;subst h;exact k
 |a::l,r,vs,us,h,k=>by
  simp only[bA]at h
  obtain⟨v,l',rfl,q,p⟩:=h
  simp only[List.cons_append,bA]
  exact⟨v,_,rfl,q,bA.append p k⟩
theorem bA.get{g w}: ∀ {l:List AV} {vs:List Value},bA g w l vs-> ∀ (i:Nat) (a:AV),l[i]? =some a-> ∃ v,vs[i]? =some v/\VR g w a v
 | [],vs,h,i,a,e=>by simp at e
 |b::l,vs,h,0,a,e=>by
  simp only[bA]at h
  obtain⟨v,l',rfl,q,p⟩:=h
  simp at e;subst e
  exact⟨v,rfl,q⟩
 |b::l,vs,h,i+1,a,e=>by
  simp only[bA]at h
  obtain⟨v,l',rfl,q,p⟩:=h
  simpa using bA.get p i a (by simpa using e)
theorem bA.repeat{g w}{l:List AV}{vs:List Value}(h:bA g w l vs): ∀ n,bA g w (dO n l) (List.replicate n vs).flatten
 |0=>by show bA g w [] _;simp[bA]
 |n+1=>by
  show bA g w (app l (dO n l)) _
  rw[bO,List.replicate_succ,List.flatten_cons]
  exact bA.append h (bA.repeat h n)
theorem bA.one{g w}{a:AV}{v:Value}(h:VR g w a v):bA g w [a] [v]:=by
 simp only[bA];exact⟨v,[],rfl,h,rfl⟩
theorem VR.cells{g w}{a:AV}{v:Value}(h:VR g w a v):bA g w a.cells v.cells.toList:=by
 cases a with
 |agg cs=>
  simp only[VR]at h
  obtain⟨vs,rfl,q⟩:=h
  exact q
 |sc x=>
  simp only[VR]at h
  obtain⟨rfl,h1⟩:=h
  have:v.cells= #[v]:=by cases v<;>first|rfl|(simp[Value.oneCell']at h1)
  rw[this]
  exact bA.one (by simp[VR,h1])
 |sym k s lo hi off=>have h':=h;simp only[VR]at h;obtain⟨rfl,_⟩:=h;exact bA.one h'
 |any=>
  have h1:=h
  simp only[VR]at h1
  have:v.cells= #[v]:=by cases v<;>first|rfl|(simp[Value.oneCell']at h1)
  rw[this]
  exact bA.one h
 |dj id off n sz=>
  have h':=h
  simp only[VR]at h
  rcases h with⟨_,a,rfl⟩|⟨b,s,cap,_,rfl,_⟩<;>exact bA.one h'
 |int k n=>have h':=h;simp only[VR]at h;subst h;exact bA.one h'
 |bool b=>have h':=h;simp only[VR]at h;subst h;exact bA.one h'
 |mw cs=>have h':=h;simp only[VR]at h;obtain⟨_,rfl,_⟩:=h;exact bA.one h'
 |ref id off=>have h':=h;simp only[VR]at h;obtain⟨_,_,_,rfl⟩:=h;exact bA.one h'
 |fc n cs=>have h':=h;simp only[VR]at h;obtain⟨_,_,rfl,_⟩:=h;exact bA.one h'
 |eh cs=>have h':=h;simp only[VR]at h;obtain⟨_,_,_,rfl,_⟩:=h;exact bA.one h'
 |cW=>have h':=h;simp only[VR]at h;obtain⟨_,rfl⟩:=h;exact bA.one h'
 |jm=>have h':=h;simp only[VR]at h;obtain⟨_,rfl⟩:=h;exact bA.one h'
 |fn f cap=>have h':=h;simp only[VR]at h;obtain⟨_,rfl,_⟩:=h;exact bA.one h'
theorem VR.one{g w}{a:AV}{v:Value}(h:VR g w a v)(c:cJ a=true):v.oneCell'=true:=by
 cases a with
 |agg cs=>cases c
 |mw cs=>cases c
 |sc x=>simp only[VR]at h;obtain⟨rfl,h1⟩:=h;exact h1
 |sym k s lo hi off=>simp only[VR]at h;obtain⟨rfl,_⟩:=h;rfl
 |any=>simpa only[VR]using h
 |dj id off n sz=>
  simp only[VR]at h
  rcases h with⟨_,a,rfl⟩|⟨b,s,cap,_,rfl,_⟩<;>rfl
 |int k n=>simp only[VR]at h;subst h;rfl
 |bool b=>simp only[VR]at h;subst h;rfl
 |ref id off=>simp only[VR]at h;obtain⟨_,_,_,rfl⟩:=h;rfl
 |fc n cs=>simp only[VR]at h;obtain⟨_,_,rfl,_⟩:=h;rfl
 |eh cs=>simp only[VR]at h;obtain⟨_,_,_,rfl,_⟩:=h;rfl
 |cW=>simp only[VR]at h;obtain⟨_,rfl⟩:=h;rfl
 |jm=>simp only[VR]at h;obtain⟨_,rfl⟩:=h;rfl
 |fn f cap=>simp only[VR]at h;obtain⟨_,rfl,_⟩:=h;rfl
theorem bA.xF{g w}: ∀ {l:List AV} {vs:List Value},bA g w l vs->dJ cJ l=true-> ∀ v∈vs,v.oneCell'=true
 | [],vs,h,_,v,e=>by simp only[bA]at h;subst h;cases e
 |a::l,vs,h,c,v,e=>by
  simp only[bA]at h
  obtain⟨u,l',rfl,q,p⟩:=h
  rw[eJ]at c
  simp at c
  cases e with
  |head=>exact VR.one q c.1
  |tail _ e=>exact bA.xF p (by rw[eJ];simpa using c.2) v e
omit [Io] in
theorem cR.drop{w:World}{b o:Nat}{vs:List Value}(h:cR w b o vs)(n:Nat):cR w b (o+n) (vs.drop n):=by
 intro j v e
 rw[List.getElem?_drop]at e
 have:=h (n+j) v e
 rwa [Nat.add_assoc]
omit [Io] in
theorem cR.take{w:World}{b o:Nat}{vs:List Value}(h:cR w b o vs)(n:Nat):cR w b o (vs.take n):=by
 intro j v e
 rw[List.getElem?_take]at e
 split at e
 ·exact h j v e
 ·cases e
theorem HC.row{g w h}(H:HC g w h){id:Nat}{cs:Rw}(e:h.aQ.get id=some cs){b s:Nat}(hm:g.m id=some (b,s)):
 ∃ C,∃ el:FT C,∃ vs,w.heap[b]? =some (.cells C el.el el.fz)/\ ¬ g.cV b/\bA g w cs.toL vs/\(∀ (j:Nat) (v:Value),vs[j]? =some v->C[s+j]? =some v):=by
 obtain⟨b',s',C,el,vs,pB,hw,hi,hv,hc⟩:=H.aQ id cs e
 rw[hm]at pB
 obtain⟨rfl,rfl⟩:=Prod.mk.inj (Option.some.inj pB)
 exact⟨C,el,vs,hw,hi,hv,hc⟩
theorem HR.row{g w h}(H:HR g w h){id:Nat}{cs:Rw}(e:h.aQ.get id=some cs){b s:Nat}(hm:g.m id=some (b,s)):
 ∃ C,∃ el:FT C,∃ vs,w.heap[b]? =some (.cells C el.el el.fz)/\ ¬ g.cV b/\bA g w cs.toL vs/\(∀ (j:Nat) (v:Value),vs[j]? =some v->C[s+j]? =some v):=H.toHC.row e hm
omit [Io] in
theorem dW{w:World}{b s:Nat}{C:Array Value}{el fz}{vs:List Value}(hw:w.heap[b]? =some (.cells C el fz))(hc: ∀ (j:Nat) (v:Value),vs[j]? =some v->C[s+j]? =some v):
 cR w b s vs:=by
 intro j v e
 simp[World.cell?,hw,hc j v e]
omit [Io] in
theorem fm{w:World}{b:Nat}{C:Array Value}{el fz}(hw:w.heap[b]? =some (.cells C el fz)):cO w b=C.size:=by
 simp[cO,hw]
def G.add(g:G)(id b:Nat):G:=⟨fun i=>if i=id then some (b,0)else g.m i,g.cV⟩
theorem ve{g w h}(H:HR g w h){w':World}{cs:Rw}{C:Array Value}(el:FT C){vs:List Value}(h1:w'.os=w.os)(h2:w'.tape=w.tape)(h3:w'.output=w.output)(h4:w'.heap.size=w.heap.size+1)
 (hp: ∀ b,w'.heap[b]? =if b=w.heap.size then some (.cells C el.el el.fz)else w.heap[b]?)(hv:bA g w cs.toL vs)(hc: ∀ (j:Nat) (v:Value),vs[j]? =some v->C[j]? =some v):
 Ext g w h (g.add h.next w.heap.size) w' (cy h cs)/\HR (g.add h.next w.heap.size) w' (cy h cs):=by
 have hg: ∀ id,(cy h cs).aQ.get id=if id=h.next then some cs else h.aQ.get id:=fun id=>Tr.fA _ _ _ _
 have lj: ∀ id x,g.m id=some x->id≠h.next:=by
  intro id x e he
  rw[H.fresh id (by omega)]at e;cases e
 have E:Ext g w h (g.add h.next w.heap.size) w' (cy h cs):=by
  refine⟨h1,h2,h3,by omega,Nat.le_succ _,?_,?_,?_,fun _ i=>i,fun _ i=>.inl i,?_⟩
  ·intro id x e
   simp only[G.add,if_neg (lj id x e)]
   exact e
  ·intro b hb _
   rw[hp,if_neg (by omega)]
  ·intro b
   unfold cO
   rw[hp]
   by_cases hb:b=w.heap.size
   ·subst hb;simp
   ·rw[if_neg hb];exact Nat.le_refl _
  ·rintro b ⟨id,cs',s,e,m⟩
   rw[hg]at e
   by_cases eO:id=h.next
   ·subst eO
    simp only[G.add,if_true]at m
    obtain⟨rfl,_⟩:=Prod.mk.inj (Option.some.inj m)
    exact .inr (Nat.le_refl _)
   ·rw[if_neg eO]at e
    simp only[G.add,if_neg eO]at m
    exact .inl ⟨id,cs',s,e,m⟩
 refine⟨E,?_,?_,?_,?_,gT.ext H E⟩
 ·intro id eO
  have ads:h.next+1<=id:=eO
  simp only[G.add]
  rw[if_neg (by omega)]
  exact H.fresh id (by omega)
 ·intro id cs' e
  rw[hg]at e
  by_cases eO:id=h.next
  ·subst eO
   rw[if_pos rfl]at e
   obtain rfl:=Option.some.inj e
   refine⟨w.heap.size,0,C,el,vs,by simp[G.add],by rw[hp,if_pos rfl],?_,bA.mono H E _ _ hv,by simpa using hc⟩
   intro i
   exact absurd (H.cV _ i) (by omega)
  ·rw[if_neg eO]at e
   obtain⟨b,s,C',el',Q0,hm,hw,hi,kb,YG⟩:=H.aQ id cs' e
   have hb:b<w.heap.size:=(Array.getElem?_eq_some_iff.1 hw).1
   exact⟨b,s,C',el',Q0,by simp only[G.add,if_neg eO];exact hm,by rw[hp,if_neg (by omega)];exact hw,hi,bA.mono H E _ _ kb,YG⟩
 ·intro id o6 b s s' ze qe e1 e2 m1 m2
  rw[hg]at e1 e2
  have j2: ∀ id x b s,id≠h.next->h.aQ.get id=some x->g.m id=some (b,s)->b≠w.heap.size:=by
   intro id x b s _ e m hb
   obtain⟨_,_,_,hw,_⟩:=H.row e m
   have:=(Array.getElem?_eq_some_iff.1 hw).1
   omega
  by_cases k1:id=h.next<;>by_cases k2:o6=h.next
  ·exact k1.trans k2.symm
  ·subst k1
   rw[if_neg k2]at e2
   simp only[G.add,if_true]at m1
   simp only[G.add,if_neg k2]at m2
   obtain⟨rfl,_⟩:=Prod.mk.inj (Option.some.inj m1)
   exact absurd rfl (j2 o6 _ _ _ k2 e2 m2)
  ·subst k2
   rw[if_neg k1]at e1
   simp only[G.add,if_true]at m2
   simp only[G.add,if_neg k1]at m1
   obtain⟨rfl,_⟩:=Prod.mk.inj (Option.some.inj m2)
   exact absurd rfl (j2 id _ _ _ k1 e1 m1)
  ·rw[if_neg k1]at e1
   rw[if_neg k2]at e2
   simp only[G.add,if_neg k1]at m1
   simp only[G.add,if_neg k2]at m2
   exact H.inj id o6 b s s' ze qe e1 e2 m1 m2
 ·intro b i
  have:=H.cV b i
  omega
theorem pD{g w h}(H:HR g w h){cs:Rw}{C:Array Value}(el:TypeId){vs:List Value}(hv:bA g w cs.toL vs)(hc: ∀ (j:Nat) (v:Value),vs[j]? =some v->C[j]? =some v):
 Ext g w h (g.add h.next w.heap.size) (w.alloc (.cells C el)) (cy h cs)/\HR (g.add h.next w.heap.size) (w.alloc (.cells C el)) (cy h cs):=
 ve H (FT.nw C el) rfl rfl rfl (by show(w.heap.push _).size=_;rw[Array.size_push]) (fun b=>by
  show(w.heap.push _)[b]? =_
  rw[Array.getElem?_push];rfl) hv hc
theorem tt{g:G}{w h C el n c sz}(hn:n<=c)(hc:c*sz<=C.size):
 VR (g.add h (World.heap w).size) (w.alloc (.cells C el)) (.dj h 0 n sz) (.slice (some ⟨w.heap.size,0,none⟩) n c):=by
 simp only[VR]
 refine .inr ⟨w.heap.size,0,c,by simp[G.add],rfl,hn,?_⟩
 have:(w.alloc (.cells C el)).heap[w.heap.size]? =some (.cells C el):=by
  show(w.heap.push _)[w.heap.size]? =_
  simp
 rw[fm this]
 omega
end Go.Ab

noncomputable section
namespace Go.Ab
variable [Io]
omit [Io] in
theorem fD(k:IntKind)(n:Int):cF k n=k.wrap n:=by
 cases k<;>simp only[cF,IntKind.wrap,IntKind.bits,IntKind.signed]
 all_goals simp
 all_goals first
  |rfl
  |(show(n+_) % _ - _=_;split<;>omega)
omit [Io] in
theorem bH{k k':IntKind}:eI k k'=true↔k=k':=by cases k<;>cases k'<;>simp[eI]
omit [Io] in
theorem dE(a b:Int):ez a b=decide (a<b):=by
 cases a<;>cases b<;>simp only[ez]
 ·rename_i a b
  by_cases h:a<b
  ·rw[show Nat.blt a b=true from by simpa[Nat.blt_eq]using h];simp;omega
  ·rw[show Nat.blt a b=false from by rw[Bool.eq_false_iff];simpa[Nat.blt_eq]using h];simp;omega
 ·simp;omega
 ·simp;omega
 ·rename_i a b
  by_cases h:b<a
  ·rw[show Nat.blt b a=true from by simpa[Nat.blt_eq]using h];simp;omega
  ·rw[show Nat.blt b a=false from by rw[Bool.eq_false_iff];simpa[Nat.blt_eq]using h];simp;omega
omit [Io] in
theorem nW(a b:Int):eqI a b=(a == b):=by
 have key:eqI a b=true↔a=b:=by
  cases a<;>cases b<;>simp[eqI]
  omega
 by_cases h:a=b
 ·rw[key.2 h];simp[h]
 ·rw[show eqI a b=false from by rw[Bool.eq_false_iff];exact fun e=>h (key.1 e)];simp[h]
omit [Io] in
theorem vf(k:IntKind):gg k=k.bits:=by cases k<;>rfl
omit [Io] in
theorem mH(a b:Nat):lK a b=min a b:=by
 unfold lK
 by_cases h:a<=b
 ·rw[show Nat.ble a b=true from Nat.ble_eq.mpr h];simp[Nat.min_eq_left h]
 ·rw[show Nat.ble a b=false from by rw[Bool.eq_false_iff];exact fun e=>h (Nat.ble_eq.mp e)];simp;omega
theorem zf{v:Value}{a:AV}(h:leaf v=some a)(g:G)(w:World):VR g w a v:=by
 unfold leaf at h
 split at h<;>first
  |(cases h;done)
  |(cases h;simp[VR,Value.oneCell'])
theorem lr: ∀ (l:List Value) {r:List AV},leaves l=some r-> ∀ (g:G) (w:World),bA g w r l
 | [],r,h,g,w=>by cases h;simp[bA]
 |v::l,r,h,g,w=>by
  change (match leaf v with|some a=>(match leaves l with|some r=>some (a::r)|none=>none)|none=>none)=some r at h
  cases h1:leaf v with
  |none=>rw[h1]at h;cases h
  |some a=>
   cases h2:leaves l with
   |none=>rw[h1,h2]at h;cases h
   |some r'=>
    rw[h1,h2]at h
    cases h
    simp only[bA]
    exact⟨v,l,rfl,zf h1 g w,lr l h2 g w⟩
theorem CK{v:Value}{a:AV}(h:G5 v=some a)(g:G)(w:World):VR g w a v:=by
 unfold G5 at h
 split at h
 ·split at h
  ·rename_i cs _ l e
   cases h
   simp only[VR]
   exact⟨cs,rfl,lr _ e g w⟩
  ·cases h
 ·split at h
  ·rename_i cs _ l e
   cases h
   simp only[VR]
   exact⟨cs,rfl,lr _ e g w⟩
  ·cases h
 ·exact zf h g w
omit [Io] in
theorem xG{s:Sem Value}{v:Value}(h:fx s=some v)(P:Program)(w:World):s.run P w=.ok v w:=by
 cases s<;>simp[fx]at h
 subst h;rfl
theorem mI{s:Sem Value}{a:AV}(h:oL (fx s)=some a)(P:Program)(g:G)(w:World): ∃ v,s.run P w=.ok v w/\VR g w a v:=by
 cases e:fx s with
 |none=>rw[e]at h;cases h
 |some v=>rw[e]at h;exact⟨v,xG e P w,CK h g w⟩
def Lh(x:Operand)(o:dk):Prop:= ∀ (g:G) (w:World) (nt:Nat) (t:Tm) (a:Act) (v:AV),TR g w nt t a.tmps->o t=some v->VR g w v (a.eval x)
def aU:Operand->dk
 | .tmp i=>ek (Nat.blt i 512) (oT i) oX
 | .const v=>match G5 v with
  |some a=>oC a
  |none=>oX
 | .global _=>oX
 | .func f=>oC (.fn f [])
theorem bh(x:Operand):Lh x (aU x):=by
 intro g w nt t a v T e
 cases x with
 |tmp i=>
  change ek (Nat.blt i 512) (oT i) oX t=some v at e
  cases h:Nat.blt i 512 with
  |false=>rw[h]at e;cases e
  |true=>
   rw[h]at e
   exact(T.2.2 i v (by simpa[Nat.blt_eq]using h) e).2
 |const c=>
  change (match G5 c with|some a=>oC a|none=>oX) t=some v at e
  cases h:G5 c with
  |none=>simp only[h]at e;cases e
  |some x=>
   simp only[h]at e
   cases e
   exact CK h g w
 |global i=>cases e
 |func f=>
  cases e
  simp only[VR]
  exact⟨#[],rfl,by simp[bA]⟩
theorem pE{g w nt t}{a:Act}(T:TR g w nt t a.tmps): ∀ (l:List Operand) {vs:List AV},nP (l.map aU) t=some vs->bA g w vs (l.map a.eval)
 | [],vs,e=>by cases e;simp[bA]
 |x::l,vs,e=>by
  change (Option.rec none (fun v=>Option.rec none (fun vs=>some (v::vs)) (nP (l.map aU) t)) (aU x t):Option (List AV))=some vs at e
  cases h1:aU x t with
  |none=>rw[h1]at e;cases e
  |some v=>
   cases h2:nP (l.map aU) t with
   |none=>rw[h1,h2]at e;cases e
   |some r=>
    rw[h1,h2]at e
    cases e
    simp only[List.map_cons,bA]
    exact⟨_,_,rfl,bh x _ _ _ _ _ _ T h1,pE T l h2⟩
def bG(P:Program)(o:Oper)(f:dh):Prop:=
 ∀ (g:G) (w:World) (nt:Nat) (t:Tm) (h:Hp) (a:Act) (v:AV) (h':Hp),HC g w h->TR g w nt t a.tmps->f t h=.ok v h'->
  h'=h/\ ∃ x,(execOp a.eval o).run P w=.ok (.value x) w/\VR g w v x
section
variable {P:Program}{o:Oper}
theorem bB:bG P o bE:=by intro g w nt t h a v h' _ _ e;cases e
omit [Io] in
theorem l4{x:dk}{t:Tm}{h h':Hp}{v:AV}(e:aa x t h=.ok v h'):x t=some v/\h'=h:=by
 unfold aa at e
 cases hx:x t with
 |none=>rw[hx]at e;cases e
 |some u=>rw[hx]at e;cases e;exact⟨rfl,rfl⟩
theorem r6{x:Operand}(ho:o.op=.move x∨o.op=.assign x):bG P o (aa (aU x)):=by
 intro g w nt t h a v h' H T e
 obtain⟨e2,rfl⟩:=l4 e
 exact⟨rfl,a.eval x,by rcases ho with ho|ho<;>simp[execOp,ho],bh x _ _ _ _ _ _ T e2⟩
theorem Bk{c x y:Operand}(ho:o.op=.pick c x y):bG P o (aR (aU c) (aU x) (aU y)):=by
 intro g w nt t h a v h' H T e
 unfold aR at e
 split at e
 ·rename_i b hc
  have hb:=bh c _ _ _ _ _ _ T hc
  simp only[VR]at hb
  cases b
  ·obtain⟨e2,rfl⟩:=l4 e
   exact⟨rfl,a.eval y,by simp[execOp,ho,asBool,hb],bh y _ _ _ _ _ _ T e2⟩
  ·obtain⟨e2,rfl⟩:=l4 e
   exact⟨rfl,a.eval x,by simp[execOp,ho,asBool,hb],bh x _ _ _ _ _ _ T e2⟩
 ·cases e
theorem pure_nil{x:Operand}(ho:o.op=.nilCheck x):bG P o (aB (aU x)):=by
 intro g w nt t h a v h' H T e
 unfold aB at e
 split at e
 ·rename_i i q hx
  have hv:=bh x _ _ _ _ _ _ T hx
  cases e
  have kb:=hv
  simp only[VR]at hv
  obtain⟨b,s,hm,hv⟩:=hv
  exact⟨rfl,a.eval x,by simp[execOp,ho,hv],kb⟩
 ·rename_i cs hx
  have hv:=bh x _ _ _ _ _ _ T hx
  cases e
  have kb:=hv
  simp only[VR]at hv
  obtain⟨b,q,vs,hv,_⟩:=hv
  exact⟨rfl,a.eval x,by simp[execOp,ho,hv],kb⟩
 ·rename_i f c hx
  have hv:=bh x _ _ _ _ _ _ T hx
  cases e
  have kb:=hv
  simp only[VR]at hv
  obtain⟨vs,hv,_⟩:=hv
  exact⟨rfl,a.eval x,by simp[execOp,ho,hv],kb⟩
 ·cases e
def bZ(P:Program)(op:BinOp)(xT:TypeId)(f:AV->AV->Option AV):Prop:=
 ∀ (g:G) (w:World) (a b r:AV) (u v:Value),VR g w a u->VR g w b v->f a b=some r->
  ∃ z,(binOp op xT u v).run P w=.ok z w/\VR g w r z/\ ∀ x y,(eqGuard op xT x y u v).run P w=.ok () w
theorem CL{op:BinOp}{xT yT:TypeId}{x y:Operand}{f:AV->AV->Option AV}(ho:o.op=.binOp op xT x y yT)(hf:bZ P op xT f):
 bG P o (af f (aU x) (aU y)):=by
 intro g w nt t h a v h' H T e
 unfold af at e
 cases hx:aU x t with
 |none=>rw[hx]at e;cases e
 |some ax=>
  cases hy:aU y t with
  |none=>rw[hx,hy]at e;cases e
  |some ay=>
   rw[hx,hy]at e
   cases hr:f ax ay with
   |none=>simp only[hr]at e;cases e
   |some r=>
    simp only[hr]at e
    cases e
    obtain⟨z,hz,hv,hg⟩:=hf g w ax ay v _ _ (bh x _ _ _ _ _ _ T hx) (bh y _ _ _ _ _ _ T hy) hr
    exact⟨rfl,z,by simp[execOp,ho,hg,hz],hv⟩
omit [Io] in
theorem kj{op:BinOp}{xT:TypeId}{k k':IntKind}{m n:Int}{w:World}(x y:Operand):(eqGuard op xT x y (.int k m) (.int k' n)).run P w=.ok () w:=by
 unfold eqGuard;split<;>simp
omit [Io] in
theorem mJ{op:BinOp}{xT:TypeId}{m n:Bool}{w:World}(x y:Operand):(eqGuard op xT x y (.bool m) (.bool n)).run P w=.ok () w:=by
 unfold eqGuard;split<;>simp
omit [Io] in
theorem ko{op:BinOp}{xT:TypeId}{m n:ByteArray}{w:World}(x y:Operand):(eqGuard op xT x y (.string m) (.string n)).run P w=.ok () w:=by
 unfold eqGuard;split<;>simp
omit [Io] in
theorem cw{op:BinOp}{xT:TypeId}{m n:Option Addr}{w:World}(x y:Operand):(eqGuard op xT x y (.pointer m) (.pointer n)).run P w=.ok () w:=by
 unfold eqGuard;split<;>simp
omit [Io] in
theorem lT{op:BinOp}{xT:TypeId}{m n:Option Addr}{a b c d:Nat}{w:World}(x y:Operand):(eqGuard op xT x y (.slice m a b) (.slice n c d)).run P w=.ok () w:=by
 unfold eqGuard;split<;>simp
omit [Io] in
theorem nX{f:IntKind->Int->Int->Option AV}{a b r:AV}(h:iM f a b=some r): ∃ k m n,a=.int k m/\b=.int k n/\f k m n=some r:=by
 unfold iM at h
 split at h
 ·rename_i k m k' n
  cases e:eI k k' with
  |false=>rw[e]at h;cases h
  |true=>
   rw[e]at h
   obtain rfl:=bH.1 e
   exact⟨k,m,n,rfl,rfl,h⟩
 ·cases h
theorem eL{op:BinOp}{xT:TypeId}{f:IntKind->Int->Int->Option AV}
 (hf: ∀ (g:G) (w:World) k m n r,f k m n=some r-> ∃ z,(binOp op xT (.int k m) (.int k n)).run P w=.ok z w/\VR g w r z):bZ P op xT (iM f):=by
 intro g w a b r u v ha hb h
 obtain⟨k,m,n,rfl,rfl,h2⟩:=nX h
 simp only[VR]at ha hb
 subst ha;subst hb
 obtain⟨z,hz,hv⟩:=hf g w k m n r h2
 exact⟨z,hz,hv,fun x y=>kj x y⟩
theorem Hm(xT:TypeId):bZ P .add xT A':=eL fun g w k m n r h=>by
 cases h;exact⟨.int k (k.wrap (m+n)),by simp[binOp,Op.intArith],by simp only[VR,fD];rfl⟩
theorem Hn(xT:TypeId):bZ P .sub xT Ba:=eL fun g w k m n r h=>by
 cases h;exact⟨.int k (k.wrap (m - n)),by simp[binOp,Op.intArith],by simp only[VR,fD];rfl⟩
theorem Ho(xT:TypeId):bZ P .mul xT Bb:=eL fun g w k m n r h=>by
 cases h;exact⟨.int k (k.wrap (m*n)),by simp[binOp,Op.intArith],by simp only[VR,fD];rfl⟩
theorem Hr(xT:TypeId):bZ P .quo xT s9:=eL fun g w k m n r h=>by
 rw[nW]at h
 by_cases h0:n=0
 ·subst h0;cases h
 ·rw[show(n == 0)=false from by simpa using h0]at h
  cases h
  exact⟨.int k (k.wrap (m.tdiv n)),by simp[binOp,Op.intDiv,h0],by simp only[VR,fD]⟩
theorem Hs(xT:TypeId):bZ P .rem xT ta:=eL fun g w k m n r h=>by
 rw[nW]at h
 by_cases h0:n=0
 ·subst h0;cases h
 ·rw[show(n == 0)=false from by simpa using h0]at h
  cases h
  exact⟨.int k (m.tmod n),by simp[binOp,Op.intDiv,h0],by simp only[VR]⟩
omit [Io] in
theorem Li(m n:Int):(!decide (m<n))=decide (n<=m):=by by_cases h:m<n<;>simp[h]<;>omega
theorem Ht(xT:TypeId):bZ P .lss xT G6:=eL fun g w k m n r h=>by
 cases h;exact⟨.bool (m<n),by simp[binOp,Op.intCmp],by simp only[VR,dE]⟩
theorem Hu(xT:TypeId):bZ P .gtr xT G8:=eL fun g w k m n r h=>by
 cases h;exact⟨.bool (m>n),by simp[binOp,Op.intCmp],by simp only[VR,dE]⟩
theorem Hv(xT:TypeId):bZ P .leq xT G7:=eL fun g w k m n r h=>by
 cases h;exact⟨.bool (m<=n),by simp[binOp,Op.intCmp],by simp only[VR,dE,Li]⟩
theorem Hw(xT:TypeId):bZ P .geq xT G9:=eL fun g w k m n r h=>by
 cases h;exact⟨.bool (m≥n),by simp[binOp,Op.intCmp],by simp only[VR,dE,Li]⟩
theorem Hx(xT:TypeId):bZ P .eql xT (xD false):=eL fun g w k m n r h=>by
 cases h;exact⟨.bool (m == n),by simp[binOp,Op.intCmp],by simp only[VR,nW];rfl⟩
theorem Hy(xT:TypeId):bZ P .neq xT (xD true):=eL fun g w k m n r h=>by
 cases h;exact⟨.bool (m != n),by simp[binOp,Op.intCmp],by simp only[VR,nW];rfl⟩
end
omit [Io] in
theorem kp{a:AV}(h:isNil a=true):a=.sc (.slice none 0 0):=by
 unfold isNil at h
 split at h
 ·rw[Bool.and_eq_true]at h
  rw[Nat.eq_of_beq_eq_true h.1,Nat.eq_of_beq_eq_true h.2]
 ·cases h
theorem qf{a:AV}(h:lX a=true){g:G}{w:World}{v:Value}(hv:VR g w a v): ∃ b,v=.slice b 0 0:=by
 unfold lX at h
 split at h
 ·simp only[VR]at hv
  obtain⟨b,rfl⟩:=hv
  exact⟨_,rfl⟩
 ·rw[kp h]at hv
  simp only[VR]at hv
  exact⟨none,hv.1⟩
theorem xH{a:AV}{g:G}{w:World}{v:Value}(hv:VR g w a v):VR g w (nO a) v:=by
 unfold nO
 cases h:lX a with
 |true=>
  simp only[cond_true,VR]
  exact qf h hv
 |false=>exact hv
omit [Io] in
theorem Hz{x:dk}{t:Tm}{v:AV}(e:wO x t=some v): ∃ a,x t=some a/\v=nO a:=by
 unfold wO at e
 cases h:x t with
 |none=>rw[h]at e;cases e
 |some a=>rw[h]at e;cases e;exact⟨a,rfl,rfl⟩
theorem eM(x:Operand):Lh x (wO (aU x)):=by
 intro g w nt t a v T e
 obtain⟨b,hb,rfl⟩:=Hz e
 exact xH (bh x _ _ _ _ _ _ T hb)
theorem Mv{a:AV}(h:GP a=true){g:G}{w:World}{v:Value}(hv:VR g w a v): ∃ b c,v=.slice b 0 c:=by
 unfold GP at h
 split at h
 ·simp only[VR]at hv
  obtain⟨b,rfl⟩:=hv
  exact⟨_,_,rfl⟩
 ·simp only[VR]at hv
  obtain⟨b,rfl⟩:=hv
  exact⟨_,_,rfl⟩
 ·obtain rfl:=Nat.eq_of_beq_eq_true h
  simp only[VR]at hv
  rcases hv with⟨_,b,rfl⟩|⟨b,s,cap,_,rfl,_⟩
  ·exact⟨_,_,rfl⟩
  ·exact⟨_,_,rfl⟩
 ·obtain rfl:=Nat.eq_of_beq_eq_true h
  simp only[VR]at hv
  obtain⟨b,cap,rfl,_⟩:=hv
  exact⟨_,_,rfl⟩
 ·rw[kp h]at hv
  simp only[VR]at hv
  exact⟨none,0,hv.1⟩
theorem zg{a:AV}{c:Bool}(h:s8 a=some c){g:G}{w:World}{v:Value}(hv:VR g w a v): ∃ b n m,v=.slice b n m/\c=b.isNone:=by
 unfold s8 at h
 cases hn:isNil a with
 |true=>
  rw[hn]at h
  cases h
  rw[kp hn]at hv
  simp only[VR]at hv
  exact⟨none,0,0,hv.1,rfl⟩
 |false=>
  rw[hn]at h
  simp only[cond_false]at h
  split at h
  ·cases h
   simp only[VR]at hv
   obtain⟨b,rfl⟩:=hv
   exact⟨_,_,_,rfl,rfl⟩
  ·cases h
   simp only[VR]at hv
   rcases hv with⟨_,b,rfl⟩|⟨b,s,cap,_,rfl,_⟩
   ·exact⟨_,_,_,rfl,rfl⟩
   ·exact⟨_,_,_,rfl,rfl⟩
  ·rename_i n cs
   cases h0:Nat.beq n 0 with
   |true=>rw[h0]at h;cases h
   |false=>
    rw[h0]at h
    cases h
    simp only[VR]at hv
    obtain⟨b,cap,rfl,_,⟨rfl,_⟩|⟨_,_,_,rfl,_⟩⟩:=hv
    ·cases h0
    ·exact⟨_,_,_,rfl,rfl⟩
  ·cases h
end Go.Ab

noncomputable section
namespace Go.Ab
variable [Io]
section
variable {P:Program}{o:Oper}
omit [Io] in
theorem ij{k:IntKind}{a:Nat}(h:a<kg k):(BitVec.ofInt k.bits (.ofNat a)).toNat=a:=by
 rw[show(Int.ofNat a)=((a:Nat):Int)from rfl,BitVec.ofInt_natCast,BitVec.toNat_ofNat]
 apply Nat.mod_eq_of_lt
 cases k<;>simp only[kg,IntKind.bits]at h ⊢ <;>omega
omit [Io] in
theorem CM{k:IntKind}{a:Nat}(h:a<kg k):(a:Int)<2 ^ k.bits/\(k.signed=true->(a:Int)<2 ^ (k.bits - 1)):=by
 cases k<;>simp only[kg,IntKind.bits,IntKind.signed]at h ⊢ <;>constructor<;>first|omega|(intro _;omega)|(intro h;cases h)
omit [Io] in
theorem qg{k:IntKind}{a:Nat}(h:a<kg k):k.wrap ((a:Nat):Int)=(a:Int):=by
 obtain⟨h1,h2⟩:=CM h
 have e:(a:Int) % (2 ^ k.bits:Int)=a:=Int.emod_eq_of_lt (by omega) h1
 unfold IntKind.wrap
 simp only[e]
 rw[if_neg]
 intro c
 simp only[Bool.and_eq_true,decide_eq_true_eq]at c
 have:=h2 c.1
 omega
omit [Io] in
theorem HA{k:IntKind}{a b:Nat}(h:a<kg k):a &&& b<kg k:=Nat.lt_of_le_of_lt Nat.and_le_left h
omit [Io] in
theorem zh(k:IntKind): ∃ n,kg k=2 ^ n:=by
 cases k with
 |i8=>exact⟨7,rfl⟩
 |i16=>exact⟨15,rfl⟩
 |i32=>exact⟨31,rfl⟩
 |i64=>exact⟨63,rfl⟩
 |u8=>exact⟨8,rfl⟩
 |u16=>exact⟨16,rfl⟩
 |u32=>exact⟨32,rfl⟩
 |u64=>exact⟨64,rfl⟩
omit [Io] in
theorem Mw{k:IntKind}{a b:Nat}(h:a<kg k)(h2:b<kg k):a ||| b<kg k:=by
 obtain⟨n,e⟩:=zh k
 rw[e]at h h2 ⊢
 exact Nat.or_lt_two_pow h h2
omit [Io] in
theorem HB{k:IntKind}{a b:Nat}(h:a<kg k)(h2:b<kg k):a ^^^ b<kg k:=by
 obtain⟨n,e⟩:=zh k
 rw[e]at h h2 ⊢
 exact Nat.xor_lt_two_pow h h2
theorem tv{op:BinOp}{f:Nat->Nat->Nat}{xT:TypeId}(Mx: ∀ k m n,binOp op xT (.int k m) (.int k n)=Op.intBits op k m n)
 (hf: ∀ (w:World) k a b,a<kg k->b<kg k->(Op.intBits op k (.ofNat a) (.ofNat b)).run P w=.ok (.int k (.ofNat (f a b))) w):bZ P op xT (jZ op f):=by
 refine eL fun g w k m n r h=>?_
 rw[Mx]
 split at h
 ·rename_i a b
  cases e:(Nat.blt a (kg k)&&Nat.blt b (kg k))with
  |true=>
   rw[e]at h
   cases h
   simp[Nat.blt_eq]at e
   exact⟨_,hf w k a b e.1 e.2,by simp only[VR]⟩
  |false=>
   rw[e]at h
   obtain⟨z,hz,hv⟩:=mI h P g w
   exact⟨z,hz,hv⟩
 ·obtain⟨z,hz,hv⟩:=mI h P g w
  exact⟨z,hz,hv⟩
theorem HD(xT:TypeId):bZ P .and xT Bc:=tv (fun k m n=>by simp[binOp]) (fun w k a b ha hb=>by
 have e:k.wrap (((a &&& b:Nat):Int))=((a &&& b:Nat):Int):=qg (HA ha)
 simp only[Op.intBits,Sem.run_pure,BitVec.toNat_and,ij ha,ij hb,e]
 rfl)
theorem My(xT:TypeId):bZ P .or xT Qi:=tv (fun k m n=>by simp[binOp]) (fun w k a b ha hb=>by
 have e:k.wrap (((a ||| b:Nat):Int))=((a ||| b:Nat):Int):=qg (Mw ha hb)
 simp only[Op.intBits,Sem.run_pure,BitVec.toNat_or,ij ha,ij hb,e]
 rfl)
theorem HE(xT:TypeId):bZ P .xor xT Bd:=tv (fun k m n=>by simp[binOp]) (fun w k a b ha hb=>by
 have e:k.wrap (((a ^^^ b:Nat):Int))=((a ^^^ b:Nat):Int):=qg (HB ha hb)
 simp only[Op.intBits,Sem.run_pure,BitVec.toNat_xor,ij ha,ij hb,e]
 rfl)
theorem xI(xT:TypeId):bZ P .andNot xT jF:=eL fun g w k m n r h=>by
 rw[show binOp .andNot xT (.int k m) (.int k n)=Op.intBits .andNot k m n from by simp[binOp]]
 exact mI h P g w
theorem HF(xT:TypeId):bZ P .shl xT tc:=by
 intro g w a b r u v ha hb h
 unfold tc at h
 split at h
 ·rename_i k m k' n
  simp only[VR]at ha hb
  subst ha;subst hb
  cases h
  refine⟨.int k (k.wrap (m*2 ^ min n k.bits)),by
   have: ¬ ((n:Nat):Int)<0:=by omega
   show(binOp .shl xT (.int k m) (.int k' ((n:Nat):Int))).run P w=_
   simp[binOp,Op.shift,this],?_,fun x y=>kj x y⟩
  simp only[VR,fD,mH,vf]
  rfl
 ·cases h
theorem HG(xT:TypeId):bZ P .shr xT tf:=by
 intro g w a b r u v ha hb h
 unfold tf at h
 split at h
 ·rename_i k m k' n
  simp only[VR]at ha hb
  subst ha;subst hb
  cases h
  refine⟨.int k (m.fdiv (2 ^ min n k.bits)),by
   have: ¬ ((n:Nat):Int)<0:=by omega
   show(binOp .shr xT (.int k m) (.int k' ((n:Nat):Int))).run P w=_
   simp[binOp,Op.shift,this],?_,fun x y=>kj x y⟩
  simp only[VR,mH,vf]
  rfl
 ·cases h
omit [Io] in
theorem lx{xT:TypeId}{w:World}{x y:Value}{b:Bool}(h: ∀ d,(Op.equalIn (d+1) xT x y).run P w=.ok b w):(Op.equal xT x y).run P w=.ok b w:=h 9999
omit [Io] in
theorem qh{xT:TypeId}{w:World}(a b:Bool)(h:P.underlying xT=some .bool):(Op.equal xT (.bool a) (.bool b)).run P w=.ok (a == b) w:=
 lx fun d=>by simp[Op.equalIn,run_underlying h]
omit [Io] in
theorem CN{xT:TypeId}{w:World}(a b:Bool)(h:P.underlying xT=some .bool):(binOp .eql xT (.bool a) (.bool b)).run P w=.ok (.bool (a == b)) w:=by
 show(do pure (.bool (<-Op.equal xT (.bool a) (.bool b))):Sem Value).run P w=_
 simp[qh a b h]
omit [Io] in
theorem CO{xT:TypeId}{w:World}(a b:Bool)(h:P.underlying xT=some .bool):(binOp .neq xT (.bool a) (.bool b)).run P w=.ok (.bool (!(a == b))) w:=by
 show(do pure (.bool (!(<-Op.equal xT (.bool a) (.bool b)))):Sem Value).run P w=_
 simp only[Sem.run_bind,qh a b h,Result.andThen_ok,Sem.run_pure]
theorem HH{xT:TypeId}(hT:P.underlying xT=some .bool):bZ P .eql xT (th false):=by
 intro g w a b r u v ha hb h
 unfold th at h
 split at h
 ·rename_i m n
  simp only[VR]at ha hb
  subst ha;subst hb
  cases h
  exact⟨_,CN m n hT,by simp only[VR];cases m<;>cases n<;>rfl,fun x y=>mJ x y⟩
 ·cases h
theorem HI{xT:TypeId}(hT:P.underlying xT=some .bool):bZ P .neq xT (th true):=by
 intro g w a b r u v ha hb h
 unfold th at h
 split at h
 ·rename_i m n
  simp only[VR]at ha hb
  subst ha;subst hb
  cases h
  exact⟨_,CO m n hT,by simp only[VR];cases m<;>cases n<;>rfl,fun x y=>mJ x y⟩
 ·cases h
theorem HJ(xT:TypeId):bZ P .eql xT (p6 false):=by
 intro g w a b r u v ha hb h
 unfold p6 at h
 split at h
 ·rename_i m n
  simp only[VR]at ha hb
  obtain⟨rfl,_⟩:=ha;obtain⟨rfl,_⟩:=hb
  cases h
  exact⟨.bool (m.toList == n.toList),by simp[binOp,Op.stringOp],by simp only[VR];rfl,fun x y=>ko x y⟩
 ·cases h
theorem HK(xT:TypeId):bZ P .neq xT (p6 true):=by
 intro g w a b r u v ha hb h
 unfold p6 at h
 split at h
 ·rename_i m n
  simp only[VR]at ha hb
  obtain⟨rfl,_⟩:=ha;obtain⟨rfl,_⟩:=hb
  cases h
  exact⟨.bool (!(m.toList == n.toList)),by simp[binOp,Op.stringOp],by simp only[VR];rfl,fun x y=>ko x y⟩
 ·cases h
omit [Io] in
theorem r7{xT e:TypeId}{w:World}(p:Option Addr)(h:P.underlying xT=some (.pointer e)):(Op.equal xT (.pointer p) (.pointer none)).run P w=.ok p.isNone w:=
 lx fun d=>by cases p<;>simp[Op.equalIn,run_underlying h]
omit [Io] in
theorem r8{xT e:TypeId}{w:World}(p:Option Addr)(h:P.underlying xT=some (.pointer e)):(Op.equal xT (.pointer none) (.pointer p)).run P w=.ok p.isNone w:=
 lx fun d=>by cases p<;>simp[Op.equalIn,run_underlying h]
omit [Io] in
theorem tw{xT e:TypeId}{w:World}(p:Option Addr)(h:P.underlying xT=some (.pointer e)):(binOp .eql xT (.pointer p) (.pointer none)).run P w=.ok (.bool p.isNone) w:=by
 show(do pure (.bool (<-Op.equal xT (.pointer p) (.pointer none))):Sem Value).run P w=_
 simp only[Sem.run_bind,r7 p h,Result.andThen_ok,Sem.run_pure]
omit [Io] in
theorem tx{xT e:TypeId}{w:World}(p:Option Addr)(h:P.underlying xT=some (.pointer e)):(binOp .neq xT (.pointer p) (.pointer none)).run P w=.ok (.bool (!p.isNone)) w:=by
 show(do pure (.bool (!(<-Op.equal xT (.pointer p) (.pointer none)))):Sem Value).run P w=_
 simp only[Sem.run_bind,r7 p h,Result.andThen_ok,Sem.run_pure]
omit [Io] in
theorem tA{xT e:TypeId}{w:World}(p:Option Addr)(h:P.underlying xT=some (.pointer e)):(binOp .eql xT (.pointer none) (.pointer p)).run P w=.ok (.bool p.isNone) w:=by
 cases p with
 |none=>exact tw none h
 |some a=>
  show(do pure (.bool (<-Op.equal xT (.pointer none) (.pointer (some a)))):Sem Value).run P w=_
  simp only[Sem.run_bind,r8 (some a) h,Result.andThen_ok,Sem.run_pure]
omit [Io] in
theorem tB{xT e:TypeId}{w:World}(p:Option Addr)(h:P.underlying xT=some (.pointer e)):(binOp .neq xT (.pointer none) (.pointer p)).run P w=.ok (.bool (!p.isNone)) w:=by
 cases p with
 |none=>exact tx none h
 |some a=>
  show(do pure (.bool (!(<-Op.equal xT (.pointer none) (.pointer (some a))))):Sem Value).run P w=_
  simp only[Sem.run_bind,r8 (some a) h,Result.andThen_ok,Sem.run_pure]
theorem HL{xT e:TypeId}(hT:P.underlying xT=some (.pointer e)):bZ P .eql xT (gQ false):=by
 intro g w a b r u v ha hb h
 unfold gQ at h
 split at h<;>try (cases h;done)
 all_goals
  simp only[VR]at ha hb
  cases h
 ·obtain⟨_,_,_,rfl⟩:=ha;obtain⟨rfl,_⟩:=hb
  exact⟨_,tw _ hT,by simp[VR],fun x y=>cw x y⟩
 ·obtain⟨_,_,_,rfl,_⟩:=ha;obtain⟨rfl,_⟩:=hb
  exact⟨_,tw _ hT,by simp[VR],fun x y=>cw x y⟩
 ·obtain⟨rfl,_⟩:=ha;obtain⟨_,_,_,rfl⟩:=hb
  exact⟨_,tA _ hT,by simp[VR],fun x y=>cw x y⟩
 ·obtain⟨rfl,_⟩:=ha;obtain⟨_,_,_,rfl,_⟩:=hb
  exact⟨_,tA _ hT,by simp[VR],fun x y=>cw x y⟩
 ·obtain⟨rfl,_⟩:=ha;obtain⟨rfl,_⟩:=hb
  exact⟨_,tA _ hT,by simp[VR],fun x y=>cw x y⟩
theorem HM{xT e:TypeId}(hT:P.underlying xT=some (.pointer e)):bZ P .neq xT (gQ true):=by
 intro g w a b r u v ha hb h
 unfold gQ at h
 split at h<;>try (cases h;done)
 all_goals
  simp only[VR]at ha hb
  cases h
 ·obtain⟨_,_,_,rfl⟩:=ha;obtain⟨rfl,_⟩:=hb
  exact⟨_,tx _ hT,by simp[VR],fun x y=>cw x y⟩
 ·obtain⟨_,_,_,rfl,_⟩:=ha;obtain⟨rfl,_⟩:=hb
  exact⟨_,tx _ hT,by simp[VR],fun x y=>cw x y⟩
 ·obtain⟨rfl,_⟩:=ha;obtain⟨_,_,_,rfl⟩:=hb
  exact⟨_,tB _ hT,by simp[VR],fun x y=>cw x y⟩
 ·obtain⟨rfl,_⟩:=ha;obtain⟨_,_,_,rfl,_⟩:=hb
  exact⟨_,tB _ hT,by simp[VR],fun x y=>cw x y⟩
 ·obtain⟨rfl,_⟩:=ha;obtain⟨rfl,_⟩:=hb
  exact⟨_,tB _ hT,by simp[VR],fun x y=>cw x y⟩
omit [Io] in
theorem qi{xT e:TypeId}{w:World}(p:Option Addr)(n m:Nat)(h:P.underlying xT=some (.slice e)):(Op.equal xT (.slice p n m) (.slice none 0 0)).run P w=.ok p.isNone w:=
 lx fun d=>by cases p<;>simp[Op.equalIn,run_underlying h]
theorem HN{xT e:TypeId}(hT:P.underlying xT=some (.slice e)):bZ P .eql xT (gR false):=by
 intro g w a b r u v ha hb h
 unfold gR at h
 cases hn:isNil b with
 |false=>rw[hn]at h;cases h
 |true=>
  rw[hn]at h
  simp only[cond_true]at h
  rw[kp hn]at hb
  simp only[VR]at hb
  obtain⟨rfl,_⟩:=hb
  cases hc:s8 a with
  |none=>rw[hc]at h;cases h
  |some c=>
   rw[hc]at h
   cases h
   obtain⟨p,n,m,rfl,rfl⟩:=zg hc ha
   refine⟨.bool p.isNone,?_,by simp[VR],fun x y=>lT x y⟩
   show(do pure (.bool (<-Op.equal xT (.slice p n m) (.slice none 0 0))):Sem Value).run P w=_
   simp only[Sem.run_bind,qi p n m hT,Result.andThen_ok,Sem.run_pure]
theorem HO{xT e:TypeId}(hT:P.underlying xT=some (.slice e)):bZ P .neq xT (gR true):=by
 intro g w a b r u v ha hb h
 unfold gR at h
 cases hn:isNil b with
 |false=>rw[hn]at h;cases h
 |true=>
  rw[hn]at h
  simp only[cond_true]at h
  rw[kp hn]at hb
  simp only[VR]at hb
  obtain⟨rfl,_⟩:=hb
  cases hc:s8 a with
  |none=>rw[hc]at h;cases h
  |some c=>
   rw[hc]at h
   cases h
   obtain⟨p,n,m,rfl,rfl⟩:=zg hc ha
   refine⟨.bool (!p.isNone),?_,by simp[VR],fun x y=>lT x y⟩
   show(do pure (.bool (!(<-Op.equal xT (.slice p n m) (.slice none 0 0)))):Sem Value).run P w=_
   simp only[Sem.run_bind,qi p n m hT,Result.andThen_ok,Sem.run_pure]
omit [Io] in
theorem mK{f:AV->Option AV}{x:dk}{t:Tm}{h h':Hp}{v:AV}(e:bL f x t h=.ok v h'): ∃ b,x t=some b/\f b=some v/\h'=h:=by
 unfold bL at e
 cases hx:x t with
 |none=>rw[hx]at e;cases e
 |some u=>
  rw[hx]at e
  cases hr:f u with
  |none=>simp only[hr]at e;cases e
  |some r=>simp only[hr]at e;cases e;exact⟨u,rfl,hr,rfl⟩
theorem CP{T:TypeId}{x:Operand}(ho:o.op=.unOp .not T x):bG P o (bL eA (aU x)):=by
 intro g w nt t h a v h' H Tr e
 obtain⟨b,hb,hf,rfl⟩:=mK e
 have hv:=bh x _ _ _ _ _ _ Tr hb
 unfold eA at hf
 split at hf
 ·rename_i b
  cases hf
  simp only[VR]at hv
  exact⟨rfl,.bool (!b),by simp[execOp,ho,hv,Op.unary],by simp only[VR]⟩
 ·cases hf
omit [Io] in
theorem fE(k:IntKind)(n:Int):nJ k<=cF k n/\cF k n<=mr k:=by
 cases k<;>simp only[nJ,mr,cF]<;>
  first
   |(show _<=n % _/\n % _<=_;omega)
   |(show _<=(n+_) % _ - _/\(n+_) % _ - _<=_;omega)
theorem qj{g:G}{w:World}{x:AV}{v:Value}{k:IntKind}{s:SV}{o l u:Int}(h:Mu x=some (k,s,o,l,u))(hx:VR g w x v):
 v=.int k (bu s+o)/\l<=bu s+o/\bu s+o<=u:=by
 unfold Mu at h
 split at h
 ·cases h
  simp only[VR]at hx
  subst hx
  simp only[bu,Int.add_zero]
  exact⟨trivial,Int.le_refl _,Int.le_refl _⟩
 ·rename_i k' s' lo hi o'
  cases h
  simp only[VR]at hx
  obtain⟨rfl,h1,h2⟩:=hx
  exact⟨rfl,by show lo+o<=_;omega,by show _<=hi+o;omega⟩
 ·cases h
theorem CQ{g:G}{w:World}{f:Nat}{k k':IntKind}{m r:Int}{x v:AV}(h:t1 f k x=some v)(hx:VR g w x (.int k' m))(hf:XP f k m 0=some (.int k r))(h1:nJ k<=r)(h2:r<=mr k):
 VR g w v (.int k r):=by
 unfold t1 at h
 split at h
 ·rename_i kk s o l u hs
  cases h
  obtain⟨e,_,_⟩:=qj hs hx
  obtain⟨_,e⟩:=Value.int.inj e
  have e2:bu (.tm f k kk s o (.Mj 0) 0)=r:=by
   show QY f k (bu s+o) (0+0)=r
   rw[<-e]
   unfold QY
   rw[show(0:Int)+0=0 from rfl,hf]
  simp only[VR]
  rw[e2]
  exact⟨by rw[Int.add_zero],h1,h2⟩
 ·cases h
theorem CR{T:TypeId}{x:Operand}(ho:o.op=.unOp .neg T x):bG P o (bL tl (aU x)):=by
 intro g w nt t h a v h' H Tr e
 obtain⟨b,hb,hf,rfl⟩:=mK e
 have hv:=bh x _ _ _ _ _ _ Tr hb
 unfold tl at hf
 cases hr:zb b with
 |some r=>
  rw[hr]at hf
  cases hf
  unfold zb at hr
  split at hr
  ·rename_i k n
   cases hr
   simp only[VR]at hv
   exact⟨rfl,.int k (k.wrap (0 - n)),by simp[execOp,ho,hv,Op.unary,Op.intArith],by simp only[VR,fD];rfl⟩
  ·cases hr
 |none=>
  rw[hr]at hf
  change (match Mu b with|some (k,_,_,_,_)=>t1 10 k b|none=>none)=some v at hf
  split at hf
  ·rename_i k s o' l u hs
   obtain⟨e1,_,_⟩:=qj hs hv
   rw[e1]at hv
   have hw:=fE k (0 - (bu s+o'))
   refine⟨rfl,.int k (k.wrap (0 - (bu s+o'))),by simp[execOp,ho,e1,Op.unary,Op.intArith],?_⟩
   rw[<-fD]
   exact CQ hf hv rfl hw.1 hw.2
  ·cases hf
theorem CS{T:TypeId}{x:Operand}(ho:o.op=.unOp .xor T x):bG P o (bL Bg (aU x)):=by
 intro g w nt t h a v h' H Tr e
 obtain⟨b,hb,hf,rfl⟩:=mK e
 have hv:=bh x _ _ _ _ _ _ Tr hb
 unfold Bg at hf
 split at hf
 ·rename_i k n
  simp only[VR]at hv
  obtain⟨z,hz,hr⟩:=mI hf P g w
  exact⟨rfl,z,by simp[execOp,ho,hv,hz],hr⟩
 ·cases hf
theorem HP{f:FuncId}{caps:Array Operand}(ho:o.op=.makeFunc (.func f) #[] caps):bG P o (GR f (caps.toList.map aU)):=by
 intro g w nt t h a v h' H T e
 unfold GR at e
 split at e
 ·rename_i vs da
  cases e
  refine⟨rfl,.func (.func f) #[] (caps.map a.eval),by simp[execOp,ho,Instr.makeFunc],?_⟩
  simp only[VR]
  exact⟨_,rfl,by simpa using pE T caps.toList da⟩
 ·cases e
theorem tC{x:Operand}{i:Nat}(ho:o.op=.extract x i):bG P o (aJ (aU x) i):=by
 intro g w nt t h a v h' H T e
 unfold aJ at e
 split at e
 ·rename_i vs hx
  have hv:=bh x _ _ _ _ _ _ T hx
  simp only[VR]at hv
  obtain⟨us,hu,hr⟩:=hv
  split at e
  ·rename_i r hg
   cases e
   rw[ec]at hg
   obtain⟨z,hz,zi⟩:=bA.get hr i _ hg
   exact⟨rfl,z,by simp[execOp,ho,Instr.extract,hu,by simpa using hz],zi⟩
  ·cases e
 ·cases e
theorem Bl{x:Operand}{T:TypeId}(ho:o.op=.call {callee:=.builtin .len,args:= #[x],argTypes:= #[T]})(hT:P.underlying T=some .string):
 bG P o (fy (aU x)):=by
 intro g w nt t h a v h' H Tr e
 unfold fy at e
 split at e
 ·rename_i s hx
  have hv:=bh x _ _ _ _ _ _ Tr hx
  simp only[VR]at hv
  cases e
  exact⟨rfl,.int .i64 s.size,by simp[execOp,ho,resolve,invoke,builtin,Builtin.len_,hv.1,run_underlying hT,goInt],by simp only[VR];rfl⟩
 ·cases e
theorem Bm{x:Operand}{T e:TypeId}{n:Nat}(ho:o.op=.call {callee:=.builtin .len,args:= #[x],argTypes:= #[T]})(hT:P.underlying T=some (.array n e)):
 bG P o (aa (oC (.int .i64 (.ofNat n)))):=by
 intro g w nt t h a v h' H Tr e
 cases e
 exact⟨rfl,.int .i64 n,by simp[execOp,ho,resolve,invoke,builtin,Builtin.len_,run_underlying hT,goInt],by simp only[VR];rfl⟩
theorem CT{x:Operand}{T e:TypeId}(ho:o.op=.call {callee:=.builtin .len,args:= #[x],argTypes:= #[T]})(hT:P.underlying T=some (.slice e)):
 bG P o (aT (wO (aU x))):=by
 intro g w nt t h a v h' H Tr e
 have sl: ∀ b n c,a.eval x=.slice b n c->(execOp a.eval o).run P w=.ok (.value (.int .i64 n)) w:=by
  intro b n c hx
  simp[execOp,ho,resolve,invoke,builtin,Builtin.len_,hx,run_underlying hT,goInt]
 unfold aT at e
 split at e
 ·rename_i id off n sz hx
  have hv:=eM x _ _ _ _ _ _ Tr hx
  simp only[VR]at hv
  cases e
  rcases hv with⟨rfl,b,hv⟩|⟨b,s,cap,_,hv,_⟩
  ·exact⟨rfl,_,sl _ _ _ hv,by simp only[VR];rfl⟩
  ·exact⟨rfl,_,sl _ _ _ hv,by simp only[VR];rfl⟩
 ·rename_i n cs hx
  have hv:=eM x _ _ _ _ _ _ Tr hx
  simp only[VR]at hv
  cases e
  obtain⟨b,cap,hv,_⟩:=hv
  exact⟨rfl,_,sl _ _ _ hv,by simp only[VR];rfl⟩
 ·rename_i hx
  have hv:=eM x _ _ _ _ _ _ Tr hx
  simp only[VR]at hv
  cases e
  obtain⟨b,hv⟩:=hv
  exact⟨rfl,_,sl _ _ _ hv,by simp only[VR];rfl⟩
 ·cases e
theorem CU{x:Operand}{T e:TypeId}(ho:o.op=.call {callee:=.builtin .cap,args:= #[x],argTypes:= #[T]})(hT:P.underlying T=some (.slice e)):
 bG P o (mC (wO (aU x))):=by
 intro g w nt t h a v h' H Tr e
 unfold mC at e
 split at e
 ·rename_i hx
  have hv:=eM x _ _ _ _ _ _ Tr hx
  simp only[VR]at hv
  cases e
  obtain⟨b,hv⟩:=hv
  exact⟨rfl,.int .i64 0,by simp[execOp,ho,resolve,invoke,builtin,Builtin.cap_,hv,run_underlying hT,goInt],by simp only[VR]⟩
 ·cases e
end
end Go.Ab

noncomputable section
namespace Go.Ab
variable [Io]
section
variable {P:Program}{o:Oper}
omit [Io] in
theorem eC(b o n:Nat):(⟨b,o,none⟩:Addr).add n=⟨b,o+n,none⟩:=by unfold Addr.add;split<;>simp_all
def fF:TypeDesc->Bool
 | .struct _| .array _ _=>true
 | _=>false
omit [Io] in
theorem js{T:TypeId}{d:TypeDesc}{w:World}(h:P.underlying T=some d):(isAgg T).run P w=.ok (fF d) w:=by
 unfold isAgg
 simp only[Sem.run_bind,run_underlying h,Result.andThen_ok]
 cases d<;>rfl
omit [Io] in
theorem r9{agg:Bool}{cs:List AV}{off size:Nat}{v:AV}(h:part agg cs off size=some v):
 ((cs.drop off).take size).length=size/\((agg=true/\v=.agg ((cs.drop off).take size))∨(agg=false/\(cs.drop off).take size=[v])):=by
 unfold part at h
 split at h
 ·cases h
 ·rename_i l e
  obtain⟨rfl,hl⟩:=gU e
  cases agg with
  |true=>cases h;exact⟨hl,.inl ⟨rfl,rfl⟩⟩
  |false=>
   change (match(cs.drop off).take size with| [c]=>some c| _=>none)=some v at h
   split at h
   ·rename_i c e2
    cases h
    exact⟨hl,.inr ⟨rfl,e2⟩⟩
   ·cases h
theorem iR{T:TypeId}{d:TypeDesc}{i:TypeInfo}{g:G}{w:World}{cs:List AV}{vs:List Value}{b s off:Nat}{v:AV}
 (hd:P.underlying T=some d)(hi:P.info? T=some i)(hv:bA g w cs vs)(hc:cR w b s vs)(h:part (fF d) cs off i.size=some v):
 ∃ x,(loadVar T ⟨b,s+off,none⟩).run P w=.ok x w/\VR g w v x:=by
 obtain⟨hl,h⟩:=r9 h
 have da:bA g w ((cs.drop off).take i.size) ((vs.drop off).take i.size):=(hv.drop off).take _
 have fO:cR w b (s+off) ((vs.drop off).take i.size):=(hc.drop off).take _
 have hlen:((vs.drop off).take i.size).length=i.size:=by rw[da.length,hl]
 have lM:(sizeOf T).run P w=.ok i.size w:=by simp[sizeOf,typeInfo,hi]
 rcases h with⟨ha,rfl⟩|⟨ha,h⟩
 ·have hr:=run_loadCells_list (P:=P) w ⟨b,s+off,none⟩ ((vs.drop off).take i.size) (fun j v e=>by rw[eC];exact fO j v e)
  rw[hlen]at hr
  refine⟨.agg ((vs.drop off).take i.size).toArray,?_,?_⟩
  ·unfold loadVar
   simp only[Sem.run_bind,js hd,ha,Result.andThen_ok,if_true,lM,hr,Sem.run_pure]
  ·simp only[VR]
   exact⟨_,rfl,by simpa using da⟩
 ·rw[h]at da
  simp only[bA]at da
  obtain⟨x,l',e,hx,rfl⟩:=da
  have:=fO 0 x (by rw[e];rfl)
  refine⟨x,?_,hx⟩
  unfold loadVar
  simp only[Sem.run_bind,js hd,ha,Result.andThen_ok]
  simp only[Nat.add_zero]at this
  simp[run_load,this]
theorem Bn{T:TypeId}{d:TypeDesc}{i:TypeInfo}{x:Operand}(ho:o.op=.load T x)(hd:P.underlying T=some d)(hi:P.info? T=some i):
 bG P o (ae i.size (fF d) (aU x)):=by
 intro g w nt t h a v h' H Tr e
 unfold ae at e
 split at e
 ·rename_i av hx
  split at e
  ·rename_i r hr
   cases e
   have hv:=bh x _ _ _ _ _ _ Tr hx
   unfold p9 at hr
   split at hr
   ·rename_i id off
    split at hr
    ·rename_i cs hg
     simp only[VR]at hv
     obtain⟨b,s,hm,hv⟩:=hv
     obtain⟨C,el,vs,hw,_,da,hc⟩:=H.row hg hm
     obtain⟨z,hz,hr⟩:=iR hd hi da (dW hw hc) (qd hr)
     exact⟨rfl,z,by simp[execOp,ho,Instr.loadAt,Instr.sureAddr,hv,hz],hr⟩
    ·cases hr
   ·rename_i cs
    simp only[VR]at hv
    obtain⟨b,s,vs,hv,_,hc,da⟩:=hv
    obtain⟨z,hz,hr⟩:=iR hd hi da hc hr
    rw[Nat.add_zero]at hz
    exact⟨rfl,z,by simp[execOp,ho,Instr.loadAt,Instr.sureAddr,hv,hz],hr⟩
   ·cases hr
  ·cases e
 ·cases e
theorem VR.nY{g w cs b s vs}(i:g.cV b)(hc:cR w b s vs)(hv:bA g w cs vs)(n:Nat):
 VR g w (.eh (cs.drop n)) (.pointer (some ⟨b,s+n,none⟩)):=by
 simp only[VR]
 exact⟨b,s+n,vs.drop n,rfl,i,hc.drop n,hv.drop n⟩
theorem qk{T:TypeId}{fs:Array Field}{n:Nat}{f:Field}{i:TypeInfo}{x:Operand}(ho:o.op=.fieldAddr T x n)
 (hd:P.underlying T=some (.struct fs))(hf:fs[n]? =some f)(hi:P.info? f.type=some i)(h0:i.size≠0):bG P o (ab f.offset (aU x)):=by
 intro g w nt t h a v h' H Tr e
 have fV: ∀ b s,a.eval x=.pointer (some ⟨b,s,none⟩)->(execOp a.eval o).run P w=.ok (.value (.pointer (some ⟨b,s+f.offset,none⟩))) w:=by
  intro b s hx
  simp[execOp,ho,hx,Instr.fieldAt,run_underlying hd,hf,Instr.sureAddr,fieldPlace,sizeOf,typeInfo,hi,h0,eC]
 unfold ab at e
 split at e
 ·rename_i id off hx
  have hv:=bh x _ _ _ _ _ _ Tr hx
  cases e
  simp only[VR]at hv
  obtain⟨b,s,hm,hv⟩:=hv
  refine⟨rfl,_,fV _ _ hv,?_⟩
  simp only[VR]
  exact⟨b,s,hm,by rw[Nat.add_assoc];rfl⟩
 ·rename_i cs hx
  have hv:=bh x _ _ _ _ _ _ Tr hx
  cases e
  simp only[VR]at hv
  obtain⟨b,s,vs,hv,hi,hc,da⟩:=hv
  refine⟨rfl,_,fV _ _ hv,?_⟩
  rw[fB]
  exact VR.nY hi hc da _
 ·cases e
theorem vg{T:TypeId}{d:TypeDesc}{i:TypeInfo}{g:G}{w:World}{cs:List AV}{vs:Array Value}{off:Nat}{v:AV}
 (hd:P.underlying T=some d)(hi:P.info? T=some i)(hv:bA g w cs vs.toList)(h:part (fF d) cs off i.size=some v):
 ∃ x,(Go.part T vs off).run P w=.ok x w/\VR g w v x:=by
 obtain⟨hl,h⟩:=r9 h
 have da:bA g w ((cs.drop off).take i.size) ((vs.toList.drop off).take i.size):=(hv.drop off).take _
 have lM:(sizeOf T).run P w=.ok i.size w:=by simp[sizeOf,typeInfo,hi]
 rcases h with⟨ha,rfl⟩|⟨ha,h⟩
 ·refine⟨.agg (vs.extract off (off+i.size)),?_,?_⟩
  ·unfold Go.part
   simp only[Sem.run_bind,js hd,ha,Result.andThen_ok,if_true,lM,Sem.run_pure]
  ·simp only[VR]
   refine⟨_,rfl,?_⟩
   have:(vs.extract off (off+i.size)).toList=(vs.toList.drop off).take i.size:=by
    rw[Array.toList_extract]
    simp[List.extract]
   rw[this];exact da
 ·rw[h]at da
  simp only[bA]at da
  obtain⟨x,l',e,hx,rfl⟩:=da
  have YH:vs[off]? =some x:=by
   have:((vs.toList.drop off).take i.size)[0]? =some x:=by rw[e];rfl
   rw[List.getElem?_take]at this
   split at this
   ·simpa using this
   ·cases this
  refine⟨x,?_,hx⟩
  unfold Go.part
  simp only[Sem.run_bind,js hd,ha,Result.andThen_ok]
  simp[YH]
theorem xJ{T:TypeId}{fs:Array Field}{n:Nat}{f:Field}{d:TypeDesc}{i:TypeInfo}{x:Operand}(ho:o.op=.field T x n)
 (hd:P.underlying T=some (.struct fs))(hf:fs[n]? =some f)(sa:P.underlying f.type=some d)(hi:P.info? f.type=some i):
 bG P o (iy f.offset i.size (fF d) (aU x)):=by
 intro g w nt t h a v h' H Tr e
 unfold iy at e
 split at e
 ·rename_i cs hx
  split at e
  ·rename_i r hr
   cases e
   have hv:=bh x _ _ _ _ _ _ Tr hx
   simp only[VR]at hv
   obtain⟨vs,hv,da⟩:=hv
   obtain⟨z,hz,hr⟩:=vg sa hi da hr
   exact⟨rfl,z,by simp[execOp,ho,hv,Instr.field,run_underlying hd,hf,asAgg,hz],hr⟩
  ·cases e
 ·cases e
omit [Io] in
theorem bt{a b:Nat}:Nat.blt a b=true↔a<b:=by simp[Nat.blt_eq]
theorem CV{T e:TypeId}{i:TypeInfo}{x y:Operand}(ho:o.op=.indexAddr T x y)(hd:P.underlying T=some (.slice e))(hi:P.info? e=some i):
 bG P o (bq i.size (aU x) (aU y)):=by
 intro g w nt t h a v h' H Tr e
 have fV: ∀ b s n c k (j:Nat),a.eval x=.slice (some ⟨b,s,none⟩) n c->a.eval y=.int k j->j<n->
  (execOp a.eval o).run P w=.ok (.value (.pointer (some ⟨b,s+j*i.size,none⟩))) w:=by
  intro b s n c k j hx hy hj
  have hn: ¬ n<=j:=by omega
  simp[execOp,ho,hx,hy,Instr.indexAt,run_underlying hd,asIntOf,hn,sizeOf,typeInfo,hi,eC]
 unfold bq at e
 split at e
 ·rename_i k j hy
  have pF:=bh y _ _ _ _ _ _ Tr hy
  simp only[VR]at pF
  split at e
  ·rename_i id off n sz hx
   have hv:=bh x _ _ _ _ _ _ Tr hx
   cases hb:(Nat.blt j n&&Nat.beq sz i.size)with
   |false=>rw[hb]at e;cases e
   |true=>
    rw[hb]at e
    cases e
    simp only[Bool.and_eq_true]at hb
    have hj:=bt.1 hb.1
    obtain rfl:=Nat.eq_of_beq_eq_true hb.2
    simp only[VR]at hv
    rcases hv with⟨h0,_⟩|⟨b,s,cap,hm,hv,_,_⟩
    ·omega
    ·refine⟨rfl,_,fV _ _ _ _ _ _ hv pF hj,?_⟩
     simp only[VR]
     exact⟨b,s,hm,by rw[Nat.add_assoc];rfl⟩
  ·rename_i n cs hx
   have hv:=bh x _ _ _ _ _ _ Tr hx
   cases hb:Nat.blt j n with
   |false=>rw[hb]at e;cases e
   |true=>
    rw[hb]at e
    cases e
    have hj:=bt.1 hb
    simp only[VR]at hv
    obtain⟨q,c,hv,hc,hr⟩:=hv
    rcases hr with⟨h0,_⟩|⟨b,s,vs,rfl,nR,fO,da⟩
    ·omega
    ·refine⟨rfl,_,fV _ _ _ _ _ _ hv pF hj,?_⟩
     rw[fB]
     exact VR.nY nR fO da _
  ·cases e
 ·cases e
theorem CW{T e:TypeId}{n:Nat}{i:TypeInfo}{x y:Operand}(ho:o.op=.indexAddr T x y)(hd:P.underlying T=some (.array n e))(hi:P.info? e=some i):
 bG P o (j9 n i.size (aU x) (aU y)):=by
 intro g w nt t h a v h' H Tr e
 have fV: ∀ b s k (j:Nat),a.eval x=.pointer (some ⟨b,s,none⟩)->a.eval y=.int k j->j<n->
  (execOp a.eval o).run P w=.ok (.value (.pointer (some ⟨b,s+j*i.size,none⟩))) w:=by
  intro b s k j hx hy hj
  have hn: ¬ n<=j:=by omega
  simp[execOp,ho,hx,hy,Instr.indexAt,Instr.sureAddr,run_underlying hd,asIntOf,hn,sizeOf,typeInfo,hi,eC]
 unfold j9 at e
 split at e
 ·rename_i k j hy
  have pF:=bh y _ _ _ _ _ _ Tr hy
  simp only[VR]at pF
  split at e
  ·rename_i id off hx
   have hv:=bh x _ _ _ _ _ _ Tr hx
   cases hb:Nat.blt j n with
   |false=>rw[hb]at e;cases e
   |true=>
    rw[hb]at e
    cases e
    simp only[VR]at hv
    obtain⟨b,s,hm,hv⟩:=hv
    refine⟨rfl,_,fV _ _ _ _ hv pF (bt.1 hb),?_⟩
    simp only[VR]
    exact⟨b,s,hm,by rw[Nat.add_assoc];rfl⟩
  ·rename_i cs hx
   have hv:=bh x _ _ _ _ _ _ Tr hx
   cases hb:Nat.blt j n with
   |false=>rw[hb]at e;cases e
   |true=>
    rw[hb]at e
    cases e
    simp only[VR]at hv
    obtain⟨b,s,vs,hv,nR,hc,da⟩:=hv
    refine⟨rfl,_,fV _ _ _ _ hv pF (bt.1 hb),?_⟩
    rw[fB]
    exact VR.nY nR hc da _
  ·cases e
 ·cases e
theorem xK{T e:TypeId}{n:Nat}{d:TypeDesc}{i:TypeInfo}{x y:Operand}(ho:o.op=.index T x y)(hd:P.underlying T=some (.array n e))
 (sa:P.underlying e=some d)(hi:P.info? e=some i):bG P o (gH n i.size (fF d) (aU x) (aU y)):=by
 intro g w nt t h a v h' H Tr e
 unfold gH at e
 split at e
 ·rename_i cs hx
  split at e
  ·rename_i k j hy
   have pF:=bh y _ _ _ _ _ _ Tr hy
   simp only[VR]at pF
   have hv:=bh x _ _ _ _ _ _ Tr hx
   simp only[VR]at hv
   obtain⟨vs,hv,da⟩:=hv
   cases hb:Nat.blt j n with
   |false=>rw[hb]at e;cases e
   |true=>
    rw[hb]at e
    change (match part (fF d) cs (j*i.size) i.size with|some v=>Ro.ok v h|none=>.bad)=.ok v h' at e
    split at e
    ·rename_i r hr
     cases e
     obtain⟨z,hz,hr⟩:=vg sa hi da hr
     have hn: ¬ n<=j:=by have:=bt.1 hb;omega
     have Mz:a.eval y=.int k ((j:Nat):Int):=pF
     exact⟨rfl,z,by simp[execOp,ho,hv,Mz,Instr.index,run_underlying hd,asIntOf,hn,sizeOf,typeInfo,hi,hz],hr⟩
    ·cases e
  ·cases e
 ·cases e
theorem vh{T:TypeId}{x y:Operand}(ho:o.op=.index T x y)(hd:P.underlying T=some .string):bG P o (bK (aU x) (aU y)):=by
 intro g w nt t h a v h' H Tr e
 unfold bK at e
 split at e
 ·rename_i s hx
  split at e
  ·rename_i k j hy
   have pF:=bh y _ _ _ _ _ _ Tr hy
   simp only[VR]at pF
   have Mz:a.eval y=.int k ((j:Nat):Int):=pF
   have hv:=bh x _ _ _ _ _ _ Tr hx
   simp only[VR]at hv
   split at e
   ·rename_i b hb
    cases e
    rw[ec]at hb
    have xt:s[j]? =some b:=by
     have:s.data[j]? =some b:=by simpa using hb
     obtain⟨hj,e⟩:=Array.getElem?_eq_some_iff.1 this
     rw[getElem?_pos s j hj]
     exact congrArg some e
    exact⟨rfl,.int .u8 b.toNat,by simp[execOp,ho,hv.1,Mz,Instr.index,run_underlying hd,asIntOf,xt],by simp only[VR]⟩
   ·cases e
  ·rename_i k sv lo hi o hy
   have pF:=bh y _ _ _ _ _ _ Tr hy
   simp only[VR]at pF
   obtain⟨pF,h1,h2⟩:=pF
   have hv:=bh x _ _ _ _ _ _ Tr hx
   simp only[VR]at hv
   cases hc:(!(ez (Int.add lo o) 0)&&ez (Int.add hi o) (.ofNat s.size))with
   |false=>rw[hc]at e;cases e
   |true=>
    rw[hc]at e
    cases e
    rw[dE,dE]at hc
    have h3:(0:Int)<=lo+o:=by
     have:Int.add lo o=lo+o:=rfl
     simp[this]at hc
     omega
    have h4:hi+o<(s.size:Int):=by
     have:Int.add hi o=hi+o:=rfl
     simp[this]at hc
     omega
    obtain⟨j,hj⟩: ∃ j:Nat,bu sv+o=(j:Int):=⟨(bu sv+o).toNat,by omega⟩
    have Q1:j<s.size:=by omega
    rw[hj]at pF
    have xt:s[j]? =some s[j]:=getElem?_pos s j Q1
    refine⟨rfl,.int .u8 (s[j]).toNat,by simp[execOp,ho,hv.1,pF,Instr.index,run_underlying hd,asIntOf,xt],?_⟩
    have sa:(s.data.toList.map UInt8.toNat).getD j 0=(s[j]).toNat:=by
     have hjd:j<s.data.size:=Q1
     have e1:(s.data.toList.map UInt8.toNat)[j]? =some (s[j]).toNat:=by
      rw[List.getElem?_map,Array.getElem?_toList,getElem?_pos s.data j hjd]
      rfl
     rw[List.getD,e1]
     rfl
    have eg:(s[j]).toNat<256:=UInt8.toNat_lt _
    simp only[VR,bu]
    rw[hj,Int.toNat_natCast,sa]
    exact⟨by rw[Int.add_zero],by omega,by omega⟩
  ·cases e
 ·cases e
theorem oN{x:Option Operand}{t:Tm}{d n:Nat}{g w nt}{a:Act}(T:TR g w nt t a.tmps)(h:iY (x.map aU) t d=some n):
 (x=none/\n=d)∨ ∃ y k,x=some y/\a.eval y=.int k ((n:Nat):Int):=by
 cases x with
 |none=>exact .inl ⟨rfl,by simpa[iY]using h.symm⟩
 |some y=>
  simp only[Option.map_some,iY]at h
  split at h
  ·rename_i k m hy
   cases h
   have hv:=bh y _ _ _ _ _ _ T hy
   simp only[VR]at hv
   exact .inr ⟨y,k,rfl,hv⟩
  ·cases h
theorem fo{lo hi:Option Operand}{t:Tm}{n l e:Nat}{g w nt}{a:Act}(T:TR g w nt t a.tmps)(h:bounds (lo.map aU) (hi.map aU) t n=some (l,e)):
 l<=e/\e<=n/\((lo=none/\l=0)∨ ∃ y k,lo=some y/\a.eval y=.int k ((l:Nat):Int))/\((hi=none/\e=n)∨ ∃ y k,hi=some y/\a.eval y=.int k ((e:Nat):Int)):=by
 unfold bounds at h
 split at h
 ·rename_i l' hl
  split at h
  ·rename_i e' he
   cases hb:(Nat.ble l' e'&&Nat.ble e' n)with
   |false=>rw[hb]at h;cases h
   |true=>
    rw[hb]at h
    cases h
    simp only[Bool.and_eq_true,Nat.ble_eq]at hb
    exact⟨hb.1,hb.2,oN T hl,oN T he⟩
  ·cases h
 ·cases h
omit [Io] in
theorem jJ{w:World}{isS:Bool}{len cap l e:Nat}{lo hi:Option Value}(h1:l<=e)(h2:e<=cap)
 (Q2:(lo=none/\l=0)∨ ∃ k,lo=some (.int k ((l:Nat):Int)))(hhi:(hi=none/\e=len)∨ ∃ k,hi=some (.int k ((e:Nat):Int))):
 (Instr.sliceBounds isS len cap lo hi none).run P w=.ok (l,e,cap) w:=by
 have b1: ¬ cap<e:=by omega
 have b2: ¬ e<l:=by omega
 rcases Q2 with⟨rfl,rfl⟩|⟨k,rfl⟩<;>rcases hhi with⟨rfl,rfl⟩|⟨k',rfl⟩<;>
  simp[Instr.sliceBounds,Instr.sliceBound,asIntOf,Nat.not_lt.1 b1,Nat.not_lt.1 b2]
omit [Io] in
theorem kq{a:Act}{lo:Option Operand}{l d:Nat}(h:(lo=none/\l=d)∨ ∃ y k,lo=some y/\a.eval y=.int k ((l:Nat):Int)):
 (lo.map a.eval=none/\l=d)∨ ∃ k,lo.map a.eval=some (.int k ((l:Nat):Int)):=by
 rcases h with⟨rfl,rfl⟩|⟨y,k,rfl,e⟩
 ·exact .inl ⟨rfl,rfl⟩
 ·exact .inr ⟨k,by simp[e]⟩
theorem vi{T:TypeId}{x:Operand}{lo hi:Option Operand}(ho:o.op=.slice T x lo hi none)(hd:P.underlying T=some .string):
 bG P o (ct (aU x) (lo.map aU) (hi.map aU)):=by
 intro g w nt t h a v h' H Tr e
 unfold ct at e
 split at e
 ·rename_i s hx
  have hv:=bh x _ _ _ _ _ _ Tr hx
  simp only[VR]at hv
  split at e
  ·rename_i l e' hb
   cases e
   obtain⟨h1,h2,h3,h4⟩:=fo Tr hb
   have hr:=jJ (P:=P) (w:=w) (isS:=false) h1 h2 (kq h3) (kq h4)
   exact⟨rfl,.string (s.extract l e'),by simp[execOp,ho,hv.1,Instr.sliceAt,Instr.slice,run_underlying hd,hr],by simp[VR,Value.oneCell']⟩
  ·cases e
 ·cases e
theorem xL{T el:TypeId}{i:TypeInfo}{x:Operand}{lo hi:Option Operand}(ho:o.op=.slice T x lo hi none)(hd:P.underlying T=some (.slice el))(nR:P.info? el=some i):
 bG P o (iZ i.size (aU x) (lo.map aU) (hi.map aU)):=by
 intro g w nt t h a v h' H Tr e
 have lM:(sizeOf el).run P w=.ok i.size w:=by simp[sizeOf,typeInfo,nR]
 have fV: ∀ b n c l u,a.eval x=.slice b n c->l<=u->u<=c->((lo=none/\l=0)∨ ∃ y k,lo=some y/\a.eval y=.int k ((l:Nat):Int))->
  ((hi=none/\u=n)∨ ∃ y k,hi=some y/\a.eval y=.int k ((u:Nat):Int))->
  (execOp a.eval o).run P w=.ok (.value (.slice (if c=l then b else b.map (·.add (l*i.size))) (u - l) (c - l))) w:=by
  intro b n c l u hx h1 h2 h3 h4
  have hr:=jJ (P:=P) (w:=w) (isS:=true) h1 h2 (kq h3) (kq h4)
  simp[execOp,ho,hx,Instr.sliceAt,Instr.slice,run_underlying hd,hr,lM]
 unfold iZ at e
 split at e
 ·rename_i hx
  have hv:=bh x _ _ _ _ _ _ Tr hx
  simp only[VR]at hv
  obtain⟨b,hv⟩:=hv
  split at e
  ·rename_i p hb
   obtain⟨l,u⟩:=p
   cases e
   obtain⟨h1,h2,h3,h4⟩:=fo Tr hb
   refine⟨rfl,_,fV _ _ _ _ _ hv h1 h2 h3 h4,?_⟩
   obtain rfl:l=0:=by omega
   obtain rfl:u=0:=by omega
   simp only[VR]
   exact⟨_,rfl⟩
  ·cases e
 ·rename_i id off n sz hx
  have hv:=bh x _ _ _ _ _ _ Tr hx
  simp only[VR]at hv
  split at e
  ·rename_i l u hb
   cases hz:Nat.beq sz i.size with
   |false=>rw[hz]at e;cases e
   |true=>
    rw[hz]at e
    cases e
    obtain rfl:=Nat.eq_of_beq_eq_true hz
    obtain⟨h1,h2,h3,h4⟩:=fo Tr hb
    rcases hv with⟨rfl,b,hv⟩|⟨b,s,cap,hm,hv,hc,hr⟩
    ·refine⟨rfl,_,fV _ _ _ _ _ hv h1 h2 h3 h4,?_⟩
     obtain rfl:l=0:=by omega
     obtain rfl:u=0:=by omega
     simp only[VR]
     exact .inl ⟨by first|trivial|rfl,b,by simp⟩
    ·refine⟨rfl,_,fV _ _ _ _ _ hv h1 (by omega) h3 h4,?_⟩
     simp only[VR]
     by_cases dL:cap=l
     ·refine .inl ⟨by show u - l=0;omega,⟨b,s+off,none⟩,?_⟩
      rw[show u - l=0 by omega,show cap - l=0 by omega,if_pos dL]
     ·refine .inr ⟨b,s,cap - l,hm,?_,by show u - l<=_;omega,?_⟩
      ·rw[if_neg dL]
       simp only[Option.map_some,eC]
       congr 3
       show s+off+l*i.size=s+(off+l*i.size)
       omega
      ·show s+(off+l*i.size)+(cap - l)*i.size<=_
       have:(cap - l)*i.size+l*i.size=cap*i.size:=by rw[<-Nat.add_mul];congr 1;omega
       omega
  ·cases e
 ·rename_i n cs hx
  have hv:=bh x _ _ _ _ _ _ Tr hx
  simp only[VR]at hv
  obtain⟨b,cap,hv,hc,hr⟩:=hv
  split at e
  ·rename_i l u hb
   cases e
   obtain⟨h1,h2,h3,h4⟩:=fo Tr hb
   refine⟨rfl,_,fV _ _ _ _ _ hv h1 (by omega) h3 h4,?_⟩
   simp only[VR,ki,fB]
   refine⟨_,cap - l,rfl,by show u - l<=_;omega,?_⟩
   rcases hr with⟨rfl,rfl⟩|⟨q,s,vs,rfl,CX,fO,da⟩
   ·exact .inl ⟨by show u - l=0;omega,by simp⟩
   ·by_cases dL:cap=l
    ·exact .inl ⟨by show u - l=0;omega,by
      show List.take ((u - l)*i.size) _=[]
      rw[show u - l=0 by omega];simp⟩
    ·refine .inr ⟨q,s+l*i.size,_,?_,CX,(fO.drop (l*i.size)).take ((u - l)*i.size),(da.drop (l*i.size)).take ((u - l)*i.size)⟩
     rw[if_neg dL]
     simp only[Option.map_some,eC]
  ·cases e
 ·cases e
theorem vj{T el:TypeId}{i:TypeInfo}{x:Operand}{lo hi:Option Operand}(ho:o.op=.slice T x lo hi none)(hd:P.underlying T=some (.slice el))(nR:P.info? el=some i):
 bG P o (bM i.size (aU x) (lo.map aU) (hi.map aU)):=by
 intro g w nt t h a v h' H Tr e
 unfold bM at e
 split at e
 ·rename_i av hx
  cases hE:lX av with
  |false=>rw[hE]at e;exact xL ho hd nR g w nt t h a v h' H Tr e
  |true=>
   rw[hE]at e
   simp only[cond_true]at e
   split at e
   ·rename_i p hb
    obtain⟨l,u⟩:=p
    cases e
    have hv:=bh x _ _ _ _ _ _ Tr hx
    have kb:=hv
    obtain⟨b,hv⟩:=qf hE hv
    obtain⟨h1,h2,h3,h4⟩:=fo Tr hb
    obtain rfl:l=0:=by omega
    obtain rfl:u=0:=by omega
    have hr:=jJ (P:=P) (w:=w) (isS:=true) (len:=0) h1 h2 (kq h3) (kq h4)
    have lM:(sizeOf el).run P w=.ok i.size w:=by simp[sizeOf,typeInfo,nR]
    exact⟨rfl,a.eval x,by simp[execOp,ho,hv,Instr.sliceAt,Instr.slice,run_underlying hd,hr,lM],kb⟩
   ·cases e
 ·cases e
theorem bA.kr{g w}{cs:List AV}{vs:List Value}{s:Nat}{C:Array Value}(hv:bA g w cs vs)(hc: ∀ (j:Nat) (v:Value),vs[j]? =some v->C[s+j]? =some v){n:Nat}
 (hn:n<=cs.length)(h0:n≠0):s+n<=C.size:=by
 have hl:=hv.length
 have hj:n - 1<vs.length:=by omega
 have:=hc (n - 1) _ (List.getElem?_eq_getElem hj)
 have:=(Array.getElem?_eq_some_iff.1 this).1
 omega
theorem vk{T el:TypeId}{n:Nat}{i:TypeInfo}{x:Operand}{lo hi:Option Operand}(ho:o.op=.slice T x lo hi none)(hd:P.underlying T=some (.array n el))(nR:P.info? el=some i)(h0:i.size≠0):
 bG P o (en n i.size (aU x) (lo.map aU) (hi.map aU)):=by
 intro g w nt t h a v h' H Tr e
 have lM:(sizeOf el).run P w=.ok i.size w:=by simp[sizeOf,typeInfo,nR]
 unfold en at e
 split at e
 ·rename_i id off hx
  have hv:=bh x _ _ _ _ _ _ Tr hx
  simp only[VR]at hv
  obtain⟨b,s,hm,hv⟩:=hv
  split at e
  ·rename_i l u hb
   split at e
   ·rename_i cs hg
    cases hz:Nat.ble (Nat.add off (Nat.mul n i.size)) cs.n with
    |false=>rw[hz]at e;cases e
    |true=>
     rw[hz]at e
     cases e
     have YI:off+n*i.size<=cs.toL.length:=by rw[dm];exact Nat.ble_eq.mp hz
     obtain⟨h1,h2,h3,h4⟩:=fo Tr hb
     have hr:=jJ (P:=P) (w:=w) (isS:=false) h1 h2 (kq h3) (kq h4)
     refine⟨rfl,.slice (some (if n=l then⟨b,s+off,none⟩else(⟨b,s+off,none⟩:Addr).add (l*i.size))) (u - l) (n - l),?_,?_⟩
     ·simp[execOp,ho,hv,Instr.sliceAt,Instr.sureAddr,run_underlying hd,hr,lM]
     ·obtain⟨C,el',vs,hw,_,da,hc⟩:=H.row hg hm
      simp only[VR]
      by_cases dL:n=l
      ·refine .inl ⟨by show u - l=0;omega,(if n=l then⟨b,s+off,none⟩else(⟨b,s+off,none⟩:Addr).add (l*i.size)),?_⟩
       rw[show u - l=0 by omega,show n - l=0 by omega]
      ·have Q3:(n - l)*i.size≠0:=Nat.mul_ne_zero (by omega) h0
       refine .inr ⟨b,s,n - l,hm,?_,by show u - l<=_;omega,?_⟩
       ·rw[if_neg dL,eC]
        congr 3
        show s+off+l*i.size=s+(off+l*i.size)
        omega
       ·rw[fm hw]
        show s+(off+l*i.size)+(n - l)*i.size<=_
        have e1:(n - l)*i.size+l*i.size=n*i.size:=by rw[<-Nat.add_mul];congr 1;omega
        have:=bA.kr da hc YI (by omega)
        omega
   ·cases e
  ·cases e
 ·cases e
end
end Go.Ab
