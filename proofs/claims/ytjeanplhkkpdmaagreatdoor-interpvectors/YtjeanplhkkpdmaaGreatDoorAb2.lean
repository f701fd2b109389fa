import Derived.Test.YtjeanplhkkpdmaaGreatDoorAb0
import Derived.Laws.Tables
noncomputable section
namespace Go.Ab
variable [Io]
omit [Io] in
theorem cZ{α:Type}(l r:List α):app l r=l++r:=by
 induction l with
 |nil=>rfl
 |cons a l ih=>exact congrArg (a:: ·) ih
omit [Io] in
theorem abe{α:Type}(l:List α): ∀ n,(List.rec (motive:=fun _=>Nat->Nat) (fun n=>n) (fun _ _ ih n=>ih (Nat.add n 1)) l:Nat->Nat) n=n+l.length:=by
 induction l with
 |nil=>intro n;rfl
 |cons a l ih=>intro n;refine(ih (n+1)).trans ?_;simp;omega
omit [Io] in
theorem jH{α:Type}(l:List α):len l=l.length:=(abe l 0).trans (Nat.zero_add _)
omit [Io] in
theorem xM{α:Type}(l:List α): ∀ n,tk n l=l.take n:=by
 induction l with
 |nil=>intro n;cases n<;>rfl
 |cons a l ih=>intro n;cases n with
  |zero=>rfl
  |succ n=>exact congrArg (a:: ·) (ih n)
omit [Io] in
theorem qP{α:Type}(l:List α): ∀ n,dp n l=l.drop n:=by
 induction l with
 |nil=>intro n;cases n<;>rfl
 |cons a l ih=>intro n;cases n with
  |zero=>rfl
  |succ n=>exact ih n
omit [Io] in
theorem nQ{α:Type}(l:List α): ∀ n,sD l n=l[n]? :=by
 induction l with
 |nil=>intro n;rfl
 |cons a l ih=>intro n;cases n with
  |zero=>rfl
  |succ n=>refine(ih n).trans ?_;simp
omit [Io] in
theorem ou{α:Type}(p:α->Bool)(l:List α):jC p l=l.all p:=by
 induction l with
 |nil=>rfl
 |cons a l ih=>show(bif p a then jC p l else false)=_;rw[ih];cases h:p a<;>simp[h]
omit [Io] in
theorem put_eq(cs:List AV)(off:Nat)(new:List AV):put cs off new=cs.take off++(new++cs.drop (off+new.length)):=by
 unfold put;rw[cZ,cZ,xM,qP,jH];rfl
omit [Io] in
theorem sU{cs:List AV}{off n:Nat}{l:List AV}(h:Ef cs off n=some l):l=(cs.drop off).take n/\l.length=n:=by
 change (bif Nat.beq (len (tk n (dp off cs))) n then some (tk n (dp off cs))else none)=some l at h
 rw[xM,qP,jH]at h;by_cases e:(List.take n (List.drop off cs)).length=n
 ·rw[show Nat.beq (List.take n (List.drop off cs)).length n=true from Nat.beq_eq.mpr e]at h;obtain rfl:=Option.some.inj h;exact⟨rfl,e⟩
 ·rw[show Nat.beq (List.take n (List.drop off cs)).length n=false from Bool.eq_false_iff.mpr (fun k=>e (Nat.eq_of_beq_eq_true k))]at h;cases h
omit [Io] in
theorem CE(r:Rw): ∀ k i,(r.cells k i).length=k
 |0,_=>rfl
 |k+1,i=>by show(r.cell i::r.cells k (i+1)).length=_;rw[List.length_cons,CE r k (i+1)]
omit [Io] in
theorem CF(r:Rw): ∀ (k i j:Nat),(r.cells k i)[j]? =if j<k then some (r.cell (i+j))else none
 |0,i,j=>by show([]:List AV)[j]? =_;simp
 |k+1,i,0=>by show(r.cell i::r.cells k (i+1))[0]? =_;simp
 |k+1,i,j+1=>by
  show(r.cell i::r.cells k (i+1))[j+1]? =_;rw[List.getElem?_cons_succ,CF r k (i+1) j,show i+1+j=i+(j+1) by omega];by_cases h:j<k
  ·rw[if_pos h,if_pos (by omega)]
  ·rw[if_neg h,if_neg (by omega)]
omit [Io] in
theorem lI(r:Rw):r.toL.length=r.n:=CE r r.n 0
omit [Io] in
theorem uN(r:Rw)(j:Nat):r.toL[j]? =if j<r.n then some (r.cell j)else none:=by
 unfold Rw.toL;rw[CF,Nat.zero_add]
omit [Io] in
theorem ql: ∀ (l:List AV) (i:Nat) (t:Tr AV) (j:Nat),(tE l i t).get j=if i<=j/\j<i+l.length then l[j - i]? else t.get j
 | [],i,t,j=>by show t.get j=_;rw[if_neg (by simp)]
 |a::l,i,t,j=>by
  show(tE l (i+1) (t.set i (some a))).get j=_;rw[ql l (i+1) _ j,Tr.qO];simp only[List.length_cons];by_cases h:i=j
  ·subst h;rw[if_neg (by omega),if_pos rfl,if_pos (by omega),Nat.sub_self];rfl
  ·by_cases h2:i+1<=j/\j<i+1+l.length
   ·rw[if_pos h2,if_pos (by omega),show j - i=(j - (i+1))+1 by omega,List.getElem?_cons_succ]
   ·rw[if_neg h2,if_neg (fun e=>h e.symm),if_neg (by omega)]
omit [Io] in
theorem CG{r:Rw}{i:Nat}{v:AV}(h:r.t.get i=some v):r.cell i=v:=by unfold Rw.cell;rw[h]
omit [Io] in
theorem IK{r r':Rw}{i:Nat}(h:r.t.get i=r'.t.get i)(hd:r.d=r'.d):r.cell i=r'.cell i:=by unfold Rw.cell;rw[h,hd]
omit [Io] in
theorem pj(l:List AV):(Ee l).toL=l:=by
 apply List.ext_getElem?;intro j;rw[uN];show(if j<len l then _ else _)=_;rw[jH];by_cases h:j<l.length
 ·rw[if_pos h,CG (v:=l[j])]
  ·rw[List.getElem?_eq_getElem h]
  ·show(tE l 0 .nil).get j=_;rw[ql,if_pos (by omega),Nat.sub_zero,List.getElem?_eq_getElem h]
 ·rw[if_neg h,List.getElem?_eq_none (by omega)]
omit [Io] in
theorem tK{r:Rw}{off k:Nat}{l:List AV}(h:r.sQ off k=some l):l=(r.toL.drop off).take k/\l.length=k/\off+k<=r.n:=by
 unfold Rw.sQ at h;cases hb:Nat.ble (Nat.add off k) r.n with
 |false=>rw[hb]at h;cases h
 |true=>
  rw[hb]at h;cases h;have hle:off+k<=r.n:=Nat.le_of_ble_eq_true hb;refine⟨?_,CE r k off,hle⟩;apply List.ext_getElem?;intro j;rw[CF,List.getElem?_take,List.getElem?_drop,uN];by_cases h:j<k
  ·rw[if_pos h,if_pos h,if_pos (by omega)]
  ·rw[if_neg h,if_neg h]
omit [Io] in
theorem KX{r:Rw}{off k:Nat}{l:List AV}(h:r.sQ off k=some l):Ef r.toL off k=some l:=by
 obtain⟨rfl,hl,_⟩:=tK h
 change (bif Nat.beq (len (tk k (dp off r.toL))) k then some (tk k (dp off r.toL))else none)=_
 rw[xM,qP,jH,hl,Nat.beq_refl];rfl
omit [Io] in
theorem E6{agg:Bool}{r:Rw}{off size:Nat}{v:AV}(h:zA agg r off size=some v):part agg r.toL off size=some v:=by
 unfold zA at h;split at h
 ·cases h
 ·rename_i l e
  unfold part;rw[KX e];exact h
omit [Io] in
theorem Be{r:Rw}{off:Nat}{l:List AV}(h:off+l.length<=r.n):(r.put off l).toL=put r.toL off l:=by
 rw[put_eq];apply List.ext_getElem?;intro j;rw[uN];show(if j<r.n then some ((r.put off l).cell j)else none)=_;have hl:=lI r;by_cases h1:j<off
 ·rw[if_pos (by omega),List.getElem?_append_left (by rw[List.length_take];omega),List.getElem?_take,if_pos h1,uN,if_pos (by omega)];congr 1;refine IK ?_ rfl;show(tE l off r.t).get j=_;rw[ql,if_neg (by omega)]
 ·rw[List.getElem?_append_right (by rw[List.length_take];omega),List.length_take,hl,Nat.min_eq_left (by omega)];by_cases h2:j<off+l.length
  ·rw[if_pos (by omega),List.getElem?_append_left (by omega),List.getElem?_eq_getElem (by omega)];congr 1;refine CG ?_;show(tE l off r.t).get j=_;rw[ql,if_pos (by omega),List.getElem?_eq_getElem (by omega)]
  ·rw[List.getElem?_append_right (by omega),List.getElem?_drop,show off+l.length+(j - off - l.length)=j by omega,uN];by_cases h3:j<r.n
   ·rw[if_pos h3,if_pos h3];congr 1;refine IK ?_ rfl;show(tE l off r.t).get j=_;rw[ql,if_neg (by omega)]
   ·rw[if_neg h3,if_neg h3]
omit [Io] in
theorem Bf(r:Rw)(l:List AV):(r.app l).toL=r.toL++l:=by
 apply List.ext_getElem?;intro j;rw[uN];show(if j<Nat.add r.n (len l)then some ((r.app l).cell j)else none)=_;rw[jH];have hl:=lI r;have ha:Nat.add r.n l.length=r.n+l.length:=rfl;rw[ha];by_cases h1:j<r.n
 ·rw[if_pos (by omega),List.getElem?_append_left (by omega),uN,if_pos h1];congr 1;refine IK ?_ rfl;show(tE l r.n r.t).get j=_;rw[ql,if_neg (by omega)]
 ·rw[List.getElem?_append_right (by omega),hl];by_cases h2:j<r.n+l.length
  ·rw[if_pos h2,List.getElem?_eq_getElem (by omega)];congr 1;refine CG ?_;show(tE l r.n r.t).get j=_;rw[ql,if_pos (by omega),List.getElem?_eq_getElem (by omega)]
  ·rw[if_neg h2,List.getElem?_eq_none (by omega)]
omit [Io] in
theorem KY{r p:Rw}{off k:Nat}(h:r.sub off k=some p):p.toL=(r.toL.drop off).take k/\p.toL.length=k:=by
 unfold Rw.sub at h;cases hb:Nat.ble (Nat.add off k) r.n with
 |false=>rw[hb]at h;cases h
 |true=>
  rw[hb]at h;have hle:off+k<=r.n:=Nat.le_of_ble_eq_true hb;cases h
  have hs:r.sQ off k=some (r.cells k off):=by unfold Rw.sQ;rw[hb];rfl
  obtain⟨e1,e2,_⟩:=tK hs;cases h0:Nat.beq off 0 with
  |true=>
   obtain rfl:=Nat.eq_of_beq_eq_true h0;have:(r.upto k).toL=r.cells k 0:=rfl;rw[cond_true,this,<-e1];exact⟨rfl,e2⟩
  |false=>
   rw[cond_false,pj,<-e1];exact⟨rfl,e2⟩
omit [Io] in
theorem Dw(z:List AV): ∀ (c j:Nat),(nn c z)[j]? =if j<c*z.length then z[j % z.length]? else none
 |0,j=>by show([]:List AV)[j]? =_;simp
 |c+1,j=>by
  show(app z (nn c z))[j]? =_;rw[cZ];by_cases h:j<z.length
  ·rw[List.getElem?_append_left h,Nat.mod_eq_of_lt h,if_pos (by rw[Nat.add_mul];omega)]
  ·have ayb:j % z.length=(j - z.length) % z.length:=Nat.mod_eq_sub_mod (by omega);rw[List.getElem?_append_right (by omega),Dw z c,ayb,Nat.add_mul,Nat.one_mul];by_cases h2:j - z.length<c*z.length
   ·rw[if_pos h2,if_pos (by omega)]
   ·rw[if_neg h2,if_neg (by omega)]
omit [Io] in
theorem PB(c:Nat)(z:List AV):(⟨Nat.mul c (len z),z,.nil⟩:Rw).toL=nn c z:=by
 apply List.ext_getElem?;intro j;rw[uN,Dw];show(if j<Nat.mul c (len z)then some (Rw.cell ⟨Nat.mul c (len z),z,.nil⟩ j)else none)=_;rw[jH];by_cases h:j<c*z.length
 ·have hm:Nat.mul c z.length=c*z.length:=rfl;rw[hm,if_pos h,if_pos h];have hz:0<z.length:=by
   rcases Nat.eq_zero_or_pos z.length with e|e
   ·rw[e]at h;simp at h
   ·exact e
  have:j % z.length<z.length:=Nat.mod_lt _ hz;show some (Option.rec (Option.rec n7 (fun v=>v) (sD z (Nat.mod j (len z)))) (fun v=>v) ((Tr.nil:Tr AV).get j):AV)=_;rw[Tr.get_nil,nQ,jH,show Nat.mod j z.length=j % z.length from rfl,List.getElem?_eq_getElem this]
 ·have hm:Nat.mul c z.length=c*z.length:=rfl;rw[hm,if_neg h,if_neg h]
theorem jy.length{g w}: ∀ {l:List AV} {vs:List Value},jy g w l vs->vs.length=l.length
 | [],vs,h=>by simp only[jy]at h;subst h;rfl
 |a::l,vs,h=>by
  simp only[jy]at h;obtain⟨v,l',rfl,_,r⟩:=h;simp[jy.length r]
theorem jy.take{g w}: ∀ {l:List AV} {vs:List Value} (n:Nat),jy g w l vs->jy g w (l.take n) (vs.take n)
 | [],vs,n,h=>by simp only[jy]at h;subst h;simp[jy]
 |a::l,vs,0,h=>by simp[jy]
 |a::l,vs,n+1,h=>by
  simp only[jy]at h;obtain⟨v,l',rfl,q,r⟩:=h;simp only[List.take_succ_cons,jy];exact⟨v,_,rfl,q,jy.take n r⟩
theorem jy.drop{g w}: ∀ {l:List AV} {vs:List Value} (n:Nat),jy g w l vs->jy g w (l.drop n) (vs.drop n)
 | [],vs,n,h=>by simp only[jy]at h;subst h;simp[jy]
 |a::l,vs,0,h=>h
 |a::l,vs,n+1,h=>by
  simp only[jy]at h;obtain⟨v,l',rfl,q,r⟩:=h;exact jy.drop n r
theorem jy.append{g w}: ∀ {l r:List AV} {vs us:List Value},jy g w l vs->jy g w r us->jy g w (l++r) (vs++us)
 | [],r,vs,us,h,k=>by simp only[jy]at h;subst h;exact k
 |a::l,r,vs,us,h,k=>by
  simp only[jy]at h;obtain⟨v,l',rfl,q,p⟩:=h;simp only[List.cons_append,jy];exact⟨v,_,rfl,q,jy.append p k⟩
theorem jy.get{g w}: ∀ {l:List AV} {vs:List Value},jy g w l vs-> ∀ (i:Nat) (a:AV),l[i]? =some a-> ∃ v,vs[i]? =some v/\VR g w a v
 | [],vs,h,i,a,e=>by simp at e
 |b::l,vs,h,0,a,e=>by
  simp only[jy]at h;obtain⟨v,l',rfl,q,p⟩:=h;simp at e;subst e;exact⟨v,rfl,q⟩
 |b::l,vs,h,i+1,a,e=>by
  simp only[jy]at h;obtain⟨v,l',rfl,q,p⟩:=h
  simpa using jy.get p i a (by simpa using e)
theorem jy.repeat{g w}{l:List AV}{vs:List Value}(h:jy g w l vs): ∀ n,jy g w (nn n l) (List.replicate n vs).flatten
 |0=>by show jy g w [] _;simp[jy]
 |n+1=>by
  show jy g w (app l (nn n l)) _;rw[cZ,List.replicate_succ,List.flatten_cons];exact jy.append h (jy.repeat h n)
theorem jy.one{g w}{a:AV}{v:Value}(h:VR g w a v):jy g w [a] [v]:=by
 simp only[jy];exact⟨v,[],rfl,h,rfl⟩
theorem VR.cells{g w}{a:AV}{v:Value}(h:VR g w a v):jy g w a.cells v.cells.toList:=by
 cases a with
 |agg cs=>
  simp only[VR]at h;obtain⟨vs,rfl,q⟩:=h;exact q
 |sc x=>
  simp only[VR]at h;obtain⟨rfl,h1⟩:=h
  have:v.cells= #[v]:=by cases v<;>first|rfl|(simp[Value.oneCell']at h1)
  rw[this];exact jy.one (by simp[VR,h1])
 |sym k s lo hi off=>have h':=h;simp only[VR]at h;obtain⟨rfl,_⟩:=h;exact jy.one h'
 |any=>
  have h1:=h;simp only[VR]at h1
  have:v.cells= #[v]:=by cases v<;>first|rfl|(simp[Value.oneCell']at h1)
  rw[this];exact jy.one h
 |my id off n sz=>
  have h':=h;simp only[VR]at h
  rcases h with⟨_,a,rfl⟩|⟨b,s,cap,_,rfl,_⟩<;>exact jy.one h'
 |int k n=>have h':=h;simp only[VR]at h;subst h;exact jy.one h'
 |bool b=>have h':=h;simp only[VR]at h;subst h;exact jy.one h'
 |DO cs=>have h':=h;simp only[VR]at h;obtain⟨_,rfl,_⟩:=h;exact jy.one h'
 |ref id off=>have h':=h;simp only[VR]at h;obtain⟨_,_,_,rfl⟩:=h;exact jy.one h'
 |vG n cs=>have h':=h;simp only[VR]at h;obtain⟨_,_,rfl,_⟩:=h;exact jy.one h'
 |qi cs=>have h':=h;simp only[VR]at h;obtain⟨_,_,_,rfl,_⟩:=h;exact jy.one h'
 |pR=>have h':=h;simp only[VR]at h;obtain⟨_,rfl⟩:=h;exact jy.one h'
 |xr=>have h':=h;simp only[VR]at h;obtain⟨_,rfl⟩:=h;exact jy.one h'
 |fn f cap=>have h':=h;simp only[VR]at h;obtain⟨_,rfl,_⟩:=h;exact jy.one h'
theorem VR.one{g w}{a:AV}{v:Value}(h:VR g w a v)(c:kN a=true):v.oneCell'=true:=by
 cases a with
 |agg cs=>cases c
 |DO cs=>cases c
 |sc x=>simp only[VR]at h;obtain⟨rfl,h1⟩:=h;exact h1
 |sym k s lo hi off=>simp only[VR]at h;obtain⟨rfl,_⟩:=h;rfl
 |any=>simpa only[VR]using h
 |my id off n sz=>
  simp only[VR]at h
  rcases h with⟨_,a,rfl⟩|⟨b,s,cap,_,rfl,_⟩<;>rfl
 |int k n=>simp only[VR]at h;subst h;rfl
 |bool b=>simp only[VR]at h;subst h;rfl
 |ref id off=>simp only[VR]at h;obtain⟨_,_,_,rfl⟩:=h;rfl
 |vG n cs=>simp only[VR]at h;obtain⟨_,_,rfl,_⟩:=h;rfl
 |qi cs=>simp only[VR]at h;obtain⟨_,_,_,rfl,_⟩:=h;rfl
 |pR=>simp only[VR]at h;obtain⟨_,rfl⟩:=h;rfl
 |xr=>simp only[VR]at h;obtain⟨_,rfl⟩:=h;rfl
 |fn f cap=>simp only[VR]at h;obtain⟨_,rfl,_⟩:=h;rfl
theorem jy.NK{g w}: ∀ {l:List AV} {vs:List Value},jy g w l vs->jC kN l=true-> ∀ v∈vs,v.oneCell'=true
 | [],vs,h,_,v,e=>by simp only[jy]at h;subst h;cases e
 |a::l,vs,h,c,v,e=>by
  simp only[jy]at h;obtain⟨u,l',rfl,q,p⟩:=h;rw[ou]at c;simp at c;cases e with
  |head=>exact VR.one q c.1
  |tail _ e=>exact jy.NK p (by rw[ou];simpa using c.2) v e
omit [Io] in
theorem lr.drop{w:World}{b o:Nat}{vs:List Value}(h:lr w b o vs)(n:Nat):lr w b (o+n) (vs.drop n):=by
 intro j v e;rw[List.getElem?_drop]at e;have:=h (n+j) v e
 rwa [Nat.add_assoc]
omit [Io] in
theorem lr.take{w:World}{b o:Nat}{vs:List Value}(h:lr w b o vs)(n:Nat):lr w b o (vs.take n):=by
 intro j v e;rw[List.getElem?_take]at e;split at e
 ·exact h j v e
 ·cases e
theorem HC.row{g w h}(H:HC g w h){id:Nat}{cs:Rw}(e:h.cz.get id=some cs){b s:Nat}(hm:g.m id=some (b,s)):
 ∃ C,∃ el:FT C,∃ vs,w.heap[b]? =some (.cells C el.el el.fz)/\ ¬ g.mM b/\jy g w cs.toL vs/\(∀ (j:Nat) (v:Value),vs[j]? =some v->C[s+j]? =some v):=by
 obtain⟨b',s',C,el,vs,T5,hw,hi,hv,hc⟩:=H.cz id cs e;rw[hm]at T5;obtain⟨rfl,rfl⟩:=Prod.mk.inj (Option.some.inj T5);exact⟨C,el,vs,hw,hi,hv,hc⟩
theorem HR.row{g w h}(H:HR g w h){id:Nat}{cs:Rw}(e:h.cz.get id=some cs){b s:Nat}(hm:g.m id=some (b,s)):
 ∃ C,∃ el:FT C,∃ vs,w.heap[b]? =some (.cells C el.el el.fz)/\ ¬ g.mM b/\jy g w cs.toL vs/\(∀ (j:Nat) (v:Value),vs[j]? =some v->C[s+j]? =some v):=H.toHC.row e hm
omit [Io] in
theorem qu{w:World}{b s:Nat}{C:Array Value}{el fz}{vs:List Value}(hw:w.heap[b]? =some (.cells C el fz))(hc: ∀ (j:Nat) (v:Value),vs[j]? =some v->C[s+j]? =some v):
 lr w b s vs:=by
 intro j v e;simp[World.cell?,hw,hc j v e]
omit [Io] in
theorem qv{w:World}{b:Nat}{C:Array Value}{el fz}(hw:w.heap[b]? =some (.cells C el fz)):kP w b=C.size:=by
 simp[kP,hw]
def G.add(g:G)(id b:Nat):G:=⟨fun i=>if i=id then some (b,0)else g.m i,g.mM⟩
theorem KZ{g w h}(H:HR g w h){w':World}{cs:Rw}{C:Array Value}(el:FT C){vs:List Value}(h1:w'.os=w.os)(h2:w'.tape=w.tape)(h3:w'.output=w.output)(h4:w'.heap.size=w.heap.size+1)
 (hp: ∀ b,w'.heap[b]? =if b=w.heap.size then some (.cells C el.el el.fz)else w.heap[b]?)(hv:jy g w cs.toL vs)(hc: ∀ (j:Nat) (v:Value),vs[j]? =some v->C[j]? =some v):
 Ext g w h (g.add h.next w.heap.size) w' (kA h cs)/\HR (g.add h.next w.heap.size) w' (kA h cs):=by
 have hg: ∀ id,(kA h cs).cz.get id=if id=h.next then some cs else h.cz.get id:=fun id=>Tr.qO _ _ _ _
 have qF: ∀ id x,g.m id=some x->id≠h.next:=by
  intro id x e he;rw[H.fresh id (by omega)]at e;cases e
 have E:Ext g w h (g.add h.next w.heap.size) w' (kA h cs):=by
  refine⟨h1,h2,h3,by omega,Nat.le_succ _,?_,?_,?_,fun _ i=>i,fun _ i=>.inl i,?_⟩
  ·intro id x e;simp only[G.add,if_neg (qF id x e)];exact e
  ·intro b hb _;rw[hp,if_neg (by omega)]
  ·intro b;unfold kP;rw[hp];by_cases hb:b=w.heap.size
   ·subst hb;simp
   ·rw[if_neg hb];exact Nat.le_refl _
  ·rintro b ⟨id,cs',s,e,m⟩;rw[hg]at e
   by_cases qk:id=h.next
   ·subst qk;simp only[G.add,if_true]at m;obtain⟨rfl,_⟩:=Prod.mk.inj (Option.some.inj m);exact .inr (Nat.le_refl _)
   ·rw[if_neg qk]at e;simp only[G.add,if_neg qk]at m;exact .inl ⟨id,cs',s,e,m⟩
 refine⟨E,?_,?_,?_,?_,vm.ext H E⟩
 ·intro id qk
  have aFl:h.next+1<=id:=qk
  simp only[G.add];rw[if_neg (by omega)];exact H.fresh id (by omega)
 ·intro id cs' e;rw[hg]at e
  by_cases qk:id=h.next
  ·subst qk;rw[if_pos rfl]at e;obtain rfl:=Option.some.inj e;refine⟨w.heap.size,0,C,el,vs,by simp[G.add],by rw[hp,if_pos rfl],?_,jy.mono H E _ _ hv,by simpa using hc⟩;intro i;exact absurd (H.mM _ i) (by omega)
  ·rw[if_neg qk]at e;obtain⟨b,s,C',el',vs',hm,hw,hi,yJ,hc'⟩:=H.cz id cs' e;have hb:b<w.heap.size:=(Array.getElem?_eq_some_iff.1 hw).1;exact⟨b,s,C',el',vs',by simp only[G.add,if_neg qk];exact hm,by rw[hp,if_neg (by omega)];exact hw,hi,jy.mono H E _ _ yJ,hc'⟩
 ·intro id Eg b s s' PC E7 e1 e2 m1 m2;rw[hg]at e1 e2;have zj: ∀ id x b s,id≠h.next->h.cz.get id=some x->g.m id=some (b,s)->b≠w.heap.size:=by
   intro id x b s _ e m hb;obtain⟨_,_,_,hw,_⟩:=H.row e m;have:=(Array.getElem?_eq_some_iff.1 hw).1;omega
  by_cases k1:id=h.next<;>by_cases k2:Eg=h.next
  ·exact k1.trans k2.symm
  ·subst k1;rw[if_neg k2]at e2;simp only[G.add,if_true]at m1;simp only[G.add,if_neg k2]at m2;obtain⟨rfl,_⟩:=Prod.mk.inj (Option.some.inj m1);exact absurd rfl (zj Eg _ _ _ k2 e2 m2)
  ·subst k2;rw[if_neg k1]at e1;simp only[G.add,if_true]at m2;simp only[G.add,if_neg k1]at m1;obtain⟨rfl,_⟩:=Prod.mk.inj (Option.some.inj m2);exact absurd rfl (zj id _ _ _ k1 e1 m1)
  ·rw[if_neg k1]at e1;rw[if_neg k2]at e2;simp only[G.add,if_neg k1]at m1;simp only[G.add,if_neg k2]at m2;exact H.inj id Eg b s s' PC E7 e1 e2 m1 m2
 ·intro b i;have:=H.mM b i;omega
theorem Eh{g w h}(H:HR g w h){cs:Rw}{C:Array Value}(el:TypeId){vs:List Value}(hv:jy g w cs.toL vs)(hc: ∀ (j:Nat) (v:Value),vs[j]? =some v->C[j]? =some v):
 Ext g w h (g.add h.next w.heap.size) (w.alloc (.cells C el)) (kA h cs)/\HR (g.add h.next w.heap.size) (w.alloc (.cells C el)) (kA h cs):=
 KZ H (FT.nw C el) rfl rfl rfl (by show(w.heap.push _).size=_;rw[Array.size_push]) (fun b=>by
  show(w.heap.push _)[b]? =_
  rw[Array.getElem?_push];rfl) hv hc
theorem IL{g:G}{w h C el n c sz}(hn:n<=c)(hc:c*sz<=C.size):
 VR (g.add h (World.heap w).size) (w.alloc (.cells C el)) (.my h 0 n sz) (.slice (some ⟨w.heap.size,0,none⟩) n c):=by
 simp only[VR];refine .inr ⟨w.heap.size,0,c,by simp[G.add],rfl,hn,?_⟩;have:(w.alloc (.cells C el)).heap[w.heap.size]? =some (.cells C el):=by
  show(w.heap.push _)[w.heap.size]? =_;simp
 rw[qv this];omega
end Go.Ab
noncomputable section
namespace Go.Ab
variable [Io]
omit [Io] in
theorem r8(k:IntKind)(n:Int):kK k n=k.wrap n:=by
 cases k<;>simp only[kK,IntKind.wrap,IntKind.bits,IntKind.signed]
 all_goals simp
 all_goals first
  |rfl
  |(show(n+_) % _ - _=_;split<;>omega)
omit [Io] in
theorem l8{k k':IntKind}:qf k k'=true↔k=k':=by cases k<;>cases k'<;>simp[qf]
omit [Io] in
theorem pL(a b:Int):sB a b=decide (a<b):=by
 cases a<;>cases b<;>simp only[sB]
 ·rename_i a b
  by_cases h:a<b
  ·rw[show Nat.blt a b=true from by simpa[Nat.blt_eq]using h];simp;omega
  ·rw[show Nat.blt a b=false from by rw[Bool.eq_false_iff];simpa[Nat.blt_eq]using h];simp;omega
 ·simp;omega
 ·simp;omega
 ·rename_i a b
  by_cases h:b<a
  ·rw[show Nat.blt b a=true from by simpa[Nat.blt_eq]using h];simp;omega
  ·rw[show Nat.blt b a=false from by rw[Bool.eq_false_iff];simpa[Nat.blt_eq]using h];simp;omega
omit [Io] in
theorem CH(a b:Int):eqI a b=(a == b):=by
 have key:eqI a b=true↔a=b:=by
  cases a<;>cases b<;>simp[eqI];omega
 by_cases h:a=b
 ·rw[key.2 h];simp[h]
 ·rw[show eqI a b=false from by rw[Bool.eq_false_iff];exact fun e=>h (key.1 e)];simp[h]
omit [Io] in
theorem K3(k:IntKind):zx k=k.bits:=by cases k<;>rfl
omit [Io] in
theorem Bg(a b:Nat):EL a b=min a b:=by
 unfold EL;by_cases h:a<=b
 ·rw[show Nat.ble a b=true from Nat.ble_eq.mpr h];simp[Nat.min_eq_left h]
 ·rw[show Nat.ble a b=false from by rw[Bool.eq_false_iff];exact fun e=>h (Nat.ble_eq.mp e)];simp;omega
theorem PE{v:Value}{a:AV}(h:leaf v=some a)(g:G)(w:World):VR g w a v:=by
 unfold leaf at h
 split at h<;>first
  |(cases h;done)
  |(cases h;simp[VR,Value.oneCell'])
theorem yK: ∀ (l:List Value) {r:List AV},leaves l=some r-> ∀ (g:G) (w:World),jy g w r l
 | [],r,h,g,w=>by cases h;simp[jy]
 |v::l,r,h,g,w=>by
  change (match leaf v with|some a=>(match leaves l with|some r=>some (a::r)|none=>none)|none=>none)=some r at h
  cases h1:leaf v with
  |none=>rw[h1]at h;cases h
  |some a=>
   cases h2:leaves l with
   |none=>rw[h1,h2]at h;cases h
   |some r'=>
    rw[h1,h2]at h;cases h;simp only[jy];exact⟨v,l,rfl,PE h1 g w,yK l h2 g w⟩
theorem Uu{v:Value}{a:AV}(h:ofV v=some a)(g:G)(w:World):VR g w a v:=by
 unfold ofV at h;split at h
 ·split at h
  ·rename_i cs _ l e
   cases h;simp only[VR];exact⟨cs,rfl,yK _ e g w⟩
  ·cases h
 ·split at h
  ·rename_i cs _ l e
   cases h;simp only[VR];exact⟨cs,rfl,yK _ e g w⟩
  ·cases h
 ·exact PE h g w
omit [Io] in
theorem NL{s:Sem Value}{v:Value}(h:rO s=some v)(P:Program)(w:World):s.run P w=.ok v w:=by
 cases s<;>simp[rO]at h;subst h;rfl
theorem Bh{s:Sem Value}{a:AV}(h:EK (rO s)=some a)(P:Program)(g:G)(w:World): ∃ v,s.run P w=.ok v w/\VR g w a v:=by
 cases e:rO s with
 |none=>rw[e]at h;cases h
 |some v=>rw[e]at h;exact⟨v,NL e P w,Uu h g w⟩
def ain(x:Operand)(o:lT):Prop:= ∀ (g:G) (w:World) (nt:Nat) (t:Tm) (a:Act) (v:AV),TR g w nt t a.tmps->o t=some v->VR g w v (a.eval x)
def cD:Operand->lT
 | .tmp i=>oL (Nat.blt i 512) (oT i) oX
 | .const v=>match ofV v with
  |some a=>oC a
  |none=>oX
 | .global _=>oX
 | .func f=>oC (.fn f [])
theorem cH(x:Operand):ain x (cD x):=by
 intro g w nt t a v T e;cases x with
 |tmp i=>
  change oL (Nat.blt i 512) (oT i) oX t=some v at e
  cases h:Nat.blt i 512 with
  |false=>rw[h]at e;cases e
  |true=>
   rw[h]at e;exact(T.2.2 i v (by simpa[Nat.blt_eq]using h) e).2
 |const c=>
  change (match ofV c with|some a=>oC a|none=>oX) t=some v at e
  cases h:ofV c with
  |none=>simp only[h]at e;cases e
  |some x=>
   simp only[h]at e;cases e;exact Uu h g w
 |global i=>cases e
 |func f=>
  cases e;simp only[VR];exact⟨#[],rfl,by simp[jy]⟩
theorem Ei{g w nt t}{a:Act}(T:TR g w nt t a.tmps): ∀ (l:List Operand) {vs:List AV},CC (l.map cD) t=some vs->jy g w vs (l.map a.eval)
 | [],vs,e=>by cases e;simp[jy]
 |x::l,vs,e=>by
  change (Option.rec none (fun v=>Option.rec none (fun vs=>some (v::vs)) (CC (l.map cD) t)) (cD x t):Option (List AV))=some vs at e
  cases h1:cD x t with
  |none=>rw[h1]at e;cases e
  |some v=>
   cases h2:CC (l.map cD) t with
   |none=>rw[h1,h2]at e;cases e
   |some r=>
    rw[h1,h2]at e;cases e;simp only[List.map_cons,jy];exact⟨_,_,rfl,cH x _ _ _ _ _ _ T h1,Ei T l h2⟩
def jE(P:Program)(o:Oper)(f:lO):Prop:=
 ∀ (g:G) (w:World) (nt:Nat) (t:Tm) (h:Hp) (a:Act) (v:AV) (h':Hp),HC g w h->TR g w nt t a.tmps->f t h=.ok v h'->
  h'=h/\ ∃ x,(execOp a.eval o).run P w=.ok (.value x) w/\VR g w v x
section
variable {P:Program}{o:Oper}
theorem cX:jE P o jL:=by intro g w nt t h a v h' _ _ e;cases e
omit [Io] in
theorem Ac{x:lT}{t:Tm}{h h':Hp}{v:AV}(e:pW x t h=.ok v h'):x t=some v/\h'=h:=by
 unfold pW at e;cases hx:x t with
 |none=>rw[hx]at e;cases e
 |some u=>rw[hx]at e;cases e;exact⟨rfl,rfl⟩
theorem HD{x:Operand}(ho:o.op=.move x∨o.op=.assign x):jE P o (pW (cD x)):=by
 intro g w nt t h a v h' H T e;obtain⟨e2,rfl⟩:=Ac e;exact⟨rfl,a.eval x,by rcases ho with ho|ho<;>simp[execOp,ho],cH x _ _ _ _ _ _ T e2⟩
theorem Rz{c x y:Operand}(ho:o.op=.pick c x y):jE P o (xt (cD c) (cD x) (cD y)):=by
 intro g w nt t h a v h' H T e;unfold xt at e;split at e
 ·rename_i b hc
  have hb:=cH c _ _ _ _ _ _ T hc;simp only[VR]at hb;cases b
  ·obtain⟨e2,rfl⟩:=Ac e;exact⟨rfl,a.eval y,by simp[execOp,ho,asBool,hb],cH y _ _ _ _ _ _ T e2⟩
  ·obtain⟨e2,rfl⟩:=Ac e;exact⟨rfl,a.eval x,by simp[execOp,ho,asBool,hb],cH x _ _ _ _ _ _ T e2⟩
 ·cases e
theorem pure_nil{x:Operand}(ho:o.op=.nilCheck x):jE P o (EW (cD x)):=by
 intro g w nt t h a v h' H T e;unfold EW at e;split at e
 ·rename_i i q hx
  have hv:=cH x _ _ _ _ _ _ T hx;cases e;have yJ:=hv;simp only[VR]at hv;obtain⟨b,s,hm,hv⟩:=hv;exact⟨rfl,a.eval x,by simp[execOp,ho,hv],yJ⟩
 ·rename_i cs hx
  have hv:=cH x _ _ _ _ _ _ T hx;cases e;have yJ:=hv;simp only[VR]at hv;obtain⟨b,q,vs,hv,_⟩:=hv;exact⟨rfl,a.eval x,by simp[execOp,ho,hv],yJ⟩
 ·rename_i f c hx
  have hv:=cH x _ _ _ _ _ _ T hx;cases e;have yJ:=hv;simp only[VR]at hv;obtain⟨vs,hv,_⟩:=hv;exact⟨rfl,a.eval x,by simp[execOp,ho,hv],yJ⟩
 ·cases e
def j2(P:Program)(op:BinOp)(xT:TypeId)(f:AV->AV->Option AV):Prop:=
 ∀ (g:G) (w:World) (a b r:AV) (u v:Value),VR g w a u->VR g w b v->f a b=some r->
  ∃ z,(binOp op xT u v).run P w=.ok z w/\VR g w r z/\ ∀ x y,(eqGuard op xT x y u v).run P w=.ok () w
theorem Uv{op:BinOp}{xT yT:TypeId}{x y:Operand}{f:AV->AV->Option AV}(ho:o.op=.binOp op xT x y yT)(hf:j2 P op xT f):
 jE P o (xF f (cD x) (cD y)):=by
 intro g w nt t h a v h' H T e;unfold xF at e;cases hx:cD x t with
 |none=>rw[hx]at e;cases e
 |some ax=>
  cases hy:cD y t with
  |none=>rw[hx,hy]at e;cases e
  |some ay=>
   rw[hx,hy]at e;cases hr:f ax ay with
   |none=>simp only[hr]at e;cases e
   |some r=>
    simp only[hr]at e;cases e;obtain⟨z,hz,hv,hg⟩:=hf g w ax ay v _ _ (cH x _ _ _ _ _ _ T hx) (cH y _ _ _ _ _ _ T hy) hr;exact⟨rfl,z,by simp[execOp,ho,hg,hz],hv⟩
omit [Io] in
theorem xN{op:BinOp}{xT:TypeId}{k k':IntKind}{m n:Int}{w:World}(x y:Operand):(eqGuard op xT x y (.int k m) (.int k' n)).run P w=.ok () w:=by
 unfold eqGuard;split<;>simp
omit [Io] in
theorem Bi{op:BinOp}{xT:TypeId}{m n:Bool}{w:World}(x y:Operand):(eqGuard op xT x y (.bool m) (.bool n)).run P w=.ok () w:=by
 unfold eqGuard;split<;>simp
omit [Io] in
theorem xO{op:BinOp}{xT:TypeId}{m n:ByteArray}{w:World}(x y:Operand):(eqGuard op xT x y (.string m) (.string n)).run P w=.ok () w:=by
 unfold eqGuard;split<;>simp
omit [Io] in
theorem kt{op:BinOp}{xT:TypeId}{m n:Option Addr}{w:World}(x y:Operand):(eqGuard op xT x y (.pointer m) (.pointer n)).run P w=.ok () w:=by
 unfold eqGuard;split<;>simp
omit [Io] in
theorem zD{op:BinOp}{xT:TypeId}{m n:Option Addr}{a b c d:Nat}{w:World}(x y:Operand):(eqGuard op xT x y (.slice m a b) (.slice n c d)).run P w=.ok () w:=by
 unfold eqGuard;split<;>simp
omit [Io] in
theorem CI{f:IntKind->Int->Int->Option AV}{a b r:AV}(h:uG f a b=some r): ∃ k m n,a=.int k m/\b=.int k n/\f k m n=some r:=by
 unfold uG at h;split at h
 ·rename_i k m k' n
  cases e:qf k k' with
  |false=>rw[e]at h;cases h
  |true=>
   rw[e]at h;obtain rfl:=l8.1 e;exact⟨k,m,n,rfl,rfl,h⟩
 ·cases h
theorem pn{op:BinOp}{xT:TypeId}{f:IntKind->Int->Int->Option AV}
 (hf: ∀ (g:G) (w:World) k m n r,f k m n=some r-> ∃ z,(binOp op xT (.int k m) (.int k n)).run P w=.ok z w/\VR g w r z):j2 P op xT (uG f):=by
 intro g w a b r u v ha hb h;obtain⟨k,m,n,rfl,rfl,h2⟩:=CI h;simp only[VR]at ha hb;subst ha;subst hb;obtain⟨z,hz,hv⟩:=hf g w k m n r h2;exact⟨z,hz,hv,fun x y=>xN x y⟩
theorem abf(xT:TypeId):j2 P .add xT ajN:=pn fun g w k m n r h=>by
 cases h;exact⟨.int k (k.wrap (m+n)),by simp[binOp,Op.intArith],by simp only[VR,r8];rfl⟩
theorem abg(xT:TypeId):j2 P .sub xT ajO:=pn fun g w k m n r h=>by
 cases h;exact⟨.int k (k.wrap (m - n)),by simp[binOp,Op.intArith],by simp only[VR,r8];rfl⟩
theorem abh(xT:TypeId):j2 P .mul xT ajP:=pn fun g w k m n r h=>by
 cases h;exact⟨.int k (k.wrap (m*n)),by simp[binOp,Op.intArith],by simp only[VR,r8];rfl⟩
theorem abi(xT:TypeId):j2 P .quo xT aa6:=pn fun g w k m n r h=>by
 rw[CH]at h;by_cases h0:n=0
 ·subst h0;cases h
 ·rw[show(n == 0)=false from by simpa using h0]at h;cases h;exact⟨.int k (k.wrap (m.tdiv n)),by simp[binOp,Op.intDiv,h0],by simp only[VR,r8]⟩
theorem abj(xT:TypeId):j2 P .rem xT aa7:=pn fun g w k m n r h=>by
 rw[CH]at h;by_cases h0:n=0
 ·subst h0;cases h
 ·rw[show(n == 0)=false from by simpa using h0]at h;cases h;exact⟨.int k (m.tmod n),by simp[binOp,Op.intDiv,h0],by simp only[VR]⟩
omit [Io] in
theorem aio(m n:Int):(!decide (m<n))=decide (n<=m):=by by_cases h:m<n<;>simp[h]<;>omega
theorem abk(xT:TypeId):j2 P .lss xT ajQ:=pn fun g w k m n r h=>by
 cases h;exact⟨.bool (m<n),by simp[binOp,Op.intCmp],by simp only[VR,pL]⟩
theorem abl(xT:TypeId):j2 P .gtr xT ajS:=pn fun g w k m n r h=>by
 cases h;exact⟨.bool (m>n),by simp[binOp,Op.intCmp],by simp only[VR,pL]⟩
theorem abm(xT:TypeId):j2 P .leq xT ajR:=pn fun g w k m n r h=>by
 cases h;exact⟨.bool (m<=n),by simp[binOp,Op.intCmp],by simp only[VR,pL,aio]⟩
theorem abn(xT:TypeId):j2 P .geq xT ajT:=pn fun g w k m n r h=>by
 cases h;exact⟨.bool (m≥n),by simp[binOp,Op.intCmp],by simp only[VR,pL,aio]⟩
theorem abo(xT:TypeId):j2 P .eql xT (Uo false):=pn fun g w k m n r h=>by
 cases h;exact⟨.bool (m == n),by simp[binOp,Op.intCmp],by simp only[VR,CH];rfl⟩
theorem abp(xT:TypeId):j2 P .neq xT (Uo true):=pn fun g w k m n r h=>by
 cases h;exact⟨.bool (m != n),by simp[binOp,Op.intCmp],by simp only[VR,CH];rfl⟩
end
omit [Io] in
theorem xP{a:AV}(h:isNil a=true):a=.sc (.slice none 0 0):=by
 unfold isNil at h;split at h
 ·rw[Bool.and_eq_true]at h;rw[Nat.eq_of_beq_eq_true h.1,Nat.eq_of_beq_eq_true h.2]
 ·cases h
theorem E8{a:AV}(h:z9 a=true){g:G}{w:World}{v:Value}(hv:VR g w a v): ∃ b,v=.slice b 0 0:=by
 unfold z9 at h;split at h
 ·simp only[VR]at hv;obtain⟨b,rfl⟩:=hv;exact⟨_,rfl⟩
 ·rw[xP h]at hv;simp only[VR]at hv;exact⟨none,hv.1⟩
theorem NM{a:AV}{g:G}{w:World}{v:Value}(hv:VR g w a v):VR g w (Ct a) v:=by
 unfold Ct;cases h:z9 a with
 |true=>
  simp only[cond_true,VR];exact E8 h hv
 |false=>exact hv
omit [Io] in
theorem abq{x:lT}{t:Tm}{v:AV}(e:wO x t=some v): ∃ a,x t=some a/\v=Ct a:=by
 unfold wO at e;cases h:x t with
 |none=>rw[h]at e;cases e
 |some a=>rw[h]at e;cases e;exact⟨a,rfl,rfl⟩
theorem ov(x:Operand):ain x (wO (cD x)):=by
 intro g w nt t a v T e;obtain⟨b,hb,rfl⟩:=abq e;exact NM (cH x _ _ _ _ _ _ T hb)
theorem ajY{a:AV}(h:isZ a=true){g:G}{w:World}{v:Value}(hv:VR g w a v): ∃ b c,v=.slice b 0 c:=by
 unfold isZ at h;split at h
 ·simp only[VR]at hv;obtain⟨b,rfl⟩:=hv;exact⟨_,_,rfl⟩
 ·simp only[VR]at hv;obtain⟨b,rfl⟩:=hv;exact⟨_,_,rfl⟩
 ·obtain rfl:=Nat.eq_of_beq_eq_true h;simp only[VR]at hv
  rcases hv with⟨_,b,rfl⟩|⟨b,s,cap,_,rfl,_⟩
  ·exact⟨_,_,rfl⟩
  ·exact⟨_,_,rfl⟩
 ·obtain rfl:=Nat.eq_of_beq_eq_true h;simp only[VR]at hv;obtain⟨b,cap,rfl,_⟩:=hv;exact⟨_,_,rfl⟩
 ·rw[xP h]at hv;simp only[VR]at hv;exact⟨none,0,hv.1⟩
theorem PF{a:AV}{c:Bool}(h:IF a=some c){g:G}{w:World}{v:Value}(hv:VR g w a v): ∃ b n m,v=.slice b n m/\c=b.isNone:=by
 unfold IF at h;cases hn:isNil a with
 |true=>
  rw[hn]at h;cases h;rw[xP hn]at hv;simp only[VR]at hv;exact⟨none,0,0,hv.1,rfl⟩
 |false=>
  rw[hn]at h;simp only[cond_false]at h;split at h
  ·cases h;simp only[VR]at hv;obtain⟨b,rfl⟩:=hv;exact⟨_,_,_,rfl,rfl⟩
  ·cases h;simp only[VR]at hv
   rcases hv with⟨_,b,rfl⟩|⟨b,s,cap,_,rfl,_⟩
   ·exact⟨_,_,_,rfl,rfl⟩
   ·exact⟨_,_,_,rfl,rfl⟩
  ·rename_i n cs
   cases h0:Nat.beq n 0 with
   |true=>rw[h0]at h;cases h
   |false=>
    rw[h0]at h;cases h;simp only[VR]at hv;obtain⟨b,cap,rfl,_,⟨rfl,_⟩|⟨_,_,_,rfl,_⟩⟩:=hv
    ·cases h0
    ·exact⟨_,_,_,rfl,rfl⟩
  ·cases h
end Go.Ab
noncomputable section
namespace Go.Ab
variable [Io]
section
variable {P:Program}{o:Oper}
omit [Io] in
theorem tz{k:IntKind}{a:Nat}(h:a<zh k):(BitVec.ofInt k.bits (.ofNat a)).toNat=a:=by
 rw[show(Int.ofNat a)=((a:Nat):Int)from rfl,BitVec.ofInt_natCast,BitVec.toNat_ofNat];apply Nat.mod_eq_of_lt;cases k<;>simp only[zh,IntKind.bits]at h ⊢ <;>omega
omit [Io] in
theorem Uw{k:IntKind}{a:Nat}(h:a<zh k):(a:Int)<2 ^ k.bits/\(k.signed=true->(a:Int)<2 ^ (k.bits - 1)):=by
 cases k<;>simp only[zh,IntKind.bits,IntKind.signed]at h ⊢ <;>constructor<;>first|omega|(intro _;omega)|(intro h;cases h)
omit [Io] in
theorem E9{k:IntKind}{a:Nat}(h:a<zh k):k.wrap ((a:Nat):Int)=(a:Int):=by
 obtain⟨h1,h2⟩:=Uw h;have e:(a:Int) % (2 ^ k.bits:Int)=a:=Int.emod_eq_of_lt (by omega) h1;unfold IntKind.wrap;simp only[e];rw[if_neg];intro c;simp only[Bool.and_eq_true,decide_eq_true_eq]at c;have:=h2 c.1;omega
omit [Io] in
theorem abr{k:IntKind}{a b:Nat}(h:a<zh k):a &&& b<zh k:=Nat.lt_of_le_of_lt Nat.and_le_left h
omit [Io] in
theorem PG(k:IntKind): ∃ n,zh k=2 ^ n:=by
 cases k with
 |i8=>exact⟨7,rfl⟩
 |i16=>exact⟨15,rfl⟩
 |i32=>exact⟨31,rfl⟩
 |i64=>exact⟨63,rfl⟩
 |u8=>exact⟨8,rfl⟩
 |u16=>exact⟨16,rfl⟩
 |u32=>exact⟨32,rfl⟩
 |u64=>exact⟨64,rfl⟩
omit [Io] in
theorem ajZ{k:IntKind}{a b:Nat}(h:a<zh k)(h2:b<zh k):a ||| b<zh k:=by
 obtain⟨n,e⟩:=PG k;rw[e]at h h2 ⊢;exact Nat.or_lt_two_pow h h2
omit [Io] in
theorem abt{k:IntKind}{a b:Nat}(h:a<zh k)(h2:b<zh k):a ^^^ b<zh k:=by
 obtain⟨n,e⟩:=PG k;rw[e]at h h2 ⊢;exact Nat.xor_lt_two_pow h h2
theorem IM{op:BinOp}{f:Nat->Nat->Nat}{xT:TypeId}(hop: ∀ k m n,binOp op xT (.int k m) (.int k n)=Op.intBits op k m n)
 (hf: ∀ (w:World) k a b,a<zh k->b<zh k->(Op.intBits op k (.ofNat a) (.ofNat b)).run P w=.ok (.int k (.ofNat (f a b))) w):j2 P op xT (HA op f):=by
 refine pn fun g w k m n r h=>?_
 rw[hop];split at h
 ·rename_i a b
  cases e:(Nat.blt a (zh k)&&Nat.blt b (zh k))with
  |true=>
   rw[e]at h;cases h;simp[Nat.blt_eq]at e;exact⟨_,hf w k a b e.1 e.2,by simp only[VR]⟩
  |false=>
   rw[e]at h;obtain⟨z,hz,hv⟩:=Bh h P g w;exact⟨z,hz,hv⟩
 ·obtain⟨z,hz,hv⟩:=Bh h P g w;exact⟨z,hz,hv⟩
theorem abu(xT:TypeId):j2 P .and xT aa8:=IM (fun k m n=>by simp[binOp]) (fun w k a b ha hb=>by
 have e:k.wrap (((a &&& b:Nat):Int))=((a &&& b:Nat):Int):=E9 (abr ha);simp only[Op.intBits,Sem.run_pure,BitVec.toNat_and,tz ha,tz hb,e]
 rfl)
theorem aj0(xT:TypeId):j2 P .or xT bOr:=IM (fun k m n=>by simp[binOp]) (fun w k a b ha hb=>by
 have e:k.wrap (((a ||| b:Nat):Int))=((a ||| b:Nat):Int):=E9 (ajZ ha hb);simp only[Op.intBits,Sem.run_pure,BitVec.toNat_or,tz ha,tz hb,e]
 rfl)
theorem abv(xT:TypeId):j2 P .xor xT aa9:=IM (fun k m n=>by simp[binOp]) (fun w k a b ha hb=>by
 have e:k.wrap (((a ^^^ b:Nat):Int))=((a ^^^ b:Nat):Int):=E9 (abt ha hb);simp only[Op.intBits,Sem.run_pure,BitVec.toNat_xor,tz ha,tz hb,e]
 rfl)
theorem NN(xT:TypeId):j2 P .andNot xT sR:=pn fun g w k m n r h=>by
 rw[show binOp .andNot xT (.int k m) (.int k n)=Op.intBits .andNot k m n from by simp[binOp]];exact Bh h P g w
theorem abw(xT:TypeId):j2 P .shl xT ND:=by
 intro g w a b r u v ha hb h;unfold ND at h;split at h
 ·rename_i k m k' n
  simp only[VR]at ha hb;subst ha;subst hb;cases h;refine⟨.int k (k.wrap (m*2 ^ min n k.bits)),by
   have: ¬ ((n:Nat):Int)<0:=by omega
   show(binOp .shl xT (.int k m) (.int k' ((n:Nat):Int))).run P w=_
   simp[binOp,Op.shift,this],?_,fun x y=>xN x y⟩
  simp only[VR,r8,Bg,K3];rfl
 ·cases h
theorem abx(xT:TypeId):j2 P .shr xT NF:=by
 intro g w a b r u v ha hb h;unfold NF at h;split at h
 ·rename_i k m k' n
  simp only[VR]at ha hb;subst ha;subst hb;cases h;refine⟨.int k (m.fdiv (2 ^ min n k.bits)),by
   have: ¬ ((n:Nat):Int)<0:=by omega
   show(binOp .shr xT (.int k m) (.int k' ((n:Nat):Int))).run P w=_
   simp[binOp,Op.shift,this],?_,fun x y=>xN x y⟩
  simp only[VR,Bg,K3];rfl
 ·cases h
omit [Io] in
theorem yL{xT:TypeId}{w:World}{x y:Value}{b:Bool}(h: ∀ d,(Op.equalIn (d+1) xT x y).run P w=.ok b w):(Op.equal xT x y).run P w=.ok b w:=h 9999
omit [Io] in
theorem Fa{xT:TypeId}{w:World}(a b:Bool)(h:P.underlying xT=some .bool):(Op.equal xT (.bool a) (.bool b)).run P w=.ok (a == b) w:=
 yL fun d=>by simp[Op.equalIn,run_underlying h]
omit [Io] in
theorem Ux{xT:TypeId}{w:World}(a b:Bool)(h:P.underlying xT=some .bool):(binOp .eql xT (.bool a) (.bool b)).run P w=.ok (.bool (a == b)) w:=by
 show(do pure (.bool (<-Op.equal xT (.bool a) (.bool b))):Sem Value).run P w=_;simp[Fa a b h]
omit [Io] in
theorem Uy{xT:TypeId}{w:World}(a b:Bool)(h:P.underlying xT=some .bool):(binOp .neq xT (.bool a) (.bool b)).run P w=.ok (.bool (!(a == b))) w:=by
 show(do pure (.bool (!(<-Op.equal xT (.bool a) (.bool b)))):Sem Value).run P w=_;simp only[Sem.run_bind,Fa a b h,Result.andThen_ok,Sem.run_pure]
theorem aby{xT:TypeId}(hT:P.underlying xT=some .bool):j2 P .eql xT (KT false):=by
 intro g w a b r u v ha hb h;unfold KT at h;split at h
 ·rename_i m n
  simp only[VR]at ha hb;subst ha;subst hb;cases h;exact⟨_,Ux m n hT,by simp only[VR];cases m<;>cases n<;>rfl,fun x y=>Bi x y⟩
 ·cases h
theorem abz{xT:TypeId}(hT:P.underlying xT=some .bool):j2 P .neq xT (KT true):=by
 intro g w a b r u v ha hb h;unfold KT at h;split at h
 ·rename_i m n
  simp only[VR]at ha hb;subst ha;subst hb;cases h;exact⟨_,Uy m n hT,by simp only[VR];cases m<;>cases n<;>rfl,fun x y=>Bi x y⟩
 ·cases h
theorem abA(xT:TypeId):j2 P .eql xT (IG false):=by
 intro g w a b r u v ha hb h;unfold IG at h;split at h
 ·rename_i m n
  simp only[VR]at ha hb;obtain⟨rfl,_⟩:=ha;obtain⟨rfl,_⟩:=hb;cases h;exact⟨.bool (m.toList == n.toList),by simp[binOp,Op.stringOp],by simp only[VR];rfl,fun x y=>xO x y⟩
 ·cases h
theorem abB(xT:TypeId):j2 P .neq xT (IG true):=by
 intro g w a b r u v ha hb h;unfold IG at h;split at h
 ·rename_i m n
  simp only[VR]at ha hb;obtain⟨rfl,_⟩:=ha;obtain⟨rfl,_⟩:=hb;cases h;exact⟨.bool (!(m.toList == n.toList)),by simp[binOp,Op.stringOp],by simp only[VR];rfl,fun x y=>xO x y⟩
 ·cases h
omit [Io] in
theorem HE{xT e:TypeId}{w:World}(p:Option Addr)(h:P.underlying xT=some (.pointer e)):(Op.equal xT (.pointer p) (.pointer none)).run P w=.ok p.isNone w:=
 yL fun d=>by cases p<;>simp[Op.equalIn,run_underlying h]
omit [Io] in
theorem HG{xT e:TypeId}{w:World}(p:Option Addr)(h:P.underlying xT=some (.pointer e)):(Op.equal xT (.pointer none) (.pointer p)).run P w=.ok p.isNone w:=
 yL fun d=>by cases p<;>simp[Op.equalIn,run_underlying h]
omit [Io] in
theorem IP{xT e:TypeId}{w:World}(p:Option Addr)(h:P.underlying xT=some (.pointer e)):(binOp .eql xT (.pointer p) (.pointer none)).run P w=.ok (.bool p.isNone) w:=by
 show(do pure (.bool (<-Op.equal xT (.pointer p) (.pointer none))):Sem Value).run P w=_;simp only[Sem.run_bind,HE p h,Result.andThen_ok,Sem.run_pure]
omit [Io] in
theorem IU{xT e:TypeId}{w:World}(p:Option Addr)(h:P.underlying xT=some (.pointer e)):(binOp .neq xT (.pointer p) (.pointer none)).run P w=.ok (.bool (!p.isNone)) w:=by
 show(do pure (.bool (!(<-Op.equal xT (.pointer p) (.pointer none)))):Sem Value).run P w=_;simp only[Sem.run_bind,HE p h,Result.andThen_ok,Sem.run_pure]
omit [Io] in
theorem IV{xT e:TypeId}{w:World}(p:Option Addr)(h:P.underlying xT=some (.pointer e)):(binOp .eql xT (.pointer none) (.pointer p)).run P w=.ok (.bool p.isNone) w:=by
 cases p with
 |none=>exact IP none h
 |some a=>
  show(do pure (.bool (<-Op.equal xT (.pointer none) (.pointer (some a)))):Sem Value).run P w=_;simp only[Sem.run_bind,HG (some a) h,Result.andThen_ok,Sem.run_pure]
omit [Io] in
theorem IW{xT e:TypeId}{w:World}(p:Option Addr)(h:P.underlying xT=some (.pointer e)):(binOp .neq xT (.pointer none) (.pointer p)).run P w=.ok (.bool (!p.isNone)) w:=by
 cases p with
 |none=>exact IU none h
 |some a=>
  show(do pure (.bool (!(<-Op.equal xT (.pointer none) (.pointer (some a))))):Sem Value).run P w=_;simp only[Sem.run_bind,HG (some a) h,Result.andThen_ok,Sem.run_pure]
theorem abC{xT e:TypeId}(hT:P.underlying xT=some (.pointer e)):j2 P .eql xT (II false):=by
 intro g w a b r u v ha hb h;unfold II at h
 split at h<;>try (cases h;done)
 all_goals
  simp only[VR]at ha hb;cases h
 ·obtain⟨_,_,_,rfl⟩:=ha;obtain⟨rfl,_⟩:=hb;exact⟨_,IP _ hT,by simp[VR],fun x y=>kt x y⟩
 ·obtain⟨_,_,_,rfl,_⟩:=ha;obtain⟨rfl,_⟩:=hb;exact⟨_,IP _ hT,by simp[VR],fun x y=>kt x y⟩
 ·obtain⟨rfl,_⟩:=ha;obtain⟨_,_,_,rfl⟩:=hb;exact⟨_,IV _ hT,by simp[VR],fun x y=>kt x y⟩
 ·obtain⟨rfl,_⟩:=ha;obtain⟨_,_,_,rfl,_⟩:=hb;exact⟨_,IV _ hT,by simp[VR],fun x y=>kt x y⟩
 ·obtain⟨rfl,_⟩:=ha;obtain⟨rfl,_⟩:=hb;exact⟨_,IV _ hT,by simp[VR],fun x y=>kt x y⟩
theorem abD{xT e:TypeId}(hT:P.underlying xT=some (.pointer e)):j2 P .neq xT (II true):=by
 intro g w a b r u v ha hb h;unfold II at h
 split at h<;>try (cases h;done)
 all_goals
  simp only[VR]at ha hb;cases h
 ·obtain⟨_,_,_,rfl⟩:=ha;obtain⟨rfl,_⟩:=hb;exact⟨_,IU _ hT,by simp[VR],fun x y=>kt x y⟩
 ·obtain⟨_,_,_,rfl,_⟩:=ha;obtain⟨rfl,_⟩:=hb;exact⟨_,IU _ hT,by simp[VR],fun x y=>kt x y⟩
 ·obtain⟨rfl,_⟩:=ha;obtain⟨_,_,_,rfl⟩:=hb;exact⟨_,IW _ hT,by simp[VR],fun x y=>kt x y⟩
 ·obtain⟨rfl,_⟩:=ha;obtain⟨_,_,_,rfl,_⟩:=hb;exact⟨_,IW _ hT,by simp[VR],fun x y=>kt x y⟩
 ·obtain⟨rfl,_⟩:=ha;obtain⟨rfl,_⟩:=hb;exact⟨_,IW _ hT,by simp[VR],fun x y=>kt x y⟩
omit [Io] in
theorem Fc{xT e:TypeId}{w:World}(p:Option Addr)(n m:Nat)(h:P.underlying xT=some (.slice e)):(Op.equal xT (.slice p n m) (.slice none 0 0)).run P w=.ok p.isNone w:=
 yL fun d=>by cases p<;>simp[Op.equalIn,run_underlying h]
theorem abE{xT e:TypeId}(hT:P.underlying xT=some (.slice e)):j2 P .eql xT (EM false):=by
 intro g w a b r u v ha hb h;unfold EM at h;cases hn:isNil b with
 |false=>rw[hn]at h;cases h
 |true=>
  rw[hn]at h;simp only[cond_true]at h;rw[xP hn]at hb;simp only[VR]at hb;obtain⟨rfl,_⟩:=hb;cases hc:IF a with
  |none=>rw[hc]at h;cases h
  |some c=>
   rw[hc]at h;cases h;obtain⟨p,n,m,rfl,rfl⟩:=PF hc ha;refine⟨.bool p.isNone,?_,by simp[VR],fun x y=>zD x y⟩;show(do pure (.bool (<-Op.equal xT (.slice p n m) (.slice none 0 0))):Sem Value).run P w=_;simp only[Sem.run_bind,Fc p n m hT,Result.andThen_ok,Sem.run_pure]
theorem abF{xT e:TypeId}(hT:P.underlying xT=some (.slice e)):j2 P .neq xT (EM true):=by
 intro g w a b r u v ha hb h;unfold EM at h;cases hn:isNil b with
 |false=>rw[hn]at h;cases h
 |true=>
  rw[hn]at h;simp only[cond_true]at h;rw[xP hn]at hb;simp only[VR]at hb;obtain⟨rfl,_⟩:=hb;cases hc:IF a with
  |none=>rw[hc]at h;cases h
  |some c=>
   rw[hc]at h;cases h;obtain⟨p,n,m,rfl,rfl⟩:=PF hc ha;refine⟨.bool (!p.isNone),?_,by simp[VR],fun x y=>zD x y⟩;show(do pure (.bool (!(<-Op.equal xT (.slice p n m) (.slice none 0 0)))):Sem Value).run P w=_;simp only[Sem.run_bind,Fc p n m hT,Result.andThen_ok,Sem.run_pure]
omit [Io] in
theorem Bj{f:AV->Option AV}{x:lT}{t:Tm}{h h':Hp}{v:AV}(e:KV f x t h=.ok v h'): ∃ b,x t=some b/\f b=some v/\h'=h:=by
 unfold KV at e;cases hx:x t with
 |none=>rw[hx]at e;cases e
 |some u=>
  rw[hx]at e;cases hr:f u with
  |none=>simp only[hr]at e;cases e
  |some r=>simp only[hr]at e;cases e;exact⟨u,rfl,hr,rfl⟩
theorem Uz{T:TypeId}{x:Operand}(ho:o.op=.unOp .not T x):jE P o (KV Rp (cD x)):=by
 intro g w nt t h a v h' H Tr e;obtain⟨b,hb,hf,rfl⟩:=Bj e;have hv:=cH x _ _ _ _ _ _ Tr hb;unfold Rp at hf;split at hf
 ·rename_i b
  cases hf;simp only[VR]at hv;exact⟨rfl,.bool (!b),by simp[execOp,ho,hv,Op.unary],by simp only[VR]⟩
 ·cases hf
omit [Io] in
theorem UA(k:IntKind)(n:Int):loK k<=kK k n/\kK k n<=hiK k:=by
 cases k<;>simp only[loK,hiK,kK]<;>
  first
   |(show _<=n % _/\n % _<=_;omega)
   |(show _<=(n+_) % _ - _/\(n+_) % _ - _<=_;omega)
theorem UB{g:G}{w:World}{x:AV}{v:Value}{k:IntKind}{s:SV}{o l u:Int}(h:atS x=some (k,s,o,l,u))(hx:VR g w x v):
 v=.int k (oO s+o)/\l<=oO s+o/\oO s+o<=u:=by
 unfold atS at h;split at h
 ·cases h;simp only[VR]at hx;subst hx;simp only[oO,Int.add_zero];exact⟨trivial,Int.le_refl _,Int.le_refl _⟩
 ·rename_i k' s' lo hi o'
  cases h;simp only[VR]at hx;obtain⟨rfl,h1,h2⟩:=hx;exact⟨rfl,by show lo+o<=_;omega,by show _<=hi+o;omega⟩
 ·cases h
theorem arx{g:G}{w:World}{f:Nat}{k k':IntKind}{m r:Int}{x v:AV}(h:t1 f k x=some v)(hx:VR g w x (.int k' m))(hf:opF f k m 0=some (.int k r))(h1:loK k<=r)(h2:r<=hiK k):
 VR g w v (.int k r):=by
 unfold t1 at h;split at h
 ·rename_i kk s o l u hs
  cases h;obtain⟨e,_,_⟩:=UB hs hx;obtain⟨_,e⟩:=Value.int.inj e;have e2:oO (.tm f k kk s o (.con 0) 0)=r:=by
   show tmF f k (oO s+o) (0+0)=r;rw[<-e];unfold tmF;rw[show(0:Int)+0=0 from rfl,hf]
  simp only[VR];rw[e2];exact⟨by rw[Int.add_zero],h1,h2⟩
 ·cases h
theorem UC{T:TypeId}{x:Operand}(ho:o.op=.unOp .neg T x):jE P o (KV Rq (cD x)):=by
 intro g w nt t h a v h' H Tr e;obtain⟨b,hb,hf,rfl⟩:=Bj e;have hv:=cH x _ _ _ _ _ _ Tr hb;unfold Rq at hf;cases hr:Pz b with
 |some r=>
  rw[hr]at hf;cases hf;unfold Pz at hr;split at hr
  ·rename_i k n
   cases hr;simp only[VR]at hv;exact⟨rfl,.int k (k.wrap (0 - n)),by simp[execOp,ho,hv,Op.unary,Op.intArith],by simp only[VR,r8];rfl⟩
  ·cases hr
 |none=>
  rw[hr]at hf
  change (match atS b with|some (k,_,_,_,_)=>t1 10 k b|none=>none)=some v at hf
  split at hf
  ·rename_i k s o' l u hs
   obtain⟨e1,_,_⟩:=UB hs hv;rw[e1]at hv;have hw:=UA k (0 - (oO s+o'));refine⟨rfl,.int k (k.wrap (0 - (oO s+o'))),by simp[execOp,ho,e1,Op.unary,Op.intArith],?_⟩;rw[<-r8];exact arx hf hv rfl hw.1 hw.2
  ·cases hf
theorem UD{T:TypeId}{x:Operand}(ho:o.op=.unOp .xor T x):jE P o (KV NH (cD x)):=by
 intro g w nt t h a v h' H Tr e;obtain⟨b,hb,hf,rfl⟩:=Bj e;have hv:=cH x _ _ _ _ _ _ Tr hb;unfold NH at hf;split at hf
 ·rename_i k n
  simp only[VR]at hv;obtain⟨z,hz,hr⟩:=Bh hf P g w;exact⟨rfl,z,by simp[execOp,ho,hv,hz],hr⟩
 ·cases hf
theorem abG{f:FuncId}{caps:Array Operand}(ho:o.op=.makeFunc (.func f) #[] caps):jE P o (kFn f (caps.toList.map cD)):=by
 intro g w nt t h a v h' H T e;unfold kFn at e;split at e
 ·rename_i vs lP
  cases e;refine⟨rfl,.func (.func f) #[] (caps.map a.eval),by simp[execOp,ho,Instr.makeFunc],?_⟩;simp only[VR];exact⟨_,rfl,by simpa using Ei T caps.toList lP⟩
 ·cases e
theorem IX{x:Operand}{i:Nat}(ho:o.op=.extract x i):jE P o (oN (cD x) i):=by
 intro g w nt t h a v h' H T e;unfold oN at e;split at e
 ·rename_i vs hx
  have hv:=cH x _ _ _ _ _ _ T hx;simp only[VR]at hv;obtain⟨us,hu,hr⟩:=hv;split at e
  ·rename_i r hg
   cases e;rw[nQ]at hg;obtain⟨z,hz,PH⟩:=jy.get hr i _ hg;exact⟨rfl,z,by simp[execOp,ho,Instr.extract,hu,by simpa using hz],PH⟩
  ·cases e
 ·cases e
theorem RA{x:Operand}{T:TypeId}(ho:o.op=.call {callee:=.builtin .len,args:= #[x],argTypes:= #[T]})(hT:P.underlying T=some .string):
 jE P o (xu (cD x)):=by
 intro g w nt t h a v h' H Tr e;unfold xu at e;split at e
 ·rename_i s hx
  have hv:=cH x _ _ _ _ _ _ Tr hx;simp only[VR]at hv;cases e;exact⟨rfl,.int .i64 s.size,by simp[execOp,ho,resolve,invoke,builtin,Builtin.len_,hv.1,run_underlying hT,goInt],by simp only[VR];rfl⟩
 ·cases e
theorem RB{x:Operand}{T e:TypeId}{n:Nat}(ho:o.op=.call {callee:=.builtin .len,args:= #[x],argTypes:= #[T]})(hT:P.underlying T=some (.array n e)):
 jE P o (pW (oC (.int .i64 (.ofNat n)))):=by
 intro g w nt t h a v h' H Tr e;cases e;exact⟨rfl,.int .i64 n,by simp[execOp,ho,resolve,invoke,builtin,Builtin.len_,run_underlying hT,goInt],by simp only[VR];rfl⟩
theorem UE{x:Operand}{T e:TypeId}(ho:o.op=.call {callee:=.builtin .len,args:= #[x],argTypes:= #[T]})(hT:P.underlying T=some (.slice e)):
 jE P o (EZ (wO (cD x))):=by
 intro g w nt t h a v h' H Tr e;have sl: ∀ b n c,a.eval x=.slice b n c->(execOp a.eval o).run P w=.ok (.value (.int .i64 n)) w:=by
  intro b n c hx;simp[execOp,ho,resolve,invoke,builtin,Builtin.len_,hx,run_underlying hT,goInt]
 unfold EZ at e;split at e
 ·rename_i id off n sz hx
  have hv:=ov x _ _ _ _ _ _ Tr hx;simp only[VR]at hv;cases e
  rcases hv with⟨rfl,b,hv⟩|⟨b,s,cap,_,hv,_⟩
  ·exact⟨rfl,_,sl _ _ _ hv,by simp only[VR];rfl⟩
  ·exact⟨rfl,_,sl _ _ _ hv,by simp only[VR];rfl⟩
 ·rename_i n cs hx
  have hv:=ov x _ _ _ _ _ _ Tr hx;simp only[VR]at hv;cases e;obtain⟨b,cap,hv,_⟩:=hv;exact⟨rfl,_,sl _ _ _ hv,by simp only[VR];rfl⟩
 ·rename_i hx
  have hv:=ov x _ _ _ _ _ _ Tr hx;simp only[VR]at hv;cases e;obtain⟨b,hv⟩:=hv;exact⟨rfl,_,sl _ _ _ hv,by simp only[VR];rfl⟩
 ·cases e
theorem UG{x:Operand}{T e:TypeId}(ho:o.op=.call {callee:=.builtin .cap,args:= #[x],argTypes:= #[T]})(hT:P.underlying T=some (.slice e)):
 jE P o (EY (wO (cD x))):=by
 intro g w nt t h a v h' H Tr e;unfold EY at e;split at e
 ·rename_i hx
  have hv:=ov x _ _ _ _ _ _ Tr hx;simp only[VR]at hv;cases e;obtain⟨b,hv⟩:=hv;exact⟨rfl,.int .i64 0,by simp[execOp,ho,resolve,invoke,builtin,Builtin.cap_,hv,run_underlying hT,goInt],by simp only[VR]⟩
 ·cases e
end
end Go.Ab
noncomputable section
namespace Go.Ab
variable [Io]
section
variable {P:Program}{o:Oper}
omit [Io] in
theorem oP(b o n:Nat):(⟨b,o,none⟩:Addr).add n=⟨b,o+n,none⟩:=by unfold Addr.add;split<;>simp_all
def qQ:TypeDesc->Bool
 | .struct _| .array _ _=>true
 | _=>false
omit [Io] in
theorem vK{T:TypeId}{d:TypeDesc}{w:World}(h:P.underlying T=some d):(isAgg T).run P w=.ok (qQ d) w:=by
 unfold isAgg;simp only[Sem.run_bind,run_underlying h,Result.andThen_ok];cases d<;>rfl
omit [Io] in
theorem HH{agg:Bool}{cs:List AV}{off size:Nat}{v:AV}(h:part agg cs off size=some v):
 ((cs.drop off).take size).length=size/\((agg=true/\v=.agg ((cs.drop off).take size))∨(agg=false/\(cs.drop off).take size=[v])):=by
 unfold part at h;split at h
 ·cases h
 ·rename_i l e
  obtain⟨rfl,hl⟩:=sU e;cases agg with
  |true=>cases h;exact⟨hl,.inl ⟨rfl,rfl⟩⟩
  |false=>
   change (match(cs.drop off).take size with| [c]=>some c| _=>none)=some v at h
   split at h
   ·rename_i c e2
    cases h;exact⟨hl,.inr ⟨rfl,e2⟩⟩
   ·cases h
theorem uO{T:TypeId}{d:TypeDesc}{i:TypeInfo}{g:G}{w:World}{cs:List AV}{vs:List Value}{b s off:Nat}{v:AV}
 (hd:P.underlying T=some d)(hi:P.info? T=some i)(hv:jy g w cs vs)(hc:lr w b s vs)(h:part (qQ d) cs off i.size=some v):
 ∃ x,(loadVar T ⟨b,s+off,none⟩).run P w=.ok x w/\VR g w v x:=by
 obtain⟨hl,h⟩:=HH h;have lP:jy g w ((cs.drop off).take i.size) ((vs.drop off).take i.size):=(hv.drop off).take _;have vL:lr w b (s+off) ((vs.drop off).take i.size):=(hc.drop off).take _
 have hlen:((vs.drop off).take i.size).length=i.size:=by rw[lP.length,hl]
 have wH:(sizeOf T).run P w=.ok i.size w:=by simp[sizeOf,typeInfo,hi]
 rcases h with⟨ha,rfl⟩|⟨ha,h⟩
 ·have hr:=run_loadCells_list (P:=P) w ⟨b,s+off,none⟩ ((vs.drop off).take i.size) (fun j v e=>by rw[oP];exact vL j v e);rw[hlen]at hr;refine⟨.agg ((vs.drop off).take i.size).toArray,?_,?_⟩
  ·unfold loadVar;simp only[Sem.run_bind,vK hd,ha,Result.andThen_ok,if_true,wH,hr,Sem.run_pure]
  ·simp only[VR];exact⟨_,rfl,by simpa using lP⟩
 ·rw[h]at lP;simp only[jy]at lP;obtain⟨x,l',e,hx,rfl⟩:=lP;have:=vL 0 x (by rw[e];rfl);refine⟨x,?_,hx⟩;unfold loadVar;simp only[Sem.run_bind,vK hd,ha,Result.andThen_ok];simp only[Nat.add_zero]at this;simp[run_load,this]
theorem RC{T:TypeId}{d:TypeDesc}{i:TypeInfo}{x:Operand}(ho:o.op=.load T x)(hd:P.underlying T=some d)(hi:P.info? T=some i):
 jE P o (r7 i.size (qQ d) (cD x)):=by
 intro g w nt t h a v h' H Tr e;unfold r7 at e;split at e
 ·rename_i av hx
  split at e
  ·rename_i r hr
   cases e;have hv:=cH x _ _ _ _ _ _ Tr hx;unfold ET at hr;split at hr
   ·rename_i id off
    split at hr
    ·rename_i cs hg
     simp only[VR]at hv;obtain⟨b,s,hm,hv⟩:=hv;obtain⟨C,el,vs,hw,_,lP,hc⟩:=H.row hg hm;obtain⟨z,hz,hr⟩:=uO hd hi lP (qu hw hc) (E6 hr);exact⟨rfl,z,by simp[execOp,ho,Instr.loadAt,Instr.sureAddr,hv,hz],hr⟩
    ·cases hr
   ·rename_i cs
    simp only[VR]at hv;obtain⟨b,s,vs,hv,_,hc,lP⟩:=hv;obtain⟨z,hz,hr⟩:=uO hd hi lP hc hr;rw[Nat.add_zero]at hz;exact⟨rfl,z,by simp[execOp,ho,Instr.loadAt,Instr.sureAddr,hv,hz],hr⟩
   ·cases hr
  ·cases e
 ·cases e
theorem VR.CJ{g w cs b s vs}(i:g.mM b)(hc:lr w b s vs)(hv:jy g w cs vs)(n:Nat):
 VR g w (.qi (cs.drop n)) (.pointer (some ⟨b,s+n,none⟩)):=by
 simp only[VR];exact⟨b,s+n,vs.drop n,rfl,i,hc.drop n,hv.drop n⟩
theorem Fe{T:TypeId}{fs:Array Field}{n:Nat}{f:Field}{i:TypeInfo}{x:Operand}(ho:o.op=.fieldAddr T x n)
 (hd:P.underlying T=some (.struct fs))(hf:fs[n]? =some f)(hi:P.info? f.type=some i)(h0:i.size≠0):jE P o (kO f.offset (cD x)):=by
 intro g w nt t h a v h' H Tr e;have rI: ∀ b s,a.eval x=.pointer (some ⟨b,s,none⟩)->(execOp a.eval o).run P w=.ok (.value (.pointer (some ⟨b,s+f.offset,none⟩))) w:=by
  intro b s hx;simp[execOp,ho,hx,Instr.fieldAt,run_underlying hd,hf,Instr.sureAddr,fieldPlace,sizeOf,typeInfo,hi,h0,oP]
 unfold kO at e;split at e
 ·rename_i id off hx
  have hv:=cH x _ _ _ _ _ _ Tr hx;cases e;simp only[VR]at hv;obtain⟨b,s,hm,hv⟩:=hv;refine⟨rfl,_,rI _ _ hv,?_⟩;simp only[VR];exact⟨b,s,hm,by rw[Nat.add_assoc];rfl⟩
 ·rename_i cs hx
  have hv:=cH x _ _ _ _ _ _ Tr hx;cases e;simp only[VR]at hv;obtain⟨b,s,vs,hv,hi,hc,lP⟩:=hv;refine⟨rfl,_,rI _ _ hv,?_⟩;rw[qP];exact VR.CJ hi hc lP _
 ·cases e
theorem K4{T:TypeId}{d:TypeDesc}{i:TypeInfo}{g:G}{w:World}{cs:List AV}{vs:Array Value}{off:Nat}{v:AV}
 (hd:P.underlying T=some d)(hi:P.info? T=some i)(hv:jy g w cs vs.toList)(h:part (qQ d) cs off i.size=some v):
 ∃ x,(Go.part T vs off).run P w=.ok x w/\VR g w v x:=by
 obtain⟨hl,h⟩:=HH h;have lP:jy g w ((cs.drop off).take i.size) ((vs.toList.drop off).take i.size):=(hv.drop off).take _
 have wH:(sizeOf T).run P w=.ok i.size w:=by simp[sizeOf,typeInfo,hi]
 rcases h with⟨ha,rfl⟩|⟨ha,h⟩
 ·refine⟨.agg (vs.extract off (off+i.size)),?_,?_⟩
  ·unfold Go.part;simp only[Sem.run_bind,vK hd,ha,Result.andThen_ok,if_true,wH,Sem.run_pure]
  ·simp only[VR];refine⟨_,rfl,?_⟩;have:(vs.extract off (off+i.size)).toList=(vs.toList.drop off).take i.size:=by
    rw[Array.toList_extract];simp[List.extract]
   rw[this];exact lP
 ·rw[h]at lP;simp only[jy]at lP;obtain⟨x,l',e,hx,rfl⟩:=lP;have hx0:vs[off]? =some x:=by
   have:((vs.toList.drop off).take i.size)[0]? =some x:=by rw[e];rfl
   rw[List.getElem?_take]at this;split at this
   ·simpa using this
   ·cases this
  refine⟨x,?_,hx⟩;unfold Go.part;simp only[Sem.run_bind,vK hd,ha,Result.andThen_ok];simp[hx0]
theorem NO{T:TypeId}{fs:Array Field}{n:Nat}{f:Field}{d:TypeDesc}{i:TypeInfo}{x:Operand}(ho:o.op=.field T x n)
 (hd:P.underlying T=some (.struct fs))(hf:fs[n]? =some f)(PJ:P.underlying f.type=some d)(hi:P.info? f.type=some i):
 jE P o (tJ f.offset i.size (qQ d) (cD x)):=by
 intro g w nt t h a v h' H Tr e;unfold tJ at e;split at e
 ·rename_i cs hx
  split at e
  ·rename_i r hr
   cases e;have hv:=cH x _ _ _ _ _ _ Tr hx;simp only[VR]at hv;obtain⟨vs,hv,lP⟩:=hv;obtain⟨z,hz,hr⟩:=K4 PJ hi lP hr;exact⟨rfl,z,by simp[execOp,ho,hv,Instr.field,run_underlying hd,hf,asAgg,hz],hr⟩
  ·cases e
 ·cases e
omit [Io] in
theorem jn{a b:Nat}:Nat.blt a b=true↔a<b:=by simp[Nat.blt_eq]
theorem UH{T e:TypeId}{i:TypeInfo}{x y:Operand}(ho:o.op=.indexAddr T x y)(hd:P.underlying T=some (.slice e))(hi:P.info? e=some i):
 jE P o (A' i.size (cD x) (cD y)):=by
 intro g w nt t h a v h' H Tr e
 have rI: ∀ b s n c k (j:Nat),a.eval x=.slice (some ⟨b,s,none⟩) n c->a.eval y=.int k j->j<n->
  (execOp a.eval o).run P w=.ok (.value (.pointer (some ⟨b,s+j*i.size,none⟩))) w:=by
  intro b s n c k j hx hy hj
  have hn: ¬ n<=j:=by omega
  simp[execOp,ho,hx,hy,Instr.indexAt,run_underlying hd,asIntOf,hn,sizeOf,typeInfo,hi,oP]
 unfold A' at e;split at e
 ·rename_i k j hy
  have Ej:=cH y _ _ _ _ _ _ Tr hy;simp only[VR]at Ej;split at e
  ·rename_i id off n sz hx
   have hv:=cH x _ _ _ _ _ _ Tr hx;cases hb:(Nat.blt j n&&Nat.beq sz i.size)with
   |false=>rw[hb]at e;cases e
   |true=>
    rw[hb]at e;cases e;simp only[Bool.and_eq_true]at hb;have hj:=jn.1 hb.1;obtain rfl:=Nat.eq_of_beq_eq_true hb.2;simp only[VR]at hv
    rcases hv with⟨h0,_⟩|⟨b,s,cap,hm,hv,_,_⟩
    ·omega
    ·refine⟨rfl,_,rI _ _ _ _ _ _ hv Ej hj,?_⟩;simp only[VR];exact⟨b,s,hm,by rw[Nat.add_assoc];rfl⟩
  ·rename_i n cs hx
   have hv:=cH x _ _ _ _ _ _ Tr hx;cases hb:Nat.blt j n with
   |false=>rw[hb]at e;cases e
   |true=>
    rw[hb]at e;cases e;have hj:=jn.1 hb;simp only[VR]at hv;obtain⟨q,c,hv,hc,hr⟩:=hv
    rcases hr with⟨h0,_⟩|⟨b,s,vs,rfl,A7,vL,lP⟩
    ·omega
    ·refine⟨rfl,_,rI _ _ _ _ _ _ hv Ej hj,?_⟩;rw[qP];exact VR.CJ A7 vL lP _
  ·cases e
 ·cases e
theorem UI{T e:TypeId}{n:Nat}{i:TypeInfo}{x y:Operand}(ho:o.op=.indexAddr T x y)(hd:P.underlying T=some (.array n e))(hi:P.info? e=some i):
 jE P o (zi n i.size (cD x) (cD y)):=by
 intro g w nt t h a v h' H Tr e
 have rI: ∀ b s k (j:Nat),a.eval x=.pointer (some ⟨b,s,none⟩)->a.eval y=.int k j->j<n->
  (execOp a.eval o).run P w=.ok (.value (.pointer (some ⟨b,s+j*i.size,none⟩))) w:=by
  intro b s k j hx hy hj
  have hn: ¬ n<=j:=by omega
  simp[execOp,ho,hx,hy,Instr.indexAt,Instr.sureAddr,run_underlying hd,asIntOf,hn,sizeOf,typeInfo,hi,oP]
 unfold zi at e;split at e
 ·rename_i k j hy
  have Ej:=cH y _ _ _ _ _ _ Tr hy;simp only[VR]at Ej;split at e
  ·rename_i id off hx
   have hv:=cH x _ _ _ _ _ _ Tr hx;cases hb:Nat.blt j n with
   |false=>rw[hb]at e;cases e
   |true=>
    rw[hb]at e;cases e;simp only[VR]at hv;obtain⟨b,s,hm,hv⟩:=hv;refine⟨rfl,_,rI _ _ _ _ hv Ej (jn.1 hb),?_⟩;simp only[VR];exact⟨b,s,hm,by rw[Nat.add_assoc];rfl⟩
  ·rename_i cs hx
   have hv:=cH x _ _ _ _ _ _ Tr hx;cases hb:Nat.blt j n with
   |false=>rw[hb]at e;cases e
   |true=>
    rw[hb]at e;cases e;simp only[VR]at hv;obtain⟨b,s,vs,hv,A7,hc,lP⟩:=hv;refine⟨rfl,_,rI _ _ _ _ hv Ej (jn.1 hb),?_⟩;rw[qP];exact VR.CJ A7 hc lP _
  ·cases e
 ·cases e
theorem NP{T e:TypeId}{n:Nat}{d:TypeDesc}{i:TypeInfo}{x y:Operand}(ho:o.op=.index T x y)(hd:P.underlying T=some (.array n e))
 (PJ:P.underlying e=some d)(hi:P.info? e=some i):jE P o (sE n i.size (qQ d) (cD x) (cD y)):=by
 intro g w nt t h a v h' H Tr e;unfold sE at e;split at e
 ·rename_i cs hx
  split at e
  ·rename_i k j hy
   have Ej:=cH y _ _ _ _ _ _ Tr hy;simp only[VR]at Ej;have hv:=cH x _ _ _ _ _ _ Tr hx;simp only[VR]at hv;obtain⟨vs,hv,lP⟩:=hv;cases hb:Nat.blt j n with
   |false=>rw[hb]at e;cases e
   |true=>
    rw[hb]at e
    change (match part (qQ d) cs (j*i.size) i.size with|some v=>Ro.ok v h|none=>.bad)=.ok v h' at e
    split at e
    ·rename_i r hr
     cases e;obtain⟨z,hz,hr⟩:=K4 PJ hi lP hr
     have hn: ¬ n<=j:=by have:=jn.1 hb;omega
     have aj1:a.eval y=.int k ((j:Nat):Int):=Ej;exact⟨rfl,z,by simp[execOp,ho,hv,aj1,Instr.index,run_underlying hd,asIntOf,hn,sizeOf,typeInfo,hi,hz],hr⟩
    ·cases e
  ·cases e
 ·cases e
theorem K5{T:TypeId}{x y:Operand}(ho:o.op=.index T x y)(hd:P.underlying T=some .string):jE P o (qL (cD x) (cD y)):=by
 intro g w nt t h a v h' H Tr e;unfold qL at e;split at e
 ·rename_i s hx
  split at e
  ·rename_i k j hy
   have Ej:=cH y _ _ _ _ _ _ Tr hy;simp only[VR]at Ej;have aj1:a.eval y=.int k ((j:Nat):Int):=Ej;have hv:=cH x _ _ _ _ _ _ Tr hx;simp only[VR]at hv;split at e
   ·rename_i b hb
    cases e;rw[nQ]at hb;have HI:s[j]? =some b:=by
     have:s.data[j]? =some b:=by simpa using hb
     obtain⟨hj,e⟩:=Array.getElem?_eq_some_iff.1 this;rw[getElem?_pos s j hj];exact congrArg some e
    exact⟨rfl,.int .u8 b.toNat,by simp[execOp,ho,hv.1,aj1,Instr.index,run_underlying hd,asIntOf,HI],by simp only[VR]⟩
   ·cases e
  ·rename_i k sv lo hi o hy
   have Ej:=cH y _ _ _ _ _ _ Tr hy;simp only[VR]at Ej;obtain⟨Ej,h1,h2⟩:=Ej;have hv:=cH x _ _ _ _ _ _ Tr hx;simp only[VR]at hv;cases hc:(!(sB (Int.add lo o) 0)&&sB (Int.add hi o) (.ofNat s.size))with
   |false=>rw[hc]at e;cases e
   |true=>
    rw[hc]at e;cases e;rw[pL,pL]at hc;have h3:(0:Int)<=lo+o:=by
     have:Int.add lo o=lo+o:=rfl;simp[this]at hc;omega
    have h4:hi+o<(s.size:Int):=by
     have:Int.add hi o=hi+o:=rfl;simp[this]at hc;omega
    obtain⟨j,hj⟩: ∃ j:Nat,oO sv+o=(j:Int):=⟨(oO sv+o).toNat,by omega⟩
    have hjs:j<s.size:=by omega
    rw[hj]at Ej;have HI:s[j]? =some s[j]:=getElem?_pos s j hjs;refine⟨rfl,.int .u8 (s[j]).toNat,by simp[execOp,ho,hv.1,Ej,Instr.index,run_underlying hd,asIntOf,HI],?_⟩;have PJ:(s.data.toList.map UInt8.toNat).getD j 0=(s[j]).toNat:=by
     have hjd:j<s.data.size:=hjs;have e1:(s.data.toList.map UInt8.toNat)[j]? =some (s[j]).toNat:=by
      rw[List.getElem?_map,Array.getElem?_toList,getElem?_pos s.data j hjd];rfl
     rw[List.getD,e1];rfl
    have nM:(s[j]).toNat<256:=UInt8.toNat_lt _;simp only[VR,oO];rw[hj,Int.toNat_natCast,PJ];exact⟨by rw[Int.add_zero],by omega,by omega⟩
  ·cases e
 ·cases e
theorem Dy{x:Option Operand}{t:Tm}{d n:Nat}{g w nt}{a:Act}(T:TR g w nt t a.tmps)(h:vj (x.map cD) t d=some n):
 (x=none/\n=d)∨ ∃ y k,x=some y/\a.eval y=.int k ((n:Nat):Int):=by
 cases x with
 |none=>exact .inl ⟨rfl,by simpa[vj]using h.symm⟩
 |some y=>
  simp only[Option.map_some,vj]at h;split at h
  ·rename_i k m hy
   cases h;have hv:=cH y _ _ _ _ _ _ T hy;simp only[VR]at hv;exact .inr ⟨y,k,rfl,hv⟩
  ·cases h
theorem qw{lo hi:Option Operand}{t:Tm}{n l e:Nat}{g w nt}{a:Act}(T:TR g w nt t a.tmps)(h:bounds (lo.map cD) (hi.map cD) t n=some (l,e)):
 l<=e/\e<=n/\((lo=none/\l=0)∨ ∃ y k,lo=some y/\a.eval y=.int k ((l:Nat):Int))/\((hi=none/\e=n)∨ ∃ y k,hi=some y/\a.eval y=.int k ((e:Nat):Int)):=by
 unfold bounds at h;split at h
 ·rename_i l' hl
  split at h
  ·rename_i e' he
   cases hb:(Nat.ble l' e'&&Nat.ble e' n)with
   |false=>rw[hb]at h;cases h
   |true=>
    rw[hb]at h;cases h;simp only[Bool.and_eq_true,Nat.ble_eq]at hb;exact⟨hb.1,hb.2,Dy T hl,Dy T he⟩
  ·cases h
 ·cases h
omit [Io] in
theorem wM{w:World}{isS:Bool}{len cap l e:Nat}{lo hi:Option Value}(h1:l<=e)(h2:e<=cap)
 (hlo:(lo=none/\l=0)∨ ∃ k,lo=some (.int k ((l:Nat):Int)))(hhi:(hi=none/\e=len)∨ ∃ k,hi=some (.int k ((e:Nat):Int))):
 (Instr.sliceBounds isS len cap lo hi none).run P w=.ok (l,e,cap) w:=by
 have b1: ¬ cap<e:=by omega
 have b2: ¬ e<l:=by omega
 rcases hlo with⟨rfl,rfl⟩|⟨k,rfl⟩<;>rcases hhi with⟨rfl,rfl⟩|⟨k',rfl⟩<;>
  simp[Instr.sliceBounds,Instr.sliceBound,asIntOf,Nat.not_lt.1 b1,Nat.not_lt.1 b2]
omit [Io] in
theorem xQ{a:Act}{lo:Option Operand}{l d:Nat}(h:(lo=none/\l=d)∨ ∃ y k,lo=some y/\a.eval y=.int k ((l:Nat):Int)):
 (lo.map a.eval=none/\l=d)∨ ∃ k,lo.map a.eval=some (.int k ((l:Nat):Int)):=by
 rcases h with⟨rfl,rfl⟩|⟨y,k,rfl,e⟩
 ·exact .inl ⟨rfl,rfl⟩
 ·exact .inr ⟨k,by simp[e]⟩
theorem K6{T:TypeId}{x:Operand}{lo hi:Option Operand}(ho:o.op=.slice T x lo hi none)(hd:P.underlying T=some .string):
 jE P o (qK (cD x) (lo.map cD) (hi.map cD)):=by
 intro g w nt t h a v h' H Tr e;unfold qK at e;split at e
 ·rename_i s hx
  have hv:=cH x _ _ _ _ _ _ Tr hx;simp only[VR]at hv;split at e
  ·rename_i l e' hb
   cases e;obtain⟨h1,h2,h3,h4⟩:=qw Tr hb;have hr:=wM (P:=P) (w:=w) (isS:=false) h1 h2 (xQ h3) (xQ h4);exact⟨rfl,.string (s.extract l e'),by simp[execOp,ho,hv.1,Instr.sliceAt,Instr.slice,run_underlying hd,hr],by simp[VR,Value.oneCell']⟩
  ·cases e
 ·cases e
theorem NQ{T el:TypeId}{i:TypeInfo}{x:Operand}{lo hi:Option Operand}(ho:o.op=.slice T x lo hi none)(hd:P.underlying T=some (.slice el))(A7:P.info? el=some i):
 jE P o (vk i.size (cD x) (lo.map cD) (hi.map cD)):=by
 intro g w nt t h a v h' H Tr e
 have wH:(sizeOf el).run P w=.ok i.size w:=by simp[sizeOf,typeInfo,A7]
 have rI: ∀ b n c l u,a.eval x=.slice b n c->l<=u->u<=c->((lo=none/\l=0)∨ ∃ y k,lo=some y/\a.eval y=.int k ((l:Nat):Int))->
  ((hi=none/\u=n)∨ ∃ y k,hi=some y/\a.eval y=.int k ((u:Nat):Int))->
  (execOp a.eval o).run P w=.ok (.value (.slice (if c=l then b else b.map (·.add (l*i.size))) (u - l) (c - l))) w:=by
  intro b n c l u hx h1 h2 h3 h4;have hr:=wM (P:=P) (w:=w) (isS:=true) h1 h2 (xQ h3) (xQ h4);simp[execOp,ho,hx,Instr.sliceAt,Instr.slice,run_underlying hd,hr,wH]
 unfold vk at e;split at e
 ·rename_i hx
  have hv:=cH x _ _ _ _ _ _ Tr hx;simp only[VR]at hv;obtain⟨b,hv⟩:=hv;split at e
  ·rename_i p hb
   obtain⟨l,u⟩:=p;cases e;obtain⟨h1,h2,h3,h4⟩:=qw Tr hb;refine⟨rfl,_,rI _ _ _ _ _ hv h1 h2 h3 h4,?_⟩
   obtain rfl:l=0:=by omega
   obtain rfl:u=0:=by omega
   simp only[VR];exact⟨_,rfl⟩
  ·cases e
 ·rename_i id off n sz hx
  have hv:=cH x _ _ _ _ _ _ Tr hx;simp only[VR]at hv;split at e
  ·rename_i l u hb
   cases hz:Nat.beq sz i.size with
   |false=>rw[hz]at e;cases e
   |true=>
    rw[hz]at e;cases e;obtain rfl:=Nat.eq_of_beq_eq_true hz;obtain⟨h1,h2,h3,h4⟩:=qw Tr hb
    rcases hv with⟨rfl,b,hv⟩|⟨b,s,cap,hm,hv,hc,hr⟩
    ·refine⟨rfl,_,rI _ _ _ _ _ hv h1 h2 h3 h4,?_⟩
     obtain rfl:l=0:=by omega
     obtain rfl:u=0:=by omega
     simp only[VR];exact .inl ⟨by first|trivial|rfl,b,by simp⟩
    ·refine⟨rfl,_,rI _ _ _ _ _ hv h1 (by omega) h3 h4,?_⟩;simp only[VR];by_cases nq:cap=l
     ·refine .inl ⟨by show u - l=0;omega,⟨b,s+off,none⟩,?_⟩;rw[show u - l=0 by omega,show cap - l=0 by omega,if_pos nq]
     ·refine .inr ⟨b,s,cap - l,hm,?_,by show u - l<=_;omega,?_⟩
      ·rw[if_neg nq];simp only[Option.map_some,oP];congr 3
       show s+off+l*i.size=s+(off+l*i.size)
       omega
      ·show s+(off+l*i.size)+(cap - l)*i.size<=_
       have:(cap - l)*i.size+l*i.size=cap*i.size:=by rw[<-Nat.add_mul];congr 1;omega
       omega
  ·cases e
 ·rename_i n cs hx
  have hv:=cH x _ _ _ _ _ _ Tr hx;simp only[VR]at hv;obtain⟨b,cap,hv,hc,hr⟩:=hv;split at e
  ·rename_i l u hb
   cases e;obtain⟨h1,h2,h3,h4⟩:=qw Tr hb;refine⟨rfl,_,rI _ _ _ _ _ hv h1 (by omega) h3 h4,?_⟩;simp only[VR,xM,qP];refine⟨_,cap - l,rfl,by show u - l<=_;omega,?_⟩
   rcases hr with⟨rfl,rfl⟩|⟨q,s,vs,rfl,RD,vL,lP⟩
   ·exact .inl ⟨by show u - l=0;omega,by simp⟩
   ·by_cases nq:cap=l
    ·exact .inl ⟨by show u - l=0;omega,by
      show List.take ((u - l)*i.size) _=[]
      rw[show u - l=0 by omega];simp⟩
    ·refine .inr ⟨q,s+l*i.size,_,?_,RD,(vL.drop (l*i.size)).take ((u - l)*i.size),(lP.drop (l*i.size)).take ((u - l)*i.size)⟩;rw[if_neg nq];simp only[Option.map_some,oP]
  ·cases e
 ·cases e
theorem K7{T el:TypeId}{i:TypeInfo}{x:Operand}{lo hi:Option Operand}(ho:o.op=.slice T x lo hi none)(hd:P.underlying T=some (.slice el))(A7:P.info? el=some i):
 jE P o (mQ i.size (cD x) (lo.map cD) (hi.map cD)):=by
 intro g w nt t h a v h' H Tr e;unfold mQ at e;split at e
 ·rename_i av hx
  cases hE:z9 av with
  |false=>rw[hE]at e;exact NQ ho hd A7 g w nt t h a v h' H Tr e
  |true=>
   rw[hE]at e;simp only[cond_true]at e;split at e
   ·rename_i p hb
    obtain⟨l,u⟩:=p;cases e;have hv:=cH x _ _ _ _ _ _ Tr hx;have yJ:=hv;obtain⟨b,hv⟩:=E8 hE hv;obtain⟨h1,h2,h3,h4⟩:=qw Tr hb
    obtain rfl:l=0:=by omega
    obtain rfl:u=0:=by omega
    have hr:=wM (P:=P) (w:=w) (isS:=true) (len:=0) h1 h2 (xQ h3) (xQ h4)
    have wH:(sizeOf el).run P w=.ok i.size w:=by simp[sizeOf,typeInfo,A7]
    exact⟨rfl,a.eval x,by simp[execOp,ho,hv,Instr.sliceAt,Instr.slice,run_underlying hd,hr,wH],yJ⟩
   ·cases e
 ·cases e
theorem jy.xR{g w}{cs:List AV}{vs:List Value}{s:Nat}{C:Array Value}(hv:jy g w cs vs)(hc: ∀ (j:Nat) (v:Value),vs[j]? =some v->C[s+j]? =some v){n:Nat}
 (hn:n<=cs.length)(h0:n≠0):s+n<=C.size:=by
 have hl:=hv.length
 have hj:n - 1<vs.length:=by omega
 have:=hc (n - 1) _ (List.getElem?_eq_getElem hj);have:=(Array.getElem?_eq_some_iff.1 this).1;omega
theorem K8{T el:TypeId}{n:Nat}{i:TypeInfo}{x:Operand}{lo hi:Option Operand}(ho:o.op=.slice T x lo hi none)(hd:P.underlying T=some (.array n el))(A7:P.info? el=some i)(h0:i.size≠0):
 jE P o (ph n i.size (cD x) (lo.map cD) (hi.map cD)):=by
 intro g w nt t h a v h' H Tr e
 have wH:(sizeOf el).run P w=.ok i.size w:=by simp[sizeOf,typeInfo,A7]
 unfold ph at e;split at e
 ·rename_i id off hx
  have hv:=cH x _ _ _ _ _ _ Tr hx;simp only[VR]at hv;obtain⟨b,s,hm,hv⟩:=hv;split at e
  ·rename_i l u hb
   split at e
   ·rename_i cs hg
    cases hz:Nat.ble (Nat.add off (Nat.mul n i.size)) cs.n with
    |false=>rw[hz]at e;cases e
    |true=>
     rw[hz]at e;cases e
     have hz':off+n*i.size<=cs.toL.length:=by rw[lI];exact Nat.ble_eq.mp hz
     obtain⟨h1,h2,h3,h4⟩:=qw Tr hb;have hr:=wM (P:=P) (w:=w) (isS:=false) h1 h2 (xQ h3) (xQ h4);refine⟨rfl,.slice (some (if n=l then⟨b,s+off,none⟩else(⟨b,s+off,none⟩:Addr).add (l*i.size))) (u - l) (n - l),?_,?_⟩
     ·simp[execOp,ho,hv,Instr.sliceAt,Instr.sureAddr,run_underlying hd,hr,wH]
     ·obtain⟨C,el',vs,hw,_,lP,hc⟩:=H.row hg hm;simp only[VR];by_cases nq:n=l
      ·refine .inl ⟨by show u - l=0;omega,(if n=l then⟨b,s+off,none⟩else(⟨b,s+off,none⟩:Addr).add (l*i.size)),?_⟩;rw[show u - l=0 by omega,show n - l=0 by omega]
      ·have h00:(n - l)*i.size≠0:=Nat.mul_ne_zero (by omega) h0;refine .inr ⟨b,s,n - l,hm,?_,by show u - l<=_;omega,?_⟩
       ·rw[if_neg nq,oP];congr 3
        show s+off+l*i.size=s+(off+l*i.size)
        omega
       ·rw[qv hw];show s+(off+l*i.size)+(n - l)*i.size<=_
        have e1:(n - l)*i.size+l*i.size=n*i.size:=by rw[<-Nat.add_mul];congr 1;omega
        have:=jy.xR lP hc hz' (by omega);omega
   ·cases e
  ·cases e
 ·cases e
end
end Go.Ab
