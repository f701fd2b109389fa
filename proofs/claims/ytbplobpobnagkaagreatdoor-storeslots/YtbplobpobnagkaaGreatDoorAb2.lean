import Derived.Test.YtbplobpobnagkaaGreatDoorAb0
import Derived.Laws.Tables
noncomputable section
namespace Go.Ab
variable [Io]
omit [Io] in
theorem bp{α:Type}(l r:List α):app l r=l++r:=by
 induction l with
 |nil=>rfl
 |cons a l ih=>exact congrArg (a:: ·) ih
omit [Io] in
theorem QE{α:Type}(l:List α): ∀ n,(List.rec (motive:=fun _=>Nat->Nat) (fun n=>n) (fun _ _ ih n=>ih (Nat.add n 1)) l:Nat->Nat) n=n+l.length:=by
 induction l with
 |nil=>intro n;rfl
 |cons a l ih=>intro n;refine(ih (n+1)).trans ?_;simp;omega
omit [Io] in
theorem bW{α:Type}(l:List α):len l=l.length:=(QE l 0).trans (Nat.zero_add _)
omit [Io] in
theorem qO{α:Type}(l:List α): ∀ n,tk n l=l.take n:=by
 induction l with
 |nil=>intro n;cases n<;>rfl
 |cons a l ih=>intro n;cases n with
  |zero=>rfl
  |succ n=>exact congrArg (a:: ·) (ih n)
omit [Io] in
theorem j3{α:Type}(l:List α): ∀ n,dp n l=l.drop n:=by
 induction l with
 |nil=>intro n;cases n<;>rfl
 |cons a l ih=>intro n;cases n with
  |zero=>rfl
  |succ n=>exact ih n
omit [Io] in
theorem gH{α:Type}(l:List α): ∀ n,lr l n=l[n]? :=by
 induction l with
 |nil=>intro n;rfl
 |cons a l ih=>intro n;cases n with
  |zero=>rfl
  |succ n=>refine(ih n).trans ?_;simp
omit [Io] in
theorem g5{α:Type}(p:α->Bool)(l:List α):cu p l=l.all p:=by
 induction l with
 |nil=>rfl
 |cons a l ih=>show(bif p a then cu p l else false)=_;rw[ih];cases h:p a<;>simp[h]
omit [Io] in
theorem put_eq(cs:List AV)(off:Nat)(new:List AV):put cs off new=cs.take off++(new++cs.drop (off+new.length)):=by
 unfold put;rw[bp,bp,qO,j3,bW];rfl
omit [Io] in
theorem lP{cs:List AV}{off n:Nat}{l:List AV}(h:xf cs off n=some l):l=(cs.drop off).take n/\l.length=n:=by
 change (bif Nat.beq (len (tk n (dp off cs))) n then some (tk n (dp off cs))else none)=some l at h
 rw[qO,j3,bW]at h
 by_cases e:(List.take n (List.drop off cs)).length=n
 ·rw[show Nat.beq (List.take n (List.drop off cs)).length n=true from Nat.beq_eq.mpr e]at h
  obtain rfl:=Option.some.inj h
  exact⟨rfl,e⟩
 ·rw[show Nat.beq (List.take n (List.drop off cs)).length n=false from Bool.eq_false_iff.mpr (fun k=>e (Nat.eq_of_beq_eq_true k))]at h
  cases h
omit [Io] in
theorem vy(r:Rw): ∀ k i,(r.cells k i).length=k
 |0,_=>rfl
 |k+1,i=>by show(r.cell i::r.cells k (i+1)).length=_;rw[List.length_cons,vy r k (i+1)]
omit [Io] in
theorem vz(r:Rw): ∀ (k i j:Nat),(r.cells k i)[j]? =if j<k then some (r.cell (i+j))else none
 |0,i,j=>by show([]:List AV)[j]? =_;simp
 |k+1,i,0=>by show(r.cell i::r.cells k (i+1))[0]? =_;simp
 |k+1,i,j+1=>by
  show(r.cell i::r.cells k (i+1))[j+1]? =_
  rw[List.getElem?_cons_succ,vz r k (i+1) j,show i+1+j=i+(j+1) by omega]
  by_cases h:j<k
  ·rw[if_pos h,if_pos (by omega)]
  ·rw[if_neg h,if_neg (by omega)]
omit [Io] in
theorem eO(r:Rw):r.toL.length=r.n:=vy r r.n 0
omit [Io] in
theorem nu(r:Rw)(j:Nat):r.toL[j]? =if j<r.n then some (r.cell j)else none:=by
 unfold Rw.toL;rw[vz,Nat.zero_add]
omit [Io] in
theorem jH: ∀ (l:List AV) (i:Nat) (t:Tr AV) (j:Nat),(mE l i t).get j=if i<=j/\j<i+l.length then l[j - i]? else t.get j
 | [],i,t,j=>by show t.get j=_;rw[if_neg (by simp)]
 |a::l,i,t,j=>by
  show(mE l (i+1) (t.set i (some a))).get j=_
  rw[jH l (i+1) _ j,Tr.j2]
  simp only[List.length_cons]
  by_cases h:i=j
  ·subst h
   rw[if_neg (by omega),if_pos rfl,if_pos (by omega),Nat.sub_self]
   rfl
  ·by_cases h2:i+1<=j/\j<i+1+l.length
   ·rw[if_pos h2,if_pos (by omega),show j - i=(j - (i+1))+1 by omega,List.getElem?_cons_succ]
   ·rw[if_neg h2,if_neg (fun e=>h e.symm),if_neg (by omega)]
omit [Io] in
theorem vA{r:Rw}{i:Nat}{v:AV}(h:r.t.get i=some v):r.cell i=v:=by unfold Rw.cell;rw[h]
omit [Io] in
theorem A5{r r':Rw}{i:Nat}(h:r.t.get i=r'.t.get i)(hd:r.d=r'.d):r.cell i=r'.cell i:=by unfold Rw.cell;rw[h,hd]
omit [Io] in
theorem iO(l:List AV):(xe l).toL=l:=by
 apply List.ext_getElem?
 intro j
 rw[nu]
 show(if j<len l then _ else _)=_
 rw[bW]
 by_cases h:j<l.length
 ·rw[if_pos h,vA (v:=l[j])]
  ·rw[List.getElem?_eq_getElem h]
  ·show(mE l 0 .nil).get j=_
   rw[jH,if_pos (by omega),Nat.sub_zero,List.getElem?_eq_getElem h]
 ·rw[if_neg h,List.getElem?_eq_none (by omega)]
omit [Io] in
theorem mG{r:Rw}{off k:Nat}{l:List AV}(h:r.lO off k=some l):l=(r.toL.drop off).take k/\l.length=k/\off+k<=r.n:=by
 unfold Rw.lO at h
 cases hb:Nat.ble (Nat.add off k) r.n with
 |false=>rw[hb]at h;cases h
 |true=>
  rw[hb]at h
  cases h
  have hle:off+k<=r.n:=Nat.le_of_ble_eq_true hb
  refine⟨?_,vy r k off,hle⟩
  apply List.ext_getElem?
  intro j
  rw[vz,List.getElem?_take,List.getElem?_drop,nu]
  by_cases h:j<k
  ·rw[if_pos h,if_pos h,if_pos (by omega)]
  ·rw[if_neg h,if_neg h]
omit [Io] in
theorem CI{r:Rw}{off k:Nat}{l:List AV}(h:r.lO off k=some l):xf r.toL off k=some l:=by
 obtain⟨rfl,hl,_⟩:=mG h
 change (bif Nat.beq (len (tk k (dp off r.toL))) k then some (tk k (dp off r.toL))else none)=_
 rw[qO,j3,bW,hl,Nat.beq_refl]
 rfl
omit [Io] in
theorem xI{agg:Bool}{r:Rw}{off size:Nat}{v:AV}(h:sE agg r off size=some v):part agg r.toL off size=some v:=by
 unfold sE at h
 split at h
 ·cases h
 ·rename_i l e
  unfold part
  rw[CI e]
  exact h
omit [Io] in
theorem ub{r:Rw}{off:Nat}{l:List AV}(h:off+l.length<=r.n):(r.put off l).toL=put r.toL off l:=by
 rw[put_eq]
 apply List.ext_getElem?
 intro j
 rw[nu]
 show(if j<r.n then some ((r.put off l).cell j)else none)=_
 have hl:=eO r
 by_cases h1:j<off
 ·rw[if_pos (by omega),List.getElem?_append_left (by rw[List.length_take];omega),List.getElem?_take,if_pos h1,nu,if_pos (by omega)]
  congr 1
  refine A5 ?_ rfl
  show(mE l off r.t).get j=_
  rw[jH,if_neg (by omega)]
 ·rw[List.getElem?_append_right (by rw[List.length_take];omega),List.length_take,hl,Nat.min_eq_left (by omega)]
  by_cases h2:j<off+l.length
  ·rw[if_pos (by omega),List.getElem?_append_left (by omega),List.getElem?_eq_getElem (by omega)]
   congr 1
   refine vA ?_
   show(mE l off r.t).get j=_
   rw[jH,if_pos (by omega),List.getElem?_eq_getElem (by omega)]
  ·rw[List.getElem?_append_right (by omega),List.getElem?_drop,show off+l.length+(j - off - l.length)=j by omega,nu]
   by_cases h3:j<r.n
   ·rw[if_pos h3,if_pos h3]
    congr 1
    refine A5 ?_ rfl
    show(mE l off r.t).get j=_
    rw[jH,if_neg (by omega)]
   ·rw[if_neg h3,if_neg h3]
omit [Io] in
theorem uc(r:Rw)(l:List AV):(r.app l).toL=r.toL++l:=by
 apply List.ext_getElem?
 intro j
 rw[nu]
 show(if j<Nat.add r.n (len l)then some ((r.app l).cell j)else none)=_
 rw[bW]
 have hl:=eO r
 have ha:Nat.add r.n l.length=r.n+l.length:=rfl
 rw[ha]
 by_cases h1:j<r.n
 ·rw[if_pos (by omega),List.getElem?_append_left (by omega),nu,if_pos h1]
  congr 1
  refine A5 ?_ rfl
  show(mE l r.n r.t).get j=_
  rw[jH,if_neg (by omega)]
 ·rw[List.getElem?_append_right (by omega),hl]
  by_cases h2:j<r.n+l.length
  ·rw[if_pos h2,List.getElem?_eq_getElem (by omega)]
   congr 1
   refine vA ?_
   show(mE l r.n r.t).get j=_
   rw[jH,if_pos (by omega),List.getElem?_eq_getElem (by omega)]
  ·rw[if_neg h2,List.getElem?_eq_none (by omega)]
omit [Io] in
theorem CJ{r p:Rw}{off k:Nat}(h:r.sub off k=some p):p.toL=(r.toL.drop off).take k/\p.toL.length=k:=by
 unfold Rw.sub at h
 cases hb:Nat.ble (Nat.add off k) r.n with
 |false=>rw[hb]at h;cases h
 |true=>
  rw[hb]at h
  have hle:off+k<=r.n:=Nat.le_of_ble_eq_true hb
  cases h
  have hs:r.lO off k=some (r.cells k off):=by unfold Rw.lO;rw[hb];rfl
  obtain⟨e1,e2,_⟩:=mG hs
  cases h0:Nat.beq off 0 with
  |true=>
   obtain rfl:=Nat.eq_of_beq_eq_true h0
   have:(r.upto k).toL=r.cells k 0:=rfl
   rw[cond_true,this,<-e1]
   exact⟨rfl,e2⟩
  |false=>
   rw[cond_false,iO,<-e1]
   exact⟨rfl,e2⟩
omit [Io] in
theorem wa(z:List AV): ∀ (c j:Nat),(fW c z)[j]? =if j<c*z.length then z[j % z.length]? else none
 |0,j=>by show([]:List AV)[j]? =_;simp
 |c+1,j=>by
  show(app z (fW c z))[j]? =_
  rw[bp]
  by_cases h:j<z.length
  ·rw[List.getElem?_append_left h,Nat.mod_eq_of_lt h,if_pos (by rw[Nat.add_mul];omega)]
  ·have ah3:j % z.length=(j - z.length) % z.length:=Nat.mod_eq_sub_mod (by omega)
   rw[List.getElem?_append_right (by omega),wa z c,ah3,Nat.add_mul,Nat.one_mul]
   by_cases h2:j - z.length<c*z.length
   ·rw[if_pos h2,if_pos (by omega)]
   ·rw[if_neg h2,if_neg (by omega)]
omit [Io] in
theorem Ha(c:Nat)(z:List AV):(⟨Nat.mul c (len z),z,.nil⟩:Rw).toL=fW c z:=by
 apply List.ext_getElem?
 intro j
 rw[nu,wa]
 show(if j<Nat.mul c (len z)then some (Rw.cell ⟨Nat.mul c (len z),z,.nil⟩ j)else none)=_
 rw[bW]
 by_cases h:j<c*z.length
 ·have hm:Nat.mul c z.length=c*z.length:=rfl
  rw[hm,if_pos h,if_pos h]
  have hz:0<z.length:=by
   rcases Nat.eq_zero_or_pos z.length with e|e
   ·rw[e]at h;simp at h
   ·exact e
  have:j % z.length<z.length:=Nat.mod_lt _ hz
  show some (Option.rec (Option.rec gQ (fun v=>v) (lr z (Nat.mod j (len z)))) (fun v=>v) ((Tr.nil:Tr AV).get j):AV)=_
  rw[Tr.get_nil,gH,bW,show Nat.mod j z.length=j % z.length from rfl,List.getElem?_eq_getElem this]
 ·have hm:Nat.mul c z.length=c*z.length:=rfl
  rw[hm,if_neg h,if_neg h]
theorem bL.length{g w}: ∀ {l:List AV} {vs:List Value},bL g w l vs->vs.length=l.length
 | [],vs,h=>by simp only[bL]at h;subst h;rfl
 |a::l,vs,h=>by
  simp only[bL]at h
  obtain⟨v,l',rfl,_,r⟩:=h
  simp[bL.length r]
theorem bL.take{g w}: ∀ {l:List AV} {vs:List Value} (n:Nat),bL g w l vs->bL g w (l.take n) (vs.take n)
 | [],vs,n,h=>by simp only[bL]at h;subst h;simp[bL]
 |a::l,vs,0,h=>by simp[bL]
 |a::l,vs,n+1,h=>by
  simp only[bL]at h
  obtain⟨v,l',rfl,q,r⟩:=h
  simp only[List.take_succ_cons,bL]
  exact⟨v,_,rfl,q,bL.take n r⟩
theorem bL.drop{g w}: ∀ {l:List AV} {vs:List Value} (n:Nat),bL g w l vs->bL g w (l.drop n) (vs.drop n)
 | [],vs,n,h=>by simp only[bL]at h;subst h;simp[bL]
 |a::l,vs,0,h=>h
 |a::l,vs,n+1,h=>by
  simp only[bL]at h
  obtain⟨v,l',rfl,q,r⟩:=h
  exact bL.drop n r
theorem bL.append{g w}: ∀ {l r:List AV} {vs us:List Value},bL g w l vs->bL g w r us->bL g w (l++r) (vs++us)
 | [],r,vs,us,h,k=>by simp only[bL]at h;subst h;exact k
 |a::l,r,vs,us,h,k=>by
  simp only[bL]at h
  obtain⟨v,l',rfl,q,p⟩:=h
  simp only[List.cons_append,bL]
  exact⟨v,_,rfl,q,bL.append p k⟩
theorem bL.get{g w}: ∀ {l:List AV} {vs:List Value},bL g w l vs-> ∀ (i:Nat) (a:AV),l[i]? =some a-> ∃ v,vs[i]? =some v/\VR g w a v
 | [],vs,h,i,a,e=>by simp at e
 |b::l,vs,h,0,a,e=>by
  simp only[bL]at h
  obtain⟨v,l',rfl,q,p⟩:=h
  simp at e;subst e
  exact⟨v,rfl,q⟩
 |b::l,vs,h,i+1,a,e=>by
  simp only[bL]at h
  obtain⟨v,l',rfl,q,p⟩:=h
  simpa using bL.get p i a (by simpa using e)
theorem bL.repeat{g w}{l:List AV}{vs:List Value}(h:bL g w l vs): ∀ n,bL g w (fW n l) (List.replicate n vs).flatten
 |0=>by show bL g w [] _;simp[bL]
 |n+1=>by
  show bL g w (app l (fW n l)) _
  rw[bp,List.replicate_succ,List.flatten_cons]
  exact bL.append h (bL.repeat h n)
theorem bL.one{g w}{a:AV}{v:Value}(h:VR g w a v):bL g w [a] [v]:=by
 simp only[bL];exact⟨v,[],rfl,h,rfl⟩
theorem VR.cells{g w}{a:AV}{v:Value}(h:VR g w a v):bL g w a.cells v.cells.toList:=by
 cases a with
 |agg cs=>
  simp only[VR]at h
  obtain⟨vs,rfl,q⟩:=h
  exact q
 |sc x=>
  simp only[VR]at h
  obtain⟨rfl,h1⟩:=h
  have:v.cells= #[v]:=by cases v<;>first|rfl|(simp[Value.oneCell']at h1)
  rw[this]
  exact bL.one (by simp[VR,h1])
 |sym k s lo hi off=>have h':=h;simp only[VR]at h;obtain⟨rfl,_⟩:=h;exact bL.one h'
 |any=>
  have h1:=h
  simp only[VR]at h1
  have:v.cells= #[v]:=by cases v<;>first|rfl|(simp[Value.oneCell']at h1)
  rw[this]
  exact bL.one h
 |ff id off n sz=>
  have h':=h
  simp only[VR]at h
  rcases h with⟨_,a,rfl⟩|⟨b,s,cap,_,rfl,_⟩<;>exact bL.one h'
 |int k n=>have h':=h;simp only[VR]at h;subst h;exact bL.one h'
 |bool b=>have h':=h;simp only[VR]at h;subst h;exact bL.one h'
 |wK cs=>have h':=h;simp only[VR]at h;obtain⟨_,rfl,_⟩:=h;exact bL.one h'
 |ref id off=>have h':=h;simp only[VR]at h;obtain⟨_,_,_,rfl⟩:=h;exact bL.one h'
 |lj n cs=>have h':=h;simp only[VR]at h;obtain⟨_,_,rfl,_⟩:=h;exact bL.one h'
 |jC cs=>have h':=h;simp only[VR]at h;obtain⟨_,_,_,rfl,_⟩:=h;exact bL.one h'
 |fk=>have h':=h;simp only[VR]at h;obtain⟨_,rfl⟩:=h;exact bL.one h'
 |qk=>have h':=h;simp only[VR]at h;obtain⟨_,rfl⟩:=h;exact bL.one h'
 |fn f cap=>have h':=h;simp only[VR]at h;obtain⟨_,rfl,_⟩:=h;exact bL.one h'
theorem VR.one{g w}{a:AV}{v:Value}(h:VR g w a v)(c:dN a=true):v.oneCell'=true:=by
 cases a with
 |agg cs=>cases c
 |wK cs=>cases c
 |sc x=>simp only[VR]at h;obtain⟨rfl,h1⟩:=h;exact h1
 |sym k s lo hi off=>simp only[VR]at h;obtain⟨rfl,_⟩:=h;rfl
 |any=>simpa only[VR]using h
 |ff id off n sz=>
  simp only[VR]at h
  rcases h with⟨_,a,rfl⟩|⟨b,s,cap,_,rfl,_⟩<;>rfl
 |int k n=>simp only[VR]at h;subst h;rfl
 |bool b=>simp only[VR]at h;subst h;rfl
 |ref id off=>simp only[VR]at h;obtain⟨_,_,_,rfl⟩:=h;rfl
 |lj n cs=>simp only[VR]at h;obtain⟨_,_,rfl,_⟩:=h;rfl
 |jC cs=>simp only[VR]at h;obtain⟨_,_,_,rfl,_⟩:=h;rfl
 |fk=>simp only[VR]at h;obtain⟨_,rfl⟩:=h;rfl
 |qk=>simp only[VR]at h;obtain⟨_,rfl⟩:=h;rfl
 |fn f cap=>simp only[VR]at h;obtain⟨_,rfl,_⟩:=h;rfl
theorem bL.Fi{g w}: ∀ {l:List AV} {vs:List Value},bL g w l vs->cu dN l=true-> ∀ v∈vs,v.oneCell'=true
 | [],vs,h,_,v,e=>by simp only[bL]at h;subst h;cases e
 |a::l,vs,h,c,v,e=>by
  simp only[bL]at h
  obtain⟨u,l',rfl,q,p⟩:=h
  rw[g5]at c
  simp at c
  cases e with
  |head=>exact VR.one q c.1
  |tail _ e=>exact bL.Fi p (by rw[g5];simpa using c.2) v e
omit [Io] in
theorem ef.drop{w:World}{b o:Nat}{vs:List Value}(h:ef w b o vs)(n:Nat):ef w b (o+n) (vs.drop n):=by
 intro j v e
 rw[List.getElem?_drop]at e
 have:=h (n+j) v e
 rwa [Nat.add_assoc]
omit [Io] in
theorem ef.take{w:World}{b o:Nat}{vs:List Value}(h:ef w b o vs)(n:Nat):ef w b o (vs.take n):=by
 intro j v e
 rw[List.getElem?_take]at e
 split at e
 ·exact h j v e
 ·cases e
theorem HC.row{g w h}(H:HC g w h){id:Nat}{cs:Rw}(e:h.aP.get id=some cs){b s:Nat}(hm:g.m id=some (b,s)):
 ∃ C,∃ el:FT C,∃ vs,w.heap[b]? =some (.cells C el.el el.fz)/\ ¬ g.fx b/\bL g w cs.toL vs/\(∀ (j:Nat) (v:Value),vs[j]? =some v->C[s+j]? =some v):=by
 obtain⟨b',s',C,el,vs,Ky,hw,hi,hv,hc⟩:=H.aP id cs e
 rw[hm]at Ky
 obtain⟨rfl,rfl⟩:=Prod.mk.inj (Option.some.inj Ky)
 exact⟨C,el,vs,hw,hi,hv,hc⟩
theorem HR.row{g w h}(H:HR g w h){id:Nat}{cs:Rw}(e:h.aP.get id=some cs){b s:Nat}(hm:g.m id=some (b,s)):
 ∃ C,∃ el:FT C,∃ vs,w.heap[b]? =some (.cells C el.el el.fz)/\ ¬ g.fx b/\bL g w cs.toL vs/\(∀ (j:Nat) (v:Value),vs[j]? =some v->C[s+j]? =some v):=H.toHC.row e hm
omit [Io] in
theorem jL{w:World}{b s:Nat}{C:Array Value}{el fz}{vs:List Value}(hw:w.heap[b]? =some (.cells C el fz))(hc: ∀ (j:Nat) (v:Value),vs[j]? =some v->C[s+j]? =some v):
 ef w b s vs:=by
 intro j v e
 simp[World.cell?,hw,hc j v e]
omit [Io] in
theorem jM{w:World}{b:Nat}{C:Array Value}{el fz}(hw:w.heap[b]? =some (.cells C el fz)):dS w b=C.size:=by
 simp[dS,hw]
def G.add(g:G)(id b:Nat):G:=⟨fun i=>if i=id then some (b,0)else g.m i,g.fx⟩
theorem CK{g w h}(H:HR g w h){w':World}{cs:Rw}{C:Array Value}(el:FT C){vs:List Value}(h1:w'.os=w.os)(h2:w'.tape=w.tape)(h3:w'.output=w.output)(h4:w'.heap.size=w.heap.size+1)
 (hp: ∀ b,w'.heap[b]? =if b=w.heap.size then some (.cells C el.el el.fz)else w.heap[b]?)(hv:bL g w cs.toL vs)(hc: ∀ (j:Nat) (v:Value),vs[j]? =some v->C[j]? =some v):
 Ext g w h (g.add h.next w.heap.size) w' (dy h cs)/\HR (g.add h.next w.heap.size) w' (dy h cs):=by
 have hg: ∀ id,(dy h cs).aP.get id=if id=h.next then some cs else h.aP.get id:=fun id=>Tr.j2 _ _ _ _
 have jR: ∀ id x,g.m id=some x->id≠h.next:=by
  intro id x e he
  rw[H.fresh id (by omega)]at e;cases e
 have E:Ext g w h (g.add h.next w.heap.size) w' (dy h cs):=by
  refine⟨h1,h2,h3,by omega,Nat.le_succ _,?_,?_,?_,fun _ i=>i,fun _ i=>.inl i,?_⟩
  ·intro id x e
   simp only[G.add,if_neg (jR id x e)]
   exact e
  ·intro b hb _
   rw[hp,if_neg (by omega)]
  ·intro b
   unfold dS
   rw[hp]
   by_cases hb:b=w.heap.size
   ·subst hb;simp
   ·rw[if_neg hb];exact Nat.le_refl _
  ·rintro b ⟨id,cs',s,e,m⟩
   rw[hg]at e
   by_cases jG:id=h.next
   ·subst jG
    simp only[G.add,if_true]at m
    obtain⟨rfl,_⟩:=Prod.mk.inj (Option.some.inj m)
    exact .inr (Nat.le_refl _)
   ·rw[if_neg jG]at e
    simp only[G.add,if_neg jG]at m
    exact .inl ⟨id,cs',s,e,m⟩
 refine⟨E,?_,?_,?_,?_,nQ.ext H E⟩
 ·intro id jG
  have ape:h.next+1<=id:=jG
  simp only[G.add]
  rw[if_neg (by omega)]
  exact H.fresh id (by omega)
 ·intro id cs' e
  rw[hg]at e
  by_cases jG:id=h.next
  ·subst jG
   rw[if_pos rfl]at e
   obtain rfl:=Option.some.inj e
   refine⟨w.heap.size,0,C,el,vs,by simp[G.add],by rw[hp,if_pos rfl],?_,bL.mono H E _ _ hv,by simpa using hc⟩
   intro i
   exact absurd (H.fx _ i) (by omega)
  ·rw[if_neg jG]at e
   obtain⟨b,s,C',el',vs',hm,hw,hi,rQ,hc'⟩:=H.aP id cs' e
   have hb:b<w.heap.size:=(Array.getElem?_eq_some_iff.1 hw).1
   exact⟨b,s,C',el',vs',by simp only[G.add,if_neg jG];exact hm,by rw[hp,if_neg (by omega)];exact hw,hi,bL.mono H E _ _ rQ,hc'⟩
 ·intro id xH b s s' Hb xJ e1 e2 m1 m2
  rw[hg]at e1 e2
  have so: ∀ id x b s,id≠h.next->h.aP.get id=some x->g.m id=some (b,s)->b≠w.heap.size:=by
   intro id x b s _ e m hb
   obtain⟨_,_,_,hw,_⟩:=H.row e m
   have:=(Array.getElem?_eq_some_iff.1 hw).1
   omega
  by_cases k1:id=h.next<;>by_cases k2:xH=h.next
  ·exact k1.trans k2.symm
  ·subst k1
   rw[if_neg k2]at e2
   simp only[G.add,if_true]at m1
   simp only[G.add,if_neg k2]at m2
   obtain⟨rfl,_⟩:=Prod.mk.inj (Option.some.inj m1)
   exact absurd rfl (so xH _ _ _ k2 e2 m2)
  ·subst k2
   rw[if_neg k1]at e1
   simp only[G.add,if_true]at m2
   simp only[G.add,if_neg k1]at m1
   obtain⟨rfl,_⟩:=Prod.mk.inj (Option.some.inj m2)
   exact absurd rfl (so id _ _ _ k1 e1 m1)
  ·rw[if_neg k1]at e1
   rw[if_neg k2]at e2
   simp only[G.add,if_neg k1]at m1
   simp only[G.add,if_neg k2]at m2
   exact H.inj id xH b s s' Hb xJ e1 e2 m1 m2
 ·intro b i
  have:=H.fx b i
  omega
theorem xg{g w h}(H:HR g w h){cs:Rw}{C:Array Value}(el:TypeId){vs:List Value}(hv:bL g w cs.toL vs)(hc: ∀ (j:Nat) (v:Value),vs[j]? =some v->C[j]? =some v):
 Ext g w h (g.add h.next w.heap.size) (w.alloc (.cells C el)) (dy h cs)/\HR (g.add h.next w.heap.size) (w.alloc (.cells C el)) (dy h cs):=
 CK H (FT.nw C el) rfl rfl rfl (by show(w.heap.push _).size=_;rw[Array.size_push]) (fun b=>by
  show(w.heap.push _)[b]? =_
  rw[Array.getElem?_push];rfl) hv hc
theorem A6{g:G}{w h C el n c sz}(hn:n<=c)(hc:c*sz<=C.size):
 VR (g.add h (World.heap w).size) (w.alloc (.cells C el)) (.ff h 0 n sz) (.slice (some ⟨w.heap.size,0,none⟩) n c):=by
 simp only[VR]
 refine .inr ⟨w.heap.size,0,c,by simp[G.add],rfl,hn,?_⟩
 have:(w.alloc (.cells C el)).heap[w.heap.size]? =some (.cells C el):=by
  show(w.heap.push _)[w.heap.size]? =_
  simp
 rw[jM this]
 omega
end Go.Ab

noncomputable section
namespace Go.Ab
variable [Io]
omit [Io] in
theorem kN(k:IntKind)(n:Int):eZ k n=k.wrap n:=by
 cases k<;>simp only[eZ,IntKind.wrap,IntKind.bits,IntKind.signed]
 all_goals simp
 all_goals first
  |rfl
  |(show(n+_) % _ - _=_;split<;>omega)
omit [Io] in
theorem eQ{k k':IntKind}:jA k k'=true↔k=k':=by cases k<;>cases k'<;>simp[jA]
omit [Io] in
theorem jg(a b:Int):la a b=decide (a<b):=by
 cases a<;>cases b<;>simp only[la]
 ·rename_i a b
  by_cases h:a<b
  ·rw[show Nat.blt a b=true from by simpa[Nat.blt_eq]using h];simp;omega
  ·rw[show Nat.blt a b=false from by rw[Bool.eq_false_iff];simpa[Nat.blt_eq]using h];simp;omega
 ·simp;omega
 ·simp;omega
 ·rename_i a b
  by_cases h:b<a
  ·rw[show Nat.blt b a=true from by simpa[Nat.blt_eq]using h];simp;omega
  ·rw[show Nat.blt b a=false from by rw[Bool.eq_false_iff];simpa[Nat.blt_eq]using h];simp;omega
omit [Io] in
theorem vB(a b:Int):eqI a b=(a == b):=by
 have key:eqI a b=true↔a=b:=by
  cases a<;>cases b<;>simp[eqI]
  omega
 by_cases h:a=b
 ·rw[key.2 h];simp[h]
 ·rw[show eqI a b=false from by rw[Bool.eq_false_iff];exact fun e=>h (key.1 e)];simp[h]
omit [Io] in
theorem CM(k:IntKind):ql k=k.bits:=by cases k<;>rfl
omit [Io] in
theorem ud(a b:Nat):vt a b=min a b:=by
 unfold vt
 by_cases h:a<=b
 ·rw[show Nat.ble a b=true from Nat.ble_eq.mpr h];simp[Nat.min_eq_left h]
 ·rw[show Nat.ble a b=false from by rw[Bool.eq_false_iff];exact fun e=>h (Nat.ble_eq.mp e)];simp;omega
theorem Hc{v:Value}{a:AV}(h:leaf v=some a)(g:G)(w:World):VR g w a v:=by
 unfold leaf at h
 split at h<;>first
  |(cases h;done)
  |(cases h;simp[VR,Value.oneCell'])
theorem rR: ∀ (l:List Value) {r:List AV},leaves l=some r-> ∀ (g:G) (w:World),bL g w r l
 | [],r,h,g,w=>by cases h;simp[bL]
 |v::l,r,h,g,w=>by
  change (match leaf v with|some a=>(match leaves l with|some r=>some (a::r)|none=>none)|none=>none)=some r at h
  cases h1:leaf v with
  |none=>rw[h1]at h;cases h
  |some a=>
   cases h2:leaves l with
   |none=>rw[h1,h2]at h;cases h
   |some r'=>
    rw[h1,h2]at h
    cases h
    simp only[bL]
    exact⟨v,l,rfl,Hc h1 g w,rR l h2 g w⟩
theorem KW{v:Value}{a:AV}(h:Qv v=some a)(g:G)(w:World):VR g w a v:=by
 unfold Qv at h
 split at h
 ·split at h
  ·rename_i cs _ l e
   cases h
   simp only[VR]
   exact⟨cs,rfl,rR _ e g w⟩
  ·cases h
 ·split at h
  ·rename_i cs _ l e
   cases h
   simp only[VR]
   exact⟨cs,rfl,rR _ e g w⟩
  ·cases h
 ·exact Hc h g w
omit [Io] in
theorem Fj{s:Sem Value}{v:Value}(h:g4 s=some v)(P:Program)(w:World):s.run P w=.ok v w:=by
 cases s<;>simp[g4]at h
 subst h;rfl
theorem ue{s:Sem Value}{a:AV}(h:qM (g4 s)=some a)(P:Program)(g:G)(w:World): ∃ v,s.run P w=.ok v w/\VR g w a v:=by
 cases e:g4 s with
 |none=>rw[e]at h;cases h
 |some v=>rw[e]at h;exact⟨v,Fj e P w,KW h g w⟩
def Vu(x:Operand)(o:eN):Prop:= ∀ (g:G) (w:World) (nt:Nat) (t:Tm) (a:Act) (v:AV),TR g w nt t a.tmps->o t=some v->VR g w v (a.eval x)
def aQ:Operand->eN
 | .tmp i=>il (Nat.blt i 512) (oT i) oX
 | .const v=>match Qv v with
  |some a=>oC a
  |none=>oX
 | .global _=>oX
 | .func f=>oC (.fn f [])
theorem bg(x:Operand):Vu x (aQ x):=by
 intro g w nt t a v T e
 cases x with
 |tmp i=>
  change il (Nat.blt i 512) (oT i) oX t=some v at e
  cases h:Nat.blt i 512 with
  |false=>rw[h]at e;cases e
  |true=>
   rw[h]at e
   exact(T.2.2 i v (by simpa[Nat.blt_eq]using h) e).2
 |const c=>
  change (match Qv c with|some a=>oC a|none=>oX) t=some v at e
  cases h:Qv c with
  |none=>simp only[h]at e;cases e
  |some x=>
   simp only[h]at e
   cases e
   exact KW h g w
 |global i=>cases e
 |func f=>
  cases e
  simp only[VR]
  exact⟨#[],rfl,by simp[bL]⟩
theorem xh{g w nt t}{a:Act}(T:TR g w nt t a.tmps): ∀ (l:List Operand) {vs:List AV},vr (l.map aQ) t=some vs->bL g w vs (l.map a.eval)
 | [],vs,e=>by cases e;simp[bL]
 |x::l,vs,e=>by
  change (Option.rec none (fun v=>Option.rec none (fun vs=>some (v::vs)) (vr (l.map aQ) t)) (aQ x t):Option (List AV))=some vs at e
  cases h1:aQ x t with
  |none=>rw[h1]at e;cases e
  |some v=>
   cases h2:vr (l.map aQ) t with
   |none=>rw[h1,h2]at e;cases e
   |some r=>
    rw[h1,h2]at e
    cases e
    simp only[List.map_cons,bL]
    exact⟨_,_,rfl,bg x _ _ _ _ _ _ T h1,xh T l h2⟩
def bT(P:Program)(o:Oper)(f:eG):Prop:=
 ∀ (g:G) (w:World) (nt:Nat) (t:Tm) (h:Hp) (a:Act) (v:AV) (h':Hp),HC g w h->TR g w nt t a.tmps->f t h=.ok v h'->
  h'=h/\ ∃ x,(execOp a.eval o).run P w=.ok (.value x) w/\VR g w v x
section
variable {P:Program}{o:Oper}
theorem bG:bT P o bP:=by intro g w nt t h a v h' _ _ e;cases e
omit [Io] in
theorem sZ{x:eN}{t:Tm}{h h':Hp}{v:AV}(e:aa x t h=.ok v h'):x t=some v/\h'=h:=by
 unfold aa at e
 cases hx:x t with
 |none=>rw[hx]at e;cases e
 |some u=>rw[hx]at e;cases e;exact⟨rfl,rfl⟩
theorem Ad{x:Operand}(ho:o.op=.move x∨o.op=.assign x):bT P o (aa (aQ x)):=by
 intro g w nt t h a v h' H T e
 obtain⟨e2,rfl⟩:=sZ e
 exact⟨rfl,a.eval x,by rcases ho with ho|ho<;>simp[execOp,ho],bg x _ _ _ _ _ _ T e2⟩
theorem IQ{c x y:Operand}(ho:o.op=.pick c x y):bT P o (aW (aQ c) (aQ x) (aQ y)):=by
 intro g w nt t h a v h' H T e
 unfold aW at e
 split at e
 ·rename_i b hc
  have hb:=bg c _ _ _ _ _ _ T hc
  simp only[VR]at hb
  cases b
  ·obtain⟨e2,rfl⟩:=sZ e
   exact⟨rfl,a.eval y,by simp[execOp,ho,asBool,hb],bg y _ _ _ _ _ _ T e2⟩
  ·obtain⟨e2,rfl⟩:=sZ e
   exact⟨rfl,a.eval x,by simp[execOp,ho,asBool,hb],bg x _ _ _ _ _ _ T e2⟩
 ·cases e
theorem pure_nil{x:Operand}(ho:o.op=.nilCheck x):bT P o (bt (aQ x)):=by
 intro g w nt t h a v h' H T e
 unfold bt at e
 split at e
 ·rename_i i q hx
  have hv:=bg x _ _ _ _ _ _ T hx
  cases e
  have rQ:=hv
  simp only[VR]at hv
  obtain⟨b,s,hm,hv⟩:=hv
  exact⟨rfl,a.eval x,by simp[execOp,ho,hv],rQ⟩
 ·rename_i cs hx
  have hv:=bg x _ _ _ _ _ _ T hx
  cases e
  have rQ:=hv
  simp only[VR]at hv
  obtain⟨b,q,vs,hv,_⟩:=hv
  exact⟨rfl,a.eval x,by simp[execOp,ho,hv],rQ⟩
 ·rename_i f c hx
  have hv:=bg x _ _ _ _ _ _ T hx
  cases e
  have rQ:=hv
  simp only[VR]at hv
  obtain⟨vs,hv,_⟩:=hv
  exact⟨rfl,a.eval x,by simp[execOp,ho,hv],rQ⟩
 ·cases e
def cU(P:Program)(op:BinOp)(xT:TypeId)(f:AV->AV->Option AV):Prop:=
 ∀ (g:G) (w:World) (a b r:AV) (u v:Value),VR g w a u->VR g w b v->f a b=some r->
  ∃ z,(binOp op xT u v).run P w=.ok z w/\VR g w r z/\ ∀ x y,(eqGuard op xT x y u v).run P w=.ok () w
theorem KX{op:BinOp}{xT yT:TypeId}{x y:Operand}{f:AV->AV->Option AV}(ho:o.op=.binOp op xT x y yT)(hf:cU P op xT f):
 bT P o (ah f (aQ x) (aQ y)):=by
 intro g w nt t h a v h' H T e
 unfold ah at e
 cases hx:aQ x t with
 |none=>rw[hx]at e;cases e
 |some ax=>
  cases hy:aQ y t with
  |none=>rw[hx,hy]at e;cases e
  |some ay=>
   rw[hx,hy]at e
   cases hr:f ax ay with
   |none=>simp only[hr]at e;cases e
   |some r=>
    simp only[hr]at e
    cases e
    obtain⟨z,hz,hv,hg⟩:=hf g w ax ay v _ _ (bg x _ _ _ _ _ _ T hx) (bg y _ _ _ _ _ _ T hy) hr
    exact⟨rfl,z,by simp[execOp,ho,hg,hz],hv⟩
omit [Io] in
theorem qP{op:BinOp}{xT:TypeId}{k k':IntKind}{m n:Int}{w:World}(x y:Operand):(eqGuard op xT x y (.int k m) (.int k' n)).run P w=.ok () w:=by
 unfold eqGuard;split<;>simp
omit [Io] in
theorem uf{op:BinOp}{xT:TypeId}{m n:Bool}{w:World}(x y:Operand):(eqGuard op xT x y (.bool m) (.bool n)).run P w=.ok () w:=by
 unfold eqGuard;split<;>simp
omit [Io] in
theorem qQ{op:BinOp}{xT:TypeId}{m n:ByteArray}{w:World}(x y:Operand):(eqGuard op xT x y (.string m) (.string n)).run P w=.ok () w:=by
 unfold eqGuard;split<;>simp
omit [Io] in
theorem dw{op:BinOp}{xT:TypeId}{m n:Option Addr}{w:World}(x y:Operand):(eqGuard op xT x y (.pointer m) (.pointer n)).run P w=.ok () w:=by
 unfold eqGuard;split<;>simp
omit [Io] in
theorem sH{op:BinOp}{xT:TypeId}{m n:Option Addr}{a b c d:Nat}{w:World}(x y:Operand):(eqGuard op xT x y (.slice m a b) (.slice n c d)).run P w=.ok () w:=by
 unfold eqGuard;split<;>simp
omit [Io] in
theorem vC{f:IntKind->Int->Int->Option AV}{a b r:AV}(h:nn f a b=some r): ∃ k m n,a=.int k m/\b=.int k n/\f k m n=some r:=by
 unfold nn at h
 split at h
 ·rename_i k m k' n
  cases e:jA k k' with
  |false=>rw[e]at h;cases h
  |true=>
   rw[e]at h
   obtain rfl:=eQ.1 e
   exact⟨k,m,n,rfl,rfl,h⟩
 ·cases h
theorem iP{op:BinOp}{xT:TypeId}{f:IntKind->Int->Int->Option AV}
 (hf: ∀ (g:G) (w:World) k m n r,f k m n=some r-> ∃ z,(binOp op xT (.int k m) (.int k n)).run P w=.ok z w/\VR g w r z):cU P op xT (nn f):=by
 intro g w a b r u v ha hb h
 obtain⟨k,m,n,rfl,rfl,h2⟩:=vC h
 simp only[VR]at ha hb
 subst ha;subst hb
 obtain⟨z,hz,hv⟩:=hf g w k m n r h2
 exact⟨z,hz,hv,fun x y=>qP x y⟩
theorem QF(xT:TypeId):cU P .add xT Xa:=iP fun g w k m n r h=>by
 cases h;exact⟨.int k (k.wrap (m+n)),by simp[binOp,Op.intArith],by simp only[VR,kN];rfl⟩
theorem QG(xT:TypeId):cU P .sub xT Xb:=iP fun g w k m n r h=>by
 cases h;exact⟨.int k (k.wrap (m - n)),by simp[binOp,Op.intArith],by simp only[VR,kN];rfl⟩
theorem QH(xT:TypeId):cU P .mul xT Xc:=iP fun g w k m n r h=>by
 cases h;exact⟨.int k (k.wrap (m*n)),by simp[binOp,Op.intArith],by simp only[VR,kN];rfl⟩
theorem QI(xT:TypeId):cU P .quo xT Qw:=iP fun g w k m n r h=>by
 rw[vB]at h
 by_cases h0:n=0
 ·subst h0;cases h
 ·rw[show(n == 0)=false from by simpa using h0]at h
  cases h
  exact⟨.int k (k.wrap (m.tdiv n)),by simp[binOp,Op.intDiv,h0],by simp only[VR,kN]⟩
theorem QJ(xT:TypeId):cU P .rem xT Qx:=iP fun g w k m n r h=>by
 rw[vB]at h
 by_cases h0:n=0
 ·subst h0;cases h
 ·rw[show(n == 0)=false from by simpa using h0]at h
  cases h
  exact⟨.int k (m.tmod n),by simp[binOp,Op.intDiv,h0],by simp only[VR]⟩
omit [Io] in
theorem Vv(m n:Int):(!decide (m<n))=decide (n<=m):=by by_cases h:m<n<;>simp[h]<;>omega
theorem QK(xT:TypeId):cU P .lss xT Xd:=iP fun g w k m n r h=>by
 cases h;exact⟨.bool (m<n),by simp[binOp,Op.intCmp],by simp only[VR,jg]⟩
theorem QL(xT:TypeId):cU P .gtr xT Xf:=iP fun g w k m n r h=>by
 cases h;exact⟨.bool (m>n),by simp[binOp,Op.intCmp],by simp only[VR,jg]⟩
theorem QM(xT:TypeId):cU P .leq xT Xe:=iP fun g w k m n r h=>by
 cases h;exact⟨.bool (m<=n),by simp[binOp,Op.intCmp],by simp only[VR,jg,Vv]⟩
theorem QN(xT:TypeId):cU P .geq xT Xg:=iP fun g w k m n r h=>by
 cases h;exact⟨.bool (m≥n),by simp[binOp,Op.intCmp],by simp only[VR,jg,Vv]⟩
theorem QO(xT:TypeId):cU P .eql xT (KP false):=iP fun g w k m n r h=>by
 cases h;exact⟨.bool (m == n),by simp[binOp,Op.intCmp],by simp only[VR,vB];rfl⟩
theorem QP(xT:TypeId):cU P .neq xT (KP true):=iP fun g w k m n r h=>by
 cases h;exact⟨.bool (m != n),by simp[binOp,Op.intCmp],by simp only[VR,vB];rfl⟩
end
omit [Io] in
theorem qR{a:AV}(h:isNil a=true):a=.sc (.slice none 0 0):=by
 unfold isNil at h
 split at h
 ·rw[Bool.and_eq_true]at h
  rw[Nat.eq_of_beq_eq_true h.1,Nat.eq_of_beq_eq_true h.2]
 ·cases h
theorem xK{a:AV}(h:sX a=true){g:G}{w:World}{v:Value}(hv:VR g w a v): ∃ b,v=.slice b 0 0:=by
 unfold sX at h
 split at h
 ·simp only[VR]at hv
  obtain⟨b,rfl⟩:=hv
  exact⟨_,rfl⟩
 ·rw[qR h]at hv
  simp only[VR]at hv
  exact⟨none,hv.1⟩
theorem Fk{a:AV}{g:G}{w:World}{v:Value}(hv:VR g w a v):VR g w (vq a) v:=by
 unfold vq
 cases h:sX a with
 |true=>
  simp only[cond_true,VR]
  exact xK h hv
 |false=>exact hv
omit [Io] in
theorem QQ{x:eN}{t:Tm}{v:AV}(e:wO x t=some v): ∃ a,x t=some a/\v=vq a:=by
 unfold wO at e
 cases h:x t with
 |none=>rw[h]at e;cases e
 |some a=>rw[h]at e;cases e;exact⟨a,rfl,rfl⟩
theorem iQ(x:Operand):Vu x (wO (aQ x)):=by
 intro g w nt t a v T e
 obtain⟨b,hb,rfl⟩:=QQ e
 exact Fk (bg x _ _ _ _ _ _ T hb)
theorem Xj{a:AV}(h:Qb a=true){g:G}{w:World}{v:Value}(hv:VR g w a v): ∃ b c,v=.slice b 0 c:=by
 unfold Qb at h
 split at h
 ·simp only[VR]at hv
  obtain⟨b,rfl⟩:=hv
  exact⟨_,_,rfl⟩
 ·simp only[VR]at hv
  obtain⟨b,rfl⟩:=hv
  exact⟨_,_,rfl⟩
 ·obtain rfl:=Nat.eq_of_beq_eq_true h
  simp only[VR]at hv
  rcases hv with⟨_,b,rfl⟩|⟨b,s,cap,_,rfl,_⟩
  ·exact⟨_,_,rfl⟩
  ·exact⟨_,_,rfl⟩
 ·obtain rfl:=Nat.eq_of_beq_eq_true h
  simp only[VR]at hv
  obtain⟨b,cap,rfl,_⟩:=hv
  exact⟨_,_,rfl⟩
 ·rw[qR h]at hv
  simp only[VR]at hv
  exact⟨none,0,hv.1⟩
theorem Hd{a:AV}{c:Bool}(h:AY a=some c){g:G}{w:World}{v:Value}(hv:VR g w a v): ∃ b n m,v=.slice b n m/\c=b.isNone:=by
 unfold AY at h
 cases hn:isNil a with
 |true=>
  rw[hn]at h
  cases h
  rw[qR hn]at hv
  simp only[VR]at hv
  exact⟨none,0,0,hv.1,rfl⟩
 |false=>
  rw[hn]at h
  simp only[cond_false]at h
  split at h
  ·cases h
   simp only[VR]at hv
   obtain⟨b,rfl⟩:=hv
   exact⟨_,_,_,rfl,rfl⟩
  ·cases h
   simp only[VR]at hv
   rcases hv with⟨_,b,rfl⟩|⟨b,s,cap,_,rfl,_⟩
   ·exact⟨_,_,_,rfl,rfl⟩
   ·exact⟨_,_,_,rfl,rfl⟩
  ·rename_i n cs
   cases h0:Nat.beq n 0 with
   |true=>rw[h0]at h;cases h
   |false=>
    rw[h0]at h
    cases h
    simp only[VR]at hv
    obtain⟨b,cap,rfl,_,⟨rfl,_⟩|⟨_,_,_,rfl,_⟩⟩:=hv
    ·cases h0
    ·exact⟨_,_,_,rfl,rfl⟩
  ·cases h
end Go.Ab

noncomputable section
namespace Go.Ab
variable [Io]
section
variable {P:Program}{o:Oper}
omit [Io] in
theorem mz{k:IntKind}{a:Nat}(h:a<jf k):(BitVec.ofInt k.bits (.ofNat a)).toNat=a:=by
 rw[show(Int.ofNat a)=((a:Nat):Int)from rfl,BitVec.ofInt_natCast,BitVec.toNat_ofNat]
 apply Nat.mod_eq_of_lt
 cases k<;>simp only[jf,IntKind.bits]at h ⊢ <;>omega
omit [Io] in
theorem KY{k:IntKind}{a:Nat}(h:a<jf k):(a:Int)<2 ^ k.bits/\(k.signed=true->(a:Int)<2 ^ (k.bits - 1)):=by
 cases k<;>simp only[jf,IntKind.bits,IntKind.signed]at h ⊢ <;>constructor<;>first|omega|(intro _;omega)|(intro h;cases h)
omit [Io] in
theorem xL{k:IntKind}{a:Nat}(h:a<jf k):k.wrap ((a:Nat):Int)=(a:Int):=by
 obtain⟨h1,h2⟩:=KY h
 have e:(a:Int) % (2 ^ k.bits:Int)=a:=Int.emod_eq_of_lt (by omega) h1
 unfold IntKind.wrap
 simp only[e]
 rw[if_neg]
 intro c
 simp only[Bool.and_eq_true,decide_eq_true_eq]at c
 have:=h2 c.1
 omega
omit [Io] in
theorem rS{k:IntKind}{a b:Nat}(h:a<jf k):a &&& b<jf k:=Nat.lt_of_le_of_lt Nat.and_le_left h
omit [Io] in
theorem He(k:IntKind): ∃ n,jf k=2 ^ n:=by
 cases k with
 |i8=>exact⟨7,rfl⟩
 |i16=>exact⟨15,rfl⟩
 |i32=>exact⟨31,rfl⟩
 |i64=>exact⟨63,rfl⟩
 |u8=>exact⟨8,rfl⟩
 |u16=>exact⟨16,rfl⟩
 |u32=>exact⟨32,rfl⟩
 |u64=>exact⟨64,rfl⟩
omit [Io] in
theorem nR{k:IntKind}{a b:Nat}(h:a<jf k)(h2:b<jf k):a ||| b<jf k:=by
 obtain⟨n,e⟩:=He k
 rw[e]at h h2 ⊢
 exact Nat.or_lt_two_pow h h2
omit [Io] in
theorem QR{k:IntKind}{a b:Nat}(h:a<jf k)(h2:b<jf k):a ^^^ b<jf k:=by
 obtain⟨n,e⟩:=He k
 rw[e]at h h2 ⊢
 exact Nat.xor_lt_two_pow h h2
theorem A7{op:BinOp}{f:Nat->Nat->Nat}{xT:TypeId}(hop: ∀ k m n,binOp op xT (.int k m) (.int k n)=Op.intBits op k m n)
 (hf: ∀ (w:World) k a b,a<jf k->b<jf k->(Op.intBits op k (.ofNat a) (.ofNat b)).run P w=.ok (.int k (.ofNat (f a b))) w):cU P op xT (z8 op f):=by
 refine iP fun g w k m n r h=>?_
 rw[hop]
 split at h
 ·rename_i a b
  cases e:(Nat.blt a (jf k)&&Nat.blt b (jf k))with
  |true=>
   rw[e]at h
   cases h
   simp[Nat.blt_eq]at e
   exact⟨_,hf w k a b e.1 e.2,by simp only[VR]⟩
  |false=>
   rw[e]at h
   obtain⟨z,hz,hv⟩:=ue h P g w
   exact⟨z,hz,hv⟩
 ·obtain⟨z,hz,hv⟩:=ue h P g w
  exact⟨z,hz,hv⟩
theorem QS(xT:TypeId):cU P .and xT Qy:=A7 (fun k m n=>by simp[binOp]) (fun w k a b ha hb=>by
 have e:k.wrap (((a &&& b:Nat):Int))=((a &&& b:Nat):Int):=xL (rS ha)
 simp only[Op.intBits,Sem.run_pure,BitVec.toNat_and,mz ha,mz hb,e]
 rfl)
theorem Xk(xT:TypeId):cU P .or xT bOr:=A7 (fun k m n=>by simp[binOp]) (fun w k a b ha hb=>by
 have e:k.wrap (((a ||| b:Nat):Int))=((a ||| b:Nat):Int):=xL (nR ha hb)
 simp only[Op.intBits,Sem.run_pure,BitVec.toNat_or,mz ha,mz hb,e]
 rfl)
theorem QT(xT:TypeId):cU P .xor xT Qz:=A7 (fun k m n=>by simp[binOp]) (fun w k a b ha hb=>by
 have e:k.wrap (((a ^^^ b:Nat):Int))=((a ^^^ b:Nat):Int):=xL (QR ha hb)
 simp only[Op.intBits,Sem.run_pure,BitVec.toNat_xor,mz ha,mz hb,e]
 rfl)
theorem Fl(xT:TypeId):cU P .andNot xT px:=iP fun g w k m n r h=>by
 rw[show binOp .andNot xT (.int k m) (.int k n)=Op.intBits .andNot k m n from by simp[binOp]]
 exact ue h P g w
theorem QU(xT:TypeId):cU P .shl xT Fe:=by
 intro g w a b r u v ha hb h
 unfold Fe at h
 split at h
 ·rename_i k m k' n
  simp only[VR]at ha hb
  subst ha;subst hb
  cases h
  refine⟨.int k (k.wrap (m*2 ^ min n k.bits)),by
   have: ¬ ((n:Nat):Int)<0:=by omega
   show(binOp .shl xT (.int k m) (.int k' ((n:Nat):Int))).run P w=_
   simp[binOp,Op.shift,this],?_,fun x y=>qP x y⟩
  simp only[VR,kN,ud,CM]
  rfl
 ·cases h
theorem QV(xT:TypeId):cU P .shr xT Ff:=by
 intro g w a b r u v ha hb h
 unfold Ff at h
 split at h
 ·rename_i k m k' n
  simp only[VR]at ha hb
  subst ha;subst hb
  cases h
  refine⟨.int k (m.fdiv (2 ^ min n k.bits)),by
   have: ¬ ((n:Nat):Int)<0:=by omega
   show(binOp .shr xT (.int k m) (.int k' ((n:Nat):Int))).run P w=_
   simp[binOp,Op.shift,this],?_,fun x y=>qP x y⟩
  simp only[VR,ud,CM]
  rfl
 ·cases h
omit [Io] in
theorem rT{xT:TypeId}{w:World}{x y:Value}{b:Bool}(h: ∀ d,(Op.equalIn (d+1) xT x y).run P w=.ok b w):(Op.equal xT x y).run P w=.ok b w:=h 9999
omit [Io] in
theorem xM{xT:TypeId}{w:World}(a b:Bool)(h:P.underlying xT=some .bool):(Op.equal xT (.bool a) (.bool b)).run P w=.ok (a == b) w:=
 rT fun d=>by simp[Op.equalIn,run_underlying h]
omit [Io] in
theorem KZ{xT:TypeId}{w:World}(a b:Bool)(h:P.underlying xT=some .bool):(binOp .eql xT (.bool a) (.bool b)).run P w=.ok (.bool (a == b)) w:=by
 show(do pure (.bool (<-Op.equal xT (.bool a) (.bool b))):Sem Value).run P w=_
 simp[xM a b h]
omit [Io] in
theorem K3{xT:TypeId}{w:World}(a b:Bool)(h:P.underlying xT=some .bool):(binOp .neq xT (.bool a) (.bool b)).run P w=.ok (.bool (!(a == b))) w:=by
 show(do pure (.bool (!(<-Op.equal xT (.bool a) (.bool b)))):Sem Value).run P w=_
 simp only[Sem.run_bind,xM a b h,Result.andThen_ok,Sem.run_pure]
theorem QW{xT:TypeId}(hT:P.underlying xT=some .bool):cU P .eql xT (AZ false):=by
 intro g w a b r u v ha hb h
 unfold AZ at h
 split at h
 ·rename_i m n
  simp only[VR]at ha hb
  subst ha;subst hb
  cases h
  exact⟨_,KZ m n hT,by simp only[VR];cases m<;>cases n<;>rfl,fun x y=>uf x y⟩
 ·cases h
theorem QX{xT:TypeId}(hT:P.underlying xT=some .bool):cU P .neq xT (AZ true):=by
 intro g w a b r u v ha hb h
 unfold AZ at h
 split at h
 ·rename_i m n
  simp only[VR]at ha hb
  subst ha;subst hb
  cases h
  exact⟨_,K3 m n hT,by simp only[VR];cases m<;>cases n<;>rfl,fun x y=>uf x y⟩
 ·cases h
theorem QY(xT:TypeId):cU P .eql xT (A0 false):=by
 intro g w a b r u v ha hb h
 unfold A0 at h
 split at h
 ·rename_i m n
  simp only[VR]at ha hb
  obtain⟨rfl,_⟩:=ha;obtain⟨rfl,_⟩:=hb
  cases h
  exact⟨.bool (m.toList == n.toList),by simp[binOp,Op.stringOp],by simp only[VR];rfl,fun x y=>qQ x y⟩
 ·cases h
theorem QZ(xT:TypeId):cU P .neq xT (A0 true):=by
 intro g w a b r u v ha hb h
 unfold A0 at h
 split at h
 ·rename_i m n
  simp only[VR]at ha hb
  obtain⟨rfl,_⟩:=ha;obtain⟨rfl,_⟩:=hb
  cases h
  exact⟨.bool (!(m.toList == n.toList)),by simp[binOp,Op.stringOp],by simp only[VR];rfl,fun x y=>qQ x y⟩
 ·cases h
omit [Io] in
theorem Af{xT e:TypeId}{w:World}(p:Option Addr)(h:P.underlying xT=some (.pointer e)):(Op.equal xT (.pointer p) (.pointer none)).run P w=.ok p.isNone w:=
 rT fun d=>by cases p<;>simp[Op.equalIn,run_underlying h]
omit [Io] in
theorem Ag{xT e:TypeId}{w:World}(p:Option Addr)(h:P.underlying xT=some (.pointer e)):(Op.equal xT (.pointer none) (.pointer p)).run P w=.ok p.isNone w:=
 rT fun d=>by cases p<;>simp[Op.equalIn,run_underlying h]
omit [Io] in
theorem A8{xT e:TypeId}{w:World}(p:Option Addr)(h:P.underlying xT=some (.pointer e)):(binOp .eql xT (.pointer p) (.pointer none)).run P w=.ok (.bool p.isNone) w:=by
 show(do pure (.bool (<-Op.equal xT (.pointer p) (.pointer none))):Sem Value).run P w=_
 simp only[Sem.run_bind,Af p h,Result.andThen_ok,Sem.run_pure]
omit [Io] in
theorem A9{xT e:TypeId}{w:World}(p:Option Addr)(h:P.underlying xT=some (.pointer e)):(binOp .neq xT (.pointer p) (.pointer none)).run P w=.ok (.bool (!p.isNone)) w:=by
 show(do pure (.bool (!(<-Op.equal xT (.pointer p) (.pointer none)))):Sem Value).run P w=_
 simp only[Sem.run_bind,Af p h,Result.andThen_ok,Sem.run_pure]
omit [Io] in
theorem A'{xT e:TypeId}{w:World}(p:Option Addr)(h:P.underlying xT=some (.pointer e)):(binOp .eql xT (.pointer none) (.pointer p)).run P w=.ok (.bool p.isNone) w:=by
 cases p with
 |none=>exact A8 none h
 |some a=>
  show(do pure (.bool (<-Op.equal xT (.pointer none) (.pointer (some a)))):Sem Value).run P w=_
  simp only[Sem.run_bind,Ag (some a) h,Result.andThen_ok,Sem.run_pure]
omit [Io] in
theorem Ba{xT e:TypeId}{w:World}(p:Option Addr)(h:P.underlying xT=some (.pointer e)):(binOp .neq xT (.pointer none) (.pointer p)).run P w=.ok (.bool (!p.isNone)) w:=by
 cases p with
 |none=>exact A9 none h
 |some a=>
  show(do pure (.bool (!(<-Op.equal xT (.pointer none) (.pointer (some a))))):Sem Value).run P w=_
  simp only[Sem.run_bind,Ag (some a) h,Result.andThen_ok,Sem.run_pure]
theorem Q0{xT e:TypeId}(hT:P.underlying xT=some (.pointer e)):cU P .eql xT (qz false):=by
 intro g w a b r u v ha hb h
 unfold qz at h
 split at h<;>try (cases h;done)
 all_goals
  simp only[VR]at ha hb
  cases h
 ·obtain⟨_,_,_,rfl⟩:=ha;obtain⟨rfl,_⟩:=hb
  exact⟨_,A8 _ hT,by simp[VR],fun x y=>dw x y⟩
 ·obtain⟨_,_,_,rfl,_⟩:=ha;obtain⟨rfl,_⟩:=hb
  exact⟨_,A8 _ hT,by simp[VR],fun x y=>dw x y⟩
 ·obtain⟨rfl,_⟩:=ha;obtain⟨_,_,_,rfl⟩:=hb
  exact⟨_,A' _ hT,by simp[VR],fun x y=>dw x y⟩
 ·obtain⟨rfl,_⟩:=ha;obtain⟨_,_,_,rfl,_⟩:=hb
  exact⟨_,A' _ hT,by simp[VR],fun x y=>dw x y⟩
 ·obtain⟨rfl,_⟩:=ha;obtain⟨rfl,_⟩:=hb
  exact⟨_,A' _ hT,by simp[VR],fun x y=>dw x y⟩
theorem Q1{xT e:TypeId}(hT:P.underlying xT=some (.pointer e)):cU P .neq xT (qz true):=by
 intro g w a b r u v ha hb h
 unfold qz at h
 split at h<;>try (cases h;done)
 all_goals
  simp only[VR]at ha hb
  cases h
 ·obtain⟨_,_,_,rfl⟩:=ha;obtain⟨rfl,_⟩:=hb
  exact⟨_,A9 _ hT,by simp[VR],fun x y=>dw x y⟩
 ·obtain⟨_,_,_,rfl,_⟩:=ha;obtain⟨rfl,_⟩:=hb
  exact⟨_,A9 _ hT,by simp[VR],fun x y=>dw x y⟩
 ·obtain⟨rfl,_⟩:=ha;obtain⟨_,_,_,rfl⟩:=hb
  exact⟨_,Ba _ hT,by simp[VR],fun x y=>dw x y⟩
 ·obtain⟨rfl,_⟩:=ha;obtain⟨_,_,_,rfl,_⟩:=hb
  exact⟨_,Ba _ hT,by simp[VR],fun x y=>dw x y⟩
 ·obtain⟨rfl,_⟩:=ha;obtain⟨rfl,_⟩:=hb
  exact⟨_,Ba _ hT,by simp[VR],fun x y=>dw x y⟩
omit [Io] in
theorem xN{xT e:TypeId}{w:World}(p:Option Addr)(n m:Nat)(h:P.underlying xT=some (.slice e)):(Op.equal xT (.slice p n m) (.slice none 0 0)).run P w=.ok p.isNone w:=
 rT fun d=>by cases p<;>simp[Op.equalIn,run_underlying h]
theorem Q2{xT e:TypeId}(hT:P.underlying xT=some (.slice e)):cU P .eql xT (nK false):=by
 intro g w a b r u v ha hb h
 unfold nK at h
 cases hn:isNil b with
 |false=>rw[hn]at h;cases h
 |true=>
  rw[hn]at h
  simp only[cond_true]at h
  rw[qR hn]at hb
  simp only[VR]at hb
  obtain⟨rfl,_⟩:=hb
  cases hc:AY a with
  |none=>rw[hc]at h;cases h
  |some c=>
   rw[hc]at h
   cases h
   obtain⟨p,n,m,rfl,rfl⟩:=Hd hc ha
   refine⟨.bool p.isNone,?_,by simp[VR],fun x y=>sH x y⟩
   show(do pure (.bool (<-Op.equal xT (.slice p n m) (.slice none 0 0))):Sem Value).run P w=_
   simp only[Sem.run_bind,xN p n m hT,Result.andThen_ok,Sem.run_pure]
theorem Q3{xT e:TypeId}(hT:P.underlying xT=some (.slice e)):cU P .neq xT (nK true):=by
 intro g w a b r u v ha hb h
 unfold nK at h
 cases hn:isNil b with
 |false=>rw[hn]at h;cases h
 |true=>
  rw[hn]at h
  simp only[cond_true]at h
  rw[qR hn]at hb
  simp only[VR]at hb
  obtain⟨rfl,_⟩:=hb
  cases hc:AY a with
  |none=>rw[hc]at h;cases h
  |some c=>
   rw[hc]at h
   cases h
   obtain⟨p,n,m,rfl,rfl⟩:=Hd hc ha
   refine⟨.bool (!p.isNone),?_,by simp[VR],fun x y=>sH x y⟩
   show(do pure (.bool (!(<-Op.equal xT (.slice p n m) (.slice none 0 0)))):Sem Value).run P w=_
   simp only[Sem.run_bind,xN p n m hT,Result.andThen_ok,Sem.run_pure]
omit [Io] in
theorem ug{f:AV->Option AV}{x:eN}{t:Tm}{h h':Hp}{v:AV}(e:fm f x t h=.ok v h'): ∃ b,x t=some b/\f b=some v/\h'=h:=by
 unfold fm at e
 cases hx:x t with
 |none=>rw[hx]at e;cases e
 |some u=>
  rw[hx]at e
  cases hr:f u with
  |none=>simp only[hr]at e;cases e
  |some r=>simp only[hr]at e;cases e;exact⟨u,rfl,hr,rfl⟩
theorem K4{T:TypeId}{x:Operand}(ho:o.op=.unOp .not T x):bT P o (fm jY (aQ x)):=by
 intro g w nt t h a v h' H Tr e
 obtain⟨b,hb,hf,rfl⟩:=ug e
 have hv:=bg x _ _ _ _ _ _ Tr hb
 unfold jY at hf
 split at hf
 ·rename_i b
  cases hf
  simp only[VR]at hv
  exact⟨rfl,.bool (!b),by simp[execOp,ho,hv,Op.unary],by simp only[VR]⟩
 ·cases hf
omit [Io] in
theorem K5(k:IntKind)(n:Int):Xh k<=eZ k n/\eZ k n<=Vt k:=by
 cases k<;>simp only[Xh,Vt,eZ]<;>
  first
   |(show _<=n % _/\n % _<=_;omega)
   |(show _<=(n+_) % _ - _/\(n+_) % _ - _<=_;omega)
theorem K6{g:G}{w:World}{x:AV}{v:Value}{k:IntKind}{s:SV}{o l u:Int}(h:QD x=some (k,s,o,l,u))(hx:VR g w x v):
 v=.int k (iy s+o)/\l<=iy s+o/\iy s+o<=u:=by
 unfold QD at h
 split at h
 ·cases h
  simp only[VR]at hx
  subst hx
  simp only[iy,Int.add_zero]
  exact⟨trivial,Int.le_refl _,Int.le_refl _⟩
 ·rename_i k' s' lo hi o'
  cases h
  simp only[VR]at hx
  obtain⟨rfl,h1,h2⟩:=hx
  exact⟨rfl,by show lo+o<=_;omega,by show _<=hi+o;omega⟩
 ·cases h
theorem acD{g:G}{w:World}{f:Nat}{k k':IntKind}{m r:Int}{x v:AV}(h:t1 f k x=some v)(hx:VR g w x (.int k' m))(hf:opF f k m 0=some (.int k r))(h1:Xh k<=r)(h2:r<=Vt k):
 VR g w v (.int k r):=by
 unfold t1 at h
 split at h
 ·rename_i kk s o l u hs
  cases h
  obtain⟨e,_,_⟩:=K6 hs hx
  obtain⟨_,e⟩:=Value.int.inj e
  have e2:iy (.tm f k kk s o (.W9 0) 0)=r:=by
   show tmF f k (iy s+o) (0+0)=r
   rw[<-e]
   unfold tmF
   rw[show(0:Int)+0=0 from rfl,hf]
  simp only[VR]
  rw[e2]
  exact⟨by rw[Int.add_zero],h1,h2⟩
 ·cases h
theorem K7{T:TypeId}{x:Operand}(ho:o.op=.unOp .neg T x):bT P o (fm KS (aQ x)):=by
 intro g w nt t h a v h' H Tr e
 obtain⟨b,hb,hf,rfl⟩:=ug e
 have hv:=bg x _ _ _ _ _ _ Tr hb
 unfold KS at hf
 cases hr:G7 b with
 |some r=>
  rw[hr]at hf
  cases hf
  unfold G7 at hr
  split at hr
  ·rename_i k n
   cases hr
   simp only[VR]at hv
   exact⟨rfl,.int k (k.wrap (0 - n)),by simp[execOp,ho,hv,Op.unary,Op.intArith],by simp only[VR,kN];rfl⟩
  ·cases hr
 |none=>
  rw[hr]at hf
  change (match QD b with|some (k,_,_,_,_)=>t1 10 k b|none=>none)=some v at hf
  split at hf
  ·rename_i k s o' l u hs
   obtain⟨e1,_,_⟩:=K6 hs hv
   rw[e1]at hv
   have hw:=K5 k (0 - (iy s+o'))
   refine⟨rfl,.int k (k.wrap (0 - (iy s+o'))),by simp[execOp,ho,e1,Op.unary,Op.intArith],?_⟩
   rw[<-kN]
   exact acD hf hv rfl hw.1 hw.2
  ·cases hf
theorem K8{T:TypeId}{x:Operand}(ho:o.op=.unOp .xor T x):bT P o (fm IK (aQ x)):=by
 intro g w nt t h a v h' H Tr e
 obtain⟨b,hb,hf,rfl⟩:=ug e
 have hv:=bg x _ _ _ _ _ _ Tr hb
 unfold IK at hf
 split at hf
 ·rename_i k n
  simp only[VR]at hv
  obtain⟨z,hz,hr⟩:=ue hf P g w
  exact⟨rfl,z,by simp[execOp,ho,hv,hz],hr⟩
 ·cases hf
theorem Q4{f:FuncId}{caps:Array Operand}(ho:o.op=.makeFunc (.func f) #[] caps):bT P o (Qc f (caps.toList.map aQ)):=by
 intro g w nt t h a v h' H T e
 unfold Qc at e
 split at e
 ·rename_i vs eH
  cases e
  refine⟨rfl,.func (.func f) #[] (caps.map a.eval),by simp[execOp,ho,Instr.makeFunc],?_⟩
  simp only[VR]
  exact⟨_,rfl,by simpa using xh T caps.toList eH⟩
 ·cases e
theorem Bb{x:Operand}{i:Nat}(ho:o.op=.extract x i):bT P o (aO (aQ x) i):=by
 intro g w nt t h a v h' H T e
 unfold aO at e
 split at e
 ·rename_i vs hx
  have hv:=bg x _ _ _ _ _ _ T hx
  simp only[VR]at hv
  obtain⟨us,hu,hr⟩:=hv
  split at e
  ·rename_i r hg
   cases e
   rw[gH]at hg
   obtain⟨z,hz,Hf⟩:=bL.get hr i _ hg
   exact⟨rfl,z,by simp[execOp,ho,Instr.extract,hu,by simpa using hz],Hf⟩
  ·cases e
 ·cases e
theorem IU{x:Operand}{T:TypeId}(ho:o.op=.call {callee:=.builtin .len,args:= #[x],argTypes:= #[T]})(hT:P.underlying T=some .string):
 bT P o (jZ (aQ x)):=by
 intro g w nt t h a v h' H Tr e
 unfold jZ at e
 split at e
 ·rename_i s hx
  have hv:=bg x _ _ _ _ _ _ Tr hx
  simp only[VR]at hv
  cases e
  exact⟨rfl,.int .i64 s.size,by simp[execOp,ho,resolve,invoke,builtin,Builtin.len_,hv.1,run_underlying hT,goInt],by simp only[VR];rfl⟩
 ·cases e
theorem IV{x:Operand}{T e:TypeId}{n:Nat}(ho:o.op=.call {callee:=.builtin .len,args:= #[x],argTypes:= #[T]})(hT:P.underlying T=some (.array n e)):
 bT P o (aa (oC (.int .i64 (.ofNat n)))):=by
 intro g w nt t h a v h' H Tr e
 cases e
 exact⟨rfl,.int .i64 n,by simp[execOp,ho,resolve,invoke,builtin,Builtin.len_,run_underlying hT,goInt],by simp only[VR];rfl⟩
theorem K9{x:Operand}{T e:TypeId}(ho:o.op=.call {callee:=.builtin .len,args:= #[x],argTypes:= #[T]})(hT:P.underlying T=some (.slice e)):
 bT P o (aV (wO (aQ x))):=by
 intro g w nt t h a v h' H Tr e
 have sl: ∀ b n c,a.eval x=.slice b n c->(execOp a.eval o).run P w=.ok (.value (.int .i64 n)) w:=by
  intro b n c hx
  simp[execOp,ho,resolve,invoke,builtin,Builtin.len_,hx,run_underlying hT,goInt]
 unfold aV at e
 split at e
 ·rename_i id off n sz hx
  have hv:=iQ x _ _ _ _ _ _ Tr hx
  simp only[VR]at hv
  cases e
  rcases hv with⟨rfl,b,hv⟩|⟨b,s,cap,_,hv,_⟩
  ·exact⟨rfl,_,sl _ _ _ hv,by simp only[VR];rfl⟩
  ·exact⟨rfl,_,sl _ _ _ hv,by simp only[VR];rfl⟩
 ·rename_i n cs hx
  have hv:=iQ x _ _ _ _ _ _ Tr hx
  simp only[VR]at hv
  cases e
  obtain⟨b,cap,hv,_⟩:=hv
  exact⟨rfl,_,sl _ _ _ hv,by simp only[VR];rfl⟩
 ·rename_i hx
  have hv:=iQ x _ _ _ _ _ _ Tr hx
  simp only[VR]at hv
  cases e
  obtain⟨b,hv⟩:=hv
  exact⟨rfl,_,sl _ _ _ hv,by simp only[VR];rfl⟩
 ·cases e
theorem K'{x:Operand}{T e:TypeId}(ho:o.op=.call {callee:=.builtin .cap,args:= #[x],argTypes:= #[T]})(hT:P.underlying T=some (.slice e)):
 bT P o (tX (wO (aQ x))):=by
 intro g w nt t h a v h' H Tr e
 unfold tX at e
 split at e
 ·rename_i hx
  have hv:=iQ x _ _ _ _ _ _ Tr hx
  simp only[VR]at hv
  cases e
  obtain⟨b,hv⟩:=hv
  exact⟨rfl,.int .i64 0,by simp[execOp,ho,resolve,invoke,builtin,Builtin.cap_,hv,run_underlying hT,goInt],by simp only[VR]⟩
 ·cases e
end
end Go.Ab

noncomputable section
namespace Go.Ab
variable [Io]
section
variable {P:Program}{o:Oper}
omit [Io] in
theorem iz(b o n:Nat):(⟨b,o,none⟩:Addr).add n=⟨b,o+n,none⟩:=by unfold Addr.add;split<;>simp_all
def j4:TypeDesc->Bool
 | .struct _| .array _ _=>true
 | _=>false
omit [Io] in
theorem oh{T:TypeId}{d:TypeDesc}{w:World}(h:P.underlying T=some d):(isAgg T).run P w=.ok (j4 d) w:=by
 unfold isAgg
 simp only[Sem.run_bind,run_underlying h,Result.andThen_ok]
 cases d<;>rfl
omit [Io] in
theorem Ah{agg:Bool}{cs:List AV}{off size:Nat}{v:AV}(h:part agg cs off size=some v):
 ((cs.drop off).take size).length=size/\((agg=true/\v=.agg ((cs.drop off).take size))∨(agg=false/\(cs.drop off).take size=[v])):=by
 unfold part at h
 split at h
 ·cases h
 ·rename_i l e
  obtain⟨rfl,hl⟩:=lP e
  cases agg with
  |true=>cases h;exact⟨hl,.inl ⟨rfl,rfl⟩⟩
  |false=>
   change (match(cs.drop off).take size with| [c]=>some c| _=>none)=some v at h
   split at h
   ·rename_i c e2
    cases h
    exact⟨hl,.inr ⟨rfl,e2⟩⟩
   ·cases h
theorem nv{T:TypeId}{d:TypeDesc}{i:TypeInfo}{g:G}{w:World}{cs:List AV}{vs:List Value}{b s off:Nat}{v:AV}
 (hd:P.underlying T=some d)(hi:P.info? T=some i)(hv:bL g w cs vs)(hc:ef w b s vs)(h:part (j4 d) cs off i.size=some v):
 ∃ x,(loadVar T ⟨b,s+off,none⟩).run P w=.ok x w/\VR g w v x:=by
 obtain⟨hl,h⟩:=Ah h
 have eH:bL g w ((cs.drop off).take i.size) ((vs.drop off).take i.size):=(hv.drop off).take _
 have pD:ef w b (s+off) ((vs.drop off).take i.size):=(hc.drop off).take _
 have hlen:((vs.drop off).take i.size).length=i.size:=by rw[eH.length,hl]
 have sr:(sizeOf T).run P w=.ok i.size w:=by simp[sizeOf,typeInfo,hi]
 rcases h with⟨ha,rfl⟩|⟨ha,h⟩
 ·have hr:=run_loadCells_list (P:=P) w ⟨b,s+off,none⟩ ((vs.drop off).take i.size) (fun j v e=>by rw[iz];exact pD j v e)
  rw[hlen]at hr
  refine⟨.agg ((vs.drop off).take i.size).toArray,?_,?_⟩
  ·unfold loadVar
   simp only[Sem.run_bind,oh hd,ha,Result.andThen_ok,if_true,sr,hr,Sem.run_pure]
  ·simp only[VR]
   exact⟨_,rfl,by simpa using eH⟩
 ·rw[h]at eH
  simp only[bL]at eH
  obtain⟨x,l',e,hx,rfl⟩:=eH
  have:=pD 0 x (by rw[e];rfl)
  refine⟨x,?_,hx⟩
  unfold loadVar
  simp only[Sem.run_bind,oh hd,ha,Result.andThen_ok]
  simp only[Nat.add_zero]at this
  simp[run_load,this]
theorem IW{T:TypeId}{d:TypeDesc}{i:TypeInfo}{x:Operand}(ho:o.op=.load T x)(hd:P.underlying T=some d)(hi:P.info? T=some i):
 bT P o (bh i.size (j4 d) (aQ x)):=by
 intro g w nt t h a v h' H Tr e
 unfold bh at e
 split at e
 ·rename_i av hx
  split at e
  ·rename_i r hr
   cases e
   have hv:=bg x _ _ _ _ _ _ Tr hx
   unfold xF at hr
   split at hr
   ·rename_i id off
    split at hr
    ·rename_i cs hg
     simp only[VR]at hv
     obtain⟨b,s,hm,hv⟩:=hv
     obtain⟨C,el,vs,hw,_,eH,hc⟩:=H.row hg hm
     obtain⟨z,hz,hr⟩:=nv hd hi eH (jL hw hc) (xI hr)
     exact⟨rfl,z,by simp[execOp,ho,Instr.loadAt,Instr.sureAddr,hv,hz],hr⟩
    ·cases hr
   ·rename_i cs
    simp only[VR]at hv
    obtain⟨b,s,vs,hv,_,hc,eH⟩:=hv
    obtain⟨z,hz,hr⟩:=nv hd hi eH hc hr
    rw[Nat.add_zero]at hz
    exact⟨rfl,z,by simp[execOp,ho,Instr.loadAt,Instr.sureAddr,hv,hz],hr⟩
   ·cases hr
  ·cases e
 ·cases e
theorem VR.vD{g w cs b s vs}(i:g.fx b)(hc:ef w b s vs)(hv:bL g w cs vs)(n:Nat):
 VR g w (.jC (cs.drop n)) (.pointer (some ⟨b,s+n,none⟩)):=by
 simp only[VR]
 exact⟨b,s+n,vs.drop n,rfl,i,hc.drop n,hv.drop n⟩
theorem xO{T:TypeId}{fs:Array Field}{n:Nat}{f:Field}{i:TypeInfo}{x:Operand}(ho:o.op=.fieldAddr T x n)
 (hd:P.underlying T=some (.struct fs))(hf:fs[n]? =some f)(hi:P.info? f.type=some i)(h0:i.size≠0):bT P o (ab f.offset (aQ x)):=by
 intro g w nt t h a v h' H Tr e
 have kB: ∀ b s,a.eval x=.pointer (some ⟨b,s,none⟩)->(execOp a.eval o).run P w=.ok (.value (.pointer (some ⟨b,s+f.offset,none⟩))) w:=by
  intro b s hx
  simp[execOp,ho,hx,Instr.fieldAt,run_underlying hd,hf,Instr.sureAddr,fieldPlace,sizeOf,typeInfo,hi,h0,iz]
 unfold ab at e
 split at e
 ·rename_i id off hx
  have hv:=bg x _ _ _ _ _ _ Tr hx
  cases e
  simp only[VR]at hv
  obtain⟨b,s,hm,hv⟩:=hv
  refine⟨rfl,_,kB _ _ hv,?_⟩
  simp only[VR]
  exact⟨b,s,hm,by rw[Nat.add_assoc];rfl⟩
 ·rename_i cs hx
  have hv:=bg x _ _ _ _ _ _ Tr hx
  cases e
  simp only[VR]at hv
  obtain⟨b,s,vs,hv,hi,hc,eH⟩:=hv
  refine⟨rfl,_,kB _ _ hv,?_⟩
  rw[j3]
  exact VR.vD hi hc eH _
 ·cases e
theorem CN{T:TypeId}{d:TypeDesc}{i:TypeInfo}{g:G}{w:World}{cs:List AV}{vs:Array Value}{off:Nat}{v:AV}
 (hd:P.underlying T=some d)(hi:P.info? T=some i)(hv:bL g w cs vs.toList)(h:part (j4 d) cs off i.size=some v):
 ∃ x,(Go.part T vs off).run P w=.ok x w/\VR g w v x:=by
 obtain⟨hl,h⟩:=Ah h
 have eH:bL g w ((cs.drop off).take i.size) ((vs.toList.drop off).take i.size):=(hv.drop off).take _
 have sr:(sizeOf T).run P w=.ok i.size w:=by simp[sizeOf,typeInfo,hi]
 rcases h with⟨ha,rfl⟩|⟨ha,h⟩
 ·refine⟨.agg (vs.extract off (off+i.size)),?_,?_⟩
  ·unfold Go.part
   simp only[Sem.run_bind,oh hd,ha,Result.andThen_ok,if_true,sr,Sem.run_pure]
  ·simp only[VR]
   refine⟨_,rfl,?_⟩
   have:(vs.extract off (off+i.size)).toList=(vs.toList.drop off).take i.size:=by
    rw[Array.toList_extract]
    simp[List.extract]
   rw[this];exact eH
 ·rw[h]at eH
  simp only[bL]at eH
  obtain⟨x,l',e,hx,rfl⟩:=eH
  have hx0:vs[off]? =some x:=by
   have:((vs.toList.drop off).take i.size)[0]? =some x:=by rw[e];rfl
   rw[List.getElem?_take]at this
   split at this
   ·simpa using this
   ·cases this
  refine⟨x,?_,hx⟩
  unfold Go.part
  simp only[Sem.run_bind,oh hd,ha,Result.andThen_ok]
  simp[hx0]
theorem Fm{T:TypeId}{fs:Array Field}{n:Nat}{f:Field}{d:TypeDesc}{i:TypeInfo}{x:Operand}(ho:o.op=.field T x n)
 (hd:P.underlying T=some (.struct fs))(hf:fs[n]? =some f)(zu:P.underlying f.type=some d)(hi:P.info? f.type=some i):
 bT P o (nP f.offset i.size (j4 d) (aQ x)):=by
 intro g w nt t h a v h' H Tr e
 unfold nP at e
 split at e
 ·rename_i cs hx
  split at e
  ·rename_i r hr
   cases e
   have hv:=bg x _ _ _ _ _ _ Tr hx
   simp only[VR]at hv
   obtain⟨vs,hv,eH⟩:=hv
   obtain⟨z,hz,hr⟩:=CN zu hi eH hr
   exact⟨rfl,z,by simp[execOp,ho,hv,Instr.field,run_underlying hd,hf,asAgg,hz],hr⟩
  ·cases e
 ·cases e
omit [Io] in
theorem bO{a b:Nat}:Nat.blt a b=true↔a<b:=by simp[Nat.blt_eq]
theorem La{T e:TypeId}{i:TypeInfo}{x y:Operand}(ho:o.op=.indexAddr T x y)(hd:P.underlying T=some (.slice e))(hi:P.info? e=some i):
 bT P o (bH i.size (aQ x) (aQ y)):=by
 intro g w nt t h a v h' H Tr e
 have kB: ∀ b s n c k (j:Nat),a.eval x=.slice (some ⟨b,s,none⟩) n c->a.eval y=.int k j->j<n->
  (execOp a.eval o).run P w=.ok (.value (.pointer (some ⟨b,s+j*i.size,none⟩))) w:=by
  intro b s n c k j hx hy hj
  have hn: ¬ n<=j:=by omega
  simp[execOp,ho,hx,hy,Instr.indexAt,run_underlying hd,asIntOf,hn,sizeOf,typeInfo,hi,iz]
 unfold bH at e
 split at e
 ·rename_i k j hy
  have xi:=bg y _ _ _ _ _ _ Tr hy
  simp only[VR]at xi
  split at e
  ·rename_i id off n sz hx
   have hv:=bg x _ _ _ _ _ _ Tr hx
   cases hb:(Nat.blt j n&&Nat.beq sz i.size)with
   |false=>rw[hb]at e;cases e
   |true=>
    rw[hb]at e
    cases e
    simp only[Bool.and_eq_true]at hb
    have hj:=bO.1 hb.1
    obtain rfl:=Nat.eq_of_beq_eq_true hb.2
    simp only[VR]at hv
    rcases hv with⟨h0,_⟩|⟨b,s,cap,hm,hv,_,_⟩
    ·omega
    ·refine⟨rfl,_,kB _ _ _ _ _ _ hv xi hj,?_⟩
     simp only[VR]
     exact⟨b,s,hm,by rw[Nat.add_assoc];rfl⟩
  ·rename_i n cs hx
   have hv:=bg x _ _ _ _ _ _ Tr hx
   cases hb:Nat.blt j n with
   |false=>rw[hb]at e;cases e
   |true=>
    rw[hb]at e
    cases e
    have hj:=bO.1 hb
    simp only[VR]at hv
    obtain⟨q,c,hv,hc,hr⟩:=hv
    rcases hr with⟨h0,_⟩|⟨b,s,vs,rfl,vw,pD,eH⟩
    ·omega
    ·refine⟨rfl,_,kB _ _ _ _ _ _ hv xi hj,?_⟩
     rw[j3]
     exact VR.vD vw pD eH _
  ·cases e
 ·cases e
theorem Lb{T e:TypeId}{n:Nat}{i:TypeInfo}{x y:Operand}(ho:o.op=.indexAddr T x y)(hd:P.underlying T=some (.array n e))(hi:P.info? e=some i):
 bT P o (sj n i.size (aQ x) (aQ y)):=by
 intro g w nt t h a v h' H Tr e
 have kB: ∀ b s k (j:Nat),a.eval x=.pointer (some ⟨b,s,none⟩)->a.eval y=.int k j->j<n->
  (execOp a.eval o).run P w=.ok (.value (.pointer (some ⟨b,s+j*i.size,none⟩))) w:=by
  intro b s k j hx hy hj
  have hn: ¬ n<=j:=by omega
  simp[execOp,ho,hx,hy,Instr.indexAt,Instr.sureAddr,run_underlying hd,asIntOf,hn,sizeOf,typeInfo,hi,iz]
 unfold sj at e
 split at e
 ·rename_i k j hy
  have xi:=bg y _ _ _ _ _ _ Tr hy
  simp only[VR]at xi
  split at e
  ·rename_i id off hx
   have hv:=bg x _ _ _ _ _ _ Tr hx
   cases hb:Nat.blt j n with
   |false=>rw[hb]at e;cases e
   |true=>
    rw[hb]at e
    cases e
    simp only[VR]at hv
    obtain⟨b,s,hm,hv⟩:=hv
    refine⟨rfl,_,kB _ _ _ _ hv xi (bO.1 hb),?_⟩
    simp only[VR]
    exact⟨b,s,hm,by rw[Nat.add_assoc];rfl⟩
  ·rename_i cs hx
   have hv:=bg x _ _ _ _ _ _ Tr hx
   cases hb:Nat.blt j n with
   |false=>rw[hb]at e;cases e
   |true=>
    rw[hb]at e
    cases e
    simp only[VR]at hv
    obtain⟨b,s,vs,hv,vw,hc,eH⟩:=hv
    refine⟨rfl,_,kB _ _ _ _ hv xi (bO.1 hb),?_⟩
    rw[j3]
    exact VR.vD vw hc eH _
  ·cases e
 ·cases e
theorem Fo{T e:TypeId}{n:Nat}{d:TypeDesc}{i:TypeInfo}{x y:Operand}(ho:o.op=.index T x y)(hd:P.underlying T=some (.array n e))
 (zu:P.underlying e=some d)(hi:P.info? e=some i):bT P o (ly n i.size (j4 d) (aQ x) (aQ y)):=by
 intro g w nt t h a v h' H Tr e
 unfold ly at e
 split at e
 ·rename_i cs hx
  split at e
  ·rename_i k j hy
   have xi:=bg y _ _ _ _ _ _ Tr hy
   simp only[VR]at xi
   have hv:=bg x _ _ _ _ _ _ Tr hx
   simp only[VR]at hv
   obtain⟨vs,hv,eH⟩:=hv
   cases hb:Nat.blt j n with
   |false=>rw[hb]at e;cases e
   |true=>
    rw[hb]at e
    change (match part (j4 d) cs (j*i.size) i.size with|some v=>Ro.ok v h|none=>.bad)=.ok v h' at e
    split at e
    ·rename_i r hr
     cases e
     obtain⟨z,hz,hr⟩:=CN zu hi eH hr
     have hn: ¬ n<=j:=by have:=bO.1 hb;omega
     have Xl:a.eval y=.int k ((j:Nat):Int):=xi
     exact⟨rfl,z,by simp[execOp,ho,hv,Xl,Instr.index,run_underlying hd,asIntOf,hn,sizeOf,typeInfo,hi,hz],hr⟩
    ·cases e
  ·cases e
 ·cases e
theorem CO{T:TypeId}{x y:Operand}(ho:o.op=.index T x y)(hd:P.underlying T=some .string):bT P o (cF (aQ x) (aQ y)):=by
 intro g w nt t h a v h' H Tr e
 unfold cF at e
 split at e
 ·rename_i s hx
  split at e
  ·rename_i k j hy
   have xi:=bg y _ _ _ _ _ _ Tr hy
   simp only[VR]at xi
   have Xl:a.eval y=.int k ((j:Nat):Int):=xi
   have hv:=bg x _ _ _ _ _ _ Tr hx
   simp only[VR]at hv
   split at e
   ·rename_i b hb
    cases e
    rw[gH]at hb
    have EZ:s[j]? =some b:=by
     have:s.data[j]? =some b:=by simpa using hb
     obtain⟨hj,e⟩:=Array.getElem?_eq_some_iff.1 this
     rw[getElem?_pos s j hj]
     exact congrArg some e
    exact⟨rfl,.int .u8 b.toNat,by simp[execOp,ho,hv.1,Xl,Instr.index,run_underlying hd,asIntOf,EZ],by simp only[VR]⟩
   ·cases e
  ·rename_i k sv lo hi o hy
   have xi:=bg y _ _ _ _ _ _ Tr hy
   simp only[VR]at xi
   obtain⟨xi,h1,h2⟩:=xi
   have hv:=bg x _ _ _ _ _ _ Tr hx
   simp only[VR]at hv
   cases hc:(!(la (Int.add lo o) 0)&&la (Int.add hi o) (.ofNat s.size))with
   |false=>rw[hc]at e;cases e
   |true=>
    rw[hc]at e
    cases e
    rw[jg,jg]at hc
    have h3:(0:Int)<=lo+o:=by
     have:Int.add lo o=lo+o:=rfl
     simp[this]at hc
     omega
    have h4:hi+o<(s.size:Int):=by
     have:Int.add hi o=hi+o:=rfl
     simp[this]at hc
     omega
    obtain⟨j,hj⟩: ∃ j:Nat,iy sv+o=(j:Int):=⟨(iy sv+o).toNat,by omega⟩
    have hjs:j<s.size:=by omega
    rw[hj]at xi
    have EZ:s[j]? =some s[j]:=getElem?_pos s j hjs
    refine⟨rfl,.int .u8 (s[j]).toNat,by simp[execOp,ho,hv.1,xi,Instr.index,run_underlying hd,asIntOf,EZ],?_⟩
    have zu:(s.data.toList.map UInt8.toNat).getD j 0=(s[j]).toNat:=by
     have hjd:j<s.data.size:=hjs
     have e1:(s.data.toList.map UInt8.toNat)[j]? =some (s[j]).toNat:=by
      rw[List.getElem?_map,Array.getElem?_toList,getElem?_pos s.data j hjd]
      rfl
     rw[List.getD,e1]
     rfl
    have gB:(s[j]).toNat<256:=UInt8.toNat_lt _
    simp only[VR,iy]
    rw[hj,Int.toNat_natCast,zu]
    exact⟨by rw[Int.add_zero],by omega,by omega⟩
  ·cases e
 ·cases e
theorem wb{x:Option Operand}{t:Tm}{d n:Nat}{g w nt}{a:Act}(T:TR g w nt t a.tmps)(h:nN (x.map aQ) t d=some n):
 (x=none/\n=d)∨ ∃ y k,x=some y/\a.eval y=.int k ((n:Nat):Int):=by
 cases x with
 |none=>exact .inl ⟨rfl,by simpa[nN]using h.symm⟩
 |some y=>
  simp only[Option.map_some,nN]at h
  split at h
  ·rename_i k m hy
   cases h
   have hv:=bg y _ _ _ _ _ _ T hy
   simp only[VR]at hv
   exact .inr ⟨y,k,rfl,hv⟩
  ·cases h
theorem jN{lo hi:Option Operand}{t:Tm}{n l e:Nat}{g w nt}{a:Act}(T:TR g w nt t a.tmps)(h:bounds (lo.map aQ) (hi.map aQ) t n=some (l,e)):
 l<=e/\e<=n/\((lo=none/\l=0)∨ ∃ y k,lo=some y/\a.eval y=.int k ((l:Nat):Int))/\((hi=none/\e=n)∨ ∃ y k,hi=some y/\a.eval y=.int k ((e:Nat):Int)):=by
 unfold bounds at h
 split at h
 ·rename_i l' hl
  split at h
  ·rename_i e' he
   cases hb:(Nat.ble l' e'&&Nat.ble e' n)with
   |false=>rw[hb]at h;cases h
   |true=>
    rw[hb]at h
    cases h
    simp only[Bool.and_eq_true,Nat.ble_eq]at hb
    exact⟨hb.1,hb.2,wb T hl,wb T he⟩
  ·cases h
 ·cases h
omit [Io] in
theorem pE{w:World}{isS:Bool}{len cap l e:Nat}{lo hi:Option Value}(h1:l<=e)(h2:e<=cap)
 (Xm:(lo=none/\l=0)∨ ∃ k,lo=some (.int k ((l:Nat):Int)))(hhi:(hi=none/\e=len)∨ ∃ k,hi=some (.int k ((e:Nat):Int))):
 (Instr.sliceBounds isS len cap lo hi none).run P w=.ok (l,e,cap) w:=by
 have b1: ¬ cap<e:=by omega
 have b2: ¬ e<l:=by omega
 rcases Xm with⟨rfl,rfl⟩|⟨k,rfl⟩<;>rcases hhi with⟨rfl,rfl⟩|⟨k',rfl⟩<;>
  simp[Instr.sliceBounds,Instr.sliceBound,asIntOf,Nat.not_lt.1 b1,Nat.not_lt.1 b2]
omit [Io] in
theorem qS{a:Act}{lo:Option Operand}{l d:Nat}(h:(lo=none/\l=d)∨ ∃ y k,lo=some y/\a.eval y=.int k ((l:Nat):Int)):
 (lo.map a.eval=none/\l=d)∨ ∃ k,lo.map a.eval=some (.int k ((l:Nat):Int)):=by
 rcases h with⟨rfl,rfl⟩|⟨y,k,rfl,e⟩
 ·exact .inl ⟨rfl,rfl⟩
 ·exact .inr ⟨k,by simp[e]⟩
theorem CP{T:TypeId}{x:Operand}{lo hi:Option Operand}(ho:o.op=.slice T x lo hi none)(hd:P.underlying T=some .string):
 bT P o (dk (aQ x) (lo.map aQ) (hi.map aQ)):=by
 intro g w nt t h a v h' H Tr e
 unfold dk at e
 split at e
 ·rename_i s hx
  have hv:=bg x _ _ _ _ _ _ Tr hx
  simp only[VR]at hv
  split at e
  ·rename_i l e' hb
   cases e
   obtain⟨h1,h2,h3,h4⟩:=jN Tr hb
   have hr:=pE (P:=P) (w:=w) (isS:=false) h1 h2 (qS h3) (qS h4)
   exact⟨rfl,.string (s.extract l e'),by simp[execOp,ho,hv.1,Instr.sliceAt,Instr.slice,run_underlying hd,hr],by simp[VR,Value.oneCell']⟩
  ·cases e
 ·cases e
theorem Fp{T el:TypeId}{i:TypeInfo}{x:Operand}{lo hi:Option Operand}(ho:o.op=.slice T x lo hi none)(hd:P.underlying T=some (.slice el))(vw:P.info? el=some i):
 bT P o (nO i.size (aQ x) (lo.map aQ) (hi.map aQ)):=by
 intro g w nt t h a v h' H Tr e
 have sr:(sizeOf el).run P w=.ok i.size w:=by simp[sizeOf,typeInfo,vw]
 have kB: ∀ b n c l u,a.eval x=.slice b n c->l<=u->u<=c->((lo=none/\l=0)∨ ∃ y k,lo=some y/\a.eval y=.int k ((l:Nat):Int))->
  ((hi=none/\u=n)∨ ∃ y k,hi=some y/\a.eval y=.int k ((u:Nat):Int))->
  (execOp a.eval o).run P w=.ok (.value (.slice (if c=l then b else b.map (·.add (l*i.size))) (u - l) (c - l))) w:=by
  intro b n c l u hx h1 h2 h3 h4
  have hr:=pE (P:=P) (w:=w) (isS:=true) h1 h2 (qS h3) (qS h4)
  simp[execOp,ho,hx,Instr.sliceAt,Instr.slice,run_underlying hd,hr,sr]
 unfold nO at e
 split at e
 ·rename_i hx
  have hv:=bg x _ _ _ _ _ _ Tr hx
  simp only[VR]at hv
  obtain⟨b,hv⟩:=hv
  split at e
  ·rename_i p hb
   obtain⟨l,u⟩:=p
   cases e
   obtain⟨h1,h2,h3,h4⟩:=jN Tr hb
   refine⟨rfl,_,kB _ _ _ _ _ hv h1 h2 h3 h4,?_⟩
   obtain rfl:l=0:=by omega
   obtain rfl:u=0:=by omega
   simp only[VR]
   exact⟨_,rfl⟩
  ·cases e
 ·rename_i id off n sz hx
  have hv:=bg x _ _ _ _ _ _ Tr hx
  simp only[VR]at hv
  split at e
  ·rename_i l u hb
   cases hz:Nat.beq sz i.size with
   |false=>rw[hz]at e;cases e
   |true=>
    rw[hz]at e
    cases e
    obtain rfl:=Nat.eq_of_beq_eq_true hz
    obtain⟨h1,h2,h3,h4⟩:=jN Tr hb
    rcases hv with⟨rfl,b,hv⟩|⟨b,s,cap,hm,hv,hc,hr⟩
    ·refine⟨rfl,_,kB _ _ _ _ _ hv h1 h2 h3 h4,?_⟩
     obtain rfl:l=0:=by omega
     obtain rfl:u=0:=by omega
     simp only[VR]
     exact .inl ⟨by first|trivial|rfl,b,by simp⟩
    ·refine⟨rfl,_,kB _ _ _ _ _ hv h1 (by omega) h3 h4,?_⟩
     simp only[VR]
     by_cases fY:cap=l
     ·refine .inl ⟨by show u - l=0;omega,⟨b,s+off,none⟩,?_⟩
      rw[show u - l=0 by omega,show cap - l=0 by omega,if_pos fY]
     ·refine .inr ⟨b,s,cap - l,hm,?_,by show u - l<=_;omega,?_⟩
      ·rw[if_neg fY]
       simp only[Option.map_some,iz]
       congr 3
       show s+off+l*i.size=s+(off+l*i.size)
       omega
      ·show s+(off+l*i.size)+(cap - l)*i.size<=_
       have:(cap - l)*i.size+l*i.size=cap*i.size:=by rw[<-Nat.add_mul];congr 1;omega
       omega
  ·cases e
 ·rename_i n cs hx
  have hv:=bg x _ _ _ _ _ _ Tr hx
  simp only[VR]at hv
  obtain⟨b,cap,hv,hc,hr⟩:=hv
  split at e
  ·rename_i l u hb
   cases e
   obtain⟨h1,h2,h3,h4⟩:=jN Tr hb
   refine⟨rfl,_,kB _ _ _ _ _ hv h1 (by omega) h3 h4,?_⟩
   simp only[VR,qO,j3]
   refine⟨_,cap - l,rfl,by show u - l<=_;omega,?_⟩
   rcases hr with⟨rfl,rfl⟩|⟨q,s,vs,rfl,Kz,pD,eH⟩
   ·exact .inl ⟨by show u - l=0;omega,by simp⟩
   ·by_cases fY:cap=l
    ·exact .inl ⟨by show u - l=0;omega,by
      show List.take ((u - l)*i.size) _=[]
      rw[show u - l=0 by omega];simp⟩
    ·refine .inr ⟨q,s+l*i.size,_,?_,Kz,(pD.drop (l*i.size)).take ((u - l)*i.size),(eH.drop (l*i.size)).take ((u - l)*i.size)⟩
     rw[if_neg fY]
     simp only[Option.map_some,iz]
  ·cases e
 ·cases e
theorem CQ{T el:TypeId}{i:TypeInfo}{x:Operand}{lo hi:Option Operand}(ho:o.op=.slice T x lo hi none)(hd:P.underlying T=some (.slice el))(vw:P.info? el=some i):
 bT P o (dg i.size (aQ x) (lo.map aQ) (hi.map aQ)):=by
 intro g w nt t h a v h' H Tr e
 unfold dg at e
 split at e
 ·rename_i av hx
  cases hE:sX av with
  |false=>rw[hE]at e;exact Fp ho hd vw g w nt t h a v h' H Tr e
  |true=>
   rw[hE]at e
   simp only[cond_true]at e
   split at e
   ·rename_i p hb
    obtain⟨l,u⟩:=p
    cases e
    have hv:=bg x _ _ _ _ _ _ Tr hx
    have rQ:=hv
    obtain⟨b,hv⟩:=xK hE hv
    obtain⟨h1,h2,h3,h4⟩:=jN Tr hb
    obtain rfl:l=0:=by omega
    obtain rfl:u=0:=by omega
    have hr:=pE (P:=P) (w:=w) (isS:=true) (len:=0) h1 h2 (qS h3) (qS h4)
    have sr:(sizeOf el).run P w=.ok i.size w:=by simp[sizeOf,typeInfo,vw]
    exact⟨rfl,a.eval x,by simp[execOp,ho,hv,Instr.sliceAt,Instr.slice,run_underlying hd,hr,sr],rQ⟩
   ·cases e
 ·cases e
theorem bL.qT{g w}{cs:List AV}{vs:List Value}{s:Nat}{C:Array Value}(hv:bL g w cs vs)(hc: ∀ (j:Nat) (v:Value),vs[j]? =some v->C[s+j]? =some v){n:Nat}
 (hn:n<=cs.length)(h0:n≠0):s+n<=C.size:=by
 have hl:=hv.length
 have hj:n - 1<vs.length:=by omega
 have:=hc (n - 1) _ (List.getElem?_eq_getElem hj)
 have:=(Array.getElem?_eq_some_iff.1 this).1
 omega
theorem CR{T el:TypeId}{n:Nat}{i:TypeInfo}{x:Operand}{lo hi:Option Operand}(ho:o.op=.slice T x lo hi none)(hd:P.underlying T=some (.array n el))(vw:P.info? el=some i)(h0:i.size≠0):
 bT P o (fX n i.size (aQ x) (lo.map aQ) (hi.map aQ)):=by
 intro g w nt t h a v h' H Tr e
 have sr:(sizeOf el).run P w=.ok i.size w:=by simp[sizeOf,typeInfo,vw]
 unfold fX at e
 split at e
 ·rename_i id off hx
  have hv:=bg x _ _ _ _ _ _ Tr hx
  simp only[VR]at hv
  obtain⟨b,s,hm,hv⟩:=hv
  split at e
  ·rename_i l u hb
   split at e
   ·rename_i cs hg
    cases hz:Nat.ble (Nat.add off (Nat.mul n i.size)) cs.n with
    |false=>rw[hz]at e;cases e
    |true=>
     rw[hz]at e
     cases e
     have hz':off+n*i.size<=cs.toL.length:=by rw[eO];exact Nat.ble_eq.mp hz
     obtain⟨h1,h2,h3,h4⟩:=jN Tr hb
     have hr:=pE (P:=P) (w:=w) (isS:=false) h1 h2 (qS h3) (qS h4)
     refine⟨rfl,.slice (some (if n=l then⟨b,s+off,none⟩else(⟨b,s+off,none⟩:Addr).add (l*i.size))) (u - l) (n - l),?_,?_⟩
     ·simp[execOp,ho,hv,Instr.sliceAt,Instr.sureAddr,run_underlying hd,hr,sr]
     ·obtain⟨C,el',vs,hw,_,eH,hc⟩:=H.row hg hm
      simp only[VR]
      by_cases fY:n=l
      ·refine .inl ⟨by show u - l=0;omega,(if n=l then⟨b,s+off,none⟩else(⟨b,s+off,none⟩:Addr).add (l*i.size)),?_⟩
       rw[show u - l=0 by omega,show n - l=0 by omega]
      ·have h00:(n - l)*i.size≠0:=Nat.mul_ne_zero (by omega) h0
       refine .inr ⟨b,s,n - l,hm,?_,by show u - l<=_;omega,?_⟩
       ·rw[if_neg fY,iz]
        congr 3
        show s+off+l*i.size=s+(off+l*i.size)
        omega
       ·rw[jM hw]
        show s+(off+l*i.size)+(n - l)*i.size<=_
        have e1:(n - l)*i.size+l*i.size=n*i.size:=by rw[<-Nat.add_mul];congr 1;omega
        have:=bL.qT eH hc hz' (by omega)
        omega
   ·cases e
  ·cases e
 ·cases e
end
end Go.Ab
