import Derived.Test.YtcnkojgmochcgaaGreatDoorLfF
import Derived.KernelRfl
noncomputable section
namespace Go.Ab
namespace Lf
theorem js{α:Type}{l:List α}{j:Nat}{x:α}{r:List α}(h:l.drop j=x::r)(d:α):j<l.length/\l.getD j d=x:=by
 have ee:j<l.length:=by
  rcases Nat.lt_or_ge j l.length with k|k
  ·exact k
  ·rw[List.drop_eq_nil_of_le k]at h;cases h
 refine⟨ee,?_⟩
 rw[List.drop_eq_getElem_cons ee]at h
 injection h with h _
 simp[List.getD_eq_getElem?_getD,List.getElem?_eq_getElem ee,h]
theorem wrap_i64{n:Int}(h1: -9223372036854775808<=n)(h2:n<9223372036854775808):cI .i64 n=n:=by
 show Int.sub (Int.emod (Int.add n 9223372036854775808) 18446744073709551616) 9223372036854775808=n
 have e:Int.emod (Int.add n 9223372036854775808) 18446744073709551616=n+9223372036854775808:=Int.emod_eq_of_lt (by show 0<=n+_;omega) (by show n+_<_;omega)
 rw[e]
 show n+9223372036854775808 - 9223372036854775808=n
 omega
theorem aaZ{j:Nat}(h:j<4611686018427387904):bV .i64 (j:Int) 1=((j+1:Nat):Int):=by
 unfold bV
 rw[wrap_i64 (by omega) (by omega)]
 omega
theorem gH{j n:Nat}(h:j<n):cg (j:Int) (Int.ofNat n)=true:=by
 rw[ny];exact⟨by omega,by have:Int.ofNat n=(n:Int):=rfl;omega⟩
theorem Fi{j n:Nat}(h:j<n):decide ((j:Int)<(n:Int))=true:=decide_eq_true (by omega)
theorem Aa{j n:Nat}(h:n<=j):decide ((j:Int)<(n:Int))=false:=decide_eq_false (by omega)
end Lf
end Go.Ab
namespace Go.Ab.Lf
def wG(l:List Ty):aL l:=List.rec (motive:=aL) () (fun t _ ih=>(bJ t,ih)) l
def ef(to:List Ty)(x:T (List Pl)):Bool:=match x.val with
 |some q=>(match toT to q with
  |some _=>true
  |none=>false)
 |none=>false
def cN(to:List Ty)(x:T (List Pl)):aL to:=match x.val with
 |some q=>(match toT to q with
  |some y=>y
  |none=>wG to)
 |none=>wG to
theorem Fj{to:List Ty}{x:T (List Pl)}(h:ef to x=true):x.val=some (aX to (cN to x)):=by
 unfold ef at h
 unfold cN
 split at h
 ·rename_i q hq
  rw[hq]
  split at h
  ·rename_i y hy
   rw[kW hy]
  ·cases h
 ·cases h
theorem bW{call:dV}{aM:aV}(C:mw call aM){f:FuncId}{b:bM}(hb:kU aM f b)(o6:Nat.ble b.ntmps 512=true){L:Nat->Option fT}(hL:nA Rx.w aM L b.code){m:Nat}{P:gJ}{ptr:List Nat}{Q:gJ}{ti to:List Ty}{ok:aL ti->Bool}{out:aL ti->aL to}
 (h0:dK (fun g=> !(Nat.beq g 0)) ptr=true)(h1: ∀ x,ok x=ef to (iH P ptr Q L b m call (aX ti x)))(h2: ∀ x,out x=cN to (iH P ptr Q L b m call (aX ti x))):(gg P ptr Q ti to fun x=>.ck (ok x) (.ok (out x))).Ok f aM:=by
 refine oE C hb o6 hL (m:=m) h0 fun x y h=>?_
 obtain⟨a,b⟩:=T.bU h
 cases b
 rw[h2]
 exact Fj (by rw[<-h1];exact a)
end Go.Ab.Lf

noncomputable section
namespace Go.Ab.Lf
theorem jR: ∀ {l:List Ty} (x:aL l),toT l (aX l x)=some x
 | [],_=>rfl
 |t::l,x=>by
  have ih:=jR (l:=l) x.2
  have key: ∀ (o:Option (PLift (t=t))) (p:Option (aL l)),o=some ⟨rfl⟩->p=some x.2->(match o with|some ⟨e⟩=>(match p with|some y=>some ((Eq.rec (motive:=fun s _=>den s) x.1 e:den t),y)|none=>none)|none=>none:Option (aL (t::l)))=some x:=by
   intro o p ho hp
   subst ho;subst hp
   rfl
  have e:toT (t::l) (aX (t::l) x)=(match nM t t with|some ⟨e⟩=>(match toT l (aX l x.2)with|some y=>some ((Eq.rec (motive:=fun s _=>den s) x.1 e:den t),y)|none=>none)|none=>none:Option (aL (t::l))):=by kernel_rfl
  rw[e]
  exact key _ _ (gp t) ih
theorem jQ.det{f:List Pl->T Rs}{pl:List Pl}{k:Nat}{q:List Pl}(h:jQ f pl k q): ∀ {k':Nat} {q':List Pl},jQ f pl k' q'->k=k'/\q=q':=by
 induction h with
 |last e=>
  intro k' q' h'
  cases h' with
  |last e'=>rw[e]at e';cases e';exact⟨rfl,rfl⟩
  |more e' _=>rw[e]at e';cases e'
 |more e _ ih=>
  intro k' q' h'
  cases h' with
  |last e'=>rw[e]at e';cases e'
  |more e' r=>rw[e]at e';cases e';exact ih r
def wH(f:List Pl->T Rs)(pl:List Pl):Option (Nat×List Pl):=by
 classical exact if h: ∃ p:Nat×List Pl,jQ f pl p.1 p.2 then some (Classical.choose h)else none
theorem sK{f:List Pl->T Rs}{pl:List Pl}{k:Nat}{q:List Pl}(h:jQ f pl k q):wH f pl=some (k,q):=by
 unfold wH
 have hx: ∃ p:Nat×List Pl,jQ f pl p.1 p.2:=⟨(k,q),h⟩
 rw[dif_pos hx]
 obtain⟨a,b⟩:=(Classical.choose_spec hx).det h
 exact congrArg some (Prod.ext a b)
theorem uu{f:List Pl->T Rs}{pl:List Pl}{k:Nat}{q:List Pl}(h:wH f pl=some (k,q)):jQ f pl k q:=by
 unfold wH at h
 split at h
 ·rename_i hx
  have:=Classical.choose_spec hx
  injection h with h
  rw[h]at this
  exact this
 ·cases h
def uS(f:List Pl->T Rs)(ti to:List Ty)(x:aL ti):Bool:=match wH f (aX ti x)with
 |some (0,q)=>(toT to q).isSome
 | _=>false
def iE(f:List Pl->T Rs)(ti to:List Ty)(x:aL ti):aL to:=match wH f (aX ti x)with
 |some (_,q)=>(toT to q).getD (wG to)
 |none=>wG to
theorem q7{f:List Pl->T Rs}{ti to:List Ty}{x:aL ti}{y:aL to}(h:jQ f (aX ti x) 0 (aX to y)):uS f ti to x=true/\iE f ti to x=y:=by
 unfold uS iE
 rw[sK h]
 simp only[jR]
 exact⟨rfl,rfl⟩
theorem O1{f:List Pl->T Rs}{ti to:List Ty}{x:aL ti}(h:uS f ti to x=true):jQ f (aX ti x) 0 (aX to (iE f ti to x)):=by
 unfold uS at h
 unfold iE
 split at h
 ·rename_i q hq
  rw[hq]
  cases hy:toT to q with
  |none=>rw[hy]at h;cases h
  |some y=>
   have:=kW hy
   subst this
   simp only[jR]
   exact uu hq
 ·cases h
def wI(l:pR)(f:List Pl->T Rs)(ti to:List Ty):fT:=Z0 l ti fun x=>.ck (uS f ti to x) (.ok (0,aX to (iE f ti to x)))
theorem jS{call:dV}{aM:aV}(C:mw call aM){l:pR}{L:Nat->Option fT}{m:Nat}(hL:nA Rx.w aM L l.body)(ti to:List Ty):iD Rx.w (wI l (l.step L call m) ti to) (fun n d=>hJ (aM n d) n (.bl l.id (.lp l.body))):=
 Fe C hL (m:=m) fun x k q h=>by
  obtain⟨h1,h2⟩:=T.bU h
  cases h2
  exact O1 h1
def xA(f:List Pl->T Rs)(ti t0 t1:List Ty)(x:aL ti):Bool:=match wH f (aX ti x)with
 |some (0,q)=>(toT t0 q).isSome
 |some (1,q)=>(toT t1 q).isSome
 | _=>false
def uT(f:List Pl->T Rs)(ti:List Ty)(x:aL ti):Bool:=match wH f (aX ti x)with
 |some (0,_)=>true
 | _=>false
theorem q8{f:List Pl->T Rs}{ti t0 t1:List Ty}{x:aL ti}{y:aL t0}(h:jQ f (aX ti x) 0 (aX t0 y)):xA f ti t0 t1 x=true/\uT f ti x=true/\iE f ti t0 x=y:=by
 unfold xA uT iE
 rw[sK h]
 simp only[jR]
 exact⟨rfl,trivial,rfl⟩
theorem O2{f:List Pl->T Rs}{ti t0 t1:List Ty}{x:aL ti}(h:xA f ti t0 t1 x=true):(uT f ti x=true->jQ f (aX ti x) 0 (aX t0 (iE f ti t0 x)))/\(uT f ti x=false->jQ f (aX ti x) 1 (aX t1 (iE f ti t1 x))):=by
 unfold xA at h
 unfold uT iE
 split at h
 ·rename_i q hq
  rw[hq]
  refine⟨fun _=>?_,fun e=>by cases e⟩
  cases hy:toT t0 q with
  |none=>rw[hy]at h;cases h
  |some y=>
   have:=kW hy
   subst this
   simp only[jR]
   exact uu hq
 ·rename_i q hq
  rw[hq]
  refine⟨fun e=>(by simp at e),fun _=>?_⟩
  cases hy:toT t1 q with
  |none=>rw[hy]at h;cases h
  |some y=>
   have:=kW hy
   subst this
   simp only[jR]
   exact uu hq
 ·cases h
def B5(l:pR)(f:List Pl->T Rs)(ti t0 t1:List Ty):fT:=Z0 l ti fun x=>.ck (xA f ti t0 t1 x) (.br (uT f ti x) (.ok (0,aX t0 (iE f ti t0 x))) (.ok (1,aX t1 (iE f ti t1 x))))
theorem nF{call:dV}{aM:aV}(C:mw call aM){l:pR}{L:Nat->Option fT}{m:Nat}(hL:nA Rx.w aM L l.body)(ti t0 t1:List Ty):iD Rx.w (B5 l (l.step L call m) ti t0 t1) (fun n d=>hJ (aM n d) n (.bl l.id (.lp l.body))):=
 Fe C hL (m:=m) fun x k q h=>by
  obtain⟨h1,h2⟩:=T.bU h
  obtain⟨r0,r1⟩:=O2 h1
  rw[T.Eo]at h2
  cases hb:uT (l.step L call m) ti x with
  |true=>rw[hb]at h2;cases h2;exact r0 hb
  |false=>rw[hb]at h2;cases h2;exact r1 hb
theorem O3{to:List Ty}{t:T (List Pl)}{y:aL to}(h:t.val=some (aX to y)):ef to t=true/\cN to t=y:=by
 unfold ef cN
 rw[h]
 simp only[jR]
 exact⟨trivial,trivial⟩
end Go.Ab.Lf
