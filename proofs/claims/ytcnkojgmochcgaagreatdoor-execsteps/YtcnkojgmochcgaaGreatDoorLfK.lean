import Derived.Test.YtcnkojgmochcgaaGreatDoorLfF
import Derived.KernelRfl
noncomputable section
namespace Go.Ab
namespace Lf
theorem kV{α:Type}{l:List α}{j:Nat}{x:α}{r:List α}(h:l.drop j=x::r)(d:α):j<l.length/\l.getD j d=x:=by
 have eg:j<l.length:=by
  rcases Nat.lt_or_ge j l.length with k|k
  ·exact k
  ·rw[List.drop_eq_nil_of_le k]at h;cases h
 refine⟨eg,?_⟩
 rw[List.drop_eq_getElem_cons eg]at h
 injection h with h _
 simp[List.getD_eq_getElem?_getD,List.getElem?_eq_getElem eg,h]
theorem wrap_i64{n:Int}(h1: -9223372036854775808<=n)(h2:n<9223372036854775808):cF .i64 n=n:=by
 show Int.sub (Int.emod (Int.add n 9223372036854775808) 18446744073709551616) 9223372036854775808=n
 have e:Int.emod (Int.add n 9223372036854775808) 18446744073709551616=n+9223372036854775808:=Int.emod_eq_of_lt (by show 0<=n+_;omega) (by show n+_<_;omega)
 rw[e]
 show n+9223372036854775808 - 9223372036854775808=n
 omega
theorem aaD{j:Nat}(h:j<4611686018427387904):bf .i64 (j:Int) 1=((j+1:Nat):Int):=by
 unfold bf
 rw[wrap_i64 (by omega) (by omega)]
 omega
theorem rj{j n:Nat}(h:j<n):cu (j:Int) (Int.ofNat n)=true:=by
 rw[kO];exact⟨by omega,by have:Int.ofNat n=(n:Int):=rfl;omega⟩
theorem yK{j n:Nat}(h:j<n):decide ((j:Int)<(n:Int))=true:=decide_eq_true (by omega)
theorem Ah{j n:Nat}(h:n<=j):decide ((j:Int)<(n:Int))=false:=decide_eq_false (by omega)
end Lf
end Go.Ab
namespace Go.Ab.Lf
def wJ(l:List Ty):aI l:=List.rec (motive:=aI) () (fun t _ ih=>(aS t,ih)) l
def dN(to:List Ty)(x:T (List Pl)):Bool:=match x.val with
 |some q=>(match toT to q with
  |some _=>true
  |none=>false)
 |none=>false
def cT(to:List Ty)(x:T (List Pl)):aI to:=match x.val with
 |some q=>(match toT to q with
  |some y=>y
  |none=>wJ to)
 |none=>wJ to
theorem Fv{to:List Ty}{x:T (List Pl)}(h:dN to x=true):x.val=some (aN to (cT to x)):=by
 unfold dN at h
 unfold cT
 split at h
 ·rename_i q hq
  rw[hq]
  split at h
  ·rename_i y hy
   rw[kU hy]
  ·cases h
 ·cases h
theorem cb{call:dY}{aP:a8}(C:mh call aP){f:FuncId}{b:bR}(hb:kS aP f b)(pd:Nat.ble b.ntmps 512=true){L:Nat->Option gm}(hL:nL Rx.w aP L b.code){m:Nat}{P:gO}{ptr:List Nat}{Q:gO}{ti to:List Ty}{ok:aI ti->Bool}{out:aI ti->aI to}
 (h0:dJ (fun g=> !(Nat.beq g 0)) ptr=true)(h1: ∀ x,ok x=dN to (iN P ptr Q L b m call (aN ti x)))(h2: ∀ x,out x=cT to (iN P ptr Q L b m call (aN ti x))):(gC P ptr Q ti to fun x=>.ck (ok x) (.ok (out x))).Ok f aP:=by
 refine oz C hb pd hL (m:=m) h0 fun x y h=>?_
 obtain⟨a,b⟩:=T.bY h
 cases b
 rw[h2]
 exact Fv (by rw[<-h1];exact a)
end Go.Ab.Lf

noncomputable section
namespace Go.Ab.Lf
theorem jh: ∀ {l:List Ty} (x:aI l),toT l (aN l x)=some x
 | [],_=>rfl
 |t::l,x=>by
  have ih:=jh (l:=l) x.2
  have key: ∀ (o:Option (PLift (t=t))) (p:Option (aI l)),o=some ⟨rfl⟩->p=some x.2->(match o with|some ⟨e⟩=>(match p with|some y=>some ((Eq.rec (motive:=fun s _=>den s) x.1 e:den t),y)|none=>none)|none=>none:Option (aI (t::l)))=some x:=by
   intro o p ho hp
   subst ho;subst hp
   rfl
  have e:toT (t::l) (aN (t::l) x)=(match nK t t with|some ⟨e⟩=>(match toT l (aN l x.2)with|some y=>some ((Eq.rec (motive:=fun s _=>den s) x.1 e:den t),y)|none=>none)|none=>none:Option (aI (t::l))):=by kernel_rfl
  rw[e]
  exact key _ _ (gp t) ih
theorem lO.det{f:List Pl->T Rs}{pl:List Pl}{k:Nat}{q:List Pl}(h:lO f pl k q): ∀ {k':Nat} {q':List Pl},lO f pl k' q'->k=k'/\q=q':=by
 induction h with
 |last e=>
  intro k' q' h'
  cases h' with
  |last e'=>rw[e]at e';cases e';exact⟨rfl,rfl⟩
  |more e' _=>rw[e]at e';cases e'
 |more e _ ih=>
  intro k' q' h'
  cases h' with
  |last e'=>rw[e]at e';cases e'
  |more e' r=>rw[e]at e';cases e';exact ih r
def wK(f:List Pl->T Rs)(pl:List Pl):Option (Nat×List Pl):=by
 classical exact if h: ∃ p:Nat×List Pl,lO f pl p.1 p.2 then some (Classical.choose h)else none
theorem oB{f:List Pl->T Rs}{pl:List Pl}{k:Nat}{q:List Pl}(h:lO f pl k q):wK f pl=some (k,q):=by
 unfold wK
 have hx: ∃ p:Nat×List Pl,lO f pl p.1 p.2:=⟨(k,q),h⟩
 rw[dif_pos hx]
 obtain⟨a,b⟩:=(Classical.choose_spec hx).det h
 exact congrArg some (Prod.ext a b)
theorem uD{f:List Pl->T Rs}{pl:List Pl}{k:Nat}{q:List Pl}(h:wK f pl=some (k,q)):lO f pl k q:=by
 unfold wK at h
 split at h
 ·rename_i hx
  have:=Classical.choose_spec hx
  injection h with h
  rw[h]at this
  exact this
 ·cases h
def Cf(f:List Pl->T Rs)(ti to:List Ty)(x:aI ti):Bool:=match wK f (aN ti x)with
 |some (0,q)=>(toT to q).isSome
 | _=>false
def hJ(f:List Pl->T Rs)(ti to:List Ty)(x:aI ti):aI to:=match wK f (aN ti x)with
 |some (_,q)=>(toT to q).getD (wJ to)
 |none=>wJ to
theorem wL{f:List Pl->T Rs}{ti to:List Ty}{x:aI ti}{y:aI to}(h:lO f (aN ti x) 0 (aN to y)):Cf f ti to x=true/\hJ f ti to x=y:=by
 unfold Cf hJ
 rw[oB h]
 simp only[jh]
 exact⟨rfl,rfl⟩
theorem OT{f:List Pl->T Rs}{ti to:List Ty}{x:aI ti}(h:Cf f ti to x=true):lO f (aN ti x) 0 (aN to (hJ f ti to x)):=by
 unfold Cf at h
 unfold hJ
 split at h
 ·rename_i q hq
  rw[hq]
  cases hy:toT to q with
  |none=>rw[hy]at h;cases h
  |some y=>
   have:=kU hy
   subst this
   simp only[jh]
   exact uD hq
 ·cases h
def Ch(l:rG)(f:List Pl->T Rs)(ti to:List Ty):gm:=ZE l ti fun x=>.ck (Cf f ti to x) (.ok (0,aN to (hJ f ti to x)))
theorem ny{call:dY}{aP:a8}(C:mh call aP){l:rG}{L:Nat->Option gm}{m:Nat}(hL:nL Rx.w aP L l.body)(ti to:List Ty):jg Rx.w (Ch l (l.step L call m) ti to) (fun n d=>iL (aP n d) n (.bl l.id (.lp l.body))):=
 Fs C hL (m:=m) fun x k q h=>by
  obtain⟨h1,h2⟩:=T.bY h
  cases h2
  exact OT h1
def sV(f:List Pl->T Rs)(ti t0 t1:List Ty)(x:aI ti):Bool:=match wK f (aN ti x)with
 |some (0,q)=>(toT t0 q).isSome
 |some (1,q)=>(toT t1 q).isSome
 | _=>false
def rH(f:List Pl->T Rs)(ti:List Ty)(x:aI ti):Bool:=match wK f (aN ti x)with
 |some (0,_)=>true
 | _=>false
theorem oD{f:List Pl->T Rs}{ti t0 t1:List Ty}{x:aI ti}{y:aI t0}(h:lO f (aN ti x) 0 (aN t0 y)):sV f ti t0 t1 x=true/\rH f ti x=true/\hJ f ti t0 x=y:=by
 unfold sV rH hJ
 rw[oB h]
 simp only[jh]
 exact⟨rfl,trivial,rfl⟩
theorem Fw{f:List Pl->T Rs}{ti t0 t1:List Ty}{x:aI ti}{y:aI t1}(h:lO f (aN ti x) 1 (aN t1 y)):sV f ti t0 t1 x=true/\rH f ti x=false/\hJ f ti t1 x=y:=by
 unfold sV rH hJ
 rw[oB h]
 simp only[jh]
 exact⟨rfl,trivial,rfl⟩
theorem OU{f:List Pl->T Rs}{ti t0 t1:List Ty}{x:aI ti}(h:sV f ti t0 t1 x=true):(rH f ti x=true->lO f (aN ti x) 0 (aN t0 (hJ f ti t0 x)))/\(rH f ti x=false->lO f (aN ti x) 1 (aN t1 (hJ f ti t1 x))):=by
 unfold sV at h
 unfold rH hJ
 split at h
 ·rename_i q hq
  rw[hq]
  refine⟨fun _=>?_,fun e=>by cases e⟩
  cases hy:toT t0 q with
  |none=>rw[hy]at h;cases h
  |some y=>
   have:=kU hy
   subst this
   simp only[jh]
   exact uD hq
 ·rename_i q hq
  rw[hq]
  refine⟨fun e=>(by simp at e),fun _=>?_⟩
  cases hy:toT t1 q with
  |none=>rw[hy]at h;cases h
  |some y=>
   have:=kU hy
   subst this
   simp only[jh]
   exact uD hq
 ·cases h
def Ci(l:rG)(f:List Pl->T Rs)(ti t0 t1:List Ty):gm:=ZE l ti fun x=>.ck (sV f ti t0 t1 x) (.br (rH f ti x) (.ok (0,aN t0 (hJ f ti t0 x))) (.ok (1,aN t1 (hJ f ti t1 x))))
theorem nz{call:dY}{aP:a8}(C:mh call aP){l:rG}{L:Nat->Option gm}{m:Nat}(hL:nL Rx.w aP L l.body)(ti t0 t1:List Ty):jg Rx.w (Ci l (l.step L call m) ti t0 t1) (fun n d=>iL (aP n d) n (.bl l.id (.lp l.body))):=
 Fs C hL (m:=m) fun x k q h=>by
  obtain⟨h1,h2⟩:=T.bY h
  obtain⟨r0,r1⟩:=OU h1
  rw[T.uo]at h2
  cases hb:rH (l.step L call m) ti x with
  |true=>rw[hb]at h2;cases h2;exact r0 hb
  |false=>rw[hb]at h2;cases h2;exact r1 hb
theorem OV{to:List Ty}{t:T (List Pl)}{y:aI to}(h:t.val=some (aN to y)):dN to t=true/\cT to t=y:=by
 unfold dN cT
 rw[h]
 simp only[jh]
 exact⟨trivial,trivial⟩
end Go.Ab.Lf
