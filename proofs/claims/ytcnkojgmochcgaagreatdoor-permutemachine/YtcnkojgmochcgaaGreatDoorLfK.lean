import Derived.Test.YtcnkojgmochcgaaGreatDoorLfG
import Derived.KernelRfl
noncomputable section
namespace Go.Ab
namespace Lf
def yS{α S O:Type}(G:S->α->S ⊕ O)(e:S->O):List α->S->O
 | [],s=>e s
 |x::r,s=>match G s x with
  | .inl s'=>yS G e r s'
  | .inr o=>o
theorem Qa{α S O:Type}{F:S->α->S}{e:S->O}(l:List α): ∀ (s:S),yS (fun s x=>.inl (F s x)) e l s=e (l.foldl F s):=by
 induction l with
 |nil=>intro s;rfl
 |cons x r ih=>intro s;exact ih (F s x)
def Ud{S:Type}(st:S->List Pl):S ⊕ (Nat×List Pl)->Rs
 | .inl s=>.next (st s)
 | .inr o=>.out o.1 o.2
theorem rng{α S:Type}{f:List Pl->T Rs}{l:List α}(st:S->Nat->List Pl)(G:S->α->S ⊕ (Nat×List Pl))(e:S->Nat×List Pl)(inv:S->List α->Prop)
 (yU: ∀ s j x r,l.drop j=x::r->inv s (x::r)->(f (st s j)).val=some (Ud (fun s=>st s (j+1)) (G s x))/\ ∀ s',G s x=.inl s'->inv s' r)
 (FZ: ∀ s j,l.drop j=[]->j<=l.length->inv s []->(f (st s j)).val=some (.out (e s).1 (e s).2)): ∀ (r:List α) (j:Nat) (s:S),l.drop j=r->j<=l.length->inv s r->uh f (st s j) (yS G e r s).1 (yS G e r s).2
 | [],j,s,h,hj,hi=>.last (FZ s j h hj hi)
 |x::r,j,s,h,hj,hi=>by
  obtain⟨h1,h2⟩:=yU s j x r h hi
  have oI:j<l.length:=by
   rcases Nat.lt_or_ge j l.length with k|k
   ·exact k
   ·rw[List.drop_eq_nil_of_le k]at h;cases h
  cases hg:G s x with
  |inl s'=>
   rw[hg]at h1
   have hr:l.drop (j+1)=r:=by rw[<-List.tail_drop,h];rfl
   have:=rng st G e inv yU FZ r (j+1) s' hr oI (h2 s' hg)
   have e2:yS G e (x::r) s=yS G e r s':=by simp only[yS,hg]
   rw[e2]
   exact .more h1 this
  |inr o=>
   rw[hg]at h1
   have e2:yS G e (x::r) s=o:=by simp only[yS,hg]
   rw[e2]
   exact .last h1
def yV{α S O:Type}(G:S->α->List α->S ⊕ O)(e:S->O):List α->S->O
 | [],s=>e s
 |x::r,s=>match G s x r with
  | .inl s'=>yV G e r s'
  | .inr o=>o
def rsR{S O:Type}(st:S->List Pl)(om:O->Nat×List Pl):S ⊕ O->Rs
 | .inl s=>.next (st s)
 | .inr o=>.out (om o).1 (om o).2
theorem ajx{α S O:Type}{f:List Pl->T Rs}{l:List α}(st:S->Nat->List Pl)(G:S->α->List α->S ⊕ O)(e:S->O)(om:O->Nat×List Pl)(inv:S->List α->Prop)
 (yU: ∀ s j x r,l.drop j=x::r->inv s (x::r)->(f (st s j)).val=some (rsR (fun s=>st s (j+1)) om (G s x r))/\ ∀ s',G s x r=.inl s'->inv s' r)
 (FZ: ∀ s j,l.drop j=[]->j<=l.length->inv s []->(f (st s j)).val=some (.out (om (e s)).1 (om (e s)).2)): ∀ (r:List α) (j:Nat) (s:S),l.drop j=r->j<=l.length->inv s r->uh f (st s j) (om (yV G e r s)).1 (om (yV G e r s)).2
 | [],j,s,h,hj,hi=>.last (FZ s j h hj hi)
 |x::r,j,s,h,hj,hi=>by
  obtain⟨h1,h2⟩:=yU s j x r h hi
  have oI:j<l.length:=by
   rcases Nat.lt_or_ge j l.length with k|k
   ·exact k
   ·rw[List.drop_eq_nil_of_le k]at h;cases h
  cases hg:G s x r with
  |inl s'=>
   rw[hg]at h1
   have hr:l.drop (j+1)=r:=by rw[<-List.tail_drop,h];rfl
   have:=ajx st G e om inv yU FZ r (j+1) s' hr oI (h2 s' hg)
   have e2:yV G e (x::r) s=yV G e r s':=by simp only[yV,hg]
   rw[e2]
   exact .more h1 this
  |inr o=>
   rw[hg]at h1
   have e2:yV G e (x::r) s=o:=by simp only[yV,hg]
   rw[e2]
   exact .last h1
theorem yW{α:Type}{l:List α}{j:Nat}{x:α}{r:List α}(h:l.drop j=x::r)(d:α):j<l.length/\l.getD j d=x:=by
 have oI:j<l.length:=by
  rcases Nat.lt_or_ge j l.length with k|k
  ·exact k
  ·rw[List.drop_eq_nil_of_le k]at h;cases h
 refine⟨oI,?_⟩
 rw[List.drop_eq_getElem_cons oI]at h
 injection h with h _
 simp[List.getD_eq_getElem?_getD,List.getElem?_eq_getElem oI,h]
theorem wrap_i64{n:Int}(h1: -9223372036854775808<=n)(h2:n<9223372036854775808):oZ .i64 n=n:=by
 show Int.sub (Int.emod (Int.add n 9223372036854775808) 18446744073709551616) 9223372036854775808=n
 have e:Int.emod (Int.add n 9223372036854775808) 18446744073709551616=n+9223372036854775808:=Int.emod_eq_of_lt (by show 0<=n+_;omega) (by show n+_<_;omega)
 rw[e]
 show n+9223372036854775808 - 9223372036854775808=n
 omega
theorem wrap_u64{n:Int}(h1:0<=n)(h2:n<18446744073709551616):oZ .u64 n=n:=Int.emod_eq_of_lt h1 h2
theorem afd{j:Nat}(h:j<4611686018427387904):cY .i64 (j:Int) 1=((j+1:Nat):Int):=by
 unfold cY
 rw[wrap_i64 (by omega) (by omega)]
 omega
theorem pN{j n:Nat}(h:j<n):cZ (j:Int) (Int.ofNat n)=true:=by
 rw[tv];exact⟨by omega,by have:Int.ofNat n=(n:Int):=rfl;omega⟩
theorem ui{j n:Nat}(h:j<n):decide ((j:Int)<(n:Int))=true:=decide_eq_true (by omega)
theorem rH{j n:Nat}(h:n<=j):decide ((j:Int)<(n:Int))=false:=decide_eq_false (by omega)
end Lf
end Go.Ab
namespace Go.Ab.Lf
def wq(l:List Ty):cf l:=List.rec (motive:=cf) () (fun t _ ih=>(cE t,ih)) l
def oy(to:List Ty)(x:T (List Pl)):Bool:=match x.val with
 |some q=>(match toT to q with
  |some _=>true
  |none=>false)
 |none=>false
def nq(to:List Ty)(x:T (List Pl)):cf to:=match x.val with
 |some q=>(match toT to q with
  |some y=>y
  |none=>wq to)
 |none=>wq to
theorem CN{to:List Ty}{x:T (List Pl)}(h:oy to x=true):x.val=some (cq to (nq to x)):=by
 unfold oy at h
 unfold nq
 split at h
 ·rename_i q hq
  rw[hq]
  split at h
  ·rename_i y hy
   rw[rD hy]
  ·cases h
 ·cases h
theorem mC{call:o7}{cr:cx}(C:w8 call cr){f:FuncId}{b:Dj}(hb:u9 cr f b)(AL:Nat.ble b.ntmps 512=true){L:Nat->Option rk}(hL:wL Rx.w cr L b.code){m:Nat}{P:qH}{ptr:List Nat}{Q:qH}{ti to:List Ty}{ok:cf ti->Bool}{out:cf ti->cf to}
 (h0:oD (fun g=> !(Nat.beq g 0)) ptr=true)(h1: ∀ x,ok x=oy to (qA P ptr Q L b m call (cq ti x)))(h2: ∀ x,out x=nq to (qA P ptr Q L b m call (cq ti x))):(pW P ptr Q ti to fun x=>.ck (ok x) (.ok (out x))).Ok f cr:=by
 refine tw C hb AL hL (m:=m) h0 fun x y h=>?_
 obtain⟨a,b⟩:=T.cP h
 cases b
 rw[h2]
 exact CN (by rw[<-h1];exact a)
end Go.Ab.Lf

noncomputable section
namespace Go.Ab.Lf
theorem tx: ∀ {l:List Ty} (x:cf l),toT l (cq l x)=some x
 | [],_=>rfl
 |t::l,x=>by
  have ih:=tx (l:=l) x.2
  have key: ∀ (o:Option (PLift (t=t))) (p:Option (cf l)),o=some ⟨rfl⟩->p=some x.2->(match o with|some ⟨e⟩=>(match p with|some y=>some ((Eq.rec (motive:=fun s _=>den s) x.1 e:den t),y)|none=>none)|none=>none:Option (cf (t::l)))=some x:=by
   intro o p ho hp
   subst ho;subst hp
   rfl
  have e:toT (t::l) (cq (t::l) x)=(match zk t t with|some ⟨e⟩=>(match toT l (cq l x.2)with|some y=>some ((Eq.rec (motive:=fun s _=>den s) x.1 e:den t),y)|none=>none)|none=>none:Option (cf (t::l))):=by kernel_rfl
  rw[e]
  exact key _ _ (rR t) ih
theorem uh.det{f:List Pl->T Rs}{pl:List Pl}{k:Nat}{q:List Pl}(h:uh f pl k q): ∀ {k':Nat} {q':List Pl},uh f pl k' q'->k=k'/\q=q':=by
 induction h with
 |last e=>
  intro k' q' h'
  cases h' with
  |last e'=>rw[e]at e';cases e';exact⟨rfl,rfl⟩
  |more e' _=>rw[e]at e';cases e'
 |more e _ ih=>
  intro k' q' h'
  cases h' with
  |last e'=>rw[e]at e';cases e'
  |more e' r=>rw[e]at e';cases e';exact ih r
def Ic(f:List Pl->T Rs)(pl:List Pl):Option (Nat×List Pl):=by
 classical exact if h: ∃ p:Nat×List Pl,uh f pl p.1 p.2 then some (Classical.choose h)else none
theorem z7{f:List Pl->T Rs}{pl:List Pl}{k:Nat}{q:List Pl}(h:uh f pl k q):Ic f pl=some (k,q):=by
 unfold Ic
 have hx: ∃ p:Nat×List Pl,uh f pl p.1 p.2:=⟨(k,q),h⟩
 rw[dif_pos hx]
 obtain⟨a,b⟩:=(Classical.choose_spec hx).det h
 exact congrArg some (Prod.ext a b)
theorem F3{f:List Pl->T Rs}{pl:List Pl}{k:Nat}{q:List Pl}(h:Ic f pl=some (k,q)):uh f pl k q:=by
 unfold Ic at h
 split at h
 ·rename_i hx
  have:=Classical.choose_spec hx
  injection h with h
  rw[h]at this
  exact this
 ·cases h
def ND(f:List Pl->T Rs)(ti to:List Ty)(x:cf ti):Bool:=match Ic f (cq ti x)with
 |some (0,q)=>(toT to q).isSome
 | _=>false
def lo1(f:List Pl->T Rs)(ti to:List Ty)(x:cf ti):cf to:=match Ic f (cq ti x)with
 |some (_,q)=>(toT to q).getD (wq to)
 |none=>wq to
theorem Ie{f:List Pl->T Rs}{ti to:List Ty}{x:cf ti}{y:cf to}(h:uh f (cq ti x) 0 (cq to y)):ND f ti to x=true/\lo1 f ti to x=y:=by
 unfold ND lo1
 rw[z7 h]
 simp only[tx]
 exact⟨rfl,rfl⟩
theorem afe{f:List Pl->T Rs}{ti to:List Ty}{x:cf ti}(h:ND f ti to x=true):uh f (cq ti x) 0 (cq to (lo1 f ti to x)):=by
 unfold ND at h
 unfold lo1
 split at h
 ·rename_i q hq
  rw[hq]
  cases hy:toT to q with
  |none=>rw[hy]at h;cases h
  |some y=>
   have:=rD hy
   subst this
   simp only[tx]
   exact F3 hq
 ·cases h
def Qb(l:AN)(f:List Pl->T Rs)(ti to:List Ty):rk:=QZ l ti fun x=>.ck (ND f ti to x) (.ok (0,cq to (lo1 f ti to x)))
theorem yX{call:o7}{cr:cx}(C:w8 call cr){l:AN}{L:Nat->Option rk}{m:Nat}(hL:wL Rx.w cr L l.body)(ti to:List Ty):rQ Rx.w (Qb l (l.step L call m) ti to) (fun n d=>su (cr n d) n (.bl l.id (.lp l.body))):=
 zY C hL (m:=m) fun x k q h=>by
  obtain⟨h1,h2⟩:=T.cP h
  cases h2
  exact afe h1
def DH(f:List Pl->T Rs)(ti t0 t1:List Ty)(x:cf ti):Bool:=match Ic f (cq ti x)with
 |some (0,q)=>(toT t0 q).isSome
 |some (1,q)=>(toT t1 q).isSome
 | _=>false
def CO(f:List Pl->T Rs)(ti:List Ty)(x:cf ti):Bool:=match Ic f (cq ti x)with
 |some (0,_)=>true
 | _=>false
theorem z8{f:List Pl->T Rs}{ti t0 t1:List Ty}{x:cf ti}{y:cf t0}(h:uh f (cq ti x) 0 (cq t0 y)):DH f ti t0 t1 x=true/\CO f ti x=true/\lo1 f ti t0 x=y:=by
 unfold DH CO lo1
 rw[z7 h]
 simp only[tx]
 exact⟨rfl,trivial,rfl⟩
theorem CP{f:List Pl->T Rs}{ti t0 t1:List Ty}{x:cf ti}{y:cf t1}(h:uh f (cq ti x) 1 (cq t1 y)):DH f ti t0 t1 x=true/\CO f ti x=false/\lo1 f ti t1 x=y:=by
 unfold DH CO lo1
 rw[z7 h]
 simp only[tx]
 exact⟨rfl,trivial,rfl⟩
theorem aff{f:List Pl->T Rs}{ti t0 t1:List Ty}{x:cf ti}(h:DH f ti t0 t1 x=true):(CO f ti x=true->uh f (cq ti x) 0 (cq t0 (lo1 f ti t0 x)))/\(CO f ti x=false->uh f (cq ti x) 1 (cq t1 (lo1 f ti t1 x))):=by
 unfold DH at h
 unfold CO lo1
 split at h
 ·rename_i q hq
  rw[hq]
  refine⟨fun _=>?_,fun e=>by cases e⟩
  cases hy:toT t0 q with
  |none=>rw[hy]at h;cases h
  |some y=>
   have:=rD hy
   subst this
   simp only[tx]
   exact F3 hq
 ·rename_i q hq
  rw[hq]
  refine⟨fun e=>(by simp at e),fun _=>?_⟩
  cases hy:toT t1 q with
  |none=>rw[hy]at h;cases h
  |some y=>
   have:=rD hy
   subst this
   simp only[tx]
   exact F3 hq
 ·cases h
def KN(l:AN)(f:List Pl->T Rs)(ti t0 t1:List Ty):rk:=QZ l ti fun x=>.ck (DH f ti t0 t1 x) (.br (CO f ti x) (.ok (0,cq t0 (lo1 f ti t0 x))) (.ok (1,cq t1 (lo1 f ti t1 x))))
theorem wN{call:o7}{cr:cx}(C:w8 call cr){l:AN}{L:Nat->Option rk}{m:Nat}(hL:wL Rx.w cr L l.body)(ti t0 t1:List Ty):rQ Rx.w (KN l (l.step L call m) ti t0 t1) (fun n d=>su (cr n d) n (.bl l.id (.lp l.body))):=
 zY C hL (m:=m) fun x k q h=>by
  obtain⟨h1,h2⟩:=T.cP h
  obtain⟨r0,r1⟩:=aff h1
  rw[T.wb]at h2
  cases hb:CO (l.step L call m) ti x with
  |true=>rw[hb]at h2;cases h2;exact r0 hb
  |false=>rw[hb]at h2;cases h2;exact r1 hb
theorem afg{to:List Ty}{t:T (List Pl)}{y:cf to}(h:t.val=some (cq to y)):oy to t=true/\nq to t=y:=by
 unfold oy nq
 rw[h]
 simp only[tx]
 exact⟨trivial,trivial⟩
end Go.Ab.Lf
