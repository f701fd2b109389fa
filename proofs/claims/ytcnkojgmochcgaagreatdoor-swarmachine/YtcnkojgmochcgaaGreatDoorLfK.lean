import Derived.Test.YtcnkojgmochcgaaGreatDoorLfG
import Derived.KernelRfl
noncomputable section
namespace Go.Ab
namespace Lf
def zO{α S O:Type}(G:S->α->S ⊕ O)(e:S->O):List α->S->O
 | [],s=>e s
 |x::r,s=>match G s x with
  | .inl s'=>zO G e r s'
  | .inr o=>o
theorem Pt{α S O:Type}{F:S->α->S}{e:S->O}(l:List α): ∀ (s:S),zO (fun s x=>.inl (F s x)) e l s=e (l.foldl F s):=by
 induction l with
 |nil=>intro s;rfl
 |cons x r ih=>intro s;exact ih (F s x)
def Tn{S:Type}(st:S->List Pl):S ⊕ (Nat×List Pl)->Rs
 | .inl s=>.next (st s)
 | .inr o=>.out o.1 o.2
theorem rng{α S:Type}{f:List Pl->T Rs}{l:List α}(st:S->Nat->List Pl)(G:S->α->S ⊕ (Nat×List Pl))(e:S->Nat×List Pl)(inv:S->List α->Prop)
 (zP: ∀ s j x r,l.drop j=x::r->inv s (x::r)->(f (st s j)).val=some (Tn (fun s=>st s (j+1)) (G s x))/\ ∀ s',G s x=.inl s'->inv s' r)
 (GS: ∀ s j,l.drop j=[]->j<=l.length->inv s []->(f (st s j)).val=some (.out (e s).1 (e s).2)): ∀ (r:List α) (j:Nat) (s:S),l.drop j=r->j<=l.length->inv s r->uQ f (st s j) (zO G e r s).1 (zO G e r s).2
 | [],j,s,h,hj,hi=>.last (GS s j h hj hi)
 |x::r,j,s,h,hj,hi=>by
  obtain⟨h1,h2⟩:=zP s j x r h hi
  have o5:j<l.length:=by
   rcases Nat.lt_or_ge j l.length with k|k
   ·exact k
   ·rw[List.drop_eq_nil_of_le k]at h;cases h
  cases hg:G s x with
  |inl s'=>
   rw[hg]at h1
   have hr:l.drop (j+1)=r:=by rw[<-List.tail_drop,h];rfl
   have:=rng st G e inv zP GS r (j+1) s' hr o5 (h2 s' hg)
   have e2:zO G e (x::r) s=zO G e r s':=by simp only[zO,hg]
   rw[e2]
   exact .more h1 this
  |inr o=>
   rw[hg]at h1
   have e2:zO G e (x::r) s=o:=by simp only[zO,hg]
   rw[e2]
   exact .last h1
def zQ{α S O:Type}(G:S->α->List α->S ⊕ O)(e:S->O):List α->S->O
 | [],s=>e s
 |x::r,s=>match G s x r with
  | .inl s'=>zQ G e r s'
  | .inr o=>o
def rsR{S O:Type}(st:S->List Pl)(om:O->Nat×List Pl):S ⊕ O->Rs
 | .inl s=>.next (st s)
 | .inr o=>.out (om o).1 (om o).2
theorem aix{α S O:Type}{f:List Pl->T Rs}{l:List α}(st:S->Nat->List Pl)(G:S->α->List α->S ⊕ O)(e:S->O)(om:O->Nat×List Pl)(inv:S->List α->Prop)
 (zP: ∀ s j x r,l.drop j=x::r->inv s (x::r)->(f (st s j)).val=some (rsR (fun s=>st s (j+1)) om (G s x r))/\ ∀ s',G s x r=.inl s'->inv s' r)
 (GS: ∀ s j,l.drop j=[]->j<=l.length->inv s []->(f (st s j)).val=some (.out (om (e s)).1 (om (e s)).2)): ∀ (r:List α) (j:Nat) (s:S),l.drop j=r->j<=l.length->inv s r->uQ f (st s j) (om (zQ G e r s)).1 (om (zQ G e r s)).2
 | [],j,s,h,hj,hi=>.last (GS s j h hj hi)
 |x::r,j,s,h,hj,hi=>by
  obtain⟨h1,h2⟩:=zP s j x r h hi
  have o5:j<l.length:=by
   rcases Nat.lt_or_ge j l.length with k|k
   ·exact k
   ·rw[List.drop_eq_nil_of_le k]at h;cases h
  cases hg:G s x r with
  |inl s'=>
   rw[hg]at h1
   have hr:l.drop (j+1)=r:=by rw[<-List.tail_drop,h];rfl
   have:=aix st G e om inv zP GS r (j+1) s' hr o5 (h2 s' hg)
   have e2:zQ G e (x::r) s=zQ G e r s':=by simp only[zQ,hg]
   rw[e2]
   exact .more h1 this
  |inr o=>
   rw[hg]at h1
   have e2:zQ G e (x::r) s=o:=by simp only[zQ,hg]
   rw[e2]
   exact .last h1
theorem zR{α:Type}{l:List α}{j:Nat}{x:α}{r:List α}(h:l.drop j=x::r)(d:α):j<l.length/\l.getD j d=x:=by
 have o5:j<l.length:=by
  rcases Nat.lt_or_ge j l.length with k|k
  ·exact k
  ·rw[List.drop_eq_nil_of_le k]at h;cases h
 refine⟨o5,?_⟩
 rw[List.drop_eq_getElem_cons o5]at h
 injection h with h _
 simp[List.getD_eq_getElem?_getD,List.getElem?_eq_getElem o5,h]
theorem wrap_i64{n:Int}(h1: -9223372036854775808<=n)(h2:n<9223372036854775808):na .i64 n=n:=by
 show Int.sub (Int.emod (Int.add n 9223372036854775808) 18446744073709551616) 9223372036854775808=n
 have e:Int.emod (Int.add n 9223372036854775808) 18446744073709551616=n+9223372036854775808:=Int.emod_eq_of_lt (by show 0<=n+_;omega) (by show n+_<_;omega)
 rw[e]
 show n+9223372036854775808 - 9223372036854775808=n
 omega
theorem wrap_u64{n:Int}(h1:0<=n)(h2:n<18446744073709551616):na .u64 n=n:=Int.emod_eq_of_lt h1 h2
theorem aej{j:Nat}(h:j<4611686018427387904):nz .i64 (j:Int) 1=((j+1:Nat):Int):=by
 unfold nz
 rw[wrap_i64 (by omega) (by omega)]
 omega
theorem qg{j n:Nat}(h:j<n):nh (j:Int) (Int.ofNat n)=true:=by
 rw[u9];exact⟨by omega,by have:Int.ofNat n=(n:Int):=rfl;omega⟩
theorem uI{j n:Nat}(h:j<n):decide ((j:Int)<(n:Int))=true:=decide_eq_true (by omega)
theorem rV{j n:Nat}(h:n<=j):decide ((j:Int)<(n:Int))=false:=decide_eq_false (by omega)
end Lf
end Go.Ab
namespace Go.Ab.Lf
def wS(l:List Ty):cf l:=List.rec (motive:=cf) () (fun t _ ih=>(cE t,ih)) l
def oy(to:List Ty)(x:T (List Pl)):Bool:=match x.val with
 |some q=>(match toT to q with
  |some _=>true
  |none=>false)
 |none=>false
def nA(to:List Ty)(x:T (List Pl)):cf to:=match x.val with
 |some q=>(match toT to q with
  |some y=>y
  |none=>wS to)
 |none=>wS to
theorem Ds{to:List Ty}{x:T (List Pl)}(h:oy to x=true):x.val=some (cp to (nA to x)):=by
 unfold oy at h
 unfold nA
 split at h
 ·rename_i q hq
  rw[hq]
  split at h
  ·rename_i y hy
   rw[rR hy]
  ·cases h
 ·cases h
theorem cZ{call:pF}{cr:cu}(C:yz call cr){f:FuncId}{b:Ea}(hb:wP cr f b)(D9:Nat.ble b.ntmps 512=true){L:Nat->Option qV}(hL:xx Rx.w cr L b.code){m:Nat}{P:rI}{ptr:List Nat}{Q:rI}{ti to:List Ty}{ok:cf ti->Bool}{out:cf ti->cf to}
 (h0:nU (fun g=> !(Nat.beq g 0)) ptr=true)(h1: ∀ x,ok x=oy to (q9 P ptr Q L b m call (cp ti x)))(h2: ∀ x,out x=nA to (q9 P ptr Q L b m call (cp ti x))):(pL P ptr Q ti to fun x=>.ck (ok x) (.ok (out x))).Ok f cr:=by
 refine tU C hb D9 hL (m:=m) h0 fun x y h=>?_
 obtain⟨a,b⟩:=T.cG h
 cases b
 rw[h2]
 exact Ds (by rw[<-h1];exact a)
end Go.Ab.Lf

noncomputable section
namespace Go.Ab.Lf
theorem tW: ∀ {l:List Ty} (x:cf l),toT l (cp l x)=some x
 | [],_=>rfl
 |t::l,x=>by
  have ih:=tW (l:=l) x.2
  have key: ∀ (o:Option (PLift (t=t))) (p:Option (cf l)),o=some ⟨rfl⟩->p=some x.2->(match o with|some ⟨e⟩=>(match p with|some y=>some ((Eq.rec (motive:=fun s _=>den s) x.1 e:den t),y)|none=>none)|none=>none:Option (cf (t::l)))=some x:=by
   intro o p ho hp
   subst ho;subst hp
   rfl
  have e:toT (t::l) (cp (t::l) x)=(match Aj t t with|some ⟨e⟩=>(match toT l (cp l x.2)with|some y=>some ((Eq.rec (motive:=fun s _=>den s) x.1 e:den t),y)|none=>none)|none=>none:Option (cf (t::l))):=by kernel_rfl
  rw[e]
  exact key _ _ (si t) ih
theorem uQ.det{f:List Pl->T Rs}{pl:List Pl}{k:Nat}{q:List Pl}(h:uQ f pl k q): ∀ {k':Nat} {q':List Pl},uQ f pl k' q'->k=k'/\q=q':=by
 induction h with
 |last e=>
  intro k' q' h'
  cases h' with
  |last e'=>rw[e]at e';cases e';exact⟨rfl,rfl⟩
  |more e' _=>rw[e]at e';cases e'
 |more e _ ih=>
  intro k' q' h'
  cases h' with
  |last e'=>rw[e]at e';cases e'
  |more e' r=>rw[e]at e';cases e';exact ih r
def Jh(f:List Pl->T Rs)(pl:List Pl):Option (Nat×List Pl):=by
 classical exact if h: ∃ p:Nat×List Pl,uQ f pl p.1 p.2 then some (Classical.choose h)else none
theorem AW{f:List Pl->T Rs}{pl:List Pl}{k:Nat}{q:List Pl}(h:uQ f pl k q):Jh f pl=some (k,q):=by
 unfold Jh
 have hx: ∃ p:Nat×List Pl,uQ f pl p.1 p.2:=⟨(k,q),h⟩
 rw[dif_pos hx]
 obtain⟨a,b⟩:=(Classical.choose_spec hx).det h
 exact congrArg some (Prod.ext a b)
theorem GU{f:List Pl->T Rs}{pl:List Pl}{k:Nat}{q:List Pl}(h:Jh f pl=some (k,q)):uQ f pl k q:=by
 unfold Jh at h
 split at h
 ·rename_i hx
  have:=Classical.choose_spec hx
  injection h with h
  rw[h]at this
  exact this
 ·cases h
def DT(f:List Pl->T Rs)(ti to:List Ty)(x:cf ti):Bool:=match Jh f (cp ti x)with
 |some (0,q)=>(toT to q).isSome
 | _=>false
def lo1(f:List Pl->T Rs)(ti to:List Ty)(x:cf ti):cf to:=match Jh f (cp ti x)with
 |some (_,q)=>(toT to q).getD (wS to)
 |none=>wS to
theorem Fj{f:List Pl->T Rs}{ti to:List Ty}{x:cf ti}{y:cf to}(h:uQ f (cp ti x) 0 (cp to y)):DT f ti to x=true/\lo1 f ti to x=y:=by
 unfold DT lo1
 rw[AW h]
 simp only[tW]
 exact⟨rfl,rfl⟩
theorem aek{f:List Pl->T Rs}{ti to:List Ty}{x:cf ti}(h:DT f ti to x=true):uQ f (cp ti x) 0 (cp to (lo1 f ti to x)):=by
 unfold DT at h
 unfold lo1
 split at h
 ·rename_i q hq
  rw[hq]
  cases hy:toT to q with
  |none=>rw[hy]at h;cases h
  |some y=>
   have:=rR hy
   subst this
   simp only[tW]
   exact GU hq
 ·cases h
def Eg(l:Am)(f:List Pl->T Rs)(ti to:List Ty):qV:=mkL l ti fun x=>.ck (DT f ti to x) (.ok (0,cp to (lo1 f ti to x)))
theorem tf{call:pF}{cr:cu}(C:yz call cr){l:Am}{L:Nat->Option qV}{m:Nat}(hL:xx Rx.w cr L l.body)(ti to:List Ty):rQ Rx.w (Eg l (l.step L call m) ti to) (fun n d=>sF (cr n d) n (.bl l.id (.lp l.body))):=
 GP C hL (m:=m) fun x k q h=>by
  obtain⟨h1,h2⟩:=T.cG h
  cases h2
  exact aek h1
def HK(f:List Pl->T Rs)(ti t0 t1:List Ty)(x:cf ti):Bool:=match Jh f (cp ti x)with
 |some (0,q)=>(toT t0 q).isSome
 |some (1,q)=>(toT t1 q).isSome
 | _=>false
def Fk(f:List Pl->T Rs)(ti:List Ty)(x:cf ti):Bool:=match Jh f (cp ti x)with
 |some (0,_)=>true
 | _=>false
theorem Dt{f:List Pl->T Rs}{ti t0 t1:List Ty}{x:cf ti}{y:cf t0}(h:uQ f (cp ti x) 0 (cp t0 y)):HK f ti t0 t1 x=true/\Fk f ti x=true/\lo1 f ti t0 x=y:=by
 unfold HK Fk lo1
 rw[AW h]
 simp only[tW]
 exact⟨rfl,trivial,rfl⟩
theorem GV{f:List Pl->T Rs}{ti t0 t1:List Ty}{x:cf ti}{y:cf t1}(h:uQ f (cp ti x) 1 (cp t1 y)):HK f ti t0 t1 x=true/\Fk f ti x=false/\lo1 f ti t1 x=y:=by
 unfold HK Fk lo1
 rw[AW h]
 simp only[tW]
 exact⟨rfl,trivial,rfl⟩
theorem ael{f:List Pl->T Rs}{ti t0 t1:List Ty}{x:cf ti}(h:HK f ti t0 t1 x=true):(Fk f ti x=true->uQ f (cp ti x) 0 (cp t0 (lo1 f ti t0 x)))/\(Fk f ti x=false->uQ f (cp ti x) 1 (cp t1 (lo1 f ti t1 x))):=by
 unfold HK at h
 unfold Fk lo1
 split at h
 ·rename_i q hq
  rw[hq]
  refine⟨fun _=>?_,fun e=>by cases e⟩
  cases hy:toT t0 q with
  |none=>rw[hy]at h;cases h
  |some y=>
   have:=rR hy
   subst this
   simp only[tW]
   exact GU hq
 ·rename_i q hq
  rw[hq]
  refine⟨fun e=>(by simp at e),fun _=>?_⟩
  cases hy:toT t1 q with
  |none=>rw[hy]at h;cases h
  |some y=>
   have:=rR hy
   subst this
   simp only[tW]
   exact GU hq
 ·cases h
def Pu(l:Am)(f:List Pl->T Rs)(ti t0 t1:List Ty):qV:=mkL l ti fun x=>.ck (HK f ti t0 t1 x) (.br (Fk f ti x) (.ok (0,cp t0 (lo1 f ti t0 x))) (.ok (1,cp t1 (lo1 f ti t1 x))))
theorem zS{call:pF}{cr:cu}(C:yz call cr){l:Am}{L:Nat->Option qV}{m:Nat}(hL:xx Rx.w cr L l.body)(ti t0 t1:List Ty):rQ Rx.w (Pu l (l.step L call m) ti t0 t1) (fun n d=>sF (cr n d) n (.bl l.id (.lp l.body))):=
 GP C hL (m:=m) fun x k q h=>by
  obtain⟨h1,h2⟩:=T.cG h
  obtain⟨r0,r1⟩:=ael h1
  rw[T.wK]at h2
  cases hb:Fk (l.step L call m) ti x with
  |true=>rw[hb]at h2;cases h2;exact r0 hb
  |false=>rw[hb]at h2;cases h2;exact r1 hb
theorem aem{to:List Ty}{t:T (List Pl)}{y:cf to}(h:t.val=some (cp to y)):oy to t=true/\nA to t=y:=by
 unfold oy nA
 rw[h]
 simp only[tW]
 exact⟨trivial,trivial⟩
end Go.Ab.Lf
