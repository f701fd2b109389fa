import Derived.Test.YtbplobpobnagkaaGreatDoorLfF
import Derived.KernelRfl
noncomputable section
namespace Go.Ab
namespace Lf
@[reducible] noncomputable def ak(l:List Ty):Type:=List.rec Unit (fun t _ ih=>den t×ih) l
def aA(l:List Ty):ak l->List Pl:=List.rec (motive:=fun l=>ak l->List Pl) (fun _=>[]) (fun t _ ih x=>⟨t,x.1⟩::ih x.2) l
def toT(l:List Ty):List Pl->Option (ak l):=List.rec (motive:=fun l=>List Pl->Option (ak l))
 (fun pl=>match pl with
  | []=>some ()
  | _::_=>none)
 (fun t _ ih pl=>match pl with
  |⟨t',x⟩::r=>(match vO t' t with
   |some ⟨e⟩=>(match ih r with
    |some y=>some (e▸x,y)
    |none=>none)
   |none=>none)
  | []=>none) l
theorem qS: ∀ {l:List Ty} {pl:List Pl} {x:ak l},toT l pl=some x->pl=aA l x
 | [],pl,x,h=>by
  cases pl with
  |nil=>rfl
  |cons _ _=>cases h
 |t::l,pl,x,h=>by
  cases pl with
  |nil=>cases h
  |cons p r=>
   obtain⟨t',y⟩:=p
   change (match vO t' t with|some ⟨e⟩=>(match toT l r with|some z=>some (e▸y,z)|none=>none)|none=>none)=some x at h
   split at h
   ·rename_i q hq
    cases q
    split at h
    ·rename_i z hz
     cases h
     rw[qS hz];rfl
    ·cases h
   ·cases h
def T.map{α β:Type}(f:α->β)(x:T α):T β:=x.bd fun a=>.ok (f a)
theorem T.HM{α β:Type}{f:α->β}{x:T α}{b:β}(h:(x.map f).val=some b): ∃ a,x.val=some a/\b=f a:=by
 obtain⟨a,h1,h2⟩:=T.dI h
 cases h2
 exact⟨a,h1,rfl⟩
def iy(P:jV)(ptr:List Nat)(Q:jV)(ti to:List Ty)(g:ak ti->T (ak to)):cQ:=⟨P,ptr,Q,fun pl=>match toT ti pl with
 |some x=>(g x).map (aA to)
 |none=>.bad⟩
theorem dF{call:eK}{aq:aB}(C:oz call aq){f:FuncId}{b:dE}(hb:mO aq f b)(qo:Nat.ble b.ntmps 512=true){L:Nat->Option fE}(hL:jm Rx.w aq L b.code){m:Nat}{P:jV}{ptr:List Nat}{Q:jV}{ti to:List Ty}{g:ak ti->T (ak to)}
 (h0:cb (fun g=> !(Nat.beq g 0)) ptr=true)(hf: ∀ x y,(g x).val=some y->(je P ptr Q L b m call (aA ti x)).val=some (aA to y)):(iy P ptr Q ti to g).Ok f aq:=by
 refine acZ C hb (Nat.le_of_ble_eq_true qo) hL (m:=m) (fun g hg e=>?_) fun pl q h=>?_
 ·rw[g7,List.all_eq_true]at h0
  have:=h0 g hg
  subst e
  cases this
 ·change (match toT ti pl with|some x=>(g x).map (aA to)|none=>.bad).val=some q at h
  split at h
  ·rename_i x hx
   obtain⟨y,h1,h2⟩:=T.HM h
   rw[qS hx,h2]
   exact hf x y h1
  ·cases h
def pO(l:jW)(ti:List Ty)(g:ak ti->T (Nat×List Pl)):fE:=l.pc fun pl=>match toT ti pl with
 |some x=>g x
 |none=>.bad
theorem iI{call:eK}{aq:aB}(C:oz call aq){l:jW}{L:Nat->Option fE}{m:Nat}(hL:jm Rx.w aq L l.body){ti:List Ty}{g:ak ti->T (Nat×List Pl)}(hf: ∀ x k q,(g x).val=some (k,q)->gQ (l.step L call m) (aA ti x) k q):
 ed Rx.w (pO l ti g) (fun n d=>gG (aq n d) n (.bl l.id (.lp l.body))):=by
 refine acX C hL (m:=m) fun pl k q h=>?_
 change (match toT ti pl with|some x=>g x|none=>.bad).val=some (k,q)at h
 split at h
 ·rename_i x hx;rw[qS hx];exact hf x k q h
 ·cases h
def F4(c:qi):List (Nat×qi):=qi.rec (fun _=>[]) [] (fun _ _ a b=>app a b) (fun _ _ _ a b=>app a b) (fun id c b=>(id,c)::b) (fun _ b=>b) (fun _=>[]) [] [] c
def Nh(id:Nat)(l:List (Nat×qi)):List qi:=List.rec [] (fun p _ ih=>Bool.rec ih (p.2::ih) (Nat.beq p.1 id)) l
theorem Ni{id:Nat}{l:List (Nat×qi)}{b:qi}(h:(id,b)∈l):b∈Nh id l:=by
 induction l with
 |nil=>cases h
 |cons p l ih=>
  change b∈(Bool.rec (Nh id l) (p.2::Nh id l) (Nat.beq p.1 id):List qi)
  rcases List.mem_cons.1 h with e|e
  ·rw[<-e]
   simp only[Nat.beq_refl]
   exact List.mem_cons_self
  ·cases Nat.beq p.1 id with
   |true=>exact List.mem_cons_of_mem _ (ih e)
   |false=>exact ih e
def fI(c:qi)(id:Nat):qi:=match Nh id (F4 c)with
 | [.lp b]=>b
 | _=>.bad
def pP(l:List (Nat×fE))(i:Nat):Option fE:=List.rec none (fun p _ ih=>bif Nat.beq p.1 i then some p.2 else ih) l
theorem Yc{R:Rx}{aq:aB}{L:Nat->Option fE}{c:qi}(h: ∀ p,p∈F4 c-> ∀ f,L p.1=some f->ed R f (fun n d=>gG (aq n d) n (.bl p.1 p.2))):jm R aq L c:=by
 induction c with
 |sq a b sG xh=>
  have h: ∀ p,p∈app (F4 a) (F4 b)-> ∀ f,L p.1=some f->ed R f (fun n d=>gG (aq n d) n (.bl p.1 p.2)):=h
  rw[bp]at h
  exact⟨sG fun p hp=>h p (List.mem_append_left _ hp),xh fun p hp=>h p (List.mem_append_right _ hp)⟩
 |cif o a b sG xh=>
  have h: ∀ p,p∈app (F4 a) (F4 b)-> ∀ f,L p.1=some f->ed R f (fun n d=>gG (aq n d) n (.bl p.1 p.2)):=h
  rw[bp]at h
  exact⟨sG fun p hp=>h p (List.mem_append_left _ hp),xh fun p hp=>h p (List.mem_append_right _ hp)⟩
 |bl id b ih=>
  refine⟨?_,ih fun p hp=>h p (List.mem_cons_of_mem _ hp)⟩
  split
  ·rename_i f hf
   exact h (id,b) List.mem_cons_self f hf
  ·trivial
 |lp b ih=>exact ih h
 | _=>trivial
inductive fq (aq:aB) (c:qi):List (Nat×fE)->Prop
 |nil:fq aq c []
 |cons {i:Nat} {f:fE} {b:qi} {l:List (Nat×fE)}:Nh i (F4 c)=[.lp b]->ed Rx.w f (fun n d=>gG (aq n d) n (.bl i (.lp b)))->fq aq c l->fq aq c ((i,f)::l)
theorem fq.jm{aq:aB}{c:qi}{l:List (Nat×fE)}(h:fq aq c l):jm Rx.w aq (pP l) c:=by
 refine Yc fun p hp f hf=>?_
 induction h with
 |nil=>cases hf
 |cons h1 h2 _ ih=>
  rename_i i g b l _
  have hf:(bif Nat.beq i p.1 then some g else pP l p.1)=some f:=hf
  cases hb:Nat.beq i p.1 with
  |true=>
   rw[hb]at hf
   cases hf
   have e:=beq_true hb
   subst e
   have:=Ni hp
   rw[h1]at this
   rw[List.mem_singleton.1 this]
   exact h2
  |false=>rw[hb]at hf;exact ih hf
def Yd(l:List (Nat×cQ))(f:FuncId):Option cQ:=List.rec none (fun p _ ih=>bif Nat.beq p.1 f then some p.2 else ih) l
inductive dh (aq:aB):List (Nat×cQ)->Prop
 |nil:dh aq []
 |cons {i:Nat} {s:cQ} {l:List (Nat×cQ)}:s.Ok i aq->dh aq l->dh aq ((i,s)::l)
theorem dh.ok{aq:aB}{l:List (Nat×cQ)}(h:dh aq l): ∀ f s,Yd l f=some s->s.Ok f aq:=by
 induction h with
 |nil=>intro f s e;cases e
 |cons h1 _ ih=>
  rename_i i t l _
  intro f s e
  have e:(bif Nat.beq i f then some t else Yd l f)=some s:=e
  cases hb:Nat.beq i f with
  |true=>rw[hb]at e;cases e;rw[<-beq_true hb];exact h1
  |false=>rw[hb]at e;exact ih f s e
end Lf
end Go.Ab

noncomputable section
namespace Go.Ab
namespace Lf
def ux{α S O:Type}(G:S->α->S ⊕ O)(e:S->O):List α->S->O
 | [],s=>e s
 |x::r,s=>match G s x with
  | .inl s'=>ux G e r s'
  | .inr o=>o
theorem fM{α S O:Type}{F:S->α->S}{e:S->O}(l:List α): ∀ (s:S),ux (fun s x=>.inl (F s x)) e l s=e (l.foldl F s):=by
 induction l with
 |nil=>intro s;rfl
 |cons x r ih=>intro s;exact ih (F s x)
def zn{S:Type}(st:S->List Pl):S ⊕ (Nat×List Pl)->Rs
 | .inl s=>.next (st s)
 | .inr o=>.out o.1 o.2
theorem JE{α S:Type}{f:List Pl->T Rs}{l:List α}(st:S->Nat->List Pl)(G:S->α->S ⊕ (Nat×List Pl))(e:S->Nat×List Pl)(inv:S->List α->Prop)
 (uy: ∀ s j x r,l.drop j=x::r->inv s (x::r)->(f (st s j)).val=some (zn (fun s=>st s (j+1)) (G s x))/\ ∀ s',G s x=.inl s'->inv s' r)
 (Bv: ∀ s j,l.drop j=[]->j<=l.length->inv s []->(f (st s j)).val=some (.out (e s).1 (e s).2)): ∀ (r:List α) (j:Nat) (s:S),l.drop j=r->j<=l.length->inv s r->gQ f (st s j) (ux G e r s).1 (ux G e r s).2
 | [],j,s,h,hj,hi=>.last (Bv s j h hj hi)
 |x::r,j,s,h,hj,hi=>by
  obtain⟨h1,h2⟩:=uy s j x r h hi
  have gB:j<l.length:=by
   rcases Nat.lt_or_ge j l.length with k|k
   ·exact k
   ·rw[List.drop_eq_nil_of_le k]at h;cases h
  cases hg:G s x with
  |inl s'=>
   rw[hg]at h1
   have hr:l.drop (j+1)=r:=by rw[<-List.tail_drop,h];rfl
   have:=JE st G e inv uy Bv r (j+1) s' hr gB (h2 s' hg)
   have e2:ux G e (x::r) s=ux G e r s':=by simp only[ux,hg]
   rw[e2]
   exact .more h1 this
  |inr o=>
   rw[hg]at h1
   have e2:ux G e (x::r) s=o:=by simp only[ux,hg]
   rw[e2]
   exact .last h1
def gq{α S O:Type}(G:S->α->List α->S ⊕ O)(e:S->O):List α->S->O
 | [],s=>e s
 |x::r,s=>match G s x r with
  | .inl s'=>gq G e r s'
  | .inr o=>o
def Kt{S O:Type}(st:S->List Pl)(om:O->Nat×List Pl):S ⊕ O->Rs
 | .inl s=>.next (st s)
 | .inr o=>.out (om o).1 (om o).2
theorem SK{α S O:Type}{f:List Pl->T Rs}{l:List α}(st:S->Nat->List Pl)(G:S->α->List α->S ⊕ O)(e:S->O)(om:O->Nat×List Pl)(inv:S->List α->Prop)
 (uy: ∀ s j x r,l.drop j=x::r->inv s (x::r)->(f (st s j)).val=some (Kt (fun s=>st s (j+1)) om (G s x r))/\ ∀ s',G s x r=.inl s'->inv s' r)
 (Bv: ∀ s j,l.drop j=[]->j<=l.length->inv s []->(f (st s j)).val=some (.out (om (e s)).1 (om (e s)).2)): ∀ (r:List α) (j:Nat) (s:S),l.drop j=r->j<=l.length->inv s r->gQ f (st s j) (om (gq G e r s)).1 (om (gq G e r s)).2
 | [],j,s,h,hj,hi=>.last (Bv s j h hj hi)
 |x::r,j,s,h,hj,hi=>by
  obtain⟨h1,h2⟩:=uy s j x r h hi
  have gB:j<l.length:=by
   rcases Nat.lt_or_ge j l.length with k|k
   ·exact k
   ·rw[List.drop_eq_nil_of_le k]at h;cases h
  cases hg:G s x r with
  |inl s'=>
   rw[hg]at h1
   have hr:l.drop (j+1)=r:=by rw[<-List.tail_drop,h];rfl
   have:=SK st G e om inv uy Bv r (j+1) s' hr gB (h2 s' hg)
   have e2:gq G e (x::r) s=gq G e r s':=by simp only[gq,hg]
   rw[e2]
   exact .more h1 this
  |inr o=>
   rw[hg]at h1
   have e2:gq G e (x::r) s=o:=by simp only[gq,hg]
   rw[e2]
   exact .last h1
theorem dn{α:Type}{l:List α}{j:Nat}{x:α}{r:List α}(h:l.drop j=x::r)(d:α):j<l.length/\l.getD j d=x:=by
 have gB:j<l.length:=by
  rcases Nat.lt_or_ge j l.length with k|k
  ·exact k
  ·rw[List.drop_eq_nil_of_le k]at h;cases h
 refine⟨gB,?_⟩
 rw[List.drop_eq_getElem_cons gB]at h
 injection h with h _
 simp[List.getD_eq_getElem?_getD,List.getElem?_eq_getElem gB,h]
theorem wrap_i64{n:Int}(h1: -9223372036854775808<=n)(h2:n<9223372036854775808):eZ .i64 n=n:=by
 show Int.sub (Int.emod (Int.add n 9223372036854775808) 18446744073709551616) 9223372036854775808=n
 have e:Int.emod (Int.add n 9223372036854775808) 18446744073709551616=n+9223372036854775808:=Int.emod_eq_of_lt (by show 0<=n+_;omega) (by show n+_<_;omega)
 rw[e]
 show n+9223372036854775808 - 9223372036854775808=n
 omega
theorem Bw{n:Nat}(h:0<n)(h2:n<4611686018427387904):bO .i64 (n:Int) 1=((n - 1:Nat):Int):=by
 unfold bO
 rw[wrap_i64 (by omega) (by omega)]
 omega
theorem wrap_u64{n:Int}(h1:0<=n)(h2:n<18446744073709551616):eZ .u64 n=n:=Int.emod_eq_of_lt h1 h2
theorem kA{j:Nat}(h:j<4611686018427387904):cf .i64 (j:Int) 1=((j+1:Nat):Int):=by
 unfold cf
 rw[wrap_i64 (by omega) (by omega)]
 omega
theorem nv(n:Int):0<=aV .u64 n/\aV .u64 n<18446744073709551616:=⟨Int.emod_nonneg n (by decide),Int.emod_lt_of_pos n (by decide)⟩
theorem HN(n:Int): -9223372036854775808<=aV .i64 n/\aV .i64 n<9223372036854775808:=by
 have h1:0<=(n+9223372036854775808) % 18446744073709551616:=Int.emod_nonneg _ (by decide)
 have h2:(n+9223372036854775808) % 18446744073709551616<18446744073709551616:=Int.emod_lt_of_pos _ (by decide)
 have e:aV .i64 n=(n+9223372036854775808) % 18446744073709551616 - 9223372036854775808:=rfl
 omega
theorem bZ{j n:Nat}(h:j<n):bg (j:Int) (Int.ofNat n)=true:=by
 rw[iG];exact⟨by omega,by have:Int.ofNat n=(n:Int):=rfl;omega⟩
theorem dY{j n:Nat}(h:j<n):decide ((j:Int)<(n:Int))=true:=decide_eq_true (by omega)
theorem dj{j n:Nat}(h:n<=j):decide ((j:Int)<(n:Int))=false:=decide_eq_false (by omega)
end Lf
end Go.Ab
namespace Go.Ab.Lf
def sf(l:List Ty):ak l:=List.rec (motive:=ak) () (fun t _ ih=>(ao t,ih)) l
def jS(to:List Ty)(x:T (List Pl)):Bool:=match x.val with
 |some q=>(match toT to q with
  |some _=>true
  |none=>false)
 |none=>false
def e9(to:List Ty)(x:T (List Pl)):ak to:=match x.val with
 |some q=>(match toT to q with
  |some y=>y
  |none=>sf to)
 |none=>sf to
theorem qT{to:List Ty}{x:T (List Pl)}(h:jS to x=true):x.val=some (aA to (e9 to x)):=by
 unfold jS at h
 unfold e9
 split at h
 ·rename_i q hq
  rw[hq]
  split at h
  ·rename_i y hy
   rw[qS hy]
  ·cases h
 ·cases h
theorem eX{call:eK}{aq:aB}(C:oz call aq){f:FuncId}{b:dE}(hb:mO aq f b)(qo:Nat.ble b.ntmps 512=true){L:Nat->Option fE}(hL:jm Rx.w aq L b.code){m:Nat}{P:jV}{ptr:List Nat}{Q:jV}{ti to:List Ty}{ok:ak ti->Bool}{out:ak ti->ak to}
 (h0:cb (fun g=> !(Nat.beq g 0)) ptr=true)(h1: ∀ x,ok x=jS to (je P ptr Q L b m call (aA ti x)))(h2: ∀ x,out x=e9 to (je P ptr Q L b m call (aA ti x))):(iy P ptr Q ti to fun x=>.ck (ok x) (.ok (out x))).Ok f aq:=by
 refine dF C hb qo hL (m:=m) h0 fun x y h=>?_
 obtain⟨a,b⟩:=T.aY h
 cases b
 rw[h2]
 exact qT (by rw[<-h1];exact a)
end Go.Ab.Lf

noncomputable section
namespace Go.Ab.Lf
theorem pQ: ∀ {l:List Ty} (x:ak l),toT l (aA l x)=some x
 | [],_=>rfl
 |t::l,x=>by
  have ih:=pQ (l:=l) x.2
  have key: ∀ (o:Option (PLift (t=t))) (p:Option (ak l)),o=some ⟨rfl⟩->p=some x.2->(match o with|some ⟨e⟩=>(match p with|some y=>some ((Eq.rec (motive:=fun s _=>den s) x.1 e:den t),y)|none=>none)|none=>none:Option (ak (t::l)))=some x:=by
   intro o p ho hp
   subst ho;subst hp
   rfl
  have e:toT (t::l) (aA (t::l) x)=(match vO t t with|some ⟨e⟩=>(match toT l (aA l x.2)with|some y=>some ((Eq.rec (motive:=fun s _=>den s) x.1 e:den t),y)|none=>none)|none=>none:Option (ak (t::l))):=by kernel_rfl
  rw[e]
  exact key _ _ (mP t) ih
theorem gQ.det{f:List Pl->T Rs}{pl:List Pl}{k:Nat}{q:List Pl}(h:gQ f pl k q): ∀ {k':Nat} {q':List Pl},gQ f pl k' q'->k=k'/\q=q':=by
 induction h with
 |last e=>
  intro k' q' h'
  cases h' with
  |last e'=>rw[e]at e';cases e';exact⟨rfl,rfl⟩
  |more e' _=>rw[e]at e';cases e'
 |more e _ ih=>
  intro k' q' h'
  cases h' with
  |last e'=>rw[e]at e';cases e'
  |more e' r=>rw[e]at e';cases e';exact ih r
def DA(f:List Pl->T Rs)(pl:List Pl):Option (Nat×List Pl):=by
 classical exact if h: ∃ p:Nat×List Pl,gQ f pl p.1 p.2 then some (Classical.choose h)else none
theorem vv{f:List Pl->T Rs}{pl:List Pl}{k:Nat}{q:List Pl}(h:gQ f pl k q):DA f pl=some (k,q):=by
 unfold DA
 have hx: ∃ p:Nat×List Pl,gQ f pl p.1 p.2:=⟨(k,q),h⟩
 rw[dif_pos hx]
 obtain⟨a,b⟩:=(Classical.choose_spec hx).det h
 exact congrArg some (Prod.ext a b)
theorem Bx{f:List Pl->T Rs}{pl:List Pl}{k:Nat}{q:List Pl}(h:DA f pl=some (k,q)):gQ f pl k q:=by
 unfold DA at h
 split at h
 ·rename_i hx
  have:=Classical.choose_spec hx
  injection h with h
  rw[h]at this
  exact this
 ·cases h
def oB(f:List Pl->T Rs)(ti to:List Ty)(x:ak ti):Bool:=match DA f (aA ti x)with
 |some (0,q)=>(toT to q).isSome
 | _=>false
def gH(f:List Pl->T Rs)(ti to:List Ty)(x:ak ti):ak to:=match DA f (aA ti x)with
 |some (_,q)=>(toT to q).getD (sf to)
 |none=>sf to
theorem jN{f:List Pl->T Rs}{ti to:List Ty}{x:ak ti}{y:ak to}(h:gQ f (aA ti x) 0 (aA to y)):oB f ti to x=true/\gH f ti to x=y:=by
 unfold oB gH
 rw[vv h]
 simp only[pQ]
 exact⟨rfl,rfl⟩
theorem Ye{f:List Pl->T Rs}{ti to:List Ty}{x:ak ti}(h:oB f ti to x=true):gQ f (aA ti x) 0 (aA to (gH f ti to x)):=by
 unfold oB at h
 unfold gH
 split at h
 ·rename_i q hq
  rw[hq]
  cases hy:toT to q with
  |none=>rw[hy]at h;cases h
  |some y=>
   have:=qS hy
   subst this
   simp only[pQ]
   exact Bx hq
 ·cases h
def pR(l:jW)(f:List Pl->T Rs)(ti to:List Ty):fE:=pO l ti fun x=>.ck (oB f ti to x) (.ok (0,aA to (gH f ti to x)))
theorem fC{call:eK}{aq:aB}(C:oz call aq){l:jW}{L:Nat->Option fE}{m:Nat}(hL:jm Rx.w aq L l.body)(ti to:List Ty):ed Rx.w (pR l (l.step L call m) ti to) (fun n d=>gG (aq n d) n (.bl l.id (.lp l.body))):=
 iI C hL (m:=m) fun x k q h=>by
  obtain⟨h1,h2⟩:=T.aY h
  cases h2
  exact Ye h1
def rG(f:List Pl->T Rs)(ti t0 t1:List Ty)(x:ak ti):Bool:=match DA f (aA ti x)with
 |some (0,q)=>(toT t0 q).isSome
 |some (1,q)=>(toT t1 q).isSome
 | _=>false
def qw(f:List Pl->T Rs)(ti:List Ty)(x:ak ti):Bool:=match DA f (aA ti x)with
 |some (0,_)=>true
 | _=>false
theorem sW{f:List Pl->T Rs}{ti t0 t1:List Ty}{x:ak ti}{y:ak t0}(h:gQ f (aA ti x) 0 (aA t0 y)):rG f ti t0 t1 x=true/\qw f ti x=true/\gH f ti t0 x=y:=by
 unfold rG qw gH
 rw[vv h]
 simp only[pQ]
 exact⟨rfl,trivial,rfl⟩
theorem Bz{f:List Pl->T Rs}{ti t0 t1:List Ty}{x:ak ti}{y:ak t1}(h:gQ f (aA ti x) 1 (aA t1 y)):rG f ti t0 t1 x=true/\qw f ti x=false/\gH f ti t1 x=y:=by
 unfold rG qw gH
 rw[vv h]
 simp only[pQ]
 exact⟨rfl,trivial,rfl⟩
theorem Yf{f:List Pl->T Rs}{ti t0 t1:List Ty}{x:ak ti}(h:rG f ti t0 t1 x=true):(qw f ti x=true->gQ f (aA ti x) 0 (aA t0 (gH f ti t0 x)))/\(qw f ti x=false->gQ f (aA ti x) 1 (aA t1 (gH f ti t1 x))):=by
 unfold rG at h
 unfold qw gH
 split at h
 ·rename_i q hq
  rw[hq]
  refine⟨fun _=>?_,fun e=>by cases e⟩
  cases hy:toT t0 q with
  |none=>rw[hy]at h;cases h
  |some y=>
   have:=qS hy
   subst this
   simp only[pQ]
   exact Bx hq
 ·rename_i q hq
  rw[hq]
  refine⟨fun e=>(by simp at e),fun _=>?_⟩
  cases hy:toT t1 q with
  |none=>rw[hy]at h;cases h
  |some y=>
   have:=qS hy
   subst this
   simp only[pQ]
   exact Bx hq
 ·cases h
def vw(l:jW)(f:List Pl->T Rs)(ti t0 t1:List Ty):fE:=pO l ti fun x=>.ck (rG f ti t0 t1 x) (.br (qw f ti x) (.ok (0,aA t0 (gH f ti t0 x))) (.ok (1,aA t1 (gH f ti t1 x))))
theorem jx{call:eK}{aq:aB}(C:oz call aq){l:jW}{L:Nat->Option fE}{m:Nat}(hL:jm Rx.w aq L l.body)(ti t0 t1:List Ty):ed Rx.w (vw l (l.step L call m) ti t0 t1) (fun n d=>gG (aq n d) n (.bl l.id (.lp l.body))):=
 iI C hL (m:=m) fun x k q h=>by
  obtain⟨h1,h2⟩:=T.aY h
  obtain⟨r0,r1⟩:=Yf h1
  rw[T.dX]at h2
  cases hb:qw (l.step L call m) ti x with
  |true=>rw[hb]at h2;cases h2;exact r0 hb
  |false=>rw[hb]at h2;cases h2;exact r1 hb
theorem jF{to:List Ty}{t:T (List Pl)}{y:ak to}(h:t.val=some (aA to y)):jS to t=true/\e9 to t=y:=by
 unfold jS e9
 rw[h]
 simp only[pQ]
 exact⟨trivial,trivial⟩
end Go.Ab.Lf
