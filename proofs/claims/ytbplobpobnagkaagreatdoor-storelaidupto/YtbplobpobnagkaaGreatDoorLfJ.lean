import Derived.Test.YtbplobpobnagkaaGreatDoorLfF
import Derived.KernelRfl
noncomputable section
namespace Go.Ab
namespace Lf
@[reducible] noncomputable def aj(l:List Ty):Type:=List.rec Unit (fun t _ ih=>den t×ih) l
def aB(l:List Ty):aj l->List Pl:=List.rec (motive:=fun l=>aj l->List Pl) (fun _=>[]) (fun t _ ih x=>⟨t,x.1⟩::ih x.2) l
def toT(l:List Ty):List Pl->Option (aj l):=List.rec (motive:=fun l=>List Pl->Option (aj l))
 (fun pl=>match pl with
  | []=>some ()
  | _::_=>none)
 (fun t _ ih pl=>match pl with
  |⟨t',x⟩::r=>(match vM t' t with
   |some ⟨e⟩=>(match ih r with
    |some y=>some (e▸x,y)
    |none=>none)
   |none=>none)
  | []=>none) l
theorem mL: ∀ {l:List Ty} {pl:List Pl} {x:aj l},toT l pl=some x->pl=aB l x
 | [],pl,x,h=>by
  cases pl with
  |nil=>rfl
  |cons _ _=>cases h
 |t::l,pl,x,h=>by
  cases pl with
  |nil=>cases h
  |cons p r=>
   obtain⟨t',y⟩:=p
   change (match vM t' t with|some ⟨e⟩=>(match toT l r with|some z=>some (e▸y,z)|none=>none)|none=>none)=some x at h
   split at h
   ·rename_i q hq
    cases q
    split at h
    ·rename_i z hz
     cases h
     rw[mL hz];rfl
    ·cases h
   ·cases h
def T.map{α β:Type}(f:α->β)(x:T α):T β:=x.bd fun a=>.ok (f a)
theorem T.HJ{α β:Type}{f:α->β}{x:T α}{b:β}(h:(x.map f).val=some b): ∃ a,x.val=some a/\b=f a:=by
 obtain⟨a,h1,h2⟩:=T.dh h
 cases h2
 exact⟨a,h1,rfl⟩
def iw(P:jT)(ptr:List Nat)(Q:jT)(ti to:List Ty)(g:aj ti->T (aj to)):cQ:=⟨P,ptr,Q,fun pl=>match toT ti pl with
 |some x=>(g x).map (aB to)
 |none=>.bad⟩
theorem dD{call:eL}{ao:aA}(C:oy call ao){f:FuncId}{b:dC}(hb:mJ ao f b)(qm:Nat.ble b.ntmps 512=true){L:Nat->Option fD}(hL:jq Rx.w ao L b.code){m:Nat}{P:jT}{ptr:List Nat}{Q:jT}{ti to:List Ty}{g:aj ti->T (aj to)}
 (h0:cf (fun g=> !(Nat.beq g 0)) ptr=true)(hf: ∀ x y,(g x).val=some y->(ja P ptr Q L b m call (aB ti x)).val=some (aB to y)):(iw P ptr Q ti to g).Ok f ao:=by
 refine acV C hb (Nat.le_of_ble_eq_true qm) hL (m:=m) (fun g hg e=>?_) fun pl q h=>?_
 ·rw[hU,List.all_eq_true]at h0
  have:=h0 g hg
  subst e
  cases this
 ·change (match toT ti pl with|some x=>(g x).map (aB to)|none=>.bad).val=some q at h
  split at h
  ·rename_i x hx
   obtain⟨y,h1,h2⟩:=T.HJ h
   rw[mL hx,h2]
   exact hf x y h1
  ·cases h
def pK(l:j4)(ti:List Ty)(g:aj ti->T (Nat×List Pl)):fD:=l.pc fun pl=>match toT ti pl with
 |some x=>g x
 |none=>.bad
theorem iH{call:eL}{ao:aA}(C:oy call ao){l:j4}{L:Nat->Option fD}{m:Nat}(hL:jq Rx.w ao L l.body){ti:List Ty}{g:aj ti->T (Nat×List Pl)}(hf: ∀ x k q,(g x).val=some (k,q)->gM (l.step L call m) (aB ti x) k q):
 ep Rx.w (pK l ti g) (fun n d=>gy (ao n d) n (.bl l.id (.lp l.body))):=by
 refine acT C hL (m:=m) fun pl k q h=>?_
 change (match toT ti pl with|some x=>g x|none=>.bad).val=some (k,q)at h
 split at h
 ·rename_i x hx;rw[mL hx];exact hf x k q h
 ·cases h
def FX(c:qe):List (Nat×qe):=qe.rec (fun _=>[]) [] (fun _ _ a b=>app a b) (fun _ _ _ a b=>app a b) (fun id c b=>(id,c)::b) (fun _ b=>b) (fun _=>[]) [] [] c
def Nd(id:Nat)(l:List (Nat×qe)):List qe:=List.rec [] (fun p _ ih=>Bool.rec ih (p.2::ih) (Nat.beq p.1 id)) l
theorem Nf{id:Nat}{l:List (Nat×qe)}{b:qe}(h:(id,b)∈l):b∈Nd id l:=by
 induction l with
 |nil=>cases h
 |cons p l ih=>
  change b∈(Bool.rec (Nd id l) (p.2::Nd id l) (Nat.beq p.1 id):List qe)
  rcases List.mem_cons.1 h with e|e
  ·rw[<-e]
   simp only[Nat.beq_refl]
   exact List.mem_cons_self
  ·cases Nat.beq p.1 id with
   |true=>exact List.mem_cons_of_mem _ (ih e)
   |false=>exact ih e
def fK(c:qe)(id:Nat):qe:=match Nd id (FX c)with
 | [.lp b]=>b
 | _=>.bad
def qg(l:List (Nat×fD))(i:Nat):Option fD:=List.rec none (fun p _ ih=>bif Nat.beq p.1 i then some p.2 else ih) l
theorem Yi{R:Rx}{ao:aA}{L:Nat->Option fD}{c:qe}(h: ∀ p,p∈FX c-> ∀ f,L p.1=some f->ep R f (fun n d=>gy (ao n d) n (.bl p.1 p.2))):jq R ao L c:=by
 induction c with
 |sq a b sB xm=>
  have h: ∀ p,p∈app (FX a) (FX b)-> ∀ f,L p.1=some f->ep R f (fun n d=>gy (ao n d) n (.bl p.1 p.2)):=h
  rw[bp]at h
  exact⟨sB fun p hp=>h p (List.mem_append_left _ hp),xm fun p hp=>h p (List.mem_append_right _ hp)⟩
 |cif o a b sB xm=>
  have h: ∀ p,p∈app (FX a) (FX b)-> ∀ f,L p.1=some f->ep R f (fun n d=>gy (ao n d) n (.bl p.1 p.2)):=h
  rw[bp]at h
  exact⟨sB fun p hp=>h p (List.mem_append_left _ hp),xm fun p hp=>h p (List.mem_append_right _ hp)⟩
 |bl id b ih=>
  refine⟨?_,ih fun p hp=>h p (List.mem_cons_of_mem _ hp)⟩
  split
  ·rename_i f hf
   exact h (id,b) List.mem_cons_self f hf
  ·trivial
 |lp b ih=>exact ih h
 | _=>trivial
inductive fx (ao:aA) (c:qe):List (Nat×fD)->Prop
 |nil:fx ao c []
 |cons {i:Nat} {f:fD} {b:qe} {l:List (Nat×fD)}:Nd i (FX c)=[.lp b]->ep Rx.w f (fun n d=>gy (ao n d) n (.bl i (.lp b)))->fx ao c l->fx ao c ((i,f)::l)
theorem fx.jq{ao:aA}{c:qe}{l:List (Nat×fD)}(h:fx ao c l):jq Rx.w ao (qg l) c:=by
 refine Yi fun p hp f hf=>?_
 induction h with
 |nil=>cases hf
 |cons h1 h2 _ ih=>
  rename_i i g b l _
  have hf:(bif Nat.beq i p.1 then some g else qg l p.1)=some f:=hf
  cases hb:Nat.beq i p.1 with
  |true=>
   rw[hb]at hf
   cases hf
   have e:=beq_true hb
   subst e
   have:=Nf hp
   rw[h1]at this
   rw[List.mem_singleton.1 this]
   exact h2
  |false=>rw[hb]at hf;exact ih hf
def Yj(l:List (Nat×cQ))(f:FuncId):Option cQ:=List.rec none (fun p _ ih=>bif Nat.beq p.1 f then some p.2 else ih) l
inductive dc (ao:aA):List (Nat×cQ)->Prop
 |nil:dc ao []
 |cons {i:Nat} {s:cQ} {l:List (Nat×cQ)}:s.Ok i ao->dc ao l->dc ao ((i,s)::l)
theorem dc.ok{ao:aA}{l:List (Nat×cQ)}(h:dc ao l): ∀ f s,Yj l f=some s->s.Ok f ao:=by
 induction h with
 |nil=>intro f s e;cases e
 |cons h1 _ ih=>
  rename_i i t l _
  intro f s e
  have e:(bif Nat.beq i f then some t else Yj l f)=some s:=e
  cases hb:Nat.beq i f with
  |true=>rw[hb]at e;cases e;rw[<-beq_true hb];exact h1
  |false=>rw[hb]at e;exact ih f s e
end Lf
end Go.Ab

noncomputable section
namespace Go.Ab
namespace Lf
def um{α S O:Type}(G:S->α->S ⊕ O)(e:S->O):List α->S->O
 | [],s=>e s
 |x::r,s=>match G s x with
  | .inl s'=>um G e r s'
  | .inr o=>o
theorem fH{α S O:Type}{F:S->α->S}{e:S->O}(l:List α): ∀ (s:S),um (fun s x=>.inl (F s x)) e l s=e (l.foldl F s):=by
 induction l with
 |nil=>intro s;rfl
 |cons x r ih=>intro s;exact ih (F s x)
def zA{S:Type}(st:S->List Pl):S ⊕ (Nat×List Pl)->Rs
 | .inl s=>.next (st s)
 | .inr o=>.out o.1 o.2
theorem JD{α S:Type}{f:List Pl->T Rs}{l:List α}(st:S->Nat->List Pl)(G:S->α->S ⊕ (Nat×List Pl))(e:S->Nat×List Pl)(inv:S->List α->Prop)
 (uo: ∀ s j x r,l.drop j=x::r->inv s (x::r)->(f (st s j)).val=some (zA (fun s=>st s (j+1)) (G s x))/\ ∀ s',G s x=.inl s'->inv s' r)
 (BA: ∀ s j,l.drop j=[]->j<=l.length->inv s []->(f (st s j)).val=some (.out (e s).1 (e s).2)): ∀ (r:List α) (j:Nat) (s:S),l.drop j=r->j<=l.length->inv s r->gM f (st s j) (um G e r s).1 (um G e r s).2
 | [],j,s,h,hj,hi=>.last (BA s j h hj hi)
 |x::r,j,s,h,hj,hi=>by
  obtain⟨h1,h2⟩:=uo s j x r h hi
  have gG:j<l.length:=by
   rcases Nat.lt_or_ge j l.length with k|k
   ·exact k
   ·rw[List.drop_eq_nil_of_le k]at h;cases h
  cases hg:G s x with
  |inl s'=>
   rw[hg]at h1
   have hr:l.drop (j+1)=r:=by rw[<-List.tail_drop,h];rfl
   have:=JD st G e inv uo BA r (j+1) s' hr gG (h2 s' hg)
   have e2:um G e (x::r) s=um G e r s':=by simp only[um,hg]
   rw[e2]
   exact .more h1 this
  |inr o=>
   rw[hg]at h1
   have e2:um G e (x::r) s=o:=by simp only[um,hg]
   rw[e2]
   exact .last h1
def gq{α S O:Type}(G:S->α->List α->S ⊕ O)(e:S->O):List α->S->O
 | [],s=>e s
 |x::r,s=>match G s x r with
  | .inl s'=>gq G e r s'
  | .inr o=>o
def Kq{S O:Type}(st:S->List Pl)(om:O->Nat×List Pl):S ⊕ O->Rs
 | .inl s=>.next (st s)
 | .inr o=>.out (om o).1 (om o).2
theorem SL{α S O:Type}{f:List Pl->T Rs}{l:List α}(st:S->Nat->List Pl)(G:S->α->List α->S ⊕ O)(e:S->O)(om:O->Nat×List Pl)(inv:S->List α->Prop)
 (uo: ∀ s j x r,l.drop j=x::r->inv s (x::r)->(f (st s j)).val=some (Kq (fun s=>st s (j+1)) om (G s x r))/\ ∀ s',G s x r=.inl s'->inv s' r)
 (BA: ∀ s j,l.drop j=[]->j<=l.length->inv s []->(f (st s j)).val=some (.out (om (e s)).1 (om (e s)).2)): ∀ (r:List α) (j:Nat) (s:S),l.drop j=r->j<=l.length->inv s r->gM f (st s j) (om (gq G e r s)).1 (om (gq G e r s)).2
 | [],j,s,h,hj,hi=>.last (BA s j h hj hi)
 |x::r,j,s,h,hj,hi=>by
  obtain⟨h1,h2⟩:=uo s j x r h hi
  have gG:j<l.length:=by
   rcases Nat.lt_or_ge j l.length with k|k
   ·exact k
   ·rw[List.drop_eq_nil_of_le k]at h;cases h
  cases hg:G s x r with
  |inl s'=>
   rw[hg]at h1
   have hr:l.drop (j+1)=r:=by rw[<-List.tail_drop,h];rfl
   have:=SL st G e om inv uo BA r (j+1) s' hr gG (h2 s' hg)
   have e2:gq G e (x::r) s=gq G e r s':=by simp only[gq,hg]
   rw[e2]
   exact .more h1 this
  |inr o=>
   rw[hg]at h1
   have e2:gq G e (x::r) s=o:=by simp only[gq,hg]
   rw[e2]
   exact .last h1
theorem dm{α:Type}{l:List α}{j:Nat}{x:α}{r:List α}(h:l.drop j=x::r)(d:α):j<l.length/\l.getD j d=x:=by
 have gG:j<l.length:=by
  rcases Nat.lt_or_ge j l.length with k|k
  ·exact k
  ·rw[List.drop_eq_nil_of_le k]at h;cases h
 refine⟨gG,?_⟩
 rw[List.drop_eq_getElem_cons gG]at h
 injection h with h _
 simp[List.getD_eq_getElem?_getD,List.getElem?_eq_getElem gG,h]
theorem wrap_i64{n:Int}(h1: -9223372036854775808<=n)(h2:n<9223372036854775808):eX .i64 n=n:=by
 show Int.sub (Int.emod (Int.add n 9223372036854775808) 18446744073709551616) 9223372036854775808=n
 have e:Int.emod (Int.add n 9223372036854775808) 18446744073709551616=n+9223372036854775808:=Int.emod_eq_of_lt (by show 0<=n+_;omega) (by show n+_<_;omega)
 rw[e]
 show n+9223372036854775808 - 9223372036854775808=n
 omega
theorem BB{n:Nat}(h:0<n)(h2:n<4611686018427387904):bN .i64 (n:Int) 1=((n - 1:Nat):Int):=by
 unfold bN
 rw[wrap_i64 (by omega) (by omega)]
 omega
theorem wrap_u64{n:Int}(h1:0<=n)(h2:n<18446744073709551616):eX .u64 n=n:=Int.emod_eq_of_lt h1 h2
theorem kv{j:Nat}(h:j<4611686018427387904):cr .i64 (j:Int) 1=((j+1:Nat):Int):=by
 unfold cr
 rw[wrap_i64 (by omega) (by omega)]
 omega
theorem ng(n:Int):0<=bf .u64 n/\bf .u64 n<18446744073709551616:=⟨Int.emod_nonneg n (by decide),Int.emod_lt_of_pos n (by decide)⟩
theorem HK(n:Int): -9223372036854775808<=bf .i64 n/\bf .i64 n<9223372036854775808:=by
 have h1:0<=(n+9223372036854775808) % 18446744073709551616:=Int.emod_nonneg _ (by decide)
 have h2:(n+9223372036854775808) % 18446744073709551616<18446744073709551616:=Int.emod_lt_of_pos _ (by decide)
 have e:bf .i64 n=(n+9223372036854775808) % 18446744073709551616 - 9223372036854775808:=rfl
 omega
theorem cN{j n:Nat}(h:j<n):bm (j:Int) (Int.ofNat n)=true:=by
 rw[iF];exact⟨by omega,by have:Int.ofNat n=(n:Int):=rfl;omega⟩
theorem ed{j n:Nat}(h:j<n):decide ((j:Int)<(n:Int))=true:=decide_eq_true (by omega)
theorem di{j n:Nat}(h:n<=j):decide ((j:Int)<(n:Int))=false:=decide_eq_false (by omega)
end Lf
end Go.Ab
namespace Go.Ab.Lf
def r8(l:List Ty):aj l:=List.rec (motive:=aj) () (fun t _ ih=>(aq t,ih)) l
def jP(to:List Ty)(x:T (List Pl)):Bool:=match x.val with
 |some q=>(match toT to q with
  |some _=>true
  |none=>false)
 |none=>false
def e7(to:List Ty)(x:T (List Pl)):aj to:=match x.val with
 |some q=>(match toT to q with
  |some y=>y
  |none=>r8 to)
 |none=>r8 to
theorem qP{to:List Ty}{x:T (List Pl)}(h:jP to x=true):x.val=some (aB to (e7 to x)):=by
 unfold jP at h
 unfold e7
 split at h
 ·rename_i q hq
  rw[hq]
  split at h
  ·rename_i y hy
   rw[mL hy]
  ·cases h
 ·cases h
theorem eU{call:eL}{ao:aA}(C:oy call ao){f:FuncId}{b:dC}(hb:mJ ao f b)(qm:Nat.ble b.ntmps 512=true){L:Nat->Option fD}(hL:jq Rx.w ao L b.code){m:Nat}{P:jT}{ptr:List Nat}{Q:jT}{ti to:List Ty}{ok:aj ti->Bool}{out:aj ti->aj to}
 (h0:cf (fun g=> !(Nat.beq g 0)) ptr=true)(h1: ∀ x,ok x=jP to (ja P ptr Q L b m call (aB ti x)))(h2: ∀ x,out x=e7 to (ja P ptr Q L b m call (aB ti x))):(iw P ptr Q ti to fun x=>.ck (ok x) (.ok (out x))).Ok f ao:=by
 refine dD C hb qm hL (m:=m) h0 fun x y h=>?_
 obtain⟨a,b⟩:=T.aX h
 cases b
 rw[h2]
 exact qP (by rw[<-h1];exact a)
end Go.Ab.Lf

noncomputable section
namespace Go.Ab.Lf
theorem pL: ∀ {l:List Ty} (x:aj l),toT l (aB l x)=some x
 | [],_=>rfl
 |t::l,x=>by
  have ih:=pL (l:=l) x.2
  have key: ∀ (o:Option (PLift (t=t))) (p:Option (aj l)),o=some ⟨rfl⟩->p=some x.2->(match o with|some ⟨e⟩=>(match p with|some y=>some ((Eq.rec (motive:=fun s _=>den s) x.1 e:den t),y)|none=>none)|none=>none:Option (aj (t::l)))=some x:=by
   intro o p ho hp
   subst ho;subst hp
   rfl
  have e:toT (t::l) (aB (t::l) x)=(match vM t t with|some ⟨e⟩=>(match toT l (aB l x.2)with|some y=>some ((Eq.rec (motive:=fun s _=>den s) x.1 e:den t),y)|none=>none)|none=>none:Option (aj (t::l))):=by kernel_rfl
  rw[e]
  exact key _ _ (mK t) ih
theorem gM.det{f:List Pl->T Rs}{pl:List Pl}{k:Nat}{q:List Pl}(h:gM f pl k q): ∀ {k':Nat} {q':List Pl},gM f pl k' q'->k=k'/\q=q':=by
 induction h with
 |last e=>
  intro k' q' h'
  cases h' with
  |last e'=>rw[e]at e';cases e';exact⟨rfl,rfl⟩
  |more e' _=>rw[e]at e';cases e'
 |more e _ ih=>
  intro k' q' h'
  cases h' with
  |last e'=>rw[e]at e';cases e'
  |more e' r=>rw[e]at e';cases e';exact ih r
def DB(f:List Pl->T Rs)(pl:List Pl):Option (Nat×List Pl):=by
 classical exact if h: ∃ p:Nat×List Pl,gM f pl p.1 p.2 then some (Classical.choose h)else none
theorem vp{f:List Pl->T Rs}{pl:List Pl}{k:Nat}{q:List Pl}(h:gM f pl k q):DB f pl=some (k,q):=by
 unfold DB
 have hx: ∃ p:Nat×List Pl,gM f pl p.1 p.2:=⟨(k,q),h⟩
 rw[dif_pos hx]
 obtain⟨a,b⟩:=(Classical.choose_spec hx).det h
 exact congrArg some (Prod.ext a b)
theorem BC{f:List Pl->T Rs}{pl:List Pl}{k:Nat}{q:List Pl}(h:DB f pl=some (k,q)):gM f pl k q:=by
 unfold DB at h
 split at h
 ·rename_i hx
  have:=Classical.choose_spec hx
  injection h with h
  rw[h]at this
  exact this
 ·cases h
def qh(f:List Pl->T Rs)(ti to:List Ty)(x:aj ti):Bool:=match DB f (aB ti x)with
 |some (0,q)=>(toT to q).isSome
 | _=>false
def gP(f:List Pl->T Rs)(ti to:List Ty)(x:aj ti):aj to:=match DB f (aB ti x)with
 |some (_,q)=>(toT to q).getD (r8 to)
 |none=>r8 to
theorem kq{f:List Pl->T Rs}{ti to:List Ty}{x:aj ti}{y:aj to}(h:gM f (aB ti x) 0 (aB to y)):qh f ti to x=true/\gP f ti to x=y:=by
 unfold qh gP
 rw[vp h]
 simp only[pL]
 exact⟨rfl,rfl⟩
theorem Yk{f:List Pl->T Rs}{ti to:List Ty}{x:aj ti}(h:qh f ti to x=true):gM f (aB ti x) 0 (aB to (gP f ti to x)):=by
 unfold qh at h
 unfold gP
 split at h
 ·rename_i q hq
  rw[hq]
  cases hy:toT to q with
  |none=>rw[hy]at h;cases h
  |some y=>
   have:=mL hy
   subst this
   simp only[pL]
   exact BC hq
 ·cases h
def qn(l:j4)(f:List Pl->T Rs)(ti to:List Ty):fD:=pK l ti fun x=>.ck (qh f ti to x) (.ok (0,aB to (gP f ti to x)))
theorem fL{call:eL}{ao:aA}(C:oy call ao){l:j4}{L:Nat->Option fD}{m:Nat}(hL:jq Rx.w ao L l.body)(ti to:List Ty):ep Rx.w (qn l (l.step L call m) ti to) (fun n d=>gy (ao n d) n (.bl l.id (.lp l.body))):=
 iH C hL (m:=m) fun x k q h=>by
  obtain⟨h1,h2⟩:=T.aX h
  cases h2
  exact Yk h1
def rP(f:List Pl->T Rs)(ti t0 t1:List Ty)(x:aj ti):Bool:=match DB f (aB ti x)with
 |some (0,q)=>(toT t0 q).isSome
 |some (1,q)=>(toT t1 q).isSome
 | _=>false
def qQ(f:List Pl->T Rs)(ti:List Ty)(x:aj ti):Bool:=match DB f (aB ti x)with
 |some (0,_)=>true
 | _=>false
theorem sQ{f:List Pl->T Rs}{ti t0 t1:List Ty}{x:aj ti}{y:aj t0}(h:gM f (aB ti x) 0 (aB t0 y)):rP f ti t0 t1 x=true/\qQ f ti x=true/\gP f ti t0 x=y:=by
 unfold rP qQ gP
 rw[vp h]
 simp only[pL]
 exact⟨rfl,trivial,rfl⟩
theorem FY{f:List Pl->T Rs}{ti t0 t1:List Ty}{x:aj ti}{y:aj t1}(h:gM f (aB ti x) 1 (aB t1 y)):rP f ti t0 t1 x=true/\qQ f ti x=false/\gP f ti t1 x=y:=by
 unfold rP qQ gP
 rw[vp h]
 simp only[pL]
 exact⟨rfl,trivial,rfl⟩
theorem Yl{f:List Pl->T Rs}{ti t0 t1:List Ty}{x:aj ti}(h:rP f ti t0 t1 x=true):(qQ f ti x=true->gM f (aB ti x) 0 (aB t0 (gP f ti t0 x)))/\(qQ f ti x=false->gM f (aB ti x) 1 (aB t1 (gP f ti t1 x))):=by
 unfold rP at h
 unfold qQ gP
 split at h
 ·rename_i q hq
  rw[hq]
  refine⟨fun _=>?_,fun e=>by cases e⟩
  cases hy:toT t0 q with
  |none=>rw[hy]at h;cases h
  |some y=>
   have:=mL hy
   subst this
   simp only[pL]
   exact BC hq
 ·rename_i q hq
  rw[hq]
  refine⟨fun e=>(by simp at e),fun _=>?_⟩
  cases hy:toT t1 q with
  |none=>rw[hy]at h;cases h
  |some y=>
   have:=mL hy
   subst this
   simp only[pL]
   exact BC hq
 ·cases h
def vq(l:j4)(f:List Pl->T Rs)(ti t0 t1:List Ty):fD:=pK l ti fun x=>.ck (rP f ti t0 t1 x) (.br (qQ f ti x) (.ok (0,aB t0 (gP f ti t0 x))) (.ok (1,aB t1 (gP f ti t1 x))))
theorem jx{call:eL}{ao:aA}(C:oy call ao){l:j4}{L:Nat->Option fD}{m:Nat}(hL:jq Rx.w ao L l.body)(ti t0 t1:List Ty):ep Rx.w (vq l (l.step L call m) ti t0 t1) (fun n d=>gy (ao n d) n (.bl l.id (.lp l.body))):=
 iH C hL (m:=m) fun x k q h=>by
  obtain⟨h1,h2⟩:=T.aX h
  obtain⟨r0,r1⟩:=Yl h1
  rw[T.dZ]at h2
  cases hb:qQ (l.step L call m) ti x with
  |true=>rw[hb]at h2;cases h2;exact r0 hb
  |false=>rw[hb]at h2;cases h2;exact r1 hb
theorem jE{to:List Ty}{t:T (List Pl)}{y:aj to}(h:t.val=some (aB to y)):jP to t=true/\e7 to t=y:=by
 unfold jP e7
 rw[h]
 simp only[pL]
 exact⟨trivial,trivial⟩
end Go.Ab.Lf
