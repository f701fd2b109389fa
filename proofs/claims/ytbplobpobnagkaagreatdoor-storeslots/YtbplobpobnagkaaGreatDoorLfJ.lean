import Derived.Test.YtbplobpobnagkaaGreatDoorLfF
import Derived.KernelRfl
noncomputable section
namespace Go.Ab
namespace Lf
@[reducible] noncomputable def aj(l:List Ty):Type:=List.rec Unit (fun t _ ih=>den t×ih) l
def aA(l:List Ty):aj l->List Pl:=List.rec (motive:=fun l=>aj l->List Pl) (fun _=>[]) (fun t _ ih x=>⟨t,x.1⟩::ih x.2) l
def toT(l:List Ty):List Pl->Option (aj l):=List.rec (motive:=fun l=>List Pl->Option (aj l))
 (fun pl=>match pl with
  | []=>some ()
  | _::_=>none)
 (fun t _ ih pl=>match pl with
  |⟨t',x⟩::r=>(match wm t' t with
   |some ⟨e⟩=>(match ih r with
    |some y=>some (e▸x,y)
    |none=>none)
   |none=>none)
  | []=>none) l
theorem mV: ∀ {l:List Ty} {pl:List Pl} {x:aj l},toT l pl=some x->pl=aA l x
 | [],pl,x,h=>by
  cases pl with
  |nil=>rfl
  |cons _ _=>cases h
 |t::l,pl,x,h=>by
  cases pl with
  |nil=>cases h
  |cons p r=>
   obtain⟨t',y⟩:=p
   change (match wm t' t with|some ⟨e⟩=>(match toT l r with|some z=>some (e▸y,z)|none=>none)|none=>none)=some x at h
   split at h
   ·rename_i q hq
    cases q
    split at h
    ·rename_i z hz
     cases h
     rw[mV hz];rfl
    ·cases h
   ·cases h
def T.map{α β:Type}(f:α->β)(x:T α):T β:=x.bd fun a=>.ok (f a)
theorem T.H5{α β:Type}{f:α->β}{x:T α}{b:β}(h:(x.map f).val=some b): ∃ a,x.val=some a/\b=f a:=by
 obtain⟨a,h1,h2⟩:=T.dm h
 cases h2
 exact⟨a,h1,rfl⟩
def hU(P:jW)(ptr:List Nat)(Q:jW)(ti to:List Ty)(g:aj ti->T (aj to)):cR:=⟨P,ptr,Q,fun pl=>match toT ti pl with
 |some x=>(g x).map (aA to)
 |none=>.bad⟩
theorem dF{call:eJ}{aq:aB}(C:oE call aq){f:FuncId}{b:dB}(hb:mT aq f b)(qC:Nat.ble b.ntmps 512=true){L:Nat->Option fA}(hL:jl Rx.w aq L b.code){m:Nat}{P:jW}{ptr:List Nat}{Q:jW}{ti to:List Ty}{g:aj ti->T (aj to)}
 (h0:cu (fun g=> !(Nat.beq g 0)) ptr=true)(hf: ∀ x y,(g x).val=some y->(iN P ptr Q L b m call (aA ti x)).val=some (aA to y)):(hU P ptr Q ti to g).Ok f aq:=by
 refine adD C hb (Nat.le_of_ble_eq_true qC) hL (m:=m) (fun g hg e=>?_) fun pl q h=>?_
 ·rw[g5,List.all_eq_true]at h0
  have:=h0 g hg
  subst e
  cases this
 ·change (match toT ti pl with|some x=>(g x).map (aA to)|none=>.bad).val=some q at h
  split at h
  ·rename_i x hx
   obtain⟨y,h1,h2⟩:=T.H5 h
   rw[mV hx,h2]
   exact hf x y h1
  ·cases h
def pW(l:jX)(ti:List Ty)(g:aj ti->T (Nat×List Pl)):fA:=l.pc fun pl=>match toT ti pl with
 |some x=>g x
 |none=>.bad
theorem iG{call:eJ}{aq:aB}(C:oE call aq){l:jX}{L:Nat->Option fA}{m:Nat}(hL:jl Rx.w aq L l.body){ti:List Ty}{g:aj ti->T (Nat×List Pl)}(hf: ∀ x k q,(g x).val=some (k,q)->gG (l.step L call m) (aA ti x) k q):
 dZ Rx.w (pW l ti g) (fun n d=>gD (aq n d) n (.bl l.id (.lp l.body))):=by
 refine adB C hL (m:=m) fun pl k q h=>?_
 change (match toT ti pl with|some x=>g x|none=>.bad).val=some (k,q)at h
 split at h
 ·rename_i x hx;rw[mV hx];exact hf x k q h
 ·cases h
def Gn(c:qt):List (Nat×qt):=qt.rec (fun _=>[]) [] (fun _ _ a b=>app a b) (fun _ _ _ a b=>app a b) (fun id c b=>(id,c)::b) (fun _ b=>b) (fun _=>[]) [] [] c
def Nz(id:Nat)(l:List (Nat×qt)):List qt:=List.rec [] (fun p _ ih=>Bool.rec ih (p.2::ih) (Nat.beq p.1 id)) l
theorem NA{id:Nat}{l:List (Nat×qt)}{b:qt}(h:(id,b)∈l):b∈Nz id l:=by
 induction l with
 |nil=>cases h
 |cons p l ih=>
  change b∈(Bool.rec (Nz id l) (p.2::Nz id l) (Nat.beq p.1 id):List qt)
  rcases List.mem_cons.1 h with e|e
  ·rw[<-e]
   simp only[Nat.beq_refl]
   exact List.mem_cons_self
  ·cases Nat.beq p.1 id with
   |true=>exact List.mem_cons_of_mem _ (ih e)
   |false=>exact ih e
def fE(c:qt)(id:Nat):qt:=match Nz id (Gn c)with
 | [.lp b]=>b
 | _=>.bad
def pX(l:List (Nat×fA))(i:Nat):Option fA:=List.rec none (fun p _ ih=>bif Nat.beq p.1 i then some p.2 else ih) l
theorem YC{R:Rx}{aq:aB}{L:Nat->Option fA}{c:qt}(h: ∀ p,p∈Gn c-> ∀ f,L p.1=some f->dZ R f (fun n d=>gD (aq n d) n (.bl p.1 p.2))):jl R aq L c:=by
 induction c with
 |sq a b sY xD=>
  have h: ∀ p,p∈app (Gn a) (Gn b)-> ∀ f,L p.1=some f->dZ R f (fun n d=>gD (aq n d) n (.bl p.1 p.2)):=h
  rw[bp]at h
  exact⟨sY fun p hp=>h p (List.mem_append_left _ hp),xD fun p hp=>h p (List.mem_append_right _ hp)⟩
 |cif o a b sY xD=>
  have h: ∀ p,p∈app (Gn a) (Gn b)-> ∀ f,L p.1=some f->dZ R f (fun n d=>gD (aq n d) n (.bl p.1 p.2)):=h
  rw[bp]at h
  exact⟨sY fun p hp=>h p (List.mem_append_left _ hp),xD fun p hp=>h p (List.mem_append_right _ hp)⟩
 |bl id b ih=>
  refine⟨?_,ih fun p hp=>h p (List.mem_cons_of_mem _ hp)⟩
  split
  ·rename_i f hf
   exact h (id,b) List.mem_cons_self f hf
  ·trivial
 |lp b ih=>exact ih h
 | _=>trivial
inductive fq (aq:aB) (c:qt):List (Nat×fA)->Prop
 |nil:fq aq c []
 |cons {i:Nat} {f:fA} {b:qt} {l:List (Nat×fA)}:Nz i (Gn c)=[.lp b]->dZ Rx.w f (fun n d=>gD (aq n d) n (.bl i (.lp b)))->fq aq c l->fq aq c ((i,f)::l)
theorem fq.jl{aq:aB}{c:qt}{l:List (Nat×fA)}(h:fq aq c l):jl Rx.w aq (pX l) c:=by
 refine YC fun p hp f hf=>?_
 induction h with
 |nil=>cases hf
 |cons h1 h2 _ ih=>
  rename_i i g b l _
  have hf:(bif Nat.beq i p.1 then some g else pX l p.1)=some f:=hf
  cases hb:Nat.beq i p.1 with
  |true=>
   rw[hb]at hf
   cases hf
   have e:=beq_true hb
   subst e
   have:=NA hp
   rw[h1]at this
   rw[List.mem_singleton.1 this]
   exact h2
  |false=>rw[hb]at hf;exact ih hf
def YD(l:List (Nat×cR))(f:FuncId):Option cR:=List.rec none (fun p _ ih=>bif Nat.beq p.1 f then some p.2 else ih) l
inductive db (aq:aB):List (Nat×cR)->Prop
 |nil:db aq []
 |cons {i:Nat} {s:cR} {l:List (Nat×cR)}:s.Ok i aq->db aq l->db aq ((i,s)::l)
theorem db.ok{aq:aB}{l:List (Nat×cR)}(h:db aq l): ∀ f s,YD l f=some s->s.Ok f aq:=by
 induction h with
 |nil=>intro f s e;cases e
 |cons h1 _ ih=>
  rename_i i t l _
  intro f s e
  have e:(bif Nat.beq i f then some t else YD l f)=some s:=e
  cases hb:Nat.beq i f with
  |true=>rw[hb]at e;cases e;rw[<-beq_true hb];exact h1
  |false=>rw[hb]at e;exact ih f s e
end Lf
end Go.Ab

noncomputable section
namespace Go.Ab
namespace Lf
def uO{α S O:Type}(G:S->α->S ⊕ O)(e:S->O):List α->S->O
 | [],s=>e s
 |x::r,s=>match G s x with
  | .inl s'=>uO G e r s'
  | .inr o=>o
theorem fI{α S O:Type}{F:S->α->S}{e:S->O}(l:List α): ∀ (s:S),uO (fun s x=>.inl (F s x)) e l s=e (l.foldl F s):=by
 induction l with
 |nil=>intro s;rfl
 |cons x r ih=>intro s;exact ih (F s x)
def zM{S:Type}(st:S->List Pl):S ⊕ (Nat×List Pl)->Rs
 | .inl s=>.next (st s)
 | .inr o=>.out o.1 o.2
theorem JR{α S:Type}{f:List Pl->T Rs}{l:List α}(st:S->Nat->List Pl)(G:S->α->S ⊕ (Nat×List Pl))(e:S->Nat×List Pl)(inv:S->List α->Prop)
 (uP: ∀ s j x r,l.drop j=x::r->inv s (x::r)->(f (st s j)).val=some (zM (fun s=>st s (j+1)) (G s x))/\ ∀ s',G s x=.inl s'->inv s' r)
 (BS: ∀ s j,l.drop j=[]->j<=l.length->inv s []->(f (st s j)).val=some (.out (e s).1 (e s).2)): ∀ (r:List α) (j:Nat) (s:S),l.drop j=r->j<=l.length->inv s r->gG f (st s j) (uO G e r s).1 (uO G e r s).2
 | [],j,s,h,hj,hi=>.last (BS s j h hj hi)
 |x::r,j,s,h,hj,hi=>by
  obtain⟨h1,h2⟩:=uP s j x r h hi
  have gB:j<l.length:=by
   rcases Nat.lt_or_ge j l.length with k|k
   ·exact k
   ·rw[List.drop_eq_nil_of_le k]at h;cases h
  cases hg:G s x with
  |inl s'=>
   rw[hg]at h1
   have hr:l.drop (j+1)=r:=by rw[<-List.tail_drop,h];rfl
   have:=JR st G e inv uP BS r (j+1) s' hr gB (h2 s' hg)
   have e2:uO G e (x::r) s=uO G e r s':=by simp only[uO,hg]
   rw[e2]
   exact .more h1 this
  |inr o=>
   rw[hg]at h1
   have e2:uO G e (x::r) s=o:=by simp only[uO,hg]
   rw[e2]
   exact .last h1
def gq{α S O:Type}(G:S->α->List α->S ⊕ O)(e:S->O):List α->S->O
 | [],s=>e s
 |x::r,s=>match G s x r with
  | .inl s'=>gq G e r s'
  | .inr o=>o
def KH{S O:Type}(st:S->List Pl)(om:O->Nat×List Pl):S ⊕ O->Rs
 | .inl s=>.next (st s)
 | .inr o=>.out (om o).1 (om o).2
theorem SU{α S O:Type}{f:List Pl->T Rs}{l:List α}(st:S->Nat->List Pl)(G:S->α->List α->S ⊕ O)(e:S->O)(om:O->Nat×List Pl)(inv:S->List α->Prop)
 (uP: ∀ s j x r,l.drop j=x::r->inv s (x::r)->(f (st s j)).val=some (KH (fun s=>st s (j+1)) om (G s x r))/\ ∀ s',G s x r=.inl s'->inv s' r)
 (BS: ∀ s j,l.drop j=[]->j<=l.length->inv s []->(f (st s j)).val=some (.out (om (e s)).1 (om (e s)).2)): ∀ (r:List α) (j:Nat) (s:S),l.drop j=r->j<=l.length->inv s r->gG f (st s j) (om (gq G e r s)).1 (om (gq G e r s)).2
 | [],j,s,h,hj,hi=>.last (BS s j h hj hi)
 |x::r,j,s,h,hj,hi=>by
  obtain⟨h1,h2⟩:=uP s j x r h hi
  have gB:j<l.length:=by
   rcases Nat.lt_or_ge j l.length with k|k
   ·exact k
   ·rw[List.drop_eq_nil_of_le k]at h;cases h
  cases hg:G s x r with
  |inl s'=>
   rw[hg]at h1
   have hr:l.drop (j+1)=r:=by rw[<-List.tail_drop,h];rfl
   have:=SU st G e om inv uP BS r (j+1) s' hr gB (h2 s' hg)
   have e2:gq G e (x::r) s=gq G e r s':=by simp only[gq,hg]
   rw[e2]
   exact .more h1 this
  |inr o=>
   rw[hg]at h1
   have e2:gq G e (x::r) s=o:=by simp only[gq,hg]
   rw[e2]
   exact .last h1
theorem dr{α:Type}{l:List α}{j:Nat}{x:α}{r:List α}(h:l.drop j=x::r)(d:α):j<l.length/\l.getD j d=x:=by
 have gB:j<l.length:=by
  rcases Nat.lt_or_ge j l.length with k|k
  ·exact k
  ·rw[List.drop_eq_nil_of_le k]at h;cases h
 refine⟨gB,?_⟩
 rw[List.drop_eq_getElem_cons gB]at h
 injection h with h _
 simp[List.getD_eq_getElem?_getD,List.getElem?_eq_getElem gB,h]
theorem wrap_i64{n:Int}(h1: -9223372036854775808<=n)(h2:n<9223372036854775808):eZ .i64 n=n:=by
 show Int.sub (Int.emod (Int.add n 9223372036854775808) 18446744073709551616) 9223372036854775808=n
 have e:Int.emod (Int.add n 9223372036854775808) 18446744073709551616=n+9223372036854775808:=Int.emod_eq_of_lt (by show 0<=n+_;omega) (by show n+_<_;omega)
 rw[e]
 show n+9223372036854775808 - 9223372036854775808=n
 omega
theorem BU{n:Nat}(h:0<n)(h2:n<4611686018427387904):bQ .i64 (n:Int) 1=((n - 1:Nat):Int):=by
 unfold bQ
 rw[wrap_i64 (by omega) (by omega)]
 omega
theorem wrap_u64{n:Int}(h1:0<=n)(h2:n<18446744073709551616):eZ .u64 n=n:=Int.emod_eq_of_lt h1 h2
theorem kE{j:Nat}(h:j<4611686018427387904):bw .i64 (j:Int) 1=((j+1:Nat):Int):=by
 unfold bw
 rw[wrap_i64 (by omega) (by omega)]
 omega
theorem nA(n:Int):0<=bq .u64 n/\bq .u64 n<18446744073709551616:=⟨Int.emod_nonneg n (by decide),Int.emod_lt_of_pos n (by decide)⟩
theorem H6(n:Int): -9223372036854775808<=bq .i64 n/\bq .i64 n<9223372036854775808:=by
 have h1:0<=(n+9223372036854775808) % 18446744073709551616:=Int.emod_nonneg _ (by decide)
 have h2:(n+9223372036854775808) % 18446744073709551616<18446744073709551616:=Int.emod_lt_of_pos _ (by decide)
 have e:bq .i64 n=(n+9223372036854775808) % 18446744073709551616 - 9223372036854775808:=rfl
 omega
theorem bX{j n:Nat}(h:j<n):aU (j:Int) (Int.ofNat n)=true:=by
 rw[iE];exact⟨by omega,by have:Int.ofNat n=(n:Int):=rfl;omega⟩
theorem dX{j n:Nat}(h:j<n):decide ((j:Int)<(n:Int))=true:=decide_eq_true (by omega)
theorem dn{j n:Nat}(h:n<=j):decide ((j:Int)<(n:Int))=false:=decide_eq_false (by omega)
end Lf
end Go.Ab
namespace Go.Ab.Lf
def sK(l:List Ty):aj l:=List.rec (motive:=aj) () (fun t _ ih=>(ao t,ih)) l
def jr(to:List Ty)(x:T (List Pl)):Bool:=match x.val with
 |some q=>(match toT to q with
  |some _=>true
  |none=>false)
 |none=>false
def eA(to:List Ty)(x:T (List Pl)):aj to:=match x.val with
 |some q=>(match toT to q with
  |some y=>y
  |none=>sK to)
 |none=>sK to
theorem rj{to:List Ty}{x:T (List Pl)}(h:jr to x=true):x.val=some (aA to (eA to x)):=by
 unfold jr at h
 unfold eA
 split at h
 ·rename_i q hq
  rw[hq]
  split at h
  ·rename_i y hy
   rw[mV hy]
  ·cases h
 ·cases h
theorem eg{call:eJ}{aq:aB}(C:oE call aq){f:FuncId}{b:dB}(hb:mT aq f b)(qC:Nat.ble b.ntmps 512=true){L:Nat->Option fA}(hL:jl Rx.w aq L b.code){m:Nat}{P:jW}{ptr:List Nat}{Q:jW}{ti to:List Ty}{ok:aj ti->Bool}{out:aj ti->aj to}
 (h0:cu (fun g=> !(Nat.beq g 0)) ptr=true)(h1: ∀ x,ok x=jr to (iN P ptr Q L b m call (aA ti x)))(h2: ∀ x,out x=eA to (iN P ptr Q L b m call (aA ti x))):(hU P ptr Q ti to fun x=>.ck (ok x) (.ok (out x))).Ok f aq:=by
 refine dF C hb qC hL (m:=m) h0 fun x y h=>?_
 obtain⟨a,b⟩:=T.ba h
 cases b
 rw[h2]
 exact rj (by rw[<-h1];exact a)
end Go.Ab.Lf

noncomputable section
namespace Go.Ab.Lf
theorem pY: ∀ {l:List Ty} (x:aj l),toT l (aA l x)=some x
 | [],_=>rfl
 |t::l,x=>by
  have ih:=pY (l:=l) x.2
  have key: ∀ (o:Option (PLift (t=t))) (p:Option (aj l)),o=some ⟨rfl⟩->p=some x.2->(match o with|some ⟨e⟩=>(match p with|some y=>some ((Eq.rec (motive:=fun s _=>den s) x.1 e:den t),y)|none=>none)|none=>none:Option (aj (t::l)))=some x:=by
   intro o p ho hp
   subst ho;subst hp
   rfl
  have e:toT (t::l) (aA (t::l) x)=(match wm t t with|some ⟨e⟩=>(match toT l (aA l x.2)with|some y=>some ((Eq.rec (motive:=fun s _=>den s) x.1 e:den t),y)|none=>none)|none=>none:Option (aj (t::l))):=by kernel_rfl
  rw[e]
  exact key _ _ (mU t) ih
theorem gG.det{f:List Pl->T Rs}{pl:List Pl}{k:Nat}{q:List Pl}(h:gG f pl k q): ∀ {k':Nat} {q':List Pl},gG f pl k' q'->k=k'/\q=q':=by
 induction h with
 |last e=>
  intro k' q' h'
  cases h' with
  |last e'=>rw[e]at e';cases e';exact⟨rfl,rfl⟩
  |more e' _=>rw[e]at e';cases e'
 |more e _ ih=>
  intro k' q' h'
  cases h' with
  |last e'=>rw[e]at e';cases e'
  |more e' r=>rw[e]at e';cases e';exact ih r
def DO(f:List Pl->T Rs)(pl:List Pl):Option (Nat×List Pl):=by
 classical exact if h: ∃ p:Nat×List Pl,gG f pl p.1 p.2 then some (Classical.choose h)else none
theorem vS{f:List Pl->T Rs}{pl:List Pl}{k:Nat}{q:List Pl}(h:gG f pl k q):DO f pl=some (k,q):=by
 unfold DO
 have hx: ∃ p:Nat×List Pl,gG f pl p.1 p.2:=⟨(k,q),h⟩
 rw[dif_pos hx]
 obtain⟨a,b⟩:=(Classical.choose_spec hx).det h
 exact congrArg some (Prod.ext a b)
theorem BV{f:List Pl->T Rs}{pl:List Pl}{k:Nat}{q:List Pl}(h:DO f pl=some (k,q)):gG f pl k q:=by
 unfold DO at h
 split at h
 ·rename_i hx
  have:=Classical.choose_spec hx
  injection h with h
  rw[h]at this
  exact this
 ·cases h
def rk(f:List Pl->T Rs)(ti to:List Ty)(x:aj ti):Bool:=match DO f (aA ti x)with
 |some (0,q)=>(toT to q).isSome
 | _=>false
def gM(f:List Pl->T Rs)(ti to:List Ty)(x:aj ti):aj to:=match DO f (aA ti x)with
 |some (_,q)=>(toT to q).getD (sK to)
 |none=>sK to
theorem lM{f:List Pl->T Rs}{ti to:List Ty}{x:aj ti}{y:aj to}(h:gG f (aA ti x) 0 (aA to y)):rk f ti to x=true/\gM f ti to x=y:=by
 unfold rk gM
 rw[vS h]
 simp only[pY]
 exact⟨rfl,rfl⟩
theorem YE{f:List Pl->T Rs}{ti to:List Ty}{x:aj ti}(h:rk f ti to x=true):gG f (aA ti x) 0 (aA to (gM f ti to x)):=by
 unfold rk at h
 unfold gM
 split at h
 ·rename_i q hq
  rw[hq]
  cases hy:toT to q with
  |none=>rw[hy]at h;cases h
  |some y=>
   have:=mV hy
   subst this
   simp only[pY]
   exact BV hq
 ·cases h
def rm(l:jX)(f:List Pl->T Rs)(ti to:List Ty):fA:=pW l ti fun x=>.ck (rk f ti to x) (.ok (0,aA to (gM f ti to x)))
theorem gb{call:eJ}{aq:aB}(C:oE call aq){l:jX}{L:Nat->Option fA}{m:Nat}(hL:jl Rx.w aq L l.body)(ti to:List Ty):dZ Rx.w (rm l (l.step L call m) ti to) (fun n d=>gD (aq n d) n (.bl l.id (.lp l.body))):=
 iG C hL (m:=m) fun x k q h=>by
  obtain⟨h1,h2⟩:=T.ba h
  cases h2
  exact YE h1
def r5(f:List Pl->T Rs)(ti t0 t1:List Ty)(x:aj ti):Bool:=match DO f (aA ti x)with
 |some (0,q)=>(toT t0 q).isSome
 |some (1,q)=>(toT t1 q).isSome
 | _=>false
def qK(f:List Pl->T Rs)(ti:List Ty)(x:aj ti):Bool:=match DO f (aA ti x)with
 |some (0,_)=>true
 | _=>false
theorem rq{f:List Pl->T Rs}{ti t0 t1:List Ty}{x:aj ti}{y:aj t0}(h:gG f (aA ti x) 0 (aA t0 y)):r5 f ti t0 t1 x=true/\qK f ti x=true/\gM f ti t0 x=y:=by
 unfold r5 qK gM
 rw[vS h]
 simp only[pY]
 exact⟨rfl,trivial,rfl⟩
theorem NB{f:List Pl->T Rs}{ti t0 t1:List Ty}{x:aj ti}{y:aj t1}(h:gG f (aA ti x) 1 (aA t1 y)):r5 f ti t0 t1 x=true/\qK f ti x=false/\gM f ti t1 x=y:=by
 unfold r5 qK gM
 rw[vS h]
 simp only[pY]
 exact⟨rfl,trivial,rfl⟩
theorem YF{f:List Pl->T Rs}{ti t0 t1:List Ty}{x:aj ti}(h:r5 f ti t0 t1 x=true):(qK f ti x=true->gG f (aA ti x) 0 (aA t0 (gM f ti t0 x)))/\(qK f ti x=false->gG f (aA ti x) 1 (aA t1 (gM f ti t1 x))):=by
 unfold r5 at h
 unfold qK gM
 split at h
 ·rename_i q hq
  rw[hq]
  refine⟨fun _=>?_,fun e=>by cases e⟩
  cases hy:toT t0 q with
  |none=>rw[hy]at h;cases h
  |some y=>
   have:=mV hy
   subst this
   simp only[pY]
   exact BV hq
 ·rename_i q hq
  rw[hq]
  refine⟨fun e=>(by simp at e),fun _=>?_⟩
  cases hy:toT t1 q with
  |none=>rw[hy]at h;cases h
  |some y=>
   have:=mV hy
   subst this
   simp only[pY]
   exact BV hq
 ·cases h
def tA(l:jX)(f:List Pl->T Rs)(ti t0 t1:List Ty):fA:=pW l ti fun x=>.ck (r5 f ti t0 t1 x) (.br (qK f ti x) (.ok (0,aA t0 (gM f ti t0 x))) (.ok (1,aA t1 (gM f ti t1 x))))
theorem hY{call:eJ}{aq:aB}(C:oE call aq){l:jX}{L:Nat->Option fA}{m:Nat}(hL:jl Rx.w aq L l.body)(ti t0 t1:List Ty):dZ Rx.w (tA l (l.step L call m) ti t0 t1) (fun n d=>gD (aq n d) n (.bl l.id (.lp l.body))):=
 iG C hL (m:=m) fun x k q h=>by
  obtain⟨h1,h2⟩:=T.ba h
  obtain⟨r0,r1⟩:=YF h1
  rw[T.dW]at h2
  cases hb:qK (l.step L call m) ti x with
  |true=>rw[hb]at h2;cases h2;exact r0 hb
  |false=>rw[hb]at h2;cases h2;exact r1 hb
theorem jJ{to:List Ty}{t:T (List Pl)}{y:aj to}(h:t.val=some (aA to y)):jr to t=true/\eA to t=y:=by
 unfold jr eA
 rw[h]
 simp only[pY]
 exact⟨trivial,trivial⟩
end Go.Ab.Lf
