import Derived.Test.YtooeifemoidnoaaDoorVdT4
noncomputable section
namespace Go.Proofs.Vd
open Go.Ab Go.Ab.Lf
set_option maxRecDepth 100000
abbrev KL(l:List Int):Prop:= ∀ t,t∈l->kOk t=true
theorem KL.of{l:List Int}(h:List.all l kOk=true):KL l:=fun t ht=>List.all_eq_true.1 h t ht
theorem KL.take{l:List Int}(h:KL l)(n:Nat):KL (l.take n):=fun t ht=>h t (List.mem_of_mem_take ht)
theorem KL.app{l m:List Int}(h:KL l)(k:KL m):KL (l++m):=fun t ht=>(List.mem_append.1 ht).elim (h t) (k t)
theorem KL.nil:KL []:=fun _ h=>by cases h
theorem kOk_ne{t:Int}(h:kOk t=true):t≠0:=by
 intro e
 subst e
 have:kOk 0=false:=rfl
 rw[this]at h
 cases h
theorem KL.getD{l:List Int}(h:KL l){n:Nat}(hn:n<l.length):kOk (l.getD n (dflt i64))=true:=by
 rw[List.getD_eq_getElem?_getD,List.getElem?_eq_getElem hn]
 exact h _ (List.getElem_mem hn)
def cnt(l:List Int):Nat:=l.countP (fun t=>decide (t=123))
theorem foldl_vc1: ∀ (l:List Int) (n:Nat),n+l.length<=4398046511104->l.foldl vc1 (n:Int)=((n+cnt l:Nat):Int)
 | [],n,_=>rfl
 |t::l,n,h=>by
  have h:n+(l.length+1)<=4398046511104:=h
  show l.foldl vc1 (vc1 (n:Int) t)=_
  by_cases e:t=123
  ·have e1:vc1 (n:Int) t=((n+1:Nat):Int):=by unfold vc1;rw[decide_eq_true e,cond_true,add1 (by omega)]
   rw[e1,foldl_vc1 l (n+1) (by omega)]
   have:cnt (t::l)=cnt l+1:=by unfold cnt;rw[List.countP_cons,decide_eq_true e];rfl
   rw[this]
   congr 1
   omega
  ·have e1:vc1 (n:Int) t=(n:Int):=by unfold vc1;rw[decide_eq_false e,cond_false]
   rw[e1,foldl_vc1 l n (by omega)]
   have:cnt (t::l)=cnt l:=by unfold cnt;rw[List.countP_cons,decide_eq_false e];rfl
   rw[this]
theorem vcs_cnt{l:List Int}(h:l.length<=4398046511104):vcs l=(cnt l:Int):=by
 have:=foldl_vc1 l 0 (by omega)
 rw[Nat.zero_add]at this
 exact this
theorem cnt_app(l m:List Int):cnt (l++m)=cnt l+cnt m:=List.countP_append
theorem cnt_le(l:List Int):cnt l<=l.length:=List.countP_le_length
abbrev hh(w:W3):Nat:=(mTop w.2.1).2.1.toNat
structure Pf(w v:W3):Prop where
 bl:v.2.1=w.2.1
 le:hh w<=v.1.length
 tk:v.1.take (hh w)=w.1.take (hh w)
 bd:w.2.2=true->v.2.2=true
 ks:KL w.1->KL v.1
structure Hh(w:W3):Prop where
 a:(0:Int)<=(mTop w.2.1).2.1
 b:hh w<=w.1.length
theorem Inv.hh{k m:Nat}{w:W3}(h:Inv k m w):Hh w:=⟨(h.ht _ h.mem).1,Int.toNat_le.2 (h.ht _ h.mem).2⟩
theorem Pf.hh{w v:W3}(p:Pf w v)(h:Hh w):Hh v:=by
 have e:mTop v.2.1=mTop w.2.1:=by rw[p.bl]
 exact⟨by rw[e];exact h.a,by unfold Vd.hh;rw[e];exact p.le⟩
theorem Pf.refl{w:W3}(h:Hh w):Pf w w:=⟨rfl,h.b,rfl,id,id⟩
theorem Pf.trans{u v w:W3}(p:Pf u v)(q:Pf v w):Pf u w:=by
 have e:Vd.hh v=Vd.hh u:=by unfold Vd.hh;rw[p.bl]
 exact⟨q.bl.trans p.bl,by rw[<-e];exact q.le,by rw[<-e];rw[q.tk,e,p.tk],fun h=>q.bd (p.bd h),fun h=>q.ks (p.ks h)⟩
theorem Pf.take{w:W3}(h:Hh w)(t:Int):Pf w (pTake w t):=by
 obtain⟨h1,h2⟩:=h
 unfold pTake mTake
 cases hd:decide ((w.1.length:Int)=(mTop w.2.1).2.1)with
 |true=>exact⟨rfl,h2,rfl,fun e=>by show(w.2.2||_)=true;rw[e];rfl,id⟩
 |false=>
  have hne: ¬ (w.1.length:Int)=(mTop w.2.1).2.1:=of_decide_eq_false hd
  have hlt:Vd.hh w<w.1.length:=by unfold Vd.hh at h2 ⊢;omega
  refine⟨rfl,?_,?_,fun e=>by show(w.2.2||_)=true;rw[e];rfl,fun k=>k.take _⟩
  ·show _<=(w.1.take (w.1.length - 1)).length
   rw[List.length_take]
   omega
  ·show(w.1.take (w.1.length - 1)).take (Vd.hh w)=_
   rw[List.take_take]
   congr 1
   omega
theorem Pf.tksN(L:List Int)(bl:List (den tBlk)): ∀ (n:Nat) (s:List Int) (b:Bool),Hh (s,bl,b)->Pf (s,bl,b) ((mTks L bl n s b).1,bl,(mTks L bl n s b).2)
 |0,_,_,h=>.refl h
 |n+1,s,b,h=>by
  have p:=Pf.take h (L.getD n (dflt i64))
  exact p.trans (Pf.tksN L bl n _ _ (p.hh h))
theorem Pf.tks{w:W3}(h:Hh w)(L:List Int):Pf w (pTks w L):=Pf.tksN L w.2.1 L.length w.1 w.2.2 h
theorem Pf.mst{w:W3}(h:Hh w)(c:Bool):Pf w (pMst w c):=⟨rfl,h.b,rfl,fun e=>by show(w.2.2||_)=true;rw[e];rfl,id⟩
theorem Pf.lab{w:W3}(h:Hh w)(l:Int):Pf w (pLab w l):=⟨rfl,h.b,rfl,fun e=>by show(bif _ then true else w.2.2)=true;rw[e];cases decide ((w.2.1.length:Int)<=l)<;>rfl,id⟩
structure Pg(w v:W3):Prop where
 bl:v.2.1=w.2.1
 le:hh w<=v.1.length
 tk:v.1.take (hh w)=w.1.take (hh w)
 bd:w.2.2=true->v.2.2=true
theorem Pf.g{w v:W3}(p:Pf w v):Pg w v:=⟨p.bl,p.le,p.tk,p.bd⟩
theorem Pg.hh{w v:W3}(p:Pg w v)(h:Hh w):Hh v:=by
 have e:mTop v.2.1=mTop w.2.1:=by rw[p.bl]
 exact⟨by rw[e];exact h.a,by unfold Vd.hh;rw[e];exact p.le⟩
theorem Pg.trans{u v w:W3}(p:Pg u v)(q:Pg v w):Pg u w:=by
 have e:Vd.hh v=Vd.hh u:=by unfold Vd.hh;rw[p.bl]
 exact⟨q.bl.trans p.bl,by rw[<-e];exact q.le,by rw[<-e];rw[q.tk,e,p.tk],fun h=>q.bd (p.bd h)⟩
theorem Pg.giv{w:W3}(h:Hh w)(L:List Int):Pg w (pGiv w L):=by
 refine⟨rfl,?_,?_,id⟩
 ·show _<=(w.1++L).length
  rw[List.length_append]
  have:=h.b
  omega
 ·show(w.1++L).take (Vd.hh w)=_
  rw[List.take_append_of_le_length h.b]
theorem pg_agN(L:List Int)(bl:List (den tBlk)): ∀ (n:Nat) (s was:List Int) (b:Bool),Hh (s,bl,b)->Pg (s,bl,b) ((pAgF L bl n s was b).1,bl,(pAgF L bl n s was b).2.2)
 |0,_,_,_,h=>(Pf.refl h).g
 |n+1,s,was,b,h=>by
  have p:=(Pf.take h (L.getD n (dflt i64))).g
  exact p.trans (pg_agN L bl n _ _ _ (p.hh h))
theorem Pg.again{w:W3}(h:Hh w)(L:List Int):Pg w (pAgain w L):=by
 have p:=pg_agN L w.2.1 L.length w.1 [] w.2.2 h
 exact p.trans (Pg.giv (p.hh h) _)
theorem Pg.tab{w:W3}(h:Hh w)(i:den tI):Pg w (pTab w i):=by
 have key: ∀ (T:List Int) (L:List Int) (v:W3),Hh v->Pg v (L.foldl (pJ T) v):=by
  intro T L
  induction L with
  |nil=>intro v h;exact(Pf.refl h).g
  |cons x L ih=>
   intro v h
   have p1:=(Pf.lab h x).g
   have p2:=p1.trans (Pf.mst (p1.hh h) (decide (((mLab v.2.1 x).length:Int)=(T.length:Int)))).g
   have p3:Pg v (pJ T v x):=p2.trans (Pg.again (p2.hh h) (mLab v.2.1 x))
   exact p3.trans (ih _ (p3.hh h))
 have p1:=(Pf.take h 127).g
 have p2:=p1.trans (Pf.lab (p1.hh h) i.2.1).g
 exact p2.trans (key _ _ _ (p2.hh h))
structure LI(O:List Int)(w:W3):Prop where
 io: ∀ b:den tBlk,b∈w.2.1->KL b.2.2.1/\KL b.2.2.2.1
 lv: ∀ b:den tBlk,b∈w.2.1->b.2.2.2.2.2=true->KL (w.1.take b.2.1.toNat)
 st:pLive w=true->KL w.1
 ch: ∀ (r:List (den tBlk)) (p b:den tBlk) (s:List (den tBlk)),w.2.1=r++p::b::s->b.2.2.2.2.2=(p.2.2.2.2.2&& !p.2.2.2.2.1)
 b0: ∀ (b:den tBlk) (s:List (den tBlk)),w.2.1=b::s->(b.2.1:Int)=0/\b.2.2.2.1=O/\b.2.2.2.2.2=true
section
variable {O:List Int}{w v:W3}{k m:Nat}
theorem LI.pg(h:LI O w)(hi:Inv k m w)(p:Pg w v)(ks:pLive w=true->KL v.1):LI O v:=by
 have eb:=p.bl
 refine⟨fun b hb=>h.io b (by rw[<-eb];exact hb),fun b hb hl=>?_,fun hl=>ks ?_,fun r p b s e=>h.ch r p b s (by rw[<-eb];exact e),fun b s e=>h.b0 b s (by rw[<-eb];exact e)⟩
 ·rw[eb]at hb
  have ht:=hi.top b hb
  have hle:(b.2.1:Int).toNat<=Vd.hh w:=Int.toNat_le_toNat ht
  have e: ∀ l:List Int,l.take (b.2.1:Int).toNat=(l.take (Vd.hh w)).take (b.2.1:Int).toNat:=fun l=>by
   rw[List.take_take,Nat.min_eq_left hle]
  rw[e,p.tk,<-e]
  exact h.lv b hb hl
 ·unfold pLive at hl ⊢
  rw[eb]at hl
  exact hl
theorem LI.pf(h:LI O w)(hi:Inv k m w)(p:Pf w v):LI O v:=h.pg hi p.g fun hl=>p.ks (h.st hl)
theorem die_eq{s:List Int}{r:List (den tBlk)}{B:den tBlk}{b:Bool}:pDie (s,r++[B],b)=(s.take B.2.1.toNat,r++[mDead B],b):=by
 show(s.take (mTop (r++[B])).2.1.toNat,(r++[B]).set ((r++[B]).length - 1) (mDead (mTop (r++[B]))),b)=_
 rw[mTop_snoc,set_snoc]
theorem last_cases{r r1 s:List (den tBlk)}{B p b:den tBlk}(e:r++[B]=r1++p::b::s):(s=[]/\b=B/\r=r1++[p])∨ ∃ s',s=s'++[B]/\r=r1++p::b::s':=by
 cases s with
 |nil=>
  have e:r++[B]=(r1++[p])++[b]:=by rw[e];simp
  obtain⟨e1,e2⟩:=List.append_inj' e rfl
  exact .inl ⟨rfl,by simpa using e2.symm,e1⟩
 |cons c s=>
  obtain⟨s',B',e2⟩:=snoc_of (l:=c::s) (by simp)
  rw[e2]at e ⊢
  have e:r++[B]=(r1++p::b::s')++[B']:=by rw[e];simp
  obtain⟨e1,e3⟩:=List.append_inj' e rfl
  have e3:B=B':=by simpa using e3
  subst e3
  exact .inr ⟨s',rfl,e1⟩
theorem LI.die(h:LI O w)(hi:Inv k m w):LI O (pDie w):=by
 obtain⟨s,bl,bad⟩:=w
 obtain⟨r,B,e⟩:=snoc_of hi.ne
 have e:bl=r++[B]:=e
 subst e
 rw[die_eq]
 have ht: ∀ b:den tBlk,b∈r++[B]->(b.2.1:Int).toNat<=B.2.1.toNat:=fun b hb=>by
  have:=hi.top b hb
  rw[show(s,r++[B],bad).2.1=r++[B]from rfl,mTop_snoc]at this
  exact Int.toNat_le_toNat this
 refine⟨fun b hb=>?_,fun b hb hl=>?_,fun hl=>?_,fun r1 p b s' e=>?_,fun b s' e=>?_⟩
 ·rcases List.mem_append.1 hb with hb|hb
  ·exact h.io b (List.mem_append_left _ hb)
  ·have:b=mDead B:=by simpa using hb
   rw[this]
   exact h.io B (by simp)
 ·show KL ((s.take B.2.1.toNat).take b.2.1.toNat)
  rw[List.take_take]
  rcases List.mem_append.1 hb with hb|hb
  ·rw[Nat.min_eq_left (ht b (List.mem_append_left _ hb))]
   exact h.lv b (List.mem_append_left _ hb) hl
  ·have:b=mDead B:=by simpa using hb
   subst this
   have e:min (mDead B).2.1.toNat B.2.1.toNat=B.2.1.toNat:=Nat.min_self _
   rw[e]
   exact h.lv B (by simp) hl
 ·unfold pLive at hl
  rw[show(List.take B.2.1.toNat s,r++[mDead B],bad).2.1=r++[mDead B]from rfl,mTop_snoc]at hl
  have:(bif B.2.2.2.2.2 then !true else false)=true:=hl
  cases hB:B.2.2.2.2.2 with
  |true=>rw[hB]at this;cases this
  |false=>rw[hB]at this;cases this
 ·rcases last_cases e with⟨e1,e2,e3⟩|⟨s2,e1,e2⟩
  ·subst e2
   exact h.ch r1 p B [] (by show r++[B]=_;rw[e3];simp)
  ·exact h.ch r1 p b (s2++[B]) (by show r++[B]=_;rw[e2];simp)
 ·cases r with
  |nil=>
   have e:[mDead B]=b::s':=e
   injection e with e1 _
   subst e1
   exact h.b0 B [] rfl
  |cons c r=>
   have e:c::(r++[mDead B])=b::s':=e
   injection e with e1 _
   subst e1
   exact h.b0 c (r++[B]) rfl
theorem mLive_snoc(r:List (den tBlk))(p:den tBlk):mLive (r++[p])=(p.2.2.2.2.2&& !p.2.2.2.2.1):=by
 unfold mLive
 rw[decide_eq_true (by simp),cond_true,mTop_snoc]
 cases p.2.2.2.2.2<;>rfl
theorem LI.live_top{s:List Int}{r:List (den tBlk)}{B:den tBlk}{b:Bool}(h:LI O (s,r++[B],b)):mLive r=B.2.2.2.2.2:=by
 by_cases hr:r=[]
 ·subst hr
  exact(h.b0 B [] rfl).2.2.symm
 ·obtain⟨r',p,e⟩:=snoc_of hr
  subst e
  rw[mLive_snoc]
  exact(h.ch r' p B [] (by simp)).symm
theorem LI.opn{s:List Int}{bl:List (den tBlk)}{b:Bool}(hio: ∀ c:den tBlk,c∈bl->KL c.2.2.1/\KL c.2.2.2.1)(hlv: ∀ c:den tBlk,c∈bl->c.2.2.2.2.2=true->KL (s.take c.2.1.toNat))(hst:mLive bl=true->KL s)
 (hch: ∀ (r:List (den tBlk)) (p c:den tBlk) (t:List (den tBlk)),bl=r++p::c::t->c.2.2.2.2.2=(p.2.2.2.2.2&& !p.2.2.2.2.1))(hb0: ∀ (c:den tBlk) (t:List (den tBlk)),bl=c::t->(c.2.1:Int)=0/\c.2.2.2.1=O/\c.2.2.2.2.2=true)
 (op:Int){i o:List Int}(hI:KL i)(hO:KL o)(hz:bl=[]->(s.length:Int)=0/\o=O):LI O (s,mOpen s bl op i o,b):=by
 unfold mOpen
 refine⟨fun c hc=>?_,fun c hc hl=>?_,fun hl=>?_,fun r1 p c t e=>?_,fun c t e=>?_⟩
 ·rcases List.mem_append.1 hc with hc|hc
  ·exact hio c hc
  ·have:c=(op,(s.length:Int),i,o,false,mLive bl):=by simpa using hc
   rw[this]
   exact⟨hI,hO⟩
 ·rcases List.mem_append.1 hc with hc|hc
  ·exact hlv c hc hl
  ·have:c=(op,(s.length:Int),i,o,false,mLive bl):=by simpa using hc
   rw[this]at hl ⊢
   exact(hst hl).take _
 ·unfold pLive at hl
  rw[show(s,bl++[(op,(s.length:Int),i,o,false,mLive bl)],b).2.1=bl++[(op,(s.length:Int),i,o,false,mLive bl)]from rfl,mTop_snoc]at hl
  have hl:(bif mLive bl then !false else false)=true:=hl
  cases hm:mLive bl with
  |true=>exact hst hm
  |false=>rw[hm]at hl;cases hl
 ·have e:bl++[(op,(s.length:Int),i,o,false,mLive bl)]=r1++p::c::t:=e
  rcases last_cases e with⟨e1,e2,e3⟩|⟨s2,e1,e2⟩
  ·subst e2
   show mLive bl=_
   rw[e3,mLive_snoc]
  ·exact hch r1 p c s2 e2
 ·cases bl with
  |nil=>
   have e:[(op,(s.length:Int),i,o,false,mLive [])]=c::t:=e
   injection e with e1 _
   subst e1
   obtain⟨z1,z2⟩:=hz rfl
   exact⟨z1,z2,rfl⟩
  |cons d bl=>
   have e:d::(bl++[(op,(s.length:Int),i,o,false,mLive (d::bl))])=c::t:=e
   injection e with e1 _
   subst e1
   exact hb0 d bl rfl
end
end Go.Proofs.Vd

noncomputable section
namespace Go.Proofs.Vd
open Go.Ab Go.Ab.Lf
set_option maxRecDepth 100000
structure TK(y:denT tM)(lo:List Int):Prop where
 ty: ∀ s:den tSig,s∈y.1->KL s.1/\KL s.2
 lo:KL lo
 gl: ∀ g:den tGlo,g∈y.2.2.2.2.2.1->kOk g.1=true
theorem getD_or{α:Type}(l:List α)(n:Nat)(d:α):l.getD n d∈l∨l.getD n d=d:=by
 rw[List.getD_eq_getElem?_getD]
 by_cases h:n<l.length
 ·rw[List.getElem?_eq_getElem h]
  exact .inl (List.getElem_mem h)
 ·rw[List.getElem?_eq_none (by omega)]
  exact .inr rfl
theorem kind_K{y:denT tM}{lo:List Int}(T:TK y lo)(k:Int):KL (mKindS y.1 k).1/\KL (mKindS y.1 k).2:=by
 unfold mKindS
 cases hk:mKindO y.1 k with
 |false=>exact⟨KL.nil,KL.nil⟩
 |true=>
  rw[cond_true]
  rcases getD_or y.1 k.toNat (dflt tSig)with e|e
  ·exact T.ty _ e
  ·rw[e];exact⟨KL.nil,KL.nil⟩
theorem KL.one{t:Int}(h:kOk t=true):KL [t]:=fun u hu=>by
 have:u=t:=by simpa using hu
 rw[this];exact h
theorem kB1:kOk (addW .i64 (-1) 128)=true:=by kernel_rfl
theorem kB2:kOk (addW .i64 (-2) 128)=true:=by kernel_rfl
theorem kB5:kOk (addW .i64 (-5) 128)=true:=by kernel_rfl
theorem sgs_K{y:denT tM}{lo:List Int}(T:TK y lo){a:Int}(h:BkA a):KL (mSgS y.1 a).1/\KL (mSgS y.1 a).2:=by
 unfold mSgS
 rcases h with e|e|e|e|e
 ·subst e;exact⟨KL.nil,KL.nil⟩
 ·subst e;exact⟨KL.nil,KL.one kB1⟩
 ·subst e;exact⟨KL.nil,KL.one kB2⟩
 ·subst e;exact⟨KL.nil,KL.one kB5⟩
 ·rw[decide_eq_true e];exact kind_K T a
theorem take_eq{w:W3}(h:Hh w)(hl:pLive w=true)(hK:KL w.1){t:Int}(hb:(pTake w t).2.2=false): ∃ x,w.1=(pTake w t).1++[x]/\(mTake w.1 w.2.1 w.2.2 t).1=x/\(x=t∨t=0):=by
 obtain⟨h1,h2⟩:=h
 unfold pTake mTake at*
 cases hd:decide ((w.1.length:Int)=(mTop w.2.1).2.1)with
 |true=>
  rw[hd]at hb
  have hb:(w.2.2|| !(mTop w.2.1).2.2.2.2.1)=false:=hb
  unfold pLive at hl
  cases hD:(mTop w.2.1).2.2.2.2.1 with
  |true=>rw[hD]at hl;cases hq:(mTop w.2.1).2.2.2.2.2<;>rw[hq]at hl<;>cases hl
  |false=>rw[hD]at hb;cases hw:w.2.2<;>rw[hw]at hb<;>cases hb
 |false=>
  rw[hd]at hb
  have hne: ¬ (w.1.length:Int)=(mTop w.2.1).2.1:=of_decide_eq_false hd
  have hn:w.1≠[]:=fun e=>by
   unfold Vd.hh at h2
   rw[e]at h2 hne
   simp only[List.length_nil]at h2 hne
   omega
  have e:w.1=w.1.dropLast++[w.1.getLast hn]:=(List.dropLast_concat_getLast hn).symm
  have e1:w.1.getD (w.1.length - 1) (dflt i64)=w.1.getLast hn:=by
   conv=>lhs;rw[e]
   rw[List.getD_eq_getElem?_getD]
   simp
  have e2:w.1.take (w.1.length - 1)=w.1.dropLast:=by
   rw[List.dropLast_eq_take]
  have k0:w.1.getLast hn≠0:=kOk_ne (hK _ (List.getLast_mem hn))
  simp only[cond_false]at hb ⊢
  rw[e1]at hb ⊢
  rw[e2]
  refine⟨w.1.getLast hn,e,?_,?_⟩
  ·rw[decide_eq_false k0];rfl
  ·by_cases q:w.1.getLast hn=t
   ·exact .inl q
   ·by_cases q0:t=0
    ·exact .inr q0
    ·rw[decide_eq_false q,decide_eq_false k0,decide_eq_false q0]at hb
     cases hw:w.2.2<;>rw[hw]at hb<;>cases hb
theorem tksN_eq{L:List Int}{bl:List (den tBlk)}(hL:KL L): ∀ (n:Nat) {s:List Int} {b:Bool},n<=L.length->Hh (s,bl,b)->pLive (s,bl,b)=true->KL s->(mTks L bl n s b).2=false->s=(mTks L bl n s b).1++L.take n
 |0,s,b,_,_,_,_,_=>by simp[mTks]
 |n+1,s,b,hn,h,hl,hK,hb=>by
  have p:=Pf.take h (L.getD n (dflt i64))
  have h':=p.hh h
  have hb1:(mTks L bl n (pTake (s,bl,b) (L.getD n (dflt i64))).1 (pTake (s,bl,b) (L.getD n (dflt i64))).2.2).2=false:=hb
  have p2:=Pf.tksN L bl n _ _ h'
  have hb2:(pTake (s,bl,b) (L.getD n (dflt i64))).2.2=false:=by
   cases hq:(pTake (s,bl,b) (L.getD n (dflt i64))).2.2 with
   |false=>rfl
   |true=>exact absurd (p2.bd hq) (by rw[hb1];simp)
  obtain⟨x,x1,_,x3⟩:=take_eq h hl hK hb2
  have ih:=tksN_eq hL n (by omega) h' hl (p.ks hK) hb1
  have hx:x=L.getD n (dflt i64):=by
   rcases x3 with e|e
   ·exact e
   ·exact(kOk_ne (hL.getD (by omega:n<L.length)) e).elim
  have e3:L.take (n+1)=L.take n++[x]:=by
   rw[hx,List.take_add_one,List.getD_eq_getElem?_getD,List.getElem?_eq_getElem (by omega:n<L.length)]
   rfl
  rw[e3,<-List.append_assoc]
  have x1:s=(pTake (s,bl,b) (L.getD n (dflt i64))).1++[x]:=x1
  refine x1.trans ?_
  congr 1
theorem tks_eq{w:W3}{L:List Int}(hL:KL L)(h:Hh w)(hl:pLive w=true)(hK:KL w.1)(hb:(pTks w L).2.2=false):w.1=(pTks w L).1++L:=by
 have:=tksN_eq (bl:=w.2.1) (s:=w.1) (b:=w.2.2) hL L.length (Nat.le_refl _) h hl hK hb
 rw[List.take_length]at this
 exact this
theorem mLive_ne{w:W3}(h:w.2.1≠[]):mLive w.2.1=pLive w:=by
 obtain⟨r,B,e⟩:=snoc_of h
 unfold pLive
 rw[e,mLive_snoc,mTop_snoc]
 cases B.2.2.2.2.2<;>rfl
section
variable {O:List Int}{w v:W3}{k m:Nat}
theorem LI.bad(h:LI O w)(b:Bool):LI O (w.1,w.2.1,b):=⟨h.io,h.lv,h.st,h.ch,h.b0⟩
theorem LI.dieg(h:LI O w)(hi:Inv k m w)(p:Pg w v):LI O (pDie v):=by
 have q:=(h.die hi).bad v.2.2
 have e:pDie v=((pDie w).1,(pDie w).2.1,v.2.2):=by
  show(v.1.take (mTop v.2.1).2.1.toNat,v.2.1.set (v.2.1.length - 1) (mDead (mTop v.2.1)),v.2.2)=(w.1.take (mTop w.2.1).2.1.toNat,w.2.1.set (w.2.1.length - 1) (mDead (mTop w.2.1)),v.2.2)
  rw[p.bl]
  have e:v.1.take (mTop w.2.1).2.1.toNat=w.1.take (mTop w.2.1).2.1.toNat:=p.tk
  rw[e]
 rw[e]
 exact q
theorem LI.giv(h:LI O w)(hi:Inv k m w){L:List Int}(hL:pLive w=true->KL L):LI O (pGiv w L):=
 h.pg hi (Pg.giv hi.hh L) fun hl=>(h.st hl).app (hL hl)
theorem LI.lab(h:LI O w)(l:Int):KL (mLab w.2.1 l):=by
 unfold mLab
 cases decide ((w.2.1.length:Int)<=l)with
 |true=>exact KL.nil
 |false=>
  have key: ∀ b:den tBlk,b∈w.2.1∨b=dflt tBlk->KL (bif decide (b.1=3)then b.2.2.1 else b.2.2.2.1):=by
   intro b hb
   rcases hb with hb|hb
   ·cases decide (b.1=3)with
    |true=>exact(h.io b hb).1
    |false=>exact(h.io b hb).2
   ·rw[hb]
    cases decide ((dflt tBlk).1=3)<;>exact KL.nil
  exact key _ (getD_or w.2.1 _ _)
theorem LI.blk(h:LI O w)(hi:Inv k m w){y:denT tM}{lo:List Int}(ht:TyOk y)(T:TK y lo){i:den tI}(ha:BkA i.2.1):LI O (pBlk y i w):=by
 obtain⟨a,b⟩:=sgs_len ht i.2.1
 obtain⟨ka,kb⟩:=sgs_K T ha
 have i1:=hi.bad (mSgB y.1 i.2.1 w.2.2)
 have l1:=h.bad (mSgB y.1 i.2.1 w.2.2)
 have p:=Pf.tks i1.hh (mSgS y.1 i.2.1).1
 have i2:=i1.tks (mSgS y.1 i.2.1).1
 have l2:=l1.pf i1 p
 have i3:=i2.opn i.1 a b
 have l3:=LI.opn (O:=O) (s:=(pTks (w.1,w.2.1,mSgB y.1 i.2.1 w.2.2) (mSgS y.1 i.2.1).1).1) (bl:=w.2.1) (b:=(pTks (w.1,w.2.1,mSgB y.1 i.2.1 w.2.2) (mSgS y.1 i.2.1).1).2.2) l2.io l2.lv (fun hl=>l2.st (by rw[<-mLive_ne i2.ne];exact hl)) l2.ch l2.b0 i.1 ka kb (fun e=>(hi.ne e).elim)
 exact l3.giv i3 (fun _=>ka)
theorem LI.pln(h:LI O w)(hi:Inv k m w)(y:denT tM)(i:den tI):LI O (pPln y w i):=by
 unfold pPln
 obtain⟨b,e⟩:=pFld_same y w i (mOf i.1)
 rw[e]
 have i1:=hi.bad b
 have l2:=(h.bad b).pf i1 (Pf.tks i1.hh (mOf i.1).2.2.2.1)
 exact l2.giv (i1.tks _) fun _=>KL.of (of_lim i.1).2.2.2.2
theorem LI.sel(h:LI O w)(hi:Inv k m w)(hb:(pSel w).2.2=false):LI O (pSel w):=by
 unfold pSel at hb ⊢
 dsimp only at hb ⊢
 have i1:=hi.take 127
 have l1:=h.pf hi (Pf.take hi.hh 127)
 have i2:=i1.take 0
 have l2:=l1.pf i1 (Pf.take i1.hh 0)
 generalize (mTake (pTake w 127).1 (pTake w 127).2.1 (pTake w 127).2.2 0).1=t at hb ⊢
 have i3:=i2.take t
 have l3:=l2.pf i2 (Pf.take i2.hh t)
 refine l3.giv i3 fun hl=>?_
 have hl2:pLive (pTake (pTake w 127) 0)=true:=hl
 obtain⟨x,x1,x2,_⟩:=take_eq i2.hh hl2 (l2.st hl2) (t:=t) hb
 rw[x2]
 refine KL.one (l2.st hl2 x ?_)
 rw[x1]
 simp
theorem LI.cls(h:LI O w)(hi:Inv k m w)(n:Int)(hne:(pClose w n).2.1≠[])(hb:(pClose w n).2.2=false):LI O (pClose w n):=by
 have iS:Inv k m ((pClS w).1,w.2.1,(pClS w).2):=hi.tks (mTop w.2.1).2.2.2.1
 have lS:LI O ((pClS w).1,w.2.1,(pClS w).2):=h.pf hi (Pf.tks hi.hh (mTop w.2.1).2.2.2.1)
 have hio:=h.io _ hi.mem
 obtain⟨r,B,e⟩:=snoc_of hi.ne
 have ec:pCut w=r:=by unfold pCut;rw[e];simp
 have et:mTop w.2.1=B:=by rw[e,mTop_snoc]
 unfold pClose at hne hb ⊢
 cases hB:pClB w with
 |true=>rw[hB]at hb;cases hb
 |false=>
  rw[hB]at hne
  simp only[cond_false]at hne ⊢
  have hh:((pClS w).1.length:Int)=B.2.1:=by
   unfold pClB at hB
   rw[Bool.or_eq_false_iff]at hB
   have:=hB.2
   rw[<-et]
   simpa using this
  rw[et]at hio
  rw[ec]at hne
  rw[ec,et]
  have eT:(pClS w).1.take (B.2.1:Int).toNat=(pClS w).1:=by
   rw[<-hh,Int.toNat_natCast,List.take_length]
  have lb:LI O ((pClS w).1,r++[B],(pClS w).2):=by rw[<-e];exact lS
  have hlt:mLive r=B.2.2.2.2.2:=lb.live_top
  have hKs:mLive r=true->KL (pClS w).1:=fun hl=>by
   have:=lb.lv B (by simp) (by rw[<-hlt];exact hl)
   rw[<-eT]
   exact this
  have hch: ∀ (r1:List (den tBlk)) (p c:den tBlk) (t:List (den tBlk)),r=r1++p::c::t->c.2.2.2.2.2=(p.2.2.2.2.2&& !p.2.2.2.2.1):=fun r1 p c t e=>lb.ch r1 p c (t++[B]) (by show r++[B]=_;rw[e];simp)
  have hb0: ∀ (c:den tBlk) (t:List (den tBlk)),r=c::t->(c.2.1:Int)=0/\c.2.2.2.1=O/\c.2.2.2.2.2=true:=fun c t e=>lb.b0 c (t++[B]) (by show r++[B]=_;rw[e];rfl)
  cases hn5:decide (n=5)with
  |true=>
   simp only[cond_true]
   have l3:=LI.opn (O:=O) (s:=(pClS w).1) (bl:=r) (b:=false) (fun c hc=>lb.io c (List.mem_append_left _ hc)) (fun c hc=>lb.lv c (List.mem_append_left _ hc)) hKs hch hb0 5 hio.1 hio.2 (fun e0=>by
    have:=lb.b0 B [] (by show r++[B]=_;rw[e0];rfl)
    exact⟨hh.trans this.1,this.2.1⟩)
   refine LI.giv (w:=((pClS w).1,mOpen (pClS w).1 r 5 B.2.2.1 B.2.2.2.1,false)) (k:=(pClS w).1.length) (m:=r.length+1) l3 ?_ (fun _=>hio.1)
   have hp:=iS.pw
   have hp:(r++[B]).Pairwise (fun a b:den tBlk=>(a.2.1:Int)<=b.2.1):=by rw[<-e];exact hp
   have hht: ∀ b:den tBlk,b∈r++[B]->(0:Int)<=b.2.1/\(b.2.1:Int)<=((pClS w).1.length:Int):=by rw[<-e];exact iS.ht
   have hioo: ∀ b:den tBlk,b∈r++[B]->b.2.2.1.length<=32/\b.2.2.2.1.length<=32:=by rw[<-e];exact iS.io
   rw[List.pairwise_append]at hp
   refine⟨by show mOpen _ _ _ _ _≠[];unfold mOpen;simp,?_,?_,?_,Nat.le_refl _,by show(mOpen _ _ _ _ _).length<=_;unfold mOpen;simp⟩
   ·show(mOpen _ _ _ _ _).Pairwise _
    unfold mOpen
    rw[List.pairwise_append]
    refine⟨hp.1,List.pairwise_singleton _ _,fun a ha b hb=>?_⟩
    have:b=(5,((pClS w).1.length:Int),B.2.2.1,B.2.2.2.1,false,mLive r):=by simpa using hb
    rw[this]
    exact(hht a (List.mem_append_left _ ha)).2
   ·intro b hb
    unfold mOpen at hb
    rcases List.mem_append.1 hb with hb|hb
    ·exact hht b (List.mem_append_left _ hb)
    ·have:b=(5,((pClS w).1.length:Int),B.2.2.1,B.2.2.2.1,false,mLive r):=by simpa using hb
     rw[this]
     exact⟨Int.natCast_nonneg _,Int.le_refl _⟩
   ·intro b hb
    unfold mOpen at hb
    rcases List.mem_append.1 hb with hb|hb
    ·exact hioo b (List.mem_append_left _ hb)
    ·have:b=(5,((pClS w).1.length:Int),B.2.2.1,B.2.2.2.1,false,mLive r):=by simpa using hb
     rw[this]
     exact hioo B (by simp)
  |false=>
   rw[hn5]at hne
   simp only[cond_false]at hne ⊢
   have hht: ∀ b:den tBlk,b∈r++[B]->(0:Int)<=b.2.1/\(b.2.1:Int)<=((pClS w).1.length:Int):=by rw[<-e];exact iS.ht
   refine⟨fun c hc=>lb.io c (List.mem_append_left _ hc),fun c hc hl=>?_,fun hl=>?_,hch,hb0⟩
   ·show KL (((pClS w).1++B.2.2.2.1).take c.2.1.toNat)
    rw[List.take_append_of_le_length (Int.toNat_le.2 (hht c (List.mem_append_left _ hc)).2)]
    exact lb.lv c (List.mem_append_left _ hc) hl
   ·show KL ((pClS w).1++B.2.2.2.1)
    refine(hKs ?_).app hio.2
    rw[mLive_ne (w:=((pClS w).1++B.2.2.2.1,r,false)) hne]
    exact hl
theorem LI.var(h:LI O w)(hi:Inv k m w){y:denT tM}{lo:List Int}(T:TK y lo){i:den tI}(ha:(0:Int)<=i.2.1)(hb:(pVar y lo w i).2.2=false):LI O (pVar y lo w i):=by
 unfold pVar at hb ⊢
 dsimp only at hb ⊢
 obtain⟨ok,hok⟩: ∃ ok,ok=(bif (bif decide (i.1<=34)then decide (i.2.1<(lo.length:Int))else false)then true else bif (bif decide (34<i.1)then decide (i.2.1<(y.2.2.2.2.2.1.length:Int))else false)then(bif decide (i.1=35)then true else(y.2.2.2.2.2.1.getD i.2.1.toNat (dflt tGlo)).2.1)else false):=⟨_,rfl⟩
 obtain⟨t,et⟩: ∃ t,t=(bif (bif decide (i.1<=34)then decide (i.2.1<(lo.length:Int))else false)then lo.getD i.2.1.toNat (dflt i64)else bif (bif decide (34<i.1)then decide (i.2.1<(y.2.2.2.2.2.1.length:Int))else false)then(y.2.2.2.2.2.1.getD i.2.1.toNat (dflt tGlo)).1 else 0):=⟨_,rfl⟩
 rw[<-hok,<-et]at hb ⊢
 have hk:ok=true->kOk t=true:=by
  intro q
  rw[hok]at q
  rw[et]
  cases c1:(bif decide (i.1<=34)then decide (i.2.1<(lo.length:Int))else false)with
  |true=>
   have hlt:(i.2.1:Int)<(lo.length:Int):=by
    cases d:decide (i.1<=34)with
    |true=>rw[d]at c1;exact of_decide_eq_true c1
    |false=>rw[d]at c1;cases c1
   have key: ∀ (a:Int) (n:Nat),0<=a->a<(n:Int)->a.toNat<n:=fun a n _ _=>by omega
   exact T.lo.getD (key _ _ ha hlt)
  |false=>
   rw[c1]at q
   cases c2:(bif decide (34<i.1)then decide (i.2.1<(y.2.2.2.2.2.1.length:Int))else false)with
   |true=>
    have hlt:(i.2.1:Int)<(y.2.2.2.2.2.1.length:Int):=by
     cases d:decide (34<i.1)with
     |true=>rw[d]at c2;exact of_decide_eq_true c2
     |false=>rw[d]at c2;cases c2
    simp only[cond_true,cond_false]
    have key: ∀ (a:Int) (n:Nat),0<=a->a<(n:Int)->a.toNat<n:=fun a n _ _=>by omega
    have hj:(i.2.1:Int).toNat<y.2.2.2.2.2.1.length:=key _ _ ha hlt
    refine T.gl _ ?_
    rw[List.getD_eq_getElem?_getD,List.getElem?_eq_getElem hj]
    exact List.getElem_mem hj
   |false=>rw[c2]at q;cases q
 clear hok et
 have i0:=hi.mst ok
 have p0:=Pf.mst hi.hh ok
 have l0:=h.pf hi p0
 have hmst:(pMst w ok).2.2=false->ok=true:=fun e=>by
  have e:(w.2.2|| !ok)=false:=e
  cases ok with
  |true=>rfl
  |false=>cases hw:w.2.2<;>rw[hw]at e<;>cases e
 have h1: ∃ v,v=(bif (bif !decide (i.1=32)then !decide (i.1=35)else false)then pTake (pMst w ok) t else pMst w ok)/\LI O v/\Inv k m v/\(v.2.2=false->ok=true):=by
  cases(bif !decide (i.1=32)then !decide (i.1=35)else false)with
  |false=>exact⟨_,rfl,l0,i0,hmst⟩
  |true=>
   have p:=Pf.take i0.hh t
   refine⟨_,rfl,l0.pf i0 p,i0.take t,fun e=>hmst ?_⟩
   cases hq:(pMst w ok).2.2 with
   |false=>rfl
   |true=>
    have e:(pTake (pMst w ok) t).2.2=false:=e
    rw[p.bd hq]at e
    cases e
 obtain⟨v,ev,lv,iv,bv⟩:=h1
 rw[<-ev]at hb ⊢
 cases hc:(bif !decide (i.1=33)then !decide (i.1=36)else false)with
 |false=>exact lv
 |true=>
  rw[hc]at hb
  exact lv.giv iv fun _=>KL.one (hk (bv hb))
theorem LI.jump(h:LI O w)(hi:Inv k m w){y:denT tM}{lo:List Int}(T:TK y lo){i:den tI}(hv: ¬ i.1=0-> ¬ i.1=15->(0:Int)<=i.2.1)(hb:(pJump y lo w i).2.2=false):LI O (pJump y lo w i):=by
 unfold pJump at hb ⊢
 dsimp only at hb ⊢
 by_cases h0:(i.1:Int)=0
 ·rw[decide_eq_true h0];exact h.die hi
 rw[decide_eq_false h0,cond_false]at hb ⊢
 by_cases h1:(i.1:Int)=12
 ·rw[decide_eq_true h1]
  have i1:=hi.lab i.2.1
  exact h.dieg hi ((Pf.lab hi.hh i.2.1).trans (Pf.tks i1.hh _)).g
 rw[decide_eq_false h1,cond_false]at hb ⊢
 by_cases h2:(i.1:Int)=13
 ·rw[decide_eq_true h2]
  have i1:=hi.take 127
  have i2:=i1.lab i.2.1
  have p:=(Pf.take hi.hh 127).trans ((Pf.lab i1.hh i.2.1).trans (Pf.tks i2.hh (mLab w.2.1 i.2.1)))
  exact(h.pf hi p).giv (i2.tks _) fun _=>h.lab i.2.1
 rw[decide_eq_false h2,cond_false]at hb ⊢
 by_cases h3:(i.1:Int)=14
 ·rw[decide_eq_true h3]
  have p:=Pg.tab hi.hh i
  exact h.dieg hi (p.trans (Pf.tks (p.hh hi.hh) _).g)
 rw[decide_eq_false h3,cond_false]at hb ⊢
 by_cases h4:(i.1:Int)=15
 ·rw[decide_eq_true h4];exact h.dieg hi (Pf.tks hi.hh _).g
 rw[decide_eq_false h4,cond_false]at hb ⊢
 exact h.var hi T (hv h0 h4) hb
theorem npP_blk{o f:Int}(h:npP o f=true)(ho:2<=o/\o<=4):f=2:=by
 unfold npP at h
 by_cases f1:f=1
 ·rw[decide_eq_true f1]at h
  simp only[cond_true,Bool.or_eq_true,decide_eq_true_eq]at h
  omega
 rw[decide_eq_false f1,cond_false]at h
 by_cases f2:f=2
 ·exact f2
 rw[decide_eq_false f2,cond_false]at h
 by_cases f3:f=3
 ·rw[decide_eq_true f3]at h
  simp only[cond_true,Bool.or_eq_true,decide_eq_true_eq]at h
  omega
 rw[decide_eq_false f3,cond_false]at h
 by_cases f4:f=4
 ·rw[decide_eq_true f4]at h
  simp only[cond_true,decide_eq_true_eq]at h
  omega
 rw[decide_eq_false f4,cond_false]at h
 by_cases f5:f=5
 ·rw[decide_eq_true f5]at h
  simp only[cond_true,Bool.or_eq_true,Bool.and_eq_true,decide_eq_true_eq]at h
  omega
 rw[decide_eq_false f5,cond_false]at h
 by_cases f6:f=6
 ·rw[decide_eq_true f6]at h
  simp only[cond_true,decide_eq_true_eq]at h
  omega
 rw[decide_eq_false f6]at h
 cases h
theorem LI.step(h:LI O w)(hi:Inv k m w){y:denT tM}{lo:List Int}(ht:TyOk y)(T:TK y lo){i:den tI}(hI:IOk i)(hne:(pStep y lo w i).2.1≠[])(hb:(pStep y lo w i).2.2=false):LI O (pStep y lo w i):=by
 unfold pStep at hne hb ⊢
 cases hp:(mOf i.1).2.2.1 with
 |true=>exact h.pln hi y i
 |false=>
  rw[hp]at hne hb
  simp only[cond_false]at hne hb ⊢
  obtain⟨n1,n2⟩:=hI.np hp
  cases c1:decide (i.1=2)||(decide (i.1=3)||decide (i.1=4))with
  |true=>
   simp only[cond_true]
   have k2:(2:Int)<=i.1/\(i.1:Int)<=4:=by
    simp only[Bool.or_eq_true,decide_eq_true_eq]at c1
    have: ∀ o:Int,(o=2∨o=3∨o=4)->2<=o/\o<=4:=fun o _=>by omega
    exact this _ c1
   have ha:=hI.k (npP_blk (of_np hI.is hp) k2)
   cases decide (i.1=4)with
   |true=>exact(h.pf hi (Pf.take hi.hh 127)).blk (hi.take 127) ht T ha
   |false=>exact h.blk hi ht T ha
  |false=>
   rw[c1]at hne hb
   simp only[cond_false]at hne hb ⊢
   cases c2:decide (i.1=5)||decide (i.1=11)with
   |true=>
    rw[c2]at hne hb
    exact h.cls hi i.1 hne hb
   |false=>
    rw[c2]at hne hb
    simp only[cond_false]at hne hb ⊢
    cases c3:decide (i.1=26)with
    |true=>exact h.pf hi (Pf.take hi.hh 0)
    |false=>
     rw[c3]at hb
     simp only[cond_false]at hb ⊢
     cases c4:decide (i.1=27)with
     |true=>rw[c4]at hb;exact h.sel hi hb
     |false=>
      rw[c4]at hb
      simp only[cond_false]at hb ⊢
      cases c5:decide (i.1=16)with
      |true=>
       have i1:=hi.mst (mKindO y.1 (mSigK y.2.1 y.2.2.1 i.2.1))
       have p:=(Pf.mst hi.hh (mKindO y.1 (mSigK y.2.1 y.2.2.1 i.2.1))).trans (Pf.tks i1.hh (mKindS y.1 (mSigK y.2.1 y.2.2.1 i.2.1)).1)
       exact(h.pf hi p).giv (i1.tks _) fun _=>(kind_K T _).2
      |false=>
       rw[c5]at hb
       simp only[cond_false]at hb ⊢
       cases c6:decide (i.1=17)with
       |true=>
        have key: ∀ ok:Bool,LI O (pGiv (pTks (pTake (pMst w ok) 127) (mKindS y.1 i.2.1).1) (mKindS y.1 i.2.1).2):=fun ok=>by
         have i1:=hi.mst ok
         have i2:=i1.take 127
         have p:=(Pf.mst hi.hh ok).trans ((Pf.take i1.hh 127).trans (Pf.tks i2.hh (mKindS y.1 i.2.1).1))
         exact(h.pf hi p).giv (i2.tks _) fun _=>(kind_K T _).2
        exact key _
       |false=>
        rw[c6]at hb
        simp only[cond_false]at hb ⊢
        simp only[Bool.or_eq_false_iff,decide_eq_false_iff_not]at c1 c2 c3 c4 c5 c6
        have key: ∀ o:Int,(¬ o=2/\ ¬ o=3/\ ¬ o=4)->(¬ o=5/\ ¬ o=11)-> ¬ (2<=o/\o<=5):=fun o _ _=>by omega
        exact h.jump hi T (fun e0 e15=>(n1 (key _ c1 c2) e0 c2.2 e15 c3 c4).1) hb
end
end Go.Proofs.Vd

noncomputable section
namespace Go.Proofs.Vd
open Go.Ab Go.Ab.Lf
set_option maxRecDepth 100000
structure MkOk(l:List (den tMk))(j:Nat)(x:den tI):Prop where
 v0:(0:Int)<=(l.getD j (dflt tMk)).2.2
 vh:((l.getD j (dflt tMk)).2.2:Int)<=(l.getD j (dflt tMk)).2.1
 hh:((l.getD j (dflt tMk)).2.1:Int)<=1073741824
 dd:(l.getD j (dflt tMk)).1=false->l.getD j (dflt tMk)=(false,0,0)
 pl:(l.getD j (dflt tMk)).1=true->(mOf x.1).2.2.1=true->j+1<l.length/\((mOf x.1).2.2.2.1.length:Int)<=(l.getD j (dflt tMk)).2.1/\(cnt (mOf x.1).2.2.2.1:Int)<=(l.getD j (dflt tMk)).2.2/\
  l.getD (j+1) (dflt tMk)=(true,(l.getD j (dflt tMk)).2.1 - ((mOf x.1).2.2.2.1.length:Int)+((mOf x.1).2.2.2.2.1.length:Int),(l.getD j (dflt tMk)).2.2 - (cnt (mOf x.1).2.2.2.1:Int)+(cnt (mOf x.1).2.2.2.2.1:Int))
theorem clo_nil{op:List Int}(h:Clo op []):False:=by
 unfold Clo at h
 have h:(none:Option Bool)=some true:=h
 cases h
theorem pMk_live{w:W3}(h:pLive w=true)(hl:w.1.length<=4398046511104):pMk w=(true,(w.1.length:Int),(cnt w.1:Int)):=by
 unfold pMk
 rw[h,cond_true,vcs_cnt hl]
theorem pMk_dead{w:W3}(h:pLive w=false):pMk w=(false,0,0):=by
 unfold pMk
 rw[h,cond_false]
theorem pln_step{O:List Int}{w:W3}{k m:Nat}(h:LI O w)(hi:Inv k m w){y:denT tM}{lo:List Int}{x:den tI}(hl:pLive w=true)(hp:(mOf x.1).2.2.1=true)(hb:(pStep y lo w x).2.2=false):
 ∃ S,w.1=S++(mOf x.1).2.2.2.1/\(pStep y lo w x).1=S++(mOf x.1).2.2.2.2.1/\pLive (pStep y lo w x)=true:=by
 unfold pStep at hb ⊢
 rw[hp]at hb ⊢
 simp only[cond_true]at hb ⊢
 unfold pPln at hb ⊢
 obtain⟨b,e⟩:=pFld_same y w x (mOf x.1)
 rw[e]at hb ⊢
 have i1:=hi.bad b
 exact⟨_,tks_eq (w:=(w.1,w.2.1,b)) (KL.of (of_lim x.1).2.2.2.1) i1.hh hl (h.st hl) hb,rfl,hl⟩
theorem last_step{O:List Int}{w:W3}{k m:Nat}(h:LI O w)(hi:Inv k m w){y:denT tM}{lo:List Int}{x:den tI}(hl:pLive w=true)(h11:(x.1:Int)=11)(h1:w.2.1.length=1)(hb:(pStep y lo w x).2.2=false):w.1=O:=by
 obtain⟨B,eB⟩: ∃ B,w.2.1=[B]:=by
  match q:w.2.1,h1 with
  | [B],_=>exact⟨B,rfl⟩
 have hp:(mOf x.1).2.2.1=false:=by
  cases q:(mOf x.1).2.2.1 with
  |false=>rfl
  |true=>exact((of_pl q).2 h11).elim
 have e:pStep y lo w x=pClose w x.1:=by
  unfold pStep
  rw[hp,h11]
  rfl
 rw[e]at hb
 have et:mTop w.2.1=B:=by rw[eB];rfl
 obtain⟨z1,z2,_⟩:=h.b0 B [] eB
 have hc:pClB w=false:=by
  cases q:pClB w with
  |false=>rfl
  |true=>unfold pClose at hb;rw[q]at hb;cases hb
 unfold pClB at hc
 rw[Bool.or_eq_false_iff,et,z1]at hc
 have hS:(pTks w O).2.2=false:=by
  have:=hc.1
  unfold pClS at this
  rw[et,z2]at this
  exact this
 have hK:KL O:=by
  rw[<-z2]
  exact(h.io B (by rw[eB];simp)).2
 have q:=tks_eq hK hi.hh hl (h.st hl) hS
 have hn:(pTks w O).1=[]:=by
  have:=hc.2
  unfold pClS at this
  rw[et,z2]at this
  have:((mTks O w.2.1 O.length w.1 w.2.2).1.length:Int)=0:=by simpa using this
  refine List.eq_nil_of_length_eq_zero ?_
  show(mTks O w.2.1 O.length w.1 w.2.2).1.length=0
  omega
 rw[hn]at q
 exact q
theorem marks{y:denT tM}{lo O:List Int}(ht:TyOk y)(T:TK y lo): ∀ (r:List (den tI)) (j:Nat) (w:W3) (l:List (den tMk)),pTyp y lo w r=some l->(∀ x,x∈r->IOk x)->Inv (32*j) (j+1) w->LI O w->(∃ op,Clo op r/\w.2.1.length=op.length+1)->j+r.length<=1048577->
 l.length=r.length/\(∃ l',l=pMk w::l')/\(∀ i x,r[i]? =some x->MkOk l i x)/\((l.getD (l.length - 1) (dflt tMk)).1=true->((l.getD (l.length - 1) (dflt tMk)).2.1:Int)=(O.length:Int)/\((l.getD (l.length - 1) (dflt tMk)).2.2:Int)=(cnt O:Int))
 | [],_,_,_,_,_,_,_,⟨_,hc,_⟩,_=>(clo_nil hc).elim
 |x::r,j,w,l,e,hI,hi,h,⟨op,hcl,hbl⟩,hj=>by
  have hx:=hI x List.mem_cons_self
  have hsk:=hi.sk
  simp only[List.length_cons]at hj
  have e:(bif (pStep y lo w x).2.2 then none else(pTyp y lo (pStep y lo w x) r).map (pMk w:: ·))=some l:=e
  cases hb:(pStep y lo w x).2.2 with
  |true=>rw[hb]at e;cases e
  |false=>
   rw[hb,cond_false]at e
   obtain⟨l',e',rfl⟩:=Option.map_eq_some_iff.1 e
   have hwl:w.1.length<=33554464:=by omega
   have c0:=cnt_le w.1
   have m0: ∀ (l':List (den tMk)),(pLive w=true->(mOf x.1).2.2.1=true-> ∃ l2,l'=pMk (pStep y lo w x)::l2)->MkOk (pMk w::l') 0 x:=by
    intro l' hl'
    cases hL:pLive w with
    |false=>
     rw[pMk_dead hL]
     exact⟨Int.le_refl _,Int.le_refl _,(by decide:(0:Int)<=1073741824),fun _=>rfl,fun e=>(by cases e)⟩
    |true=>
     rw[pMk_live hL (by omega)]
     refine⟨Int.natCast_nonneg _,by show(cnt w.1:Int)<=(w.1.length:Int);omega,by show(w.1.length:Int)<=_;omega,fun e=>(by cases e),fun _ hp=>?_⟩
     obtain⟨S,s1,s2,s3⟩:=pln_step h hi hL hp hb
     obtain⟨l2,rfl⟩:=hl' hL hp
     have a1:w.1.length=S.length+(mOf x.1).2.2.2.1.length:=by rw[s1,List.length_append]
     have a2:cnt w.1=cnt S+cnt (mOf x.1).2.2.2.1:=by rw[s1,cnt_app]
     have a3:(pStep y lo w x).1.length=S.length+(mOf x.1).2.2.2.2.1.length:=by rw[s2,List.length_append]
     have a4:cnt (pStep y lo w x).1=cnt S+cnt (mOf x.1).2.2.2.2.1:=by rw[s2,cnt_app]
     have lm:=(of_lim x.1).2.2.1
     refine⟨by simp,by show _<=(w.1.length:Int);omega,by show _<=(cnt w.1:Int);omega,?_⟩
     show pMk (pStep y lo w x)=(true,(w.1.length:Int) - _+_,(cnt w.1:Int) - _+_)
     rw[pMk_live s3 (by omega),a3,a4]
     refine congrArg (Prod.mk true) (Prod.ext ?_ ?_)
     ·show((S.length+(mOf x.1).2.2.2.2.1.length:Nat):Int)=(w.1.length:Int) - ((mOf x.1).2.2.2.1.length:Int)+((mOf x.1).2.2.2.2.1.length:Int)
      omega
     ·show((cnt S+cnt (mOf x.1).2.2.2.2.1:Nat):Int)=(cnt w.1:Int) - (cnt (mOf x.1).2.2.2.1:Int)+(cnt (mOf x.1).2.2.2.2.1:Int)
      omega
   rcases clo_cons hcl with⟨h11,hop,hr⟩|⟨op',q1,q2,q3⟩
   ·subst hr
    have e':some []=some l':=e'
    injection e' with e'
    subst e'
    refine⟨rfl,⟨[],rfl⟩,fun i z hz=>?_,fun hlv=>?_⟩
    ·cases i with
     |zero=>
      have hz:some x=some z:=hz
      injection hz with hz
      subst hz
      exact m0 [] fun _ hp=>((of_pl hp).2 h11).elim
     |succ i=>cases hz
    ·have hlv:(pMk w).1=true:=hlv
     cases hL:pLive w with
     |false=>rw[pMk_dead hL]at hlv;cases hlv
     |true=>
      have hO:=last_step h hi hL h11 (by rw[hbl,hop];rfl) hb
      show((pMk w).2.1:Int)=_/\((pMk w).2.2:Int)=_
      rw[pMk_live hL (by omega),hO]
      exact⟨rfl,rfl⟩
   ·have hl:=step_bl hi.ne hb
    rw[hbl,<-q2]at hl
    have hne:(pStep y lo w x).2.1≠[]:=fun e0=>by rw[e0]at hl;simp at hl
    have i2:=(hi.step ht lo hx (by have:=hx.n;omega) (by omega) hne).le (k':=32*(j+1)) (m':=j+1+1) (by omega) (Nat.le_refl _)
    have h2:=h.step hi ht T hx hne hb
    obtain⟨r1,⟨l2,r2⟩,r3,r4⟩:=marks ht T r (j+1) (pStep y lo w x) l' e' (fun z hz=>hI z (List.mem_cons_of_mem _ hz)) i2 h2 ⟨op',q1,hl⟩ (by omega)
    refine⟨by simp[r1],⟨l',rfl⟩,fun i z hz=>?_,fun hlv=>?_⟩
    ·cases i with
     |zero=>
      have hz:some x=some z:=hz
      injection hz with hz
      subst hz
      exact m0 l' fun _ _=>⟨l2,r2⟩
     |succ i=>
      have q:=r3 i z hz
      exact⟨q.v0,q.vh,q.hh,q.dd,fun a b=>by
       obtain⟨p1,p2,p3,p4⟩:=q.pl a b
       exact⟨by simp only[List.length_cons];omega,p2,p3,p4⟩⟩
    ·have e3:(pMk w::l').length - 1=l'.length - 1+1:=by rw[r2];simp
     rw[e3]at hlv ⊢
     exact r4 hlv
end Go.Proofs.Vd
