import Derived.Test.YtooeifemoidnoaaDoorVdW
import Derived.Test.YtooeifemoidnoaaDoorLfG
import Derived.Test.YtooeifemoidnoaaDoorVdV
import Derived.Test.YtooeifemoidnoaaDoorVdMd
noncomputable section
namespace Go.Proofs.Vd
open Go.Ab Go.Ab.Lf
set_option maxRecDepth 100000
def Wx(n:Nat)(F:WrF)(bs:List Int)(p:Bool):Prop:=bs.length<=n/\ ∀ s:St,s.1.length+n<=1099511627776-> ∀ (α:Type) (K:St->Option α),F α s K=K (s.1++bs,s.2|| !p)
section
variable {n m:Nat}{F G:WrF}{bs cs:List Int}{p q:Bool}
theorem Wx.le(h:Wx n F bs p)(hm:n<=m):Wx m F bs p:=⟨Nat.le_trans h.1 hm,fun s hs=>h.2 s (by omega)⟩
theorem Wx.seq(h1:Wx n F bs p)(h2:Wx m G cs q):Wx (n+m) (fun α s K=>F α s fun s=>G α s K) (bs++cs) (p&&q):=by
 refine⟨?_,fun s hs α K=>?_⟩
 ·have:=h1.1
  have:=h2.1
  simp only[List.length_append]
  omega
 ·show F α s _=_
  have l1:=h1.1
  rw[h1.2 s (by omega)]
  show G α (s.1++bs,s.2|| !p) K=_
  rw[h2.2 (s.1++bs,s.2|| !p) (by simp only[List.length_append];omega)]
  have e:(s.2|| !p|| !q)=(s.2|| !(p&&q)):=by cases s.2<;>cases p<;>cases q<;>rfl
  simp only[List.append_assoc,e]
theorem Wx.bif{c:Bool}(h1:Wx n F bs p)(h2:Wx n G cs q):Wx n (fun α s K=>bif c then F α s K else G α s K) (bif c then bs else cs) (bif c then p else q):=by
 cases c
 ·exact h2
 ·exact h1
theorem Wx.eq(h:Wx n F bs p)(e1:bs=cs)(e2:p=q):Wx n F cs q:=by subst e1;subst e2;exact h
theorem Wx.mw(h:Wx n F bs p){s:St}(hs:s.1.length+n<=1099511627776):mW F s=(s.1++bs,s.2|| !p):=by
 unfold mW
 rw[h.2 s hs]
 rfl
end
theorem wMust_wx(c:Bool):Wx 0 (wMust c) [] c:=⟨Nat.le_refl _,fun s _ α K=>by simp[wMust]⟩
theorem wBytes_wx(l:List Int):Wx l.length (wBytes l) l true:=⟨Nat.le_refl _,fun s hs α K=>by unfold wBytes ckO;rw[decide_eq_true hs];simp⟩
def nb(n:Int):List Int:=putU (cvtW .u64 n)
def nOk(n:Int):Bool:=decide (0<=n)&&decide (n<4294967296)
def kOk(t:Int):Bool:=decide (t=127)||(decide (t=126)||decide (t=123))
def nbs(l:List Int):List Int:=l.foldr (fun n r=>nb n++r) []
def kbs(l:List Int):List Int:=l.map (cvtW .u8)
theorem nb_len(n:Int):(nb n).length<=10:=putU_len _
theorem nbs_len: ∀ l:List Int,(nbs l).length<=10*l.length
 | []=>Nat.le_refl _
 |x::l=>by
  have h1:=nb_len x
  have h2:=nbs_len l
  show(nb x++nbs l).length<=_
  simp only[List.length_append,List.length_cons]
  omega
theorem mNums_eq(l:List Int): ∀ s:St,mNums s l=(s.1++nbs l,s.2|| !(l.all nOk)):=by
 induction l with
 |nil=>intro s;simp[mNums,nbs]
 |cons x l ih=>
  intro s
  show mNums (mNum1 s x) l=_
  rw[ih]
  have e:(s.2|| !nOk x|| !(l.all nOk))=(s.2|| !((x::l).all nOk)):=by
   simp only[List.all_cons]
   cases s.2<;>cases nOk x<;>cases l.all nOk<;>rfl
  show((s.1++nb x)++nbs l,s.2|| !nOk x|| !(l.all nOk))=_
  rw[e,List.append_assoc]
  rfl
theorem mKinds_eq(l:List Int): ∀ s:St,mKinds s l=(s.1++kbs l,s.2|| !(l.all kOk)):=by
 induction l with
 |nil=>intro s;simp[mKinds,kbs]
 |cons x l ih=>
  intro s
  show mKinds (mKind1 s x) l=_
  rw[ih]
  have e:(s.2|| !kOk x|| !(l.all kOk))=(s.2|| !((x::l).all kOk)):=by
   simp only[List.all_cons]
   cases s.2<;>cases kOk x<;>cases l.all kOk<;>rfl
  show((s.1++[cvtW .u8 x])++kbs l,s.2|| !kOk x|| !(l.all kOk))=_
  rw[e,List.append_assoc]
  rfl
theorem wNums_wx(l:List Int):Wx (10*l.length) (wNums l) (nbs l) (l.all nOk):=⟨nbs_len l,fun s hs α K=>by unfold wNums ckO;rw[decide_eq_true hs,mNums_eq];rfl⟩
theorem wKinds_wx(l:List Int):Wx l.length (wKinds l) (kbs l) (l.all kOk):=⟨by unfold kbs;simp,fun s hs α K=>by unfold wKinds ckO;rw[decide_eq_true hs,mKinds_eq];rfl⟩
theorem wApp_wx(l:List Int):Wx l.length (wApp l) l true:=⟨Nat.le_refl _,fun s hs α K=>by unfold wApp ckO;rw[roomy_le (by omega) hs,app_eq];simp⟩
theorem wT_wx{ok:Bool}{n:Nat}{F:WrF}{bs:List Int}{p:Bool}(h:Wx n F bs p)(ho:ok=true):Wx n (wT ok n F) bs p:=⟨h.1,fun s hs α K=>by unfold wT ckO;rw[ho,decide_eq_true hs,h.mw hs];rfl⟩
theorem F50_wx(c:List (den tI))(h:okC c=true):Wx (mWt c) (F50 (c,())) (mWrB c) (decide (mWrE c=0)):=by
 have h':=h
 simp only[okC,Bool.and_eq_true,decide_eq_true_eq]at h'
 have hl:=mWrB_len c h'.1
 exact⟨hl,fun s hs α K=>by show ckO (okC c) (ckO (roomy 1 (s.1.length+(mWrB c).length)) _)=_;unfold ckO;rw[h,roomy_le (by omega) (by omega)];simp only[app_eq];rfl⟩
structure Itx{α:Type}(A:Item α) where
 bs:α->List Int
 p:α->Bool
 wx: ∀ x,A.ok x=true->Wx (A.wt x) (A.G x) (bs x) (p x)
def rowB{α:Type}{A:Item α}(B:Itx A)(l:List α):List Int:=l.foldr (fun x r=>B.bs x++r) []
theorem rowB_len{α:Type}{A:Item α}(B:Itx A): ∀ (l:List α),allB A.ok l=true->(rowB B l).length<=wtL A.wt l
 | [],_=>Nat.le_refl _
 |x::l,h=>by
  obtain⟨h1,h2⟩:=allB_cons h
  have:=(B.wx x h1).1
  have:=rowB_len B l h2
  show(B.bs x++rowB B l).length<=_
  rw[wtL_cons]
  simp only[List.length_append]
  omega
theorem mRow_eq{α:Type}{A:Item α}(B:Itx A): ∀ (l:List α),allB A.ok l=true-> ∀ s:St,s.1.length+wtL A.wt l<=1099511627776->mRow A.G s l=(s.1++rowB B l,s.2|| !(l.all B.p))
 | [],_,s,_=>by simp[mRow,rowB]
 |x::l,h,s,hs=>by
  obtain⟨h1,h2⟩:=allB_cons h
  rw[wtL_cons]at hs
  have e:=(B.wx x h1).mw (s:=s) (by omega)
  have hl:=(B.wx x h1).1
  show mRow A.G (mW (A.G x) s) l=_
  rw[e,mRow_eq B l h2 _ (by simp only[List.length_append];omega)]
  have e2:(s.2|| !B.p x|| !(l.all B.p))=(s.2|| !((x::l).all B.p)):=by
   simp only[List.all_cons]
   cases s.2<;>cases B.p x<;>cases l.all B.p<;>rfl
  show((s.1++B.bs x)++rowB B l,s.2|| !B.p x|| !(l.all B.p))=_
  rw[e2,List.append_assoc]
  rfl
theorem F47_wx(id:Int)(b:List Int)(k:Bool):Wx (11+b.length) (F47 (id,b,k,())) (id::(nb (b.length:Int)++b)) (!k&&nOk (b.length:Int)):=by
 refine(((wMust_wx (!k)).seq ((wBytes_wx [id]).seq ((wNums_wx [(b.length:Int)]).seq (wApp_wx b)))).le (m:=11+b.length) (by simp only[List.length_cons,List.length_nil];omega)).eq ?_ ?_
 ·show []++([id]++((nb _++[])++b))=_
  simp
 ·simp
theorem wt47_eq(id:Int)(b:List Int)(k:Bool):wt47 (id,b,k,())=11+b.length:=by
 show 0+(1+(10+b.length))=_
 omega
theorem wT47(id:Int)(b:List Int)(k:Bool)(s:St)(h:s.1.length+(11+b.length)<=1099511627776)(α:Type)(K:St->Option α):
 wT true (wt47 (id,b,k,())) (F47 (id,b,k,())) α s K=K (s.1++(id::(nb (b.length:Int)++b)),s.2|| !(!k&&nOk (b.length:Int))):=by
 rw[wt47_eq]
 exact(wT_wx (F47_wx id b k) rfl).2 s h α K
def secB{α:Type}{A:Item α}(B:Itx A)(id:Int)(l:List α):List Int:=bif decide ((l.length:Int)=0)then []else id::(nb ((nb (l.length:Int)++rowB B l).length:Int)++(nb (l.length:Int)++rowB B l))
def secP{α:Type}{A:Item α}(B:Itx A)(most:Int)(l:List α):Bool:=decide ((l.length:Int)<=most)&&bif decide ((l.length:Int)=0)then true else
 ((nOk (l.length:Int)&&l.all B.p)&&nOk ((nb (l.length:Int)++rowB B l).length:Int))
theorem FS_wx{t:Ty}{A:Item (den t)}(B:Itx A)(id most:Int)(l:List (den t))(h:allB A.ok l=true):Wx (21+wtL A.wt l) (FS A (id,most,l,())) (secB B id l) (secP B most l):=by
 have hr:=rowB_len B l h
 have hn:=nb_len (l.length:Int)
 refine⟨?_,fun s hs α K=>?_⟩
 ·unfold secB
  cases decide ((l.length:Int)=0)with
  |true=>exact Nat.zero_le _
  |false=>
   have:=nb_len ((nb (l.length:Int)++rowB B l).length:Int)
   simp only[cond_false,List.length_cons,List.length_append]at this ⊢
   omega
 ·show wMust _ α s (fun s=>bif decide ((l.length:Int)=0)then K s else _)=_
  unfold wMust
  show(bif decide ((l.length:Int)=0)then K (s.1,s.2|| !decide ((l.length:Int)<=most))else ckO (decide (([]:List Int).length+10*[(l.length:Int)].length<=1099511627776)) (ckO ((decide ((l.length:Int)=(l.length:Int))&&decide ((0:Int)=0))&&(allB A.ok l&&decide ((mNums ([],s.2|| !decide ((l.length:Int)<=most)) [(l.length:Int)]).1.length+wtL A.wt l<=1099511627776)))
   (wT true (wt47 (id,(mRow A.G (mNums ([],s.2|| !decide ((l.length:Int)<=most)) [(l.length:Int)]) l).1,(mRow A.G (mNums ([],s.2|| !decide ((l.length:Int)<=most)) [(l.length:Int)]) l).2,())) (F47 (id,(mRow A.G (mNums ([],s.2|| !decide ((l.length:Int)<=most)) [(l.length:Int)]) l).1,(mRow A.G (mNums ([],s.2|| !decide ((l.length:Int)<=most)) [(l.length:Int)]) l).2,())) α (s.1,s.2|| !decide ((l.length:Int)<=most)) K)))=_
  unfold secB secP
  generalize hm:decide ((l.length:Int)<=most)=c
  cases h0:decide ((l.length:Int)=0)with
  |true=>simp
  |false=>
   have e1:mNums ([],s.2|| !c) [(l.length:Int)]=(nb (l.length:Int),s.2|| !c|| !(nOk (l.length:Int))):=by
    rw[mNums_eq]
    show([]++(nb _++[]),_)=_
    simp
   have e2:=mRow_eq B l h (nb (l.length:Int),s.2|| !c|| !(nOk (l.length:Int))) (Nat.le_trans (Nat.add_le_add_right hn _) (by omega))
   rw[e1,e2,h]
   have c2:(nb (l.length:Int)).length+wtL A.wt l<=1099511627776:=Nat.le_trans (Nat.add_le_add_right hn _) (by omega)
   have c3:(nb (l.length:Int)++rowB B l).length<=10+wtL A.wt l:=by rw[List.length_append];omega
   have k1:((decide ((l.length:Int)=(l.length:Int))&&decide ((0:Int)=0))&&(true&&decide ((nb (l.length:Int),s.2|| !c|| !(nOk (l.length:Int))).1.length+wtL A.wt l<=1099511627776)))=true:=by
    rw[Bool.and_eq_true,Bool.and_eq_true,Bool.and_eq_true]
    exact⟨⟨decide_eq_true rfl,decide_eq_true rfl⟩,rfl,decide_eq_true c2⟩
   have c0:decide (([]:List Int).length+10*[(l.length:Int)].length<=1099511627776)=true:=decide_eq_true (by simp only[List.length_cons,List.length_nil];omega)
   rw[k1,c0,wT47 id _ _ (s.1,s.2|| !c) (Nat.le_trans (Nat.add_le_add_left (Nat.add_le_add_left c3 11) s.1.length) (by omega))]
   unfold ckO
   rw[cond_true,cond_true,cond_false,cond_false]
   congr 2
   generalize nOk (l.length:Int)=u1
   generalize nOk ((nb (l.length:Int)++rowB B l).length:Int)=u2
   generalize l.all B.p=u3
   cases s.2<;>cases c<;>cases u1<;>cases u2<;>cases u3<;>rfl
end Go.Proofs.Vd

noncomputable section
variable {V:ByteArray→Bool}
namespace Go.Proofs.Vd
open Go.Ab Go.Ab.Lf
set_option maxRecDepth 100000
def b36(s:ByteArray):List Int:=[]++(nbs [(s.size:Int)]++mSt s)
def p36(V:ByteArray->Bool)(s:ByteArray):Bool:=V s&&([(s.size:Int)].all nOk&&true)
theorem F36_wx(V:ByteArray->Bool)(s:ByteArray)(hg:gSt s=true):Wx (wt36 (s,())) (F36 V (s,())) (b36 s) (p36 V s):=by
 have e:F36 V (s,())=fun α t K=>wMust (V s) α t fun t=>wNums [(s.size:Int)] α t fun t=>wApp (mSt s) α t K:=by
  unfold F36
  rw[show gSt (s,()).1=true from hg]
  rfl
 rw[e]
 refine((wMust_wx (V s)).seq ((wNums_wx [(s.size:Int)]).seq (wApp_wx (mSt s)))).le ?_
 rw[mSt_len]
 show _<=10+s.size
 simp only[List.length_cons,List.length_nil]
 omega
def b41(x:den tLim):List Int:=[]++bif decide (x.2= -1)then [0]++nbs [x.1]else [1]++nbs [x.1,x.2]
def p41(mo:Int)(x:den tLim):Bool:=decide (x.1<=mo)&&bif decide (x.2= -1)then true&&[x.1].all nOk else true&&[x.1,x.2].all nOk
theorem F41_wx(mo:Int)(x:den tLim):Wx 21 (F41 (x.1,x.2,mo,())) (b41 x) (p41 mo x):=
 ((wMust_wx _).seq (.bif (((wBytes_wx [0]).seq (wNums_wx [x.1])).le (m:=21) (by simp)) ((wBytes_wx [1]).seq (wNums_wx [x.1,x.2])))).le (by simp)
def A30x:Itx A30:=⟨fun x=>bif decide ((x.1.length:Int)<=32)then []++([96]++(nbs [(x.1.length:Int)]++(kbs x.1++(nbs [(x.2.length:Int)]++kbs x.2))))else []++([96]++(nbs [(x.1.length:Int)]++(kbs x.1++(nbs [(x.2.length:Int)]++kbs x.2)))),
 fun x=>bif decide ((x.1.length:Int)<=32)then decide ((x.2.length:Int)<=32)&&(true&&([(x.1.length:Int)].all nOk&&(x.1.all kOk&&([(x.2.length:Int)].all nOk&&x.2.all kOk))))else false&&(true&&([(x.1.length:Int)].all nOk&&(x.1.all kOk&&([(x.2.length:Int)].all nOk&&x.2.all kOk)))),
 fun x _=>.bif ((wMust_wx _).seq ((wBytes_wx [96]).seq ((wNums_wx [(x.1.length:Int)]).seq ((wKinds_wx x.1).seq ((wNums_wx [(x.2.length:Int)]).seq (wKinds_wx x.2))))))
  ((wMust_wx _).seq ((wBytes_wx [96]).seq ((wNums_wx [(x.1.length:Int)]).seq ((wKinds_wx x.1).seq ((wNums_wx [(x.2.length:Int)]).seq (wKinds_wx x.2))))))⟩
def A35x(V:ByteArray->Bool):Itx (A35 V):=⟨fun x=>b36 x.1++(b36 x.2.1++([0]++nbs [x.2.2])),fun x=>p36 V x.1&&(p36 V x.2.1&&(true&&[x.2.2].all nOk)),
 fun x h=>(wT_wx (F36_wx V x.1 (Bool.and_eq_true _ _▸h).1) (Bool.and_eq_true _ _▸h).1).seq ((wT_wx (F36_wx V x.2.1 (Bool.and_eq_true _ _▸h).2) (Bool.and_eq_true _ _▸h).2).seq ((wBytes_wx [0]).seq (wNums_wx [x.2.2])))⟩
def A38x:Itx A38:=⟨fun x=>nbs [x],fun x=>[x].all nOk,fun x _=>wNums_wx [x]⟩
def A40x:Itx A40:=⟨fun x=>[112]++b41 x,fun x=>true&&p41 1024 x,fun x _=>(wBytes_wx [112]).seq (wT_wx (F41_wx 1024 x) rfl)⟩
def A42x:Itx A42:=⟨b41,p41 16,fun x _=>wT_wx (F41_wx 16 x) rfl⟩
def A44x:Itx A44:=⟨fun x=>kbs [x.1]++bif x.2.1 then [1]++mWrB x.2.2 else [0]++mWrB x.2.2,fun x=>[x.1].all kOk&&bif x.2.1 then true&&decide (mWrE x.2.2=0)else true&&decide (mWrE x.2.2=0),
 fun x h=>(wKinds_wx [x.1]).seq (.bif ((wBytes_wx [1]).seq (wT_wx (F50_wx x.2.2 h) h)) ((wBytes_wx [0]).seq (wT_wx (F50_wx x.2.2 h) h)))⟩
def A46x(V:ByteArray->Bool):Itx (A46 V):=⟨fun x=>bif decide (0<=x.2.1)then []++(b36 x.1++([cvtW .u8 x.2.1]++nbs [x.2.2]))else []++(b36 x.1++([cvtW .u8 x.2.1]++nbs [x.2.2])),
 fun x=>bif decide (0<=x.2.1)then decide (x.2.1<=3)&&(p36 V x.1&&(true&&[x.2.2].all nOk))else false&&(p36 V x.1&&(true&&[x.2.2].all nOk)),
 fun x h=>.bif ((wMust_wx _).seq ((wT_wx (F36_wx V x.1 h) h).seq ((wBytes_wx [_]).seq (wNums_wx [x.2.2])))) ((wMust_wx _).seq ((wT_wx (F36_wx V x.1 h) h).seq ((wBytes_wx [_]).seq (wNums_wx [x.2.2]))))⟩
def A49x:Itx A49:=⟨fun x=>[]++([0]++(mWrB x.1++(nbs [(x.2.length:Int)]++nbs x.2))),fun x=>decide ((x.2.length:Int)<=1024)&&(true&&(decide (mWrE x.1=0)&&([(x.2.length:Int)].all nOk&&x.2.all nOk))),
 fun x h=>(wMust_wx _).seq ((wBytes_wx [0]).seq ((wT_wx (F50_wx x.1 h) h).seq ((wNums_wx [(x.2.length:Int)]).seq (wNums_wx x.2))))⟩
def A54x:Itx A54:=⟨fun x=>[0]++(mWrB x.1++(nbs [(x.2.length:Int)]++x.2)),fun x=>true&&(decide (mWrE x.1=0)&&([(x.2.length:Int)].all nOk&&true)),
 fun x h=>(wBytes_wx [0]).seq ((wT_wx (F50_wx x.1 h) h).seq ((wNums_wx [(x.2.length:Int)]).seq (wBytes_wx x.2)))⟩
def lcB(L:List Int):Nat->Nat->List Int
 |0,_=>[]
 |k+1,i=>if i<L.length then nb (mRun L (i:Int):Int)++([cvtW .u8 (L.getD i (dflt i64))]++lcB L k (i+mRun L (i:Int)))else []
def lcP(L:List Int):Nat->Nat->Bool
 |0,_=>true
 |k+1,i=>if i<L.length then nOk (mRun L (i:Int):Int)&&(kOk (L.getD i (dflt i64))&&lcP L k (i+mRun L (i:Int)))else true
theorem mLocF_eq(L:List Int): ∀ (k:Nat) (s:St) (i:Nat),mLocF L k s i=(s.1++lcB L k i,s.2|| !(lcP L k i))
 |0,s,i=>by simp[mLocF,lcB,lcP]
 |k+1,s,i=>by
  unfold mLocF lcB lcP
  by_cases h:i<L.length
  ·rw[if_pos h,if_pos h,if_pos h,mLocF_eq L k,mKinds_eq,mNums_eq]
   have e:(s.2|| !([(mRun L (i:Int):Int)].all nOk)|| !([L.getD i (dflt i64)].all kOk)|| !(lcP L k (i+mRun L (i:Int))))=(s.2|| !(nOk (mRun L (i:Int):Int)&&(kOk (L.getD i (dflt i64))&&lcP L k (i+mRun L (i:Int))))):=by
    simp only[List.all_cons,List.all_nil,Bool.and_true]
    cases s.2<;>cases nOk (mRun L (i:Int):Int)<;>cases kOk (L.getD i (dflt i64))<;>cases lcP L k (i+mRun L (i:Int))<;>rfl
   show((s.1++(nb _++[]))++[cvtW .u8 (L.getD i (dflt i64))]++lcB L k (i+mRun L (i:Int)),_)=_
   simp only[e,List.append_assoc,List.append_nil]
  ·rw[if_neg h,if_neg h,if_neg h]
   simp
def cdB(x:den tCod):List Int:=nb (mRuns x.1 0)++(lcB x.1 x.1.length 0++mWrB x.2)
def cdP(x:den tCod):Bool:=nOk (mRuns x.1 0)&&(lcP x.1 x.1.length 0&&decide (mWrE x.2=0))
theorem F52_wx(x:den tCod)(h:okC x.2=true):Wx (wt52 (x.1,x.2,())) (F52 (x.1,x.2,())) (nb ((cdB x).length:Int)++cdB x) (decide ((x.1.length:Int)<=512)&&(cdP x&&nOk ((cdB x).length:Int))):=by
 obtain⟨L,c⟩:=x
 have hw:=(F50_wx c h)
 have hn:=nb_len (mRuns L 0)
 have h1: ∀ (L0:L.length<=1099511627776) (hs:10+11*L.length<=1099511627776),(lcB L L.length 0).length<=11*L.length:=by
  intro L0 hs
  have:=mLoc_len ([],false) L L0 (by show 0+_<=_;omega)
  unfold mLoc at this
  rw[mLocF_eq]at this
  simpa using this
 have key: ∀ s:St,s.1.length+wt52 (L,c,())<=1099511627776->(lcB L L.length 0).length<=11*L.length:=by
  intro s hs
  have hs:s.1.length+(20+11*L.length+mWt c)<=1099511627776:=hs
  exact h1 (by omega) (by omega)
 have lc:(lcB L L.length 0).length<=11*L.length:=by
  have: ∀ (k i:Nat),L.length<=i+k->i<=L.length->(lcB L k i).length<=11*(L.length - i):=by
   intro k
   induction k with
   |zero=>intro i _ _;exact Nat.zero_le _
   |succ k ih=>
    intro i a b
    unfold lcB
    split
    ·rename_i hi
     obtain⟨r1,r2⟩:=mRun_le L i hi
     have:=ih (i+mRun L (i:Int)) (by omega) r2
     have:=nb_len (mRun L (i:Int):Int)
     simp only[List.length_append,List.length_cons,List.length_nil]
     omega
    ·exact Nat.zero_le _
  simpa using this L.length 0 (by omega) (by omega)
 have cl:(cdB (L,c)).length<=10+11*L.length+mWt c:=by
  have:=hw.1
  unfold cdB
  simp only[List.length_append]
  omega
 refine⟨?_,fun s hs α K=>?_⟩
 ·have:=nb_len ((cdB (L,c)).length:Int)
  show _<=20+11*L.length+mWt c
  simp only[List.length_append]
  omega
 ·have hs':s.1.length+(20+11*L.length+mWt c)<=1099511627776:=hs
  have hL:L.length<=1099511627776:=by omega
  have e1:mNums ([],false) [mRuns L 0]=(nb (mRuns L 0),!(nOk (mRuns L 0))):=by
   rw[mNums_eq]
   show([]++(nb _++[]),_)=_
   simp
  have e2:mLoc (nb (mRuns L 0),!(nOk (mRuns L 0))) L=(nb (mRuns L 0)++lcB L L.length 0,!(nOk (mRuns L 0))|| !(lcP L L.length 0)):=by
   unfold mLoc
   rw[mLocF_eq]
  have c1:(nb (mRuns L 0)).length+11*L.length<=1099511627776:=by omega
  have c2:(nb (mRuns L 0)++lcB L L.length 0).length+mWt c<=1099511627776:=by simp only[List.length_append];omega
  have e4:(nb (mRuns L 0)++lcB L L.length 0)++mWrB c=cdB (L,c):=by
   unfold cdB
   rw[List.append_assoc]
  have e5:((!(nOk (mRuns L 0))|| !(lcP L L.length 0))|| !(decide (mWrE c=0)))= !(cdP (L,c)):=by
   unfold cdP
   generalize nOk (mRuns L 0)=u1
   generalize lcP L L.length 0=u2
   generalize decide (mWrE c=0)=u3
   cases u1<;>cases u2<;>cases u3<;>rfl
  have e3: ∀ (α:Type) (K:St->Option α),wT (okC c) (mWt c) (F50 (c,())) α (nb (mRuns L 0)++lcB L L.length 0,!(nOk (mRuns L 0))|| !(lcP L L.length 0)) K=K (cdB (L,c),!(cdP (L,c))):=fun α K=>by
   rw[(wT_wx hw h).2 (nb (mRuns L 0)++lcB L L.length 0,!(nOk (mRuns L 0))|| !(lcP L L.length 0)) c2]
   exact congrArg K (Prod.ext e4 e5)
  have c0:decide (([]:List Int).length+10*[mRuns L 0].length<=1099511627776)=true:=decide_eq_true (by simp only[List.length_cons,List.length_nil];omega)
  have k1:((decide ((L.length:Int)=(L.length:Int))&&decide ((0:Int)=0))&&decide (L.length<=1099511627776))=true:=by
   rw[Bool.and_eq_true,Bool.and_eq_true]
   exact⟨⟨decide_eq_true rfl,decide_eq_true rfl⟩,decide_eq_true hL⟩
  have k2:((decide ((0:Int)=0)&&decide (L.length<=1099511627776))&&decide ((nb (mRuns L 0)).length+11*L.length<=1099511627776))=true:=by
   rw[Bool.and_eq_true,Bool.and_eq_true]
   exact⟨⟨decide_eq_true rfl,decide_eq_true hL⟩,decide_eq_true c1⟩
  have e6:=((wMust_wx (!(!(cdP (L,c))))).seq ((wNums_wx [((cdB (L,c)).length:Int)]).seq (wApp_wx (cdB (L,c))))).2 (s.1,s.2|| !decide ((L.length:Int)<=512)) (by
   show s.1.length+_<=_
   simp only[List.length_cons,List.length_nil]
   omega) α K
  show ckO ((decide ((L.length:Int)=(L.length:Int))&&decide ((0:Int)=0))&&decide (L.length<=1099511627776)) (ckO (decide (([]:List Int).length+10*[mRuns L 0].length<=1099511627776)) (ckO ((decide ((0:Int)=0)&&decide (L.length<=1099511627776))&&decide ((mNums ([],false) [mRuns L 0]).1.length+11*L.length<=1099511627776)) (wT (okC c) (mWt c) (F50 (c,())) α (mLoc (mNums ([],false) [mRuns L 0]) L) fun q=>wMust (!q.2) α (s.1,s.2|| !decide ((L.length:Int)<=512)) fun s=>wNums [(q.1.length:Int)] α s fun s=>wApp q.1 α s K)))=_
  rw[e1,e2,e3,k1,k2,c0]
  unfold ckO
  rw[cond_true,cond_true,cond_true]
  refine Eq.trans e6 ?_
  congr 2
  ·show s.1++([]++((nb _++[])++cdB (L,c)))=_
   simp
  ·show((s.2|| !decide ((L.length:Int)<=512))|| !(!(!(cdP (L,c)))&&((nOk _&&true)&&true)))=_
   generalize decide ((L.length:Int)<=512)=u1
   generalize nOk ((cdB (L,c)).length:Int)=u2
   cases s.2<;>cases u1<;>cases cdP (L,c)<;>cases u2<;>rfl
def A52x:Itx A52:=⟨fun x=>nb ((cdB x).length:Int)++cdB x,fun x=>decide ((x.1.length:Int)<=512)&&(cdP x&&nOk ((cdB x).length:Int)),fun x h=>F52_wx x h⟩
def enB1(V:ByteArray->Bool)(y:denT tM):List Int:=secB A30x 1 y.1++(secB (A35x V) 2 y.2.1++(secB A38x 3 y.2.2.1++(secB A40x 4 y.2.2.2.1++(secB A42x 5 y.2.2.2.2.1++(secB A44x 6 y.2.2.2.2.2.1++secB (A46x V) 7 y.2.2.2.2.2.2.1)))))
def enB3(y:denT tM):List Int:=secB A49x 9 y.2.2.2.2.2.2.2.2.1++(secB A52x 10 y.2.2.2.2.2.2.2.2.2.1++secB A54x 11 y.2.2.2.2.2.2.2.2.2.2.1)
def stB(n:Int):List Int:=bif decide (0<=n)then 8::(nb ((nb n).length:Int)++nb n)else []
def enP1(V:ByteArray->Bool)(y:denT tM):Bool:=secP A30x 256 y.1&&(secP (A35x V) 512 y.2.1&&(secP A38x 512 y.2.2.1&&(secP A40x 512 y.2.2.2.1&&(secP A42x 512 y.2.2.2.2.1&&(secP A44x 512 y.2.2.2.2.2.1&&secP (A46x V) 512 y.2.2.2.2.2.2.1)))))
def enP3(y:denT tM):Bool:=secP A49x 512 y.2.2.2.2.2.2.2.2.1&&(secP A52x 512 y.2.2.2.2.2.2.2.2.2.1&&secP A54x 512 y.2.2.2.2.2.2.2.2.2.2.1)
def stP(n:Int):Bool:=decide (-1<=n)&&bif decide (0<=n)then nOk n&&nOk ((nb n).length:Int)else true
def enP(V:ByteArray->Bool)(y:denT tM):Bool:=decide ((y.2.2.1.length:Int)=(y.2.2.2.2.2.2.2.2.2.1.length:Int))&&(enP1 V y&&(stP y.2.2.2.2.2.2.2.1&&enP3 y))
def enB(V:ByteArray->Bool)(y:denT tM):List Int:=enB1 V y++(stB y.2.2.2.2.2.2.2.1++enB3 y)
theorem wStart_wx(n:Int):Wx 21 (wStart n) (8::(nb ((nb n).length:Int)++nb n)) (nOk n&&nOk ((nb n).length:Int)):=by
 have hn:=nb_len n
 have h:=F47_wx 8 (nb n) (!(nOk n))
 refine⟨Nat.le_trans h.1 (by omega),fun s hs α K=>?_⟩
 have e1:mNums ([],false) [n]=(nb n,!(nOk n)):=by
  rw[mNums_eq]
  show([]++(nb _++[]),_)=_
  simp
 show ckO (decide (([]:List Int).length+10*[n].length<=1099511627776)) (wT true (wt47 (8,(mNums ([],false) [n]).1,(mNums ([],false) [n]).2,())) (F47 (8,(mNums ([],false) [n]).1,(mNums ([],false) [n]).2,())) α s K)=_
 rw[e1]
 have c:s.1.length+wt47 (8,nb n,!(nOk n),())<=1099511627776:=by
  show s.1.length+(0+(1+(10+(nb n).length)))<=_
  omega
 show wT true (wt47 (8,nb n,!(nOk n),())) (F47 (8,nb n,!(nOk n),())) α s K=_
 unfold wT
 rw[decide_eq_true c,h.mw (by omega)]
 show K _=_
 congr 2
 generalize nOk n=u1
 generalize nOk ((nb n).length:Int)=u2
 cases s.2<;>cases u1<;>cases u2<;>rfl
theorem wSec_wx{t:Ty}{A:Item (den t)}(B:Itx A)(id most:Int)(l:List (den t))(h:allB A.ok l=true):Wx (21+wtL A.wt l) (wSec A id most l) (secB B id l) (secP B most l):=wT_wx (FS_wx B id most l h) h
theorem F18b_wx(y:denT tM)(h1:allB A49.ok y.2.2.2.2.2.2.2.2.1=true)(h2:allB A52.ok y.2.2.2.2.2.2.2.2.2.1=true)(h3:allB A54.ok y.2.2.2.2.2.2.2.2.2.2.1=true):Wx (wt18b y) (F18b y) (enB3 y) (enP3 y):=
 (wSec_wx A49x 9 512 _ h1).seq ((wSec_wx A52x 10 512 _ h2).seq (wSec_wx A54x 11 512 _ h3))
theorem F18_wx(V:ByteArray->Bool)(y:denT tM)(h:okM V y=true):Wx (wt18 V y) (F18 V y) (enB V y) (enP V y):=by
 unfold okM at h
 simp only[Bool.and_eq_true]at h
 obtain⟨h1,h2,h3,h4,h5,h6,h7,h8,h9,h10⟩:=h
 have k9:=Wx.bif (c:=decide (0<=y.2.2.2.2.2.2.2.1)) ((wStart_wx y.2.2.2.2.2.2.2.1).seq (F18b_wx y h8 h9 h10)) ((F18b_wx y h8 h9 h10).le (m:=21+wt18b y) (Nat.le_add_left _ _))
 have k8:=(wMust_wx (decide (-1<=y.2.2.2.2.2.2.2.1))).seq k9
 have k7:=(wSec_wx (A46x V) 7 512 _ h7).seq k8
 have k6:=(wSec_wx A44x 6 512 _ h6).seq k7
 have k5:=(wSec_wx A42x 5 512 _ h5).seq k6
 have k4:=(wSec_wx A40x 4 512 _ h4).seq k5
 have k3:=(wSec_wx A38x 3 512 _ h3).seq k4
 have k2:=(wSec_wx (A35x V) 2 512 _ h2).seq k3
 have k1:=(wSec_wx A30x 1 256 _ h1).seq k2
 have k0:=(wMust_wx (decide ((y.2.2.1.length:Int)=(y.2.2.2.2.2.2.2.2.2.1.length:Int)))).seq k1
 refine Wx.eq (F:=F18 V y) k0 ?_ ?_
 ·unfold enB enB1 stB
  generalize decide (0<=y.2.2.2.2.2.2.2.1)=u
  cases u<;>simp only[cond_true,cond_false,List.nil_append,List.append_assoc]
 ·unfold enP enP1 stP
  generalize decide (0<=y.2.2.2.2.2.2.2.1)=u
  cases u<;>simp only[cond_true,cond_false,Bool.and_assoc,Bool.true_and,Bool.and_true]
theorem mEnc_eq{y:denT tM}(h:okE V y=true):mEnc V y=(s0.1++enB V y,!(enP V y)):=by
 unfold okE at h
 simp only[Bool.and_eq_true,decide_eq_true_eq]at h
 unfold mEnc
 rw[(F18_wx V y h.1).mw (s:=s0) h.2]
 rfl
end Go.Proofs.Vd

noncomputable section
variable {V:ByteArray→Bool}{cal:Go.Ab.Lf.CallN}
namespace Go.Proofs.Vd
open Go.Ab Go.Ab.Lf
set_option maxRecDepth 100000
abbrev ti86:List Ty:=[.sli tSig,.sli tImp,.sli i64,.sli tLim,.sli tLim,.sli tGlo,.sli tExp,i64,.sli tEle,.sli tCod,.sli tDat,.sli i64,.sli i64,.sli tBlk,.bool,i64,i64,i64,u64,u64,.sli i64]
abbrev to86:List Ty:=[.sli tSig,.sli tImp,.sli i64,.sli tLim,.sli tLim,.sli tGlo,.sli tExp,i64,.sli tEle,.sli tCod,.sli tDat,.sli i64,.sli i64,.sli tBlk,.bool]
def e86:List (Nat×Fsp):=[(72,s72),(73,s73),(76,s76)]
theorem e86_ok(W:WorldC V cal):EnOk cal (e86):=(.cons (s72_ok W.toWorld) (.cons (s73_ok W.toWorld) (.cons (s76_ok W.toWorld) .nil)))
def t86(x:denT ti86):Lf.T (List Pl):=fnT (Ps [pWk 0,pI]) [14] (Ps [.tu .nil,pWk 14]) (fun _=>none) Tryd.x86 3 (inD (e86) 3) (ofT ti86 x)
def k86(x:denT ti86):Bool:=okV1 to86 (t86 x)
def m86(x:denT ti86):denT to86:=outV1 to86 (t86 x)
def s86:Fsp:=mkF (Ps [pWk 0,pI]) [14] (Ps [.tu .nil,pWk 14]) ti86 to86 fun x=>.ck (k86 x) (.ok (m86 x))
theorem s86_ok(W:WorldC V cal):(s86).Ok 86 cal:=
 auto_ok (W.toWorld.in (e86_ok W) 3) (W.toWorld.st 86 _ rfl) rfl (okL_none _) (m:=3) rfl (fun _=>rfl) (fun _=>rfl)
abbrev ti850:List Ty:=[.sli tSig,.sli tImp,.sli i64,.sli tLim,.sli tLim,.sli tGlo,.sli tExp,i64,.sli tEle,.sli tCod,.sli tDat,.sli i64,.sli i64,.sli tBlk,.bool,.sli i64,.sli i64,i64]
abbrev to850_0:List Ty:=[.sli tSig,.sli tImp,.sli i64,.sli tLim,.sli tLim,.sli tGlo,.sli tExp,i64,.sli tEle,.sli tCod,.sli tDat,.sli i64,.sli i64,.sli tBlk,.bool,.sli i64]
def l850:Lop:=⟨0,lpOf Tryd.x85.code 0,[0,1,4,5],(Ps [pWk 14,.im i64,.ow i64,.n .i64]),[⟨.brk,[0,4],Ps [pWk 14,.ow i64]⟩]⟩
def e850:List (Nat×Fsp):=[(73,s73)]
theorem e850_ok(W:WorldC V cal):EnOk cal (e850):=(.cons (s73_ok W.toWorld) .nil)
def f850:List Pl->Lf.T Rs:=l850.step (fun _=>none) (inD (e850) 3) 3
def c850:CdR:=mkL1 l850 (f850) ti850 to850_0
theorem c850_ok(W:WorldC V cal):SimD Rx.w (c850) (fun n d=>aCd (cal n d) n (.bl 0 (.lp l850.body))):=mkL1_ok (W.toWorld.in (e850_ok W) 3) (okL_none _) (m:=3) ti850 to850_0
def L85:Nat->Option CdR:=pcL [(0,c850)]
abbrev ti85:List Ty:=[.sli tSig,.sli tImp,.sli i64,.sli tLim,.sli tLim,.sli tGlo,.sli tExp,i64,.sli tEle,.sli tCod,.sli tDat,.sli i64,.sli i64,.sli tBlk,.bool,.sli i64]
abbrev to85:List Ty:=[.sli tSig,.sli tImp,.sli i64,.sli tLim,.sli tLim,.sli tGlo,.sli tExp,i64,.sli tEle,.sli tCod,.sli tDat,.sli i64,.sli i64,.sli tBlk,.bool]
def e85:List (Nat×Fsp):=[(72,s72)]
theorem e85_ok(W:WorldC V cal):EnOk cal (e85):=(.cons (s72_ok W.toWorld) .nil)
def t85(x:denT ti85):Lf.T (List Pl):=fnT (Ps [pWk 0,.im i64]) [14] (Ps [.tu .nil,pWk 14]) L85 Tryd.x85 18 (inD (e85) 18) (ofT ti85 x)
def k85(x:denT ti85):Bool:=okV1 to85 (t85 x)
def m85(x:denT ti85):denT to85:=outV1 to85 (t85 x)
def s85:Fsp:=mkF (Ps [pWk 0,.im i64]) [14] (Ps [.tu .nil,pWk 14]) ti85 to85 fun x=>.ck (k85 x) (.ok (m85 x))
theorem s85_ok(W:WorldC V cal):(s85).Ok 85 cal:=
 auto_ok (W.toWorld.in (e85_ok W) 18) (W.toWorld.st 85 _ rfl) rfl (PcOk.okL (.cons (b:=l850.body) (by kernel_rfl) (c850_ok W) .nil)) (m:=18) rfl (fun _=>rfl) (fun _=>rfl)
abbrev ti771:List Ty:=[.sli tSig,.sli tImp,.sli i64,.sli tLim,.sli tLim,.sli tGlo,.sli tExp,i64,.sli tEle,.sli tCod,.sli tDat,.sli i64,.sli i64,.sli tBlk,.bool,.sli i64,.sli i64,i64,i64]
abbrev to771_0:List Ty:=[.sli tSig,.sli tImp,.sli i64,.sli tLim,.sli tLim,.sli tGlo,.sli tExp,i64,.sli tEle,.sli tCod,.sli tDat,.sli i64,.sli i64,.sli tBlk,.bool,.sli i64]
def l771:Lop:=⟨1,lpOf Tryd.x77.code 1,[0,5,51,52,53],(Ps [pWk 14,.im i64,.im i64,.n .i64,.n .i64]),[⟨.brk,[0,5],Ps [pWk 14,.im i64]⟩]⟩
def e771:List (Nat×Fsp):=[(76,s76),(84,s84),(85,s85)]
theorem e771_ok(W:WorldC V cal):EnOk cal (e771):=(.cons (s76_ok W.toWorld) (.cons (s84_ok W.toWorld) (.cons (s85_ok W) .nil)))
def f771:List Pl->Lf.T Rs:=l771.step (fun _=>none) (inD (e771) 3) 3
def c771:CdR:=mkL1 l771 (f771) ti771 to771_0
theorem c771_ok(W:WorldC V cal):SimD Rx.w (c771) (fun n d=>aCd (cal n d) n (.bl 1 (.lp l771.body))):=mkL1_ok (W.toWorld.in (e771_ok W) 3) (okL_none _) (m:=3) ti771 to771_0
def L77:Nat->Option CdR:=pcL [(1,c771)]
abbrev ti77:List Ty:=[.sli tSig,.sli tImp,.sli i64,.sli tLim,.sli tLim,.sli tGlo,.sli tExp,i64,.sli tEle,.sli tCod,.sli tDat,.sli i64,.sli i64,.sli tBlk,.bool,i64,i64,i64,u64,u64,.sli i64]
abbrev to77:List Ty:=[.sli tSig,.sli tImp,.sli i64,.sli tLim,.sli tLim,.sli tGlo,.sli tExp,i64,.sli tEle,.sli tCod,.sli tDat,.sli i64,.sli i64,.sli tBlk,.bool]
def e77:List (Nat×Fsp):=[(71,s71),(72,s72),(73,s73),(83,s83),(84,s84),(86,s86)]
theorem e77_ok(W:WorldC V cal):EnOk cal (e77):=(.cons (s71_ok W.toWorld) (.cons (s72_ok W.toWorld) (.cons (s73_ok W.toWorld) (.cons (s83_ok W.toWorld) (.cons (s84_ok W.toWorld) (.cons (s86_ok W) .nil))))))
def t77(x:denT ti77):Lf.T (List Pl):=fnT (Ps [pWk 0,pI]) [14] (Ps [.tu .nil,pWk 14]) L77 Tryd.x77 3 (inD (e77) 3) (ofT ti77 x)
def k77(x:denT ti77):Bool:=okV1 to77 (t77 x)
def m77(x:denT ti77):denT to77:=outV1 to77 (t77 x)
def s77:Fsp:=mkF (Ps [pWk 0,pI]) [14] (Ps [.tu .nil,pWk 14]) ti77 to77 fun x=>.ck (k77 x) (.ok (m77 x))
theorem s77_ok(W:WorldC V cal):(s77).Ok 77 cal:=
 auto_ok (W.toWorld.in (e77_ok W) 3) (W.toWorld.st 77 _ rfl) rfl (PcOk.okL (.cons (b:=l771.body) (by kernel_rfl) (c771_ok W) .nil)) (m:=3) rfl (fun _=>rfl) (fun _=>rfl)
abbrev ti75:List Ty:=[.sli tSig,.sli tImp,.sli i64,.sli tLim,.sli tLim,.sli tGlo,.sli tExp,i64,.sli tEle,.sli tCod,.sli tDat,.sli i64,.sli i64,.sli tBlk,.bool,i64]
abbrev to75:List Ty:=[.sli tSig,.sli tImp,.sli i64,.sli tLim,.sli tLim,.sli tGlo,.sli tExp,i64,.sli tEle,.sli tCod,.sli tDat,.sli i64,.sli i64,.sli tBlk,.bool]
def e75:List (Nat×Fsp):=[(60,s60),(71,s71),(72,s72),(76,s76),(82,s82)]
theorem e75_ok(W:WorldC V cal):EnOk cal (e75):=(.cons (s60_ok W.toWorld) (.cons (s71_ok W.toWorld) (.cons (s72_ok W.toWorld) (.cons (s76_ok W.toWorld) (.cons (s82_ok W.toWorld) .nil)))))
def t75(x:denT ti75):Lf.T (List Pl):=fnT (Ps [pWk 0,.n .i64]) [14] (Ps [.tu .nil,pWk 14]) (fun _=>none) Tryd.x75 3 (inD (e75) 3) (ofT ti75 x)
def k75(x:denT ti75):Bool:=okV1 to75 (t75 x)
def m75(x:denT ti75):denT to75:=outV1 to75 (t75 x)
def s75:Fsp:=mkF (Ps [pWk 0,.n .i64]) [14] (Ps [.tu .nil,pWk 14]) ti75 to75 fun x=>.ck (k75 x) (.ok (m75 x))
theorem s75_ok(W:WorldC V cal):(s75).Ok 75 cal:=
 auto_ok (W.toWorld.in (e75_ok W) 3) (W.toWorld.st 75 _ rfl) rfl (okL_none _) (m:=3) rfl (fun _=>rfl) (fun _=>rfl)
abbrev ti62:List Ty:=[.sli tSig,.sli tImp,.sli i64,.sli tLim,.sli tLim,.sli tGlo,.sli tExp,i64,.sli tEle,.sli tCod,.sli tDat,.sli i64,.sli i64,.sli tBlk,.bool,i64,i64,i64,u64,u64,.sli i64]
abbrev to62:List Ty:=[.sli tSig,.sli tImp,.sli i64,.sli tLim,.sli tLim,.sli tGlo,.sli tExp,i64,.sli tEle,.sli tCod,.sli tDat,.sli i64,.sli i64,.sli tBlk,.bool]
def e62:List (Nat×Fsp):=[(10,s10),(11,s11),(21,s21),(60,s60),(70,s70),(71,s71),(72,s72),(73,s73),(74,s74),(75,s75),(76,s76),(77,s77)]
theorem e62_ok(W:WorldC V cal):EnOk cal (e62):=(.cons (s10_ok W) (.cons (s11_ok W.toWorld) (.cons (s21_ok W) (.cons (s60_ok W.toWorld) (.cons (s70_ok W.toWorld) (.cons (s71_ok W.toWorld) (.cons (s72_ok W.toWorld) (.cons (s73_ok W.toWorld) (.cons (s74_ok W) (.cons (s75_ok W) (.cons (s76_ok W.toWorld) (.cons (s77_ok W) .nil))))))))))))
def t62(x:denT ti62):Lf.T (List Pl):=fnT (Ps [pWk 0,pI]) [14] (Ps [.tu .nil,pWk 14]) (fun _=>none) Tryd.x62 3 (inD (e62) 3) (ofT ti62 x)
def k62(x:denT ti62):Bool:=okV1 to62 (t62 x)
def m62(x:denT ti62):denT to62:=outV1 to62 (t62 x)
def s62:Fsp:=mkF (Ps [pWk 0,pI]) [14] (Ps [.tu .nil,pWk 14]) ti62 to62 fun x=>.ck (k62 x) (.ok (m62 x))
theorem s62_ok(W:WorldC V cal):(s62).Ok 62 cal:=
 auto_ok (W.toWorld.in (e62_ok W) 3) (W.toWorld.st 62 _ rfl) rfl (okL_none _) (m:=3) rfl (fun _=>rfl) (fun _=>rfl)
end Go.Proofs.Vd

noncomputable section
variable {V:ByteArray→Bool}{cal:Go.Ab.Lf.CallN}
namespace Go.Proofs.Vd
open Go.Ab Go.Ab.Lf
set_option maxRecDepth 100000
abbrev ti590:List Ty:=[.sli (.sli i64),i64,.sli (.sli i64),i64,i64]
abbrev to590_0:List Ty:=[.sli (.sli i64),i64]
def l590:Lop:=⟨0,lpOf Tryd.x59.code 0,[0,3,9,10,11],(Ps [.im (.sli i64),.n .i64,.im (.sli i64),.n .i64,.n .i64]),[⟨.brk,[0,3],Ps [.im (.sli i64),.n .i64]⟩]⟩
def e590:List (Nat×Fsp):=[]
theorem e590_ok(W:WorldC V cal):EnOk cal (e590):=.nil
def f590:List Pl->Lf.T Rs:=l590.step (fun _=>none) (inD (e590) 3) 3
def c590:CdR:=mkL1 l590 (f590) ti590 to590_0
theorem c590_ok(W:WorldC V cal):SimD Rx.w (c590) (fun n d=>aCd (cal n d) n (.bl 0 (.lp l590.body))):=mkL1_ok (W.toWorld.in (e590_ok W) 3) (okL_none _) (m:=3) ti590 to590_0
abbrev ti592:List Ty:=[.sli i64,.sli (.sli i64),i64,i64]
abbrev to592_0:List Ty:=[.sli i64]
def l592:Lop:=⟨2,lpOf Tryd.x59.code 2,[6,25,26,27],(Ps [.ow i64,.im (.sli i64),.n .i64,.n .i64]),[⟨.brk,[6],Ps [.ow i64]⟩]⟩
def e592:List (Nat×Fsp):=[]
theorem e592_ok(W:WorldC V cal):EnOk cal (e592):=.nil
def f592:List Pl->Lf.T Rs:=l592.step (fun _=>none) (inD (e592) 3) 3
def c592:CdR:=mkL1 l592 (f592) ti592 to592_0
theorem c592_ok(W:WorldC V cal):SimD Rx.w (c592) (fun n d=>aCd (cal n d) n (.bl 2 (.lp l592.body))):=mkL1_ok (W.toWorld.in (e592_ok W) 3) (okL_none _) (m:=3) ti592 to592_0
def L59:Nat->Option CdR:=pcL [(0,c590),(2,c592)]
abbrev ti59:List Ty:=[.sli (.sli i64)]
abbrev to59:List Ty:=[.sli i64]
def e59:List (Nat×Fsp):=[]
theorem e59_ok(W:WorldC V cal):EnOk cal (e59):=.nil
def t59(x:denT ti59):Lf.T (List Pl):=fnT (Ps [.im (.sli i64)]) [] (Ps [.ow i64]) L59 Tryd.x59 3 (inD (e59) 3) (ofT ti59 x)
def k59(x:denT ti59):Bool:=okV1 to59 (t59 x)
def m59(x:denT ti59):denT to59:=outV1 to59 (t59 x)
def s59:Fsp:=mkF (Ps [.im (.sli i64)]) [] (Ps [.ow i64]) ti59 to59 fun x=>.ck (k59 x) (.ok (m59 x))
theorem s59_ok(W:WorldC V cal):(s59).Ok 59 cal:=
 auto_ok (W.toWorld.in (e59_ok W) 3) (W.toWorld.st 59 _ rfl) rfl (PcOk.okL (.cons (b:=l590.body) (by kernel_rfl) (c590_ok W) (.cons (b:=l592.body) (by kernel_rfl) (c592_ok W) .nil))) (m:=3) rfl (fun _=>rfl) (fun _=>rfl)
abbrev ti550:List Ty:=[.sli (.sli tLim),i64,.sli (.sli tLim),i64,i64]
abbrev to550_0:List Ty:=[.sli (.sli tLim),i64]
def l550:Lop:=⟨0,lpOf Tryd.x55.code 0,[0,3,9,10,11],(Ps [.im (.sli tLim),.n .i64,.im (.sli tLim),.n .i64,.n .i64]),[⟨.brk,[0,3],Ps [.im (.sli tLim),.n .i64]⟩]⟩
def e550:List (Nat×Fsp):=[]
theorem e550_ok(W:WorldC V cal):EnOk cal (e550):=.nil
def f550:List Pl->Lf.T Rs:=l550.step (fun _=>none) (inD (e550) 3) 3
def c550:CdR:=mkL1 l550 (f550) ti550 to550_0
theorem c550_ok(W:WorldC V cal):SimD Rx.w (c550) (fun n d=>aCd (cal n d) n (.bl 0 (.lp l550.body))):=mkL1_ok (W.toWorld.in (e550_ok W) 3) (okL_none _) (m:=3) ti550 to550_0
abbrev ti552:List Ty:=[.sli tLim,.sli (.sli tLim),i64,i64]
abbrev to552_0:List Ty:=[.sli tLim]
def l552:Lop:=⟨2,lpOf Tryd.x55.code 2,[6,25,26,27],(Ps [.ow tLim,.im (.sli tLim),.n .i64,.n .i64]),[⟨.brk,[6],Ps [.ow tLim]⟩]⟩
def e552:List (Nat×Fsp):=[]
theorem e552_ok(W:WorldC V cal):EnOk cal (e552):=.nil
def f552:List Pl->Lf.T Rs:=l552.step (fun _=>none) (inD (e552) 3) 3
def c552:CdR:=mkL1 l552 (f552) ti552 to552_0
theorem c552_ok(W:WorldC V cal):SimD Rx.w (c552) (fun n d=>aCd (cal n d) n (.bl 2 (.lp l552.body))):=mkL1_ok (W.toWorld.in (e552_ok W) 3) (okL_none _) (m:=3) ti552 to552_0
def L55:Nat->Option CdR:=pcL [(0,c550),(2,c552)]
abbrev ti55:List Ty:=[.sli (.sli tLim)]
abbrev to55:List Ty:=[.sli tLim]
def e55:List (Nat×Fsp):=[]
theorem e55_ok(W:WorldC V cal):EnOk cal (e55):=.nil
def t55(x:denT ti55):Lf.T (List Pl):=fnT (Ps [.im (.sli tLim)]) [] (Ps [.ow tLim]) L55 Tryd.x55 3 (inD (e55) 3) (ofT ti55 x)
def k55(x:denT ti55):Bool:=okV1 to55 (t55 x)
def m55(x:denT ti55):denT to55:=outV1 to55 (t55 x)
def s55:Fsp:=mkF (Ps [.im (.sli tLim)]) [] (Ps [.ow tLim]) ti55 to55 fun x=>.ck (k55 x) (.ok (m55 x))
theorem s55_ok(W:WorldC V cal):(s55).Ok 55 cal:=
 auto_ok (W.toWorld.in (e55_ok W) 3) (W.toWorld.st 55 _ rfl) rfl (PcOk.okL (.cons (b:=l550.body) (by kernel_rfl) (c550_ok W) (.cons (b:=l552.body) (by kernel_rfl) (c552_ok W) .nil))) (m:=3) rfl (fun _=>rfl) (fun _=>rfl)
abbrev tMk:Ty:=.pair .bool (.pair i64 i64)
abbrev pMb:Pat:=.pt 0 (Ps [.im tSig,.im tImp,.im i64,.im tLim,.im tLim,.im tGlo,.im tExp,.n .i64,.im tEle,.im tCod,.im tDat])
abbrev ti202:List Ty:=[.sli tSig,.sli tImp,.sli i64,.sli tLim,.sli tLim,.sli tGlo,.sli tExp,i64,.sli tEle,.sli tCod,.sli tDat,.sli i64,.sli i64,.sli tBlk,.bool,.sli tMk,i64,i64,i64,i64,u64,u64,.sli i64,.sli tI,i64,i64,i64,i64,i64]
abbrev to202_0:List Ty:=[.sli tSig,.sli tImp,.sli i64,.sli tLim,.sli tLim,.sli tGlo,.sli tExp,i64,.sli tEle,.sli tCod,.sli tDat,.sli i64,.sli i64,.sli tBlk,.bool,.sli tMk,i64,i64,i64,i64,u64,u64,.sli i64,.sli tI,i64,i64,i64]
def l202:Lop:=⟨2,lpOf Tryd.x20.code 2,[8,9,11,12,57,58,59,10,80,81,82],(Ps [pWk 0,.ow tMk,.n .i64,pBI,.im tI,.n .i64,.n .i64,.n .i64,.oo 12 1,.n .i64,.n .i64]),[⟨.brk,[8,9,11,12,57,58,59,10],Ps [pWk 0,.ow tMk,.n .i64,pBI,.im tI,.n .i64,.n .i64,.n .i64]⟩]⟩
def e202:List (Nat×Fsp):=[]
theorem e202_ok(W:WorldC V cal):EnOk cal (e202):=.nil
def f202:List Pl->Lf.T Rs:=l202.step (fun _=>none) (inD (e202) 3) 3
def c202:CdR:=mkL1 l202 (f202) ti202 to202_0
theorem c202_ok(W:WorldC V cal):SimD Rx.w (c202) (fun n d=>aCd (cal n d) n (.bl 2 (.lp l202.body))):=mkL1_ok (W.toWorld.in (e202_ok W) 3) (okL_none _) (m:=3) ti202 to202_0
def L200:Nat->Option CdR:=pcL [(2,c202)]
abbrev ti200:List Ty:=[.sli tSig,.sli tImp,.sli i64,.sli tLim,.sli tLim,.sli tGlo,.sli tExp,i64,.sli tEle,.sli tCod,.sli tDat,.sli i64,.sli i64,.sli tBlk,.bool,.sli tMk,.sli tI,i64,i64]
abbrev to200_0:List Ty:=[.sli tMk]
abbrev to200_1:List Ty:=[.sli tMk,.bool]
def l200:Lop:=⟨0,lpOf Tryd.x20.code 0,[8,9,57,58,59],(Ps [pWk 0,.ow tMk,.im tI,.n .i64,.n .i64]),[⟨.brk,[9],Ps [.ow tMk]⟩,⟨.rt,[4,5],Ps [.ow tMk,.bo]⟩]⟩
def e200:List (Nat×Fsp):=[(62,s62)]
theorem e200_ok(W:WorldC V cal):EnOk cal (e200):=(.cons (s62_ok W) .nil)
def f200:List Pl->Lf.T Rs:=l200.step L200 (inD (e200) 3) 3
def c200:CdR:=mkL2 l200 (f200) ti200 to200_0 to200_1
theorem c200_ok(W:WorldC V cal):SimD Rx.w (c200) (fun n d=>aCd (cal n d) n (.bl 0 (.lp l200.body))):=mkL2_ok (W.toWorld.in (e200_ok W) 3) (PcOk.okL (.cons (b:=l202.body) (by kernel_rfl) (c202_ok W) .nil)) (m:=3) ti200 to200_0 to200_1
def L20:Nat->Option CdR:=pcL [(0,c200)]
abbrev ti20:List Ty:=[.sli tSig,.sli tImp,.sli i64,.sli tLim,.sli tLim,.sli tGlo,.sli tExp,i64,.sli tEle,.sli tCod,.sli tDat,i64]
abbrev to20:List Ty:=[.sli tMk,.bool]
def e20:List (Nat×Fsp):=[(10,s10),(59,s59),(60,s60)]
theorem e20_ok(W:WorldC V cal):EnOk cal (e20):=(.cons (s10_ok W) (.cons (s59_ok W) (.cons (s60_ok W.toWorld) .nil)))
def t20(x:denT ti20):Lf.T (List Pl):=fnT (Ps [pM,.n .i64]) [] (Ps [.tu (Ps [.ow tMk,.bo])]) L20 Tryd.x20 3 (inD (e20) 3) (ofT ti20 x)
def k20(x:denT ti20):Bool:=okV1 to20 (t20 x)
def m20(x:denT ti20):denT to20:=outV1 to20 (t20 x)
def s20:Fsp:=mkF (Ps [pM,.n .i64]) [] (Ps [.tu (Ps [.ow tMk,.bo])]) ti20 to20 fun x=>.ck (k20 x) (.ok (m20 x))
theorem s20_ok(W:WorldC V cal):(s20).Ok 20 cal:=
 auto_ok (W.toWorld.in (e20_ok W) 3) (W.toWorld.st 20 _ rfl) rfl (PcOk.okL (.cons (b:=l200.body) (by kernel_rfl) (c200_ok W) .nil)) (m:=3) rfl (fun _=>rfl) (fun _=>rfl)
abbrev ti582:List Ty:=[i64,.sli tSig,.sli tImp,.sli i64,.sli tLim,.sli tLim,.sli tGlo,.sli tExp,i64,.sli tEle,.sli tCod,.sli tDat,.sli tEle,i64,i64,.sli i64,i64,i64]
abbrev to582_0:List Ty:=[i64,.sli tSig,.sli tImp,.sli i64,.sli tLim,.sli tLim,.sli tGlo,.sli tExp,i64,.sli tEle,.sli tCod,.sli tDat,.sli tEle,i64,i64]
abbrev to582_1:List Ty:=[.bool]
def l582:Lop:=⟨2,lpOf Tryd.x58.code 2,[1,2,12,13,14,29,30,31],(Ps [.n .i64,pMb,.im tEle,.n .i64,.n .i64,.im i64,.n .i64,.n .i64]),[⟨.brk,[1,2,12,13,14],Ps [.n .i64,pMb,.im tEle,.n .i64,.n .i64]⟩,⟨.rt,[4],Ps [.bo]⟩]⟩
def e582:List (Nat×Fsp):=[]
theorem e582_ok(W:WorldC V cal):EnOk cal (e582):=.nil
def f582:List Pl->Lf.T Rs:=l582.step (fun _=>none) (inD (e582) 3) 3
def c582:CdR:=mkL2 l582 (f582) ti582 to582_0 to582_1
theorem c582_ok(W:WorldC V cal):SimD Rx.w (c582) (fun n d=>aCd (cal n d) n (.bl 2 (.lp l582.body))):=mkL2_ok (W.toWorld.in (e582_ok W) 3) (okL_none _) (m:=3) ti582 to582_0 to582_1
def L580:Nat->Option CdR:=pcL [(2,c582)]
abbrev ti580:List Ty:=[i64,.sli tSig,.sli tImp,.sli i64,.sli tLim,.sli tLim,.sli tGlo,.sli tExp,i64,.sli tEle,.sli tCod,.sli tDat,.sli tEle,i64,i64]
abbrev to580_0:List Ty:=[.sli tSig,.sli tImp,.sli i64,.sli tLim,.sli tLim,.sli tGlo,.sli tExp,i64,.sli tEle,.sli tCod,.sli tDat]
abbrev to580_1:List Ty:=[.bool]
def l580:Lop:=⟨0,lpOf Tryd.x58.code 0,[1,2,12,13,14],(Ps [.n .i64,pMb,.im tEle,.n .i64,.n .i64]),[⟨.brk,[2],Ps [pMb]⟩,⟨.rt,[4],Ps [.bo]⟩]⟩
def e580:List (Nat×Fsp):=[(56,s56)]
theorem e580_ok(W:WorldC V cal):EnOk cal (e580):=(.cons (s56_ok W.toWorld) .nil)
def f580:List Pl->Lf.T Rs:=l580.step L580 (inD (e580) 3) 3
def c580:CdR:=mkL2 l580 (f580) ti580 to580_0 to580_1
theorem c580_ok(W:WorldC V cal):SimD Rx.w (c580) (fun n d=>aCd (cal n d) n (.bl 0 (.lp l580.body))):=mkL2_ok (W.toWorld.in (e580_ok W) 3) (PcOk.okL (.cons (b:=l582.body) (by kernel_rfl) (c582_ok W) .nil)) (m:=3) ti580 to580_0 to580_1
abbrev ti584:List Ty:=[.sli tSig,.sli tImp,.sli i64,.sli tLim,.sli tLim,.sli tGlo,.sli tExp,i64,.sli tEle,.sli tCod,.sli tDat,.sli tDat,i64,i64]
abbrev to584_0:List Ty:=[]
abbrev to584_1:List Ty:=[.bool]
def l584:Lop:=⟨4,lpOf Tryd.x58.code 4,[2,41,42,43],(Ps [pMb,.im tDat,.n .i64,.n .i64]),[⟨.brk,[],.nil⟩,⟨.rt,[4],Ps [.bo]⟩]⟩
def e584:List (Nat×Fsp):=[(56,s56)]
theorem e584_ok(W:WorldC V cal):EnOk cal (e584):=(.cons (s56_ok W.toWorld) .nil)
def f584:List Pl->Lf.T Rs:=l584.step (fun _=>none) (inD (e584) 3) 3
def c584:CdR:=mkL2 l584 (f584) ti584 to584_0 to584_1
theorem c584_ok(W:WorldC V cal):SimD Rx.w (c584) (fun n d=>aCd (cal n d) n (.bl 4 (.lp l584.body))):=mkL2_ok (W.toWorld.in (e584_ok W) 3) (okL_none _) (m:=3) ti584 to584_0 to584_1
def L58:Nat->Option CdR:=pcL [(0,c580),(4,c584)]
abbrev ti58:List Ty:=[.sli tSig,.sli tImp,.sli i64,.sli tLim,.sli tLim,.sli tGlo,.sli tExp,i64,.sli tEle,.sli tCod,.sli tDat,i64]
abbrev to58:List Ty:=[.bool]
def e58:List (Nat×Fsp):=[]
theorem e58_ok(W:WorldC V cal):EnOk cal (e58):=.nil
def t58(x:denT ti58):Lf.T (List Pl):=fnT (Ps [pM,.n .i64]) [] (Ps [.bo]) L58 Tryd.x58 3 (inD (e58) 3) (ofT ti58 x)
def k58(x:denT ti58):Bool:=okV1 to58 (t58 x)
def m58(x:denT ti58):denT to58:=outV1 to58 (t58 x)
def s58:Fsp:=mkF (Ps [pM,.n .i64]) [] (Ps [.bo]) ti58 to58 fun x=>.ck (k58 x) (.ok (m58 x))
theorem s58_ok(W:WorldC V cal):(s58).Ok 58 cal:=
 auto_ok (W.toWorld.in (e58_ok W) 3) (W.toWorld.st 58 _ rfl) rfl (PcOk.okL (.cons (b:=l580.body) (by kernel_rfl) (c580_ok W) (.cons (b:=l584.body) (by kernel_rfl) (c584_ok W) .nil))) (m:=3) rfl (fun _=>rfl) (fun _=>rfl)
end Go.Proofs.Vd

noncomputable section
variable {V:ByteArray→Bool}{cal:Go.Ab.Lf.CallN}
namespace Go.Proofs.Vd
open Go.Ab Go.Ab.Lf
set_option maxRecDepth 100000
def mNmS(t:List (den tSig))(im:List (den tImp))(fs:List Int)(st:Int):Bool:=bif decide (st= -1)then true else
 bif mKindO t (mSigK im fs st)then(bif decide (((mKindS t (mSigK im fs st)).1.length:Int)=0)then decide (((mKindS t (mSigK im fs st)).2.length:Int)=0)else false)else false
def gNx(ex:List (den tExp)):Bool:=decide (ex.length<=1048576)&&allB (fun e=>decide (e.1.size<=140737488351232)) ex
def okNm(x:denT tMN):Bool:=allB (fun e=>decide (0<=e.2.1)&&decide (e.2.1<=3)) x.2.2.2.2.2.2.1&&((decide (x.2.2.2.2.2.2.2.1<9223372036854775808)&&decide (x.2.1.length<=1099511627776))&&decide (x.2.2.2.2.2.2.1.length<=1099511627776))&&gNx x.2.2.2.2.2.2.1&&gT x.1
def mNm(x:denT tMN):Bool:=bif nmAll [x.2.2.2.2.2.2.2.2.2.2.2.1,(x.2.2.2.1.length:Int),(x.2.2.2.2.1.length:Int),(x.2.2.2.2.2.1.length:Int)] x.2.2.2.2.2.2.1 then mNmS x.1 x.2.1 x.2.2.1 x.2.2.2.2.2.2.2.1 else false
def s57:Fsp:=mkF (Ps [pM,.n .i64]) [] (Ps [.bo]) tMN [.bool] fun x=>.ck (okNm x) (.ok (mNm x,()))
structure WorldN(V:ByteArray->Bool)(cal:CallN):Prop extends WorldC V cal where
 nm:s57.Ok 57 cal
abbrev ti190:List Ty:=[i64,.sli tSig,.sli tImp,.sli i64,.sli tLim,.sli tLim,.sli tGlo,.sli tExp,i64,.sli tEle,.sli tCod,.sli tDat,i64,i64]
abbrev to190_0:List Ty:=[i64,.sli tSig,.sli tImp,.sli i64,.sli tLim,.sli tLim,.sli tGlo,.sli tExp,i64,.sli tEle,.sli tCod,.sli tDat]
abbrev to190_1:List Ty:=[.bool]
def l190:Lop:=⟨0,lpOf Tryd.x19.code 0,[3,1,18,19],(Ps [.n .i64,pMb,.n .i64,.n .i64]),[⟨.brk,[3,1],Ps [.n .i64,pMb]⟩,⟨.rt,[2],Ps [.bo]⟩]⟩
def e190:List (Nat×Fsp):=[(10,s10)]
theorem e190_ok(W:WorldN V cal):EnOk cal (e190):=(.cons (s10_ok W.toWorldC) .nil)
def f190:List Pl->Lf.T Rs:=l190.step (fun _=>none) (inD (e190) 3) 3
def c190:CdR:=mkL2 l190 (f190) ti190 to190_0 to190_1
theorem c190_ok(W:WorldN V cal):SimD Rx.w (c190) (fun n d=>aCd (cal n d) n (.bl 0 (.lp l190.body))):=mkL2_ok (W.toWorld.in (e190_ok W) 3) (okL_none _) (m:=3) ti190 to190_0 to190_1
abbrev ti192:List Ty:=[i64,.sli tSig,.sli tImp,.sli i64,.sli tLim,.sli tLim,.sli tGlo,.sli tExp,i64,.sli tEle,.sli tCod,.sli tDat,.sli tLim,i64,i64]
abbrev to192_0:List Ty:=[i64,.sli tSig,.sli tImp,.sli i64,.sli tLim,.sli tLim,.sli tGlo,.sli tExp,i64,.sli tEle,.sli tCod,.sli tDat]
abbrev to192_1:List Ty:=[.bool]
def l192:Lop:=⟨2,lpOf Tryd.x19.code 2,[3,1,46,47,48],(Ps [.n .i64,pMb,.im tLim,.n .i64,.n .i64]),[⟨.brk,[3,1],Ps [.n .i64,pMb]⟩,⟨.rt,[2],Ps [.bo]⟩]⟩
def e192:List (Nat×Fsp):=[]
theorem e192_ok(W:WorldN V cal):EnOk cal (e192):=.nil
def f192:List Pl->Lf.T Rs:=l192.step (fun _=>none) (inD (e192) 3) 3
def c192:CdR:=mkL2 l192 (f192) ti192 to192_0 to192_1
theorem c192_ok(W:WorldN V cal):SimD Rx.w (c192) (fun n d=>aCd (cal n d) n (.bl 2 (.lp l192.body))):=mkL2_ok (W.toWorld.in (e192_ok W) 3) (okL_none _) (m:=3) ti192 to192_0 to192_1
abbrev ti194:List Ty:=[i64,.sli tSig,.sli tImp,.sli i64,.sli tLim,.sli tLim,.sli tGlo,.sli tExp,i64,.sli tEle,.sli tCod,.sli tDat,.sli tGlo,i64,i64]
abbrev to194_0:List Ty:=[i64,.sli tSig,.sli tImp,.sli i64,.sli tLim,.sli tLim,.sli tGlo,.sli tExp,i64,.sli tEle,.sli tCod,.sli tDat]
abbrev to194_1:List Ty:=[.bool]
def l194:Lop:=⟨4,lpOf Tryd.x19.code 4,[3,1,76,77,78],(Ps [.n .i64,pMb,.im tGlo,.n .i64,.n .i64]),[⟨.brk,[3,1],Ps [.n .i64,pMb]⟩,⟨.rt,[2],Ps [.bo]⟩]⟩
def e194:List (Nat×Fsp):=[(56,s56)]
theorem e194_ok(W:WorldN V cal):EnOk cal (e194):=(.cons (s56_ok W.toWorld) .nil)
def f194:List Pl->Lf.T Rs:=l194.step (fun _=>none) (inD (e194) 3) 3
def c194:CdR:=mkL2 l194 (f194) ti194 to194_0 to194_1
theorem c194_ok(W:WorldN V cal):SimD Rx.w (c194) (fun n d=>aCd (cal n d) n (.bl 4 (.lp l194.body))):=mkL2_ok (W.toWorld.in (e194_ok W) 3) (okL_none _) (m:=3) ti194 to194_0 to194_1
def L19:Nat->Option CdR:=pcL [(0,c190),(2,c192),(4,c194)]
abbrev ti19:List Ty:=[.sli tSig,.sli tImp,.sli i64,.sli tLim,.sli tLim,.sli tGlo,.sli tExp,i64,.sli tEle,.sli tCod,.sli tDat]
abbrev to19:List Ty:=[.bool]
def e19:List (Nat×Fsp):=[(55,s55),(57,s57),(58,s58)]
theorem e19_ok(W:WorldN V cal):EnOk cal (e19):=(.cons (s55_ok W.toWorldC) (.cons W.nm (.cons (s58_ok W.toWorldC) .nil)))
def t19(x:denT ti19):Lf.T (List Pl):=fnT (Ps [pM]) [] (Ps [.bo]) L19 Tryd.x19 3 (inD (e19) 3) (ofT ti19 x)
def k19(x:denT ti19):Bool:=okV1 to19 (t19 x)
def m19(x:denT ti19):denT to19:=outV1 to19 (t19 x)
def s19:Fsp:=mkF (Ps [pM]) [] (Ps [.bo]) ti19 to19 fun x=>.ck (k19 x) (.ok (m19 x))
theorem s19_ok(W:WorldN V cal):(s19).Ok 19 cal:=
 auto_ok (W.toWorld.in (e19_ok W) 3) (W.toWorld.st 19 _ rfl) rfl (PcOk.okL (.cons (b:=l190.body) (by kernel_rfl) (c190_ok W) (.cons (b:=l192.body) (by kernel_rfl) (c192_ok W) (.cons (b:=l194.body) (by kernel_rfl) (c194_ok W) .nil)))) (m:=3) rfl (fun _=>rfl) (fun _=>rfl)
abbrev ti8x:List Ty:=[.sli tSig,.sli tImp,.sli i64,.sli tLim,.sli tLim,.sli tGlo,.sli tExp,i64,.sli tEle,.sli tCod,.sli tDat,i64,i64]
abbrev to8x_0:List Ty:=[]
abbrev to8x_1:List Ty:=[i64]
def l8x:Lop:=⟨0,lpOf Tryd.x8.code 0,[1,21,22],(Ps [pMb,.n .i64,.n .i64]),[⟨.brk,[],.nil⟩,⟨.rt,[2],Ps [.n .i64]⟩]⟩
def e8x:List (Nat×Fsp):=[(20,s20)]
theorem e8x_ok(W:WorldN V cal):EnOk cal (e8x):=(.cons (s20_ok W.toWorldC) .nil)
def f8x:List Pl->Lf.T Rs:=l8x.step (fun _=>none) (inD (e8x) 3) 3
def c8x:CdR:=mkL2 l8x (f8x) ti8x to8x_0 to8x_1
theorem c8x_ok(W:WorldN V cal):SimD Rx.w (c8x) (fun n d=>aCd (cal n d) n (.bl 0 (.lp l8x.body))):=mkL2_ok (W.toWorld.in (e8x_ok W) 3) (okL_none _) (m:=3) ti8x to8x_0 to8x_1
def L8:Nat->Option CdR:=pcL [(0,c8x)]
abbrev ti8:List Ty:=[.sli tSig,.sli tImp,.sli i64,.sli tLim,.sli tLim,.sli tGlo,.sli tExp,i64,.sli tEle,.sli tCod,.sli tDat]
abbrev to8:List Ty:=[i64]
def e8(V:ByteArray->Bool):List (Nat×Fsp):=[(18,s18 V),(19,s19)]
theorem e8_ok(W:WorldN V cal):EnOk cal (e8 V):=(.cons (s18_ok W.toWorldV) (.cons (s19_ok W) .nil))
def t8(V:ByteArray->Bool)(x:denT ti8):Lf.T (List Pl):=fnT (Ps [pM]) [] (Ps [.n .i64]) L8 Tryd.x8 3 (inD (e8 V) 3) (ofT ti8 x)
def k8(V:ByteArray->Bool)(x:denT ti8):Bool:=okV1 to8 (t8 V x)
def m8(V:ByteArray->Bool)(x:denT ti8):denT to8:=outV1 to8 (t8 V x)
def s8(V:ByteArray->Bool):Fsp:=mkF (Ps [pM]) [] (Ps [.n .i64]) ti8 to8 fun x=>.ck (k8 V x) (.ok (m8 V x))
theorem s8_ok(W:WorldN V cal):(s8 V).Ok 8 cal:=
 auto_ok (W.toWorld.in (e8_ok W) 3) (W.toWorld.st 8 _ rfl) rfl (PcOk.okL (.cons (b:=l8x.body) (by kernel_rfl) (c8x_ok W) .nil)) (m:=3) rfl (fun _=>rfl) (fun _=>rfl)
abbrev ti9:List Ty:=[.sli tSig,.sli tImp,.sli i64,.sli tLim,.sli tLim,.sli tGlo,.sli tExp,i64,.sli tEle,.sli tCod,.sli tDat,i64]
abbrev to9:List Ty:=[.sli tMk,i64]
def e9(V:ByteArray->Bool):List (Nat×Fsp):=[(8,s8 V),(20,s20)]
theorem e9_ok(W:WorldN V cal):EnOk cal (e9 V):=(.cons (s8_ok W) (.cons (s20_ok W.toWorldC) .nil))
def t9(V:ByteArray->Bool)(x:denT ti9):Lf.T (List Pl):=fnT (Ps [pM,.n .i64]) [] (Ps [.tu (Ps [.ow tMk,.n .i64])]) (fun _=>none) Tryd.x9 3 (inD (e9 V) 3) (ofT ti9 x)
def k9(V:ByteArray->Bool)(x:denT ti9):Bool:=okV1 to9 (t9 V x)
def m9(V:ByteArray->Bool)(x:denT ti9):denT to9:=outV1 to9 (t9 V x)
def s9(V:ByteArray->Bool):Fsp:=mkF (Ps [pM,.n .i64]) [] (Ps [.tu (Ps [.ow tMk,.n .i64])]) ti9 to9 fun x=>.ck (k9 V x) (.ok (m9 V x))
theorem s9_ok(W:WorldN V cal):(s9 V).Ok 9 cal:=
 auto_ok (W.toWorld.in (e9_ok W) 3) (W.toWorld.st 9 _ rfl) rfl (okL_none _) (m:=3) rfl (fun _=>rfl) (fun _=>rfl)
end Go.Proofs.Vd
