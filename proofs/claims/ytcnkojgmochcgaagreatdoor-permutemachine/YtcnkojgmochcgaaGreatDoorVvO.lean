import Derived.Test.YtcnkojgmochcgaaGreatDoorLfN
import Derived.Test.YtcnkojgmochcgaaGreatDoorPmJ
import Derived.OpenShut
import Derived.ChangeSlices
import Derived.Test.YtcnkojgmochcgaaGreatDoorPnC
import Derived.Test.YtcnkojgmochcgaaGreatDoorAb24
noncomputable section
namespace Go.Proofs.Vq
open Go.Ab Go.Ab.Lf Go.ChangeShapes Go.WideShapes Go.ChangeAt Go.RowKit
set_option maxRecDepth 100000
def otF(P:Go.Program)(ot:Ty->Nat->Bool):List Field->Nat->Ty->Bool
 | [],_,_=>false
 |f::fs,off,T=>match fs with
  | []=>Nat.beq f.offset off&&(Nat.beq (P.cellsOf f.type) (size T)&&ot T f.type)
  | _::_=>match T with
   | .pair A B=>(Nat.beq f.offset off&&(Nat.beq (P.cellsOf f.type) (size A)&&ot A f.type))&&otF P ot fs (off+size A) B
   | _=>false
def otB(P:Go.Program):Nat->Ty->Nat->Bool
 |0,_,_=>false
 |n+1,T,t=>match P.underlying t with
  |some (.int k)=>match T with
   | .int k'=>decide (k=k')
   | _=>false
  |some .bool=>match T with
   | .bool=>true
   | _=>false
  |some .string=>match T with
   | .str=>true
   | _=>false
  |some (.slice e)=>match T with
   | .cp T'=>Nat.beq (P.cellsOf e) (size T')&&(Nat.blt 0 (size T')&&otB P n T' e)
   | _=>false
  |some (.struct fs)=>Nat.beq (P.cellsOf t) (size T)&&otF P (otB P n) fs.toList 0 T
  | _=>false
def Bd:(T:Ty)->den T->Prop
 | .int k,x=>(Lit.int k x).wf=true
 | .bool,_=>True
 | .str,x=>ByteArray.size x<=maxLen
 | .cp t,x=>List.length x<=maxLen/\ ∀ e,e∈x->Bd t e
 | .pair a b,x=>Bd a x.1/\Bd b x.2
def DT:(T:Ty)->den T->Nat
 | .int _,_=>1
 | .bool,_=>1
 | .str,x=>ByteArray.size x+1
 | .cp t,x=>1+List.foldr (fun e n=>DT t e+n) 0 x
 | .pair a b,x=>DT a x.1+DT b x.2
structure QP{H:Type}(bk:DataW H->Nat)(JF:List (DataW H)->Nat):Prop where
 one: ∀ d,1<=bk d
 nil:JF []=0
 cons: ∀ d l,JF (d::l)=bk d+JF l
 str: ∀ b:List UInt8,b.length+1<=bk (.lit (.string b))
 cp: ∀ l m,JF l+1<=bk (.slice l m)
 agg: ∀ l,JF l<=bk (.agg l)
theorem QP.app{H:Type}{bk:DataW H->Nat}{JF:List (DataW H)->Nat}(K:QP bk JF)(l m:List (DataW H)):JF (l++m)=JF l+JF m:=by
 induction l with
 |nil=>rw[List.nil_append,K.nil];omega
 |cons a l ih=>rw[List.cons_append,K.cons,K.cons,ih];omega
abbrev gI[Io](W:Go.World):G:=gE fun b=>b<W.heap.size
section
variable [Io]{H:Type}{enc:TypeId×Value->H}{P:Go.Program}{W:Go.World}{sp:Nat->Bool}{held:Bool}{bk:DataW H->Nat}{JF:List (DataW H)->Nat}
omit [Io] in
theorem WZ{b o:Nat}{v:Value}(h:W.cell? ⟨b,o,none⟩=some v):b<W.heap.size:=by
 by_cases hb:b<W.heap.size
 ·exact hb
 ·exfalso
  have e:W.heap[b]? =none:=Array.getElem?_eq_none (by omega)
  unfold Go.World.cell? at h
  dsimp only at h
  rw[e]at h
  cases h
def Op(W:Go.World)(T:Ty)(cs:List Value)(n:Nat):Prop:= ∃ (x:den T) (bs:List AV),EV N0 T x bs/\cH (gI W) W bs cs/\Bd T x/\DT T x<=n
theorem AD(K:QP bk JF){ot:Ty->Nat->Bool}{n:Nat}(IH: ∀ (T:Ty) (t:Nat) (cs:List Value) (y:DataW H×List MemPlace),ot T t=true->DataW.trod enc P W 0 sp held n t cs=some y->Op W T cs (bk y.1)): ∀ (fs:List Field) (ys:List (DataW H×List MemPlace)) (off:Nat) (T:Ty) (cs:List Value),otF P ot fs off T=true->
 fs.length=ys.length->(∀ (i:Nat) f,fs[i]? =some f->DataW.trod enc P W 0 sp held n f.type ((cs.drop f.offset).take (P.cellsOf f.type))=ys[i]?)->Op W T ((cs.drop off).take (size T)) (JF (ys.map (·.1)))
 | [],_,_,_,_,h,_,_=>by cases h
 | _::_,[],_,_,_,_,hl,_=>by simp at hl
 | [f],y::ys,off,T,cs,h,hl,hf=>by
  have h:(Nat.beq f.offset off&&(Nat.beq (P.cellsOf f.type) (size T)&&ot T f.type))=true:=h
  rw[Bool.and_eq_true,Bool.and_eq_true]at h
  obtain⟨h1,h2,h3⟩:=h
  have hy:=hf 0 f rfl
  obtain⟨x,bs,k1,k2,k3,k4⟩:=IH T f.type _ y h3 hy
  rw[Nat.eq_of_beq_eq_true h1,Nat.eq_of_beq_eq_true h2]at k2
  refine⟨x,bs,k1,k2,k3,?_⟩
  rw[List.map_cons,K.cons]
  omega
 |f::g::fs,y::ys,off,.pair A B,cs,h,hl,hf=>by
  have h:((Nat.beq f.offset off&&(Nat.beq (P.cellsOf f.type) (size A)&&ot A f.type))&&otF P ot (g::fs) (off+size A) B)=true:=h
  rw[Bool.and_eq_true,Bool.and_eq_true,Bool.and_eq_true]at h
  obtain⟨⟨h1,h2,h3⟩,h4⟩:=h
  have hy:=hf 0 f rfl
  have a:=IH A f.type _ y h3 hy
  rw[Nat.eq_of_beq_eq_true h1,Nat.eq_of_beq_eq_true h2]at a
  obtain⟨x1,as1,e1,v1,b1,c1⟩:=a
  obtain⟨x2,as2,e2,v2,b2,c2⟩:=AD K IH (g::fs) ys (off+size A) B cs h4 (by simpa using hl) fun i f hm=>hf (i+1) f hm
  refine⟨(x1,x2),as1++as2,⟨as1,as2,rfl,e1,e2⟩,?_,⟨b1,b2⟩,?_⟩
  ·have e:(cs.drop off).take (size (.pair A B))=(cs.drop off).take (size A)++(cs.drop (off+size A)).take (size B):=by
    show(cs.drop off).take (size A+size B)=_
    rw[List.take_add,List.drop_drop]
   rw[e]
   exact v1.append v2
  ·show DT A x1+DT B x2<=_
   rw[List.map_cons,K.cons]
   omega
 | _::_::_,_,_,.int _,_,h,_,_=>by cases h
 | _::_::_,_,_,.bool,_,h,_,_=>by cases h
 | _::_::_,_,_,.str,_,h,_,_=>by cases h
 | _::_::_,_,_,.cp _,_,h,_,_=>by cases h
omit [Io] in
theorem W0{α β:Type}{f:α->Option β}: ∀ {l:List α} {r:List β},l.mapM f=some r->r.length=l.length:=by
 intro l
 induction l with
 |nil=>intro r h;simp at h;subst h;rfl
 |cons a l ih=>
  intro r h
  rw[List.mapM_cons]at h
  simp only[Option.bind_eq_bind,Option.bind_eq_some_iff,Option.pure_def,Option.some.injEq]at h
  obtain⟨b,_,rs,h2,rfl⟩:=h
  simp[ih h2]
omit [Io] in
theorem Jv{a:Addr}{k:Nat}{cs:List Value}(h:W.cells? 0 a k=some cs):cs.length=k/\ ∀ j,j<k->W.cell? (a.add j)=cs[j]? :=by
 unfold World.cells? at h
 rw[if_pos (Nat.zero_le _)]at h
 exact⟨by simpa using W0 h,fun j hj=>mapM_some_get h j j (by simp[hj])⟩
theorem Jw(K:QP bk JF){T:Ty}{b o n:Nat}{e:Nat}(IH: ∀ (cs:List Value) (y:DataW H×List MemPlace),DataW.trod enc P W 0 sp held n e cs=some y->Op W T cs (bk y.1))(hs:P.cellsOf e=size T):
 ∀ (len:Nat) (ys:List (DataW H×List MemPlace)),ys.length=len->(∀ i,i<len->(W.cells? 0 ⟨b,o+i*size T,none⟩ (P.cellsOf e)).bind (DataW.trod enc P W 0 sp held n e)=ys[i]?)->
 ∃ (xs:List (den T)) (ls:List AV) (vs:List Value),xs.length=len/\ru (EV N0 T) xs ls/\cH (gI W) W ls vs/\vs.length=len*size T/\nF W b o vs/\(∀ x,x∈xs->Bd T x)/\List.foldr (fun e n=>DT T e+n) 0 xs<=JF (ys.map (·.1))
 |0,ys,hy,_=>by
  have:ys=[]:=List.eq_nil_of_length_eq_zero hy
  subst this
  exact⟨[],[],[],rfl,rfl,by simp only[cH],by simp,fun j v h=>by simp at h,fun x h=>(by cases h),Nat.zero_le _⟩
 |len+1,ys,hy,h=>by
  obtain⟨ys',y,e⟩: ∃ ys' y,ys=ys'++[y]:=by
   have:ys≠[]:=fun e=>by rw[e]at hy;simp at hy
   exact⟨ys.dropLast,ys.getLast this,(List.dropLast_concat_getLast this).symm⟩
  subst e
  have hl:ys'.length=len:=by simpa using hy
  obtain⟨xs,ls,vs,h1,h2,h3,h4,h5,h6,h7⟩:=Jw K IH hs len ys' hl fun i hi=>by
   rw[h i (by omega),List.getElem?_append_left (by omega)]
  have hy:=h len (by omega)
  rw[List.getElem?_append_right (by omega),hl,Nat.sub_self]at hy
  have hy:_=some y:=hy
  rw[Option.bind_eq_some_iff]at hy
  obtain⟨cs,hc,hy⟩:=hy
  obtain⟨x,bs,k1,k2,k3,k4⟩:=IH cs y hy
  obtain⟨c1,c2⟩:=Jv hc
  refine⟨xs++[x],ls++bs,vs++cs,by simp[h1],h2.app ⟨bs,[],by simp,k1,rfl⟩,h3.append k2,by rw[List.length_append,h4,c1,hs,Nat.succ_mul],fun j v hj=>?_,fun z hz=>?_,?_⟩
  ·rw[List.getElem?_append]at hj
   by_cases q:j<vs.length
   ·rw[if_pos q]at hj
    exact h5 j v hj
   ·rw[if_neg q]at hj
    have oI:j - vs.length<cs.length:=(List.getElem?_eq_some_iff.1 hj).1
    have:=c2 (j - vs.length) (by omega)
    rw[hj,add_plain]at this
    rw[<-this]
    congr 2
    omega
  ·rcases List.mem_append.1 hz with hz|hz
   ·exact h6 z hz
   ·have:z=x:=by simpa using hz
    rw[this]
    exact k3
  ·have key: ∀ (l:List (den T)),List.foldr (fun e n=>DT T e+n) 0 (l++[x])=List.foldr (fun e n=>DT T e+n) 0 l+DT T x:=by
    intro l
    induction l with
    |nil=>simp
    |cons a l ih=>simp only[List.cons_append,List.foldr_cons,ih];omega
   rw[key,List.map_append,K.app,List.map_cons,List.map_nil,K.cons,K.nil]
   omega
theorem Gy(K:QP bk JF): ∀ (n:Nat) (fuel:Nat) (T:Ty) (t:Nat) (cs:List Value) (y:DataW H×List MemPlace),otB P n T t=true->DataW.trod enc P W 0 sp held fuel t cs=some y->Op W T cs (bk y.1)
 |0,_,_,_,_,_,h,_=>by cases h
 |n+1,fuel,T,t,cs,y,h,hy=>by
  unfold otB at h
  split at h
  ·rename_i k hu
   split at h
   ·rename_i k'
    have h:=of_decide_eq_true h
    subst h
    obtain⟨z,e1,_,e3⟩:=DataW.trod_int hu hy
    subst e1
    exact⟨z,[.int k z],rfl,by simp only[cH,VR];exact⟨_,_,rfl,rfl,rfl⟩,e3,K.one _⟩
   ·cases h
  ·rename_i hu
   split at h
   ·obtain⟨b,e1,_⟩:=DataW.trod_bool hu hy
    subst e1
    exact⟨b,[.bool b],rfl,by simp only[cH,VR];exact⟨_,_,rfl,rfl,rfl⟩,trivial,K.one _⟩
   ·cases h
  ·rename_i hu
   split at h
   ·obtain⟨s,e1,e2,e3⟩:=DataW.trod_string hu hy
    subst e1
    subst e2
    exact⟨s,[.sc (.string s)],rfl,by simp only[cH,VR];exact⟨_,_,rfl,⟨rfl,rfl⟩,rfl⟩,e3,K.str _⟩
   ·cases h
  ·rename_i e hu
   split at h
   ·rename_i T'
    rw[Bool.and_eq_true,Bool.and_eq_true]at h
    obtain⟨h1,h2,h3⟩:=h
    have h1:=Nat.eq_of_beq_eq_true h1
    have h2:0<size T':=by simpa using h2
    rcases DataW.trod_slice hu hy with⟨e1,_⟩|⟨a,len,cap,elems,rest,m,rfl,e1,e2,_,hlc,hcm,hel,hx,_,_⟩
    ·subst e1
     exact⟨[],[.rJ 0 []],⟨_,rfl,.inr ⟨[],rfl,.inl rfl⟩⟩,by simp only[cH,VR];exact⟨_,_,rfl,⟨none,0,rfl,Nat.le_refl _,.inl ⟨trivial,trivial⟩⟩,rfl⟩,⟨Nat.zero_le _,fun _ h=>by cases h⟩,K.one _⟩
    ·subst e1
     by_cases h0:len=0
     ·subst h0
      exact⟨[],[.rJ 0 []],⟨_,rfl,.inr ⟨[],rfl,.inl rfl⟩⟩,by simp only[cH,VR];exact⟨_,_,rfl,⟨some a,cap,rfl,Nat.zero_le _,.inl ⟨trivial,trivial⟩⟩,rfl⟩,⟨Nat.zero_le _,fun _ h=>by cases h⟩,K.one _⟩
     ·subst e2
      have hx': ∀ i,i<len-> ∃ y,(W.cells? 0 (a.add (i*P.cellsOf e)) (P.cellsOf e)).bind (DataW.trod enc P W 0 sp held m e)=some y:=fun i hi=>by
       rw[hx i hi,List.getElem?_eq_getElem (by omega)]
       exact⟨_,rfl⟩
      obtain⟨b,o,spot⟩:=a
      have hsp:spot=none:=by
       obtain⟨y,hy⟩:=hx' 0 (by omega)
       rw[Option.bind_eq_some_iff]at hy
       obtain⟨cs,hc,_⟩:=hy
       obtain⟨c1,c2⟩:=Jv hc
       have q:=c2 0 (by omega)
       rw[List.getElem?_eq_getElem (by omega)]at q
       have:=World.cell?_spot q
       simpa[Addr.add]using this
      subst hsp
      obtain⟨xs,ls,vs,k1,k2,k3,k4,k5,k6,k7⟩:=Jw K (T:=T') (b:=b) (o:=o) (fun cs y=>Gy K n m T' e cs y h3) h1 len elems hel fun i hi=>by
       have:=hx i hi
       rw[add_plain,h1]at this
       rw[h1]
       exact this
      refine⟨xs,[.rJ xs.length ls],⟨_,rfl,.inr ⟨ls,k2,.inl rfl⟩⟩,?_,⟨by rw[k1];omega,k6⟩,Nat.le_trans (by show 1+_<=_;rw[Nat.add_comm];exact Nat.succ_le_succ k7) (K.cp _ _)⟩
      simp only[cH,VR]
      refine⟨_,_,rfl,⟨some ⟨b,o,none⟩,cap,by rw[k1],by rw[k1];exact hlc,.inr ⟨b,o,vs,rfl,?_,k5,k3⟩⟩,rfl⟩
      have hv0:0<vs.length:=by rw[k4];exact Nat.mul_pos (by omega) h2
      exact WZ (k5 0 _ (List.getElem?_eq_getElem hv0))
   ·cases h
  ·rename_i fs hu
   rw[Bool.and_eq_true]at h
   obtain⟨h1,h2⟩:=h
   obtain⟨xs,m,rfl,e2,hl,hxl,hf⟩:=DataW.trod_struct hu hy
   subst e2
   have:=AD K (n:=m) (fun T t cs y=>Gy K n m T t cs y) fs.toList xs 0 T cs h2 (by simp[hxl]) fun i f hm=>hf i f (by simpa using hm)
   rw[List.drop_zero]at this
   have e:cs.take (size T)=cs:=by
    rw[<-Nat.eq_of_beq_eq_true h1,<-hl,List.take_length]
   rw[e]at this
   obtain⟨x,bs,k1,k2,k3,k4⟩:=this
   exact⟨x,bs,k1,k2,k3,Nat.le_trans k4 (K.agg _)⟩
  ·cases h
end
end Go.Proofs.Vq

noncomputable section
namespace Go.Proofs.Vq
open Go.Ab Go.Ab.Lf Go.ChangeShapes Go.WideShapes Go.ChangeAt Go.RowKit Go.Proofs.Sw
set_option maxRecDepth 100000
def g0:Cg:=(fun _=>false,fun _=>wq _)
theorem amk:(sG g0).Ok 73 oL:=by
 intro pl q args H0 E0 h az e
 obtain⟨x,y,rfl,h1,rfl⟩:=KW e
 obtain⟨h2,_⟩:=Lf.T.cP h1
 cases h2
theorem aml:(sG (g1 g0)).Ok 73 oL:=afI VP.toWQ amk
theorem ag6(op A B:Int)(lo hi:Nat)(L:List Int)(x0 x1 x2 x3:Nat)(r0: -9223372036854775808<=op)(r1:op<9223372036854775808)(hl:lo<nh)(hh:hi<nh)(h0:x0<nh)(h1:x1<nh)(h2:x2<nh)(h3:x3<nh){l:AV}(hs:EV N0 (.cp i64) L [l]): ∃ n,isT (oL n n 8 [.agg [.int .i64 op,.int .i64 A,.int .i64 B,.int .u64 lo,.int .u64 hi,l],.agg [.int .u64 x0,.int .u64 x1,.int .u64 x2,.int .u64 x3]] (oO 0))=true:=by
 obtain⟨E0,hE⟩: ∃ E0:En,E0=⟨fun _=>⟨.any,0⟩,fun r=>[l].getD (r - 1) .any,N0,fun _=>.any⟩:=⟨_,rfl⟩
 obtain⟨f,ok,hf⟩:=amg VP aml (atV g0 op A B lo hi L x0 x1 x2 x3 r0 r1 hl hh h0 h1 h2 h3)
 have hP:oi P8 (cq A3 (op,A,B,(lo:Int),(hi:Int),L,(x0:Int),(x1:Int),(x2:Int),(x3:Int),())) Lf.e1=some ([.ag [.c 0 i64 op,.c 0 i64 A,.c 0 i64 B,.c 0 u64 lo,.c 0 u64 hi,.c 1 (.cp i64) L],.ag [.c 0 u64 x0,.c 0 u64 x1,.c 0 u64 x2,.c 0 u64 x3]],[],⟨2,.nil⟩):=rfl
 have hS:SR E0 (oK ⟨2,.nil⟩) (oO 0):=by
  have et:oK ⟨2,.nil⟩=(⟨2,.nil⟩:Hq):=rfl
  rw[et]
  have no: ∀ r R,¬ (Tr.nil:Tr Lf.Row).get r=some R:=fun r R h=>by
   have h:(none:Option Lf.Row)=some R:=h
   cases h
  refine⟨?_,?_,?_,?_⟩
  ·intro r R h;exact(no r R h).elim
  ·rintro r r' id ⟨R,h,_⟩;exact(no r R h).elim
  ·rintro r id ⟨R,h,_⟩;exact(no r R h).elim
  ·intro id row h
   subst hE
   cases h
 have nm: ∀ (k:IntKind) (x:Int),V E0 2 (.c 0 (.int k) x) (.int k x):=fun k x=>.c rfl fun k=>(k rfl).elim
 have hv:Vs E0 2 [.ag [.c 0 i64 op,.c 0 i64 A,.c 0 i64 B,.c 0 u64 lo,.c 0 u64 hi,.c 1 (.cp i64) L],.ag [.c 0 u64 x0,.c 0 u64 x1,.c 0 u64 x2,.c 0 u64 x3]] [.agg [.int .i64 op,.int .i64 A,.int .i64 B,.int .u64 lo,.int .u64 hi,l],.agg [.int .u64 x0,.int .u64 x1,.int .u64 x2,.int .u64 x3]]:=by
  refine .cons (.ag (.cons (nm _ _) (.cons (nm _ _) (.cons (nm _ _) (.cons (nm _ _) (.cons (nm _ _) (.cons ?_ .nil))))))) (.cons (.ag (.cons (nm _ _) (.cons (nm _ _) (.cons (nm _ _) (.cons (nm _ _) .nil))))) .nil)
  subst hE
  exact .c hs fun _=>⟨by decide,rfl⟩
 obtain⟨c,h',E1,ws,H1,⟨M,hM⟩,_,_,hQ,hV⟩:=ok _ _ _ _ E0 (oO 0) _ hf hP hv hS
 have hM:oL M M 8 [.agg [.int .i64 op,.int .i64 A,.int .i64 B,.int .u64 lo,.int .u64 hi,l],.agg [.int .u64 x0,.int .u64 x1,.int .u64 x2,.int .u64 x3]] (oO 0)=.ok c h':=hM M M (Nat.le_refl _) (Nat.le_refl _)
 have hQ:some (([.c 0 .bool true]:List Sv),([]:List Pl),Lf.e1)=some (ws,[],H1):=hQ
 cases hQ
 cases hV with
 |cons k _=>
  cases k with
  |c k _=>
   have k:[c]=[.bool true]:=k
   injection k with k
   subst k
   exact⟨M,by rw[hM];rfl⟩
abbrev gW(W:Go.World):G:=gE fun b=>b<W.heap.size
theorem abR{W:Go.World}{b o:Nat}{v:Value}(h:W.cell? ⟨b,o,none⟩=some v):b<W.heap.size:=by
 by_cases hb:b<W.heap.size
 ·exact hb
 ·exfalso
  have e:W.heap[b]? =none:=Array.getElem?_eq_none (by omega)
  unfold Go.World.cell? at h
  dsimp only at h
  rw[e]at h
  cases h
theorem ag7{W:Go.World}(h0:TabAt 0 Lib.deBruijn32tab W)(h1:TabAt 1 Lib.deBruijn64tab W): @s7 CX (gW W) W:=by
 have key: ∀ (b:Nat) (l:List Nat),0<l.length->TabAt b l W->(gW W).nQ b/\nF W b 0 (l.map fun n:Nat=>Value.int .u8 (n:Int)):=by
  intro b l hl h
  refine⟨abR (h 0 hl),fun j v e=>?_⟩
  rw[List.getElem?_map,Option.map_eq_some_iff]at e
  obtain⟨n,hn,rfl⟩:=e
  obtain⟨hj,hv⟩:=List.getElem?_eq_some_iff.1 hn
  rw[Nat.zero_add,h j hj,List.getD_eq_getElem?_getD,hn]
  rfl
 intro p hp
 rcases List.mem_cons.1 hp with rfl|hp
 ·exact key 0 _ (by decide) h0
 ·obtain rfl:p=_:=by simpa using hp
  exact key 1 _ (by decide) h1
theorem abS{W:Go.World}{I:den tI}{s:List AV}{cs:Array Value}{x0 x1 x2 x3:Int}(B1:Bd tI I)(h:EV N0 tI I s)(hv: @cH CX (@gI CX W) W s cs.toList)(hU:U x0/\U x1/\U x2/\U x3)(h0:TabAt 0 Lib.deBruijn32tab W)(h1:TabAt 1 Lib.deBruijn64tab W):
 Calls Tryz.prog 8 #[.agg cs,.agg #[.int .u64 x0,.int .u64 x1,.int .u64 x2,.int .u64 x3]] W fun e W'=>e=.returned (.bool true)/\Below W.heap.size W W':=by
 obtain⟨op,A,B,Lo,Hi,L⟩:=I
 obtain⟨_,c1,rfl,o1,_,c2,rfl,o2,_,c3,rfl,o3,_,c4,rfl,o4,_,c5,rfl,o5,l,rfl,o6⟩:=h
 have o1:_=[AV.int .i64 op]:=o1
 have o2:_=[AV.int .i64 A]:=o2
 have o3:_=[AV.int .i64 B]:=o3
 have o4:_=[AV.int .u64 Lo]:=o4
 have o5:_=[AV.int .u64 Hi]:=o5
 subst o1 o2 o3 o4 o5
 have b1:(Lit.int .i64 op).wf=true:=B1.1
 have b2:(Lit.int .u64 Lo).wf=true:=B1.2.2.2.1
 have b3:(Lit.int .u64 Hi).wf=true:=B1.2.2.2.2.1
 simp[Lit.wf,IntKind.min,IntKind.max,IntKind.bits,IntKind.signed]at b1 b2 b3
 have nat: ∀ {x:Int},U x-> ∃ n:Nat,x=(n:Int)/\n<nh:=fun{x} h=>by
  have h:0<=x/\x<=18446744073709551615:=h
  exact⟨x.toNat,by omega,by show x.toNat<18446744073709551616;omega⟩
 obtain⟨u0,u1,u2,u3⟩:=hU
 obtain⟨lo,rfl,bl⟩:=nat (x:=Lo) b2
 obtain⟨hi,rfl,bh⟩:=nat (x:=Hi) b3
 obtain⟨n0,rfl,b0q⟩:=nat u0
 obtain⟨n1,rfl,b1q⟩:=nat u1
 obtain⟨n2,rfl,b2q⟩:=nat u2
 obtain⟨n3,rfl,b3q⟩:=nat u3
 obtain⟨n,hn⟩:=ag6 op A B lo hi L n0 n1 n2 n3 b1.1 (Int.lt_of_le_of_lt b1.2 (by decide)) bl bh b0q b1q b2q b3q (l:=l) ⟨_,rfl,o6⟩
 refine @Go.Ab.xE CX Tryz.prog _ (aap n n) 8 _ [.agg cs,.agg #[.int .u64 (n0:Int),.int .u64 (n1:Int),.int .u64 (n2:Int),.int .u64 (n3:Int)]] hn W (fun b=>b<W.heap.size) (fun b h=>h) (ag7 h0 h1) ?_
 rw[cH]
 refine⟨_,_,rfl,?_,?_⟩
 ·rw[VR];exact⟨_,rfl,hv⟩
 simp only[cH]
 refine⟨_,_,rfl,?_,rfl⟩
 simp only[VR]
 refine⟨_,rfl,?_⟩
 simp only[cH]
 exact⟨_,_,rfl,by simp only[VR],_,_,rfl,by simp only[VR],_,_,rfl,by simp only[VR],_,_,rfl,by simp only[VR],rfl⟩
theorem QQ{H:Type}{enc:TypeId×Value->H}{W:Go.World}{fuel:Nat}{v:Value}{y:DataW H×List MemPlace}(hf:DataW.trod enc Tryz.prog W 0 (fun _=>true) true fuel 101 v.cells.toList=some y): ∃ x0 x1 x2 x3:Int,v=.agg #[.int .u64 x0,.int .u64 x1,.int .u64 x2,.int .u64 x3]/\(Lit.int .u64 x0).wf=true/\(Lit.int .u64 x1).wf=true/\(Lit.int .u64 x2).wf=true/\(Lit.int .u64 x3).wf=true:=by
 obtain⟨ys,m,_,_,hl,hn,hi⟩:=DataW.trod_array Tryz.underlying101 hf
 rw[show Tryz.prog.cellsOf 101=4 by kernel_rfl]at hl
 obtain⟨c0,c1,c2,c3,hc⟩: ∃ c0 c1 c2 c3:Value,v.cells.toList=[c0,c1,c2,c3]:=by
  generalize v.cells.toList=l at hl
  match l,hl with
  | [a,b,c,d],_=>exact⟨a,b,c,d,rfl⟩
 rw[hc]at hi
 have c1e:Tryz.prog.cellsOf 22=1:=by kernel_rfl
 rw[c1e]at hi
 have one: ∀ (i:Nat) (c:Value),i<4->([c0,c1,c2,c3].drop (i*1)).take 1=[c]-> ∃ x:Int,c=.int .u64 x/\(Lit.int .u64 x).wf=true:=fun i c h6 hd=>by
  have h:=hi i h6
  rw[hd,List.getElem?_eq_getElem (by omega)]at h
  obtain⟨z,e1,_,e3⟩:=DataW.trod_int Tryz.underlying22 h
  injection e1 with e1
  exact⟨z,e1,e3⟩
 obtain⟨x0,rfl,w0⟩:=one 0 c0 (by decide) rfl
 obtain⟨x1,rfl,w1⟩:=one 1 c1 (by decide) rfl
 obtain⟨x2,rfl,w2⟩:=one 2 c2 (by decide) rfl
 obtain⟨x3,rfl,w3⟩:=one 3 c3 (by decide) rfl
 refine⟨x0,x1,x2,x3,?_,w0,w1,w2,w3⟩
 cases v with
 |agg cs=>
  have hc:cs.toList=[.int .u64 x0,.int .u64 x1,.int .u64 x2,.int .u64 x3]:=hc
  congr 1
  exact Array.toList_inj.1 hc
 | _=>cases hc
end Go.Proofs.Vq
