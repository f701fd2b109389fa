import Derived.Test.YtooeifemoidnoaaDoorVdM1
import Derived.OpenShut
import Derived.ChangeSlices
noncomputable section
namespace Go.Proofs.Vd
open Go.Ab Go.Ab.Lf Go.ChangeShapes Go.WideShapes Go.ChangeAt Go.RowKit
set_option maxRecDepth 100000
def otF(P:Go.Program)(ot:Ty->Nat->Bool):List Field->Nat->Ty->Bool
 | [],_,_=>false
 |f::fs,off,T=>match fs with
  | []=>Nat.beq f.offset off&&(Nat.beq (P.cellsOf f.type) (size T)&&ot T f.type)
  | _::_=>match T with
   | .pair A B=>(Nat.beq f.offset off&&(Nat.beq (P.cellsOf f.type) (size A)&&ot A f.type))&&otF P ot fs (off+size A) B
   | _=>false
def otB(P:Go.Program):Nat->Ty->Nat->Bool
 |0,_,_=>false
 |n+1,T,t=>match P.underlying t with
  |some (.int k)=>match T with
   | .int k'=>decide (k=k')
   | _=>false
  |some .bool=>match T with
   | .bool=>true
   | _=>false
  |some .string=>match T with
   | .str=>true
   | _=>false
  |some (.slice e)=>match T with
   | .sli T'=>Nat.beq (P.cellsOf e) (size T')&&(Nat.blt 0 (size T')&&otB P n T' e)
   | _=>false
  |some (.struct fs)=>Nat.beq (P.cellsOf t) (size T)&&otF P (otB P n) fs.toList 0 T
  | _=>false
def Bd:(T:Ty)->den T->Prop
 | .int k,x=>(Lit.int k x).wf=true
 | .bool,_=>True
 | .str,x=>ByteArray.size x<=maxLen
 | .sli t,x=>List.length x<=maxLen/\ ∀ e,e∈x->Bd t e
 | .pair a b,x=>Bd a x.1/\Bd b x.2
def cntT:(T:Ty)->den T->Nat
 | .int _,_=>1
 | .bool,_=>1
 | .str,x=>ByteArray.size x+1
 | .sli t,x=>1+List.foldr (fun e n=>cntT t e+n) 0 x
 | .pair a b,x=>cntT a x.1+cntT b x.2
structure BkOk{H:Type}(bk:DataW H->Nat)(bkA:List (DataW H)->Nat):Prop where
 one: ∀ d,1<=bk d
 nil:bkA []=0
 cons: ∀ d l,bkA (d::l)=bk d+bkA l
 str: ∀ b:List UInt8,b.length+1<=bk (.lit (.string b))
 sli: ∀ l m,bkA l+1<=bk (.slice l m)
 agg: ∀ l,bkA l<=bk (.agg l)
theorem BkOk.app{H:Type}{bk:DataW H->Nat}{bkA:List (DataW H)->Nat}(K:BkOk bk bkA)(l m:List (DataW H)):bkA (l++m)=bkA l+bkA m:=by
 induction l with
 |nil=>rw[List.nil_append,K.nil];omega
 |cons a l ih=>rw[List.cons_append,K.cons,K.cons,ih];omega
abbrev gI[Io](W:Go.World):G:=gE fun b=>b<W.heap.size
section
variable [Io]{H:Type}{enc:TypeId×Value->H}{P:Go.Program}{W:Go.World}{sp:Nat->Bool}{held:Bool}{bk:DataW H->Nat}{bkA:List (DataW H)->Nat}
omit [Io] in
theorem cell_lt'{b o:Nat}{v:Value}(h:W.cell? ⟨b,o,none⟩=some v):b<W.heap.size:=by
 by_cases hb:b<W.heap.size
 ·exact hb
 ·exfalso
  have e:W.heap[b]? =none:=Array.getElem?_eq_none (by omega)
  unfold Go.World.cell? at h
  dsimp only at h
  rw[e]at h
  cases h
def Op(W:Go.World)(T:Ty)(cs:List Value)(n:Nat):Prop:= ∃ (x:den T) (as:List AV),EV N0 T x as/\VRs (gI W) W as cs/\Bd T x/\cntT T x<=n
theorem open_fields(K:BkOk bk bkA){ot:Ty->Nat->Bool}{n:Nat}(IH: ∀ (T:Ty) (t:Nat) (cs:List Value) (y:DataW H×List MemPlace),ot T t=true->DataW.trod enc P W 0 sp held n t cs=some y->Op W T cs (bk y.1)): ∀ (fs:List Field) (ys:List (DataW H×List MemPlace)) (off:Nat) (T:Ty) (cs:List Value),otF P ot fs off T=true->
 fs.length=ys.length->(∀ (i:Nat) f,fs[i]? =some f->DataW.trod enc P W 0 sp held n f.type ((cs.drop f.offset).take (P.cellsOf f.type))=ys[i]?)->Op W T ((cs.drop off).take (size T)) (bkA (ys.map (·.1)))
 | [],_,_,_,_,h,_,_=>by cases h
 | _::_,[],_,_,_,_,hl,_=>by simp at hl
 | [f],y::ys,off,T,cs,h,hl,hf=>by
  have h:(Nat.beq f.offset off&&(Nat.beq (P.cellsOf f.type) (size T)&&ot T f.type))=true:=h
  rw[Bool.and_eq_true,Bool.and_eq_true]at h
  obtain⟨h1,h2,h3⟩:=h
  have hy:=hf 0 f rfl
  obtain⟨x,as,k1,k2,k3,k4⟩:=IH T f.type _ y h3 hy
  rw[Nat.eq_of_beq_eq_true h1,Nat.eq_of_beq_eq_true h2]at k2
  refine⟨x,as,k1,k2,k3,?_⟩
  rw[List.map_cons,K.cons]
  omega
 |f::g::fs,y::ys,off,.pair A B,cs,h,hl,hf=>by
  have h:((Nat.beq f.offset off&&(Nat.beq (P.cellsOf f.type) (size A)&&ot A f.type))&&otF P ot (g::fs) (off+size A) B)=true:=h
  rw[Bool.and_eq_true,Bool.and_eq_true,Bool.and_eq_true]at h
  obtain⟨⟨h1,h2,h3⟩,h4⟩:=h
  have hy:=hf 0 f rfl
  have a:=IH A f.type _ y h3 hy
  rw[Nat.eq_of_beq_eq_true h1,Nat.eq_of_beq_eq_true h2]at a
  obtain⟨x1,as1,e1,v1,b1,c1⟩:=a
  obtain⟨x2,as2,e2,v2,b2,c2⟩:=open_fields K IH (g::fs) ys (off+size A) B cs h4 (by simpa using hl) fun i f hm=>hf (i+1) f hm
  refine⟨(x1,x2),as1++as2,⟨as1,as2,rfl,e1,e2⟩,?_,⟨b1,b2⟩,?_⟩
  ·have e:(cs.drop off).take (size (.pair A B))=(cs.drop off).take (size A)++(cs.drop (off+size A)).take (size B):=by
    show(cs.drop off).take (size A+size B)=_
    rw[List.take_add,List.drop_drop]
   rw[e]
   exact v1.append v2
  ·show cntT A x1+cntT B x2<=_
   rw[List.map_cons,K.cons]
   omega
 | _::_::_,_,_,.int _,_,h,_,_=>by cases h
 | _::_::_,_,_,.bool,_,h,_,_=>by cases h
 | _::_::_,_,_,.str,_,h,_,_=>by cases h
 | _::_::_,_,_,.sli _,_,h,_,_=>by cases h
omit [Io] in
theorem mapM_len{α β:Type}{f:α->Option β}: ∀ {l:List α} {r:List β},l.mapM f=some r->r.length=l.length:=by
 intro l
 induction l with
 |nil=>intro r h;simp at h;subst h;rfl
 |cons a l ih=>
  intro r h
  rw[List.mapM_cons]at h
  simp only[Option.bind_eq_bind,Option.bind_eq_some_iff,Option.pure_def,Option.some.injEq]at h
  obtain⟨b,_,rs,h2,rfl⟩:=h
  simp[ih h2]
omit [Io] in
theorem cells_at{a:Addr}{k:Nat}{cs:List Value}(h:W.cells? 0 a k=some cs):cs.length=k/\ ∀ j,j<k->W.cell? (a.add j)=cs[j]? :=by
 unfold World.cells? at h
 rw[if_pos (Nat.zero_le _)]at h
 exact⟨by simpa using mapM_len h,fun j hj=>mapM_some_get h j j (by simp[hj])⟩
theorem open_els(K:BkOk bk bkA){T:Ty}{b o n:Nat}{e:Nat}(IH: ∀ (cs:List Value) (y:DataW H×List MemPlace),DataW.trod enc P W 0 sp held n e cs=some y->Op W T cs (bk y.1))(hs:P.cellsOf e=size T):
 ∀ (len:Nat) (ys:List (DataW H×List MemPlace)),ys.length=len->(∀ i,i<len->(W.cells? 0 ⟨b,o+i*size T,none⟩ (P.cellsOf e)).bind (DataW.trod enc P W 0 sp held n e)=ys[i]?)->
 ∃ (xs:List (den T)) (ls:List AV) (vs:List Value),xs.length=len/\Els (EV N0 T) xs ls/\VRs (gI W) W ls vs/\vs.length=len*size T/\CellsAt W b o vs/\(∀ x,x∈xs->Bd T x)/\List.foldr (fun e n=>cntT T e+n) 0 xs<=bkA (ys.map (·.1))
 |0,ys,hy,_=>by
  have:ys=[]:=List.eq_nil_of_length_eq_zero hy
  subst this
  exact⟨[],[],[],rfl,rfl,by simp only[VRs],by simp,fun j v h=>by simp at h,fun x h=>(by cases h),Nat.zero_le _⟩
 |len+1,ys,hy,h=>by
  obtain⟨ys',y,e⟩: ∃ ys' y,ys=ys'++[y]:=by
   have:ys≠[]:=fun e=>by rw[e]at hy;simp at hy
   exact⟨ys.dropLast,ys.getLast this,(List.dropLast_concat_getLast this).symm⟩
  subst e
  have hl:ys'.length=len:=by simpa using hy
  obtain⟨xs,ls,vs,h1,h2,h3,h4,h5,h6,h7⟩:=open_els K IH hs len ys' hl fun i hi=>by
   rw[h i (by omega),List.getElem?_append_left (by omega)]
  have hy:=h len (by omega)
  rw[List.getElem?_append_right (by omega),hl,Nat.sub_self]at hy
  have hy:_=some y:=hy
  rw[Option.bind_eq_some_iff]at hy
  obtain⟨cs,hc,hy⟩:=hy
  obtain⟨x,as,k1,k2,k3,k4⟩:=IH cs y hy
  obtain⟨c1,c2⟩:=cells_at hc
  refine⟨xs++[x],ls++as,vs++cs,by simp[h1],h2.app ⟨as,[],by simp,k1,rfl⟩,h3.append k2,by rw[List.length_append,h4,c1,hs,Nat.succ_mul],fun j v hj=>?_,fun z hz=>?_,?_⟩
  ·rw[List.getElem?_append]at hj
   by_cases q:j<vs.length
   ·rw[if_pos q]at hj
    exact h5 j v hj
   ·rw[if_neg q]at hj
    have hlt:j - vs.length<cs.length:=(List.getElem?_eq_some_iff.1 hj).1
    have:=c2 (j - vs.length) (by omega)
    rw[hj,add_plain]at this
    rw[<-this]
    congr 2
    omega
  ·rcases List.mem_append.1 hz with hz|hz
   ·exact h6 z hz
   ·have:z=x:=by simpa using hz
    rw[this]
    exact k3
  ·have key: ∀ (l:List (den T)),List.foldr (fun e n=>cntT T e+n) 0 (l++[x])=List.foldr (fun e n=>cntT T e+n) 0 l+cntT T x:=by
    intro l
    induction l with
    |nil=>simp
    |cons a l ih=>simp only[List.cons_append,List.foldr_cons,ih];omega
   rw[key,List.map_append,K.app,List.map_cons,List.map_nil,K.cons,K.nil]
   omega
theorem open_ty(K:BkOk bk bkA): ∀ (n:Nat) (fuel:Nat) (T:Ty) (t:Nat) (cs:List Value) (y:DataW H×List MemPlace),otB P n T t=true->DataW.trod enc P W 0 sp held fuel t cs=some y->Op W T cs (bk y.1)
 |0,_,_,_,_,_,h,_=>by cases h
 |n+1,fuel,T,t,cs,y,h,hy=>by
  unfold otB at h
  split at h
  ·rename_i k hu
   split at h
   ·rename_i k'
    have h:=of_decide_eq_true h
    subst h
    obtain⟨z,e1,_,e3⟩:=DataW.trod_int hu hy
    subst e1
    exact⟨z,[.int k z],rfl,by simp only[VRs,VR];exact⟨_,_,rfl,rfl,rfl⟩,e3,K.one _⟩
   ·cases h
  ·rename_i hu
   split at h
   ·obtain⟨b,e1,_⟩:=DataW.trod_bool hu hy
    subst e1
    exact⟨b,[.bool b],rfl,by simp only[VRs,VR];exact⟨_,_,rfl,rfl,rfl⟩,trivial,K.one _⟩
   ·cases h
  ·rename_i hu
   split at h
   ·obtain⟨s,e1,e2,e3⟩:=DataW.trod_string hu hy
    subst e1
    subst e2
    exact⟨s,[.sc (.string s)],rfl,by simp only[VRs,VR];exact⟨_,_,rfl,⟨rfl,rfl⟩,rfl⟩,e3,K.str _⟩
   ·cases h
  ·rename_i e hu
   split at h
   ·rename_i T'
    rw[Bool.and_eq_true,Bool.and_eq_true]at h
    obtain⟨h1,h2,h3⟩:=h
    have h1:=Nat.eq_of_beq_eq_true h1
    have h2:0<size T':=by simpa using h2
    rcases DataW.trod_slice hu hy with⟨e1,_⟩|⟨a,len,cap,elems,rest,m,rfl,e1,e2,_,hlc,hcm,hel,hx,_,_⟩
    ·subst e1
     exact⟨[],[.isl 0 []],⟨_,rfl,.inr ⟨[],rfl,.inl rfl⟩⟩,by simp only[VRs,VR];exact⟨_,_,rfl,⟨none,0,rfl,Nat.le_refl _,.inl ⟨trivial,trivial⟩⟩,rfl⟩,⟨Nat.zero_le _,fun _ h=>by cases h⟩,K.one _⟩
    ·subst e1
     by_cases h0:len=0
     ·subst h0
      exact⟨[],[.isl 0 []],⟨_,rfl,.inr ⟨[],rfl,.inl rfl⟩⟩,by simp only[VRs,VR];exact⟨_,_,rfl,⟨some a,cap,rfl,Nat.zero_le _,.inl ⟨trivial,trivial⟩⟩,rfl⟩,⟨Nat.zero_le _,fun _ h=>by cases h⟩,K.one _⟩
     ·subst e2
      have hx': ∀ i,i<len-> ∃ y,(W.cells? 0 (a.add (i*P.cellsOf e)) (P.cellsOf e)).bind (DataW.trod enc P W 0 sp held m e)=some y:=fun i hi=>by
       rw[hx i hi,List.getElem?_eq_getElem (by omega)]
       exact⟨_,rfl⟩
      obtain⟨b,o,spot⟩:=a
      have hsp:spot=none:=by
       obtain⟨y,hy⟩:=hx' 0 (by omega)
       rw[Option.bind_eq_some_iff]at hy
       obtain⟨cs,hc,_⟩:=hy
       obtain⟨c1,c2⟩:=cells_at hc
       have q:=c2 0 (by omega)
       rw[List.getElem?_eq_getElem (by omega)]at q
       have:=World.cell?_spot q
       simpa[Addr.add]using this
      subst hsp
      obtain⟨xs,ls,vs,k1,k2,k3,k4,k5,k6,k7⟩:=open_els K (T:=T') (b:=b) (o:=o) (fun cs y=>open_ty K n m T' e cs y h3) h1 len elems hel fun i hi=>by
       have:=hx i hi
       rw[add_plain,h1]at this
       rw[h1]
       exact this
      refine⟨xs,[.isl xs.length ls],⟨_,rfl,.inr ⟨ls,k2,.inl rfl⟩⟩,?_,⟨by rw[k1];omega,k6⟩,Nat.le_trans (by show 1+_<=_;rw[Nat.add_comm];exact Nat.succ_le_succ k7) (K.sli _ _)⟩
      simp only[VRs,VR]
      refine⟨_,_,rfl,⟨some ⟨b,o,none⟩,cap,by rw[k1],by rw[k1];exact hlc,.inr ⟨b,o,vs,rfl,?_,k5,k3⟩⟩,rfl⟩
      have hv0:0<vs.length:=by rw[k4];exact Nat.mul_pos (by omega) h2
      exact cell_lt' (k5 0 _ (List.getElem?_eq_getElem hv0))
   ·cases h
  ·rename_i fs hu
   rw[Bool.and_eq_true]at h
   obtain⟨h1,h2⟩:=h
   obtain⟨xs,m,rfl,e2,hl,hxl,hf⟩:=DataW.trod_struct hu hy
   subst e2
   have:=open_fields K (n:=m) (fun T t cs y=>open_ty K n m T t cs y) fs.toList xs 0 T cs h2 (by simp[hxl]) fun i f hm=>hf i f (by simpa using hm)
   rw[List.drop_zero]at this
   have e:cs.take (size T)=cs:=by
    rw[<-Nat.eq_of_beq_eq_true h1,<-hl,List.take_length]
   rw[e]at this
   obtain⟨x,as,k1,k2,k3,k4⟩:=this
   exact⟨x,as,k1,k2,k3,Nat.le_trans k4 (K.agg _)⟩
  ·cases h
end
end Go.Proofs.Vd
