import Derived.Test.YtooeifemoidnoaaDoorVdM3
noncomputable section
namespace Go.Ab
open Go.Ab.Lf
theorem noOwns_app: ∀ {l m:List AV},noOwns l=true->noOwns m=true->noOwns (l++m)=true
 | [],_,_,k=>k
 |a::l,m,h,k=>by
  simp only[noOwns,Bool.and_eq_true]at h
  show(noOwn a&&noOwns (l++m))=true
  rw[h.1,noOwns_app h.2 k]
  rfl
theorem ev_noOwn: ∀ (t:Ty) (x:den t) (cs:List AV),EV N0 t x cs->noOwns cs=true
 | .int _,x,_,h=>by have h:_=_:=h;subst h;rfl
 | .bool,x,_,h=>by have h:_=_:=h;subst h;rfl
 | .str,x,_,h=>by have h:_=_:=h;subst h;rfl
 | .pair a b,x,_,⟨c,d,e,h1,h2⟩=>by subst e;exact noOwns_app (ev_noOwn a _ _ h1) (ev_noOwn b _ _ h2)
 | .sli t,x,_,⟨a,e,k⟩=>by
  subst e
  have els: ∀ (l:List (den t)) (ls:List AV),Els (EV N0 t) l ls->noOwns ls=true:=by
   intro l
   induction l with
   |nil=>intro ls h;have h:_=_:=h;subst h;rfl
   |cons x l ih=>rintro ls ⟨c,r,rfl,h1,h2⟩;exact noOwns_app (ev_noOwn t _ _ h1) (ih _ h2)
  show(noOwn a&&true)=true
  rw[Bool.and_true]
  rcases k with⟨k1,k2⟩|⟨ls,k1,k2⟩
  ·cases a<;>first|rfl|cases k1
  ·rcases k2 with k2|⟨_,_,_,_,g,_⟩
   ·subst k2;exact els _ _ k1
   ·cases g
section
variable [Io]{g:G}{w:World}
theorem sl_of{t:Ty}{x:List (den t)}{a:AV}{v:Value}(h:EV N0 (.sli t) x [a])(hv:VR g w a v): ∃ ad cap,v=.slice ad x.length cap:=by
 obtain⟨a',e,k⟩:=h
 injection e with e
 subst e
 rcases k with⟨k1,k2⟩|⟨ls,k1,k2⟩
 ·subst k2
  cases a with
  |sc u=>
   have k1:isNil (.sc u)=true:=k1
   unfold isNil at k1
   split at k1
   ·rename_i n c e
    injection e with e
    subst e
    have k1:(Nat.beq n 0&&Nat.beq c 0)=true:=by assumption
    rw[Bool.and_eq_true]at k1
    obtain rfl:=Nat.eq_of_beq_eq_true k1.1
    simp only[VR]at hv
    exact⟨_,_,hv.1⟩
   ·cases k1
  |esl=>simp only[VR]at hv;obtain⟨b,rfl⟩:=hv;exact⟨_,_,rfl⟩
  |nel=>simp only[VR]at hv;obtain⟨b,rfl⟩:=hv;exact⟨_,_,rfl⟩
  | _=>cases k1
 ·rcases k2 with k2|⟨_,_,_,_,q,_⟩
  ·subst k2
   simp only[VR]at hv
   obtain⟨ad,cap,rfl,_⟩:=hv
   exact⟨_,_,rfl⟩
  ·cases q
theorem isl_of{t:Ty}{x:List (den t)}{a:AV}{v:Value}(hx:x.length≠0)(h:EV N0 (.sli t) x [a])(hv:VR g w a v): ∃ ls b o cap vs,v=.slice (some ⟨b,o,none⟩) x.length cap/\g.imm b/\CellsAt w b o vs/\VRs g w ls vs/\Els (EV N0 t) x ls:=by
 obtain⟨a',e,k⟩:=h
 injection e with e
 subst e
 rcases k with⟨k1,k2⟩|⟨ls,k1,k2⟩
 ·subst k2;exact(hx rfl).elim
 ·rcases k2 with k2|⟨_,_,_,_,q,_⟩
  ·subst k2
   simp only[VR]at hv
   obtain⟨ad,cap,rfl,_,⟨e,_⟩|⟨b,o,vs,rfl,i,c,q⟩⟩:=hv
   ·exact(hx e).elim
   ·exact⟨ls,b,o,cap,vs,rfl,i,c,q,k1⟩
  ·cases q
end
end Go.Ab
namespace Go.Proofs.Vd
open Go.Ab Go.Ab.Lf Go.RowKit
set_option maxRecDepth 100000
def MAt(y:denT tMN)(az:List AV):Prop:= ∃ a1 a2 a3 a4 a5 a6 a7 a9 a10 a11:AV,az=[.agg [a1,a2,a3,a4,a5,a6,a7,.int .i64 y.2.2.2.2.2.2.2.1,a9,a10,a11],.int .i64 y.2.2.2.2.2.2.2.2.2.2.2.1]/\EV N0 (.sli tSig) y.1 [a1]/\EV N0 (.sli tImp) y.2.1 [a2]/\EV N0 (.sli i64) y.2.2.1 [a3]/\EV N0 (.sli tLim) y.2.2.2.1 [a4]/\EV N0 (.sli tLim) y.2.2.2.2.1 [a5]/\EV N0 (.sli tGlo) y.2.2.2.2.2.1 [a6]/\EV N0 (.sli tExp) y.2.2.2.2.2.2.1 [a7]/\EV N0 (.sli tEle) y.2.2.2.2.2.2.2.2.1 [a9]/\EV N0 (.sli tCod) y.2.2.2.2.2.2.2.2.2.1 [a10]/\EV N0 (.sli tDat) y.2.2.2.2.2.2.2.2.2.2.1 [a11]
theorem MAt.inj{y z:denT tMN}{az:List AV}(h:MAt y az)(k:MAt z az):y=z:=by
 obtain⟨a1,a2,a3,a4,a5,a6,a7,a9,a10,a11,e,ht,him,hfs,htb,hme,hgl,hex,hel,hco,hda⟩:=h
 obtain⟨b1,b2,b3,b4,b5,b6,b7,b9,b10,b11,e2,qt,qim,qfs,qtb,qme,qgl,qex,qel,qco,qda⟩:=k
 rw[e]at e2
 injection e2 with e2 e3
 injection e3 with e3
 injection e3 with _ e3
 injection e2 with e2
 simp only[List.cons.injEq,AV.int.injEq,true_and,and_true]at e2
 obtain⟨rfl,rfl,rfl,rfl,rfl,rfl,rfl,est,rfl,rfl,rfl⟩:=e2
 obtain⟨t,im,fs,tb,me,gl,ex,st,el,co,da,k,⟨⟩⟩:=y
 obtain⟨t2,im2,fs2,tb2,me2,gl2,ex2,st2,el2,co2,da2,k2,⟨⟩⟩:=z
 obtain rfl:t=t2:=EV.inj (.sli tSig) _ _ _ ht qt
 obtain rfl:im=im2:=EV.inj (.sli tImp) _ _ _ him qim
 obtain rfl:fs=fs2:=EV.inj (.sli i64) _ _ _ hfs qfs
 obtain rfl:tb=tb2:=EV.inj (.sli tLim) _ _ _ htb qtb
 obtain rfl:me=me2:=EV.inj (.sli tLim) _ _ _ hme qme
 obtain rfl:gl=gl2:=EV.inj (.sli tGlo) _ _ _ hgl qgl
 obtain rfl:ex=ex2:=EV.inj (.sli tExp) _ _ _ hex qex
 obtain rfl:el=el2:=EV.inj (.sli tEle) _ _ _ hel qel
 obtain rfl:co=co2:=EV.inj (.sli tCod) _ _ _ hco qco
 obtain rfl:da=da2:=EV.inj (.sli tDat) _ _ _ hda qda
 have est:st=st2:=est
 have e3:k=k2:=e3
 subst est;subst e3
 rfl
def tb57(az:List AV):Option AV:= @dite _ (∃ y,okNm y=true/\MAt y az) (Classical.propDecidable _) (fun h=>some (.bool (mNm (Classical.choose h)))) (fun _=>none)
theorem tb57_of{y:denT tMN}{az:List AV}(h1:okNm y=true)(h2:MAt y az):tb57 az=some (.bool (mNm y)):=by
 have h: ∃ y,okNm y=true/\MAt y az:=⟨y,h1,h2⟩
 unfold tb57
 rw[dif_pos h]
 have:=Classical.choose_spec h
 rw[this.2.inj h2]
theorem tb57_ok{az:List AV}{v:AV}(h:tb57 az=some v): ∃ y,okNm y=true/\MAt y az/\v=.bool (mNm y):=by
 unfold tb57 at h
 by_cases q: ∃ y,okNm y=true/\MAt y az
 ·rw[dif_pos q]at h
  cases h
  have:=Classical.choose_spec q
  exact⟨_,this.1,this.2,rfl⟩
 ·rw[dif_neg q]at h
  cases h
end Go.Proofs.Vd

noncomputable section
namespace Go.Proofs.Vd
open Go.Ab Go.Ab.Lf Go.RowKit
set_option maxRecDepth 100000
theorem ex_cells[Io]{g:G}{w:Go.World}: ∀ {ex:List (den tExp)} {ls:List AV} {vs:List Value},Els (EV N0 tExp) ex ls->VRs g w ls vs-> ∀ j,j<ex.length->vs[j*3]? =some (.string (ex.getD j (ByteArray.empty,0,0)).1)/\vs[j*3+1]? =some (.int .i64 (ex.getD j (ByteArray.empty,0,0)).2.1)/\vs[j*3+2]? =some (.int .i64 (ex.getD j (ByteArray.empty,0,0)).2.2)
 | [],_,_,_,_,j,hj=>by cases hj
 |(s,kd,ix)::ex,ls,vs,h,hv,j,hj=>by
  obtain⟨c,r,rfl,h1,h2⟩:=h
  obtain⟨c1,c2,e,h3,c3,c4,e2,h4,h5⟩:=h1
  have h3:c1=[.sc (.string s)]:=h3
  have h4:c3=[.int .i64 kd]:=h4
  have h5:c4=[.int .i64 ix]:=h5
  subst h3;subst h4;subst h5;subst e2;subst e
  have hv:VRs g w (.sc (.string s)::.int .i64 kd::.int .i64 ix::r) vs:=hv
  simp only[VRs]at hv
  obtain⟨v1,l1,rfl,q1,v2,l2,rfl,q2,v3,l3,rfl,q3,hr⟩:=hv
  simp only[VR]at q1 q2 q3
  obtain⟨rfl,_⟩:=q1
  subst q2;subst q3
  cases j with
  |zero=>exact⟨rfl,rfl,rfl⟩
  |succ j=>
   have:=ex_cells h2 hr j (by simpa using hj)
   have e:(j+1)*3=j*3+1+1+1:=by omega
   rw[e]
   exact this
theorem sig_at{y:denT tMN}{az:List AV}(hk:gT y.1=true)(h1:(y.2.2.2.2.2.2.2.2.2.2.2.1:Int)<9223372036854775808)(h2:y.2.1.length<=1099511627776)(hm:MAt y az): ∃ n c h',calA n n 10 az (nilH 0)=.ok c h'/\ ∃ r1 r2,c=.tup [.agg [r1,r2],.bool (mKindO y.1 (mSigK y.2.1 y.2.2.1 y.2.2.2.2.2.2.2.2.2.2.2.1))]/\
 (∀ [Io] (g:G) (w:Go.World) (v:Value),VR g w r1 v-> ∃ ad cap,v=.slice ad (mKindS y.1 (mSigK y.2.1 y.2.2.1 y.2.2.2.2.2.2.2.2.2.2.2.1)).1.length cap)/\(∀ [Io] (g:G) (w:Go.World) (v:Value),VR g w r2 v-> ∃ ad cap,v=.slice ad (mKindS y.1 (mSigK y.2.1 y.2.2.1 y.2.2.2.2.2.2.2.2.2.2.2.1)).2.length cap):=by
 obtain⟨a1,a2,a3,a4,a5,a6,a7,a9,a10,a11,rfl,ht,him,hfs,htb,hme,hgl,hex,hel,hco,hda⟩:=hm
 obtain⟨t,im,fs,tb,me,gl,ex,st,el,co,da,k,⟨⟩⟩:=y
 obtain⟨E0,hE⟩: ∃ E0:En,E0=⟨fun _=>⟨.any,0⟩,fun r=>[a1,a2,a3,a4,a5,a6,a7,a9,a10,a11].getD (r - 1) .any,N0,fun _=>.any⟩:=⟨_,rfl⟩
 obtain⟨sg,hsg⟩: ∃ sg:denT tSgO,sg=((mKindS t (mSigK im fs k)).1,(mKindS t (mSigK im fs k)).2,mKindO t (mSigK im fs k),()):=⟨_,rfl⟩
 have e:(s10.f (ofT tMN (t,im,fs,tb,me,gl,ex,st,el,co,da,k,()))).val=some (ofT tSgO sg):=by
  refine mkF_of ?_
  show(bif (gT t&&(decide (k<9223372036854775808)&&decide (im.length<=1099511627776)))then some _ else none)=_
  rw[show gT t=true from hk,decide_eq_true h1,decide_eq_true h2,hsg]
  rfl
 have hP:fillP (Ps [pM,.n .i64]) (ofT tMN (t,im,fs,tb,me,gl,ex,st,el,co,da,k,())) Lf.e1=some ([.ag [.c 1 (.sli tSig) t,.c 2 (.sli tImp) im,.c 3 (.sli i64) fs,.c 4 (.sli tLim) tb,.c 5 (.sli tLim) me,.c 6 (.sli tGlo) gl,.c 7 (.sli tExp) ex,.c 0 i64 st,.c 8 (.sli tEle) el,.c 9 (.sli tCod) co,.c 10 (.sli tDat) da],.c 0 i64 k],[],⟨11,.nil⟩):=rfl
 have hS:SR E0 (tagAll ⟨11,.nil⟩) (nilH 0):=by
  have et:tagAll ⟨11,.nil⟩=(⟨11,.nil⟩:Hq):=rfl
  rw[et]
  have no: ∀ r R,¬ (Tr.nil:Tr Lf.Row).get r=some R:=fun r R h=>by
   have h:(none:Option Lf.Row)=some R:=h
   cases h
  refine⟨?_,?_,?_,?_⟩
  ·intro r R h;exact(no r R h).elim
  ·rintro r r' id ⟨R,h,_⟩;exact(no r R h).elim
  ·rintro r id ⟨R,h,_⟩;exact(no r R h).elim
  ·intro id row h
   subst hE
   cases h
 have hv:Vs E0 11 [.ag [.c 1 (.sli tSig) t,.c 2 (.sli tImp) im,.c 3 (.sli i64) fs,.c 4 (.sli tLim) tb,.c 5 (.sli tLim) me,.c 6 (.sli tGlo) gl,.c 7 (.sli tExp) ex,.c 0 i64 st,.c 8 (.sli tEle) el,.c 9 (.sli tCod) co,.c 10 (.sli tDat) da],.c 0 i64 k] [.agg [a1,a2,a3,a4,a5,a6,a7,.int .i64 st,a9,a10,a11],.int .i64 k]:=by
  subst hE
  exact .cons (.ag (.cons (.c ht fun _=>⟨by decide,rfl⟩) (.cons (.c him fun _=>⟨by decide,rfl⟩) (.cons (.c hfs fun _=>⟨by decide,rfl⟩) (.cons (.c htb fun _=>⟨by decide,rfl⟩) (.cons (.c hme fun _=>⟨by decide,rfl⟩) (.cons (.c hgl fun _=>⟨by decide,rfl⟩) (.cons (.c hex fun _=>⟨by decide,rfl⟩) (.cons (.c rfl fun k=>(k rfl).elim) (.cons (.c hel fun _=>⟨by decide,rfl⟩) (.cons (.c hco fun _=>⟨by decide,rfl⟩) (.cons (.c hda fun _=>⟨by decide,rfl⟩) .nil)))))))))))) (.cons (.c rfl fun k=>(k rfl).elim) .nil)
 obtain⟨c,h',E1,ws,H1,⟨M,hM⟩,_,hS1,hQ,hV⟩:=s10_ok worldA _ _ _ _ E0 (nilH 0) _ e hP hv hS
 have hM:calA M M 10 [.agg [a1,a2,a3,a4,a5,a6,a7,.int .i64 st,a9,a10,a11],.int .i64 k] (nilH 0)=.ok c h':=hM M M (Nat.le_refl _) (Nat.le_refl _)
 subst hsg
 have hQ:some (([.tu [.ag [.os 1 1,.os 2 1],.c 0 .bool (mKindO t (mSigK im fs k))]]:List Sv),([]:List Pl),newQ (newQ Lf.e1 (.l i64 (mKindS t (mSigK im fs k)).1)) (.l i64 (mKindS t (mSigK im fs k)).2))=some (ws,[],H1):=hQ
 cases hQ
 have key: ∀ (r:Nat) (x:List Int) (a:AV),(newQ (newQ Lf.e1 (.l i64 (mKindS t (mSigK im fs k)).1)) (.l i64 (mKindS t (mSigK im fs k)).2)).objs.get r=some (.l i64 x)->V E1 3 (.os r 1) a-> ∀ [Io] (g:G) (w:Go.World) (v:Value),VR g w a v-> ∃ ad cap,v=.slice ad x.length cap:=by
  intro r x a hr ha _ g w v hv
  obtain⟨_,hl,_⟩:=hS1.row r _ hr
  have os_in: ∀ s b,V E1 3 s b->s=.os r 1->b=(E1.K r).av/\((emptyV (E1.K r).av=true/\(E1.K r).n=0)∨ ∃ id base,(E1.K r).av=.hsl id base (E1.K r).n 1):=by
   intro s b k e
   cases k<;>first|(cases e;done)|skip
   rename_i h1 h2
   cases e
   exact⟨rfl,h2⟩
  obtain⟨e1,e2⟩:=os_in _ _ ha rfl
  rw[hl]
  subst e1
  rcases e2 with⟨q1,q2⟩|⟨id,base,q⟩
  ·rw[q2]
   exact sl_of (t:=i64) (x:=[]) ⟨_,rfl,.inl ⟨q1,rfl⟩⟩ hv
  ·rw[q]at hv
   simp only[VR]at hv
   rcases hv with⟨q2,ad,rfl⟩|⟨b,s,cap,_,rfl,_⟩
   ·exact⟨_,_,by rw[q2]⟩
   ·exact⟨_,_,rfl⟩
 cases hV with
 |cons hc _=>
  cases hc with
  |tu hc=>
   cases hc with
   |cons hg hc=>
    cases hc with
    |cons hb hc=>
     cases hc
     cases hb with
     |c kb _=>
      have kb:[_]=[_]:=kb
      injection kb with kb
      cases hg with
      |ag hg=>
       cases hg with
       |cons p1 hg=>
        cases hg with
        |cons p2 hg=>
         cases hg
         refine⟨M,_,h',hM,_,_,by rw[kb],@fun _ g w v hv=>key 1 (mKindS t (mSigK im fs k)).1 _ (by kernel_rfl) p1 g w v hv,@fun _ g w v hv=>key 2 (mKindS t (mSigK im fs k)).2 _ (by kernel_rfl) p2 g w v hv⟩
end Go.Proofs.Vd

noncomputable section
namespace Go.Proofs.Vd
open Go.Ab Go.Ab.Lf Go.RowKit
set_option maxRecDepth 100000
theorem mono_below[Io]{g:G}{w w':Go.World}(hi: ∀ b,g.imm b->b<w.heap.size)(B:Below w.heap.size w w'):Mono g w g w':=
 ⟨fun _ _ e=>e,fun _ i=>i,fun b i=>B.block b (hi b i),fun b=>by
  unfold rowSize
  by_cases hb:b<w.heap.size
  ·rw[B.block b hb];exact Nat.le_refl _
  ·rw[Array.getElem?_eq_none (by omega)];exact Nat.zero_le _⟩
theorem kn57{y:denT tMN}{az:List AV}(ho:okNm y=true)(hm:MAt y az): @KnownF ioV Tryd.prog 57 az (.bool (mNm y)):=by
 refine⟨Tryd.call57,fun g w vs hi ht hv=>?_⟩
 have hm0:=hm
 obtain⟨a1,a2,a3,a4,a5,a6,a7,a9,a10,a11,rfl,ht0,him0,hfs,htb,hme,hgl,hex,hel,hco,hda⟩:=hm
 obtain⟨t,im,fs,tb,me,gl,ex,st,el,co,da,k,⟨⟩⟩:=y
 unfold okNm at ho
 simp only[Bool.and_eq_true]at ho
 obtain⟨⟨⟨hx3,⟨hst,him⟩,_⟩,hxn⟩,hT⟩:=ho
 have hst:(st:Int)<9223372036854775808:=of_decide_eq_true hst
 have him:List.length im<=1099511627776:=of_decide_eq_true him
 unfold gNx at hxn
 rw[Bool.and_eq_true]at hxn
 have hxl:List.length ex<=1048576:=of_decide_eq_true hxn.1
 have hxz: ∀ x:Nx,x∈ex->x.1.size<=maxLen/\0<=x.2.1/\x.2.1<=3:=by
  intro x hx
  have q1:=allB_mem hxn.2 x hx
  have q2:=allB_mem hx3 x hx
  rw[Bool.and_eq_true]at q2
  exact⟨Nat.le_trans (of_decide_eq_true q1) (by unfold maxLen;decide),of_decide_eq_true q2.1,of_decide_eq_true q2.2⟩
 have hv0:=hv
 simp only[VRs]at hv
 obtain⟨v0,l0,rfl,hv1,v1,l1,rfl,hv2,rfl⟩:=hv
 rw[VR]at hv1
 obtain⟨cs,rfl,hv1⟩:=hv1
 simp only[VR]at hv2
 subst hv2
 simp only[VRs]at hv1
 obtain⟨w1,m1,e1,u1,w2,m2,e2,u2,w3,m3,e3,u3,w4,m4,e4,u4,w5,m5,e5,u5,w6,m6,e6,u6,w7,m7,e7,u7,w8,m8,e8,u8,w9,m9,e9,u9,w10,m10,e10,u10,w11,m11,e11,u11,e12⟩:=hv1
 subst e12;subst e11;subst e10;subst e9;subst e8;subst e7;subst e6;subst e5;subst e4;subst e3;subst e2
 obtain rfl:cs= #[w1,w2,w3,w4,w5,w6,w7,w8,w9,w10,w11]:=Array.toList_inj.1 e1
 simp only[VR]at u8
 subst u8
 obtain⟨tb0,ctb,rfl⟩:=sl_of htb u4
 obtain⟨me0,cme,rfl⟩:=sl_of hme u5
 obtain⟨gl0,cgl,rfl⟩:=sl_of hgl u6
 obtain⟨ex0,cex,rfl⟩:=sl_of hex u7
 obtain⟨b,off,hxa,hxc⟩: ∃ b off,(List.length ex≠0->ex0=some ⟨b,off,none⟩/\b<w.heap.size)/\ ∀ j,j<List.length ex->w.cell? ⟨b,off+j*3,none⟩=some (.string (List.getD ex j (ByteArray.empty,0,0)).1)/\w.cell? ⟨b,off+j*3+1,none⟩=some (.int .i64 (List.getD ex j (ByteArray.empty,0,0)).2.1)/\w.cell? ⟨b,off+j*3+2,none⟩=some (.int .i64 (List.getD ex j (ByteArray.empty,0,0)).2.2):=by
  by_cases h0:List.length ex=0
  ·exact⟨0,0,fun q=>(q h0).elim,fun j hj=>by omega⟩
  ·obtain⟨ls,b,o,cap,us,e,i,c,q,ee⟩:=isl_of h0 hex u7
   injection e with e _ _
   refine⟨b,o,fun _=>⟨e,hi b i⟩,fun j hj=>?_⟩
   obtain⟨c1,c2,c3⟩:=ex_cells ee q j hj
   exact⟨c _ _ c1,by have:=c _ _ c2;rwa [<-Nat.add_assoc]at this,by have:=c _ _ c3;rwa [<-Nat.add_assoc]at this⟩
 obtain⟨sg,hsg⟩: ∃ sg:Bool,sg=(mKindO t (mSigK im fs st)&&(decide ((mKindS t (mSigK im fs st)).1.length=0)&&decide ((mKindS t (mSigK im fs st)).2.length=0))):=⟨_,rfl⟩
 have hr:mNm (t,im,fs,tb,me,gl,ex,st,el,co,da,k,())=(nmAll [k,(List.length tb:Int),(List.length me:Int),(List.length gl:Int)] ex&&(decide (st= -1)||sg)):=by
  have e:mNm (t,im,fs,tb,me,gl,ex,st,el,co,da,k,())=bif nmAll [k,(List.length tb:Int),(List.length me:Int),(List.length gl:Int)] ex then mNmS t im fs st else false:=rfl
  rw[e,hsg]
  unfold mNmS
  have c: ∀ n:Nat,decide ((n:Int)=0)=decide (n=0):=fun n=>by by_cases q:n=0<;>simp[q]
  rw[c,c]
  cases nmAll [k,(List.length tb:Int),(List.length me:Int),(List.length gl:Int)] ex<;>cases decide (st= -1)<;>cases mKindO t (mSigK im fs st)<;>first|rfl|simp
 rw[hr]
 have hSig: ∀ w',Below w.heap.size w w'->Calls Tryd.prog 10 #[.agg #[w1,w2,w3,.slice tb0 (List.length tb) ctb,.slice me0 (List.length me) cme,.slice gl0 (List.length gl) cgl,.slice ex0 (List.length ex) cex,.int .i64 st,w9,w10,w11],.int .i64 st] w' fun e w''=> ∃ (a1:Option Addr) (n1 c1:Nat) (a2:Option Addr) (n2 c2:Nat) (o:Bool),e=.returned (.tuple #[.agg #[.slice a1 n1 c1,.slice a2 n2 c2],.bool o])/\sg=(o&&(decide (n1=0)&&decide (n2=0)))/\Below w'.heap.size w' w'':=by
  intro w' B
  have hm10:MAt (t,im,fs,tb,me,gl,ex,st,el,co,da,st,()) [.agg [a1,a2,a3,a4,a5,a6,a7,.int .i64 st,a9,a10,a11],.int .i64 st]:=⟨_,_,_,_,_,_,_,_,_,_,rfl,ht0,him0,hfs,htb,hme,hgl,hex,hel,hco,hda⟩
  obtain⟨M,c,h',hM,r1,r2,rfl,k1,k2⟩:=sig_at (y:=(t,im,fs,tb,me,gl,ex,st,el,co,da,st,())) hT hst him hm10
  obtain⟨_,hc⟩:=Tryd.calT_ok tbA_ok M M 10 _ (nilH 0) _ h' hM
  have mo:=mono_below hi B
  have hno:noOwns [AV.agg [a1,a2,a3,a4,a5,a6,a7,.int .i64 st,a9,a10,a11],.int .i64 st]=true:=by
   have n:=fun(t:Ty) (x:List (den t)) (a:AV) (h:EV N0 (.sli t) x [a])=>(by have:=ev_noOwn (.sli t) x _ h;simpa[noOwns]using this:noOwn a=true)
   simp only[noOwns,noOwn,n _ _ _ ht0,n _ _ _ him0,n _ _ _ hfs,n _ _ _ htb,n _ _ _ hme,n _ _ _ hgl,n _ _ _ hex,n _ _ _ hel,n _ _ _ hco,n _ _ _ hda,Bool.and_true,Bool.and_self]
  have hvv:VRs g w [AV.agg [a1,a2,a3,a4,a5,a6,a7,.int .i64 st,a9,a10,a11],.int .i64 st] [.agg #[w1,w2,w3,.slice tb0 (List.length tb) ctb,.slice me0 (List.length me) cme,.slice gl0 (List.length gl) cgl,.slice ex0 (List.length ex) cex,.int .i64 st,w9,w10,w11],.int .i64 st]:=by
   simp only[VRs]
   simp only[VRs]at hv0
   obtain⟨_,_,e,q,_⟩:=hv0
   injection e with e _
   subst e
   exact⟨_,_,rfl,q,_,_,rfl,by simp only[VR],rfl⟩
  refine(hc (gE g.imm) w' _ (hr_empty (fun b i=>Nat.lt_of_lt_of_le (hi b i) B.size) (fun p hp=>⟨(ht p hp).1,CellsAt.keep (mo.keep _ (ht p hp).1) (ht p hp).2⟩)) (VRs.noOwn _ _ hno (VRs.mono' mo _ _ hvv))).mono ?_
  rintro e w'' ⟨x,g',rfl,E,H',hx⟩
  simp only[VR]at hx
  obtain⟨vs,rfl,hx⟩:=hx
  simp only[VRs]at hx
  obtain⟨x1,l1,e1,hx1,x2,l2,e2,hx2,e3⟩:=hx
  subst e3;subst e2
  obtain rfl:vs= #[x1,x2]:=Array.toList_inj.1 e1
  rw[VR]at hx1
  obtain⟨us,rfl,hx1⟩:=hx1
  simp only[VRs]at hx1
  obtain⟨y1,m1,f1,g1,y2,m2,f2,g2,f3⟩:=hx1
  subst f3;subst f2
  obtain rfl:us= #[y1,y2]:=Array.toList_inj.1 f1
  simp only[VR]at hx2
  subst hx2
  obtain⟨p1,q1,rfl⟩:=k1 _ _ _ g1
  obtain⟨p2,q2,rfl⟩:=k2 _ _ _ g2
  have K:=keep_of E
  exact⟨_,_,_,_,_,_,_,rfl,hsg,⟨K.os,K.tape,K.output,K.size,K.old⟩⟩
 refine(Tryd.names_any w1 w2 w3 w10 w11 w9 tb0 me0 gl0 ex0 _ ctb _ cme _ cgl st k b off cex ex w (fun q=>(hxa q).1) (fun q=>(hxa q).2) hxl hxc hxz sg hSig).mono ?_
 rintro e w' ⟨rfl,B⟩
 refine⟨_,rfl,keep_below B,?_⟩
 simp only[VR]
end Go.Proofs.Vd
namespace Go.Proofs.Vd
open Go.Ab Go.Ab.Lf Go.RowKit
def tbB:TbT:=fun f az=>bif Nat.beq f 57 then tb57 az else bif Nat.beq f 66 then tb66 az else none
abbrev calB:CallN:=Tryd.calT tbB
theorem tbB_ok: ∀ f args v,tbB f args=some v-> @KnownF ioV Tryd.prog f args v:=by
 intro f args v h
 unfold tbB at h
 cases hf:Nat.beq f 57 with
 |true=>
  rw[hf]at h
  obtain rfl:=Nat.eq_of_beq_eq_true hf
  obtain⟨y,h1,h2,rfl⟩:=tb57_ok h
  exact kn57 h1 h2
 |false=>
  rw[hf,cond_false]at h
  cases hg:Nat.beq f 66 with
  |true=>rw[hg]at h;obtain rfl:=Nat.eq_of_beq_eq_true hg;exact tb66_ok h
  |false=>rw[hg]at h;cases h
theorem s57_calB:s57.Ok 57 calB:=by
 intro pl q args H0 E0 h az e hP hv hS
 obtain⟨x,y,rfl,h1,rfl⟩:=mkF_pl e
 obtain⟨h2,h3⟩:=Lf.T.ck_some h1
 cases h3
 obtain⟨t,im,fs,tb,me,gl,ex,st,el,co,da,k,⟨⟩⟩:=x
 have hP2:some (([.ag [.c 1 (.sli tSig) t,.c 2 (.sli tImp) im,.c 3 (.sli i64) fs,.c 4 (.sli tLim) tb,.c 5 (.sli tLim) me,.c 6 (.sli tGlo) gl,.c 7 (.sli tExp) ex,.c 0 i64 st,.c 8 (.sli tEle) el,.c 9 (.sli tCod) co,.c 10 (.sli tDat) da],.c 0 i64 k]:List Sv),([]:List Pl),(⟨11,.nil⟩:Hq))=some (args,[],H0):=hP
 cases hP2
 have hx:(tcN (mNm (t,im,fs,tb,me,gl,ex,st,el,co,da,k,()))).f (ofT tMN (t,im,fs,tb,me,gl,ex,st,el,co,da,k,()))=(.ok (ofT [.bool] (mNm (t,im,fs,tb,me,gl,ex,st,el,co,da,k,()),())):Lf.T (List Pl)):=rfl
 have hG: ∀ id row,E0.G id=some row->h.objs.get id=some row:=fun id row g=>(hS.g id row g).2.1
 have one: ∀ (m:Nat) (t:Ty) (x:List (den t)) (a:AV),dep t<6->V E0 11 (.c m (.sli t) x) a-> ∃ a',frz 7 h a=some a'/\EV N0 (.sli t) x [a']:=by
  intro m t x a hd ha
  cases ha with
  |c kx _=>
   obtain⟨cs',h1,h2⟩:=frz_ev hG (.sli t) 7 x [a] (by show dep t+1<7;omega) kx
   obtain⟨a',e,k⟩:=h2
   subst e
   refine⟨a',?_,_,rfl,k⟩
   change (match frz 7 h a with|some b=>some [b]|none=>none)=some [a']at h1
   cases hf:frz 7 h a with
   |none=>rw[hf]at h1;cases h1
   |some b=>rw[hf]at h1;cases h1;rfl
 have num: ∀ (x:Int) (a:AV),V E0 11 (.c 0 i64 x) a->a=.int .i64 x:=by
  intro x a ha
  cases ha with
  |c kx _=>
   have kx:[_]=[_]:=kx
   injection kx
 have vin: ∀ {a:Sv} {l:List Sv} {m:List AV},Vs E0 11 (a::l) m-> ∃ c r,m=c::r/\V E0 11 a c/\Vs E0 11 l r:=by
  intro a l m hm
  cases hm with
  |cons p q=>exact⟨_,_,rfl,p,q⟩
 have vnil: ∀ {m:List AV},Vs E0 11 [] m->m=[]:=by
  intro m hm
  cases hm
  rfl
 have hv0:=hv
 obtain⟨c0,r0,rfl,hag,hr0⟩:=vin hv
 obtain⟨c1,r1,rfl,hk,hr1⟩:=vin hr0
 obtain rfl:=vnil hr1
 obtain rfl:=num _ _ hk
 have ag_in: ∃ m,c0=.agg m/\Vs E0 11 [.c 1 (.sli tSig) t,.c 2 (.sli tImp) im,.c 3 (.sli i64) fs,.c 4 (.sli tLim) tb,.c 5 (.sli tLim) me,.c 6 (.sli tGlo) gl,.c 7 (.sli tExp) ex,.c 0 i64 st,.c 8 (.sli tEle) el,.c 9 (.sli tCod) co,.c 10 (.sli tDat) da] m:=by
  cases hag with
  |ag q=>exact⟨_,rfl,q⟩
 obtain⟨m,rfl,hm⟩:=ag_in
 obtain⟨b1,mb1,rfl,vb1,hb1⟩:=vin hm
 obtain⟨b2,mb2,rfl,vb2,hb2⟩:=vin hb1
 obtain⟨b3,mb3,rfl,vb3,hb3⟩:=vin hb2
 obtain⟨b4,mb4,rfl,vb4,hb4⟩:=vin hb3
 obtain⟨b5,mb5,rfl,vb5,hb5⟩:=vin hb4
 obtain⟨b6,mb6,rfl,vb6,hb6⟩:=vin hb5
 obtain⟨b7,mb7,rfl,vb7,hb7⟩:=vin hb6
 obtain⟨b8,mb8,rfl,vb8,hb8⟩:=vin hb7
 obtain⟨b9,mb9,rfl,vb9,hb9⟩:=vin hb8
 obtain⟨b10,mb10,rfl,vb10,hb10⟩:=vin hb9
 obtain⟨b11,mb11,rfl,vb11,hb11⟩:=vin hb10
 obtain rfl:=vnil hb11
 obtain rfl:=num _ _ vb8
 obtain⟨zb1,yb1,xb1⟩:=one _ _ _ _ (by decide) vb1
 obtain⟨zb2,yb2,xb2⟩:=one _ _ _ _ (by decide) vb2
 obtain⟨zb3,yb3,xb3⟩:=one _ _ _ _ (by decide) vb3
 obtain⟨zb4,yb4,xb4⟩:=one _ _ _ _ (by decide) vb4
 obtain⟨zb5,yb5,xb5⟩:=one _ _ _ _ (by decide) vb5
 obtain⟨zb6,yb6,xb6⟩:=one _ _ _ _ (by decide) vb6
 obtain⟨zb7,yb7,xb7⟩:=one _ _ _ _ (by decide) vb7
 obtain⟨zb9,yb9,xb9⟩:=one _ _ _ _ (by decide) vb9
 obtain⟨zb10,yb10,xb10⟩:=one _ _ _ _ (by decide) vb10
 obtain⟨zb11,yb11,xb11⟩:=one _ _ _ _ (by decide) vb11
 have hz:mapA (frz 8 h) [AV.agg [b1,b2,b3,b4,b5,b6,b7,.int .i64 st,b9,b10,b11],.int .i64 k]=some [.agg [zb1,zb2,zb3,zb4,zb5,zb6,zb7,.int .i64 st,zb9,zb10,zb11],.int .i64 k]:=by
  have e1:mapA (frz 7 h) [b1,b2,b3,b4,b5,b6,b7,.int .i64 st,b9,b10,b11]=some [zb1,zb2,zb3,zb4,zb5,zb6,zb7,.int .i64 st,zb9,zb10,zb11]:=by
   have cs: ∀ (a b:AV) (l m:List AV),frz 7 h a=some b->mapA (frz 7 h) l=some m->mapA (frz 7 h) (a::l)=some (b::m):=by
    intro a b l m q1 q2
    show(match frz 7 h a with|some b=>(match mapA (frz 7 h) l with|some r=>some (b::r)|none=>none)|none=>none)=_
    rw[q1,q2]
   exact cs _ _ _ _ yb1 (cs _ _ _ _ yb2 (cs _ _ _ _ yb3 (cs _ _ _ _ yb4 (cs _ _ _ _ yb5 (cs _ _ _ _ yb6 (cs _ _ _ _ yb7 (cs _ _ _ _ rfl (cs _ _ _ _ yb9 (cs _ _ _ _ yb10 (cs _ _ _ _ yb11 (rfl)))))))))))
  show(match(match mapA (frz 7 h) _ with|some l=>some (AV.agg l)|none=>none)with|some b=>some [b,AV.int .i64 k]|none=>none)=_
  rw[e1]
 have hmat:MAt (t,im,fs,tb,me,gl,ex,st,el,co,da,k,()) [.agg [zb1,zb2,zb3,zb4,zb5,zb6,zb7,.int .i64 st,zb9,zb10,zb11],.int .i64 k]:=⟨_,_,_,_,_,_,_,_,_,_,rfl,xb1,xb2,xb3,xb4,xb5,xb6,xb7,xb9,xb10,xb11⟩
 obtain⟨c,h',E1,ws,H1,⟨M,hM⟩,r⟩:=tcN_ok (mNm (t,im,fs,tb,me,gl,ex,st,el,co,da,k,())) _ (ofT [.bool] (mNm (t,im,fs,tb,me,gl,ex,st,el,co,da,k,()),())) _ _ E0 h _ (by rw[hx];rfl) hP hv0 hS
 have hM:=hM M M (Nat.le_refl _) (Nat.le_refl _)
 cases hM
 exact⟨_,h,E1,ws,H1,⟨0,fun n d _ _=>Tryd.calT_tbl rfl hz (tb57_of h2 hmat) n d⟩,r⟩
theorem worldB:WorldL vU calB:=⟨⟨⟨⟨world_cal,s66_calT fun _=>rfl⟩,s63_cal⟩,s57_calB⟩,s7_cal⟩
end Go.Proofs.Vd
