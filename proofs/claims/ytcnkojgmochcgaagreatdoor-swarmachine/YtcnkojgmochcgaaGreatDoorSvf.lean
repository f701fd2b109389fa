import Derived.Test.YtcnkojgmochcgaaGreatDoorSvh0
import Derived.Test.YtcnkojgmochcgaaGreatDoorSvh1
import Derived.Test.YtcnkojgmochcgaaGreatDoorSvh2
import Derived.Test.YtcnkojgmochcgaaGreatDoorSvh3
import Derived.Test.YtcnkojgmochcgaaGreatDoorSvL
import Derived.Test.YtcnkojgmochcgaaGreatDoorAb30
import Derived.OpenShut
import Derived.ChangeSlices
noncomputable section
namespace Go.Proofs.Vq
open Go.Ab Go.Ab.Lf Go.Proofs.Sw
set_option maxRecDepth 1000000
def yO:List (Nat×Nat×Nat):=[(64845,0,0),(64846,0,0),(64847,0,0),(64848,0,0),(64849,0,0),(64850,0,0),(64851,0,0)]
theorem alV(g:Cg):Al (fun o _ _=>Lw g (o:Int)) yO:=.cons (aaE g) (.cons (aaF g) (.cons (aaG g) (.cons (aaH g) (.cons (aaI g) (.cons (aaJ g) (.cons (aaK g) (.nil)))))))
def yB(v:Nat)(l:List (Nat×Nat×Nat)):Bool:=l.any fun q=>Nat.beq q.1 v
theorem rN{v:Nat}{l:List (Nat×Nat×Nat)}{Q:Nat->Prop}(A:Al (fun o _ _=>Q o) l)(h:yB v l=true):Q v:=by
 obtain⟨q,h1,h2⟩:=List.any_eq_true.1 h
 obtain rfl:=Nat.eq_of_beq_eq_true h2
 exact A.get q h1
theorem Al.mono{P Q:Nat->Nat->Nat->Prop}{l:List (Nat×Nat×Nat)}(h:Al P l)(i: ∀ o w k,P o w k->Q o w k):Al Q l:=by
 induction h with
 |nil=>exact .nil
 |cons a _ ih=>exact .cons (i _ _ _ a) ih
def nO(v:Nat):Bool:=match(t42 ((v:Int),())).val with|some l=>(match toT Hx l with|some x=> !x.1|none=>false)|none=>false
theorem alW{v:Nat}(h:nO v=true):L8 ((v:Int),())=true/\(Kn ((v:Int),())).1=false:=by
 unfold nO at h
 cases e:(t42 ((v:Int),())).val with
 |none=>rw[e]at h;cases h
 |some l=>
  rw[e]at h
  dsimp only at h
  cases e2:toT Hx l with
  |none=>rw[e2]at h;cases h
  |some x=>
   rw[e2]at h
   obtain⟨b,⟨⟩⟩:=x
   obtain rfl:b=false:=by simpa using h
   rw[rR e2]at e
   obtain⟨a,c⟩:=nm (k:=L8 ((v:Int),())) (m:=Kn ((v:Int),())) (ca _) (ca _) e
   exact⟨a,by rw[c]⟩
def alX(v:Nat):Bool:=yB (64768+v) yO||(yB (64768+v) y0||(yB (64768+v) y1||(yB (64768+v) y2||(yB (64768+v) y3||(yB (64768+v) y4||(yB (64768+v) y5||(yB (64768+v) y6||(yB (64768+v) y7||(yB (64768+v) y8||(yB (64768+v) y9||(yB (64768+v) y10||(yB (64768+v) y11||(yB (64768+v) y12||(yB (64768+v) y13||(yB (64768+v) y14||(yB (64768+v) y15||(yB (64768+v) y16||(nO (64768+v)))))))))))))))))))
theorem aaL:(List.range 256).all alX=true:=by kernel_rfl
theorem pw(g:Cg)(v:Nat)(hv:v<256):Lw g ((64768+v:Nat):Int)∨(L8 (((64768+v:Nat):Int),())=true/\(Kn (((64768+v:Nat):Int),())).1=false):=by
 have h:=List.all_eq_true.1 aaL v (List.mem_range.2 hv)
 unfold alX at h
 simp only[Bool.or_eq_true]at h
 rcases h with h|h|h|h|h|h|h|h|h|h|h|h|h|h|h|h|h|h|h
 ·exact .inl (rN (Q:=fun o=>Lw g (o:Int)) (alV g) h)
 ·exact .inl (rN (Q:=fun o=>Lw g (o:Int)) (alL.mono fun _ _ _ F=>F.lw g) h)
 ·exact .inl (rN (Q:=fun o=>Lw g (o:Int)) (alO.mono fun _ _ _ F=>F.lw g) h)
 ·exact .inl (rN (Q:=fun o=>Lw g (o:Int)) (alR.mono fun _ _ _ F=>F.lw g) h)
 ·exact .inl (rN (Q:=fun o=>Lw g (o:Int)) (alT.mono fun _ _ _ F=>F.lw g) h)
 ·exact .inl (rN (Q:=fun o=>Lw g (o:Int)) (alM.mono fun _ _ _ F=>F.lw g) h)
 ·exact .inl (rN (Q:=fun o=>Lw g (o:Int)) (alP.mono fun _ _ _ F=>F.lw g) h)
 ·exact .inl (rN (Q:=fun o=>Lw g (o:Int)) (alS.mono fun _ _ _ F=>F.lw g) h)
 ·exact .inl (rN (Q:=fun o=>Lw g (o:Int)) (alU.mono fun _ _ _ F=>F.lw g) h)
 ·exact .inl (rN (Q:=fun o=>Lw g (o:Int)) (alN.mono fun _ _ _ F=>F.lw g) h)
 ·exact .inl (rN (Q:=fun o=>Lw g (o:Int)) (alQ.mono fun _ _ _ F=>F.lw g) h)
 ·exact .inl (rN (Q:=fun o=>Lw g (o:Int)) (af'.mono fun _ _ _ F=>F.lw g) h)
 ·exact .inl (rN (Q:=fun o=>Lw g (o:Int)) (agb.mono fun _ _ _ F=>F.lw g) h)
 ·exact .inl (rN (Q:=fun o=>Lw g (o:Int)) (af7.mono fun _ _ _ F=>F.lw g) h)
 ·exact .inl (rN (Q:=fun o=>Lw g (o:Int)) (af9.mono fun _ _ _ F=>F.lw g) h)
 ·exact .inl (rN (Q:=fun o=>Lw g (o:Int)) (aga.mono fun _ _ _ F=>F.lw g) h)
 ·exact .inl (rN (Q:=fun o=>Lw g (o:Int)) (agc.mono fun _ _ _ F=>F.lw g) h)
 ·exact .inl (rN (Q:=fun o=>Lw g (o:Int)) (af8.mono fun _ _ _ F=>F.lw g) h)
 ·exact .inr (alW h)
theorem agd(op:Int): ∃ v,v<256/\Ex op=((64768+v:Nat):Int):=by
 have e0:cb .u64 op=((op % 18446744073709551616).toNat:Int):=(Int.toNat_of_nonneg (Int.emod_nonneg _ (by decide))).symm
 generalize hv:(op % 18446744073709551616).toNat=v at e0
 have e1:we .u64 (v:Int) 256=((v % 256:Nat):Int):=rfl
 have hR:v % 256<256:=Nat.mod_lt _ (by decide)
 refine⟨v % 256,hR,?_⟩
 generalize v % 256=R at*
 have e2:cb .i64 (R:Int)=(R:Int):=wrap_i64 (by clear e0 e1;omega) (by clear e0 e1;omega)
 have e3:nz .i64 64768 (R:Int)=((64768+R:Nat):Int):=by
  clear e0 e1 e2
  exact(wrap_i64 (by omega) (by omega)).trans (by omega)
 show nz .i64 64768 (cb .i64 (we .u64 (cb .u64 op) 256))=_
 rw[e0,e1,e2,e3]
theorem atz(g:Cg)(op:Int)(x0 x1 x2 x3 x4 x5:Nat)(h0:x0<cN)(h1:x1<cN)(h2:x2<cN)(h3:x3<cN)(h4:x4<cN)(h5:x5<cN)(ba:Int): ∃ (b:Bool) (cl:Cl) (N L:Nat),(t9 (g1 g) b cl N L (op,(x0:Int),(x1:Int),(x2:Int),(x3:Int),(x4:Int),(x5:Int),ba,())).val=some (cp Ew (true,())):=by
 obtain⟨v,hv,e⟩:=agd op
 rcases pw g v hv with h|⟨a,b⟩
 ·obtain⟨cl,N,L,h⟩:=h op e x0 x1 x2 x3 x4 x5 h0 h1 h2 h3 h4 h5 ba
  exact⟨true,cl,N,L,h⟩
 ·refine⟨false,([],[],0,false),0,0,?_⟩
  rw[atm,e,a,b]
  rfl
end Go.Proofs.Vq

noncomputable section
namespace Go.Proofs.Vq
open Go.Ab Go.Ab.Lf Go.ChangeShapes Go.WideShapes Go.ChangeAt Go.RowKit Go.Proofs.Sw
set_option maxRecDepth 100000
def g0:Cg:=(fun _=>false,fun _=>wS _)
theorem alY:(sG g0).Ok 73 pe:=by
 intro pl q args H0 E0 h az e
 obtain⟨x,y,rfl,h1,rfl⟩:=LI e
 obtain⟨h2,_⟩:=Lf.T.cG h1
 cases h2
theorem alZ:(sG (g1 g0)).Ok 73 pe:=aeN Ve.toWQ alY
theorem age(op ba:Int)(x0 x1 x2 x3 x4 x5:Nat)(h0:x0<cN)(h1:x1<cN)(h2:x2<cN)(h3:x3<cN)(h4:x4<cN)(h5:x5<cN): ∃ n,isT (pe n n 9 [.int .i64 op,.agg [.int .u64 x0,.int .u64 x1,.int .u64 x2,.int .u64 x3,.int .u64 x4,.int .u64 x5],.int .i64 ba] (pf 0))=true:=by
 obtain⟨E0,hE⟩: ∃ E0:En,E0=⟨fun _=>⟨.any,0⟩,fun _=>.any,fun _=>none,fun _=>.any⟩:=⟨_,rfl⟩
 obtain⟨b,cl,N,L,hl⟩:=atz g0 op x0 x1 x2 x3 x4 x5 h0 h1 h2 h3 h4 h5 ba
 obtain⟨y,hy⟩: ∃ y:cf ti9,y=(op,(x0:Int),(x1:Int),(x2:Int),(x3:Int),(x4:Int),(x5:Int),ba,()):=⟨_,rfl⟩
 rw[<-hy]at hl
 have sm:=nm (ca _) (ca _) (k:=k9 (g1 g0) b cl N L y) (m:=m9 (g1 g0) b cl N L y) hl
 have e:((s9 (g1 g0) b cl N L).f (cp ti9 y)).val=some (cp Ew (true,())):=by
  refine G7 (ti:=ti9) (to:=Ew) (x:=y) (y:=(true,())) ?_
  show(bif k9 (g1 g0) b cl N L y then some (m9 (g1 g0) b cl N L y)else none)=_
  rw[sm.1,sm.2]
  rfl
 subst hy
 have hP:oO (Ps [.n .i64,.ag (Ps [.n .u64,.n .u64,.n .u64,.n .u64,.n .u64,.n .u64]),.n .i64]) (cp ti9 (op,(x0:Int),(x1:Int),(x2:Int),(x3:Int),(x4:Int),(x5:Int),ba,())) Lf.e1=some ([.c 0 i64 op,.ag [.c 0 u64 x0,.c 0 u64 x1,.c 0 u64 x2,.c 0 u64 x3,.c 0 u64 x4,.c 0 u64 x5],.c 0 i64 ba],[],Lf.e1):=rfl
 have hS:SR E0 (pd Lf.e1) (pf 0):=by
  have et:pd Lf.e1=Lf.e1:=rfl
  rw[et]
  have no: ∀ r R,¬ (Tr.nil:Tr Lf.Row).get r=some R:=fun r R h=>by
   have h:(none:Option Lf.Row)=some R:=h
   cases h
  refine⟨?_,?_,?_,?_⟩
  ·intro r R h;exact(no r R h).elim
  ·rintro r r' id ⟨R,h,_⟩;exact(no r R h).elim
  ·rintro r id ⟨R,h,_⟩;exact(no r R h).elim
  ·intro id row h
   subst hE
   cases h
 have cn: ∀ {t:Ty} {x:den t} {a:AV},EV E0.G t x [a]->V E0 1 (.c 0 t x) a:=fun h=>.c h fun k=>(k rfl).elim
 have hv:Vs E0 1 [.c 0 i64 op,.ag [.c 0 u64 x0,.c 0 u64 x1,.c 0 u64 x2,.c 0 u64 x3,.c 0 u64 x4,.c 0 u64 x5],.c 0 i64 ba] [.int .i64 op,.agg [.int .u64 x0,.int .u64 x1,.int .u64 x2,.int .u64 x3,.int .u64 x4,.int .u64 x5],.int .i64 ba]:=
  .cons (cn rfl) (.cons (.ag (.cons (cn rfl) (.cons (cn rfl) (.cons (cn rfl) (.cons (cn rfl) (.cons (cn rfl) (.cons (cn rfl) .nil))))))) (.cons (cn rfl) .nil))
 obtain⟨c,h',E1,ws,H1,⟨M,hM⟩,_,_,hQ,hV⟩:=akX Ve alZ b cl N L _ _ _ _ E0 (pf 0) _ e hP hv hS
 have hM:pe M M 9 [.int .i64 op,.agg [.int .u64 x0,.int .u64 x1,.int .u64 x2,.int .u64 x3,.int .u64 x4,.int .u64 x5],.int .i64 ba] (pf 0)=.ok c h':=hM M M (Nat.le_refl _) (Nat.le_refl _)
 have hQ:some (([.c 0 .bool true]:List Sv),([]:List Pl),Lf.e1)=some (ws,[],H1):=hQ
 cases hQ
 cases hV with
 |cons k _=>
  cases k with
  |c k _=>
   have k:[c]=[.bool true]:=k
   injection k with k
   subst k
   exact⟨M,by rw[hM];rfl⟩
abbrev gW(W:Go.World):G:=gE fun b=>b<W.heap.size
theorem aaM{W:Go.World}{b o:Nat}{v:Value}(h:W.cell? ⟨b,o,none⟩=some v):b<W.heap.size:=by
 by_cases hb:b<W.heap.size
 ·exact hb
 ·exfalso
  have e:W.heap[b]? =none:=Array.getElem?_eq_none (by omega)
  unfold Go.World.cell? at h
  dsimp only at h
  rw[e]at h
  cases h
theorem agf{W:Go.World}(h0:TabAt 0 Lib.deBruijn32tab W)(h1:TabAt 1 Lib.deBruijn64tab W): @tF Fv (gW W) W:=by
 have key: ∀ (b:Nat) (l:List Nat),0<l.length->TabAt b l W->(gW W).oz b/\oc W b 0 (l.map fun n:Nat=>Value.int .u8 (n:Int)):=by
  intro b l hl h
  refine⟨aaM (h 0 hl),fun j v e=>?_⟩
  rw[List.getElem?_map,Option.map_eq_some_iff]at e
  obtain⟨n,hn,rfl⟩:=e
  obtain⟨hj,hv⟩:=List.getElem?_eq_some_iff.1 hn
  rw[Nat.zero_add,h j hj,List.getD_eq_getElem?_getD,hn]
  rfl
 intro p hp
 rcases List.mem_cons.1 hp with rfl|hp
 ·exact key 0 _ (by decide) h0
 ·obtain rfl:p=_:=by simpa using hp
  exact key 1 _ (by decide) h1
theorem aaN{W:Go.World}{op ba:Int}{x0 x1 x2 x3 x4 x5:Int}(hU:U x0/\U x1/\U x2/\U x3/\U x4/\U x5)(h0:TabAt 0 Lib.deBruijn32tab W)(h1:TabAt 1 Lib.deBruijn64tab W):
 Calls Tryz.prog 9 #[.int .i64 op,.agg #[.int .u64 x0,.int .u64 x1,.int .u64 x2,.int .u64 x3,.int .u64 x4,.int .u64 x5],.int .i64 ba] W fun e W'=>e=.returned (.bool true)/\Below W.heap.size W W':=by
 have nat: ∀ {x:Int},U x-> ∃ n:Nat,x=(n:Int)/\n<cN:=fun{x} h=>by
  have h:0<=x/\x<=18446744073709551615:=h
  exact⟨x.toNat,by omega,by show x.toNat<18446744073709551616;omega⟩
 obtain⟨u0,u1,u2,u3,u4,u5⟩:=hU
 obtain⟨n0,rfl,b0⟩:=nat u0
 obtain⟨n1,rfl,b1⟩:=nat u1
 obtain⟨n2,rfl,b2⟩:=nat u2
 obtain⟨n3,rfl,b3⟩:=nat u3
 obtain⟨n4,rfl,b4⟩:=nat u4
 obtain⟨n5,rfl,b5⟩:=nat u5
 obtain⟨n,hn⟩:=age op ba n0 n1 n2 n3 n4 n5 b0 b1 b2 b3 b4 b5
 refine @ac' Fv Tryz.prog _ (Ze n n) 9 _ [.int .i64 op,.agg #[.int .u64 (n0:Int),.int .u64 (n1:Int),.int .u64 (n2:Int),.int .u64 (n3:Int),.int .u64 (n4:Int),.int .u64 (n5:Int)],.int .i64 ba] hn W (fun b=>b<W.heap.size) (fun b h=>h) (agf h0 h1) ?_
 simp only[cJ]
 refine⟨_,_,rfl,by simp only[VR],_,_,rfl,?_,_,_,rfl,by simp only[VR],rfl⟩
 simp only[VR]
 refine⟨_,rfl,?_⟩
 simp only[cJ]
 exact⟨_,_,rfl,by simp only[VR],_,_,rfl,by simp only[VR],_,_,rfl,by simp only[VR],_,_,rfl,by simp only[VR],_,_,rfl,by simp only[VR],_,_,rfl,by simp only[VR],rfl⟩
theorem VH{H:Type}{enc:TypeId×Value->H}{W:Go.World}{fuel:Nat}{v:Value}{y:DataW H×List MemPlace}(hf:DataW.trod enc Tryz.prog W 0 (fun _=>true) true fuel 110 v.cells.toList=some y): ∃ x0 x1 x2 x3 x4 x5:Int,v=.agg #[.int .u64 x0,.int .u64 x1,.int .u64 x2,.int .u64 x3,.int .u64 x4,.int .u64 x5]/\(Lit.int .u64 x0).wf=true/\(Lit.int .u64 x1).wf=true/\(Lit.int .u64 x2).wf=true/\(Lit.int .u64 x3).wf=true/\(Lit.int .u64 x4).wf=true/\(Lit.int .u64 x5).wf=true:=by
 obtain⟨ys,m,_,_,hl,hn,hi⟩:=DataW.trod_array Tryz.underlying110 hf
 rw[show Tryz.prog.cellsOf 110=6 by kernel_rfl]at hl
 obtain⟨c0,c1,c2,c3,c4,c5,hc⟩: ∃ c0 c1 c2 c3 c4 c5:Value,v.cells.toList=[c0,c1,c2,c3,c4,c5]:=by
  generalize v.cells.toList=l at hl
  match l,hl with
  | [a,b,c,d,e,f],_=>exact⟨a,b,c,d,e,f,rfl⟩
 rw[hc]at hi
 have c1e:Tryz.prog.cellsOf 22=1:=by kernel_rfl
 rw[c1e]at hi
 have one: ∀ (i:Nat) (c:Value),i<6->([c0,c1,c2,c3,c4,c5].drop (i*1)).take 1=[c]-> ∃ x:Int,c=.int .u64 x/\(Lit.int .u64 x).wf=true:=fun i c h6 hd=>by
  have h:=hi i h6
  rw[hd,List.getElem?_eq_getElem (by omega)]at h
  obtain⟨z,e1,_,e3⟩:=DataW.trod_int Tryz.underlying22 h
  injection e1 with e1
  exact⟨z,e1,e3⟩
 obtain⟨x0,rfl,w0⟩:=one 0 c0 (by decide) rfl
 obtain⟨x1,rfl,w1⟩:=one 1 c1 (by decide) rfl
 obtain⟨x2,rfl,w2⟩:=one 2 c2 (by decide) rfl
 obtain⟨x3,rfl,w3⟩:=one 3 c3 (by decide) rfl
 obtain⟨x4,rfl,w4⟩:=one 4 c4 (by decide) rfl
 obtain⟨x5,rfl,w5⟩:=one 5 c5 (by decide) rfl
 refine⟨x0,x1,x2,x3,x4,x5,?_,w0,w1,w2,w3,w4,w5⟩
 cases v with
 |agg cs=>
  have hc:cs.toList=[.int .u64 x0,.int .u64 x1,.int .u64 x2,.int .u64 x3,.int .u64 x4,.int .u64 x5]:=hc
  congr 1
  exact Array.toList_inj.1 hc
 | _=>cases hc
end Go.Proofs.Vq
