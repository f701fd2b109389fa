import Derived.Test.YtjeanplhkkpdmaaGreatDoorVvZ
import Derived.Test.YtjeanplhkkpdmaaGreatDoorSY1
noncomputable section
namespace Go.Proofs.Vv
open Go.Ab Go.Ab.Lf Go.Proofs.Vd Go.ChangeShapes Go.WideShapes Go.ChangeAt Go.RowKit
set_option maxRecDepth 100000
abbrev Nr:Ty:=.pair u64 (.pair u64 (.pair u64 (.pair u64 u64)))
theorem aik{op A B Lo Hi:Int}{L:List Int}{x0 x1 x2 x3 x4:Int}(hA: -9223372036854775808<=A/\A<9223372036854775808)(ua:U x0)(ub:U x1)(uc:U x2)(ud:U x3)(ue:U x4){l:AV}(hs:EV N0 (.cq i64) L [l]): ∃ n,isT (oK n n 3 [.agg [.int .i64 op,.int .i64 A,.int .i64 B,.int .u64 Lo,.int .u64 Hi,l],.agg [.int .u64 x0,.int .u64 x1,.int .u64 x2,.int .u64 x3,.int .u64 x4]] (nf 0))=true:=by
 obtain⟨E0,hE⟩: ∃ E0:En,E0=⟨fun _=>⟨.any,0⟩,fun r=>[l].getD (r - 1) .any,N0,fun _=>.any⟩:=⟨_,rfl⟩
 obtain⟨f,ok,hf⟩:=aaz (aqt fun _=>true) (op:=op) (A:=A) (B:=B) (lo:=Lo) (hi:=Hi) (L:=L) hA ua ub uc ud ue;have hP:nA P3 (cg ti3 (op,A,B,Lo,Hi,L,x0,x1,x2,x3,x4,())) Lf.e1=some ([.ag [.c 0 i64 op,.c 0 i64 A,.c 0 i64 B,.c 0 u64 Lo,.c 0 u64 Hi,.c 1 (.cq i64) L],.ag [.c 0 u64 x0,.c 0 u64 x1,.c 0 u64 x2,.c 0 u64 x3,.c 0 u64 x4]],[],⟨2,.nil⟩):=rfl;have hS:SR E0 (oV ⟨2,.nil⟩) (nf 0):=by
  have et:oV ⟨2,.nil⟩=(⟨2,.nil⟩:Hq):=rfl;rw[et];have no: ∀ r R,¬ (Tr.nil:Tr Lf.Row).get r=some R:=fun r R h=>by
   have h:(none:Option Lf.Row)=some R:=h;cases h
  refine⟨?_,?_,?_,?_⟩
  ·intro r R h;exact(no r R h).elim
  ·rintro r r' id ⟨R,h,_⟩;exact(no r R h).elim
  ·rintro r id ⟨R,h,_⟩;exact(no r R h).elim
  ·intro id row h;subst hE;cases h
 have nm: ∀ (k:IntKind) (x:Int),V E0 2 (.c 0 (.int k) x) (.int k x):=fun k x=>.c rfl fun k=>(k rfl).elim
 have hv:Vs E0 2 [.ag [.c 0 i64 op,.c 0 i64 A,.c 0 i64 B,.c 0 u64 Lo,.c 0 u64 Hi,.c 1 (.cq i64) L],.ag [.c 0 u64 x0,.c 0 u64 x1,.c 0 u64 x2,.c 0 u64 x3,.c 0 u64 x4]] [.agg [.int .i64 op,.int .i64 A,.int .i64 B,.int .u64 Lo,.int .u64 Hi,l],.agg [.int .u64 x0,.int .u64 x1,.int .u64 x2,.int .u64 x3,.int .u64 x4]]:=by
  refine .cons (.ag (.cons (nm _ _) (.cons (nm _ _) (.cons (nm _ _) (.cons (nm _ _) (.cons (nm _ _) (.cons ?_ .nil))))))) (.cons (.ag (.cons (nm _ _) (.cons (nm _ _) (.cons (nm _ _) (.cons (nm _ _) (.cons (nm _ _) .nil)))))) .nil);subst hE
  exact .c hs fun _=>⟨by decide,rfl⟩
 obtain⟨c,h',E1,ws,H1,⟨M,hM⟩,_,_,hQ,hV⟩:=ok _ _ _ _ E0 (nf 0) _ hf hP hv hS;have hM:oK M M 3 [.agg [.int .i64 op,.int .i64 A,.int .i64 B,.int .u64 Lo,.int .u64 Hi,l],.agg [.int .u64 x0,.int .u64 x1,.int .u64 x2,.int .u64 x3,.int .u64 x4]] (nf 0)=.ok c h':=hM M M (Nat.le_refl _) (Nat.le_refl _);have hQ:some (([.c 0 .bool true]:List Sv),([]:List Pl),Lf.e1)=some (ws,[],H1):=hQ;cases hQ;cases hV with
 |cons k _=>
  cases k with
  |c k _=>
   have k:[c]=[.bool true]:=k;injection k with k;subst k;exact⟨M,by rw[hM];rfl⟩
theorem aaG{x:Int}(h:(Lit.int .u64 x).wf=true):U x:=by
 simp[Lit.wf,IntKind.min,IntKind.max,IntKind.bits,IntKind.signed]at h;exact h
theorem aqv{g:G}{W:Go.World}: @vm ioS g W:=by
 intro p hp;cases hp
theorem aaH{W:Go.World}{X:den tI}{v:den Nr}{s t:List AV}{cs ds:Array Value}(B1:Bd tI X)(h:EV N0 tI X s)(hv: @jy ioS (@gIo ioS W) W s cs.toList)(B2:Bd Nr v)(k:EV N0 Nr v t)(kv: @jy ioS (@gIo ioS W) W t ds.toList):
 Calls Tryz.prog 3 #[.agg cs,.agg ds] W fun e W'=>e=.returned (.bool true)/\Below W.heap.size W W':=by
 obtain⟨op,A,B,Lo,Hi,L⟩:=X;obtain⟨x0,x1,x2,x3,x4⟩:=v;obtain⟨_,c1,rfl,o1,_,c2,rfl,o2,_,c3,rfl,o3,_,c4,rfl,o4,_,c5,rfl,o5,l,rfl,o6⟩:=h;have o1:_=[AV.int .i64 op]:=o1;have o2:_=[AV.int .i64 A]:=o2;have o3:_=[AV.int .i64 B]:=o3;have o4:_=[AV.int .u64 Lo]:=o4;have o5:_=[AV.int .u64 Hi]:=o5;subst o1 o2 o3 o4 o5;obtain⟨_,d0,rfl,p0,_,d1,rfl,p1,_,d2,rfl,p2,_,d3,rfl,p3,p4⟩:=k;have p0:_=[AV.int .u64 x0]:=p0;have p1:_=[AV.int .u64 x1]:=p1;have p2:_=[AV.int .u64 x2]:=p2;have p3:_=[AV.int .u64 x3]:=p3;have p4:_=[AV.int .u64 x4]:=p4;subst p0 p1 p2 p3 p4;have b1:(Lit.int .i64 A).wf=true:=B1.2.1;simp[Lit.wf,IntKind.min,IntKind.max,IntKind.bits,IntKind.signed]at b1;obtain⟨n,hn⟩:=aik (op:=op) (A:=A) (B:=B) (Lo:=Lo) (Hi:=Hi) (L:=L) ⟨b1.1,Int.lt_of_le_of_lt b1.2 (by decide)⟩ (aaG B2.1) (aaG B2.2.1) (aaG B2.2.2.1) (aaG B2.2.2.2.1) (aaG B2.2.2.2.2) (l:=l) ⟨_,rfl,o6⟩;refine @akq ioS Tryz.prog _ (@ah1 ioS n n) 3 _ [.agg cs,.agg ds] hn W (fun b=>b<W.heap.size) (fun b h=>h) aqv ?_;rw[jy];refine⟨_,_,rfl,?_,?_⟩
 ·rw[VR];exact⟨_,rfl,hv⟩
 rw[jy];refine⟨_,_,rfl,?_,by rw[jy]⟩;rw[VR];exact⟨_,rfl,kv⟩
theorem Px{P:Go.Program}{w:Go.World}{r:Reach}{base:Nat}{t n:Nat}{e:TypeId}{v:Value}(ht:P.underlying t=some (.array n e))(h:Value.okWide P w r base t v): ∃ cs,v=.agg cs:=by
 simp only[Value.okWide,ht]at h;obtain⟨cs,h1,_⟩:=h;exact⟨cs,h1⟩
end Go.Proofs.Vv
