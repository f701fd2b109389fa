import Derived.Test.YtcnkojgmochcgaaGreatDoorPmJ
noncomputable section
namespace Go.Proofs.Vq
open Go.Ab Go.Ab.Lf Go.Proofs.Sw
set_option maxRecDepth 1000000
theorem QB:(um Gm&&Nat.ble Gm.length 1000)=true:=by kernel_rfl
def ofS(op:Int):cf Qs:=match sQ op Gm with
 |some y=>(y.1,y.2.1,y.2.2.1,y.2.2.2.1,y.2.2.2.2.1,true,())
 |none=>(0,0,false,[],[],false,())
def al0:ny:=pW (Ps [.n .i64]) [] (Ps [.tu (Ps [.ag (Ps [.n .i64,.n .i64,.bo,.ow i64,.ow i64]),.bo])]) alg Qs fun x=>.ck (!decide (64768<=x.1)) (.ok (ofS x.1))
theorem aby{cr:cx}(W:WQ cr):al0.Ok 88 cr:=by
 have C:=W.in (Oz W) 3
 have C0:=W.in .nil 3
 have hi:rQ Rx.w (QZ C8 vv aaZ) (fun n d=>su (cr n d) n (.bl 2 (.lp C8.body))):=zY C0 (cD _) (m:=3) Ow
 have ho:rQ Rx.w (QZ Oy Ah g88) (fun n d=>su (cr n d) n (.bl 0 (.lp Oy.body))):=zY C0 (L:=L88) (vD.wL (.cons (b:=C8.body) (by kernel_rfl) hi .nil)) (m:=3) Vj
 refine tw C (W.st 88 _ rfl) rfl (L:=JB [(0,QZ Oy Ah g88)]) (vD.wL (.cons (b:=Oy.body) (by kernel_rfl) ho .nil)) (m:=3) rfl ?_
 rintro⟨op,⟨⟩⟩ q h
 obtain⟨hv,h⟩:=Lf.T.cP h
 cases h
 have e:(qA (Ps [.n .i64]) [] (Ps [.tu (Ps [.ag (Ps [.n .i64,.n .i64,.bo,.ow i64,.ow i64]),.bo])]) (JB [(0,QZ Oy Ah g88)]) Tryz.x88 3 (pY agm 3) (cq [i64] (op,()))).val=
  bif decide (64768<=op)then r88 op aaU else r88 op Gm:=by kernel_rfl
 have hs:=QB
 rw[Bool.and_eq_true]at hs
 have hv:decide (64768<=op)=false:=by simpa using hv
 rw[e,hv,cond_false,Vl op Gm (Nat.le_of_ble_eq_true hs.2) hs.1]
 show _=some (cq Qs (match sQ op Gm with
  |some y=>(y.1,y.2.1,y.2.2.1,y.2.2.2.1,y.2.2.2.2.1,true,())
  |none=>(0,0,false,[],[],false,())))
 cases sQ op Gm<;>rfl
def abz(x:cf [i64]):Lf.T (List Pl):=qA (Ps [.n .i64]) [] (Ps [.bo]) (fun _=>none) Tryz.x37 20 (pY [(88,al0)] 20) (cq [i64] x)
def abA(x:cf [i64]):Bool:=cO (oy [.bool] (abz x))
def abB(x:cf [i64]):cf [.bool]:=cO (nq [.bool] (abz x))
def al1:ny:=pW (Ps [.n .i64]) [] (Ps [.bo]) [i64] [.bool] fun x=>.ck (abA x) (.ok (abB x))
theorem abC{cr:cx}(W:WQ cr):al1.Ok 37 cr:=
 mC (W.in (.cons (aby W) .nil) 20) (W.st 37 _ rfl) rfl (cD _) (m:=20) rfl (fun _=>ca _) (fun _=>ca _)
def al2(g:Cg):List (Nat×ny):=(37,al1)::e8w g 99 0
theorem abD{g:Cg}{cr:cx}(W:WP cr)(hg:(sG g).Ok 73 cr):nZ cr (al2 g):=.cons (abC W.toWQ) (Lp W hg 99 0)
def agW(g:Cg)(x:cf A3):Lf.T (List Pl):=qA (Ps [.ag (Ps [.n .i64,.n .i64,.n .i64,.n .u64,.n .u64,.im i64]),.ag (Ps [.n .u64,.n .u64,.n .u64,.n .u64])]) [] (Ps [.bo]) (fun _=>none) Tryz.x8 12 (pY (al2 g) 12) (cq A3 x)
theorem al3(g:Cg)(op A B lo hi:Int)(L:List Int)(a b c d:Int):(agW g (op,A,B,lo,hi,L,a,b,c,d,())).val=cF (abA (op,())) (bif !(abB (op,())).1 then some (cq zq (true,()))else(wlk [false,false,true] (agW g (op,A,B,lo,hi,L,a,b,c,d,()))).val):=by kernel_rfl
end Go.Proofs.Vq

noncomputable section
namespace Go.Proofs.Vq
open Go.Ab Go.Ab.Lf Go.Proofs.Sw
set_option maxRecDepth 1000000
theorem atO(g:Cg)(op A B lo hi:Int)(L:List Int)(a b c d:Int):(t8n g (op,A,B,lo,hi,L,a,b,c,d,())).val=cF (k37 (op,())) (bif !(m37 (op,())).1 then some (cq zq (true,()))else(wlk [false,false,true] (t8n g (op,A,B,lo,hi,L,a,b,c,d,()))).val):=by kernel_rfl
end Go.Proofs.Vq

noncomputable section
namespace Go.Proofs.Vq
open Go.Ab Go.Ab.Lf Go.Proofs.Sw
set_option maxRecDepth 1000000
def al4(op:Int)(A:Nat)(N:Nat):Prop:= ∀ (B lo hi:Int) (L:List Int) (a b c d:Int),(N=0∨(ra (op,(A:Int),B,lo,hi,L,[],())).val=DS 1)/\(N=1∨(ra (op,(A:Int),B,lo,hi,L,[a],())).val=DS 1)/\(N=2∨(ra (op,(A:Int),B,lo,hi,L,[a,b],())).val=DS 1)/\(N=3∨(ra (op,(A:Int),B,lo,hi,L,[a,b,c],())).val=DS 1)/\(N=4∨(ra (op,(A:Int),B,lo,hi,L,[a,b,c,d],())).val=DS 1)
abbrev atP(b:Int)(p:List Sc×Nat):Option (List Pl):=bif decide (b<0)then w9 else bif (bif decide (4032<b)then true else false)then w9 else some (cq tG (p.1.map (toC b),(p.2:Int),0,()))
def SqA(op:Int)(A:Nat)(p:List Sc×Nat):Prop:= ∀ (B lo hi:Int) (L:List Int) (b:Int),(t40 (op,(A:Int),B,lo,hi,L,b,())).val=atP b p
theorem al5{op B lo hi:Int}{L:List Int}{A N:Nat}(hN:N<=4)(h:al4 op A N):DoN op (A:Int) B lo hi L N:=by
 intro l hl
 match l,hl with
 | [],hl=>exact(h B lo hi L 0 0 0 0).1.resolve_left (by simp at hl;omega)
 | [a],hl=>exact(h B lo hi L a 0 0 0).2.1.resolve_left (by simp at hl;omega)
 | [a,b],hl=>exact(h B lo hi L a b 0 0).2.2.1.resolve_left (by simp at hl;omega)
 | [a,b,c],hl=>exact(h B lo hi L a b c 0).2.2.2.1.resolve_left (by simp at hl;omega)
 |a::b::c::d::e,hl=>simp at hl;omega
theorem al6{op B lo hi:Int}{L:List Int}{A n:Nat}{l:List Sc}{sc:Nat}(h:SqA op A (l,sc))(hn:n<=4)(ok:l.all (Bu sc)=true)(len:l.length<=10000)(hs:sc<=1000):SqN op (A:Int) B lo hi L n l sc:=by
 refine⟨?_,List.all_eq_true.1 ok,len,hs⟩
 rw[h B lo hi L (n:Int)]
 show(bif decide ((n:Int)<0)then w9 else bif (bif decide ((4032:Int)<n)then true else false)then w9 else _)=_
 rw[df (by omega),df (by omega)]
 rfl
structure PA(op:Int)(A N Lr:Nat)(sm:Bool)(l:List Sc)(sc:Nat):Prop where
 n:al4 op A N
 s:SqA op A (l,sc)
 e:LE op N Lr sm
 ok:l.all (Bu sc)=true
 len:Nat.ble l.length 10000=true
 sc:Nat.ble sc 1000=true
theorem mR{op B lo hi:Int}{L:List Int}{A N Lr:Nat}{sm:Bool}{l:List Sc}{sc:Nat}(P:PA op A N Lr sm l sc)(hN:N<=4)(hL:Lr=1∨Lr=2)(D:OP op (A:Int) B lo hi L N Lr sm l):mU op (A:Int) B lo hi L:=fun g x0 x1 x2 x3 h0 h1 h2 h3=>
 ⟨N,Lr,xE g P.e hN hL (al6 P.s hN P.ok (Nat.le_of_ble_eq_true P.len) (Nat.le_of_ble_eq_true P.sc)) D (al5 hN P.n) h0 h1 h2 h3⟩
structure PO(op:Int)(N Lr:Nat)(sm:Bool)(l:List Sc)(sc:Nat):Prop where
 n:DNo op N
 s:SqP op (l,sc)
 e:LE op N Lr sm
 ok:l.all (Bu sc)=true
 len:Nat.ble l.length 10000=true
 sc:Nat.ble sc 1000=true
theorem VX{op A B lo hi:Int}{L:List Int}{N Lr:Nat}{sm:Bool}{l:List Sc}{sc:Nat}(P:PO op N Lr sm l sc)(hN:N<=4)(hL:Lr=1∨Lr=2)(D:OP op A B lo hi L N Lr sm l):mU op A B lo hi L:=fun g x0 x1 x2 x3 h0 h1 h2 h3=>
 ⟨N,Lr,xE g P.e hN hL (Lq P.s hN P.ok (Nat.le_of_ble_eq_true P.len) (Nat.le_of_ble_eq_true P.sc)) D (vj hN P.n) h0 h1 h2 h3⟩
theorem atQ{A B:Int}{lo hi:Nat}{L:List Int}(hl:lo<nh)(hh:hi<nh)(hn:DNo 64780 0)(s: ∀ (A B lo hi:Int) (L:List Int) (b:Int),(t40 (64780,A,B,lo,hi,L,b,())).val=bif decide (b<0)then w9 else bif decide (4032<b)then w9 else some (cq tG ([(66,0,lo),(66,0,hi)],0,0,())))(e:LE 64780 0 2 false)(d:alT):mU 64780 A B (lo:Int) (hi:Int) L:=fun g x0 x1 x2 x3 h0 h1 h2 h3=>
 ⟨0,2,xE g e (by decide) (.inr rfl) (l:=[.k lo,.k hi]) (sc:=0) ⟨(s A B (lo:Int) (hi:Int) L 0).trans rfl,fun c hc=>by
  rcases List.mem_cons.1 hc with rfl|hc
  ·exact Nat.ble_eq_true_of_le hl
  ·rw[List.mem_singleton.1 hc];exact Nat.ble_eq_true_of_le hh,Nat.le_of_ble_eq_true (rfl:Nat.ble 2 10000=true),by decide⟩ (abw hl hh d) (vj (by decide) hn) h0 h1 h2 h3⟩
end Go.Proofs.Vq

noncomputable section
namespace Go.Proofs.Vq
open Go.Ab Go.Ab.Lf Go.Proofs.Sw
set_option maxRecDepth 1000000
abbrev pAs(g:Nat):qH:=.pt g (Ps [.ow nd,.n .i64,.n .i64])
abbrev ER:List Ty:=[.cp nd,i64,i64,i64,i64,i64,.bool]
abbrev Dg:List Ty:=[.cp nd,i64,i64]
def t258(x:cf ER):Lf.T (List Pl):=qA (Ps [pAs 0,.n .i64,.n .i64,.n .i64,.bo]) [2] (Ps [.tu .nil,pAs 2]) (fun _=>none) Tryz.ajt 20 (pY [] 20) (cq ER x)
def abE(x:cf ER):Bool:=cO (oy Dg (t258 x))
def QC(x:cf ER):cf Dg:=cO (nq Dg (t258 x))
def al8:ny:=pW (Ps [pAs 0,.n .i64,.n .i64,.n .i64,.bo]) [2] (Ps [.tu .nil,pAs 2]) ER Dg fun x=>.ck (abE x) (.ok (QC x))
theorem abF{cr:cx}(W:WQ cr):al8.Ok 258 cr:=
 mC (W.in .nil 20) (W.st 258 _ rfl) rfl (cD _) (m:=20) rfl (fun _=>ca _) (fun _=>ca _)
end Go.Proofs.Vq

noncomputable section
namespace Go.Proofs.Vq
open Go.Ab Go.Ab.Lf Go.Proofs.Sw
set_option maxRecDepth 1000000
abbrev pPm(g g':Nat):qH:=.pt g (Ps [pAs g',.ow i64])
abbrev ES:List Ty:=.cp nd::i64::i64::.cp i64::tV []
abbrev zg:List Ty:=[.cp nd,i64,i64,.cp i64]
def al9:List (Nat×ny):=[(258,al8)]
theorem abG{cr:cx}(W:WQ cr):nZ cr al9:=.cons (abF W) .nil
def t162(x:cf ES):Lf.T (List Pl):=qA (Ps [pPm 0 0,.ag pU]) [4] (Ps [.tu .nil,pPm 4 2]) (fun _=>none) Tryz.ajj 80 (pY al9 80) (cq ES x)
def agX(x:cf ES):Bool:=cO (oy zg (t162 x))
def abH(x:cf ES):cf zg:=cO (nq zg (t162 x))
def al':ny:=pW (Ps [pPm 0 0,.ag pU]) [4] (Ps [.tu .nil,pPm 4 2]) ES zg fun x=>.ck (agX x) (.ok (abH x))
theorem abI{cr:cx}(W:WQ cr):al'.Ok 162 cr:=
 mC (W.in (abG W) 80) (W.st 162 _ rfl) rfl (cD _) (m:=80) rfl (fun _=>ca _) (fun _=>ca _)
end Go.Proofs.Vq

noncomputable section
namespace Go.Proofs.Vq
open Go.Ab Go.Ab.Lf Go.Proofs.Sw
set_option maxRecDepth 1000000
def I3{β:Type}(l:List (den nd)):List (den nd)->(List (den nd)->Option β)->Option β
 | [],K=>K l
 |c::cs,K=>cF (roomy 24 (l.length+1)) (I3 (app l [c]) cs K)
def I4(i:Nat):List (den nd):=(66,0,255)::(131,0,0)::(match i with|0=>[]|i+1=>[(66,0,((8*(i+1):Nat):Int)),(134,0,0),(132,0,0)])
def I5(l:List (den nd))(b u:Int)(v:List Int)(c:Int):cf ER:=(l,b,u,v.getD (DA .u8 c 8).toNat 0,8,cb .i64 (DC .u8 c 8),false,())
def VY(v:List Int)(y:Nat->Int):Nat->Nat->cf Dg->Option (List Pl)
 |0,_,p=>some (cq zg (p.1,p.2.1,p.2.2.1,v,()))
 |f+1,j,p=>cF (cZ (DA .u8 (y j) 8) v.length) (cF (abE (I5 p.1 p.2.1 p.2.2.1 v (y j))) (I3 (QC (I5 p.1 p.2.1 p.2.2.1 v (y j))).1 (I4 (j % 8)) fun l=>VY v y f (j+1) (l,(QC (I5 p.1 p.2.1 p.2.2.1 v (y j))).2)))
theorem ama(l:List (den nd))(b u:Int)(v:List Int)(y:cf (tV [])):(t162 (l,b,u,v,y)).val=VY v (vO y) 16 0 (l,b,u,()):=by kernel_rfl
end Go.Proofs.Vq

noncomputable section
namespace Go.Proofs.Vq
open Go.Ab Go.Ab.Lf Go.Proofs.Sw
set_option maxRecDepth 1000000
def amb:List (Nat×ny):=[(88,Lc),(162,al')]
theorem abJ{cr:cx}(W:WQ cr):nZ cr amb:=.cons (wX W) (.cons (abI W) .nil)
def Ls(x:cf DN):Lf.T (List Pl):=qA (Ps [.ag (Ps [.n .i64,.n .i64,.n .i64,.n .u64,.n .u64,.im i64]),.n .i64]) [] (Ps [.tu (Ps [.ow nd,.n .i64,.n .i64])]) (fun _=>none) Tryz.x40 80 (pY amb 80) (cq DN x)
def VZ(x:cf DN):Bool:=cO (oy tG (Ls x))
def I6(x:cf DN):cf tG:=cO (nq tG (Ls x))
def amc:ny:=pW (Ps [.ag (Ps [.n .i64,.n .i64,.n .i64,.n .u64,.n .u64,.im i64]),.n .i64]) [] (Ps [.tu (Ps [.ow nd,.n .i64,.n .i64])]) DN tG fun x=>.ck (VZ x) (.ok (I6 x))
theorem abK{cr:cx}(W:WQ cr):amc.Ok 40 cr:=
 mC (W.in (abJ W) 80) (W.st 40 _ rfl) rfl (cD _) (m:=80) rfl (fun _=>ca _) (fun _=>ca _)
end Go.Proofs.Vq

noncomputable section
namespace Go.Proofs.Vq
open Go.Ab Go.Ab.Lf Go.Proofs.Sw
set_option maxRecDepth 1000000
def Lt(c:Bool)(y:Nat->Int):Nat->Bool
 |0=>c
 |n+1=>bif Lt c y n then true else decide (31<y n)
abbrev V0(lo hi b:Int):cf ES:=([(33,cY .i64 b 3,0),(33,cY .i64 b 2,0),(33,cY .i64 b 1,0),(33,cY .i64 b 0,0)],b,4,[cY .i64 b 0,cY .i64 b 1,cY .i64 b 2,cY .i64 b 3],vy lo hi)
theorem adl(A B lo hi:Int)(L:List Int)(b:Int):(Ls (64781,A,B,lo,hi,L,b,())).val=bif decide (b<0)then w9 else bif Lt (decide (4032<b)) (qa lo hi) 16 then w9 else cF (agX (V0 lo hi b)) (some (cq tG ((abH (V0 lo hi b)).1,(abH (V0 lo hi b)).2.2.1,0,()))):=by kernel_rfl
end Go.Proofs.Vq

noncomputable section
namespace Go.Proofs.Vq
open Go.Ab Go.Ab.Lf Go.Proofs.Sw
set_option maxRecDepth 1000000
theorem amd(l:List (den nd))(b u h i:Int):(t258 (l,b,u,h,8,i,false,())).val=cF (roomy 24 (l.length+1)) (bif decide (0<i)then I3 (app l [(32,h,0)]) [(66,0,cb .u64 (w7 .i64 8 i)),(136,0,0),(66,0,255),(131,0,0)] fun l=>some (cq Dg (l,b,u,()))else I3 (app l [(32,h,0)]) [(66,0,255),(131,0,0)] fun l=>some (cq Dg (l,b,u,()))):=by kernel_rfl
theorem BB{β:Type}: ∀ (cs l:List (den nd)) (K:List (den nd)->Option β),l.length+cs.length<=100000->I3 l cs K=K (l++cs)
 | [],l,K,_=>by rw[List.append_nil];rfl
 |c::cs,l,K,h=>by
  have h:l.length+(cs.length+1)<=100000:=h
  show cF (roomy 24 (l.length+1)) (I3 (app l [c]) cs K)=_
  rw[rS (by decide) (by omega),mP]
  have e:=BB cs (l++[c]) K (by rw[List.length_append];show l.length+1+cs.length<=100000;omega)
  rw[List.append_assoc]at e
  exact e
theorem agY{l:List (den nd)}{b u:Int}{a i:Nat}(hl:l.length<=90000)(hi:i<8):abE (l,b,u,cY .i64 b (a:Int),8,(i:Int),false,())=true/\QC (l,b,u,cY .i64 b (a:Int),8,(i:Int),false,())=(l++(uo a 8 i false).map (toC b),b,u,()):=by
 refine mO (ca _) (ca _) ((amd l b u _ _).trans ?_)
 rw[rS (by decide) (by omega)]
 show(bif decide ((0:Int)<(i:Int))then _ else _)=_
 by_cases h:0<i
 ·rw[dt (show(0:Int)<(i:Int) by omega),cond_true,mP,BB _ _ _ (by rw[List.length_append];show l.length+1+4<=100000;omega),List.append_assoc]
  have e:cb .u64 (w7 .i64 8 (i:Int))=((8*i:Nat):Int):=by
   have:i=0∨i=1∨i=2∨i=3∨i=4∨i=5∨i=6∨i=7:=by omega
   rcases this with rfl|rfl|rfl|rfl|rfl|rfl|rfl|rfl<;>rfl
  rw[e]
  unfold uo
  rw[if_neg (by decide),if_neg (by decide),if_pos h]
  rfl
 ·rw[df (show ¬ (0:Int)<(i:Int) by omega),cond_false,mP,BB _ _ _ (by rw[List.length_append];show l.length+1+2<=100000;omega),List.append_assoc]
  unfold uo
  rw[if_neg (by decide),if_neg (by decide),if_neg h]
  rfl
theorem OT{i:Nat}(b:Int):I4 i=(xQ 8 i).map (toC b):=by
 unfold xQ
 match i with
 |0=>rw[if_pos (by decide),if_neg (by decide)];rfl
 |i+1=>rw[if_pos (by decide),if_pos (by omega)];rfl
theorem I7(i:Nat):(I4 i).length<=5:=by
 match i with
 |0=>exact(by decide:(2:Nat)<=5)
 |i+1=>exact Nat.le_refl 5
theorem OU(a i:Nat):(uo a 8 i false).length<=5:=by
 unfold uo
 rw[if_neg (by decide),if_neg (by decide)]
 by_cases h:0<i
 ·rw[if_pos h];exact Nat.le_refl 5
 ·rw[if_neg h];exact(by decide:(3:Nat)<=5)
theorem OV{b:Int}(qw:Nat->Nat){y:Nat->Int}: ∀ (f j:Nat) (l:List (den nd)) (u:Int),(∀ k,j<=k->k<j+f->y k=(qw k:Int)/\qw k<32)->l.length+10*f<=80000->
 VY [cY .i64 b 0,cY .i64 b 1,cY .i64 b 2,cY .i64 b 3] y f j (l,b,u,())=some (cq zg (l++(oM 8 8 (fun j=>uo (qw j / 8) 8 (qw j % 8) false) f j).map (toC b),b,u,[cY .i64 b 0,cY .i64 b 1,cY .i64 b 2,cY .i64 b 3],()))
 |0,j,l,u,_,_=>by
  show some (cq zg (l,b,u,_,()))=some (cq zg (l++[],b,u,_,()))
  rw[List.append_nil]
 |f+1,j,l,u,hy,hl=>by
  obtain⟨e,lt⟩:=hy j (Nat.le_refl _) (by omega)
  have q:DA .u8 (y j) 8=((qw j / 8:Nat):Int)/\cb .i64 (DC .u8 (y j) 8)=((qw j % 8:Nat):Int):=by
   rw[e]
   generalize qw j=s at lt
   have: ∀ s:Fin 32,DA .u8 ((s.val:Nat):Int) 8=((s.val / 8:Nat):Int)/\cb .i64 (DC .u8 ((s.val:Nat):Int) 8)=((s.val % 8:Nat):Int):=by decide
   exact this ⟨s,lt⟩
  have g:[cY .i64 b 0,cY .i64 b 1,cY .i64 b 2,cY .i64 b 3].getD (qw j / 8) 0=cY .i64 b ((qw j / 8:Nat):Int):=by
   have:qw j / 8=0∨qw j / 8=1∨qw j / 8=2∨qw j / 8=3:=by omega
   rcases this with h|h|h|h<;>rw[h]<;>rfl
  have X:I5 l b u [cY .i64 b 0,cY .i64 b 1,cY .i64 b 2,cY .i64 b 3] (y j)=(l,b,u,cY .i64 b ((qw j / 8:Nat):Int),8,((qw j % 8:Nat):Int),false,()):=by
   unfold I5
   rw[q.1,q.2,Int.toNat_natCast,g]
  obtain⟨k1,k2⟩:=agY (l:=l) (b:=b) (u:=u) (a:=qw j / 8) (i:=qw j % 8) (by omega) (Nat.mod_lt _ (by decide))
  show cF (cZ (DA .u8 (y j) 8) 4) (cF (abE (I5 l b u _ (y j))) (I3 (QC (I5 l b u _ (y j))).1 (I4 (j % 8)) fun l2=>VY _ y f (j+1) (l2,(QC (I5 l b u _ (y j))).2)))=_
  rw[X,k1,k2,q.1]
  have ix:cZ ((qw j / 8:Nat):Int) 4=true:=by
   unfold cZ
   rw[dt (by omega),dt (by omega)];rfl
  rw[ix]
  have ll:=OU (qw j / 8) (qw j % 8)
  have il:=I7 (j % 8)
  show I3 (l++(uo (qw j / 8) 8 (qw j % 8) false).map (toC b)) (I4 (j % 8)) (fun l2=>VY _ y f (j+1) (l2,b,u,()))=_
  rw[BB _ _ _ (by rw[List.length_append,List.length_map];omega)]
  rw[OV qw f (j+1) _ u (fun k h1 h2=>hy k (by omega) (by omega)) (by rw[List.length_append,List.length_append,List.length_map];omega),OT b]
  show _=some (cq zg (l++(uo (qw j / 8) 8 (qw j % 8) false++(xQ 8 (j % 8)++oM 8 8 (fun j=>uo (qw j / 8) 8 (qw j % 8) false) f (j+1))).map (toC b),b,u,_,()))
  rw[List.map_append,List.map_append,List.append_assoc,List.append_assoc]
theorem OW(lo hi:Nat): ∀ k,k<16->qa (lo:Int) (hi:Int) k=(rb lo hi k:Int):=fun k hk=>(wy _ hk).symm.trans ((nO (x:=lo) (y:=hi)).1 k hk)
theorem OX{y:Nat->Int}: ∀ n,(∀ k,k<n->y k<32)->Lt false y n=false
 |0,_=>rfl
 |n+1,h=>by
  show(bif Lt false y n then true else decide (31<y n))=false
  rw[OX n (fun k hk=>h k (by omega)),cond_false]
  have:=h n (by omega)
  exact df (by omega)
theorem I8{y:Nat->Int}: ∀ n k,k<n->32<=y k->Lt false y n=true
 |0,k,h,_=>absurd h (Nat.not_lt_zero k)
 |n+1,k,h,hk=>by
  show(bif Lt false y n then true else decide (31<y n))=true
  by_cases e:k=n
  ·subst e
   cases Lt false y k with
   |true=>rfl
   |false=>exact dt (by omega)
  ·rw[I8 n k (by omega) hk];rfl
theorem agZ{A B:Int}{lo hi:Nat}{L:List Int}{n:Nat}(hn:n<=4)(hs: ∀ j,j<16->rb lo hi j<32):(Ls (64781,A,B,(lo:Int),(hi:Int),L,(n:Int),())).val=some (cq tG ((DO (rb lo hi)).map (toC (n:Int)),4,0,())):=by
 rw[adl,df (show ¬ (n:Int)<0 by omega),cond_false,df (show ¬ (4032:Int)<n by omega),OX 16 (fun k hk=>by rw[OW lo hi k hk];have:=hs k hk;omega),cond_false]
 have r:=OV (b:=(n:Int)) (rb lo hi) (y:=vO (vy (lo:Int) (hi:Int))) 16 0 [(33,cY .i64 (n:Int) 3,0),(33,cY .i64 (n:Int) 2,0),(33,cY .i64 (n:Int) 1,0),(33,cY .i64 (n:Int) 0,0)] 4 (fun k _ hk=>⟨(nO (x:=lo) (y:=hi)).1 k (by omega),hs k (by omega)⟩) (by show 4+10*16<=80000;omega)
 obtain⟨q1,q2⟩:=mO (k:=agX (V0 (lo:Int) (hi:Int) (n:Int))) (m:=abH (V0 (lo:Int) (hi:Int) (n:Int))) (ca _) (ca _) ((ama _ _ _ _ _).trans r)
 rw[q1,q2]
 show some (cq tG (_++_,4,0,()))=_
 unfold DO
 rw[List.map_append]
 rfl
theorem I9(one:Nat->List Sc)(h: ∀ j,(one j).length<=5): ∀ f j,(oM 8 8 one f j).length<=10*f
 |0,_=>Nat.le_refl 0
 |f+1,j=>by
  show(one j++(xQ 8 (j % 8)++oM 8 8 one f (j+1))).length<=_
  have i5:=I7 (j % 8)
  rw[OT 0,List.length_map]at i5
  rw[List.length_append,List.length_append]
  have:=I9 one h f (j+1)
  have:=h j
  omega
theorem abL(qw:Nat->Nat):(DO qw).length<=10000:=by
 unfold DO
 rw[List.length_append]
 have:=I9 (fun j=>uo (qw j / 8) 8 (qw j % 8) false) (fun j=>OU _ _) 16 0
 show 4+_<=10000
 omega
theorem OY(N:Nat)(one:Nat->List Sc): ∀ f j,(∀ k,j<=k->k<j+f-> ∀ c,c∈one k->Bu N c=true)-> ∀ c,c∈oM 8 8 one f j->Bu N c=true
 |0,_,_,c,hc=>nomatch hc
 |f+1,j,h,c,hc=>by
  have hc:c∈one j++(xQ 8 (j % 8)++oM 8 8 one f (j+1)):=hc
  rcases List.mem_append.1 hc with hc|hc
  ·exact h j (Nat.le_refl _) (by omega) c hc
  ·rcases List.mem_append.1 hc with hc|hc
   ·have: ∀ i:Fin 8,(xQ 8 i.val).all (Bu 0)=true:=by decide
    have e:=List.all_eq_true.1 (this ⟨j % 8,Nat.mod_lt _ (by decide)⟩) c hc
    cases c with
    |g a=>exact absurd e (by show ¬ Nat.blt a 0=true;simp[Nat.blt])
    |s a=>exact absurd e (by show ¬ Nat.blt a 0=true;simp[Nat.blt])
    |k n=>exact e
    |o op=>exact e
   ·exact OY N one f (j+1) (fun k h1 h2=>h k (by omega) (by omega)) c hc
theorem abM(qw:Nat->Nat)(hs: ∀ j,j<16->qw j<32): ∀ c,c∈DO qw->Bu 4 c=true:=by
 intro c hc
 unfold DO at hc
 rcases List.mem_append.1 hc with hc|hc
 ·have:[Sc.s 3,.s 2,.s 1,.s 0].all (Bu 4)=true:=by decide
  exact List.all_eq_true.1 this c hc
 ·refine OY 4 _ 16 0 (fun k _ hk c hc=>?_) c hc
  have lt:=hs k (by omega)
  revert hc
  generalize qw k=s at lt
  have: ∀ s:Fin 32,(uo (s.val / 8) 8 (s.val % 8) false).all (Bu 4)=true:=by decide
  exact fun hc=>List.all_eq_true.1 (this ⟨s,lt⟩) c hc
theorem QD{A B lo hi:Int}{L:List Int}{b:Int}{k:Nat}(hk:k<16)(h:32<=qa lo hi k)(h0:0<=b)(h1:b<=4032):(Ls (64781,A,B,lo,hi,L,b,())).val=w9:=by
 rw[adl,df (show ¬ b<0 by omega),cond_false,df (show ¬ 4032<b by omega),I8 16 k hk h,cond_true]
end Go.Proofs.Vq

noncomputable section
namespace Go.Proofs.Vq
open Go.Ab Go.Ab.Lf Go.Proofs.Sw
set_option maxRecDepth 1000000
def e8v(g:Cg)(N L:Nat):List (Nat×ny):=[(18,s18),(22,s22),(23,s23 g),(25,s25),(38,agP N L),(36,VO),(40,amc),(88,Lc)]
theorem ag0{g:Cg}{cr:cx}(W:WP cr)(hg:(sG g).Ok 73 cr)(N L:Nat):nZ cr (e8v g N L):=.cons (Uw W.toWQ W.chk) (.cons (UB W.toWQ) (.cons (Ut W.toWQ hg) (.cons (UG W.toWQ) (.cons (OM W.toWQ N L) (.cons W.aw (.cons (abK W.toWQ) (.cons (wX W.toWQ) .nil)))))))
def t8v(g:Cg)(N L:Nat)(x:cf A3):Lf.T (List Pl):=qA (Ps [.ag (Ps [.n .i64,.n .i64,.n .i64,.n .u64,.n .u64,.im i64]),.ag (Ps [.n .u64,.n .u64,.n .u64,.n .u64])]) [] (Ps [.bo]) (fun _=>none) Tryz.x8 12 (pY (e8v g N L) 12) (cq A3 x)
def OZ(g:Cg)(o A B lo hi:Int)(L:List Int)(n Lr:Nat)(l w:List Int):Option (List Pl):=
 cF (VZ (o,A,B,lo,hi,L,(n:Int),())) (cF (Qi mM) (ON g (n:Int) (Xh n) (List.replicate n (126:Int)) l w (List.replicate Lr (126:Int)) (I6 (o,A,B,lo,hi,L,(n:Int),())).2.1 (I6 (o,A,B,lo,hi,L,(n:Int),())) (OB (n:Int) (Xh n) (List.replicate n (126:Int)) w (List.replicate Lr (126:Int)) (I6 (o,A,B,lo,hi,L,(n:Int),())).2.1 (I6 (o,A,B,lo,hi,L,(n:Int),())))))
def I'(g:Cg)(o A B lo hi:Int)(L:List Int)(sm:Bool)(Lr:Nat)(x0 x1 x2 x3:Int):Nat->Nat->Option (List Pl)
 |0,n=>cF (DR (o,A,B,lo,hi,L,A4 sm x0 x1 x2 x3 n,())) (cF (decide ((rE (o,A,B,lo,hi,L,A4 sm x0 x1 x2 x3 n,())).2.1=0)&&decide ((rE (o,A,B,lo,hi,L,A4 sm x0 x1 x2 x3 n,())).1.length=Lr)) (OZ g o A B lo hi L n Lr (A4 sm x0 x1 x2 x3 n) (wsP Lr (rE (o,A,B,lo,hi,L,A4 sm x0 x1 x2 x3 n,())).1)))
 |f+1,n=>cF (DR (o,A,B,lo,hi,L,A4 sm x0 x1 x2 x3 n,())) (cF (decide ((rE (o,A,B,lo,hi,L,A4 sm x0 x1 x2 x3 n,())).1.length=0)&&decide ((rE (o,A,B,lo,hi,L,A4 sm x0 x1 x2 x3 n,())).2.1=1)) (I' g o A B lo hi L sm Lr x0 x1 x2 x3 f (n+1)))
def LEs(op:Int)(N Lr:Nat)(sm:Bool):Prop:= ∀ (g:Cg) (A B lo hi:Int) (L:List Int) (x0 x1 x2 x3:Int),(t8v g N Lr (op,A,B,lo,hi,L,x0,x1,x2,x3,())).val=I' g op A B lo hi L sm Lr x0 x1 x2 x3 N 0
structure ame(op A B lo hi:Int)(L:List Int)(n:Nat)(l:List Sc)(N:Nat):Prop where
 S:(Ls (op,A,B,lo,hi,L,(n:Int),())).val=some (cq tG (l.map (toC (n:Int)),(N:Int),0,()))
 ok: ∀ c,c∈l->Bu N c=true
 len:l.length<=10000
 n:N<=1000
theorem V1(g:Cg){op A B lo hi:Int}{L:List Int}{xs ys:List Nat}{l:List Sc}{N Lr:Nat}{nK:Nat->Nat}(Q:ame op A B lo hi L xs.length l N)(n6:xs.length<=6)(o2:ys.length<=2)(hL:ys.length=Lr)(hx: ∀ v,v∈xs->v<nh)(hr:run l xs.reverse (fun _=>0)=some (ys.reverse,nK)):
 OZ (g1 g) op A B lo hi L xs.length Lr (toI xs) (toI ys)=some (cq zq (true,())):=by
 subst hL
 have q:=mO (k:=VZ (op,A,B,lo,hi,L,(xs.length:Int),())) (m:=I6 (op,A,B,lo,hi,L,(xs.length:Int),())) (ca _) (ca _) Q.S
 have lcs:(Xh xs.length).length=xs.length:=by unfold Xh;rw[List.length_map,List.length_map,List.length_range]
 unfold OZ
 rw[q.1,Bp]
 have ct: ∀ r:Option (List Pl),cF true r=r:=fun _=>rfl
 rw[ct,ct,I1 (by rw[q.2])]
 refine Vr g n6 o2 hx (b:=xs.length) (N:=N) (l:=l) (Nat.le_refl _) (by have:=Q.n;omega) Q.len Q.ok hr _ _ (List.replicate xs.length (126:Int)) (List.replicate ys.length (126:Int)) _ _ _ (by rw[lcs];exact n6) q.2 ?_
 unfold OB
 rw[q.2]
 show([(List.replicate xs.length (126:Int),List.replicate ys.length (126:Int))],[((-1:Int),(0:Int),(xs.length:Int),Int.ofNat (toI ys).length,(N:Int),app (app (Xh xs.length) (l.map (toC (xs.length:Int)))) [((15:Int),(0:Int),(0:Int))],[])],tF (tB []) Ix (vE [] ⟨[],[],0⟩ ()))=_
 rw[mP,mP,show(toI ys).length=ys.length from List.length_map ..,List.append_assoc]
 unfold rq
 rw[Nat.sub_self,Nat.zero_add]
 rfl
theorem abN(g:Cg){op A B lo hi:Int}{L:List Int}{N Lr:Nat}{sm:Bool}{l:List Sc}{sc:Nat}(E:LEs op N Lr sm)(hN:N<=4)(hLr:Lr=1∨Lr=2)(Q:ame op A B lo hi L N l sc)(D:OP op A B lo hi L N Lr sm l)(R:DoN op A B lo hi L N){x0 x1 x2 x3:Nat}(h0:x0<nh)(h1:x1<nh)(h2:x2<nh)(h3:x3<nh):
 (t8v (g1 g) N Lr (op,A,B,lo,hi,L,(x0:Int),(x1:Int),(x2:Int),(x3:Int),())).val=some (cq zq (true,())):=by
 rw[E]
 have ct: ∀ r:Option (List Pl),cF true r=r:=fun _=>rfl
 have key: ∀ f n,n+f=N->I' (g1 g) op A B lo hi L sm Lr (x0:Int) (x1:Int) (x2:Int) (x3:Int) f n=some (cq zq (true,())):=by
  intro f
  induction f with
  |zero=>
   intro n hn
   obtain rfl:n=N:=by omega
   obtain⟨e1,e2,e3⟩:=OO sm h0 h1 h2 h3 n hN
   obtain⟨ys,nK,d1,d2,d3⟩:=D x0 x1 x2 x3 h0 h1 h2 h3
   obtain⟨q1,q2⟩:=wY d1
   unfold I'
   rw[e1,q1,q2,ct]
   have hl:(toI ys).length=Lr:=(List.length_map ..).trans d2
   show cF (decide ((0:Int)=0)&&decide ((toI ys).length=Lr)) (OZ (g1 g) op A B lo hi L n Lr (toI (GL sm x0 x1 x2 x3 n)) (wsP Lr (toI ys)))=_
   rw[dt rfl,dt hl,VS hl hLr]
   have r:=V1 g (op:=op) (A:=A) (B:=B) (lo:=lo) (hi:=hi) (L:=L) (xs:=GL sm x0 x1 x2 x3 n) (ys:=ys) (l:=l) (N:=sc) (by rw[e2];exact Q) (by omega) (by omega) d2 e3 d3
   rw[e2]at r
   rw[r]
   rfl
  |succ f ih=>
   intro n hn
   obtain⟨e1,e2,e3⟩:=OO sm h0 h1 h2 h3 n (by omega)
   obtain⟨q1,q2⟩:=wY (R (toI (GL sm x0 x1 x2 x3 n)) (by rw[show(toI (GL sm x0 x1 x2 x3 n)).length=_ from List.length_map ..,e2];omega))
   unfold I'
   rw[e1,q1,q2,ct]
   have e4:(decide (([]:List Int).length=0)&&decide ((1:Int)=1))=true:=rfl
   show cF (decide (([]:List Int).length=0)&&decide ((1:Int)=1)) _=_
   rw[e4,ct]
   exact ih (n+1) (by omega)
 exact key N 0 (Nat.zero_add _)
def V2(op A B lo hi:Int)(L:List Int):Prop:= ∀ (g:Cg) (x0 x1 x2 x3:Nat),x0<nh->x1<nh->x2<nh->x3<nh-> ∃ N Lr,(t8v (g1 g) N Lr (op,A,B,lo,hi,L,(x0:Int),(x1:Int),(x2:Int),(x3:Int),())).val=some (cq zq (true,()))
def Ja(o A B lo hi:Int)(L:List Int)(sm:Bool)(x0 x1 x2 x3:Int):Nat->Nat->Option (List Pl)
 |0,_=>cF (VZ (o,A,B,lo,hi,L,0,())) (some (cq zq (decide ((I6 (o,A,B,lo,hi,L,0,())).2.2.1=1),())))
 |f+1,n=>cF (DR (o,A,B,lo,hi,L,A4 sm x0 x1 x2 x3 n,())) (cF (decide ((rE (o,A,B,lo,hi,L,A4 sm x0 x1 x2 x3 n,())).1.length=0)&&decide ((rE (o,A,B,lo,hi,L,A4 sm x0 x1 x2 x3 n,())).2.1=1)) (Ja o A B lo hi L sm x0 x1 x2 x3 f (n+1)))
def LNs(op:Int)(sm:Bool):Prop:= ∀ (g:Cg) (A B lo hi:Int) (L:List Int) (x0 x1 x2 x3:Int),(t8v g 99 0 (op,A,B,lo,hi,L,x0,x1,x2,x3,())).val=Ja op A B lo hi L sm x0 x1 x2 x3 5 0
theorem abO(g:Cg){op A B lo hi:Int}{L:List Int}{sm:Bool}(E:LNs op sm){x0 x1 x2 x3:Int}(D: ∀ n,n<5->(ra (op,A,B,lo,hi,L,A4 sm x0 x1 x2 x3 n,())).val=DS 1)(S:(Ls (op,A,B,lo,hi,L,0,())).val=w9):(t8v (g1 g) 99 0 (op,A,B,lo,hi,L,x0,x1,x2,x3,())).val=some (cq zq (true,())):=by
 rw[E]
 have key: ∀ f n,n+f=5->Ja op A B lo hi L sm x0 x1 x2 x3 f n=some (cq zq (true,())):=by
  intro f
  induction f with
  |zero=>
   intro n _
   obtain⟨q1,q2⟩:=mO (k:=VZ (op,A,B,lo,hi,L,0,())) (m:=I6 (op,A,B,lo,hi,L,0,())) (ca _) (ca _) S
   unfold Ja
   rw[q1,q2]
   rfl
  |succ f ih=>
   intro n hn
   obtain⟨q1,q2⟩:=wY (D n (by omega))
   unfold Ja
   rw[q1,q2]
   exact ih (n+1) (by omega)
 exact key 5 0 rfl
theorem abP{A B:Int}{lo hi:Nat}{L:List Int}(hs: ∀ j,j<16->rb lo hi j<32)(hd:agN)(hn:DNo 64781 4)(e:LEs 64781 4 2 false):V2 64781 A B (lo:Int) (hi:Int) L:=fun g x0 x1 x2 x3 h0 h1 h2 h3=>
 ⟨4,2,abN g e (by decide) (.inr rfl) (l:=DO (rb lo hi)) (sc:=4) ⟨agZ (by decide) hs,abM _ hs,abL _,by decide⟩ (abv hd hs) (vj (by decide) hn) h0 h1 h2 h3⟩
theorem Lu{A B:Int}{lo hi:Nat}{L:List Int}{k:Nat}(hk:k<16)(hs:32<=rb lo hi k)(hd:agN)(hn:DNo 64781 4)(e:LNs 64781 false):V2 64781 A B (lo:Int) (hi:Int) L:=fun g x0 x1 x2 x3 _ _ _ _=>
 ⟨99,0,abO g e (fun n Y7=>by
  match n,Y7 with
  |0,_=>exact vj (by decide) hn [] (by decide)
  |1,_=>exact vj (by decide) hn [(x0:Int)] (by show 1<4;decide)
  |2,_=>exact vj (by decide) hn [(x0:Int),(x1:Int)] (by show 2<4;decide)
  |3,_=>exact vj (by decide) hn [(x0:Int),(x1:Int),(x2:Int)] (by show 3<4;decide)
  |4,_=>
   refine(hd A B (lo:Int) (hi:Int) L (x0:Int) (x1:Int) (x2:Int) (x3:Int)).trans ?_
   obtain⟨q1,q2⟩:=(alQ (ya:=vy (x0:Int) (x1:Int)) (yb:=vy (x2:Int) (x3:Int)) (ys:=vy (lo:Int) (hi:Int)) nO nO nO).2 ⟨k,hk,hs⟩
   have q1:IZ (cV (tV (tV [])) (qa (lo:Int) (hi:Int)) (cV (tV []) (qa (x0:Int) (x1:Int)) (cV [] (qa (x2:Int) (x3:Int)) ())))=true:=q1
   have q2:DQ (cV (tV (tV [])) (qa (lo:Int) (hi:Int)) (cV (tV []) (qa (x0:Int) (x1:Int)) (cV [] (qa (x2:Int) (x3:Int)) ())))=cV [i64] wW (1,()):=q2
   rw[q1,q2]
   rfl) (QD hk (by rw[OW lo hi k hk];omega) (by decide) (by decide))⟩
end Go.Proofs.Vq

noncomputable section
namespace Go.Proofs.Vq
open Go.Ab Go.Ab.Lf Go.Proofs.Sw
set_option maxRecDepth 1000000
abbrev boF(b:Bool):Option (List Pl):=some (cq [.bool] (b,()))
def V3(a b k:Int)(r:Option (List Pl)):Option (List Pl):=bif (bif decide (a<=k)then decide (k<=b)else false)then boF true else r
def rg1(a k:Int)(r:Option (List Pl)):Option (List Pl):=bif decide (k=a)then boF true else r
def rgX(k:Int):Option (List Pl):=V3 12 30 k (V3 101 102 k (V3 124 127 k (rg1 130 k (V3 133 138 k (V3 156 159 k (V3 167 170 k (rg1 186 k (V3 188 191 k (V3 199 202 k (V3 220 223 k (boF false)))))))))))
theorem atT(op:Int):(t37 (op,())).val=cF (decide (64768<=op)) (bif !(O1 op).2.2.2.2.2.1 then boF false else rgX (cA .i64 op 64768)):=by kernel_rfl
theorem amf(op:Int):(abz (op,())).val=cF (!decide (64768<=op)) (bif !(ofS op).2.2.2.2.2.1 then boF false else rgX (cA .i64 op 64768)):=by kernel_rfl
theorem zh{a b k:Int}{r:Option (List Pl)}(h:k<a∨b<k):V3 a b k r=r:=by
 unfold V3
 rcases h with h|h
 ·rw[decide_eq_false (show ¬ a<=k by omega)];rfl
 ·rw[decide_eq_false (show ¬ k<=b by omega)];cases decide (a<=k)<;>rfl
theorem adm{a k:Int}{r:Option (List Pl)}(h:k≠a):rg1 a k r=r:=by
 unfold rg1
 rw[decide_eq_false h];rfl
theorem adn{k:Int}(h:k<0∨256<=k):rgX k=boF false:=by
 unfold rgX
 rw[zh (by omega),zh (by omega),zh (by omega),adm (by omega),zh (by omega),zh (by omega),zh (by omega),adm (by omega),zh (by omega),zh (by omega),zh (by omega)]
theorem O0{op:Int}(h0: -9223372036854775808<=op)(h1:op<9223372036854775808)(h:op<64768∨65024<=op):cA .i64 op 64768<0∨256<=cA .i64 op 64768:=by
 by_cases h2: -9223372036854775808<=op - 64768
 ·rw[show cA .i64 op 64768=op - 64768 from wrap_i64 h2 (by omega)]
  omega
 ·right
  have e:cA .i64 op 64768=Int.sub (Int.emod (Int.add (op - 64768) 9223372036854775808) 18446744073709551616) 9223372036854775808:=rfl
  have e2:Int.emod (Int.add (op - 64768) 9223372036854775808) 18446744073709551616=op - 64768+9223372036854775808+18446744073709551616:=by
   have:Int.add (op - 64768) 9223372036854775808=(op - 64768+9223372036854775808+18446744073709551616)+18446744073709551616*(-1):=by
    show op - 64768+9223372036854775808=_
    omega
   rw[this]
   refine(Int.add_mul_emod_self_left _ _ _).trans (Int.emod_eq_of_lt (by omega) (by omega))
  rw[e,e2]
  show 256<=op - 64768+9223372036854775808+18446744073709551616 - 9223372036854775808
  omega
theorem ag1{op:Int}(h0: -9223372036854775808<=op)(h1:op<9223372036854775808)(h:65024<=op):k37 (op,())=true/\(m37 (op,())).1=false:=by
 have e:(t37 (op,())).val=some (cq [.bool] (false,())):=by
  rw[atT,adn (O0 h0 h1 (.inr h)),decide_eq_true (show 64768<=op by omega)]
  cases(O1 op).2.2.2.2.2.1<;>rfl
 obtain⟨a,c⟩:=mO (k:=k37 (op,())) (m:=m37 (op,())) (ca _) (ca _) e
 exact⟨a,by rw[c]⟩
theorem ag2{op:Int}(h0: -9223372036854775808<=op)(h1:op<9223372036854775808)(h:op<64768):abA (op,())=true/\(abB (op,())).1=false:=by
 have e:(abz (op,())).val=some (cq [.bool] (false,())):=by
  rw[amf,adn (O0 h0 h1 (.inl h)),decide_eq_false (show ¬ 64768<=op by omega)]
  cases(ofS op).2.2.2.2.2.1<;>rfl
 obtain⟨a,c⟩:=mO (k:=abA (op,())) (m:=abB (op,())) (ca _) (ca _) e
 exact⟨a,by rw[c]⟩
def nIs(v:Nat):Bool:=match(t37 ((v:Int),())).val with|some l=>(match toT [.bool] l with|some x=> !x.1|none=>false)|none=>false
theorem ag3{v:Nat}(h:nIs v=true):k37 ((v:Int),())=true/\(m37 ((v:Int),())).1=false:=by
 unfold nIs at h
 cases e:(t37 ((v:Int),())).val with
 |none=>rw[e]at h;cases h
 |some l=>
  rw[e]at h
  dsimp only at h
  cases e2:toT [.bool] l with
  |none=>rw[e2]at h;cases h
  |some x=>
   rw[e2]at h
   obtain⟨b,⟨⟩⟩:=x
   obtain rfl:b=false:=by simpa using h
   rw[rD e2]at e
   obtain⟨a,c⟩:=mO (k:=k37 ((v:Int),())) (m:=m37 ((v:Int),())) (ca _) (ca _) e
   exact⟨a,by rw[c]⟩
def abQ(g:Cg)(x:cf A3):Prop:=(∃ N L,(t8w g N L x).val=some (cq zq (true,())))∨(∃ N L,(t8v g N L x).val=some (cq zq (true,())))∨(t8n g x).val=some (cq zq (true,()))∨(agW g x).val=some (cq zq (true,()))
abbrev P8:qH:=Ps [.ag (Ps [.n .i64,.n .i64,.n .i64,.n .u64,.n .u64,.im i64]),.ag (Ps [.n .u64,.n .u64,.n .u64,.n .u64])]
theorem Gx{call:o7}{cr:cx}(C:w8 call cr){f:FuncId}{b:Dj}(hb:u9 cr f b)(AL:Nat.ble b.ntmps 512=true){L:Nat->Option rk}(hL:wL Rx.w cr L b.code){m:Nat}{P:qH}{Q:qH}:(⟨P,[],Q,qA P [] Q L b m call⟩:ny).Ok f cr:=
 acs C hb (Nat.le_of_ble_eq_true AL) hL (m:=m) (fun g hg=>by cases hg) fun _ _ h=>h
theorem amg{g:Cg}{cr:cx}(W:WP cr)(hg:(sG g).Ok 73 cr){x:cf A3}(h:abQ g x): ∃ f:List Pl->Lf.T (List Pl),(⟨P8,[],Ps [.bo],f⟩:ny).Ok 8 cr/\(f (cq A3 x)).val=some (cq zq (true,())):=by
 rcases h with⟨N,L,h⟩|⟨N,L,h⟩|h|h
 ·exact⟨_,Gx (W.in (Lp W hg N L) 12) (W.st 8 _ rfl) rfl (cD _) (m:=12),h⟩
 ·exact⟨_,Gx (W.in (ag0 W hg N L) 12) (W.st 8 _ rfl) rfl (cD _) (m:=12),h⟩
 ·exact⟨_,Gx (W.in (agV W hg) 12) (W.st 8 _ rfl) rfl (cD _) (m:=12),h⟩
 ·exact⟨_,Gx (W.in (abD W hg) 12) (W.st 8 _ rfl) rfl (cD _) (m:=12),h⟩
def LwA(o:Nat):Prop:= ∀ (g:Cg) (A B:Int) (lo hi:Nat) (L:List Int) (a b c d:Nat),lo<nh->hi<nh->a<nh->b<nh->c<nh->d<nh->abQ (g1 g) ((o:Int),A,B,(lo:Int),(hi:Int),L,(a:Int),(b:Int),(c:Int),(d:Int),())
theorem LwA.p{o:Nat}(h: ∀ (A B lo hi:Int) (L:List Int),mU (o:Int) A B lo hi L):LwA o:=fun g A B lo hi L a b c d _ _ ha hb hc hd=>.inl (h A B lo hi L g a b c d ha hb hc hd)
theorem LwA.a{o n:Nat}(h: ∀ A:Nat,A<n-> ∀ (B lo hi:Int) (L:List Int),mU (o:Int) (A:Nat) B lo hi L)(k: ∀ {A:Int},(A<0∨(n:Int)<=A)-> ∀ (B lo hi:Int) (L:List Int),mU (o:Int) A B lo hi L):LwA o:=.p fun A B lo hi L=>by
 by_cases q:A<0∨(n:Int)<=A
 ·exact k q B lo hi L
 ·obtain⟨m,rfl⟩: ∃ m:Nat,A=m:=⟨A.toNat,by omega⟩
  exact h m (by omega) B lo hi L
inductive AlO (P:Nat->Prop):List Nat->Prop
 |nil:AlO P []
 |cons {o:Nat} {l:List Nat}:P o->AlO P l->AlO P (o::l)
theorem AlO.get{P:Nat->Prop}{l:List Nat}(h:AlO P l): ∀ o,o∈l->P o:=by
 induction h with
 |nil=>intro o h;cases h
 |cons a _ ih=>
  intro o h
  rcases List.mem_cons.1 h with rfl|h
  ·exact a
  ·exact ih o h
end Go.Proofs.Vq
