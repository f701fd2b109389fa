import Derived.Test.YtcnkojgmochcgaaGreatDoorAb0
import Derived.Laws.Tables
noncomputable section
namespace Go.Ab
variable [Io]
omit [Io] in
theorem kd(k:IntKind)(n:Int):fM k n=k.wrap n:=by
 cases k<;>simp only[fM,IntKind.wrap,IntKind.bits,IntKind.signed]
 all_goals simp
 all_goals first
  |rfl
  |(show(n+_) % _ - _=_;split<;>omega)
omit [Io] in
theorem eY{k k':IntKind}:ka k k'=true↔k=k':=by cases k<;>cases k'<;>simp[ka]
omit [Io] in
theorem iO(a b:Int):p5 a b=decide (a<b):=by
 cases a<;>cases b<;>simp only[p5]
 ·rename_i a b
  by_cases h:a<b
  ·rw[show Nat.blt a b=true from by simpa[Nat.blt_eq]using h];simp;omega
  ·rw[show Nat.blt a b=false from by rw[Bool.eq_false_iff];simpa[Nat.blt_eq]using h];simp;omega
 ·simp;omega
 ·simp;omega
 ·rename_i a b
  by_cases h:b<a
  ·rw[show Nat.blt b a=true from by simpa[Nat.blt_eq]using h];simp;omega
  ·rw[show Nat.blt b a=false from by rw[Bool.eq_false_iff];simpa[Nat.blt_eq]using h];simp;omega
omit [Io] in
theorem sJ(a b:Int):eqI a b=(a == b):=by
 have key:eqI a b=true↔a=b:=by
  cases a<;>cases b<;>simp[eqI]
  omega
 by_cases h:a=b
 ·rw[key.2 h];simp[h]
 ·rw[show eqI a b=false from by rw[Bool.eq_false_iff];exact fun e=>h (key.1 e)];simp[h]
omit [Io] in
theorem zG(k:IntKind):GR k=k.bits:=by cases k<;>rfl
omit [Io] in
theorem qW(a b:Nat):uR a b=min a b:=by
 unfold uR
 by_cases h:a<=b
 ·rw[show Nat.ble a b=true from Nat.ble_eq.mpr h];simp[Nat.min_eq_left h]
 ·rw[show Nat.ble a b=false from by rw[Bool.eq_false_iff];exact fun e=>h (Nat.ble_eq.mp e)];simp;omega
theorem Dl{v:Value}{a:AV}(h:leaf v=some a)(g:G)(w:World):VR g w a v:=by
 unfold leaf at h
 split at h<;>first
  |(cases h;done)
  |(cases h;simp[VR,Value.oneCell'])
theorem pM: ∀ (l:List Value) {r:List AV},leaves l=some r-> ∀ (g:G) (w:World),bQ g w r l
 | [],r,h,g,w=>by cases h;simp[bQ]
 |v::l,r,h,g,w=>by
  change (match leaf v with|some a=>(match leaves l with|some r=>some (a::r)|none=>none)|none=>none)=some r at h
  cases h1:leaf v with
  |none=>rw[h1]at h;cases h
  |some a=>
   cases h2:leaves l with
   |none=>rw[h1,h2]at h;cases h
   |some r'=>
    rw[h1,h2]at h
    cases h
    simp only[bQ]
    exact⟨v,l,rfl,Dl h1 g w,pM l h2 g w⟩
theorem GY{v:Value}{a:AV}(h:LN v=some a)(g:G)(w:World):VR g w a v:=by
 unfold LN at h
 split at h
 ·split at h
  ·rename_i cs _ l e
   cases h
   simp only[VR]
   exact⟨cs,rfl,pM _ e g w⟩
  ·cases h
 ·split at h
  ·rename_i cs _ l e
   cases h
   simp only[VR]
   exact⟨cs,rfl,pM _ e g w⟩
  ·cases h
 ·exact Dl h g w
omit [Io] in
theorem BV{s:Sem Value}{v:Value}(h:j2 s=some v)(P:Program)(w:World):s.run P w=.ok v w:=by
 cases s<;>simp[j2]at h
 subst h;rfl
theorem qX{s:Sem Value}{a:AV}(h:uQ (j2 s)=some a)(P:Program)(g:G)(w:World): ∃ v,s.run P w=.ok v w/\VR g w a v:=by
 cases e:j2 s with
 |none=>rw[e]at h;cases h
 |some v=>rw[e]at h;exact⟨v,BV e P w,GY h g w⟩
def QD(x:Operand)(o:eR):Prop:= ∀ (g:G) (w:World) (nt:Nat) (t:Tm) (a:Act) (v:AV),TR g w nt t a.tmps->o t=some v->VR g w v (a.eval x)
def ba:Operand->eR
 | .tmp i=>gD (Nat.blt i 512) (oT i) oX
 | .const v=>match LN v with
  |some a=>oC a
  |none=>oX
 | .global _=>oX
 | .func f=>oC (.fn f [])
theorem bB(x:Operand):QD x (ba x):=by
 intro g w nt t a v T e
 cases x with
 |tmp i=>
  change gD (Nat.blt i 512) (oT i) oX t=some v at e
  cases h:Nat.blt i 512 with
  |false=>rw[h]at e;cases e
  |true=>
   rw[h]at e
   exact(T.2.2 i v (by simpa[Nat.blt_eq]using h) e).2
 |const c=>
  change (match LN c with|some a=>oC a|none=>oX) t=some v at e
  cases h:LN c with
  |none=>simp only[h]at e;cases e
  |some x=>
   simp only[h]at e
   cases e
   exact GY h g w
 |global i=>cases e
 |func f=>
  cases e
  simp only[VR]
  exact⟨#[],rfl,by simp[bQ]⟩
theorem uv{g w nt t}{a:Act}(T:TR g w nt t a.tmps): ∀ (l:List Operand) {vs:List AV},sA (l.map ba) t=some vs->bQ g w vs (l.map a.eval)
 | [],vs,e=>by cases e;simp[bQ]
 |x::l,vs,e=>by
  change (Option.rec none (fun v=>Option.rec none (fun vs=>some (v::vs)) (sA (l.map ba) t)) (ba x t):Option (List AV))=some vs at e
  cases h1:ba x t with
  |none=>rw[h1]at e;cases e
  |some v=>
   cases h2:sA (l.map ba) t with
   |none=>rw[h1,h2]at e;cases e
   |some r=>
    rw[h1,h2]at e
    cases e
    simp only[List.map_cons,bQ]
    exact⟨_,_,rfl,bB x _ _ _ _ _ _ T h1,uv T l h2⟩
def cy(P:Program)(o:Oper)(f:eP):Prop:=
 ∀ (g:G) (w:World) (nt:Nat) (t:Tm) (h:Hp) (a:Act) (v:AV) (h':Hp),HC g w h->TR g w nt t a.tmps->f t h=.ok v h'->
  h'=h/\ ∃ x,(execOp a.eval o).run P w=.ok (.value x) w/\VR g w v x
section
variable {P:Program}{o:Oper}
theorem bZ:cy P o cq:=by intro g w nt t h a v h' _ _ e;cases e
omit [Io] in
theorem qw{x:eR}{t:Tm}{h h':Hp}{v:AV}(e:aa x t h=.ok v h'):x t=some v/\h'=h:=by
 unfold aa at e
 cases hx:x t with
 |none=>rw[hx]at e;cases e
 |some u=>rw[hx]at e;cases e;exact⟨rfl,rfl⟩
theorem w8{x:Operand}(ho:o.op=.move x∨o.op=.assign x):cy P o (aa (ba x)):=by
 intro g w nt t h a v h' H T e
 obtain⟨e2,rfl⟩:=qw e
 exact⟨rfl,a.eval x,by rcases ho with ho|ho<;>simp[execOp,ho],bB x _ _ _ _ _ _ T e2⟩
theorem Fa{c x y:Operand}(ho:o.op=.pick c x y):cy P o (aS (ba c) (ba x) (ba y)):=by
 intro g w nt t h a v h' H T e
 unfold aS at e
 split at e
 ·rename_i b hc
  have hb:=bB c _ _ _ _ _ _ T hc
  simp only[VR]at hb
  cases b
  ·obtain⟨e2,rfl⟩:=qw e
   exact⟨rfl,a.eval y,by simp[execOp,ho,asBool,hb],bB y _ _ _ _ _ _ T e2⟩
  ·obtain⟨e2,rfl⟩:=qw e
   exact⟨rfl,a.eval x,by simp[execOp,ho,asBool,hb],bB x _ _ _ _ _ _ T e2⟩
 ·cases e
theorem pure_nil{x:Operand}(ho:o.op=.nilCheck x):cy P o (aD (ba x)):=by
 intro g w nt t h a v h' H T e
 unfold aD at e
 split at e
 ·rename_i i q hx
  have hv:=bB x _ _ _ _ _ _ T hx
  cases e
  have nF:=hv
  simp only[VR]at hv
  obtain⟨b,s,hm,hv⟩:=hv
  exact⟨rfl,a.eval x,by simp[execOp,ho,hv],nF⟩
 ·rename_i cs hx
  have hv:=bB x _ _ _ _ _ _ T hx
  cases e
  have nF:=hv
  simp only[VR]at hv
  obtain⟨b,q,vs,hv,_⟩:=hv
  exact⟨rfl,a.eval x,by simp[execOp,ho,hv],nF⟩
 ·rename_i f c hx
  have hv:=bB x _ _ _ _ _ _ T hx
  cases e
  have nF:=hv
  simp only[VR]at hv
  obtain⟨vs,hv,_⟩:=hv
  exact⟨rfl,a.eval x,by simp[execOp,ho,hv],nF⟩
 ·cases e
def dw(P:Program)(op:BinOp)(xT:TypeId)(f:AV->AV->Option AV):Prop:=
 ∀ (g:G) (w:World) (a b r:AV) (u v:Value),VR g w a u->VR g w b v->f a b=some r->
  ∃ z,(binOp op xT u v).run P w=.ok z w/\VR g w r z/\ ∀ x y,(eqGuard op xT x y u v).run P w=.ok () w
theorem GZ{op:BinOp}{xT yT:TypeId}{x y:Operand}{f:AV->AV->Option AV}(ho:o.op=.binOp op xT x y yT)(hf:dw P op xT f):
 cy P o (ae f (ba x) (ba y)):=by
 intro g w nt t h a v h' H T e
 unfold ae at e
 cases hx:ba x t with
 |none=>rw[hx]at e;cases e
 |some ax=>
  cases hy:ba y t with
  |none=>rw[hx,hy]at e;cases e
  |some ay=>
   rw[hx,hy]at e
   cases hr:f ax ay with
   |none=>simp only[hr]at e;cases e
   |some r=>
    simp only[hr]at e
    cases e
    obtain⟨z,hz,hv,hg⟩:=hf g w ax ay v _ _ (bB x _ _ _ _ _ _ T hx) (bB y _ _ _ _ _ _ T hy) hr
    exact⟨rfl,z,by simp[execOp,ho,hg,hz],hv⟩
omit [Io] in
theorem oQ{op:BinOp}{xT:TypeId}{k k':IntKind}{m n:Int}{w:World}(x y:Operand):(eqGuard op xT x y (.int k m) (.int k' n)).run P w=.ok () w:=by
 unfold eqGuard;split<;>simp
omit [Io] in
theorem qY{op:BinOp}{xT:TypeId}{m n:Bool}{w:World}(x y:Operand):(eqGuard op xT x y (.bool m) (.bool n)).run P w=.ok () w:=by
 unfold eqGuard;split<;>simp
omit [Io] in
theorem oS{op:BinOp}{xT:TypeId}{m n:ByteArray}{w:World}(x y:Operand):(eqGuard op xT x y (.string m) (.string n)).run P w=.ok () w:=by
 unfold eqGuard;split<;>simp
omit [Io] in
theorem dJ{op:BinOp}{xT:TypeId}{m n:Option Addr}{w:World}(x y:Operand):(eqGuard op xT x y (.pointer m) (.pointer n)).run P w=.ok () w:=by
 unfold eqGuard;split<;>simp
omit [Io] in
theorem qc{op:BinOp}{xT:TypeId}{m n:Option Addr}{a b c d:Nat}{w:World}(x y:Operand):(eqGuard op xT x y (.slice m a b) (.slice n c d)).run P w=.ok () w:=by
 unfold eqGuard;split<;>simp
omit [Io] in
theorem sK{f:IntKind->Int->Int->Option AV}{a b r:AV}(h:mX f a b=some r): ∃ k m n,a=.int k m/\b=.int k n/\f k m n=some r:=by
 unfold mX at h
 split at h
 ·rename_i k m k' n
  cases e:ka k k' with
  |false=>rw[e]at h;cases h
  |true=>
   rw[e]at h
   obtain rfl:=eY.1 e
   exact⟨k,m,n,rfl,rfl,h⟩
 ·cases h
theorem hZ{op:BinOp}{xT:TypeId}{f:IntKind->Int->Int->Option AV}
 (hf: ∀ (g:G) (w:World) k m n r,f k m n=some r-> ∃ z,(binOp op xT (.int k m) (.int k n)).run P w=.ok z w/\VR g w r z):dw P op xT (mX f):=by
 intro g w a b r u v ha hb h
 obtain⟨k,m,n,rfl,rfl,h2⟩:=sK h
 simp only[VR]at ha hb
 subst ha;subst hb
 obtain⟨z,hz,hv⟩:=hf g w k m n r h2
 exact⟨z,hz,hv,fun x y=>oQ x y⟩
theorem LZ(xT:TypeId):dw P .add xT R7:=hZ fun g w k m n r h=>by
 cases h;exact⟨.int k (k.wrap (m+n)),by simp[binOp,Op.intArith],by simp only[VR,kd];rfl⟩
theorem L0(xT:TypeId):dw P .sub xT R8:=hZ fun g w k m n r h=>by
 cases h;exact⟨.int k (k.wrap (m - n)),by simp[binOp,Op.intArith],by simp only[VR,kd];rfl⟩
theorem L1(xT:TypeId):dw P .mul xT R9:=hZ fun g w k m n r h=>by
 cases h;exact⟨.int k (k.wrap (m*n)),by simp[binOp,Op.intArith],by simp only[VR,kd];rfl⟩
theorem L2(xT:TypeId):dw P .quo xT LO:=hZ fun g w k m n r h=>by
 rw[sJ]at h
 by_cases h0:n=0
 ·subst h0;cases h
 ·rw[show(n == 0)=false from by simpa using h0]at h
  cases h
  exact⟨.int k (k.wrap (m.tdiv n)),by simp[binOp,Op.intDiv,h0],by simp only[VR,kd]⟩
theorem L3(xT:TypeId):dw P .rem xT LP:=hZ fun g w k m n r h=>by
 rw[sJ]at h
 by_cases h0:n=0
 ·subst h0;cases h
 ·rw[show(n == 0)=false from by simpa using h0]at h
  cases h
  exact⟨.int k (m.tmod n),by simp[binOp,Op.intDiv,h0],by simp only[VR]⟩
omit [Io] in
theorem QE(m n:Int):(!decide (m<n))=decide (n<=m):=by by_cases h:m<n<;>simp[h]<;>omega
theorem L4(xT:TypeId):dw P .lss xT Sa:=hZ fun g w k m n r h=>by
 cases h;exact⟨.bool (m<n),by simp[binOp,Op.intCmp],by simp only[VR,iO]⟩
theorem L5(xT:TypeId):dw P .gtr xT Sc:=hZ fun g w k m n r h=>by
 cases h;exact⟨.bool (m>n),by simp[binOp,Op.intCmp],by simp only[VR,iO]⟩
theorem L6(xT:TypeId):dw P .leq xT Sb:=hZ fun g w k m n r h=>by
 cases h;exact⟨.bool (m<=n),by simp[binOp,Op.intCmp],by simp only[VR,iO,QE]⟩
theorem L8(xT:TypeId):dw P .geq xT Sd:=hZ fun g w k m n r h=>by
 cases h;exact⟨.bool (m≥n),by simp[binOp,Op.intCmp],by simp only[VR,iO,QE]⟩
theorem L9(xT:TypeId):dw P .eql xT (GS false):=hZ fun g w k m n r h=>by
 cases h;exact⟨.bool (m == n),by simp[binOp,Op.intCmp],by simp only[VR,sJ];rfl⟩
theorem L'(xT:TypeId):dw P .neq xT (GS true):=hZ fun g w k m n r h=>by
 cases h;exact⟨.bool (m != n),by simp[binOp,Op.intCmp],by simp only[VR,sJ];rfl⟩
end
omit [Io] in
theorem oU{a:AV}(h:isNil a=true):a=.sc (.slice none 0 0):=by
 unfold isNil at h
 split at h
 ·rw[Bool.and_eq_true]at h
  rw[Nat.eq_of_beq_eq_true h.1,Nat.eq_of_beq_eq_true h.2]
 ·cases h
theorem uZ{a:AV}(h:qu a=true){g:G}{w:World}{v:Value}(hv:VR g w a v): ∃ b,v=.slice b 0 0:=by
 unfold qu at h
 split at h
 ·simp only[VR]at hv
  obtain⟨b,rfl⟩:=hv
  exact⟨_,rfl⟩
 ·rw[oU h]at hv
  simp only[VR]at hv
  exact⟨none,hv.1⟩
theorem BW{a:AV}{g:G}{w:World}{v:Value}(hv:VR g w a v):VR g w (sy a) v:=by
 unfold sy
 cases h:qu a with
 |true=>
  simp only[cond_true,VR]
  exact uZ h hv
 |false=>exact hv
omit [Io] in
theorem Ma{x:eR}{t:Tm}{v:AV}(e:wO x t=some v): ∃ a,x t=some a/\v=sy a:=by
 unfold wO at e
 cases h:x t with
 |none=>rw[h]at e;cases e
 |some a=>rw[h]at e;cases e;exact⟨a,rfl,rfl⟩
theorem ic(x:Operand):QD x (wO (ba x)):=by
 intro g w nt t a v T e
 obtain⟨b,hb,rfl⟩:=Ma e
 exact BW (bB x _ _ _ _ _ _ T hb)
theorem Sh{a:AV}(h:Lv a=true){g:G}{w:World}{v:Value}(hv:VR g w a v): ∃ b c,v=.slice b 0 c:=by
 unfold Lv at h
 split at h
 ·simp only[VR]at hv
  obtain⟨b,rfl⟩:=hv
  exact⟨_,_,rfl⟩
 ·simp only[VR]at hv
  obtain⟨b,rfl⟩:=hv
  exact⟨_,_,rfl⟩
 ·obtain rfl:=Nat.eq_of_beq_eq_true h
  simp only[VR]at hv
  rcases hv with⟨_,b,rfl⟩|⟨b,s,cap,_,rfl,_⟩
  ·exact⟨_,_,rfl⟩
  ·exact⟨_,_,rfl⟩
 ·obtain rfl:=Nat.eq_of_beq_eq_true h
  simp only[VR]at hv
  obtain⟨b,cap,rfl,_⟩:=hv
  exact⟨_,_,rfl⟩
 ·rw[oU h]at hv
  simp only[VR]at hv
  exact⟨none,0,hv.1⟩
theorem Dm{a:AV}{c:Bool}(h:xS a=some c){g:G}{w:World}{v:Value}(hv:VR g w a v): ∃ b n m,v=.slice b n m/\c=b.isNone:=by
 unfold xS at h
 cases hn:isNil a with
 |true=>
  rw[hn]at h
  cases h
  rw[oU hn]at hv
  simp only[VR]at hv
  exact⟨none,0,0,hv.1,rfl⟩
 |false=>
  rw[hn]at h
  simp only[cond_false]at h
  split at h
  ·cases h
   simp only[VR]at hv
   obtain⟨b,rfl⟩:=hv
   exact⟨_,_,_,rfl,rfl⟩
  ·cases h
   simp only[VR]at hv
   rcases hv with⟨_,b,rfl⟩|⟨b,s,cap,_,rfl,_⟩
   ·exact⟨_,_,_,rfl,rfl⟩
   ·exact⟨_,_,_,rfl,rfl⟩
  ·rename_i n cs
   cases h0:Nat.beq n 0 with
   |true=>rw[h0]at h;cases h
   |false=>
    rw[h0]at h
    cases h
    simp only[VR]at hv
    obtain⟨b,cap,rfl,_,⟨rfl,_⟩|⟨_,_,_,rfl,_⟩⟩:=hv
    ·cases h0
    ·exact⟨_,_,_,rfl,rfl⟩
  ·cases h
end Go.Ab

noncomputable section
namespace Go.Ab
variable [Io]
section
variable {P:Program}{o:Oper}
omit [Io] in
theorem lL{k:IntKind}{a:Nat}(h:a<tw k):(BitVec.ofInt k.bits (.ofNat a)).toNat=a:=by
 rw[show(Int.ofNat a)=((a:Nat):Int)from rfl,BitVec.ofInt_natCast,BitVec.toNat_ofNat]
 apply Nat.mod_eq_of_lt
 cases k<;>simp only[tw,IntKind.bits]at h ⊢ <;>omega
omit [Io] in
theorem G1{k:IntKind}{a:Nat}(h:a<tw k):(a:Int)<2 ^ k.bits/\(k.signed=true->(a:Int)<2 ^ (k.bits - 1)):=by
 cases k<;>simp only[tw,IntKind.bits,IntKind.signed]at h ⊢ <;>constructor<;>first|omega|(intro _;omega)|(intro h;cases h)
omit [Io] in
theorem u0{k:IntKind}{a:Nat}(h:a<tw k):k.wrap ((a:Nat):Int)=(a:Int):=by
 obtain⟨h1,h2⟩:=G1 h
 have e:(a:Int) % (2 ^ k.bits:Int)=a:=Int.emod_eq_of_lt (by omega) h1
 unfold IntKind.wrap
 simp only[e]
 rw[if_neg]
 intro c
 simp only[Bool.and_eq_true,decide_eq_true_eq]at c
 have:=h2 c.1
 omega
omit [Io] in
theorem Mb{k:IntKind}{a b:Nat}(h:a<tw k):a &&& b<tw k:=Nat.lt_of_le_of_lt Nat.and_le_left h
omit [Io] in
theorem Dp(k:IntKind): ∃ n,tw k=2 ^ n:=by
 cases k with
 |i8=>exact⟨7,rfl⟩
 |i16=>exact⟨15,rfl⟩
 |i32=>exact⟨31,rfl⟩
 |i64=>exact⟨63,rfl⟩
 |u8=>exact⟨8,rfl⟩
 |u16=>exact⟨16,rfl⟩
 |u32=>exact⟨32,rfl⟩
 |u64=>exact⟨64,rfl⟩
omit [Io] in
theorem Si{k:IntKind}{a b:Nat}(h:a<tw k)(h2:b<tw k):a ||| b<tw k:=by
 obtain⟨n,e⟩:=Dp k
 rw[e]at h h2 ⊢
 exact Nat.or_lt_two_pow h h2
omit [Io] in
theorem Mc{k:IntKind}{a b:Nat}(h:a<tw k)(h2:b<tw k):a ^^^ b<tw k:=by
 obtain⟨n,e⟩:=Dp k
 rw[e]at h h2 ⊢
 exact Nat.xor_lt_two_pow h h2
theorem xZ{op:BinOp}{f:Nat->Nat->Nat}{xT:TypeId}(hop: ∀ k m n,binOp op xT (.int k m) (.int k n)=Op.intBits op k m n)
 (hf: ∀ (w:World) k a b,a<tw k->b<tw k->(Op.intBits op k (.ofNat a) (.ofNat b)).run P w=.ok (.int k (.ofNat (f a b))) w):dw P op xT (w5 op f):=by
 refine hZ fun g w k m n r h=>?_
 rw[hop]
 split at h
 ·rename_i a b
  cases e:(Nat.blt a (tw k)&&Nat.blt b (tw k))with
  |true=>
   rw[e]at h
   cases h
   simp[Nat.blt_eq]at e
   exact⟨_,hf w k a b e.1 e.2,by simp only[VR]⟩
  |false=>
   rw[e]at h
   obtain⟨z,hz,hv⟩:=qX h P g w
   exact⟨z,hz,hv⟩
 ·obtain⟨z,hz,hv⟩:=qX h P g w
  exact⟨z,hz,hv⟩
theorem Md(xT:TypeId):dw P .and xT LQ:=xZ (fun k m n=>by simp[binOp]) (fun w k a b ha hb=>by
 have e:k.wrap (((a &&& b:Nat):Int))=((a &&& b:Nat):Int):=u0 (Mb ha)
 simp only[Op.intBits,Sem.run_pure,BitVec.toNat_and,lL ha,lL hb,e]
 rfl)
theorem Sj(xT:TypeId):dw P .or xT bOr:=xZ (fun k m n=>by simp[binOp]) (fun w k a b ha hb=>by
 have e:k.wrap (((a ||| b:Nat):Int))=((a ||| b:Nat):Int):=u0 (Si ha hb)
 simp only[Op.intBits,Sem.run_pure,BitVec.toNat_or,lL ha,lL hb,e]
 rfl)
theorem Me(xT:TypeId):dw P .xor xT LS:=xZ (fun k m n=>by simp[binOp]) (fun w k a b ha hb=>by
 have e:k.wrap (((a ^^^ b:Nat):Int))=((a ^^^ b:Nat):Int):=u0 (Mc ha hb)
 simp only[Op.intBits,Sem.run_pure,BitVec.toNat_xor,lL ha,lL hb,e]
 rfl)
theorem BX(xT:TypeId):dw P .andNot xT nG:=hZ fun g w k m n r h=>by
 rw[show binOp .andNot xT (.int k m) (.int k n)=Op.intBits .andNot k m n from by simp[binOp]]
 exact qX h P g w
theorem Mf(xT:TypeId):dw P .shl xT BQ:=by
 intro g w a b r u v ha hb h
 unfold BQ at h
 split at h
 ·rename_i k m k' n
  simp only[VR]at ha hb
  subst ha;subst hb
  cases h
  refine⟨.int k (k.wrap (m*2 ^ min n k.bits)),by
   have: ¬ ((n:Nat):Int)<0:=by omega
   show(binOp .shl xT (.int k m) (.int k' ((n:Nat):Int))).run P w=_
   simp[binOp,Op.shift,this],?_,fun x y=>oQ x y⟩
  simp only[VR,kd,qW,zG]
  rfl
 ·cases h
theorem Mg(xT:TypeId):dw P .shr xT BR:=by
 intro g w a b r u v ha hb h
 unfold BR at h
 split at h
 ·rename_i k m k' n
  simp only[VR]at ha hb
  subst ha;subst hb
  cases h
  refine⟨.int k (m.fdiv (2 ^ min n k.bits)),by
   have: ¬ ((n:Nat):Int)<0:=by omega
   show(binOp .shr xT (.int k m) (.int k' ((n:Nat):Int))).run P w=_
   simp[binOp,Op.shift,this],?_,fun x y=>oQ x y⟩
  simp only[VR,qW,zG]
  rfl
 ·cases h
omit [Io] in
theorem pN{xT:TypeId}{w:World}{x y:Value}{b:Bool}(h: ∀ d,(Op.equalIn (d+1) xT x y).run P w=.ok b w):(Op.equal xT x y).run P w=.ok b w:=h 9999
omit [Io] in
theorem u4{xT:TypeId}{w:World}(a b:Bool)(h:P.underlying xT=some .bool):(Op.equal xT (.bool a) (.bool b)).run P w=.ok (a == b) w:=
 pN fun d=>by simp[Op.equalIn,run_underlying h]
omit [Io] in
theorem G2{xT:TypeId}{w:World}(a b:Bool)(h:P.underlying xT=some .bool):(binOp .eql xT (.bool a) (.bool b)).run P w=.ok (.bool (a == b)) w:=by
 show(do pure (.bool (<-Op.equal xT (.bool a) (.bool b))):Sem Value).run P w=_
 simp[u4 a b h]
omit [Io] in
theorem G3{xT:TypeId}{w:World}(a b:Bool)(h:P.underlying xT=some .bool):(binOp .neq xT (.bool a) (.bool b)).run P w=.ok (.bool (!(a == b))) w:=by
 show(do pure (.bool (!(<-Op.equal xT (.bool a) (.bool b)))):Sem Value).run P w=_
 simp only[Sem.run_bind,u4 a b h,Result.andThen_ok,Sem.run_pure]
theorem Mh{xT:TypeId}(hT:P.underlying xT=some .bool):dw P .eql xT (xU false):=by
 intro g w a b r u v ha hb h
 unfold xU at h
 split at h
 ·rename_i m n
  simp only[VR]at ha hb
  subst ha;subst hb
  cases h
  exact⟨_,G2 m n hT,by simp only[VR];cases m<;>cases n<;>rfl,fun x y=>qY x y⟩
 ·cases h
theorem Mi{xT:TypeId}(hT:P.underlying xT=some .bool):dw P .neq xT (xU true):=by
 intro g w a b r u v ha hb h
 unfold xU at h
 split at h
 ·rename_i m n
  simp only[VR]at ha hb
  subst ha;subst hb
  cases h
  exact⟨_,G3 m n hT,by simp only[VR];cases m<;>cases n<;>rfl,fun x y=>qY x y⟩
 ·cases h
theorem Mj(xT:TypeId):dw P .eql xT (uS false):=by
 intro g w a b r u v ha hb h
 unfold uS at h
 split at h
 ·rename_i m n
  simp only[VR]at ha hb
  obtain⟨rfl,_⟩:=ha;obtain⟨rfl,_⟩:=hb
  cases h
  exact⟨.bool (m.toList == n.toList),by simp[binOp,Op.stringOp],by simp only[VR];rfl,fun x y=>oS x y⟩
 ·cases h
theorem Mk(xT:TypeId):dw P .neq xT (uS true):=by
 intro g w a b r u v ha hb h
 unfold uS at h
 split at h
 ·rename_i m n
  simp only[VR]at ha hb
  obtain⟨rfl,_⟩:=ha;obtain⟨rfl,_⟩:=hb
  cases h
  exact⟨.bool (!(m.toList == n.toList)),by simp[binOp,Op.stringOp],by simp only[VR];rfl,fun x y=>oS x y⟩
 ·cases h
omit [Io] in
theorem w9{xT e:TypeId}{w:World}(p:Option Addr)(h:P.underlying xT=some (.pointer e)):(Op.equal xT (.pointer p) (.pointer none)).run P w=.ok p.isNone w:=
 pN fun d=>by cases p<;>simp[Op.equalIn,run_underlying h]
omit [Io] in
theorem xd{xT e:TypeId}{w:World}(p:Option Addr)(h:P.underlying xT=some (.pointer e)):(Op.equal xT (.pointer none) (.pointer p)).run P w=.ok p.isNone w:=
 pN fun d=>by cases p<;>simp[Op.equalIn,run_underlying h]
omit [Io] in
theorem x0{xT e:TypeId}{w:World}(p:Option Addr)(h:P.underlying xT=some (.pointer e)):(binOp .eql xT (.pointer p) (.pointer none)).run P w=.ok (.bool p.isNone) w:=by
 show(do pure (.bool (<-Op.equal xT (.pointer p) (.pointer none))):Sem Value).run P w=_
 simp only[Sem.run_bind,w9 p h,Result.andThen_ok,Sem.run_pure]
omit [Io] in
theorem x6{xT e:TypeId}{w:World}(p:Option Addr)(h:P.underlying xT=some (.pointer e)):(binOp .neq xT (.pointer p) (.pointer none)).run P w=.ok (.bool (!p.isNone)) w:=by
 show(do pure (.bool (!(<-Op.equal xT (.pointer p) (.pointer none)))):Sem Value).run P w=_
 simp only[Sem.run_bind,w9 p h,Result.andThen_ok,Sem.run_pure]
omit [Io] in
theorem x8{xT e:TypeId}{w:World}(p:Option Addr)(h:P.underlying xT=some (.pointer e)):(binOp .eql xT (.pointer none) (.pointer p)).run P w=.ok (.bool p.isNone) w:=by
 cases p with
 |none=>exact x0 none h
 |some a=>
  show(do pure (.bool (<-Op.equal xT (.pointer none) (.pointer (some a)))):Sem Value).run P w=_
  simp only[Sem.run_bind,xd (some a) h,Result.andThen_ok,Sem.run_pure]
omit [Io] in
theorem x9{xT e:TypeId}{w:World}(p:Option Addr)(h:P.underlying xT=some (.pointer e)):(binOp .neq xT (.pointer none) (.pointer p)).run P w=.ok (.bool (!p.isNone)) w:=by
 cases p with
 |none=>exact x6 none h
 |some a=>
  show(do pure (.bool (!(<-Op.equal xT (.pointer none) (.pointer (some a))))):Sem Value).run P w=_
  simp only[Sem.run_bind,xd (some a) h,Result.andThen_ok,Sem.run_pure]
theorem Ml{xT e:TypeId}(hT:P.underlying xT=some (.pointer e)):dw P .eql xT (kW false):=by
 intro g w a b r u v ha hb h
 unfold kW at h
 split at h<;>try (cases h;done)
 all_goals
  simp only[VR]at ha hb
  cases h
 ·obtain⟨_,_,_,rfl⟩:=ha;obtain⟨rfl,_⟩:=hb
  exact⟨_,x0 _ hT,by simp[VR],fun x y=>dJ x y⟩
 ·obtain⟨_,_,_,rfl,_⟩:=ha;obtain⟨rfl,_⟩:=hb
  exact⟨_,x0 _ hT,by simp[VR],fun x y=>dJ x y⟩
 ·obtain⟨rfl,_⟩:=ha;obtain⟨_,_,_,rfl⟩:=hb
  exact⟨_,x8 _ hT,by simp[VR],fun x y=>dJ x y⟩
 ·obtain⟨rfl,_⟩:=ha;obtain⟨_,_,_,rfl,_⟩:=hb
  exact⟨_,x8 _ hT,by simp[VR],fun x y=>dJ x y⟩
 ·obtain⟨rfl,_⟩:=ha;obtain⟨rfl,_⟩:=hb
  exact⟨_,x8 _ hT,by simp[VR],fun x y=>dJ x y⟩
theorem Mm{xT e:TypeId}(hT:P.underlying xT=some (.pointer e)):dw P .neq xT (kW true):=by
 intro g w a b r u v ha hb h
 unfold kW at h
 split at h<;>try (cases h;done)
 all_goals
  simp only[VR]at ha hb
  cases h
 ·obtain⟨_,_,_,rfl⟩:=ha;obtain⟨rfl,_⟩:=hb
  exact⟨_,x6 _ hT,by simp[VR],fun x y=>dJ x y⟩
 ·obtain⟨_,_,_,rfl,_⟩:=ha;obtain⟨rfl,_⟩:=hb
  exact⟨_,x6 _ hT,by simp[VR],fun x y=>dJ x y⟩
 ·obtain⟨rfl,_⟩:=ha;obtain⟨_,_,_,rfl⟩:=hb
  exact⟨_,x9 _ hT,by simp[VR],fun x y=>dJ x y⟩
 ·obtain⟨rfl,_⟩:=ha;obtain⟨_,_,_,rfl,_⟩:=hb
  exact⟨_,x9 _ hT,by simp[VR],fun x y=>dJ x y⟩
 ·obtain⟨rfl,_⟩:=ha;obtain⟨rfl,_⟩:=hb
  exact⟨_,x9 _ hT,by simp[VR],fun x y=>dJ x y⟩
omit [Io] in
theorem u5{xT e:TypeId}{w:World}(p:Option Addr)(n m:Nat)(h:P.underlying xT=some (.slice e)):(Op.equal xT (.slice p n m) (.slice none 0 0)).run P w=.ok p.isNone w:=
 pN fun d=>by cases p<;>simp[Op.equalIn,run_underlying h]
theorem Mn{xT e:TypeId}(hT:P.underlying xT=some (.slice e)):dw P .eql xT (kX false):=by
 intro g w a b r u v ha hb h
 unfold kX at h
 cases hn:isNil b with
 |false=>rw[hn]at h;cases h
 |true=>
  rw[hn]at h
  simp only[cond_true]at h
  rw[oU hn]at hb
  simp only[VR]at hb
  obtain⟨rfl,_⟩:=hb
  cases hc:xS a with
  |none=>rw[hc]at h;cases h
  |some c=>
   rw[hc]at h
   cases h
   obtain⟨p,n,m,rfl,rfl⟩:=Dm hc ha
   refine⟨.bool p.isNone,?_,by simp[VR],fun x y=>qc x y⟩
   show(do pure (.bool (<-Op.equal xT (.slice p n m) (.slice none 0 0))):Sem Value).run P w=_
   simp only[Sem.run_bind,u5 p n m hT,Result.andThen_ok,Sem.run_pure]
theorem Mo{xT e:TypeId}(hT:P.underlying xT=some (.slice e)):dw P .neq xT (kX true):=by
 intro g w a b r u v ha hb h
 unfold kX at h
 cases hn:isNil b with
 |false=>rw[hn]at h;cases h
 |true=>
  rw[hn]at h
  simp only[cond_true]at h
  rw[oU hn]at hb
  simp only[VR]at hb
  obtain⟨rfl,_⟩:=hb
  cases hc:xS a with
  |none=>rw[hc]at h;cases h
  |some c=>
   rw[hc]at h
   cases h
   obtain⟨p,n,m,rfl,rfl⟩:=Dm hc ha
   refine⟨.bool (!p.isNone),?_,by simp[VR],fun x y=>qc x y⟩
   show(do pure (.bool (!(<-Op.equal xT (.slice p n m) (.slice none 0 0)))):Sem Value).run P w=_
   simp only[Sem.run_bind,u5 p n m hT,Result.andThen_ok,Sem.run_pure]
omit [Io] in
theorem qZ{f:AV->Option AV}{x:eR}{t:Tm}{h h':Hp}{v:AV}(e:cE f x t h=.ok v h'): ∃ b,x t=some b/\f b=some v/\h'=h:=by
 unfold cE at e
 cases hx:x t with
 |none=>rw[hx]at e;cases e
 |some u=>
  rw[hx]at e
  cases hr:f u with
  |none=>simp only[hr]at e;cases e
  |some r=>simp only[hr]at e;cases e;exact⟨u,rfl,hr,rfl⟩
theorem G4{T:TypeId}{x:Operand}(ho:o.op=.unOp .not T x):cy P o (cE gC (ba x)):=by
 intro g w nt t h a v h' H Tr e
 obtain⟨b,hb,hf,rfl⟩:=qZ e
 have hv:=bB x _ _ _ _ _ _ Tr hb
 unfold gC at hf
 split at hf
 ·rename_i b
  cases hf
  simp only[VR]at hv
  exact⟨rfl,.bool (!b),by simp[execOp,ho,hv,Op.unary],by simp only[VR]⟩
 ·cases hf
omit [Io] in
theorem G5(k:IntKind)(n:Int):V0 k<=fM k n/\fM k n<=Se k:=by
 cases k<;>simp only[V0,Se,fM]<;>
  first
   |(show _<=n % _/\n % _<=_;omega)
   |(show _<=(n+_) % _ - _/\(n+_) % _ - _<=_;omega)
theorem G6{g:G}{w:World}{x:AV}{v:Value}{k:IntKind}{s:SV}{o l u:Int}(h:Sg x=some (k,s,o,l,u))(hx:VR g w x v):
 v=.int k (gJ s+o)/\l<=gJ s+o/\gJ s+o<=u:=by
 unfold Sg at h
 split at h
 ·cases h
  simp only[VR]at hx
  subst hx
  simp only[gJ,Int.add_zero]
  exact⟨trivial,Int.le_refl _,Int.le_refl _⟩
 ·rename_i k' s' lo hi o'
  cases h
  simp only[VR]at hx
  obtain⟨rfl,h1,h2⟩:=hx
  exact⟨rfl,by show lo+o<=_;omega,by show _<=hi+o;omega⟩
 ·cases h
theorem WR{g:G}{w:World}{f:Nat}{k k':IntKind}{m r:Int}{x v:AV}(h:t1 f k x=some v)(hx:VR g w x (.int k' m))(hf:opF f k m 0=some (.int k r))(h1:V0 k<=r)(h2:r<=Se k):
 VR g w v (.int k r):=by
 unfold t1 at h
 split at h
 ·rename_i kk s o l u hs
  cases h
  obtain⟨e,_,_⟩:=G6 hs hx
  obtain⟨_,e⟩:=Value.int.inj e
  have e2:gJ (.tm f k kk s o (.Lu 0) 0)=r:=by
   show tmF f k (gJ s+o) (0+0)=r
   rw[<-e]
   unfold tmF
   rw[show(0:Int)+0=0 from rfl,hf]
  simp only[VR]
  rw[e2]
  exact⟨by rw[Int.add_zero],h1,h2⟩
 ·cases h
theorem G7{T:TypeId}{x:Operand}(ho:o.op=.unOp .neg T x):cy P o (cE xV (ba x)):=by
 intro g w nt t h a v h' H Tr e
 obtain⟨b,hb,hf,rfl⟩:=qZ e
 have hv:=bB x _ _ _ _ _ _ Tr hb
 unfold xV at hf
 cases hr:Dh b with
 |some r=>
  rw[hr]at hf
  cases hf
  unfold Dh at hr
  split at hr
  ·rename_i k n
   cases hr
   simp only[VR]at hv
   exact⟨rfl,.int k (k.wrap (0 - n)),by simp[execOp,ho,hv,Op.unary,Op.intArith],by simp only[VR,kd];rfl⟩
  ·cases hr
 |none=>
  rw[hr]at hf
  change (match Sg b with|some (k,_,_,_,_)=>t1 10 k b|none=>none)=some v at hf
  split at hf
  ·rename_i k s o' l u hs
   obtain⟨e1,_,_⟩:=G6 hs hv
   rw[e1]at hv
   have hw:=G5 k (0 - (gJ s+o'))
   refine⟨rfl,.int k (k.wrap (0 - (gJ s+o'))),by simp[execOp,ho,e1,Op.unary,Op.intArith],?_⟩
   rw[<-kd]
   exact WR hf hv rfl hw.1 hw.2
  ·cases hf
theorem G8{T:TypeId}{x:Operand}(ho:o.op=.unOp .xor T x):cy P o (cE E6 (ba x)):=by
 intro g w nt t h a v h' H Tr e
 obtain⟨b,hb,hf,rfl⟩:=qZ e
 have hv:=bB x _ _ _ _ _ _ Tr hb
 unfold E6 at hf
 split at hf
 ·rename_i k n
  simp only[VR]at hv
  obtain⟨z,hz,hr⟩:=qX hf P g w
  exact⟨rfl,z,by simp[execOp,ho,hv,hz],hr⟩
 ·cases hf
theorem Mp{f:FuncId}{caps:Array Operand}(ho:o.op=.makeFunc (.func f) #[] caps):cy P o (Lw f (caps.toList.map ba)):=by
 intro g w nt t h a v h' H T e
 unfold Lw at e
 split at e
 ·rename_i vs eE
  cases e
  refine⟨rfl,.func (.func f) #[] (caps.map a.eval),by simp[execOp,ho,Instr.makeFunc],?_⟩
  simp only[VR]
  exact⟨_,rfl,by simpa using uv T caps.toList eE⟩
 ·cases e
theorem ya{x:Operand}{i:Nat}(ho:o.op=.extract x i):cy P o (aL (ba x) i):=by
 intro g w nt t h a v h' H T e
 unfold aL at e
 split at e
 ·rename_i vs hx
  have hv:=bB x _ _ _ _ _ _ T hx
  simp only[VR]at hv
  obtain⟨us,hu,hr⟩:=hv
  split at e
  ·rename_i r hg
   cases e
   rw[fQ]at hg
   obtain⟨z,hz,Dq⟩:=bQ.get hr i _ hg
   exact⟨rfl,z,by simp[execOp,ho,Instr.extract,hu,by simpa using hz],Dq⟩
  ·cases e
 ·cases e
theorem Fc{x:Operand}{T:TypeId}(ho:o.op=.call {callee:=.builtin .len,args:= #[x],argTypes:= #[T]})(hT:P.underlying T=some .string):
 cy P o (jf (ba x)):=by
 intro g w nt t h a v h' H Tr e
 unfold jf at e
 split at e
 ·rename_i s hx
  have hv:=bB x _ _ _ _ _ _ Tr hx
  simp only[VR]at hv
  cases e
  exact⟨rfl,.int .i64 s.size,by simp[execOp,ho,resolve,invoke,builtin,Builtin.len_,hv.1,run_underlying hT,goInt],by simp only[VR];rfl⟩
 ·cases e
theorem Fe{x:Operand}{T e:TypeId}{n:Nat}(ho:o.op=.call {callee:=.builtin .len,args:= #[x],argTypes:= #[T]})(hT:P.underlying T=some (.array n e)):
 cy P o (aa (oC (.int .i64 (.ofNat n)))):=by
 intro g w nt t h a v h' H Tr e
 cases e
 exact⟨rfl,.int .i64 n,by simp[execOp,ho,resolve,invoke,builtin,Builtin.len_,run_underlying hT,goInt],by simp only[VR];rfl⟩
theorem G9{x:Operand}{T e:TypeId}(ho:o.op=.call {callee:=.builtin .len,args:= #[x],argTypes:= #[T]})(hT:P.underlying T=some (.slice e)):
 cy P o (aT (wO (ba x))):=by
 intro g w nt t h a v h' H Tr e
 have sl: ∀ b n c,a.eval x=.slice b n c->(execOp a.eval o).run P w=.ok (.value (.int .i64 n)) w:=by
  intro b n c hx
  simp[execOp,ho,resolve,invoke,builtin,Builtin.len_,hx,run_underlying hT,goInt]
 unfold aT at e
 split at e
 ·rename_i id off n sz hx
  have hv:=ic x _ _ _ _ _ _ Tr hx
  simp only[VR]at hv
  cases e
  rcases hv with⟨rfl,b,hv⟩|⟨b,s,cap,_,hv,_⟩
  ·exact⟨rfl,_,sl _ _ _ hv,by simp only[VR];rfl⟩
  ·exact⟨rfl,_,sl _ _ _ hv,by simp only[VR];rfl⟩
 ·rename_i n cs hx
  have hv:=ic x _ _ _ _ _ _ Tr hx
  simp only[VR]at hv
  cases e
  obtain⟨b,cap,hv,_⟩:=hv
  exact⟨rfl,_,sl _ _ _ hv,by simp only[VR];rfl⟩
 ·rename_i hx
  have hv:=ic x _ _ _ _ _ _ Tr hx
  simp only[VR]at hv
  cases e
  obtain⟨b,hv⟩:=hv
  exact⟨rfl,_,sl _ _ _ hv,by simp only[VR];rfl⟩
 ·cases e
theorem Ha{x:Operand}{T e:TypeId}(ho:o.op=.call {callee:=.builtin .cap,args:= #[x],argTypes:= #[T]})(hT:P.underlying T=some (.slice e)):
 cy P o (qS (wO (ba x))):=by
 intro g w nt t h a v h' H Tr e
 unfold qS at e
 split at e
 ·rename_i hx
  have hv:=ic x _ _ _ _ _ _ Tr hx
  simp only[VR]at hv
  cases e
  obtain⟨b,hv⟩:=hv
  exact⟨rfl,.int .i64 0,by simp[execOp,ho,resolve,invoke,builtin,Builtin.cap_,hv,run_underlying hT,goInt],by simp only[VR]⟩
 ·cases e
end
end Go.Ab

noncomputable section
namespace Go.Ab
variable [Io]
section
variable {P:Program}{o:Oper}
omit [Io] in
theorem gL(b o n:Nat):(⟨b,o,none⟩:Addr).add n=⟨b,o+n,none⟩:=by unfold Addr.add;split<;>simp_all
def jh:TypeDesc->Bool
 | .struct _| .array _ _=>true
 | _=>false
omit [Io] in
theorem na{T:TypeId}{d:TypeDesc}{w:World}(h:P.underlying T=some d):(isAgg T).run P w=.ok (jh d) w:=by
 unfold isAgg
 simp only[Sem.run_bind,run_underlying h,Result.andThen_ok]
 cases d<;>rfl
omit [Io] in
theorem xe{agg:Bool}{cs:List AV}{off size:Nat}{v:AV}(h:part agg cs off size=some v):
 ((cs.drop off).take size).length=size/\((agg=true/\v=.agg ((cs.drop off).take size))∨(agg=false/\(cs.drop off).take size=[v])):=by
 unfold part at h
 split at h
 ·cases h
 ·rename_i l e
  obtain⟨rfl,hl⟩:=kZ e
  cases agg with
  |true=>cases h;exact⟨hl,.inl ⟨rfl,rfl⟩⟩
  |false=>
   change (match(cs.drop off).take size with| [c]=>some c| _=>none)=some v at h
   split at h
   ·rename_i c e2
    cases h
    exact⟨hl,.inr ⟨rfl,e2⟩⟩
   ·cases h
theorem mr{T:TypeId}{d:TypeDesc}{i:TypeInfo}{g:G}{w:World}{cs:List AV}{vs:List Value}{b s off:Nat}{v:AV}
 (hd:P.underlying T=some d)(hi:P.info? T=some i)(hv:bQ g w cs vs)(hc:ee w b s vs)(h:part (jh d) cs off i.size=some v):
 ∃ x,(loadVar T ⟨b,s+off,none⟩).run P w=.ok x w/\VR g w v x:=by
 obtain⟨hl,h⟩:=xe h
 have eE:bQ g w ((cs.drop off).take i.size) ((vs.drop off).take i.size):=(hv.drop off).take _
 have gu:ee w b (s+off) ((vs.drop off).take i.size):=(hc.drop off).take _
 have hlen:((vs.drop off).take i.size).length=i.size:=by rw[eE.length,hl]
 have pO:(sizeOf T).run P w=.ok i.size w:=by simp[sizeOf,typeInfo,hi]
 rcases h with⟨ha,rfl⟩|⟨ha,h⟩
 ·have hr:=run_loadCells_list (P:=P) w ⟨b,s+off,none⟩ ((vs.drop off).take i.size) (fun j v e=>by rw[gL];exact gu j v e)
  rw[hlen]at hr
  refine⟨.agg ((vs.drop off).take i.size).toArray,?_,?_⟩
  ·unfold loadVar
   simp only[Sem.run_bind,na hd,ha,Result.andThen_ok,if_true,pO,hr,Sem.run_pure]
  ·simp only[VR]
   exact⟨_,rfl,by simpa using eE⟩
 ·rw[h]at eE
  simp only[bQ]at eE
  obtain⟨x,l',e,hx,rfl⟩:=eE
  have:=gu 0 x (by rw[e];rfl)
  refine⟨x,?_,hx⟩
  unfold loadVar
  simp only[Sem.run_bind,na hd,ha,Result.andThen_ok]
  simp only[Nat.add_zero]at this
  simp[run_load,this]
theorem Ff{T:TypeId}{d:TypeDesc}{i:TypeInfo}{x:Operand}(ho:o.op=.load T x)(hd:P.underlying T=some d)(hi:P.info? T=some i):
 cy P o (bc i.size (jh d) (ba x)):=by
 intro g w nt t h a v h' H Tr e
 unfold bc at e
 split at e
 ·rename_i av hx
  split at e
  ·rename_i r hr
   cases e
   have hv:=bB x _ _ _ _ _ _ Tr hx
   unfold uV at hr
   split at hr
   ·rename_i id off
    split at hr
    ·rename_i cs hg
     simp only[VR]at hv
     obtain⟨b,s,hm,hv⟩:=hv
     obtain⟨C,el,vs,hw,_,eE,hc⟩:=H.row hg hm
     obtain⟨z,hz,hr⟩:=mr hd hi eE (fN hw hc) (uX hr)
     exact⟨rfl,z,by simp[execOp,ho,Instr.loadAt,Instr.sureAddr,hv,hz],hr⟩
    ·cases hr
   ·rename_i cs
    simp only[VR]at hv
    obtain⟨b,s,vs,hv,_,hc,eE⟩:=hv
    obtain⟨z,hz,hr⟩:=mr hd hi eE hc hr
    rw[Nat.add_zero]at hz
    exact⟨rfl,z,by simp[execOp,ho,Instr.loadAt,Instr.sureAddr,hv,hz],hr⟩
   ·cases hr
  ·cases e
 ·cases e
theorem VR.sL{g w cs b s vs}(i:g.eL b)(hc:ee w b s vs)(hv:bQ g w cs vs)(n:Nat):
 VR g w (.gj (cs.drop n)) (.pointer (some ⟨b,s+n,none⟩)):=by
 simp only[VR]
 exact⟨b,s+n,vs.drop n,rfl,i,hc.drop n,hv.drop n⟩
theorem u6{T:TypeId}{fs:Array Field}{n:Nat}{f:Field}{i:TypeInfo}{x:Operand}(ho:o.op=.fieldAddr T x n)
 (hd:P.underlying T=some (.struct fs))(hf:fs[n]? =some f)(hi:P.info? f.type=some i)(h0:i.size≠0):cy P o (ab f.offset (ba x)):=by
 intro g w nt t h a v h' H Tr e
 have jV: ∀ b s,a.eval x=.pointer (some ⟨b,s,none⟩)->(execOp a.eval o).run P w=.ok (.value (.pointer (some ⟨b,s+f.offset,none⟩))) w:=by
  intro b s hx
  simp[execOp,ho,hx,Instr.fieldAt,run_underlying hd,hf,Instr.sureAddr,fieldPlace,sizeOf,typeInfo,hi,h0,gL]
 unfold ab at e
 split at e
 ·rename_i id off hx
  have hv:=bB x _ _ _ _ _ _ Tr hx
  cases e
  simp only[VR]at hv
  obtain⟨b,s,hm,hv⟩:=hv
  refine⟨rfl,_,jV _ _ hv,?_⟩
  simp only[VR]
  exact⟨b,s,hm,by rw[Nat.add_assoc];rfl⟩
 ·rename_i cs hx
  have hv:=bB x _ _ _ _ _ _ Tr hx
  cases e
  simp only[VR]at hv
  obtain⟨b,s,vs,hv,hi,hc,eE⟩:=hv
  refine⟨rfl,_,jV _ _ hv,?_⟩
  rw[jg]
  exact VR.sL hi hc eE _
 ·cases e
theorem zH{T:TypeId}{d:TypeDesc}{i:TypeInfo}{g:G}{w:World}{cs:List AV}{vs:Array Value}{off:Nat}{v:AV}
 (hd:P.underlying T=some d)(hi:P.info? T=some i)(hv:bQ g w cs vs.toList)(h:part (jh d) cs off i.size=some v):
 ∃ x,(Go.part T vs off).run P w=.ok x w/\VR g w v x:=by
 obtain⟨hl,h⟩:=xe h
 have eE:bQ g w ((cs.drop off).take i.size) ((vs.toList.drop off).take i.size):=(hv.drop off).take _
 have pO:(sizeOf T).run P w=.ok i.size w:=by simp[sizeOf,typeInfo,hi]
 rcases h with⟨ha,rfl⟩|⟨ha,h⟩
 ·refine⟨.agg (vs.extract off (off+i.size)),?_,?_⟩
  ·unfold Go.part
   simp only[Sem.run_bind,na hd,ha,Result.andThen_ok,if_true,pO,Sem.run_pure]
  ·simp only[VR]
   refine⟨_,rfl,?_⟩
   have:(vs.extract off (off+i.size)).toList=(vs.toList.drop off).take i.size:=by
    rw[Array.toList_extract]
    simp[List.extract]
   rw[this];exact eE
 ·rw[h]at eE
  simp only[bQ]at eE
  obtain⟨x,l',e,hx,rfl⟩:=eE
  have hx0:vs[off]? =some x:=by
   have:((vs.toList.drop off).take i.size)[0]? =some x:=by rw[e];rfl
   rw[List.getElem?_take]at this
   split at this
   ·simpa using this
   ·cases this
  refine⟨x,?_,hx⟩
  unfold Go.part
  simp only[Sem.run_bind,na hd,ha,Result.andThen_ok]
  simp[hx0]
theorem BZ{T:TypeId}{fs:Array Field}{n:Nat}{f:Field}{d:TypeDesc}{i:TypeInfo}{x:Operand}(ho:o.op=.field T x n)
 (hd:P.underlying T=some (.struct fs))(hf:fs[n]? =some f)(Dr:P.underlying f.type=some d)(hi:P.info? f.type=some i):
 cy P o (lP f.offset i.size (jh d) (ba x)):=by
 intro g w nt t h a v h' H Tr e
 unfold lP at e
 split at e
 ·rename_i cs hx
  split at e
  ·rename_i r hr
   cases e
   have hv:=bB x _ _ _ _ _ _ Tr hx
   simp only[VR]at hv
   obtain⟨vs,hv,eE⟩:=hv
   obtain⟨z,hz,hr⟩:=zH Dr hi eE hr
   exact⟨rfl,z,by simp[execOp,ho,hv,Instr.field,run_underlying hd,hf,asAgg,hz],hr⟩
  ·cases e
 ·cases e
omit [Io] in
theorem ct{a b:Nat}:Nat.blt a b=true↔a<b:=by simp[Nat.blt_eq]
theorem Hb{T e:TypeId}{i:TypeInfo}{x y:Operand}(ho:o.op=.indexAddr T x y)(hd:P.underlying T=some (.slice e))(hi:P.info? e=some i):
 cy P o (bt i.size (ba x) (ba y)):=by
 intro g w nt t h a v h' H Tr e
 have jV: ∀ b s n c k (j:Nat),a.eval x=.slice (some ⟨b,s,none⟩) n c->a.eval y=.int k j->j<n->
  (execOp a.eval o).run P w=.ok (.value (.pointer (some ⟨b,s+j*i.size,none⟩))) w:=by
  intro b s n c k j hx hy hj
  have hn: ¬ n<=j:=by omega
  simp[execOp,ho,hx,hy,Instr.indexAt,run_underlying hd,asIntOf,hn,sizeOf,typeInfo,hi,gL]
 unfold bt at e
 split at e
 ·rename_i k j hy
  have uw:=bB y _ _ _ _ _ _ Tr hy
  simp only[VR]at uw
  split at e
  ·rename_i id off n sz hx
   have hv:=bB x _ _ _ _ _ _ Tr hx
   cases hb:(Nat.blt j n&&Nat.beq sz i.size)with
   |false=>rw[hb]at e;cases e
   |true=>
    rw[hb]at e
    cases e
    simp only[Bool.and_eq_true]at hb
    have hj:=ct.1 hb.1
    obtain rfl:=Nat.eq_of_beq_eq_true hb.2
    simp only[VR]at hv
    rcases hv with⟨h0,_⟩|⟨b,s,cap,hm,hv,_,_⟩
    ·omega
    ·refine⟨rfl,_,jV _ _ _ _ _ _ hv uw hj,?_⟩
     simp only[VR]
     exact⟨b,s,hm,by rw[Nat.add_assoc];rfl⟩
  ·rename_i n cs hx
   have hv:=bB x _ _ _ _ _ _ Tr hx
   cases hb:Nat.blt j n with
   |false=>rw[hb]at e;cases e
   |true=>
    rw[hb]at e
    cases e
    have hj:=ct.1 hb
    simp only[VR]at hv
    obtain⟨q,c,hv,hc,hr⟩:=hv
    rcases hr with⟨h0,_⟩|⟨b,s,vs,rfl,sC,gu,eE⟩
    ·omega
    ·refine⟨rfl,_,jV _ _ _ _ _ _ hv uw hj,?_⟩
     rw[jg]
     exact VR.sL sC gu eE _
  ·cases e
 ·cases e
theorem Hc{T e:TypeId}{n:Nat}{i:TypeInfo}{x y:Operand}(ho:o.op=.indexAddr T x y)(hd:P.underlying T=some (.array n e))(hi:P.info? e=some i):
 cy P o (oB n i.size (ba x) (ba y)):=by
 intro g w nt t h a v h' H Tr e
 have jV: ∀ b s k (j:Nat),a.eval x=.pointer (some ⟨b,s,none⟩)->a.eval y=.int k j->j<n->
  (execOp a.eval o).run P w=.ok (.value (.pointer (some ⟨b,s+j*i.size,none⟩))) w:=by
  intro b s k j hx hy hj
  have hn: ¬ n<=j:=by omega
  simp[execOp,ho,hx,hy,Instr.indexAt,Instr.sureAddr,run_underlying hd,asIntOf,hn,sizeOf,typeInfo,hi,gL]
 unfold oB at e
 split at e
 ·rename_i k j hy
  have uw:=bB y _ _ _ _ _ _ Tr hy
  simp only[VR]at uw
  split at e
  ·rename_i id off hx
   have hv:=bB x _ _ _ _ _ _ Tr hx
   cases hb:Nat.blt j n with
   |false=>rw[hb]at e;cases e
   |true=>
    rw[hb]at e
    cases e
    simp only[VR]at hv
    obtain⟨b,s,hm,hv⟩:=hv
    refine⟨rfl,_,jV _ _ _ _ hv uw (ct.1 hb),?_⟩
    simp only[VR]
    exact⟨b,s,hm,by rw[Nat.add_assoc];rfl⟩
  ·rename_i cs hx
   have hv:=bB x _ _ _ _ _ _ Tr hx
   cases hb:Nat.blt j n with
   |false=>rw[hb]at e;cases e
   |true=>
    rw[hb]at e
    cases e
    simp only[VR]at hv
    obtain⟨b,s,vs,hv,sC,hc,eE⟩:=hv
    refine⟨rfl,_,jV _ _ _ _ hv uw (ct.1 hb),?_⟩
    rw[jg]
    exact VR.sL sC hc eE _
  ·cases e
 ·cases e
theorem B0{T e:TypeId}{n:Nat}{d:TypeDesc}{i:TypeInfo}{x y:Operand}(ho:o.op=.index T x y)(hd:P.underlying T=some (.array n e))
 (Dr:P.underlying e=some d)(hi:P.info? e=some i):cy P o (kF n i.size (jh d) (ba x) (ba y)):=by
 intro g w nt t h a v h' H Tr e
 unfold kF at e
 split at e
 ·rename_i cs hx
  split at e
  ·rename_i k j hy
   have uw:=bB y _ _ _ _ _ _ Tr hy
   simp only[VR]at uw
   have hv:=bB x _ _ _ _ _ _ Tr hx
   simp only[VR]at hv
   obtain⟨vs,hv,eE⟩:=hv
   cases hb:Nat.blt j n with
   |false=>rw[hb]at e;cases e
   |true=>
    rw[hb]at e
    change (match part (jh d) cs (j*i.size) i.size with|some v=>Ro.ok v h|none=>.bad)=.ok v h' at e
    split at e
    ·rename_i r hr
     cases e
     obtain⟨z,hz,hr⟩:=zH Dr hi eE hr
     have hn: ¬ n<=j:=by have:=ct.1 hb;omega
     have Sk:a.eval y=.int k ((j:Nat):Int):=uw
     exact⟨rfl,z,by simp[execOp,ho,hv,Sk,Instr.index,run_underlying hd,asIntOf,hn,sizeOf,typeInfo,hi,hz],hr⟩
    ·cases e
  ·cases e
 ·cases e
theorem zI{T:TypeId}{x y:Operand}(ho:o.op=.index T x y)(hd:P.underlying T=some .string):cy P o (cC (ba x) (ba y)):=by
 intro g w nt t h a v h' H Tr e
 unfold cC at e
 split at e
 ·rename_i s hx
  split at e
  ·rename_i k j hy
   have uw:=bB y _ _ _ _ _ _ Tr hy
   simp only[VR]at uw
   have Sk:a.eval y=.int k ((j:Nat):Int):=uw
   have hv:=bB x _ _ _ _ _ _ Tr hx
   simp only[VR]at hv
   split at e
   ·rename_i b hb
    cases e
    rw[fQ]at hb
    have BD:s[j]? =some b:=by
     have:s.data[j]? =some b:=by simpa using hb
     obtain⟨hj,e⟩:=Array.getElem?_eq_some_iff.1 this
     rw[getElem?_pos s j hj]
     exact congrArg some e
    exact⟨rfl,.int .u8 b.toNat,by simp[execOp,ho,hv.1,Sk,Instr.index,run_underlying hd,asIntOf,BD],by simp only[VR]⟩
   ·cases e
  ·rename_i k sv lo hi o hy
   have uw:=bB y _ _ _ _ _ _ Tr hy
   simp only[VR]at uw
   obtain⟨uw,h1,h2⟩:=uw
   have hv:=bB x _ _ _ _ _ _ Tr hx
   simp only[VR]at hv
   cases hc:(!(p5 (Int.add lo o) 0)&&p5 (Int.add hi o) (.ofNat s.size))with
   |false=>rw[hc]at e;cases e
   |true=>
    rw[hc]at e
    cases e
    rw[iO,iO]at hc
    have h3:(0:Int)<=lo+o:=by
     have:Int.add lo o=lo+o:=rfl
     simp[this]at hc
     omega
    have h4:hi+o<(s.size:Int):=by
     have:Int.add hi o=hi+o:=rfl
     simp[this]at hc
     omega
    obtain⟨j,hj⟩: ∃ j:Nat,gJ sv+o=(j:Int):=⟨(gJ sv+o).toNat,by omega⟩
    have Fg:j<s.size:=by omega
    rw[hj]at uw
    have BD:s[j]? =some s[j]:=getElem?_pos s j Fg
    refine⟨rfl,.int .u8 (s[j]).toNat,by simp[execOp,ho,hv.1,uw,Instr.index,run_underlying hd,asIntOf,BD],?_⟩
    have Dr:(s.data.toList.map UInt8.toNat).getD j 0=(s[j]).toNat:=by
     have hjd:j<s.data.size:=Fg
     have e1:(s.data.toList.map UInt8.toNat)[j]? =some (s[j]).toNat:=by
      rw[List.getElem?_map,Array.getElem?_toList,getElem?_pos s.data j hjd]
      rfl
     rw[List.getD,e1]
     rfl
    have fO:(s[j]).toNat<256:=UInt8.toNat_lt _
    simp only[VR,gJ]
    rw[hj,Int.toNat_natCast,Dr]
    exact⟨by rw[Int.add_zero],by omega,by omega⟩
  ·cases e
 ·cases e
theorem tA{x:Option Operand}{t:Tm}{d n:Nat}{g w nt}{a:Act}(T:TR g w nt t a.tmps)(h:mL (x.map ba) t d=some n):
 (x=none/\n=d)∨ ∃ y k,x=some y/\a.eval y=.int k ((n:Nat):Int):=by
 cases x with
 |none=>exact .inl ⟨rfl,by simpa[mL]using h.symm⟩
 |some y=>
  simp only[Option.map_some,mL]at h
  split at h
  ·rename_i k m hy
   cases h
   have hv:=bB y _ _ _ _ _ _ T hy
   simp only[VR]at hv
   exact .inr ⟨y,k,rfl,hv⟩
  ·cases h
theorem iW{lo hi:Option Operand}{t:Tm}{n l e:Nat}{g w nt}{a:Act}(T:TR g w nt t a.tmps)(h:bounds (lo.map ba) (hi.map ba) t n=some (l,e)):
 l<=e/\e<=n/\((lo=none/\l=0)∨ ∃ y k,lo=some y/\a.eval y=.int k ((l:Nat):Int))/\((hi=none/\e=n)∨ ∃ y k,hi=some y/\a.eval y=.int k ((e:Nat):Int)):=by
 unfold bounds at h
 split at h
 ·rename_i l' hl
  split at h
  ·rename_i e' he
   cases hb:(Nat.ble l' e'&&Nat.ble e' n)with
   |false=>rw[hb]at h;cases h
   |true=>
    rw[hb]at h
    cases h
    simp only[Bool.and_eq_true,Nat.ble_eq]at hb
    exact⟨hb.1,hb.2,tA T hl,tA T he⟩
  ·cases h
 ·cases h
omit [Io] in
theorem nK{w:World}{isS:Bool}{len cap l e:Nat}{lo hi:Option Value}(h1:l<=e)(h2:e<=cap)
 (Mq:(lo=none/\l=0)∨ ∃ k,lo=some (.int k ((l:Nat):Int)))(hhi:(hi=none/\e=len)∨ ∃ k,hi=some (.int k ((e:Nat):Int))):
 (Instr.sliceBounds isS len cap lo hi none).run P w=.ok (l,e,cap) w:=by
 have b1: ¬ cap<e:=by omega
 have b2: ¬ e<l:=by omega
 rcases Mq with⟨rfl,rfl⟩|⟨k,rfl⟩<;>rcases hhi with⟨rfl,rfl⟩|⟨k',rfl⟩<;>
  simp[Instr.sliceBounds,Instr.sliceBound,asIntOf,Nat.not_lt.1 b1,Nat.not_lt.1 b2]
omit [Io] in
theorem oV{a:Act}{lo:Option Operand}{l d:Nat}(h:(lo=none/\l=d)∨ ∃ y k,lo=some y/\a.eval y=.int k ((l:Nat):Int)):
 (lo.map a.eval=none/\l=d)∨ ∃ k,lo.map a.eval=some (.int k ((l:Nat):Int)):=by
 rcases h with⟨rfl,rfl⟩|⟨y,k,rfl,e⟩
 ·exact .inl ⟨rfl,rfl⟩
 ·exact .inr ⟨k,by simp[e]⟩
theorem zJ{T:TypeId}{x:Operand}{lo hi:Option Operand}(ho:o.op=.slice T x lo hi none)(hd:P.underlying T=some .string):
 cy P o (dG (ba x) (lo.map ba) (hi.map ba)):=by
 intro g w nt t h a v h' H Tr e
 unfold dG at e
 split at e
 ·rename_i s hx
  have hv:=bB x _ _ _ _ _ _ Tr hx
  simp only[VR]at hv
  split at e
  ·rename_i l e' hb
   cases e
   obtain⟨h1,h2,h3,h4⟩:=iW Tr hb
   have hr:=nK (P:=P) (w:=w) (isS:=false) h1 h2 (oV h3) (oV h4)
   exact⟨rfl,.string (s.extract l e'),by simp[execOp,ho,hv.1,Instr.sliceAt,Instr.slice,run_underlying hd,hr],by simp[VR,Value.oneCell']⟩
  ·cases e
 ·cases e
theorem B1{T el:TypeId}{i:TypeInfo}{x:Operand}{lo hi:Option Operand}(ho:o.op=.slice T x lo hi none)(hd:P.underlying T=some (.slice el))(sC:P.info? el=some i):
 cy P o (mM i.size (ba x) (lo.map ba) (hi.map ba)):=by
 intro g w nt t h a v h' H Tr e
 have pO:(sizeOf el).run P w=.ok i.size w:=by simp[sizeOf,typeInfo,sC]
 have jV: ∀ b n c l u,a.eval x=.slice b n c->l<=u->u<=c->((lo=none/\l=0)∨ ∃ y k,lo=some y/\a.eval y=.int k ((l:Nat):Int))->
  ((hi=none/\u=n)∨ ∃ y k,hi=some y/\a.eval y=.int k ((u:Nat):Int))->
  (execOp a.eval o).run P w=.ok (.value (.slice (if c=l then b else b.map (·.add (l*i.size))) (u - l) (c - l))) w:=by
  intro b n c l u hx h1 h2 h3 h4
  have hr:=nK (P:=P) (w:=w) (isS:=true) h1 h2 (oV h3) (oV h4)
  simp[execOp,ho,hx,Instr.sliceAt,Instr.slice,run_underlying hd,hr,pO]
 unfold mM at e
 split at e
 ·rename_i hx
  have hv:=bB x _ _ _ _ _ _ Tr hx
  simp only[VR]at hv
  obtain⟨b,hv⟩:=hv
  split at e
  ·rename_i p hb
   obtain⟨l,u⟩:=p
   cases e
   obtain⟨h1,h2,h3,h4⟩:=iW Tr hb
   refine⟨rfl,_,jV _ _ _ _ _ hv h1 h2 h3 h4,?_⟩
   obtain rfl:l=0:=by omega
   obtain rfl:u=0:=by omega
   simp only[VR]
   exact⟨_,rfl⟩
  ·cases e
 ·rename_i id off n sz hx
  have hv:=bB x _ _ _ _ _ _ Tr hx
  simp only[VR]at hv
  split at e
  ·rename_i l u hb
   cases hz:Nat.beq sz i.size with
   |false=>rw[hz]at e;cases e
   |true=>
    rw[hz]at e
    cases e
    obtain rfl:=Nat.eq_of_beq_eq_true hz
    obtain⟨h1,h2,h3,h4⟩:=iW Tr hb
    rcases hv with⟨rfl,b,hv⟩|⟨b,s,cap,hm,hv,hc,hr⟩
    ·refine⟨rfl,_,jV _ _ _ _ _ hv h1 h2 h3 h4,?_⟩
     obtain rfl:l=0:=by omega
     obtain rfl:u=0:=by omega
     simp only[VR]
     exact .inl ⟨by first|trivial|rfl,b,by simp⟩
    ·refine⟨rfl,_,jV _ _ _ _ _ hv h1 (by omega) h3 h4,?_⟩
     simp only[VR]
     by_cases fF:cap=l
     ·refine .inl ⟨by show u - l=0;omega,⟨b,s+off,none⟩,?_⟩
      rw[show u - l=0 by omega,show cap - l=0 by omega,if_pos fF]
     ·refine .inr ⟨b,s,cap - l,hm,?_,by show u - l<=_;omega,?_⟩
      ·rw[if_neg fF]
       simp only[Option.map_some,gL]
       congr 3
       show s+off+l*i.size=s+(off+l*i.size)
       omega
      ·show s+(off+l*i.size)+(cap - l)*i.size<=_
       have:(cap - l)*i.size+l*i.size=cap*i.size:=by rw[<-Nat.add_mul];congr 1;omega
       omega
  ·cases e
 ·rename_i n cs hx
  have hv:=bB x _ _ _ _ _ _ Tr hx
  simp only[VR]at hv
  obtain⟨b,cap,hv,hc,hr⟩:=hv
  split at e
  ·rename_i l u hb
   cases e
   obtain⟨h1,h2,h3,h4⟩:=iW Tr hb
   refine⟨rfl,_,jV _ _ _ _ _ hv h1 (by omega) h3 h4,?_⟩
   simp only[VR,oP,jg]
   refine⟨_,cap - l,rfl,by show u - l<=_;omega,?_⟩
   rcases hr with⟨rfl,rfl⟩|⟨q,s,vs,rfl,Gz,gu,eE⟩
   ·exact .inl ⟨by show u - l=0;omega,by simp⟩
   ·by_cases fF:cap=l
    ·exact .inl ⟨by show u - l=0;omega,by
      show List.take ((u - l)*i.size) _=[]
      rw[show u - l=0 by omega];simp⟩
    ·refine .inr ⟨q,s+l*i.size,_,?_,Gz,(gu.drop (l*i.size)).take ((u - l)*i.size),(eE.drop (l*i.size)).take ((u - l)*i.size)⟩
     rw[if_neg fF]
     simp only[Option.map_some,gL]
  ·cases e
 ·cases e
theorem zK{T el:TypeId}{i:TypeInfo}{x:Operand}{lo hi:Option Operand}(ho:o.op=.slice T x lo hi none)(hd:P.underlying T=some (.slice el))(sC:P.info? el=some i):
 cy P o (cB i.size (ba x) (lo.map ba) (hi.map ba)):=by
 intro g w nt t h a v h' H Tr e
 unfold cB at e
 split at e
 ·rename_i av hx
  cases hE:qu av with
  |false=>rw[hE]at e;exact B1 ho hd sC g w nt t h a v h' H Tr e
  |true=>
   rw[hE]at e
   simp only[cond_true]at e
   split at e
   ·rename_i p hb
    obtain⟨l,u⟩:=p
    cases e
    have hv:=bB x _ _ _ _ _ _ Tr hx
    have nF:=hv
    obtain⟨b,hv⟩:=uZ hE hv
    obtain⟨h1,h2,h3,h4⟩:=iW Tr hb
    obtain rfl:l=0:=by omega
    obtain rfl:u=0:=by omega
    have hr:=nK (P:=P) (w:=w) (isS:=true) (len:=0) h1 h2 (oV h3) (oV h4)
    have pO:(sizeOf el).run P w=.ok i.size w:=by simp[sizeOf,typeInfo,sC]
    exact⟨rfl,a.eval x,by simp[execOp,ho,hv,Instr.sliceAt,Instr.slice,run_underlying hd,hr,pO],nF⟩
   ·cases e
 ·cases e
theorem bQ.oW{g w}{cs:List AV}{vs:List Value}{s:Nat}{C:Array Value}(hv:bQ g w cs vs)(hc: ∀ (j:Nat) (v:Value),vs[j]? =some v->C[s+j]? =some v){n:Nat}
 (hn:n<=cs.length)(h0:n≠0):s+n<=C.size:=by
 have hl:=hv.length
 have hj:n - 1<vs.length:=by omega
 have:=hc (n - 1) _ (List.getElem?_eq_getElem hj)
 have:=(Array.getElem?_eq_some_iff.1 this).1
 omega
theorem zL{T el:TypeId}{n:Nat}{i:TypeInfo}{x:Operand}{lo hi:Option Operand}(ho:o.op=.slice T x lo hi none)(hd:P.underlying T=some (.array n el))(sC:P.info? el=some i)(h0:i.size≠0):
 cy P o (gq n i.size (ba x) (lo.map ba) (hi.map ba)):=by
 intro g w nt t h a v h' H Tr e
 have pO:(sizeOf el).run P w=.ok i.size w:=by simp[sizeOf,typeInfo,sC]
 unfold gq at e
 split at e
 ·rename_i id off hx
  have hv:=bB x _ _ _ _ _ _ Tr hx
  simp only[VR]at hv
  obtain⟨b,s,hm,hv⟩:=hv
  split at e
  ·rename_i l u hb
   split at e
   ·rename_i cs hg
    cases hz:Nat.ble (Nat.add off (Nat.mul n i.size)) cs.n with
    |false=>rw[hz]at e;cases e
    |true=>
     rw[hz]at e
     cases e
     have hz':off+n*i.size<=cs.toL.length:=by rw[eM];exact Nat.ble_eq.mp hz
     obtain⟨h1,h2,h3,h4⟩:=iW Tr hb
     have hr:=nK (P:=P) (w:=w) (isS:=false) h1 h2 (oV h3) (oV h4)
     refine⟨rfl,.slice (some (if n=l then⟨b,s+off,none⟩else(⟨b,s+off,none⟩:Addr).add (l*i.size))) (u - l) (n - l),?_,?_⟩
     ·simp[execOp,ho,hv,Instr.sliceAt,Instr.sureAddr,run_underlying hd,hr,pO]
     ·obtain⟨C,el',vs,hw,_,eE,hc⟩:=H.row hg hm
      simp only[VR]
      by_cases fF:n=l
      ·refine .inl ⟨by show u - l=0;omega,(if n=l then⟨b,s+off,none⟩else(⟨b,s+off,none⟩:Addr).add (l*i.size)),?_⟩
       rw[show u - l=0 by omega,show n - l=0 by omega]
      ·have WS:(n - l)*i.size≠0:=Nat.mul_ne_zero (by omega) h0
       refine .inr ⟨b,s,n - l,hm,?_,by show u - l<=_;omega,?_⟩
       ·rw[if_neg fF,gL]
        congr 3
        show s+off+l*i.size=s+(off+l*i.size)
        omega
       ·rw[iV hw]
        show s+(off+l*i.size)+(n - l)*i.size<=_
        have e1:(n - l)*i.size+l*i.size=n*i.size:=by rw[<-Nat.add_mul];congr 1;omega
        have:=bQ.oW eE hc hz' (by omega)
        omega
   ·cases e
  ·cases e
 ·cases e
end
end Go.Ab

noncomputable section
namespace Go.Ab
variable [Io]
section
variable {P:Program}{o:Oper}
omit [Io] in
theorem u7(off:Nat): ∀ (l:List Value) (k:Nat) (C:Array Value),off+k+l.length<=C.size->
 (l.zipIdx k).foldl (fun cs (p:Value×Nat)=>cs.setIfInBounds (off+p.2) p.1) C=(C.toList.take (off+k)++l++C.toList.drop (off+k+l.length)).toArray
 | [],k,C,_=>by simp
 |v::l,k,C,h=>by
  simp only[List.length_cons]at h
  rw[List.zipIdx_cons,List.foldl_cons,u7 off l (k+1) _ (by simp;omega)]
  have e:=list_seg_step C.toList (off+k) v l (by simp;omega)
  congr 1
  simpa[Array.toList_setIfInBounds,Nat.add_assoc]using e
def kG(g:G)(w:World)(place:Nat->Option (Nat×Nat)):List (Nat×Nat×AV)->List (Nat×Value)->Prop
 | [],l=>l=[]
 |p::r,l=> ∃ i v l',l=(i,v)::l'/\place i=some (p.1,p.2.1)/\VR g w p.2.2 v/\kG g w place r l'
theorem yb{g w}{place:Nat->Option (Nat×Nat)}: ∀ (ps:List (Nat×Nat×AV)) (qs:List (Nat×Value)) (cs cs':List AV) (C:Array Value),
 kG g w place ps qs->bQ g w cs C.toList->uU ps cs=some cs'-> ∃ C',Instr.fill place C qs=some C'/\bQ g w cs' C'.toList/\C'.size=C.size
 | [],qs,cs,cs',C,h,hv,e=>by
  simp only[kG]at h
  subst h
  cases e
  exact⟨C,rfl,hv,rfl⟩
 |p::ps,qs,cs,cs',C,h,hv,e=>by
  simp only[kG]at h
  obtain⟨i,v,qs',rfl,hp,hr,h⟩:=h
  change (bif Nat.beq (len p.2.2.cells) p.2.1&&Nat.ble (Nat.add p.1 p.2.1) (len cs)then uU ps (put cs p.1 p.2.2.cells)else none)=some cs' at e
  cases hb:(Nat.beq (len p.2.2.cells) p.2.1&&Nat.ble (Nat.add p.1 p.2.1) (len cs))with
  |false=>rw[hb]at e;cases e
  |true=>
   rw[hb]at e
   simp only[Bool.and_eq_true,cF]at hb
   have h1:=Nat.eq_of_beq_eq_true hb.1
   have h2:p.1+p.2.1<=cs.length:=Nat.ble_eq.mp hb.2
   have hc:=hr.cells
   have hl:=hc.length
   simp only[Array.length_toList]at hl
   have hC:=hv.length
   simp only[Array.length_toList]at hC
   have hn:bQ g w (put cs p.1 p.2.2.cells) ((C.toList.take p.1++v.cells.toList++C.toList.drop (p.1+v.cells.toList.length)).toArray).toList:=by
    rw[put_eq]
    simp only[List.append_assoc]
    refine(hv.take _).append (hc.append ?_)
    rw[hc.length]
    exact hv.drop _
   obtain⟨C',Lx,nF,hs⟩:=yb ps qs' _ cs' _ h hn e
   refine⟨C',?_,nF,?_⟩
   ·simp only[Instr.fill,hp]
    rw[if_neg (by simp;omega)]
    rw[<-Lx]
    congr 1
    have hf:=u7 p.1 v.cells.toList 0 C (by simp;omega)
    simp only[Nat.add_zero]at hf
    rw[<-hf,<-Array.foldl_toList,Array.toList_zipIdx]
   ·rw[hs]
    simp
    omega
def sM(place:Nat->Option (Nat×Nat))(l:List (Nat×Operand)):Option (List (Nat×Nat×eR)):=
 List.rec (some []) (fun p _ ih=>match place p.1 with
  |some (off,size)=>match ih with
   |some r=>some ((off,size,ba p.2)::r)
   |none=>none
  |none=>none) l
theorem xf{g w nt t}{a:Act}(T:TR g w nt t a.tmps){place:Nat->Option (Nat×Nat)}: ∀ (l:List (Nat×Operand)) {ps:List (Nat×Nat×eR)} {vs:List (Nat×Nat×AV)},
 sM place l=some ps->mK ps t=some vs->kG g w place vs (l.map fun p=>(p.1,a.eval p.2))
 | [],ps,vs,h,e=>by
  cases h
  cases e
  simp[kG]
 |p::l,ps,vs,h,e=>by
  change (match place p.1 with|some (off,size)=>(match sM place l with|some r=>some ((off,size,ba p.2)::r)|none=>none)|none=>none)=some ps at h
  split at h
  ·rename_i off size hp
   split at h
   ·rename_i r hr
    cases h
    change (match ba p.2 t with|some v=>(match mK r t with|some vs=>some ((off,size,v)::vs)|none=>none)|none=>none)=some vs at e
    split at e
    ·rename_i v hv
     split at e
     ·rename_i us hu
      cases e
      simp only[kG,List.map_cons]
      exact⟨p.1,_,_,rfl,hp,bB p.2 _ _ _ _ _ _ T hv,xf T l hr hu⟩
     ·cases e
    ·cases e
   ·cases h
  ·cases h
def placesOf(P:Program)(T:TypeId):Option (Nat->Option (Nat×Nat)):=
 match P.underlying T with
 |some (.struct fields)=>match fields.toList.mapM (fun f=>(P.info? f.type).map fun i=>(f.offset,i.size))with
  |some places=>some fun i=>places.toArray[i]?
  |none=>none
 |some (.array _ e)=>match P.info? e with
  |some ie=>some fun i=>some (i*ie.size,ie.size)
  |none=>none
 | _=>none
def zeroOf(P:Program)(T:TypeId):Option (List AV):=
 match P.info? T with
 |some i=>match i.zero with
  |some z=>leaves z.cells.toList
  |none=>none
 |none=>none
def u9(P:Program)(T:TypeId)(parts:List (Nat×Operand)):eP:=
 match placesOf P T with
 |some place=>match zeroOf P T with
  |some z=>match sM place parts with
   |some ps=>aq z ps
   |none=>cq
  |none=>cq
 |none=>cq
theorem gM{T:TypeId}{z:List AV}(h:zeroOf P T=some z): ∃ i zv,P.info? T=some i/\i.zero=some zv/\ ∀ g w,bQ g w z zv.cells.toList:=by
 unfold zeroOf at h
 cases hi:P.info? T with
 |none=>rw[hi]at h;cases h
 |some i=>
  rw[hi]at h
  cases hz:i.zero with
  |none=>simp only[hz]at h;cases h
  |some zv=>simp only[hz]at h;exact⟨i,zv,rfl,hz,fun g w=>pM _ h g w⟩
theorem B2{T:TypeId}{parts:Array (Nat×Operand)}(ho:o.op=.build T parts):cy P o (u9 P T parts.toList):=by
 intro g w nt t h a v h' H Tr e
 unfold u9 at e
 cases hp:placesOf P T with
 |none=>rw[hp]at e;cases e
 |some place=>
 rw[hp]at e
 cases hz:zeroOf P T with
 |none=>simp only[hz]at e;cases e
 |some z=>
 simp only[hz]at e
 cases Hd:sM place parts.toList with
 |none=>simp only[Hd]at e;cases e
 |some ps=>
 simp only[Hd]at e
 unfold aq at e
 split at e
 ·rename_i vs eE
  split at e
  ·rename_i cs gu
   cases e
   obtain⟨i,zv,hi,ux,hz⟩:=gM hz
   obtain⟨C',Lx,nF,_⟩:=yb vs _ z cs zv.cells (xf Tr parts.toList Hd eE) (hz g w) gu
   refine⟨rfl,.agg C',?_,by simp only[VR];exact⟨_,rfl,nF⟩⟩
   have hb:P.built T ((parts.map fun p=>(p.1,a.eval p.2)).toList)=some C':=by
    unfold placesOf at hp
    unfold Program.built
    split at hp
    ·rename_i fields hu
     split at hp
     ·rename_i places V2
      cases hp
      simp only[hi,hu,ux,V2,Array.toList_map]
      exact Lx
     ·cases hp
    ·rename_i n el hu
     split at hp
     ·rename_i ie mu
      cases hp
      simp only[hi,hu,ux,mu,Array.toList_map]
      exact Lx
     ·cases hp
    ·cases hp
   have jV:=run_build (P:=P) w T _ C' hb
   simp only[execOp,ho]
   show((Instr.build T (parts.map fun p=>(p.1,a.eval p.2))>>=fun v=>(pure (.value v):Sem Next))).run P w=_
   simp only[Sem.run_bind,jV,Result.andThen_ok,Sem.run_pure]
  ·cases e
 ·cases e
def lQ(P:Program)(o:Oper)(f:eP):Prop:=
 ∀ (g:G) (w:World) (nt:Nat) (t:Tm) (h:Hp) (a:Act) (v:AV) (h':Hp),HR g w h->TR g w nt t a.tmps->f t h=.ok v h'->
  ∃ g' w' nx x,(execOp a.eval o).run P w=.ok nx w'/\(nx=.value x∨(nx=.skip/\x=undef))/\Ext g w h g' w' h'/\HR g' w' h'/\VR g' w' v x
theorem cy.run{f:eP}(h:cy P o f):lQ P o f:=by
 intro g w nt t hp a v h' H T e
 obtain⟨rfl,x,hx,hv⟩:=h g w nt t hp a v h' H.toHC T e
 exact⟨g,w,.value x,x,hx,.inl rfl,Ext.refl _ _ _,H,hv⟩
theorem zM{g w h}(H:HR g w h)(ob:Obj):Ext g w h g (w.alloc ob) h/\HR g (w.alloc ob) h:=by
 have hp: ∀ b,b<w.heap.size->(w.alloc ob).heap[b]? =w.heap[b]? :=by
  intro b hb
  show(w.heap.push _)[b]? =_
  rw[Array.getElem?_push,if_neg (by omega)]
 have E:Ext g w h g (w.alloc ob) h:=by
  refine⟨rfl,rfl,rfl,by simp,Nat.le_refl _,fun _ _ e=>e,fun b hb _=>hp b hb,?_,fun _ i=>i,fun _ i=>.inl i,fun _ o=>.inl o⟩
  intro b
  unfold ed
  by_cases hb:b<w.heap.size
  ·rw[hp b hb];exact Nat.le_refl _
  ·rw[Array.getElem?_eq_none (by omega)];exact Nat.zero_le _
 refine⟨E,H.fresh,?_,H.inj,fun b i=>by have:=H.eL b i;simp;omega,kY.ext H E⟩
 intro id cs e
 obtain⟨b,s,C,el,vs,hm,hw,hi,hv,hc⟩:=H.aU id cs e
 exact⟨b,s,C,el,vs,hm,by rw[hp b (Array.getElem?_eq_some_iff.1 hw).1];exact hw,hi,bQ.mono H E _ _ hv,hc⟩
def nd(P:Program)(o:Oper)(f:eP):Prop:=
 ∀ (g:G) (w:World) (nt:Nat) (t:Tm) (h:Hp) (a:Act) (v:AV) (h':Hp),HC g w h->TR g w nt t a.tmps->f t h=.ok v h'->
  (h'=h/\ ∃ x C el,(execOp a.eval o).run P w=.ok (.value x) (w.alloc (.cells C el))/\ ∀ g' w',VR g' w' v x)∨
  (∃ cs C el vs x,h'=dK h cs/\(execOp a.eval o).run P w=.ok (.value x) (w.alloc (.cells C el))/\bQ g w cs.toL vs/\(∀ (j:Nat) (v:Value),vs[j]? =some v->C[j]? =some v)/\
   ∀ g' w',g'.m h.next=some (w.heap.size,0)->C.size<=ed w' w.heap.size->VR g' w' v x)
omit [Io] in
theorem qd(w:World)(C:Array Value)(el:TypeId):ed (w.alloc (.cells C el)) w.heap.size=C.size:=by
 have:(w.alloc (.cells C el)).heap[w.heap.size]? =some (.cells C el):=by
  show(w.heap.push _)[w.heap.size]? =_
  simp
 exact iV this
theorem nd.run{f:eP}(h:nd P o f):lQ P o f:=by
 intro g w nt t hp a v h' H T e
 rcases h g w nt t hp a v h' H.toHC T e with⟨rfl,x,C,el,hr,hv⟩|⟨cs,C,el,vs,x,rfl,hr,eE,hc,hv⟩
 ·obtain⟨E,H'⟩:=zM H (.cells C el)
  exact⟨g,_,.value x,x,hr,.inl rfl,E,H',hv _ _⟩
 ·obtain⟨E,H'⟩:=uu H (C:=C) el eE hc
  exact⟨_,_,.value x,x,hr,.inl rfl,E,H',hv _ _ (by simp[G.add]) (by rw[qd];exact Nat.le_refl _)⟩
theorem He{g:G}{w:World}{id b:Nat}(hm:g.m id=some (b,0)):VR g w (.ref id 0) (.pointer (some ⟨b,0,none⟩)):=by
 simp only[VR]
 exact⟨b,0,hm,rfl⟩
theorem Hf{g:G}{w:World}{id b n c sz m:Nat}(hm:g.m id=some (b,0))(hn:n<=c)(hc:c*sz<=m)(hr:m<=ed w b):VR g w (.dV id 0 n sz) (.slice (some ⟨b,0,none⟩) n c):=by
 simp only[VR]
 exact .inr ⟨b,0,c,hm,rfl,hn,by omega⟩
theorem Hg{g:G}{w:World}{b:Addr}:VR g w .mI (.slice (some b) 0 0):=by
 simp only[VR]
 exact⟨_,rfl⟩
theorem Hh{T:TypeId}{z:List AV}(ho:o.op=.alloc T)(hz:zeroOf P T=some z):nd P o (dB z):=by
 intro g w nt t h a v h' H Tr e
 cases e
 obtain⟨i,zv,hi,ux,hz⟩:=gM hz
 refine .inr ⟨uq z,zv.cells,T,zv.cells.toList,.pointer (some ⟨w.heap.size,0,none⟩),rfl,?_,by rw[hJ];exact hz g w,fun j v e=>by simpa using e,fun g' w' hm _=>He hm⟩
 simp[execOp,ho,Instr.alloc,zeroValue,typeInfo,hi,ux,newVar,newRow]
theorem Hi{T:TypeId}{x:Operand}(ho:o.op=.box T x):nd P o (dr (ba x)):=by
 intro g w nt t h a v h' H Tr e
 unfold dr at e
 split at e
 ·rename_i av hx
  cases e
  have hv:=bB x _ _ _ _ _ _ Tr hx
  refine .inr ⟨_,(a.eval x).cells,T,_,.pointer (some ⟨w.heap.size,0,none⟩),rfl,?_,by rw[hJ];exact hv.cells,fun j v e=>by simpa using e,fun g' w' hm _=>He hm⟩
  simp[execOp,ho,Instr.box,newVar,newRow]
 ·cases e
end
end Go.Ab
