import Derived.Test.YtcnkojgmochcgaaGreatDoorAb0
import Derived.Laws.Tables
noncomputable section
namespace Go.Ab
variable [Io]
omit [Io] in
theorem rM(k:IntKind)(n:Int):oZ k n=k.wrap n:=by
 cases k<;>simp only[oZ,IntKind.wrap,IntKind.bits,IntKind.signed]
 all_goals simp
 all_goals first
  |rfl
  |(show(n+_) % _ - _=_;split<;>omega)
omit [Io] in
theorem oc{k k':IntKind}:qp k k'=true↔k=k':=by cases k<;>cases k'<;>simp[qp]
omit [Io] in
theorem qe(a b:Int):r7 a b=decide (a<b):=by
 cases a<;>cases b<;>simp only[r7]
 ·rename_i a b
  by_cases h:a<b
  ·rw[show Nat.blt a b=true from by simpa[Nat.blt_eq]using h];simp;omega
  ·rw[show Nat.blt a b=false from by rw[Bool.eq_false_iff];simpa[Nat.blt_eq]using h];simp;omega
 ·simp;omega
 ·simp;omega
 ·rename_i a b
  by_cases h:b<a
  ·rw[show Nat.blt b a=true from by simpa[Nat.blt_eq]using h];simp;omega
  ·rw[show Nat.blt b a=false from by rw[Bool.eq_false_iff];simpa[Nat.blt_eq]using h];simp;omega
omit [Io] in
theorem zC(a b:Int):eqI a b=(a == b):=by
 have key:eqI a b=true↔a=b:=by
  cases a<;>cases b<;>simp[eqI]
  omega
 by_cases h:a=b
 ·rw[key.2 h];simp[h]
 ·rw[show eqI a b=false from by rw[Bool.eq_false_iff];exact fun e=>h (key.1 e)];simp[h]
omit [Io] in
theorem GV(k:IntKind):xd k=k.bits:=by cases k<;>rfl
omit [Io] in
theorem yf(a b:Nat):tW a b=min a b:=by
 unfold tW
 by_cases h:a<=b
 ·rw[show Nat.ble a b=true from Nat.ble_eq.mpr h];simp[Nat.min_eq_left h]
 ·rw[show Nat.ble a b=false from by rw[Bool.eq_false_iff];exact fun e=>h (Nat.ble_eq.mp e)];simp;omega
theorem MJ{v:Value}{a:AV}(h:leaf v=some a)(g:G)(w:World):VR g w a v:=by
 unfold leaf at h
 split at h<;>first
  |(cases h;done)
  |(cases h;simp[VR,Value.oneCell'])
theorem wC: ∀ (l:List Value) {r:List AV},leaves l=some r-> ∀ (g:G) (w:World),cH g w r l
 | [],r,h,g,w=>by cases h;simp[cH]
 |v::l,r,h,g,w=>by
  change (match leaf v with|some a=>(match leaves l with|some r=>some (a::r)|none=>none)|none=>none)=some r at h
  cases h1:leaf v with
  |none=>rw[h1]at h;cases h
  |some a=>
   cases h2:leaves l with
   |none=>rw[h1,h2]at h;cases h
   |some r'=>
    rw[h1,h2]at h
    cases h
    simp only[cH]
    exact⟨v,l,rfl,MJ h1 g w,wC l h2 g w⟩
theorem Re{v:Value}{a:AV}(h:O1 v=some a)(g:G)(w:World):VR g w a v:=by
 unfold O1 at h
 split at h
 ·split at h
  ·rename_i cs _ l e
   cases h
   simp only[VR]
   exact⟨cs,rfl,wC _ e g w⟩
  ·cases h
 ·split at h
  ·rename_i cs _ l e
   cases h
   simp only[VR]
   exact⟨cs,rfl,wC _ e g w⟩
  ·cases h
 ·exact MJ h g w
omit [Io] in
theorem JO{s:Sem Value}{v:Value}(h:rF s=some v)(P:Program)(w:World):s.run P w=.ok v w:=by
 cases s<;>simp[rF]at h
 subst h;rfl
theorem yg{s:Sem Value}{a:AV}(h:BC (rF s)=some a)(P:Program)(g:G)(w:World): ∃ v,s.run P w=.ok v w/\VR g w a v:=by
 cases e:rF s with
 |none=>rw[e]at h;cases h
 |some v=>rw[e]at h;exact⟨v,JO e P w,Re h g w⟩
def abV(x:Operand)(o:n9):Prop:= ∀ (g:G) (w:World) (nt:Nat) (t:Tm) (a:Act) (v:AV),TR g w nt t a.tmps->o t=some v->VR g w v (a.eval x)
def cy:Operand->n9
 | .tmp i=>pH (Nat.blt i 512) (oT i) oX
 | .const v=>match O1 v with
  |some a=>oC a
  |none=>oX
 | .global _=>oX
 | .func f=>oC (.fn f [])
theorem cC(x:Operand):abV x (cy x):=by
 intro g w nt t a v T e
 cases x with
 |tmp i=>
  change pH (Nat.blt i 512) (oT i) oX t=some v at e
  cases h:Nat.blt i 512 with
  |false=>rw[h]at e;cases e
  |true=>
   rw[h]at e
   exact(T.2.2 i v (by simpa[Nat.blt_eq]using h) e).2
 |const c=>
  change (match O1 c with|some a=>oC a|none=>oX) t=some v at e
  cases h:O1 c with
  |none=>simp only[h]at e;cases e
  |some x=>
   simp only[h]at e
   cases e
   exact Re h g w
 |global i=>cases e
 |func f=>
  cases e
  simp only[VR]
  exact⟨#[],rfl,by simp[cH]⟩
theorem A8{g w nt t}{a:Act}(T:TR g w nt t a.tmps): ∀ (l:List Operand) {vs:List AV},zu (l.map cy) t=some vs->cH g w vs (l.map a.eval)
 | [],vs,e=>by cases e;simp[cH]
 |x::l,vs,e=>by
  change (Option.rec none (fun v=>Option.rec none (fun vs=>some (v::vs)) (zu (l.map cy) t)) (cy x t):Option (List AV))=some vs at e
  cases h1:cy x t with
  |none=>rw[h1]at e;cases e
  |some v=>
   cases h2:zu (l.map cy) t with
   |none=>rw[h1,h2]at e;cases e
   |some r=>
    rw[h1,h2]at e
    cases e
    simp only[List.map_cons,cH]
    exact⟨_,_,rfl,cC x _ _ _ _ _ _ T h1,A8 T l h2⟩
def cN(P:Program)(o:Oper)(f:nY):Prop:=
 ∀ (g:G) (w:World) (nt:Nat) (t:Tm) (h:Hp) (a:Act) (v:AV) (h':Hp),HC g w h->TR g w nt t a.tmps->f t h=.ok v h'->
  h'=h/\ ∃ x,(execOp a.eval o).run P w=.ok (.value x) w/\VR g w v x
section
variable {P:Program}{o:Oper}
theorem cK:cN P o cW:=by intro g w nt t h a v h' _ _ e;cases e
omit [Io] in
theorem xu{x:n9}{t:Tm}{h h':Hp}{v:AV}(e:qg x t h=.ok v h'):x t=some v/\h'=h:=by
 unfold qg at e
 cases hx:x t with
 |none=>rw[hx]at e;cases e
 |some u=>rw[hx]at e;cases e;exact⟨rfl,rfl⟩
theorem DZ{x:Operand}(ho:o.op=.move x∨o.op=.assign x):cN P o (qg (cy x)):=by
 intro g w nt t h a v h' H T e
 obtain⟨e2,rfl⟩:=xu e
 exact⟨rfl,a.eval x,by rcases ho with ho|ho<;>simp[execOp,ho],cC x _ _ _ _ _ _ T e2⟩
theorem O7{c x y:Operand}(ho:o.op=.pick c x y):cN P o (vk (cy c) (cy x) (cy y)):=by
 intro g w nt t h a v h' H T e
 unfold vk at e
 split at e
 ·rename_i b hc
  have hb:=cC c _ _ _ _ _ _ T hc
  simp only[VR]at hb
  cases b
  ·obtain⟨e2,rfl⟩:=xu e
   exact⟨rfl,a.eval y,by simp[execOp,ho,asBool,hb],cC y _ _ _ _ _ _ T e2⟩
  ·obtain⟨e2,rfl⟩:=xu e
   exact⟨rfl,a.eval x,by simp[execOp,ho,asBool,hb],cC x _ _ _ _ _ _ T e2⟩
 ·cases e
theorem pure_nil{x:Operand}(ho:o.op=.nilCheck x):cN P o (BM (cy x)):=by
 intro g w nt t h a v h' H T e
 unfold BM at e
 split at e
 ·rename_i i q hx
  have hv:=cC x _ _ _ _ _ _ T hx
  cases e
  have vA:=hv
  simp only[VR]at hv
  obtain⟨b,s,hm,hv⟩:=hv
  exact⟨rfl,a.eval x,by simp[execOp,ho,hv],vA⟩
 ·rename_i cs hx
  have hv:=cC x _ _ _ _ _ _ T hx
  cases e
  have vA:=hv
  simp only[VR]at hv
  obtain⟨b,q,vs,hv,_⟩:=hv
  exact⟨rfl,a.eval x,by simp[execOp,ho,hv],vA⟩
 ·rename_i f c hx
  have hv:=cC x _ _ _ _ _ _ T hx
  cases e
  have vA:=hv
  simp only[VR]at hv
  obtain⟨vs,hv,_⟩:=hv
  exact⟨rfl,a.eval x,by simp[execOp,ho,hv],vA⟩
 ·cases e
def mT(P:Program)(op:BinOp)(xT:TypeId)(f:AV->AV->Option AV):Prop:=
 ∀ (g:G) (w:World) (a b r:AV) (u v:Value),VR g w a u->VR g w b v->f a b=some r->
  ∃ z,(binOp op xT u v).run P w=.ok z w/\VR g w r z/\ ∀ x y,(eqGuard op xT x y u v).run P w=.ok () w
theorem Rf{op:BinOp}{xT yT:TypeId}{x y:Operand}{f:AV->AV->Option AV}(ho:o.op=.binOp op xT x y yT)(hf:mT P op xT f):
 cN P o (vz f (cy x) (cy y)):=by
 intro g w nt t h a v h' H T e
 unfold vz at e
 cases hx:cy x t with
 |none=>rw[hx]at e;cases e
 |some ax=>
  cases hy:cy y t with
  |none=>rw[hx,hy]at e;cases e
  |some ay=>
   rw[hx,hy]at e
   cases hr:f ax ay with
   |none=>simp only[hr]at e;cases e
   |some r=>
    simp only[hr]at e
    cases e
    obtain⟨z,hz,hv,hg⟩:=hf g w ax ay v _ _ (cC x _ _ _ _ _ _ T hx) (cC y _ _ _ _ _ _ T hy) hr
    exact⟨rfl,z,by simp[execOp,ho,hg,hz],hv⟩
omit [Io] in
theorem vK{op:BinOp}{xT:TypeId}{k k':IntKind}{m n:Int}{w:World}(x y:Operand):(eqGuard op xT x y (.int k m) (.int k' n)).run P w=.ok () w:=by
 unfold eqGuard;split<;>simp
omit [Io] in
theorem yh{op:BinOp}{xT:TypeId}{m n:Bool}{w:World}(x y:Operand):(eqGuard op xT x y (.bool m) (.bool n)).run P w=.ok () w:=by
 unfold eqGuard;split<;>simp
omit [Io] in
theorem vL{op:BinOp}{xT:TypeId}{m n:ByteArray}{w:World}(x y:Operand):(eqGuard op xT x y (.string m) (.string n)).run P w=.ok () w:=by
 unfold eqGuard;split<;>simp
omit [Io] in
theorem ng{op:BinOp}{xT:TypeId}{m n:Option Addr}{w:World}(x y:Operand):(eqGuard op xT x y (.pointer m) (.pointer n)).run P w=.ok () w:=by
 unfold eqGuard;split<;>simp
omit [Io] in
theorem xh{op:BinOp}{xT:TypeId}{m n:Option Addr}{a b c d:Nat}{w:World}(x y:Operand):(eqGuard op xT x y (.slice m a b) (.slice n c d)).run P w=.ok () w:=by
 unfold eqGuard;split<;>simp
omit [Io] in
theorem zD{f:IntKind->Int->Int->Option AV}{a b r:AV}(h:tE f a b=some r): ∃ k m n,a=.int k m/\b=.int k n/\f k m n=some r:=by
 unfold tE at h
 split at h
 ·rename_i k m k' n
  cases e:qp k k' with
  |false=>rw[e]at h;cases h
  |true=>
   rw[e]at h
   obtain rfl:=oc.1 e
   exact⟨k,m,n,rfl,rfl,h⟩
 ·cases h
theorem pS{op:BinOp}{xT:TypeId}{f:IntKind->Int->Int->Option AV}
 (hf: ∀ (g:G) (w:World) k m n r,f k m n=some r-> ∃ z,(binOp op xT (.int k m) (.int k n)).run P w=.ok z w/\VR g w r z):mT P op xT (tE f):=by
 intro g w a b r u v ha hb h
 obtain⟨k,m,n,rfl,rfl,h2⟩:=zD h
 simp only[VR]at ha hb
 subst ha;subst hb
 obtain⟨z,hz,hv⟩:=hf g w k m n r h2
 exact⟨z,hz,hv,fun x y=>vK x y⟩
theorem Xs(xT:TypeId):mT P .add xT adq:=pS fun g w k m n r h=>by
 cases h;exact⟨.int k (k.wrap (m+n)),by simp[binOp,Op.intArith],by simp only[VR,rM];rfl⟩
theorem Xt(xT:TypeId):mT P .sub xT adr:=pS fun g w k m n r h=>by
 cases h;exact⟨.int k (k.wrap (m - n)),by simp[binOp,Op.intArith],by simp only[VR,rM];rfl⟩
theorem Xu(xT:TypeId):mT P .mul xT ads:=pS fun g w k m n r h=>by
 cases h;exact⟨.int k (k.wrap (m*n)),by simp[binOp,Op.intArith],by simp only[VR,rM];rfl⟩
theorem Xv(xT:TypeId):mT P .quo xT Xi:=pS fun g w k m n r h=>by
 rw[zC]at h
 by_cases h0:n=0
 ·subst h0;cases h
 ·rw[show(n == 0)=false from by simpa using h0]at h
  cases h
  exact⟨.int k (k.wrap (m.tdiv n)),by simp[binOp,Op.intDiv,h0],by simp only[VR,rM]⟩
theorem Xw(xT:TypeId):mT P .rem xT Xj:=pS fun g w k m n r h=>by
 rw[zC]at h
 by_cases h0:n=0
 ·subst h0;cases h
 ·rw[show(n == 0)=false from by simpa using h0]at h
  cases h
  exact⟨.int k (m.tmod n),by simp[binOp,Op.intDiv,h0],by simp only[VR]⟩
omit [Io] in
theorem abW(m n:Int):(!decide (m<n))=decide (n<=m):=by by_cases h:m<n<;>simp[h]<;>omega
theorem Xx(xT:TypeId):mT P .lss xT adt:=pS fun g w k m n r h=>by
 cases h;exact⟨.bool (m<n),by simp[binOp,Op.intCmp],by simp only[VR,qe]⟩
theorem Xy(xT:TypeId):mT P .gtr xT adv:=pS fun g w k m n r h=>by
 cases h;exact⟨.bool (m>n),by simp[binOp,Op.intCmp],by simp only[VR,qe]⟩
theorem Xz(xT:TypeId):mT P .leq xT adu:=pS fun g w k m n r h=>by
 cases h;exact⟨.bool (m<=n),by simp[binOp,Op.intCmp],by simp only[VR,qe,abW]⟩
theorem XA(xT:TypeId):mT P .geq xT adw:=pS fun g w k m n r h=>by
 cases h;exact⟨.bool (m≥n),by simp[binOp,Op.intCmp],by simp only[VR,qe,abW]⟩
theorem XB(xT:TypeId):mT P .eql xT (Q6 false):=pS fun g w k m n r h=>by
 cases h;exact⟨.bool (m == n),by simp[binOp,Op.intCmp],by simp only[VR,zC];rfl⟩
theorem XC(xT:TypeId):mT P .neq xT (Q6 true):=pS fun g w k m n r h=>by
 cases h;exact⟨.bool (m != n),by simp[binOp,Op.intCmp],by simp only[VR,zC];rfl⟩
end
omit [Io] in
theorem vM{a:AV}(h:isNil a=true):a=.sc (.slice none 0 0):=by
 unfold isNil at h
 split at h
 ·rw[Bool.and_eq_true]at h
  rw[Nat.eq_of_beq_eq_true h.1,Nat.eq_of_beq_eq_true h.2]
 ·cases h
theorem BU{a:AV}(h:xq a=true){g:G}{w:World}{v:Value}(hv:VR g w a v): ∃ b,v=.slice b 0 0:=by
 unfold xq at h
 split at h
 ·simp only[VR]at hv
  obtain⟨b,rfl⟩:=hv
  exact⟨_,rfl⟩
 ·rw[vM h]at hv
  simp only[VR]at hv
  exact⟨none,hv.1⟩
theorem JP{a:AV}{g:G}{w:World}{v:Value}(hv:VR g w a v):VR g w (zt a) v:=by
 unfold zt
 cases h:xq a with
 |true=>
  simp only[cond_true,VR]
  exact BU h hv
 |false=>exact hv
omit [Io] in
theorem XD{x:n9}{t:Tm}{v:AV}(e:wO x t=some v): ∃ a,x t=some a/\v=zt a:=by
 unfold wO at e
 cases h:x t with
 |none=>rw[h]at e;cases e
 |some a=>rw[h]at e;cases e;exact⟨a,rfl,rfl⟩
theorem pT(x:Operand):abV x (wO (cy x)):=by
 intro g w nt t a v T e
 obtain⟨b,hb,rfl⟩:=XD e
 exact JP (cC x _ _ _ _ _ _ T hb)
theorem adC{a:AV}(h:W3 a=true){g:G}{w:World}{v:Value}(hv:VR g w a v): ∃ b c,v=.slice b 0 c:=by
 unfold W3 at h
 split at h
 ·simp only[VR]at hv
  obtain⟨b,rfl⟩:=hv
  exact⟨_,_,rfl⟩
 ·simp only[VR]at hv
  obtain⟨b,rfl⟩:=hv
  exact⟨_,_,rfl⟩
 ·obtain rfl:=Nat.eq_of_beq_eq_true h
  simp only[VR]at hv
  rcases hv with⟨_,b,rfl⟩|⟨b,s,cap,_,rfl,_⟩
  ·exact⟨_,_,rfl⟩
  ·exact⟨_,_,rfl⟩
 ·obtain rfl:=Nat.eq_of_beq_eq_true h
  simp only[VR]at hv
  obtain⟨b,cap,rfl,_⟩:=hv
  exact⟨_,_,rfl⟩
 ·rw[vM h]at hv
  simp only[VR]at hv
  exact⟨none,0,hv.1⟩
theorem MK{a:AV}{c:Bool}(h:ET a=some c){g:G}{w:World}{v:Value}(hv:VR g w a v): ∃ b n m,v=.slice b n m/\c=b.isNone:=by
 unfold ET at h
 cases hn:isNil a with
 |true=>
  rw[hn]at h
  cases h
  rw[vM hn]at hv
  simp only[VR]at hv
  exact⟨none,0,0,hv.1,rfl⟩
 |false=>
  rw[hn]at h
  simp only[cond_false]at h
  split at h
  ·cases h
   simp only[VR]at hv
   obtain⟨b,rfl⟩:=hv
   exact⟨_,_,_,rfl,rfl⟩
  ·cases h
   simp only[VR]at hv
   rcases hv with⟨_,b,rfl⟩|⟨b,s,cap,_,rfl,_⟩
   ·exact⟨_,_,_,rfl,rfl⟩
   ·exact⟨_,_,_,rfl,rfl⟩
  ·rename_i n cs
   cases h0:Nat.beq n 0 with
   |true=>rw[h0]at h;cases h
   |false=>
    rw[h0]at h
    cases h
    simp only[VR]at hv
    obtain⟨b,cap,rfl,_,⟨rfl,_⟩|⟨_,_,_,rfl,_⟩⟩:=hv
    ·cases h0
    ·exact⟨_,_,_,rfl,rfl⟩
  ·cases h
end Go.Ab

noncomputable section
namespace Go.Ab
variable [Io]
section
variable {P:Program}{o:Oper}
omit [Io] in
theorem sU{k:IntKind}{a:Nat}(h:a<lim k):(BitVec.ofInt k.bits (.ofNat a)).toNat=a:=by
 rw[show(Int.ofNat a)=((a:Nat):Int)from rfl,BitVec.ofInt_natCast,BitVec.toNat_ofNat]
 apply Nat.mod_eq_of_lt
 cases k<;>simp only[lim,IntKind.bits]at h ⊢ <;>omega
omit [Io] in
theorem Rg{k:IntKind}{a:Nat}(h:a<lim k):(a:Int)<2 ^ k.bits/\(k.signed=true->(a:Int)<2 ^ (k.bits - 1)):=by
 cases k<;>simp only[lim,IntKind.bits,IntKind.signed]at h ⊢ <;>constructor<;>first|omega|(intro _;omega)|(intro h;cases h)
omit [Io] in
theorem BV{k:IntKind}{a:Nat}(h:a<lim k):k.wrap ((a:Nat):Int)=(a:Int):=by
 obtain⟨h1,h2⟩:=Rg h
 have e:(a:Int) % (2 ^ k.bits:Int)=a:=Int.emod_eq_of_lt (by omega) h1
 unfold IntKind.wrap
 simp only[e]
 rw[if_neg]
 intro c
 simp only[Bool.and_eq_true,decide_eq_true_eq]at c
 have:=h2 c.1
 omega
omit [Io] in
theorem XE{k:IntKind}{a b:Nat}(h:a<lim k):a &&& b<lim k:=Nat.lt_of_le_of_lt Nat.and_le_left h
omit [Io] in
theorem ML(k:IntKind): ∃ n,lim k=2 ^ n:=by
 cases k with
 |i8=>exact⟨7,rfl⟩
 |i16=>exact⟨15,rfl⟩
 |i32=>exact⟨31,rfl⟩
 |i64=>exact⟨63,rfl⟩
 |u8=>exact⟨8,rfl⟩
 |u16=>exact⟨16,rfl⟩
 |u32=>exact⟨32,rfl⟩
 |u64=>exact⟨64,rfl⟩
omit [Io] in
theorem adD{k:IntKind}{a b:Nat}(h:a<lim k)(h2:b<lim k):a ||| b<lim k:=by
 obtain⟨n,e⟩:=ML k
 rw[e]at h h2 ⊢
 exact Nat.or_lt_two_pow h h2
omit [Io] in
theorem XF{k:IntKind}{a b:Nat}(h:a<lim k)(h2:b<lim k):a ^^^ b<lim k:=by
 obtain⟨n,e⟩:=ML k
 rw[e]at h h2 ⊢
 exact Nat.xor_lt_two_pow h h2
theorem EZ{op:BinOp}{f:Nat->Nat->Nat}{xT:TypeId}(hop: ∀ k m n,binOp op xT (.int k m) (.int k n)=Op.intBits op k m n)
 (hf: ∀ (w:World) k a b,a<lim k->b<lim k->(Op.intBits op k (.ofNat a) (.ofNat b)).run P w=.ok (.int k (.ofNat (f a b))) w):mT P op xT (DV op f):=by
 refine pS fun g w k m n r h=>?_
 rw[hop]
 split at h
 ·rename_i a b
  cases e:(Nat.blt a (lim k)&&Nat.blt b (lim k))with
  |true=>
   rw[e]at h
   cases h
   simp[Nat.blt_eq]at e
   exact⟨_,hf w k a b e.1 e.2,by simp only[VR]⟩
  |false=>
   rw[e]at h
   obtain⟨z,hz,hv⟩:=yg h P g w
   exact⟨z,hz,hv⟩
 ·obtain⟨z,hz,hv⟩:=yg h P g w
  exact⟨z,hz,hv⟩
theorem XG(xT:TypeId):mT P .and xT Xk:=EZ (fun k m n=>by simp[binOp]) (fun w k a b ha hb=>by
 have e:k.wrap (((a &&& b:Nat):Int))=((a &&& b:Nat):Int):=BV (XE ha)
 simp only[Op.intBits,Sem.run_pure,BitVec.toNat_and,sU ha,sU hb,e]
 rfl)
theorem adF(xT:TypeId):mT P .or xT bOr:=EZ (fun k m n=>by simp[binOp]) (fun w k a b ha hb=>by
 have e:k.wrap (((a ||| b:Nat):Int))=((a ||| b:Nat):Int):=BV (adD ha hb)
 simp only[Op.intBits,Sem.run_pure,BitVec.toNat_or,sU ha,sU hb,e]
 rfl)
theorem XH(xT:TypeId):mT P .xor xT Xl:=EZ (fun k m n=>by simp[binOp]) (fun w k a b ha hb=>by
 have e:k.wrap (((a ^^^ b:Nat):Int))=((a ^^^ b:Nat):Int):=BV (XF ha hb)
 simp only[Op.intBits,Sem.run_pure,BitVec.toNat_xor,sU ha,sU hb,e]
 rfl)
theorem JQ(xT:TypeId):mT P .andNot xT sI:=pS fun g w k m n r h=>by
 rw[show binOp .andNot xT (.int k m) (.int k n)=Op.intBits .andNot k m n from by simp[binOp]]
 exact yg h P g w
theorem XI(xT:TypeId):mT P .shl xT JI:=by
 intro g w a b r u v ha hb h
 unfold JI at h
 split at h
 ·rename_i k m k' n
  simp only[VR]at ha hb
  subst ha;subst hb
  cases h
  refine⟨.int k (k.wrap (m*2 ^ min n k.bits)),by
   have: ¬ ((n:Nat):Int)<0:=by omega
   show(binOp .shl xT (.int k m) (.int k' ((n:Nat):Int))).run P w=_
   simp[binOp,Op.shift,this],?_,fun x y=>vK x y⟩
  simp only[VR,rM,yf,GV]
  rfl
 ·cases h
theorem XJ(xT:TypeId):mT P .shr xT JJ:=by
 intro g w a b r u v ha hb h
 unfold JJ at h
 split at h
 ·rename_i k m k' n
  simp only[VR]at ha hb
  subst ha;subst hb
  cases h
  refine⟨.int k (m.fdiv (2 ^ min n k.bits)),by
   have: ¬ ((n:Nat):Int)<0:=by omega
   show(binOp .shr xT (.int k m) (.int k' ((n:Nat):Int))).run P w=_
   simp[binOp,Op.shift,this],?_,fun x y=>vK x y⟩
  simp only[VR,yf,GV]
  rfl
 ·cases h
omit [Io] in
theorem wD{xT:TypeId}{w:World}{x y:Value}{b:Bool}(h: ∀ d,(Op.equalIn (d+1) xT x y).run P w=.ok b w):(Op.equal xT x y).run P w=.ok b w:=h 9999
omit [Io] in
theorem BW{xT:TypeId}{w:World}(a b:Bool)(h:P.underlying xT=some .bool):(Op.equal xT (.bool a) (.bool b)).run P w=.ok (a == b) w:=
 wD fun d=>by simp[Op.equalIn,run_underlying h]
omit [Io] in
theorem Rh{xT:TypeId}{w:World}(a b:Bool)(h:P.underlying xT=some .bool):(binOp .eql xT (.bool a) (.bool b)).run P w=.ok (.bool (a == b)) w:=by
 show(do pure (.bool (<-Op.equal xT (.bool a) (.bool b))):Sem Value).run P w=_
 simp[BW a b h]
omit [Io] in
theorem Ri{xT:TypeId}{w:World}(a b:Bool)(h:P.underlying xT=some .bool):(binOp .neq xT (.bool a) (.bool b)).run P w=.ok (.bool (!(a == b))) w:=by
 show(do pure (.bool (!(<-Op.equal xT (.bool a) (.bool b)))):Sem Value).run P w=_
 simp only[Sem.run_bind,BW a b h,Result.andThen_ok,Sem.run_pure]
theorem XK{xT:TypeId}(hT:P.underlying xT=some .bool):mT P .eql xT (EU false):=by
 intro g w a b r u v ha hb h
 unfold EU at h
 split at h
 ·rename_i m n
  simp only[VR]at ha hb
  subst ha;subst hb
  cases h
  exact⟨_,Rh m n hT,by simp only[VR];cases m<;>cases n<;>rfl,fun x y=>yh x y⟩
 ·cases h
theorem XL{xT:TypeId}(hT:P.underlying xT=some .bool):mT P .neq xT (EU true):=by
 intro g w a b r u v ha hb h
 unfold EU at h
 split at h
 ·rename_i m n
  simp only[VR]at ha hb
  subst ha;subst hb
  cases h
  exact⟨_,Ri m n hT,by simp only[VR];cases m<;>cases n<;>rfl,fun x y=>yh x y⟩
 ·cases h
theorem XM(xT:TypeId):mT P .eql xT (BD false):=by
 intro g w a b r u v ha hb h
 unfold BD at h
 split at h
 ·rename_i m n
  simp only[VR]at ha hb
  obtain⟨rfl,_⟩:=ha;obtain⟨rfl,_⟩:=hb
  cases h
  exact⟨.bool (m.toList == n.toList),by simp[binOp,Op.stringOp],by simp only[VR];rfl,fun x y=>vL x y⟩
 ·cases h
theorem XN(xT:TypeId):mT P .neq xT (BD true):=by
 intro g w a b r u v ha hb h
 unfold BD at h
 split at h
 ·rename_i m n
  simp only[VR]at ha hb
  obtain⟨rfl,_⟩:=ha;obtain⟨rfl,_⟩:=hb
  cases h
  exact⟨.bool (!(m.toList == n.toList)),by simp[binOp,Op.stringOp],by simp only[VR];rfl,fun x y=>vL x y⟩
 ·cases h
omit [Io] in
theorem D0{xT e:TypeId}{w:World}(p:Option Addr)(h:P.underlying xT=some (.pointer e)):(Op.equal xT (.pointer p) (.pointer none)).run P w=.ok p.isNone w:=
 wD fun d=>by cases p<;>simp[Op.equalIn,run_underlying h]
omit [Io] in
theorem D2{xT e:TypeId}{w:World}(p:Option Addr)(h:P.underlying xT=some (.pointer e)):(Op.equal xT (.pointer none) (.pointer p)).run P w=.ok p.isNone w:=
 wD fun d=>by cases p<;>simp[Op.equalIn,run_underlying h]
omit [Io] in
theorem E5{xT e:TypeId}{w:World}(p:Option Addr)(h:P.underlying xT=some (.pointer e)):(binOp .eql xT (.pointer p) (.pointer none)).run P w=.ok (.bool p.isNone) w:=by
 show(do pure (.bool (<-Op.equal xT (.pointer p) (.pointer none))):Sem Value).run P w=_
 simp only[Sem.run_bind,D0 p h,Result.andThen_ok,Sem.run_pure]
omit [Io] in
theorem E6{xT e:TypeId}{w:World}(p:Option Addr)(h:P.underlying xT=some (.pointer e)):(binOp .neq xT (.pointer p) (.pointer none)).run P w=.ok (.bool (!p.isNone)) w:=by
 show(do pure (.bool (!(<-Op.equal xT (.pointer p) (.pointer none)))):Sem Value).run P w=_
 simp only[Sem.run_bind,D0 p h,Result.andThen_ok,Sem.run_pure]
omit [Io] in
theorem E7{xT e:TypeId}{w:World}(p:Option Addr)(h:P.underlying xT=some (.pointer e)):(binOp .eql xT (.pointer none) (.pointer p)).run P w=.ok (.bool p.isNone) w:=by
 cases p with
 |none=>exact E5 none h
 |some a=>
  show(do pure (.bool (<-Op.equal xT (.pointer none) (.pointer (some a)))):Sem Value).run P w=_
  simp only[Sem.run_bind,D2 (some a) h,Result.andThen_ok,Sem.run_pure]
omit [Io] in
theorem E8{xT e:TypeId}{w:World}(p:Option Addr)(h:P.underlying xT=some (.pointer e)):(binOp .neq xT (.pointer none) (.pointer p)).run P w=.ok (.bool (!p.isNone)) w:=by
 cases p with
 |none=>exact E6 none h
 |some a=>
  show(do pure (.bool (!(<-Op.equal xT (.pointer none) (.pointer (some a))))):Sem Value).run P w=_
  simp only[Sem.run_bind,D2 (some a) h,Result.andThen_ok,Sem.run_pure]
theorem XO{xT e:TypeId}(hT:P.underlying xT=some (.pointer e)):mT P .eql xT (Dm false):=by
 intro g w a b r u v ha hb h
 unfold Dm at h
 split at h<;>try (cases h;done)
 all_goals
  simp only[VR]at ha hb
  cases h
 ·obtain⟨_,_,_,rfl⟩:=ha;obtain⟨rfl,_⟩:=hb
  exact⟨_,E5 _ hT,by simp[VR],fun x y=>ng x y⟩
 ·obtain⟨_,_,_,rfl,_⟩:=ha;obtain⟨rfl,_⟩:=hb
  exact⟨_,E5 _ hT,by simp[VR],fun x y=>ng x y⟩
 ·obtain⟨rfl,_⟩:=ha;obtain⟨_,_,_,rfl⟩:=hb
  exact⟨_,E7 _ hT,by simp[VR],fun x y=>ng x y⟩
 ·obtain⟨rfl,_⟩:=ha;obtain⟨_,_,_,rfl,_⟩:=hb
  exact⟨_,E7 _ hT,by simp[VR],fun x y=>ng x y⟩
 ·obtain⟨rfl,_⟩:=ha;obtain⟨rfl,_⟩:=hb
  exact⟨_,E7 _ hT,by simp[VR],fun x y=>ng x y⟩
theorem XP{xT e:TypeId}(hT:P.underlying xT=some (.pointer e)):mT P .neq xT (Dm true):=by
 intro g w a b r u v ha hb h
 unfold Dm at h
 split at h<;>try (cases h;done)
 all_goals
  simp only[VR]at ha hb
  cases h
 ·obtain⟨_,_,_,rfl⟩:=ha;obtain⟨rfl,_⟩:=hb
  exact⟨_,E6 _ hT,by simp[VR],fun x y=>ng x y⟩
 ·obtain⟨_,_,_,rfl,_⟩:=ha;obtain⟨rfl,_⟩:=hb
  exact⟨_,E6 _ hT,by simp[VR],fun x y=>ng x y⟩
 ·obtain⟨rfl,_⟩:=ha;obtain⟨_,_,_,rfl⟩:=hb
  exact⟨_,E8 _ hT,by simp[VR],fun x y=>ng x y⟩
 ·obtain⟨rfl,_⟩:=ha;obtain⟨_,_,_,rfl,_⟩:=hb
  exact⟨_,E8 _ hT,by simp[VR],fun x y=>ng x y⟩
 ·obtain⟨rfl,_⟩:=ha;obtain⟨rfl,_⟩:=hb
  exact⟨_,E8 _ hT,by simp[VR],fun x y=>ng x y⟩
omit [Io] in
theorem BX{xT e:TypeId}{w:World}(p:Option Addr)(n m:Nat)(h:P.underlying xT=some (.slice e)):(Op.equal xT (.slice p n m) (.slice none 0 0)).run P w=.ok p.isNone w:=
 wD fun d=>by cases p<;>simp[Op.equalIn,run_underlying h]
theorem XQ{xT e:TypeId}(hT:P.underlying xT=some (.slice e)):mT P .eql xT (BE false):=by
 intro g w a b r u v ha hb h
 unfold BE at h
 cases hn:isNil b with
 |false=>rw[hn]at h;cases h
 |true=>
  rw[hn]at h
  simp only[cond_true]at h
  rw[vM hn]at hb
  simp only[VR]at hb
  obtain⟨rfl,_⟩:=hb
  cases hc:ET a with
  |none=>rw[hc]at h;cases h
  |some c=>
   rw[hc]at h
   cases h
   obtain⟨p,n,m,rfl,rfl⟩:=MK hc ha
   refine⟨.bool p.isNone,?_,by simp[VR],fun x y=>xh x y⟩
   show(do pure (.bool (<-Op.equal xT (.slice p n m) (.slice none 0 0))):Sem Value).run P w=_
   simp only[Sem.run_bind,BX p n m hT,Result.andThen_ok,Sem.run_pure]
theorem XR{xT e:TypeId}(hT:P.underlying xT=some (.slice e)):mT P .neq xT (BE true):=by
 intro g w a b r u v ha hb h
 unfold BE at h
 cases hn:isNil b with
 |false=>rw[hn]at h;cases h
 |true=>
  rw[hn]at h
  simp only[cond_true]at h
  rw[vM hn]at hb
  simp only[VR]at hb
  obtain⟨rfl,_⟩:=hb
  cases hc:ET a with
  |none=>rw[hc]at h;cases h
  |some c=>
   rw[hc]at h
   cases h
   obtain⟨p,n,m,rfl,rfl⟩:=MK hc ha
   refine⟨.bool (!p.isNone),?_,by simp[VR],fun x y=>xh x y⟩
   show(do pure (.bool (!(<-Op.equal xT (.slice p n m) (.slice none 0 0)))):Sem Value).run P w=_
   simp only[Sem.run_bind,BX p n m hT,Result.andThen_ok,Sem.run_pure]
omit [Io] in
theorem yi{f:AV->Option AV}{x:n9}{t:Tm}{h h':Hp}{v:AV}(e:GP f x t h=.ok v h'): ∃ b,x t=some b/\f b=some v/\h'=h:=by
 unfold GP at e
 cases hx:x t with
 |none=>rw[hx]at e;cases e
 |some u=>
  rw[hx]at e
  cases hr:f u with
  |none=>simp only[hr]at e;cases e
  |some r=>simp only[hr]at e;cases e;exact⟨u,rfl,hr,rfl⟩
theorem Rj{T:TypeId}{x:Operand}(ho:o.op=.unOp .not T x):cN P o (GP O2 (cy x)):=by
 intro g w nt t h a v h' H Tr e
 obtain⟨b,hb,hf,rfl⟩:=yi e
 have hv:=cC x _ _ _ _ _ _ Tr hb
 unfold O2 at hf
 split at hf
 ·rename_i b
  cases hf
  simp only[VR]at hv
  exact⟨rfl,.bool (!b),by simp[execOp,ho,hv,Op.unary],by simp only[VR]⟩
 ·cases hf
omit [Io] in
theorem Rk(k:IntKind)(n:Int):loK k<=oZ k n/\oZ k n<=hiK k:=by
 cases k<;>simp only[loK,hiK,oZ]<;>
  first
   |(show _<=n % _/\n % _<=_;omega)
   |(show _<=(n+_) % _ - _/\(n+_) % _ - _<=_;omega)
theorem Rl{g:G}{w:World}{x:AV}{v:Value}{k:IntKind}{s:SV}{o l u:Int}(h:atS x=some (k,s,o,l,u))(hx:VR g w x v):
 v=.int k (pJ s+o)/\l<=pJ s+o/\pJ s+o<=u:=by
 unfold atS at h
 split at h
 ·cases h
  simp only[VR]at hx
  subst hx
  simp only[pJ,Int.add_zero]
  exact⟨trivial,Int.le_refl _,Int.le_refl _⟩
 ·rename_i k' s' lo hi o'
  cases h
  simp only[VR]at hx
  obtain⟨rfl,h1,h2⟩:=hx
  exact⟨rfl,by show lo+o<=_;omega,by show _<=hi+o;omega⟩
 ·cases h
theorem ahZ{g:G}{w:World}{f:Nat}{k k':IntKind}{m r:Int}{x v:AV}(h:t1 f k x=some v)(hx:VR g w x (.int k' m))(hf:opF f k m 0=some (.int k r))(h1:loK k<=r)(h2:r<=hiK k):
 VR g w v (.int k r):=by
 unfold t1 at h
 split at h
 ·rename_i kk s o l u hs
  cases h
  obtain⟨e,_,_⟩:=Rl hs hx
  obtain⟨_,e⟩:=Value.int.inj e
  have e2:pJ (.tm f k kk s o (.con 0) 0)=r:=by
   show tmF f k (pJ s+o) (0+0)=r
   rw[<-e]
   unfold tmF
   rw[show(0:Int)+0=0 from rfl,hf]
  simp only[VR]
  rw[e2]
  exact⟨by rw[Int.add_zero],h1,h2⟩
 ·cases h
theorem Rm{T:TypeId}{x:Operand}(ho:o.op=.unOp .neg T x):cN P o (GP O3 (cy x)):=by
 intro g w nt t h a v h' H Tr e
 obtain⟨b,hb,hf,rfl⟩:=yi e
 have hv:=cC x _ _ _ _ _ _ Tr hb
 unfold O3 at hf
 cases hr:MF b with
 |some r=>
  rw[hr]at hf
  cases hf
  unfold MF at hr
  split at hr
  ·rename_i k n
   cases hr
   simp only[VR]at hv
   exact⟨rfl,.int k (k.wrap (0 - n)),by simp[execOp,ho,hv,Op.unary,Op.intArith],by simp only[VR,rM];rfl⟩
  ·cases hr
 |none=>
  rw[hr]at hf
  change (match atS b with|some (k,_,_,_,_)=>t1 10 k b|none=>none)=some v at hf
  split at hf
  ·rename_i k s o' l u hs
   obtain⟨e1,_,_⟩:=Rl hs hv
   rw[e1]at hv
   have hw:=Rk k (0 - (pJ s+o'))
   refine⟨rfl,.int k (k.wrap (0 - (pJ s+o'))),by simp[execOp,ho,e1,Op.unary,Op.intArith],?_⟩
   rw[<-rM]
   exact ahZ hf hv rfl hw.1 hw.2
  ·cases hf
theorem Rp{T:TypeId}{x:Operand}(ho:o.op=.unOp .xor T x):cN P o (GP GO (cy x)):=by
 intro g w nt t h a v h' H Tr e
 obtain⟨b,hb,hf,rfl⟩:=yi e
 have hv:=cC x _ _ _ _ _ _ Tr hb
 unfold GO at hf
 split at hf
 ·rename_i k n
  simp only[VR]at hv
  obtain⟨z,hz,hr⟩:=yg hf P g w
  exact⟨rfl,z,by simp[execOp,ho,hv,hz],hr⟩
 ·cases hf
theorem XS{f:FuncId}{caps:Array Operand}(ho:o.op=.makeFunc (.func f) #[] caps):cN P o (JM f (caps.toList.map cy)):=by
 intro g w nt t h a v h' H T e
 unfold JM at e
 split at e
 ·rename_i vs nP
  cases e
  refine⟨rfl,.func (.func f) #[] (caps.map a.eval),by simp[execOp,ho,Instr.makeFunc],?_⟩
  simp only[VR]
  exact⟨_,rfl,by simpa using A8 T caps.toList nP⟩
 ·cases e
theorem E9{x:Operand}{i:Nat}(ho:o.op=.extract x i):cN P o (pI (cy x) i):=by
 intro g w nt t h a v h' H T e
 unfold pI at e
 split at e
 ·rename_i vs hx
  have hv:=cC x _ _ _ _ _ _ T hx
  simp only[VR]at hv
  obtain⟨us,hu,hr⟩:=hv
  split at e
  ·rename_i r hg
   cases e
   rw[pn]at hg
   obtain⟨z,hz,MM⟩:=cH.get hr i _ hg
   exact⟨rfl,z,by simp[execOp,ho,Instr.extract,hu,by simpa using hz],MM⟩
  ·cases e
 ·cases e
theorem O8{x:Operand}{T:TypeId}(ho:o.op=.call {callee:=.builtin .len,args:= #[x],argTypes:= #[T]})(hT:P.underlying T=some .string):
 cN P o (vm (cy x)):=by
 intro g w nt t h a v h' H Tr e
 unfold vm at e
 split at e
 ·rename_i s hx
  have hv:=cC x _ _ _ _ _ _ Tr hx
  simp only[VR]at hv
  cases e
  exact⟨rfl,.int .i64 s.size,by simp[execOp,ho,resolve,invoke,builtin,Builtin.len_,hv.1,run_underlying hT,goInt],by simp only[VR];rfl⟩
 ·cases e
theorem O9{x:Operand}{T e:TypeId}{n:Nat}(ho:o.op=.call {callee:=.builtin .len,args:= #[x],argTypes:= #[T]})(hT:P.underlying T=some (.array n e)):
 cN P o (qg (oC (.int .i64 (.ofNat n)))):=by
 intro g w nt t h a v h' H Tr e
 cases e
 exact⟨rfl,.int .i64 n,by simp[execOp,ho,resolve,invoke,builtin,Builtin.len_,run_underlying hT,goInt],by simp only[VR];rfl⟩
theorem Rq{x:Operand}{T e:TypeId}(ho:o.op=.call {callee:=.builtin .len,args:= #[x],argTypes:= #[T]})(hT:P.underlying T=some (.slice e)):
 cN P o (BP (wO (cy x))):=by
 intro g w nt t h a v h' H Tr e
 have sl: ∀ b n c,a.eval x=.slice b n c->(execOp a.eval o).run P w=.ok (.value (.int .i64 n)) w:=by
  intro b n c hx
  simp[execOp,ho,resolve,invoke,builtin,Builtin.len_,hx,run_underlying hT,goInt]
 unfold BP at e
 split at e
 ·rename_i id off n sz hx
  have hv:=pT x _ _ _ _ _ _ Tr hx
  simp only[VR]at hv
  cases e
  rcases hv with⟨rfl,b,hv⟩|⟨b,s,cap,_,hv,_⟩
  ·exact⟨rfl,_,sl _ _ _ hv,by simp only[VR];rfl⟩
  ·exact⟨rfl,_,sl _ _ _ hv,by simp only[VR];rfl⟩
 ·rename_i n cs hx
  have hv:=pT x _ _ _ _ _ _ Tr hx
  simp only[VR]at hv
  cases e
  obtain⟨b,cap,hv,_⟩:=hv
  exact⟨rfl,_,sl _ _ _ hv,by simp only[VR];rfl⟩
 ·rename_i hx
  have hv:=pT x _ _ _ _ _ _ Tr hx
  simp only[VR]at hv
  cases e
  obtain⟨b,hv⟩:=hv
  exact⟨rfl,_,sl _ _ _ hv,by simp only[VR];rfl⟩
 ·cases e
theorem Ru{x:Operand}{T e:TypeId}(ho:o.op=.call {callee:=.builtin .cap,args:= #[x],argTypes:= #[T]})(hT:P.underlying T=some (.slice e)):
 cN P o (BO (wO (cy x))):=by
 intro g w nt t h a v h' H Tr e
 unfold BO at e
 split at e
 ·rename_i hx
  have hv:=pT x _ _ _ _ _ _ Tr hx
  simp only[VR]at hv
  cases e
  obtain⟨b,hv⟩:=hv
  exact⟨rfl,.int .i64 0,by simp[execOp,ho,resolve,invoke,builtin,Builtin.cap_,hv,run_underlying hT,goInt],by simp only[VR]⟩
 ·cases e
end
end Go.Ab

noncomputable section
namespace Go.Ab
variable [Io]
section
variable {P:Program}{o:Oper}
omit [Io] in
theorem pK(b o n:Nat):(⟨b,o,none⟩:Addr).add n=⟨b,o+n,none⟩:=by unfold Addr.add;split<;>simp_all
def qT:TypeDesc->Bool
 | .struct _| .array _ _=>true
 | _=>false
omit [Io] in
theorem ux{T:TypeId}{d:TypeDesc}{w:World}(h:P.underlying T=some d):(isAgg T).run P w=.ok (qT d) w:=by
 unfold isAgg
 simp only[Sem.run_bind,run_underlying h,Result.andThen_ok]
 cases d<;>rfl
omit [Io] in
theorem D3{agg:Bool}{cs:List AV}{off size:Nat}{v:AV}(h:part agg cs off size=some v):
 ((cs.drop off).take size).length=size/\((agg=true/\v=.agg ((cs.drop off).take size))∨(agg=false/\(cs.drop off).take size=[v])):=by
 unfold part at h
 split at h
 ·cases h
 ·rename_i l e
  obtain⟨rfl,hl⟩:=sJ e
  cases agg with
  |true=>cases h;exact⟨hl,.inl ⟨rfl,rfl⟩⟩
  |false=>
   change (match(cs.drop off).take size with| [c]=>some c| _=>none)=some v at h
   split at h
   ·rename_i c e2
    cases h
    exact⟨hl,.inr ⟨rfl,e2⟩⟩
   ·cases h
theorem tO{T:TypeId}{d:TypeDesc}{i:TypeInfo}{g:G}{w:World}{cs:List AV}{vs:List Value}{b s off:Nat}{v:AV}
 (hd:P.underlying T=some d)(hi:P.info? T=some i)(hv:cH g w cs vs)(hc:nF w b s vs)(h:part (qT d) cs off i.size=some v):
 ∃ x,(loadVar T ⟨b,s+off,none⟩).run P w=.ok x w/\VR g w v x:=by
 obtain⟨hl,h⟩:=D3 h
 have nP:cH g w ((cs.drop off).take i.size) ((vs.drop off).take i.size):=(hv.drop off).take _
 have rj:nF w b (s+off) ((vs.drop off).take i.size):=(hc.drop off).take _
 have hlen:((vs.drop off).take i.size).length=i.size:=by rw[nP.length,hl]
 have uO:(sizeOf T).run P w=.ok i.size w:=by simp[sizeOf,typeInfo,hi]
 rcases h with⟨ha,rfl⟩|⟨ha,h⟩
 ·have hr:=run_loadCells_list (P:=P) w ⟨b,s+off,none⟩ ((vs.drop off).take i.size) (fun j v e=>by rw[pK];exact rj j v e)
  rw[hlen]at hr
  refine⟨.agg ((vs.drop off).take i.size).toArray,?_,?_⟩
  ·unfold loadVar
   simp only[Sem.run_bind,ux hd,ha,Result.andThen_ok,if_true,uO,hr,Sem.run_pure]
  ·simp only[VR]
   exact⟨_,rfl,by simpa using nP⟩
 ·rw[h]at nP
  simp only[cH]at nP
  obtain⟨x,l',e,hx,rfl⟩:=nP
  have:=rj 0 x (by rw[e];rfl)
  refine⟨x,?_,hx⟩
  unfold loadVar
  simp only[Sem.run_bind,ux hd,ha,Result.andThen_ok]
  simp only[Nat.add_zero]at this
  simp[run_load,this]
theorem O'{T:TypeId}{d:TypeDesc}{i:TypeInfo}{x:Operand}(ho:o.op=.load T x)(hd:P.underlying T=some d)(hi:P.info? T=some i):
 cN P o (rL i.size (qT d) (cy x)):=by
 intro g w nt t h a v h' H Tr e
 unfold rL at e
 split at e
 ·rename_i av hx
  split at e
  ·rename_i r hr
   cases e
   have hv:=cC x _ _ _ _ _ _ Tr hx
   unfold BK at hr
   split at hr
   ·rename_i id off
    split at hr
    ·rename_i cs hg
     simp only[VR]at hv
     obtain⟨b,s,hm,hv⟩:=hv
     obtain⟨C,el,vs,hw,_,nP,hc⟩:=H.row hg hm
     obtain⟨z,hz,hr⟩:=tO hd hi nP (pf hw hc) (BR hr)
     exact⟨rfl,z,by simp[execOp,ho,Instr.loadAt,Instr.sureAddr,hv,hz],hr⟩
    ·cases hr
   ·rename_i cs
    simp only[VR]at hv
    obtain⟨b,s,vs,hv,_,hc,nP⟩:=hv
    obtain⟨z,hz,hr⟩:=tO hd hi nP hc hr
    rw[Nat.add_zero]at hz
    exact⟨rfl,z,by simp[execOp,ho,Instr.loadAt,Instr.sureAddr,hv,hz],hr⟩
   ·cases hr
  ·cases e
 ·cases e
theorem VR.zE{g w cs b s vs}(i:g.nQ b)(hc:nF w b s vs)(hv:cH g w cs vs)(n:Nat):
 VR g w (.py (cs.drop n)) (.pointer (some ⟨b,s+n,none⟩)):=by
 simp only[VR]
 exact⟨b,s+n,vs.drop n,rfl,i,hc.drop n,hv.drop n⟩
theorem BZ{T:TypeId}{fs:Array Field}{n:Nat}{f:Field}{i:TypeInfo}{x:Operand}(ho:o.op=.fieldAddr T x n)
 (hd:P.underlying T=some (.struct fs))(hf:fs[n]? =some f)(hi:P.info? f.type=some i)(h0:i.size≠0):cN P o (nD f.offset (cy x)):=by
 intro g w nt t h a v h' H Tr e
 have rz: ∀ b s,a.eval x=.pointer (some ⟨b,s,none⟩)->(execOp a.eval o).run P w=.ok (.value (.pointer (some ⟨b,s+f.offset,none⟩))) w:=by
  intro b s hx
  simp[execOp,ho,hx,Instr.fieldAt,run_underlying hd,hf,Instr.sureAddr,fieldPlace,sizeOf,typeInfo,hi,h0,pK]
 unfold nD at e
 split at e
 ·rename_i id off hx
  have hv:=cC x _ _ _ _ _ _ Tr hx
  cases e
  simp only[VR]at hv
  obtain⟨b,s,hm,hv⟩:=hv
  refine⟨rfl,_,rz _ _ hv,?_⟩
  simp only[VR]
  exact⟨b,s,hm,by rw[Nat.add_assoc];rfl⟩
 ·rename_i cs hx
  have hv:=cC x _ _ _ _ _ _ Tr hx
  cases e
  simp only[VR]at hv
  obtain⟨b,s,vs,hv,hi,hc,nP⟩:=hv
  refine⟨rfl,_,rz _ _ hv,?_⟩
  rw[qR]
  exact VR.zE hi hc nP _
 ·cases e
theorem GW{T:TypeId}{d:TypeDesc}{i:TypeInfo}{g:G}{w:World}{cs:List AV}{vs:Array Value}{off:Nat}{v:AV}
 (hd:P.underlying T=some d)(hi:P.info? T=some i)(hv:cH g w cs vs.toList)(h:part (qT d) cs off i.size=some v):
 ∃ x,(Go.part T vs off).run P w=.ok x w/\VR g w v x:=by
 obtain⟨hl,h⟩:=D3 h
 have nP:cH g w ((cs.drop off).take i.size) ((vs.toList.drop off).take i.size):=(hv.drop off).take _
 have uO:(sizeOf T).run P w=.ok i.size w:=by simp[sizeOf,typeInfo,hi]
 rcases h with⟨ha,rfl⟩|⟨ha,h⟩
 ·refine⟨.agg (vs.extract off (off+i.size)),?_,?_⟩
  ·unfold Go.part
   simp only[Sem.run_bind,ux hd,ha,Result.andThen_ok,if_true,uO,Sem.run_pure]
  ·simp only[VR]
   refine⟨_,rfl,?_⟩
   have:(vs.extract off (off+i.size)).toList=(vs.toList.drop off).take i.size:=by
    rw[Array.toList_extract]
    simp[List.extract]
   rw[this];exact nP
 ·rw[h]at nP
  simp only[cH]at nP
  obtain⟨x,l',e,hx,rfl⟩:=nP
  have hx0:vs[off]? =some x:=by
   have:((vs.toList.drop off).take i.size)[0]? =some x:=by rw[e];rfl
   rw[List.getElem?_take]at this
   split at this
   ·simpa using this
   ·cases this
  refine⟨x,?_,hx⟩
  unfold Go.part
  simp only[Sem.run_bind,ux hd,ha,Result.andThen_ok]
  simp[hx0]
theorem JR{T:TypeId}{fs:Array Field}{n:Nat}{f:Field}{d:TypeDesc}{i:TypeInfo}{x:Operand}(ho:o.op=.field T x n)
 (hd:P.underlying T=some (.struct fs))(hf:fs[n]? =some f)(MN:P.underlying f.type=some d)(hi:P.info? f.type=some i):
 cN P o (uc f.offset i.size (qT d) (cy x)):=by
 intro g w nt t h a v h' H Tr e
 unfold uc at e
 split at e
 ·rename_i cs hx
  split at e
  ·rename_i r hr
   cases e
   have hv:=cC x _ _ _ _ _ _ Tr hx
   simp only[VR]at hv
   obtain⟨vs,hv,nP⟩:=hv
   obtain⟨z,hz,hr⟩:=GW MN hi nP hr
   exact⟨rfl,z,by simp[execOp,ho,hv,Instr.field,run_underlying hd,hf,asAgg,hz],hr⟩
  ·cases e
 ·cases e
omit [Io] in
theorem cM{a b:Nat}:Nat.blt a b=true↔a<b:=by simp[Nat.blt_eq]
theorem Rv{T e:TypeId}{i:TypeInfo}{x y:Operand}(ho:o.op=.indexAddr T x y)(hd:P.underlying T=some (.slice e))(hi:P.info? e=some i):
 cN P o (xY i.size (cy x) (cy y)):=by
 intro g w nt t h a v h' H Tr e
 have rz: ∀ b s n c k (j:Nat),a.eval x=.slice (some ⟨b,s,none⟩) n c->a.eval y=.int k j->j<n->
  (execOp a.eval o).run P w=.ok (.value (.pointer (some ⟨b,s+j*i.size,none⟩))) w:=by
  intro b s n c k j hx hy hj
  have hn: ¬ n<=j:=by omega
  simp[execOp,ho,hx,hy,Instr.indexAt,run_underlying hd,asIntOf,hn,sizeOf,typeInfo,hi,pK]
 unfold xY at e
 split at e
 ·rename_i k j hy
  have A9:=cC y _ _ _ _ _ _ Tr hy
  simp only[VR]at A9
  split at e
  ·rename_i id off n sz hx
   have hv:=cC x _ _ _ _ _ _ Tr hx
   cases hb:(Nat.blt j n&&Nat.beq sz i.size)with
   |false=>rw[hb]at e;cases e
   |true=>
    rw[hb]at e
    cases e
    simp only[Bool.and_eq_true]at hb
    have hj:=cM.1 hb.1
    obtain rfl:=Nat.eq_of_beq_eq_true hb.2
    simp only[VR]at hv
    rcases hv with⟨h0,_⟩|⟨b,s,cap,hm,hv,_,_⟩
    ·omega
    ·refine⟨rfl,_,rz _ _ _ _ _ _ hv A9 hj,?_⟩
     simp only[VR]
     exact⟨b,s,hm,by rw[Nat.add_assoc];rfl⟩
  ·rename_i n cs hx
   have hv:=cC x _ _ _ _ _ _ Tr hx
   cases hb:Nat.blt j n with
   |false=>rw[hb]at e;cases e
   |true=>
    rw[hb]at e
    cases e
    have hj:=cM.1 hb
    simp only[VR]at hv
    obtain⟨q,c,hv,hc,hr⟩:=hv
    rcases hr with⟨h0,_⟩|⟨b,s,vs,rfl,vw,rj,nP⟩
    ·omega
    ·refine⟨rfl,_,rz _ _ _ _ _ _ hv A9 hj,?_⟩
     rw[qR]
     exact VR.zE vw rj nP _
  ·cases e
 ·cases e
theorem Ry{T e:TypeId}{n:Nat}{i:TypeInfo}{x y:Operand}(ho:o.op=.indexAddr T x y)(hd:P.underlying T=some (.array n e))(hi:P.info? e=some i):
 cN P o (w4 n i.size (cy x) (cy y)):=by
 intro g w nt t h a v h' H Tr e
 have rz: ∀ b s k (j:Nat),a.eval x=.pointer (some ⟨b,s,none⟩)->a.eval y=.int k j->j<n->
  (execOp a.eval o).run P w=.ok (.value (.pointer (some ⟨b,s+j*i.size,none⟩))) w:=by
  intro b s k j hx hy hj
  have hn: ¬ n<=j:=by omega
  simp[execOp,ho,hx,hy,Instr.indexAt,Instr.sureAddr,run_underlying hd,asIntOf,hn,sizeOf,typeInfo,hi,pK]
 unfold w4 at e
 split at e
 ·rename_i k j hy
  have A9:=cC y _ _ _ _ _ _ Tr hy
  simp only[VR]at A9
  split at e
  ·rename_i id off hx
   have hv:=cC x _ _ _ _ _ _ Tr hx
   cases hb:Nat.blt j n with
   |false=>rw[hb]at e;cases e
   |true=>
    rw[hb]at e
    cases e
    simp only[VR]at hv
    obtain⟨b,s,hm,hv⟩:=hv
    refine⟨rfl,_,rz _ _ _ _ hv A9 (cM.1 hb),?_⟩
    simp only[VR]
    exact⟨b,s,hm,by rw[Nat.add_assoc];rfl⟩
  ·rename_i cs hx
   have hv:=cC x _ _ _ _ _ _ Tr hx
   cases hb:Nat.blt j n with
   |false=>rw[hb]at e;cases e
   |true=>
    rw[hb]at e
    cases e
    simp only[VR]at hv
    obtain⟨b,s,vs,hv,vw,hc,nP⟩:=hv
    refine⟨rfl,_,rz _ _ _ _ hv A9 (cM.1 hb),?_⟩
    rw[qR]
    exact VR.zE vw hc nP _
  ·cases e
 ·cases e
theorem JS{T e:TypeId}{n:Nat}{d:TypeDesc}{i:TypeInfo}{x y:Operand}(ho:o.op=.index T x y)(hd:P.underlying T=some (.array n e))
 (MN:P.underlying e=some d)(hi:P.info? e=some i):cN P o (sf n i.size (qT d) (cy x) (cy y)):=by
 intro g w nt t h a v h' H Tr e
 unfold sf at e
 split at e
 ·rename_i cs hx
  split at e
  ·rename_i k j hy
   have A9:=cC y _ _ _ _ _ _ Tr hy
   simp only[VR]at A9
   have hv:=cC x _ _ _ _ _ _ Tr hx
   simp only[VR]at hv
   obtain⟨vs,hv,nP⟩:=hv
   cases hb:Nat.blt j n with
   |false=>rw[hb]at e;cases e
   |true=>
    rw[hb]at e
    change (match part (qT d) cs (j*i.size) i.size with|some v=>Ro.ok v h|none=>.bad)=.ok v h' at e
    split at e
    ·rename_i r hr
     cases e
     obtain⟨z,hz,hr⟩:=GW MN hi nP hr
     have hn: ¬ n<=j:=by have:=cM.1 hb;omega
     have adG:a.eval y=.int k ((j:Nat):Int):=A9
     exact⟨rfl,z,by simp[execOp,ho,hv,adG,Instr.index,run_underlying hd,asIntOf,hn,sizeOf,typeInfo,hi,hz],hr⟩
    ·cases e
  ·cases e
 ·cases e
theorem GX{T:TypeId}{x y:Operand}(ho:o.op=.index T x y)(hd:P.underlying T=some .string):cN P o (qP (cy x) (cy y)):=by
 intro g w nt t h a v h' H Tr e
 unfold qP at e
 split at e
 ·rename_i s hx
  split at e
  ·rename_i k j hy
   have A9:=cC y _ _ _ _ _ _ Tr hy
   simp only[VR]at A9
   have adG:a.eval y=.int k ((j:Nat):Int):=A9
   have hv:=cC x _ _ _ _ _ _ Tr hx
   simp only[VR]at hv
   split at e
   ·rename_i b hb
    cases e
    rw[pn]at hb
    have D4:s[j]? =some b:=by
     have:s.data[j]? =some b:=by simpa using hb
     obtain⟨hj,e⟩:=Array.getElem?_eq_some_iff.1 this
     rw[getElem?_pos s j hj]
     exact congrArg some e
    exact⟨rfl,.int .u8 b.toNat,by simp[execOp,ho,hv.1,adG,Instr.index,run_underlying hd,asIntOf,D4],by simp only[VR]⟩
   ·cases e
  ·rename_i k sv lo hi o hy
   have A9:=cC y _ _ _ _ _ _ Tr hy
   simp only[VR]at A9
   obtain⟨A9,h1,h2⟩:=A9
   have hv:=cC x _ _ _ _ _ _ Tr hx
   simp only[VR]at hv
   cases hc:(!(r7 (Int.add lo o) 0)&&r7 (Int.add hi o) (.ofNat s.size))with
   |false=>rw[hc]at e;cases e
   |true=>
    rw[hc]at e
    cases e
    rw[qe,qe]at hc
    have h3:(0:Int)<=lo+o:=by
     have:Int.add lo o=lo+o:=rfl
     simp[this]at hc
     omega
    have h4:hi+o<(s.size:Int):=by
     have:Int.add hi o=hi+o:=rfl
     simp[this]at hc
     omega
    obtain⟨j,hj⟩: ∃ j:Nat,pJ sv+o=(j:Int):=⟨(pJ sv+o).toNat,by omega⟩
    have hjs:j<s.size:=by omega
    rw[hj]at A9
    have D4:s[j]? =some s[j]:=getElem?_pos s j hjs
    refine⟨rfl,.int .u8 (s[j]).toNat,by simp[execOp,ho,hv.1,A9,Instr.index,run_underlying hd,asIntOf,D4],?_⟩
    have MN:(s.data.toList.map UInt8.toNat).getD j 0=(s[j]).toNat:=by
     have hjd:j<s.data.size:=hjs
     have e1:(s.data.toList.map UInt8.toNat)[j]? =some (s[j]).toNat:=by
      rw[List.getElem?_map,Array.getElem?_toList,getElem?_pos s.data j hjd]
      rfl
     rw[List.getD,e1]
     rfl
    have oI:(s[j]).toNat<256:=UInt8.toNat_lt _
    simp only[VR,pJ]
    rw[hj,Int.toNat_natCast,MN]
    exact⟨by rw[Int.add_zero],by omega,by omega⟩
  ·cases e
 ·cases e
theorem Ap{x:Option Operand}{t:Tm}{d n:Nat}{g w nt}{a:Act}(T:TR g w nt t a.tmps)(h:ua (x.map cy) t d=some n):
 (x=none/\n=d)∨ ∃ y k,x=some y/\a.eval y=.int k ((n:Nat):Int):=by
 cases x with
 |none=>exact .inl ⟨rfl,by simpa[ua]using h.symm⟩
 |some y=>
  simp only[Option.map_some,ua]at h
  split at h
  ·rename_i k m hy
   cases h
   have hv:=cC y _ _ _ _ _ _ T hy
   simp only[VR]at hv
   exact .inr ⟨y,k,rfl,hv⟩
  ·cases h
theorem qF{lo hi:Option Operand}{t:Tm}{n l e:Nat}{g w nt}{a:Act}(T:TR g w nt t a.tmps)(h:bounds (lo.map cy) (hi.map cy) t n=some (l,e)):
 l<=e/\e<=n/\((lo=none/\l=0)∨ ∃ y k,lo=some y/\a.eval y=.int k ((l:Nat):Int))/\((hi=none/\e=n)∨ ∃ y k,hi=some y/\a.eval y=.int k ((e:Nat):Int)):=by
 unfold bounds at h
 split at h
 ·rename_i l' hl
  split at h
  ·rename_i e' he
   cases hb:(Nat.ble l' e'&&Nat.ble e' n)with
   |false=>rw[hb]at h;cases h
   |true=>
    rw[hb]at h
    cases h
    simp only[Bool.and_eq_true,Nat.ble_eq]at hb
    exact⟨hb.1,hb.2,Ap T hl,Ap T he⟩
  ·cases h
 ·cases h
omit [Io] in
theorem uT{w:World}{isS:Bool}{len cap l e:Nat}{lo hi:Option Value}(h1:l<=e)(h2:e<=cap)
 (GA:(lo=none/\l=0)∨ ∃ k,lo=some (.int k ((l:Nat):Int)))(hhi:(hi=none/\e=len)∨ ∃ k,hi=some (.int k ((e:Nat):Int))):
 (Instr.sliceBounds isS len cap lo hi none).run P w=.ok (l,e,cap) w:=by
 have b1: ¬ cap<e:=by omega
 have b2: ¬ e<l:=by omega
 rcases GA with⟨rfl,rfl⟩|⟨k,rfl⟩<;>rcases hhi with⟨rfl,rfl⟩|⟨k',rfl⟩<;>
  simp[Instr.sliceBounds,Instr.sliceBound,asIntOf,Nat.not_lt.1 b1,Nat.not_lt.1 b2]
omit [Io] in
theorem vN{a:Act}{lo:Option Operand}{l d:Nat}(h:(lo=none/\l=d)∨ ∃ y k,lo=some y/\a.eval y=.int k ((l:Nat):Int)):
 (lo.map a.eval=none/\l=d)∨ ∃ k,lo.map a.eval=some (.int k ((l:Nat):Int)):=by
 rcases h with⟨rfl,rfl⟩|⟨y,k,rfl,e⟩
 ·exact .inl ⟨rfl,rfl⟩
 ·exact .inr ⟨k,by simp[e]⟩
theorem GY{T:TypeId}{x:Operand}{lo hi:Option Operand}(ho:o.op=.slice T x lo hi none)(hd:P.underlying T=some .string):
 cN P o (qO (cy x) (lo.map cy) (hi.map cy)):=by
 intro g w nt t h a v h' H Tr e
 unfold qO at e
 split at e
 ·rename_i s hx
  have hv:=cC x _ _ _ _ _ _ Tr hx
  simp only[VR]at hv
  split at e
  ·rename_i l e' hb
   cases e
   obtain⟨h1,h2,h3,h4⟩:=qF Tr hb
   have hr:=uT (P:=P) (w:=w) (isS:=false) h1 h2 (vN h3) (vN h4)
   exact⟨rfl,.string (s.extract l e'),by simp[execOp,ho,hv.1,Instr.sliceAt,Instr.slice,run_underlying hd,hr],by simp[VR,Value.oneCell']⟩
  ·cases e
 ·cases e
theorem JT{T el:TypeId}{i:TypeInfo}{x:Operand}{lo hi:Option Operand}(ho:o.op=.slice T x lo hi none)(hd:P.underlying T=some (.slice el))(vw:P.info? el=some i):
 cN P o (ub i.size (cy x) (lo.map cy) (hi.map cy)):=by
 intro g w nt t h a v h' H Tr e
 have uO:(sizeOf el).run P w=.ok i.size w:=by simp[sizeOf,typeInfo,vw]
 have rz: ∀ b n c l u,a.eval x=.slice b n c->l<=u->u<=c->((lo=none/\l=0)∨ ∃ y k,lo=some y/\a.eval y=.int k ((l:Nat):Int))->
  ((hi=none/\u=n)∨ ∃ y k,hi=some y/\a.eval y=.int k ((u:Nat):Int))->
  (execOp a.eval o).run P w=.ok (.value (.slice (if c=l then b else b.map (·.add (l*i.size))) (u - l) (c - l))) w:=by
  intro b n c l u hx h1 h2 h3 h4
  have hr:=uT (P:=P) (w:=w) (isS:=true) h1 h2 (vN h3) (vN h4)
  simp[execOp,ho,hx,Instr.sliceAt,Instr.slice,run_underlying hd,hr,uO]
 unfold ub at e
 split at e
 ·rename_i hx
  have hv:=cC x _ _ _ _ _ _ Tr hx
  simp only[VR]at hv
  obtain⟨b,hv⟩:=hv
  split at e
  ·rename_i p hb
   obtain⟨l,u⟩:=p
   cases e
   obtain⟨h1,h2,h3,h4⟩:=qF Tr hb
   refine⟨rfl,_,rz _ _ _ _ _ hv h1 h2 h3 h4,?_⟩
   obtain rfl:l=0:=by omega
   obtain rfl:u=0:=by omega
   simp only[VR]
   exact⟨_,rfl⟩
  ·cases e
 ·rename_i id off n sz hx
  have hv:=cC x _ _ _ _ _ _ Tr hx
  simp only[VR]at hv
  split at e
  ·rename_i l u hb
   cases hz:Nat.beq sz i.size with
   |false=>rw[hz]at e;cases e
   |true=>
    rw[hz]at e
    cases e
    obtain rfl:=Nat.eq_of_beq_eq_true hz
    obtain⟨h1,h2,h3,h4⟩:=qF Tr hb
    rcases hv with⟨rfl,b,hv⟩|⟨b,s,cap,hm,hv,hc,hr⟩
    ·refine⟨rfl,_,rz _ _ _ _ _ hv h1 h2 h3 h4,?_⟩
     obtain rfl:l=0:=by omega
     obtain rfl:u=0:=by omega
     simp only[VR]
     exact .inl ⟨by first|trivial|rfl,b,by simp⟩
    ·refine⟨rfl,_,rz _ _ _ _ _ hv h1 (by omega) h3 h4,?_⟩
     simp only[VR]
     by_cases px:cap=l
     ·refine .inl ⟨by show u - l=0;omega,⟨b,s+off,none⟩,?_⟩
      rw[show u - l=0 by omega,show cap - l=0 by omega,if_pos px]
     ·refine .inr ⟨b,s,cap - l,hm,?_,by show u - l<=_;omega,?_⟩
      ·rw[if_neg px]
       simp only[Option.map_some,pK]
       congr 3
       show s+off+l*i.size=s+(off+l*i.size)
       omega
      ·show s+(off+l*i.size)+(cap - l)*i.size<=_
       have:(cap - l)*i.size+l*i.size=cap*i.size:=by rw[<-Nat.add_mul];congr 1;omega
       omega
  ·cases e
 ·rename_i n cs hx
  have hv:=cC x _ _ _ _ _ _ Tr hx
  simp only[VR]at hv
  obtain⟨b,cap,hv,hc,hr⟩:=hv
  split at e
  ·rename_i l u hb
   cases e
   obtain⟨h1,h2,h3,h4⟩:=qF Tr hb
   refine⟨rfl,_,rz _ _ _ _ _ hv h1 (by omega) h3 h4,?_⟩
   simp only[VR,vJ,qR]
   refine⟨_,cap - l,rfl,by show u - l<=_;omega,?_⟩
   rcases hr with⟨rfl,rfl⟩|⟨q,s,vs,rfl,JU,rj,nP⟩
   ·exact .inl ⟨by show u - l=0;omega,by simp⟩
   ·by_cases px:cap=l
    ·exact .inl ⟨by show u - l=0;omega,by
      show List.take ((u - l)*i.size) _=[]
      rw[show u - l=0 by omega];simp⟩
    ·refine .inr ⟨q,s+l*i.size,_,?_,JU,(rj.drop (l*i.size)).take ((u - l)*i.size),(nP.drop (l*i.size)).take ((u - l)*i.size)⟩
     rw[if_neg px]
     simp only[Option.map_some,pK]
  ·cases e
 ·cases e
theorem GZ{T el:TypeId}{i:TypeInfo}{x:Operand}{lo hi:Option Operand}(ho:o.op=.slice T x lo hi none)(hd:P.underlying T=some (.slice el))(vw:P.info? el=some i):
 cN P o (oE i.size (cy x) (lo.map cy) (hi.map cy)):=by
 intro g w nt t h a v h' H Tr e
 unfold oE at e
 split at e
 ·rename_i av hx
  cases hE:xq av with
  |false=>rw[hE]at e;exact JT ho hd vw g w nt t h a v h' H Tr e
  |true=>
   rw[hE]at e
   simp only[cond_true]at e
   split at e
   ·rename_i p hb
    obtain⟨l,u⟩:=p
    cases e
    have hv:=cC x _ _ _ _ _ _ Tr hx
    have vA:=hv
    obtain⟨b,hv⟩:=BU hE hv
    obtain⟨h1,h2,h3,h4⟩:=qF Tr hb
    obtain rfl:l=0:=by omega
    obtain rfl:u=0:=by omega
    have hr:=uT (P:=P) (w:=w) (isS:=true) (len:=0) h1 h2 (vN h3) (vN h4)
    have uO:(sizeOf el).run P w=.ok i.size w:=by simp[sizeOf,typeInfo,vw]
    exact⟨rfl,a.eval x,by simp[execOp,ho,hv,Instr.sliceAt,Instr.slice,run_underlying hd,hr,uO],vA⟩
   ·cases e
 ·cases e
theorem cH.vP{g w}{cs:List AV}{vs:List Value}{s:Nat}{C:Array Value}(hv:cH g w cs vs)(hc: ∀ (j:Nat) (v:Value),vs[j]? =some v->C[s+j]? =some v){n:Nat}
 (hn:n<=cs.length)(h0:n≠0):s+n<=C.size:=by
 have hl:=hv.length
 have hj:n - 1<vs.length:=by omega
 have:=hc (n - 1) _ (List.getElem?_eq_getElem hj)
 have:=(Array.getElem?_eq_some_iff.1 this).1
 omega
theorem G1{T el:TypeId}{n:Nat}{i:TypeInfo}{x:Operand}{lo hi:Option Operand}(ho:o.op=.slice T x lo hi none)(hd:P.underlying T=some (.array n el))(vw:P.info? el=some i)(h0:i.size≠0):
 cN P o (pP n i.size (cy x) (lo.map cy) (hi.map cy)):=by
 intro g w nt t h a v h' H Tr e
 have uO:(sizeOf el).run P w=.ok i.size w:=by simp[sizeOf,typeInfo,vw]
 unfold pP at e
 split at e
 ·rename_i id off hx
  have hv:=cC x _ _ _ _ _ _ Tr hx
  simp only[VR]at hv
  obtain⟨b,s,hm,hv⟩:=hv
  split at e
  ·rename_i l u hb
   split at e
   ·rename_i cs hg
    cases hz:Nat.ble (Nat.add off (Nat.mul n i.size)) cs.n with
    |false=>rw[hz]at e;cases e
    |true=>
     rw[hz]at e
     cases e
     have hz':off+n*i.size<=cs.toL.length:=by rw[nR];exact Nat.ble_eq.mp hz
     obtain⟨h1,h2,h3,h4⟩:=qF Tr hb
     have hr:=uT (P:=P) (w:=w) (isS:=false) h1 h2 (vN h3) (vN h4)
     refine⟨rfl,.slice (some (if n=l then⟨b,s+off,none⟩else(⟨b,s+off,none⟩:Addr).add (l*i.size))) (u - l) (n - l),?_,?_⟩
     ·simp[execOp,ho,hv,Instr.sliceAt,Instr.sureAddr,run_underlying hd,hr,uO]
     ·obtain⟨C,el',vs,hw,_,nP,hc⟩:=H.row hg hm
      simp only[VR]
      by_cases px:n=l
      ·refine .inl ⟨by show u - l=0;omega,(if n=l then⟨b,s+off,none⟩else(⟨b,s+off,none⟩:Addr).add (l*i.size)),?_⟩
       rw[show u - l=0 by omega,show n - l=0 by omega]
      ·have h00:(n - l)*i.size≠0:=Nat.mul_ne_zero (by omega) h0
       refine .inr ⟨b,s,n - l,hm,?_,by show u - l<=_;omega,?_⟩
       ·rw[if_neg px,pK]
        congr 3
        show s+off+l*i.size=s+(off+l*i.size)
        omega
       ·rw[qE hw]
        show s+(off+l*i.size)+(n - l)*i.size<=_
        have e1:(n - l)*i.size+l*i.size=n*i.size:=by rw[<-Nat.add_mul];congr 1;omega
        have:=cH.vP nP hc hz' (by omega)
        omega
   ·cases e
  ·cases e
 ·cases e
end
end Go.Ab

noncomputable section
namespace Go.Ab
variable [Io]
section
variable {P:Program}{o:Oper}
omit [Io] in
theorem B0(off:Nat): ∀ (l:List Value) (k:Nat) (C:Array Value),off+k+l.length<=C.size->
 (l.zipIdx k).foldl (fun cs (p:Value×Nat)=>cs.setIfInBounds (off+p.2) p.1) C=(C.toList.take (off+k)++l++C.toList.drop (off+k+l.length)).toArray
 | [],k,C,_=>by simp
 |v::l,k,C,h=>by
  simp only[List.length_cons]at h
  rw[List.zipIdx_cons,List.foldl_cons,B0 off l (k+1) _ (by simp;omega)]
  have e:=list_seg_step C.toList (off+k) v l (by simp;omega)
  congr 1
  simpa[Array.toList_setIfInBounds,Nat.add_assoc]using e
def si(g:G)(w:World)(place:Nat->Option (Nat×Nat)):List (Nat×Nat×AV)->List (Nat×Value)->Prop
 | [],l=>l=[]
 |p::r,l=> ∃ i v l',l=(i,v)::l'/\place i=some (p.1,p.2.1)/\VR g w p.2.2 v/\si g w place r l'
theorem Fa{g w}{place:Nat->Option (Nat×Nat)}: ∀ (ps:List (Nat×Nat×AV)) (qs:List (Nat×Value)) (cs cs':List AV) (C:Array Value),
 si g w place ps qs->cH g w cs C.toList->BJ ps cs=some cs'-> ∃ C',Instr.fill place C qs=some C'/\cH g w cs' C'.toList/\C'.size=C.size
 | [],qs,cs,cs',C,h,hv,e=>by
  simp only[si]at h
  subst h
  cases e
  exact⟨C,rfl,hv,rfl⟩
 |p::ps,qs,cs,cs',C,h,hv,e=>by
  simp only[si]at h
  obtain⟨i,v,qs',rfl,hp,hr,h⟩:=h
  change (bif Nat.beq (len p.2.2.cells) p.2.1&&Nat.ble (Nat.add p.1 p.2.1) (len cs)then BJ ps (put cs p.1 p.2.2.cells)else none)=some cs' at e
  cases hb:(Nat.beq (len p.2.2.cells) p.2.1&&Nat.ble (Nat.add p.1 p.2.1) (len cs))with
  |false=>rw[hb]at e;cases e
  |true=>
   rw[hb]at e
   simp only[Bool.and_eq_true,cQ]at hb
   have h1:=Nat.eq_of_beq_eq_true hb.1
   have h2:p.1+p.2.1<=cs.length:=Nat.ble_eq.mp hb.2
   have hc:=hr.cells
   have hl:=hc.length
   simp only[Array.length_toList]at hl
   have hC:=hv.length
   simp only[Array.length_toList]at hC
   have hn:cH g w (put cs p.1 p.2.2.cells) ((C.toList.take p.1++v.cells.toList++C.toList.drop (p.1+v.cells.toList.length)).toArray).toList:=by
    rw[put_eq]
    simp only[List.append_assoc]
    refine(hv.take _).append (hc.append ?_)
    rw[hc.length]
    exact hv.drop _
   obtain⟨C',W5,vA,hs⟩:=Fa ps qs' _ cs' _ h hn e
   refine⟨C',?_,vA,?_⟩
   ·simp only[Instr.fill,hp]
    rw[if_neg (by simp;omega)]
    rw[<-W5]
    congr 1
    have hf:=B0 p.1 v.cells.toList 0 C (by simp;omega)
    simp only[Nat.add_zero]at hf
    rw[<-hf,<-Array.foldl_toList,Array.toList_zipIdx]
   ·rw[hs]
    simp
    omega
def zF(place:Nat->Option (Nat×Nat))(l:List (Nat×Operand)):Option (List (Nat×Nat×n9)):=
 List.rec (some []) (fun p _ ih=>match place p.1 with
  |some (off,size)=>match ih with
   |some r=>some ((off,size,cy p.2)::r)
   |none=>none
  |none=>none) l
theorem D5{g w nt t}{a:Act}(T:TR g w nt t a.tmps){place:Nat->Option (Nat×Nat)}: ∀ (l:List (Nat×Operand)) {ps:List (Nat×Nat×n9)} {vs:List (Nat×Nat×AV)},
 zF place l=some ps->tY ps t=some vs->si g w place vs (l.map fun p=>(p.1,a.eval p.2))
 | [],ps,vs,h,e=>by
  cases h
  cases e
  simp[si]
 |p::l,ps,vs,h,e=>by
  change (match place p.1 with|some (off,size)=>(match zF place l with|some r=>some ((off,size,cy p.2)::r)|none=>none)|none=>none)=some ps at h
  split at h
  ·rename_i off size hp
   split at h
   ·rename_i r hr
    cases h
    change (match cy p.2 t with|some v=>(match tY r t with|some vs=>some ((off,size,v)::vs)|none=>none)|none=>none)=some vs at e
    split at e
    ·rename_i v hv
     split at e
     ·rename_i us hu
      cases e
      simp only[si,List.map_cons]
      exact⟨p.1,_,_,rfl,hp,cC p.2 _ _ _ _ _ _ T hv,D5 T l hr hu⟩
     ·cases e
    ·cases e
   ·cases h
  ·cases h
def placesOf(P:Program)(T:TypeId):Option (Nat->Option (Nat×Nat)):=
 match P.underlying T with
 |some (.struct fields)=>match fields.toList.mapM (fun f=>(P.info? f.type).map fun i=>(f.offset,i.size))with
  |some places=>some fun i=>places.toArray[i]?
  |none=>none
 |some (.array _ e)=>match P.info? e with
  |some ie=>some fun i=>some (i*ie.size,ie.size)
  |none=>none
 | _=>none
def zeroOf(P:Program)(T:TypeId):Option (List AV):=
 match P.info? T with
 |some i=>match i.zero with
  |some z=>leaves z.cells.toList
  |none=>none
 |none=>none
def B2(P:Program)(T:TypeId)(parts:List (Nat×Operand)):nY:=
 match placesOf P T with
 |some place=>match zeroOf P T with
  |some z=>match zF place parts with
   |some ps=>tZ z ps
   |none=>cW
  |none=>cW
 |none=>cW
theorem pL{T:TypeId}{z:List AV}(h:zeroOf P T=some z): ∃ i zv,P.info? T=some i/\i.zero=some zv/\ ∀ g w,cH g w z zv.cells.toList:=by
 unfold zeroOf at h
 cases hi:P.info? T with
 |none=>rw[hi]at h;cases h
 |some i=>
  rw[hi]at h
  cases hz:i.zero with
  |none=>simp only[hz]at h;cases h
  |some zv=>simp only[hz]at h;exact⟨i,zv,rfl,hz,fun g w=>wC _ h g w⟩
theorem JV{T:TypeId}{parts:Array (Nat×Operand)}(ho:o.op=.build T parts):cN P o (B2 P T parts.toList):=by
 intro g w nt t h a v h' H Tr e
 unfold B2 at e
 cases hp:placesOf P T with
 |none=>rw[hp]at e;cases e
 |some place=>
 rw[hp]at e
 cases hz:zeroOf P T with
 |none=>simp only[hz]at e;cases e
 |some z=>
 simp only[hz]at e
 cases XT:zF place parts.toList with
 |none=>simp only[XT]at e;cases e
 |some ps=>
 simp only[XT]at e
 unfold tZ at e
 split at e
 ·rename_i vs nP
  split at e
  ·rename_i cs rj
   cases e
   obtain⟨i,zv,hi,Aq,hz⟩:=pL hz
   obtain⟨C',W5,vA,_⟩:=Fa vs _ z cs zv.cells (D5 Tr parts.toList XT nP) (hz g w) rj
   refine⟨rfl,.agg C',?_,by simp only[VR];exact⟨_,rfl,vA⟩⟩
   have hb:P.built T ((parts.map fun p=>(p.1,a.eval p.2)).toList)=some C':=by
    unfold placesOf at hp
    unfold Program.built
    split at hp
    ·rename_i fields hu
     split at hp
     ·rename_i places hpl
      cases hp
      simp only[hi,hu,Aq,hpl,Array.toList_map]
      exact W5
     ·cases hp
    ·rename_i n el hu
     split at hp
     ·rename_i ie tP
      cases hp
      simp only[hi,hu,Aq,tP,Array.toList_map]
      exact W5
     ·cases hp
    ·cases hp
   have rz:=run_build (P:=P) w T _ C' hb
   simp only[execOp,ho]
   show((Instr.build T (parts.map fun p=>(p.1,a.eval p.2))>>=fun v=>(pure (.value v):Sem Next))).run P w=_
   simp only[Sem.run_bind,rz,Result.andThen_ok,Sem.run_pure]
  ·cases e
 ·cases e
def s8(P:Program)(o:Oper)(f:nY):Prop:=
 ∀ (g:G) (w:World) (nt:Nat) (t:Tm) (h:Hp) (a:Act) (v:AV) (h':Hp),HR g w h->TR g w nt t a.tmps->f t h=.ok v h'->
  ∃ g' w' nx x,(execOp a.eval o).run P w=.ok nx w'/\(nx=.value x∨(nx=.skip/\x=undef))/\Ext g w h g' w' h'/\HR g' w' h'/\VR g' w' v x
theorem cN.run{f:nY}(h:cN P o f):s8 P o f:=by
 intro g w nt t hp a v h' H T e
 obtain⟨rfl,x,hx,hv⟩:=h g w nt t hp a v h' H.toHC T e
 exact⟨g,w,.value x,x,hx,.inl rfl,Ext.refl _ _ _,H,hv⟩
theorem G2{g w h}(H:HR g w h)(ob:Obj):Ext g w h g (w.alloc ob) h/\HR g (w.alloc ob) h:=by
 have hp: ∀ b,b<w.heap.size->(w.alloc ob).heap[b]? =w.heap[b]? :=by
  intro b hb
  show(w.heap.push _)[b]? =_
  rw[Array.getElem?_push,if_neg (by omega)]
 have E:Ext g w h g (w.alloc ob) h:=by
  refine⟨rfl,rfl,rfl,by simp,Nat.le_refl _,fun _ _ e=>e,fun b hb _=>hp b hb,?_,fun _ i=>i,fun _ i=>.inl i,fun _ o=>.inl o⟩
  intro b
  unfold nE
  by_cases hb:b<w.heap.size
  ·rw[hp b hb];exact Nat.le_refl _
  ·rw[Array.getElem?_eq_none (by omega)];exact Nat.zero_le _
 refine⟨E,H.fresh,?_,H.inj,fun b i=>by have:=H.nQ b i;simp;omega,s7.ext H E⟩
 intro id cs e
 obtain⟨b,s,C,el,vs,hm,hw,hi,hv,hc⟩:=H.cw id cs e
 exact⟨b,s,C,el,vs,hm,by rw[hp b (Array.getElem?_eq_some_iff.1 hw).1];exact hw,hi,cH.mono H E _ _ hv,hc⟩
def uy(P:Program)(o:Oper)(f:nY):Prop:=
 ∀ (g:G) (w:World) (nt:Nat) (t:Tm) (h:Hp) (a:Act) (v:AV) (h':Hp),HC g w h->TR g w nt t a.tmps->f t h=.ok v h'->
  (h'=h/\ ∃ x C el,(execOp a.eval o).run P w=.ok (.value x) (w.alloc (.cells C el))/\ ∀ g' w',VR g' w' v x)∨
  (∃ cs C el vs x,h'=nn h cs/\(execOp a.eval o).run P w=.ok (.value x) (w.alloc (.cells C el))/\cH g w cs.toL vs/\(∀ (j:Nat) (v:Value),vs[j]? =some v->C[j]? =some v)/\
   ∀ g' w',g'.m h.next=some (w.heap.size,0)->C.size<=nE w' w.heap.size->VR g' w' v x)
omit [Io] in
theorem xi(w:World)(C:Array Value)(el:TypeId):nE (w.alloc (.cells C el)) w.heap.size=C.size:=by
 have:(w.alloc (.cells C el)).heap[w.heap.size]? =some (.cells C el):=by
  show(w.heap.push _)[w.heap.size]? =_
  simp
 exact qE this
theorem uy.run{f:nY}(h:uy P o f):s8 P o f:=by
 intro g w nt t hp a v h' H T e
 rcases h g w nt t hp a v h' H.toHC T e with⟨rfl,x,C,el,hr,hv⟩|⟨cs,C,el,vs,x,rfl,hr,nP,hc,hv⟩
 ·obtain⟨E,H'⟩:=G2 H (.cells C el)
  exact⟨g,_,.value x,x,hr,.inl rfl,E,H',hv _ _⟩
 ·obtain⟨E,H'⟩:=A7 H (C:=C) el nP hc
  exact⟨_,_,.value x,x,hr,.inl rfl,E,H',hv _ _ (by simp[G.add]) (by rw[xi];exact Nat.le_refl _)⟩
theorem Rz{g:G}{w:World}{id b:Nat}(hm:g.m id=some (b,0)):VR g w (.ref id 0) (.pointer (some ⟨b,0,none⟩)):=by
 simp only[VR]
 exact⟨b,0,hm,rfl⟩
theorem RA{g:G}{w:World}{id b n c sz m:Nat}(hm:g.m id=some (b,0))(hn:n<=c)(hc:c*sz<=m)(hr:m<=nE w b):VR g w (.nW id 0 n sz) (.slice (some ⟨b,0,none⟩) n c):=by
 simp only[VR]
 exact .inr ⟨b,0,c,hm,rfl,hn,by omega⟩
theorem RB{g:G}{w:World}{b:Addr}:VR g w .ur (.slice (some b) 0 0):=by
 simp only[VR]
 exact⟨_,rfl⟩
theorem RC{T:TypeId}{z:List AV}(ho:o.op=.alloc T)(hz:zeroOf P T=some z):uy P o (JL z):=by
 intro g w nt t h a v h' H Tr e
 cases e
 obtain⟨i,zv,hi,Aq,hz⟩:=pL hz
 refine .inr ⟨A5 z,zv.cells,T,zv.cells.toList,.pointer (some ⟨w.heap.size,0,none⟩),rfl,?_,by rw[pR];exact hz g w,fun j v e=>by simpa using e,fun g' w' hm _=>Rz hm⟩
 simp[execOp,ho,Instr.alloc,zeroValue,typeInfo,hi,Aq,newVar,newRow]
theorem RD{T:TypeId}{x:Operand}(ho:o.op=.box T x):uy P o (Dq (cy x)):=by
 intro g w nt t h a v h' H Tr e
 unfold Dq at e
 split at e
 ·rename_i av hx
  cases e
  have hv:=cC x _ _ _ _ _ _ Tr hx
  refine .inr ⟨_,(a.eval x).cells,T,_,.pointer (some ⟨w.heap.size,0,none⟩),rfl,?_,by rw[pR];exact hv.cells,fun j v e=>by simpa using e,fun g' w' hm _=>Rz hm⟩
  simp[execOp,ho,Instr.box,newVar,newRow]
 ·cases e
end
end Go.Ab

noncomputable section
namespace Go.Ab
variable [Io]
section
variable {P:Program}{o:Oper}
omit [Io] in
theorem D6(z:List Value): ∀ c:Nat,(List.range (c*z.length)).map (fun j=>z.toArray[j % z.length]!)=(List.replicate c z).flatten
 |0=>by simp
 |c+1=>by
  rw[Nat.succ_mul,Nat.add_comm,List.range_add,List.map_append,List.replicate_succ,List.flatten_cons,<-D6 z c,List.map_map]
  congr 1
  ·apply List.ext_getElem?
   intro j
   by_cases hj:j<z.length
   ·have:j % z.length=j:=Nat.mod_eq_of_lt hj
    simp[hj,this]
   ·rw[List.getElem?_eq_none (by simp;omega),List.getElem?_eq_none (by omega)]
  ·apply List.map_congr_left
   intro j _
   simp[Function.comp]
omit [Io] in
theorem vQ(z:Array Value)(c:Nat):((Array.range (c*z.size)).map (fun j=>z[j % z.size]!)).toList=(List.replicate c z.toList).flatten:=by
 rw[Array.toList_map,Array.toList_range]
 exact D6 z.toList c
def sj(g:G)(w:World):List (Nat×AV)->List (Nat×Value)->Prop
 | [],l=>l=[]
 |p::r,l=> ∃ v l',l=(p.1,v)::l'/\VR g w p.2 v/\sj g w r l'
theorem G3{g w size}: ∀ (ps:List (Nat×AV)) (i:Nat) (r:List AV) (qs:List (Nat×Value)) (C:Array Value),xX size ps i=some r->sj g w ps qs->
 (i+ps.length)*size<=C.size-> ∃ C' us,Instr.fill (fun i=>some (i*size,size)) C qs=some C'/\cH g w r us/\us.length=ps.length*size/\
  C'.toList=C.toList.take (i*size)++us++C.toList.drop ((i+ps.length)*size)
 | [],i,r,qs,C,e,h,hC=>by
  simp only[sj]at h
  subst h
  cases e
  exact⟨C,[],rfl,by simp[cH],by simp,by simp⟩
 |p::ps,i,r,qs,C,e,h,hC=>by
  simp only[sj]at h
  obtain⟨v,qs',rfl,hr,h⟩:=h
  change (bif Nat.beq p.1 i&&Nat.beq (len p.2.cells) size then(match xX size ps (Nat.add i 1)with|some r=>some (app p.2.cells r)|none=>none)else none)=some r at e
  cases hb:(Nat.beq p.1 i&&Nat.beq (len p.2.cells) size)with
  |false=>rw[hb]at e;cases e
  |true=>
   rw[hb]at e
   simp only[Bool.and_eq_true,cQ]at hb
   have h1:=Nat.eq_of_beq_eq_true hb.1
   have h2:=Nat.eq_of_beq_eq_true hb.2
   change (match xX size ps (i+1)with|some r=>some (app p.2.cells r)|none=>none)=some r at e
   split at e
   ·rename_i r' hr'
    cases e
    have hc:=hr.cells
    have hl:=hc.length
    rw[h2]at hl
    have e1:(i+(ps.length+1))*size=i*size+size+ps.length*size:=by rw[Nat.add_mul,Nat.add_mul];omega
    have hC1:i*size+size+ps.length*size<=C.size:=by rw[List.length_cons,e1]at hC;exact hC
    have hl':v.cells.size=size:=by simpa using hl
    have hf:=B0 (i*size) v.cells.toList 0 C (by rw[hl];omega)
    simp only[Nat.add_zero,hl]at hf
    have uO:(C.toList.take (i*size)++v.cells.toList++C.toList.drop (i*size+size)).toArray.size=C.size:=by
     simp;omega
    obtain⟨C',us,W5,GB,hlen,JW⟩:=G3 ps (i+1) r' qs' (C.toList.take (i*size)++v.cells.toList++C.toList.drop (i*size+size)).toArray hr' h (by
     rw[uO,show(i+1+ps.length)*size=i*size+size+ps.length*size from by rw[Nat.add_mul,Nat.add_mul];omega];exact hC1)
    refine⟨C',v.cells.toList++us,?_,?_,?_,?_⟩
    ·rw[h1]
     simp only[Instr.fill]
     rw[if_neg (by simp[hl'];omega)]
     rw[<-W5,<-hf,<-Array.foldl_toList,Array.toList_zipIdx]
    ·rw[mP];exact hc.append GB
    ·rw[List.length_append,hl,hlen,List.length_cons,Nat.succ_mul];omega
    ·rw[JW]
     simp only[List.append_assoc]
     have d1:(i+1)*size=i*size+size:=by rw[Nat.add_mul];omega
     rw[d1,show(i+1+ps.length)*size=i*size+size+ps.length*size from by rw[Nat.add_mul,Nat.add_mul];omega,List.length_cons,e1]
     have t1:(C.toList.take (i*size)).length=i*size:=by simp;omega
     have:(C.toList.take (i*size)++(v.cells.toList++C.toList.drop (i*size+size)))=(C.toList.take (i*size)++v.cells.toList)++C.toList.drop (i*size+size):=by simp
     rw[this]
     have t2:(C.toList.take (i*size)++v.cells.toList).length=i*size+size:=by rw[List.length_append,t1,hl]
     rw[List.take_append_of_le_length (by omega),List.take_of_length_le (by omega)]
     rw[List.drop_append,List.drop_eq_nil_of_le (by omega),t2,List.drop_drop,List.nil_append,List.append_assoc]
     congr 4
     omega
   ·cases e
def uU(l:List (Nat×Operand)):List (Nat×n9):=l.map fun p=>(p.1,cy p.2)
theorem D7{g w nt t}{a:Act}(T:TR g w nt t a.tmps): ∀ (l:List (Nat×Operand)) {vs:List (Nat×AV)},tX (uU l) t=some vs->sj g w vs (l.map fun p=>(p.1,a.eval p.2))
 | [],vs,e=>by cases e;simp[sj]
 |p::l,vs,e=>by
  change (match cy p.2 t with|some v=>(match tX (uU l) t with|some vs=>some ((p.1,v)::vs)|none=>none)|none=>none)=some vs at e
  split at e
  ·rename_i v hv
   split at e
   ·rename_i us hu
    cases e
    simp only[sj,List.map_cons]
    exact⟨_,_,rfl,cC p.2 _ _ _ _ _ _ T hv,D7 T l hu⟩
   ·cases e
  ·cases e
theorem yj{g w size}: ∀ {ps:List (Nat×AV)} {qs:List (Nat×Value)},sj g w ps qs->si g w (fun i=>some (i*size,size)) (scale size ps) qs
 | [],qs,h=>by simp only[sj]at h;subst h;show si g w _ [] [];simp[si]
 |p::ps,qs,h=>by
  simp only[sj]at h
  obtain⟨v,l',rfl,hv,h⟩:=h
  show si g w _ ((Nat.mul p.1 size,size,p.2)::scale size ps) _
  simp only[si]
  exact⟨p.1,v,l',rfl,rfl,hv,yj h⟩
theorem JX{g w n size}{z:List AV}{zv:List Value}{ps:List (Nat×AV)}{qs:List (Nat×Value)}{cs:List AV}(C:Array Value)(h:sj g w ps qs)
 (hz:cH g w (oQ n z) C.toList)(hC:C.size=n*size)(e:wA n size z ps=some cs)(_:zv=zv):
 ∃ C',Instr.fill (fun i=>some (i*size,size)) C qs=some C'/\cH g w cs C'.toList/\C'.size=C.size:=by
 unfold wA at e
 split at e
 ·rename_i cs' rj
  cases e
  cases hb:Nat.beq (len ps) n with
  |false=>rw[hb]at rj;cases rj
  |true=>
   rw[hb]at rj
   rw[cQ]at hb
   have hl:=Nat.eq_of_beq_eq_true hb
   obtain⟨C',us,W5,GB,hlen,JW⟩:=G3 ps 0 _ qs C rj h (by rw[hC,Nat.zero_add,hl];exact Nat.le_refl _)
   have ht:C'.toList=us:=by
    rw[JW]
    simp only[Nat.zero_mul,List.take_zero,List.nil_append,Nat.zero_add]
    rw[List.drop_eq_nil_of_le (by rw[hl,<-hC];simp),List.append_nil]
   refine⟨C',W5,by rw[ht];exact GB,?_⟩
   have:C'.toList.length=C'.size:=by simp
   rw[<-this,ht,hlen,hl,hC]
 ·exact Fa _ _ _ _ C (yj h) hz e
def RE(P:Program)(T:TypeId)(n:Nat)(parts:List (Nat×Operand)):nY:=
 match P.underlying T with
 |some (.slice e)=>match P.info? e with
  |some ie=>match zeroOf P e with
   |some z=>pH (Nat.beq (len z) ie.size&&(Nat.ble (Nat.mul n ie.size) 16777216&&Nat.blt 0 ie.size)) (BL n ie.size z (uU parts)) cW
   |none=>cW
  |none=>cW
 | _=>cW
theorem RF{T:TypeId}{n:Nat}{parts:Array (Nat×Operand)}(ho:o.op=.buildSlice T n parts):uy P o (RE P T n parts.toList):=by
 intro g w nt t h a v h' H Tr e
 unfold RE at e
 cases hu:P.underlying T with
 |none=>rw[hu]at e;cases e
 |some d=>
 rw[hu]at e
 cases d<;>try (cases e;done)
 rename_i el
 simp only at e
 cases tP:P.info? el with
 |none=>rw[tP]at e;cases e
 |some ie=>
 rw[tP]at e
 cases hz:zeroOf P el with
 |none=>simp only[hz]at e;cases e
 |some z=>
 simp only[hz]at e
 cases hb:(Nat.beq (len z) ie.size&&(Nat.ble (Nat.mul n ie.size) 16777216&&Nat.blt 0 ie.size))with
 |false=>rw[hb]at e;cases e
 |true=>
 rw[hb]at e
 simp only[Bool.and_eq_true,cQ]at hb
 have hzl:=Nat.eq_of_beq_eq_true hb.1
 have hsm:n*ie.size<=16777216:=Nat.ble_eq.mp hb.2.1
 have h0:0<ie.size:=cM.1 hb.2.2
 obtain⟨i,zv,hi,Aq,MM⟩:=pL hz
 obtain rfl:ie=i:=by rw[tP]at hi;exact Option.some.inj hi
 change BL n ie.size z (uU parts.toList) t h=.ok v h' at e
 unfold BL at e
 split at e
 ·rename_i vs nP
  have XT:=D7 Tr parts.toList nP
  have yk:zv.cells.size=ie.size:=by
   have:=(MM g w).length
   simp only[Array.length_toList]at this
   omega
  cases hn:Nat.beq n 0 with
  |true=>
   rw[hn]at e
   obtain rfl:=Nat.eq_of_beq_eq_true hn
   cases vs with
   |cons _ _=>cases e
   |nil=>
    cases e
    simp only[sj,List.map_eq_nil_iff,Array.toList_eq_nil_iff]at XT
    subst XT
    refine .inl ⟨rfl,.slice (some ⟨w.heap.size,0,none⟩) 0 0,#[],el,?_,fun _ _=>RB⟩
    ·simp[execOp,ho,Instr.buildSlice,run_underlying hu,sizeOf,typeInfo,tP,Instr.fill,newRow,Array.range_zero']
  |false=>
   rw[hn]at e
   have W6:n≠0:=fun k=>by subst k;cases hn
   have hns:n*ie.size≠0:=Nat.mul_ne_zero W6 (by omega)
   simp only[cond_false]at e
   split at e
   ·rename_i cs rj
    cases e
    have RG:cH g w (oQ n z) ((Array.range (n*ie.size)).map (fun j=>zv.cells[j % zv.cells.size]!)).toList:=by
     rw[<-yk,vQ]
     exact(MM g w).repeat n
    obtain⟨C',W5,vA,hs⟩:=JX (zv:=[]) _ XT RG (by simp) rj rfl
    refine .inr ⟨A5 cs,C',el,C'.toList,.slice (some ⟨w.heap.size,0,none⟩) n n,rfl,?_,by rw[pR];exact vA,fun j v e=>by simpa using e,
     fun g' w' hm hr=>RA hm (Nat.le_refl _) (by rw[hs];simp) hr⟩
    have anB: ¬ 16777216<n*ie.size:=by omega
    simp only[execOp,ho]
    show((Instr.buildSlice T n (parts.map fun p=>(p.1,a.eval p.2))>>=fun v=>(pure (.value v):Sem Next))).run P w=_
    simp[Instr.buildSlice,run_underlying hu,sizeOf,typeInfo,tP,zeroValue,Aq,anB,hns,W5,newRow]
   ·cases e
 ·cases e
def G4(P:Program)(T:TypeId)(l c:Operand):nY:=
 match P.underlying T with
 |some (.slice e)=>match P.info? e with
  |some ie=>match zeroOf P e with
   |some z=>pH (Nat.beq (len z) ie.size&&Nat.blt 0 ie.bytes) (tK ie.size ie.bytes z (cy l) (cy c)) cW
   |none=>cW
  |none=>cW
 | _=>cW
theorem Pa{T:TypeId}{l c:Operand}(ho:o.op=.makeSlice T l c):uy P o (G4 P T l c):=by
 intro g w nt t h a v h' H Tr e
 unfold G4 at e
 cases hu:P.underlying T with
 |none=>rw[hu]at e;cases e
 |some d=>
 rw[hu]at e
 cases d<;>try (cases e;done)
 rename_i el
 simp only at e
 cases tP:P.info? el with
 |none=>rw[tP]at e;cases e
 |some ie=>
 rw[tP]at e
 cases hz:zeroOf P el with
 |none=>simp only[hz]at e;cases e
 |some z=>
 simp only[hz]at e
 cases hb:(Nat.beq (len z) ie.size&&Nat.blt 0 ie.bytes)with
 |false=>rw[hb]at e;cases e
 |true=>
 rw[hb]at e
 simp only[Bool.and_eq_true,cQ]at hb
 have hzl:=Nat.eq_of_beq_eq_true hb.1
 have h0:0<ie.bytes:=cM.1 hb.2
 obtain⟨i,zv,hi,Aq,MM⟩:=pL hz
 obtain rfl:ie=i:=by rw[tP]at hi;exact Option.some.inj hi
 have yk:zv.cells.size=ie.size:=by
  have:=(MM g w).length
  simp only[Array.length_toList]at this
  omega
 change tK ie.size ie.bytes z (cy l) (cy c) t h=.ok v h' at e
 unfold tK at e
 split at e
 ·rename_i kl ln hl
  split at e
  ·rename_i kc cn hc
   have hvl:=cC l _ _ _ _ _ _ Tr hl
   have hvc:=cC c _ _ _ _ _ _ Tr hc
   simp only[VR]at hvl hvc
   cases hle:(Nat.ble ln cn&&Nat.ble (Nat.mul cn ie.bytes) 70368744177664)with
   |false=>rw[hle]at e;cases e
   |true=>
    rw[hle]at e
    simp only[Bool.and_eq_true]at hle
    have h1:ln<=cn:=Nat.ble_eq.mp hle.1
    have h2:cn*ie.bytes<=70368744177664:=Nat.ble_eq.mp hle.2
    have h3:cn<=cn*ie.bytes:=Nat.le_mul_of_pos_right _ h0
    have hr:=run_make (P:=P) w T el ie zv hu tP Aq kl kc (Int.ofNat ln) (Int.ofNat cn) (Int.natCast_nonneg ln) (by show((ln:Nat):Int)<=(cn:Nat);omega) (by
     show((ie.bytes:Nat):Int)*((cn:Nat):Int)<=_
     rw[<-Int.natCast_mul,Nat.mul_comm];omega) (by show((cn:Nat):Int)<=_;omega)
    have hex:(execOp a.eval o).run P w=.ok (.value (.slice (some ⟨w.heap.size,0,none⟩) ln cn)) (w.alloc (.cells (madeCells zv.cells (cn*ie.size)) el)):=by
     simp only[execOp,ho,hvl,hvc,Sem.run_bind,hr,Result.andThen_ok,Sem.run_pure]
     rfl
    cases hc0:Nat.beq cn 0 with
    |true=>
     rw[hc0]at e
     cases e
     obtain rfl:=Nat.eq_of_beq_eq_true hc0
     obtain rfl:ln=0:=by omega
     exact .inl ⟨rfl,_,_,_,hex,fun _ _=>RB⟩
    |false=>
     rw[hc0]at e
     cases e
     have RG:cH g w (oQ cn z) (madeCells zv.cells (cn*ie.size)).toList:=by
      unfold madeCells
      rw[<-yk,vQ]
      exact(MM g w).repeat cn
     exact .inr ⟨_,_,_,_,_,rfl,hex,by rw[MH];exact RG,fun j v e=>by simpa using e,fun g' w' hm hr=>RA hm h1 (by rw[size_madeCells];exact Nat.le_refl _) hr⟩
  ·cases e
 ·cases e
end
end Go.Ab
