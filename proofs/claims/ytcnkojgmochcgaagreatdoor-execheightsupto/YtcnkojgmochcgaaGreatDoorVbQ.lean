import Derived.Test.YtcnkojgmochcgaaGreatDoorLfF
import Derived.Test.YtcnkojgmochcgaaGreatDoorXbQ
import Derived.KernelRfl
import Derived.Shelf.Small.Bits
import Derived.Shelf.Spec.TrailingZeros
noncomputable section
namespace Go.Proofs
open Go.Ab Go.Ab.Lf
set_option maxRecDepth 100000
def Tryz.xs:Tr cQ:=(.node (.node (.node (.node (.node (.node (.node (.node (.node .nil none .nil) none (.node .nil none .nil)) none (.node (.node .nil (some Tryz.Ze) .nil) (some Tryz.Ym) .nil)) (some Tryz.x31) (.node (.node (.node .nil none .nil) none .nil) none (.node (.node .nil none .nil) (some Tryz.YR) .nil))) none (.node (.node (.node (.node .nil (some Tryz.YW) .nil) none (.node .nil none .nil)) (some Tryz.x79) (.node (.node .nil none .nil) (some Tryz.YC) .nil)) (some Tryz.x47) (.node (.node (.node .nil (some Tryz.Za) .nil) none .nil) (some Tryz.X0) (.node (.node .nil (some Tryz.Zr) .nil) none .nil)))) (some Tryz.x7) (.node (.node (.node (.node (.node .nil none .nil) none (.node .nil none .nil)) (some Tryz.x71) (.node (.node .nil none .nil) (some Tryz.Yu) .nil)) none (.node (.node (.node .nil none .nil) none .nil) none (.node (.node .nil none .nil) (some Tryz.TO) .nil))) (some Tryz.x23) (.node (.node (.node (.node .nil (some Tryz.Y4) .nil) none .nil) none (.node (.node .nil none .nil) (some Tryz.YK) .nil)) (some Tryz.x55) (.node (.node (.node .nil none .nil) none .nil) (some Tryz.X8) (.node (.node .nil none .nil) none .nil))))) none (.node (.node (.node (.node (.node (.node .nil none .nil) none (.node .nil (some Tryz.T5) .nil)) (some Tryz.x67) (.node (.node .nil (some Tryz.Zi) .nil) (some Tryz.Yq) .nil)) (some Tryz.Wn) (.node (.node (.node .nil none .nil) none .nil) none (.node (.node .nil (some Tryz.T3) .nil) none .nil))) none (.node (.node (.node (.node .nil (some Tryz.Y0) .nil) none .nil) (some Tryz.x83) (.node (.node .nil none .nil) (some Tryz.YG) .nil)) (some Tryz.x51) (.node (.node (.node .nil (some Tryz.TW) .nil) none .nil) (some Tryz.X7) (.node (.node .nil none .nil) none .nil)))) (some Tryz.x11) (.node (.node (.node (.node (.node .nil none .nil) none (.node .nil none .nil)) none (.node (.node .nil none .nil) (some Tryz.Yy) .nil)) none (.node (.node (.node .nil none .nil) none .nil) none (.node (.node .nil (some Tryz.Zn) .nil) (some Tryz.TS) .nil))) none (.node (.node (.node (.node .nil (some Tryz.Y8) .nil) none .nil) none (.node (.node .nil none .nil) (some Tryz.YO) .nil)) (some Tryz.x59) (.node (.node (.node .nil none .nil) (some Tryz.Yi) .nil) (some Tryz.Om) (.node (.node .nil none .nil) none .nil)))))) none (.node (.node (.node (.node (.node (.node (.node .nil none .nil) none (.node .nil (some Tryz.T4) .nil)) none (.node (.node .nil (some Tryz.Zg) .nil) (some Tryz.Yo) .nil)) none (.node (.node (.node .nil none .nil) none .nil) none (.node (.node .nil (some Tryz.TY) .nil) none .nil))) (some Tryz.x17) (.node (.node (.node (.node .nil (some Tryz.YY) .nil) (some Tryz.Ye) .nil) none (.node (.node .nil none .nil) (some Tryz.YE) .nil)) (some Tryz.x49) (.node (.node (.node .nil (some Tryz.Zc) .nil) none .nil) (some Tryz.X5) (.node (.node .nil none .nil) none .nil)))) none (.node (.node (.node (.node (.node .nil none .nil) none (.node .nil none .nil)) (some Tryz.x73) (.node (.node .nil none .nil) (some Tryz.Yw) .nil)) none (.node (.node (.node .nil none .nil) none .nil) none (.node (.node .nil none .nil) (some Tryz.YU) .nil))) (some Tryz.x25) (.node (.node (.node (.node .nil (some Tryz.Y6) .nil) none .nil) none (.node (.node .nil none .nil) (some Tryz.YM) .nil)) (some Tryz.x57) (.node (.node (.node .nil none .nil) (some Tryz.Yg) .nil) (some Tryz.Oj) (.node (.node .nil none .nil) none .nil))))) none (.node (.node (.node (.node (.node (.node .nil none .nil) (some Tryz.Yc) (.node .nil none .nil)) (some Tryz.x69) (.node (.node .nil (some Tryz.Zk) .nil) (some Tryz.Ys) .nil)) none (.node (.node (.node .nil none .nil) none .nil) none (.node (.node .nil none .nil) (some Tryz.YS) .nil))) none (.node (.node (.node (.node .nil (some Tryz.Y2) .nil) none .nil) (some Tryz.x85) (.node (.node .nil none .nil) (some Tryz.YI) .nil)) (some Tryz.x53) (.node (.node (.node .nil none .nil) none .nil) (some Tryz.Og) (.node (.node .nil none .nil) (some Tryz.TU) .nil)))) (some Tryz.x13) (.node (.node (.node (.node (.node .nil none .nil) (some Tryz.TM) (.node .nil none .nil)) none (.node (.node .nil none .nil) (some Tryz.YA) .nil)) (some Tryz.x45) (.node (.node (.node .nil (some Tryz.Y9) .nil) none .nil) (some Tryz.XY) (.node (.node .nil (some Tryz.Zp) .nil) none .nil))) none (.node (.node (.node (.node .nil none .nil) none .nil) (some Tryz.x93) (.node (.node .nil none .nil) (some Tryz.Oo) .nil)) (some Tryz.x61) (.node (.node (.node .nil none .nil) (some Tryz.Yk) .nil) (some Tryz.X9) (.node (.node .nil none .nil) none .nil))))))) none (.node (.node (.node (.node (.node (.node (.node (.node .nil none .nil) none (.node .nil none .nil)) none (.node (.node .nil (some Tryz.Zf) .nil) (some Tryz.Yn) .nil)) none (.node (.node (.node .nil none .nil) (some Tryz.Yf) .nil) none (.node (.node .nil (some Tryz.Zm) .nil) none .nil))) (some Tryz.x16) (.node (.node (.node (.node .nil (some Tryz.YX) .nil) (some Tryz.Yd) (.node .nil (some Tryz.Zt) .nil)) none (.node (.node .nil none .nil) (some Tryz.YD) .nil)) (some Tryz.x48) (.node (.node (.node .nil (some Tryz.Zb) .nil) none .nil) (some Tryz.X4) (.node (.node .nil none .nil) none .nil)))) none (.node (.node (.node (.node (.node .nil none .nil) none (.node .nil none .nil)) (some Tryz.x72) (.node (.node .nil none .nil) (some Tryz.Yv) .nil)) none (.node (.node (.node .nil none .nil) none .nil) none (.node (.node .nil none .nil) (some Tryz.TP) .nil))) none (.node (.node (.node (.node .nil (some Tryz.Y5) .nil) none .nil) (some Tryz.x88) (.node (.node .nil none .nil) (some Tryz.YL) .nil)) (some Tryz.x56) (.node (.node (.node .nil none .nil) none .nil) (some Tryz.Oi) (.node (.node .nil none .nil) none .nil))))) none (.node (.node (.node (.node (.node (.node .nil none .nil) (some Tryz.Yb) (.node .nil none .nil)) (some Tryz.x68) (.node (.node .nil (some Tryz.Zj) .nil) (some Tryz.Yr) .nil)) none (.node (.node (.node .nil none .nil) none .nil) none (.node (.node .nil none .nil) none .nil))) (some Tryz.x20) (.node (.node (.node (.node .nil (some Tryz.Y1) .nil) none .nil) (some Tryz.x84) (.node (.node .nil none .nil) (some Tryz.YH) .nil)) (some Tryz.x52) (.node (.node (.node .nil (some Tryz.TX) .nil) none .nil) (some Tryz.Of) (.node (.node .nil none .nil) none .nil)))) (some Tryz.x12) (.node (.node (.node (.node (.node .nil none .nil) none (.node .nil none .nil)) none (.node (.node .nil none .nil) (some Tryz.Yz) .nil)) (some Tryz.x44) (.node (.node (.node .nil none .nil) none .nil) none (.node (.node .nil (some Tryz.Zo) .nil) (some Tryz.TT) .nil))) none (.node (.node (.node (.node .nil none .nil) none .nil) none (.node (.node .nil none .nil) (some Tryz.YP) .nil)) (some Tryz.x60) (.node (.node (.node .nil none .nil) (some Tryz.Yj) .nil) (some Tryz.On) (.node (.node .nil none .nil) none .nil)))))) none (.node (.node (.node (.node (.node (.node (.node .nil none .nil) none (.node .nil (some Tryz.Zs) .nil)) none (.node (.node .nil (some Tryz.Zh) .nil) (some Tryz.Yp) .nil)) (some Tryz.XX) (.node (.node (.node .nil none .nil) none .nil) none (.node (.node .nil (some Tryz.TZ) .nil) none .nil))) (some Tryz.x18) (.node (.node (.node (.node .nil (some Tryz.YZ) .nil) none .nil) none (.node (.node .nil none .nil) (some Tryz.YF) .nil)) (some Tryz.x50) (.node (.node (.node .nil (some Tryz.Zd) .nil) none .nil) (some Tryz.X6) (.node (.node .nil none .nil) none .nil)))) (some Tryz.x10) (.node (.node (.node (.node (.node .nil none .nil) none (.node .nil none .nil)) (some Tryz.x74) (.node (.node .nil none .nil) (some Tryz.Yx) .nil)) none (.node (.node (.node .nil none .nil) none .nil) none (.node (.node .nil none .nil) (some Tryz.TQ) .nil))) (some Tryz.x26) (.node (.node (.node (.node .nil (some Tryz.Y7) .nil) none .nil) (some Tryz.x90) (.node (.node .nil none .nil) (some Tryz.YN) .nil)) (some Tryz.x58) (.node (.node (.node .nil none .nil) (some Tryz.Yh) .nil) (some Tryz.Ol) (.node (.node .nil none .nil) none .nil))))) none (.node (.node (.node (.node (.node (.node .nil none .nil) (some Tryz.TL) (.node .nil none .nil)) (some Tryz.x70) (.node (.node .nil (some Tryz.Zl) .nil) (some Tryz.Yt) .nil)) none (.node (.node (.node .nil none .nil) none .nil) none (.node (.node .nil none .nil) (some Tryz.YT) .nil))) (some Tryz.XW) (.node (.node (.node (.node .nil (some Tryz.Y3) .nil) none .nil) (some Tryz.x86) (.node (.node .nil none .nil) (some Tryz.YJ) .nil)) (some Tryz.x54) (.node (.node (.node .nil none .nil) none .nil) (some Tryz.Oh) (.node (.node .nil none .nil) none .nil)))) none (.node (.node (.node (.node (.node .nil (some Tryz.YV) .nil) (some Tryz.TN) (.node .nil none .nil)) none (.node (.node .nil none .nil) (some Tryz.YB) .nil)) (some Tryz.x46) (.node (.node (.node .nil (some Tryz.Y') .nil) none .nil) (some Tryz.XZ) (.node (.node .nil (some Tryz.Zq) .nil) none .nil))) none (.node (.node (.node (.node .nil none .nil) none .nil) (some Tryz.x94) (.node (.node .nil none .nil) (some Tryz.YQ) .nil)) (some Tryz.x62) (.node (.node (.node .nil none .nil) (some Tryz.Yl) .nil) (some Tryz.Ya) (.node (.node .nil none .nil) none .nil))))))))
end Go.Proofs

noncomputable section
namespace Go.Ab
namespace Lf
theorem AQ{α:Type}{l:List α}{j:Nat}{x:α}{r:List α}(h:l.drop j=x::r)(d:α):j<l.length/\l.getD j d=x:=by
 have fO:j<l.length:=by
  rcases Nat.lt_or_ge j l.length with k|k
  ·exact k
  ·rw[List.drop_eq_nil_of_le k]at h;cases h
 refine⟨fO,?_⟩
 rw[List.drop_eq_getElem_cons fO]at h
 injection h with h _
 simp[List.getD_eq_getElem?_getD,List.getElem?_eq_getElem fO,h]
theorem wrap_i64{n:Int}(h1: -9223372036854775808<=n)(h2:n<9223372036854775808):fM .i64 n=n:=by
 show Int.sub (Int.emod (Int.add n 9223372036854775808) 18446744073709551616) 9223372036854775808=n
 have e:Int.emod (Int.add n 9223372036854775808) 18446744073709551616=n+9223372036854775808:=Int.emod_eq_of_lt (by show 0<=n+_;omega) (by show n+_<_;omega)
 rw[e]
 show n+9223372036854775808 - 9223372036854775808=n
 omega
theorem afL{j:Nat}(h:j<4611686018427387904):bL .i64 (j:Int) 1=((j+1:Nat):Int):=by
 unfold bL
 rw[wrap_i64 (by omega) (by omega)]
 omega
theorem cZ{j n:Nat}(h:j<n):bF (j:Int) (Int.ofNat n)=true:=by
 rw[np];exact⟨by omega,by have:Int.ofNat n=(n:Int):=rfl;omega⟩
theorem pC{j n:Nat}(h:j<n):decide ((j:Int)<(n:Int))=true:=decide_eq_true (by omega)
theorem mB{j n:Nat}(h:n<=j):decide ((j:Int)<(n:Int))=false:=decide_eq_false (by omega)
end Lf
end Go.Ab
namespace Go.Ab.Lf
def AR(l:List Ty):aG l:=List.rec (motive:=aG) () (fun t _ ih=>(aE t,ih)) l
def fy(to:List Ty)(x:T (List Pl)):Bool:=match x.val with
 |some q=>(match toT to q with
  |some _=>true
  |none=>false)
 |none=>false
def ej(to:List Ty)(x:T (List Pl)):aG to:=match x.val with
 |some q=>(match toT to q with
  |some y=>y
  |none=>AR to)
 |none=>AR to
theorem JO{to:List Ty}{x:T (List Pl)}(h:fy to x=true):x.val=some (aH to (ej to x)):=by
 unfold fy at h
 unfold ej
 split at h
 ·rename_i q hq
  rw[hq]
  split at h
  ·rename_i y hy
   rw[po hy]
  ·cases h
 ·cases h
theorem dq{call:fP}{aR:bb}(C:qI call aR){f:FuncId}{b:cQ}(hb:pj aR f b)(wL:Nat.ble b.ntmps 512=true){L:Nat->Option i7}(hL:qK Rx.w aR L b.code){m:Nat}{P:kR}{ptr:List Nat}{Q:kR}{ti to:List Ty}{ok:aG ti->Bool}{out:aG ti->aG to}
 (h0:fB (fun g=> !(Nat.beq g 0)) ptr=true)(h1: ∀ x,ok x=fy to (mg P ptr Q L b m call (aH ti x)))(h2: ∀ x,out x=ej to (mg P ptr Q L b m call (aH ti x))):(j7 P ptr Q ti to fun x=>.ck (ok x) (.ok (out x))).Ok f aR:=by
 refine tc C hb wL hL (m:=m) h0 fun x y h=>?_
 obtain⟨a,b⟩:=T.dj h
 cases b
 rw[h2]
 exact JO (by rw[<-h1];exact a)
end Go.Ab.Lf

noncomputable section
namespace Go.Ab.Lf
theorem mR: ∀ {l:List Ty} (x:aG l),toT l (aH l x)=some x
 | [],_=>rfl
 |t::l,x=>by
  have ih:=mR (l:=l) x.2
  have key: ∀ (o:Option (PLift (t=t))) (p:Option (aG l)),o=some ⟨rfl⟩->p=some x.2->(match o with|some ⟨e⟩=>(match p with|some y=>some ((Eq.rec (motive:=fun s _=>den s) x.1 e:den t),y)|none=>none)|none=>none:Option (aG (t::l)))=some x:=by
   intro o p ho hp
   subst ho;subst hp
   rfl
  have e:toT (t::l) (aH (t::l) x)=(match sf t t with|some ⟨e⟩=>(match toT l (aH l x.2)with|some y=>some ((Eq.rec (motive:=fun s _=>den s) x.1 e:den t),y)|none=>none)|none=>none:Option (aG (t::l))):=by kernel_rfl
  rw[e]
  exact key _ _ (ko t) ih
theorem nu.det{f:List Pl->T Rs}{pl:List Pl}{k:Nat}{q:List Pl}(h:nu f pl k q): ∀ {k':Nat} {q':List Pl},nu f pl k' q'->k=k'/\q=q':=by
 induction h with
 |last e=>
  intro k' q' h'
  cases h' with
  |last e'=>rw[e]at e';cases e';exact⟨rfl,rfl⟩
  |more e' _=>rw[e]at e';cases e'
 |more e _ ih=>
  intro k' q' h'
  cases h' with
  |last e'=>rw[e]at e';cases e'
  |more e' r=>rw[e]at e';cases e';exact ih r
def AU(f:List Pl->T Rs)(pl:List Pl):Option (Nat×List Pl):=by
 classical exact if h: ∃ p:Nat×List Pl,nu f pl p.1 p.2 then some (Classical.choose h)else none
theorem tf{f:List Pl->T Rs}{pl:List Pl}{k:Nat}{q:List Pl}(h:nu f pl k q):AU f pl=some (k,q):=by
 unfold AU
 have hx: ∃ p:Nat×List Pl,nu f pl p.1 p.2:=⟨(k,q),h⟩
 rw[dif_pos hx]
 obtain⟨a,b⟩:=(Classical.choose_spec hx).det h
 exact congrArg some (Prod.ext a b)
theorem yW{f:List Pl->T Rs}{pl:List Pl}{k:Nat}{q:List Pl}(h:AU f pl=some (k,q)):nu f pl k q:=by
 unfold AU at h
 split at h
 ·rename_i hx
  have:=Classical.choose_spec hx
  injection h with h
  rw[h]at this
  exact this
 ·cases h
def zy(f:List Pl->T Rs)(ti to:List Ty)(x:aG ti):Bool:=match AU f (aH ti x)with
 |some (0,q)=>(toT to q).isSome
 | _=>false
def je(f:List Pl->T Rs)(ti to:List Ty)(x:aG ti):aG to:=match AU f (aH ti x)with
 |some (_,q)=>(toT to q).getD (AR to)
 |none=>AR to
theorem xJ{f:List Pl->T Rs}{ti to:List Ty}{x:aG ti}{y:aG to}(h:nu f (aH ti x) 0 (aH to y)):zy f ti to x=true/\je f ti to x=y:=by
 unfold zy je
 rw[tf h]
 simp only[mR]
 exact⟨rfl,rfl⟩
theorem T6{f:List Pl->T Rs}{ti to:List Ty}{x:aG ti}(h:zy f ti to x=true):nu f (aH ti x) 0 (aH to (je f ti to x)):=by
 unfold zy at h
 unfold je
 split at h
 ·rename_i q hq
  rw[hq]
  cases hy:toT to q with
  |none=>rw[hy]at h;cases h
  |some y=>
   have:=po hy
   subst this
   simp only[mR]
   exact yW hq
 ·cases h
def CU(l:ta)(f:List Pl->T Rs)(ti to:List Ty):i7:=mkL l ti fun x=>.ck (zy f ti to x) (.ok (0,aH to (je f ti to x)))
theorem pV{call:fP}{aR:bb}(C:qI call aR){l:ta}{L:Nat->Option i7}{m:Nat}(hL:qK Rx.w aR L l.body)(ti to:List Ty):kj Rx.w (CU l (l.step L call m) ti to) (fun n d=>kM (aR n d) n (.bl l.id (.lp l.body))):=
 JL C hL (m:=m) fun x k q h=>by
  obtain⟨h1,h2⟩:=T.dj h
  cases h2
  exact T6 h1
def wS(f:List Pl->T Rs)(ti t0 t1:List Ty)(x:aG ti):Bool:=match AU f (aH ti x)with
 |some (0,q)=>(toT t0 q).isSome
 |some (1,q)=>(toT t1 q).isSome
 | _=>false
def vW(f:List Pl->T Rs)(ti:List Ty)(x:aG ti):Bool:=match AU f (aH ti x)with
 |some (0,_)=>true
 | _=>false
theorem nW{f:List Pl->T Rs}{ti t0 t1:List Ty}{x:aG ti}{y:aG t0}(h:nu f (aH ti x) 0 (aH t0 y)):wS f ti t0 t1 x=true/\vW f ti x=true/\je f ti t0 x=y:=by
 unfold wS vW je
 rw[tf h]
 simp only[mR]
 exact⟨rfl,trivial,rfl⟩
theorem nX{f:List Pl->T Rs}{ti t0 t1:List Ty}{x:aG ti}{y:aG t1}(h:nu f (aH ti x) 1 (aH t1 y)):wS f ti t0 t1 x=true/\vW f ti x=false/\je f ti t1 x=y:=by
 unfold wS vW je
 rw[tf h]
 simp only[mR]
 exact⟨rfl,trivial,rfl⟩
theorem T7{f:List Pl->T Rs}{ti t0 t1:List Ty}{x:aG ti}(h:wS f ti t0 t1 x=true):(vW f ti x=true->nu f (aH ti x) 0 (aH t0 (je f ti t0 x)))/\(vW f ti x=false->nu f (aH ti x) 1 (aH t1 (je f ti t1 x))):=by
 unfold wS at h
 unfold vW je
 split at h
 ·rename_i q hq
  rw[hq]
  refine⟨fun _=>?_,fun e=>by cases e⟩
  cases hy:toT t0 q with
  |none=>rw[hy]at h;cases h
  |some y=>
   have:=po hy
   subst this
   simp only[mR]
   exact yW hq
 ·rename_i q hq
  rw[hq]
  refine⟨fun e=>(by simp at e),fun _=>?_⟩
  cases hy:toT t1 q with
  |none=>rw[hy]at h;cases h
  |some y=>
   have:=po hy
   subst this
   simp only[mR]
   exact yW hq
 ·cases h
def wT(l:ta)(f:List Pl->T Rs)(ti t0 t1:List Ty):i7:=mkL l ti fun x=>.ck (wS f ti t0 t1 x) (.br (vW f ti x) (.ok (0,aH t0 (je f ti t0 x))) (.ok (1,aH t1 (je f ti t1 x))))
theorem lC{call:fP}{aR:bb}(C:qI call aR){l:ta}{L:Nat->Option i7}{m:Nat}(hL:qK Rx.w aR L l.body)(ti t0 t1:List Ty):kj Rx.w (wT l (l.step L call m) ti t0 t1) (fun n d=>kM (aR n d) n (.bl l.id (.lp l.body))):=
 JL C hL (m:=m) fun x k q h=>by
  obtain⟨h1,h2⟩:=T.dj h
  obtain⟨r0,r1⟩:=T7 h1
  rw[T.yI]at h2
  cases hb:vW (l.step L call m) ti x with
  |true=>rw[hb]at h2;cases h2;exact r0 hb
  |false=>rw[hb]at h2;cases h2;exact r1 hb
theorem T8{to:List Ty}{t:T (List Pl)}{y:aG to}(h:t.val=some (aH to y)):fy to t=true/\ej to t=y:=by
 unfold fy ej
 rw[h]
 simp only[mR]
 exact⟨trivial,trivial⟩
end Go.Ab.Lf

noncomputable section
namespace Go.Ab.Lf
def yX(t:Ty):ey:=j7 (.cons (.im t) .nil) [] (.cons (.ow t) .nil) [.aC t] [.aC t] fun x=>.ck (decide (List.length x.1<=1099511627776)) (.ok (x.1,()))
def flat(t:Ty):Bool:=Ty.rec (motive:=fun _=>Bool) (fun _=>true) true true (fun _ _=>false) (fun _ _ a b=>bif a then b else false) t
theorem uL{G G':Nat->Option Rw}: ∀ (t:Ty) (x:den t) (cs:List AV),flat t=true->EV G t x cs->EV G' t x cs
 | .int _,_,_,_,e=>e
 | .bool,_,_,_,e=>e
 | .str,_,_,_,e=>e
 | .aC _,_,_,h,_=>by cases h
 | .pair a b,x,cs,h,⟨c,d,e,k1,k2⟩=>by
  have h:(bif flat a then flat b else false)=true:=h
  cases ha:flat a with
  |false=>rw[ha]at h;cases h
  |true=>rw[ha]at h;exact⟨c,d,e,uL a _ _ ha k1,uL b _ _ h k2⟩
def Oq:Sv->Bool
 | .os _ _| .ss _ _ _ _=>true
 | _=>false
theorem Zu{t:Ty}{v:Sv}{a:AV}{x:List (den t)}{E:En}{H H1:Hq}{h:Hp}(S:SR E H h)(ho:Oq v=true)(hv:V E H.next v a)(e:Ar t v H=some (x,H1)): ∀ id,jN a=some id->id<h.next:=by
 intro id hi
 cases v with
 |os r s=>
  change (match H.aU.get r with|some (.l t' x)=>(match sf t' t with|some ⟨e⟩=>some ((e▸x:List (den t)),H)|none=>none)| _=>none)=some (x,H1)at e
  split at e
  ·rename_i t' y hr
   cases hv with
   |os _ _=>exact S.lt r id ⟨_,hr,rfl⟩ hi
  ·cases e
 |ss r s off n=>
  change (match H.aU.get r with|some (.l t' x)=>(match sf t' t with|some ⟨e⟩=>some (((e▸x:List (den t)).drop off).take n,H)|none=>none)| _=>none)=some (x,H1)at e
  split at e
  ·rename_i t' y hr
   cases hv with
   |se _ h1 _ _=>exact S.lt r id ⟨_,hr,rfl⟩ hi
   |ss _ h1 _=>exact S.lt r id ⟨_,hr,rfl⟩ (by rw[h1];exact hi)
  ·cases e
 | _=>cases ho
theorem AW{t:Ty}{x:List (den t)}{r:List Pl}{H:Hq}:eQ (.im t) (⟨.aC t,x⟩::r) H=some ([.c H.next (.aC t) x],r,⟨Nat.add H.next 1,H.aU⟩):=by
 unfold eQ;simp only[ko]
theorem JP{t:Ty}{x:List (den t)}{r:List Pl}{H:Hq}:eQ (.ow t) (⟨.aC t,x⟩::r) H=some ([.os H.next (size t)],r,dP H (.l t x)):=by
 unfold eQ;simp only[ko]
theorem th{p:kR}{pl:List Pl}{H H':Hq}{v:List Sv}(h:eQ p pl H=some (v,[],H')):eQ (.cons p .nil) pl H=some (v,[],H'):=by
 show(match eQ p pl H with|some (v,r,H)=>(match eQ .nil r H with|some (w,r,H)=>some (app v w,r,H)|none=>none)|none=>none)=_
 rw[h]
 show some (app v [],([]:List Pl),H')=_
 rw[dn,List.append_nil]
theorem JQ{t:Ty}(ft:flat t=true){f:FuncId}{aR:bb}(k:(yX t).Ok f aR){E:En}{H H1:Hq}{h:Hp}{v:Sv}{a:AV}{x:List (den t)}(S:SR E H h)(ho:Oq v=true)(hv:V E H.next v a)(hp:Ar t v H=some (x,H1))(hl:x.length<=1099511627776):
 ∃ c h' E',Ev (fun n d=>aR n d f [a] h) (.ok c h')/\Nx E E' H (dP H (.l t x)) h h'/\SR E' (dP H (.l t x)) h'/\V E' (dP H (.l t x)).next (.os H.next (size t)) c:=by
 have gK:=Zu S ho hv hp
 obtain⟨E1,F,D⟩:=uI S hv hp
 obtain⟨G0,hG,hE⟩: ∃ G0:Nat->Option Rw,(∀ id row,G0 id=some row->id<h.next/\h.aU.get id=some row)/\EV G0 (.aC t) x [a]:=by
  rcases D with⟨d1,d2⟩|⟨id,base,row,ls,d1,d2,d3,d4⟩
  ·exact⟨fun _=>none,fun _ _ e=>(by cases e),a,rfl,.inl ⟨d1,d2⟩⟩
  ·refine⟨fun i=>if i=id then some row else none,fun i r e=>?_,a,rfl,.inr ⟨ls,d4.mono fun y c e=>uL t y c ft e,.inr ⟨id,base,row,d1,if_pos rfl,d3⟩⟩⟩
   dsimp only at e
   split at e
   ·rename_i q
    cases e
    subst q
    exact⟨gK i (by rw[d1];rfl),d2⟩
   ·cases e
 obtain⟨E0,hE0⟩: ∃ E0:En,E0=⟨fun _=>⟨.any,0⟩,fun _=>a,G0,fun _=>.any⟩:=⟨_,rfl⟩
 have no: ∀ r R,¬ (Tr.nil:Tr Row).get r=some R:=fun r R h=>by
  have h:(none:Option Row)=some R:=h
  cases h
 have hf:eQ (yX t).P (aH [.aC t] (x,())) e1=some ([.c 1 (.aC t) x],[],⟨2,.nil⟩):=by
  exact th AW
 have hs:((yX t).f (aH [.aC t] (x,()))).val=some (aH [.aC t] (x,())):=by
  unfold yX j7
  simp only[mR]
  show(bif decide (x.length<=1099511627776)then some (aH [.aC t] (x,()))else none)=_
  rw[decide_eq_true hl]
  rfl
 have hS0:SR E0 (eS ⟨2,.nil⟩) h:=by
  have et:eS ⟨2,.nil⟩=(⟨2,.nil⟩:Hq):=rfl
  rw[et]
  refine⟨fun r R h=>(no r R h).elim,?_,?_,fun id row e=>?_⟩
  ·rintro r r' id ⟨R,h,_⟩;exact(no r R h).elim
  ·rintro r id ⟨R,h,_⟩;exact(no r R h).elim
  ·subst hE0
   obtain⟨g1,g2⟩:=hG id row e
   refine⟨g1,g2,?_⟩
   rintro r ⟨R,h,_⟩;exact(no r R h).elim
 obtain⟨c,h',E2,ws,H2,hev,X,S2,hq,hV⟩:=k _ _ _ _ E0 h [a] hs hf (.cons (.c (by subst hE0;exact hE) fun _=>⟨by decide,by subst hE0;rfl⟩) .nil) hS0
 have hq2:eQ (yX t).Q (aH [.aC t] (x,())) e1=some ([.os 1 (size t)],[],dP e1 (.l t x)):=by
  exact th JP
 rw[hq2]at hq
 cases hq
 have h1:(dP e1 (.l t x)).aU.get 1=some (.l t x):=by rw[gQ];exact if_pos rfl
 have R1:=(S2.row 1 _ h1).2
 have Zv:own (dP e1 (.l t x)) 1:=⟨_,h1,rfl⟩
 have hc:c=(E2.K 1).av:=by
  cases hV with
  |cons hc _=>cases hc with
   |os _ _=>rfl
 have noO: ∀ r,¬ own (eS ⟨2,.nil⟩) r:=by
  have et:eS ⟨2,.nil⟩=(⟨2,.nil⟩:Hq):=rfl
  rw[et]
  rintro r ⟨R,h,_⟩;exact no r R h
 have R3:RV E H.next h' (E2.K 1) (.l t x):=by
  obtain⟨q1,q2⟩:=R1
  refine⟨q1,?_⟩
  rcases q2 with q2|⟨id,base,row,ls,k1,k2,k3,k4⟩
  ·exact .inl q2
  ·exact .inr ⟨id,base,row,ls,k1,k2,k3,k4.mono fun y c e=>uL t y c ft e⟩
 obtain⟨S3,X3⟩:=jj S rfl (fun _ _ e=>e) X.yH (fun id hi _=>X.fr id hi fun r o _=>noO r o) (fun id e=>⟨S2.lt 1 id Zv e,.inl (by
  rcases X.ow 1 id Zv e with⟨r,o,_⟩|q
  ·exact(noO r o).elim
  ·exact q)⟩) R3 rfl
 refine⟨c,h',_,hev,X3,S3,?_⟩
 have K0:(E.row H.next (E2.K 1)).K H.next=E2.K 1:=if_pos rfl
 have nF:=V.os (E:=E.row H.next (E2.K 1)) (N:=(dP H (.l t x)).next) (r:=H.next) (sz:=size t) (Nat.lt_succ_self _) (by
  rw[K0]
  obtain⟨q1,q2⟩:=R3
  rcases q2 with⟨k1,k2⟩|⟨id,base,row,ls,k1,_⟩
  ·exact .inl ⟨k1,by rw[<-q1,k2];rfl⟩
  ·exact .inr ⟨id,base,k1⟩)
 rw[K0,<-hc]at nF
 exact nF
def clW(cl:FuncId->Option Ty)(base:fP):fP:=fun f args H=>match cl f with
 |some t=>(match args with
  | [v]=>bif Oq v then(match Ar t v H with
   |some (x,_)=>.ck (decide (x.length<=1099511627776)) (.ok (.os H.next (size t),dP H (.l t x)))
   |none=>base f args H)else base f args H
  | _=>base f args H)
 |none=>base f args H
theorem T9{cl:FuncId->Option Ty}{base:fP}{aR:bb}(hc: ∀ f t,cl f=some t->flat t=true/\(yX t).Ok f aR)(C:qI base aR):qI (clW cl base) aR:=by
 intro E f args az H h v H' hv hS e
 unfold clW at e
 split at e
 ·rename_i t ht
  obtain⟨ft,k⟩:=hc f t ht
  split at e
  ·rename_i w
   cases ho:Oq w with
   |false=>rw[ho]at e;exact C E f _ _ H h v H' hv hS e
   |true=>
    rw[ho,cond_true]at e
    split at e
    ·rename_i x H1 hp
     obtain⟨h1,h2⟩:=T.dj e
     cases h2
     cases hv with
     |cons ha hr=>
      cases hr
      exact JQ ft k hS ho ha hp (of_decide_eq_true h1)
    ·exact C E f _ _ H h v H' hv hS e
  ·exact C E f _ _ H h v H' hv hS e
 ·exact C E f _ _ H h v H' hv hS e
def Ua(cl:FuncId->Option Ty)(bk:FuncId->Option cQ)(Wo:FuncId->Option ey)(m d:Nat):fP:=Nat.rec (fun _ _ _=>.bad) (fun _ ih=>clW cl fun f args h=>match Wo f with
 |some s=>s.call args h
 |none=>(match bk f with
  |some b=>bif Nat.ble b.ntmps 512 then At (fun _=>none) b m ih args h else .bad
  |none=>.bad)) d
theorem D9{cl:FuncId->Option Ty}{bk:FuncId->Option cQ}{Wo:FuncId->Option ey}{m:Nat}{aR:bb}(hc: ∀ f t,cl f=some t->flat t=true/\(yX t).Ok f aR)(hb: ∀ f b,bk f=some b->pj aR f b)(he: ∀ f s,Wo f=some s->s.Ok f aR): ∀ d,qI (Ua cl bk Wo m d) aR
 |0=>by intro E f args az H h v H' _ _ e;cases e
 |d+1=>T9 hc (by
  intro E f args az H h v H' hv hH e
  change (match Wo f with|some s=>s.call args H|none=>(match bk f with|some b=>bif Nat.ble b.ntmps 512 then At (fun _=>none) b m (Ua cl bk Wo m d) args H else .bad|none=>.bad)).val=some (v,H')at e
  split at e
  ·rename_i s hs
   exact Oa (he f s hs) hv hH e
  ·split at e
   ·rename_i b BD
    obtain⟨h5,e⟩:=eO e
    exact AK (D9 hc hb he d) (R:=Rx.s) (hb f b BD) (Nat.le_of_ble_eq_true h5) (bU _) hv hH e
   ·cases e)
def cT{α:Type}(a:α):α:=Classical.choose (⟨a,rfl⟩: ∃ x,x=a)
theorem ai{α:Type}(a:α):cT a=a:=Classical.choose_spec (⟨a,rfl⟩: ∃ x,x=a)
theorem cg{to:List Ty}{t:T (List Pl)}{y:aG to}{k:Bool}{m:aG to}(hk:k=fy to t)(hm:m=ej to t)(h:t.val=some (aH to y)):k=true/\m=y:=by
 rw[hk,hm]
 exact T8 h
end Go.Ab.Lf

noncomputable section
namespace Go.Proofs
open Go.Ab Go.Ab.Lf
def exQ(f:Nat):Bool:=Nat.beq f 10||(Nat.beq f 56||(Nat.beq f 305||(Nat.beq f 132||(Nat.beq f 49||(Nat.beq f 50||(Nat.beq f 52||Nat.beq f 53))))))
def Wp:FuncId->Option cQ:=fun f=>bif exQ f then none else Tryz.xs.get f
end Go.Proofs
namespace Go.Proofs.Vq
open Go.Ab Go.Ab.Lf
set_option maxRecDepth 100000
abbrev i64:Ty:=.int .i64
abbrev u64:Ty:=.int .u64
abbrev u32:Ty:=.int .u32
abbrev u8:Ty:=.int .u8
abbrev tI:Ty:=.pair i64 (.pair i64 (.pair i64 (.pair u64 (.pair u64 (.aC i64)))))
abbrev bz:Ty:=.pair (.aC i64) (.aC i64)
abbrev tZ:Ty:=.pair .str (.pair .str i64)
abbrev mS:Ty:=.pair i64 i64
abbrev ua:Ty:=.pair i64 (.pair .bool (.aC tI))
abbrev ub:Ty:=.pair .str (.pair i64 i64)
abbrev uc:Ty:=.pair (.aC tI) (.aC i64)
abbrev ud:Ty:=.pair (.aC i64) (.aC tI)
abbrev ue:Ty:=.pair (.aC tI) (.aC u8)
abbrev bE:Ty:=.pair i64 (.pair i64 u64)
abbrev cr:Ty:=.pair i64 (.pair i64 (.pair i64 (.pair i64 (.pair i64 (.pair (.aC bE) (.aC i64))))))
abbrev tEv:Ty:=.pair i64 (.aC u64)
abbrev tM:List Ty:=[.aC bz,.aC tZ,.aC i64,.aC mS,.aC mS,.aC ua,.aC ub,i64,.aC uc,.aC ud,.aC ue]
abbrev Ps(l:List kR):kR:=l.foldr .cons .nil
def clQ:FuncId->Option Ty:=fun f=>bif Nat.beq f 67 then some u64 else bif Nat.beq f 70 then some i64 else none
def lE(l:List (Nat×ey))(m:Nat):fP:=Ua clQ Wp (TK l) m 12
def bJ{α:Type}(c:Bool)(x:Option α):Option α:=bif c then x else none
theorem pD{b n:Nat}(hb:b<=64)(h:n<=1099511627776):roomy b n=true:=by
 rw[nq]
 refine⟨?_,by omega⟩
 calc n*b<=1099511627776*64:=Nat.mul_le_mul h hb
  _<=70368744177664:=by decide
def Zw:ey:=⟨.nil,[],.nil,fun _=>.bad⟩
theorem Ou{f:Nat}{aR:bb}:Zw.Ok f aR:=fun _ _ _ _ _ _ _ e=>by cases e
abbrev l8(t:Ty):ey:=yX t
def Ov:ey:=j7 (.cons (.im cr) .nil) [] (.cons (.ow cr) .nil) [.aC cr] [.aC cr] fun x=>.ck (decide (List.length x.1<=549755813888)) (.ok (x.1,()))
def lz(b:Nat)(x:Int):Int:=(b:Int) - (Go.Lib.bitLen x.toNat:Int)
def tz(b:Nat)(x:Int):Int:=(Go.Lib.ctz b x.toNat:Nat)
def Wq(k:IntKind)(F:Int->Int)(b:Int):ey:=j7 (Ps [.n k]) [] (Ps [.n .i64]) [.int k] [i64] fun x=>.ck (decide (0<=(x.1:Int))&&decide ((x.1:Int)<=b)) (.ok (F x.1,()))
def s49:ey:=Wq .u32 (lz 32) 4294967295
def s50:ey:=Wq .u32 (tz 32) 4294967295
def s52:ey:=Wq .u64 (lz 64) 18446744073709551615
def s53:ey:=Wq .u64 (tz 64) 18446744073709551615
def JR:ey:=j7 (Ps [.ow u64,.n .i64,.n .i64]) [] (Ps [.ow u64]) [.aC u64,i64,i64] [.aC u64] fun x=>.ck (decide (0<=(x.2.1:Int)/\(x.2.1:Int)<=(x.2.2.1:Int)/\(x.2.2.1:Int)<=(List.length x.1:Int)/\List.length x.1<=1099511627776)) (.ok (app (List.take (x.2.1:Int).toNat x.1) (List.drop (x.2.2.1:Int).toNat x.1),()))
structure WQ(aR:bb):Prop where
 st: ∀ f b,Wp f=some b->pj aR f b
 Wr:(l8 u64).Ok 67 aR
 c69:(l8 bz).Ok 69 aR
 Zx:(l8 i64).Ok 70 aR
 c71:Ov.Ok 71 aR
 c72:(l8 bE).Ok 72 aR
 Zy:(l8 tZ).Ok 116 aR
 Zz:(l8 mS).Ok 117 aR
 ZA:(l8 ua).Ok 118 aR
 ZB:(l8 ub).Ok 120 aR
 ZC:(l8 uc).Ok 121 aR
 ZD:(l8 ud).Ok 122 aR
 ZE:(l8 ue).Ok 123 aR
 ZF:(l8 u8).Ok 124 aR
 ZG:(l8 tI).Ok 221 aR
 b49:s49.Ok 49 aR
 b50:s50.Ok 50 aR
 b52:s52.Ok 52 aR
 b53:s53.Ok 53 aR
 del:JR.Ok 305 aR
theorem WQ.cl{aR:bb}(W:WQ aR): ∀ f t,clQ f=some t->flat t=true/\(yX t).Ok f aR:=by
 intro f t h
 unfold clQ at h
 cases h1:Nat.beq f 67 with
 |true=>
  rw[h1]at h
  cases h
  obtain rfl:=Nat.eq_of_beq_eq_true h1
  exact⟨rfl,W.Wr⟩
 |false=>
  rw[h1,cond_false]at h
  cases h2:Nat.beq f 70 with
  |true=>
   rw[h2]at h
   cases h
   obtain rfl:=Nat.eq_of_beq_eq_true h2
   exact⟨rfl,W.Zx⟩
  |false=>rw[h2]at h;cases h
theorem WQ.in{aR:bb}(W:WQ aR){l:List (Nat×ey)}(h:eJ aR l)(m:Nat):qI (lE l m) aR:=D9 W.cl W.st h.ok 12
end Go.Proofs.Vq

noncomputable section
namespace Go.Proofs.Vq
open Go.Ab Go.Ab.Lf
set_option maxRecDepth 100000
abbrev JS:List Ty:=[i64]
abbrev oH:List Ty:=[i64]
def e11:List (Nat×ey):=[]
theorem Ub{aR:bb}(W:WQ aR):eJ aR e11:=.nil
def t11(x:aG JS):Lf.T (List Pl):=mg (Ps [.n .i64]) [] (Ps [.n .i64]) (fun _=>none) Tryz.x11 3 (lE e11 3) (aH JS x)
def CV(x:aG JS):Bool:=cT (fy oH (t11 x))
def m11(x:aG JS):aG oH:=cT (ej oH (t11 x))
def Ws:ey:=j7 (Ps [.n .i64]) [] (Ps [.n .i64]) JS oH fun x=>.ck (CV x) (.ok (m11 x))
theorem vX{aR:bb}(W:WQ aR):Ws.Ok 11 aR:=
 dq (W.in (Ub W) 3) (W.st 11 _ rfl) rfl (bU _) (m:=3) rfl (fun _=>ai _) (fun _=>ai _)
abbrev qi:List Ty:=[.aC i64,i64,i64]
abbrev nY:List Ty:=[]
abbrev mC:List Ty:=[.bool]
def Ow:ta:=⟨0,qM Tryz.x83.code 0,[5,6,7],(Ps [.im i64,.n .i64,.n .i64]),[⟨.xG,[],(Ps [])⟩,⟨.rt,[2],(Ps [.bo])⟩]⟩
def ZH:List (Nat×ey):=[]
theorem Oy{aR:bb}(W:WQ aR):eJ aR ZH:=.nil
def vY:List Pl->Lf.T Rs:=Ow.step (fun _=>none) (lE ZH 3) 3
def ZI:i7:=wT Ow vY qi nY mC
theorem Oz{aR:bb}(W:WQ aR):kj Rx.w ZI (fun n d=>kM (aR n d) n (.bl 0 (.lp Ow.body))):=lC (W.in (Oy W) 3) (bU _) (m:=3) qi nY mC
def L83:Nat->Option i7:=Gh [(0,ZI)]
abbrev JT:List Ty:=[.aC i64]
abbrev AX:List Ty:=[.bool]
def e83:List (Nat×ey):=[]
theorem Uc{aR:bb}(W:WQ aR):eJ aR e83:=.nil
def t83(x:aG JT):Lf.T (List Pl):=mg (Ps [.im i64]) [] (Ps [.bo]) L83 Tryz.x83 3 (lE e83 3) (aH JT x)
def Wt(x:aG JT):Bool:=cT (fy AX (t83 x))
def Wu(x:aG JT):aG AX:=cT (ej AX (t83 x))
def s83:ey:=j7 (Ps [.im i64]) [] (Ps [.bo]) JT AX fun x=>.ck (Wt x) (.ok (Wu x))
theorem Ud{aR:bb}(W:WQ aR):s83.Ok 83 aR:=
 dq (W.in (Uc W) 3) (W.st 83 _ rfl) rfl (p8.qK (.cons (b:=Ow.body) (by kernel_rfl) (Oz W) .nil)) (m:=3) rfl (fun _=>ai _) (fun _=>ai _)
abbrev AY:List Ty:=[i64]
abbrev fe:List Ty:=[.bool]
def ZJ:List (Nat×ey):=[(11,Ws)]
theorem OA{aR:bb}(W:WQ aR):eJ aR ZJ:=(.cons (vX W) .nil)
def t245(x:aG AY):Lf.T (List Pl):=mg (Ps [.n .i64]) [] (Ps [.bo]) (fun _=>none) Tryz.TU 3 (lE ZJ 3) (aH AY x)
def OB(x:aG AY):Bool:=cT (fy fe (t245 x))
def JU(x:aG AY):aG fe:=cT (ej fe (t245 x))
def ZK:ey:=j7 (Ps [.n .i64]) [] (Ps [.bo]) AY fe fun x=>.ck (OB x) (.ok (JU x))
theorem OC{aR:bb}(W:WQ aR):ZK.Ok 245 aR:=
 dq (W.in (OA W) 3) (W.st 245 _ rfl) rfl (bU _) (m:=3) rfl (fun _=>ai _) (fun _=>ai _)
abbrev AZ:List Ty:=[.aC bz,.aC cr,i64,i64,i64,i64,i64,.aC bE,.aC i64,i64,i64,i64,u64]
abbrev kS:List Ty:=[.bool]
def ZL:List (Nat×ey):=[(245,ZK)]
theorem OD{aR:bb}(W:WQ aR):eJ aR ZL:=(.cons (OC W) .nil)
def t141(x:aG AZ):Lf.T (List Pl):=mg (Ps [.ag (Ps [.im bz,.im cr]),.zp (Ps [.n .i64,.n .i64,.n .i64,.n .i64,.n .i64,.im bE,.im i64]),.n .i64,.ag (Ps [.n .i64,.n .i64,.n .u64])]) [] (Ps [.bo]) (fun _=>none) Tryz.TM 3 (lE ZL 3) (aH AZ x)
def OE(x:aG AZ):Bool:=cT (fy kS (t141 x))
def OG(x:aG AZ):aG kS:=cT (ej kS (t141 x))
def ZM:ey:=j7 (Ps [.ag (Ps [.im bz,.im cr]),.zp (Ps [.n .i64,.n .i64,.n .i64,.n .i64,.n .i64,.im bE,.im i64]),.n .i64,.ag (Ps [.n .i64,.n .i64,.n .u64])]) [] (Ps [.bo]) AZ kS fun x=>.ck (OE x) (.ok (OG x))
theorem OH{aR:bb}(W:WQ aR):ZM.Ok 141 aR:=
 dq (W.in (OD W) 3) (W.st 141 _ rfl) rfl (bU _) (m:=3) rfl (fun _=>ai _) (fun _=>ai _)
abbrev qj:List Ty:=[i64,i64,i64,i64,i64,.aC bE,.aC i64,.aC bz,.aC cr,.aC bE,i64,i64]
abbrev nZ:List Ty:=[]
abbrev mD:List Ty:=[.bool]
def OI:ta:=⟨0,qM Tryz.x84.code 0,[1,2,87,88,89],(Ps [.zp (Ps [.n .i64,.n .i64,.n .i64,.n .i64,.n .i64,.im bE,.im i64]),.pt 0 (Ps [.im bz,.im cr]),.im bE,.n .i64,.n .i64]),[⟨.xG,[],(Ps [])⟩,⟨.rt,[4],(Ps [.bo])⟩]⟩
def ZN:List (Nat×ey):=[(141,ZM)]
theorem OJ{aR:bb}(W:WQ aR):eJ aR ZN:=(.cons (OH W) .nil)
def vZ:List Pl->Lf.T Rs:=OI.step (fun _=>none) (lE ZN 3) 3
def ZO:i7:=wT OI vZ qj nZ mD
theorem OK{aR:bb}(W:WQ aR):kj Rx.w ZO (fun n d=>kM (aR n d) n (.bl 0 (.lp OI.body))):=lC (W.in (OJ W) 3) (bU _) (m:=3) qj nZ mD
def L84:Nat->Option i7:=Gh [(0,ZO)]
abbrev JV:List Ty:=[.aC bz,.aC cr,i64,i64,i64,i64,i64,.aC bE,.aC i64]
abbrev uf:List Ty:=[.bool]
def e84:List (Nat×ey):=[]
theorem Ue{aR:bb}(W:WQ aR):eJ aR e84:=.nil
def t84(x:aG JV):Lf.T (List Pl):=mg (Ps [.ag (Ps [.im bz,.im cr]),.zp (Ps [.n .i64,.n .i64,.n .i64,.n .i64,.n .i64,.im bE,.im i64])]) [] (Ps [.bo]) L84 Tryz.x84 3 (lE e84 3) (aH JV x)
def k84(x:aG JV):Bool:=cT (fy uf (t84 x))
def m84(x:aG JV):aG uf:=cT (ej uf (t84 x))
def s84:ey:=j7 (Ps [.ag (Ps [.im bz,.im cr]),.zp (Ps [.n .i64,.n .i64,.n .i64,.n .i64,.n .i64,.im bE,.im i64])]) [] (Ps [.bo]) JV uf fun x=>.ck (k84 x) (.ok (m84 x))
theorem Uf{aR:bb}(W:WQ aR):s84.Ok 84 aR:=
 dq (W.in (Ue W) 3) (W.st 84 _ rfl) rfl (p8.qK (.cons (b:=OI.body) (by kernel_rfl) (OK W) .nil)) (m:=3) rfl (fun _=>ai _) (fun _=>ai _)
abbrev iZ:List Ty:=[.aC bz,.aC cr,.aC bz,i64,i64]
abbrev fH:List Ty:=[.aC bz,.aC cr]
abbrev jt:List Ty:=[i64]
def OL:ta:=⟨0,qM Tryz.XX.code 0,[1,7,8,9],(Ps [.pt 0 (Ps [.im bz,.im cr]),.im bz,.n .i64,.n .i64]),[⟨.xG,[1],(Ps [.pt 0 (Ps [.im bz,.im cr])])⟩,⟨.rt,[2],(Ps [.n .i64])⟩]⟩
def ZP:List (Nat×ey):=[(83,s83)]
theorem OM{aR:bb}(W:WQ aR):eJ aR ZP:=(.cons (Ud W) .nil)
def f340:List Pl->Lf.T Rs:=OL.step (fun _=>none) (lE ZP 3) 3
def ZQ:i7:=wT OL f340 iZ fH jt
theorem ON{aR:bb}(W:WQ aR):kj Rx.w ZQ (fun n d=>kM (aR n d) n (.bl 0 (.lp OL.body))):=lC (W.in (OM W) 3) (bU _) (m:=3) iZ fH jt
abbrev nz:List Ty:=[.aC bz,.aC cr,i64,i64]
abbrev mE:List Ty:=[]
abbrev j8:List Ty:=[i64]
def OO:ta:=⟨2,qM Tryz.XX.code 2,[1,26,27],(Ps [.pt 0 (Ps [.im bz,.im cr]),.n .i64,.n .i64]),[⟨.xG,[],(Ps [])⟩,⟨.rt,[2],(Ps [.n .i64])⟩]⟩
def ZR:List (Nat×ey):=[(84,s84)]
theorem OP{aR:bb}(W:WQ aR):eJ aR ZR:=(.cons (Uf W) .nil)
def f342:List Pl->Lf.T Rs:=OO.step (fun _=>none) (lE ZR 3) 3
def ZS:i7:=wT OO f342 nz mE j8
theorem OQ{aR:bb}(W:WQ aR):kj Rx.w ZS (fun n d=>kM (aR n d) n (.bl 2 (.lp OO.body))):=lC (W.in (OP W) 3) (bU _) (m:=3) nz mE j8
def L34:Nat->Option i7:=Gh [(0,ZQ),(2,ZS)]
abbrev JW:List Ty:=[.aC bz,.aC cr]
abbrev ug:List Ty:=[i64]
def e34:List (Nat×ey):=[]
theorem Ug{aR:bb}(W:WQ aR):eJ aR e34:=.nil
def t34(x:aG JW):Lf.T (List Pl):=mg (Ps [.ag (Ps [.im bz,.im cr])]) [] (Ps [.n .i64]) L34 Tryz.XX 3 (lE e34 3) (aH JW x)
def Wv(x:aG JW):Bool:=cT (fy ug (t34 x))
def Rb(x:aG JW):aG ug:=cT (ej ug (t34 x))
def s34:ey:=j7 (Ps [.ag (Ps [.im bz,.im cr])]) [] (Ps [.n .i64]) JW ug fun x=>.ck (Wv x) (.ok (Rb x))
theorem CW{aR:bb}(W:WQ aR):s34.Ok 34 aR:=
 dq (W.in (Ug W) 3) (W.st 34 _ rfl) rfl (p8.qK (.cons (b:=OL.body) (by kernel_rfl) (ON W) (.cons (b:=OO.body) (by kernel_rfl) (OQ W) .nil))) (m:=3) rfl (fun _=>ai _) (fun _=>ai _)
end Go.Proofs.Vq

noncomputable section
namespace Go.Proofs.Vq
open Go.Ab Go.Ab.Lf
set_option maxRecDepth 100000
abbrev afZ(a:Nat):kR:=.pt a (Ps [.ow u8,.n .i64])
abbrev wU(a b:Nat):kR:=.pt b (Ps [.ow u64,.im i64,.im i64,.im i64,.im bz,.im tZ,.im i64,.im mS,.im mS,.im ua,.im ub,.n .i64,.im uc,.im ud,.im ue,afZ a])
abbrev OR(c:Nat):kR:=.pt c (Ps [.ow u64,.ow tEv,.n .u32])
abbrev CX(a b c d:Nat):kR:=.pt d (Ps [.im bz,.im cr,wU a b,OR c,.im bz,.im tZ,.im i64,.im mS,.im mS,.im ua,.im ub,.n .i64,.im uc,.im ud,.im ue,.bo])
abbrev yY(a b c d e:Nat):kR:=.pt e (Ps [CX a b c d,.n .i64,.n .i64,.n .i64,.n .i64])
abbrev pFn:kR:=.zp (Ps [.n .i64,.n .i64,.n .i64,.n .i64,.n .i64,.im bE,.im i64])
abbrev iH(a b c d e f:Nat):kR:=.pt f (Ps [yY a b c d e,pFn,.n .i64,.ow u64,.ow u64])
abbrev kO(l:List Ty):List Ty:=.aC bz::.aC tZ::.aC i64::.aC mS::.aC mS::.aC ua::.aC ub::i64::.aC uc::.aC ud::.aC ue::l
abbrev uh(l:List Ty):List Ty:=.aC u64::.aC i64::.aC i64::.aC i64::kO (.aC u8::i64::l)
abbrev n5(l:List Ty):List Ty:=.aC u64::.aC tEv::u32::l
abbrev wV(l:List Ty):List Ty:=.aC bz::.aC cr::uh (n5 (kO (.bool::l)))
abbrev rR(l:List Ty):List Ty:=wV (i64::i64::i64::i64::l)
abbrev yZ(l:List Ty):List Ty:=i64::i64::i64::i64::i64::.aC bE::.aC i64::l
abbrev xK(l:List Ty):List Ty:=rR (yZ (i64::.aC u64::.aC u64::l))
structure Sto where
 gf:List Int
 small:List Int
 first:List Int
 tab:List Int
 mod:aG tM
 bytes:List Int
 most:Int
structure Ww where
 rep:List Int
 log:List (den tEv)
 code:Int
structure Gi where
 sigs:List (den bz)
 fns:List (den cr)
 s:Sto
 h:Ww
 mod:aG tM
 bad:Bool
structure Rn where
 m:Gi
 fuel:Int
 eG:Int
 depth:Int
 err:Int
structure ks where
 r:Rn
 f:den cr
 pc:Int
 st:List Int
 lo:List Int
abbrev ui(l:List Ty)(y:aG tM)(r:aG l):aG (kO l):=(y.1,y.2.1,y.2.2.1,y.2.2.2.1,y.2.2.2.2.1,y.2.2.2.2.2.1,y.2.2.2.2.2.2.1,y.2.2.2.2.2.2.2.1,y.2.2.2.2.2.2.2.2.1,y.2.2.2.2.2.2.2.2.2.1,y.2.2.2.2.2.2.2.2.2.2.1,r)
abbrev oJ(l:List Ty)(s:Sto)(r:aG l):aG (uh l):=(s.gf,s.small,s.first,s.tab,ui (.aC u8::i64::l) s.mod (s.bytes,s.most,r))
abbrev rS(l:List Ty)(s:Ww)(r:aG l):aG (n5 l):=(s.rep,s.log,s.code,r)
abbrev gp(l:List Ty)(s:Gi)(r:aG l):aG (wV l):=(s.sigs,s.fns,oJ (n5 (kO (.bool::l))) s.s (rS (kO (.bool::l)) s.h (ui (.bool::l) s.mod (s.bad,r))))
abbrev mT(l:List Ty)(s:Rn)(r:aG l):aG (rR l):=gp (i64::i64::i64::i64::l) s.m (s.fuel,s.eG,s.depth,s.err,r)
abbrev cFn(l:List Ty)(f:den cr)(r:aG l):aG (yZ l):=(f.1,f.2.1,f.2.2.1,f.2.2.2.1,f.2.2.2.2.1,f.2.2.2.2.2.1,f.2.2.2.2.2.2,r)
abbrev aJ(l:List Ty)(x:ks)(r:aG l):aG (xK l):=mT (yZ (i64::.aC u64::.aC u64::l)) x.r (cFn (i64::.aC u64::.aC u64::l) x.f (x.pc,x.st,x.lo,r))
def rnO(y:aG (rR [])):Rn:=⟨⟨y.1,y.2.1,⟨y.2.2.1,y.2.2.2.1,y.2.2.2.2.1,y.2.2.2.2.2.1,(y.2.2.2.2.2.2.1,y.2.2.2.2.2.2.2.1,y.2.2.2.2.2.2.2.2.1,y.2.2.2.2.2.2.2.2.2.1,y.2.2.2.2.2.2.2.2.2.2.1,y.2.2.2.2.2.2.2.2.2.2.2.1,y.2.2.2.2.2.2.2.2.2.2.2.2.1,y.2.2.2.2.2.2.2.2.2.2.2.2.2.1,y.2.2.2.2.2.2.2.2.2.2.2.2.2.2.1,y.2.2.2.2.2.2.2.2.2.2.2.2.2.2.2.1,y.2.2.2.2.2.2.2.2.2.2.2.2.2.2.2.2.1,()),y.2.2.2.2.2.2.2.2.2.2.2.2.2.2.2.2.2.1,y.2.2.2.2.2.2.2.2.2.2.2.2.2.2.2.2.2.2.1⟩,⟨y.2.2.2.2.2.2.2.2.2.2.2.2.2.2.2.2.2.2.2.1,y.2.2.2.2.2.2.2.2.2.2.2.2.2.2.2.2.2.2.2.2.1,y.2.2.2.2.2.2.2.2.2.2.2.2.2.2.2.2.2.2.2.2.2.1⟩,(y.2.2.2.2.2.2.2.2.2.2.2.2.2.2.2.2.2.2.2.2.2.2.1,y.2.2.2.2.2.2.2.2.2.2.2.2.2.2.2.2.2.2.2.2.2.2.2.1,y.2.2.2.2.2.2.2.2.2.2.2.2.2.2.2.2.2.2.2.2.2.2.2.2.1,y.2.2.2.2.2.2.2.2.2.2.2.2.2.2.2.2.2.2.2.2.2.2.2.2.2.1,y.2.2.2.2.2.2.2.2.2.2.2.2.2.2.2.2.2.2.2.2.2.2.2.2.2.2.1,y.2.2.2.2.2.2.2.2.2.2.2.2.2.2.2.2.2.2.2.2.2.2.2.2.2.2.2.1,y.2.2.2.2.2.2.2.2.2.2.2.2.2.2.2.2.2.2.2.2.2.2.2.2.2.2.2.2.1,y.2.2.2.2.2.2.2.2.2.2.2.2.2.2.2.2.2.2.2.2.2.2.2.2.2.2.2.2.2.1,y.2.2.2.2.2.2.2.2.2.2.2.2.2.2.2.2.2.2.2.2.2.2.2.2.2.2.2.2.2.2.1,y.2.2.2.2.2.2.2.2.2.2.2.2.2.2.2.2.2.2.2.2.2.2.2.2.2.2.2.2.2.2.2.1,y.2.2.2.2.2.2.2.2.2.2.2.2.2.2.2.2.2.2.2.2.2.2.2.2.2.2.2.2.2.2.2.2.1,()),y.2.2.2.2.2.2.2.2.2.2.2.2.2.2.2.2.2.2.2.2.2.2.2.2.2.2.2.2.2.2.2.2.2.1⟩,y.2.2.2.2.2.2.2.2.2.2.2.2.2.2.2.2.2.2.2.2.2.2.2.2.2.2.2.2.2.2.2.2.2.2.1,y.2.2.2.2.2.2.2.2.2.2.2.2.2.2.2.2.2.2.2.2.2.2.2.2.2.2.2.2.2.2.2.2.2.2.2.1,y.2.2.2.2.2.2.2.2.2.2.2.2.2.2.2.2.2.2.2.2.2.2.2.2.2.2.2.2.2.2.2.2.2.2.2.2.1,y.2.2.2.2.2.2.2.2.2.2.2.2.2.2.2.2.2.2.2.2.2.2.2.2.2.2.2.2.2.2.2.2.2.2.2.2.2.1⟩
def bT(y:aG (xK [])):ks:=⟨⟨⟨y.1,y.2.1,⟨y.2.2.1,y.2.2.2.1,y.2.2.2.2.1,y.2.2.2.2.2.1,(y.2.2.2.2.2.2.1,y.2.2.2.2.2.2.2.1,y.2.2.2.2.2.2.2.2.1,y.2.2.2.2.2.2.2.2.2.1,y.2.2.2.2.2.2.2.2.2.2.1,y.2.2.2.2.2.2.2.2.2.2.2.1,y.2.2.2.2.2.2.2.2.2.2.2.2.1,y.2.2.2.2.2.2.2.2.2.2.2.2.2.1,y.2.2.2.2.2.2.2.2.2.2.2.2.2.2.1,y.2.2.2.2.2.2.2.2.2.2.2.2.2.2.2.1,y.2.2.2.2.2.2.2.2.2.2.2.2.2.2.2.2.1,()),y.2.2.2.2.2.2.2.2.2.2.2.2.2.2.2.2.2.1,y.2.2.2.2.2.2.2.2.2.2.2.2.2.2.2.2.2.2.1⟩,⟨y.2.2.2.2.2.2.2.2.2.2.2.2.2.2.2.2.2.2.2.1,y.2.2.2.2.2.2.2.2.2.2.2.2.2.2.2.2.2.2.2.2.1,y.2.2.2.2.2.2.2.2.2.2.2.2.2.2.2.2.2.2.2.2.2.1⟩,(y.2.2.2.2.2.2.2.2.2.2.2.2.2.2.2.2.2.2.2.2.2.2.1,y.2.2.2.2.2.2.2.2.2.2.2.2.2.2.2.2.2.2.2.2.2.2.2.1,y.2.2.2.2.2.2.2.2.2.2.2.2.2.2.2.2.2.2.2.2.2.2.2.2.1,y.2.2.2.2.2.2.2.2.2.2.2.2.2.2.2.2.2.2.2.2.2.2.2.2.2.1,y.2.2.2.2.2.2.2.2.2.2.2.2.2.2.2.2.2.2.2.2.2.2.2.2.2.2.1,y.2.2.2.2.2.2.2.2.2.2.2.2.2.2.2.2.2.2.2.2.2.2.2.2.2.2.2.1,y.2.2.2.2.2.2.2.2.2.2.2.2.2.2.2.2.2.2.2.2.2.2.2.2.2.2.2.2.1,y.2.2.2.2.2.2.2.2.2.2.2.2.2.2.2.2.2.2.2.2.2.2.2.2.2.2.2.2.2.1,y.2.2.2.2.2.2.2.2.2.2.2.2.2.2.2.2.2.2.2.2.2.2.2.2.2.2.2.2.2.2.1,y.2.2.2.2.2.2.2.2.2.2.2.2.2.2.2.2.2.2.2.2.2.2.2.2.2.2.2.2.2.2.2.1,y.2.2.2.2.2.2.2.2.2.2.2.2.2.2.2.2.2.2.2.2.2.2.2.2.2.2.2.2.2.2.2.2.1,()),y.2.2.2.2.2.2.2.2.2.2.2.2.2.2.2.2.2.2.2.2.2.2.2.2.2.2.2.2.2.2.2.2.2.1⟩,y.2.2.2.2.2.2.2.2.2.2.2.2.2.2.2.2.2.2.2.2.2.2.2.2.2.2.2.2.2.2.2.2.2.2.1,y.2.2.2.2.2.2.2.2.2.2.2.2.2.2.2.2.2.2.2.2.2.2.2.2.2.2.2.2.2.2.2.2.2.2.2.1,y.2.2.2.2.2.2.2.2.2.2.2.2.2.2.2.2.2.2.2.2.2.2.2.2.2.2.2.2.2.2.2.2.2.2.2.2.1,y.2.2.2.2.2.2.2.2.2.2.2.2.2.2.2.2.2.2.2.2.2.2.2.2.2.2.2.2.2.2.2.2.2.2.2.2.2.1⟩,(y.2.2.2.2.2.2.2.2.2.2.2.2.2.2.2.2.2.2.2.2.2.2.2.2.2.2.2.2.2.2.2.2.2.2.2.2.2.2.1,y.2.2.2.2.2.2.2.2.2.2.2.2.2.2.2.2.2.2.2.2.2.2.2.2.2.2.2.2.2.2.2.2.2.2.2.2.2.2.2.1,y.2.2.2.2.2.2.2.2.2.2.2.2.2.2.2.2.2.2.2.2.2.2.2.2.2.2.2.2.2.2.2.2.2.2.2.2.2.2.2.2.1,y.2.2.2.2.2.2.2.2.2.2.2.2.2.2.2.2.2.2.2.2.2.2.2.2.2.2.2.2.2.2.2.2.2.2.2.2.2.2.2.2.2.1,y.2.2.2.2.2.2.2.2.2.2.2.2.2.2.2.2.2.2.2.2.2.2.2.2.2.2.2.2.2.2.2.2.2.2.2.2.2.2.2.2.2.2.1,y.2.2.2.2.2.2.2.2.2.2.2.2.2.2.2.2.2.2.2.2.2.2.2.2.2.2.2.2.2.2.2.2.2.2.2.2.2.2.2.2.2.2.2.1,y.2.2.2.2.2.2.2.2.2.2.2.2.2.2.2.2.2.2.2.2.2.2.2.2.2.2.2.2.2.2.2.2.2.2.2.2.2.2.2.2.2.2.2.2.1),y.2.2.2.2.2.2.2.2.2.2.2.2.2.2.2.2.2.2.2.2.2.2.2.2.2.2.2.2.2.2.2.2.2.2.2.2.2.2.2.2.2.2.2.2.2.1,y.2.2.2.2.2.2.2.2.2.2.2.2.2.2.2.2.2.2.2.2.2.2.2.2.2.2.2.2.2.2.2.2.2.2.2.2.2.2.2.2.2.2.2.2.2.2.1,y.2.2.2.2.2.2.2.2.2.2.2.2.2.2.2.2.2.2.2.2.2.2.2.2.2.2.2.2.2.2.2.2.2.2.2.2.2.2.2.2.2.2.2.2.2.2.2.1⟩
end Go.Proofs.Vq

noncomputable section
namespace Go.Proofs.Vq
open Go.Ab Go.Ab.Lf
set_option maxRecDepth 100000
abbrev JX:List Ty:=[i64,u64,u64]
abbrev cS:List Ty:=[u64,i64]
def e12:List (Nat×ey):=[(11,Ws)]
theorem Uh{aR:bb}(W:WQ aR):eJ aR e12:=(.cons (vX W) .nil)
def t12(x:aG JX):Lf.T (List Pl):=mg (Ps [.n .i64,.n .u64,.n .u64]) [] (Ps [.tu (Ps [.n .u64,.n .i64])]) (fun _=>none) Tryz.x12 3 (lE e12 3) (aH JX x)
def Ui(x:aG JX):Bool:=cT (fy cS (t12 x))
def m12(x:aG JX):aG cS:=cT (ej cS (t12 x))
def s12:ey:=j7 (Ps [.n .i64,.n .u64,.n .u64]) [] (Ps [.tu (Ps [.n .u64,.n .i64])]) JX cS fun x=>.ck (Ui x) (.ok (m12 x))
theorem Uj{aR:bb}(W:WQ aR):s12.Ok 12 aR:=
 dq (W.in (Uh W) 3) (W.st 12 _ rfl) rfl (bU _) (m:=3) rfl (fun _=>ai _) (fun _=>ai _)
abbrev JY:List Ty:=[u32]
abbrev JZ:List Ty:=[i64]
def e51:List (Nat×ey):=[]
theorem Uk{aR:bb}(W:WQ aR):eJ aR e51:=.nil
def t51(x:aG JY):Lf.T (List Pl):=mg (Ps [.n .u32]) [] (Ps [.n .i64]) (fun _=>none) Tryz.x51 3 (lE e51 3) (aH JY x)
def k51(x:aG JY):Bool:=cT (fy JZ (t51 x))
def m51(x:aG JY):aG JZ:=cT (ej JZ (t51 x))
def s51:ey:=j7 (Ps [.n .u32]) [] (Ps [.n .i64]) JY JZ fun x=>.ck (k51 x) (.ok (m51 x))
theorem Ul{aR:bb}(W:WQ aR):s51.Ok 51 aR:=
 dq (W.in (Uk W) 3) (W.st 51 _ rfl) rfl (bU _) (m:=3) rfl (fun _=>ai _) (fun _=>ai _)
abbrev J0:List Ty:=[u64]
abbrev J1:List Ty:=[i64]
def e54:List (Nat×ey):=[]
theorem Um{aR:bb}(W:WQ aR):eJ aR e54:=.nil
def t54(x:aG J0):Lf.T (List Pl):=mg (Ps [.n .u64]) [] (Ps [.n .i64]) (fun _=>none) Tryz.x54 3 (lE e54 3) (aH J0 x)
def k54(x:aG J0):Bool:=cT (fy J1 (t54 x))
def m54(x:aG J0):aG J1:=cT (ej J1 (t54 x))
def s54:ey:=j7 (Ps [.n .u64]) [] (Ps [.n .i64]) J0 J1 fun x=>.ck (k54 x) (.ok (m54 x))
theorem Un{aR:bb}(W:WQ aR):s54.Ok 54 aR:=
 dq (W.in (Um W) 3) (W.st 54 _ rfl) rfl (bU _) (m:=3) rfl (fun _=>ai _) (fun _=>ai _)
abbrev J2:List Ty:=[i64,u64]
abbrev ju:List Ty:=[u64,i64]
def e13:List (Nat×ey):=[(49,s49),(50,s50),(52,s52),(53,s53),(11,Ws),(51,s51),(54,s54)]
theorem Uo{aR:bb}(W:WQ aR):eJ aR e13:=(.cons W.b49 (.cons W.b50 (.cons W.b52 (.cons W.b53 (.cons (vX W) (.cons (Ul W) (.cons (Un W) .nil)))))))
def t13(x:aG J2):Lf.T (List Pl):=mg (Ps [.n .i64,.n .u64]) [] (Ps [.tu (Ps [.n .u64,.n .i64])]) (fun _=>none) Tryz.x13 3 (lE e13 3) (aH J2 x)
def Up(x:aG J2):Bool:=cT (fy ju (t13 x))
def m13(x:aG J2):aG ju:=cT (ej ju (t13 x))
def s13:ey:=j7 (Ps [.n .i64,.n .u64]) [] (Ps [.tu (Ps [.n .u64,.n .i64])]) J2 ju fun x=>.ck (Up x) (.ok (m13 x))
theorem Uq{aR:bb}(W:WQ aR):s13.Ok 13 aR:=
 dq (W.in (Uo W) 3) (W.st 13 _ rfl) rfl (bU _) (m:=3) rfl (fun _=>ai _) (fun _=>ai _)
abbrev A0:List Ty:=[.aC u8,i64,u64,i64]
abbrev pE:List Ty:=[u64,i64,.aC u8,i64]
def ZT:List (Nat×ey):=[]
theorem OS{aR:bb}(W:WQ aR):eJ aR ZT:=.nil
def t387(x:aG A0):Lf.T (List Pl):=mg (Ps [.pt 0 (Ps [.ow u8,.n .i64]),.n .u64,.n .i64]) [2] (Ps [.tu (Ps [.n .u64,.n .i64]),.pt 2 (Ps [.ow u8,.n .i64])]) (fun _=>none) Tryz.T5 9 (lE ZT 9) (aH A0 x)
def OT(x:aG A0):Bool:=cT (fy pE (t387 x))
def OU(x:aG A0):aG pE:=cT (ej pE (t387 x))
def ZU:ey:=j7 (Ps [.pt 0 (Ps [.ow u8,.n .i64]),.n .u64,.n .i64]) [2] (Ps [.tu (Ps [.n .u64,.n .i64]),.pt 2 (Ps [.ow u8,.n .i64])]) A0 pE fun x=>.ck (OT x) (.ok (OU x))
theorem OV{aR:bb}(W:WQ aR):ZU.Ok 387 aR:=
 dq (W.in (OS W) 9) (W.st 387 _ rfl) rfl (bU _) (m:=9) rfl (fun _=>ai _) (fun _=>ai _)
abbrev A1:List Ty:=[.aC u8,i64,u64,i64,u64]
abbrev qk:List Ty:=[i64,.aC u8,i64]
def ZV:List (Nat×ey):=[]
theorem OW{aR:bb}(W:WQ aR):eJ aR ZV:=.nil
def t385(x:aG A1):Lf.T (List Pl):=mg (Ps [.pt 0 (Ps [.ow u8,.n .i64]),.n .u64,.n .i64,.n .u64]) [2] (Ps [.n .i64,.pt 2 (Ps [.ow u8,.n .i64])]) (fun _=>none) Tryz.T4 9 (lE ZV 9) (aH A1 x)
def OX(x:aG A1):Bool:=cT (fy qk (t385 x))
def OY(x:aG A1):aG qk:=cT (ej qk (t385 x))
def ZW:ey:=j7 (Ps [.pt 0 (Ps [.ow u8,.n .i64]),.n .u64,.n .i64,.n .u64]) [2] (Ps [.n .i64,.pt 2 (Ps [.ow u8,.n .i64])]) A1 qk fun x=>.ck (OX x) (.ok (OY x))
theorem OZ{aR:bb}(W:WQ aR):ZW.Ok 385 aR:=
 dq (W.in (OW W) 9) (W.st 385 _ rfl) rfl (bU _) (m:=9) rfl (fun _=>ai _) (fun _=>ai _)
abbrev A2:List Ty:=[.aC u8,i64,i64,u64,u64]
abbrev pF:List Ty:=[u64,i64,.aC u8,i64]
def ZX:List (Nat×ey):=[(387,ZU)]
theorem O0{aR:bb}(W:WQ aR):eJ aR ZX:=(.cons (OV W) .nil)
def t355(x:aG A2):Lf.T (List Pl):=mg (Ps [.pt 0 (Ps [.ow u8,.n .i64]),.n .i64,.n .u64,.n .u64]) [2] (Ps [.tu (Ps [.n .u64,.n .i64]),.pt 2 (Ps [.ow u8,.n .i64])]) (fun _=>none) Tryz.T3 3 (lE ZX 3) (aH A2 x)
def O1(x:aG A2):Bool:=cT (fy pF (t355 x))
def CY(x:aG A2):aG pF:=cT (ej pF (t355 x))
def ZY:ey:=j7 (Ps [.pt 0 (Ps [.ow u8,.n .i64]),.n .i64,.n .u64,.n .u64]) [2] (Ps [.tu (Ps [.n .u64,.n .i64]),.pt 2 (Ps [.ow u8,.n .i64])]) A2 pF fun x=>.ck (O1 x) (.ok (CY x))
theorem O2{aR:bb}(W:WQ aR):ZY.Ok 355 aR:=
 dq (W.in (O0 W) 3) (W.st 355 _ rfl) rfl (bU _) (m:=3) rfl (fun _=>ai _) (fun _=>ai _)
abbrev A3:List Ty:=[.aC u8,i64,i64,u64,u64,u64]
abbrev A4:List Ty:=[i64,.aC u8,i64]
def ZZ:List (Nat×ey):=[(385,ZW)]
theorem O3{aR:bb}(W:WQ aR):eJ aR ZZ:=(.cons (OZ W) .nil)
def t354(x:aG A3):Lf.T (List Pl):=mg (Ps [.pt 0 (Ps [.ow u8,.n .i64]),.n .i64,.n .u64,.n .u64,.n .u64]) [2] (Ps [.n .i64,.pt 2 (Ps [.ow u8,.n .i64])]) (fun _=>none) Tryz.TZ 3 (lE ZZ 3) (aH A3 x)
def O4(x:aG A3):Bool:=cT (fy A4 (t354 x))
def Gj(x:aG A3):aG A4:=cT (ej A4 (t354 x))
def Z0:ey:=j7 (Ps [.pt 0 (Ps [.ow u8,.n .i64]),.n .i64,.n .u64,.n .u64,.n .u64]) [2] (Ps [.n .i64,.pt 2 (Ps [.ow u8,.n .i64])]) A3 A4 fun x=>.ck (O4 x) (.ok (Gj x))
theorem O5{aR:bb}(W:WQ aR):Z0.Ok 354 aR:=
 dq (W.in (O3 W) 3) (W.st 354 _ rfl) rfl (bU _) (m:=3) rfl (fun _=>ai _) (fun _=>ai _)
abbrev A5:List Ty:=[.aC u8,i64,u32]
abbrev nA:List Ty:=[u32,.aC u8,i64]
def Z1:List (Nat×ey):=[]
theorem O6{aR:bb}(W:WQ aR):eJ aR Z1:=.nil
def t353(x:aG A5):Lf.T (List Pl):=mg (Ps [.pt 0 (Ps [.ow u8,.n .i64]),.n .u32]) [2] (Ps [.n .u32,.pt 2 (Ps [.ow u8,.n .i64])]) (fun _=>none) Tryz.TY 3 (lE Z1 3) (aH A5 x)
def O7(x:aG A5):Bool:=cT (fy nA (t353 x))
def Gk(x:aG A5):aG nA:=cT (ej nA (t353 x))
def Z2:ey:=j7 (Ps [.pt 0 (Ps [.ow u8,.n .i64]),.n .u32]) [2] (Ps [.n .u32,.pt 2 (Ps [.ow u8,.n .i64])]) A5 nA fun x=>.ck (O7 x) (.ok (Gk x))
theorem O8{aR:bb}(W:WQ aR):Z2.Ok 353 aR:=
 dq (W.in (O6 W) 3) (W.st 353 _ rfl) rfl (bU _) (m:=3) rfl (fun _=>ai _) (fun _=>ai _)
abbrev A6:List Ty:=xK [i64,i64]
abbrev wa:List Ty:=.bool::xK []
def Z3:List (Nat×ey):=[]
theorem O9{aR:bb}(W:WQ aR):eJ aR Z3:=.nil
def t232(x:aG A6):Lf.T (List Pl):=mg (Ps [iH 0 0 0 0 0 0,.n .i64,.n .i64]) [39] (Ps [.bo,iH 18 19 22 33 34 39]) (fun _=>none) Tryz.TP 3 (lE Z3 3) (aH A6 x)
def ij(x:aG A6):Bool:=cT (fy wa (t232 x))
def aF(x:aG A6):aG wa:=cT (ej wa (t232 x))
def CZ:ey:=j7 (Ps [iH 0 0 0 0 0 0,.n .i64,.n .i64]) [39] (Ps [.bo,iH 18 19 22 33 34 39]) A6 wa fun x=>.ck (ij x) (.ok (aF x))
theorem pW{aR:bb}(W:WQ aR):CZ.Ok 232 aR:=
 dq (W.in (O9 W) 3) (W.st 232 _ rfl) rfl (bU _) (m:=3) rfl (fun _=>ai _) (fun _=>ai _)
abbrev A7:List Ty:=xK [i64,i64,u64]
abbrev iI:List Ty:=xK []
def Z4:List (Nat×ey):=[(232,CZ)]
theorem O'{aR:bb}(W:WQ aR):eJ aR Z4:=(.cons (pW W) .nil)
def t307(x:aG A7):Lf.T (List Pl):=mg (Ps [iH 0 0 0 0 0 0,.ag (Ps [.n .i64,.n .i64,.n .u64])]) [39] (Ps [.tu .nil,iH 18 19 22 33 34 39]) (fun _=>none) Tryz.TW 3 (lE Z4 3) (aH A7 x)
def Ur(x:aG A7):Bool:=cT (fy iI (t307 x))
def Us(x:aG A7):aG iI:=cT (ej iI (t307 x))
def Z5:ey:=j7 (Ps [iH 0 0 0 0 0 0,.ag (Ps [.n .i64,.n .i64,.n .u64])]) [39] (Ps [.tu .nil,iH 18 19 22 33 34 39]) A7 iI fun x=>.ck (Ur x) (.ok (Us x))
theorem Pa{aR:bb}(W:WQ aR):Z5.Ok 307 aR:=
 dq (W.in (O' W) 3) (W.st 307 _ rfl) rfl (bU _) (m:=3) rfl (fun _=>ai _) (fun _=>ai _)
abbrev A8:List Ty:=xK [i64,i64,u64]
abbrev Ea:List Ty:=xK []
def Z6:List (Nat×ey):=[(232,CZ),(353,Z2),(354,Z0),(355,ZY)]
theorem Pb{aR:bb}(W:WQ aR):eJ aR Z6:=(.cons (pW W) (.cons (O8 W) (.cons (O5 W) (.cons (O2 W) .nil))))
def t308(x:aG A8):Lf.T (List Pl):=mg (Ps [iH 0 0 0 0 0 0,.ag (Ps [.n .i64,.n .i64,.n .u64])]) [39] (Ps [.tu .nil,iH 18 19 22 33 34 39]) (fun _=>none) Tryz.TX 3 (lE Z6 3) (aH A8 x)
def Ut(x:aG A8):Bool:=cT (fy Ea (t308 x))
def Uu(x:aG A8):aG Ea:=cT (ej Ea (t308 x))
def Z7:ey:=j7 (Ps [iH 0 0 0 0 0 0,.ag (Ps [.n .i64,.n .i64,.n .u64])]) [39] (Ps [.tu .nil,iH 18 19 22 33 34 39]) A8 Ea fun x=>.ck (Ut x) (.ok (Uu x))
theorem Pc{aR:bb}(W:WQ aR):Z7.Ok 308 aR:=
 dq (W.in (Pb W) 3) (W.st 308 _ rfl) rfl (bU _) (m:=3) rfl (fun _=>ai _) (fun _=>ai _)
abbrev A9:List Ty:=xK [i64]
abbrev tK:List Ty:=xK []
def Z8:List (Nat×ey):=[]
theorem Pd{aR:bb}(W:WQ aR):eJ aR Z8:=.nil
def t231(x:aG A9):Lf.T (List Pl):=mg (Ps [iH 0 0 0 0 0 0,.n .i64]) [39] (Ps [.tu .nil,iH 18 19 22 33 34 39]) (fun _=>none) Tryz.TO 3 (lE Z8 3) (aH A9 x)
def J3(x:aG A9):Bool:=cT (fy tK (t231 x))
def J4(x:aG A9):aG tK:=cT (ej tK (t231 x))
def Z9:ey:=j7 (Ps [iH 0 0 0 0 0 0,.n .i64]) [39] (Ps [.tu .nil,iH 18 19 22 33 34 39]) A9 tK fun x=>.ck (J3 x) (.ok (J4 x))
theorem Pe{aR:bb}(W:WQ aR):Z9.Ok 231 aR:=
 dq (W.in (Pd W) 3) (W.st 231 _ rfl) rfl (bU _) (m:=3) rfl (fun _=>ai _) (fun _=>ai _)
abbrev A':List Ty:=xK [i64,i64,u64]
abbrev fo:List Ty:=xK []
def Z':List (Nat×ey):=[(232,CZ),(307,Z5),(308,Z7),(305,JR),(11,Ws),(12,s12),(13,s13)]
theorem Pf{aR:bb}(W:WQ aR):eJ aR Z':=(.cons (pW W) (.cons (Pa W) (.cons (Pc W) (.cons W.del (.cons (vX W) (.cons (Uj W) (.cons (Uq W) .nil)))))))
def t236(x:aG A'):Lf.T (List Pl):=mg (Ps [iH 0 0 0 0 0 0,.ag (Ps [.n .i64,.n .i64,.n .u64])]) [39] (Ps [.tu .nil,iH 18 19 22 33 34 39]) (fun _=>none) Tryz.TT 3 (lE Z' 3) (aH A' x)
def l9(x:aG A'):Bool:=cT (fy fo (t236 x))
def lF(x:aG A'):aG fo:=cT (ej fo (t236 x))
def aaa:ey:=j7 (Ps [iH 0 0 0 0 0 0,.ag (Ps [.n .i64,.n .i64,.n .u64])]) [39] (Ps [.tu .nil,iH 18 19 22 33 34 39]) A' fo fun x=>.ck (l9 x) (.ok (lF x))
theorem Pg{aR:bb}(W:WQ aR):aaa.Ok 236 aR:=
 dq (W.in (Pf W) 3) (W.st 236 _ rfl) rfl (bU _) (m:=3) rfl (fun _=>ai _) (fun _=>ai _)
abbrev Cg:=(aG (rR [i64,.aC u64])->Bool)×(aG (rR [i64,.aC u64])->aG (.aC u64::rR []))
def sG(g:Cg):ey:=j7 (Ps [yY 0 0 0 0 0,.n .i64,.im u64]) [34] (Ps [.ow u64,yY 18 19 22 33 34]) (rR [i64,.aC u64]) (.aC u64::rR []) fun x=>.ck (g.1 x) (.ok (g.2 x))
abbrev Ba:List Ty:=xK [i64]
abbrev Eb:List Ty:=xK []
def aab(g:Cg):List (Nat×ey):=[(232,CZ),(67,l8 u64),(73,sG g)]
theorem Ph{g:Cg}{aR:bb}(W:WQ aR)(hg:(sG g).Ok 73 aR):eJ aR (aab g):=(.cons (pW W) (.cons W.Wr (.cons hg .nil)))
def t234(g:Cg)(x:aG Ba):Lf.T (List Pl):=mg (Ps [iH 0 0 0 0 0 0,.n .i64]) [39] (Ps [.tu .nil,iH 18 19 22 33 34 39]) (fun _=>none) Tryz.TQ 3 (lE (aab g) 3) (aH Ba x)
def Uv(g:Cg)(x:aG Ba):Bool:=cT (fy Eb (t234 g x))
def Uw(g:Cg)(x:aG Ba):aG Eb:=cT (ej Eb (t234 g x))
def Ux(g:Cg):ey:=j7 (Ps [iH 0 0 0 0 0 0,.n .i64]) [39] (Ps [.tu .nil,iH 18 19 22 33 34 39]) Ba Eb fun x=>.ck (Uv g x) (.ok (Uw g x))
theorem Ec{g:Cg}{aR:bb}(W:WQ aR)(hg:(sG g).Ok 73 aR):(Ux g).Ok 234 aR:=
 dq (W.in (Ph W hg) 3) (W.st 234 _ rfl) rfl (bU _) (m:=3) rfl (fun _=>ai _) (fun _=>ai _)
abbrev Bb:List Ty:=xK [i64]
abbrev Ed:List Ty:=xK []
def aac(g:Cg):List (Nat×ey):=[(232,CZ),(234,Ux g)]
theorem Pj{g:Cg}{aR:bb}(W:WQ aR)(hg:(sG g).Ok 73 aR):eJ aR (aac g):=(.cons (pW W) (.cons (Ec W hg) .nil))
def t235(g:Cg)(x:aG Bb):Lf.T (List Pl):=mg (Ps [iH 0 0 0 0 0 0,.n .i64]) [39] (Ps [.tu .nil,iH 18 19 22 33 34 39]) (fun _=>none) Tryz.TS 3 (lE (aac g) 3) (aH Bb x)
def aad(g:Cg)(x:aG Bb):Bool:=cT (fy Ed (t235 g x))
def aae(g:Cg)(x:aG Bb):aG Ed:=cT (ej Ed (t235 g x))
def aaf(g:Cg):ey:=j7 (Ps [iH 0 0 0 0 0 0,.n .i64]) [39] (Ps [.tu .nil,iH 18 19 22 33 34 39]) Bb Ed fun x=>.ck (aad g x) (.ok (aae g x))
theorem Pk{g:Cg}{aR:bb}(W:WQ aR)(hg:(sG g).Ok 73 aR):(aaf g).Ok 235 aR:=
 dq (W.in (Pj W hg) 3) (W.st 235 _ rfl) rfl (bU _) (m:=3) rfl (fun _=>ai _) (fun _=>ai _)
abbrev xL:List Ty:=xK [i64,i64,u64]
abbrev jU:List Ty:=xK []
def aag(g:Cg):List (Nat×ey):=[(232,CZ),(231,Z9),(234,Ux g),(235,aaf g),(236,aaa)]
theorem Pm{g:Cg}{aR:bb}(W:WQ aR)(hg:(sG g).Ok 73 aR):eJ aR (aag g):=(.cons (pW W) (.cons (Pe W) (.cons (Ec W hg) (.cons (Pk W hg) (.cons (Pg W) .nil)))))
def t134(g:Cg)(x:aG xL):Lf.T (List Pl):=mg (Ps [iH 0 0 0 0 0 0,.ag (Ps [.n .i64,.n .i64,.n .u64])]) [39] (Ps [.tu .nil,iH 18 19 22 33 34 39]) (fun _=>none) Tryz.TL 3 (lE (aag g) 3) (aH xL x)
def rT(g:Cg)(x:aG xL):Bool:=cT (fy jU (t134 g x))
def rU(g:Cg)(x:aG xL):aG jU:=cT (ej jU (t134 g x))
def aah(g:Cg):ey:=j7 (Ps [iH 0 0 0 0 0 0,.ag (Ps [.n .i64,.n .i64,.n .u64])]) [39] (Ps [.tu .nil,iH 18 19 22 33 34 39]) xL jU fun x=>.ck (rT g x) (.ok (rU g x))
theorem Pn{g:Cg}{aR:bb}(W:WQ aR)(hg:(sG g).Ok 73 aR):(aah g).Ok 134 aR:=
 dq (W.in (Pm W hg) 3) (W.st 134 _ rfl) rfl (bU _) (m:=3) rfl (fun _=>ai _) (fun _=>ai _)
end Go.Proofs.Vq

noncomputable section
namespace Go.Proofs.Vq
open Go.Ab Go.Ab.Lf
set_option maxRecDepth 100000
abbrev i1:List Ty:=rR (yZ (yZ [i64,.aC u64,.aC u64]))
abbrev fW:List Ty:=rR (yZ [i64,.aC u64,.aC u64])
def Po:ta:=⟨0,qM Tryz.x73.code 0,[0,7,8],(Ps [yY 18 19 22 33 34,pFn,.pt 0 (Ps [.rp 34 0,pFn,.n .i64,.ow u64,.ow u64])]),[⟨.xG,[0,8],Ps [yY 18 19 22 33 34,.pt 0 (Ps [.rp 34 0,pFn,.n .i64,.ow u64,.ow u64])]⟩]⟩
def aai(g:Cg):List (Nat×ey):=[(134,aah g)]
theorem Pp{g:Cg}{aR:bb}(W:WQ aR)(hg:(sG g).Ok 73 aR):eJ aR (aai g):=(.cons (Pn W hg) .nil)
def rV(g:Cg):List Pl->Lf.T Rs:=Po.step (fun _=>none) (lE (aai g) 3) 3
def aaj(g:Cg):i7:=CU Po (rV g) i1 fW
theorem Pq{g:Cg}{aR:bb}(W:WQ aR)(hg:(sG g).Ok 73 aR):kj Rx.w (aaj g) (fun n d=>kM (aR n d) n (.bl 0 (.lp Po.body))):=pV (W.in (Pp W hg) 3) (bU _) (m:=3) i1 fW
def L73(g:Cg):Nat->Option i7:=Gh [(0,aaj g)]
abbrev J5:List Ty:=rR [i64,.aC u64]
abbrev C0:List Ty:=(.aC u64)::rR []
def e73(g:Cg):List (Nat×ey):=[(67,l8 u64),(132,Zw)]
theorem Uy{g:Cg}{aR:bb}(W:WQ aR)(hg:(sG g).Ok 73 aR):eJ aR (e73 g):=(.cons W.Wr (.cons Ou .nil))
def t73(g:Cg)(x:aG J5):Lf.T (List Pl):=mg (Ps [yY 0 0 0 0 0,.n .i64,.im u64]) [34] (Ps [.ow u64,yY 18 19 22 33 34]) (L73 g) Tryz.x73 3 (lE (e73 g) 3) (aH J5 x)
def k73(g:Cg)(x:aG J5):Bool:=cT (fy C0 (t73 g x))
def m73(g:Cg)(x:aG J5):aG C0:=cT (ej C0 (t73 g x))
def s73(g:Cg):ey:=j7 (Ps [yY 0 0 0 0 0,.n .i64,.im u64]) [34] (Ps [.ow u64,yY 18 19 22 33 34]) J5 C0 fun x=>.ck (k73 g x) (.ok (m73 g x))
theorem Uz{g:Cg}{aR:bb}(W:WQ aR)(hg:(sG g).Ok 73 aR):(s73 g).Ok 73 aR:=
 dq (W.in (Uy W hg) 3) (W.st 73 _ rfl) rfl (p8.qK (.cons (b:=Po.body) (by kernel_rfl) (Pq W hg) .nil)) (m:=3) rfl (fun _=>ai _) (fun _=>ai _)
abbrev jX:List Ty:=wV [i64,i64,.aC u64,.aC i64,i64,i64]
abbrev jv:List Ty:=wV [i64,i64,.aC u64]
def Ee:ta:=⟨1,qM Tryz.x23.code 1,[0,1,3,8,9,77,78,79],(Ps [CX 18 19 22 33,.n .i64,.n .i64,.pt 0 (Ps [.li .i64 0,.li .u32 0,.av (.sc (.slice none 0 0)),.li .i64 0]),.ow u64,.im i64,.n .i64,.n .i64]),[⟨.xG,[0,1,3,8,9],Ps [CX 18 19 22 33,.n .i64,.n .i64,.pt 0 (Ps [.li .i64 0,.li .u32 0,.av (.sc (.slice none 0 0)),.li .i64 0]),.ow u64]⟩]⟩
def Rd:List (Nat×ey):=[]
theorem J6{aR:bb}(W:WQ aR):eJ aR Rd:=.nil
def wb:List Pl->Lf.T Rs:=Ee.step (fun _=>none) (lE Rd 3) 3
def Re:i7:=CU Ee wb jX jv
theorem J7{aR:bb}(W:WQ aR):kj Rx.w Re (fun n d=>kM (aR n d) n (.bl 1 (.lp Ee.body))):=pV (W.in (J6 W) 3) (bU _) (m:=3) jX jv
def L23:Nat->Option i7:=Gh [(1,Re)]
abbrev Gl:List Ty:=wV [i64,.aC u64,i64]
abbrev wc:List Ty:=i64::u32::(.aC u64)::i64::wV []
def e23(g:Cg):List (Nat×ey):=[(67,l8 u64),(73,sG g)]
theorem UA{g:Cg}{aR:bb}(W:WQ aR)(hg:(sG g).Ok 73 aR):eJ aR (e23 g):=(.cons W.Wr (.cons hg .nil))
def t23(g:Cg)(x:aG Gl):Lf.T (List Pl):=mg (Ps [CX 0 0 0 0,.n .i64,.im u64,.n .i64]) [33] (Ps [.ag (Ps [.n .i64,.n .u32,.ow u64,.n .i64]),CX 18 19 22 33]) L23 Tryz.x23 3 (lE (e23 g) 3) (aH Gl x)
def Wx(g:Cg)(x:aG Gl):Bool:=cT (fy wc (t23 g x))
def m23(g:Cg)(x:aG Gl):aG wc:=cT (ej wc (t23 g x))
def s23(g:Cg):ey:=j7 (Ps [CX 0 0 0 0,.n .i64,.im u64,.n .i64]) [33] (Ps [.ag (Ps [.n .i64,.n .u32,.ow u64,.n .i64]),CX 18 19 22 33]) Gl wc fun x=>.ck (Wx g x) (.ok (m23 g x))
theorem UB{g:Cg}{aR:bb}(W:WQ aR)(hg:(sG g).Ok 73 aR):(s23 g).Ok 23 aR:=
 dq (W.in (UA W hg) 3) (W.st 23 _ rfl) rfl (p8.qK (.cons (b:=Ee.body) (by kernel_rfl) (J7 W) .nil)) (m:=3) rfl (fun _=>ai _) (fun _=>ai _)
end Go.Proofs.Vq

noncomputable section
namespace Go.Proofs.Vq
open Go.Ab Go.Ab.Lf
set_option maxRecDepth 100000
abbrev UC(f:Ty->kR):kR:=.ag (Ps [f bz,f tZ,f i64,f mS,f mS,f ua,f ub,.n .i64,f uc,f ud,f ue])
def dh:aG tM:=([([],[]),([127],[126])],[(⟨#[104,111,115,116]⟩,⟨#[102]⟩,(1:Int))],[0,0,0],[((6:Int),(-1:Int))],[((1:Int),(2:Int))],
 [((127:Int),false,[((65:Int),(0:Int),(0:Int),(7:Int),(0:Int),([]:List Int)),(11,0,0,0,0,[])]),(123,false,[(64780,0,0,1,2,[]),(11,0,0,0,0,[])]),(126,false,[(66,0,0,9,0,[]),(11,0,0,0,0,[])])],[],(-1:Int),
 [([((65:Int),(0:Int),(0:Int),(0:Int),(0:Int),([]:List Int)),(11,0,0,0,0,[])],[(0:Int),1,2,3])],
 [(([]:List Int),[((11:Int),(0:Int),(0:Int),(0:Int),(0:Int),([]:List Int))]),([],[(11,0,0,0,0,[])]),([],[(11,0,0,0,0,[])])],[],())
def s17:ey:=j7 (Ps []) [] (Ps [UC .im]) [] tM fun _=>.ok dh
theorem UD{aR:bb}(W:WQ aR):s17.Ok 17 aR:=by
 refine tc (W.in .nil 5) (W.st 17 _ rfl) rfl (bU _) (m:=5) rfl ?_
 rintro⟨⟩ q h
 cases h
 kernel_rfl
def GK(y:aG tM):Bool:= @decide (y=dh) (Classical.propDecidable _)
theorem y0:GK dh=true:=by unfold GK;exact @decide_eq_true _ (Classical.propDecidable _) rfl
theorem C1{y:aG tM}(h:GK y=true):y=dh:=by unfold GK at h;exact @of_decide_eq_true _ (Classical.propDecidable _) h
def eCl:List (Nat×ey):=[(67,l8 u64),(69,l8 bz),(70,l8 i64),(71,Ov),(72,l8 bE),(116,l8 tZ),(117,l8 mS),(118,l8 ua),(120,l8 ub),(121,l8 uc),(122,l8 ud),(123,l8 ue),(124,l8 u8),(221,l8 tI)]
theorem J8{aR:bb}(W:WQ aR):eJ aR eCl:=.cons W.Wr (.cons W.c69 (.cons W.Zx (.cons W.c71 (.cons W.c72 (.cons W.Zy (.cons W.Zz (.cons W.ZA (.cons W.ZB (.cons W.ZC (.cons W.ZD (.cons W.ZE (.cons W.ZF (.cons W.ZG .nil)))))))))))))
def J9(p:aG tM->Bool):ey:=j7 (Ps [UC .im]) [] (Ps [.n .i64]) tM [i64] fun x=>.ck (p x) (.ok (0,()))
def y5:Sto:=⟨[7,1,2,9],[1,0,0,0],[0,1,3],[0,1,2,3,-1,-1],dh,List.replicate 65536 0,2⟩
abbrev aak:List Ty:=uh [i64]
def t18(p:aG tM->Bool):Lf.T (List Pl):=mg (Ps [UC .im]) [] (Ps [.tu (Ps [wU 0 0,.n .i64])]) (fun _=>none) Tryz.x18 12 (lE ((56,J9 p)::eCl) 12) (aH tM dh)
theorem af4(p:aG tM->Bool):(t18 p).val=bJ (p dh) (some (aH aak (oJ [i64] y5 (0,())))):=by kernel_rfl
def s18:ey:=j7 (Ps [UC .im]) [] (Ps [.tu (Ps [wU 0 0,.n .i64])]) tM aak fun x=>.ck (GK x) (.ok (oJ [i64] y5 (0,())))
theorem UE{aR:bb}(W:WQ aR)(hc:(J9 GK).Ok 56 aR):s18.Ok 18 aR:=by
 refine tc (W.in (.cons hc (J8 W)) 12) (W.st 18 _ rfl) rfl (bU _) (m:=12) rfl ?_
 intro x q h
 obtain⟨h1,h2⟩:=Lf.T.dj h
 cases h2
 obtain rfl:=C1 h1
 have e:=af4 GK
 rw[y0]at e
 exact e
def s68:ey:=j7 (Ps [wU 0 0]) [17] (Ps [UC .im,wU 16 17]) (uh []) (kO (uh [])) fun x=>.ck (GK (x.2.2.2.2.1,x.2.2.2.2.2.1,x.2.2.2.2.2.2.1,x.2.2.2.2.2.2.2.1,x.2.2.2.2.2.2.2.2.1,x.2.2.2.2.2.2.2.2.2.1,x.2.2.2.2.2.2.2.2.2.2.1,x.2.2.2.2.2.2.2.2.2.2.2.1,x.2.2.2.2.2.2.2.2.2.2.2.2.1,x.2.2.2.2.2.2.2.2.2.2.2.2.2.1,x.2.2.2.2.2.2.2.2.2.2.2.2.2.2.1,())) (.ok (ui (uh []) dh x))
theorem af5(v sm fi tb sw:List Int)(mo:Int):(mg (Ps [wU 0 0]) [17] (Ps [UC .im,wU 16 17]) (fun _=>none) Tryz.x68 12 (lE eCl 12) (aH (uh []) (oJ [] ⟨v,sm,fi,tb,dh,sw,mo⟩ ()))).val=some (aH (kO (uh [])) (ui (uh []) dh (oJ [] ⟨v,sm,fi,tb,dh,sw,mo⟩ ()))):=by kernel_rfl
theorem UG{aR:bb}(W:WQ aR):s68.Ok 68 aR:=by
 refine tc (W.in (J8 W) 12) (W.st 68 _ rfl) rfl (bU _) (m:=12) rfl ?_
 rintro⟨v,sm,fi,tb,m1,m2,m3,m4,m5,m6,m7,m8,m9,m10,m11,sw,mo,⟨⟩⟩ q h
 obtain⟨h1,h2⟩:=Lf.T.dj h
 cases h2
 have h1:=C1 h1
 have e1:m1=dh.1:=congrArg Prod.fst h1
 have e2:m2=dh.2.1:=congrArg (fun y:aG tM=>y.2.1) h1
 have e3:m3=dh.2.2.1:=congrArg (fun y:aG tM=>y.2.2.1) h1
 have e4:m4=dh.2.2.2.1:=congrArg (fun y:aG tM=>y.2.2.2.1) h1
 have e5:m5=dh.2.2.2.2.1:=congrArg (fun y:aG tM=>y.2.2.2.2.1) h1
 have e6:m6=dh.2.2.2.2.2.1:=congrArg (fun y:aG tM=>y.2.2.2.2.2.1) h1
 have e7:m7=dh.2.2.2.2.2.2.1:=congrArg (fun y:aG tM=>y.2.2.2.2.2.2.1) h1
 have e8:m8=dh.2.2.2.2.2.2.2.1:=congrArg (fun y:aG tM=>y.2.2.2.2.2.2.2.1) h1
 have e9:m9=dh.2.2.2.2.2.2.2.2.1:=congrArg (fun y:aG tM=>y.2.2.2.2.2.2.2.2.1) h1
 have e10:m10=dh.2.2.2.2.2.2.2.2.2.1:=congrArg (fun y:aG tM=>y.2.2.2.2.2.2.2.2.2.1) h1
 have e11:m11=dh.2.2.2.2.2.2.2.2.2.2.1:=congrArg (fun y:aG tM=>y.2.2.2.2.2.2.2.2.2.2.1) h1
 subst e1 e2 e3 e4 e5 e6 e7 e8 e9 e10 e11
 exact af5 v sm fi tb sw mo
end Go.Proofs.Vq

noncomputable section
namespace Go.Proofs.Vq
open Go.Ab Go.Ab.Lf
set_option maxRecDepth 100000
abbrev xM(a b:kR)(w x y z:Nat):kR:=.pt z (Ps [a,b,wU w x,OR y,.im bz,.im tZ,.im i64,.im mS,.im mS,.im ua,.im ub,.n .i64,.im uc,.im ud,.im ue,.bo])
def s10:ey:=j7 (Ps []) [] (Ps [.bo]) [] [.bool] fun _=>.ok (true,())
structure WL(aR:bb):Prop extends WQ aR where
 aw:s10.Ok 10 aR
 chk:(J9 GK).Ok 56 aR
abbrev mU:List Ty:=.aC bz::.aC cr::.aC bz::uh (n5 (kO [.bool,i64,i64]))
abbrev kt:List Ty:=.aC bz::.aC cr::.aC bz::uh (n5 (kO [.bool]))
def Ef:ta:=⟨0,qM Tryz.XW.code 0,[3,7,31,32,33],(Ps [.pt 0 (Ps [.im bz,.im cr]),xM (.ow bz) (.av (.sc (.slice none 0 0))) 18 19 22 0,.oo 4 2,.n .i64,.n .i64]),[⟨.xG,[3,7],Ps [.pt 0 (Ps [.im bz,.im cr]),xM (.ow bz) (.av (.sc (.slice none 0 0))) 18 19 22 0]⟩]⟩
def Rf:List (Nat×ey):=[(70,l8 i64)]
theorem J'{aR:bb}(W:WQ aR):eJ aR Rf:=(.cons W.Zx .nil)
def xN:List Pl->Lf.T Rs:=Ef.step (fun _=>none) (lE Rf 3) 3
def Rg:i7:=CU Ef xN mU kt
theorem Ka{aR:bb}(W:WQ aR):kj Rx.w Rg (fun n d=>kM (aR n d) n (.bl 0 (.lp Ef.body))):=pV (W.in (J' W) 3) (bU _) (m:=3) mU kt
abbrev ma:List Ty:=wV [i64,i64]
abbrev ku:List Ty:=wV []
def Eg:ta:=⟨2,qM Tryz.XW.code 2,[7,65,66],(Ps [xM (.im bz) (.ow cr) 18 19 22 0,.n .i64,.n .i64]),[⟨.xG,[7],Ps [xM (.im bz) (.ow cr) 18 19 22 0]⟩]⟩
def Rh:List (Nat×ey):=[(72,l8 bE)]
theorem Kb{aR:bb}(W:WQ aR):eJ aR Rh:=(.cons W.c72 .nil)
def we:List Pl->Lf.T Rs:=Eg.step (fun _=>none) (lE Rh 3) 3
def Ri:i7:=CU Eg we ma ku
theorem Kc{aR:bb}(W:WQ aR):kj Rx.w Ri (fun n d=>kM (aR n d) n (.bl 2 (.lp Eg.body))):=pV (W.in (Kb W) 3) (bU _) (m:=3) ma ku
def L22:Nat->Option i7:=Gh [(0,Rg),(2,Ri)]
abbrev Gm:List Ty:=.aC bz::.aC cr::uh (n5 [])
abbrev C3:List Ty:=wV []
def e22:List (Nat×ey):=[(68,s68),(34,s34),(69,l8 bz),(70,l8 i64),(71,Ov),(72,l8 bE)]
theorem UH{aR:bb}(W:WQ aR):eJ aR e22:=(.cons (UG W) (.cons (CW W) (.cons W.c69 (.cons W.Zx (.cons W.c71 (.cons W.c72 .nil))))))
def t22(x:aG Gm):Lf.T (List Pl):=mg (Ps [.ag (Ps [.im bz,.im cr]),wU 0 0,OR 0]) [] (Ps [xM (.im bz) (.im cr) 18 19 22 0]) L22 Tryz.XW 3 (lE e22 3) (aH Gm x)
def Wy(x:aG Gm):Bool:=cT (fy C3 (t22 x))
def m22(x:aG Gm):aG C3:=cT (ej C3 (t22 x))
def s22:ey:=j7 (Ps [.ag (Ps [.im bz,.im cr]),wU 0 0,OR 0]) [] (Ps [xM (.im bz) (.im cr) 18 19 22 0]) Gm C3 fun x=>.ck (Wy x) (.ok (m22 x))
theorem UI{aR:bb}(W:WQ aR):s22.Ok 22 aR:=
 dq (W.in (UH W) 3) (W.st 22 _ rfl) rfl (p8.qK (.cons (b:=Ef.body) (by kernel_rfl) (Ka W) (.cons (b:=Eg.body) (by kernel_rfl) (Kc W) .nil))) (m:=3) rfl (fun _=>ai _) (fun _=>ai _)
end Go.Proofs.Vq

noncomputable section
namespace Go.Proofs.Vq
open Go.Ab Go.Ab.Lf
set_option maxRecDepth 100000
end Go.Proofs.Vq

noncomputable section
namespace Go.Proofs.Vq
open Go.Ab Go.Ab.Lf
set_option maxRecDepth 100000
end Go.Proofs.Vq

noncomputable section
namespace Go.Proofs.Vq
open Go.Ab Go.Ab.Lf
set_option maxRecDepth 100000
end Go.Proofs.Vq

noncomputable section
namespace Go.Proofs.Vq
open Go.Ab Go.Ab.Lf
set_option maxRecDepth 100000
abbrev tF3:List Ty:=[i64,.aC u64,.aC u64]
abbrev cL(x:Rn)(f f2:den cr)(pc:Int)(st lo:List Int):aG i1:=mT (yZ (yZ tF3)) x (cFn (yZ tF3) f (cFn tF3 f2 (pc,st,lo,())))
abbrev gG:List Ty:=[i64,i64,u64]
theorem Rj(g:Cg)(x:Rn)(f f2:den cr)(pc:Int)(st lo:List Int)(cs:List (den bE))(gu:cs=f.2.2.2.2.2.1)(c:den bE)(hc:c=cs.getD pc.toNat (aE bE))(a:aG xL)(ha:a=aJ gG ⟨x,f2,pc,st,lo⟩ (c.1,c.2.1,c.2.2,()))(F:ks)(hF:F=bT (rU g a)):
 (rV g (aH i1 (cL x f f2 pc st lo))).val=bif (bif decide (x.err=0)then decide (0<=pc)else false)then
  (bif decide ((cs.length:Int)<=pc)then(bif decide (x.err=0)then some (.out 0 (aH fW (aJ [] ⟨{x with err:=40},f2,pc,st,lo⟩ ())))else some (.out 0 (aH fW (aJ [] ⟨x,f2,pc,st,lo⟩ ()))))
   else bJ (bF pc (cs.length:Int)) (bJ (rT g a) (some (.next (aH i1 (cL F.r f F.f F.pc F.st F.lo))))))
  else some (.out 0 (aH fW (aJ [] ⟨x,f2,pc,st,lo⟩ ()))):=by
 subst hF;subst ha;subst hc;subst gu
 kernel_rfl
theorem aal(g:Cg)(x:Rn)(f:Int)(az:List Int)(fn:den cr)(qN:fn=x.m.fns.getD f.toNat (aE cr))(a:aG i1)(ha:a=cL {x with depth:=bL .i64 x.depth 1} fn fn 0 [] (app az (List.replicate (fn.2.2.2.2.1:Int).toNat (0:Int))))(F:ks)(hF:F=bT (je (rV g) i1 fW a)):
 (t73 g (mT [i64,.aC u64] x (f,az,()))).val=bJ (bF f (x.m.fns.length:Int)) (bif decide (0<=(fn.1:Int))then none else
  bif decide (x.depth=64)then(bif decide (x.err=0)then some (aH C0 ([],mT [] {x with err:=26} ()))else some (aH C0 ([],mT [] x ())))
  else bJ (decide (az.length<=1099511627776)) (bJ (decide ((fn.2.2.2.2.1:Int)=fn.2.2.2.2.1)) (bJ (decide (0<=(fn.2.2.2.2.1:Int))) (bJ (roomy 8 (az.length+(List.replicate (fn.2.2.2.2.1:Int).toNat (0:Int)).length))
   (bJ (zy (rV g) i1 fW a) (bJ (decide (F.st.length<=1099511627776)) (some (aH C0 (F.st,mT [] {F.r with depth:=aV .i64 F.r.depth 1} ()))))))))):=by
 subst hF;subst ha;subst qN
 kernel_rfl
end Go.Proofs.Vq
