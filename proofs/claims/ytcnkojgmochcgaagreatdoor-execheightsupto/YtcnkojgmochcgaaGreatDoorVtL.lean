import Derived.Test.YtcnkojgmochcgaaGreatDoorVqQ
noncomputable section
namespace Go.Proofs.Vq
open Go.Ab Go.Ab.Lf
set_option maxRecDepth 100000
section
variable (x:ks)(n:Int){s:List Int}{v w:Int}
theorem Bj{x x':ks}{o a n:Int}(h1:32<=o)(h2:o<=36)(h:Ur (aJ gG x (o,a,n,()))=true/\Us (aJ gG x (o,a,n,()))=aJ [] x' ()):l9 (aJ gG x (o,a,n,()))=true/\lF (aJ gG x (o,a,n,()))=aJ [] x' ():=by
 refine cg (ai _) (ai _) ?_
 refine(ql x o a n).trans ?_
 rw[df (show ¬ o=257 by omega),df (show ¬ o=256 by omega),df (show ¬ o=26 by omega),df (show ¬ o=27 by omega),df (show ¬ o=66 by omega),dt h1,dt h2,h.1,h.2]
 rfl
theorem Es{x x':ks}{o a n:Int}(h1:40<=o)(h2:o<=64)(h:Ut (aJ gG x (o,a,n,()))=true/\Uu (aJ gG x (o,a,n,()))=aJ [] x' ()):l9 (aJ gG x (o,a,n,()))=true/\lF (aJ gG x (o,a,n,()))=aJ [] x' ():=by
 refine cg (ai _) (ai _) ?_
 refine(ql x o a n).trans ?_
 rw[df (show ¬ o=257 by omega),df (show ¬ o=256 by omega),df (show ¬ o=26 by omega),df (show ¬ o=27 by omega),df (show ¬ o=66 by omega),dt (show 32<=o by omega),df (show ¬ o<=36 by omega),dt h1,dt h2,h.1,h.2]
 rfl
theorem P32(a:Nat)(ha:a<x.lo.length)(hl:x.st.length<=1048575):l9 (aJ gG x (32,(a:Int),n,()))=true/\lF (aJ gG x (32,(a:Int),n,()))=aJ [] {x with st:=x.st++[x.lo.getD a 0]} ():=by
 refine Bj (by decide) (by decide) ?_
 have hn:=fX x 0 1 (by omega) (by omega) (by omega)
 refine cg (ai _) (ai _) ?_
 refine(Bc x 32 a n).trans ?_
 rw[dt rfl,show ij (aJ [i64,i64] x (0,1,()))=true from hn.1,show aF (aJ [i64,i64] x (0,1,()))=_ from hn.2]
 show bJ true (bif true then bJ (bF (a:Int) (x.lo.length:Int)) (mb x.st (x.lo.getD a 0) (fun s=>fin {x with st:=s}))else fin x)=_
 rw[show bF (a:Int) (x.lo.length:Int)=true from cZ ha,gi _ _ (by omega)]
 rfl
theorem P33(a:Nat)(ha:a<x.lo.length)(hx:x.st=s++[w])(hl:s.length<=1048575):l9 (aJ gG x (33,(a:Int),n,()))=true/\lF (aJ gG x (33,(a:Int),n,()))=aJ [] {x with st:=s,lo:=x.lo.set a w} ():=by
 refine Bj (by decide) (by decide) ?_
 have hk:x.st.length=s.length+1:=by rw[hx,List.length_append];rfl
 have hn:=fX x 1 0 (by omega) (by omega) (by omega)
 refine cg (ai _) (ai _) ?_
 refine(Bc x 33 a n).trans ?_
 rw[df (show ¬ (33:Int)=32 by decide),dt (rfl:(33:Int)=33),show ij (aJ [i64,i64] x (1,0,()))=true from hn.1,show aF (aJ [i64,i64] x (1,0,()))=_ from hn.2]
 show bJ true (bif true then kP x.st (bJ (decide ((a:Int)=(a:Int))) (bJ (bF (a:Int) (x.lo.length:Int)) (fin {x with st:=r5 x.st,lo:=x.lo.set a (jK x.st)})))else fin x)=_
 rw[gh _ hx (by omega),lG hx (by omega),j9 hx (by omega),show bF (a:Int) (x.lo.length:Int)=true from cZ ha,dt rfl]
 rfl
theorem P34(a:Nat)(ha:a<x.lo.length)(hx:x.st=s++[w])(hl:s.length<=1048575):l9 (aJ gG x (34,(a:Int),n,()))=true/\lF (aJ gG x (34,(a:Int),n,()))=aJ [] {x with lo:=x.lo.set a w} ():=by
 refine Bj (by decide) (by decide) ?_
 have hk:x.st.length=s.length+1:=by rw[hx,List.length_append];rfl
 have hn:=fX x 1 1 (by omega) (by omega) (by omega)
 refine cg (ai _) (ai _) ?_
 refine(Bc x 34 a n).trans ?_
 rw[df (show ¬ (34:Int)=32 by decide),df (show ¬ (34:Int)=33 by decide),dt (rfl:(34:Int)=34),show ij (aJ [i64,i64] x (1,1,()))=true from hn.1,show aF (aJ [i64,i64] x (1,1,()))=_ from hn.2]
 show bJ true (bif true then bJ (bF (pH x.st) (Int.ofNat (List.length x.st))) (bJ (bF (a:Int) (x.lo.length:Int)) (fin {x with lo:=x.lo.set a (jK x.st)}))else fin x)=_
 rw[j9 hx (by omega),pX hx (by omega),show bF (s.length:Int) (Int.ofNat (List.length x.st))=true from cZ (by omega),show bF (a:Int) (x.lo.length:Int)=true from cZ ha]
 rfl
theorem C9{a N:Nat}(h:a<N):(bif decide ((a:Int)<0)then true else decide ((N:Int)<=(a:Int)))=false:=by
 rw[df (show ¬ (a:Int)<0 by omega),df (show ¬ (N:Int)<=(a:Int) by omega)];rfl
theorem P35(a:Nat)(ha:a<x.r.m.s.gf.length)(hl:x.st.length<=1048575):l9 (aJ gG x (35,(a:Int),n,()))=true/\lF (aJ gG x (35,(a:Int),n,()))=aJ [] {x with st:=x.st++[x.r.m.s.gf.getD a 0]} ():=by
 refine Bj (by decide) (by decide) ?_
 have hn:=fX x 0 1 (by omega) (by omega) (by omega)
 refine cg (ai _) (ai _) ?_
 refine(Bc x 35 a n).trans ?_
 rw[df (show ¬ (35:Int)=32 by decide),df (show ¬ (35:Int)=33 by decide),df (show ¬ (35:Int)=34 by decide),dt (rfl:(35:Int)=35),show ij (aJ [i64,i64] x (0,1,()))=true from hn.1,show aF (aJ [i64,i64] x (0,1,()))=_ from hn.2,C9 (N:=x.1.m.3.1.length) ha]
 show bJ (bF (a:Int) (x.r.m.s.gf.length:Int)) (bJ true (bif true then(mb x.st (x.r.m.s.gf.getD a 0) (fun s=>fin {x with st:=s}))else fin x))=_
 rw[show bF (a:Int) (x.r.m.s.gf.length:Int)=true from cZ ha,gi _ _ (by omega)]
 rfl
end
end Go.Proofs.Vq

noncomputable section
namespace Go.Proofs.Vq
open Go.Ab Go.Ab.Lf
set_option maxRecDepth 100000
section
variable (x:ks)(a n:Int){s:List Int}{v w:Int}
abbrev UP(x:ks)(l:List Int):ks:={x with r:={x.r with m:={x.r.m with s:={x.r.m.s with gf:=l}}}}
theorem P36(a:Nat)(ha:a<x.r.m.s.gf.length)(hsm:x.r.m.s.small.length=x.r.m.s.gf.length)(hx:x.st=s++[w])(hl:s.length<=1048575):l9 (aJ gG x (36,(a:Int),n,()))=true/\lF (aJ gG x (36,(a:Int),n,()))=aJ [] {UP x (x.r.m.s.gf.set a (bif decide (x.r.m.s.small.getD a 0=1)then dm .u64 w 4294967295 else w))with st:=s} ():=by
 refine Bj (by decide) (by decide) ?_
 have hk:x.st.length=s.length+1:=by rw[hx,List.length_append];rfl
 have hn:=fX x 1 0 (by omega) (by omega) (by omega)
 refine cg (ai _) (ai _) ?_
 refine(Bc x 36 a n).trans ?_
 rw[df (show ¬ (36:Int)=32 by decide),df (show ¬ (36:Int)=33 by decide),df (show ¬ (36:Int)=34 by decide),df (show ¬ (36:Int)=35 by decide),dt (rfl:(36:Int)=36),show ij (aJ [i64,i64] x (1,0,()))=true from hn.1,show aF (aJ [i64,i64] x (1,0,()))=_ from hn.2,C9 (N:=x.1.m.3.1.length) ha]
 show bJ (bF (a:Int) (x.r.m.s.gf.length:Int)) (bJ true (bif true then kP x.st (bJ (decide ((a:Int)=(a:Int))) (bif (bif decide ((a:Int)<0)then true else decide ((x.r.m.s.gf.length:Int)<=(a:Int)))then fin {x with st:=r5 x.st}else
  bJ (bF (a:Int) (x.r.m.s.small.length:Int)) (bif decide (x.r.m.s.small.getD a 0=1)then bJ (bF (a:Int) (x.r.m.s.gf.length:Int)) (fin {UP x (x.r.m.s.gf.set a (dm .u64 (jK x.st) 4294967295))with st:=r5 x.st})else bJ (bF (a:Int) (x.r.m.s.gf.length:Int)) (fin {UP x (x.r.m.s.gf.set a (jK x.st))with st:=r5 x.st}))))else fin x))=_
 rw[gh _ hx (by omega),lG hx (by omega),j9 hx (by omega),show bF (a:Int) (x.r.m.s.gf.length:Int)=true from cZ ha,show bF (a:Int) (x.r.m.s.small.length:Int)=true from cZ (by omega),C9 ha,dt rfl]
 cases decide (x.r.m.s.small.getD a 0=1)<;>rfl
theorem P63(hl:x.st.length<=1048575):l9 (aJ gG x (63,a,n,()))=true/\lF (aJ gG x (63,a,n,()))=aJ [] {x with st:=x.st++[ao .u64 (sX .i64 (x.r.m.s.bytes.length:Int) 65536)]} ():=by
 refine Es (by decide) (by decide) ?_
 refine cg (ai _) (ai _) ?_
 refine(El x 63 a n).trans ?_
 rw[dt rfl,cond_true]
 refine(r6 x 0 1 _ (by omega) (by omega) (by omega)).trans ?_
 exact gi _ _ (by omega)
theorem P64(p:Nat)(hp:p<=16)(hb:x.r.m.s.bytes.length=65536*p)(hx:x.st=s++[w])(hl:s.length<=1048575): ∃ u k,(l9 (aJ gG x (64,a,n,()))=true/\lF (aJ gG x (64,a,n,()))=aJ [] {C7 x (x.r.m.s.bytes++List.replicate (65536*k) 0) x.r.m.s.most with st:=s++[u]} ())/\U u/\p+k<=16:=by
 have hk:x.st.length=s.length+1:=by rw[hx,List.length_append];rfl
 have h32:=mV w
 obtain⟨N,hN⟩: ∃ N:Nat,ao .u32 w=(N:Int):=⟨(ao .u32 w).toNat,by omega⟩
 obtain⟨q1,u,k,q2,q3,q4,q5⟩:=agp x.r.m.s.bytes x.r.m.s.most N p hp hb (by omega)
 refine⟨ao .u64 u,k,Es (by decide) (by decide) ?_,mF _,q5⟩
 refine cg (ai _) (ai _) ?_
 refine(El x 64 a n).trans ?_
 rw[df (show ¬ (64:Int)=63 by decide),dt rfl,cond_false,cond_true]
 refine(r6 x 1 1 _ (by omega) (by omega) (by omega)).trans ?_
 refine(gh _ hx (by omega)).trans ?_
 rw[j9 hx (by omega),lG hx (by omega),hN,q1,q2,db rfl]
 exact gi _ _ (by omega)
theorem Py{o:Int}(h1:54<=o)(h2:o<=62)(hb:x.r.m.s.bytes.length<=1099511627776)(he:x.r.err=0)(hx:x.st=s++[v,w])(hl:s.length<=1048574): ∃ e b',(l9 (aJ gG x (o,a,n,()))=true/\lF (aJ gG x (o,a,n,()))=aJ [] {C7 x b' x.r.m.s.most with r:={(C7 x b' x.r.m.s.most).r with err:=e},st:=s} ())/\b'.length=x.r.m.s.bytes.length/\(e=0∨e=1/\qn o=false∨e=23):=by
 have hk:x.st.length=s.length+2:=by rw[hx,List.length_append];rfl
 obtain⟨q1,e,b',q2,q3,q4⟩:=ago x.r.m.s.bytes x.r.m.s.most o v n w hb
 refine⟨e,b',Es (by omega) (by omega) ?_,q3,q4⟩
 refine cg (ai _) (ai _) ?_
 refine(El x o a n).trans ?_
 rw[df (show ¬ o=63 by omega),df (show ¬ o=64 by omega),dt h1,cond_false,cond_false,cond_true]
 refine(r6 x 2 0 _ (by omega) (by omega) (by omega)).trans ?_
 refine(tl _ hx (by omega)).trans ?_
 rw[wj hx (by omega),zc hx (by omega),Em hx (by omega),q1,q2,dt (rfl:o=o),dt (rfl:n=n),db rfl,db rfl,db rfl]
 exact r7 _ _ _ he
theorem UQ{o:Int}(h1:40<=o)(h2:o<=53)(hb:x.r.m.s.bytes.length<=1099511627776)(he:x.r.err=0)(hx:x.st=s++[w])(hl:s.length<=1048575): ∃ u e,(l9 (aJ gG x (o,a,n,()))=true/\lF (aJ gG x (o,a,n,()))=aJ [] {x with r:={x.r with err:=e},st:=s++[u]} ())/\U u/\(e=0∨e=1/\qn o=false∨e=23):=by
 have hk:x.st.length=s.length+1:=by rw[hx,List.length_append];rfl
 obtain⟨q1,u,e,q2,q3,q4⟩:=agn x.r.m.s.bytes x.r.m.s.most o w n hb
 refine⟨u,e,Es (by omega) (by omega) ?_,q3,q4⟩
 refine cg (ai _) (ai _) ?_
 refine(El x o a n).trans ?_
 rw[df (show ¬ o=63 by omega),df (show ¬ o=64 by omega),df (show ¬ 54<=o by omega),cond_false,cond_false,cond_false]
 refine(r6 x 1 1 _ (by omega) (by omega) (by omega)).trans ?_
 refine(gh _ hx (by omega)).trans ?_
 rw[j9 hx (by omega),lG hx (by omega),q1,q2,dt (rfl:o=o),dt (rfl:n=n),db rfl,db rfl,db rfl]
 refine(r7 _ _ _ ?_).trans ?_
 ·exact he
 ·exact gi (s:=s) u _ (by omega)
end
end Go.Proofs.Vq

noncomputable section
namespace Go.Proofs.Vq
open Go.Ab Go.Ab.Lf
set_option maxRecDepth 100000
section
variable (x:ks)(a n:Int){s:List Int}{v w:Int}
structure Num(o:Int):Prop where
 h: ¬ o=257/\ ¬ o=256/\ ¬ o=26/\ ¬ o=27/\ ¬ o=66/\ ¬ (32<=o/\o<=36)/\ ¬ (40<=o/\o<=64)
theorem r8{a b:Int->Prop}{o:Int}[Decidable (a o)][Decidable (b o)](h: ¬ (a o/\b o)):(bif decide (a o)then decide (b o)else false)=false:=by
 by_cases ha:a o
 ·rw[dt ha,df (fun hb=>h ⟨ha,hb⟩)];rfl
 ·rw[df ha];rfl
theorem agt{o:Int}(hO:Num o)(ha:(m11 (o,())).1=1)(he:x.r.err=0)(hw:U w)(hx:x.st=s++[w])(hl:s.length<=1048575):l9 (aJ gG x (o,a,n,()))=true/\lF (aJ gG x (o,a,n,()))=aJ [] {x with r:={x.r with err:=(m13 (o,w,())).2.1},st:=s++[(m13 (o,w,())).1]} ():=by
 obtain⟨h1,h2,h3,h4,h5,h6,h7⟩:=hO.h
 obtain⟨hk,_⟩:=Ry o w hw
 have LX:x.st.length=s.length+1:=by rw[hx,List.length_append];rfl
 have hn:=fX x 1 1 (by omega) (by omega) (by omega)
 refine cg (ai _) (ai _) ?_
 refine(ql x o a n).trans ?_
 rw[df h1,df h2,df h3,df h4,df h5,r8 (a:=fun o=>32<=o) (b:=fun o=>o<=36) h6,r8 (a:=fun o=>40<=o) (b:=fun o=>o<=64) h7,(pG o).1,dt ha,show ij (aJ [i64,i64] x (1,1,()))=true from hn.1,show aF (aJ [i64,i64] x (1,1,()))=_ from hn.2]
 show bJ true (bJ true (bif true then kP x.st (bJ (decide (o=o)) (bJ (Up (o,jK x.st,())) (Bg (m13 (o,jK x.st,())).2.1 {x with st:=r5 x.st} fun F=>mb F.st (m13 (o,jK x.st,())).1 fun s=>fin {F with st:=s})))else fin x))=_
 rw[gh _ hx (by omega),j9 hx (by omega),lG hx (by omega),hk,dt (rfl:o=o),db rfl,db rfl,cond_true,db rfl,db rfl]
 refine(r7 _ _ _ ?_).trans ?_
 ·exact he
 ·exact gi (s:=s) _ _ (by omega)
theorem aaI{o:Int}(hO:Num o)(ha:(m11 (o,())).1=2)(he:x.r.err=0)(hv:U v)(hw:U w)(hx:x.st=s++[v,w])(hl:s.length<=1048574):l9 (aJ gG x (o,a,n,()))=true/\lF (aJ gG x (o,a,n,()))=aJ [] {x with r:={x.r with err:=(m12 (o,v,w,())).2.1},st:=s++[(m12 (o,v,w,())).1]} ():=by
 obtain⟨h1,h2,h3,h4,h5,h6,h7⟩:=hO.h
 obtain⟨hk,_⟩:=Ki o v w hv hw
 have LX:x.st.length=s.length+2:=by rw[hx,List.length_append];rfl
 have hn:=fX x 2 1 (by omega) (by omega) (by omega)
 refine cg (ai _) (ai _) ?_
 refine(ql x o a n).trans ?_
 rw[df h1,df h2,df h3,df h4,df h5,r8 (a:=fun o=>32<=o) (b:=fun o=>o<=36) h6,r8 (a:=fun o=>40<=o) (b:=fun o=>o<=64) h7,(pG o).1,df (show ¬ (m11 (o,())).1=1 from fun q=>absurd (ha.symm.trans q) (by decide)),show ij (aJ [i64,i64] x (2,1,()))=true from hn.1,show aF (aJ [i64,i64] x (2,1,()))=_ from hn.2]
 show bJ true (bJ true (bif true then zb x.st (bJ (Ui (o,za x.st,jK x.st,())) (Bg (m12 (o,za x.st,jK x.st,())).2.1 {x with st:=UO x.st} fun F=>mb F.st (m12 (o,za x.st,jK x.st,())).1 fun s=>fin {F with st:=s}))else fin x))=_
 rw[tl _ hx (by omega),wj hx (by omega),zc hx (by omega),Em hx (by omega),hk,db rfl,db rfl,cond_true,db rfl]
 refine(r7 _ _ _ ?_).trans ?_
 ·exact he
 ·exact gi (s:=s) _ _ (by omega)
theorem agu(k d:Nat)(h:k+d<=x.st.length)(hs:x.st.length<=1048576)(hk:k<=1048576)(hd:d<=1048576):l9 (aJ gG x (256,(k:Int),(d:Int),()))=true/\lF (aJ gG x (256,(k:Int),(d:Int),()))=aJ [] {x with st:=x.st.take (x.st.length - k - d)++x.st.drop (x.st.length - k)} ():=by
 have hn:=Ek x ((k+d:Nat):Int) (k:Int) (by omega) (by omega) (by omega) (by omega) (by omega) (by omega)
 refine cg (ai _) (ai _) ?_
 refine(ql x 256 (k:Int) (d:Int)).trans ?_
 rw[df (show ¬ (256:Int)=257 by decide),dt rfl]
 have e0:ao .i64 (d:Int)=(d:Int):=wrap_i64 (by omega) (by omega)
 have e1:bL .i64 (k:Int) (d:Int)=((k+d:Nat):Int):=(wrap_i64 (by omega) (by omega)).trans (by omega)
 rw[e0,e1,hn.1,hn.2]
 have eA:aV .i64 (x.st.length:Int) (k:Int)=((x.st.length - k:Nat):Int):=(wrap_i64 (by omega) (by omega)).trans (by omega)
 have eI:aV .i64 ((x.st.length - k:Nat):Int) (d:Int)=((x.st.length - k - d:Nat):Int):=(wrap_i64 (by omega) (by omega)).trans (by omega)
 show bJ true (bif true then bJ (decide (0<=aV .i64 (aV .i64 (x.st.length:Int) (k:Int)) (d:Int)/\aV .i64 (aV .i64 (x.st.length:Int) (k:Int)) (d:Int)<=aV .i64 (x.st.length:Int) (k:Int)/\aV .i64 (x.st.length:Int) (k:Int)<=(x.st.length:Int)/\x.st.length<=1099511627776)) (some (aH fo (aJ [] {x with st:=app (List.take (aV .i64 (aV .i64 (x.st.length:Int) (k:Int)) (d:Int)).toNat x.st) (List.drop (aV .i64 (x.st.length:Int) (k:Int)).toNat x.st)} ())))else fin x)=_
 rw[eA,eI,dt (show(0:Int)<=((x.st.length - k - d:Nat):Int)/\((x.st.length - k - d:Nat):Int)<=((x.st.length - k:Nat):Int)/\((x.st.length - k:Nat):Int)<=(x.st.length:Int)/\x.st.length<=1099511627776 from⟨by omega,by omega,by omega,by omega⟩),dn]
 rfl
end
end Go.Proofs.Vq

noncomputable section
namespace Go.Proofs.Vq
open Go.Ab Go.Ab.Lf
set_option maxRecDepth 100000
theorem nB{l:List Int}(h:1<=l.length): ∃ s w,l=s++[w]:=by
 cases h0:l.reverse with
 |nil=>
  have:=congrArg List.length h0
  rw[List.length_reverse]at this
  have h2:l.length=0:=this
  omega
 |cons w r=>exact⟨r.reverse,w,by rw[<-List.reverse_reverse l,h0];simp⟩
theorem Kw{l:List Int}(h:2<=l.length): ∃ s v w,l=s++[v,w]:=by
 obtain⟨s,w,rfl⟩:=nB (l:=l) (by omega)
 rw[List.length_append]at h
 obtain⟨s',v,rfl⟩:=nB (l:=s) (by simp at h;omega)
 exact⟨s',v,w,by rw[List.append_assoc];rfl⟩
theorem aaJ{l:List Int}(h:3<=l.length): ∃ s u v w,l=s++[u,v,w]:=by
 obtain⟨s,v,w,rfl⟩:=Kw (l:=l) (by omega)
 rw[List.length_append]at h
 obtain⟨s',u,rfl⟩:=nB (l:=s) (by simp at h;omega)
 exact⟨s',u,v,w,by rw[List.append_assoc];rfl⟩
structure UR(s:Sto):Prop where
 sl:s.small.length=s.gf.length
 vu: ∀ y,y∈s.gf->U y
 mem: ∃ p,p<=16/\s.bytes.length=65536*p
structure Inv(x:ks):Prop where
 e:x.r.err=0
 sl:x.st.length<=1048576
 su: ∀ y,y∈x.st->U y
 lu: ∀ y,y∈x.lo->U y
 so:UR x.r.m.s
structure Res(x x':ks)(h:Nat):Prop where
 f:x'.f=x.f
 pc:x'.pc=x.pc
 m:x'.r.m={x.r.m with s:=x'.r.m.s}
 ho:x'.r.eG=x.r.eG
 de:x'.r.depth=x.r.depth
 so:UR x'.r.m.s
 sv:x'.r.m.s.gf.length=x.r.m.s.gf.length
 ll:x'.lo.length=x.lo.length
 su: ∀ y,y∈x'.st->U y
 lu: ∀ y,y∈x'.lo->U y
 sl:x'.st.length<=1048576
 e:x'.r.err=0/\x'.st.length=h∨x'.r.err=27∨x'.r.err=23∨x'.r.err=21∨x'.r.err=22
inductive wW (nl ns:Nat):den bE->Nat->Nat->Prop
 |tick {a n}:wW nl ns (257,a,n) 0 0
 |drop {a n}:wW nl ns (26,a,n) 1 0
 |xR {a n}:wW nl ns (27,a,n) 3 1
 |Lu {a n}:U n->wW nl ns (66,a,n) 0 1
 |get {a:Nat} {n}:a<nl->wW nl ns (32,(a:Int),n) 0 1
 |put {a:Nat} {n}:a<nl->wW nl ns (33,(a:Int),n) 1 0
 |tee {a:Nat} {n}:a<nl->wW nl ns (34,(a:Int),n) 1 1
 |aaK {a:Nat} {n}:a<ns->wW nl ns (35,(a:Int),n) 0 1
 |aaL {a:Nat} {n}:a<ns->wW nl ns (36,(a:Int),n) 1 0
 |size {a n}:wW nl ns (63,a,n) 0 1
 |grow {a n}:wW nl ns (64,a,n) 1 1
 |load {o a n}:40<=o->o<=53->qn o=true->wW nl ns (o,a,n) 1 1
 |store {o a n}:54<=o->o<=62->qn o=true->wW nl ns (o,a,n) 2 0
 |un {o a n}:Num o->(m11 (o,())).1=1->wW nl ns (o,a,n) 1 1
 |bin {o a n}:Num o->(m11 (o,())).1=2->wW nl ns (o,a,n) 2 1
 |RH {k d:Nat}:k<=1048576->d<=1048576->wW nl ns (256,(k:Int),(d:Int)) (k+d) k
theorem jx{s:List Int}{w y:Int}(h:y∈s++[w]):y∈s∨y=w:=by
 rcases List.mem_append.1 h with q|q
 ·exact .inl q
 ·exact .inr (by simpa using q)
theorem mem_set{l:List Int}{a:Nat}{w y:Int}(h:y∈l.set a w):y∈l∨y=w:=by
 rcases List.mem_or_eq_of_mem_set h with q|q
 ·exact .inl q
 ·exact .inr q
theorem Da{l:List Int}(h: ∀ y,y∈l->U y)(a:Nat):U (l.getD a 0):=by
 by_cases ha:a<l.length
 ·exact h _ (jw ha 0)
 ·rw[List.getD_eq_getElem?_getD,List.getElem?_eq_none (by omega)];exact U0
theorem Kx{b:List Int}{p k:Nat}(h:b.length=65536*p):(b++List.replicate (65536*k) (0:Int)).length=65536*(p+k):=by
 rw[List.length_append,List.length_replicate,h];omega
theorem Gn{x:ks}(I:Inv x){c:den bE}{t g:Nat}(h:wW x.lo.length x.r.m.s.gf.length c t g)(ht:t<=x.st.length)(hg:x.st.length - t+g<=1048576):
 ∃ x',(l9 (aJ gG x (c.1,c.2.1,c.2.2,()))=true/\lF (aJ gG x (c.1,c.2.1,c.2.2,()))=aJ [] x' ())/\Res x x' (x.st.length - t+g):=by
 obtain⟨he,dV,n8,um,p9⟩:=I
 obtain⟨ho1,Pz,p,ho3,US⟩:=p9
 have p9:UR x.r.m.s:=⟨ho1,Pz,p,ho3,US⟩
 cases h with
 |tick=>
  by_cases hf:x.r.fuel=0
  ·exact⟨_,aaF x _ _ hf he,⟨rfl,rfl,rfl,rfl,rfl,p9,rfl,rfl,n8,um,dV,.inr (.inl rfl)⟩⟩
  ·exact⟨_,agr x _ _ hf,⟨rfl,rfl,rfl,rfl,rfl,p9,rfl,rfl,n8,um,dV,.inl ⟨he,by show x.st.length=_;omega⟩⟩⟩
 |drop=>
  obtain⟨s,w,hx⟩:=nB ht
  have hk:x.st.length=s.length+1:=by rw[hx,List.length_append];rfl
  exact⟨_,P26 x _ _ hx (by omega),⟨rfl,rfl,rfl,rfl,rfl,p9,rfl,rfl,fun y hy=>n8 y (by rw[hx];exact List.mem_append_left _ hy),um,by show s.length<=_;omega,.inl ⟨he,by show s.length=_;omega⟩⟩⟩
 |xR=>
  obtain⟨s,u,v,w,hx⟩:=aaJ ht
  have hk:x.st.length=s.length+3:=by rw[hx,List.length_append];rfl
  have hv:U u/\U v:=⟨n8 u (by rw[hx];simp),n8 v (by rw[hx];simp)⟩
  refine⟨_,P27 x _ _ hx (by omega),⟨rfl,rfl,rfl,rfl,rfl,p9,rfl,rfl,fun y hy=>?_,um,?_,.inl ⟨he,?_⟩⟩⟩
  ·rcases jx hy with q|rfl
   ·exact n8 y (by rw[hx];exact List.mem_append_left _ q)
   ·cases decide (ao .u32 w=0)
    ·exact hv.1
    ·exact hv.2
  ·show(s++[_]).length<=_;rw[List.length_append];show s.length+1<=_;omega
  ·show(s++[_]).length=_;rw[List.length_append];show s.length+1=_;omega
 |Lu hn=>
  refine⟨_,P66 x _ _ (by omega),⟨rfl,rfl,rfl,rfl,rfl,p9,rfl,rfl,fun y hy=>?_,um,?_,.inl ⟨he,?_⟩⟩⟩
  ·rcases jx hy with q|rfl
   ·exact n8 y q
   ·exact hn
  ·show(x.st++[_]).length<=_;rw[List.length_append];show x.st.length+1<=_;omega
  ·show(x.st++[_]).length=_;rw[List.length_append];show x.st.length+1=_;omega
 |get ha=>
  refine⟨_,P32 x _ _ ha (by omega),⟨rfl,rfl,rfl,rfl,rfl,p9,rfl,rfl,fun y hy=>?_,um,?_,.inl ⟨he,?_⟩⟩⟩
  ·rcases jx hy with q|rfl
   ·exact n8 y q
   ·exact Da um _
  ·show(x.st++[_]).length<=_;rw[List.length_append];show x.st.length+1<=_;omega
  ·show(x.st++[_]).length=_;rw[List.length_append];show x.st.length+1=_;omega
 |put ha=>
  obtain⟨s,w,hx⟩:=nB ht
  have hk:x.st.length=s.length+1:=by rw[hx,List.length_append];rfl
  refine⟨_,P33 x _ _ ha hx (by omega),⟨rfl,rfl,rfl,rfl,rfl,p9,rfl,List.length_set,fun y hy=>n8 y (by rw[hx];exact List.mem_append_left _ hy),fun y hy=>?_,by show s.length<=_;omega,.inl ⟨he,by show s.length=_;omega⟩⟩⟩
  rcases mem_set hy with q|rfl
  ·exact um y q
  ·exact n8 y (by rw[hx];simp)
 |tee ha=>
  obtain⟨s,w,hx⟩:=nB ht
  have hk:x.st.length=s.length+1:=by rw[hx,List.length_append];rfl
  refine⟨_,P34 x _ _ ha hx (by omega),⟨rfl,rfl,rfl,rfl,rfl,p9,rfl,List.length_set,n8,fun y hy=>?_,dV,.inl ⟨he,by show x.st.length=_;omega⟩⟩⟩
  rcases mem_set hy with q|rfl
  ·exact um y q
  ·exact n8 y (by rw[hx];simp)
 |aaK ha=>
  refine⟨_,P35 x _ _ ha (by omega),⟨rfl,rfl,rfl,rfl,rfl,p9,rfl,rfl,fun y hy=>?_,um,?_,.inl ⟨he,?_⟩⟩⟩
  ·rcases jx hy with q|rfl
   ·exact n8 y q
   ·exact Da Pz _
  ·show(x.st++[_]).length<=_;rw[List.length_append];show x.st.length+1<=_;omega
  ·show(x.st++[_]).length=_;rw[List.length_append];show x.st.length+1=_;omega
 |aaL ha=>
  obtain⟨s,w,hx⟩:=nB ht
  have hk:x.st.length=s.length+1:=by rw[hx,List.length_append];rfl
  have hw:U w:=n8 w (by rw[hx];simp)
  refine⟨_,P36 x _ _ ha ho1 hx (by omega),⟨rfl,rfl,rfl,rfl,rfl,⟨?_,fun y hy=>?_,p,ho3,US⟩,List.length_set,rfl,fun y hy=>n8 y (by rw[hx];exact List.mem_append_left _ hy),um,by show s.length<=_;omega,.inl ⟨he,by show s.length=_;omega⟩⟩⟩
  ·show x.r.m.s.small.length=(x.r.m.s.gf.set _ _).length
   rw[List.length_set];exact ho1
  ·rcases mem_set hy with q|rfl
   ·exact Pz y q
   ·cases decide (x.r.m.s.small.getD _ 0=1)
    ·exact hw
    ·exact(qm hw (y:=4294967295) ⟨by decide,by decide⟩).1
 |size=>
  refine⟨_,P63 x _ _ (by omega),⟨rfl,rfl,rfl,rfl,rfl,p9,rfl,rfl,fun y hy=>?_,um,?_,.inl ⟨he,?_⟩⟩⟩
  ·rcases jx hy with q|q
   ·exact n8 y q
   ·rw[q];exact mF _
  ·show(x.st++[_]).length<=_;rw[List.length_append];show x.st.length+1<=_;omega
  ·show(x.st++[_]).length=_;rw[List.length_append];show x.st.length+1=_;omega
 |grow=>
  obtain⟨s,w,hx⟩:=nB ht
  have hk:x.st.length=s.length+1:=by rw[hx,List.length_append];rfl
  obtain⟨u,k,q1,q2,q3⟩:=P64 x _ _ p ho3 US hx (by omega)
  have hgl:=Kx (k:=k) US
  obtain⟨bs,hbs⟩: ∃ bs,bs=x.r.m.s.bytes++List.replicate (65536*k) (0:Int):=⟨_,rfl⟩
  rw[<-hbs]at q1 hgl
  refine⟨{C7 x bs x.r.m.s.most with st:=s++[u]},q1,⟨rfl,rfl,rfl,rfl,rfl,⟨ho1,Pz,p+k,q3,?_⟩,rfl,rfl,fun y hy=>?_,um,?_,.inl ⟨he,?_⟩⟩⟩
  ·exact hgl
  ·rcases jx hy with q|rfl
   ·exact n8 y (by rw[hx];exact List.mem_append_left _ q)
   ·exact q2
  ·show(s++[_]).length<=_;rw[List.length_append];show s.length+1<=_;omega
  ·show(s++[_]).length=_;rw[List.length_append];show s.length+1=_;omega
 |load h1 h2 hm=>
  obtain⟨s,w,hx⟩:=nB ht
  have hk:x.st.length=s.length+1:=by rw[hx,List.length_append];rfl
  obtain⟨u,e,q1,q2,q3⟩:=UQ x _ _ h1 h2 (by rw[US];omega) he hx (by omega)
  refine⟨_,q1,⟨rfl,rfl,rfl,rfl,rfl,p9,rfl,rfl,fun y hy=>?_,um,?_,?_⟩⟩
  ·rcases jx hy with q|rfl
   ·exact n8 y (by rw[hx];exact List.mem_append_left _ q)
   ·exact q2
  ·show(s++[_]).length<=_;rw[List.length_append];show s.length+1<=_;omega
  ·rcases q3 with q|⟨_,q⟩|q
   ·exact .inl ⟨q,by show(s++[_]).length=_;rw[List.length_append];show s.length+1=_;omega⟩
   ·rw[hm]at q;cases q
   ·exact .inr (.inr (.inl q))
 |store h1 h2 hm=>
  obtain⟨s,v,w,hx⟩:=Kw ht
  have hk:x.st.length=s.length+2:=by rw[hx,List.length_append];rfl
  obtain⟨e,b',q1,q2,q3⟩:=Py x _ _ h1 h2 (by rw[US];omega) he hx (by omega)
  refine⟨_,q1,⟨rfl,rfl,rfl,rfl,rfl,⟨ho1,Pz,p,ho3,q2.trans US⟩,rfl,rfl,fun y hy=>n8 y (by rw[hx];exact List.mem_append_left _ hy),um,by show s.length<=_;omega,?_⟩⟩
  rcases q3 with q|⟨_,q⟩|q
  ·exact .inl ⟨q,by show s.length=_;omega⟩
  ·rw[hm]at q;cases q
  ·exact .inr (.inr (.inl q))
 |un hO ha=>
  obtain⟨s,w,hx⟩:=nB ht
  have hk:x.st.length=s.length+1:=by rw[hx,List.length_append];rfl
  have hw:U w:=n8 w (by rw[hx];simp)
  refine⟨_,agt x _ _ hO ha he hw hx (by omega),⟨rfl,rfl,rfl,rfl,rfl,p9,rfl,rfl,fun y hy=>?_,um,?_,.inl ⟨agq _ w hw ha,?_⟩⟩⟩
  ·rcases jx hy with q|rfl
   ·exact n8 y (by rw[hx];exact List.mem_append_left _ q)
   ·exact(Ry _ w hw).2
  ·show(s++[_]).length<=_;rw[List.length_append];show s.length+1<=_;omega
  ·show(s++[_]).length=_;rw[List.length_append];show s.length+1=_;omega
 |bin hO ha=>
  obtain⟨s,v,w,hx⟩:=Kw ht
  have hk:x.st.length=s.length+2:=by rw[hx,List.length_append];rfl
  have hv:U v:=n8 v (by rw[hx];simp)
  have hw:U w:=n8 w (by rw[hx];simp)
  refine⟨_,aaI x _ _ hO ha he hv hw hx (by omega),⟨rfl,rfl,rfl,rfl,rfl,p9,rfl,rfl,fun y hy=>?_,um,?_,?_⟩⟩
  ·rcases jx hy with q|rfl
   ·exact n8 y (by rw[hx];exact List.mem_append_left _ q)
   ·exact(Ki _ v w hv hw).2
  ·show(s++[_]).length<=_;rw[List.length_append];show s.length+1<=_;omega
  ·rcases aaE _ v w hv hw ha with q|q|q
   ·exact .inl ⟨q,by show(s++[_]).length=_;rw[List.length_append];show s.length+1=_;omega⟩
   ·exact .inr (.inr (.inr (.inl q)))
   ·exact .inr (.inr (.inr (.inr q)))
 | @RH k d hk hd=>
  have hl:(x.st.take (x.st.length - g - d)++x.st.drop (x.st.length - g)).length=x.st.length - (g+d)+g:=by rw[List.length_append,List.length_take,List.length_drop];omega
  refine⟨_,agu x g d ht dV hk hd,⟨rfl,rfl,rfl,rfl,rfl,p9,rfl,rfl,fun y hy=>?_,um,by show List.length _<=_;rw[hl];exact hg,.inl ⟨he,hl⟩⟩⟩
  rcases List.mem_append.1 hy with q|q
  ·exact n8 y (List.mem_of_mem_take q)
  ·exact n8 y (List.mem_of_mem_drop q)
end Go.Proofs.Vq

noncomputable section
namespace Go.Proofs.Vq
open Go.Ab Go.Ab.Lf
set_option maxRecDepth 100000
section
variable (g:Cg)(x:ks)(a n:Int){s:List Int}{w:Int}
def jmp(x:ks)(a:Int):ks:=bif decide (x.pc<a)then{x with pc:=a}else bif decide (x.r.eG=262144)then{x with r:={x.r with err:=41}}else{x with r:={x.r with eG:=bL .i64 x.r.eG 1},pc:=a}
theorem aaN(he:x.r.err=0):J3 (aJ [i64] x (a,()))=true/\J4 (aJ [i64] x (a,()))=aJ [] (jmp x a) ():=by
 refine cg (ai _) (ai _) ?_
 refine(aan x a).trans ?_
 rw[dt (show x.r.5=0 from he)]
 show(bif decide (x.pc<a)then _ else bif decide (x.r.eG=262144)then _ else _)=_
 unfold jmp
 cases decide (x.pc<a)with
 |true=>rfl
 |false=>cases decide (x.r.eG=262144)<;>rfl
theorem S0(he:x.r.err=0):rT g (aJ gG x (0,a,n,()))=true/\rU g (aJ gG x (0,a,n,()))=aJ [] {x with r:={x.r with err:=20}} ():=by
 refine cg (ai _) (ai _) ?_
 refine(wg g x 0 a n).trans ?_
 rw[dt rfl,cond_true,dt (show x.r.5=0 from he),cond_true]
theorem S12(he:x.r.err=0):rT g (aJ gG x (12,a,n,()))=true/\rU g (aJ gG x (12,a,n,()))=aJ [] (jmp x a) ():=by
 obtain⟨q1,q2⟩:=aaN x a he
 refine cg (ai _) (ai _) ?_
 refine(wg g x 12 a n).trans ?_
 rw[df (show ¬ (12:Int)=0 by decide),dt (rfl:(12:Int)=12),q1,q2]
 rfl
theorem S13(he:x.r.err=0)(hx:x.st=s++[w])(hl:s.length<=1048575):rT g (aJ gG x (13,a,n,()))=true/\rU g (aJ gG x (13,a,n,()))=aJ [] (bif decide (ao .u32 w=0)then{x with st:=s,pc:=bL .i64 x.pc 1}else jmp {x with st:=s} a) ():=by
 have hk:x.st.length=s.length+1:=by rw[hx,List.length_append];rfl
 have hn:=fX x 1 0 (by omega) (by omega) (by omega)
 obtain⟨q1,q2⟩:=aaN {x with st:=s} a he
 refine cg (ai _) (ai _) ?_
 refine(wg g x 13 a n).trans ?_
 rw[df (show ¬ (13:Int)=0 by decide),df (show ¬ (13:Int)=12 by decide),dt (rfl:(13:Int)=13),show ij (aJ [i64,i64] x (1,0,()))=true from hn.1,show aF (aJ [i64,i64] x (1,0,()))=_ from hn.2]
 show bJ true (bif true then kP x.st (bif !decide (ao .u32 (jK x.st)=0)then bJ (J3 (aJ [i64] {x with st:=r5 x.st} (a,()))) (some (aH jU (aJ [] (bT (J4 (aJ [i64] {x with st:=r5 x.st} (a,())))) ())))else fin {x with pc:=bL .i64 x.pc 1,st:=r5 x.st})else fin x)=_
 rw[gh _ hx (by omega),lG hx (by omega),j9 hx (by omega),q1,q2]
 cases decide (ao .u32 w=0)<;>rfl
theorem S14(hx:x.st=s++[w])(hl:s.length<=1048575):rT g (aJ gG x (14,a,n,()))=true/\rU g (aJ gG x (14,a,n,()))=aJ [] {x with st:=s,pc:=bL .i64 x.pc (bL .i64 1 (ao .i64 (min (ao .u64 (ao .u32 w)) (ao .u64 a))))} ():=by
 have hk:x.st.length=s.length+1:=by rw[hx,List.length_append];rfl
 have hn:=fX x 1 0 (by omega) (by omega) (by omega)
 refine cg (ai _) (ai _) ?_
 refine(wg g x 14 a n).trans ?_
 rw[df (show ¬ (14:Int)=0 by decide),df (show ¬ (14:Int)=12 by decide),df (show ¬ (14:Int)=13 by decide),dt (rfl:(14:Int)=14),show ij (aJ [i64,i64] x (1,0,()))=true from hn.1,show aF (aJ [i64,i64] x (1,0,()))=_ from hn.2]
 show bJ true (bif true then kP x.st (bJ (decide (x.pc=x.pc)) (bJ (decide (a=a)) (fin {x with pc:=bL .i64 x.pc (bL .i64 1 (ao .i64 (min (ao .u64 (ao .u32 (jK x.st))) (ao .u64 a)))),st:=r5 x.st})))else fin x)=_
 rw[gh _ hx (by omega),lG hx (by omega),j9 hx (by omega),dt (rfl:x.pc=x.pc),dt (rfl:a=a)]
 rfl
theorem S15(o:Nat)(ho:x.f.2.2.2.1=(o:Int))(h:o<=x.st.length)(hl:x.st.length<=1048576):rT g (aJ gG x (15,a,n,()))=true/\rU g (aJ gG x (15,a,n,()))=aJ [] {x with pc:= -1,st:=x.st.drop (x.st.length - o)} ():=by
 have hn:=fX x o 0 (by omega) (by omega) (by omega)
 refine cg (ai _) (ai _) ?_
 refine(wg g x 15 a n).trans ?_
 rw[df (show ¬ (15:Int)=0 by decide),df (show ¬ (15:Int)=12 by decide),df (show ¬ (15:Int)=13 by decide),df (show ¬ (15:Int)=14 by decide),dt (rfl:(15:Int)=15),show ij (aJ [i64,i64] x (x.2.2.2.2.1,0,()))=true from(by rw[show(x.2.2.2.2.1:Int)=(o:Int)from ho];exact hn.1),show aF (aJ [i64,i64] x (x.2.2.2.2.1,0,()))=(true,aJ [] x ())from(by rw[show(x.2.2.2.2.1:Int)=(o:Int)from ho];exact hn.2)]
 show bJ true (bif true then bJ (dy (aV .i64 (x.st.length:Int) x.f.2.2.2.1) (x.st.length:Int) (x.st.length:Int)) (fin {x with pc:= -1,st:=List.take ((x.st.length:Int).toNat - (aV .i64 (x.st.length:Int) x.f.2.2.2.1).toNat) (List.drop (aV .i64 (x.st.length:Int) x.f.2.2.2.1).toNat x.st)})else fin x)=_
 have e:aV .i64 (x.st.length:Int) x.f.2.2.2.1=((x.st.length - o:Nat):Int):=by rw[ho];exact(wrap_i64 (by omega) (by omega)).trans (by omega)
 rw[e,show dy ((x.st.length - o:Nat):Int) (x.st.length:Int) (x.st.length:Int)=true by unfold dy;simp]
 have e2:List.take ((x.st.length:Int).toNat - ((x.st.length - o:Nat):Int).toNat) (List.drop ((x.st.length - o:Nat):Int).toNat x.st)=x.st.drop (x.st.length - o):=by
  rw[Int.toNat_natCast,Int.toNat_natCast]
  exact List.take_of_length_le (by rw[List.length_drop];omega)
 rw[e2]
 rfl
theorem PA{x x':ks}{o a n:Int}(h0: ¬ o=0)(h1: ¬ (12<=o/\o<=17))(h:l9 (aJ gG x (o,a,n,()))=true/\lF (aJ gG x (o,a,n,()))=aJ [] x' ()):rT g (aJ gG x (o,a,n,()))=true/\rU g (aJ gG x (o,a,n,()))=aJ [] {x' with pc:=bL .i64 x'.pc 1} ():=by
 refine cg (ai _) (ai _) ?_
 refine(wg g x o a n).trans ?_
 rw[df h0,df (show ¬ o=12 by omega),df (show ¬ o=13 by omega),df (show ¬ o=14 by omega),df (show ¬ o=15 by omega),df (show ¬ o=16 by omega),df (show ¬ o=17 by omega),h.1,h.2]
 rfl
theorem S16(f i o:Nat)(hf:f<x.r.m.fns.length)(fn:den cr)(qN:fn=x.r.m.fns.getD f (aE cr))(hi:fn.2.2.1=(i:Int))(ho:fn.2.2.2.1=(o:Int))(he:x.r.err=0)(hl:x.st.length<=1048576)(h1:i<=x.st.length)(h2:x.st.length - i+o<=1048576)(Pz:o<=1048576)
 (ys:List Int)(r':Rn)(hy:ys.length<=1099511627776)(hg:x.r.eG≠262144->g.1 (mT [i64,.aC u64] {x.r with eG:=bL .i64 x.r.eG 1} ((f:Int),x.st.drop (x.st.length - i),()))=true/\g.2 (mT [i64,.aC u64] {x.r with eG:=bL .i64 x.r.eG 1} ((f:Int),x.st.drop (x.st.length - i),()))=(ys,mT [] r' ())):
 rT g (aJ gG x (16,(f:Int),n,()))=true/\rU g (aJ gG x (16,(f:Int),n,()))=aJ [] (bif decide (x.r.eG=262144)then{x with r:={x.r with err:=41}}else{x with r:=r',st:=x.st.take (x.st.length - i)++ys,pc:=bL .i64 x.pc 1}) ():=by
 have hn:=fX x i o hl h1 h2
 have eA:aV .i64 (x.st.length:Int) (i:Int)=((x.st.length - i:Nat):Int):=(wrap_i64 (by omega) (by omega)).trans (by omega)
 have e2:List.take ((x.st.length:Int).toNat - ((x.st.length - i:Nat):Int).toNat) (List.drop ((x.st.length - i:Nat):Int).toNat x.st)=x.st.drop (x.st.length - i):=by
  rw[Int.toNat_natCast,Int.toNat_natCast]
  exact List.take_of_length_le (by rw[List.length_drop];omega)
 have e3:List.take (((x.st.length - i:Nat):Int).toNat - (0:Int).toNat) (List.drop (0:Int).toNat x.st)=x.st.take (x.st.length - i):=by simp
 have hm:Uv g (aJ [i64] x ((f:Int),()))=true/\Uw g (aJ [i64] x ((f:Int),()))=aJ [] (bif decide (x.r.eG=262144)then{x with r:={x.r with err:=41}}else{x with r:=r',st:=x.st.take (x.st.length - i)++ys,pc:=bL .i64 x.pc 1}) ():=by
  refine cg (ai _) (ai _) ?_
  have yK:ij (aJ [i64,i64] x (fn.2.2.1,fn.2.2.2.1,()))=true:=by rw[show(fn.2.2.1:Int)=(i:Int)from hi,show(fn.2.2.2.1:Int)=(o:Int)from ho];exact hn.1
  have hn2:aF (aJ [i64,i64] x (fn.2.2.1,fn.2.2.2.1,()))=(true,aJ [] x ()):=by rw[show(fn.2.2.1:Int)=(i:Int)from hi,show(fn.2.2.2.1:Int)=(o:Int)from ho];exact hn.2
  refine(aay g x (f:Int) fn (by rw[Int.toNat_natCast];exact qN) x (by rw[hn2];rfl) ((x.st.length - i:Nat):Int) (by rw[show(fn.2.2.1:Int)=(i:Int)from hi];exact eA.symm) (x.st.drop (x.st.length - i)) e2.symm _ rfl (x.st.take (x.st.length - i)) e3.symm).trans ?_
  rw[yK,hn2,show bF (f:Int) (x.r.m.fns.length:Int)=true from cZ hf,dt he,db rfl,db rfl,Bool.not_true,cond_false]
  by_cases hh:x.r.eG=262144
  ·rw[dt hh];rfl
  ·obtain⟨g1,g2⟩:=hg hh
   rw[df hh,cond_false,cond_false,g1,g2]
   have b1:dy ((x.st.length - i:Nat):Int) (Int.ofNat (List.length x.st)) (Int.ofNat (List.length x.st))=true:=by unfold dy;simp
   have b2:dy 0 ((x.st.length - i:Nat):Int) (Int.ofNat (List.length x.st))=true:=by unfold dy;simp
   have b3:List.length (x.st.drop (x.st.length - i))<=1099511627776:=by rw[List.length_drop];omega
   have b4:roomy 8 (List.length (x.st.take (x.st.length - i))+List.length ys)=true:=by
    rw[nq]
    have:List.length (x.st.take (x.st.length - i))<=1048576:=by rw[List.length_take];omega
    constructor<;>omega
   rw[b1,b2,dt b3,b4,dt (rfl:(0:Int).toNat=(0:Int).toNat),dt (rfl:((x.st.length - i:Nat):Int).toNat - (0:Int).toNat=((x.st.length - i:Nat):Int).toNat - (0:Int).toNat),dn]
   rfl
 refine cg (ai _) (ai _) ?_
 refine(wg g x 16 (f:Int) n).trans ?_
 rw[df (show ¬ (16:Int)=0 by decide),df (show ¬ (16:Int)=12 by decide),df (show ¬ (16:Int)=13 by decide),df (show ¬ (16:Int)=14 by decide),df (show ¬ (16:Int)=15 by decide),dt (rfl:(16:Int)=16),hm.1,hm.2]
 rfl
end
end Go.Proofs.Vq

noncomputable section
namespace Go.Proofs.Vq
open Go.Ab Go.Ab.Lf
set_option maxRecDepth 100000
def UT(e:Int):Prop:=e=20∨e=21∨e=22∨e=23∨e=26∨e=27∨e=41
theorem UT.ne{e:Int}(h:UT e):e≠0:=by
 rcases h with h|h|h|h|h|h|h<;>rw[h]<;>decide
structure iP(r r':Rn)(ys:List Int)(o B:Nat):Prop where
 m:r'.m={r.m with s:=r'.m.s}
 so:UR r'.m.s
 sv:r'.m.s.gf.length=r.m.s.gf.length
 ho:r.eG<=r'.eG/\r'.eG<=262144
 de:r'.depth=r.depth
 yu: ∀ y,y∈ys->U y
 yl:ys.length<=B
 e:r'.err=0/\ys.length=o∨UT r'.err
inductive BM (fns:List (den cr)) (fn:den cr) (nl ns:Nat):den bE->Nat->Nat->Prop
 |pl {c t g}: ¬ c.1=0-> ¬ (12<=(c.1:Int)/\(c.1:Int)<=17)->wW nl ns c t g->BM fns fn nl ns c t g
 |unr {a n}:BM fns fn nl ns (0,a,n) 0 0
 |br {a:Nat} {n}:a<fn.2.2.2.2.2.1.length->BM fns fn nl ns (12,(a:Int),n) 0 0
 |aaO {a:Nat} {n}:a<fn.2.2.2.2.2.1.length->BM fns fn nl ns (13,(a:Int),n) 1 0
 |QS {a:Nat} {n}:a<fn.2.2.2.2.2.1.length->BM fns fn nl ns (14,(a:Int),n) 1 0
 |ret {o:Nat} {a n}:fn.2.2.2.1=(o:Int)->BM fns fn nl ns (15,a,n) o 0
 |call {f i o:Nat} {n}:f<fns.length->(fns.getD f (aE cr)).2.2.1=(i:Int)->(fns.getD f (aE cr)).2.2.2.1=(o:Int)->o<=1048576->BM fns fn nl ns (16,(f:Int),n) i o
inductive RI (k:Nat):den bE->Nat->Prop
 |nx {c:den bE}: ¬ c.1=0-> ¬ (12<=(c.1:Int)/\(c.1:Int)<=15)->RI k c (k+1)
 |br {a:Nat} {n}:RI k (12,(a:Int),n) a
 |bi {a:Nat} {n}:RI k (13,(a:Int),n) a
 |bn {a n}:RI k (13,a,n) (k+1)
 |tb {a i:Nat} {n}:i<=a->RI k (14,(a:Int),n) (k+1+i)
structure Hts(fns:List (den cr))(fn:den cr)(nl ns:Nat)(h:Nat->Option Nat):Prop where
 z:h 0=some 0
 le: ∀ k v,h k=some v->v<=1048576/\k<fn.2.2.2.2.2.1.length
 st: ∀ k v,h k=some v-> ∃ t g,BM fns fn nl ns (fn.2.2.2.2.2.1.getD k (aE bE)) t g/\t<=v/\ ∀ to,RI k (fn.2.2.2.2.2.1.getD k (aE bE)) to->h to=some (v - t+g)
structure Liv(fns:List (den cr))(fn:den cr)(nl ns:Nat)(d:Int)(h:Nat->Option Nat)(x:ks)(k hp:Nat):Prop where
 I:Inv x
 f:x.f=fn
 fns:x.r.m.fns=fns
 ns:x.r.m.s.gf.length=ns
 lo:x.lo.length=nl
 pc:x.pc=(k:Int)
 h:h k=some x.st.length
 ho:x.r.eG=(hp:Int)
 hl:hp<=262144
 de:x.r.depth=d
def Deep(g:Cg)(fns:List (den cr))(ns:Nat)(d:Int)(B:Nat):Prop:= ∀ (r:Rn) (f i o:Nat) (args:List Int),r.err=0->UR r.m.s->r.m.fns=fns->r.m.s.gf.length=ns->r.eG<=262144->0<=r.eG->r.depth=d->f<fns.length->(fns.getD f (aE cr)).2.2.1=(i:Int)->(fns.getD f (aE cr)).2.2.2.1=(o:Int)->args.length=i->(∀ y,y∈args->U y)->
 g.1 (mT [i64,.aC u64] r ((f:Int),args,()))=true/\ ∃ ys r',g.2 (mT [i64,.aC u64] r ((f:Int),args,()))=(ys,mT [] r' ())/\iP r r' ys o B
def Gp(a b:Int):Prop:=a=b
theorem iP.trans{r r1 r2:Rn}{ys:List Int}{o B:Nat}(h1:r1.m={r.m with s:=r1.m.s})(h2:r1.m.s.gf.length=r.m.s.gf.length)(h3:r.eG<=r1.eG)(h4:r1.depth=r.depth)(p:iP r1 r2 ys o B):iP r r2 ys o B:=by
 refine⟨?_,p.so,p.sv.trans h2,⟨Int.le_trans h3 p.ho.1,p.ho.2⟩,p.de.trans h4,p.yu,p.yl,p.e⟩
 rw[p.m,h1]
section
variable (g:Cg){B:Nat}{fns:List (den cr)}{fn:den cr}{nl ns:Nat}{d:Int}{h:Nat->Option Nat}{o:Nat}
theorem UU{k a:Nat}(w:Int)(hk:k<=1099511627776)(ha:a<=1099511627776): ∃ i:Nat,bL .i64 (k:Int) (bL .i64 1 (ao .i64 (min (ao .u64 (ao .u32 w)) (ao .u64 (a:Int)))))=((k+1+i:Nat):Int)/\i<=a:=by
 have h32:=mV w
 obtain⟨u,aaP⟩: ∃ u:Nat,ao .u32 w=(u:Int):=⟨(ao .u32 w).toNat,by omega⟩
 have hu:u<=4294967295:=by omega
 rw[aaP]
 clear aaP h32
 refine⟨min u a,?_,Nat.min_le_right _ _⟩
 have hm:min u a<=4294967295:=Nat.le_trans (Nat.min_le_left _ _) hu
 rw[Bi (k:=u) (by omega),Bi (k:=a) (by omega),show min (u:Int) (a:Int)=((min u a:Nat):Int) by omega]
 generalize min u a=i at hm
 have c1:ao .i64 (i:Int)=(i:Int):=wrap_i64 (by omega) (by omega)
 rw[c1]
 clear c1
 have c2:bL .i64 1 (i:Int)=((1+i:Nat):Int):=(wrap_i64 (by omega) (by omega)).trans (by omega)
 rw[c2]
 clear c2
 exact(wrap_i64 (by omega) (by omega)).trans (by omega)
theorem PB{cs:List (den bE)}{k:Nat}(hk:k<cs.length): ∃ r,cs.drop k=cs.getD k (aE bE)::r:=by
 refine⟨cs.drop (k+1),?_⟩
 rw[List.drop_eq_getElem_cons hk,List.getD_eq_getElem?_getD,List.getElem?_eq_getElem hk]
 rfl
theorem PC(HT:Hts fns fn nl ns h)(hO:fn.2.2.2.1=(o:Int))(hlen:fn.2.2.2.2.2.1.length<=1099511627776)(DP:Deep g fns ns d B)(hB:B<=104857600): ∀ (H L:Nat) (x:ks) (k hp:Nat),H=262144 - hp->L=fn.2.2.2.2.2.1.length - k->Liv fns fn nl ns d h x k hp->
 ∃ F:ks,nu (rV g) (aH i1 (cL x.r fn x.f x.pc x.st x.lo)) 0 (aH fW (aJ [] F ()))/\iP x.r F.r F.st o (B+1048576):=by
 intro H
 induction H using Nat.strongRecOn with
 | _ H ihH=>
 intro L
 induction L using Nat.strongRecOn with
 | _ L ihL=>
 intro x k hp hH hL V
 obtain⟨⟨he,dV,n8,um,p9⟩,hf,oK,zu,Mq,Sp,hh,Gq,hhl,uz⟩:=V
 have I:Inv x:=⟨he,dV,n8,um,p9⟩
 obtain⟨hv,hk⟩:=HT.le k _ hh
 obtain⟨t,gv,hE,ht,hS⟩:=HT.st k _ hh
 obtain⟨rest,hd⟩:=PB hk
 have gu:fn.2.2.2.2.2.1=x.f.2.2.2.2.2.1:=by rw[hf]
 generalize hc:fn.2.2.2.2.2.1.getD k (aE bE)=c at hE hS hd
 have one: ∀ x':ks,rT g (aJ gG x (c.1,c.2.1,c.2.2,()))=true/\rU g (aJ gG x (c.1,c.2.1,c.2.2,()))=aJ [] x' ()->(rV g (aH i1 (cL x.r fn x.f x.pc x.st x.lo))).val=some (.next (aH i1 (cL x'.r fn x'.f x'.pc x'.st x'.lo))):=fun x' e=>agc g gu he Sp hd fn rfl e
 have stop: ∀ x':ks,rT g (aJ gG x (c.1,c.2.1,c.2.2,()))=true/\rU g (aJ gG x (c.1,c.2.1,c.2.2,()))=aJ [] x' ()->(x'.r.err≠0∨x'.pc<0)->iP x.r x'.r x'.st o (B+1048576)->
  ∃ F:ks,nu (rV g) (aH i1 (cL x.r fn x.f x.pc x.st x.lo)) 0 (aH fW (aJ [] F ()))/\iP x.r F.r F.st o (B+1048576):=fun x' e q p=>⟨x',.more (one x' e) (.last (aaz g fn x'.f q)),p⟩
 have again: ∀ (x':ks) (k' Ky:Nat),rT g (aJ gG x (c.1,c.2.1,c.2.2,()))=true/\rU g (aJ gG x (c.1,c.2.1,c.2.2,()))=aJ [] x' ()->Liv fns fn nl ns d h x' k' Ky->(hp<Ky∨hp=Ky/\k<k')->x'.r.m={x.r.m with s:=x'.r.m.s}->
  ∃ F:ks,nu (rV g) (aH i1 (cL x.r fn x.f x.pc x.st x.lo)) 0 (aH fW (aJ [] F ()))/\iP x.r F.r F.st o (B+1048576):=by
  intro x' k' Ky e V' Ck Di
  have wA:=(HT.le k' _ V'.h).2
  have fin: ∃ F:ks,nu (rV g) (aH i1 (cL x'.r fn x'.f x'.pc x'.st x'.lo)) 0 (aH fW (aJ [] F ()))/\iP x'.r F.r F.st o (B+1048576):=by
   rcases Ck with q|⟨q,q2⟩
   ·exact ihH (262144 - Ky) (by have:=V'.hl;omega) _ x' k' Ky rfl rfl V'
   ·exact ihL (fn.2.2.2.2.2.1.length - k') (by omega) x' k' Ky (by omega) rfl V'
  obtain⟨F,r,p⟩:=fin
  exact⟨F,.more (one x' e) r,p.trans Di (V'.ns.trans zu.symm) (by rw[Gq,V'.ho];omega) (V'.de.trans uz.symm)⟩
 have Bk:x.r.eG<=x.r.eG/\x.r.eG<=262144:=⟨Int.le_refl _,by rw[Gq];omega⟩
 have jump: ∀ (s:List Int) (a:Nat),rT g (aJ gG x (c.1,c.2.1,c.2.2,()))=true/\rU g (aJ gG x (c.1,c.2.1,c.2.2,()))=aJ [] (jmp {x with st:=s} (a:Int)) ()->(∀ z,z∈s->U z)->s.length<=1048576->h a=some s.length->
  ∃ F:ks,nu (rV g) (aH i1 (cL x.r fn x.f x.pc x.st x.lo)) 0 (aH fW (aJ [] F ()))/\iP x.r F.r F.st o (B+1048576):=by
  intro s a e hu hs ha
  unfold jmp at e
  by_cases q1:x.pc<(a:Int)
  ·rw[dt q1,cond_true]at e
   exact again _ a hp e ⟨⟨he,hs,hu,um,p9⟩,hf,oK,zu,Mq,rfl,ha,Gq,hhl,uz⟩ (.inr ⟨rfl,by rw[Sp]at q1;omega⟩) rfl
  ·rw[df q1,cond_false]at e
   by_cases q2:x.r.eG=262144
   ·rw[dt q2,cond_true]at e
    exact stop _ e (.inl (show(41:Int)≠0 by decide)) ⟨rfl,p9,rfl,Bk,rfl,hu,Nat.le_trans hs (Nat.le_add_left _ _),.inr (.inr (.inr (.inr (.inr (.inr (.inr rfl))))))⟩
   ·rw[df q2,cond_false]at e
    have mW:hp+1<=262144:=by rw[Gq]at q2;omega
    have hn:Gp (bL .i64 x.r.eG 1) ((hp+1:Nat):Int):=by rw[Gq];exact uj (by omega)
    exact again _ a (hp+1) e ⟨⟨he,hs,hu,um,p9⟩,hf,oK,zu,Mq,rfl,ha,hn,mW,uz⟩ (.inl (Nat.lt_succ_self _)) rfl
 have Wz:Gp (bL .i64 x.pc 1) ((k+1:Nat):Int):=by rw[Sp];exact uj (by omega)
 cases hE with
 |pl h0 h1 hP=>
  have hn:=hS (k+1) (.nx h0 fun q=>h1 ⟨q.1,Int.le_trans q.2 (by decide)⟩)
  have hP':wW x.lo.length x.r.m.s.gf.length c t gv:=by rw[Mq,zu];exact hP
  obtain⟨x',e,R⟩:=Gn I hP' ht (HT.le _ _ hn).1
  have e2:=PA g h0 h1 e
  have agv:Gp (bL .i64 x'.pc 1) ((k+1:Nat):Int):=by rw[R.pc];exact Wz
  rcases R.e with⟨q1,q2⟩|q
  ·refine again _ (k+1) hp e2 ⟨⟨q1,R.sl,R.su,R.lu,R.so⟩,R.f.trans hf,?_,R.sv.trans zu,R.ll.trans Mq,agv,?_,R.ho.trans Gq,hhl,R.de.trans uz⟩ (.inr ⟨rfl,Nat.lt_succ_self _⟩) R.m
   ·show x'.r.m.fns=fns
    rw[R.m];exact oK
   ·show h (k+1)=some x'.st.length
    rw[q2];exact hn
  ·have hF:UT x'.r.err:=by
    rcases q with q|q|q|q
    ·exact .inr (.inr (.inr (.inr (.inr (.inl q)))))
    ·exact .inr (.inr (.inr (.inl q)))
    ·exact .inr (.inl q)
    ·exact .inr (.inr (.inl q))
   refine stop _ e2 (.inl hF.ne) ⟨R.m,R.so,R.sv,⟨?_,?_⟩,R.de,R.su,Nat.le_trans R.sl (Nat.le_add_left _ _),.inr hF⟩
   ·show x.r.eG<=x'.r.eG
    rw[R.ho];exact Int.le_refl _
   ·show x'.r.eG<=262144
    rw[R.ho];exact Bk.2
 | @unr a n=>exact stop _ (S0 g x a n he) (.inl (show(20:Int)≠0 by decide)) ⟨rfl,p9,rfl,Bk,rfl,n8,Nat.le_trans dV (Nat.le_add_left _ _),.inr (.inl rfl)⟩
 | @br a n ha=>
  have hn:=hS a (.br (n:=n))
  exact jump x.st a (S12 g x (a:Int) n he) n8 dV hn
 | @aaO a n ha=>
  obtain⟨s,w,hx⟩:=nB ht
  have LX:x.st.length=s.length+1:=by rw[hx,List.length_append];rfl
  have e:=S13 g x (a:Int) n he hx (by omega)
  have hu: ∀ z,z∈s->U z:=fun z hz=>n8 z (by rw[hx];exact List.mem_append_left _ hz)
  have h1:=hS a (.bi (n:=n))
  have h2:=hS (k+1) (.bn (a:=(a:Int)) (n:=n))
  rw[show x.st.length - 1+0=s.length by omega]at h1 h2
  by_cases q:ao .u32 w=0
  ·rw[dt q,cond_true]at e
   exact again _ (k+1) hp e ⟨⟨he,by show s.length<=_;omega,hu,um,p9⟩,hf,oK,zu,Mq,Wz,h2,Gq,hhl,uz⟩ (.inr ⟨rfl,Nat.lt_succ_self _⟩) rfl
  ·rw[df q,cond_false]at e
   exact jump s _ e hu (by omega) h1
 | @QS a n ha=>
  obtain⟨s,w,hx⟩:=nB ht
  have LX:x.st.length=s.length+1:=by rw[hx,List.length_append];rfl
  have e:=S14 g x (a:Int) n hx (by omega)
  have hu: ∀ z,z∈s->U z:=fun z hz=>n8 z (by rw[hx];exact List.mem_append_left _ hz)
  obtain⟨i,hi,hia⟩:=UU (k:=k) (a:=a) w (by omega) (by omega)
  rw[Sp,hi]at e
  clear hi
  have h1:=hS (k+1+i) (.tb (n:=n) hia)
  rw[show x.st.length - 1+0=s.length by omega]at h1
  exact again _ (k+1+i) hp e ⟨⟨he,by show s.length<=_;omega,hu,um,p9⟩,hf,oK,zu,Mq,rfl,h1,Gq,hhl,uz⟩ (.inr ⟨rfl,by omega⟩) rfl
 | @ret t' a n Xj=>
  have j3:t=o:=by
   have h3:(t:Int)=(o:Int):=Xj.symm.trans hO
   omega
  subst j3
  have e:=S15 g x a n t (by rw[hf];exact Xj) ht dV
  refine stop _ e (.inr (show(-1:Int)<0 by decide)) ⟨rfl,p9,rfl,Bk,rfl,fun y hy=>n8 y (List.mem_of_mem_drop hy),?_,.inl ⟨he,?_⟩⟩
  ·show(x.st.drop _).length<=B+1048576
   rw[List.length_drop];omega
  ·show(x.st.drop _).length=_
   rw[List.length_drop];omega
 | @call f i o' n hf' hi j3 Pz=>
  have hn:=hS (k+1) (.nx (show ¬ (16:Int)=0 by decide) (show ¬ ((12:Int)<=16/\(16:Int)<=15) by decide))
  have hb:=(HT.le _ _ hn).1
  by_cases q:x.r.eG=262144
  ·have e:=S16 g x n f t gv (by rw[oK];exact hf') (fns.getD f (aE cr)) (by rw[oK]) hi j3 he dV ht hb Pz [] x.r (by decide) (fun q'=>absurd q q')
   rw[dt q,cond_true]at e
   exact stop _ e (.inl (show(41:Int)≠0 by decide)) ⟨rfl,p9,rfl,Bk,rfl,n8,Nat.le_trans dV (Nat.le_add_left _ _),.inr (.inr (.inr (.inr (.inr (.inr (.inr rfl))))))⟩
  ·have mW:hp+1<=262144:=by rw[Gq]at q;omega
   have yK:Gp (bL .i64 x.r.eG 1) ((hp+1:Nat):Int):=by rw[Gq];exact uj (by omega)
   obtain⟨d1,ys,r',d2,P⟩:=DP {x.r with eG:=bL .i64 x.r.eG 1} f t gv (x.st.drop (x.st.length - t)) he p9 oK zu (by show bL .i64 x.r.eG 1<=_;rw[show bL .i64 x.r.eG 1=_ from yK];omega) (by show 0<=bL .i64 x.r.eG 1;rw[show bL .i64 x.r.eG 1=_ from yK];omega) uz hf' hi j3 (by rw[List.length_drop];omega) (fun y hy=>n8 y (List.mem_of_mem_drop hy))
   have e:=S16 g x n f t gv (by rw[oK];exact hf') (fns.getD f (aE cr)) (by rw[oK]) hi j3 he dV ht hb Pz ys r' (by have:=P.yl;omega) (fun _=>⟨d1,d2⟩)
   rw[df q,cond_false]at e
   have qe: ∀ z,z∈x.st.take (x.st.length - t)++ys->U z:=fun z hz=>by
    rcases List.mem_append.1 hz with w|w
    ·exact n8 z (List.mem_of_mem_take w)
    ·exact P.yu z w
   have hPm:r'.m={x.r.m with s:=r'.m.s}:=P.m
   have hPh:x.r.eG<r'.eG/\r'.eG<=262144:=by
    have h1:bL .i64 x.r.eG 1<=r'.eG:=P.ho.1
    rw[show bL .i64 x.r.eG 1=_ from yK]at h1
    exact⟨by rw[Gq];omega,P.ho.2⟩
   rcases P.e with⟨q1,q2⟩|q1
   ·obtain⟨Ky,UW⟩: ∃ Ky:Nat,r'.eG=(Ky:Int):=⟨r'.eG.toNat,by rw[Gq]at hPh;omega⟩
    have hl2:(x.st.take (x.st.length - t)++ys).length=x.st.length - t+gv:=by rw[List.length_append,List.length_take,q2];omega
    refine again _ (k+1) Ky e ⟨⟨q1,by show List.length _<=_;rw[hl2];exact hb,qe,um,P.so⟩,hf,?_,P.sv.trans zu,Mq,Wz,?_,UW,by rw[UW]at hPh;omega,P.de.trans uz⟩ (.inl (by rw[Gq,UW]at hPh;omega)) hPm
    ·show r'.m.fns=fns
     rw[hPm];exact oK
    ·show h (k+1)=some (x.st.take (x.st.length - t)++ys).length
     rw[hl2];exact hn
   ·refine stop _ e (.inl q1.ne) ⟨hPm,P.so,P.sv,⟨Int.le_of_lt hPh.1,hPh.2⟩,P.de,qe,?_,.inr q1⟩
    show(x.st.take (x.st.length - t)++ys).length<=B+1048576
    have:=P.yl
    rw[List.length_append,List.length_take]
    omega
end
end Go.Proofs.Vq

noncomputable section
namespace Go.Proofs.Vq
open Go.Ab Go.Ab.Lf
set_option maxRecDepth 100000
def Gs(fns:List (den cr))(ns:Nat):Prop:= ∀ f,f<fns.length-> ∃ (i o l:Nat) (h:Nat->Option Nat),(fns.getD f (aE cr)).1=(-1:Int)/\(fns.getD f (aE cr)).2.2.1=(i:Int)/\(fns.getD f (aE cr)).2.2.2.1=(o:Int)/\(fns.getD f (aE cr)).2.2.2.2.1=(l:Int)/\l<=4096/\i<=1099511600000/\(fns.getD f (aE cr)).2.2.2.2.2.1.length<=1099511627776/\Hts fns (fns.getD f (aE cr)) (i+l) ns h
section
variable (g:Cg){B ns:Nat}{fns:List (den cr)}
abbrev lv(g:Cg):Cg:=(k73 g,m73 g)
theorem UX(A:Gs fns ns):Deep (lv g) fns ns 64 B:=by
 intro r f i o args he p9 oK zu WA hh0 uz hf hi ho hal hau
 obtain⟨i',o',l,h,a1,_⟩:=A f hf
 have key:=cg (ai _) (ai _) (k:=k73 g (mT [i64,.aC u64] r ((f:Int),args,()))) (m:=m73 g (mT [i64,.aC u64] r ((f:Int),args,()))) (y:=([],mT [] {r with err:=26} ())) (by
  refine(aal g r (f:Int) args (fns.getD f (aE cr)) (by rw[Int.toNat_natCast,oK]) _ rfl _ rfl).trans ?_
  rw[oK,show bF (f:Int) (fns.length:Int)=true from cZ hf,df (show ¬ (0:Int)<=(fns.getD f (aE cr)).1 by rw[a1];decide),uz,dt (rfl:(64:Int)=64),dt he]
  rfl)
 exact⟨key.1,[],_,key.2,⟨rfl,p9,rfl,⟨Int.le_refl _,WA⟩,rfl,fun y hy=>(by cases hy),Nat.zero_le _,.inr (.inr (.inr (.inr (.inr (.inl rfl)))))⟩⟩
theorem PD{d:Nat}(hd:d<64)(A:Gs fns ns)(DP:Deep g fns ns ((d+1:Nat):Int) B)(hB:B<=104857600):Deep (lv g) fns ns (d:Int) (B+1048576):=by
 intro r f i o args he p9 oK zu WA hh0 uz hf hi ho hal hau
 obtain⟨i',o',l,h,a1,a2,a3,a4,a5,a6,a7,HT⟩:=A f hf
 obtain⟨fn,qN⟩: ∃ fn,fn=fns.getD f (aE cr):=⟨_,rfl⟩
 rw[<-qN]at hi ho a1 a2 a3 a4 a7 HT
 have hii:i'=i:=by
  have h3:(i':Int)=(i:Int):=a2.symm.trans hi
  omega
 subst hii
 obtain⟨hp,hhp⟩: ∃ hp:Nat,r.eG=(hp:Int):=⟨r.eG.toNat,by omega⟩
 have hd1:Gp (bL .i64 r.depth 1) ((d+1:Nat):Int):=by rw[uz];exact uj (by omega)
 obtain⟨F,R,P⟩:=PC g HT ho a7 DP hB (262144 - hp) (fn.2.2.2.2.2.1.length - 0) ⟨{r with depth:=bL .i64 r.depth 1},fn,0,[],args++List.replicate l 0⟩ 0 hp rfl rfl
  ⟨⟨he,Nat.zero_le _,fun y hy=>(by cases hy),fun y hy=>(by
    rcases List.mem_append.1 hy with q|q
    ·exact hau y q
    ·rw[List.eq_of_mem_replicate q];exact U0),p9⟩,rfl,oK,zu,(by show(args++List.replicate l (0:Int)).length=_;rw[List.length_append,List.length_replicate,hal]),rfl,HT.z,hhp,(by omega),hd1⟩
 obtain⟨q1,q2⟩:=xJ (f:=rV g) (ti:=i1) (to:=fW) R
 have hFd:aV .i64 F.r.depth 1=(d:Int):=by
  rw[show F.r.depth=((d+1:Nat):Int)from P.de.trans hd1]
  exact(wrap_i64 (by omega) (by omega)).trans (by omega)
 have key:=cg (ai _) (ai _) (k:=k73 g (mT [i64,.aC u64] r ((f:Int),args,()))) (m:=m73 g (mT [i64,.aC u64] r ((f:Int),args,()))) (y:=(F.st,mT [] {F.r with depth:=(d:Int)} ())) (by
  refine(aal g r (f:Int) args fn (by rw[Int.toNat_natCast,oK];exact qN) (cL {r with depth:=bL .i64 r.depth 1} fn fn 0 [] (args++List.replicate l 0)) (by rw[dn,show(fn.2.2.2.2.1:Int)=(l:Int)from a4,Int.toNat_natCast]) F (by rw[q2];rfl)).trans ?_
  rw[oK,show bF (f:Int) (fns.length:Int)=true from cZ hf,df (show ¬ (0:Int)<=fn.1 by rw[a1];decide),uz,df (show ¬ (d:Int)=64 by omega),dt (show args.length<=1099511627776 by omega),dt (rfl:(fn.2.2.2.2.1:Int)=fn.2.2.2.2.1),dt (show(0:Int)<=fn.2.2.2.2.1 by rw[a4];omega),
   show roomy 8 (args.length+(List.replicate (fn.2.2.2.2.1:Int).toNat (0:Int)).length)=true from pD (by decide) (by rw[List.length_replicate,a4,Int.toNat_natCast];omega)]
  rw[show zy (rV g) i1 fW (cL {r with depth:=bL .i64 (d:Int) 1} fn fn 0 [] (args++List.replicate l 0))=true from(by rw[<-uz];exact q1),dt (show F.st.length<=1099511627776 by have:=P.yl;omega),hFd]
  rfl)
 refine⟨key.1,F.st,_,key.2,⟨P.m,P.so,P.sv,P.ho,uz.symm,P.yu,P.yl,P.e⟩⟩
end
end Go.Proofs.Vq

noncomputable section
namespace Go.Proofs.Vq
open Go.Ab Go.Ab.Lf
set_option maxRecDepth 100000
def GL(g:Cg):Nat->Cg
 |0=>g
 |n+1=>lv (GL g n)
section
variable (g:Cg){ns:Nat}{fns:List (den cr)}
theorem RJ(A:Gs fns ns): ∀ n,n<=64->Deep (GL g (n+1)) fns ns ((64 - n:Nat):Int) (n*1048576)
 |0,_=>UX (GL g 0) A
 |n+1,h=>by
  have ih:=RJ A n (by omega)
  have e:64 - n=(64 - (n+1))+1:=by omega
  rw[e]at ih
  have:=PD (GL g (n+1)) (d:=64 - (n+1)) (by omega) A ih (by omega)
  rwa [show n*1048576+1048576=(n+1)*1048576 by omega]at this
theorem aaS(A:Gs fns ns):Deep (GL g 65) fns ns 0 67108864:=RJ g A 64 (Nat.le_refl _)
theorem Kz{ty az:List Int}(h: ∀ y,y∈az->U y): ∀ j,∀ y,y∈mask ty az j->U y
 |0=>h
 |j+1=>by
  have ih:=Kz (ty:=ty) h j
  intro y hy
  change y∈(bif decide (ty.getD j 0=127)then(mask ty az j).set j (dm .u64 ((mask ty az j).getD j 0) 4294967295)else mask ty az j)at hy
  cases hb:decide (ty.getD j 0=127)with
  |false=>rw[hb]at hy;exact ih y hy
  |true=>
   rw[hb]at hy
   rcases mem_set hy with q|q
   ·exact ih y q
   ·rw[q];exact(qm (Da ih j) (y:=4294967295) ⟨by decide,by decide⟩).1
theorem UY(m:Gi)(hb:m.bad=false)(A:Gs m.fns ns)(p9:UR m.s)(zu:m.s.gf.length=ns)(f i o:Nat)(hf:f<m.fns.length)(hi:(m.fns.getD f (aE cr)).2.2.1=(i:Int))(ho:(m.fns.getD f (aE cr)).2.2.2.1=(o:Int))(si:Nat)(hsi:(m.fns.getD f (aE cr)).2.1=(si:Int))(dV:si<m.sigs.length)(Q0:(m.sigs.getD si (aE bz)).1.length=i)
 (args:List Int)(hal:args.length=i)(Gz:i<=1099511627776)(hau: ∀ y,y∈args->U y)(fu:Int):
 Wx (GL g 65) (gp [i64,.aC u64,i64] m ((f:Int),args,fu,()))=true/\ ∃ e ys left m',m23 (GL g 65) (gp [i64,.aC u64,i64] m ((f:Int),args,fu,()))=(e,0,ys,left,gp [] m' ())/\(e=0/\ys.length=o∨UT e):=by
 obtain⟨fn,qN⟩: ∃ fn,fn=m.fns.getD f (aE cr):=⟨_,rfl⟩
 obtain⟨sg,aaT⟩: ∃ sg,sg=m.sigs.getD si (aE bz):=⟨_,rfl⟩
 rw[<-aaT]at Q0
 have sC:fn.2.2.1=(i:Int):=by rw[qN];exact hi
 have mh:fn.2.1=(si:Int):=by rw[qN];exact hsi
 obtain⟨q1,q2⟩:=xJ (f:=wb) (ti:=jX) (to:=jv) (UN m (f:Int) fu args sg.1 (Q0.trans hal.symm) (by omega))
 obtain⟨ar,Db⟩: ∃ ar,ar=mask sg.1 args sg.1.length:=⟨_,rfl⟩
 rw[<-Db]at q2
 have agz:ar.length=i:=by rw[Db,rZ];exact hal
 have agA: ∀ y,y∈ar->U y:=by rw[Db];exact Kz hau _
 obtain⟨d1,ys,r',d2,P⟩:=aaS g A ⟨m,min (max fu 0) 100000,0,0,0⟩ f i o ar rfl p9 rfl zu (show(0:Int)<=262144 by decide) (show(0:Int)<=0 by decide) rfl hf hi ho agz agA
 have e:=aga (GL g 65) m (f:Int) fu args fn (by rw[Int.toNat_natCast];exact qN) sg (by rw[show(fn.2.1:Int)=(si:Int)from mh,Int.toNat_natCast];exact aaT) (gp [i64,i64,.aC u64,.aC i64,i64,i64] m ((f:Int),fu,args,sg.1,(sg.1.length:Int),0,())) rfl (gp [i64,i64,.aC u64] m ((f:Int),fu,ar,())) q2.symm (mT [i64,.aC u64] ⟨m,min (max fu 0) 100000,0,0,0⟩ ((f:Int),ar,())) (by show _=_;rfl) r' (by rw[d2];rfl)
 have key: ∃ e' PE left m',(t23 (GL g 65) (gp [i64,.aC u64,i64] m ((f:Int),args,fu,()))).val=some (aH wc (e',0,PE,left,gp [] m' ()))/\(e'=0/\PE.length=o∨UT e'):=by
  rw[df (show ¬ (f:Int)<0 by omega),df (show ¬ (m.fns.length:Int)<=(f:Int) by omega),show bF (f:Int) (m.fns.length:Int)=true from cZ hf,dt (show(args.length:Int)=fn.2.2.1 by rw[sC];omega),hb,dt (show args.length<=1099511627776 by omega),show bF fn.2.1 (m.sigs.length:Int)=true from(by rw[mh];exact cZ dV),
   show zy wb jX jv (gp [i64,i64,.aC u64,.aC i64,i64,i64] m ((f:Int),fu,args,sg.1,(sg.1.length:Int),0,()))=true from q1,d1,d2]at e
  rcases P.e with⟨p1,p2⟩|p1
  ·exact⟨r'.err,ys,r'.fuel,r'.m,e.trans (by rw[dt p1];rfl),.inl ⟨p1,p2⟩⟩
  ·refine⟨r'.err,[],r'.fuel,r'.m,e.trans ?_,.inr p1⟩
   rw[df p1.ne,df (show ¬ r'.err=28 from fun q=>by rcases p1 with h|h|h|h|h|h|h<;>rw[h]at q<;>exact absurd q (by decide))]
   rfl
 obtain⟨e',PE,left,m',h1,h2⟩:=key
 obtain⟨a1,a2⟩:=cg (ai _) (ai _) (k:=Wx (GL g 65) (gp [i64,.aC u64,i64] m ((f:Int),args,fu,()))) (m:=m23 (GL g 65) (gp [i64,.aC u64,i64] m ((f:Int),args,fu,()))) h1
 exact⟨a1,e',PE,left,m',a2,h2⟩
end
end Go.Proofs.Vq

noncomputable section
namespace Go.Proofs.Vq
open Go.Ab Go.Ab.Lf
set_option maxRecDepth 100000
abbrev Bl:List Ty:=[i64]
abbrev r9:List Ty:=[i64,i64,.bool]
def aaU:List (Nat×ey):=[(11,Ws)]
theorem PF{aR:bb}(W:WQ aR):eJ aR aaU:=(.cons (vX W) .nil)
def t142(x:aG Bl):Lf.T (List Pl):=mg (Ps [.n .i64]) [] (Ps [.tu (Ps [.n .i64,.n .i64,.bo])]) (fun _=>none) Tryz.TN 3 (lE aaU 3) (aH Bl x)
def mc(x:aG Bl):Bool:=cT (fy r9 (t142 x))
def fc(x:aG Bl):aG r9:=cT (ej r9 (t142 x))
def aaV:ey:=j7 (Ps [.n .i64]) [] (Ps [.tu (Ps [.n .i64,.n .i64,.bo])]) Bl r9 fun x=>.ck (mc x) (.ok (fc x))
theorem PG{aR:bb}(W:WQ aR):aaV.Ok 142 aR:=
 dq (W.in (PF W) 3) (W.st 142 _ rfl) rfl (bU _) (m:=3) rfl (fun _=>ai _) (fun _=>ai _)
abbrev KA:List Ty:=[.aC bz,.aC cr,i64,i64,i64,u64]
abbrev tp:List Ty:=[i64,i64]
def e85:List (Nat×ey):=[(142,aaV)]
theorem UZ{aR:bb}(W:WQ aR):eJ aR e85:=(.cons (PG W) .nil)
def t85(x:aG KA):Lf.T (List Pl):=mg (Ps [.ag (Ps [.im bz,.im cr]),.n .i64,.ag (Ps [.n .i64,.n .i64,.n .u64])]) [] (Ps [.tu (Ps [.n .i64,.n .i64])]) (fun _=>none) Tryz.x85 3 (lE e85 3) (aH KA x)
def Gt(x:aG KA):Bool:=cT (fy tp (t85 x))
def Gu(x:aG KA):aG tp:=cT (ej tp (t85 x))
def s85:ey:=j7 (Ps [.ag (Ps [.im bz,.im cr]),.n .i64,.ag (Ps [.n .i64,.n .i64,.n .u64])]) [] (Ps [.tu (Ps [.n .i64,.n .i64])]) KA tp fun x=>.ck (Gt x) (.ok (Gu x))
theorem U2{aR:bb}(W:WQ aR):s85.Ok 85 aR:=
 dq (W.in (UZ W) 3) (W.st 85 _ rfl) rfl (bU _) (m:=3) rfl (fun _=>ai _) (fun _=>ai _)
abbrev jy:List Ty:=[i64,.aC i64,i64,i64]
abbrev gV:List Ty:=[.aC i64]
def Et:ta:=⟨1,qM Tryz.x86.code 1,[1,6,33,34],(Ps [.n .i64,.ow i64,.n .i64,.n .i64]),[⟨.xG,[6],(Ps [.ow i64])⟩]⟩
def RK:List (Nat×ey):=[]
theorem KB{aR:bb}(W:WQ aR):eJ aR RK:=.nil
def qo:List Pl->Lf.T Rs:=Et.step (fun _=>none) (lE RK 3) 3
def RL:i7:=CU Et qo jy gV
theorem KC{aR:bb}(W:WQ aR):kj Rx.w RL (fun n d=>kM (aR n d) n (.bl 1 (.lp Et.body))):=pV (W.in (KB W) 3) (bU _) (m:=3) jy gV
def L86:Nat->Option i7:=Gh [(1,RL)]
abbrev KD:List Ty:=[.aC bE,i64]
abbrev wm:List Ty:=[.aC i64]
def e86:List (Nat×ey):=[]
theorem U3{aR:bb}(W:WQ aR):eJ aR e86:=.nil
def t86(x:aG KD):Lf.T (List Pl):=mg (Ps [.im bE,.n .i64]) [] (Ps [.ow i64]) L86 Tryz.x86 3 (lE e86 3) (aH KD x)
def k86(x:aG KD):Bool:=cT (fy wm (t86 x))
def m86(x:aG KD):aG wm:=cT (ej wm (t86 x))
def s86:ey:=j7 (Ps [.im bE,.n .i64]) [] (Ps [.ow i64]) KD wm fun x=>.ck (k86 x) (.ok (m86 x))
theorem U4{aR:bb}(W:WQ aR):s86.Ok 86 aR:=
 dq (W.in (U3 W) 3) (W.st 86 _ rfl) rfl (p8.qK (.cons (b:=Et.body) (by kernel_rfl) (KC W) .nil)) (m:=3) rfl (fun _=>ai _) (fun _=>ai _)
abbrev jY:List Ty:=[i64,.aC bz,.aC cr,.aC bE,.aC i64,i64,i64]
abbrev jz:List Ty:=[i64,.aC bz,.aC cr,.aC bE,.aC i64]
def Eu:ta:=⟨0,qM Tryz.Wn.code 0,[1,2,6,7,50,51],(Ps [.n .i64,.pt 0 (Ps [.im bz,.im cr]),.im bE,.ow i64,.n .i64,.n .i64]),[⟨.xG,[1,2,6,7],(Ps [.n .i64,.pt 0 (Ps [.im bz,.im cr]),.im bE,.ow i64])⟩]⟩
def RM:List (Nat×ey):=[]
theorem KE{aR:bb}(W:WQ aR):eJ aR RM:=.nil
def tL:List Pl->Lf.T Rs:=Eu.step (fun _=>none) (lE RM 3) 3
def RO:i7:=CU Eu tL jY jz
theorem KF{aR:bb}(W:WQ aR):kj Rx.w RO (fun n d=>kM (aR n d) n (.bl 0 (.lp Eu.body))):=pV (W.in (KE W) 3) (bU _) (m:=3) jY jz
abbrev jA:List Ty:=[i64,.aC bz,.aC cr,.aC bE,.aC i64,.aC i64,i64,.aC i64,i64,i64]
abbrev kA:List Ty:=[i64,.aC bz,.aC cr,.aC bE,.aC i64,.aC i64]
abbrev jB:List Ty:=[.bool]
def Ew:ta:=⟨4,qM Tryz.Wn.code 4,[1,2,6,7,9,13,101,102,103],(Ps [.n .i64,.pt 0 (Ps [.im bz,.im cr]),.im bE,.ow i64,.ow i64,.n .i64,.ow i64,.n .i64,.n .i64]),[⟨.xG,[1,2,6,7,9],(Ps [.n .i64,.pt 0 (Ps [.im bz,.im cr]),.im bE,.ow i64,.ow i64])⟩,⟨.rt,[4,5],(Ps [.av (.sc (.slice none 0 0)),.bo])⟩]⟩
def RP:List (Nat×ey):=[]
theorem KG{aR:bb}(W:WQ aR):eJ aR RP:=.nil
def qp:List Pl->Lf.T Rs:=Ew.step (fun _=>none) (lE RP 3) 3
def RQ:i7:=wT Ew qp jA kA jB
theorem KH{aR:bb}(W:WQ aR):kj Rx.w RQ (fun n d=>kM (aR n d) n (.bl 4 (.lp Ew.body))):=lC (W.in (KG W) 3) (bU _) (m:=3) jA kA jB
def agB:Nat->Option i7:=Gh [(4,RQ)]
abbrev jZ:List Ty:=[i64,.aC bz,.aC cr,.aC bE,.aC i64,.aC i64]
abbrev kB:List Ty:=[.aC i64]
abbrev jC:List Ty:=[.bool]
def Ex:ta:=⟨2,qM Tryz.Wn.code 2,[1,2,6,7,9],(Ps [.n .i64,.pt 0 (Ps [.im bz,.im cr]),.im bE,.ow i64,.ow i64]),[⟨.xG,[7],(Ps [.ow i64])⟩,⟨.rt,[4,5],(Ps [.av (.sc (.slice none 0 0)),.bo])⟩]⟩
def RR:List (Nat×ey):=[(85,s85),(86,s86)]
theorem KI{aR:bb}(W:WQ aR):eJ aR RR:=(.cons (U2 W) (.cons (U4 W) .nil))
def qt:List Pl->Lf.T Rs:=Ex.step agB (lE RR 3) 3
def RS:i7:=wT Ex qt jZ kB jC
theorem KJ{aR:bb}(W:WQ aR):kj Rx.w RS (fun n d=>kM (aR n d) n (.bl 2 (.lp Ex.body))):=lC (W.in (KI W) 3) (p8.qK (.cons (b:=Ew.body) (by kernel_rfl) (KH W) .nil)) (m:=3) jZ kB jC
def L35:Nat->Option i7:=Gh [(0,RO),(2,RS)]
abbrev KK:List Ty:=[.aC bz,.aC cr,i64]
abbrev Bm:List Ty:=[.aC i64,.bool]
def e35:List (Nat×ey):=[(34,s34)]
theorem U5{aR:bb}(W:WQ aR):eJ aR e35:=(.cons (CW W) .nil)
def t35(x:aG KK):Lf.T (List Pl):=mg (Ps [.ag (Ps [.im bz,.im cr]),.n .i64]) [] (Ps [.tu (Ps [.ow i64,.bo])]) L35 Tryz.Wn 3 (lE e35 3) (aH KK x)
def k35(x:aG KK):Bool:=cT (fy Bm (t35 x))
def WB(x:aG KK):aG Bm:=cT (ej Bm (t35 x))
def s35:ey:=j7 (Ps [.ag (Ps [.im bz,.im cr]),.n .i64]) [] (Ps [.tu (Ps [.ow i64,.bo])]) KK Bm fun x=>.ck (k35 x) (.ok (WB x))
theorem U6{aR:bb}(W:WQ aR):s35.Ok 35 aR:=
 dq (W.in (U5 W) 3) (W.st 35 _ rfl) rfl (p8.qK (.cons (b:=Eu.body) (by kernel_rfl) (KF W) (.cons (b:=Ex.body) (by kernel_rfl) (KJ W) .nil))) (m:=3) rfl (fun _=>ai _) (fun _=>ai _)
end Go.Proofs.Vq

noncomputable section
namespace Go.Proofs.Vq
open Go.Ab Go.Ab.Lf
set_option maxRecDepth 100000
abbrev fx(a b:Int):Option (List Pl):=some (aH r9 (a,b,true,()))
theorem iJ(o:Int):(t142 (o,())).val=
 bif decide (o=0)then fx 0 0 else bif decide (o=12)then fx 0 0 else bif decide (o=257)then fx 0 0
 else bif decide (o=13)then fx 1 0 else bif decide (o=14)then fx 1 0 else bif decide (o=26)then fx 1 0 else bif decide (o=33)then fx 1 0 else bif decide (o=36)then fx 1 0
 else bif decide (o=27)then fx 3 1
 else bif decide (o=32)then fx 0 1 else bif decide (o=35)then fx 0 1 else bif decide (o=63)then fx 0 1 else bif decide (o=66)then fx 0 1
 else bif decide (o=34)then fx 1 1 else bif decide (o=64)then fx 1 1 else bif decide (o=40)then fx 1 1 else bif decide (o=41)then fx 1 1 else bif (bif decide (44<=o)then decide (o<=53)else false)then fx 1 1
 else bif decide (o=54)then fx 2 0 else bif decide (o=55)then fx 2 0 else bif (bif decide (58<=o)then decide (o<=62)else false)then fx 2 0
 else bJ (CV (o,())) (bif decide (0<(m11 (o,())).1)then bJ (CV (o,())) (fx (m11 (o,())).1 1)else some (aH r9 (0,0,false,()))):=by
 kernel_rfl
theorem KL(ss:List (den bz))(fs:List (den cr))(f o a n:Int):(t85 (ss,fs,f,o,a,n,())).val=
 bif decide (o=15)then bJ (bF f (fs.length:Int)) (some (aH tp ((fs.getD f.toNat (aE cr)).2.2.2.1,0,())))
 else bif (bif decide (o=16)then bif decide (0<=a)then decide (a<(fs.length:Int))else false else false)then bJ (bF a (fs.length:Int)&&bF a (fs.length:Int)) (some (aH tp ((fs.getD a.toNat (aE cr)).2.2.1,(fs.getD a.toNat (aE cr)).2.2.2.1,())))
 else bif (bif decide (o=17)then bif decide (0<=a)then decide (a<(ss.length:Int))else false else false)then bJ (bF a (ss.length:Int)&&bF a (ss.length:Int)) (some (aH tp (bL .i64 1 ((ss.getD a.toNat (aE bz)).1.length:Int),((ss.getD a.toNat (aE bz)).2.length:Int),())))
 else bif (bif decide (o=256)then bif decide (0<=a)then bif decide (a<=1048576)then decide (n<=1048576)else false else false else false)then some (aH tp (bL .i64 a (ao .i64 n),a,()))
 else bJ (mc (o,())) (some (aH tp ((fc (o,())).1,(fc (o,())).2.1,()))):=by
 kernel_rfl
theorem KM(f:Int)(ss:List (den bz))(fs:List (den cr))(cs:List (den bE))(hs:List Int)(n i:Int):(tL (aH jY (f,ss,fs,cs,hs,n,i,()))).val=
 bif decide (i<n)then bJ (bF i (hs.length:Int)) (some (.next (aH jY (f,ss,fs,cs,hs.set i.toNat (-1),n,bL .i64 i 1,()))))else some (.out 0 (aH jz (f,ss,fs,cs,hs,()))):=by
 kernel_rfl
theorem KN(at_:Int)(l:List Int)(n i:Int):(qo (aH jy (at_,l,n,i,()))).val=
 bif decide (i<n)then bJ (roomy 8 (l.length+[bL .i64 (bL .i64 at_ 1) i].length)) (some (.next (aH jy (at_,app l [bL .i64 (bL .i64 at_ 1) i],n,bL .i64 i 1,()))))else some (.out 0 (aH gV (l,()))):=by
 kernel_rfl
theorem KO(f:Int)(ss:List (den bz))(fs:List (den cr))(cs:List (den bE))(hs wk:List Int)(h:Int)(nx:List Int)(n i:Int):(qp (aH jA (f,ss,fs,cs,hs,wk,h,nx,n,i,()))).val=
 bif decide (i<n)then bJ (bF i (nx.length:Int)) (
  bif decide ((cs.length:Int)<=nx.getD i.toNat (aE i64))then some (.out 1 (aH jB (false,())))
  else bJ (bF (nx.getD i.toNat (aE i64)) (hs.length:Int)) (bif decide (hs.getD (nx.getD i.toNat (aE i64)).toNat (aE i64)= -1)then
   bJ (bF (nx.getD i.toNat (aE i64)) (hs.length:Int)) (bJ (roomy 8 (wk.length+[nx.getD i.toNat (aE i64)].length)) (some (.next (aH jA (f,ss,fs,cs,hs.set (nx.getD i.toNat (aE i64)).toNat h,app wk [nx.getD i.toNat (aE i64)],h,nx,n,bL .i64 i 1,())))))
  else bJ (bF (nx.getD i.toNat (aE i64)) (hs.length:Int)) (bif !decide (hs.getD (nx.getD i.toNat (aE i64)).toNat (aE i64)=h)then some (.out 1 (aH jB (false,())))else some (.next (aH jA (f,ss,fs,cs,hs,wk,h,nx,n,bL .i64 i 1,()))))))
 else some (.out 0 (aH kA (f,ss,fs,cs,hs,wk,()))):=by
 kernel_rfl
end Go.Proofs.Vq

noncomputable section
namespace Go.Proofs.Vq
open Go.Ab Go.Ab.Lf
set_option maxRecDepth 100000
theorem agC(cs:List (den bE))(at_:Int)(c:den bE)(hc:c=cs.getD at_.toNat (aE bE))(X:aG jy)(hX:X=(at_,[],bL .i64 c.2.1 1,0,())):(t86 (cs,at_,())).val=bJ (bF at_ (cs.length:Int)) (
 bif decide (c.1=0)then some (aH wm ([],()))else bif decide (c.1=15)then some (aH wm ([],()))else bif decide (c.1=12)then some (aH wm ([c.2.1],()))
 else bif decide (c.1=13)then some (aH wm ([c.2.1,bL .i64 at_ 1],()))
 else bif decide (c.1=14)then bJ (zy qo jy gV X) (some (aH wm (je qo jy gV X)))
 else some (aH wm ([bL .i64 at_ 1],()))):=by
 subst hX;subst hc
 kernel_rfl
theorem KP(f:Int)(ss:List (den bz))(fs:List (den cr))(cs:List (den bE))(hs wk:List Int)(at_:Int)(BJ:at_=wk.getD (pH wk).toNat (aE i64))(wo:List Int)(RT:wo=r5 wk)(c:den bE)(hc:c=cs.getD at_.toNat (aE bE))(E:aG tp)(hE:E=Gu (ss,fs,f,c.1,c.2.1,c.2.2,()))(nx:List Int)(GA:nx=(m86 (cs,at_,())).1)
 (X:aG jA)(hX:X=(f,ss,fs,cs,hs,wo,bL .i64 (aV .i64 (hs.getD at_.toNat (aE i64)) E.1) E.2.1,nx,(nx.length:Int),0,())):(qt (aH jZ (f,ss,fs,cs,hs,wk,()))).val=
 bif decide ((0:Int)<Int.ofNat (List.length wk))then kP wk (bJ (bF at_ (cs.length:Int)) (bJ (Gt (ss,fs,f,c.1,c.2.1,c.2.2,())) (bJ (bF at_ (hs.length:Int)) (
  bif decide ((hs.getD at_.toNat (aE i64):Int)<E.1)then some (.out 1 (aH jC (false,())))
  else bJ (bF at_ (hs.length:Int)) (bJ (k86 (cs,at_,())) (bJ (wS qp jA kA jB X) (bif vW qp jA X then some (.next (aH jZ (je qp jA kA X)))else some (.out 1 (aH jC (je qp jA jB X))))))))))
 else some (.out 0 (aH kB (hs,()))):=by
 subst hX;subst GA;subst hE;subst hc;subst RT;subst BJ
 kernel_rfl
end Go.Proofs.Vq

noncomputable section
namespace Go.Proofs.Vq
open Go.Ab Go.Ab.Lf
set_option maxRecDepth 100000
theorem agD(ss:List (den bz))(fs:List (den cr))(f:Int)(cs:List (den bE))(gu:cs=(fs.getD f.toNat (aE cr)).2.2.2.2.2.1)(z0:List Int)(V7:z0=List.replicate (Int.ofNat (List.length cs)).toNat (0:Int))(X:aG jY)(hX:X=(f,ss,fs,cs,z0,Int.ofNat (List.length z0),0,()))(z:aG jz)(hz:z=je tL jY jz X)
 (Y:aG jZ)(hY:Y=(z.1,z.2.1,z.2.2.1,z.2.2.2.1,z.2.2.2.2.1.set (0:Int).toNat 0,[0],())):(t35 (ss,fs,f,())).val=
 (let E:=some (aH Bm ([],false,()))
  bJ (Wv (ss,fs,())) (bif !decide ((Rb (ss,fs,())).1=0)then E else bif decide (f<0)then E else bif decide ((fs.length:Int)<=f)then E else
   bJ (bF f (fs.length:Int)) (bif decide (Int.ofNat (List.length cs)=0)then E else bJ (bF f (fs.length:Int)) (
   bJ (decide (0<=Int.ofNat (List.length cs))&&decide (Int.ofNat (List.length cs)<=Int.ofNat (List.length cs))&&decide ((Int.ofNat (List.length cs)).toNat*8<=70368744177664)) (bJ (zy tL jY jz X) (bJ (bF 0 (Int.ofNat (List.length z.2.2.2.2.1))) (
   bJ (wS qt jZ kB jC Y) (bif vW qt jZ Y then some (aH Bm ((je qt jZ kB Y).1,true,()))else some (aH Bm ([],(je qt jZ jC Y).1,())))))))))):=by
 subst hY;subst hz;subst hX;subst V7;subst gu
 kernel_rfl
end Go.Proofs.Vq
