import Derived.Test.YtcnkojgmochcgaaGreatDoorVtL
noncomputable section
namespace Go.Proofs.Vq
open Go.Ab Go.Ab.Lf
set_option maxRecDepth 100000
theorem KQ{o:Int}(h:aau o=true):(o=0∨o=12∨o=257∨o=13∨o=14∨o=26∨o=33∨o=36∨o=27∨o=32∨o=35∨o=63∨o=66∨o=34∨o=64∨o=40∨o=41)∨(44<=o/\o<=53)∨o=54∨o=55∨(58<=o/\o<=62)∨0<(m11 (o,())).1∨o=15∨o=16∨o=17∨o=256:=by
 by_cases a0:o=0
 ·exact .inl (.inl a0)
 by_cases a1:o=12
 ·exact .inl (.inr (.inl a1))
 by_cases a2:o=257
 ·exact .inl (.inr (.inr (.inl a2)))
 by_cases a3:o=13
 ·exact .inl (.inr (.inr (.inr (.inl a3))))
 by_cases a4:o=14
 ·exact .inl (.inr (.inr (.inr (.inr (.inl a4)))))
 by_cases a5:o=26
 ·exact .inl (.inr (.inr (.inr (.inr (.inr (.inl a5))))))
 by_cases a6:o=33
 ·exact .inl (.inr (.inr (.inr (.inr (.inr (.inr (.inl a6)))))))
 by_cases a7:o=36
 ·exact .inl (.inr (.inr (.inr (.inr (.inr (.inr (.inr (.inl a7))))))))
 by_cases a8:o=27
 ·exact .inl (.inr (.inr (.inr (.inr (.inr (.inr (.inr (.inr (.inl a8)))))))))
 by_cases a9:o=32
 ·exact .inl (.inr (.inr (.inr (.inr (.inr (.inr (.inr (.inr (.inr (.inl a9))))))))))
 by_cases a10:o=35
 ·exact .inl (.inr (.inr (.inr (.inr (.inr (.inr (.inr (.inr (.inr (.inr (.inl a10)))))))))))
 by_cases a11:o=63
 ·exact .inl (.inr (.inr (.inr (.inr (.inr (.inr (.inr (.inr (.inr (.inr (.inr (.inl a11))))))))))))
 by_cases a12:o=66
 ·exact .inl (.inr (.inr (.inr (.inr (.inr (.inr (.inr (.inr (.inr (.inr (.inr (.inr (.inl a12)))))))))))))
 by_cases a13:o=34
 ·exact .inl (.inr (.inr (.inr (.inr (.inr (.inr (.inr (.inr (.inr (.inr (.inr (.inr (.inr (.inl a13))))))))))))))
 by_cases a14:o=64
 ·exact .inl (.inr (.inr (.inr (.inr (.inr (.inr (.inr (.inr (.inr (.inr (.inr (.inr (.inr (.inr (.inl a14)))))))))))))))
 by_cases a15:o=40
 ·exact .inl (.inr (.inr (.inr (.inr (.inr (.inr (.inr (.inr (.inr (.inr (.inr (.inr (.inr (.inr (.inr (.inl a15))))))))))))))))
 by_cases a16:o=41
 ·exact .inl (.inr (.inr (.inr (.inr (.inr (.inr (.inr (.inr (.inr (.inr (.inr (.inr (.inr (.inr (.inr (.inr (a16)))))))))))))))))
 by_cases b1:44<=o/\o<=53
 ·exact .inr (.inl b1)
 by_cases b2:o=54
 ·exact .inr (.inr (.inl b2))
 by_cases b3:o=55
 ·exact .inr (.inr (.inr (.inl b3)))
 by_cases b4:58<=o/\o<=62
 ·exact .inr (.inr (.inr (.inr (.inl b4))))
 by_cases b5:0<(m11 (o,())).1
 ·exact .inr (.inr (.inr (.inr (.inr (.inl b5)))))
 refine .inr (.inr (.inr (.inr (.inr (.inr ?_)))))
 have e:=Rl o
 rw[df a0,df a1,df a2,df a3,df a4,df a5,df a6,df a7,df a8,df a9,df a10,df a11,df a12,df a13,df a14,df a15,df a16,r8 (a:=fun o=>44<=o) (b:=fun o=>o<=53) b1,df b2,df b3,r8 (a:=fun o=>58<=o) (b:=fun o=>o<=62) b4,(pG o).1,df b5]at e
 simp only[cond_false]at e
 rw[db rfl]at e
 have e2:=(cg (ai _) (ai _) (k:=OB (o,())) (m:=JU (o,())) (y:=((bif decide (o=15)then true else bif decide (o=16)then true else bif decide (o=17)then true else decide (o=256)),())) e).2
 have e3:(bif decide (o=15)then true else bif decide (o=16)then true else bif decide (o=17)then true else decide (o=256))=true:=by
  have:(JU (o,())).1=true:=h
  rw[e2]at this
  exact this
 by_cases c1:o=15
 ·exact .inl c1
 by_cases c2:o=16
 ·exact .inr (.inl c2)
 by_cases c3:o=17
 ·exact .inr (.inr (.inl c3))
 rw[df c1,df c2,df c3]at e3
 exact .inr (.inr (.inr (of_decide_eq_true e3)))
def BN(at_:Int):Nat->List Int
 |0=>[]
 |n+1=>BN at_ n++[bL .i64 (bL .i64 at_ 1) (n:Int)]
theorem zd(at_:Int): ∀ n,(BN at_ n).length=n
 |0=>rfl
 |n+1=>by
  show(BN at_ n++[_]).length=n+1
  rw[List.length_append,zd at_ n];rfl
theorem aaZ(at_:Int)(n:Nat)(hn:n<=1099511627776):nu qo (aH jy (at_,BN at_ 0,(n:Int),((0:Nat):Int),())) 0 (aH gV (BN at_ n,())):=by
 refine wh n (fun j=>aH jy (at_,BN at_ j,(n:Int),(j:Int),())) _ (fun j hj=>?_) ?_
 ·refine(KN at_ (BN at_ j) (n:Int) (j:Int)).trans ?_
  rw[dt (show(j:Int)<(n:Int) by omega),show roomy 8 ((BN at_ j).length+[bL .i64 (bL .i64 at_ 1) (j:Int)].length)=true from pD (by decide) (by rw[zd];show j+1<=_;omega),uj (by omega),dn]
  rfl
 ·refine(KN at_ (BN at_ n) (n:Int) (n:Int)).trans ?_
  rw[df (show ¬ (n:Int)<(n:Int) by omega)]
  rfl
def LM(k:Nat)(c:den bE):List Int:=
 bif decide (c.1=0)then []else bif decide (c.1=15)then []else bif decide (c.1=12)then [c.2.1]else bif decide (c.1=13)then [c.2.1,((k+1:Nat):Int)]
 else bif decide (c.1=14)then BN (k:Int) (bL .i64 c.2.1 1).toNat else [((k+1:Nat):Int)]
theorem c86(cs:List (den bE))(k:Nat)(hk:k<cs.length)(hl:cs.length<=1099511600000)(ha:(cs.getD k (aE bE)).1=14-> ∃ a:Nat,(cs.getD k (aE bE)).2.1=(a:Int)/\a<=1099511600000):k86 (cs,(k:Int),())=true/\m86 (cs,(k:Int),())=(LM k (cs.getD k (aE bE)),()):=by
 obtain⟨c,hc⟩: ∃ c,c=cs.getD k (aE bE):=⟨_,rfl⟩
 rw[<-hc]at ha ⊢
 refine cg (ai _) (ai _) ?_
 refine(agC cs (k:Int) c (by rw[Int.toNat_natCast];exact hc) _ rfl).trans ?_
 have Wz:Gp (bL .i64 (k:Int) 1) ((k+1:Nat):Int):=uj (by omega)
 rw[show bF (k:Int) (cs.length:Int)=true from cZ hk,db rfl,show bL .i64 (k:Int) 1=((k+1:Nat):Int)from Wz]
 unfold LM
 by_cases h0:c.1=0
 ·rw[dt h0];rfl
 by_cases uk:c.1=15
 ·rw[df h0,dt uk];rfl
 by_cases wC:c.1=12
 ·rw[df h0,df uk,dt wC];rfl
 by_cases C8:c.1=13
 ·rw[df h0,df uk,df wC,dt C8];rfl
 by_cases GM:c.1=14
 ·obtain⟨a,ha1,N5⟩:=ha GM
  rw[df h0,df uk,df wC,df C8,dt GM,ha1]
  have ea:bL .i64 (a:Int) 1=((a+1:Nat):Int):=uj (by omega)
  rw[ea,Int.toNat_natCast]
  obtain⟨q1,q2⟩:=xJ (f:=qo) (ti:=jy) (to:=gV) (aaZ (k:Int) (a+1) (by clear Wz ea;omega))
  show bJ (zy qo jy gV ((k:Int),[],((a+1:Nat):Int),0,())) (some (aH wm (je qo jy gV ((k:Int),[],((a+1:Nat):Int),0,()))))=_
  rw[show zy qo jy gV ((k:Int),[],((a+1:Nat):Int),0,())=true from q1,show je qo jy gV ((k:Int),[],((a+1:Nat):Int),0,())=_ from q2]
  rfl
 rw[df h0,df uk,df wC,df C8,df GM]
 rfl
end Go.Proofs.Vq

noncomputable section
namespace Go.Proofs.Vq
open Go.Ab Go.Ab.Lf
set_option maxRecDepth 100000
theorem U7(o:Int):mc (o,())=true:=by
 refine(fj.km (P:=fun _:aG r9=>True) (ai _) (ai _) ?_).1
 rw[iJ]
 repeat' with_reducible first
  |exact fj.ok (P:=fun _:aG r9=>True) trivial
  |refine fj.bif (fun _=>?_) (fun _=>?_)
  |refine fj.ck (pG o).1 ?_
 all_goals exact fj.ok (P:=fun _:aG r9=>True) trivial
theorem U8:fc (0,())=(0,0,true,()):=(cg (ai _) (ai _) (k:=mc (0,())) (m:=fc (0,())) (y:=(0,0,true,())) ((iJ 0).trans (by show _=_;kernel_rfl))).2
theorem PH:fc (12,())=(0,0,true,()):=(cg (ai _) (ai _) (k:=mc (12,())) (m:=fc (12,())) (y:=(0,0,true,())) ((iJ 12).trans (by show _=_;kernel_rfl))).2
theorem KR:fc (257,())=(0,0,true,()):=(cg (ai _) (ai _) (k:=mc (257,())) (m:=fc (257,())) (y:=(0,0,true,())) ((iJ 257).trans (by show _=_;kernel_rfl))).2
theorem PJ:fc (13,())=(1,0,true,()):=(cg (ai _) (ai _) (k:=mc (13,())) (m:=fc (13,())) (y:=(1,0,true,())) ((iJ 13).trans (by show _=_;kernel_rfl))).2
theorem PK:fc (14,())=(1,0,true,()):=(cg (ai _) (ai _) (k:=mc (14,())) (m:=fc (14,())) (y:=(1,0,true,())) ((iJ 14).trans (by show _=_;kernel_rfl))).2
theorem PL:fc (26,())=(1,0,true,()):=(cg (ai _) (ai _) (k:=mc (26,())) (m:=fc (26,())) (y:=(1,0,true,())) ((iJ 26).trans (by show _=_;kernel_rfl))).2
theorem PM:fc (33,())=(1,0,true,()):=(cg (ai _) (ai _) (k:=mc (33,())) (m:=fc (33,())) (y:=(1,0,true,())) ((iJ 33).trans (by show _=_;kernel_rfl))).2
theorem PN:fc (36,())=(1,0,true,()):=(cg (ai _) (ai _) (k:=mc (36,())) (m:=fc (36,())) (y:=(1,0,true,())) ((iJ 36).trans (by show _=_;kernel_rfl))).2
theorem PQ:fc (27,())=(3,1,true,()):=(cg (ai _) (ai _) (k:=mc (27,())) (m:=fc (27,())) (y:=(3,1,true,())) ((iJ 27).trans (by show _=_;kernel_rfl))).2
theorem PR:fc (32,())=(0,1,true,()):=(cg (ai _) (ai _) (k:=mc (32,())) (m:=fc (32,())) (y:=(0,1,true,())) ((iJ 32).trans (by show _=_;kernel_rfl))).2
theorem PS:fc (35,())=(0,1,true,()):=(cg (ai _) (ai _) (k:=mc (35,())) (m:=fc (35,())) (y:=(0,1,true,())) ((iJ 35).trans (by show _=_;kernel_rfl))).2
theorem PT:fc (63,())=(0,1,true,()):=(cg (ai _) (ai _) (k:=mc (63,())) (m:=fc (63,())) (y:=(0,1,true,())) ((iJ 63).trans (by show _=_;kernel_rfl))).2
theorem PU:fc (66,())=(0,1,true,()):=(cg (ai _) (ai _) (k:=mc (66,())) (m:=fc (66,())) (y:=(0,1,true,())) ((iJ 66).trans (by show _=_;kernel_rfl))).2
theorem PV:fc (34,())=(1,1,true,()):=(cg (ai _) (ai _) (k:=mc (34,())) (m:=fc (34,())) (y:=(1,1,true,())) ((iJ 34).trans (by show _=_;kernel_rfl))).2
theorem PW:fc (64,())=(1,1,true,()):=(cg (ai _) (ai _) (k:=mc (64,())) (m:=fc (64,())) (y:=(1,1,true,())) ((iJ 64).trans (by show _=_;kernel_rfl))).2
theorem PX:fc (40,())=(1,1,true,()):=(cg (ai _) (ai _) (k:=mc (40,())) (m:=fc (40,())) (y:=(1,1,true,())) ((iJ 40).trans (by show _=_;kernel_rfl))).2
theorem PY:fc (41,())=(1,1,true,()):=(cg (ai _) (ai _) (k:=mc (41,())) (m:=fc (41,())) (y:=(1,1,true,())) ((iJ 41).trans (by show _=_;kernel_rfl))).2
theorem PZ{o:Int}(h1:44<=o)(h2:o<=53):fc (o,())=(1,1,true,()):=(cg (ai _) (ai _) (k:=mc (o,())) (m:=fc (o,())) (y:=(1,1,true,())) ((iJ o).trans (by
 rw[df (show ¬ o=0 by omega),df (show ¬ o=12 by omega),df (show ¬ o=257 by omega),df (show ¬ o=13 by omega),df (show ¬ o=14 by omega),df (show ¬ o=26 by omega),df (show ¬ o=33 by omega),df (show ¬ o=36 by omega),df (show ¬ o=27 by omega),df (show ¬ o=32 by omega),df (show ¬ o=35 by omega),df (show ¬ o=63 by omega),df (show ¬ o=66 by omega),df (show ¬ o=34 by omega),df (show ¬ o=64 by omega),df (show ¬ o=40 by omega),df (show ¬ o=41 by omega),dt h1,dt h2]
 simp only[cond_false,cond_true]))).2
theorem P0{o:Int}(h:o=54∨o=55∨58<=o/\o<=62):fc (o,())=(2,0,true,()):=(cg (ai _) (ai _) (k:=mc (o,())) (m:=fc (o,())) (y:=(2,0,true,())) ((iJ o).trans (by
 rw[df (show ¬ o=0 by omega),df (show ¬ o=12 by omega),df (show ¬ o=257 by omega),df (show ¬ o=13 by omega),df (show ¬ o=14 by omega),df (show ¬ o=26 by omega),df (show ¬ o=33 by omega),df (show ¬ o=36 by omega),df (show ¬ o=27 by omega),df (show ¬ o=32 by omega),df (show ¬ o=35 by omega),df (show ¬ o=63 by omega),df (show ¬ o=66 by omega),df (show ¬ o=34 by omega),df (show ¬ o=64 by omega),df (show ¬ o=40 by omega),df (show ¬ o=41 by omega),r8 (a:=fun o=>44<=o) (b:=fun o=>o<=53) (o:=o) (by omega)]
 rcases h with h|h|⟨h1,h2⟩
 ·rw[dt h];simp only[cond_false,cond_true]
 ·rw[df (show ¬ o=54 by omega),dt h];simp only[cond_false,cond_true]
 ·rw[df (show ¬ o=54 by omega),df (show ¬ o=55 by omega),dt h1,dt h2];simp only[cond_false,cond_true]))).2
theorem U9{o:Int}(hL: ¬ (o=0∨o=12∨o=257∨o=13∨o=14∨o=26∨o=33∨o=36∨o=27∨o=32∨o=35∨o=63∨o=66∨o=34∨o=64∨o=40∨o=41))(h1: ¬ (44<=o/\o<=53))(h2: ¬ o=54)(h3: ¬ o=55)(h4: ¬ (58<=o/\o<=62))(ha:0<(m11 (o,())).1):fc (o,())=((m11 (o,())).1,1,true,()):=(cg (ai _) (ai _) (k:=mc (o,())) (m:=fc (o,())) (y:=((m11 (o,())).1,1,true,())) ((iJ o).trans (by
 rw[df (show ¬ o=0 by omega),df (show ¬ o=12 by omega),df (show ¬ o=257 by omega),df (show ¬ o=13 by omega),df (show ¬ o=14 by omega),df (show ¬ o=26 by omega),df (show ¬ o=33 by omega),df (show ¬ o=36 by omega),df (show ¬ o=27 by omega),df (show ¬ o=32 by omega),df (show ¬ o=35 by omega),df (show ¬ o=63 by omega),df (show ¬ o=66 by omega),df (show ¬ o=34 by omega),df (show ¬ o=64 by omega),df (show ¬ o=40 by omega),df (show ¬ o=41 by omega),r8 (a:=fun o=>44<=o) (b:=fun o=>o<=53) (o:=o) h1,df h2,df h3,r8 (a:=fun o=>58<=o) (b:=fun o=>o<=62) (o:=o) h4,(pG o).1,dt ha]
 simp only[cond_false,cond_true]
 rw[db rfl,db rfl]))).2
end Go.Proofs.Vq

noncomputable section
namespace Go.Proofs.Vq
open Go.Ab Go.Ab.Lf
set_option maxRecDepth 100000
section
variable (ss:List (den bz))(fs:List (den cr))(f:Nat)(a n:Int)
theorem U'{o:Int}(uk: ¬ o=15)(Er: ¬ o=16)(GN: ¬ o=17)(wq: ¬ o=256):Gt (ss,fs,(f:Int),o,a,n,())=true/\Gu (ss,fs,(f:Int),o,a,n,())=((fc (o,())).1,(fc (o,())).2.1,()):=by
 refine cg (ai _) (ai _) ?_
 refine(KL ss fs (f:Int) o a n).trans ?_
 rw[df uk,df Er,df GN,df wq,U7]
 rfl
theorem Va(hf:f<fs.length):Gt (ss,fs,(f:Int),15,a,n,())=true/\Gu (ss,fs,(f:Int),15,a,n,())=((fs.getD f (aE cr)).2.2.2.1,0,()):=by
 refine cg (ai _) (ai _) ?_
 refine(KL ss fs (f:Int) 15 a n).trans ?_
 rw[dt (rfl:(15:Int)=15),show bF (f:Int) (fs.length:Int)=true from cZ hf,Int.toNat_natCast]
 rfl
theorem Vb(k:Nat)(hk:k<fs.length):Gt (ss,fs,(f:Int),16,(k:Int),n,())=true/\Gu (ss,fs,(f:Int),16,(k:Int),n,())=((fs.getD k (aE cr)).2.2.1,(fs.getD k (aE cr)).2.2.2.1,()):=by
 refine cg (ai _) (ai _) ?_
 refine(KL ss fs (f:Int) 16 (k:Int) n).trans ?_
 rw[df (show ¬ (16:Int)=15 by decide),dt (rfl:(16:Int)=16),dt (show(0:Int)<=(k:Int) by omega),dt (show(k:Int)<(fs.length:Int) by omega),show bF (k:Int) (fs.length:Int)=true from cZ hk,Int.toNat_natCast]
 rfl
theorem P1(k d:Nat)(hk:k<=1048576)(hd:d<=1048576):Gt (ss,fs,(f:Int),256,(k:Int),(d:Int),())=true/\Gu (ss,fs,(f:Int),256,(k:Int),(d:Int),())=(((k+d:Nat):Int),(k:Int),()):=by
 have e0:ao .i64 (d:Int)=(d:Int):=wrap_i64 (by omega) (by omega)
 have e1:bL .i64 (k:Int) (d:Int)=((k+d:Nat):Int):=(wrap_i64 (by omega) (by omega)).trans (by omega)
 refine cg (ai _) (ai _) ?_
 refine(KL ss fs (f:Int) 256 (k:Int) (d:Int)).trans ?_
 rw[df (show ¬ (256:Int)=15 by decide),df (show ¬ (256:Int)=16 by decide),df (show ¬ (256:Int)=17 by decide),dt (rfl:(256:Int)=256),dt (show(0:Int)<=(k:Int) by clear e0 e1;omega),dt (show(k:Int)<=1048576 by clear e0 e1;omega),dt (show(d:Int)<=1048576 by clear e0 e1;omega),e0,e1]
 rfl
end
end Go.Proofs.Vq

noncomputable section
namespace Go.Proofs.Vq
open Go.Ab Go.Ab.Lf
set_option maxRecDepth 100000
theorem wt{a b:Int}(h:(bif decide (0<=a)then decide (a<b)else false)=true): ∃ A:Nat,a=(A:Int)/\(A:Int)<b:=by
 by_cases h0:0<=a
 ·rw[dt h0]at h
  have h1:=of_decide_eq_true h
  exact⟨a.toNat,by omega,by omega⟩
 ·rw[df h0]at h;cases h
theorem agF:(m11 (42,())).1=0:=by
 have e:CV (42,())=true/\m11 (42,())=(0,()):=by
  refine cg (ai _) (ai _) ?_
  rw[Ke];show _=_;kernel_rfl
 rw[e.2]
theorem agG:(m11 (43,())).1=0:=by
 have e:CV (43,())=true/\m11 (43,())=(0,()):=by
  refine cg (ai _) (ai _) ?_
  rw[Ke];show _=_;kernel_rfl
 rw[e.2]
theorem agH:(m11 (56,())).1=0:=by
 have e:CV (56,())=true/\m11 (56,())=(0,()):=by
  refine cg (ai _) (ai _) ?_
  rw[Ke];show _=_;kernel_rfl
 rw[e.2]
theorem agI:(m11 (57,())).1=0:=by
 have e:CV (57,())=true/\m11 (57,())=(0,()):=by
  refine cg (ai _) (ai _) ?_
  rw[Ke];show _=_;kernel_rfl
 rw[e.2]
theorem Ey{fns:List (den cr)}{fn:den cr}{nl ns t g:Nat}{op a n:Int}(h: ¬ op=0/\ ¬ (12<=op/\op<=17))(hp:wW nl ns (op,a,n) t g):BM fns fn nl ns (op,a,n) t g:=.pl h.1 h.2 hp
theorem Bn{ss:List (den bz)}{fs:List (den cr)}{f k i l ns out:Nat}{fn:den cr}(qN:fn=fs.getD f (aE cr))(hf:f<fs.length)(ho:fn.2.2.2.1=(out:Int))(hil:i+l<=1099511627776)(sR: ∀ j,j<fs.length-> ∃ i' o':Nat,(fs.getD j (aE cr)).2.2.1=(i':Int)/\(fs.getD j (aE cr)).2.2.2.1=(o':Int)/\o'<=1048576){op a n:Int}
 (gg:rW ss.length fs.length (i:Int) (l:Int) fn.2.2.2.2.2.1.length (k:Int) (op,a,n)=true)(hnc:fn.2.2.2.2.2.1.length<=1099511600000)(hk:k<fn.2.2.2.2.2.1.length)(GN: ¬ op=17)(RU:op=35∨op=36->a<(ns:Int))(hU:U n):
 Gt (ss,fs,(f:Int),op,a,n,())=true/\ ∃ t g:Nat,Gu (ss,fs,(f:Int),op,a,n,())=((t:Int),(g:Int),())/\BM fs fn (i+l) ns (op,a,n) t g:=by
 have Hn:Gp (bL .i64 (i:Int) (l:Int)) ((i+l:Nat):Int):=(wrap_i64 (by omega) (by omega)).trans (by omega)
 unfold rW at gg
 dsimp only at gg
 have fx: ∀ (t g:Nat) (b:Bool),¬ op=15-> ¬ op=16-> ¬ op=256->fc (op,())=((t:Int),(g:Int),b,())->BM fs fn (i+l) ns (op,a,n) t g->Gt (ss,fs,(f:Int),op,a,n,())=true/\ ∃ t g:Nat,Gu (ss,fs,(f:Int),op,a,n,())=((t:Int),(g:Int),())/\BM fs fn (i+l) ns (op,a,n) t g:=by
  intro t g b uk Er wq hm hE
  obtain⟨q1,q2⟩:=U' ss fs f a n uk Er GN wq
  exact⟨q1,t,g,q2.trans (by rw[hm]),hE⟩
 by_cases wC:op=12
 ·subst wC
  obtain⟨A,rfl,hA⟩:=wt (b:=(fn.2.2.2.2.2.1.length:Int)) gg
  exact fx 0 0 true (by decide) (by decide) (by decide) PH (.br (by omega))
 rw[df wC,cond_false]at gg
 by_cases C8:op=13
 ·subst C8
  obtain⟨A,rfl,hA⟩:=wt (b:=(fn.2.2.2.2.2.1.length:Int)) gg
  exact fx 1 0 true (by decide) (by decide) (by decide) PJ (.aaO (by omega))
 rw[df C8,cond_false]at gg
 by_cases GM:op=14
 ·subst GM
  have e1:Gp (aV .i64 (fn.2.2.2.2.2.1.length:Int) (k:Int)) ((fn.2.2.2.2.2.1.length - k:Nat):Int):=(wrap_i64 (by omega) (by omega)).trans (by omega)
  have e2:Gp (aV .i64 ((fn.2.2.2.2.2.1.length - k:Nat):Int) 1) ((fn.2.2.2.2.2.1.length - k - 1:Nat):Int):=(wrap_i64 (by omega) (by omega)).trans (by omega)
  rw[show aV .i64 (fn.2.2.2.2.2.1.length:Int) (k:Int)=_ from e1,show aV .i64 ((fn.2.2.2.2.2.1.length - k:Nat):Int) 1=_ from e2]at gg
  obtain⟨A,rfl,hA⟩:=wt gg
  exact fx 1 0 true (by decide) (by decide) (by decide) PK (.QS (by omega))
 rw[df GM,cond_false]at gg
 by_cases Er:op=16
 ·subst Er
  obtain⟨A,rfl,hA⟩:=wt (b:=(fs.length:Int)) gg
  have hA':A<fs.length:=by omega
  obtain⟨i',o',q1,q2,q3⟩:=sR A hA'
  obtain⟨r1,r2⟩:=Vb ss fs f n A hA'
  exact⟨r1,i',o',r2.trans (by rw[q1,q2]),.call hA' q1 q2 q3⟩
 rw[df Er,df GN,cond_false,cond_false]at gg
 by_cases h32:op=32
 ·subst h32
  rw[show bL .i64 (i:Int) (l:Int)=_ from Hn]at gg
  obtain⟨A,rfl,hA⟩:=wt (b:=((i+l:Nat):Int)) gg
  exact fx 0 1 true (by decide) (by decide) (by decide) PR (Ey (by decide) (.get (by omega)))
 rw[df h32,cond_false]at gg
 by_cases h33:op=33
 ·subst h33
  rw[show bL .i64 (i:Int) (l:Int)=_ from Hn]at gg
  obtain⟨A,rfl,hA⟩:=wt (b:=((i+l:Nat):Int)) gg
  exact fx 1 0 true (by decide) (by decide) (by decide) PM (Ey (by decide) (.put (by omega)))
 rw[df h33,cond_false]at gg
 by_cases h34:op=34
 ·subst h34
  rw[show bL .i64 (i:Int) (l:Int)=_ from Hn]at gg
  obtain⟨A,rfl,hA⟩:=wt (b:=((i+l:Nat):Int)) gg
  exact fx 1 1 true (by decide) (by decide) (by decide) PV (Ey (by decide) (.tee (by omega)))
 rw[df h34,cond_false]at gg
 by_cases h35:op=35
 ·subst h35
  have h0:0<=a:=of_decide_eq_true gg
  have h1:=RU (.inl rfl)
  obtain⟨A,rfl⟩:=Int.eq_ofNat_of_zero_le h0
  exact fx 0 1 true (by decide) (by decide) (by decide) PS (Ey (by decide) (.aaK (by omega)))
 rw[df h35,cond_false]at gg
 by_cases h36:op=36
 ·subst h36
  have h0:0<=a:=of_decide_eq_true gg
  have h1:=RU (.inr rfl)
  obtain⟨A,rfl⟩:=Int.eq_ofNat_of_zero_le h0
  exact fx 1 0 true (by decide) (by decide) (by decide) PN (Ey (by decide) (.aaL (by omega)))
 rw[df h36,cond_false]at gg
 by_cases wq:op=256
 ·subst wq
  rw[dt rfl,cond_true]at gg
  by_cases g0:0<=a
  ·rw[dt g0,cond_true]at gg
   by_cases g1:a<=1048576
   ·rw[dt g1,cond_true]at gg
    have g2:n<=1048576:=of_decide_eq_true gg
    obtain⟨A,rfl⟩:=Int.eq_ofNat_of_zero_le g0
    obtain⟨D,rfl⟩:=Int.eq_ofNat_of_zero_le hU.1
    obtain⟨r1,r2⟩:=P1 ss fs f A D (by omega) (by omega)
    exact⟨r1,A+D,A,r2,Ey (by decide) (.RH (by omega) (by omega))⟩
   ·rw[df g1]at gg;cases gg
  ·rw[df g0]at gg;cases gg
 rw[df wq,cond_false]at gg
 by_cases uk:op=15
 ·subst uk
  obtain⟨r1,r2⟩:=Va ss fs f a n hf
  exact⟨r1,out,0,r2.trans (by rw[<-qN,ho];rfl),.ret ho⟩
 by_cases h0:op=0
 ·subst h0;exact fx 0 0 true (by decide) (by decide) (by decide) U8 .unr
 by_cases aa0:op=257
 ·subst aa0;exact fx 0 0 true (by decide) (by decide) (by decide) KR (Ey (by decide) .tick)
 by_cases h26:op=26
 ·subst h26;exact fx 1 0 true (by decide) (by decide) (by decide) PL (Ey (by decide) .drop)
 by_cases h27:op=27
 ·subst h27;exact fx 3 1 true (by decide) (by decide) (by decide) PQ (Ey (by decide) .xR)
 by_cases h63:op=63
 ·subst h63;exact fx 0 1 true (by decide) (by decide) (by decide) PT (Ey (by decide) .size)
 by_cases h66:op=66
 ·subst h66;exact fx 0 1 true (by decide) (by decide) (by decide) PU (Ey (by decide) (.Lu hU))
 by_cases h64:op=64
 ·subst h64;exact fx 1 1 true (by decide) (by decide) (by decide) PW (Ey (by decide) .grow)
 by_cases h40:op=40
 ·subst h40;exact fx 1 1 true (by decide) (by decide) (by decide) PX (Ey (by decide) (.load (by decide) (by decide) (by decide)))
 by_cases h41:op=41
 ·subst h41;exact fx 1 1 true (by decide) (by decide) (by decide) PY (Ey (by decide) (.load (by decide) (by decide) (by decide)))
 have p1: ∀ (x y:Int),¬ op=0/\ ¬ (12<=op/\op<=17):=fun _ _=>⟨h0,by omega⟩
 by_cases hld:44<=op/\op<=53
 ·have hm:qn op=true:=by
   have:op=44∨op=45∨op=46∨op=47∨op=48∨op=49∨op=50∨op=51∨op=52∨op=53:=by omega
   rcases this with h|h|h|h|h|h|h|h|h|h<;>rw[h]<;>decide
  exact fx 1 1 true uk Er wq (PZ hld.1 hld.2) (.pl h0 (p1 0 0).2 (.load (by omega) (by omega) hm))
 by_cases qe:op=54∨op=55∨58<=op/\op<=62
 ·have hm:qn op=true:=by
   have:op=54∨op=55∨op=58∨op=59∨op=60∨op=61∨op=62:=by omega
   rcases this with h|h|h|h|h|h|h<;>rw[h]<;>decide
  exact fx 2 0 true uk Er wq (P0 qe) (.pl h0 (p1 0 0).2 (.store (by omega) (by omega) hm))
 have Db:0<(m11 (op,())).1:=by
  rcases KQ gg with h|h|h|h|h|h|h|h|h|h
  all_goals first|exact h|(exfalso;omega)
 have agO: ¬ (40<=op/\op<=64):=by
  intro hq
  have:op=42∨op=43∨op=56∨op=57:=by omega
  rcases this with h|h|h|h
  ·rw[h,agF]at Db;exact absurd Db (by decide)
  ·rw[h,agG]at Db;exact absurd Db (by decide)
  ·rw[h,agH]at Db;exact absurd Db (by decide)
  ·rw[h,agI]at Db;exact absurd Db (by decide)
 have hN:Num op:=⟨⟨aa0,wq,h26,h27,h66,by omega,agO⟩⟩
 have hm:=U9 (o:=op) (by omega) hld (fun h=>qe (.inl h)) (fun h=>qe (.inr (.inl h))) (fun h=>qe (.inr (.inr h))) Db
 rcases(pG op).2 with h|h|h
 ·rw[h]at Db;exact absurd Db (by decide)
 ·exact fx 1 1 true uk Er wq (by rw[hm,h];rfl) (.pl h0 (p1 0 0).2 (.un hN h))
 ·exact fx 2 1 true uk Er wq (by rw[hm,h];rfl) (.pl h0 (p1 0 0).2 (.bin hN h))
end Go.Proofs.Vq

noncomputable section
namespace Go.Proofs.Vq
open Go.Ab Go.Ab.Lf
set_option maxRecDepth 100000
theorem Ez(at_:Int): ∀ (n i:Nat),i<n->bL .i64 (bL .i64 at_ 1) (i:Int)∈BN at_ n
 |n+1,i,h=>by
  show _∈BN at_ n++[bL .i64 (bL .i64 at_ 1) (n:Int)]
  by_cases hi:i=n
  ·subst hi;simp
  ·exact List.mem_append_left _ (Ez at_ n i (by omega))
theorem Vc{k a i:Nat}{n:Int}(hk:k<=1099511600000)(ha:a<=1099511600000)(hi:i<=a):((k+1+i:Nat):Int)∈LM k ((14:Int),(a:Int),n):=by
 have e1:bL .i64 (a:Int) 1=((a+1:Nat):Int):=uj (by omega)
 unfold LM
 dsimp only
 rw[df (show ¬ (14:Int)=0 by decide),df (show ¬ (14:Int)=15 by decide),df (show ¬ (14:Int)=12 by decide),df (show ¬ (14:Int)=13 by decide),dt (rfl:(14:Int)=14),cond_false,cond_false,cond_false,cond_false,cond_true,e1,Int.toNat_natCast]
 clear e1
 have e2:bL .i64 (k:Int) 1=((k+1:Nat):Int):=uj (by omega)
 have h:=Ez (k:Int) (a+1) i (by clear e2;omega)
 rw[e2]at h
 clear e2
 have e3:bL .i64 ((k+1:Nat):Int) (i:Int)=((k+1+i:Nat):Int):=(wrap_i64 (by omega) (by omega)).trans (by omega)
 rw[e3]at h
 exact h
theorem Vd{k to:Nat}{c:den bE}(h:RI k c to)(hk:k<=1099511600000)(ha:c.1=14->(c.2.1:Int)<=1099511600000):((to:Nat):Int)∈LM k c:=by
 cases h with
 |nx h0 h1=>
  unfold LM
  have q: ∀ v:Int,12<=v->v<=15-> ¬ c.1=v:=fun v a b e=>h1 (by rw[e];exact⟨a,b⟩)
  rw[df h0,df (q 15 (by decide) (by decide)),df (q 12 (by decide) (by decide)),df (q 13 (by decide) (by decide)),df (q 14 (by decide) (by decide))]
  exact List.mem_cons_self
 |br=>exact List.mem_cons_self
 |bi=>exact List.mem_cons_self
 |bn=>exact List.mem_cons_of_mem _ List.mem_cons_self
 | @tb a i n hi=>
  have h2:(a:Int)<=1099511600000:=ha rfl
  exact Vc hk (by omega) hi
end Go.Proofs.Vq

noncomputable section
namespace Go.Proofs.Vq
open Go.Ab Go.Ab.Lf
set_option maxRecDepth 100000
structure Gr(hs wk mh wo:List Int)(h:Int):Prop where
 len:mh.length=hs.length
 keep: ∀ j,j<hs.length->hs.getD j 0≠ -1->mh.getD j 0=hs.getD j 0
 pre: ∃ nw,wo=wk++nw/\(∀ y,y∈nw-> ∃ j:Nat,y=(j:Int)/\j<hs.length/\mh.getD j 0≠ -1)/\mh.count (-1)+nw.length=hs.count (-1)
 all: ∀ j,j<hs.length->mh.getD j 0≠ -1->hs.getD j 0≠ -1∨((j:Int)∈wo/\mh.getD j 0=h)
theorem Gr.refl(hs wk:List Int)(h:Int):Gr hs wk hs wk h:=⟨rfl,fun _ _ _=>rfl,⟨[],by simp,by simp,by simp⟩,fun _ _ q=>.inl q⟩
theorem gX(l:List Int)(a j:Nat)(v:Int)(ha:a<l.length):(l.set a v).getD j 0=if a=j then v else l.getD j 0:=by
 rw[List.getD_eq_getElem?_getD,List.getD_eq_getElem?_getD,List.getElem?_set]
 by_cases h:a=j
 ·subst h;simp[ha]
 ·simp[h]
theorem count_set{l:List Int}{a:Nat}{v:Int}(ha:a<l.length)(h1:l.getD a 0= -1)(hv:v≠ -1):(l.set a v).count (-1)+1=l.count (-1):=by
 have h2:l[a]= -1:=by
  rw[List.getD_eq_getElem?_getD,List.getElem?_eq_getElem ha]at h1
  exact h1
 rw[List.count_set ha]
 have hp:0<l.count (-1):=List.count_pos_iff.2 (by rw[<-h2];exact List.getElem_mem ha)
 simp[h2,hv]
 omega
theorem Gr.step{hs wk mh wo:List Int}{h:Int}{a:Nat}(ha:a<hs.length)(h1:hs.getD a 0= -1)(hh:h≠ -1)(g:Gr (hs.set a h) (wk++[(a:Int)]) mh wo h):Gr hs wk mh wo h:=by
 obtain⟨g1,g2,⟨nw,g3,g4,g5⟩,g6⟩:=g
 rw[List.length_set]at g1 g2 g4 g6
 have hc:=count_set ha h1 hh
 refine⟨g1,fun j hj hn=>?_,⟨(a:Int)::nw,by rw[g3,List.append_assoc];rfl,fun y hy=>?_,by rw[List.length_cons];omega⟩,fun j hj hn=>?_⟩
 ·have mW:a≠j:=by rintro rfl;exact hn h1
  have:=g2 j hj (by rw[gX _ _ _ _ ha,if_neg mW];exact hn)
  rw[this,gX _ _ _ _ ha,if_neg mW]
 ·rcases List.mem_cons.1 hy with q|q
  ·have:=g2 a ha (by rw[gX _ _ _ _ ha,if_pos rfl];exact hh)
   exact⟨a,q,ha,by rw[this,gX _ _ _ _ ha,if_pos rfl];exact hh⟩
  ·exact g4 y q
 ·by_cases mW:a=j
  ·subst mW
   refine .inr ⟨by rw[g3];simp,?_⟩
   have:=g2 a hj (by rw[gX _ _ _ _ ha,if_pos rfl];exact hh)
   rw[this,gX _ _ _ _ ha,if_pos rfl]
  ·rcases g6 j hj hn with q|q
   ·rw[gX _ _ _ _ ha,if_neg mW]at q
    exact .inl q
   ·exact .inr q
theorem KS(f:Int)(ss:List (den bz))(fs:List (den cr))(cs:List (den bE))(h:Int)(hh:h≠ -1)(nx:List Int)(hnl:nx.length<=1099511627776)(GA: ∀ y,y∈nx-> ∃ j:Nat,y=(j:Int))(fF:cs.length<=1000000000): ∀ (r:List Int) (i:Nat) (hs wk:List Int),nx.drop i=r->i<=nx.length->hs.length=cs.length->wk.length+hs.count (-1)<=1099511627776->
 nu qp (aH jA (f,ss,fs,cs,hs,wk,h,nx,(nx.length:Int),(i:Int),())) 1 (aH jB (false,()))∨
 ∃ mh wo,nu qp (aH jA (f,ss,fs,cs,hs,wk,h,nx,(nx.length:Int),(i:Int),())) 0 (aH kA (f,ss,fs,cs,mh,wo,()))/\Gr hs wk mh wo h/\ ∀ y,y∈r-> ∃ j:Nat,y=(j:Int)/\j<cs.length/\mh.getD j 0=h
 | [],i,hs,wk,hd,hi,_,_=>by
  have h1:=List.drop_eq_nil_iff.1 hd
  refine .inr ⟨hs,wk,.last ((KO f ss fs cs hs wk h nx (nx.length:Int) (i:Int)).trans ?_),.refl _ _ _,fun y hy=>by cases hy⟩
  rw[mB h1]
  rfl
 |v::r,i,hs,wk,hd,hi,hl,hw=>by
  obtain⟨h1,h2⟩:=AQ hd 0
  obtain⟨j,rfl⟩:=GA v (by
   have:v∈nx.drop i:=by rw[hd];exact List.mem_cons_self
   exact List.mem_of_mem_drop this)
  have e:=KO f ss fs cs hs wk h nx (nx.length:Int) (i:Int)
  rw[pC h1,show bF (i:Int) (nx.length:Int)=true from cZ h1,Int.toNat_natCast,show nx.getD i (aE i64)=(j:Int)from h2,uj (by omega),cond_true,db rfl]at e
  by_cases hj:cs.length<=j
  ·rw[dt (show(cs.length:Int)<=(j:Int) by omega),cond_true]at e
   exact .inl (.last e)
  ·have Fg:j<hs.length:=by omega
   rw[df (show ¬ (cs.length:Int)<=(j:Int) by omega),cond_false,show bF (j:Int) (hs.length:Int)=true from cZ Fg,db rfl,Int.toNat_natCast]at e
   by_cases hm:hs.getD j 0= -1
   ·have hc:=count_set Fg hm hh
    rw[dt (show hs.getD j (aE i64)= -1 from hm),cond_true,db rfl,show roomy 8 (wk.length+[(j:Int)].length)=true from pD (by decide) (by show wk.length+1<=_;omega),db rfl,dn]at e
    rcases KS f ss fs cs h hh nx hnl GA fF r (i+1) (hs.set j h) (wk++[(j:Int)]) (RD hd) h1 (by rw[List.length_set];exact hl) (by rw[List.length_append];show wk.length+1+_<=_;omega)with q|⟨mh,wo,q1,q2,q3⟩
    ·exact .inl (.more e q)
    ·refine .inr ⟨mh,wo,.more e q1,q2.step Fg hm hh,fun y hy=>?_⟩
     rcases List.mem_cons.1 hy with q|q
     ·refine⟨j,q,by omega,?_⟩
      have:=q2.keep j (by rw[List.length_set];exact Fg) (by rw[gX _ _ _ _ Fg,if_pos rfl];exact hh)
      rw[this,gX _ _ _ _ Fg,if_pos rfl]
     ·exact q3 y q
   ·rw[df (show ¬ hs.getD j (aE i64)= -1 from hm),cond_false,db rfl]at e
    by_cases hq:hs.getD j 0=h
    ·rw[dt (show hs.getD j (aE i64)=h from hq),Bool.not_true,cond_false]at e
     rcases KS f ss fs cs h hh nx hnl GA fF r (i+1) hs wk (RD hd) h1 hl hw with q|⟨mh,wo,q1,q2,q3⟩
     ·exact .inl (.more e q)
     ·refine .inr ⟨mh,wo,.more e q1,q2,fun y hy=>?_⟩
      rcases List.mem_cons.1 hy with q|q
      ·exact⟨j,q,by omega,(q2.keep j Fg hm).trans hq⟩
      ·exact q3 y q
    ·rw[df (show ¬ hs.getD j (aE i64)=h from hq),Bool.not_false,cond_true]at e
     exact .inl (.last e)
end Go.Proofs.Vq

noncomputable section
namespace Go.Proofs.Vq
open Go.Ab Go.Ab.Lf
set_option maxRecDepth 100000
def Dn(cs:List (den bE))(t g:Nat->Nat)(nx:Nat->List Int)(hs:List Int)(k:Nat):Prop:=(t k:Int)<=hs.getD k 0/\ ∀ y,y∈nx k-> ∃ j:Nat,y=(j:Int)/\j<cs.length/\hs.getD j 0=hs.getD k 0 - (t k:Int)+(g k:Int)
structure Wk(cs:List (den bE))(t g:Nat->Nat)(nx:Nat->List Int)(hs wk:List Int):Prop where
 l:hs.length=cs.length
 w: ∀ y,y∈wk-> ∃ j:Nat,y=(j:Int)/\j<cs.length/\hs.getD j 0≠ -1
 b: ∀ j,j<cs.length->hs.getD j 0≠ -1->0<=hs.getD j 0/\hs.getD j 0<=1048576*((cs.length:Int) - (hs.count (-1):Int))
 d: ∀ k,k<cs.length->hs.getD k 0≠ -1->(k:Int)∈wk∨Dn cs t g nx hs k
theorem Wk.next{cs:List (den bE)}{t g:Nat->Nat}{nx:Nat->List Int}{hs s:List Int}{k:Nat}(hk:k<cs.length)(W:Wk cs t g nx hs (s++[(k:Int)]))(hn:hs.getD k 0≠ -1)(ht:(t k:Int)<=hs.getD k 0)(hg:g k<=1048576){mh wo:List Int}(G:Gr hs s mh wo (hs.getD k 0 - (t k:Int)+(g k:Int)))
 (ha: ∀ y,y∈nx k-> ∃ j:Nat,y=(j:Int)/\j<cs.length/\mh.getD j 0=hs.getD k 0 - (t k:Int)+(g k:Int)):Wk cs t g nx mh wo:=by
 obtain⟨l,w,b,d⟩:=W
 obtain⟨g1,g2,⟨nw,g3,g4,g5⟩,g6⟩:=G
 have hb:=b k hk hn
 have keep: ∀ j,j<cs.length->hs.getD j 0≠ -1->mh.getD j 0=hs.getD j 0:=fun j hj q=>g2 j (by omega) q
 have hh:0<=hs.getD k 0 - (t k:Int)+(g k:Int):=by omega
 refine⟨g1.trans l,fun y hy=>?_,fun j hj q=>?_,fun j hj q=>?_⟩
 ·rw[g3]at hy
  rcases List.mem_append.1 hy with z|z
  ·obtain⟨j,e1,e2,e3⟩:=w y (List.mem_append_left _ z)
   exact⟨j,e1,e2,by rw[keep j e2 e3];exact e3⟩
  ·obtain⟨j,e1,e2,e3⟩:=g4 y z
   exact⟨j,e1,by omega,e3⟩
 ·rcases g6 j (by omega) q with z|⟨z1,z2⟩
  ·have:=b j hj z
   rw[keep j hj z]
   refine⟨this.1,Int.le_trans this.2 ?_⟩
   have:(mh.count (-1):Int)<=(hs.count (-1):Int):=by omega
   omega
  ·rw[z2]
   refine⟨hh,?_⟩
   by_cases KT:hs.getD j 0= -1
   ·have mW:1<=nw.length:=by
     rw[g3]at z1
     rcases List.mem_append.1 z1 with z|z
     ·obtain⟨j',e1,e2,e3⟩:=w _ (List.mem_append_left _ z)
      have:j'=j:=by omega
      subst this
      exact absurd KT e3
     ·exact List.length_pos_of_mem z
    omega
   ·have h1:=keep j hj KT
    have h2:=b j hj KT
    rw[<-z2,h1]
    omega
 ·rcases g6 j (by omega) q with z|⟨z1,z2⟩
  ·rcases d j hj z with y|⟨y1,y2⟩
   ·rcases List.mem_append.1 y with y|y
    ·exact .inl (by rw[g3];exact List.mem_append_left _ y)
    ·have hjk:j=k:=by
      have:(j:Int)=(k:Int):=by simpa using y
      omega
     subst hjk
     refine .inr ⟨by rw[keep j hj z];exact ht,fun y hy=>?_⟩
     rw[keep j hj z]
     exact ha y hy
   ·refine .inr ⟨by rw[keep j hj z];exact y1,fun y hy=>?_⟩
    rw[keep j hj z]
    obtain⟨i,e1,e2,e3⟩:=y2 y hy
    have yc:=b j hj z
    refine⟨i,e1,e2,?_⟩
    rw[keep i e2 (by rw[e3];omega)]
    exact e3
  ·exact .inl z1
end Go.Proofs.Vq

noncomputable section
namespace Go.Proofs.Vq
open Go.Ab Go.Ab.Lf
set_option maxRecDepth 100000
theorem agP{a:Int}{t g:Nat}(h0:0<=a)(h1:a<=1125899906842624)(ht:(t:Int)<=a)(hg:g<=1048576):bL .i64 (aV .i64 a (t:Int)) (g:Int)=a - (t:Int)+(g:Int):=by
 have e1:aV .i64 a (t:Int)=a - (t:Int):=wrap_i64 (by omega) (by omega)
 rw[e1]
 clear e1
 exact wrap_i64 (by omega) (by omega)
theorem aa1{c c' s w m M:Nat}(h1:c'+w=c)(h2:M=2*c+(s+1))(h3:m=2*c'+(s+w)):m<M:=by omega
theorem aa2(f:Nat)(ss:List (den bz))(fs:List (den cr))(cs:List (den bE))(fF:cs.length<=1000000000)(t g:Nat->Nat)(nx:Nat->List Int)(hg: ∀ k,k<cs.length->g k<=1048576)
 (HE: ∀ k,k<cs.length->Gt (ss,fs,(f:Int),(cs.getD k (aE bE)).1,(cs.getD k (aE bE)).2.1,(cs.getD k (aE bE)).2.2,())=true/\Gu (ss,fs,(f:Int),(cs.getD k (aE bE)).1,(cs.getD k (aE bE)).2.1,(cs.getD k (aE bE)).2.2,())=((t k:Int),(g k:Int),()))
 (HN: ∀ k,k<cs.length->k86 (cs,(k:Int),())=true/\m86 (cs,(k:Int),())=(nx k,())/\(nx k).length<=1099511627776/\ ∀ y,y∈nx k-> ∃ j:Nat,y=(j:Int)): ∀ (M:Nat) (hs wk:List Int),M=2*hs.count (-1)+wk.length->wk.length+hs.count (-1)<=1048576000000->Wk cs t g nx hs wk->
 nu qt (aH jZ ((f:Int),ss,fs,cs,hs,wk,())) 1 (aH jC (false,()))∨ ∃ mh,nu qt (aH jZ ((f:Int),ss,fs,cs,hs,wk,())) 0 (aH kB (mh,()))/\Wk cs t g nx mh []/\ ∀ k,k<cs.length->hs.getD k 0≠ -1->mh.getD k 0=hs.getD k 0:=by
 intro M
 induction M using Nat.strongRecOn with
 | _ M ih=>
 intro hs wk hM hw W
 by_cases h0:wk=[]
 ·subst h0
  refine .inr ⟨hs,.last ((KP (f:Int) ss fs cs hs [] _ rfl _ rfl _ rfl _ rfl _ rfl _ rfl).trans ?_),W,fun _ _ _=>rfl⟩
  rw[df (show ¬ (0:Int)<Int.ofNat (List.length ([]:List Int)) by decide),cond_false]
 obtain⟨s,y,RT⟩:=nB (l:=wk) (by have:=List.length_pos_iff.2 h0;omega)
 obtain⟨k,rfl,hk,hn⟩:=W.w y (by rw[RT];simp)
 have dV:wk.length=s.length+1:=by rw[RT,List.length_append];rfl
 obtain⟨a1,a2⟩:=HE k hk
 obtain⟨b1,b2,b3,b4⟩:=HN k hk
 have hb:=W.b k hk hn
 have alQ:hs.count (-1)<=hs.length:=List.count_le_length
 have hle:=W.l
 have Ve:hs.getD k 0<=1125899906842624:=by omega
 have hkl:k<hs.length:=by omega
 have e:=KP (f:Int) ss fs cs hs wk (k:Int) (j9 RT (by omega)).symm s (lG RT (by omega)).symm (cs.getD k (aE bE)) (by rw[Int.toNat_natCast]) ((t k:Int),(g k:Int),()) a2.symm (nx k) (by rw[b2])
  ((f:Int),ss,fs,cs,hs,s,bL .i64 (aV .i64 (hs.getD k 0) (t k:Int)) (g k:Int),nx k,((nx k).length:Int),0,()) (by rw[Int.toNat_natCast];rfl)
 have Fk:(0:Int)<Int.ofNat (List.length wk):=by
  show(0:Int)<((List.length wk:Nat):Int)
  omega
 rw[dt Fk,cond_true,gh _ RT (by omega),show bF (k:Int) (cs.length:Int)=true from cZ hk,db rfl,a1,db rfl,show bF (k:Int) (hs.length:Int)=true from cZ hkl,db rfl,b1,Int.toNat_natCast]at e
 by_cases ht:hs.getD k 0<(t k:Int)
 ·rw[dt (show(hs.getD k (aE i64):Int)<(t k:Int)from ht),cond_true]at e
  exact .inl (.last e)
 have ht':(t k:Int)<=hs.getD k 0:=by omega
 rw[df (show ¬ (hs.getD k (aE i64):Int)<(t k:Int)from ht),cond_false,db rfl,db rfl,agP hb.1 Ve ht' (hg k hk)]at e
 have hh:hs.getD k 0 - (t k:Int)+(g k:Int)≠ -1:=by omega
 rcases KS (f:Int) ss fs cs (hs.getD k 0 - (t k:Int)+(g k:Int)) hh (nx k) b3 b4 fF (nx k) 0 hs s rfl (Nat.zero_le _) hle (by omega)with q|⟨mh,wo,q1,q2,q3⟩
 ·obtain⟨p1,p2,p3⟩:=nX (f:=qp) (ti:=jA) (t0:=kA) (t1:=jB) (y:=(false,())) (x:=((f:Int),ss,fs,cs,hs,s,hs.getD k 0 - (t k:Int)+(g k:Int),nx k,((nx k).length:Int),0,())) q
  rw[p1,p2,p3,db rfl,cond_false]at e
  exact .inl (.last e)
 ·obtain⟨p1,p2,p3⟩:=nW (f:=qp) (ti:=jA) (t0:=kA) (t1:=jB) (y:=((f:Int),ss,fs,cs,mh,wo,())) (x:=((f:Int),ss,fs,cs,hs,s,hs.getD k 0 - (t k:Int)+(g k:Int),nx k,((nx k).length:Int),0,())) q1
  rw[p1,p2,p3,db rfl,cond_true]at e
  obtain⟨nw,z1,z2,z3⟩:=q2.pre
  have hwl:wo.length=s.length+nw.length:=by rw[z1,List.length_append]
  rw[RT]at W
  have W':=Wk.next hk W hn ht' (hg k hk) q2 q3
  rcases ih (2*mh.count (-1)+wo.length) (aa1 z3 (hM.trans (by rw[dV])) (by rw[hwl])) mh wo rfl (by omega) W' with r|⟨hs2,r1,r2,r3⟩
  ·exact .inl (.more e r)
  ·refine .inr ⟨hs2,.more e r1,r2,fun j hj hjn=>?_⟩
   have h5:=q2.keep j (by omega) hjn
   rw[r3 j hj (by rw[h5];exact hjn),h5]
end Go.Proofs.Vq

noncomputable section
namespace Go.Proofs.Vq
open Go.Ab Go.Ab.Lf
set_option maxRecDepth 100000
theorem KU(n j:Nat)(hj:j<n):(List.replicate j (-1:Int)++List.replicate (n - j) 0).set j (-1)=List.replicate (j+1) (-1:Int)++List.replicate (n - (j+1)) 0:=by
 obtain⟨m,hm⟩: ∃ m,n - j=m+1:=⟨n - j - 1,by omega⟩
 rw[hm,List.replicate_succ,List.set_append_right _ _ (by simp),List.length_replicate,Nat.sub_self,List.set_cons_zero,List.replicate_succ',List.append_assoc,show n - (j+1)=m by omega]
 rfl
theorem aa3(f:Int)(ss:List (den bz))(fs:List (den cr))(cs:List (den bE))(n:Nat)(hn:n<=1099511627776):nu tL (aH jY (f,ss,fs,cs,List.replicate n 0,(n:Int),((0:Nat):Int),())) 0 (aH jz (f,ss,fs,cs,List.replicate n (-1),())):=by
 have h0:List.replicate n (0:Int)=List.replicate 0 (-1:Int)++List.replicate (n - 0) 0:=by simp
 have h1:List.replicate n (-1:Int)=List.replicate n (-1:Int)++List.replicate (n - n) 0:=by simp
 rw[h0,h1]
 refine wh n (fun j=>aH jY (f,ss,fs,cs,List.replicate j (-1:Int)++List.replicate (n - j) 0,(n:Int),(j:Int),())) _ (fun j hj=>?_) ?_
 ·obtain⟨L,hL⟩: ∃ L:List Int,L=List.replicate j (-1:Int)++List.replicate (n - j) 0:=⟨_,rfl⟩
  have hl:L.length=n:=by rw[hL,List.length_append,List.length_replicate,List.length_replicate];omega
  have hs:L.set j (-1)=List.replicate (j+1) (-1:Int)++List.replicate (n - (j+1)) 0:=by rw[hL];exact KU n j hj
  show(tL (aH jY (f,ss,fs,cs,List.replicate j (-1:Int)++List.replicate (n - j) 0,(n:Int),(j:Int),()))).val=some (.next (aH jY (f,ss,fs,cs,List.replicate (j+1) (-1:Int)++List.replicate (n - (j+1)) 0,(n:Int),((j+1:Nat):Int),())))
  rw[<-hL,<-hs]
  refine(KM f ss fs cs L (n:Int) (j:Int)).trans ?_
  rw[dt (show(j:Int)<(n:Int) by omega),show bF (j:Int) (L.length:Int)=true from cZ (by omega),Int.toNat_natCast,uj (by omega)]
  rfl
 ·refine(KM f ss fs cs _ (n:Int) (n:Int)).trans ?_
  rw[df (show ¬ (n:Int)<(n:Int) by omega)]
  rfl
theorem Wk.init(cs:List (den bE))(t g:Nat->Nat)(nx:Nat->List Int)(h0:0<cs.length):Wk cs t g nx ((List.replicate cs.length (-1)).set 0 0) [0]:=by
 have hz: ∀ j,j<cs.length->((List.replicate cs.length (-1:Int)).set 0 0).getD j 0=if 0=j then 0 else -1:=fun j hj=>by
  rw[gX _ _ _ _ (by rw[List.length_replicate];exact h0)]
  by_cases KT:0=j
  ·rw[if_pos KT,if_pos KT]
  ·rw[if_neg KT,if_neg KT,List.getD_eq_getElem?_getD,List.getElem?_replicate,if_pos hj];rfl
 have hc:=count_set (l:=List.replicate cs.length (-1:Int)) (a:=0) (v:=0) (by rw[List.length_replicate];exact h0) (by rw[List.getD_eq_getElem?_getD,List.getElem?_replicate,if_pos h0];rfl) (by decide)
 rw[List.count_replicate_self]at hc
 refine⟨by rw[List.length_set,List.length_replicate],fun y hy=>⟨0,by simpa using hy,h0,by rw[hz 0 h0];decide⟩,fun j hj q=>?_,fun k hk q=>?_⟩
 ·rw[hz j hj]at q ⊢
  by_cases KT:0=j
  ·rw[if_pos KT]
   exact⟨Int.le_refl _,by omega⟩
  ·rw[if_neg KT]at q;exact absurd rfl q
 ·rw[hz k hk]at q
  by_cases QK:0=k
  ·subst QK;exact .inl (by simp)
  ·rw[if_neg QK]at q;exact absurd rfl q
end Go.Proofs.Vq

noncomputable section
namespace Go.Proofs.Vq
open Go.Ab Go.Ab.Lf
set_option maxRecDepth 100000
theorem c35(ss:List (den bz))(fs:List (den cr))(hk:Wv (ss,fs,())=true)(hm:(Rb (ss,fs,())).1=0)(f:Nat)(hf:f<fs.length)(cs:List (den bE))(gu:cs=(fs.getD f (aE cr)).2.2.2.2.2.1)(h0:0<cs.length)(fF:cs.length<=1000000000)(t g:Nat->Nat)(nx:Nat->List Int)(hg: ∀ k,k<cs.length->g k<=1048576)
 (HE: ∀ k,k<cs.length->Gt (ss,fs,(f:Int),(cs.getD k (aE bE)).1,(cs.getD k (aE bE)).2.1,(cs.getD k (aE bE)).2.2,())=true/\Gu (ss,fs,(f:Int),(cs.getD k (aE bE)).1,(cs.getD k (aE bE)).2.1,(cs.getD k (aE bE)).2.2,())=((t k:Int),(g k:Int),()))
 (HN: ∀ k,k<cs.length->k86 (cs,(k:Int),())=true/\m86 (cs,(k:Int),())=(nx k,())/\(nx k).length<=1099511627776/\ ∀ y,y∈nx k-> ∃ j:Nat,y=(j:Int)):
 k35 (ss,fs,(f:Int),())=true/\(WB (ss,fs,(f:Int),())=([],false,())∨ ∃ hs,WB (ss,fs,(f:Int),())=(hs,true,())/\Wk cs t g nx hs []/\hs.getD 0 0=0):=by
 obtain⟨q1,q2⟩:=xJ (f:=tL) (ti:=jY) (to:=jz) (aa3 (f:Int) ss fs cs cs.length (by omega))
 obtain⟨h1,WA⟩: ∃ h1,h1=(List.replicate cs.length (-1:Int)).set 0 0:=⟨_,rfl⟩
 have W:=Wk.init cs t g nx h0
 rw[<-WA]at W
 have hl:=W.l
 have hcn:h1.count (-1)<=h1.length:=List.count_le_length
 have V7:h1.getD 0 0=0:=by rw[WA,gX _ _ _ _ (by rw[List.length_replicate];exact h0),if_pos rfl]
 have e:=agD ss fs (f:Int) cs (by rw[Int.toNat_natCast];exact gu) (List.replicate cs.length 0) rfl ((f:Int),ss,fs,cs,List.replicate cs.length 0,(cs.length:Int),0,()) (by show _=((f:Int),ss,fs,cs,List.replicate cs.length 0,((List.length (List.replicate cs.length (0:Int)):Nat):Int),0,());rw[List.length_replicate]) ((f:Int),ss,fs,cs,List.replicate cs.length (-1),()) q2.symm ((f:Int),ss,fs,cs,h1,[0],()) (by rw[WA];rfl)
 have c1:(decide (0<=Int.ofNat (List.length cs))&&decide (Int.ofNat (List.length cs)<=Int.ofNat (List.length cs))&&decide ((Int.ofNat (List.length cs)).toNat*8<=70368744177664))=true:=by
  have:(Int.ofNat (List.length cs)).toNat=List.length cs:=rfl
  rw[this]
  simp
  omega
 have c2:decide (Int.ofNat (List.length cs)=0)=false:=df (by show ¬ ((List.length cs:Nat):Int)=0;omega)
 have c3:bF 0 (Int.ofNat (List.length (List.replicate cs.length (-1:Int))))=true:=cZ (j:=0) (by rw[List.length_replicate];exact h0)
 dsimp only at e
 rw[hk,dt hm,df (show ¬ (f:Int)<0 by omega),df (show ¬ (fs.length:Int)<=(f:Int) by omega),show bF (f:Int) (fs.length:Int)=true from cZ hf,c2,c1,show zy tL jY jz ((f:Int),ss,fs,cs,List.replicate cs.length 0,(cs.length:Int),0,())=true from q1,show bF 0 (Int.ofNat (List.length (List.replicate cs.length (-1:Int))))=true from c3]at e
 simp only[Bool.not_true,cond_false]at e
 rw[db rfl,db rfl,db rfl,db rfl,db rfl,db rfl]at e
 rcases aa2 f ss fs cs fF t g nx hg HE HN _ h1 [0] rfl (by show 1+_<=_;omega) W with r|⟨hs,r,W2,aa4⟩
 ·obtain⟨p1,p2,p3⟩:=nX (f:=qt) (ti:=jZ) (t0:=kB) (t1:=jC) (y:=(false,())) (x:=((f:Int),ss,fs,cs,h1,[0],())) r
  rw[p1,p2,p3,db rfl,cond_false]at e
  obtain⟨a1,a2⟩:=cg (ai _) (ai _) (k:=k35 (ss,fs,(f:Int),())) (m:=WB (ss,fs,(f:Int),())) (y:=([],false,())) e
  exact⟨a1,.inl a2⟩
 ·obtain⟨p1,p2,p3⟩:=nW (f:=qt) (ti:=jZ) (t0:=kB) (t1:=jC) (y:=(hs,())) (x:=((f:Int),ss,fs,cs,h1,[0],())) r
  rw[p1,p2,p3,db rfl,cond_true]at e
  obtain⟨a1,a2⟩:=cg (ai _) (ai _) (k:=k35 (ss,fs,(f:Int),())) (m:=WB (ss,fs,(f:Int),())) (y:=(hs,true,())) e
  exact⟨a1,.inr ⟨hs,a2,W2,(aa4 0 h0 (by rw[V7];decide)).trans V7⟩⟩
end Go.Proofs.Vq

noncomputable section
namespace Go.Proofs.Vq
open Go.Ab Go.Ab.Lf
set_option maxRecDepth 100000
def WC(n:Nat)(hs:List Int)(k:Nat):Option Nat:=bif decide (k<n)&& !decide (hs.getD k 0= -1)then some (hs.getD k 0).toNat else none
theorem Bo{n:Nat}{hs:List Int}{k v:Nat}(h:WC n hs k=some v):k<n/\hs.getD k 0≠ -1/\v=(hs.getD k 0).toNat:=by
 unfold WC at h
 by_cases h1:k<n
 ·by_cases h2:hs.getD k 0= -1
  ·rw[dt h1,dt h2]at h;cases h
  ·rw[dt h1,df h2]at h
   have h:some (hs.getD k 0).toNat=some v:=h
   injection h with h
   exact⟨h1,h2,h.symm⟩
 ·rw[df h1]at h;cases h
theorem KV{n:Nat}{hs:List Int}{k:Nat}(h1:k<n)(h2:hs.getD k 0≠ -1):WC n hs k=some (hs.getD k 0).toNat:=by
 unfold WC
 rw[dt h1,df h2]
 rfl
theorem Vf{fns:List (den cr)}{fn:den cr}{nl ns:Nat}{t g:Nat->Nat}{nx:Nat->List Int}{hs:List Int}(W:Wk fn.2.2.2.2.2.1 t g nx hs [])(hz:hs.getD 0 0=0)(h0:0<fn.2.2.2.2.2.1.length)(hle: ∀ j,j<fn.2.2.2.2.2.1.length->hs.getD j 0<=1048576)
 (HEf: ∀ k,k<fn.2.2.2.2.2.1.length->BM fns fn nl ns (fn.2.2.2.2.2.1.getD k (aE bE)) (t k) (g k))(HS: ∀ k,k<fn.2.2.2.2.2.1.length-> ∀ to,RI k (fn.2.2.2.2.2.1.getD k (aE bE)) to->((to:Nat):Int)∈nx k):Hts fns fn nl ns (WC fn.2.2.2.2.2.1.length hs):=by
 refine⟨?_,fun k v h=>?_,fun k v h=>?_⟩
 ·rw[KV h0 (by rw[hz];decide),hz];rfl
 ·obtain⟨h1,h2,h3⟩:=Bo h
  have:=hle k h1
  exact⟨by omega,h1⟩
 ·obtain⟨h1,h2,h3⟩:=Bo h
  have hb:=(W.b k h1 h2).1
  rcases W.d k h1 h2 with q|⟨d1,d2⟩
  ·cases q
  refine⟨t k,g k,HEf k h1,by omega,fun to mh=>?_⟩
  obtain⟨j,e1,e2,e3⟩:=d2 _ (HS k h1 to mh)
  have hj:to=j:=by omega
  subst hj
  rw[KV e2 (by rw[e3];omega),e3,h3]
  congr 1
  omega
end Go.Proofs.Vq

noncomputable section
namespace Go.Proofs.Vq
open Go.Ab Go.Ab.Lf
set_option maxRecDepth 100000
abbrev nC:List Ty:=[.aC bz,.aC cr,i64,.aC u64,i64,i64,.aC i64,i64]
abbrev lH:List Ty:=[.aC bz,.aC cr,i64,.aC u64,i64,i64]
abbrev mG:List Ty:=[.bool]
def P2:ta:=⟨2,qM Tryz.x7.code 2,[2,3,5,6,8],(Ps [.pt 0 (Ps [.im bz,.im cr]),.pt 0 (Ps [.n .i64,.im u64,.n .i64]),.n .i64,.ow i64,.n .i64]),[⟨.xG,[2,3,5],(Ps [.pt 0 (Ps [.im bz,.im cr]),.pt 0 (Ps [.n .i64,.im u64,.n .i64]),.n .i64])⟩,⟨.rt,[4],(Ps [.bo])⟩]⟩
def aa5:List (Nat×ey):=[]
theorem P3{aR:bb}(W:WQ aR):eJ aR aa5:=.nil
def wX:List Pl->Lf.T Rs:=P2.step (fun _=>none) (lE aa5 3) 3
def aa6:i7:=wT P2 wX nC lH mG
theorem P4{aR:bb}(W:WQ aR):kj Rx.w aa6 (fun n d=>kM (aR n d) n (.bl 2 (.lp P2.body))):=lC (W.in (P3 W) 3) (bU _) (m:=3) nC lH mG
abbrev nD:List Ty:=[.aC bz,.aC cr,i64,.aC u64,i64,i64,i64]
abbrev lI:List Ty:=[.aC bz,.aC cr,i64,.aC u64,i64,i64]
abbrev mH:List Ty:=[.bool]
def P5:ta:=⟨4,qM Tryz.x7.code 4,[2,3,5,9],(Ps [.pt 0 (Ps [.im bz,.im cr]),.pt 0 (Ps [.n .i64,.im u64,.n .i64]),.n .i64,.n .i64]),[⟨.xG,[2,3,5],(Ps [.pt 0 (Ps [.im bz,.im cr]),.pt 0 (Ps [.n .i64,.im u64,.n .i64]),.n .i64])⟩,⟨.rt,[4],(Ps [.bo])⟩]⟩
def aa7:List (Nat×ey):=[]
theorem P6{aR:bb}(W:WQ aR):eJ aR aa7:=.nil
def wY:List Pl->Lf.T Rs:=P5.step (fun _=>none) (lE aa7 3) 3
def aa8:i7:=wT P5 wY nD lI mH
theorem P7{aR:bb}(W:WQ aR):kj Rx.w aa8 (fun n d=>kM (aR n d) n (.bl 4 (.lp P5.body))):=lC (W.in (P6 W) 3) (bU _) (m:=3) nD lI mH
def L7i:Nat->Option i7:=Gh [(2,aa6),(4,aa8)]
abbrev kV:List Ty:=[.aC bz,.aC cr,i64,.aC u64,i64,i64]
abbrev lJ:List Ty:=[.aC bz,.aC cr,i64,.aC u64,i64]
abbrev iL:List Ty:=[.bool]
def P8:ta:=⟨0,qM Tryz.x7.code 0,[2,3,5],(Ps [.pt 0 (Ps [.im bz,.im cr]),.pt 0 (Ps [.n .i64,.im u64,.n .i64]),.n .i64]),[⟨.xG,[2,3],(Ps [.pt 0 (Ps [.im bz,.im cr]),.pt 0 (Ps [.n .i64,.im u64,.n .i64])])⟩,⟨.rt,[4],(Ps [.bo])⟩]⟩
def aa9:List (Nat×ey):=[(35,s35)]
theorem P9{aR:bb}(W:WQ aR):eJ aR aa9:=(.cons (U6 W) .nil)
def uo:List Pl->Lf.T Rs:=P8.step L7i (lE aa9 3) 3
def aa':i7:=wT P8 uo kV lJ iL
theorem P'{aR:bb}(W:WQ aR):kj Rx.w aa' (fun n d=>kM (aR n d) n (.bl 0 (.lp P8.body))):=lC (W.in (P9 W) 3) (p8.qK (.cons (b:=P2.body) (by kernel_rfl) (P4 W) (.cons (b:=P5.body) (by kernel_rfl) (P7 W) .nil))) (m:=3) kV lJ iL
def L7:Nat->Option i7:=Gh [(0,aa')]
abbrev RW:List Ty:=[.aC bz,.aC cr,i64,.aC u64,i64]
abbrev GO:List Ty:=[.bool]
def e7(g:Cg):List (Nat×ey):=[(10,s10),(34,s34),(17,s17),(18,s18),(22,s22),(23,s23 g)]
theorem aba{g:Cg}{aR:bb}(W:WL aR)(hg:(sG g).Ok 73 aR):eJ aR (e7 g):=(.cons W.aw (.cons (CW W.toWQ) (.cons (UD W.toWQ) (.cons (UE W.toWQ W.chk) (.cons (UI W.toWQ) (.cons (UB W.toWQ hg) .nil))))))
def t7(g:Cg)(x:aG RW):Lf.T (List Pl):=mg (Ps [.ag (Ps [.im bz,.im cr]),.ag (Ps [.n .i64,.im u64,.n .i64])]) [] (Ps [.bo]) L7 Tryz.x7 3 (lE (e7 g) 3) (aH RW x)
def k7(g:Cg)(x:aG RW):Bool:=cT (fy GO (t7 g x))
def m7(g:Cg)(x:aG RW):aG GO:=cT (ej GO (t7 g x))
def s7(g:Cg):ey:=j7 (Ps [.ag (Ps [.im bz,.im cr]),.ag (Ps [.n .i64,.im u64,.n .i64])]) [] (Ps [.bo]) RW GO fun x=>.ck (k7 g x) (.ok (m7 g x))
theorem abb{g:Cg}{aR:bb}(W:WL aR)(hg:(sG g).Ok 73 aR):(s7 g).Ok 7 aR:=
 dq (W.toWQ.in (aba W hg) 3) (W.toWQ.st 7 _ rfl) rfl (p8.qK (.cons (b:=P8.body) (by kernel_rfl) (P' W.toWQ) .nil)) (m:=3) rfl (fun _=>ai _) (fun _=>ai _)
end Go.Proofs.Vq

noncomputable section
namespace Go.Proofs.Vq
open Go.Ab Go.Ab.Lf
set_option maxRecDepth 100000
theorem Vg(ss:List (den bz))(fs:List (den cr))(f:Nat)(n:Int)(k:Nat)(hk:k<ss.length)(hi:(ss.getD k (aE bz)).1.length<=1048576):Gt (ss,fs,(f:Int),17,(k:Int),n,())=true/\Gu (ss,fs,(f:Int),17,(k:Int),n,())=((((ss.getD k (aE bz)).1.length+1:Nat):Int),(((ss.getD k (aE bz)).2.length:Nat):Int),()):=by
 have e1:bL .i64 1 ((ss.getD k (aE bz)).1.length:Int)=(((ss.getD k (aE bz)).1.length+1:Nat):Int):=(wrap_i64 (by omega) (by omega)).trans (by omega)
 refine cg (ai _) (ai _) ?_
 refine(KL ss fs (f:Int) 17 (k:Int) n).trans ?_
 rw[Int.toNat_natCast k,e1]
 clear e1
 rw[df (show ¬ (17:Int)=15 by decide),df (show ¬ (17:Int)=16 by decide),dt (rfl:(17:Int)=17),dt (show(0:Int)<=(k:Int) by omega),dt (show(k:Int)<(ss.length:Int) by omega),show bF (k:Int) (ss.length:Int)=true from cZ hk]
 rfl
theorem abc{nl ns t g:Nat}{c:den bE}(h:wW nl ns c t g):g<=1048576:=by
 cases h<;>first|assumption|decide
theorem abd{fns:List (den cr)}{fn:den cr}{nl ns t g:Nat}{c:den bE}(h:BM fns fn nl ns c t g):g<=1048576:=by
 cases h with
 |pl _ _ h=>exact abc h
 |call _ _ _ h=>exact h
 | _=>decide
theorem KW{ss:List (den bz)}{fs:List (den cr)}{f k i l ns out:Nat}{fn:den cr}(qN:fn=fs.getD f (aE cr))(hf:f<fs.length)(ho:fn.2.2.2.1=(out:Int))(hil:i+l<=1099511627776)(sR: ∀ j,j<fs.length-> ∃ i' o':Nat,(fs.getD j (aE cr)).2.2.1=(i':Int)/\(fs.getD j (aE cr)).2.2.2.1=(o':Int)/\o'<=1048576)
 (Q0: ∀ j,j<ss.length->(ss.getD j (aE bz)).1.length<=1048576/\(ss.getD j (aE bz)).2.length<=1048576)(c:den bE)
 (gg:rW ss.length fs.length (i:Int) (l:Int) fn.2.2.2.2.2.1.length (k:Int) c=true)(hnc:fn.2.2.2.2.2.1.length<=1099511600000)(hk:k<fn.2.2.2.2.2.1.length)(hU:U c.2.2):
 Gt (ss,fs,(f:Int),c.1,c.2.1,c.2.2,())=true/\ ∃ t g:Nat,Gu (ss,fs,(f:Int),c.1,c.2.1,c.2.2,())=((t:Int),(g:Int),())/\g<=1048576/\(¬ (c.1:Int)=17->((c.1:Int)=35∨(c.1:Int)=36->(c.2.1:Int)<(ns:Int))->BM fs fn (i+l) ns c t g):=by
 obtain⟨op,a,n⟩:=c
 by_cases GN:op=17
 ·subst GN
  have h:=gg
  unfold rW at h
  have h:(bif decide (0<=a)then decide (a<(ss.length:Int))else false)=true:=h
  obtain⟨A,rfl,hA⟩:=wt h
  have hs:=Q0 A (by omega)
  obtain⟨r1,r2⟩:=Vg ss fs f n A (by omega) hs.1
  exact⟨r1,_,_,r2,hs.2,fun h=>absurd rfl h⟩
 obtain⟨r1,t,g,r2,r3⟩:=Bn (ns:=a.toNat+1) qN hf ho hil sR gg hnc hk GN (fun _=>by omega) hU
 refine⟨r1,t,g,r2,abd r3,fun _ hs=>?_⟩
 obtain⟨_,t',g',q2,q3⟩:=Bn (ns:=ns) qN hf ho hil sR gg hnc hk GN hs hU
 have e:(((t':Int),(g':Int),()):aG tp)=((t:Int),(g:Int),()):=q2.symm.trans r2
 have e1:(t':Int)=(t:Int):=congrArg (fun z:aG tp=>z.1) e
 have e2:(g':Int)=(g:Int):=congrArg (fun z:aG tp=>z.2.1) e
 obtain rfl:t'=t:=by omega
 obtain rfl:g'=g:=by omega
 exact q3
end Go.Proofs.Vq

noncomputable section
namespace Go.Proofs.Vq
open Go.Ab Go.Ab.Lf
set_option maxRecDepth 100000
theorem EA{k:Nat}(hk:k<=1099511600000): ∀ n:Nat,n<=1099511600001-> ∀ y,y∈BN (k:Int) n-> ∃ j:Nat,y=(j:Int)
 |0,_,y,h=>by cases h
 |n+1,hn,y,h=>by
  have h:y∈BN (k:Int) n++[bL .i64 (bL .i64 (k:Int) 1) (n:Int)]:=h
  rcases List.mem_append.1 h with q|q
  ·exact EA hk n (by omega) y q
  ·have q:y=bL .i64 (bL .i64 (k:Int) 1) (n:Int):=by simpa using q
   have e1:Gp (bL .i64 (k:Int) 1) ((k+1:Nat):Int):=uj (by omega)
   rw[show bL .i64 (k:Int) 1=_ from e1]at q
   have e2:Gp (bL .i64 ((k+1:Nat):Int) (n:Int)) ((k+1+n:Nat):Int):=(wrap_i64 (by omega) (by omega)).trans (by omega)
   exact⟨_,q.trans e2⟩
theorem abe{k:Nat}{c:den bE}(hk:k<=1099511600000)(h1:c.1=12∨c.1=13-> ∃ a:Nat,c.2.1=(a:Int))(GM:c.1=14-> ∃ a:Nat,c.2.1=(a:Int)/\a<=1099511600000):(LM k c).length<=1099511627776/\ ∀ y,y∈LM k c-> ∃ j:Nat,y=(j:Int):=by
 have one: ∀ (v:Int),(∃ j:Nat,v=(j:Int))->([v]:List Int).length<=1099511627776/\ ∀ y,y∈[v]-> ∃ j:Nat,y=(j:Int):=fun v hv=>⟨(show 1<=1099511627776 by decide),fun y hy=>by
  have hy:y=v:=by simpa using hy
  rw[hy];exact hv⟩
 unfold LM
 by_cases h0:c.1=0
 ·rw[dt h0];exact⟨Nat.zero_le _,fun y h=>by cases h⟩
 by_cases uk:c.1=15
 ·rw[df h0,dt uk];exact⟨Nat.zero_le _,fun y h=>by cases h⟩
 by_cases wC:c.1=12
 ·rw[df h0,df uk,dt wC];exact one _ (h1 (.inl wC))
 by_cases C8:c.1=13
 ·rw[df h0,df uk,df wC,dt C8]
  obtain⟨a,ha⟩:=h1 (.inr C8)
  show([c.2.1,((k+1:Nat):Int)]:List Int).length<=1099511627776/\ ∀ y,y∈[c.2.1,((k+1:Nat):Int)]-> ∃ j:Nat,y=(j:Int)
  refine⟨(show 2<=1099511627776 by decide),fun y hy=>?_⟩
  rcases List.mem_cons.1 hy with q|q
  ·exact⟨a,q.trans ha⟩
  ·exact⟨k+1,by simpa using q⟩
 by_cases Vh:c.1=14
 ·obtain⟨a,ha1,N5⟩:=GM Vh
  rw[df h0,df uk,df wC,df C8,dt Vh,ha1]
  have ea:bL .i64 (a:Int) 1=((a+1:Nat):Int):=uj (by omega)
  rw[ea,Int.toNat_natCast]
  clear ea
  show(BN (k:Int) (a+1)).length<=_/\ ∀ y,y∈BN (k:Int) (a+1)->_
  exact⟨by rw[zd];omega,EA hk (a+1) (by omega)⟩
 ·rw[df h0,df uk,df wC,df C8,df Vh]
  exact one _ ⟨k+1,rfl⟩
structure agQ(ss:List (den bz))(fs:List (den cr))(f:den cr)(si ni no nl:Nat):Prop where
 h:(-1:Int)<=f.1
 s:f.2.1=(si:Int)
 sl:si<ss.length
 i:f.2.2.1=(ni:Int)
 ie:ni=(ss.getD si (aE bz)).1.length
 o:f.2.2.2.1=(no:Int)
 oe:no=(ss.getD si (aE bz)).2.length
 l:f.2.2.2.2.1=(nl:Int)
 ll:nl<=4096
 c:f.1=(-1:Int)->0<f.2.2.2.2.2.1.length
 cb:C6 ss fs f=true
theorem Vi{x1 x2 x5:Int}{n c:Nat}(h:(bif decide (x1<(-1))then true else bif decide (x2<0)then true else bif decide ((n:Int)<=x2)then true else bif decide (x5<0)then true else bif decide (4096<x5)then true else decide (x1=(-1)) ^^ decide (0<(c:Int)))=false): -1<=x1/\0<=x2/\x2<(n:Int)/\0<=x5/\x5<=4096/\(x1= -1->0<c):=by
 by_cases a1:x1<(-1)
 ·rw[dt a1]at h;cases h
 rw[df a1,cond_false]at h
 by_cases a2:x2<0
 ·rw[dt a2]at h;cases h
 rw[df a2,cond_false]at h
 by_cases a3:(n:Int)<=x2
 ·rw[dt a3]at h;cases h
 rw[df a3,cond_false]at h
 by_cases a4:x5<0
 ·rw[dt a4]at h;cases h
 rw[df a4,cond_false]at h
 by_cases a5:4096<x5
 ·rw[dt a5]at h;cases h
 rw[df a5,cond_false]at h
 refine⟨by omega,by omega,by omega,by omega,by omega,fun q=>?_⟩
 by_cases a6:0<(c:Int)
 ·omega
 ·rw[dt q,df a6]at h;cases h
theorem Vj{x y:Int}{n m:Nat}(h:(bif !decide (x=(n:Int))then true else !decide (y=(m:Int)))=false):x=(n:Int)/\y=(m:Int):=by
 by_cases b1:x=(n:Int)
 ·rw[dt b1,Bool.not_true,cond_false]at h
  by_cases b2:y=(m:Int)
  ·exact⟨b1,b2⟩
  ·rw[df b2]at h;cases h
 ·rw[df b1]at h;cases h
theorem Vk{x:Int}{n:Nat}(h:0<=x)(hn:x<(n:Int)):x=(x.toNat:Int)/\x.toNat<n:=by omega
theorem Qa{x:Int}(h:0<=x)(hn:x<=4096):x=(x.toNat:Int)/\x.toNat<=4096:=by omega
theorem wu{ss:List (den bz)}{fs:List (den cr)}{f:den cr}(h:LL ss fs f=true): ∃ si i o l,agQ ss fs f si i o l:=by
 unfold LL at h
 cases h1:rX ss f with
 |true=>rw[h1]at h;cases h
 |false=>
  rw[h1,cond_false]at h
  cases h2:y9 f (ss.getD (f.2.1:Int).toNat (aE bz))with
  |true=>rw[h2]at h;cases h
  |false=>
   rw[h2,cond_false]at h
   obtain⟨c1,c2,c3,c4,c5,c6⟩:=Vi h1
   obtain⟨b1,b2⟩:=Vj h2
   obtain⟨d1,d2⟩:=Vk c2 c3
   obtain⟨d3,d4⟩:=Qa c4 c5
   exact⟨_,_,_,_,c1,d1,d2,b1,rfl,b2,rfl,d3,d4,c6,h⟩
end Go.Proofs.Vq

noncomputable section
namespace Go.Proofs.Vq
open Go.Ab Go.Ab.Lf
set_option maxRecDepth 100000
section
variable (ss:List (den bz))(fs:List (den cr))(F fu:Int)(az:List Int)(i k:Int)
theorem RX(h:List Int):(wX (aH nC (ss,fs,F,az,fu,i,h,k,()))).val=
 bif decide (k<(h.length:Int))then bJ (bF k (h.length:Int)) (bif decide (1048576<h.getD k.toNat (aE i64))then some (.out 1 (aH mG (true,())))else some (.next (aH nC (ss,fs,F,az,fu,i,h,bL .i64 k 1,()))))
 else some (.out 0 (aH lH (ss,fs,F,az,fu,i,()))):=by kernel_rfl
theorem RY(cs:List (den bE))(gu:cs=(fs.getD i.toNat (aE cr)).2.2.2.2.2.1)(c:den bE)(hc:c=cs.getD k.toNat (aE bE)):(wY (aH nD (ss,fs,F,az,fu,i,k,()))).val=
 bJ (bF i (fs.length:Int)) (bif decide (k<(cs.length:Int))then bJ (bF i (fs.length:Int)&&bF k (cs.length:Int)) (
  bJ (bif decide (c.1=35)then bF i (fs.length:Int)&&bF k (cs.length:Int)else bif decide (c.1=36)then bF i (fs.length:Int)&&bF k (cs.length:Int)else true) (
  bif (bif decide (c.1=35)then bif decide (3<c.2.1)then true else decide (c.1=17)else bif decide (c.1=36)then bif decide (3<c.2.1)then true else decide (c.1=17)else decide (c.1=17))then some (.out 1 (aH mH (true,())))
  else some (.next (aH nD (ss,fs,F,az,fu,i,bL .i64 k 1,())))))
 else some (.out 0 (aH lI (ss,fs,F,az,fu,i,())))):=by
 subst hc;subst gu
 kernel_rfl
theorem RZ(H:aG Bm)(hH:H=WB (ss,fs,i,()))(X:aG nC)(hX:X=(ss,fs,F,az,fu,i,H.1,0,()))(z:aG lH)(hz:z=je wX nC lH X)(Y:aG nD)(hY:Y=(z.1,z.2.1,z.2.2.1,z.2.2.2.1,z.2.2.2.2.1,z.2.2.2.2.2.1,0,()))(w:aG lI)(hw:w=je wY nD lI Y):(uo (aH kV (ss,fs,F,az,fu,i,()))).val=
 bif decide (i<(fs.length:Int))then bJ (bF i (fs.length:Int)) (bif decide (0<=(fs.getD i.toNat (aE cr)).1)then some (.out 1 (aH iL (true,())))else bJ (k35 (ss,fs,i,())) (
  bif !H.2.1 then some (.out 1 (aH iL (true,())))else bJ (wS wX nC lH mG X) (bif vW wX nC X then bJ (wS wY nD lI mH Y) (bif vW wY nD Y then some (.next (aH kV (w.1,w.2.1,w.2.2.1,w.2.2.2.1,w.2.2.2.2.1,bL .i64 w.2.2.2.2.2.1 1,())))
   else some (.out 1 (aH iL (je wY nD mH Y))))else some (.out 1 (aH iL (je wX nC mG X))))))
 else some (.out 0 (aH lJ (ss,fs,F,az,fu,()))):=by
 subst hw;subst hY;subst hz;subst hX;subst hH
 kernel_rfl
theorem eq7(g:Cg)(X:aG kV)(hX:X=(ss,fs,F,az,fu,0,()))(z:aG lJ)(hz:z=je uo kV lJ X)(fi:Int)(hfi:fi=ao .i64 (sY .u64 (ao .u64 z.2.2.1) (ao .u64 (z.2.1.length:Int))))(fn:den cr)(qN:fn=z.2.1.getD fi.toNat (aE cr))(Y:aG Gm)(hY:Y=(z.1,z.2.1,oJ (n5 []) y5 (rS [] ⟨[],[],0⟩ ())))
 (w:aG C3)(hw:w=m22 Y)(V:aG Gl)(hV:V=(w.1,w.2.1,w.2.2.1,w.2.2.2.1,w.2.2.2.2.1,w.2.2.2.2.2.1,w.2.2.2.2.2.2.1,w.2.2.2.2.2.2.2.1,w.2.2.2.2.2.2.2.2.1,w.2.2.2.2.2.2.2.2.2.1,w.2.2.2.2.2.2.2.2.2.2.1,w.2.2.2.2.2.2.2.2.2.2.2.1,w.2.2.2.2.2.2.2.2.2.2.2.2.1,w.2.2.2.2.2.2.2.2.2.2.2.2.2.1,w.2.2.2.2.2.2.2.2.2.2.2.2.2.2.1,w.2.2.2.2.2.2.2.2.2.2.2.2.2.2.2.1,w.2.2.2.2.2.2.2.2.2.2.2.2.2.2.2.2.1,w.2.2.2.2.2.2.2.2.2.2.2.2.2.2.2.2.2.1,w.2.2.2.2.2.2.2.2.2.2.2.2.2.2.2.2.2.2.1,w.2.2.2.2.2.2.2.2.2.2.2.2.2.2.2.2.2.2.2.1,w.2.2.2.2.2.2.2.2.2.2.2.2.2.2.2.2.2.2.2.2.1,w.2.2.2.2.2.2.2.2.2.2.2.2.2.2.2.2.2.2.2.2.2.1,w.2.2.2.2.2.2.2.2.2.2.2.2.2.2.2.2.2.2.2.2.2.2.1,w.2.2.2.2.2.2.2.2.2.2.2.2.2.2.2.2.2.2.2.2.2.2.2.1,w.2.2.2.2.2.2.2.2.2.2.2.2.2.2.2.2.2.2.2.2.2.2.2.2.1,w.2.2.2.2.2.2.2.2.2.2.2.2.2.2.2.2.2.2.2.2.2.2.2.2.2.1,w.2.2.2.2.2.2.2.2.2.2.2.2.2.2.2.2.2.2.2.2.2.2.2.2.2.2.1,w.2.2.2.2.2.2.2.2.2.2.2.2.2.2.2.2.2.2.2.2.2.2.2.2.2.2.2.1,w.2.2.2.2.2.2.2.2.2.2.2.2.2.2.2.2.2.2.2.2.2.2.2.2.2.2.2.2.1,w.2.2.2.2.2.2.2.2.2.2.2.2.2.2.2.2.2.2.2.2.2.2.2.2.2.2.2.2.2.1,w.2.2.2.2.2.2.2.2.2.2.2.2.2.2.2.2.2.2.2.2.2.2.2.2.2.2.2.2.2.2.1,w.2.2.2.2.2.2.2.2.2.2.2.2.2.2.2.2.2.2.2.2.2.2.2.2.2.2.2.2.2.2.2.1,w.2.2.2.2.2.2.2.2.2.2.2.2.2.2.2.2.2.2.2.2.2.2.2.2.2.2.2.2.2.2.2.2.1,w.2.2.2.2.2.2.2.2.2.2.2.2.2.2.2.2.2.2.2.2.2.2.2.2.2.2.2.2.2.2.2.2.2.1,fi,List.replicate (fn.2.2.1:Int).toNat 0,ao .i64 (sY .u64 (ao .u64 z.2.2.2.2.1) 500),()))(r:aG wc)(hr:r=m23 g V):(t7 g (ss,fs,F,az,fu,())).val=
 bif !true then some (aH GO (false,()))else bif decide ((fs.length:Int)=0)then some (aH GO (true,()))else bJ (Wv (ss,fs,())) (bif !decide ((Rb (ss,fs,())).1=0)then some (aH GO (true,()))else bJ (wS uo kV lJ iL X) (bif vW uo kV X then
  bJ (!decide (ao .u64 (z.2.1.length:Int)=0)) (bJ (GK dh) (bJ (bF fi (z.2.1.length:Int)) (bJ (dy 0 0 0) (bJ (decide (fn.2.2.1=fn.2.2.1)) (bJ (decide (z.2.2.2.2.1=z.2.2.2.2.1)) (bJ (Wy Y) (bJ (decide (fn.2.2.1=fn.2.2.1)) (bJ (decide (z.2.2.2.2.1=z.2.2.2.2.1)) (
  bJ (decide ((0:Int)<=fn.2.2.1)&&decide ((fn.2.2.1:Int)<=fn.2.2.1)&&decide ((fn.2.2.1:Int).toNat*8<=70368744177664)) (bJ (Wx g V) (
  bJ (bif !decide (r.1=40)then bif !decide (r.1=1)then bif !decide (r.1=0)then true else bF fi (z.2.1.length:Int)else true else true) (
  some (aH GO (bif !decide (r.1=40)then bif !decide (r.1=1)then bif !decide (r.1=0)then true else decide ((r.2.2.1.length:Int)=fn.2.2.2.1)else false else false,()))))))))))))))
 else some (aH GO (je uo kV iL X)))):=by
 subst hr;subst hV;subst hw;subst hY;subst qN;subst hfi;subst hz;subst hX
 kernel_rfl
end
end Go.Proofs.Vq

noncomputable section
namespace Go.Proofs.Vq
open Go.Ab Go.Ab.Lf
set_option maxRecDepth 100000
structure Small(ss:List (den bz))(fs:List (den cr)):Prop where
 ls:ss.length<=1048576
 lf:fs.length<=1048576
 s: ∀ s:den bz,s∈ss->s.1.length<=1048576/\s.2.length<=1048576
 f: ∀ f:den cr,f∈fs->f.2.2.2.2.2.1.length<=1048576
 u: ∀ f:den cr,f∈fs-> ∀ c:den bE,c∈f.2.2.2.2.2.1->U c.2.2
theorem Small.fits{ss:List (den bz)}{fs:List (den cr)}(B:Small ss fs):Fits ss fs:=
 ⟨Nat.le_trans B.ls (by decide),Nat.le_trans B.lf (by decide),fun s h=>⟨Nat.le_trans (B.s s h).1 (by decide),Nat.le_trans (B.s s h).2 (by decide)⟩,fun f h=>Nat.le_trans (B.f f h) (by decide)⟩
def ze(op A:Int):Bool:=bif decide (op=35)then bif decide (3<A)then true else decide (op=17)else bif decide (op=36)then bif decide (3<A)then true else decide (op=17)else decide (op=17)
theorem Vl{op A:Int}(h:ze op A=false): ¬ op=17/\(op=35∨op=36->A<((4:Nat):Int)):=by
 unfold ze at h
 by_cases h1:op=35
 ·subst h1
  rw[dt rfl,cond_true]at h
  by_cases h2:3<A
  ·rw[dt h2]at h;cases h
  ·exact⟨by decide,fun _=>by omega⟩
 ·rw[df h1,cond_false]at h
  by_cases h3:op=36
  ·subst h3
   rw[dt rfl,cond_true]at h
   by_cases h2:3<A
   ·rw[dt h2]at h;cases h
   ·exact⟨by decide,fun _=>by omega⟩
  ·rw[df h3,cond_false]at h
   exact⟨of_decide_eq_false h,fun q=>by rcases q with q|q;exact absurd q h1;exact absurd q h3⟩
section
variable (ss:List (den bz))(fs:List (den cr))(F fu:Int)(az:List Int)
theorem agR(i:Int)(h:List Int)(hl:h.length<=1099511627776):nu wX (aH nC (ss,fs,F,az,fu,i,h,((0:Nat):Int),())) (bif (List.range h.length).all (fun j=> !decide (1048576<h.getD j 0))then 0 else 1) (bif (List.range h.length).all (fun j=> !decide (1048576<h.getD j 0))then aH lH (ss,fs,F,az,fu,i,())else aH mG (true,())):=by
 refine tj (f:=wX) h.length (fun j=>aH nC (ss,fs,F,az,fu,i,h,(j:Int),())) (fun j=> !decide (1048576<h.getD j 0)) _ _ (fun j hj=>?_) ?_
 ·refine(RX ss fs F fu az i (j:Int) h).trans ?_
  rw[dt (show(j:Int)<(h.length:Int) by omega),show bF (j:Int) (h.length:Int)=true from cZ hj,uj (by omega),Int.toNat_natCast]
  show(bif decide (1048576<h.getD j 0)then _ else _)=_
  cases decide (1048576<h.getD j 0)<;>rfl
 ·refine(RX ss fs F fu az i (h.length:Int) h).trans ?_
  rw[df (show ¬ (h.length:Int)<(h.length:Int) by omega)]
  rfl
theorem agS(i:Nat)(hi:i<fs.length)(cs:List (den bE))(gu:cs=(fs.getD i (aE cr)).2.2.2.2.2.1)(hl:cs.length<=1099511627776):nu wY (aH nD (ss,fs,F,az,fu,(i:Int),((0:Nat):Int),())) (bif (List.range cs.length).all (fun j=> !ze (cs.getD j (aE bE)).1 (cs.getD j (aE bE)).2.1)then 0 else 1) (bif (List.range cs.length).all (fun j=> !ze (cs.getD j (aE bE)).1 (cs.getD j (aE bE)).2.1)then aH lI (ss,fs,F,az,fu,(i:Int),())else aH mH (true,())):=by
 refine tj (f:=wY) cs.length (fun j=>aH nD (ss,fs,F,az,fu,(i:Int),(j:Int),())) (fun j=> !ze (cs.getD j (aE bE)).1 (cs.getD j (aE bE)).2.1) _ _ (fun j hj=>?_) ?_
 ·refine(RY ss fs F fu az (i:Int) (j:Int) cs (by rw[Int.toNat_natCast];exact gu) (cs.getD j (aE bE)) (by rw[Int.toNat_natCast])).trans ?_
  generalize cs.getD j (aE bE)=c
  rw[dt (show(j:Int)<(cs.length:Int) by omega),show bF (i:Int) (fs.length:Int)=true from cZ hi,show bF (j:Int) (cs.length:Int)=true from cZ hj,uj (by omega)]
  have e:(bif decide (c.1=35)then(true&&true)else bif decide (c.1=36)then(true&&true)else true)=true:=by
   cases decide (c.1=35)<;>cases decide (c.1=36)<;>rfl
  rw[e]
  show(bif ze c.1 c.2.1 then _ else _)=_
  cases ze c.1 c.2.1<;>rfl
 ·refine(RY ss fs F fu az (i:Int) (cs.length:Int) cs (by rw[Int.toNat_natCast];exact gu) _ rfl).trans ?_
  rw[df (show ¬ (cs.length:Int)<(cs.length:Int) by omega),show bF (i:Int) (fs.length:Int)=true from cZ hi]
  rfl
def FH(fns:List (den cr))(ns f:Nat):Prop:= ∃ (i o l:Nat) (h:Nat->Option Nat),(fns.getD f (aE cr)).1=(-1:Int)/\(fns.getD f (aE cr)).2.2.1=(i:Int)/\(fns.getD f (aE cr)).2.2.2.1=(o:Int)/\(fns.getD f (aE cr)).2.2.2.2.1=(l:Int)/\l<=4096/\i<=1099511600000/\(fns.getD f (aE cr)).2.2.2.2.2.1.length<=1099511627776/\Hts fns (fns.getD f (aE cr)) (i+l) ns h
theorem sa{n:Nat}{p:Nat->Bool}(h:(List.range n).all p=true){j:Nat}(hj:j<n):p j=true:=List.all_eq_true.1 h j (List.mem_range.2 hj)
theorem agT{x:Int}(h: -1<=x)(h1: ¬ 0<=x):x= -1:=by omega
theorem Qb(B:Small ss fs)(hp:rY ss fs=true)(i:Nat)(hi:i<fs.length):
 (uo (aH kV (ss,fs,F,az,fu,(i:Int),()))).val=some (.out 1 (aH iL (true,())))∨((uo (aH kV (ss,fs,F,az,fu,(i:Int),()))).val=some (.next (aH kV (ss,fs,F,az,fu,((i+1:Nat):Int),())))/\FH fs 4 i):=by
 have hfb: ∀ j,j<fs.length->LL ss fs (fs.getD j (aE cr))=true:=by
  unfold rY Pv at hp
  rw[Bool.and_eq_true]at hp
  exact fun j hj=>sa hp.2 hj
 obtain⟨fn,qN⟩: ∃ fn,fn=fs.getD i (aE cr):=⟨_,rfl⟩
 have Ie:fn∈fs:=by rw[qN];exact jw hi _
 obtain⟨si,ni,no,nl,P⟩:=wu (f:=fn) (by rw[qN];exact hfb i hi)
 have hs0: ∀ j,j<ss.length->(ss.getD j (aE bz)).1.length<=1048576/\(ss.getD j (aE bz)).2.length<=1048576:=fun j hj=>B.s _ (jw hj _)
 have LG:ni<=1048576:=by rw[P.ie];exact(hs0 si P.sl).1
 have fF:fn.2.2.2.2.2.1.length<=1048576:=B.f fn Ie
 have eq:=RZ ss fs F fu az (i:Int) _ rfl _ rfl _ rfl _ rfl _ rfl
 rw[dt (show(i:Int)<(fs.length:Int) by omega),show bF (i:Int) (fs.length:Int)=true from cZ hi,Int.toNat_natCast,<-qN,cond_true,db rfl]at eq
 by_cases hh:(0:Int)<=fn.1
 ·rw[dt hh,cond_true]at eq
  exact .inl eq
 rw[df hh,cond_false]at eq
 have h1:fn.1=(-1:Int):=agT P.h hh
 have h0:=P.c h1
 obtain⟨c1,c2⟩:=c34 ss fs B.fits
 have hm:(Rb (ss,fs,())).1=0:=by rw[c2,hp];rfl
 have sR: ∀ j,j<fs.length-> ∃ i' o':Nat,(fs.getD j (aE cr)).2.2.1=(i':Int)/\(fs.getD j (aE cr)).2.2.2.1=(o':Int)/\o'<=1048576:=fun j hj=>by
  obtain⟨sj,a,b,_,Q⟩:=wu (hfb j hj)
  exact⟨a,b,Q.i,Q.o,by rw[Q.oe];exact(hs0 sj Q.sl).2⟩
 obtain⟨cs,gu⟩: ∃ cs,cs=fn.2.2.2.2.2.1:=⟨_,rfl⟩
 have alX:cs.length<=1048576:=by rw[gu];exact fF
 have abf: ∀ k,k<cs.length->rW ss.length fs.length (ni:Int) (nl:Int) cs.length (k:Int) (cs.getD k (aE bE))=true:=fun k hk=>by
  have h:=sa P.cb (j:=k) (by rw[<-gu];exact hk)
  rw[P.i,P.l,<-gu]at h
  exact h
 have key: ∀ k:Nat,∃ tg:Nat×Nat,k<cs.length->Gt (ss,fs,(i:Int),(cs.getD k (aE bE)).1,(cs.getD k (aE bE)).2.1,(cs.getD k (aE bE)).2.2,())=true/\Gu (ss,fs,(i:Int),(cs.getD k (aE bE)).1,(cs.getD k (aE bE)).2.1,(cs.getD k (aE bE)).2.2,())=((tg.1:Int),(tg.2:Int),())/\tg.2<=1048576/\(¬ ((cs.getD k (aE bE)).1:Int)=17->(((cs.getD k (aE bE)).1:Int)=35∨((cs.getD k (aE bE)).1:Int)=36->((cs.getD k (aE bE)).2.1:Int)<((4:Nat):Int))->BM fs fn (ni+nl) 4 (cs.getD k (aE bE)) tg.1 tg.2):=by
  intro k
  by_cases hk:k<cs.length
  ·obtain⟨q1,t,g,q2,q3,q4⟩:=KW (ns:=4) (i:=ni) (l:=nl) qN hi P.o (by have:=P.ll;omega) sR hs0 (cs.getD k (aE bE)) (by rw[<-gu];exact abf k hk) (by omega) (by rw[<-gu];exact hk) (B.u fn Ie _ (by rw[<-gu];exact jw hk _))
   exact⟨(t,g),fun _=>⟨q1,q2,q3,q4⟩⟩
  ·exact⟨(0,0),fun h=>absurd h hk⟩
 obtain⟨tg,htg⟩:=Classical.axiomOfChoice key
 have wC: ∀ k,k<cs.length->((cs.getD k (aE bE)).1=12∨(cs.getD k (aE bE)).1=13-> ∃ a:Nat,(cs.getD k (aE bE)).2.1=(a:Int))/\((cs.getD k (aE bE)).1=14-> ∃ a:Nat,(cs.getD k (aE bE)).2.1=(a:Int)/\a<=1099511600000):=by
  intro k hk
  have h:=abf k hk
  generalize cs.getD k (aE bE)=c at h
  obtain⟨op,a,n⟩:=c
  unfold rW at h
  dsimp only at h ⊢
  refine⟨fun q=>?_,fun q=>?_⟩
  ·rcases q with q|q
   ·obtain rfl:op=12:=q
    obtain⟨A,hA,_⟩:=wt (b:=(cs.length:Int)) h
    exact⟨A,hA⟩
   ·obtain rfl:op=13:=q
    obtain⟨A,hA,_⟩:=wt (b:=(cs.length:Int)) h
    exact⟨A,hA⟩
  ·obtain rfl:op=14:=q
   have e1:Gp (aV .i64 (cs.length:Int) (k:Int)) ((cs.length - k:Nat):Int):=(wrap_i64 (by omega) (by omega)).trans (by omega)
   have e2:Gp (aV .i64 ((cs.length - k:Nat):Int) 1) ((cs.length - k - 1:Nat):Int):=(wrap_i64 (by omega) (by omega)).trans (by omega)
   rw[show aV .i64 (cs.length:Int) (k:Int)=_ from e1,show aV .i64 ((cs.length - k:Nat):Int) 1=_ from e2]at h
   obtain⟨A,hA,hA2⟩:=wt (b:=((cs.length - k - 1:Nat):Int)) h
   exact⟨A,hA,by omega⟩
 have Ve:cs.length<=1099511600000:=by omega
 obtain⟨agV,r35⟩:=c35 ss fs c1 hm i hi cs (by rw[gu,qN]) (by rw[gu];exact h0) (by omega) (fun k=>(tg k).1) (fun k=>(tg k).2) (fun k=>LM k (cs.getD k (aE bE))) (fun k hk=>(htg k hk).2.2.1) (fun k hk=>⟨(htg k hk).1,(htg k hk).2.1⟩)
  (fun k hk=>by
   obtain⟨a1,a2⟩:=c86 cs k hk Ve (wC k hk).2
   obtain⟨b1,b2⟩:=abe (c:=cs.getD k (aE bE)) (show k<=1099511600000 by omega) (wC k hk).1 (wC k hk).2
   exact⟨a1,a2,b1,b2⟩)
 rw[agV,db rfl]at eq
 rcases r35 with r|⟨hs,r,W,hz⟩
 ·rw[r]at eq
  exact .inl eq
 ·rw[r]at eq
  dsimp only at eq
  rw[Bool.not_true,cond_false]at eq
  have hl2:=W.l
  have R2:=agR ss fs F fu az (i:Int) hs (by omega)
  cases hp2:(List.range hs.length).all (fun j=> !decide (1048576<hs.getD j 0))with
  |false=>
   rw[hp2]at R2
   obtain⟨p1,p2,p3⟩:=nX (f:=wX) (ti:=nC) (t0:=lH) (t1:=mG) (y:=(true,())) (x:=(ss,fs,F,az,fu,(i:Int),hs,0,())) R2
   rw[p1,p2,p3,db rfl,cond_false]at eq
   exact .inl eq
  |true=>
   rw[hp2]at R2
   obtain⟨p1,p2,p3⟩:=nW (f:=wX) (ti:=nC) (t0:=lH) (t1:=mG) (y:=(ss,fs,F,az,fu,(i:Int),())) (x:=(ss,fs,F,az,fu,(i:Int),hs,0,())) R2
   rw[p1,p2,p3,db rfl,cond_true]at eq
   dsimp only at eq
   have R4:=agS ss fs F fu az i hi cs (by rw[gu,qN]) (by omega)
   cases hp4:(List.range cs.length).all (fun j=> !ze (cs.getD j (aE bE)).1 (cs.getD j (aE bE)).2.1)with
   |false=>
    rw[hp4]at R4
    obtain⟨q1,q2,q3⟩:=nX (f:=wY) (ti:=nD) (t0:=lI) (t1:=mH) (y:=(true,())) (x:=(ss,fs,F,az,fu,(i:Int),0,())) R4
    rw[q1,q2,q3,db rfl,cond_false]at eq
    exact .inl eq
   |true=>
    rw[hp4]at R4
    obtain⟨q1,q2,q3⟩:=nW (f:=wY) (ti:=nD) (t0:=lI) (t1:=mH) (y:=(ss,fs,F,az,fu,(i:Int),())) (x:=(ss,fs,F,az,fu,(i:Int),0,())) R4
    rw[q1,q2,q3,db rfl,cond_true]at eq
    refine .inr ⟨eq.trans ?_,ni,no,nl,WC cs.length hs,?_⟩
    ·have ea:bL .i64 (i:Int) 1=((i+1:Nat):Int):=uj (by have:=B.lf;omega)
     dsimp only
     rw[ea]
    ·rw[<-qN]
     have hle: ∀ j,j<cs.length->hs.getD j 0<=1048576:=fun j hj=>by
      have h:=sa hp2 (j:=j) (by omega)
      have h:(!decide (1048576<hs.getD j 0))=true:=h
      have h: ¬ 1048576<hs.getD j 0:=by simpa using h
      exact Int.not_lt.1 h
     have hbc: ∀ j,j<cs.length->ze (cs.getD j (aE bE)).1 (cs.getD j (aE bE)).2.1=false:=fun j hj=>by
      have h:=sa hp4 (j:=j) hj
      simpa using h
     refine⟨h1,P.i,P.o,P.l,P.ll,by omega,by omega,?_⟩
     rw[gu]at W hle ⊢
     refine Vf W hz h0 hle (fun k hk=>?_) (fun k hk to n8=>?_)
     ·rw[<-gu]at hk ⊢
      obtain⟨b1,b2⟩:=Vl (hbc k hk)
      exact(htg k hk).2.2.2 b1 b2
     ·rw[<-gu]at hk n8 ⊢
      exact Vd n8 (by omega) (fun q=>by
       obtain⟨a,ha,N5⟩:=(wC k hk).2 q
       rw[ha];exact Int.ofNat_le.2 N5)
end
end Go.Proofs.Vq
