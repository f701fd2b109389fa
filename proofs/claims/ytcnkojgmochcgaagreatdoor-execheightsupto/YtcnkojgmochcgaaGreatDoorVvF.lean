import Derived.Test.YtcnkojgmochcgaaGreatDoorVtX
noncomputable section
namespace Go.Proofs.Vq
open Go.Ab Go.Ab.Lf
set_option maxRecDepth 100000
theorem Vm(F:Int)(n:Nat)(h0:0<n)(hn:n<=1048576): ∃ f:Nat,f<n/\ao .i64 (sY .u64 (ao .u64 F) (ao .u64 (n:Int)))=(f:Int):=by
 have h64:0<=ao .u64 F:=Int.emod_nonneg F (by decide)
 obtain⟨a,ha⟩: ∃ a:Nat,ao .u64 F=(a:Int):=⟨(ao .u64 F).toNat,by omega⟩
 rw[ha,Bi (k:=n) (by omega)]
 clear ha h64
 have e2:sY .u64 (a:Int) (n:Int)=((a % n:Nat):Int):=rfl
 rw[e2]
 have fO:=Nat.mod_lt a h0
 generalize a % n=m at fO
 clear e2
 exact⟨m,fO,wrap_i64 (by omega) (by omega)⟩
section
variable (ss:List (den bz))(fs:List (den cr))(F fu:Int)(az:List Int)
theorem agY(B:Small ss fs)(hp:rY ss fs=true): ∀ (k j:Nat),j+k=fs.length->nu uo (aH kV (ss,fs,F,az,fu,(j:Int),())) 1 (aH iL (true,()))∨(nu uo (aH kV (ss,fs,F,az,fu,(j:Int),())) 0 (aH lJ (ss,fs,F,az,fu,()))/\ ∀ m,j<=m->m<fs.length->FH fs 4 m):=by
 intro k
 induction k with
 |zero=>
  intro j h
  have:j=fs.length:=by omega
  subst this
  refine .inr ⟨.last ((RZ ss fs F fu az (fs.length:Int) _ rfl _ rfl _ rfl _ rfl _ rfl).trans ?_),fun m a b=>by omega⟩
  rw[df (show ¬ (fs.length:Int)<(fs.length:Int) by omega)]
  rfl
 |succ k ih=>
  intro j h
  rcases Qb ss fs F fu az B hp j (by omega)with q|⟨q,hq⟩
  ·exact .inl (.last q)
  ·rcases ih (j+1) (by omega)with r|⟨r,hr⟩
   ·exact .inl (.more q r)
   ·refine .inr ⟨.more q r,fun m a b=>?_⟩
    by_cases hm:m=j
    ·rw[hm];exact hq
    ·exact hr m (by omega) b
theorem abg(n:Nat): ∀ y,y∈List.replicate n (0:Int)->U y:=fun y h=>by rw[List.eq_of_mem_replicate h];exact U0
theorem Qc:UR y5:=⟨rfl,fun y h=>by
 have h:y∈[(7:Int),1,2,9]:=h
 rcases List.mem_cons.1 h with q|h
 ·rw[q];exact⟨by decide,by decide⟩
 rcases List.mem_cons.1 h with q|h
 ·rw[q];exact⟨by decide,by decide⟩
 rcases List.mem_cons.1 h with q|h
 ·rw[q];exact⟨by decide,by decide⟩
 ·rw[show y=9 by simpa using h];exact⟨by decide,by decide⟩,1,by decide,by rw[show y5.bytes=List.replicate 65536 0 from rfl,List.length_replicate]⟩
theorem Vn{e:Int}(h:UT e): ¬ e=40/\ ¬ e=1/\ ¬ e=0:=by
 rcases h with h|h|h|h|h|h|h<;>rw[h]<;>decide
theorem agZ(g:Cg)(B:Small ss fs):(t7 (GL g 65) (ss,fs,F,az,fu,())).val=some (aH GO (true,())):=by
 obtain⟨c1,c2⟩:=c34 ss fs B.fits
 have eq:=eq7 ss fs F fu az (GL g 65) _ rfl _ rfl _ rfl _ rfl _ rfl _ rfl _ rfl _ rfl
 rw[Bool.not_true,cond_false]at eq
 by_cases hl:fs.length=0
 ·rw[dt (show(fs.length:Int)=0 by omega),cond_true]at eq
  exact eq
 rw[df (show ¬ (fs.length:Int)=0 by omega),cond_false,c1,db rfl,c2]at eq
 cases hp:rY ss fs with
 |false=>
  rw[hp]at eq
  exact eq
 |true=>
  rw[hp]at eq
  rcases agY ss fs F fu az B hp fs.length 0 (by omega)with R|⟨R,hR⟩
  ·obtain⟨p1,p2,p3⟩:=nX (f:=uo) (ti:=kV) (t0:=lJ) (t1:=iL) (y:=(true,())) (x:=(ss,fs,F,az,fu,0,())) R
   rw[p1,p2,p3]at eq
   exact eq
  ·obtain⟨p1,p2,p3⟩:=nW (f:=uo) (ti:=kV) (t0:=lJ) (t1:=iL) (y:=(ss,fs,F,az,fu,())) (x:=(ss,fs,F,az,fu,0,())) R
   obtain⟨f,hf,hfe⟩:=Vm F fs.length (by omega) B.lf
   have A:Gs fs 4:=fun m hm=>hR m (Nat.zero_le _) hm
   have hfb:LL ss fs (fs.getD f (aE cr))=true:=by
    unfold rY Pv at hp
    rw[Bool.and_eq_true]at hp
    exact sa hp.2 hf
   obtain⟨si,ni,no,nl,P⟩:=wu hfb
   have LG:ni<=1048576:=by rw[P.ie];exact(B.s _ (jw P.sl _)).1
   obtain⟨n1,n2⟩:=Pw ss fs [7,1,2,9] [1,0,0,0] [0,1,3] [0,1,2,3,-1,-1] (List.replicate 65536 0) 2 ⟨[],[],0⟩ false B.fits (by have:=B.lf;omega) (by rw[hp];rfl)
   obtain⟨d1,e,ys,left,m',d2,d3⟩:=UY g ⟨ss,fs,y5,⟨[],[],0⟩,dh,false⟩ rfl A Qc rfl f ni no hf P.i P.o si P.s P.sl P.ie.symm (List.replicate ni 0) (by rw[List.length_replicate]) (by omega) (abg ni) (ao .i64 (sY .u64 (ao .u64 fu) 500))
   have eq2:=eq7 ss fs F fu az (GL g 65) _ rfl (ss,fs,F,az,fu,()) p3.symm (f:Int) hfe.symm (fs.getD f (aE cr)) (by rw[Int.toNat_natCast]) _ rfl (gp [] ⟨ss,fs,y5,⟨[],[],0⟩,dh,false⟩ ()) n2.symm (gp [i64,.aC u64,i64] ⟨ss,fs,y5,⟨[],[],0⟩,dh,false⟩ ((f:Int),List.replicate ni 0,ao .i64 (sY .u64 (ao .u64 fu) 500),())) (by rw[P.i,Int.toNat_natCast]) _ d2.symm
   refine eq2.trans ?_
   have ec:ao .u64 (fs.length:Int)=(fs.length:Int):=Bi (by have:=B.lf;omega)
   rw[Bool.not_true,cond_false,df (show ¬ (fs.length:Int)=0 by omega),cond_false,c1,db rfl,c2,hp,p1,p2]
   dsimp only
   rw[ec,df (show ¬ (fs.length:Int)=0 by omega),y0,show bF (f:Int) (fs.length:Int)=true from cZ hf,show Wy (ss,fs,oJ (n5 []) y5 (rS [] ⟨[],[],0⟩ ()))=true from n1,d1,P.i,P.o,Int.toNat_natCast,dt (show(0:Int)<=(ni:Int) by omega),dt (show(ni:Int)<=(ni:Int) by omega),dt (show ni*8<=70368744177664 by omega),dt (rfl:(ni:Int)=(ni:Int)),dt (rfl:fu=fu)]
   rcases d3 with⟨d3,d4⟩|d3
   ·rw[d3,d4,dt (rfl:(no:Int)=(no:Int))]
    rfl
   ·obtain⟨f1,f2,f3⟩:=Vn d3
    rw[df f1,df f2,df f3]
    rfl
end
end Go.Proofs.Vq
