import Derived.Test.YtjeanplhkkpdmaaGreatDoorVvQ1
noncomputable section
namespace Go.Proofs.Vv
open Go.Ab Go.Ab.Lf Go.Proofs.Vd
set_option maxRecDepth 1000000
inductive KI:den kE->Nat->Nat->Prop
 |vv:KI mX 2 2
 |Ds:KI jB 4 2
 |exi (n:Int):KI (mY n 127) 2 1
 |exl (n:Int):KI (mY n 126) 2 1
 |rei (n:Int):KI (pg n 127) 3 2
 |rel (n:Int):KI (pg n 126) 3 2
 |spi:KI (pP 127) 1 2
 |spl:KI (pP 126) 1 2
 |shf:KI Dm 4 2
 |cst:KI Dn 0 2
 |sf:KI Nf 3 2
 |te:KI tD 2 1
 |v3:KI Nd 6 2
def oJ(op:Int):Prop:= ∃ I N Lr,KI I N Lr/\Ul I op=true/\KR op N Lr I
def KC(I:den kE)(v:Nat):Bool:=zn (jG v)&&(decide ((kZ (jG v)).1=I.1)&&(decide ((kZ (jG v)).2.1=I.2.1)&&((kZ (jG v)).2.2.1&&(decide ((kZ (jG v)).2.2.2.1=I.2.2.2.1)&&decide ((kZ (jG v)).2.2.2.2.1=I.2.2.2.2)))))
theorem Dt(v:Nat):64768<=jG v:=by show(64768:Int)<=((64768+v:Nat):Int);omega
theorem uj{I:den kE}{v:Nat}(h:KC I v=true)(hp:I.2.2.1=true):Dq I (jG v):=by
 unfold KC at h;simp only[Bool.and_eq_true,decide_eq_true_eq]at h;obtain⟨a,b,c,d,e,f⟩:=h;exact⟨@decide_eq_true _ (Classical.propDecidable _) ⟨a,b,c,d.trans hp.symm,e,f⟩,Dt v⟩
theorem wD{I:den kE}{v:Nat}(h:KC I v=true)(h1:I.1=1):Cq I.2.2.2.1 I.2.2.2.2 (jG v):=by
 unfold KC at h;simp only[Bool.and_eq_true,decide_eq_true_eq]at h;obtain⟨a,b,c,d,e,f⟩:=h;exact⟨@decide_eq_true _ (Classical.propDecidable _) ⟨a,b.trans h1,e,f⟩,Dt v⟩
def lyB(v:Nat):Bool:= !decide (jG v=64782)&&Ec (jG v)
theorem DM{v:Nat}(h:lyB v=true): ¬ jG v=64782/\Ec (jG v)=true:=by
 unfold lyB at h;simp only[Bool.and_eq_true,Bool.not_eq_true',decide_eq_false_iff_not]at h;exact h
def aoK(v:Nat):Bool:=KC jB v&&(lyB v&& !M4 v)
def aoL(v:Nat):Bool:=KC jB v&&(lyB v&&(M4 v&& !Zg v))
def bUn(v:Nat):Bool:=KC mX v&&(lyB v&& !eUn v)
def bSh(v:Nat):Bool:=KC Nf v&&(lyB v&& !eSh v)
theorem ahp{v:Nat}(hv:v<256)(h:aoK v=true):oJ (jG v):=by
 unfold aoK at h;simp only[Bool.and_eq_true,Bool.not_eq_true']at h;obtain⟨a,b,c⟩:=h;exact⟨jB,4,2,.Ds,(uj a rfl).c,ahk hv (wD a rfl) (DM b).1 (DM b).2 c⟩
theorem ahq{v:Nat}(hv:v<256)(h:aoL v=true):oJ (jG v):=by
 unfold aoL at h;simp only[Bool.and_eq_true,Bool.not_eq_true']at h;obtain⟨a,b,c,d⟩:=h;exact⟨jB,4,2,.Ds,(uj a rfl).c,ahl hv (wD a rfl) (DM b).1 (DM b).2 c d⟩
theorem aoM{v:Nat}(hv:v<256)(h:bUn v=true):oJ (jG v):=by
 unfold bUn at h;simp only[Bool.and_eq_true,Bool.not_eq_true']at h;obtain⟨a,b,c⟩:=h;exact⟨mX,2,2,.vv,(uj a rfl).c,aoB hv (wD a rfl) (DM b).1 (DM b).2 c⟩
theorem aoN{v:Nat}(hv:v<256)(h:bSh v=true):oJ (jG v):=by
 unfold bSh at h;simp only[Bool.and_eq_true,Bool.not_eq_true']at h;obtain⟨a,b,c⟩:=h;exact⟨Nf,3,2,.sf,(uj a rfl).c,aoE hv (wD a rfl) (DM b).1 (DM b).2 c⟩
inductive AlO (P:Nat->Prop):List Nat->Prop
 |nil:AlO P []
 |cons {o:Nat} {l:List Nat}:P o->AlO P l->AlO P (o::l)
theorem AlO.get{P:Nat->Prop}{l:List Nat}(h:AlO P l): ∀ o,o∈l->P o:=by
 induction h with
 |nil=>intro o h;cases h
 |cons a _ ih=>
  intro o h
  rcases List.mem_cons.1 h with rfl|h
  ·exact a
  ·exact ih o h
theorem GO{op n:Int}(A B lo hi:Int)(L:List Int): ∀ l:List Int,l.length<6->l.length≠2->(cP (mY n 127) (op,A,B,lo,hi,L,l,())).val=pq (mY n 127) op mK:=nV (fun _=>afN op A B lo hi L n) (fun _ a=>afO op A B lo hi L a n) (fun h=>absurd rfl h) (fun _ a b c=>afP op A B lo hi L a b c n) (fun _ a b c d=>afQ op A B lo hi L a b c d n) (fun _ a b c d e=>afR op A B lo hi L a b c d e n)
theorem aoO{op n:Int}(A B lo hi:Int)(L:List Int): ∀ l:List Int,l.length<6->l.length≠2->(cP (mY n 126) (op,A,B,lo,hi,L,l,())).val=pq (mY n 126) op mK:=nV (fun _=>afS op A B lo hi L n) (fun _ a=>afT op A B lo hi L a n) (fun h=>absurd rfl h) (fun _ a b c=>afU op A B lo hi L a b c n) (fun _ a b c d=>afV op A B lo hi L a b c d n) (fun _ a b c d e=>afW op A B lo hi L a b c d e n)
theorem Pt{op n:Int}(A B lo hi:Int)(L:List Int): ∀ l:List Int,l.length<6->l.length≠3->(cP (pg n 127) (op,A,B,lo,hi,L,l,())).val=pq (pg n 127) op mK:=nV (fun _=>afX op A B lo hi L n) (fun _ a=>afY op A B lo hi L a n) (fun _ a b=>afZ op A B lo hi L a b n) (fun h=>absurd rfl h) (fun _ a b c d=>af0 op A B lo hi L a b c d n) (fun _ a b c d e=>af1 op A B lo hi L a b c d e n)
theorem aoP{op n:Int}(A B lo hi:Int)(L:List Int): ∀ l:List Int,l.length<6->l.length≠3->(cP (pg n 126) (op,A,B,lo,hi,L,l,())).val=pq (pg n 126) op mK:=nV (fun _=>af2 op A B lo hi L n) (fun _ a=>af3 op A B lo hi L a n) (fun _ a b=>af4 op A B lo hi L a b n) (fun h=>absurd rfl h) (fun _ a b c d=>af5 op A B lo hi L a b c d n) (fun _ a b c d e=>af6 op A B lo hi L a b c d e n)
theorem Pu{op:Int}(A B lo hi:Int)(L:List Int): ∀ l:List Int,l.length<6->l.length≠1->(cP (pP 127) (op,A,B,lo,hi,L,l,())).val=pq (pP 127) op mK:=nV (fun _=>af7 op A B lo hi L) (fun h=>absurd rfl h) (fun _ a b=>af8 op A B lo hi L a b) (fun _ a b c=>af9 op A B lo hi L a b c) (fun _ a b c d=>af' op A B lo hi L a b c d) (fun _ a b c d e=>aga op A B lo hi L a b c d e)
theorem aoQ{op:Int}(A B lo hi:Int)(L:List Int): ∀ l:List Int,l.length<6->l.length≠1->(cP (pP 126) (op,A,B,lo,hi,L,l,())).val=pq (pP 126) op mK:=nV (fun _=>agb op A B lo hi L) (fun h=>absurd rfl h) (fun _ a b=>agc op A B lo hi L a b) (fun _ a b c=>agd op A B lo hi L a b c) (fun _ a b c d=>age op A B lo hi L a b c d) (fun _ a b c d e=>agf op A B lo hi L a b c d e)
theorem jz{I:den kE}{N Lr v:Nat}(k:KI I N Lr)(h:KC I v=true)(hp:I.2.2.1=true)(d:Dq I (jG v)->KR (jG v) N Lr I):oJ (jG v):=⟨I,N,Lr,k,(uj h hp).c,d (uj h hp)⟩
theorem avN:oJ (jG 12):=jz (v:=12) .cst (I:=Dn) (by kernel_rfl) rfl fun C=>aho C
theorem avO:oJ (jG 13):=jz (v:=13) .shf (I:=Dm) (by kernel_rfl) rfl fun C=>ahn C
theorem avP:oJ (jG 14):=jz (v:=14) .Ds (I:=jB) (by kernel_rfl) rfl fun C=>ahm C
theorem avQ:oJ (jG 15):=jz (v:=15) .spi (I:=pP 127) (by kernel_rfl) rfl fun C=>KA (.inr rfl) C ZL Pu agC
theorem avR:oJ (jG 16):=jz (v:=16) .spi (I:=pP 127) (by kernel_rfl) rfl fun C=>KA (.inr rfl) C ZX Pu agQ
theorem avS:oJ (jG 17):=jz (v:=17) .spi (I:=pP 127) (by kernel_rfl) rfl fun C=>KA (.inr rfl) C Z9 Pu ag4
theorem avT:oJ (jG 18):=jz (v:=18) .spl (I:=pP 126) (by kernel_rfl) rfl fun C=>KA (.inl rfl) C aak aoQ ahh
theorem avU:oJ (jG 21):=jz (v:=21) (.exi 16) (I:=mY 16 127) (by kernel_rfl) rfl fun C=>Dr C Z6 GO ag1
theorem avV:oJ (jG 22):=jz (v:=22) (.exi 16) (I:=mY 16 127) (by kernel_rfl) rfl fun C=>Dr C aah GO ahe
theorem avW:oJ (jG 23):=jz (v:=23) (.rei 16) (I:=pg 16 127) (by kernel_rfl) rfl fun C=>Kz (.inr rfl) C ZK Pt agB
theorem avX:oJ (jG 24):=jz (v:=24) (.exi 8) (I:=mY 8 127) (by kernel_rfl) rfl fun C=>Dr C ZJ GO agA
theorem avY:oJ (jG 25):=jz (v:=25) (.exi 8) (I:=mY 8 127) (by kernel_rfl) rfl fun C=>Dr C ZV GO agO
theorem avZ:oJ (jG 26):=jz (v:=26) (.rei 8) (I:=pg 8 127) (by kernel_rfl) rfl fun C=>Kz (.inr rfl) C ZW Pt agP
theorem av0:oJ (jG 27):=jz (v:=27) (.exi 4) (I:=mY 4 127) (by kernel_rfl) rfl fun C=>Dr C Z7 GO ag2
theorem av1:oJ (jG 28):=jz (v:=28) (.rei 4) (I:=pg 4 127) (by kernel_rfl) rfl fun C=>Kz (.inr rfl) C Z8 Pt ag3
theorem av2:oJ (jG 29):=jz (v:=29) (.exl 2) (I:=mY 2 126) (by kernel_rfl) rfl fun C=>Dr C aai aoO ahf
theorem av3:oJ (jG 30):=jz (v:=30) (.rel 2) (I:=pg 2 126) (by kernel_rfl) rfl fun C=>Kz (.inl rfl) C aaj aoP ahg
theorem av4:oJ (jG 77):=jz (v:=77) .vv (I:=mX) (by kernel_rfl) rfl fun C=>aoH C ahi
theorem av5:oJ (jG 78):=jz (v:=78) .Ds (I:=jB) (by kernel_rfl) rfl fun C=>KB C agD
theorem av6:oJ (jG 79):=jz (v:=79) .Ds (I:=jB) (by kernel_rfl) rfl fun C=>KB C agS
theorem av7:oJ (jG 80):=jz (v:=80) .Ds (I:=jB) (by kernel_rfl) rfl fun C=>KB C ag6
theorem av8:oJ (jG 81):=jz (v:=81) .Ds (I:=jB) (by kernel_rfl) rfl fun C=>KB C ahj
theorem av9:oJ (jG 82):=jz (v:=82) .v3 (I:=Nd) (by kernel_rfl) rfl fun C=>aoI C
theorem av':oJ (jG 83):=⟨tD,2,1,.te,(uj (v:=83) (I:=tD) (by kernel_rfl) rfl).c,xq (wD (v:=83) (I:=tD) (by kernel_rfl) rfl) avs⟩
theorem awa:oJ (jG 99):=⟨tD,2,1,.te,(uj (v:=99) (I:=tD) (by kernel_rfl) rfl).c,xq (wD (v:=99) (I:=tD) (by kernel_rfl) rfl) fun ya=>M5 ya (w:=8) (m:=3) (.inl rfl) (.inl rfl)⟩
theorem aoR:oJ (jG 100):=⟨tD,2,1,.te,(uj (v:=100) (I:=tD) (by kernel_rfl) rfl).c,xq (wD (v:=100) (I:=tD) (by kernel_rfl) rfl) fun ya=>M5 ya (w:=8) (m:=4) (.inl rfl) (.inr rfl)⟩
theorem aoS:oJ (jG 101):=jz (v:=101) .Ds (I:=jB) (by kernel_rfl) rfl fun C=>oh C Z5 agv
theorem aoT:oJ (jG 102):=jz (v:=102) .Ds (I:=jB) (by kernel_rfl) rfl fun C=>oh C aag agJ
theorem aoU:oJ (jG 124):=jz (v:=124) .vv (I:=mX) (by kernel_rfl) rfl fun C=>pQ C ZG agr
theorem aoV:oJ (jG 125):=jz (v:=125) .vv (I:=mX) (by kernel_rfl) rfl fun C=>pQ C ZS agE
theorem aoW:oJ (jG 126):=jz (v:=126) .vv (I:=mX) (by kernel_rfl) rfl fun C=>pQ C Z4 agT
theorem aoX:oJ (jG 127):=jz (v:=127) .vv (I:=mX) (by kernel_rfl) rfl fun C=>pQ C aaf ag7
theorem aoY:oJ (jG 130):=jz (v:=130) .Ds (I:=jB) (by kernel_rfl) rfl fun C=>oh C ZH agX
theorem aoZ:oJ (jG 131):=⟨tD,2,1,.te,(uj (v:=131) (I:=tD) (by kernel_rfl) rfl).c,xq (wD (v:=131) (I:=tD) (by kernel_rfl) rfl) fun ya=>M5 ya (w:=16) (m:=3) (.inr (.inl rfl)) (.inl rfl)⟩
theorem ao0:oJ (jG 132):=⟨tD,2,1,.te,(uj (v:=132) (I:=tD) (by kernel_rfl) rfl).c,xq (wD (v:=132) (I:=tD) (by kernel_rfl) rfl) fun ya=>M5 ya (w:=16) (m:=4) (.inr (.inl rfl)) (.inr rfl)⟩
theorem ao1:oJ (jG 133):=jz (v:=133) .Ds (I:=jB) (by kernel_rfl) rfl fun C=>oh C ZI aha
theorem ao2:oJ (jG 134):=jz (v:=134) .Ds (I:=jB) (by kernel_rfl) rfl fun C=>oh C ZU agw
theorem ao3:oJ (jG 135):=jz (v:=135) .vv (I:=mX) (by kernel_rfl) rfl fun C=>pQ C ZA ags
theorem ao4:oJ (jG 136):=jz (v:=136) .vv (I:=mX) (by kernel_rfl) rfl fun C=>pQ C ZY agG
theorem ao5:oJ (jG 137):=jz (v:=137) .vv (I:=mX) (by kernel_rfl) rfl fun C=>pQ C ZB agU
theorem ao6:oJ (jG 138):=jz (v:=138) .vv (I:=mX) (by kernel_rfl) rfl fun C=>pQ C ZZ ag8
theorem ao7:oJ (jG 156):=jz (v:=156) .Ds (I:=jB) (by kernel_rfl) rfl fun C=>oh C ZM agK
theorem ao8:oJ (jG 157):=jz (v:=157) .Ds (I:=jB) (by kernel_rfl) rfl fun C=>oh C Z' agY
theorem ao9:oJ (jG 158):=jz (v:=158) .Ds (I:=jB) (by kernel_rfl) rfl fun C=>oh C ZN ahb
theorem ao':oJ (jG 159):=jz (v:=159) .Ds (I:=jB) (by kernel_rfl) rfl fun C=>oh C aaa agx
theorem apa:oJ (jG 163):=⟨tD,2,1,.te,(uj (v:=163) (I:=tD) (by kernel_rfl) rfl).c,xq (wD (v:=163) (I:=tD) (by kernel_rfl) rfl) fun ya=>M5 ya (w:=32) (m:=3) (.inr (.inr (.inl rfl))) (.inl rfl)⟩
theorem apb:oJ (jG 164):=⟨tD,2,1,.te,(uj (v:=164) (I:=tD) (by kernel_rfl) rfl).c,xq (wD (v:=164) (I:=tD) (by kernel_rfl) rfl) fun ya=>M5 ya (w:=32) (m:=4) (.inr (.inr (.inl rfl))) (.inr rfl)⟩
theorem apc:oJ (jG 167):=jz (v:=167) .vv (I:=mX) (by kernel_rfl) rfl fun C=>pQ C ZC agt
theorem apd:oJ (jG 168):=jz (v:=168) .vv (I:=mX) (by kernel_rfl) rfl fun C=>pQ C Z0 agH
theorem ape:oJ (jG 169):=jz (v:=169) .vv (I:=mX) (by kernel_rfl) rfl fun C=>pQ C ZD agV
theorem apf:oJ (jG 170):=jz (v:=170) .vv (I:=mX) (by kernel_rfl) rfl fun C=>pQ C Z1 ag9
theorem apg:oJ (jG 186):=jz (v:=186) .Ds (I:=jB) (by kernel_rfl) rfl fun C=>oh C ZT agL
theorem aph:oJ (jG 188):=jz (v:=188) .Ds (I:=jB) (by kernel_rfl) rfl fun C=>oh C ZO agZ
theorem api:oJ (jG 189):=jz (v:=189) .Ds (I:=jB) (by kernel_rfl) rfl fun C=>oh C aab ahc
theorem apj:oJ (jG 190):=jz (v:=190) .Ds (I:=jB) (by kernel_rfl) rfl fun C=>oh C ZP agy
theorem apk:oJ (jG 191):=jz (v:=191) .Ds (I:=jB) (by kernel_rfl) rfl fun C=>oh C aac agM
theorem apl:oJ (jG 195):=⟨tD,2,1,.te,(uj (v:=195) (I:=tD) (by kernel_rfl) rfl).c,xq (wD (v:=195) (I:=tD) (by kernel_rfl) rfl) fun ya=>M5 ya (w:=64) (m:=3) (.inr (.inr (.inr rfl))) (.inl rfl)⟩
theorem apm:oJ (jG 196):=⟨tD,2,1,.te,(uj (v:=196) (I:=tD) (by kernel_rfl) rfl).c,xq (wD (v:=196) (I:=tD) (by kernel_rfl) rfl) fun ya=>M5 ya (w:=64) (m:=4) (.inr (.inr (.inr rfl))) (.inr rfl)⟩
theorem apn:oJ (jG 199):=jz (v:=199) .vv (I:=mX) (by kernel_rfl) rfl fun C=>pQ C ZE agu
theorem apo:oJ (jG 200):=jz (v:=200) .vv (I:=mX) (by kernel_rfl) rfl fun C=>pQ C Z2 agI
theorem apq:oJ (jG 201):=jz (v:=201) .vv (I:=mX) (by kernel_rfl) rfl fun C=>pQ C ZF agW
theorem apr:oJ (jG 202):=jz (v:=202) .vv (I:=mX) (by kernel_rfl) rfl fun C=>pQ C Z3 ag'
theorem aps:oJ (jG 220):=jz (v:=220) .Ds (I:=jB) (by kernel_rfl) rfl fun C=>oh C ZQ ag0
theorem apt:oJ (jG 221):=jz (v:=221) .Ds (I:=jB) (by kernel_rfl) rfl fun C=>oh C aad ahd
theorem apu:oJ (jG 222):=jz (v:=222) .Ds (I:=jB) (by kernel_rfl) rfl fun C=>oh C ZR agz
theorem apv:oJ (jG 223):=jz (v:=223) .Ds (I:=jB) (by kernel_rfl) rfl fun C=>oh C aae agN
def lits:List Nat:=[12,13,14,15,16,17,18,21,22,23,24,25,26,27,28,29,30,77,78,79,80,81,82,83,99,100,101,102,124,125,126,127,130,131,132,133,134,135,136,137,138,156,157,158,159,163,164,167,168,169,170,186,188,189,190,191,195,196,199,200,201,202,220,221,222,223]
theorem ahr:AlO (fun v=>oJ (jG v)) lits:=.cons avN<| .cons avO<| .cons avP<| .cons avQ<| .cons avR<| .cons avS<| .cons avT<| .cons avU<| .cons avV<| .cons avW<| .cons avX<| .cons avY<| .cons avZ<| .cons av0<| .cons av1<| .cons av2<| .cons av3<| .cons av4<| .cons av5<| .cons av6<| .cons av7<| .cons av8<| .cons av9<| .cons av'<| .cons awa<| .cons aoR<| .cons aoS<| .cons aoT<| .cons aoU<| .cons aoV<| .cons aoW<| .cons aoX<| .cons aoY<| .cons aoZ<| .cons ao0<| .cons ao1<| .cons ao2<| .cons ao3<| .cons ao4<| .cons ao5<| .cons ao6<| .cons ao7<| .cons ao8<| .cons ao9<| .cons ao'<| .cons apa<| .cons apb<| .cons apc<| .cons apd<| .cons ape<| .cons apf<| .cons apg<| .cons aph<| .cons api<| .cons apj<| .cons apk<| .cons apl<| .cons apm<| .cons apn<| .cons apo<| .cons apq<| .cons apr<| .cons aps<| .cons apt<| .cons apu<| .cons apv<| .nil
def isV(v:Nat):Bool:=zn (jG v)&&(!decide ((kZ (jG v)).1=7)&& !decide ((kZ (jG v)).1=8))
def bV(v:Nat):Bool:= !isV v||(aoK v||(aoL v||(bUn v||(bSh v||lits.any (fun o=>Nat.beq o v)))))
theorem apw:(List.range 256).all bV=true:=by kernel_rfl
theorem ahs{v:Nat}(hv:v<256)(h:isV v=true):oJ (jG v):=by
 have q:=List.all_eq_true.1 apw v (List.mem_range.2 hv);unfold bV at q;rw[h]at q;simp only[Bool.not_true,Bool.false_or,Bool.or_eq_true]at q
 rcases q with q|q|q|q|q
 ·exact ahp hv q
 ·exact ahq hv q
 ·exact aoM hv q
 ·exact aoN hv q
 ·obtain⟨o,m1,m2⟩:=List.any_eq_true.1 q;rw[<-Nat.eq_of_beq_eq_true m2];exact ahr.get o m1
end Go.Proofs.Vv
