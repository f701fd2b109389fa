import Derived.Test.YtmicbanhfcibjaaGreatDoorAb16
namespace Go.Ab
def p0 : Opd := fun t => t.a0.a0.a0
def s0 : SetF := fun v t => ⟨⟨⟨some v, t.a0.a0.a1, t.a0.a0.a2, t.a0.a0.a3, t.a0.a0.a4, t.a0.a0.a5, t.a0.a0.a6, t.a0.a0.a7⟩, t.a0.a1, t.a0.a2, t.a0.a3, t.a0.a4, t.a0.a5, t.a0.a6, t.a0.a7⟩, t.a1, t.a2, t.a3, t.a4, t.a5, t.a6, t.a7⟩
def p1 : Opd := fun t => t.a0.a0.a1
def s1 : SetF := fun v t => ⟨⟨⟨t.a0.a0.a0, some v, t.a0.a0.a2, t.a0.a0.a3, t.a0.a0.a4, t.a0.a0.a5, t.a0.a0.a6, t.a0.a0.a7⟩, t.a0.a1, t.a0.a2, t.a0.a3, t.a0.a4, t.a0.a5, t.a0.a6, t.a0.a7⟩, t.a1, t.a2, t.a3, t.a4, t.a5, t.a6, t.a7⟩
def p2 : Opd := fun t => t.a0.a0.a2
def s2 : SetF := fun v t => ⟨⟨⟨t.a0.a0.a0, t.a0.a0.a1, some v, t.a0.a0.a3, t.a0.a0.a4, t.a0.a0.a5, t.a0.a0.a6, t.a0.a0.a7⟩, t.a0.a1, t.a0.a2, t.a0.a3, t.a0.a4, t.a0.a5, t.a0.a6, t.a0.a7⟩, t.a1, t.a2, t.a3, t.a4, t.a5, t.a6, t.a7⟩
def p3 : Opd := fun t => t.a0.a0.a3
def s3 : SetF := fun v t => ⟨⟨⟨t.a0.a0.a0, t.a0.a0.a1, t.a0.a0.a2, some v, t.a0.a0.a4, t.a0.a0.a5, t.a0.a0.a6, t.a0.a0.a7⟩, t.a0.a1, t.a0.a2, t.a0.a3, t.a0.a4, t.a0.a5, t.a0.a6, t.a0.a7⟩, t.a1, t.a2, t.a3, t.a4, t.a5, t.a6, t.a7⟩
def p4 : Opd := fun t => t.a0.a0.a4
def s4 : SetF := fun v t => ⟨⟨⟨t.a0.a0.a0, t.a0.a0.a1, t.a0.a0.a2, t.a0.a0.a3, some v, t.a0.a0.a5, t.a0.a0.a6, t.a0.a0.a7⟩, t.a0.a1, t.a0.a2, t.a0.a3, t.a0.a4, t.a0.a5, t.a0.a6, t.a0.a7⟩, t.a1, t.a2, t.a3, t.a4, t.a5, t.a6, t.a7⟩
def p5 : Opd := fun t => t.a0.a0.a5
def s5 : SetF := fun v t => ⟨⟨⟨t.a0.a0.a0, t.a0.a0.a1, t.a0.a0.a2, t.a0.a0.a3, t.a0.a0.a4, some v, t.a0.a0.a6, t.a0.a0.a7⟩, t.a0.a1, t.a0.a2, t.a0.a3, t.a0.a4, t.a0.a5, t.a0.a6, t.a0.a7⟩, t.a1, t.a2, t.a3, t.a4, t.a5, t.a6, t.a7⟩
def p6 : Opd := fun t => t.a0.a0.a6
def s6 : SetF := fun v t => ⟨⟨⟨t.a0.a0.a0, t.a0.a0.a1, t.a0.a0.a2, t.a0.a0.a3, t.a0.a0.a4, t.a0.a0.a5, some v, t.a0.a0.a7⟩, t.a0.a1, t.a0.a2, t.a0.a3, t.a0.a4, t.a0.a5, t.a0.a6, t.a0.a7⟩, t.a1, t.a2, t.a3, t.a4, t.a5, t.a6, t.a7⟩
def p7 : Opd := fun t => t.a0.a0.a7
def s7 : SetF := fun v t => ⟨⟨⟨t.a0.a0.a0, t.a0.a0.a1, t.a0.a0.a2, t.a0.a0.a3, t.a0.a0.a4, t.a0.a0.a5, t.a0.a0.a6, some v⟩, t.a0.a1, t.a0.a2, t.a0.a3, t.a0.a4, t.a0.a5, t.a0.a6, t.a0.a7⟩, t.a1, t.a2, t.a3, t.a4, t.a5, t.a6, t.a7⟩
def p8 : Opd := fun t => t.a0.a1.a0
def s8 : SetF := fun v t => ⟨⟨t.a0.a0, ⟨some v, t.a0.a1.a1, t.a0.a1.a2, t.a0.a1.a3, t.a0.a1.a4, t.a0.a1.a5, t.a0.a1.a6, t.a0.a1.a7⟩, t.a0.a2, t.a0.a3, t.a0.a4, t.a0.a5, t.a0.a6, t.a0.a7⟩, t.a1, t.a2, t.a3, t.a4, t.a5, t.a6, t.a7⟩
def p9 : Opd := fun t => t.a0.a1.a1
def s9 : SetF := fun v t => ⟨⟨t.a0.a0, ⟨t.a0.a1.a0, some v, t.a0.a1.a2, t.a0.a1.a3, t.a0.a1.a4, t.a0.a1.a5, t.a0.a1.a6, t.a0.a1.a7⟩, t.a0.a2, t.a0.a3, t.a0.a4, t.a0.a5, t.a0.a6, t.a0.a7⟩, t.a1, t.a2, t.a3, t.a4, t.a5, t.a6, t.a7⟩
def p10 : Opd := fun t => t.a0.a1.a2
def s10 : SetF := fun v t => ⟨⟨t.a0.a0, ⟨t.a0.a1.a0, t.a0.a1.a1, some v, t.a0.a1.a3, t.a0.a1.a4, t.a0.a1.a5, t.a0.a1.a6, t.a0.a1.a7⟩, t.a0.a2, t.a0.a3, t.a0.a4, t.a0.a5, t.a0.a6, t.a0.a7⟩, t.a1, t.a2, t.a3, t.a4, t.a5, t.a6, t.a7⟩
def p11 : Opd := fun t => t.a0.a1.a3
def s11 : SetF := fun v t => ⟨⟨t.a0.a0, ⟨t.a0.a1.a0, t.a0.a1.a1, t.a0.a1.a2, some v, t.a0.a1.a4, t.a0.a1.a5, t.a0.a1.a6, t.a0.a1.a7⟩, t.a0.a2, t.a0.a3, t.a0.a4, t.a0.a5, t.a0.a6, t.a0.a7⟩, t.a1, t.a2, t.a3, t.a4, t.a5, t.a6, t.a7⟩
def p12 : Opd := fun t => t.a0.a1.a4
def s12 : SetF := fun v t => ⟨⟨t.a0.a0, ⟨t.a0.a1.a0, t.a0.a1.a1, t.a0.a1.a2, t.a0.a1.a3, some v, t.a0.a1.a5, t.a0.a1.a6, t.a0.a1.a7⟩, t.a0.a2, t.a0.a3, t.a0.a4, t.a0.a5, t.a0.a6, t.a0.a7⟩, t.a1, t.a2, t.a3, t.a4, t.a5, t.a6, t.a7⟩
def p13 : Opd := fun t => t.a0.a1.a5
def s13 : SetF := fun v t => ⟨⟨t.a0.a0, ⟨t.a0.a1.a0, t.a0.a1.a1, t.a0.a1.a2, t.a0.a1.a3, t.a0.a1.a4, some v, t.a0.a1.a6, t.a0.a1.a7⟩, t.a0.a2, t.a0.a3, t.a0.a4, t.a0.a5, t.a0.a6, t.a0.a7⟩, t.a1, t.a2, t.a3, t.a4, t.a5, t.a6, t.a7⟩
def p14 : Opd := fun t => t.a0.a1.a6
def s14 : SetF := fun v t => ⟨⟨t.a0.a0, ⟨t.a0.a1.a0, t.a0.a1.a1, t.a0.a1.a2, t.a0.a1.a3, t.a0.a1.a4, t.a0.a1.a5, some v, t.a0.a1.a7⟩, t.a0.a2, t.a0.a3, t.a0.a4, t.a0.a5, t.a0.a6, t.a0.a7⟩, t.a1, t.a2, t.a3, t.a4, t.a5, t.a6, t.a7⟩
def p15 : Opd := fun t => t.a0.a1.a7
def s15 : SetF := fun v t => ⟨⟨t.a0.a0, ⟨t.a0.a1.a0, t.a0.a1.a1, t.a0.a1.a2, t.a0.a1.a3, t.a0.a1.a4, t.a0.a1.a5, t.a0.a1.a6, some v⟩, t.a0.a2, t.a0.a3, t.a0.a4, t.a0.a5, t.a0.a6, t.a0.a7⟩, t.a1, t.a2, t.a3, t.a4, t.a5, t.a6, t.a7⟩
def p16 : Opd := fun t => t.a0.a2.a0
def s16 : SetF := fun v t => ⟨⟨t.a0.a0, t.a0.a1, ⟨some v, t.a0.a2.a1, t.a0.a2.a2, t.a0.a2.a3, t.a0.a2.a4, t.a0.a2.a5, t.a0.a2.a6, t.a0.a2.a7⟩, t.a0.a3, t.a0.a4, t.a0.a5, t.a0.a6, t.a0.a7⟩, t.a1, t.a2, t.a3, t.a4, t.a5, t.a6, t.a7⟩
def p17 : Opd := fun t => t.a0.a2.a1
def s17 : SetF := fun v t => ⟨⟨t.a0.a0, t.a0.a1, ⟨t.a0.a2.a0, some v, t.a0.a2.a2, t.a0.a2.a3, t.a0.a2.a4, t.a0.a2.a5, t.a0.a2.a6, t.a0.a2.a7⟩, t.a0.a3, t.a0.a4, t.a0.a5, t.a0.a6, t.a0.a7⟩, t.a1, t.a2, t.a3, t.a4, t.a5, t.a6, t.a7⟩
def p18 : Opd := fun t => t.a0.a2.a2
def s18 : SetF := fun v t => ⟨⟨t.a0.a0, t.a0.a1, ⟨t.a0.a2.a0, t.a0.a2.a1, some v, t.a0.a2.a3, t.a0.a2.a4, t.a0.a2.a5, t.a0.a2.a6, t.a0.a2.a7⟩, t.a0.a3, t.a0.a4, t.a0.a5, t.a0.a6, t.a0.a7⟩, t.a1, t.a2, t.a3, t.a4, t.a5, t.a6, t.a7⟩
def p19 : Opd := fun t => t.a0.a2.a3
def s19 : SetF := fun v t => ⟨⟨t.a0.a0, t.a0.a1, ⟨t.a0.a2.a0, t.a0.a2.a1, t.a0.a2.a2, some v, t.a0.a2.a4, t.a0.a2.a5, t.a0.a2.a6, t.a0.a2.a7⟩, t.a0.a3, t.a0.a4, t.a0.a5, t.a0.a6, t.a0.a7⟩, t.a1, t.a2, t.a3, t.a4, t.a5, t.a6, t.a7⟩
def p20 : Opd := fun t => t.a0.a2.a4
def s20 : SetF := fun v t => ⟨⟨t.a0.a0, t.a0.a1, ⟨t.a0.a2.a0, t.a0.a2.a1, t.a0.a2.a2, t.a0.a2.a3, some v, t.a0.a2.a5, t.a0.a2.a6, t.a0.a2.a7⟩, t.a0.a3, t.a0.a4, t.a0.a5, t.a0.a6, t.a0.a7⟩, t.a1, t.a2, t.a3, t.a4, t.a5, t.a6, t.a7⟩
def p21 : Opd := fun t => t.a0.a2.a5
def s21 : SetF := fun v t => ⟨⟨t.a0.a0, t.a0.a1, ⟨t.a0.a2.a0, t.a0.a2.a1, t.a0.a2.a2, t.a0.a2.a3, t.a0.a2.a4, some v, t.a0.a2.a6, t.a0.a2.a7⟩, t.a0.a3, t.a0.a4, t.a0.a5, t.a0.a6, t.a0.a7⟩, t.a1, t.a2, t.a3, t.a4, t.a5, t.a6, t.a7⟩
def p22 : Opd := fun t => t.a0.a2.a6
def s22 : SetF := fun v t => ⟨⟨t.a0.a0, t.a0.a1, ⟨t.a0.a2.a0, t.a0.a2.a1, t.a0.a2.a2, t.a0.a2.a3, t.a0.a2.a4, t.a0.a2.a5, some v, t.a0.a2.a7⟩, t.a0.a3, t.a0.a4, t.a0.a5, t.a0.a6, t.a0.a7⟩, t.a1, t.a2, t.a3, t.a4, t.a5, t.a6, t.a7⟩
def p23 : Opd := fun t => t.a0.a2.a7
def s23 : SetF := fun v t => ⟨⟨t.a0.a0, t.a0.a1, ⟨t.a0.a2.a0, t.a0.a2.a1, t.a0.a2.a2, t.a0.a2.a3, t.a0.a2.a4, t.a0.a2.a5, t.a0.a2.a6, some v⟩, t.a0.a3, t.a0.a4, t.a0.a5, t.a0.a6, t.a0.a7⟩, t.a1, t.a2, t.a3, t.a4, t.a5, t.a6, t.a7⟩
def p24 : Opd := fun t => t.a0.a3.a0
def s24 : SetF := fun v t => ⟨⟨t.a0.a0, t.a0.a1, t.a0.a2, ⟨some v, t.a0.a3.a1, t.a0.a3.a2, t.a0.a3.a3, t.a0.a3.a4, t.a0.a3.a5, t.a0.a3.a6, t.a0.a3.a7⟩, t.a0.a4, t.a0.a5, t.a0.a6, t.a0.a7⟩, t.a1, t.a2, t.a3, t.a4, t.a5, t.a6, t.a7⟩
def p25 : Opd := fun t => t.a0.a3.a1
def s25 : SetF := fun v t => ⟨⟨t.a0.a0, t.a0.a1, t.a0.a2, ⟨t.a0.a3.a0, some v, t.a0.a3.a2, t.a0.a3.a3, t.a0.a3.a4, t.a0.a3.a5, t.a0.a3.a6, t.a0.a3.a7⟩, t.a0.a4, t.a0.a5, t.a0.a6, t.a0.a7⟩, t.a1, t.a2, t.a3, t.a4, t.a5, t.a6, t.a7⟩
def p26 : Opd := fun t => t.a0.a3.a2
def s26 : SetF := fun v t => ⟨⟨t.a0.a0, t.a0.a1, t.a0.a2, ⟨t.a0.a3.a0, t.a0.a3.a1, some v, t.a0.a3.a3, t.a0.a3.a4, t.a0.a3.a5, t.a0.a3.a6, t.a0.a3.a7⟩, t.a0.a4, t.a0.a5, t.a0.a6, t.a0.a7⟩, t.a1, t.a2, t.a3, t.a4, t.a5, t.a6, t.a7⟩
def p27 : Opd := fun t => t.a0.a3.a3
def s27 : SetF := fun v t => ⟨⟨t.a0.a0, t.a0.a1, t.a0.a2, ⟨t.a0.a3.a0, t.a0.a3.a1, t.a0.a3.a2, some v, t.a0.a3.a4, t.a0.a3.a5, t.a0.a3.a6, t.a0.a3.a7⟩, t.a0.a4, t.a0.a5, t.a0.a6, t.a0.a7⟩, t.a1, t.a2, t.a3, t.a4, t.a5, t.a6, t.a7⟩
def p28 : Opd := fun t => t.a0.a3.a4
def s28 : SetF := fun v t => ⟨⟨t.a0.a0, t.a0.a1, t.a0.a2, ⟨t.a0.a3.a0, t.a0.a3.a1, t.a0.a3.a2, t.a0.a3.a3, some v, t.a0.a3.a5, t.a0.a3.a6, t.a0.a3.a7⟩, t.a0.a4, t.a0.a5, t.a0.a6, t.a0.a7⟩, t.a1, t.a2, t.a3, t.a4, t.a5, t.a6, t.a7⟩
def p29 : Opd := fun t => t.a0.a3.a5
def s29 : SetF := fun v t => ⟨⟨t.a0.a0, t.a0.a1, t.a0.a2, ⟨t.a0.a3.a0, t.a0.a3.a1, t.a0.a3.a2, t.a0.a3.a3, t.a0.a3.a4, some v, t.a0.a3.a6, t.a0.a3.a7⟩, t.a0.a4, t.a0.a5, t.a0.a6, t.a0.a7⟩, t.a1, t.a2, t.a3, t.a4, t.a5, t.a6, t.a7⟩
def p30 : Opd := fun t => t.a0.a3.a6
def s30 : SetF := fun v t => ⟨⟨t.a0.a0, t.a0.a1, t.a0.a2, ⟨t.a0.a3.a0, t.a0.a3.a1, t.a0.a3.a2, t.a0.a3.a3, t.a0.a3.a4, t.a0.a3.a5, some v, t.a0.a3.a7⟩, t.a0.a4, t.a0.a5, t.a0.a6, t.a0.a7⟩, t.a1, t.a2, t.a3, t.a4, t.a5, t.a6, t.a7⟩
def p31 : Opd := fun t => t.a0.a3.a7
def s31 : SetF := fun v t => ⟨⟨t.a0.a0, t.a0.a1, t.a0.a2, ⟨t.a0.a3.a0, t.a0.a3.a1, t.a0.a3.a2, t.a0.a3.a3, t.a0.a3.a4, t.a0.a3.a5, t.a0.a3.a6, some v⟩, t.a0.a4, t.a0.a5, t.a0.a6, t.a0.a7⟩, t.a1, t.a2, t.a3, t.a4, t.a5, t.a6, t.a7⟩
def p32 : Opd := fun t => t.a0.a4.a0
def s32 : SetF := fun v t => ⟨⟨t.a0.a0, t.a0.a1, t.a0.a2, t.a0.a3, ⟨some v, t.a0.a4.a1, t.a0.a4.a2, t.a0.a4.a3, t.a0.a4.a4, t.a0.a4.a5, t.a0.a4.a6, t.a0.a4.a7⟩, t.a0.a5, t.a0.a6, t.a0.a7⟩, t.a1, t.a2, t.a3, t.a4, t.a5, t.a6, t.a7⟩
def p33 : Opd := fun t => t.a0.a4.a1
def s33 : SetF := fun v t => ⟨⟨t.a0.a0, t.a0.a1, t.a0.a2, t.a0.a3, ⟨t.a0.a4.a0, some v, t.a0.a4.a2, t.a0.a4.a3, t.a0.a4.a4, t.a0.a4.a5, t.a0.a4.a6, t.a0.a4.a7⟩, t.a0.a5, t.a0.a6, t.a0.a7⟩, t.a1, t.a2, t.a3, t.a4, t.a5, t.a6, t.a7⟩
def p34 : Opd := fun t => t.a0.a4.a2
def s34 : SetF := fun v t => ⟨⟨t.a0.a0, t.a0.a1, t.a0.a2, t.a0.a3, ⟨t.a0.a4.a0, t.a0.a4.a1, some v, t.a0.a4.a3, t.a0.a4.a4, t.a0.a4.a5, t.a0.a4.a6, t.a0.a4.a7⟩, t.a0.a5, t.a0.a6, t.a0.a7⟩, t.a1, t.a2, t.a3, t.a4, t.a5, t.a6, t.a7⟩
def p35 : Opd := fun t => t.a0.a4.a3
def s35 : SetF := fun v t => ⟨⟨t.a0.a0, t.a0.a1, t.a0.a2, t.a0.a3, ⟨t.a0.a4.a0, t.a0.a4.a1, t.a0.a4.a2, some v, t.a0.a4.a4, t.a0.a4.a5, t.a0.a4.a6, t.a0.a4.a7⟩, t.a0.a5, t.a0.a6, t.a0.a7⟩, t.a1, t.a2, t.a3, t.a4, t.a5, t.a6, t.a7⟩
def p36 : Opd := fun t => t.a0.a4.a4
def s36 : SetF := fun v t => ⟨⟨t.a0.a0, t.a0.a1, t.a0.a2, t.a0.a3, ⟨t.a0.a4.a0, t.a0.a4.a1, t.a0.a4.a2, t.a0.a4.a3, some v, t.a0.a4.a5, t.a0.a4.a6, t.a0.a4.a7⟩, t.a0.a5, t.a0.a6, t.a0.a7⟩, t.a1, t.a2, t.a3, t.a4, t.a5, t.a6, t.a7⟩
def p37 : Opd := fun t => t.a0.a4.a5
def s37 : SetF := fun v t => ⟨⟨t.a0.a0, t.a0.a1, t.a0.a2, t.a0.a3, ⟨t.a0.a4.a0, t.a0.a4.a1, t.a0.a4.a2, t.a0.a4.a3, t.a0.a4.a4, some v, t.a0.a4.a6, t.a0.a4.a7⟩, t.a0.a5, t.a0.a6, t.a0.a7⟩, t.a1, t.a2, t.a3, t.a4, t.a5, t.a6, t.a7⟩
def p38 : Opd := fun t => t.a0.a4.a6
def s38 : SetF := fun v t => ⟨⟨t.a0.a0, t.a0.a1, t.a0.a2, t.a0.a3, ⟨t.a0.a4.a0, t.a0.a4.a1, t.a0.a4.a2, t.a0.a4.a3, t.a0.a4.a4, t.a0.a4.a5, some v, t.a0.a4.a7⟩, t.a0.a5, t.a0.a6, t.a0.a7⟩, t.a1, t.a2, t.a3, t.a4, t.a5, t.a6, t.a7⟩
def p39 : Opd := fun t => t.a0.a4.a7
def s39 : SetF := fun v t => ⟨⟨t.a0.a0, t.a0.a1, t.a0.a2, t.a0.a3, ⟨t.a0.a4.a0, t.a0.a4.a1, t.a0.a4.a2, t.a0.a4.a3, t.a0.a4.a4, t.a0.a4.a5, t.a0.a4.a6, some v⟩, t.a0.a5, t.a0.a6, t.a0.a7⟩, t.a1, t.a2, t.a3, t.a4, t.a5, t.a6, t.a7⟩
def p40 : Opd := fun t => t.a0.a5.a0
def s40 : SetF := fun v t => ⟨⟨t.a0.a0, t.a0.a1, t.a0.a2, t.a0.a3, t.a0.a4, ⟨some v, t.a0.a5.a1, t.a0.a5.a2, t.a0.a5.a3, t.a0.a5.a4, t.a0.a5.a5, t.a0.a5.a6, t.a0.a5.a7⟩, t.a0.a6, t.a0.a7⟩, t.a1, t.a2, t.a3, t.a4, t.a5, t.a6, t.a7⟩
def p41 : Opd := fun t => t.a0.a5.a1
def s41 : SetF := fun v t => ⟨⟨t.a0.a0, t.a0.a1, t.a0.a2, t.a0.a3, t.a0.a4, ⟨t.a0.a5.a0, some v, t.a0.a5.a2, t.a0.a5.a3, t.a0.a5.a4, t.a0.a5.a5, t.a0.a5.a6, t.a0.a5.a7⟩, t.a0.a6, t.a0.a7⟩, t.a1, t.a2, t.a3, t.a4, t.a5, t.a6, t.a7⟩
def p42 : Opd := fun t => t.a0.a5.a2
def s42 : SetF := fun v t => ⟨⟨t.a0.a0, t.a0.a1, t.a0.a2, t.a0.a3, t.a0.a4, ⟨t.a0.a5.a0, t.a0.a5.a1, some v, t.a0.a5.a3, t.a0.a5.a4, t.a0.a5.a5, t.a0.a5.a6, t.a0.a5.a7⟩, t.a0.a6, t.a0.a7⟩, t.a1, t.a2, t.a3, t.a4, t.a5, t.a6, t.a7⟩
def p43 : Opd := fun t => t.a0.a5.a3
def s43 : SetF := fun v t => ⟨⟨t.a0.a0, t.a0.a1, t.a0.a2, t.a0.a3, t.a0.a4, ⟨t.a0.a5.a0, t.a0.a5.a1, t.a0.a5.a2, some v, t.a0.a5.a4, t.a0.a5.a5, t.a0.a5.a6, t.a0.a5.a7⟩, t.a0.a6, t.a0.a7⟩, t.a1, t.a2, t.a3, t.a4, t.a5, t.a6, t.a7⟩
def p44 : Opd := fun t => t.a0.a5.a4
def s44 : SetF := fun v t => ⟨⟨t.a0.a0, t.a0.a1, t.a0.a2, t.a0.a3, t.a0.a4, ⟨t.a0.a5.a0, t.a0.a5.a1, t.a0.a5.a2, t.a0.a5.a3, some v, t.a0.a5.a5, t.a0.a5.a6, t.a0.a5.a7⟩, t.a0.a6, t.a0.a7⟩, t.a1, t.a2, t.a3, t.a4, t.a5, t.a6, t.a7⟩
def p45 : Opd := fun t => t.a0.a5.a5
def s45 : SetF := fun v t => ⟨⟨t.a0.a0, t.a0.a1, t.a0.a2, t.a0.a3, t.a0.a4, ⟨t.a0.a5.a0, t.a0.a5.a1, t.a0.a5.a2, t.a0.a5.a3, t.a0.a5.a4, some v, t.a0.a5.a6, t.a0.a5.a7⟩, t.a0.a6, t.a0.a7⟩, t.a1, t.a2, t.a3, t.a4, t.a5, t.a6, t.a7⟩
def p46 : Opd := fun t => t.a0.a5.a6
def s46 : SetF := fun v t => ⟨⟨t.a0.a0, t.a0.a1, t.a0.a2, t.a0.a3, t.a0.a4, ⟨t.a0.a5.a0, t.a0.a5.a1, t.a0.a5.a2, t.a0.a5.a3, t.a0.a5.a4, t.a0.a5.a5, some v, t.a0.a5.a7⟩, t.a0.a6, t.a0.a7⟩, t.a1, t.a2, t.a3, t.a4, t.a5, t.a6, t.a7⟩
def p47 : Opd := fun t => t.a0.a5.a7
def s47 : SetF := fun v t => ⟨⟨t.a0.a0, t.a0.a1, t.a0.a2, t.a0.a3, t.a0.a4, ⟨t.a0.a5.a0, t.a0.a5.a1, t.a0.a5.a2, t.a0.a5.a3, t.a0.a5.a4, t.a0.a5.a5, t.a0.a5.a6, some v⟩, t.a0.a6, t.a0.a7⟩, t.a1, t.a2, t.a3, t.a4, t.a5, t.a6, t.a7⟩
def p48 : Opd := fun t => t.a0.a6.a0
def s48 : SetF := fun v t => ⟨⟨t.a0.a0, t.a0.a1, t.a0.a2, t.a0.a3, t.a0.a4, t.a0.a5, ⟨some v, t.a0.a6.a1, t.a0.a6.a2, t.a0.a6.a3, t.a0.a6.a4, t.a0.a6.a5, t.a0.a6.a6, t.a0.a6.a7⟩, t.a0.a7⟩, t.a1, t.a2, t.a3, t.a4, t.a5, t.a6, t.a7⟩
def p49 : Opd := fun t => t.a0.a6.a1
def s49 : SetF := fun v t => ⟨⟨t.a0.a0, t.a0.a1, t.a0.a2, t.a0.a3, t.a0.a4, t.a0.a5, ⟨t.a0.a6.a0, some v, t.a0.a6.a2, t.a0.a6.a3, t.a0.a6.a4, t.a0.a6.a5, t.a0.a6.a6, t.a0.a6.a7⟩, t.a0.a7⟩, t.a1, t.a2, t.a3, t.a4, t.a5, t.a6, t.a7⟩
def p50 : Opd := fun t => t.a0.a6.a2
def s50 : SetF := fun v t => ⟨⟨t.a0.a0, t.a0.a1, t.a0.a2, t.a0.a3, t.a0.a4, t.a0.a5, ⟨t.a0.a6.a0, t.a0.a6.a1, some v, t.a0.a6.a3, t.a0.a6.a4, t.a0.a6.a5, t.a0.a6.a6, t.a0.a6.a7⟩, t.a0.a7⟩, t.a1, t.a2, t.a3, t.a4, t.a5, t.a6, t.a7⟩
def p51 : Opd := fun t => t.a0.a6.a3
def s51 : SetF := fun v t => ⟨⟨t.a0.a0, t.a0.a1, t.a0.a2, t.a0.a3, t.a0.a4, t.a0.a5, ⟨t.a0.a6.a0, t.a0.a6.a1, t.a0.a6.a2, some v, t.a0.a6.a4, t.a0.a6.a5, t.a0.a6.a6, t.a0.a6.a7⟩, t.a0.a7⟩, t.a1, t.a2, t.a3, t.a4, t.a5, t.a6, t.a7⟩
def p52 : Opd := fun t => t.a0.a6.a4
def s52 : SetF := fun v t => ⟨⟨t.a0.a0, t.a0.a1, t.a0.a2, t.a0.a3, t.a0.a4, t.a0.a5, ⟨t.a0.a6.a0, t.a0.a6.a1, t.a0.a6.a2, t.a0.a6.a3, some v, t.a0.a6.a5, t.a0.a6.a6, t.a0.a6.a7⟩, t.a0.a7⟩, t.a1, t.a2, t.a3, t.a4, t.a5, t.a6, t.a7⟩
def p53 : Opd := fun t => t.a0.a6.a5
def s53 : SetF := fun v t => ⟨⟨t.a0.a0, t.a0.a1, t.a0.a2, t.a0.a3, t.a0.a4, t.a0.a5, ⟨t.a0.a6.a0, t.a0.a6.a1, t.a0.a6.a2, t.a0.a6.a3, t.a0.a6.a4, some v, t.a0.a6.a6, t.a0.a6.a7⟩, t.a0.a7⟩, t.a1, t.a2, t.a3, t.a4, t.a5, t.a6, t.a7⟩
def p54 : Opd := fun t => t.a0.a6.a6
def s54 : SetF := fun v t => ⟨⟨t.a0.a0, t.a0.a1, t.a0.a2, t.a0.a3, t.a0.a4, t.a0.a5, ⟨t.a0.a6.a0, t.a0.a6.a1, t.a0.a6.a2, t.a0.a6.a3, t.a0.a6.a4, t.a0.a6.a5, some v, t.a0.a6.a7⟩, t.a0.a7⟩, t.a1, t.a2, t.a3, t.a4, t.a5, t.a6, t.a7⟩
def p55 : Opd := fun t => t.a0.a6.a7
def s55 : SetF := fun v t => ⟨⟨t.a0.a0, t.a0.a1, t.a0.a2, t.a0.a3, t.a0.a4, t.a0.a5, ⟨t.a0.a6.a0, t.a0.a6.a1, t.a0.a6.a2, t.a0.a6.a3, t.a0.a6.a4, t.a0.a6.a5, t.a0.a6.a6, some v⟩, t.a0.a7⟩, t.a1, t.a2, t.a3, t.a4, t.a5, t.a6, t.a7⟩
def p56 : Opd := fun t => t.a0.a7.a0
def s56 : SetF := fun v t => ⟨⟨t.a0.a0, t.a0.a1, t.a0.a2, t.a0.a3, t.a0.a4, t.a0.a5, t.a0.a6, ⟨some v, t.a0.a7.a1, t.a0.a7.a2, t.a0.a7.a3, t.a0.a7.a4, t.a0.a7.a5, t.a0.a7.a6, t.a0.a7.a7⟩⟩, t.a1, t.a2, t.a3, t.a4, t.a5, t.a6, t.a7⟩
def p57 : Opd := fun t => t.a0.a7.a1
def s57 : SetF := fun v t => ⟨⟨t.a0.a0, t.a0.a1, t.a0.a2, t.a0.a3, t.a0.a4, t.a0.a5, t.a0.a6, ⟨t.a0.a7.a0, some v, t.a0.a7.a2, t.a0.a7.a3, t.a0.a7.a4, t.a0.a7.a5, t.a0.a7.a6, t.a0.a7.a7⟩⟩, t.a1, t.a2, t.a3, t.a4, t.a5, t.a6, t.a7⟩
def p58 : Opd := fun t => t.a0.a7.a2
def s58 : SetF := fun v t => ⟨⟨t.a0.a0, t.a0.a1, t.a0.a2, t.a0.a3, t.a0.a4, t.a0.a5, t.a0.a6, ⟨t.a0.a7.a0, t.a0.a7.a1, some v, t.a0.a7.a3, t.a0.a7.a4, t.a0.a7.a5, t.a0.a7.a6, t.a0.a7.a7⟩⟩, t.a1, t.a2, t.a3, t.a4, t.a5, t.a6, t.a7⟩
def p59 : Opd := fun t => t.a0.a7.a3
def s59 : SetF := fun v t => ⟨⟨t.a0.a0, t.a0.a1, t.a0.a2, t.a0.a3, t.a0.a4, t.a0.a5, t.a0.a6, ⟨t.a0.a7.a0, t.a0.a7.a1, t.a0.a7.a2, some v, t.a0.a7.a4, t.a0.a7.a5, t.a0.a7.a6, t.a0.a7.a7⟩⟩, t.a1, t.a2, t.a3, t.a4, t.a5, t.a6, t.a7⟩
def p60 : Opd := fun t => t.a0.a7.a4
def s60 : SetF := fun v t => ⟨⟨t.a0.a0, t.a0.a1, t.a0.a2, t.a0.a3, t.a0.a4, t.a0.a5, t.a0.a6, ⟨t.a0.a7.a0, t.a0.a7.a1, t.a0.a7.a2, t.a0.a7.a3, some v, t.a0.a7.a5, t.a0.a7.a6, t.a0.a7.a7⟩⟩, t.a1, t.a2, t.a3, t.a4, t.a5, t.a6, t.a7⟩
def p61 : Opd := fun t => t.a0.a7.a5
def s61 : SetF := fun v t => ⟨⟨t.a0.a0, t.a0.a1, t.a0.a2, t.a0.a3, t.a0.a4, t.a0.a5, t.a0.a6, ⟨t.a0.a7.a0, t.a0.a7.a1, t.a0.a7.a2, t.a0.a7.a3, t.a0.a7.a4, some v, t.a0.a7.a6, t.a0.a7.a7⟩⟩, t.a1, t.a2, t.a3, t.a4, t.a5, t.a6, t.a7⟩
def p62 : Opd := fun t => t.a0.a7.a6
def s62 : SetF := fun v t => ⟨⟨t.a0.a0, t.a0.a1, t.a0.a2, t.a0.a3, t.a0.a4, t.a0.a5, t.a0.a6, ⟨t.a0.a7.a0, t.a0.a7.a1, t.a0.a7.a2, t.a0.a7.a3, t.a0.a7.a4, t.a0.a7.a5, some v, t.a0.a7.a7⟩⟩, t.a1, t.a2, t.a3, t.a4, t.a5, t.a6, t.a7⟩
def p63 : Opd := fun t => t.a0.a7.a7
def s63 : SetF := fun v t => ⟨⟨t.a0.a0, t.a0.a1, t.a0.a2, t.a0.a3, t.a0.a4, t.a0.a5, t.a0.a6, ⟨t.a0.a7.a0, t.a0.a7.a1, t.a0.a7.a2, t.a0.a7.a3, t.a0.a7.a4, t.a0.a7.a5, t.a0.a7.a6, some v⟩⟩, t.a1, t.a2, t.a3, t.a4, t.a5, t.a6, t.a7⟩
def p64 : Opd := fun t => t.a1.a0.a0
def s64 : SetF := fun v t => ⟨t.a0, ⟨⟨some v, t.a1.a0.a1, t.a1.a0.a2, t.a1.a0.a3, t.a1.a0.a4, t.a1.a0.a5, t.a1.a0.a6, t.a1.a0.a7⟩, t.a1.a1, t.a1.a2, t.a1.a3, t.a1.a4, t.a1.a5, t.a1.a6, t.a1.a7⟩, t.a2, t.a3, t.a4, t.a5, t.a6, t.a7⟩
def p65 : Opd := fun t => t.a1.a0.a1
def s65 : SetF := fun v t => ⟨t.a0, ⟨⟨t.a1.a0.a0, some v, t.a1.a0.a2, t.a1.a0.a3, t.a1.a0.a4, t.a1.a0.a5, t.a1.a0.a6, t.a1.a0.a7⟩, t.a1.a1, t.a1.a2, t.a1.a3, t.a1.a4, t.a1.a5, t.a1.a6, t.a1.a7⟩, t.a2, t.a3, t.a4, t.a5, t.a6, t.a7⟩
def p66 : Opd := fun t => t.a1.a0.a2
def s66 : SetF := fun v t => ⟨t.a0, ⟨⟨t.a1.a0.a0, t.a1.a0.a1, some v, t.a1.a0.a3, t.a1.a0.a4, t.a1.a0.a5, t.a1.a0.a6, t.a1.a0.a7⟩, t.a1.a1, t.a1.a2, t.a1.a3, t.a1.a4, t.a1.a5, t.a1.a6, t.a1.a7⟩, t.a2, t.a3, t.a4, t.a5, t.a6, t.a7⟩
def p67 : Opd := fun t => t.a1.a0.a3
def s67 : SetF := fun v t => ⟨t.a0, ⟨⟨t.a1.a0.a0, t.a1.a0.a1, t.a1.a0.a2, some v, t.a1.a0.a4, t.a1.a0.a5, t.a1.a0.a6, t.a1.a0.a7⟩, t.a1.a1, t.a1.a2, t.a1.a3, t.a1.a4, t.a1.a5, t.a1.a6, t.a1.a7⟩, t.a2, t.a3, t.a4, t.a5, t.a6, t.a7⟩
def p68 : Opd := fun t => t.a1.a0.a4
def s68 : SetF := fun v t => ⟨t.a0, ⟨⟨t.a1.a0.a0, t.a1.a0.a1, t.a1.a0.a2, t.a1.a0.a3, some v, t.a1.a0.a5, t.a1.a0.a6, t.a1.a0.a7⟩, t.a1.a1, t.a1.a2, t.a1.a3, t.a1.a4, t.a1.a5, t.a1.a6, t.a1.a7⟩, t.a2, t.a3, t.a4, t.a5, t.a6, t.a7⟩
def p69 : Opd := fun t => t.a1.a0.a5
def s69 : SetF := fun v t => ⟨t.a0, ⟨⟨t.a1.a0.a0, t.a1.a0.a1, t.a1.a0.a2, t.a1.a0.a3, t.a1.a0.a4, some v, t.a1.a0.a6, t.a1.a0.a7⟩, t.a1.a1, t.a1.a2, t.a1.a3, t.a1.a4, t.a1.a5, t.a1.a6, t.a1.a7⟩, t.a2, t.a3, t.a4, t.a5, t.a6, t.a7⟩
def p70 : Opd := fun t => t.a1.a0.a6
def s70 : SetF := fun v t => ⟨t.a0, ⟨⟨t.a1.a0.a0, t.a1.a0.a1, t.a1.a0.a2, t.a1.a0.a3, t.a1.a0.a4, t.a1.a0.a5, some v, t.a1.a0.a7⟩, t.a1.a1, t.a1.a2, t.a1.a3, t.a1.a4, t.a1.a5, t.a1.a6, t.a1.a7⟩, t.a2, t.a3, t.a4, t.a5, t.a6, t.a7⟩
def p71 : Opd := fun t => t.a1.a0.a7
def s71 : SetF := fun v t => ⟨t.a0, ⟨⟨t.a1.a0.a0, t.a1.a0.a1, t.a1.a0.a2, t.a1.a0.a3, t.a1.a0.a4, t.a1.a0.a5, t.a1.a0.a6, some v⟩, t.a1.a1, t.a1.a2, t.a1.a3, t.a1.a4, t.a1.a5, t.a1.a6, t.a1.a7⟩, t.a2, t.a3, t.a4, t.a5, t.a6, t.a7⟩
def p72 : Opd := fun t => t.a1.a1.a0
def s72 : SetF := fun v t => ⟨t.a0, ⟨t.a1.a0, ⟨some v, t.a1.a1.a1, t.a1.a1.a2, t.a1.a1.a3, t.a1.a1.a4, t.a1.a1.a5, t.a1.a1.a6, t.a1.a1.a7⟩, t.a1.a2, t.a1.a3, t.a1.a4, t.a1.a5, t.a1.a6, t.a1.a7⟩, t.a2, t.a3, t.a4, t.a5, t.a6, t.a7⟩
def p73 : Opd := fun t => t.a1.a1.a1
def s73 : SetF := fun v t => ⟨t.a0, ⟨t.a1.a0, ⟨t.a1.a1.a0, some v, t.a1.a1.a2, t.a1.a1.a3, t.a1.a1.a4, t.a1.a1.a5, t.a1.a1.a6, t.a1.a1.a7⟩, t.a1.a2, t.a1.a3, t.a1.a4, t.a1.a5, t.a1.a6, t.a1.a7⟩, t.a2, t.a3, t.a4, t.a5, t.a6, t.a7⟩
def p74 : Opd := fun t => t.a1.a1.a2
def s74 : SetF := fun v t => ⟨t.a0, ⟨t.a1.a0, ⟨t.a1.a1.a0, t.a1.a1.a1, some v, t.a1.a1.a3, t.a1.a1.a4, t.a1.a1.a5, t.a1.a1.a6, t.a1.a1.a7⟩, t.a1.a2, t.a1.a3, t.a1.a4, t.a1.a5, t.a1.a6, t.a1.a7⟩, t.a2, t.a3, t.a4, t.a5, t.a6, t.a7⟩
def p75 : Opd := fun t => t.a1.a1.a3
def s75 : SetF := fun v t => ⟨t.a0, ⟨t.a1.a0, ⟨t.a1.a1.a0, t.a1.a1.a1, t.a1.a1.a2, some v, t.a1.a1.a4, t.a1.a1.a5, t.a1.a1.a6, t.a1.a1.a7⟩, t.a1.a2, t.a1.a3, t.a1.a4, t.a1.a5, t.a1.a6, t.a1.a7⟩, t.a2, t.a3, t.a4, t.a5, t.a6, t.a7⟩
def p76 : Opd := fun t => t.a1.a1.a4
def s76 : SetF := fun v t => ⟨t.a0, ⟨t.a1.a0, ⟨t.a1.a1.a0, t.a1.a1.a1, t.a1.a1.a2, t.a1.a1.a3, some v, t.a1.a1.a5, t.a1.a1.a6, t.a1.a1.a7⟩, t.a1.a2, t.a1.a3, t.a1.a4, t.a1.a5, t.a1.a6, t.a1.a7⟩, t.a2, t.a3, t.a4, t.a5, t.a6, t.a7⟩
def p77 : Opd := fun t => t.a1.a1.a5
def s77 : SetF := fun v t => ⟨t.a0, ⟨t.a1.a0, ⟨t.a1.a1.a0, t.a1.a1.a1, t.a1.a1.a2, t.a1.a1.a3, t.a1.a1.a4, some v, t.a1.a1.a6, t.a1.a1.a7⟩, t.a1.a2, t.a1.a3, t.a1.a4, t.a1.a5, t.a1.a6, t.a1.a7⟩, t.a2, t.a3, t.a4, t.a5, t.a6, t.a7⟩
def p78 : Opd := fun t => t.a1.a1.a6
def s78 : SetF := fun v t => ⟨t.a0, ⟨t.a1.a0, ⟨t.a1.a1.a0, t.a1.a1.a1, t.a1.a1.a2, t.a1.a1.a3, t.a1.a1.a4, t.a1.a1.a5, some v, t.a1.a1.a7⟩, t.a1.a2, t.a1.a3, t.a1.a4, t.a1.a5, t.a1.a6, t.a1.a7⟩, t.a2, t.a3, t.a4, t.a5, t.a6, t.a7⟩
def p79 : Opd := fun t => t.a1.a1.a7
def s79 : SetF := fun v t => ⟨t.a0, ⟨t.a1.a0, ⟨t.a1.a1.a0, t.a1.a1.a1, t.a1.a1.a2, t.a1.a1.a3, t.a1.a1.a4, t.a1.a1.a5, t.a1.a1.a6, some v⟩, t.a1.a2, t.a1.a3, t.a1.a4, t.a1.a5, t.a1.a6, t.a1.a7⟩, t.a2, t.a3, t.a4, t.a5, t.a6, t.a7⟩
def p80 : Opd := fun t => t.a1.a2.a0
def s80 : SetF := fun v t => ⟨t.a0, ⟨t.a1.a0, t.a1.a1, ⟨some v, t.a1.a2.a1, t.a1.a2.a2, t.a1.a2.a3, t.a1.a2.a4, t.a1.a2.a5, t.a1.a2.a6, t.a1.a2.a7⟩, t.a1.a3, t.a1.a4, t.a1.a5, t.a1.a6, t.a1.a7⟩, t.a2, t.a3, t.a4, t.a5, t.a6, t.a7⟩
def p81 : Opd := fun t => t.a1.a2.a1
def s81 : SetF := fun v t => ⟨t.a0, ⟨t.a1.a0, t.a1.a1, ⟨t.a1.a2.a0, some v, t.a1.a2.a2, t.a1.a2.a3, t.a1.a2.a4, t.a1.a2.a5, t.a1.a2.a6, t.a1.a2.a7⟩, t.a1.a3, t.a1.a4, t.a1.a5, t.a1.a6, t.a1.a7⟩, t.a2, t.a3, t.a4, t.a5, t.a6, t.a7⟩
def p82 : Opd := fun t => t.a1.a2.a2
def s82 : SetF := fun v t => ⟨t.a0, ⟨t.a1.a0, t.a1.a1, ⟨t.a1.a2.a0, t.a1.a2.a1, some v, t.a1.a2.a3, t.a1.a2.a4, t.a1.a2.a5, t.a1.a2.a6, t.a1.a2.a7⟩, t.a1.a3, t.a1.a4, t.a1.a5, t.a1.a6, t.a1.a7⟩, t.a2, t.a3, t.a4, t.a5, t.a6, t.a7⟩
def p83 : Opd := fun t => t.a1.a2.a3
def s83 : SetF := fun v t => ⟨t.a0, ⟨t.a1.a0, t.a1.a1, ⟨t.a1.a2.a0, t.a1.a2.a1, t.a1.a2.a2, some v, t.a1.a2.a4, t.a1.a2.a5, t.a1.a2.a6, t.a1.a2.a7⟩, t.a1.a3, t.a1.a4, t.a1.a5, t.a1.a6, t.a1.a7⟩, t.a2, t.a3, t.a4, t.a5, t.a6, t.a7⟩
def p84 : Opd := fun t => t.a1.a2.a4
def s84 : SetF := fun v t => ⟨t.a0, ⟨t.a1.a0, t.a1.a1, ⟨t.a1.a2.a0, t.a1.a2.a1, t.a1.a2.a2, t.a1.a2.a3, some v, t.a1.a2.a5, t.a1.a2.a6, t.a1.a2.a7⟩, t.a1.a3, t.a1.a4, t.a1.a5, t.a1.a6, t.a1.a7⟩, t.a2, t.a3, t.a4, t.a5, t.a6, t.a7⟩
def p85 : Opd := fun t => t.a1.a2.a5
def s85 : SetF := fun v t => ⟨t.a0, ⟨t.a1.a0, t.a1.a1, ⟨t.a1.a2.a0, t.a1.a2.a1, t.a1.a2.a2, t.a1.a2.a3, t.a1.a2.a4, some v, t.a1.a2.a6, t.a1.a2.a7⟩, t.a1.a3, t.a1.a4, t.a1.a5, t.a1.a6, t.a1.a7⟩, t.a2, t.a3, t.a4, t.a5, t.a6, t.a7⟩
def p86 : Opd := fun t => t.a1.a2.a6
def s86 : SetF := fun v t => ⟨t.a0, ⟨t.a1.a0, t.a1.a1, ⟨t.a1.a2.a0, t.a1.a2.a1, t.a1.a2.a2, t.a1.a2.a3, t.a1.a2.a4, t.a1.a2.a5, some v, t.a1.a2.a7⟩, t.a1.a3, t.a1.a4, t.a1.a5, t.a1.a6, t.a1.a7⟩, t.a2, t.a3, t.a4, t.a5, t.a6, t.a7⟩
def p87 : Opd := fun t => t.a1.a2.a7
def s87 : SetF := fun v t => ⟨t.a0, ⟨t.a1.a0, t.a1.a1, ⟨t.a1.a2.a0, t.a1.a2.a1, t.a1.a2.a2, t.a1.a2.a3, t.a1.a2.a4, t.a1.a2.a5, t.a1.a2.a6, some v⟩, t.a1.a3, t.a1.a4, t.a1.a5, t.a1.a6, t.a1.a7⟩, t.a2, t.a3, t.a4, t.a5, t.a6, t.a7⟩
def p88 : Opd := fun t => t.a1.a3.a0
def s88 : SetF := fun v t => ⟨t.a0, ⟨t.a1.a0, t.a1.a1, t.a1.a2, ⟨some v, t.a1.a3.a1, t.a1.a3.a2, t.a1.a3.a3, t.a1.a3.a4, t.a1.a3.a5, t.a1.a3.a6, t.a1.a3.a7⟩, t.a1.a4, t.a1.a5, t.a1.a6, t.a1.a7⟩, t.a2, t.a3, t.a4, t.a5, t.a6, t.a7⟩
def p89 : Opd := fun t => t.a1.a3.a1
def s89 : SetF := fun v t => ⟨t.a0, ⟨t.a1.a0, t.a1.a1, t.a1.a2, ⟨t.a1.a3.a0, some v, t.a1.a3.a2, t.a1.a3.a3, t.a1.a3.a4, t.a1.a3.a5, t.a1.a3.a6, t.a1.a3.a7⟩, t.a1.a4, t.a1.a5, t.a1.a6, t.a1.a7⟩, t.a2, t.a3, t.a4, t.a5, t.a6, t.a7⟩
def p90 : Opd := fun t => t.a1.a3.a2
def s90 : SetF := fun v t => ⟨t.a0, ⟨t.a1.a0, t.a1.a1, t.a1.a2, ⟨t.a1.a3.a0, t.a1.a3.a1, some v, t.a1.a3.a3, t.a1.a3.a4, t.a1.a3.a5, t.a1.a3.a6, t.a1.a3.a7⟩, t.a1.a4, t.a1.a5, t.a1.a6, t.a1.a7⟩, t.a2, t.a3, t.a4, t.a5, t.a6, t.a7⟩
def p91 : Opd := fun t => t.a1.a3.a3
def s91 : SetF := fun v t => ⟨t.a0, ⟨t.a1.a0, t.a1.a1, t.a1.a2, ⟨t.a1.a3.a0, t.a1.a3.a1, t.a1.a3.a2, some v, t.a1.a3.a4, t.a1.a3.a5, t.a1.a3.a6, t.a1.a3.a7⟩, t.a1.a4, t.a1.a5, t.a1.a6, t.a1.a7⟩, t.a2, t.a3, t.a4, t.a5, t.a6, t.a7⟩
def p92 : Opd := fun t => t.a1.a3.a4
def s92 : SetF := fun v t => ⟨t.a0, ⟨t.a1.a0, t.a1.a1, t.a1.a2, ⟨t.a1.a3.a0, t.a1.a3.a1, t.a1.a3.a2, t.a1.a3.a3, some v, t.a1.a3.a5, t.a1.a3.a6, t.a1.a3.a7⟩, t.a1.a4, t.a1.a5, t.a1.a6, t.a1.a7⟩, t.a2, t.a3, t.a4, t.a5, t.a6, t.a7⟩
def p93 : Opd := fun t => t.a1.a3.a5
def s93 : SetF := fun v t => ⟨t.a0, ⟨t.a1.a0, t.a1.a1, t.a1.a2, ⟨t.a1.a3.a0, t.a1.a3.a1, t.a1.a3.a2, t.a1.a3.a3, t.a1.a3.a4, some v, t.a1.a3.a6, t.a1.a3.a7⟩, t.a1.a4, t.a1.a5, t.a1.a6, t.a1.a7⟩, t.a2, t.a3, t.a4, t.a5, t.a6, t.a7⟩
def p94 : Opd := fun t => t.a1.a3.a6
def s94 : SetF := fun v t => ⟨t.a0, ⟨t.a1.a0, t.a1.a1, t.a1.a2, ⟨t.a1.a3.a0, t.a1.a3.a1, t.a1.a3.a2, t.a1.a3.a3, t.a1.a3.a4, t.a1.a3.a5, some v, t.a1.a3.a7⟩, t.a1.a4, t.a1.a5, t.a1.a6, t.a1.a7⟩, t.a2, t.a3, t.a4, t.a5, t.a6, t.a7⟩
def p95 : Opd := fun t => t.a1.a3.a7
def s95 : SetF := fun v t => ⟨t.a0, ⟨t.a1.a0, t.a1.a1, t.a1.a2, ⟨t.a1.a3.a0, t.a1.a3.a1, t.a1.a3.a2, t.a1.a3.a3, t.a1.a3.a4, t.a1.a3.a5, t.a1.a3.a6, some v⟩, t.a1.a4, t.a1.a5, t.a1.a6, t.a1.a7⟩, t.a2, t.a3, t.a4, t.a5, t.a6, t.a7⟩
def p96 : Opd := fun t => t.a1.a4.a0
def s96 : SetF := fun v t => ⟨t.a0, ⟨t.a1.a0, t.a1.a1, t.a1.a2, t.a1.a3, ⟨some v, t.a1.a4.a1, t.a1.a4.a2, t.a1.a4.a3, t.a1.a4.a4, t.a1.a4.a5, t.a1.a4.a6, t.a1.a4.a7⟩, t.a1.a5, t.a1.a6, t.a1.a7⟩, t.a2, t.a3, t.a4, t.a5, t.a6, t.a7⟩
def p97 : Opd := fun t => t.a1.a4.a1
def s97 : SetF := fun v t => ⟨t.a0, ⟨t.a1.a0, t.a1.a1, t.a1.a2, t.a1.a3, ⟨t.a1.a4.a0, some v, t.a1.a4.a2, t.a1.a4.a3, t.a1.a4.a4, t.a1.a4.a5, t.a1.a4.a6, t.a1.a4.a7⟩, t.a1.a5, t.a1.a6, t.a1.a7⟩, t.a2, t.a3, t.a4, t.a5, t.a6, t.a7⟩
def p98 : Opd := fun t => t.a1.a4.a2
def s98 : SetF := fun v t => ⟨t.a0, ⟨t.a1.a0, t.a1.a1, t.a1.a2, t.a1.a3, ⟨t.a1.a4.a0, t.a1.a4.a1, some v, t.a1.a4.a3, t.a1.a4.a4, t.a1.a4.a5, t.a1.a4.a6, t.a1.a4.a7⟩, t.a1.a5, t.a1.a6, t.a1.a7⟩, t.a2, t.a3, t.a4, t.a5, t.a6, t.a7⟩
def p99 : Opd := fun t => t.a1.a4.a3
def s99 : SetF := fun v t => ⟨t.a0, ⟨t.a1.a0, t.a1.a1, t.a1.a2, t.a1.a3, ⟨t.a1.a4.a0, t.a1.a4.a1, t.a1.a4.a2, some v, t.a1.a4.a4, t.a1.a4.a5, t.a1.a4.a6, t.a1.a4.a7⟩, t.a1.a5, t.a1.a6, t.a1.a7⟩, t.a2, t.a3, t.a4, t.a5, t.a6, t.a7⟩
def p100 : Opd := fun t => t.a1.a4.a4
def s100 : SetF := fun v t => ⟨t.a0, ⟨t.a1.a0, t.a1.a1, t.a1.a2, t.a1.a3, ⟨t.a1.a4.a0, t.a1.a4.a1, t.a1.a4.a2, t.a1.a4.a3, some v, t.a1.a4.a5, t.a1.a4.a6, t.a1.a4.a7⟩, t.a1.a5, t.a1.a6, t.a1.a7⟩, t.a2, t.a3, t.a4, t.a5, t.a6, t.a7⟩
def p101 : Opd := fun t => t.a1.a4.a5
def s101 : SetF := fun v t => ⟨t.a0, ⟨t.a1.a0, t.a1.a1, t.a1.a2, t.a1.a3, ⟨t.a1.a4.a0, t.a1.a4.a1, t.a1.a4.a2, t.a1.a4.a3, t.a1.a4.a4, some v, t.a1.a4.a6, t.a1.a4.a7⟩, t.a1.a5, t.a1.a6, t.a1.a7⟩, t.a2, t.a3, t.a4, t.a5, t.a6, t.a7⟩
def p102 : Opd := fun t => t.a1.a4.a6
def s102 : SetF := fun v t => ⟨t.a0, ⟨t.a1.a0, t.a1.a1, t.a1.a2, t.a1.a3, ⟨t.a1.a4.a0, t.a1.a4.a1, t.a1.a4.a2, t.a1.a4.a3, t.a1.a4.a4, t.a1.a4.a5, some v, t.a1.a4.a7⟩, t.a1.a5, t.a1.a6, t.a1.a7⟩, t.a2, t.a3, t.a4, t.a5, t.a6, t.a7⟩
def p103 : Opd := fun t => t.a1.a4.a7
def s103 : SetF := fun v t => ⟨t.a0, ⟨t.a1.a0, t.a1.a1, t.a1.a2, t.a1.a3, ⟨t.a1.a4.a0, t.a1.a4.a1, t.a1.a4.a2, t.a1.a4.a3, t.a1.a4.a4, t.a1.a4.a5, t.a1.a4.a6, some v⟩, t.a1.a5, t.a1.a6, t.a1.a7⟩, t.a2, t.a3, t.a4, t.a5, t.a6, t.a7⟩
def p104 : Opd := fun t => t.a1.a5.a0
def s104 : SetF := fun v t => ⟨t.a0, ⟨t.a1.a0, t.a1.a1, t.a1.a2, t.a1.a3, t.a1.a4, ⟨some v, t.a1.a5.a1, t.a1.a5.a2, t.a1.a5.a3, t.a1.a5.a4, t.a1.a5.a5, t.a1.a5.a6, t.a1.a5.a7⟩, t.a1.a6, t.a1.a7⟩, t.a2, t.a3, t.a4, t.a5, t.a6, t.a7⟩
def p105 : Opd := fun t => t.a1.a5.a1
def s105 : SetF := fun v t => ⟨t.a0, ⟨t.a1.a0, t.a1.a1, t.a1.a2, t.a1.a3, t.a1.a4, ⟨t.a1.a5.a0, some v, t.a1.a5.a2, t.a1.a5.a3, t.a1.a5.a4, t.a1.a5.a5, t.a1.a5.a6, t.a1.a5.a7⟩, t.a1.a6, t.a1.a7⟩, t.a2, t.a3, t.a4, t.a5, t.a6, t.a7⟩
def p106 : Opd := fun t => t.a1.a5.a2
def s106 : SetF := fun v t => ⟨t.a0, ⟨t.a1.a0, t.a1.a1, t.a1.a2, t.a1.a3, t.a1.a4, ⟨t.a1.a5.a0, t.a1.a5.a1, some v, t.a1.a5.a3, t.a1.a5.a4, t.a1.a5.a5, t.a1.a5.a6, t.a1.a5.a7⟩, t.a1.a6, t.a1.a7⟩, t.a2, t.a3, t.a4, t.a5, t.a6, t.a7⟩
def p107 : Opd := fun t => t.a1.a5.a3
def s107 : SetF := fun v t => ⟨t.a0, ⟨t.a1.a0, t.a1.a1, t.a1.a2, t.a1.a3, t.a1.a4, ⟨t.a1.a5.a0, t.a1.a5.a1, t.a1.a5.a2, some v, t.a1.a5.a4, t.a1.a5.a5, t.a1.a5.a6, t.a1.a5.a7⟩, t.a1.a6, t.a1.a7⟩, t.a2, t.a3, t.a4, t.a5, t.a6, t.a7⟩
def p108 : Opd := fun t => t.a1.a5.a4
def s108 : SetF := fun v t => ⟨t.a0, ⟨t.a1.a0, t.a1.a1, t.a1.a2, t.a1.a3, t.a1.a4, ⟨t.a1.a5.a0, t.a1.a5.a1, t.a1.a5.a2, t.a1.a5.a3, some v, t.a1.a5.a5, t.a1.a5.a6, t.a1.a5.a7⟩, t.a1.a6, t.a1.a7⟩, t.a2, t.a3, t.a4, t.a5, t.a6, t.a7⟩
def p109 : Opd := fun t => t.a1.a5.a5
def s109 : SetF := fun v t => ⟨t.a0, ⟨t.a1.a0, t.a1.a1, t.a1.a2, t.a1.a3, t.a1.a4, ⟨t.a1.a5.a0, t.a1.a5.a1, t.a1.a5.a2, t.a1.a5.a3, t.a1.a5.a4, some v, t.a1.a5.a6, t.a1.a5.a7⟩, t.a1.a6, t.a1.a7⟩, t.a2, t.a3, t.a4, t.a5, t.a6, t.a7⟩
def p110 : Opd := fun t => t.a1.a5.a6
def s110 : SetF := fun v t => ⟨t.a0, ⟨t.a1.a0, t.a1.a1, t.a1.a2, t.a1.a3, t.a1.a4, ⟨t.a1.a5.a0, t.a1.a5.a1, t.a1.a5.a2, t.a1.a5.a3, t.a1.a5.a4, t.a1.a5.a5, some v, t.a1.a5.a7⟩, t.a1.a6, t.a1.a7⟩, t.a2, t.a3, t.a4, t.a5, t.a6, t.a7⟩
def p111 : Opd := fun t => t.a1.a5.a7
def s111 : SetF := fun v t => ⟨t.a0, ⟨t.a1.a0, t.a1.a1, t.a1.a2, t.a1.a3, t.a1.a4, ⟨t.a1.a5.a0, t.a1.a5.a1, t.a1.a5.a2, t.a1.a5.a3, t.a1.a5.a4, t.a1.a5.a5, t.a1.a5.a6, some v⟩, t.a1.a6, t.a1.a7⟩, t.a2, t.a3, t.a4, t.a5, t.a6, t.a7⟩
def p112 : Opd := fun t => t.a1.a6.a0
def s112 : SetF := fun v t => ⟨t.a0, ⟨t.a1.a0, t.a1.a1, t.a1.a2, t.a1.a3, t.a1.a4, t.a1.a5, ⟨some v, t.a1.a6.a1, t.a1.a6.a2, t.a1.a6.a3, t.a1.a6.a4, t.a1.a6.a5, t.a1.a6.a6, t.a1.a6.a7⟩, t.a1.a7⟩, t.a2, t.a3, t.a4, t.a5, t.a6, t.a7⟩
def p113 : Opd := fun t => t.a1.a6.a1
def s113 : SetF := fun v t => ⟨t.a0, ⟨t.a1.a0, t.a1.a1, t.a1.a2, t.a1.a3, t.a1.a4, t.a1.a5, ⟨t.a1.a6.a0, some v, t.a1.a6.a2, t.a1.a6.a3, t.a1.a6.a4, t.a1.a6.a5, t.a1.a6.a6, t.a1.a6.a7⟩, t.a1.a7⟩, t.a2, t.a3, t.a4, t.a5, t.a6, t.a7⟩
def p114 : Opd := fun t => t.a1.a6.a2
def s114 : SetF := fun v t => ⟨t.a0, ⟨t.a1.a0, t.a1.a1, t.a1.a2, t.a1.a3, t.a1.a4, t.a1.a5, ⟨t.a1.a6.a0, t.a1.a6.a1, some v, t.a1.a6.a3, t.a1.a6.a4, t.a1.a6.a5, t.a1.a6.a6, t.a1.a6.a7⟩, t.a1.a7⟩, t.a2, t.a3, t.a4, t.a5, t.a6, t.a7⟩
def p115 : Opd := fun t => t.a1.a6.a3
def s115 : SetF := fun v t => ⟨t.a0, ⟨t.a1.a0, t.a1.a1, t.a1.a2, t.a1.a3, t.a1.a4, t.a1.a5, ⟨t.a1.a6.a0, t.a1.a6.a1, t.a1.a6.a2, some v, t.a1.a6.a4, t.a1.a6.a5, t.a1.a6.a6, t.a1.a6.a7⟩, t.a1.a7⟩, t.a2, t.a3, t.a4, t.a5, t.a6, t.a7⟩
def p116 : Opd := fun t => t.a1.a6.a4
def s116 : SetF := fun v t => ⟨t.a0, ⟨t.a1.a0, t.a1.a1, t.a1.a2, t.a1.a3, t.a1.a4, t.a1.a5, ⟨t.a1.a6.a0, t.a1.a6.a1, t.a1.a6.a2, t.a1.a6.a3, some v, t.a1.a6.a5, t.a1.a6.a6, t.a1.a6.a7⟩, t.a1.a7⟩, t.a2, t.a3, t.a4, t.a5, t.a6, t.a7⟩
def p117 : Opd := fun t => t.a1.a6.a5
def s117 : SetF := fun v t => ⟨t.a0, ⟨t.a1.a0, t.a1.a1, t.a1.a2, t.a1.a3, t.a1.a4, t.a1.a5, ⟨t.a1.a6.a0, t.a1.a6.a1, t.a1.a6.a2, t.a1.a6.a3, t.a1.a6.a4, some v, t.a1.a6.a6, t.a1.a6.a7⟩, t.a1.a7⟩, t.a2, t.a3, t.a4, t.a5, t.a6, t.a7⟩
def p118 : Opd := fun t => t.a1.a6.a6
def s118 : SetF := fun v t => ⟨t.a0, ⟨t.a1.a0, t.a1.a1, t.a1.a2, t.a1.a3, t.a1.a4, t.a1.a5, ⟨t.a1.a6.a0, t.a1.a6.a1, t.a1.a6.a2, t.a1.a6.a3, t.a1.a6.a4, t.a1.a6.a5, some v, t.a1.a6.a7⟩, t.a1.a7⟩, t.a2, t.a3, t.a4, t.a5, t.a6, t.a7⟩
def p119 : Opd := fun t => t.a1.a6.a7
def s119 : SetF := fun v t => ⟨t.a0, ⟨t.a1.a0, t.a1.a1, t.a1.a2, t.a1.a3, t.a1.a4, t.a1.a5, ⟨t.a1.a6.a0, t.a1.a6.a1, t.a1.a6.a2, t.a1.a6.a3, t.a1.a6.a4, t.a1.a6.a5, t.a1.a6.a6, some v⟩, t.a1.a7⟩, t.a2, t.a3, t.a4, t.a5, t.a6, t.a7⟩
def p120 : Opd := fun t => t.a1.a7.a0
def s120 : SetF := fun v t => ⟨t.a0, ⟨t.a1.a0, t.a1.a1, t.a1.a2, t.a1.a3, t.a1.a4, t.a1.a5, t.a1.a6, ⟨some v, t.a1.a7.a1, t.a1.a7.a2, t.a1.a7.a3, t.a1.a7.a4, t.a1.a7.a5, t.a1.a7.a6, t.a1.a7.a7⟩⟩, t.a2, t.a3, t.a4, t.a5, t.a6, t.a7⟩
def p121 : Opd := fun t => t.a1.a7.a1
def s121 : SetF := fun v t => ⟨t.a0, ⟨t.a1.a0, t.a1.a1, t.a1.a2, t.a1.a3, t.a1.a4, t.a1.a5, t.a1.a6, ⟨t.a1.a7.a0, some v, t.a1.a7.a2, t.a1.a7.a3, t.a1.a7.a4, t.a1.a7.a5, t.a1.a7.a6, t.a1.a7.a7⟩⟩, t.a2, t.a3, t.a4, t.a5, t.a6, t.a7⟩
def p122 : Opd := fun t => t.a1.a7.a2
def s122 : SetF := fun v t => ⟨t.a0, ⟨t.a1.a0, t.a1.a1, t.a1.a2, t.a1.a3, t.a1.a4, t.a1.a5, t.a1.a6, ⟨t.a1.a7.a0, t.a1.a7.a1, some v, t.a1.a7.a3, t.a1.a7.a4, t.a1.a7.a5, t.a1.a7.a6, t.a1.a7.a7⟩⟩, t.a2, t.a3, t.a4, t.a5, t.a6, t.a7⟩
def p123 : Opd := fun t => t.a1.a7.a3
def s123 : SetF := fun v t => ⟨t.a0, ⟨t.a1.a0, t.a1.a1, t.a1.a2, t.a1.a3, t.a1.a4, t.a1.a5, t.a1.a6, ⟨t.a1.a7.a0, t.a1.a7.a1, t.a1.a7.a2, some v, t.a1.a7.a4, t.a1.a7.a5, t.a1.a7.a6, t.a1.a7.a7⟩⟩, t.a2, t.a3, t.a4, t.a5, t.a6, t.a7⟩
def p124 : Opd := fun t => t.a1.a7.a4
def s124 : SetF := fun v t => ⟨t.a0, ⟨t.a1.a0, t.a1.a1, t.a1.a2, t.a1.a3, t.a1.a4, t.a1.a5, t.a1.a6, ⟨t.a1.a7.a0, t.a1.a7.a1, t.a1.a7.a2, t.a1.a7.a3, some v, t.a1.a7.a5, t.a1.a7.a6, t.a1.a7.a7⟩⟩, t.a2, t.a3, t.a4, t.a5, t.a6, t.a7⟩
def p125 : Opd := fun t => t.a1.a7.a5
def s125 : SetF := fun v t => ⟨t.a0, ⟨t.a1.a0, t.a1.a1, t.a1.a2, t.a1.a3, t.a1.a4, t.a1.a5, t.a1.a6, ⟨t.a1.a7.a0, t.a1.a7.a1, t.a1.a7.a2, t.a1.a7.a3, t.a1.a7.a4, some v, t.a1.a7.a6, t.a1.a7.a7⟩⟩, t.a2, t.a3, t.a4, t.a5, t.a6, t.a7⟩
def p126 : Opd := fun t => t.a1.a7.a6
def s126 : SetF := fun v t => ⟨t.a0, ⟨t.a1.a0, t.a1.a1, t.a1.a2, t.a1.a3, t.a1.a4, t.a1.a5, t.a1.a6, ⟨t.a1.a7.a0, t.a1.a7.a1, t.a1.a7.a2, t.a1.a7.a3, t.a1.a7.a4, t.a1.a7.a5, some v, t.a1.a7.a7⟩⟩, t.a2, t.a3, t.a4, t.a5, t.a6, t.a7⟩
def p127 : Opd := fun t => t.a1.a7.a7
def s127 : SetF := fun v t => ⟨t.a0, ⟨t.a1.a0, t.a1.a1, t.a1.a2, t.a1.a3, t.a1.a4, t.a1.a5, t.a1.a6, ⟨t.a1.a7.a0, t.a1.a7.a1, t.a1.a7.a2, t.a1.a7.a3, t.a1.a7.a4, t.a1.a7.a5, t.a1.a7.a6, some v⟩⟩, t.a2, t.a3, t.a4, t.a5, t.a6, t.a7⟩
def p128 : Opd := fun t => t.a2.a0.a0
def s128 : SetF := fun v t => ⟨t.a0, t.a1, ⟨⟨some v, t.a2.a0.a1, t.a2.a0.a2, t.a2.a0.a3, t.a2.a0.a4, t.a2.a0.a5, t.a2.a0.a6, t.a2.a0.a7⟩, t.a2.a1, t.a2.a2, t.a2.a3, t.a2.a4, t.a2.a5, t.a2.a6, t.a2.a7⟩, t.a3, t.a4, t.a5, t.a6, t.a7⟩
def p129 : Opd := fun t => t.a2.a0.a1
def s129 : SetF := fun v t => ⟨t.a0, t.a1, ⟨⟨t.a2.a0.a0, some v, t.a2.a0.a2, t.a2.a0.a3, t.a2.a0.a4, t.a2.a0.a5, t.a2.a0.a6, t.a2.a0.a7⟩, t.a2.a1, t.a2.a2, t.a2.a3, t.a2.a4, t.a2.a5, t.a2.a6, t.a2.a7⟩, t.a3, t.a4, t.a5, t.a6, t.a7⟩
def p130 : Opd := fun t => t.a2.a0.a2
def s130 : SetF := fun v t => ⟨t.a0, t.a1, ⟨⟨t.a2.a0.a0, t.a2.a0.a1, some v, t.a2.a0.a3, t.a2.a0.a4, t.a2.a0.a5, t.a2.a0.a6, t.a2.a0.a7⟩, t.a2.a1, t.a2.a2, t.a2.a3, t.a2.a4, t.a2.a5, t.a2.a6, t.a2.a7⟩, t.a3, t.a4, t.a5, t.a6, t.a7⟩
def p131 : Opd := fun t => t.a2.a0.a3
def s131 : SetF := fun v t => ⟨t.a0, t.a1, ⟨⟨t.a2.a0.a0, t.a2.a0.a1, t.a2.a0.a2, some v, t.a2.a0.a4, t.a2.a0.a5, t.a2.a0.a6, t.a2.a0.a7⟩, t.a2.a1, t.a2.a2, t.a2.a3, t.a2.a4, t.a2.a5, t.a2.a6, t.a2.a7⟩, t.a3, t.a4, t.a5, t.a6, t.a7⟩
def p132 : Opd := fun t => t.a2.a0.a4
def s132 : SetF := fun v t => ⟨t.a0, t.a1, ⟨⟨t.a2.a0.a0, t.a2.a0.a1, t.a2.a0.a2, t.a2.a0.a3, some v, t.a2.a0.a5, t.a2.a0.a6, t.a2.a0.a7⟩, t.a2.a1, t.a2.a2, t.a2.a3, t.a2.a4, t.a2.a5, t.a2.a6, t.a2.a7⟩, t.a3, t.a4, t.a5, t.a6, t.a7⟩
def p133 : Opd := fun t => t.a2.a0.a5
def s133 : SetF := fun v t => ⟨t.a0, t.a1, ⟨⟨t.a2.a0.a0, t.a2.a0.a1, t.a2.a0.a2, t.a2.a0.a3, t.a2.a0.a4, some v, t.a2.a0.a6, t.a2.a0.a7⟩, t.a2.a1, t.a2.a2, t.a2.a3, t.a2.a4, t.a2.a5, t.a2.a6, t.a2.a7⟩, t.a3, t.a4, t.a5, t.a6, t.a7⟩
def p134 : Opd := fun t => t.a2.a0.a6
def s134 : SetF := fun v t => ⟨t.a0, t.a1, ⟨⟨t.a2.a0.a0, t.a2.a0.a1, t.a2.a0.a2, t.a2.a0.a3, t.a2.a0.a4, t.a2.a0.a5, some v, t.a2.a0.a7⟩, t.a2.a1, t.a2.a2, t.a2.a3, t.a2.a4, t.a2.a5, t.a2.a6, t.a2.a7⟩, t.a3, t.a4, t.a5, t.a6, t.a7⟩
def p135 : Opd := fun t => t.a2.a0.a7
def s135 : SetF := fun v t => ⟨t.a0, t.a1, ⟨⟨t.a2.a0.a0, t.a2.a0.a1, t.a2.a0.a2, t.a2.a0.a3, t.a2.a0.a4, t.a2.a0.a5, t.a2.a0.a6, some v⟩, t.a2.a1, t.a2.a2, t.a2.a3, t.a2.a4, t.a2.a5, t.a2.a6, t.a2.a7⟩, t.a3, t.a4, t.a5, t.a6, t.a7⟩
def p136 : Opd := fun t => t.a2.a1.a0
def s136 : SetF := fun v t => ⟨t.a0, t.a1, ⟨t.a2.a0, ⟨some v, t.a2.a1.a1, t.a2.a1.a2, t.a2.a1.a3, t.a2.a1.a4, t.a2.a1.a5, t.a2.a1.a6, t.a2.a1.a7⟩, t.a2.a2, t.a2.a3, t.a2.a4, t.a2.a5, t.a2.a6, t.a2.a7⟩, t.a3, t.a4, t.a5, t.a6, t.a7⟩
def p137 : Opd := fun t => t.a2.a1.a1
def s137 : SetF := fun v t => ⟨t.a0, t.a1, ⟨t.a2.a0, ⟨t.a2.a1.a0, some v, t.a2.a1.a2, t.a2.a1.a3, t.a2.a1.a4, t.a2.a1.a5, t.a2.a1.a6, t.a2.a1.a7⟩, t.a2.a2, t.a2.a3, t.a2.a4, t.a2.a5, t.a2.a6, t.a2.a7⟩, t.a3, t.a4, t.a5, t.a6, t.a7⟩
def p138 : Opd := fun t => t.a2.a1.a2
def s138 : SetF := fun v t => ⟨t.a0, t.a1, ⟨t.a2.a0, ⟨t.a2.a1.a0, t.a2.a1.a1, some v, t.a2.a1.a3, t.a2.a1.a4, t.a2.a1.a5, t.a2.a1.a6, t.a2.a1.a7⟩, t.a2.a2, t.a2.a3, t.a2.a4, t.a2.a5, t.a2.a6, t.a2.a7⟩, t.a3, t.a4, t.a5, t.a6, t.a7⟩
def p139 : Opd := fun t => t.a2.a1.a3
def s139 : SetF := fun v t => ⟨t.a0, t.a1, ⟨t.a2.a0, ⟨t.a2.a1.a0, t.a2.a1.a1, t.a2.a1.a2, some v, t.a2.a1.a4, t.a2.a1.a5, t.a2.a1.a6, t.a2.a1.a7⟩, t.a2.a2, t.a2.a3, t.a2.a4, t.a2.a5, t.a2.a6, t.a2.a7⟩, t.a3, t.a4, t.a5, t.a6, t.a7⟩
def p140 : Opd := fun t => t.a2.a1.a4
def s140 : SetF := fun v t => ⟨t.a0, t.a1, ⟨t.a2.a0, ⟨t.a2.a1.a0, t.a2.a1.a1, t.a2.a1.a2, t.a2.a1.a3, some v, t.a2.a1.a5, t.a2.a1.a6, t.a2.a1.a7⟩, t.a2.a2, t.a2.a3, t.a2.a4, t.a2.a5, t.a2.a6, t.a2.a7⟩, t.a3, t.a4, t.a5, t.a6, t.a7⟩
def p141 : Opd := fun t => t.a2.a1.a5
def s141 : SetF := fun v t => ⟨t.a0, t.a1, ⟨t.a2.a0, ⟨t.a2.a1.a0, t.a2.a1.a1, t.a2.a1.a2, t.a2.a1.a3, t.a2.a1.a4, some v, t.a2.a1.a6, t.a2.a1.a7⟩, t.a2.a2, t.a2.a3, t.a2.a4, t.a2.a5, t.a2.a6, t.a2.a7⟩, t.a3, t.a4, t.a5, t.a6, t.a7⟩
def p142 : Opd := fun t => t.a2.a1.a6
def s142 : SetF := fun v t => ⟨t.a0, t.a1, ⟨t.a2.a0, ⟨t.a2.a1.a0, t.a2.a1.a1, t.a2.a1.a2, t.a2.a1.a3, t.a2.a1.a4, t.a2.a1.a5, some v, t.a2.a1.a7⟩, t.a2.a2, t.a2.a3, t.a2.a4, t.a2.a5, t.a2.a6, t.a2.a7⟩, t.a3, t.a4, t.a5, t.a6, t.a7⟩
def p143 : Opd := fun t => t.a2.a1.a7
def s143 : SetF := fun v t => ⟨t.a0, t.a1, ⟨t.a2.a0, ⟨t.a2.a1.a0, t.a2.a1.a1, t.a2.a1.a2, t.a2.a1.a3, t.a2.a1.a4, t.a2.a1.a5, t.a2.a1.a6, some v⟩, t.a2.a2, t.a2.a3, t.a2.a4, t.a2.a5, t.a2.a6, t.a2.a7⟩, t.a3, t.a4, t.a5, t.a6, t.a7⟩
def p144 : Opd := fun t => t.a2.a2.a0
def s144 : SetF := fun v t => ⟨t.a0, t.a1, ⟨t.a2.a0, t.a2.a1, ⟨some v, t.a2.a2.a1, t.a2.a2.a2, t.a2.a2.a3, t.a2.a2.a4, t.a2.a2.a5, t.a2.a2.a6, t.a2.a2.a7⟩, t.a2.a3, t.a2.a4, t.a2.a5, t.a2.a6, t.a2.a7⟩, t.a3, t.a4, t.a5, t.a6, t.a7⟩
def p145 : Opd := fun t => t.a2.a2.a1
def s145 : SetF := fun v t => ⟨t.a0, t.a1, ⟨t.a2.a0, t.a2.a1, ⟨t.a2.a2.a0, some v, t.a2.a2.a2, t.a2.a2.a3, t.a2.a2.a4, t.a2.a2.a5, t.a2.a2.a6, t.a2.a2.a7⟩, t.a2.a3, t.a2.a4, t.a2.a5, t.a2.a6, t.a2.a7⟩, t.a3, t.a4, t.a5, t.a6, t.a7⟩
def p146 : Opd := fun t => t.a2.a2.a2
def s146 : SetF := fun v t => ⟨t.a0, t.a1, ⟨t.a2.a0, t.a2.a1, ⟨t.a2.a2.a0, t.a2.a2.a1, some v, t.a2.a2.a3, t.a2.a2.a4, t.a2.a2.a5, t.a2.a2.a6, t.a2.a2.a7⟩, t.a2.a3, t.a2.a4, t.a2.a5, t.a2.a6, t.a2.a7⟩, t.a3, t.a4, t.a5, t.a6, t.a7⟩
def p147 : Opd := fun t => t.a2.a2.a3
def s147 : SetF := fun v t => ⟨t.a0, t.a1, ⟨t.a2.a0, t.a2.a1, ⟨t.a2.a2.a0, t.a2.a2.a1, t.a2.a2.a2, some v, t.a2.a2.a4, t.a2.a2.a5, t.a2.a2.a6, t.a2.a2.a7⟩, t.a2.a3, t.a2.a4, t.a2.a5, t.a2.a6, t.a2.a7⟩, t.a3, t.a4, t.a5, t.a6, t.a7⟩
def p148 : Opd := fun t => t.a2.a2.a4
def s148 : SetF := fun v t => ⟨t.a0, t.a1, ⟨t.a2.a0, t.a2.a1, ⟨t.a2.a2.a0, t.a2.a2.a1, t.a2.a2.a2, t.a2.a2.a3, some v, t.a2.a2.a5, t.a2.a2.a6, t.a2.a2.a7⟩, t.a2.a3, t.a2.a4, t.a2.a5, t.a2.a6, t.a2.a7⟩, t.a3, t.a4, t.a5, t.a6, t.a7⟩
def p149 : Opd := fun t => t.a2.a2.a5
def s149 : SetF := fun v t => ⟨t.a0, t.a1, ⟨t.a2.a0, t.a2.a1, ⟨t.a2.a2.a0, t.a2.a2.a1, t.a2.a2.a2, t.a2.a2.a3, t.a2.a2.a4, some v, t.a2.a2.a6, t.a2.a2.a7⟩, t.a2.a3, t.a2.a4, t.a2.a5, t.a2.a6, t.a2.a7⟩, t.a3, t.a4, t.a5, t.a6, t.a7⟩
def p150 : Opd := fun t => t.a2.a2.a6
def s150 : SetF := fun v t => ⟨t.a0, t.a1, ⟨t.a2.a0, t.a2.a1, ⟨t.a2.a2.a0, t.a2.a2.a1, t.a2.a2.a2, t.a2.a2.a3, t.a2.a2.a4, t.a2.a2.a5, some v, t.a2.a2.a7⟩, t.a2.a3, t.a2.a4, t.a2.a5, t.a2.a6, t.a2.a7⟩, t.a3, t.a4, t.a5, t.a6, t.a7⟩
def p151 : Opd := fun t => t.a2.a2.a7
def s151 : SetF := fun v t => ⟨t.a0, t.a1, ⟨t.a2.a0, t.a2.a1, ⟨t.a2.a2.a0, t.a2.a2.a1, t.a2.a2.a2, t.a2.a2.a3, t.a2.a2.a4, t.a2.a2.a5, t.a2.a2.a6, some v⟩, t.a2.a3, t.a2.a4, t.a2.a5, t.a2.a6, t.a2.a7⟩, t.a3, t.a4, t.a5, t.a6, t.a7⟩
def p152 : Opd := fun t => t.a2.a3.a0
def s152 : SetF := fun v t => ⟨t.a0, t.a1, ⟨t.a2.a0, t.a2.a1, t.a2.a2, ⟨some v, t.a2.a3.a1, t.a2.a3.a2, t.a2.a3.a3, t.a2.a3.a4, t.a2.a3.a5, t.a2.a3.a6, t.a2.a3.a7⟩, t.a2.a4, t.a2.a5, t.a2.a6, t.a2.a7⟩, t.a3, t.a4, t.a5, t.a6, t.a7⟩
def p153 : Opd := fun t => t.a2.a3.a1
def s153 : SetF := fun v t => ⟨t.a0, t.a1, ⟨t.a2.a0, t.a2.a1, t.a2.a2, ⟨t.a2.a3.a0, some v, t.a2.a3.a2, t.a2.a3.a3, t.a2.a3.a4, t.a2.a3.a5, t.a2.a3.a6, t.a2.a3.a7⟩, t.a2.a4, t.a2.a5, t.a2.a6, t.a2.a7⟩, t.a3, t.a4, t.a5, t.a6, t.a7⟩
def p154 : Opd := fun t => t.a2.a3.a2
def s154 : SetF := fun v t => ⟨t.a0, t.a1, ⟨t.a2.a0, t.a2.a1, t.a2.a2, ⟨t.a2.a3.a0, t.a2.a3.a1, some v, t.a2.a3.a3, t.a2.a3.a4, t.a2.a3.a5, t.a2.a3.a6, t.a2.a3.a7⟩, t.a2.a4, t.a2.a5, t.a2.a6, t.a2.a7⟩, t.a3, t.a4, t.a5, t.a6, t.a7⟩
def p155 : Opd := fun t => t.a2.a3.a3
def s155 : SetF := fun v t => ⟨t.a0, t.a1, ⟨t.a2.a0, t.a2.a1, t.a2.a2, ⟨t.a2.a3.a0, t.a2.a3.a1, t.a2.a3.a2, some v, t.a2.a3.a4, t.a2.a3.a5, t.a2.a3.a6, t.a2.a3.a7⟩, t.a2.a4, t.a2.a5, t.a2.a6, t.a2.a7⟩, t.a3, t.a4, t.a5, t.a6, t.a7⟩
def p156 : Opd := fun t => t.a2.a3.a4
def s156 : SetF := fun v t => ⟨t.a0, t.a1, ⟨t.a2.a0, t.a2.a1, t.a2.a2, ⟨t.a2.a3.a0, t.a2.a3.a1, t.a2.a3.a2, t.a2.a3.a3, some v, t.a2.a3.a5, t.a2.a3.a6, t.a2.a3.a7⟩, t.a2.a4, t.a2.a5, t.a2.a6, t.a2.a7⟩, t.a3, t.a4, t.a5, t.a6, t.a7⟩
def p157 : Opd := fun t => t.a2.a3.a5
def s157 : SetF := fun v t => ⟨t.a0, t.a1, ⟨t.a2.a0, t.a2.a1, t.a2.a2, ⟨t.a2.a3.a0, t.a2.a3.a1, t.a2.a3.a2, t.a2.a3.a3, t.a2.a3.a4, some v, t.a2.a3.a6, t.a2.a3.a7⟩, t.a2.a4, t.a2.a5, t.a2.a6, t.a2.a7⟩, t.a3, t.a4, t.a5, t.a6, t.a7⟩
def p158 : Opd := fun t => t.a2.a3.a6
def s158 : SetF := fun v t => ⟨t.a0, t.a1, ⟨t.a2.a0, t.a2.a1, t.a2.a2, ⟨t.a2.a3.a0, t.a2.a3.a1, t.a2.a3.a2, t.a2.a3.a3, t.a2.a3.a4, t.a2.a3.a5, some v, t.a2.a3.a7⟩, t.a2.a4, t.a2.a5, t.a2.a6, t.a2.a7⟩, t.a3, t.a4, t.a5, t.a6, t.a7⟩
def p159 : Opd := fun t => t.a2.a3.a7
def s159 : SetF := fun v t => ⟨t.a0, t.a1, ⟨t.a2.a0, t.a2.a1, t.a2.a2, ⟨t.a2.a3.a0, t.a2.a3.a1, t.a2.a3.a2, t.a2.a3.a3, t.a2.a3.a4, t.a2.a3.a5, t.a2.a3.a6, some v⟩, t.a2.a4, t.a2.a5, t.a2.a6, t.a2.a7⟩, t.a3, t.a4, t.a5, t.a6, t.a7⟩
def p160 : Opd := fun t => t.a2.a4.a0
def s160 : SetF := fun v t => ⟨t.a0, t.a1, ⟨t.a2.a0, t.a2.a1, t.a2.a2, t.a2.a3, ⟨some v, t.a2.a4.a1, t.a2.a4.a2, t.a2.a4.a3, t.a2.a4.a4, t.a2.a4.a5, t.a2.a4.a6, t.a2.a4.a7⟩, t.a2.a5, t.a2.a6, t.a2.a7⟩, t.a3, t.a4, t.a5, t.a6, t.a7⟩
def p161 : Opd := fun t => t.a2.a4.a1
def s161 : SetF := fun v t => ⟨t.a0, t.a1, ⟨t.a2.a0, t.a2.a1, t.a2.a2, t.a2.a3, ⟨t.a2.a4.a0, some v, t.a2.a4.a2, t.a2.a4.a3, t.a2.a4.a4, t.a2.a4.a5, t.a2.a4.a6, t.a2.a4.a7⟩, t.a2.a5, t.a2.a6, t.a2.a7⟩, t.a3, t.a4, t.a5, t.a6, t.a7⟩
def p162 : Opd := fun t => t.a2.a4.a2
def s162 : SetF := fun v t => ⟨t.a0, t.a1, ⟨t.a2.a0, t.a2.a1, t.a2.a2, t.a2.a3, ⟨t.a2.a4.a0, t.a2.a4.a1, some v, t.a2.a4.a3, t.a2.a4.a4, t.a2.a4.a5, t.a2.a4.a6, t.a2.a4.a7⟩, t.a2.a5, t.a2.a6, t.a2.a7⟩, t.a3, t.a4, t.a5, t.a6, t.a7⟩
def p163 : Opd := fun t => t.a2.a4.a3
def s163 : SetF := fun v t => ⟨t.a0, t.a1, ⟨t.a2.a0, t.a2.a1, t.a2.a2, t.a2.a3, ⟨t.a2.a4.a0, t.a2.a4.a1, t.a2.a4.a2, some v, t.a2.a4.a4, t.a2.a4.a5, t.a2.a4.a6, t.a2.a4.a7⟩, t.a2.a5, t.a2.a6, t.a2.a7⟩, t.a3, t.a4, t.a5, t.a6, t.a7⟩
def p164 : Opd := fun t => t.a2.a4.a4
def s164 : SetF := fun v t => ⟨t.a0, t.a1, ⟨t.a2.a0, t.a2.a1, t.a2.a2, t.a2.a3, ⟨t.a2.a4.a0, t.a2.a4.a1, t.a2.a4.a2, t.a2.a4.a3, some v, t.a2.a4.a5, t.a2.a4.a6, t.a2.a4.a7⟩, t.a2.a5, t.a2.a6, t.a2.a7⟩, t.a3, t.a4, t.a5, t.a6, t.a7⟩
def p165 : Opd := fun t => t.a2.a4.a5
def s165 : SetF := fun v t => ⟨t.a0, t.a1, ⟨t.a2.a0, t.a2.a1, t.a2.a2, t.a2.a3, ⟨t.a2.a4.a0, t.a2.a4.a1, t.a2.a4.a2, t.a2.a4.a3, t.a2.a4.a4, some v, t.a2.a4.a6, t.a2.a4.a7⟩, t.a2.a5, t.a2.a6, t.a2.a7⟩, t.a3, t.a4, t.a5, t.a6, t.a7⟩
def p166 : Opd := fun t => t.a2.a4.a6
def s166 : SetF := fun v t => ⟨t.a0, t.a1, ⟨t.a2.a0, t.a2.a1, t.a2.a2, t.a2.a3, ⟨t.a2.a4.a0, t.a2.a4.a1, t.a2.a4.a2, t.a2.a4.a3, t.a2.a4.a4, t.a2.a4.a5, some v, t.a2.a4.a7⟩, t.a2.a5, t.a2.a6, t.a2.a7⟩, t.a3, t.a4, t.a5, t.a6, t.a7⟩
def p167 : Opd := fun t => t.a2.a4.a7
def s167 : SetF := fun v t => ⟨t.a0, t.a1, ⟨t.a2.a0, t.a2.a1, t.a2.a2, t.a2.a3, ⟨t.a2.a4.a0, t.a2.a4.a1, t.a2.a4.a2, t.a2.a4.a3, t.a2.a4.a4, t.a2.a4.a5, t.a2.a4.a6, some v⟩, t.a2.a5, t.a2.a6, t.a2.a7⟩, t.a3, t.a4, t.a5, t.a6, t.a7⟩
def p168 : Opd := fun t => t.a2.a5.a0
def s168 : SetF := fun v t => ⟨t.a0, t.a1, ⟨t.a2.a0, t.a2.a1, t.a2.a2, t.a2.a3, t.a2.a4, ⟨some v, t.a2.a5.a1, t.a2.a5.a2, t.a2.a5.a3, t.a2.a5.a4, t.a2.a5.a5, t.a2.a5.a6, t.a2.a5.a7⟩, t.a2.a6, t.a2.a7⟩, t.a3, t.a4, t.a5, t.a6, t.a7⟩
def p169 : Opd := fun t => t.a2.a5.a1
def s169 : SetF := fun v t => ⟨t.a0, t.a1, ⟨t.a2.a0, t.a2.a1, t.a2.a2, t.a2.a3, t.a2.a4, ⟨t.a2.a5.a0, some v, t.a2.a5.a2, t.a2.a5.a3, t.a2.a5.a4, t.a2.a5.a5, t.a2.a5.a6, t.a2.a5.a7⟩, t.a2.a6, t.a2.a7⟩, t.a3, t.a4, t.a5, t.a6, t.a7⟩
def p170 : Opd := fun t => t.a2.a5.a2
def s170 : SetF := fun v t => ⟨t.a0, t.a1, ⟨t.a2.a0, t.a2.a1, t.a2.a2, t.a2.a3, t.a2.a4, ⟨t.a2.a5.a0, t.a2.a5.a1, some v, t.a2.a5.a3, t.a2.a5.a4, t.a2.a5.a5, t.a2.a5.a6, t.a2.a5.a7⟩, t.a2.a6, t.a2.a7⟩, t.a3, t.a4, t.a5, t.a6, t.a7⟩
def p171 : Opd := fun t => t.a2.a5.a3
def s171 : SetF := fun v t => ⟨t.a0, t.a1, ⟨t.a2.a0, t.a2.a1, t.a2.a2, t.a2.a3, t.a2.a4, ⟨t.a2.a5.a0, t.a2.a5.a1, t.a2.a5.a2, some v, t.a2.a5.a4, t.a2.a5.a5, t.a2.a5.a6, t.a2.a5.a7⟩, t.a2.a6, t.a2.a7⟩, t.a3, t.a4, t.a5, t.a6, t.a7⟩
def p172 : Opd := fun t => t.a2.a5.a4
def s172 : SetF := fun v t => ⟨t.a0, t.a1, ⟨t.a2.a0, t.a2.a1, t.a2.a2, t.a2.a3, t.a2.a4, ⟨t.a2.a5.a0, t.a2.a5.a1, t.a2.a5.a2, t.a2.a5.a3, some v, t.a2.a5.a5, t.a2.a5.a6, t.a2.a5.a7⟩, t.a2.a6, t.a2.a7⟩, t.a3, t.a4, t.a5, t.a6, t.a7⟩
def p173 : Opd := fun t => t.a2.a5.a5
def s173 : SetF := fun v t => ⟨t.a0, t.a1, ⟨t.a2.a0, t.a2.a1, t.a2.a2, t.a2.a3, t.a2.a4, ⟨t.a2.a5.a0, t.a2.a5.a1, t.a2.a5.a2, t.a2.a5.a3, t.a2.a5.a4, some v, t.a2.a5.a6, t.a2.a5.a7⟩, t.a2.a6, t.a2.a7⟩, t.a3, t.a4, t.a5, t.a6, t.a7⟩
def p174 : Opd := fun t => t.a2.a5.a6
def s174 : SetF := fun v t => ⟨t.a0, t.a1, ⟨t.a2.a0, t.a2.a1, t.a2.a2, t.a2.a3, t.a2.a4, ⟨t.a2.a5.a0, t.a2.a5.a1, t.a2.a5.a2, t.a2.a5.a3, t.a2.a5.a4, t.a2.a5.a5, some v, t.a2.a5.a7⟩, t.a2.a6, t.a2.a7⟩, t.a3, t.a4, t.a5, t.a6, t.a7⟩
def p175 : Opd := fun t => t.a2.a5.a7
def s175 : SetF := fun v t => ⟨t.a0, t.a1, ⟨t.a2.a0, t.a2.a1, t.a2.a2, t.a2.a3, t.a2.a4, ⟨t.a2.a5.a0, t.a2.a5.a1, t.a2.a5.a2, t.a2.a5.a3, t.a2.a5.a4, t.a2.a5.a5, t.a2.a5.a6, some v⟩, t.a2.a6, t.a2.a7⟩, t.a3, t.a4, t.a5, t.a6, t.a7⟩
def p176 : Opd := fun t => t.a2.a6.a0
def s176 : SetF := fun v t => ⟨t.a0, t.a1, ⟨t.a2.a0, t.a2.a1, t.a2.a2, t.a2.a3, t.a2.a4, t.a2.a5, ⟨some v, t.a2.a6.a1, t.a2.a6.a2, t.a2.a6.a3, t.a2.a6.a4, t.a2.a6.a5, t.a2.a6.a6, t.a2.a6.a7⟩, t.a2.a7⟩, t.a3, t.a4, t.a5, t.a6, t.a7⟩
def p177 : Opd := fun t => t.a2.a6.a1
def s177 : SetF := fun v t => ⟨t.a0, t.a1, ⟨t.a2.a0, t.a2.a1, t.a2.a2, t.a2.a3, t.a2.a4, t.a2.a5, ⟨t.a2.a6.a0, some v, t.a2.a6.a2, t.a2.a6.a3, t.a2.a6.a4, t.a2.a6.a5, t.a2.a6.a6, t.a2.a6.a7⟩, t.a2.a7⟩, t.a3, t.a4, t.a5, t.a6, t.a7⟩
def p178 : Opd := fun t => t.a2.a6.a2
def s178 : SetF := fun v t => ⟨t.a0, t.a1, ⟨t.a2.a0, t.a2.a1, t.a2.a2, t.a2.a3, t.a2.a4, t.a2.a5, ⟨t.a2.a6.a0, t.a2.a6.a1, some v, t.a2.a6.a3, t.a2.a6.a4, t.a2.a6.a5, t.a2.a6.a6, t.a2.a6.a7⟩, t.a2.a7⟩, t.a3, t.a4, t.a5, t.a6, t.a7⟩
def p179 : Opd := fun t => t.a2.a6.a3
def s179 : SetF := fun v t => ⟨t.a0, t.a1, ⟨t.a2.a0, t.a2.a1, t.a2.a2, t.a2.a3, t.a2.a4, t.a2.a5, ⟨t.a2.a6.a0, t.a2.a6.a1, t.a2.a6.a2, some v, t.a2.a6.a4, t.a2.a6.a5, t.a2.a6.a6, t.a2.a6.a7⟩, t.a2.a7⟩, t.a3, t.a4, t.a5, t.a6, t.a7⟩
def p180 : Opd := fun t => t.a2.a6.a4
def s180 : SetF := fun v t => ⟨t.a0, t.a1, ⟨t.a2.a0, t.a2.a1, t.a2.a2, t.a2.a3, t.a2.a4, t.a2.a5, ⟨t.a2.a6.a0, t.a2.a6.a1, t.a2.a6.a2, t.a2.a6.a3, some v, t.a2.a6.a5, t.a2.a6.a6, t.a2.a6.a7⟩, t.a2.a7⟩, t.a3, t.a4, t.a5, t.a6, t.a7⟩
def p181 : Opd := fun t => t.a2.a6.a5
def s181 : SetF := fun v t => ⟨t.a0, t.a1, ⟨t.a2.a0, t.a2.a1, t.a2.a2, t.a2.a3, t.a2.a4, t.a2.a5, ⟨t.a2.a6.a0, t.a2.a6.a1, t.a2.a6.a2, t.a2.a6.a3, t.a2.a6.a4, some v, t.a2.a6.a6, t.a2.a6.a7⟩, t.a2.a7⟩, t.a3, t.a4, t.a5, t.a6, t.a7⟩
def p182 : Opd := fun t => t.a2.a6.a6
def s182 : SetF := fun v t => ⟨t.a0, t.a1, ⟨t.a2.a0, t.a2.a1, t.a2.a2, t.a2.a3, t.a2.a4, t.a2.a5, ⟨t.a2.a6.a0, t.a2.a6.a1, t.a2.a6.a2, t.a2.a6.a3, t.a2.a6.a4, t.a2.a6.a5, some v, t.a2.a6.a7⟩, t.a2.a7⟩, t.a3, t.a4, t.a5, t.a6, t.a7⟩
def p183 : Opd := fun t => t.a2.a6.a7
def s183 : SetF := fun v t => ⟨t.a0, t.a1, ⟨t.a2.a0, t.a2.a1, t.a2.a2, t.a2.a3, t.a2.a4, t.a2.a5, ⟨t.a2.a6.a0, t.a2.a6.a1, t.a2.a6.a2, t.a2.a6.a3, t.a2.a6.a4, t.a2.a6.a5, t.a2.a6.a6, some v⟩, t.a2.a7⟩, t.a3, t.a4, t.a5, t.a6, t.a7⟩
def p184 : Opd := fun t => t.a2.a7.a0
def s184 : SetF := fun v t => ⟨t.a0, t.a1, ⟨t.a2.a0, t.a2.a1, t.a2.a2, t.a2.a3, t.a2.a4, t.a2.a5, t.a2.a6, ⟨some v, t.a2.a7.a1, t.a2.a7.a2, t.a2.a7.a3, t.a2.a7.a4, t.a2.a7.a5, t.a2.a7.a6, t.a2.a7.a7⟩⟩, t.a3, t.a4, t.a5, t.a6, t.a7⟩
def p185 : Opd := fun t => t.a2.a7.a1
def s185 : SetF := fun v t => ⟨t.a0, t.a1, ⟨t.a2.a0, t.a2.a1, t.a2.a2, t.a2.a3, t.a2.a4, t.a2.a5, t.a2.a6, ⟨t.a2.a7.a0, some v, t.a2.a7.a2, t.a2.a7.a3, t.a2.a7.a4, t.a2.a7.a5, t.a2.a7.a6, t.a2.a7.a7⟩⟩, t.a3, t.a4, t.a5, t.a6, t.a7⟩
def p186 : Opd := fun t => t.a2.a7.a2
def s186 : SetF := fun v t => ⟨t.a0, t.a1, ⟨t.a2.a0, t.a2.a1, t.a2.a2, t.a2.a3, t.a2.a4, t.a2.a5, t.a2.a6, ⟨t.a2.a7.a0, t.a2.a7.a1, some v, t.a2.a7.a3, t.a2.a7.a4, t.a2.a7.a5, t.a2.a7.a6, t.a2.a7.a7⟩⟩, t.a3, t.a4, t.a5, t.a6, t.a7⟩
def p187 : Opd := fun t => t.a2.a7.a3
def s187 : SetF := fun v t => ⟨t.a0, t.a1, ⟨t.a2.a0, t.a2.a1, t.a2.a2, t.a2.a3, t.a2.a4, t.a2.a5, t.a2.a6, ⟨t.a2.a7.a0, t.a2.a7.a1, t.a2.a7.a2, some v, t.a2.a7.a4, t.a2.a7.a5, t.a2.a7.a6, t.a2.a7.a7⟩⟩, t.a3, t.a4, t.a5, t.a6, t.a7⟩
def p188 : Opd := fun t => t.a2.a7.a4
def s188 : SetF := fun v t => ⟨t.a0, t.a1, ⟨t.a2.a0, t.a2.a1, t.a2.a2, t.a2.a3, t.a2.a4, t.a2.a5, t.a2.a6, ⟨t.a2.a7.a0, t.a2.a7.a1, t.a2.a7.a2, t.a2.a7.a3, some v, t.a2.a7.a5, t.a2.a7.a6, t.a2.a7.a7⟩⟩, t.a3, t.a4, t.a5, t.a6, t.a7⟩
def p189 : Opd := fun t => t.a2.a7.a5
def s189 : SetF := fun v t => ⟨t.a0, t.a1, ⟨t.a2.a0, t.a2.a1, t.a2.a2, t.a2.a3, t.a2.a4, t.a2.a5, t.a2.a6, ⟨t.a2.a7.a0, t.a2.a7.a1, t.a2.a7.a2, t.a2.a7.a3, t.a2.a7.a4, some v, t.a2.a7.a6, t.a2.a7.a7⟩⟩, t.a3, t.a4, t.a5, t.a6, t.a7⟩
def p190 : Opd := fun t => t.a2.a7.a6
def s190 : SetF := fun v t => ⟨t.a0, t.a1, ⟨t.a2.a0, t.a2.a1, t.a2.a2, t.a2.a3, t.a2.a4, t.a2.a5, t.a2.a6, ⟨t.a2.a7.a0, t.a2.a7.a1, t.a2.a7.a2, t.a2.a7.a3, t.a2.a7.a4, t.a2.a7.a5, some v, t.a2.a7.a7⟩⟩, t.a3, t.a4, t.a5, t.a6, t.a7⟩
def p191 : Opd := fun t => t.a2.a7.a7
def s191 : SetF := fun v t => ⟨t.a0, t.a1, ⟨t.a2.a0, t.a2.a1, t.a2.a2, t.a2.a3, t.a2.a4, t.a2.a5, t.a2.a6, ⟨t.a2.a7.a0, t.a2.a7.a1, t.a2.a7.a2, t.a2.a7.a3, t.a2.a7.a4, t.a2.a7.a5, t.a2.a7.a6, some v⟩⟩, t.a3, t.a4, t.a5, t.a6, t.a7⟩
def p192 : Opd := fun t => t.a3.a0.a0
def s192 : SetF := fun v t => ⟨t.a0, t.a1, t.a2, ⟨⟨some v, t.a3.a0.a1, t.a3.a0.a2, t.a3.a0.a3, t.a3.a0.a4, t.a3.a0.a5, t.a3.a0.a6, t.a3.a0.a7⟩, t.a3.a1, t.a3.a2, t.a3.a3, t.a3.a4, t.a3.a5, t.a3.a6, t.a3.a7⟩, t.a4, t.a5, t.a6, t.a7⟩
def p193 : Opd := fun t => t.a3.a0.a1
def s193 : SetF := fun v t => ⟨t.a0, t.a1, t.a2, ⟨⟨t.a3.a0.a0, some v, t.a3.a0.a2, t.a3.a0.a3, t.a3.a0.a4, t.a3.a0.a5, t.a3.a0.a6, t.a3.a0.a7⟩, t.a3.a1, t.a3.a2, t.a3.a3, t.a3.a4, t.a3.a5, t.a3.a6, t.a3.a7⟩, t.a4, t.a5, t.a6, t.a7⟩
def p194 : Opd := fun t => t.a3.a0.a2
def s194 : SetF := fun v t => ⟨t.a0, t.a1, t.a2, ⟨⟨t.a3.a0.a0, t.a3.a0.a1, some v, t.a3.a0.a3, t.a3.a0.a4, t.a3.a0.a5, t.a3.a0.a6, t.a3.a0.a7⟩, t.a3.a1, t.a3.a2, t.a3.a3, t.a3.a4, t.a3.a5, t.a3.a6, t.a3.a7⟩, t.a4, t.a5, t.a6, t.a7⟩
def p195 : Opd := fun t => t.a3.a0.a3
def s195 : SetF := fun v t => ⟨t.a0, t.a1, t.a2, ⟨⟨t.a3.a0.a0, t.a3.a0.a1, t.a3.a0.a2, some v, t.a3.a0.a4, t.a3.a0.a5, t.a3.a0.a6, t.a3.a0.a7⟩, t.a3.a1, t.a3.a2, t.a3.a3, t.a3.a4, t.a3.a5, t.a3.a6, t.a3.a7⟩, t.a4, t.a5, t.a6, t.a7⟩
def p196 : Opd := fun t => t.a3.a0.a4
def s196 : SetF := fun v t => ⟨t.a0, t.a1, t.a2, ⟨⟨t.a3.a0.a0, t.a3.a0.a1, t.a3.a0.a2, t.a3.a0.a3, some v, t.a3.a0.a5, t.a3.a0.a6, t.a3.a0.a7⟩, t.a3.a1, t.a3.a2, t.a3.a3, t.a3.a4, t.a3.a5, t.a3.a6, t.a3.a7⟩, t.a4, t.a5, t.a6, t.a7⟩
def p197 : Opd := fun t => t.a3.a0.a5
def s197 : SetF := fun v t => ⟨t.a0, t.a1, t.a2, ⟨⟨t.a3.a0.a0, t.a3.a0.a1, t.a3.a0.a2, t.a3.a0.a3, t.a3.a0.a4, some v, t.a3.a0.a6, t.a3.a0.a7⟩, t.a3.a1, t.a3.a2, t.a3.a3, t.a3.a4, t.a3.a5, t.a3.a6, t.a3.a7⟩, t.a4, t.a5, t.a6, t.a7⟩
def p198 : Opd := fun t => t.a3.a0.a6
def s198 : SetF := fun v t => ⟨t.a0, t.a1, t.a2, ⟨⟨t.a3.a0.a0, t.a3.a0.a1, t.a3.a0.a2, t.a3.a0.a3, t.a3.a0.a4, t.a3.a0.a5, some v, t.a3.a0.a7⟩, t.a3.a1, t.a3.a2, t.a3.a3, t.a3.a4, t.a3.a5, t.a3.a6, t.a3.a7⟩, t.a4, t.a5, t.a6, t.a7⟩
def p199 : Opd := fun t => t.a3.a0.a7
def s199 : SetF := fun v t => ⟨t.a0, t.a1, t.a2, ⟨⟨t.a3.a0.a0, t.a3.a0.a1, t.a3.a0.a2, t.a3.a0.a3, t.a3.a0.a4, t.a3.a0.a5, t.a3.a0.a6, some v⟩, t.a3.a1, t.a3.a2, t.a3.a3, t.a3.a4, t.a3.a5, t.a3.a6, t.a3.a7⟩, t.a4, t.a5, t.a6, t.a7⟩
def p200 : Opd := fun t => t.a3.a1.a0
def s200 : SetF := fun v t => ⟨t.a0, t.a1, t.a2, ⟨t.a3.a0, ⟨some v, t.a3.a1.a1, t.a3.a1.a2, t.a3.a1.a3, t.a3.a1.a4, t.a3.a1.a5, t.a3.a1.a6, t.a3.a1.a7⟩, t.a3.a2, t.a3.a3, t.a3.a4, t.a3.a5, t.a3.a6, t.a3.a7⟩, t.a4, t.a5, t.a6, t.a7⟩
def p201 : Opd := fun t => t.a3.a1.a1
def s201 : SetF := fun v t => ⟨t.a0, t.a1, t.a2, ⟨t.a3.a0, ⟨t.a3.a1.a0, some v, t.a3.a1.a2, t.a3.a1.a3, t.a3.a1.a4, t.a3.a1.a5, t.a3.a1.a6, t.a3.a1.a7⟩, t.a3.a2, t.a3.a3, t.a3.a4, t.a3.a5, t.a3.a6, t.a3.a7⟩, t.a4, t.a5, t.a6, t.a7⟩
def p202 : Opd := fun t => t.a3.a1.a2
def s202 : SetF := fun v t => ⟨t.a0, t.a1, t.a2, ⟨t.a3.a0, ⟨t.a3.a1.a0, t.a3.a1.a1, some v, t.a3.a1.a3, t.a3.a1.a4, t.a3.a1.a5, t.a3.a1.a6, t.a3.a1.a7⟩, t.a3.a2, t.a3.a3, t.a3.a4, t.a3.a5, t.a3.a6, t.a3.a7⟩, t.a4, t.a5, t.a6, t.a7⟩
def p203 : Opd := fun t => t.a3.a1.a3
def s203 : SetF := fun v t => ⟨t.a0, t.a1, t.a2, ⟨t.a3.a0, ⟨t.a3.a1.a0, t.a3.a1.a1, t.a3.a1.a2, some v, t.a3.a1.a4, t.a3.a1.a5, t.a3.a1.a6, t.a3.a1.a7⟩, t.a3.a2, t.a3.a3, t.a3.a4, t.a3.a5, t.a3.a6, t.a3.a7⟩, t.a4, t.a5, t.a6, t.a7⟩
def p204 : Opd := fun t => t.a3.a1.a4
def s204 : SetF := fun v t => ⟨t.a0, t.a1, t.a2, ⟨t.a3.a0, ⟨t.a3.a1.a0, t.a3.a1.a1, t.a3.a1.a2, t.a3.a1.a3, some v, t.a3.a1.a5, t.a3.a1.a6, t.a3.a1.a7⟩, t.a3.a2, t.a3.a3, t.a3.a4, t.a3.a5, t.a3.a6, t.a3.a7⟩, t.a4, t.a5, t.a6, t.a7⟩
def p205 : Opd := fun t => t.a3.a1.a5
def s205 : SetF := fun v t => ⟨t.a0, t.a1, t.a2, ⟨t.a3.a0, ⟨t.a3.a1.a0, t.a3.a1.a1, t.a3.a1.a2, t.a3.a1.a3, t.a3.a1.a4, some v, t.a3.a1.a6, t.a3.a1.a7⟩, t.a3.a2, t.a3.a3, t.a3.a4, t.a3.a5, t.a3.a6, t.a3.a7⟩, t.a4, t.a5, t.a6, t.a7⟩
def p206 : Opd := fun t => t.a3.a1.a6
def s206 : SetF := fun v t => ⟨t.a0, t.a1, t.a2, ⟨t.a3.a0, ⟨t.a3.a1.a0, t.a3.a1.a1, t.a3.a1.a2, t.a3.a1.a3, t.a3.a1.a4, t.a3.a1.a5, some v, t.a3.a1.a7⟩, t.a3.a2, t.a3.a3, t.a3.a4, t.a3.a5, t.a3.a6, t.a3.a7⟩, t.a4, t.a5, t.a6, t.a7⟩
def p207 : Opd := fun t => t.a3.a1.a7
def s207 : SetF := fun v t => ⟨t.a0, t.a1, t.a2, ⟨t.a3.a0, ⟨t.a3.a1.a0, t.a3.a1.a1, t.a3.a1.a2, t.a3.a1.a3, t.a3.a1.a4, t.a3.a1.a5, t.a3.a1.a6, some v⟩, t.a3.a2, t.a3.a3, t.a3.a4, t.a3.a5, t.a3.a6, t.a3.a7⟩, t.a4, t.a5, t.a6, t.a7⟩
def p208 : Opd := fun t => t.a3.a2.a0
def s208 : SetF := fun v t => ⟨t.a0, t.a1, t.a2, ⟨t.a3.a0, t.a3.a1, ⟨some v, t.a3.a2.a1, t.a3.a2.a2, t.a3.a2.a3, t.a3.a2.a4, t.a3.a2.a5, t.a3.a2.a6, t.a3.a2.a7⟩, t.a3.a3, t.a3.a4, t.a3.a5, t.a3.a6, t.a3.a7⟩, t.a4, t.a5, t.a6, t.a7⟩
def p209 : Opd := fun t => t.a3.a2.a1
def s209 : SetF := fun v t => ⟨t.a0, t.a1, t.a2, ⟨t.a3.a0, t.a3.a1, ⟨t.a3.a2.a0, some v, t.a3.a2.a2, t.a3.a2.a3, t.a3.a2.a4, t.a3.a2.a5, t.a3.a2.a6, t.a3.a2.a7⟩, t.a3.a3, t.a3.a4, t.a3.a5, t.a3.a6, t.a3.a7⟩, t.a4, t.a5, t.a6, t.a7⟩
def p210 : Opd := fun t => t.a3.a2.a2
def s210 : SetF := fun v t => ⟨t.a0, t.a1, t.a2, ⟨t.a3.a0, t.a3.a1, ⟨t.a3.a2.a0, t.a3.a2.a1, some v, t.a3.a2.a3, t.a3.a2.a4, t.a3.a2.a5, t.a3.a2.a6, t.a3.a2.a7⟩, t.a3.a3, t.a3.a4, t.a3.a5, t.a3.a6, t.a3.a7⟩, t.a4, t.a5, t.a6, t.a7⟩
def p211 : Opd := fun t => t.a3.a2.a3
def s211 : SetF := fun v t => ⟨t.a0, t.a1, t.a2, ⟨t.a3.a0, t.a3.a1, ⟨t.a3.a2.a0, t.a3.a2.a1, t.a3.a2.a2, some v, t.a3.a2.a4, t.a3.a2.a5, t.a3.a2.a6, t.a3.a2.a7⟩, t.a3.a3, t.a3.a4, t.a3.a5, t.a3.a6, t.a3.a7⟩, t.a4, t.a5, t.a6, t.a7⟩
def p212 : Opd := fun t => t.a3.a2.a4
def s212 : SetF := fun v t => ⟨t.a0, t.a1, t.a2, ⟨t.a3.a0, t.a3.a1, ⟨t.a3.a2.a0, t.a3.a2.a1, t.a3.a2.a2, t.a3.a2.a3, some v, t.a3.a2.a5, t.a3.a2.a6, t.a3.a2.a7⟩, t.a3.a3, t.a3.a4, t.a3.a5, t.a3.a6, t.a3.a7⟩, t.a4, t.a5, t.a6, t.a7⟩
def p213 : Opd := fun t => t.a3.a2.a5
def s213 : SetF := fun v t => ⟨t.a0, t.a1, t.a2, ⟨t.a3.a0, t.a3.a1, ⟨t.a3.a2.a0, t.a3.a2.a1, t.a3.a2.a2, t.a3.a2.a3, t.a3.a2.a4, some v, t.a3.a2.a6, t.a3.a2.a7⟩, t.a3.a3, t.a3.a4, t.a3.a5, t.a3.a6, t.a3.a7⟩, t.a4, t.a5, t.a6, t.a7⟩
def p214 : Opd := fun t => t.a3.a2.a6
def s214 : SetF := fun v t => ⟨t.a0, t.a1, t.a2, ⟨t.a3.a0, t.a3.a1, ⟨t.a3.a2.a0, t.a3.a2.a1, t.a3.a2.a2, t.a3.a2.a3, t.a3.a2.a4, t.a3.a2.a5, some v, t.a3.a2.a7⟩, t.a3.a3, t.a3.a4, t.a3.a5, t.a3.a6, t.a3.a7⟩, t.a4, t.a5, t.a6, t.a7⟩
def p215 : Opd := fun t => t.a3.a2.a7
def s215 : SetF := fun v t => ⟨t.a0, t.a1, t.a2, ⟨t.a3.a0, t.a3.a1, ⟨t.a3.a2.a0, t.a3.a2.a1, t.a3.a2.a2, t.a3.a2.a3, t.a3.a2.a4, t.a3.a2.a5, t.a3.a2.a6, some v⟩, t.a3.a3, t.a3.a4, t.a3.a5, t.a3.a6, t.a3.a7⟩, t.a4, t.a5, t.a6, t.a7⟩
def p216 : Opd := fun t => t.a3.a3.a0
def s216 : SetF := fun v t => ⟨t.a0, t.a1, t.a2, ⟨t.a3.a0, t.a3.a1, t.a3.a2, ⟨some v, t.a3.a3.a1, t.a3.a3.a2, t.a3.a3.a3, t.a3.a3.a4, t.a3.a3.a5, t.a3.a3.a6, t.a3.a3.a7⟩, t.a3.a4, t.a3.a5, t.a3.a6, t.a3.a7⟩, t.a4, t.a5, t.a6, t.a7⟩
def p217 : Opd := fun t => t.a3.a3.a1
def s217 : SetF := fun v t => ⟨t.a0, t.a1, t.a2, ⟨t.a3.a0, t.a3.a1, t.a3.a2, ⟨t.a3.a3.a0, some v, t.a3.a3.a2, t.a3.a3.a3, t.a3.a3.a4, t.a3.a3.a5, t.a3.a3.a6, t.a3.a3.a7⟩, t.a3.a4, t.a3.a5, t.a3.a6, t.a3.a7⟩, t.a4, t.a5, t.a6, t.a7⟩
def p218 : Opd := fun t => t.a3.a3.a2
def s218 : SetF := fun v t => ⟨t.a0, t.a1, t.a2, ⟨t.a3.a0, t.a3.a1, t.a3.a2, ⟨t.a3.a3.a0, t.a3.a3.a1, some v, t.a3.a3.a3, t.a3.a3.a4, t.a3.a3.a5, t.a3.a3.a6, t.a3.a3.a7⟩, t.a3.a4, t.a3.a5, t.a3.a6, t.a3.a7⟩, t.a4, t.a5, t.a6, t.a7⟩
def p219 : Opd := fun t => t.a3.a3.a3
def s219 : SetF := fun v t => ⟨t.a0, t.a1, t.a2, ⟨t.a3.a0, t.a3.a1, t.a3.a2, ⟨t.a3.a3.a0, t.a3.a3.a1, t.a3.a3.a2, some v, t.a3.a3.a4, t.a3.a3.a5, t.a3.a3.a6, t.a3.a3.a7⟩, t.a3.a4, t.a3.a5, t.a3.a6, t.a3.a7⟩, t.a4, t.a5, t.a6, t.a7⟩
def p220 : Opd := fun t => t.a3.a3.a4
def s220 : SetF := fun v t => ⟨t.a0, t.a1, t.a2, ⟨t.a3.a0, t.a3.a1, t.a3.a2, ⟨t.a3.a3.a0, t.a3.a3.a1, t.a3.a3.a2, t.a3.a3.a3, some v, t.a3.a3.a5, t.a3.a3.a6, t.a3.a3.a7⟩, t.a3.a4, t.a3.a5, t.a3.a6, t.a3.a7⟩, t.a4, t.a5, t.a6, t.a7⟩
def p221 : Opd := fun t => t.a3.a3.a5
def s221 : SetF := fun v t => ⟨t.a0, t.a1, t.a2, ⟨t.a3.a0, t.a3.a1, t.a3.a2, ⟨t.a3.a3.a0, t.a3.a3.a1, t.a3.a3.a2, t.a3.a3.a3, t.a3.a3.a4, some v, t.a3.a3.a6, t.a3.a3.a7⟩, t.a3.a4, t.a3.a5, t.a3.a6, t.a3.a7⟩, t.a4, t.a5, t.a6, t.a7⟩
def p222 : Opd := fun t => t.a3.a3.a6
def s222 : SetF := fun v t => ⟨t.a0, t.a1, t.a2, ⟨t.a3.a0, t.a3.a1, t.a3.a2, ⟨t.a3.a3.a0, t.a3.a3.a1, t.a3.a3.a2, t.a3.a3.a3, t.a3.a3.a4, t.a3.a3.a5, some v, t.a3.a3.a7⟩, t.a3.a4, t.a3.a5, t.a3.a6, t.a3.a7⟩, t.a4, t.a5, t.a6, t.a7⟩
def p223 : Opd := fun t => t.a3.a3.a7
def s223 : SetF := fun v t => ⟨t.a0, t.a1, t.a2, ⟨t.a3.a0, t.a3.a1, t.a3.a2, ⟨t.a3.a3.a0, t.a3.a3.a1, t.a3.a3.a2, t.a3.a3.a3, t.a3.a3.a4, t.a3.a3.a5, t.a3.a3.a6, some v⟩, t.a3.a4, t.a3.a5, t.a3.a6, t.a3.a7⟩, t.a4, t.a5, t.a6, t.a7⟩
def p224 : Opd := fun t => t.a3.a4.a0
def s224 : SetF := fun v t => ⟨t.a0, t.a1, t.a2, ⟨t.a3.a0, t.a3.a1, t.a3.a2, t.a3.a3, ⟨some v, t.a3.a4.a1, t.a3.a4.a2, t.a3.a4.a3, t.a3.a4.a4, t.a3.a4.a5, t.a3.a4.a6, t.a3.a4.a7⟩, t.a3.a5, t.a3.a6, t.a3.a7⟩, t.a4, t.a5, t.a6, t.a7⟩
def p225 : Opd := fun t => t.a3.a4.a1
def s225 : SetF := fun v t => ⟨t.a0, t.a1, t.a2, ⟨t.a3.a0, t.a3.a1, t.a3.a2, t.a3.a3, ⟨t.a3.a4.a0, some v, t.a3.a4.a2, t.a3.a4.a3, t.a3.a4.a4, t.a3.a4.a5, t.a3.a4.a6, t.a3.a4.a7⟩, t.a3.a5, t.a3.a6, t.a3.a7⟩, t.a4, t.a5, t.a6, t.a7⟩
def p226 : Opd := fun t => t.a3.a4.a2
def s226 : SetF := fun v t => ⟨t.a0, t.a1, t.a2, ⟨t.a3.a0, t.a3.a1, t.a3.a2, t.a3.a3, ⟨t.a3.a4.a0, t.a3.a4.a1, some v, t.a3.a4.a3, t.a3.a4.a4, t.a3.a4.a5, t.a3.a4.a6, t.a3.a4.a7⟩, t.a3.a5, t.a3.a6, t.a3.a7⟩, t.a4, t.a5, t.a6, t.a7⟩
def p227 : Opd := fun t => t.a3.a4.a3
def s227 : SetF := fun v t => ⟨t.a0, t.a1, t.a2, ⟨t.a3.a0, t.a3.a1, t.a3.a2, t.a3.a3, ⟨t.a3.a4.a0, t.a3.a4.a1, t.a3.a4.a2, some v, t.a3.a4.a4, t.a3.a4.a5, t.a3.a4.a6, t.a3.a4.a7⟩, t.a3.a5, t.a3.a6, t.a3.a7⟩, t.a4, t.a5, t.a6, t.a7⟩
def p228 : Opd := fun t => t.a3.a4.a4
def s228 : SetF := fun v t => ⟨t.a0, t.a1, t.a2, ⟨t.a3.a0, t.a3.a1, t.a3.a2, t.a3.a3, ⟨t.a3.a4.a0, t.a3.a4.a1, t.a3.a4.a2, t.a3.a4.a3, some v, t.a3.a4.a5, t.a3.a4.a6, t.a3.a4.a7⟩, t.a3.a5, t.a3.a6, t.a3.a7⟩, t.a4, t.a5, t.a6, t.a7⟩
def p229 : Opd := fun t => t.a3.a4.a5
def s229 : SetF := fun v t => ⟨t.a0, t.a1, t.a2, ⟨t.a3.a0, t.a3.a1, t.a3.a2, t.a3.a3, ⟨t.a3.a4.a0, t.a3.a4.a1, t.a3.a4.a2, t.a3.a4.a3, t.a3.a4.a4, some v, t.a3.a4.a6, t.a3.a4.a7⟩, t.a3.a5, t.a3.a6, t.a3.a7⟩, t.a4, t.a5, t.a6, t.a7⟩
def p230 : Opd := fun t => t.a3.a4.a6
def s230 : SetF := fun v t => ⟨t.a0, t.a1, t.a2, ⟨t.a3.a0, t.a3.a1, t.a3.a2, t.a3.a3, ⟨t.a3.a4.a0, t.a3.a4.a1, t.a3.a4.a2, t.a3.a4.a3, t.a3.a4.a4, t.a3.a4.a5, some v, t.a3.a4.a7⟩, t.a3.a5, t.a3.a6, t.a3.a7⟩, t.a4, t.a5, t.a6, t.a7⟩
def p231 : Opd := fun t => t.a3.a4.a7
def s231 : SetF := fun v t => ⟨t.a0, t.a1, t.a2, ⟨t.a3.a0, t.a3.a1, t.a3.a2, t.a3.a3, ⟨t.a3.a4.a0, t.a3.a4.a1, t.a3.a4.a2, t.a3.a4.a3, t.a3.a4.a4, t.a3.a4.a5, t.a3.a4.a6, some v⟩, t.a3.a5, t.a3.a6, t.a3.a7⟩, t.a4, t.a5, t.a6, t.a7⟩
def p232 : Opd := fun t => t.a3.a5.a0
def s232 : SetF := fun v t => ⟨t.a0, t.a1, t.a2, ⟨t.a3.a0, t.a3.a1, t.a3.a2, t.a3.a3, t.a3.a4, ⟨some v, t.a3.a5.a1, t.a3.a5.a2, t.a3.a5.a3, t.a3.a5.a4, t.a3.a5.a5, t.a3.a5.a6, t.a3.a5.a7⟩, t.a3.a6, t.a3.a7⟩, t.a4, t.a5, t.a6, t.a7⟩
def p233 : Opd := fun t => t.a3.a5.a1
def s233 : SetF := fun v t => ⟨t.a0, t.a1, t.a2, ⟨t.a3.a0, t.a3.a1, t.a3.a2, t.a3.a3, t.a3.a4, ⟨t.a3.a5.a0, some v, t.a3.a5.a2, t.a3.a5.a3, t.a3.a5.a4, t.a3.a5.a5, t.a3.a5.a6, t.a3.a5.a7⟩, t.a3.a6, t.a3.a7⟩, t.a4, t.a5, t.a6, t.a7⟩
def p234 : Opd := fun t => t.a3.a5.a2
def s234 : SetF := fun v t => ⟨t.a0, t.a1, t.a2, ⟨t.a3.a0, t.a3.a1, t.a3.a2, t.a3.a3, t.a3.a4, ⟨t.a3.a5.a0, t.a3.a5.a1, some v, t.a3.a5.a3, t.a3.a5.a4, t.a3.a5.a5, t.a3.a5.a6, t.a3.a5.a7⟩, t.a3.a6, t.a3.a7⟩, t.a4, t.a5, t.a6, t.a7⟩
def p235 : Opd := fun t => t.a3.a5.a3
def s235 : SetF := fun v t => ⟨t.a0, t.a1, t.a2, ⟨t.a3.a0, t.a3.a1, t.a3.a2, t.a3.a3, t.a3.a4, ⟨t.a3.a5.a0, t.a3.a5.a1, t.a3.a5.a2, some v, t.a3.a5.a4, t.a3.a5.a5, t.a3.a5.a6, t.a3.a5.a7⟩, t.a3.a6, t.a3.a7⟩, t.a4, t.a5, t.a6, t.a7⟩
def p236 : Opd := fun t => t.a3.a5.a4
def s236 : SetF := fun v t => ⟨t.a0, t.a1, t.a2, ⟨t.a3.a0, t.a3.a1, t.a3.a2, t.a3.a3, t.a3.a4, ⟨t.a3.a5.a0, t.a3.a5.a1, t.a3.a5.a2, t.a3.a5.a3, some v, t.a3.a5.a5, t.a3.a5.a6, t.a3.a5.a7⟩, t.a3.a6, t.a3.a7⟩, t.a4, t.a5, t.a6, t.a7⟩
def p237 : Opd := fun t => t.a3.a5.a5
def s237 : SetF := fun v t => ⟨t.a0, t.a1, t.a2, ⟨t.a3.a0, t.a3.a1, t.a3.a2, t.a3.a3, t.a3.a4, ⟨t.a3.a5.a0, t.a3.a5.a1, t.a3.a5.a2, t.a3.a5.a3, t.a3.a5.a4, some v, t.a3.a5.a6, t.a3.a5.a7⟩, t.a3.a6, t.a3.a7⟩, t.a4, t.a5, t.a6, t.a7⟩
def p238 : Opd := fun t => t.a3.a5.a6
def s238 : SetF := fun v t => ⟨t.a0, t.a1, t.a2, ⟨t.a3.a0, t.a3.a1, t.a3.a2, t.a3.a3, t.a3.a4, ⟨t.a3.a5.a0, t.a3.a5.a1, t.a3.a5.a2, t.a3.a5.a3, t.a3.a5.a4, t.a3.a5.a5, some v, t.a3.a5.a7⟩, t.a3.a6, t.a3.a7⟩, t.a4, t.a5, t.a6, t.a7⟩
def p239 : Opd := fun t => t.a3.a5.a7
def s239 : SetF := fun v t => ⟨t.a0, t.a1, t.a2, ⟨t.a3.a0, t.a3.a1, t.a3.a2, t.a3.a3, t.a3.a4, ⟨t.a3.a5.a0, t.a3.a5.a1, t.a3.a5.a2, t.a3.a5.a3, t.a3.a5.a4, t.a3.a5.a5, t.a3.a5.a6, some v⟩, t.a3.a6, t.a3.a7⟩, t.a4, t.a5, t.a6, t.a7⟩
def p240 : Opd := fun t => t.a3.a6.a0
def s240 : SetF := fun v t => ⟨t.a0, t.a1, t.a2, ⟨t.a3.a0, t.a3.a1, t.a3.a2, t.a3.a3, t.a3.a4, t.a3.a5, ⟨some v, t.a3.a6.a1, t.a3.a6.a2, t.a3.a6.a3, t.a3.a6.a4, t.a3.a6.a5, t.a3.a6.a6, t.a3.a6.a7⟩, t.a3.a7⟩, t.a4, t.a5, t.a6, t.a7⟩
def p241 : Opd := fun t => t.a3.a6.a1
def s241 : SetF := fun v t => ⟨t.a0, t.a1, t.a2, ⟨t.a3.a0, t.a3.a1, t.a3.a2, t.a3.a3, t.a3.a4, t.a3.a5, ⟨t.a3.a6.a0, some v, t.a3.a6.a2, t.a3.a6.a3, t.a3.a6.a4, t.a3.a6.a5, t.a3.a6.a6, t.a3.a6.a7⟩, t.a3.a7⟩, t.a4, t.a5, t.a6, t.a7⟩
def p242 : Opd := fun t => t.a3.a6.a2
def s242 : SetF := fun v t => ⟨t.a0, t.a1, t.a2, ⟨t.a3.a0, t.a3.a1, t.a3.a2, t.a3.a3, t.a3.a4, t.a3.a5, ⟨t.a3.a6.a0, t.a3.a6.a1, some v, t.a3.a6.a3, t.a3.a6.a4, t.a3.a6.a5, t.a3.a6.a6, t.a3.a6.a7⟩, t.a3.a7⟩, t.a4, t.a5, t.a6, t.a7⟩
def p243 : Opd := fun t => t.a3.a6.a3
def s243 : SetF := fun v t => ⟨t.a0, t.a1, t.a2, ⟨t.a3.a0, t.a3.a1, t.a3.a2, t.a3.a3, t.a3.a4, t.a3.a5, ⟨t.a3.a6.a0, t.a3.a6.a1, t.a3.a6.a2, some v, t.a3.a6.a4, t.a3.a6.a5, t.a3.a6.a6, t.a3.a6.a7⟩, t.a3.a7⟩, t.a4, t.a5, t.a6, t.a7⟩
def p244 : Opd := fun t => t.a3.a6.a4
def s244 : SetF := fun v t => ⟨t.a0, t.a1, t.a2, ⟨t.a3.a0, t.a3.a1, t.a3.a2, t.a3.a3, t.a3.a4, t.a3.a5, ⟨t.a3.a6.a0, t.a3.a6.a1, t.a3.a6.a2, t.a3.a6.a3, some v, t.a3.a6.a5, t.a3.a6.a6, t.a3.a6.a7⟩, t.a3.a7⟩, t.a4, t.a5, t.a6, t.a7⟩
def p245 : Opd := fun t => t.a3.a6.a5
def s245 : SetF := fun v t => ⟨t.a0, t.a1, t.a2, ⟨t.a3.a0, t.a3.a1, t.a3.a2, t.a3.a3, t.a3.a4, t.a3.a5, ⟨t.a3.a6.a0, t.a3.a6.a1, t.a3.a6.a2, t.a3.a6.a3, t.a3.a6.a4, some v, t.a3.a6.a6, t.a3.a6.a7⟩, t.a3.a7⟩, t.a4, t.a5, t.a6, t.a7⟩
def p246 : Opd := fun t => t.a3.a6.a6
def s246 : SetF := fun v t => ⟨t.a0, t.a1, t.a2, ⟨t.a3.a0, t.a3.a1, t.a3.a2, t.a3.a3, t.a3.a4, t.a3.a5, ⟨t.a3.a6.a0, t.a3.a6.a1, t.a3.a6.a2, t.a3.a6.a3, t.a3.a6.a4, t.a3.a6.a5, some v, t.a3.a6.a7⟩, t.a3.a7⟩, t.a4, t.a5, t.a6, t.a7⟩
def p247 : Opd := fun t => t.a3.a6.a7
def s247 : SetF := fun v t => ⟨t.a0, t.a1, t.a2, ⟨t.a3.a0, t.a3.a1, t.a3.a2, t.a3.a3, t.a3.a4, t.a3.a5, ⟨t.a3.a6.a0, t.a3.a6.a1, t.a3.a6.a2, t.a3.a6.a3, t.a3.a6.a4, t.a3.a6.a5, t.a3.a6.a6, some v⟩, t.a3.a7⟩, t.a4, t.a5, t.a6, t.a7⟩
def p248 : Opd := fun t => t.a3.a7.a0
def s248 : SetF := fun v t => ⟨t.a0, t.a1, t.a2, ⟨t.a3.a0, t.a3.a1, t.a3.a2, t.a3.a3, t.a3.a4, t.a3.a5, t.a3.a6, ⟨some v, t.a3.a7.a1, t.a3.a7.a2, t.a3.a7.a3, t.a3.a7.a4, t.a3.a7.a5, t.a3.a7.a6, t.a3.a7.a7⟩⟩, t.a4, t.a5, t.a6, t.a7⟩
def p249 : Opd := fun t => t.a3.a7.a1
def s249 : SetF := fun v t => ⟨t.a0, t.a1, t.a2, ⟨t.a3.a0, t.a3.a1, t.a3.a2, t.a3.a3, t.a3.a4, t.a3.a5, t.a3.a6, ⟨t.a3.a7.a0, some v, t.a3.a7.a2, t.a3.a7.a3, t.a3.a7.a4, t.a3.a7.a5, t.a3.a7.a6, t.a3.a7.a7⟩⟩, t.a4, t.a5, t.a6, t.a7⟩
def p250 : Opd := fun t => t.a3.a7.a2
def s250 : SetF := fun v t => ⟨t.a0, t.a1, t.a2, ⟨t.a3.a0, t.a3.a1, t.a3.a2, t.a3.a3, t.a3.a4, t.a3.a5, t.a3.a6, ⟨t.a3.a7.a0, t.a3.a7.a1, some v, t.a3.a7.a3, t.a3.a7.a4, t.a3.a7.a5, t.a3.a7.a6, t.a3.a7.a7⟩⟩, t.a4, t.a5, t.a6, t.a7⟩
def p251 : Opd := fun t => t.a3.a7.a3
def s251 : SetF := fun v t => ⟨t.a0, t.a1, t.a2, ⟨t.a3.a0, t.a3.a1, t.a3.a2, t.a3.a3, t.a3.a4, t.a3.a5, t.a3.a6, ⟨t.a3.a7.a0, t.a3.a7.a1, t.a3.a7.a2, some v, t.a3.a7.a4, t.a3.a7.a5, t.a3.a7.a6, t.a3.a7.a7⟩⟩, t.a4, t.a5, t.a6, t.a7⟩
def p252 : Opd := fun t => t.a3.a7.a4
def s252 : SetF := fun v t => ⟨t.a0, t.a1, t.a2, ⟨t.a3.a0, t.a3.a1, t.a3.a2, t.a3.a3, t.a3.a4, t.a3.a5, t.a3.a6, ⟨t.a3.a7.a0, t.a3.a7.a1, t.a3.a7.a2, t.a3.a7.a3, some v, t.a3.a7.a5, t.a3.a7.a6, t.a3.a7.a7⟩⟩, t.a4, t.a5, t.a6, t.a7⟩
def p253 : Opd := fun t => t.a3.a7.a5
def s253 : SetF := fun v t => ⟨t.a0, t.a1, t.a2, ⟨t.a3.a0, t.a3.a1, t.a3.a2, t.a3.a3, t.a3.a4, t.a3.a5, t.a3.a6, ⟨t.a3.a7.a0, t.a3.a7.a1, t.a3.a7.a2, t.a3.a7.a3, t.a3.a7.a4, some v, t.a3.a7.a6, t.a3.a7.a7⟩⟩, t.a4, t.a5, t.a6, t.a7⟩
def p254 : Opd := fun t => t.a3.a7.a6
def s254 : SetF := fun v t => ⟨t.a0, t.a1, t.a2, ⟨t.a3.a0, t.a3.a1, t.a3.a2, t.a3.a3, t.a3.a4, t.a3.a5, t.a3.a6, ⟨t.a3.a7.a0, t.a3.a7.a1, t.a3.a7.a2, t.a3.a7.a3, t.a3.a7.a4, t.a3.a7.a5, some v, t.a3.a7.a7⟩⟩, t.a4, t.a5, t.a6, t.a7⟩
def p255 : Opd := fun t => t.a3.a7.a7
def s255 : SetF := fun v t => ⟨t.a0, t.a1, t.a2, ⟨t.a3.a0, t.a3.a1, t.a3.a2, t.a3.a3, t.a3.a4, t.a3.a5, t.a3.a6, ⟨t.a3.a7.a0, t.a3.a7.a1, t.a3.a7.a2, t.a3.a7.a3, t.a3.a7.a4, t.a3.a7.a5, t.a3.a7.a6, some v⟩⟩, t.a4, t.a5, t.a6, t.a7⟩
def p256 : Opd := fun t => t.a4.a0.a0
def s256 : SetF := fun v t => ⟨t.a0, t.a1, t.a2, t.a3, ⟨⟨some v, t.a4.a0.a1, t.a4.a0.a2, t.a4.a0.a3, t.a4.a0.a4, t.a4.a0.a5, t.a4.a0.a6, t.a4.a0.a7⟩, t.a4.a1, t.a4.a2, t.a4.a3, t.a4.a4, t.a4.a5, t.a4.a6, t.a4.a7⟩, t.a5, t.a6, t.a7⟩
def p257 : Opd := fun t => t.a4.a0.a1
def s257 : SetF := fun v t => ⟨t.a0, t.a1, t.a2, t.a3, ⟨⟨t.a4.a0.a0, some v, t.a4.a0.a2, t.a4.a0.a3, t.a4.a0.a4, t.a4.a0.a5, t.a4.a0.a6, t.a4.a0.a7⟩, t.a4.a1, t.a4.a2, t.a4.a3, t.a4.a4, t.a4.a5, t.a4.a6, t.a4.a7⟩, t.a5, t.a6, t.a7⟩
def p258 : Opd := fun t => t.a4.a0.a2
def s258 : SetF := fun v t => ⟨t.a0, t.a1, t.a2, t.a3, ⟨⟨t.a4.a0.a0, t.a4.a0.a1, some v, t.a4.a0.a3, t.a4.a0.a4, t.a4.a0.a5, t.a4.a0.a6, t.a4.a0.a7⟩, t.a4.a1, t.a4.a2, t.a4.a3, t.a4.a4, t.a4.a5, t.a4.a6, t.a4.a7⟩, t.a5, t.a6, t.a7⟩
def p259 : Opd := fun t => t.a4.a0.a3
def s259 : SetF := fun v t => ⟨t.a0, t.a1, t.a2, t.a3, ⟨⟨t.a4.a0.a0, t.a4.a0.a1, t.a4.a0.a2, some v, t.a4.a0.a4, t.a4.a0.a5, t.a4.a0.a6, t.a4.a0.a7⟩, t.a4.a1, t.a4.a2, t.a4.a3, t.a4.a4, t.a4.a5, t.a4.a6, t.a4.a7⟩, t.a5, t.a6, t.a7⟩
def p260 : Opd := fun t => t.a4.a0.a4
def s260 : SetF := fun v t => ⟨t.a0, t.a1, t.a2, t.a3, ⟨⟨t.a4.a0.a0, t.a4.a0.a1, t.a4.a0.a2, t.a4.a0.a3, some v, t.a4.a0.a5, t.a4.a0.a6, t.a4.a0.a7⟩, t.a4.a1, t.a4.a2, t.a4.a3, t.a4.a4, t.a4.a5, t.a4.a6, t.a4.a7⟩, t.a5, t.a6, t.a7⟩
def p261 : Opd := fun t => t.a4.a0.a5
def s261 : SetF := fun v t => ⟨t.a0, t.a1, t.a2, t.a3, ⟨⟨t.a4.a0.a0, t.a4.a0.a1, t.a4.a0.a2, t.a4.a0.a3, t.a4.a0.a4, some v, t.a4.a0.a6, t.a4.a0.a7⟩, t.a4.a1, t.a4.a2, t.a4.a3, t.a4.a4, t.a4.a5, t.a4.a6, t.a4.a7⟩, t.a5, t.a6, t.a7⟩
def p262 : Opd := fun t => t.a4.a0.a6
def s262 : SetF := fun v t => ⟨t.a0, t.a1, t.a2, t.a3, ⟨⟨t.a4.a0.a0, t.a4.a0.a1, t.a4.a0.a2, t.a4.a0.a3, t.a4.a0.a4, t.a4.a0.a5, some v, t.a4.a0.a7⟩, t.a4.a1, t.a4.a2, t.a4.a3, t.a4.a4, t.a4.a5, t.a4.a6, t.a4.a7⟩, t.a5, t.a6, t.a7⟩
def p263 : Opd := fun t => t.a4.a0.a7
def s263 : SetF := fun v t => ⟨t.a0, t.a1, t.a2, t.a3, ⟨⟨t.a4.a0.a0, t.a4.a0.a1, t.a4.a0.a2, t.a4.a0.a3, t.a4.a0.a4, t.a4.a0.a5, t.a4.a0.a6, some v⟩, t.a4.a1, t.a4.a2, t.a4.a3, t.a4.a4, t.a4.a5, t.a4.a6, t.a4.a7⟩, t.a5, t.a6, t.a7⟩
def p264 : Opd := fun t => t.a4.a1.a0
def s264 : SetF := fun v t => ⟨t.a0, t.a1, t.a2, t.a3, ⟨t.a4.a0, ⟨some v, t.a4.a1.a1, t.a4.a1.a2, t.a4.a1.a3, t.a4.a1.a4, t.a4.a1.a5, t.a4.a1.a6, t.a4.a1.a7⟩, t.a4.a2, t.a4.a3, t.a4.a4, t.a4.a5, t.a4.a6, t.a4.a7⟩, t.a5, t.a6, t.a7⟩
def p265 : Opd := fun t => t.a4.a1.a1
def s265 : SetF := fun v t => ⟨t.a0, t.a1, t.a2, t.a3, ⟨t.a4.a0, ⟨t.a4.a1.a0, some v, t.a4.a1.a2, t.a4.a1.a3, t.a4.a1.a4, t.a4.a1.a5, t.a4.a1.a6, t.a4.a1.a7⟩, t.a4.a2, t.a4.a3, t.a4.a4, t.a4.a5, t.a4.a6, t.a4.a7⟩, t.a5, t.a6, t.a7⟩
def p266 : Opd := fun t => t.a4.a1.a2
def s266 : SetF := fun v t => ⟨t.a0, t.a1, t.a2, t.a3, ⟨t.a4.a0, ⟨t.a4.a1.a0, t.a4.a1.a1, some v, t.a4.a1.a3, t.a4.a1.a4, t.a4.a1.a5, t.a4.a1.a6, t.a4.a1.a7⟩, t.a4.a2, t.a4.a3, t.a4.a4, t.a4.a5, t.a4.a6, t.a4.a7⟩, t.a5, t.a6, t.a7⟩
def p267 : Opd := fun t => t.a4.a1.a3
def s267 : SetF := fun v t => ⟨t.a0, t.a1, t.a2, t.a3, ⟨t.a4.a0, ⟨t.a4.a1.a0, t.a4.a1.a1, t.a4.a1.a2, some v, t.a4.a1.a4, t.a4.a1.a5, t.a4.a1.a6, t.a4.a1.a7⟩, t.a4.a2, t.a4.a3, t.a4.a4, t.a4.a5, t.a4.a6, t.a4.a7⟩, t.a5, t.a6, t.a7⟩
def p268 : Opd := fun t => t.a4.a1.a4
def s268 : SetF := fun v t => ⟨t.a0, t.a1, t.a2, t.a3, ⟨t.a4.a0, ⟨t.a4.a1.a0, t.a4.a1.a1, t.a4.a1.a2, t.a4.a1.a3, some v, t.a4.a1.a5, t.a4.a1.a6, t.a4.a1.a7⟩, t.a4.a2, t.a4.a3, t.a4.a4, t.a4.a5, t.a4.a6, t.a4.a7⟩, t.a5, t.a6, t.a7⟩
def p269 : Opd := fun t => t.a4.a1.a5
def s269 : SetF := fun v t => ⟨t.a0, t.a1, t.a2, t.a3, ⟨t.a4.a0, ⟨t.a4.a1.a0, t.a4.a1.a1, t.a4.a1.a2, t.a4.a1.a3, t.a4.a1.a4, some v, t.a4.a1.a6, t.a4.a1.a7⟩, t.a4.a2, t.a4.a3, t.a4.a4, t.a4.a5, t.a4.a6, t.a4.a7⟩, t.a5, t.a6, t.a7⟩
def p270 : Opd := fun t => t.a4.a1.a6
def s270 : SetF := fun v t => ⟨t.a0, t.a1, t.a2, t.a3, ⟨t.a4.a0, ⟨t.a4.a1.a0, t.a4.a1.a1, t.a4.a1.a2, t.a4.a1.a3, t.a4.a1.a4, t.a4.a1.a5, some v, t.a4.a1.a7⟩, t.a4.a2, t.a4.a3, t.a4.a4, t.a4.a5, t.a4.a6, t.a4.a7⟩, t.a5, t.a6, t.a7⟩
def p271 : Opd := fun t => t.a4.a1.a7
def s271 : SetF := fun v t => ⟨t.a0, t.a1, t.a2, t.a3, ⟨t.a4.a0, ⟨t.a4.a1.a0, t.a4.a1.a1, t.a4.a1.a2, t.a4.a1.a3, t.a4.a1.a4, t.a4.a1.a5, t.a4.a1.a6, some v⟩, t.a4.a2, t.a4.a3, t.a4.a4, t.a4.a5, t.a4.a6, t.a4.a7⟩, t.a5, t.a6, t.a7⟩
def p272 : Opd := fun t => t.a4.a2.a0
def s272 : SetF := fun v t => ⟨t.a0, t.a1, t.a2, t.a3, ⟨t.a4.a0, t.a4.a1, ⟨some v, t.a4.a2.a1, t.a4.a2.a2, t.a4.a2.a3, t.a4.a2.a4, t.a4.a2.a5, t.a4.a2.a6, t.a4.a2.a7⟩, t.a4.a3, t.a4.a4, t.a4.a5, t.a4.a6, t.a4.a7⟩, t.a5, t.a6, t.a7⟩
def p273 : Opd := fun t => t.a4.a2.a1
def s273 : SetF := fun v t => ⟨t.a0, t.a1, t.a2, t.a3, ⟨t.a4.a0, t.a4.a1, ⟨t.a4.a2.a0, some v, t.a4.a2.a2, t.a4.a2.a3, t.a4.a2.a4, t.a4.a2.a5, t.a4.a2.a6, t.a4.a2.a7⟩, t.a4.a3, t.a4.a4, t.a4.a5, t.a4.a6, t.a4.a7⟩, t.a5, t.a6, t.a7⟩
def p274 : Opd := fun t => t.a4.a2.a2
def s274 : SetF := fun v t => ⟨t.a0, t.a1, t.a2, t.a3, ⟨t.a4.a0, t.a4.a1, ⟨t.a4.a2.a0, t.a4.a2.a1, some v, t.a4.a2.a3, t.a4.a2.a4, t.a4.a2.a5, t.a4.a2.a6, t.a4.a2.a7⟩, t.a4.a3, t.a4.a4, t.a4.a5, t.a4.a6, t.a4.a7⟩, t.a5, t.a6, t.a7⟩
def p275 : Opd := fun t => t.a4.a2.a3
def s275 : SetF := fun v t => ⟨t.a0, t.a1, t.a2, t.a3, ⟨t.a4.a0, t.a4.a1, ⟨t.a4.a2.a0, t.a4.a2.a1, t.a4.a2.a2, some v, t.a4.a2.a4, t.a4.a2.a5, t.a4.a2.a6, t.a4.a2.a7⟩, t.a4.a3, t.a4.a4, t.a4.a5, t.a4.a6, t.a4.a7⟩, t.a5, t.a6, t.a7⟩
def p276 : Opd := fun t => t.a4.a2.a4
def s276 : SetF := fun v t => ⟨t.a0, t.a1, t.a2, t.a3, ⟨t.a4.a0, t.a4.a1, ⟨t.a4.a2.a0, t.a4.a2.a1, t.a4.a2.a2, t.a4.a2.a3, some v, t.a4.a2.a5, t.a4.a2.a6, t.a4.a2.a7⟩, t.a4.a3, t.a4.a4, t.a4.a5, t.a4.a6, t.a4.a7⟩, t.a5, t.a6, t.a7⟩
def p277 : Opd := fun t => t.a4.a2.a5
def s277 : SetF := fun v t => ⟨t.a0, t.a1, t.a2, t.a3, ⟨t.a4.a0, t.a4.a1, ⟨t.a4.a2.a0, t.a4.a2.a1, t.a4.a2.a2, t.a4.a2.a3, t.a4.a2.a4, some v, t.a4.a2.a6, t.a4.a2.a7⟩, t.a4.a3, t.a4.a4, t.a4.a5, t.a4.a6, t.a4.a7⟩, t.a5, t.a6, t.a7⟩
def p278 : Opd := fun t => t.a4.a2.a6
def s278 : SetF := fun v t => ⟨t.a0, t.a1, t.a2, t.a3, ⟨t.a4.a0, t.a4.a1, ⟨t.a4.a2.a0, t.a4.a2.a1, t.a4.a2.a2, t.a4.a2.a3, t.a4.a2.a4, t.a4.a2.a5, some v, t.a4.a2.a7⟩, t.a4.a3, t.a4.a4, t.a4.a5, t.a4.a6, t.a4.a7⟩, t.a5, t.a6, t.a7⟩
def p279 : Opd := fun t => t.a4.a2.a7
def s279 : SetF := fun v t => ⟨t.a0, t.a1, t.a2, t.a3, ⟨t.a4.a0, t.a4.a1, ⟨t.a4.a2.a0, t.a4.a2.a1, t.a4.a2.a2, t.a4.a2.a3, t.a4.a2.a4, t.a4.a2.a5, t.a4.a2.a6, some v⟩, t.a4.a3, t.a4.a4, t.a4.a5, t.a4.a6, t.a4.a7⟩, t.a5, t.a6, t.a7⟩
def p280 : Opd := fun t => t.a4.a3.a0
def s280 : SetF := fun v t => ⟨t.a0, t.a1, t.a2, t.a3, ⟨t.a4.a0, t.a4.a1, t.a4.a2, ⟨some v, t.a4.a3.a1, t.a4.a3.a2, t.a4.a3.a3, t.a4.a3.a4, t.a4.a3.a5, t.a4.a3.a6, t.a4.a3.a7⟩, t.a4.a4, t.a4.a5, t.a4.a6, t.a4.a7⟩, t.a5, t.a6, t.a7⟩
def p281 : Opd := fun t => t.a4.a3.a1
def s281 : SetF := fun v t => ⟨t.a0, t.a1, t.a2, t.a3, ⟨t.a4.a0, t.a4.a1, t.a4.a2, ⟨t.a4.a3.a0, some v, t.a4.a3.a2, t.a4.a3.a3, t.a4.a3.a4, t.a4.a3.a5, t.a4.a3.a6, t.a4.a3.a7⟩, t.a4.a4, t.a4.a5, t.a4.a6, t.a4.a7⟩, t.a5, t.a6, t.a7⟩
def p282 : Opd := fun t => t.a4.a3.a2
def s282 : SetF := fun v t => ⟨t.a0, t.a1, t.a2, t.a3, ⟨t.a4.a0, t.a4.a1, t.a4.a2, ⟨t.a4.a3.a0, t.a4.a3.a1, some v, t.a4.a3.a3, t.a4.a3.a4, t.a4.a3.a5, t.a4.a3.a6, t.a4.a3.a7⟩, t.a4.a4, t.a4.a5, t.a4.a6, t.a4.a7⟩, t.a5, t.a6, t.a7⟩
def p283 : Opd := fun t => t.a4.a3.a3
def s283 : SetF := fun v t => ⟨t.a0, t.a1, t.a2, t.a3, ⟨t.a4.a0, t.a4.a1, t.a4.a2, ⟨t.a4.a3.a0, t.a4.a3.a1, t.a4.a3.a2, some v, t.a4.a3.a4, t.a4.a3.a5, t.a4.a3.a6, t.a4.a3.a7⟩, t.a4.a4, t.a4.a5, t.a4.a6, t.a4.a7⟩, t.a5, t.a6, t.a7⟩
def p284 : Opd := fun t => t.a4.a3.a4
def s284 : SetF := fun v t => ⟨t.a0, t.a1, t.a2, t.a3, ⟨t.a4.a0, t.a4.a1, t.a4.a2, ⟨t.a4.a3.a0, t.a4.a3.a1, t.a4.a3.a2, t.a4.a3.a3, some v, t.a4.a3.a5, t.a4.a3.a6, t.a4.a3.a7⟩, t.a4.a4, t.a4.a5, t.a4.a6, t.a4.a7⟩, t.a5, t.a6, t.a7⟩
def p285 : Opd := fun t => t.a4.a3.a5
def s285 : SetF := fun v t => ⟨t.a0, t.a1, t.a2, t.a3, ⟨t.a4.a0, t.a4.a1, t.a4.a2, ⟨t.a4.a3.a0, t.a4.a3.a1, t.a4.a3.a2, t.a4.a3.a3, t.a4.a3.a4, some v, t.a4.a3.a6, t.a4.a3.a7⟩, t.a4.a4, t.a4.a5, t.a4.a6, t.a4.a7⟩, t.a5, t.a6, t.a7⟩
def p286 : Opd := fun t => t.a4.a3.a6
def s286 : SetF := fun v t => ⟨t.a0, t.a1, t.a2, t.a3, ⟨t.a4.a0, t.a4.a1, t.a4.a2, ⟨t.a4.a3.a0, t.a4.a3.a1, t.a4.a3.a2, t.a4.a3.a3, t.a4.a3.a4, t.a4.a3.a5, some v, t.a4.a3.a7⟩, t.a4.a4, t.a4.a5, t.a4.a6, t.a4.a7⟩, t.a5, t.a6, t.a7⟩
def p287 : Opd := fun t => t.a4.a3.a7
def s287 : SetF := fun v t => ⟨t.a0, t.a1, t.a2, t.a3, ⟨t.a4.a0, t.a4.a1, t.a4.a2, ⟨t.a4.a3.a0, t.a4.a3.a1, t.a4.a3.a2, t.a4.a3.a3, t.a4.a3.a4, t.a4.a3.a5, t.a4.a3.a6, some v⟩, t.a4.a4, t.a4.a5, t.a4.a6, t.a4.a7⟩, t.a5, t.a6, t.a7⟩
def p288 : Opd := fun t => t.a4.a4.a0
def s288 : SetF := fun v t => ⟨t.a0, t.a1, t.a2, t.a3, ⟨t.a4.a0, t.a4.a1, t.a4.a2, t.a4.a3, ⟨some v, t.a4.a4.a1, t.a4.a4.a2, t.a4.a4.a3, t.a4.a4.a4, t.a4.a4.a5, t.a4.a4.a6, t.a4.a4.a7⟩, t.a4.a5, t.a4.a6, t.a4.a7⟩, t.a5, t.a6, t.a7⟩
def p289 : Opd := fun t => t.a4.a4.a1
def s289 : SetF := fun v t => ⟨t.a0, t.a1, t.a2, t.a3, ⟨t.a4.a0, t.a4.a1, t.a4.a2, t.a4.a3, ⟨t.a4.a4.a0, some v, t.a4.a4.a2, t.a4.a4.a3, t.a4.a4.a4, t.a4.a4.a5, t.a4.a4.a6, t.a4.a4.a7⟩, t.a4.a5, t.a4.a6, t.a4.a7⟩, t.a5, t.a6, t.a7⟩
def p290 : Opd := fun t => t.a4.a4.a2
def s290 : SetF := fun v t => ⟨t.a0, t.a1, t.a2, t.a3, ⟨t.a4.a0, t.a4.a1, t.a4.a2, t.a4.a3, ⟨t.a4.a4.a0, t.a4.a4.a1, some v, t.a4.a4.a3, t.a4.a4.a4, t.a4.a4.a5, t.a4.a4.a6, t.a4.a4.a7⟩, t.a4.a5, t.a4.a6, t.a4.a7⟩, t.a5, t.a6, t.a7⟩
def p291 : Opd := fun t => t.a4.a4.a3
def s291 : SetF := fun v t => ⟨t.a0, t.a1, t.a2, t.a3, ⟨t.a4.a0, t.a4.a1, t.a4.a2, t.a4.a3, ⟨t.a4.a4.a0, t.a4.a4.a1, t.a4.a4.a2, some v, t.a4.a4.a4, t.a4.a4.a5, t.a4.a4.a6, t.a4.a4.a7⟩, t.a4.a5, t.a4.a6, t.a4.a7⟩, t.a5, t.a6, t.a7⟩
def p292 : Opd := fun t => t.a4.a4.a4
def s292 : SetF := fun v t => ⟨t.a0, t.a1, t.a2, t.a3, ⟨t.a4.a0, t.a4.a1, t.a4.a2, t.a4.a3, ⟨t.a4.a4.a0, t.a4.a4.a1, t.a4.a4.a2, t.a4.a4.a3, some v, t.a4.a4.a5, t.a4.a4.a6, t.a4.a4.a7⟩, t.a4.a5, t.a4.a6, t.a4.a7⟩, t.a5, t.a6, t.a7⟩
def p293 : Opd := fun t => t.a4.a4.a5
def s293 : SetF := fun v t => ⟨t.a0, t.a1, t.a2, t.a3, ⟨t.a4.a0, t.a4.a1, t.a4.a2, t.a4.a3, ⟨t.a4.a4.a0, t.a4.a4.a1, t.a4.a4.a2, t.a4.a4.a3, t.a4.a4.a4, some v, t.a4.a4.a6, t.a4.a4.a7⟩, t.a4.a5, t.a4.a6, t.a4.a7⟩, t.a5, t.a6, t.a7⟩
def p294 : Opd := fun t => t.a4.a4.a6
def s294 : SetF := fun v t => ⟨t.a0, t.a1, t.a2, t.a3, ⟨t.a4.a0, t.a4.a1, t.a4.a2, t.a4.a3, ⟨t.a4.a4.a0, t.a4.a4.a1, t.a4.a4.a2, t.a4.a4.a3, t.a4.a4.a4, t.a4.a4.a5, some v, t.a4.a4.a7⟩, t.a4.a5, t.a4.a6, t.a4.a7⟩, t.a5, t.a6, t.a7⟩
def p295 : Opd := fun t => t.a4.a4.a7
def s295 : SetF := fun v t => ⟨t.a0, t.a1, t.a2, t.a3, ⟨t.a4.a0, t.a4.a1, t.a4.a2, t.a4.a3, ⟨t.a4.a4.a0, t.a4.a4.a1, t.a4.a4.a2, t.a4.a4.a3, t.a4.a4.a4, t.a4.a4.a5, t.a4.a4.a6, some v⟩, t.a4.a5, t.a4.a6, t.a4.a7⟩, t.a5, t.a6, t.a7⟩
def p296 : Opd := fun t => t.a4.a5.a0
def s296 : SetF := fun v t => ⟨t.a0, t.a1, t.a2, t.a3, ⟨t.a4.a0, t.a4.a1, t.a4.a2, t.a4.a3, t.a4.a4, ⟨some v, t.a4.a5.a1, t.a4.a5.a2, t.a4.a5.a3, t.a4.a5.a4, t.a4.a5.a5, t.a4.a5.a6, t.a4.a5.a7⟩, t.a4.a6, t.a4.a7⟩, t.a5, t.a6, t.a7⟩
def p297 : Opd := fun t => t.a4.a5.a1
def s297 : SetF := fun v t => ⟨t.a0, t.a1, t.a2, t.a3, ⟨t.a4.a0, t.a4.a1, t.a4.a2, t.a4.a3, t.a4.a4, ⟨t.a4.a5.a0, some v, t.a4.a5.a2, t.a4.a5.a3, t.a4.a5.a4, t.a4.a5.a5, t.a4.a5.a6, t.a4.a5.a7⟩, t.a4.a6, t.a4.a7⟩, t.a5, t.a6, t.a7⟩
def p298 : Opd := fun t => t.a4.a5.a2
def s298 : SetF := fun v t => ⟨t.a0, t.a1, t.a2, t.a3, ⟨t.a4.a0, t.a4.a1, t.a4.a2, t.a4.a3, t.a4.a4, ⟨t.a4.a5.a0, t.a4.a5.a1, some v, t.a4.a5.a3, t.a4.a5.a4, t.a4.a5.a5, t.a4.a5.a6, t.a4.a5.a7⟩, t.a4.a6, t.a4.a7⟩, t.a5, t.a6, t.a7⟩
def p299 : Opd := fun t => t.a4.a5.a3
def s299 : SetF := fun v t => ⟨t.a0, t.a1, t.a2, t.a3, ⟨t.a4.a0, t.a4.a1, t.a4.a2, t.a4.a3, t.a4.a4, ⟨t.a4.a5.a0, t.a4.a5.a1, t.a4.a5.a2, some v, t.a4.a5.a4, t.a4.a5.a5, t.a4.a5.a6, t.a4.a5.a7⟩, t.a4.a6, t.a4.a7⟩, t.a5, t.a6, t.a7⟩
def p300 : Opd := fun t => t.a4.a5.a4
def s300 : SetF := fun v t => ⟨t.a0, t.a1, t.a2, t.a3, ⟨t.a4.a0, t.a4.a1, t.a4.a2, t.a4.a3, t.a4.a4, ⟨t.a4.a5.a0, t.a4.a5.a1, t.a4.a5.a2, t.a4.a5.a3, some v, t.a4.a5.a5, t.a4.a5.a6, t.a4.a5.a7⟩, t.a4.a6, t.a4.a7⟩, t.a5, t.a6, t.a7⟩
def p301 : Opd := fun t => t.a4.a5.a5
def s301 : SetF := fun v t => ⟨t.a0, t.a1, t.a2, t.a3, ⟨t.a4.a0, t.a4.a1, t.a4.a2, t.a4.a3, t.a4.a4, ⟨t.a4.a5.a0, t.a4.a5.a1, t.a4.a5.a2, t.a4.a5.a3, t.a4.a5.a4, some v, t.a4.a5.a6, t.a4.a5.a7⟩, t.a4.a6, t.a4.a7⟩, t.a5, t.a6, t.a7⟩
def p302 : Opd := fun t => t.a4.a5.a6
def s302 : SetF := fun v t => ⟨t.a0, t.a1, t.a2, t.a3, ⟨t.a4.a0, t.a4.a1, t.a4.a2, t.a4.a3, t.a4.a4, ⟨t.a4.a5.a0, t.a4.a5.a1, t.a4.a5.a2, t.a4.a5.a3, t.a4.a5.a4, t.a4.a5.a5, some v, t.a4.a5.a7⟩, t.a4.a6, t.a4.a7⟩, t.a5, t.a6, t.a7⟩
def p303 : Opd := fun t => t.a4.a5.a7
def s303 : SetF := fun v t => ⟨t.a0, t.a1, t.a2, t.a3, ⟨t.a4.a0, t.a4.a1, t.a4.a2, t.a4.a3, t.a4.a4, ⟨t.a4.a5.a0, t.a4.a5.a1, t.a4.a5.a2, t.a4.a5.a3, t.a4.a5.a4, t.a4.a5.a5, t.a4.a5.a6, some v⟩, t.a4.a6, t.a4.a7⟩, t.a5, t.a6, t.a7⟩
def p304 : Opd := fun t => t.a4.a6.a0
def s304 : SetF := fun v t => ⟨t.a0, t.a1, t.a2, t.a3, ⟨t.a4.a0, t.a4.a1, t.a4.a2, t.a4.a3, t.a4.a4, t.a4.a5, ⟨some v, t.a4.a6.a1, t.a4.a6.a2, t.a4.a6.a3, t.a4.a6.a4, t.a4.a6.a5, t.a4.a6.a6, t.a4.a6.a7⟩, t.a4.a7⟩, t.a5, t.a6, t.a7⟩
def p305 : Opd := fun t => t.a4.a6.a1
def s305 : SetF := fun v t => ⟨t.a0, t.a1, t.a2, t.a3, ⟨t.a4.a0, t.a4.a1, t.a4.a2, t.a4.a3, t.a4.a4, t.a4.a5, ⟨t.a4.a6.a0, some v, t.a4.a6.a2, t.a4.a6.a3, t.a4.a6.a4, t.a4.a6.a5, t.a4.a6.a6, t.a4.a6.a7⟩, t.a4.a7⟩, t.a5, t.a6, t.a7⟩
def p306 : Opd := fun t => t.a4.a6.a2
def s306 : SetF := fun v t => ⟨t.a0, t.a1, t.a2, t.a3, ⟨t.a4.a0, t.a4.a1, t.a4.a2, t.a4.a3, t.a4.a4, t.a4.a5, ⟨t.a4.a6.a0, t.a4.a6.a1, some v, t.a4.a6.a3, t.a4.a6.a4, t.a4.a6.a5, t.a4.a6.a6, t.a4.a6.a7⟩, t.a4.a7⟩, t.a5, t.a6, t.a7⟩
def p307 : Opd := fun t => t.a4.a6.a3
def s307 : SetF := fun v t => ⟨t.a0, t.a1, t.a2, t.a3, ⟨t.a4.a0, t.a4.a1, t.a4.a2, t.a4.a3, t.a4.a4, t.a4.a5, ⟨t.a4.a6.a0, t.a4.a6.a1, t.a4.a6.a2, some v, t.a4.a6.a4, t.a4.a6.a5, t.a4.a6.a6, t.a4.a6.a7⟩, t.a4.a7⟩, t.a5, t.a6, t.a7⟩
def p308 : Opd := fun t => t.a4.a6.a4
def s308 : SetF := fun v t => ⟨t.a0, t.a1, t.a2, t.a3, ⟨t.a4.a0, t.a4.a1, t.a4.a2, t.a4.a3, t.a4.a4, t.a4.a5, ⟨t.a4.a6.a0, t.a4.a6.a1, t.a4.a6.a2, t.a4.a6.a3, some v, t.a4.a6.a5, t.a4.a6.a6, t.a4.a6.a7⟩, t.a4.a7⟩, t.a5, t.a6, t.a7⟩
def p309 : Opd := fun t => t.a4.a6.a5
def s309 : SetF := fun v t => ⟨t.a0, t.a1, t.a2, t.a3, ⟨t.a4.a0, t.a4.a1, t.a4.a2, t.a4.a3, t.a4.a4, t.a4.a5, ⟨t.a4.a6.a0, t.a4.a6.a1, t.a4.a6.a2, t.a4.a6.a3, t.a4.a6.a4, some v, t.a4.a6.a6, t.a4.a6.a7⟩, t.a4.a7⟩, t.a5, t.a6, t.a7⟩
def p310 : Opd := fun t => t.a4.a6.a6
def s310 : SetF := fun v t => ⟨t.a0, t.a1, t.a2, t.a3, ⟨t.a4.a0, t.a4.a1, t.a4.a2, t.a4.a3, t.a4.a4, t.a4.a5, ⟨t.a4.a6.a0, t.a4.a6.a1, t.a4.a6.a2, t.a4.a6.a3, t.a4.a6.a4, t.a4.a6.a5, some v, t.a4.a6.a7⟩, t.a4.a7⟩, t.a5, t.a6, t.a7⟩
def p311 : Opd := fun t => t.a4.a6.a7
def s311 : SetF := fun v t => ⟨t.a0, t.a1, t.a2, t.a3, ⟨t.a4.a0, t.a4.a1, t.a4.a2, t.a4.a3, t.a4.a4, t.a4.a5, ⟨t.a4.a6.a0, t.a4.a6.a1, t.a4.a6.a2, t.a4.a6.a3, t.a4.a6.a4, t.a4.a6.a5, t.a4.a6.a6, some v⟩, t.a4.a7⟩, t.a5, t.a6, t.a7⟩
def p312 : Opd := fun t => t.a4.a7.a0
def s312 : SetF := fun v t => ⟨t.a0, t.a1, t.a2, t.a3, ⟨t.a4.a0, t.a4.a1, t.a4.a2, t.a4.a3, t.a4.a4, t.a4.a5, t.a4.a6, ⟨some v, t.a4.a7.a1, t.a4.a7.a2, t.a4.a7.a3, t.a4.a7.a4, t.a4.a7.a5, t.a4.a7.a6, t.a4.a7.a7⟩⟩, t.a5, t.a6, t.a7⟩
def p313 : Opd := fun t => t.a4.a7.a1
def s313 : SetF := fun v t => ⟨t.a0, t.a1, t.a2, t.a3, ⟨t.a4.a0, t.a4.a1, t.a4.a2, t.a4.a3, t.a4.a4, t.a4.a5, t.a4.a6, ⟨t.a4.a7.a0, some v, t.a4.a7.a2, t.a4.a7.a3, t.a4.a7.a4, t.a4.a7.a5, t.a4.a7.a6, t.a4.a7.a7⟩⟩, t.a5, t.a6, t.a7⟩
def p314 : Opd := fun t => t.a4.a7.a2
def s314 : SetF := fun v t => ⟨t.a0, t.a1, t.a2, t.a3, ⟨t.a4.a0, t.a4.a1, t.a4.a2, t.a4.a3, t.a4.a4, t.a4.a5, t.a4.a6, ⟨t.a4.a7.a0, t.a4.a7.a1, some v, t.a4.a7.a3, t.a4.a7.a4, t.a4.a7.a5, t.a4.a7.a6, t.a4.a7.a7⟩⟩, t.a5, t.a6, t.a7⟩
def p315 : Opd := fun t => t.a4.a7.a3
def s315 : SetF := fun v t => ⟨t.a0, t.a1, t.a2, t.a3, ⟨t.a4.a0, t.a4.a1, t.a4.a2, t.a4.a3, t.a4.a4, t.a4.a5, t.a4.a6, ⟨t.a4.a7.a0, t.a4.a7.a1, t.a4.a7.a2, some v, t.a4.a7.a4, t.a4.a7.a5, t.a4.a7.a6, t.a4.a7.a7⟩⟩, t.a5, t.a6, t.a7⟩
def p316 : Opd := fun t => t.a4.a7.a4
def s316 : SetF := fun v t => ⟨t.a0, t.a1, t.a2, t.a3, ⟨t.a4.a0, t.a4.a1, t.a4.a2, t.a4.a3, t.a4.a4, t.a4.a5, t.a4.a6, ⟨t.a4.a7.a0, t.a4.a7.a1, t.a4.a7.a2, t.a4.a7.a3, some v, t.a4.a7.a5, t.a4.a7.a6, t.a4.a7.a7⟩⟩, t.a5, t.a6, t.a7⟩
def p317 : Opd := fun t => t.a4.a7.a5
def s317 : SetF := fun v t => ⟨t.a0, t.a1, t.a2, t.a3, ⟨t.a4.a0, t.a4.a1, t.a4.a2, t.a4.a3, t.a4.a4, t.a4.a5, t.a4.a6, ⟨t.a4.a7.a0, t.a4.a7.a1, t.a4.a7.a2, t.a4.a7.a3, t.a4.a7.a4, some v, t.a4.a7.a6, t.a4.a7.a7⟩⟩, t.a5, t.a6, t.a7⟩
def p318 : Opd := fun t => t.a4.a7.a6
def s318 : SetF := fun v t => ⟨t.a0, t.a1, t.a2, t.a3, ⟨t.a4.a0, t.a4.a1, t.a4.a2, t.a4.a3, t.a4.a4, t.a4.a5, t.a4.a6, ⟨t.a4.a7.a0, t.a4.a7.a1, t.a4.a7.a2, t.a4.a7.a3, t.a4.a7.a4, t.a4.a7.a5, some v, t.a4.a7.a7⟩⟩, t.a5, t.a6, t.a7⟩
def p319 : Opd := fun t => t.a4.a7.a7
def s319 : SetF := fun v t => ⟨t.a0, t.a1, t.a2, t.a3, ⟨t.a4.a0, t.a4.a1, t.a4.a2, t.a4.a3, t.a4.a4, t.a4.a5, t.a4.a6, ⟨t.a4.a7.a0, t.a4.a7.a1, t.a4.a7.a2, t.a4.a7.a3, t.a4.a7.a4, t.a4.a7.a5, t.a4.a7.a6, some v⟩⟩, t.a5, t.a6, t.a7⟩
def p320 : Opd := fun t => t.a5.a0.a0
def s320 : SetF := fun v t => ⟨t.a0, t.a1, t.a2, t.a3, t.a4, ⟨⟨some v, t.a5.a0.a1, t.a5.a0.a2, t.a5.a0.a3, t.a5.a0.a4, t.a5.a0.a5, t.a5.a0.a6, t.a5.a0.a7⟩, t.a5.a1, t.a5.a2, t.a5.a3, t.a5.a4, t.a5.a5, t.a5.a6, t.a5.a7⟩, t.a6, t.a7⟩
def p321 : Opd := fun t => t.a5.a0.a1
def s321 : SetF := fun v t => ⟨t.a0, t.a1, t.a2, t.a3, t.a4, ⟨⟨t.a5.a0.a0, some v, t.a5.a0.a2, t.a5.a0.a3, t.a5.a0.a4, t.a5.a0.a5, t.a5.a0.a6, t.a5.a0.a7⟩, t.a5.a1, t.a5.a2, t.a5.a3, t.a5.a4, t.a5.a5, t.a5.a6, t.a5.a7⟩, t.a6, t.a7⟩
def p322 : Opd := fun t => t.a5.a0.a2
def s322 : SetF := fun v t => ⟨t.a0, t.a1, t.a2, t.a3, t.a4, ⟨⟨t.a5.a0.a0, t.a5.a0.a1, some v, t.a5.a0.a3, t.a5.a0.a4, t.a5.a0.a5, t.a5.a0.a6, t.a5.a0.a7⟩, t.a5.a1, t.a5.a2, t.a5.a3, t.a5.a4, t.a5.a5, t.a5.a6, t.a5.a7⟩, t.a6, t.a7⟩
def p323 : Opd := fun t => t.a5.a0.a3
def s323 : SetF := fun v t => ⟨t.a0, t.a1, t.a2, t.a3, t.a4, ⟨⟨t.a5.a0.a0, t.a5.a0.a1, t.a5.a0.a2, some v, t.a5.a0.a4, t.a5.a0.a5, t.a5.a0.a6, t.a5.a0.a7⟩, t.a5.a1, t.a5.a2, t.a5.a3, t.a5.a4, t.a5.a5, t.a5.a6, t.a5.a7⟩, t.a6, t.a7⟩
def p324 : Opd := fun t => t.a5.a0.a4
def s324 : SetF := fun v t => ⟨t.a0, t.a1, t.a2, t.a3, t.a4, ⟨⟨t.a5.a0.a0, t.a5.a0.a1, t.a5.a0.a2, t.a5.a0.a3, some v, t.a5.a0.a5, t.a5.a0.a6, t.a5.a0.a7⟩, t.a5.a1, t.a5.a2, t.a5.a3, t.a5.a4, t.a5.a5, t.a5.a6, t.a5.a7⟩, t.a6, t.a7⟩
def p325 : Opd := fun t => t.a5.a0.a5
def s325 : SetF := fun v t => ⟨t.a0, t.a1, t.a2, t.a3, t.a4, ⟨⟨t.a5.a0.a0, t.a5.a0.a1, t.a5.a0.a2, t.a5.a0.a3, t.a5.a0.a4, some v, t.a5.a0.a6, t.a5.a0.a7⟩, t.a5.a1, t.a5.a2, t.a5.a3, t.a5.a4, t.a5.a5, t.a5.a6, t.a5.a7⟩, t.a6, t.a7⟩
def p326 : Opd := fun t => t.a5.a0.a6
def s326 : SetF := fun v t => ⟨t.a0, t.a1, t.a2, t.a3, t.a4, ⟨⟨t.a5.a0.a0, t.a5.a0.a1, t.a5.a0.a2, t.a5.a0.a3, t.a5.a0.a4, t.a5.a0.a5, some v, t.a5.a0.a7⟩, t.a5.a1, t.a5.a2, t.a5.a3, t.a5.a4, t.a5.a5, t.a5.a6, t.a5.a7⟩, t.a6, t.a7⟩
def p327 : Opd := fun t => t.a5.a0.a7
def s327 : SetF := fun v t => ⟨t.a0, t.a1, t.a2, t.a3, t.a4, ⟨⟨t.a5.a0.a0, t.a5.a0.a1, t.a5.a0.a2, t.a5.a0.a3, t.a5.a0.a4, t.a5.a0.a5, t.a5.a0.a6, some v⟩, t.a5.a1, t.a5.a2, t.a5.a3, t.a5.a4, t.a5.a5, t.a5.a6, t.a5.a7⟩, t.a6, t.a7⟩
def p328 : Opd := fun t => t.a5.a1.a0
def s328 : SetF := fun v t => ⟨t.a0, t.a1, t.a2, t.a3, t.a4, ⟨t.a5.a0, ⟨some v, t.a5.a1.a1, t.a5.a1.a2, t.a5.a1.a3, t.a5.a1.a4, t.a5.a1.a5, t.a5.a1.a6, t.a5.a1.a7⟩, t.a5.a2, t.a5.a3, t.a5.a4, t.a5.a5, t.a5.a6, t.a5.a7⟩, t.a6, t.a7⟩
def p329 : Opd := fun t => t.a5.a1.a1
def s329 : SetF := fun v t => ⟨t.a0, t.a1, t.a2, t.a3, t.a4, ⟨t.a5.a0, ⟨t.a5.a1.a0, some v, t.a5.a1.a2, t.a5.a1.a3, t.a5.a1.a4, t.a5.a1.a5, t.a5.a1.a6, t.a5.a1.a7⟩, t.a5.a2, t.a5.a3, t.a5.a4, t.a5.a5, t.a5.a6, t.a5.a7⟩, t.a6, t.a7⟩
def p330 : Opd := fun t => t.a5.a1.a2
def s330 : SetF := fun v t => ⟨t.a0, t.a1, t.a2, t.a3, t.a4, ⟨t.a5.a0, ⟨t.a5.a1.a0, t.a5.a1.a1, some v, t.a5.a1.a3, t.a5.a1.a4, t.a5.a1.a5, t.a5.a1.a6, t.a5.a1.a7⟩, t.a5.a2, t.a5.a3, t.a5.a4, t.a5.a5, t.a5.a6, t.a5.a7⟩, t.a6, t.a7⟩
def p331 : Opd := fun t => t.a5.a1.a3
def s331 : SetF := fun v t => ⟨t.a0, t.a1, t.a2, t.a3, t.a4, ⟨t.a5.a0, ⟨t.a5.a1.a0, t.a5.a1.a1, t.a5.a1.a2, some v, t.a5.a1.a4, t.a5.a1.a5, t.a5.a1.a6, t.a5.a1.a7⟩, t.a5.a2, t.a5.a3, t.a5.a4, t.a5.a5, t.a5.a6, t.a5.a7⟩, t.a6, t.a7⟩
def p332 : Opd := fun t => t.a5.a1.a4
def s332 : SetF := fun v t => ⟨t.a0, t.a1, t.a2, t.a3, t.a4, ⟨t.a5.a0, ⟨t.a5.a1.a0, t.a5.a1.a1, t.a5.a1.a2, t.a5.a1.a3, some v, t.a5.a1.a5, t.a5.a1.a6, t.a5.a1.a7⟩, t.a5.a2, t.a5.a3, t.a5.a4, t.a5.a5, t.a5.a6, t.a5.a7⟩, t.a6, t.a7⟩
def p333 : Opd := fun t => t.a5.a1.a5
def s333 : SetF := fun v t => ⟨t.a0, t.a1, t.a2, t.a3, t.a4, ⟨t.a5.a0, ⟨t.a5.a1.a0, t.a5.a1.a1, t.a5.a1.a2, t.a5.a1.a3, t.a5.a1.a4, some v, t.a5.a1.a6, t.a5.a1.a7⟩, t.a5.a2, t.a5.a3, t.a5.a4, t.a5.a5, t.a5.a6, t.a5.a7⟩, t.a6, t.a7⟩
def p334 : Opd := fun t => t.a5.a1.a6
def s334 : SetF := fun v t => ⟨t.a0, t.a1, t.a2, t.a3, t.a4, ⟨t.a5.a0, ⟨t.a5.a1.a0, t.a5.a1.a1, t.a5.a1.a2, t.a5.a1.a3, t.a5.a1.a4, t.a5.a1.a5, some v, t.a5.a1.a7⟩, t.a5.a2, t.a5.a3, t.a5.a4, t.a5.a5, t.a5.a6, t.a5.a7⟩, t.a6, t.a7⟩
def p335 : Opd := fun t => t.a5.a1.a7
def s335 : SetF := fun v t => ⟨t.a0, t.a1, t.a2, t.a3, t.a4, ⟨t.a5.a0, ⟨t.a5.a1.a0, t.a5.a1.a1, t.a5.a1.a2, t.a5.a1.a3, t.a5.a1.a4, t.a5.a1.a5, t.a5.a1.a6, some v⟩, t.a5.a2, t.a5.a3, t.a5.a4, t.a5.a5, t.a5.a6, t.a5.a7⟩, t.a6, t.a7⟩
def p336 : Opd := fun t => t.a5.a2.a0
def s336 : SetF := fun v t => ⟨t.a0, t.a1, t.a2, t.a3, t.a4, ⟨t.a5.a0, t.a5.a1, ⟨some v, t.a5.a2.a1, t.a5.a2.a2, t.a5.a2.a3, t.a5.a2.a4, t.a5.a2.a5, t.a5.a2.a6, t.a5.a2.a7⟩, t.a5.a3, t.a5.a4, t.a5.a5, t.a5.a6, t.a5.a7⟩, t.a6, t.a7⟩
def p337 : Opd := fun t => t.a5.a2.a1
def s337 : SetF := fun v t => ⟨t.a0, t.a1, t.a2, t.a3, t.a4, ⟨t.a5.a0, t.a5.a1, ⟨t.a5.a2.a0, some v, t.a5.a2.a2, t.a5.a2.a3, t.a5.a2.a4, t.a5.a2.a5, t.a5.a2.a6, t.a5.a2.a7⟩, t.a5.a3, t.a5.a4, t.a5.a5, t.a5.a6, t.a5.a7⟩, t.a6, t.a7⟩
def p338 : Opd := fun t => t.a5.a2.a2
def s338 : SetF := fun v t => ⟨t.a0, t.a1, t.a2, t.a3, t.a4, ⟨t.a5.a0, t.a5.a1, ⟨t.a5.a2.a0, t.a5.a2.a1, some v, t.a5.a2.a3, t.a5.a2.a4, t.a5.a2.a5, t.a5.a2.a6, t.a5.a2.a7⟩, t.a5.a3, t.a5.a4, t.a5.a5, t.a5.a6, t.a5.a7⟩, t.a6, t.a7⟩
def p339 : Opd := fun t => t.a5.a2.a3
def s339 : SetF := fun v t => ⟨t.a0, t.a1, t.a2, t.a3, t.a4, ⟨t.a5.a0, t.a5.a1, ⟨t.a5.a2.a0, t.a5.a2.a1, t.a5.a2.a2, some v, t.a5.a2.a4, t.a5.a2.a5, t.a5.a2.a6, t.a5.a2.a7⟩, t.a5.a3, t.a5.a4, t.a5.a5, t.a5.a6, t.a5.a7⟩, t.a6, t.a7⟩
def p340 : Opd := fun t => t.a5.a2.a4
def s340 : SetF := fun v t => ⟨t.a0, t.a1, t.a2, t.a3, t.a4, ⟨t.a5.a0, t.a5.a1, ⟨t.a5.a2.a0, t.a5.a2.a1, t.a5.a2.a2, t.a5.a2.a3, some v, t.a5.a2.a5, t.a5.a2.a6, t.a5.a2.a7⟩, t.a5.a3, t.a5.a4, t.a5.a5, t.a5.a6, t.a5.a7⟩, t.a6, t.a7⟩
def p341 : Opd := fun t => t.a5.a2.a5
def s341 : SetF := fun v t => ⟨t.a0, t.a1, t.a2, t.a3, t.a4, ⟨t.a5.a0, t.a5.a1, ⟨t.a5.a2.a0, t.a5.a2.a1, t.a5.a2.a2, t.a5.a2.a3, t.a5.a2.a4, some v, t.a5.a2.a6, t.a5.a2.a7⟩, t.a5.a3, t.a5.a4, t.a5.a5, t.a5.a6, t.a5.a7⟩, t.a6, t.a7⟩
def p342 : Opd := fun t => t.a5.a2.a6
def s342 : SetF := fun v t => ⟨t.a0, t.a1, t.a2, t.a3, t.a4, ⟨t.a5.a0, t.a5.a1, ⟨t.a5.a2.a0, t.a5.a2.a1, t.a5.a2.a2, t.a5.a2.a3, t.a5.a2.a4, t.a5.a2.a5, some v, t.a5.a2.a7⟩, t.a5.a3, t.a5.a4, t.a5.a5, t.a5.a6, t.a5.a7⟩, t.a6, t.a7⟩
def p343 : Opd := fun t => t.a5.a2.a7
def s343 : SetF := fun v t => ⟨t.a0, t.a1, t.a2, t.a3, t.a4, ⟨t.a5.a0, t.a5.a1, ⟨t.a5.a2.a0, t.a5.a2.a1, t.a5.a2.a2, t.a5.a2.a3, t.a5.a2.a4, t.a5.a2.a5, t.a5.a2.a6, some v⟩, t.a5.a3, t.a5.a4, t.a5.a5, t.a5.a6, t.a5.a7⟩, t.a6, t.a7⟩
def p344 : Opd := fun t => t.a5.a3.a0
def s344 : SetF := fun v t => ⟨t.a0, t.a1, t.a2, t.a3, t.a4, ⟨t.a5.a0, t.a5.a1, t.a5.a2, ⟨some v, t.a5.a3.a1, t.a5.a3.a2, t.a5.a3.a3, t.a5.a3.a4, t.a5.a3.a5, t.a5.a3.a6, t.a5.a3.a7⟩, t.a5.a4, t.a5.a5, t.a5.a6, t.a5.a7⟩, t.a6, t.a7⟩
def p345 : Opd := fun t => t.a5.a3.a1
def s345 : SetF := fun v t => ⟨t.a0, t.a1, t.a2, t.a3, t.a4, ⟨t.a5.a0, t.a5.a1, t.a5.a2, ⟨t.a5.a3.a0, some v, t.a5.a3.a2, t.a5.a3.a3, t.a5.a3.a4, t.a5.a3.a5, t.a5.a3.a6, t.a5.a3.a7⟩, t.a5.a4, t.a5.a5, t.a5.a6, t.a5.a7⟩, t.a6, t.a7⟩
def p346 : Opd := fun t => t.a5.a3.a2
def s346 : SetF := fun v t => ⟨t.a0, t.a1, t.a2, t.a3, t.a4, ⟨t.a5.a0, t.a5.a1, t.a5.a2, ⟨t.a5.a3.a0, t.a5.a3.a1, some v, t.a5.a3.a3, t.a5.a3.a4, t.a5.a3.a5, t.a5.a3.a6, t.a5.a3.a7⟩, t.a5.a4, t.a5.a5, t.a5.a6, t.a5.a7⟩, t.a6, t.a7⟩
def p347 : Opd := fun t => t.a5.a3.a3
def s347 : SetF := fun v t => ⟨t.a0, t.a1, t.a2, t.a3, t.a4, ⟨t.a5.a0, t.a5.a1, t.a5.a2, ⟨t.a5.a3.a0, t.a5.a3.a1, t.a5.a3.a2, some v, t.a5.a3.a4, t.a5.a3.a5, t.a5.a3.a6, t.a5.a3.a7⟩, t.a5.a4, t.a5.a5, t.a5.a6, t.a5.a7⟩, t.a6, t.a7⟩
def p348 : Opd := fun t => t.a5.a3.a4
def s348 : SetF := fun v t => ⟨t.a0, t.a1, t.a2, t.a3, t.a4, ⟨t.a5.a0, t.a5.a1, t.a5.a2, ⟨t.a5.a3.a0, t.a5.a3.a1, t.a5.a3.a2, t.a5.a3.a3, some v, t.a5.a3.a5, t.a5.a3.a6, t.a5.a3.a7⟩, t.a5.a4, t.a5.a5, t.a5.a6, t.a5.a7⟩, t.a6, t.a7⟩
def p349 : Opd := fun t => t.a5.a3.a5
def s349 : SetF := fun v t => ⟨t.a0, t.a1, t.a2, t.a3, t.a4, ⟨t.a5.a0, t.a5.a1, t.a5.a2, ⟨t.a5.a3.a0, t.a5.a3.a1, t.a5.a3.a2, t.a5.a3.a3, t.a5.a3.a4, some v, t.a5.a3.a6, t.a5.a3.a7⟩, t.a5.a4, t.a5.a5, t.a5.a6, t.a5.a7⟩, t.a6, t.a7⟩
def p350 : Opd := fun t => t.a5.a3.a6
def s350 : SetF := fun v t => ⟨t.a0, t.a1, t.a2, t.a3, t.a4, ⟨t.a5.a0, t.a5.a1, t.a5.a2, ⟨t.a5.a3.a0, t.a5.a3.a1, t.a5.a3.a2, t.a5.a3.a3, t.a5.a3.a4, t.a5.a3.a5, some v, t.a5.a3.a7⟩, t.a5.a4, t.a5.a5, t.a5.a6, t.a5.a7⟩, t.a6, t.a7⟩
def p351 : Opd := fun t => t.a5.a3.a7
def s351 : SetF := fun v t => ⟨t.a0, t.a1, t.a2, t.a3, t.a4, ⟨t.a5.a0, t.a5.a1, t.a5.a2, ⟨t.a5.a3.a0, t.a5.a3.a1, t.a5.a3.a2, t.a5.a3.a3, t.a5.a3.a4, t.a5.a3.a5, t.a5.a3.a6, some v⟩, t.a5.a4, t.a5.a5, t.a5.a6, t.a5.a7⟩, t.a6, t.a7⟩
def p352 : Opd := fun t => t.a5.a4.a0
def s352 : SetF := fun v t => ⟨t.a0, t.a1, t.a2, t.a3, t.a4, ⟨t.a5.a0, t.a5.a1, t.a5.a2, t.a5.a3, ⟨some v, t.a5.a4.a1, t.a5.a4.a2, t.a5.a4.a3, t.a5.a4.a4, t.a5.a4.a5, t.a5.a4.a6, t.a5.a4.a7⟩, t.a5.a5, t.a5.a6, t.a5.a7⟩, t.a6, t.a7⟩
def p353 : Opd := fun t => t.a5.a4.a1
def s353 : SetF := fun v t => ⟨t.a0, t.a1, t.a2, t.a3, t.a4, ⟨t.a5.a0, t.a5.a1, t.a5.a2, t.a5.a3, ⟨t.a5.a4.a0, some v, t.a5.a4.a2, t.a5.a4.a3, t.a5.a4.a4, t.a5.a4.a5, t.a5.a4.a6, t.a5.a4.a7⟩, t.a5.a5, t.a5.a6, t.a5.a7⟩, t.a6, t.a7⟩
def p354 : Opd := fun t => t.a5.a4.a2
def s354 : SetF := fun v t => ⟨t.a0, t.a1, t.a2, t.a3, t.a4, ⟨t.a5.a0, t.a5.a1, t.a5.a2, t.a5.a3, ⟨t.a5.a4.a0, t.a5.a4.a1, some v, t.a5.a4.a3, t.a5.a4.a4, t.a5.a4.a5, t.a5.a4.a6, t.a5.a4.a7⟩, t.a5.a5, t.a5.a6, t.a5.a7⟩, t.a6, t.a7⟩
def p355 : Opd := fun t => t.a5.a4.a3
def s355 : SetF := fun v t => ⟨t.a0, t.a1, t.a2, t.a3, t.a4, ⟨t.a5.a0, t.a5.a1, t.a5.a2, t.a5.a3, ⟨t.a5.a4.a0, t.a5.a4.a1, t.a5.a4.a2, some v, t.a5.a4.a4, t.a5.a4.a5, t.a5.a4.a6, t.a5.a4.a7⟩, t.a5.a5, t.a5.a6, t.a5.a7⟩, t.a6, t.a7⟩
def p356 : Opd := fun t => t.a5.a4.a4
def s356 : SetF := fun v t => ⟨t.a0, t.a1, t.a2, t.a3, t.a4, ⟨t.a5.a0, t.a5.a1, t.a5.a2, t.a5.a3, ⟨t.a5.a4.a0, t.a5.a4.a1, t.a5.a4.a2, t.a5.a4.a3, some v, t.a5.a4.a5, t.a5.a4.a6, t.a5.a4.a7⟩, t.a5.a5, t.a5.a6, t.a5.a7⟩, t.a6, t.a7⟩
def p357 : Opd := fun t => t.a5.a4.a5
def s357 : SetF := fun v t => ⟨t.a0, t.a1, t.a2, t.a3, t.a4, ⟨t.a5.a0, t.a5.a1, t.a5.a2, t.a5.a3, ⟨t.a5.a4.a0, t.a5.a4.a1, t.a5.a4.a2, t.a5.a4.a3, t.a5.a4.a4, some v, t.a5.a4.a6, t.a5.a4.a7⟩, t.a5.a5, t.a5.a6, t.a5.a7⟩, t.a6, t.a7⟩
def p358 : Opd := fun t => t.a5.a4.a6
def s358 : SetF := fun v t => ⟨t.a0, t.a1, t.a2, t.a3, t.a4, ⟨t.a5.a0, t.a5.a1, t.a5.a2, t.a5.a3, ⟨t.a5.a4.a0, t.a5.a4.a1, t.a5.a4.a2, t.a5.a4.a3, t.a5.a4.a4, t.a5.a4.a5, some v, t.a5.a4.a7⟩, t.a5.a5, t.a5.a6, t.a5.a7⟩, t.a6, t.a7⟩
def p359 : Opd := fun t => t.a5.a4.a7
def s359 : SetF := fun v t => ⟨t.a0, t.a1, t.a2, t.a3, t.a4, ⟨t.a5.a0, t.a5.a1, t.a5.a2, t.a5.a3, ⟨t.a5.a4.a0, t.a5.a4.a1, t.a5.a4.a2, t.a5.a4.a3, t.a5.a4.a4, t.a5.a4.a5, t.a5.a4.a6, some v⟩, t.a5.a5, t.a5.a6, t.a5.a7⟩, t.a6, t.a7⟩
def p360 : Opd := fun t => t.a5.a5.a0
def s360 : SetF := fun v t => ⟨t.a0, t.a1, t.a2, t.a3, t.a4, ⟨t.a5.a0, t.a5.a1, t.a5.a2, t.a5.a3, t.a5.a4, ⟨some v, t.a5.a5.a1, t.a5.a5.a2, t.a5.a5.a3, t.a5.a5.a4, t.a5.a5.a5, t.a5.a5.a6, t.a5.a5.a7⟩, t.a5.a6, t.a5.a7⟩, t.a6, t.a7⟩
def p361 : Opd := fun t => t.a5.a5.a1
def s361 : SetF := fun v t => ⟨t.a0, t.a1, t.a2, t.a3, t.a4, ⟨t.a5.a0, t.a5.a1, t.a5.a2, t.a5.a3, t.a5.a4, ⟨t.a5.a5.a0, some v, t.a5.a5.a2, t.a5.a5.a3, t.a5.a5.a4, t.a5.a5.a5, t.a5.a5.a6, t.a5.a5.a7⟩, t.a5.a6, t.a5.a7⟩, t.a6, t.a7⟩
def p362 : Opd := fun t => t.a5.a5.a2
def s362 : SetF := fun v t => ⟨t.a0, t.a1, t.a2, t.a3, t.a4, ⟨t.a5.a0, t.a5.a1, t.a5.a2, t.a5.a3, t.a5.a4, ⟨t.a5.a5.a0, t.a5.a5.a1, some v, t.a5.a5.a3, t.a5.a5.a4, t.a5.a5.a5, t.a5.a5.a6, t.a5.a5.a7⟩, t.a5.a6, t.a5.a7⟩, t.a6, t.a7⟩
def p363 : Opd := fun t => t.a5.a5.a3
def s363 : SetF := fun v t => ⟨t.a0, t.a1, t.a2, t.a3, t.a4, ⟨t.a5.a0, t.a5.a1, t.a5.a2, t.a5.a3, t.a5.a4, ⟨t.a5.a5.a0, t.a5.a5.a1, t.a5.a5.a2, some v, t.a5.a5.a4, t.a5.a5.a5, t.a5.a5.a6, t.a5.a5.a7⟩, t.a5.a6, t.a5.a7⟩, t.a6, t.a7⟩
def p364 : Opd := fun t => t.a5.a5.a4
def s364 : SetF := fun v t => ⟨t.a0, t.a1, t.a2, t.a3, t.a4, ⟨t.a5.a0, t.a5.a1, t.a5.a2, t.a5.a3, t.a5.a4, ⟨t.a5.a5.a0, t.a5.a5.a1, t.a5.a5.a2, t.a5.a5.a3, some v, t.a5.a5.a5, t.a5.a5.a6, t.a5.a5.a7⟩, t.a5.a6, t.a5.a7⟩, t.a6, t.a7⟩
def p365 : Opd := fun t => t.a5.a5.a5
def s365 : SetF := fun v t => ⟨t.a0, t.a1, t.a2, t.a3, t.a4, ⟨t.a5.a0, t.a5.a1, t.a5.a2, t.a5.a3, t.a5.a4, ⟨t.a5.a5.a0, t.a5.a5.a1, t.a5.a5.a2, t.a5.a5.a3, t.a5.a5.a4, some v, t.a5.a5.a6, t.a5.a5.a7⟩, t.a5.a6, t.a5.a7⟩, t.a6, t.a7⟩
def p366 : Opd := fun t => t.a5.a5.a6
def s366 : SetF := fun v t => ⟨t.a0, t.a1, t.a2, t.a3, t.a4, ⟨t.a5.a0, t.a5.a1, t.a5.a2, t.a5.a3, t.a5.a4, ⟨t.a5.a5.a0, t.a5.a5.a1, t.a5.a5.a2, t.a5.a5.a3, t.a5.a5.a4, t.a5.a5.a5, some v, t.a5.a5.a7⟩, t.a5.a6, t.a5.a7⟩, t.a6, t.a7⟩
def p367 : Opd := fun t => t.a5.a5.a7
def s367 : SetF := fun v t => ⟨t.a0, t.a1, t.a2, t.a3, t.a4, ⟨t.a5.a0, t.a5.a1, t.a5.a2, t.a5.a3, t.a5.a4, ⟨t.a5.a5.a0, t.a5.a5.a1, t.a5.a5.a2, t.a5.a5.a3, t.a5.a5.a4, t.a5.a5.a5, t.a5.a5.a6, some v⟩, t.a5.a6, t.a5.a7⟩, t.a6, t.a7⟩
def p368 : Opd := fun t => t.a5.a6.a0
def s368 : SetF := fun v t => ⟨t.a0, t.a1, t.a2, t.a3, t.a4, ⟨t.a5.a0, t.a5.a1, t.a5.a2, t.a5.a3, t.a5.a4, t.a5.a5, ⟨some v, t.a5.a6.a1, t.a5.a6.a2, t.a5.a6.a3, t.a5.a6.a4, t.a5.a6.a5, t.a5.a6.a6, t.a5.a6.a7⟩, t.a5.a7⟩, t.a6, t.a7⟩
def p369 : Opd := fun t => t.a5.a6.a1
def s369 : SetF := fun v t => ⟨t.a0, t.a1, t.a2, t.a3, t.a4, ⟨t.a5.a0, t.a5.a1, t.a5.a2, t.a5.a3, t.a5.a4, t.a5.a5, ⟨t.a5.a6.a0, some v, t.a5.a6.a2, t.a5.a6.a3, t.a5.a6.a4, t.a5.a6.a5, t.a5.a6.a6, t.a5.a6.a7⟩, t.a5.a7⟩, t.a6, t.a7⟩
def p370 : Opd := fun t => t.a5.a6.a2
def s370 : SetF := fun v t => ⟨t.a0, t.a1, t.a2, t.a3, t.a4, ⟨t.a5.a0, t.a5.a1, t.a5.a2, t.a5.a3, t.a5.a4, t.a5.a5, ⟨t.a5.a6.a0, t.a5.a6.a1, some v, t.a5.a6.a3, t.a5.a6.a4, t.a5.a6.a5, t.a5.a6.a6, t.a5.a6.a7⟩, t.a5.a7⟩, t.a6, t.a7⟩
def p371 : Opd := fun t => t.a5.a6.a3
def s371 : SetF := fun v t => ⟨t.a0, t.a1, t.a2, t.a3, t.a4, ⟨t.a5.a0, t.a5.a1, t.a5.a2, t.a5.a3, t.a5.a4, t.a5.a5, ⟨t.a5.a6.a0, t.a5.a6.a1, t.a5.a6.a2, some v, t.a5.a6.a4, t.a5.a6.a5, t.a5.a6.a6, t.a5.a6.a7⟩, t.a5.a7⟩, t.a6, t.a7⟩
def p372 : Opd := fun t => t.a5.a6.a4
def s372 : SetF := fun v t => ⟨t.a0, t.a1, t.a2, t.a3, t.a4, ⟨t.a5.a0, t.a5.a1, t.a5.a2, t.a5.a3, t.a5.a4, t.a5.a5, ⟨t.a5.a6.a0, t.a5.a6.a1, t.a5.a6.a2, t.a5.a6.a3, some v, t.a5.a6.a5, t.a5.a6.a6, t.a5.a6.a7⟩, t.a5.a7⟩, t.a6, t.a7⟩
def p373 : Opd := fun t => t.a5.a6.a5
def s373 : SetF := fun v t => ⟨t.a0, t.a1, t.a2, t.a3, t.a4, ⟨t.a5.a0, t.a5.a1, t.a5.a2, t.a5.a3, t.a5.a4, t.a5.a5, ⟨t.a5.a6.a0, t.a5.a6.a1, t.a5.a6.a2, t.a5.a6.a3, t.a5.a6.a4, some v, t.a5.a6.a6, t.a5.a6.a7⟩, t.a5.a7⟩, t.a6, t.a7⟩
def p374 : Opd := fun t => t.a5.a6.a6
def s374 : SetF := fun v t => ⟨t.a0, t.a1, t.a2, t.a3, t.a4, ⟨t.a5.a0, t.a5.a1, t.a5.a2, t.a5.a3, t.a5.a4, t.a5.a5, ⟨t.a5.a6.a0, t.a5.a6.a1, t.a5.a6.a2, t.a5.a6.a3, t.a5.a6.a4, t.a5.a6.a5, some v, t.a5.a6.a7⟩, t.a5.a7⟩, t.a6, t.a7⟩
def p375 : Opd := fun t => t.a5.a6.a7
def s375 : SetF := fun v t => ⟨t.a0, t.a1, t.a2, t.a3, t.a4, ⟨t.a5.a0, t.a5.a1, t.a5.a2, t.a5.a3, t.a5.a4, t.a5.a5, ⟨t.a5.a6.a0, t.a5.a6.a1, t.a5.a6.a2, t.a5.a6.a3, t.a5.a6.a4, t.a5.a6.a5, t.a5.a6.a6, some v⟩, t.a5.a7⟩, t.a6, t.a7⟩
def p376 : Opd := fun t => t.a5.a7.a0
def s376 : SetF := fun v t => ⟨t.a0, t.a1, t.a2, t.a3, t.a4, ⟨t.a5.a0, t.a5.a1, t.a5.a2, t.a5.a3, t.a5.a4, t.a5.a5, t.a5.a6, ⟨some v, t.a5.a7.a1, t.a5.a7.a2, t.a5.a7.a3, t.a5.a7.a4, t.a5.a7.a5, t.a5.a7.a6, t.a5.a7.a7⟩⟩, t.a6, t.a7⟩
def p377 : Opd := fun t => t.a5.a7.a1
def s377 : SetF := fun v t => ⟨t.a0, t.a1, t.a2, t.a3, t.a4, ⟨t.a5.a0, t.a5.a1, t.a5.a2, t.a5.a3, t.a5.a4, t.a5.a5, t.a5.a6, ⟨t.a5.a7.a0, some v, t.a5.a7.a2, t.a5.a7.a3, t.a5.a7.a4, t.a5.a7.a5, t.a5.a7.a6, t.a5.a7.a7⟩⟩, t.a6, t.a7⟩
def p378 : Opd := fun t => t.a5.a7.a2
def s378 : SetF := fun v t => ⟨t.a0, t.a1, t.a2, t.a3, t.a4, ⟨t.a5.a0, t.a5.a1, t.a5.a2, t.a5.a3, t.a5.a4, t.a5.a5, t.a5.a6, ⟨t.a5.a7.a0, t.a5.a7.a1, some v, t.a5.a7.a3, t.a5.a7.a4, t.a5.a7.a5, t.a5.a7.a6, t.a5.a7.a7⟩⟩, t.a6, t.a7⟩
def p379 : Opd := fun t => t.a5.a7.a3
def s379 : SetF := fun v t => ⟨t.a0, t.a1, t.a2, t.a3, t.a4, ⟨t.a5.a0, t.a5.a1, t.a5.a2, t.a5.a3, t.a5.a4, t.a5.a5, t.a5.a6, ⟨t.a5.a7.a0, t.a5.a7.a1, t.a5.a7.a2, some v, t.a5.a7.a4, t.a5.a7.a5, t.a5.a7.a6, t.a5.a7.a7⟩⟩, t.a6, t.a7⟩
def p380 : Opd := fun t => t.a5.a7.a4
def s380 : SetF := fun v t => ⟨t.a0, t.a1, t.a2, t.a3, t.a4, ⟨t.a5.a0, t.a5.a1, t.a5.a2, t.a5.a3, t.a5.a4, t.a5.a5, t.a5.a6, ⟨t.a5.a7.a0, t.a5.a7.a1, t.a5.a7.a2, t.a5.a7.a3, some v, t.a5.a7.a5, t.a5.a7.a6, t.a5.a7.a7⟩⟩, t.a6, t.a7⟩
def p381 : Opd := fun t => t.a5.a7.a5
def s381 : SetF := fun v t => ⟨t.a0, t.a1, t.a2, t.a3, t.a4, ⟨t.a5.a0, t.a5.a1, t.a5.a2, t.a5.a3, t.a5.a4, t.a5.a5, t.a5.a6, ⟨t.a5.a7.a0, t.a5.a7.a1, t.a5.a7.a2, t.a5.a7.a3, t.a5.a7.a4, some v, t.a5.a7.a6, t.a5.a7.a7⟩⟩, t.a6, t.a7⟩
def p382 : Opd := fun t => t.a5.a7.a6
def s382 : SetF := fun v t => ⟨t.a0, t.a1, t.a2, t.a3, t.a4, ⟨t.a5.a0, t.a5.a1, t.a5.a2, t.a5.a3, t.a5.a4, t.a5.a5, t.a5.a6, ⟨t.a5.a7.a0, t.a5.a7.a1, t.a5.a7.a2, t.a5.a7.a3, t.a5.a7.a4, t.a5.a7.a5, some v, t.a5.a7.a7⟩⟩, t.a6, t.a7⟩
def p383 : Opd := fun t => t.a5.a7.a7
def s383 : SetF := fun v t => ⟨t.a0, t.a1, t.a2, t.a3, t.a4, ⟨t.a5.a0, t.a5.a1, t.a5.a2, t.a5.a3, t.a5.a4, t.a5.a5, t.a5.a6, ⟨t.a5.a7.a0, t.a5.a7.a1, t.a5.a7.a2, t.a5.a7.a3, t.a5.a7.a4, t.a5.a7.a5, t.a5.a7.a6, some v⟩⟩, t.a6, t.a7⟩
def p384 : Opd := fun t => t.a6.a0.a0
def s384 : SetF := fun v t => ⟨t.a0, t.a1, t.a2, t.a3, t.a4, t.a5, ⟨⟨some v, t.a6.a0.a1, t.a6.a0.a2, t.a6.a0.a3, t.a6.a0.a4, t.a6.a0.a5, t.a6.a0.a6, t.a6.a0.a7⟩, t.a6.a1, t.a6.a2, t.a6.a3, t.a6.a4, t.a6.a5, t.a6.a6, t.a6.a7⟩, t.a7⟩
def p385 : Opd := fun t => t.a6.a0.a1
def s385 : SetF := fun v t => ⟨t.a0, t.a1, t.a2, t.a3, t.a4, t.a5, ⟨⟨t.a6.a0.a0, some v, t.a6.a0.a2, t.a6.a0.a3, t.a6.a0.a4, t.a6.a0.a5, t.a6.a0.a6, t.a6.a0.a7⟩, t.a6.a1, t.a6.a2, t.a6.a3, t.a6.a4, t.a6.a5, t.a6.a6, t.a6.a7⟩, t.a7⟩
def p386 : Opd := fun t => t.a6.a0.a2
def s386 : SetF := fun v t => ⟨t.a0, t.a1, t.a2, t.a3, t.a4, t.a5, ⟨⟨t.a6.a0.a0, t.a6.a0.a1, some v, t.a6.a0.a3, t.a6.a0.a4, t.a6.a0.a5, t.a6.a0.a6, t.a6.a0.a7⟩, t.a6.a1, t.a6.a2, t.a6.a3, t.a6.a4, t.a6.a5, t.a6.a6, t.a6.a7⟩, t.a7⟩
def p387 : Opd := fun t => t.a6.a0.a3
def s387 : SetF := fun v t => ⟨t.a0, t.a1, t.a2, t.a3, t.a4, t.a5, ⟨⟨t.a6.a0.a0, t.a6.a0.a1, t.a6.a0.a2, some v, t.a6.a0.a4, t.a6.a0.a5, t.a6.a0.a6, t.a6.a0.a7⟩, t.a6.a1, t.a6.a2, t.a6.a3, t.a6.a4, t.a6.a5, t.a6.a6, t.a6.a7⟩, t.a7⟩
def p388 : Opd := fun t => t.a6.a0.a4
def s388 : SetF := fun v t => ⟨t.a0, t.a1, t.a2, t.a3, t.a4, t.a5, ⟨⟨t.a6.a0.a0, t.a6.a0.a1, t.a6.a0.a2, t.a6.a0.a3, some v, t.a6.a0.a5, t.a6.a0.a6, t.a6.a0.a7⟩, t.a6.a1, t.a6.a2, t.a6.a3, t.a6.a4, t.a6.a5, t.a6.a6, t.a6.a7⟩, t.a7⟩
def p389 : Opd := fun t => t.a6.a0.a5
def s389 : SetF := fun v t => ⟨t.a0, t.a1, t.a2, t.a3, t.a4, t.a5, ⟨⟨t.a6.a0.a0, t.a6.a0.a1, t.a6.a0.a2, t.a6.a0.a3, t.a6.a0.a4, some v, t.a6.a0.a6, t.a6.a0.a7⟩, t.a6.a1, t.a6.a2, t.a6.a3, t.a6.a4, t.a6.a5, t.a6.a6, t.a6.a7⟩, t.a7⟩
def p390 : Opd := fun t => t.a6.a0.a6
def s390 : SetF := fun v t => ⟨t.a0, t.a1, t.a2, t.a3, t.a4, t.a5, ⟨⟨t.a6.a0.a0, t.a6.a0.a1, t.a6.a0.a2, t.a6.a0.a3, t.a6.a0.a4, t.a6.a0.a5, some v, t.a6.a0.a7⟩, t.a6.a1, t.a6.a2, t.a6.a3, t.a6.a4, t.a6.a5, t.a6.a6, t.a6.a7⟩, t.a7⟩
def p391 : Opd := fun t => t.a6.a0.a7
def s391 : SetF := fun v t => ⟨t.a0, t.a1, t.a2, t.a3, t.a4, t.a5, ⟨⟨t.a6.a0.a0, t.a6.a0.a1, t.a6.a0.a2, t.a6.a0.a3, t.a6.a0.a4, t.a6.a0.a5, t.a6.a0.a6, some v⟩, t.a6.a1, t.a6.a2, t.a6.a3, t.a6.a4, t.a6.a5, t.a6.a6, t.a6.a7⟩, t.a7⟩
def p392 : Opd := fun t => t.a6.a1.a0
def s392 : SetF := fun v t => ⟨t.a0, t.a1, t.a2, t.a3, t.a4, t.a5, ⟨t.a6.a0, ⟨some v, t.a6.a1.a1, t.a6.a1.a2, t.a6.a1.a3, t.a6.a1.a4, t.a6.a1.a5, t.a6.a1.a6, t.a6.a1.a7⟩, t.a6.a2, t.a6.a3, t.a6.a4, t.a6.a5, t.a6.a6, t.a6.a7⟩, t.a7⟩
def p393 : Opd := fun t => t.a6.a1.a1
def s393 : SetF := fun v t => ⟨t.a0, t.a1, t.a2, t.a3, t.a4, t.a5, ⟨t.a6.a0, ⟨t.a6.a1.a0, some v, t.a6.a1.a2, t.a6.a1.a3, t.a6.a1.a4, t.a6.a1.a5, t.a6.a1.a6, t.a6.a1.a7⟩, t.a6.a2, t.a6.a3, t.a6.a4, t.a6.a5, t.a6.a6, t.a6.a7⟩, t.a7⟩
def p394 : Opd := fun t => t.a6.a1.a2
def s394 : SetF := fun v t => ⟨t.a0, t.a1, t.a2, t.a3, t.a4, t.a5, ⟨t.a6.a0, ⟨t.a6.a1.a0, t.a6.a1.a1, some v, t.a6.a1.a3, t.a6.a1.a4, t.a6.a1.a5, t.a6.a1.a6, t.a6.a1.a7⟩, t.a6.a2, t.a6.a3, t.a6.a4, t.a6.a5, t.a6.a6, t.a6.a7⟩, t.a7⟩
def p395 : Opd := fun t => t.a6.a1.a3
def s395 : SetF := fun v t => ⟨t.a0, t.a1, t.a2, t.a3, t.a4, t.a5, ⟨t.a6.a0, ⟨t.a6.a1.a0, t.a6.a1.a1, t.a6.a1.a2, some v, t.a6.a1.a4, t.a6.a1.a5, t.a6.a1.a6, t.a6.a1.a7⟩, t.a6.a2, t.a6.a3, t.a6.a4, t.a6.a5, t.a6.a6, t.a6.a7⟩, t.a7⟩
def p396 : Opd := fun t => t.a6.a1.a4
def s396 : SetF := fun v t => ⟨t.a0, t.a1, t.a2, t.a3, t.a4, t.a5, ⟨t.a6.a0, ⟨t.a6.a1.a0, t.a6.a1.a1, t.a6.a1.a2, t.a6.a1.a3, some v, t.a6.a1.a5, t.a6.a1.a6, t.a6.a1.a7⟩, t.a6.a2, t.a6.a3, t.a6.a4, t.a6.a5, t.a6.a6, t.a6.a7⟩, t.a7⟩
def p397 : Opd := fun t => t.a6.a1.a5
def s397 : SetF := fun v t => ⟨t.a0, t.a1, t.a2, t.a3, t.a4, t.a5, ⟨t.a6.a0, ⟨t.a6.a1.a0, t.a6.a1.a1, t.a6.a1.a2, t.a6.a1.a3, t.a6.a1.a4, some v, t.a6.a1.a6, t.a6.a1.a7⟩, t.a6.a2, t.a6.a3, t.a6.a4, t.a6.a5, t.a6.a6, t.a6.a7⟩, t.a7⟩
def p398 : Opd := fun t => t.a6.a1.a6
def s398 : SetF := fun v t => ⟨t.a0, t.a1, t.a2, t.a3, t.a4, t.a5, ⟨t.a6.a0, ⟨t.a6.a1.a0, t.a6.a1.a1, t.a6.a1.a2, t.a6.a1.a3, t.a6.a1.a4, t.a6.a1.a5, some v, t.a6.a1.a7⟩, t.a6.a2, t.a6.a3, t.a6.a4, t.a6.a5, t.a6.a6, t.a6.a7⟩, t.a7⟩
def p399 : Opd := fun t => t.a6.a1.a7
def s399 : SetF := fun v t => ⟨t.a0, t.a1, t.a2, t.a3, t.a4, t.a5, ⟨t.a6.a0, ⟨t.a6.a1.a0, t.a6.a1.a1, t.a6.a1.a2, t.a6.a1.a3, t.a6.a1.a4, t.a6.a1.a5, t.a6.a1.a6, some v⟩, t.a6.a2, t.a6.a3, t.a6.a4, t.a6.a5, t.a6.a6, t.a6.a7⟩, t.a7⟩
def p400 : Opd := fun t => t.a6.a2.a0
def s400 : SetF := fun v t => ⟨t.a0, t.a1, t.a2, t.a3, t.a4, t.a5, ⟨t.a6.a0, t.a6.a1, ⟨some v, t.a6.a2.a1, t.a6.a2.a2, t.a6.a2.a3, t.a6.a2.a4, t.a6.a2.a5, t.a6.a2.a6, t.a6.a2.a7⟩, t.a6.a3, t.a6.a4, t.a6.a5, t.a6.a6, t.a6.a7⟩, t.a7⟩
def p401 : Opd := fun t => t.a6.a2.a1
def s401 : SetF := fun v t => ⟨t.a0, t.a1, t.a2, t.a3, t.a4, t.a5, ⟨t.a6.a0, t.a6.a1, ⟨t.a6.a2.a0, some v, t.a6.a2.a2, t.a6.a2.a3, t.a6.a2.a4, t.a6.a2.a5, t.a6.a2.a6, t.a6.a2.a7⟩, t.a6.a3, t.a6.a4, t.a6.a5, t.a6.a6, t.a6.a7⟩, t.a7⟩
def p402 : Opd := fun t => t.a6.a2.a2
def s402 : SetF := fun v t => ⟨t.a0, t.a1, t.a2, t.a3, t.a4, t.a5, ⟨t.a6.a0, t.a6.a1, ⟨t.a6.a2.a0, t.a6.a2.a1, some v, t.a6.a2.a3, t.a6.a2.a4, t.a6.a2.a5, t.a6.a2.a6, t.a6.a2.a7⟩, t.a6.a3, t.a6.a4, t.a6.a5, t.a6.a6, t.a6.a7⟩, t.a7⟩
def p403 : Opd := fun t => t.a6.a2.a3
def s403 : SetF := fun v t => ⟨t.a0, t.a1, t.a2, t.a3, t.a4, t.a5, ⟨t.a6.a0, t.a6.a1, ⟨t.a6.a2.a0, t.a6.a2.a1, t.a6.a2.a2, some v, t.a6.a2.a4, t.a6.a2.a5, t.a6.a2.a6, t.a6.a2.a7⟩, t.a6.a3, t.a6.a4, t.a6.a5, t.a6.a6, t.a6.a7⟩, t.a7⟩
def p404 : Opd := fun t => t.a6.a2.a4
def s404 : SetF := fun v t => ⟨t.a0, t.a1, t.a2, t.a3, t.a4, t.a5, ⟨t.a6.a0, t.a6.a1, ⟨t.a6.a2.a0, t.a6.a2.a1, t.a6.a2.a2, t.a6.a2.a3, some v, t.a6.a2.a5, t.a6.a2.a6, t.a6.a2.a7⟩, t.a6.a3, t.a6.a4, t.a6.a5, t.a6.a6, t.a6.a7⟩, t.a7⟩
def p405 : Opd := fun t => t.a6.a2.a5
def s405 : SetF := fun v t => ⟨t.a0, t.a1, t.a2, t.a3, t.a4, t.a5, ⟨t.a6.a0, t.a6.a1, ⟨t.a6.a2.a0, t.a6.a2.a1, t.a6.a2.a2, t.a6.a2.a3, t.a6.a2.a4, some v, t.a6.a2.a6, t.a6.a2.a7⟩, t.a6.a3, t.a6.a4, t.a6.a5, t.a6.a6, t.a6.a7⟩, t.a7⟩
def p406 : Opd := fun t => t.a6.a2.a6
def s406 : SetF := fun v t => ⟨t.a0, t.a1, t.a2, t.a3, t.a4, t.a5, ⟨t.a6.a0, t.a6.a1, ⟨t.a6.a2.a0, t.a6.a2.a1, t.a6.a2.a2, t.a6.a2.a3, t.a6.a2.a4, t.a6.a2.a5, some v, t.a6.a2.a7⟩, t.a6.a3, t.a6.a4, t.a6.a5, t.a6.a6, t.a6.a7⟩, t.a7⟩
def p407 : Opd := fun t => t.a6.a2.a7
def s407 : SetF := fun v t => ⟨t.a0, t.a1, t.a2, t.a3, t.a4, t.a5, ⟨t.a6.a0, t.a6.a1, ⟨t.a6.a2.a0, t.a6.a2.a1, t.a6.a2.a2, t.a6.a2.a3, t.a6.a2.a4, t.a6.a2.a5, t.a6.a2.a6, some v⟩, t.a6.a3, t.a6.a4, t.a6.a5, t.a6.a6, t.a6.a7⟩, t.a7⟩
def p408 : Opd := fun t => t.a6.a3.a0
def s408 : SetF := fun v t => ⟨t.a0, t.a1, t.a2, t.a3, t.a4, t.a5, ⟨t.a6.a0, t.a6.a1, t.a6.a2, ⟨some v, t.a6.a3.a1, t.a6.a3.a2, t.a6.a3.a3, t.a6.a3.a4, t.a6.a3.a5, t.a6.a3.a6, t.a6.a3.a7⟩, t.a6.a4, t.a6.a5, t.a6.a6, t.a6.a7⟩, t.a7⟩
def p409 : Opd := fun t => t.a6.a3.a1
def s409 : SetF := fun v t => ⟨t.a0, t.a1, t.a2, t.a3, t.a4, t.a5, ⟨t.a6.a0, t.a6.a1, t.a6.a2, ⟨t.a6.a3.a0, some v, t.a6.a3.a2, t.a6.a3.a3, t.a6.a3.a4, t.a6.a3.a5, t.a6.a3.a6, t.a6.a3.a7⟩, t.a6.a4, t.a6.a5, t.a6.a6, t.a6.a7⟩, t.a7⟩
def p410 : Opd := fun t => t.a6.a3.a2
def s410 : SetF := fun v t => ⟨t.a0, t.a1, t.a2, t.a3, t.a4, t.a5, ⟨t.a6.a0, t.a6.a1, t.a6.a2, ⟨t.a6.a3.a0, t.a6.a3.a1, some v, t.a6.a3.a3, t.a6.a3.a4, t.a6.a3.a5, t.a6.a3.a6, t.a6.a3.a7⟩, t.a6.a4, t.a6.a5, t.a6.a6, t.a6.a7⟩, t.a7⟩
def p411 : Opd := fun t => t.a6.a3.a3
def s411 : SetF := fun v t => ⟨t.a0, t.a1, t.a2, t.a3, t.a4, t.a5, ⟨t.a6.a0, t.a6.a1, t.a6.a2, ⟨t.a6.a3.a0, t.a6.a3.a1, t.a6.a3.a2, some v, t.a6.a3.a4, t.a6.a3.a5, t.a6.a3.a6, t.a6.a3.a7⟩, t.a6.a4, t.a6.a5, t.a6.a6, t.a6.a7⟩, t.a7⟩
def p412 : Opd := fun t => t.a6.a3.a4
def s412 : SetF := fun v t => ⟨t.a0, t.a1, t.a2, t.a3, t.a4, t.a5, ⟨t.a6.a0, t.a6.a1, t.a6.a2, ⟨t.a6.a3.a0, t.a6.a3.a1, t.a6.a3.a2, t.a6.a3.a3, some v, t.a6.a3.a5, t.a6.a3.a6, t.a6.a3.a7⟩, t.a6.a4, t.a6.a5, t.a6.a6, t.a6.a7⟩, t.a7⟩
def p413 : Opd := fun t => t.a6.a3.a5
def s413 : SetF := fun v t => ⟨t.a0, t.a1, t.a2, t.a3, t.a4, t.a5, ⟨t.a6.a0, t.a6.a1, t.a6.a2, ⟨t.a6.a3.a0, t.a6.a3.a1, t.a6.a3.a2, t.a6.a3.a3, t.a6.a3.a4, some v, t.a6.a3.a6, t.a6.a3.a7⟩, t.a6.a4, t.a6.a5, t.a6.a6, t.a6.a7⟩, t.a7⟩
def p414 : Opd := fun t => t.a6.a3.a6
def s414 : SetF := fun v t => ⟨t.a0, t.a1, t.a2, t.a3, t.a4, t.a5, ⟨t.a6.a0, t.a6.a1, t.a6.a2, ⟨t.a6.a3.a0, t.a6.a3.a1, t.a6.a3.a2, t.a6.a3.a3, t.a6.a3.a4, t.a6.a3.a5, some v, t.a6.a3.a7⟩, t.a6.a4, t.a6.a5, t.a6.a6, t.a6.a7⟩, t.a7⟩
def p415 : Opd := fun t => t.a6.a3.a7
def s415 : SetF := fun v t => ⟨t.a0, t.a1, t.a2, t.a3, t.a4, t.a5, ⟨t.a6.a0, t.a6.a1, t.a6.a2, ⟨t.a6.a3.a0, t.a6.a3.a1, t.a6.a3.a2, t.a6.a3.a3, t.a6.a3.a4, t.a6.a3.a5, t.a6.a3.a6, some v⟩, t.a6.a4, t.a6.a5, t.a6.a6, t.a6.a7⟩, t.a7⟩
def p416 : Opd := fun t => t.a6.a4.a0
def s416 : SetF := fun v t => ⟨t.a0, t.a1, t.a2, t.a3, t.a4, t.a5, ⟨t.a6.a0, t.a6.a1, t.a6.a2, t.a6.a3, ⟨some v, t.a6.a4.a1, t.a6.a4.a2, t.a6.a4.a3, t.a6.a4.a4, t.a6.a4.a5, t.a6.a4.a6, t.a6.a4.a7⟩, t.a6.a5, t.a6.a6, t.a6.a7⟩, t.a7⟩
def p417 : Opd := fun t => t.a6.a4.a1
def s417 : SetF := fun v t => ⟨t.a0, t.a1, t.a2, t.a3, t.a4, t.a5, ⟨t.a6.a0, t.a6.a1, t.a6.a2, t.a6.a3, ⟨t.a6.a4.a0, some v, t.a6.a4.a2, t.a6.a4.a3, t.a6.a4.a4, t.a6.a4.a5, t.a6.a4.a6, t.a6.a4.a7⟩, t.a6.a5, t.a6.a6, t.a6.a7⟩, t.a7⟩
def p418 : Opd := fun t => t.a6.a4.a2
def s418 : SetF := fun v t => ⟨t.a0, t.a1, t.a2, t.a3, t.a4, t.a5, ⟨t.a6.a0, t.a6.a1, t.a6.a2, t.a6.a3, ⟨t.a6.a4.a0, t.a6.a4.a1, some v, t.a6.a4.a3, t.a6.a4.a4, t.a6.a4.a5, t.a6.a4.a6, t.a6.a4.a7⟩, t.a6.a5, t.a6.a6, t.a6.a7⟩, t.a7⟩
def p419 : Opd := fun t => t.a6.a4.a3
def s419 : SetF := fun v t => ⟨t.a0, t.a1, t.a2, t.a3, t.a4, t.a5, ⟨t.a6.a0, t.a6.a1, t.a6.a2, t.a6.a3, ⟨t.a6.a4.a0, t.a6.a4.a1, t.a6.a4.a2, some v, t.a6.a4.a4, t.a6.a4.a5, t.a6.a4.a6, t.a6.a4.a7⟩, t.a6.a5, t.a6.a6, t.a6.a7⟩, t.a7⟩
def p420 : Opd := fun t => t.a6.a4.a4
def s420 : SetF := fun v t => ⟨t.a0, t.a1, t.a2, t.a3, t.a4, t.a5, ⟨t.a6.a0, t.a6.a1, t.a6.a2, t.a6.a3, ⟨t.a6.a4.a0, t.a6.a4.a1, t.a6.a4.a2, t.a6.a4.a3, some v, t.a6.a4.a5, t.a6.a4.a6, t.a6.a4.a7⟩, t.a6.a5, t.a6.a6, t.a6.a7⟩, t.a7⟩
def p421 : Opd := fun t => t.a6.a4.a5
def s421 : SetF := fun v t => ⟨t.a0, t.a1, t.a2, t.a3, t.a4, t.a5, ⟨t.a6.a0, t.a6.a1, t.a6.a2, t.a6.a3, ⟨t.a6.a4.a0, t.a6.a4.a1, t.a6.a4.a2, t.a6.a4.a3, t.a6.a4.a4, some v, t.a6.a4.a6, t.a6.a4.a7⟩, t.a6.a5, t.a6.a6, t.a6.a7⟩, t.a7⟩
def p422 : Opd := fun t => t.a6.a4.a6
def s422 : SetF := fun v t => ⟨t.a0, t.a1, t.a2, t.a3, t.a4, t.a5, ⟨t.a6.a0, t.a6.a1, t.a6.a2, t.a6.a3, ⟨t.a6.a4.a0, t.a6.a4.a1, t.a6.a4.a2, t.a6.a4.a3, t.a6.a4.a4, t.a6.a4.a5, some v, t.a6.a4.a7⟩, t.a6.a5, t.a6.a6, t.a6.a7⟩, t.a7⟩
def p423 : Opd := fun t => t.a6.a4.a7
def s423 : SetF := fun v t => ⟨t.a0, t.a1, t.a2, t.a3, t.a4, t.a5, ⟨t.a6.a0, t.a6.a1, t.a6.a2, t.a6.a3, ⟨t.a6.a4.a0, t.a6.a4.a1, t.a6.a4.a2, t.a6.a4.a3, t.a6.a4.a4, t.a6.a4.a5, t.a6.a4.a6, some v⟩, t.a6.a5, t.a6.a6, t.a6.a7⟩, t.a7⟩
def p424 : Opd := fun t => t.a6.a5.a0
def s424 : SetF := fun v t => ⟨t.a0, t.a1, t.a2, t.a3, t.a4, t.a5, ⟨t.a6.a0, t.a6.a1, t.a6.a2, t.a6.a3, t.a6.a4, ⟨some v, t.a6.a5.a1, t.a6.a5.a2, t.a6.a5.a3, t.a6.a5.a4, t.a6.a5.a5, t.a6.a5.a6, t.a6.a5.a7⟩, t.a6.a6, t.a6.a7⟩, t.a7⟩
def p425 : Opd := fun t => t.a6.a5.a1
def s425 : SetF := fun v t => ⟨t.a0, t.a1, t.a2, t.a3, t.a4, t.a5, ⟨t.a6.a0, t.a6.a1, t.a6.a2, t.a6.a3, t.a6.a4, ⟨t.a6.a5.a0, some v, t.a6.a5.a2, t.a6.a5.a3, t.a6.a5.a4, t.a6.a5.a5, t.a6.a5.a6, t.a6.a5.a7⟩, t.a6.a6, t.a6.a7⟩, t.a7⟩
def p426 : Opd := fun t => t.a6.a5.a2
def s426 : SetF := fun v t => ⟨t.a0, t.a1, t.a2, t.a3, t.a4, t.a5, ⟨t.a6.a0, t.a6.a1, t.a6.a2, t.a6.a3, t.a6.a4, ⟨t.a6.a5.a0, t.a6.a5.a1, some v, t.a6.a5.a3, t.a6.a5.a4, t.a6.a5.a5, t.a6.a5.a6, t.a6.a5.a7⟩, t.a6.a6, t.a6.a7⟩, t.a7⟩
def p427 : Opd := fun t => t.a6.a5.a3
def s427 : SetF := fun v t => ⟨t.a0, t.a1, t.a2, t.a3, t.a4, t.a5, ⟨t.a6.a0, t.a6.a1, t.a6.a2, t.a6.a3, t.a6.a4, ⟨t.a6.a5.a0, t.a6.a5.a1, t.a6.a5.a2, some v, t.a6.a5.a4, t.a6.a5.a5, t.a6.a5.a6, t.a6.a5.a7⟩, t.a6.a6, t.a6.a7⟩, t.a7⟩
def p428 : Opd := fun t => t.a6.a5.a4
def s428 : SetF := fun v t => ⟨t.a0, t.a1, t.a2, t.a3, t.a4, t.a5, ⟨t.a6.a0, t.a6.a1, t.a6.a2, t.a6.a3, t.a6.a4, ⟨t.a6.a5.a0, t.a6.a5.a1, t.a6.a5.a2, t.a6.a5.a3, some v, t.a6.a5.a5, t.a6.a5.a6, t.a6.a5.a7⟩, t.a6.a6, t.a6.a7⟩, t.a7⟩
def p429 : Opd := fun t => t.a6.a5.a5
def s429 : SetF := fun v t => ⟨t.a0, t.a1, t.a2, t.a3, t.a4, t.a5, ⟨t.a6.a0, t.a6.a1, t.a6.a2, t.a6.a3, t.a6.a4, ⟨t.a6.a5.a0, t.a6.a5.a1, t.a6.a5.a2, t.a6.a5.a3, t.a6.a5.a4, some v, t.a6.a5.a6, t.a6.a5.a7⟩, t.a6.a6, t.a6.a7⟩, t.a7⟩
def p430 : Opd := fun t => t.a6.a5.a6
def s430 : SetF := fun v t => ⟨t.a0, t.a1, t.a2, t.a3, t.a4, t.a5, ⟨t.a6.a0, t.a6.a1, t.a6.a2, t.a6.a3, t.a6.a4, ⟨t.a6.a5.a0, t.a6.a5.a1, t.a6.a5.a2, t.a6.a5.a3, t.a6.a5.a4, t.a6.a5.a5, some v, t.a6.a5.a7⟩, t.a6.a6, t.a6.a7⟩, t.a7⟩
def p431 : Opd := fun t => t.a6.a5.a7
def s431 : SetF := fun v t => ⟨t.a0, t.a1, t.a2, t.a3, t.a4, t.a5, ⟨t.a6.a0, t.a6.a1, t.a6.a2, t.a6.a3, t.a6.a4, ⟨t.a6.a5.a0, t.a6.a5.a1, t.a6.a5.a2, t.a6.a5.a3, t.a6.a5.a4, t.a6.a5.a5, t.a6.a5.a6, some v⟩, t.a6.a6, t.a6.a7⟩, t.a7⟩
def p432 : Opd := fun t => t.a6.a6.a0
def s432 : SetF := fun v t => ⟨t.a0, t.a1, t.a2, t.a3, t.a4, t.a5, ⟨t.a6.a0, t.a6.a1, t.a6.a2, t.a6.a3, t.a6.a4, t.a6.a5, ⟨some v, t.a6.a6.a1, t.a6.a6.a2, t.a6.a6.a3, t.a6.a6.a4, t.a6.a6.a5, t.a6.a6.a6, t.a6.a6.a7⟩, t.a6.a7⟩, t.a7⟩
def p433 : Opd := fun t => t.a6.a6.a1
def s433 : SetF := fun v t => ⟨t.a0, t.a1, t.a2, t.a3, t.a4, t.a5, ⟨t.a6.a0, t.a6.a1, t.a6.a2, t.a6.a3, t.a6.a4, t.a6.a5, ⟨t.a6.a6.a0, some v, t.a6.a6.a2, t.a6.a6.a3, t.a6.a6.a4, t.a6.a6.a5, t.a6.a6.a6, t.a6.a6.a7⟩, t.a6.a7⟩, t.a7⟩
def p434 : Opd := fun t => t.a6.a6.a2
def s434 : SetF := fun v t => ⟨t.a0, t.a1, t.a2, t.a3, t.a4, t.a5, ⟨t.a6.a0, t.a6.a1, t.a6.a2, t.a6.a3, t.a6.a4, t.a6.a5, ⟨t.a6.a6.a0, t.a6.a6.a1, some v, t.a6.a6.a3, t.a6.a6.a4, t.a6.a6.a5, t.a6.a6.a6, t.a6.a6.a7⟩, t.a6.a7⟩, t.a7⟩
def p435 : Opd := fun t => t.a6.a6.a3
def s435 : SetF := fun v t => ⟨t.a0, t.a1, t.a2, t.a3, t.a4, t.a5, ⟨t.a6.a0, t.a6.a1, t.a6.a2, t.a6.a3, t.a6.a4, t.a6.a5, ⟨t.a6.a6.a0, t.a6.a6.a1, t.a6.a6.a2, some v, t.a6.a6.a4, t.a6.a6.a5, t.a6.a6.a6, t.a6.a6.a7⟩, t.a6.a7⟩, t.a7⟩
def p436 : Opd := fun t => t.a6.a6.a4
def s436 : SetF := fun v t => ⟨t.a0, t.a1, t.a2, t.a3, t.a4, t.a5, ⟨t.a6.a0, t.a6.a1, t.a6.a2, t.a6.a3, t.a6.a4, t.a6.a5, ⟨t.a6.a6.a0, t.a6.a6.a1, t.a6.a6.a2, t.a6.a6.a3, some v, t.a6.a6.a5, t.a6.a6.a6, t.a6.a6.a7⟩, t.a6.a7⟩, t.a7⟩
def p437 : Opd := fun t => t.a6.a6.a5
def s437 : SetF := fun v t => ⟨t.a0, t.a1, t.a2, t.a3, t.a4, t.a5, ⟨t.a6.a0, t.a6.a1, t.a6.a2, t.a6.a3, t.a6.a4, t.a6.a5, ⟨t.a6.a6.a0, t.a6.a6.a1, t.a6.a6.a2, t.a6.a6.a3, t.a6.a6.a4, some v, t.a6.a6.a6, t.a6.a6.a7⟩, t.a6.a7⟩, t.a7⟩
def p438 : Opd := fun t => t.a6.a6.a6
def s438 : SetF := fun v t => ⟨t.a0, t.a1, t.a2, t.a3, t.a4, t.a5, ⟨t.a6.a0, t.a6.a1, t.a6.a2, t.a6.a3, t.a6.a4, t.a6.a5, ⟨t.a6.a6.a0, t.a6.a6.a1, t.a6.a6.a2, t.a6.a6.a3, t.a6.a6.a4, t.a6.a6.a5, some v, t.a6.a6.a7⟩, t.a6.a7⟩, t.a7⟩
def p439 : Opd := fun t => t.a6.a6.a7
def s439 : SetF := fun v t => ⟨t.a0, t.a1, t.a2, t.a3, t.a4, t.a5, ⟨t.a6.a0, t.a6.a1, t.a6.a2, t.a6.a3, t.a6.a4, t.a6.a5, ⟨t.a6.a6.a0, t.a6.a6.a1, t.a6.a6.a2, t.a6.a6.a3, t.a6.a6.a4, t.a6.a6.a5, t.a6.a6.a6, some v⟩, t.a6.a7⟩, t.a7⟩
def p440 : Opd := fun t => t.a6.a7.a0
def s440 : SetF := fun v t => ⟨t.a0, t.a1, t.a2, t.a3, t.a4, t.a5, ⟨t.a6.a0, t.a6.a1, t.a6.a2, t.a6.a3, t.a6.a4, t.a6.a5, t.a6.a6, ⟨some v, t.a6.a7.a1, t.a6.a7.a2, t.a6.a7.a3, t.a6.a7.a4, t.a6.a7.a5, t.a6.a7.a6, t.a6.a7.a7⟩⟩, t.a7⟩
def p441 : Opd := fun t => t.a6.a7.a1
def s441 : SetF := fun v t => ⟨t.a0, t.a1, t.a2, t.a3, t.a4, t.a5, ⟨t.a6.a0, t.a6.a1, t.a6.a2, t.a6.a3, t.a6.a4, t.a6.a5, t.a6.a6, ⟨t.a6.a7.a0, some v, t.a6.a7.a2, t.a6.a7.a3, t.a6.a7.a4, t.a6.a7.a5, t.a6.a7.a6, t.a6.a7.a7⟩⟩, t.a7⟩
def p442 : Opd := fun t => t.a6.a7.a2
def s442 : SetF := fun v t => ⟨t.a0, t.a1, t.a2, t.a3, t.a4, t.a5, ⟨t.a6.a0, t.a6.a1, t.a6.a2, t.a6.a3, t.a6.a4, t.a6.a5, t.a6.a6, ⟨t.a6.a7.a0, t.a6.a7.a1, some v, t.a6.a7.a3, t.a6.a7.a4, t.a6.a7.a5, t.a6.a7.a6, t.a6.a7.a7⟩⟩, t.a7⟩
def p443 : Opd := fun t => t.a6.a7.a3
def s443 : SetF := fun v t => ⟨t.a0, t.a1, t.a2, t.a3, t.a4, t.a5, ⟨t.a6.a0, t.a6.a1, t.a6.a2, t.a6.a3, t.a6.a4, t.a6.a5, t.a6.a6, ⟨t.a6.a7.a0, t.a6.a7.a1, t.a6.a7.a2, some v, t.a6.a7.a4, t.a6.a7.a5, t.a6.a7.a6, t.a6.a7.a7⟩⟩, t.a7⟩
def p444 : Opd := fun t => t.a6.a7.a4
def s444 : SetF := fun v t => ⟨t.a0, t.a1, t.a2, t.a3, t.a4, t.a5, ⟨t.a6.a0, t.a6.a1, t.a6.a2, t.a6.a3, t.a6.a4, t.a6.a5, t.a6.a6, ⟨t.a6.a7.a0, t.a6.a7.a1, t.a6.a7.a2, t.a6.a7.a3, some v, t.a6.a7.a5, t.a6.a7.a6, t.a6.a7.a7⟩⟩, t.a7⟩
def p445 : Opd := fun t => t.a6.a7.a5
def s445 : SetF := fun v t => ⟨t.a0, t.a1, t.a2, t.a3, t.a4, t.a5, ⟨t.a6.a0, t.a6.a1, t.a6.a2, t.a6.a3, t.a6.a4, t.a6.a5, t.a6.a6, ⟨t.a6.a7.a0, t.a6.a7.a1, t.a6.a7.a2, t.a6.a7.a3, t.a6.a7.a4, some v, t.a6.a7.a6, t.a6.a7.a7⟩⟩, t.a7⟩
def p446 : Opd := fun t => t.a6.a7.a6
def s446 : SetF := fun v t => ⟨t.a0, t.a1, t.a2, t.a3, t.a4, t.a5, ⟨t.a6.a0, t.a6.a1, t.a6.a2, t.a6.a3, t.a6.a4, t.a6.a5, t.a6.a6, ⟨t.a6.a7.a0, t.a6.a7.a1, t.a6.a7.a2, t.a6.a7.a3, t.a6.a7.a4, t.a6.a7.a5, some v, t.a6.a7.a7⟩⟩, t.a7⟩
def p447 : Opd := fun t => t.a6.a7.a7
def s447 : SetF := fun v t => ⟨t.a0, t.a1, t.a2, t.a3, t.a4, t.a5, ⟨t.a6.a0, t.a6.a1, t.a6.a2, t.a6.a3, t.a6.a4, t.a6.a5, t.a6.a6, ⟨t.a6.a7.a0, t.a6.a7.a1, t.a6.a7.a2, t.a6.a7.a3, t.a6.a7.a4, t.a6.a7.a5, t.a6.a7.a6, some v⟩⟩, t.a7⟩
def p448 : Opd := fun t => t.a7.a0.a0
def s448 : SetF := fun v t => ⟨t.a0, t.a1, t.a2, t.a3, t.a4, t.a5, t.a6, ⟨⟨some v, t.a7.a0.a1, t.a7.a0.a2, t.a7.a0.a3, t.a7.a0.a4, t.a7.a0.a5, t.a7.a0.a6, t.a7.a0.a7⟩, t.a7.a1, t.a7.a2, t.a7.a3, t.a7.a4, t.a7.a5, t.a7.a6, t.a7.a7⟩⟩
def p449 : Opd := fun t => t.a7.a0.a1
def s449 : SetF := fun v t => ⟨t.a0, t.a1, t.a2, t.a3, t.a4, t.a5, t.a6, ⟨⟨t.a7.a0.a0, some v, t.a7.a0.a2, t.a7.a0.a3, t.a7.a0.a4, t.a7.a0.a5, t.a7.a0.a6, t.a7.a0.a7⟩, t.a7.a1, t.a7.a2, t.a7.a3, t.a7.a4, t.a7.a5, t.a7.a6, t.a7.a7⟩⟩
def p450 : Opd := fun t => t.a7.a0.a2
def s450 : SetF := fun v t => ⟨t.a0, t.a1, t.a2, t.a3, t.a4, t.a5, t.a6, ⟨⟨t.a7.a0.a0, t.a7.a0.a1, some v, t.a7.a0.a3, t.a7.a0.a4, t.a7.a0.a5, t.a7.a0.a6, t.a7.a0.a7⟩, t.a7.a1, t.a7.a2, t.a7.a3, t.a7.a4, t.a7.a5, t.a7.a6, t.a7.a7⟩⟩
def p451 : Opd := fun t => t.a7.a0.a3
def s451 : SetF := fun v t => ⟨t.a0, t.a1, t.a2, t.a3, t.a4, t.a5, t.a6, ⟨⟨t.a7.a0.a0, t.a7.a0.a1, t.a7.a0.a2, some v, t.a7.a0.a4, t.a7.a0.a5, t.a7.a0.a6, t.a7.a0.a7⟩, t.a7.a1, t.a7.a2, t.a7.a3, t.a7.a4, t.a7.a5, t.a7.a6, t.a7.a7⟩⟩
def p452 : Opd := fun t => t.a7.a0.a4
def s452 : SetF := fun v t => ⟨t.a0, t.a1, t.a2, t.a3, t.a4, t.a5, t.a6, ⟨⟨t.a7.a0.a0, t.a7.a0.a1, t.a7.a0.a2, t.a7.a0.a3, some v, t.a7.a0.a5, t.a7.a0.a6, t.a7.a0.a7⟩, t.a7.a1, t.a7.a2, t.a7.a3, t.a7.a4, t.a7.a5, t.a7.a6, t.a7.a7⟩⟩
def p453 : Opd := fun t => t.a7.a0.a5
def s453 : SetF := fun v t => ⟨t.a0, t.a1, t.a2, t.a3, t.a4, t.a5, t.a6, ⟨⟨t.a7.a0.a0, t.a7.a0.a1, t.a7.a0.a2, t.a7.a0.a3, t.a7.a0.a4, some v, t.a7.a0.a6, t.a7.a0.a7⟩, t.a7.a1, t.a7.a2, t.a7.a3, t.a7.a4, t.a7.a5, t.a7.a6, t.a7.a7⟩⟩
def p454 : Opd := fun t => t.a7.a0.a6
def s454 : SetF := fun v t => ⟨t.a0, t.a1, t.a2, t.a3, t.a4, t.a5, t.a6, ⟨⟨t.a7.a0.a0, t.a7.a0.a1, t.a7.a0.a2, t.a7.a0.a3, t.a7.a0.a4, t.a7.a0.a5, some v, t.a7.a0.a7⟩, t.a7.a1, t.a7.a2, t.a7.a3, t.a7.a4, t.a7.a5, t.a7.a6, t.a7.a7⟩⟩
def p455 : Opd := fun t => t.a7.a0.a7
def s455 : SetF := fun v t => ⟨t.a0, t.a1, t.a2, t.a3, t.a4, t.a5, t.a6, ⟨⟨t.a7.a0.a0, t.a7.a0.a1, t.a7.a0.a2, t.a7.a0.a3, t.a7.a0.a4, t.a7.a0.a5, t.a7.a0.a6, some v⟩, t.a7.a1, t.a7.a2, t.a7.a3, t.a7.a4, t.a7.a5, t.a7.a6, t.a7.a7⟩⟩
def p456 : Opd := fun t => t.a7.a1.a0
def s456 : SetF := fun v t => ⟨t.a0, t.a1, t.a2, t.a3, t.a4, t.a5, t.a6, ⟨t.a7.a0, ⟨some v, t.a7.a1.a1, t.a7.a1.a2, t.a7.a1.a3, t.a7.a1.a4, t.a7.a1.a5, t.a7.a1.a6, t.a7.a1.a7⟩, t.a7.a2, t.a7.a3, t.a7.a4, t.a7.a5, t.a7.a6, t.a7.a7⟩⟩
def p457 : Opd := fun t => t.a7.a1.a1
def s457 : SetF := fun v t => ⟨t.a0, t.a1, t.a2, t.a3, t.a4, t.a5, t.a6, ⟨t.a7.a0, ⟨t.a7.a1.a0, some v, t.a7.a1.a2, t.a7.a1.a3, t.a7.a1.a4, t.a7.a1.a5, t.a7.a1.a6, t.a7.a1.a7⟩, t.a7.a2, t.a7.a3, t.a7.a4, t.a7.a5, t.a7.a6, t.a7.a7⟩⟩
def p458 : Opd := fun t => t.a7.a1.a2
def s458 : SetF := fun v t => ⟨t.a0, t.a1, t.a2, t.a3, t.a4, t.a5, t.a6, ⟨t.a7.a0, ⟨t.a7.a1.a0, t.a7.a1.a1, some v, t.a7.a1.a3, t.a7.a1.a4, t.a7.a1.a5, t.a7.a1.a6, t.a7.a1.a7⟩, t.a7.a2, t.a7.a3, t.a7.a4, t.a7.a5, t.a7.a6, t.a7.a7⟩⟩
def p459 : Opd := fun t => t.a7.a1.a3
def s459 : SetF := fun v t => ⟨t.a0, t.a1, t.a2, t.a3, t.a4, t.a5, t.a6, ⟨t.a7.a0, ⟨t.a7.a1.a0, t.a7.a1.a1, t.a7.a1.a2, some v, t.a7.a1.a4, t.a7.a1.a5, t.a7.a1.a6, t.a7.a1.a7⟩, t.a7.a2, t.a7.a3, t.a7.a4, t.a7.a5, t.a7.a6, t.a7.a7⟩⟩
def p460 : Opd := fun t => t.a7.a1.a4
def s460 : SetF := fun v t => ⟨t.a0, t.a1, t.a2, t.a3, t.a4, t.a5, t.a6, ⟨t.a7.a0, ⟨t.a7.a1.a0, t.a7.a1.a1, t.a7.a1.a2, t.a7.a1.a3, some v, t.a7.a1.a5, t.a7.a1.a6, t.a7.a1.a7⟩, t.a7.a2, t.a7.a3, t.a7.a4, t.a7.a5, t.a7.a6, t.a7.a7⟩⟩
def p461 : Opd := fun t => t.a7.a1.a5
def s461 : SetF := fun v t => ⟨t.a0, t.a1, t.a2, t.a3, t.a4, t.a5, t.a6, ⟨t.a7.a0, ⟨t.a7.a1.a0, t.a7.a1.a1, t.a7.a1.a2, t.a7.a1.a3, t.a7.a1.a4, some v, t.a7.a1.a6, t.a7.a1.a7⟩, t.a7.a2, t.a7.a3, t.a7.a4, t.a7.a5, t.a7.a6, t.a7.a7⟩⟩
def p462 : Opd := fun t => t.a7.a1.a6
def s462 : SetF := fun v t => ⟨t.a0, t.a1, t.a2, t.a3, t.a4, t.a5, t.a6, ⟨t.a7.a0, ⟨t.a7.a1.a0, t.a7.a1.a1, t.a7.a1.a2, t.a7.a1.a3, t.a7.a1.a4, t.a7.a1.a5, some v, t.a7.a1.a7⟩, t.a7.a2, t.a7.a3, t.a7.a4, t.a7.a5, t.a7.a6, t.a7.a7⟩⟩
def p463 : Opd := fun t => t.a7.a1.a7
def s463 : SetF := fun v t => ⟨t.a0, t.a1, t.a2, t.a3, t.a4, t.a5, t.a6, ⟨t.a7.a0, ⟨t.a7.a1.a0, t.a7.a1.a1, t.a7.a1.a2, t.a7.a1.a3, t.a7.a1.a4, t.a7.a1.a5, t.a7.a1.a6, some v⟩, t.a7.a2, t.a7.a3, t.a7.a4, t.a7.a5, t.a7.a6, t.a7.a7⟩⟩
def p464 : Opd := fun t => t.a7.a2.a0
def s464 : SetF := fun v t => ⟨t.a0, t.a1, t.a2, t.a3, t.a4, t.a5, t.a6, ⟨t.a7.a0, t.a7.a1, ⟨some v, t.a7.a2.a1, t.a7.a2.a2, t.a7.a2.a3, t.a7.a2.a4, t.a7.a2.a5, t.a7.a2.a6, t.a7.a2.a7⟩, t.a7.a3, t.a7.a4, t.a7.a5, t.a7.a6, t.a7.a7⟩⟩
def p465 : Opd := fun t => t.a7.a2.a1
def s465 : SetF := fun v t => ⟨t.a0, t.a1, t.a2, t.a3, t.a4, t.a5, t.a6, ⟨t.a7.a0, t.a7.a1, ⟨t.a7.a2.a0, some v, t.a7.a2.a2, t.a7.a2.a3, t.a7.a2.a4, t.a7.a2.a5, t.a7.a2.a6, t.a7.a2.a7⟩, t.a7.a3, t.a7.a4, t.a7.a5, t.a7.a6, t.a7.a7⟩⟩
def p466 : Opd := fun t => t.a7.a2.a2
def s466 : SetF := fun v t => ⟨t.a0, t.a1, t.a2, t.a3, t.a4, t.a5, t.a6, ⟨t.a7.a0, t.a7.a1, ⟨t.a7.a2.a0, t.a7.a2.a1, some v, t.a7.a2.a3, t.a7.a2.a4, t.a7.a2.a5, t.a7.a2.a6, t.a7.a2.a7⟩, t.a7.a3, t.a7.a4, t.a7.a5, t.a7.a6, t.a7.a7⟩⟩
def p467 : Opd := fun t => t.a7.a2.a3
def s467 : SetF := fun v t => ⟨t.a0, t.a1, t.a2, t.a3, t.a4, t.a5, t.a6, ⟨t.a7.a0, t.a7.a1, ⟨t.a7.a2.a0, t.a7.a2.a1, t.a7.a2.a2, some v, t.a7.a2.a4, t.a7.a2.a5, t.a7.a2.a6, t.a7.a2.a7⟩, t.a7.a3, t.a7.a4, t.a7.a5, t.a7.a6, t.a7.a7⟩⟩
def p468 : Opd := fun t => t.a7.a2.a4
def s468 : SetF := fun v t => ⟨t.a0, t.a1, t.a2, t.a3, t.a4, t.a5, t.a6, ⟨t.a7.a0, t.a7.a1, ⟨t.a7.a2.a0, t.a7.a2.a1, t.a7.a2.a2, t.a7.a2.a3, some v, t.a7.a2.a5, t.a7.a2.a6, t.a7.a2.a7⟩, t.a7.a3, t.a7.a4, t.a7.a5, t.a7.a6, t.a7.a7⟩⟩
def p469 : Opd := fun t => t.a7.a2.a5
def s469 : SetF := fun v t => ⟨t.a0, t.a1, t.a2, t.a3, t.a4, t.a5, t.a6, ⟨t.a7.a0, t.a7.a1, ⟨t.a7.a2.a0, t.a7.a2.a1, t.a7.a2.a2, t.a7.a2.a3, t.a7.a2.a4, some v, t.a7.a2.a6, t.a7.a2.a7⟩, t.a7.a3, t.a7.a4, t.a7.a5, t.a7.a6, t.a7.a7⟩⟩
def p470 : Opd := fun t => t.a7.a2.a6
def s470 : SetF := fun v t => ⟨t.a0, t.a1, t.a2, t.a3, t.a4, t.a5, t.a6, ⟨t.a7.a0, t.a7.a1, ⟨t.a7.a2.a0, t.a7.a2.a1, t.a7.a2.a2, t.a7.a2.a3, t.a7.a2.a4, t.a7.a2.a5, some v, t.a7.a2.a7⟩, t.a7.a3, t.a7.a4, t.a7.a5, t.a7.a6, t.a7.a7⟩⟩
def p471 : Opd := fun t => t.a7.a2.a7
def s471 : SetF := fun v t => ⟨t.a0, t.a1, t.a2, t.a3, t.a4, t.a5, t.a6, ⟨t.a7.a0, t.a7.a1, ⟨t.a7.a2.a0, t.a7.a2.a1, t.a7.a2.a2, t.a7.a2.a3, t.a7.a2.a4, t.a7.a2.a5, t.a7.a2.a6, some v⟩, t.a7.a3, t.a7.a4, t.a7.a5, t.a7.a6, t.a7.a7⟩⟩
def p472 : Opd := fun t => t.a7.a3.a0
def s472 : SetF := fun v t => ⟨t.a0, t.a1, t.a2, t.a3, t.a4, t.a5, t.a6, ⟨t.a7.a0, t.a7.a1, t.a7.a2, ⟨some v, t.a7.a3.a1, t.a7.a3.a2, t.a7.a3.a3, t.a7.a3.a4, t.a7.a3.a5, t.a7.a3.a6, t.a7.a3.a7⟩, t.a7.a4, t.a7.a5, t.a7.a6, t.a7.a7⟩⟩
def p473 : Opd := fun t => t.a7.a3.a1
def s473 : SetF := fun v t => ⟨t.a0, t.a1, t.a2, t.a3, t.a4, t.a5, t.a6, ⟨t.a7.a0, t.a7.a1, t.a7.a2, ⟨t.a7.a3.a0, some v, t.a7.a3.a2, t.a7.a3.a3, t.a7.a3.a4, t.a7.a3.a5, t.a7.a3.a6, t.a7.a3.a7⟩, t.a7.a4, t.a7.a5, t.a7.a6, t.a7.a7⟩⟩
def p474 : Opd := fun t => t.a7.a3.a2
def s474 : SetF := fun v t => ⟨t.a0, t.a1, t.a2, t.a3, t.a4, t.a5, t.a6, ⟨t.a7.a0, t.a7.a1, t.a7.a2, ⟨t.a7.a3.a0, t.a7.a3.a1, some v, t.a7.a3.a3, t.a7.a3.a4, t.a7.a3.a5, t.a7.a3.a6, t.a7.a3.a7⟩, t.a7.a4, t.a7.a5, t.a7.a6, t.a7.a7⟩⟩
def p475 : Opd := fun t => t.a7.a3.a3
def s475 : SetF := fun v t => ⟨t.a0, t.a1, t.a2, t.a3, t.a4, t.a5, t.a6, ⟨t.a7.a0, t.a7.a1, t.a7.a2, ⟨t.a7.a3.a0, t.a7.a3.a1, t.a7.a3.a2, some v, t.a7.a3.a4, t.a7.a3.a5, t.a7.a3.a6, t.a7.a3.a7⟩, t.a7.a4, t.a7.a5, t.a7.a6, t.a7.a7⟩⟩
def p476 : Opd := fun t => t.a7.a3.a4
def s476 : SetF := fun v t => ⟨t.a0, t.a1, t.a2, t.a3, t.a4, t.a5, t.a6, ⟨t.a7.a0, t.a7.a1, t.a7.a2, ⟨t.a7.a3.a0, t.a7.a3.a1, t.a7.a3.a2, t.a7.a3.a3, some v, t.a7.a3.a5, t.a7.a3.a6, t.a7.a3.a7⟩, t.a7.a4, t.a7.a5, t.a7.a6, t.a7.a7⟩⟩
def p477 : Opd := fun t => t.a7.a3.a5
def s477 : SetF := fun v t => ⟨t.a0, t.a1, t.a2, t.a3, t.a4, t.a5, t.a6, ⟨t.a7.a0, t.a7.a1, t.a7.a2, ⟨t.a7.a3.a0, t.a7.a3.a1, t.a7.a3.a2, t.a7.a3.a3, t.a7.a3.a4, some v, t.a7.a3.a6, t.a7.a3.a7⟩, t.a7.a4, t.a7.a5, t.a7.a6, t.a7.a7⟩⟩
def p478 : Opd := fun t => t.a7.a3.a6
def s478 : SetF := fun v t => ⟨t.a0, t.a1, t.a2, t.a3, t.a4, t.a5, t.a6, ⟨t.a7.a0, t.a7.a1, t.a7.a2, ⟨t.a7.a3.a0, t.a7.a3.a1, t.a7.a3.a2, t.a7.a3.a3, t.a7.a3.a4, t.a7.a3.a5, some v, t.a7.a3.a7⟩, t.a7.a4, t.a7.a5, t.a7.a6, t.a7.a7⟩⟩
def p479 : Opd := fun t => t.a7.a3.a7
def s479 : SetF := fun v t => ⟨t.a0, t.a1, t.a2, t.a3, t.a4, t.a5, t.a6, ⟨t.a7.a0, t.a7.a1, t.a7.a2, ⟨t.a7.a3.a0, t.a7.a3.a1, t.a7.a3.a2, t.a7.a3.a3, t.a7.a3.a4, t.a7.a3.a5, t.a7.a3.a6, some v⟩, t.a7.a4, t.a7.a5, t.a7.a6, t.a7.a7⟩⟩
def p480 : Opd := fun t => t.a7.a4.a0
def s480 : SetF := fun v t => ⟨t.a0, t.a1, t.a2, t.a3, t.a4, t.a5, t.a6, ⟨t.a7.a0, t.a7.a1, t.a7.a2, t.a7.a3, ⟨some v, t.a7.a4.a1, t.a7.a4.a2, t.a7.a4.a3, t.a7.a4.a4, t.a7.a4.a5, t.a7.a4.a6, t.a7.a4.a7⟩, t.a7.a5, t.a7.a6, t.a7.a7⟩⟩
def p481 : Opd := fun t => t.a7.a4.a1
def s481 : SetF := fun v t => ⟨t.a0, t.a1, t.a2, t.a3, t.a4, t.a5, t.a6, ⟨t.a7.a0, t.a7.a1, t.a7.a2, t.a7.a3, ⟨t.a7.a4.a0, some v, t.a7.a4.a2, t.a7.a4.a3, t.a7.a4.a4, t.a7.a4.a5, t.a7.a4.a6, t.a7.a4.a7⟩, t.a7.a5, t.a7.a6, t.a7.a7⟩⟩
def p482 : Opd := fun t => t.a7.a4.a2
def s482 : SetF := fun v t => ⟨t.a0, t.a1, t.a2, t.a3, t.a4, t.a5, t.a6, ⟨t.a7.a0, t.a7.a1, t.a7.a2, t.a7.a3, ⟨t.a7.a4.a0, t.a7.a4.a1, some v, t.a7.a4.a3, t.a7.a4.a4, t.a7.a4.a5, t.a7.a4.a6, t.a7.a4.a7⟩, t.a7.a5, t.a7.a6, t.a7.a7⟩⟩
def p483 : Opd := fun t => t.a7.a4.a3
def s483 : SetF := fun v t => ⟨t.a0, t.a1, t.a2, t.a3, t.a4, t.a5, t.a6, ⟨t.a7.a0, t.a7.a1, t.a7.a2, t.a7.a3, ⟨t.a7.a4.a0, t.a7.a4.a1, t.a7.a4.a2, some v, t.a7.a4.a4, t.a7.a4.a5, t.a7.a4.a6, t.a7.a4.a7⟩, t.a7.a5, t.a7.a6, t.a7.a7⟩⟩
def p484 : Opd := fun t => t.a7.a4.a4
def s484 : SetF := fun v t => ⟨t.a0, t.a1, t.a2, t.a3, t.a4, t.a5, t.a6, ⟨t.a7.a0, t.a7.a1, t.a7.a2, t.a7.a3, ⟨t.a7.a4.a0, t.a7.a4.a1, t.a7.a4.a2, t.a7.a4.a3, some v, t.a7.a4.a5, t.a7.a4.a6, t.a7.a4.a7⟩, t.a7.a5, t.a7.a6, t.a7.a7⟩⟩
def p485 : Opd := fun t => t.a7.a4.a5
def s485 : SetF := fun v t => ⟨t.a0, t.a1, t.a2, t.a3, t.a4, t.a5, t.a6, ⟨t.a7.a0, t.a7.a1, t.a7.a2, t.a7.a3, ⟨t.a7.a4.a0, t.a7.a4.a1, t.a7.a4.a2, t.a7.a4.a3, t.a7.a4.a4, some v, t.a7.a4.a6, t.a7.a4.a7⟩, t.a7.a5, t.a7.a6, t.a7.a7⟩⟩
def p486 : Opd := fun t => t.a7.a4.a6
def s486 : SetF := fun v t => ⟨t.a0, t.a1, t.a2, t.a3, t.a4, t.a5, t.a6, ⟨t.a7.a0, t.a7.a1, t.a7.a2, t.a7.a3, ⟨t.a7.a4.a0, t.a7.a4.a1, t.a7.a4.a2, t.a7.a4.a3, t.a7.a4.a4, t.a7.a4.a5, some v, t.a7.a4.a7⟩, t.a7.a5, t.a7.a6, t.a7.a7⟩⟩
def p487 : Opd := fun t => t.a7.a4.a7
def s487 : SetF := fun v t => ⟨t.a0, t.a1, t.a2, t.a3, t.a4, t.a5, t.a6, ⟨t.a7.a0, t.a7.a1, t.a7.a2, t.a7.a3, ⟨t.a7.a4.a0, t.a7.a4.a1, t.a7.a4.a2, t.a7.a4.a3, t.a7.a4.a4, t.a7.a4.a5, t.a7.a4.a6, some v⟩, t.a7.a5, t.a7.a6, t.a7.a7⟩⟩
def p488 : Opd := fun t => t.a7.a5.a0
def s488 : SetF := fun v t => ⟨t.a0, t.a1, t.a2, t.a3, t.a4, t.a5, t.a6, ⟨t.a7.a0, t.a7.a1, t.a7.a2, t.a7.a3, t.a7.a4, ⟨some v, t.a7.a5.a1, t.a7.a5.a2, t.a7.a5.a3, t.a7.a5.a4, t.a7.a5.a5, t.a7.a5.a6, t.a7.a5.a7⟩, t.a7.a6, t.a7.a7⟩⟩
def p489 : Opd := fun t => t.a7.a5.a1
def s489 : SetF := fun v t => ⟨t.a0, t.a1, t.a2, t.a3, t.a4, t.a5, t.a6, ⟨t.a7.a0, t.a7.a1, t.a7.a2, t.a7.a3, t.a7.a4, ⟨t.a7.a5.a0, some v, t.a7.a5.a2, t.a7.a5.a3, t.a7.a5.a4, t.a7.a5.a5, t.a7.a5.a6, t.a7.a5.a7⟩, t.a7.a6, t.a7.a7⟩⟩
def p490 : Opd := fun t => t.a7.a5.a2
def s490 : SetF := fun v t => ⟨t.a0, t.a1, t.a2, t.a3, t.a4, t.a5, t.a6, ⟨t.a7.a0, t.a7.a1, t.a7.a2, t.a7.a3, t.a7.a4, ⟨t.a7.a5.a0, t.a7.a5.a1, some v, t.a7.a5.a3, t.a7.a5.a4, t.a7.a5.a5, t.a7.a5.a6, t.a7.a5.a7⟩, t.a7.a6, t.a7.a7⟩⟩
def p491 : Opd := fun t => t.a7.a5.a3
def s491 : SetF := fun v t => ⟨t.a0, t.a1, t.a2, t.a3, t.a4, t.a5, t.a6, ⟨t.a7.a0, t.a7.a1, t.a7.a2, t.a7.a3, t.a7.a4, ⟨t.a7.a5.a0, t.a7.a5.a1, t.a7.a5.a2, some v, t.a7.a5.a4, t.a7.a5.a5, t.a7.a5.a6, t.a7.a5.a7⟩, t.a7.a6, t.a7.a7⟩⟩
def p492 : Opd := fun t => t.a7.a5.a4
def s492 : SetF := fun v t => ⟨t.a0, t.a1, t.a2, t.a3, t.a4, t.a5, t.a6, ⟨t.a7.a0, t.a7.a1, t.a7.a2, t.a7.a3, t.a7.a4, ⟨t.a7.a5.a0, t.a7.a5.a1, t.a7.a5.a2, t.a7.a5.a3, some v, t.a7.a5.a5, t.a7.a5.a6, t.a7.a5.a7⟩, t.a7.a6, t.a7.a7⟩⟩
def p493 : Opd := fun t => t.a7.a5.a5
def s493 : SetF := fun v t => ⟨t.a0, t.a1, t.a2, t.a3, t.a4, t.a5, t.a6, ⟨t.a7.a0, t.a7.a1, t.a7.a2, t.a7.a3, t.a7.a4, ⟨t.a7.a5.a0, t.a7.a5.a1, t.a7.a5.a2, t.a7.a5.a3, t.a7.a5.a4, some v, t.a7.a5.a6, t.a7.a5.a7⟩, t.a7.a6, t.a7.a7⟩⟩
def p494 : Opd := fun t => t.a7.a5.a6
def s494 : SetF := fun v t => ⟨t.a0, t.a1, t.a2, t.a3, t.a4, t.a5, t.a6, ⟨t.a7.a0, t.a7.a1, t.a7.a2, t.a7.a3, t.a7.a4, ⟨t.a7.a5.a0, t.a7.a5.a1, t.a7.a5.a2, t.a7.a5.a3, t.a7.a5.a4, t.a7.a5.a5, some v, t.a7.a5.a7⟩, t.a7.a6, t.a7.a7⟩⟩
def p495 : Opd := fun t => t.a7.a5.a7
def s495 : SetF := fun v t => ⟨t.a0, t.a1, t.a2, t.a3, t.a4, t.a5, t.a6, ⟨t.a7.a0, t.a7.a1, t.a7.a2, t.a7.a3, t.a7.a4, ⟨t.a7.a5.a0, t.a7.a5.a1, t.a7.a5.a2, t.a7.a5.a3, t.a7.a5.a4, t.a7.a5.a5, t.a7.a5.a6, some v⟩, t.a7.a6, t.a7.a7⟩⟩
def p496 : Opd := fun t => t.a7.a6.a0
def s496 : SetF := fun v t => ⟨t.a0, t.a1, t.a2, t.a3, t.a4, t.a5, t.a6, ⟨t.a7.a0, t.a7.a1, t.a7.a2, t.a7.a3, t.a7.a4, t.a7.a5, ⟨some v, t.a7.a6.a1, t.a7.a6.a2, t.a7.a6.a3, t.a7.a6.a4, t.a7.a6.a5, t.a7.a6.a6, t.a7.a6.a7⟩, t.a7.a7⟩⟩
def p497 : Opd := fun t => t.a7.a6.a1
def s497 : SetF := fun v t => ⟨t.a0, t.a1, t.a2, t.a3, t.a4, t.a5, t.a6, ⟨t.a7.a0, t.a7.a1, t.a7.a2, t.a7.a3, t.a7.a4, t.a7.a5, ⟨t.a7.a6.a0, some v, t.a7.a6.a2, t.a7.a6.a3, t.a7.a6.a4, t.a7.a6.a5, t.a7.a6.a6, t.a7.a6.a7⟩, t.a7.a7⟩⟩
def p498 : Opd := fun t => t.a7.a6.a2
def s498 : SetF := fun v t => ⟨t.a0, t.a1, t.a2, t.a3, t.a4, t.a5, t.a6, ⟨t.a7.a0, t.a7.a1, t.a7.a2, t.a7.a3, t.a7.a4, t.a7.a5, ⟨t.a7.a6.a0, t.a7.a6.a1, some v, t.a7.a6.a3, t.a7.a6.a4, t.a7.a6.a5, t.a7.a6.a6, t.a7.a6.a7⟩, t.a7.a7⟩⟩
def p499 : Opd := fun t => t.a7.a6.a3
def s499 : SetF := fun v t => ⟨t.a0, t.a1, t.a2, t.a3, t.a4, t.a5, t.a6, ⟨t.a7.a0, t.a7.a1, t.a7.a2, t.a7.a3, t.a7.a4, t.a7.a5, ⟨t.a7.a6.a0, t.a7.a6.a1, t.a7.a6.a2, some v, t.a7.a6.a4, t.a7.a6.a5, t.a7.a6.a6, t.a7.a6.a7⟩, t.a7.a7⟩⟩
def p500 : Opd := fun t => t.a7.a6.a4
def s500 : SetF := fun v t => ⟨t.a0, t.a1, t.a2, t.a3, t.a4, t.a5, t.a6, ⟨t.a7.a0, t.a7.a1, t.a7.a2, t.a7.a3, t.a7.a4, t.a7.a5, ⟨t.a7.a6.a0, t.a7.a6.a1, t.a7.a6.a2, t.a7.a6.a3, some v, t.a7.a6.a5, t.a7.a6.a6, t.a7.a6.a7⟩, t.a7.a7⟩⟩
def p501 : Opd := fun t => t.a7.a6.a5
def s501 : SetF := fun v t => ⟨t.a0, t.a1, t.a2, t.a3, t.a4, t.a5, t.a6, ⟨t.a7.a0, t.a7.a1, t.a7.a2, t.a7.a3, t.a7.a4, t.a7.a5, ⟨t.a7.a6.a0, t.a7.a6.a1, t.a7.a6.a2, t.a7.a6.a3, t.a7.a6.a4, some v, t.a7.a6.a6, t.a7.a6.a7⟩, t.a7.a7⟩⟩
def p502 : Opd := fun t => t.a7.a6.a6
def s502 : SetF := fun v t => ⟨t.a0, t.a1, t.a2, t.a3, t.a4, t.a5, t.a6, ⟨t.a7.a0, t.a7.a1, t.a7.a2, t.a7.a3, t.a7.a4, t.a7.a5, ⟨t.a7.a6.a0, t.a7.a6.a1, t.a7.a6.a2, t.a7.a6.a3, t.a7.a6.a4, t.a7.a6.a5, some v, t.a7.a6.a7⟩, t.a7.a7⟩⟩
def p503 : Opd := fun t => t.a7.a6.a7
def s503 : SetF := fun v t => ⟨t.a0, t.a1, t.a2, t.a3, t.a4, t.a5, t.a6, ⟨t.a7.a0, t.a7.a1, t.a7.a2, t.a7.a3, t.a7.a4, t.a7.a5, ⟨t.a7.a6.a0, t.a7.a6.a1, t.a7.a6.a2, t.a7.a6.a3, t.a7.a6.a4, t.a7.a6.a5, t.a7.a6.a6, some v⟩, t.a7.a7⟩⟩
def p504 : Opd := fun t => t.a7.a7.a0
def s504 : SetF := fun v t => ⟨t.a0, t.a1, t.a2, t.a3, t.a4, t.a5, t.a6, ⟨t.a7.a0, t.a7.a1, t.a7.a2, t.a7.a3, t.a7.a4, t.a7.a5, t.a7.a6, ⟨some v, t.a7.a7.a1, t.a7.a7.a2, t.a7.a7.a3, t.a7.a7.a4, t.a7.a7.a5, t.a7.a7.a6, t.a7.a7.a7⟩⟩⟩
def p505 : Opd := fun t => t.a7.a7.a1
def s505 : SetF := fun v t => ⟨t.a0, t.a1, t.a2, t.a3, t.a4, t.a5, t.a6, ⟨t.a7.a0, t.a7.a1, t.a7.a2, t.a7.a3, t.a7.a4, t.a7.a5, t.a7.a6, ⟨t.a7.a7.a0, some v, t.a7.a7.a2, t.a7.a7.a3, t.a7.a7.a4, t.a7.a7.a5, t.a7.a7.a6, t.a7.a7.a7⟩⟩⟩
def p506 : Opd := fun t => t.a7.a7.a2
def s506 : SetF := fun v t => ⟨t.a0, t.a1, t.a2, t.a3, t.a4, t.a5, t.a6, ⟨t.a7.a0, t.a7.a1, t.a7.a2, t.a7.a3, t.a7.a4, t.a7.a5, t.a7.a6, ⟨t.a7.a7.a0, t.a7.a7.a1, some v, t.a7.a7.a3, t.a7.a7.a4, t.a7.a7.a5, t.a7.a7.a6, t.a7.a7.a7⟩⟩⟩
def p507 : Opd := fun t => t.a7.a7.a3
def s507 : SetF := fun v t => ⟨t.a0, t.a1, t.a2, t.a3, t.a4, t.a5, t.a6, ⟨t.a7.a0, t.a7.a1, t.a7.a2, t.a7.a3, t.a7.a4, t.a7.a5, t.a7.a6, ⟨t.a7.a7.a0, t.a7.a7.a1, t.a7.a7.a2, some v, t.a7.a7.a4, t.a7.a7.a5, t.a7.a7.a6, t.a7.a7.a7⟩⟩⟩
def p508 : Opd := fun t => t.a7.a7.a4
def s508 : SetF := fun v t => ⟨t.a0, t.a1, t.a2, t.a3, t.a4, t.a5, t.a6, ⟨t.a7.a0, t.a7.a1, t.a7.a2, t.a7.a3, t.a7.a4, t.a7.a5, t.a7.a6, ⟨t.a7.a7.a0, t.a7.a7.a1, t.a7.a7.a2, t.a7.a7.a3, some v, t.a7.a7.a5, t.a7.a7.a6, t.a7.a7.a7⟩⟩⟩
def p509 : Opd := fun t => t.a7.a7.a5
def s509 : SetF := fun v t => ⟨t.a0, t.a1, t.a2, t.a3, t.a4, t.a5, t.a6, ⟨t.a7.a0, t.a7.a1, t.a7.a2, t.a7.a3, t.a7.a4, t.a7.a5, t.a7.a6, ⟨t.a7.a7.a0, t.a7.a7.a1, t.a7.a7.a2, t.a7.a7.a3, t.a7.a7.a4, some v, t.a7.a7.a6, t.a7.a7.a7⟩⟩⟩
def p510 : Opd := fun t => t.a7.a7.a6
def s510 : SetF := fun v t => ⟨t.a0, t.a1, t.a2, t.a3, t.a4, t.a5, t.a6, ⟨t.a7.a0, t.a7.a1, t.a7.a2, t.a7.a3, t.a7.a4, t.a7.a5, t.a7.a6, ⟨t.a7.a7.a0, t.a7.a7.a1, t.a7.a7.a2, t.a7.a7.a3, t.a7.a7.a4, t.a7.a7.a5, some v, t.a7.a7.a7⟩⟩⟩
def p511 : Opd := fun t => t.a7.a7.a7
def s511 : SetF := fun v t => ⟨t.a0, t.a1, t.a2, t.a3, t.a4, t.a5, t.a6, ⟨t.a7.a0, t.a7.a1, t.a7.a2, t.a7.a3, t.a7.a4, t.a7.a5, t.a7.a6, ⟨t.a7.a7.a0, t.a7.a7.a1, t.a7.a7.a2, t.a7.a7.a3, t.a7.a7.a4, t.a7.a7.a5, t.a7.a7.a6, some v⟩⟩⟩
end Go.Ab
