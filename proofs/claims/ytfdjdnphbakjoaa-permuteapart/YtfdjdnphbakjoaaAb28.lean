import Derived.Test.YtfdjdnphbakjoaaAb27
namespace Go.Ab

mutual
def noSym : AV → Bool
  | .sym _ _ _ _ _ => false
  | .agg l => noSyms l
  | .tup l => noSyms l
  | .isl _ l => noSyms l
  | .iptr l => noSyms l
  | .fn _ l => noSyms l
  | .ref _ _ => false
  | .hsl _ _ _ _ => false
  | _ => true
def noSyms : List AV → Bool
  | [] => true
  | a :: l => noSym a && noSyms l
end

mutual
theorem VR.io (I J : Io) {g : @G} {w : World} : ∀ (a : AV) (v : Value), noSym a = true → @VR I g w a v → @VR J g w a v
  | .int _ _, v, n, r => by simpa only [VR] using r
  | .bool _, v, n, r => by simpa only [VR] using r
  | .sc _, v, n, r => by simpa only [VR] using r
  | .esl, v, n, r => by simpa only [VR] using r
  | .any, v, n, r => by simpa only [VR] using r
  | .sym _ _ _ _ _, v, n, r => by cases n
  | .ref _ _, v, n, r => by cases n
  | .hsl _ _ _ _, v, n, r => by cases n
  | .agg cs, v, n, r => by
    simp only [VR] at r ⊢
    obtain ⟨vs, e, q⟩ := r
    exact ⟨vs, e, VRs.io I J cs _ n q⟩
  | .tup cs, v, n, r => by
    simp only [VR] at r ⊢
    obtain ⟨vs, e, q⟩ := r
    exact ⟨vs, e, VRs.io I J cs _ n q⟩
  | .fn f cs, v, n, r => by
    simp only [VR] at r ⊢
    obtain ⟨vs, e, q⟩ := r
    exact ⟨vs, e, VRs.io I J cs _ n q⟩
  | .isl m cs, v, n, r => by
    simp only [VR] at r ⊢
    obtain ⟨a, cap, e, l, r⟩ := r
    refine ⟨a, cap, e, l, ?_⟩
    rcases r with r | ⟨b, o, vs, e, i, c, q⟩
    · exact .inl r
    · exact .inr ⟨b, o, vs, e, i, c, VRs.io I J cs _ n q⟩
  | .iptr cs, v, n, r => by
    simp only [VR] at r ⊢
    obtain ⟨b, o, vs, e, i, c, q⟩ := r
    exact ⟨b, o, vs, e, i, c, VRs.io I J cs _ n q⟩
theorem VRs.io (I J : Io) {g : @G} {w : World} : ∀ (l : List AV) (vs : List Value), noSyms l = true → @VRs I g w l vs → @VRs J g w l vs
  | [], vs, n, r => by simpa only [VRs] using r
  | a :: l, vs, n, r => by
    simp only [noSyms, Bool.and_eq_true] at n
    simp only [VRs] at r ⊢
    obtain ⟨v, l', e, q, r⟩ := r
    exact ⟨v, l', e, VR.io I J a v n.1 q, VRs.io I J l l' n.2 r⟩
end

end Go.Ab
