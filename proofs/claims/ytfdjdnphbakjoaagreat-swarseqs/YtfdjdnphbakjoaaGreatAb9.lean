import Derived.Test.YtfdjdnphbakjoaaGreatAb8
namespace Go.Ab
variable [Io]
section
variable {P : Program} {o : Oper}

omit [Io] in
theorem run_append_zero (w : World) (t ty e : TypeId) (i : TypeInfo) (ht : P.underlying t = some (.slice e)) (hi : P.info? e = some i) (b x : Option Addr) (sLen sCap c : Nat) (h : sLen ≤ sCap) :
    (Builtin.append_ #[t, t] ty #[.slice b sLen sCap, .slice x 0 c]).run P w = .ok (.slice b sLen sCap) w := by
  cases b <;> cases x <;>
    simp [Builtin.append_, run_underlying ht, sizeOf, typeInfo, hi, Builtin.lenOf, Builtin.firstCells, loadCells, loadCellsFrom, h, storeCells]

omit [Io] in
theorem run_append_at (w : World) (t ty e : TypeId) (i : TypeInfo) (ht : P.underlying t = some (.slice e)) (hi : P.info? e = some i)
    (g at_ sLen sCap : Nat) (cur : Array Value) (el : TypeId) (hg : w.heap[g]? = some (.cells cur el (0, 0)))
    (a : Addr) (m c : Nat) (news : List Value) (hl : news.length = m * i.size) (hnews : ∀ j u, news[j]? = some u → w.cell? (a.add j) = some u) (h1 : ∀ u ∈ news, u.oneCell' = true)
    (hroom : sLen + m ≤ sCap) (hfit : at_ + sLen * i.size + news.length ≤ cur.size) :
    (Builtin.append_ #[t, t] ty #[.slice (some ⟨g, at_, none⟩) sLen sCap, .slice (some a) m c]).run P w =
      .ok (.slice (some ⟨g, at_, none⟩) (sLen + m) sCap) (w.setRow g (cur.toList.take (at_ + sLen * i.size) ++ news ++ cur.toList.drop (at_ + sLen * i.size + news.length)).toArray) := by
  have hf := run_firstCells_some (P := P) w i.size m a m c news hl hnews
  have hst := run_storeCells_at P g (at_ + sLen * i.size) el news 0 cur w hg (by simpa using hfit) h1
  simp only [Nat.add_zero] at hst
  simp [Builtin.append_, run_underlying ht, sizeOf, typeInfo, hi, Builtin.lenOf, hroom, hf, add_none, hst]

/-- What is appended, or copied: so many elements, and their cells. -/
theorem sliceCells_some {g w h} (H : HR g w h) {x : AV} {v : Value} (hv : VR g w x v) {n : Nat} {cs : List AV} (e : sliceCells h x = some (n, cs)) :
    ∃ a c, v = .slice a n c ∧ n ≤ c ∧ (cs = [] ∨ ∃ b s vs, a = some ⟨b, s, none⟩ ∧ VRs g w cs vs ∧ CellsAt w b s vs) := by
  unfold sliceCells at e
  split at e
  · cases e
    simp only [VR] at hv
    obtain ⟨a, rfl⟩ := hv
    exact ⟨a, 0, rfl, Nat.le_refl _, .inl rfl⟩
  · cases e
    simp only [VR] at hv
    obtain ⟨a, c, rfl, hc, hr⟩ := hv
    refine ⟨a, c, rfl, hc, ?_⟩
    rcases hr with ⟨_, rfl⟩ | ⟨b, s, vs, rfl, _, hcs, hvs⟩
    · exact .inl rfl
    · exact .inr ⟨b, s, vs, rfl, hvs, hcs⟩
  · rename_i id off n' sz
    split at e
    · rename_i cs' hg
      split at e
      · rename_i l hs
        cases e
        obtain ⟨rfl, hl⟩ := segment_some hs
        simp only [VR] at hv
        rcases hv with ⟨rfl, a, rfl⟩ | ⟨b, s, cap, hm, rfl, hc, _⟩
        · refine ⟨a, 0, rfl, Nat.le_refl _, .inl ?_⟩
          have : (List.take (Nat.mul 0 sz) (List.drop off cs')) = [] := by
            rw [show Nat.mul 0 sz = 0 from Nat.zero_mul _]; rfl
          exact this
        · obtain ⟨C, el, vs, hw, _, hvs, hcc⟩ := H.row hg hm
          exact ⟨_, cap, rfl, hc, .inr ⟨b, s + off, _, rfl, (hvs.drop off).take _, ((cellsAt_row hw hcc).drop off).take _⟩⟩
      · cases e
    · cases e
  · cases e

omit [Io] in
theorem addr_cells {w : World} {b s : Nat} {vs : List Value} (h : CellsAt w b s vs) : ∀ j u, vs[j]? = some u → w.cell? ((⟨b, s, none⟩ : Addr).add j) = some u := by
  intro j u e
  rw [add_none]
  exact h j u e

noncomputable def cAppend (P : Program) (T : TypeId) (s x : Operand) : OpF :=
  match P.underlying T with
  | some (.slice e) => match P.info? e with
    | some ie => match zeroOf P e with
      | some z => ifb (Nat.beq (len z) ie.size && (Nat.blt 0 ie.size && Nat.blt 0 ie.bytes)) (kAppend ie.size ie.bytes (cOpd s) (cOpd x)) kBad
      | none => kBad
    | none => kBad
  | _ => kBad

theorem run_kAppend {T : TypeId} {s x : Operand} (ho : o.op = .call { callee := .builtin .append, args := #[s, x], argTypes := #[T, T] }) : OpRun P o (cAppend P T s x) := by
  intro g w nt t h a v h' H Tr e
  unfold cAppend at e
  cases hu : P.underlying T with
  | none => rw [hu] at e; cases e
  | some d =>
  rw [hu] at e
  cases d <;> try (cases e; done)
  rename_i el
  simp only at e
  cases hie : P.info? el with
  | none => rw [hie] at e; cases e
  | some ie =>
  rw [hie] at e
  cases hz : zeroOf P el with
  | none => simp only [hz] at e; cases e
  | some z =>
  simp only [hz] at e
  cases hb : (Nat.beq (len z) ie.size && (Nat.blt 0 ie.size && Nat.blt 0 ie.bytes)) with
  | false => rw [hb] at e; cases e
  | true =>
  rw [hb] at e
  simp only [Bool.and_eq_true, len_eq] at hb
  have hzl := Nat.eq_of_beq_eq_true hb.1
  have h0 : 0 < ie.size := blt_iff.1 hb.2.1
  obtain ⟨i, zv, hi, hzv, hzr⟩ := zeroOf_some hz
  obtain rfl : ie = i := by rw [hie] at hi; exact Option.some.inj hi
  have hzvl : zv.cells.size = ie.size := by
    have := (hzr g w).length
    simp only [Array.length_toList] at this
    omega
  change kAppend ie.size ie.bytes (cOpd s) (cOpd x) t h = .ok v h' at e
  have hex : ∀ vs vx r w', a.eval s = vs → a.eval x = vx → (Builtin.append_ #[T, T] o.type #[vs, vx]).run P w = .ok r w' → (execOp a.eval o).run P w = .ok (.value r) w' := by
    intro vs vx r w' h1 h2 h3
    unfold execOp
    simp only [ho, resolve, invoke, builtin, Sem.run_bind, Sem.run_pure, Result.andThen_ok, List.map_toArray, List.map_cons, List.map_nil, h1, h2, h3]
  unfold kAppend at e
  split at e
  · rename_i sv hs
    split at e
    · rename_i xv hx
      have hvs := cOpd_ok s _ _ _ _ _ _ Tr hs
      have hvx := cOpd_ok x _ _ _ _ _ _ Tr hx
      split at e
      · cases e
      · rename_i n new hsc
        obtain ⟨xa, xc, hxe, hxc, hnew⟩ := sliceCells_some H hvx hsc
        -- a slice that is nil or empty: a new row
        have fresh : ∀ (b : Option Addr) (h2 : Hp), a.eval s = .slice b 0 0 → n ≠ 0 → n * ie.bytes ≤ 70368744177664 → allB cell1 new = true → new.length = n * ie.size → n ≤ 70368744177664 →
            HR g w h2 → Ext g w h g w h2 →
            ∃ g' w' nx x, (execOp a.eval o).run P w = .ok nx w' ∧ (nx = .value x ∨ (nx = .skip ∧ x = undef)) ∧ Ext g w h g' w' (newO h2 new) ∧ HR g' w' (newO h2 new) ∧ VR g' w' (.hsl h2.next 0 n ie.size) x := by
          intro b h2 hse hn hby hones hlen hn46 H2 E2
          rcases hnew with rfl | ⟨xb, xs, us, rfl, hus, hcs⟩
          · have : n * ie.size ≠ 0 := Nat.mul_ne_zero hn (by omega)
            simp at hlen; omega
          · have hul := hus.length
            have hul2 : us.length = n * ie.size := by omega
            obtain ⟨E3, H3⟩ := drew_ext H2
            have hC : ∀ cap, n ≤ cap → n * ie.size + (cap - n) * ie.size = cap * ie.size := by intro cap hc; rw [← Nat.add_mul]; congr 1; omega
            cases b with
            | none =>
              have hr := run_append_nil (P := P) w T o.type el ie zv hu hie hzv ⟨xb, xs, none⟩ n xc us hul2 (addr_cells hcs) (by omega) (by omega) (by omega)
              have hge := grownCap_ge w n 0 el
              obtain ⟨E4, H4⟩ := new_ext H3 (C := us.toArray ++ Builtin.zeroCells zv.cells (grownCap w n 0 el - n)) el (VRs.mono H2 E3 _ _ hus) (fun j v e => by
                rw [Array.getElem?_append_left (by have := (List.getElem?_eq_some_iff.1 e).1; simpa using this)]; simpa using e)
              refine ⟨_, _, _, _, hex _ _ _ _ hse hxe hr, .inl rfl, E2.trans (E3.trans E4), H4, new_hsl hge ?_⟩
              rw [Array.size_append, size_zeroCells, hzvl, List.size_toArray, hul2, hC _ hge]
              exact Nat.le_refl _
            | some b =>
              have hr := run_append_grow (P := P) w T o.type el ie zv hu hie hzv b 0 0 [] (by simp) (by simp) ⟨xb, xs, none⟩ n xc us hul2 (addr_cells hcs) (by omega) (by omega)
                (growslice_fits (by omega) (by rw [Nat.zero_add]; omega))
              simp only [Nat.zero_add] at hr
              have hge := grownCap_ge w n 0 el
              obtain ⟨E4, H4⟩ := new_ext H3 (C := #[] ++ us.toArray ++ Builtin.zeroCells zv.cells (grownCap w n 0 el - n)) el (VRs.mono H2 E3 _ _ hus) (fun j v e => by
                rw [Array.getElem?_append_left (by have := (List.getElem?_eq_some_iff.1 e).1; simpa using this)]; simpa using e)
              refine ⟨_, _, _, _, hex _ _ _ _ hse hxe hr, .inl rfl, E2.trans (E3.trans E4), H4, new_hsl hge ?_⟩
              rw [Array.size_append, size_zeroCells, hzvl, Array.empty_append, List.size_toArray, hul2, hC _ hge]
              exact Nat.le_refl _
        split at e
        · -- esl
          simp only [VR] at hvs
          obtain ⟨b, hse⟩ := hvs
          cases hn : Nat.beq n 0 with
          | true =>
            rw [hn] at e
            cases e
            obtain rfl := Nat.eq_of_beq_eq_true hn
            exact ⟨g, w, _, _, hex _ _ _ _ hse hxe (run_append_zero w T o.type el ie hu hie b xa 0 0 xc (Nat.le_refl _)), .inl rfl, Ext.refl _ _ _, H, by simp only [VR]; exact ⟨_, rfl⟩⟩
          | false =>
            rw [hn] at e
            have hn0 : n ≠ 0 := fun k => by subst k; cases hn
            cases hc : (Nat.ble (Nat.mul n ie.bytes) 70368744177664 && (allB cell1 new && (Nat.beq (len new) (Nat.mul n ie.size) && Nat.ble n 70368744177664))) with
            | false => simp only [hc] at e; cases e
            | true =>
              simp only [hc] at e
              cases e
              simp only [Bool.and_eq_true, len_eq] at hc
              exact fresh b h hse hn0 (Nat.ble_eq.mp hc.1) hc.2.1 (Nat.eq_of_beq_eq_true hc.2.2.1) (Nat.ble_eq.mp hc.2.2.2) H (Ext.refl _ _ _)
        · -- hsl
          rename_i id off ln sz
          cases hn : Nat.beq n 0 with
          | true =>
            rw [hn] at e
            cases e
            obtain rfl := Nat.eq_of_beq_eq_true hn
            have hvs' := hvs
            simp only [VR] at hvs
            rcases hvs with ⟨rfl, b, hse⟩ | ⟨b, s', cap, hm, hse, hcap, _⟩
            · rw [hse] at hvs'
              exact ⟨g, w, _, _, hex _ _ _ _ hse hxe (run_append_zero w T o.type el ie hu hie b xa 0 0 xc (Nat.le_refl _)), .inl rfl, Ext.refl _ _ _, H, hvs'⟩
            · rw [hse] at hvs'
              exact ⟨g, w, _, _, hex _ _ _ _ hse hxe (run_append_zero w T o.type el ie hu hie _ xa ln cap xc hcap), .inl rfl, Ext.refl _ _ _, H, hvs'⟩
          | false =>
            rw [hn] at e
            have hn0 : n ≠ 0 := fun k => by subst k; cases hn
            simp only [cond_false] at e
            split at e
            · cases e
            · rename_i cs hg
              split at e
              · cases e
              · rename_i pre hpre
                cases hc : (Nat.ble (Nat.mul (Nat.add ln n) ie.bytes) 70368744177664 && (Nat.beq sz ie.size && (allB cell1 new && (Nat.beq (len new) (Nat.mul n ie.size) && Nat.ble (Nat.add ln n) 70368744177664)))) with
                | false => rw [hc] at e; cases e
                | true =>
                  rw [hc] at e
                  cases e
                  simp only [Bool.and_eq_true, len_eq] at hc
                  have hby : (ln + n) * ie.bytes ≤ 70368744177664 := Nat.ble_eq.mp hc.1
                  obtain rfl : sz = ie.size := Nat.eq_of_beq_eq_true hc.2.1
                  have hones := hc.2.2.1
                  have hlen : new.length = n * ie.size := Nat.eq_of_beq_eq_true hc.2.2.2.1
                  have h46 : ln + n ≤ 70368744177664 := Nat.ble_eq.mp hc.2.2.2.2
                  obtain ⟨rfl, hpl⟩ := segment_some hpre
                  have hpl' : (List.take (ln * ie.size) (List.drop off cs)).length = ln * ie.size := hpl
                  obtain ⟨E2, H2⟩ := kill_ext H id
                  simp only [VR] at hvs
                  rcases hvs with ⟨rfl, b, hse⟩ | ⟨b, s', cap, hm, hse, hcap, hrow⟩
                  · have := fresh b (setO h id none) hse hn0 (by simpa using hby) hones hlen (by simpa using h46) H2 E2
                    rw [app_eq, show (List.take (Nat.mul 0 ie.size) (List.drop off cs)) = [] from by rw [show Nat.mul 0 ie.size = 0 from Nat.zero_mul _]; rfl, List.nil_append,
                      show Nat.add 0 n = n from Nat.zero_add n]
                    exact this
                  · rcases hnew with rfl | ⟨xb, xs, us, rfl, hus, hcs⟩
                    · have : n * ie.size ≠ 0 := Nat.mul_ne_zero hn0 (by omega)
                      simp at hlen; omega
                    · have hul := hus.length
                      have hul2 : us.length = n * ie.size := by omega
                      obtain ⟨C, el', vs, hw, _, hvs, hcc⟩ := H.row hg hm
                      rw [rowSize_row hw] at hrow
                      have hpv : VRs g w (List.take (ln * ie.size) (List.drop off cs)) ((vs.drop off).take (ln * ie.size)) := (hvs.drop off).take _
                      have hpvl : ((vs.drop off).take (ln * ie.size)).length = ln * ie.size := by rw [hpv.length, hpl']
                      have hpc : CellsAt w b (s' + off) ((vs.drop off).take (ln * ie.size)) := ((cellsAt_row hw hcc).drop off).take _
                      have hboth := hpv.append hus
                      by_cases hroom : ln + n ≤ cap
                      · have hm1 : ln * ie.size + n * ie.size ≤ cap * ie.size := by rw [← Nat.add_mul]; exact Nat.mul_le_mul_right _ hroom
                        have hfit : s' + off + ln * ie.size + us.length ≤ C.size := by omega
                        have hr := run_append_at (P := P) w T o.type el ie hu hie b (s' + off) ln cap C el' hw ⟨xb, xs, none⟩ n xc us hul2 (addr_cells hcs) (VRs.ones hus hones) hroom hfit
                        obtain ⟨E3, H3⟩ := write_ext H (C' := (C.toList.take (s' + off + ln * ie.size) ++ us ++ C.toList.drop (s' + off + ln * ie.size + us.length)).toArray) (s' := s' + off)
                          hg hm hw (by simp; omega) hboth (fun j v e => by
                            have hC1 : (C.toList.take (s' + off + ln * ie.size)).length = s' + off + ln * ie.size := by simp; omega
                            rw [List.getElem?_toArray, List.append_assoc]
                            by_cases hj : j < ln * ie.size
                            · rw [List.getElem?_append_left (by omega)] at e
                              have := hpc j v e
                              rw [List.getElem?_append_left (by omega), List.getElem?_take_of_lt (by omega)]
                              simp only [World.cell?, hw] at this
                              simpa using this
                            · rw [List.getElem?_append_right (by omega), hpvl] at e
                              have hj2 := (List.getElem?_eq_some_iff.1 e).1
                              rw [List.getElem?_append_right (by omega), hC1, show s' + off + j - (s' + off + ln * ie.size) = j - ln * ie.size by omega, List.getElem?_append_left hj2]
                              exact e)
                        refine ⟨_, _, _, _, hex _ _ _ _ hse hxe hr, .inl rfl, by rw [app_eq]; exact E3, by rw [app_eq]; exact H3, ?_⟩
                        simp only [VR]
                        refine .inr ⟨b, s' + off, cap, by simp, rfl, hroom, ?_⟩
                        have hget := setRow_get (C' := (C.toList.take (s' + off + ln * ie.size) ++ us ++ C.toList.drop (s' + off + ln * ie.size + us.length)).toArray) hw b
                        rw [if_pos rfl] at hget
                        rw [rowSize_row hget]
                        simp
                        omega
                      · have hr := run_append_grow (P := P) w T o.type el ie zv hu hie hzv ⟨b, s' + off, none⟩ ln cap ((vs.drop off).take (ln * ie.size)) hpvl (addr_cells hpc)
                          ⟨xb, xs, none⟩ n xc us hul2 (addr_cells hcs) (by omega) (by omega) (growslice_fits (by omega) (by omega))
                        have hge := grownCap_ge w (ln + n) cap el
                        obtain ⟨E3, H3⟩ := drew_ext H2
                        obtain ⟨E4, H4⟩ := new_ext H3 (C := ((vs.drop off).take (ln * ie.size)).toArray ++ us.toArray ++ Builtin.zeroCells zv.cells (grownCap w (ln + n) cap el - (ln + n))) el
                          (VRs.mono H2 E3 _ _ (VRs.mono H E2 _ _ hboth)) (fun j v e => by
                            rw [Array.getElem?_append_left (by have := (List.getElem?_eq_some_iff.1 e).1; simp at this ⊢; omega)]
                            simpa using e)
                        refine ⟨_, _, _, _, hex _ _ _ _ hse hxe hr, .inl rfl, by rw [app_eq]; exact E2.trans (E3.trans E4), by rw [app_eq]; exact H4, new_hsl hge ?_⟩
                        have hC : (ln + n) * ie.size + (grownCap w (ln + n) cap el - (ln + n)) * ie.size = grownCap w (ln + n) cap el * ie.size := by rw [← Nat.add_mul]; congr 1; omega
                        rw [Array.size_append, size_zeroCells, hzvl, Array.size_append, List.size_toArray, List.size_toArray, hpvl, hul2, ← Nat.add_mul, hC]
                        exact Nat.le_refl _
        · -- isl
          rename_i ln cs
          cases hn : Nat.beq n 0 with
          | true =>
            rw [hn] at e
            cases e
            obtain rfl := Nat.eq_of_beq_eq_true hn
            have hvs' := hvs
            simp only [VR] at hvs
            obtain ⟨b, cap, hse, hcap, _⟩ := hvs
            rw [hse] at hvs'
            exact ⟨g, w, _, _, hex _ _ _ _ hse hxe (run_append_zero w T o.type el ie hu hie _ xa ln cap xc hcap), .inl rfl, Ext.refl _ _ _, H, hvs'⟩
          | false => rw [hn] at e; cases e
        · cases e
    · cases e
  · cases e
end
end Go.Ab
