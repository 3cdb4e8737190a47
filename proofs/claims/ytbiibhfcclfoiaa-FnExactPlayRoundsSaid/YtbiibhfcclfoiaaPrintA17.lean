-- written by this session's own driver (wip/gen.py) with the kit's print and contracts of our own
import Derived.Test.YtbiibhfcclfoiaaPrintA0
import Derived.Test.YtbiibhfcclfoiaaPrintA10
import Derived.Test.YtbiibhfcclfoiaaPrintA12
import Derived.Test.YtbiibhfcclfoiaaPrintA16
namespace Go.Proofs.Ytbiibhfcclfoiaa.PrintA
open Go.RowKit Go.Proofs.YtbiibhfcclfoiaaLib Go.Proofs.YtbiibhfcclfoiaaW.PrintWords Go.Proofs.YtbiibhfcclfoiaaW.PrintLast Go.Proofs.YtbiibhfcclfoiaaW.PrintMore
attribute [local go_sem] max2_int min2_int max_two min_two max_three min_three max_four min_four   -- for this text's walks alone
set_option linter.unusedVariables false
set_option linter.unusedSimpArgs false

/-! ### impl_roundReaches_play: function 30, a contract of our own -/
theorem IsRR.grownR {w w1 : World} {g h : Nat} {u : Value} {base : Nat} {ok : Nat → Prop} {xs : List (List Int)} (x : IsRR w g h) (ho : (Kd.slice 3 (Kd.int .i64)).R 25 w base ok u xs) (hg : w.grownBy w1 u.ownBlock) : IsRR w1 g h :=
  ⟨blk_grown x.out hg (fun he => by
    obtain ⟨c, hc⟩ := Kd.R_typed ho g he.symm
    rw [x.out] at hc
    injection hc with hc
    injection hc with _ h3
    exact absurd h3 (by decide))⟩
set_option maxHeartbeats 8000000 in
set_option maxRecDepth 100000 in
theorem playRR_callsS (g h e0 : Nat) (n0 b : Int) (w : World) (hI : IsRR w g h) (hp : PlayAt h b 1000 e0 0 n0) :
    Calls Try.prog 30 #[.pointer (some ⟨g, 0, none⟩), .int .i64 e0, .int .i64 n0, .int .i64 b] w fun e' w' => ∃ v, e' = .returned v ∧ Kd.S (Kd.slice 3 (Kd.int .i64)) 25 w' w.heap.size (fun _ => True) v (playR h b 1000 e0 0 n0) ∧ Below w.heap.size w w' := by
  have HB := Aside0.mk (Below.refl w.heap.size w)
  have HI := Aside0.mk hI
  have HP := Aside0.mk hp
  generalize hres : playR h b 1000 e0 0 n0 = res
  have HRES := Aside0.mk hres
  have hb1 : b ≤ 1000 := by have := hp.bh; have := hp.hi; omega
  have hb0 : 0 ≤ b := by have := hp.lb; omega
  clear hI hp hres
  go_enter Try.func30, Try.ntmps30
  go_wp2_with ((with_reducible refine gate_dst (N := 14) rfl ?_); refine Kd.S_lit (Kd.slice 3 (Kd.int .i64)) _ 25 ?hg (N := 14) ?hd (xs := ([] : List (List Int))) (inner := []) (ok := fun _ => True) (okp := fun _ => True) ?hr ?hp (fun _ hk => hk) trivial (Below.refl _ _) (Nat.le_refl _) (by simp) ?_; (case hd => rfl); (case hg => rfl); (case hr => first | (go_simp; done) | (go_simp; rfl)); (case hp => exact (Reps.none _ _)); intro vl_ wl_ ho4 hb hg_ hnew_; clear hg_ hnew_; have HI := Aside0.mk (IsRR.below HI.out hb); have n0_ := Aside0.mk (Kd.S_lower ho4 (below_size (by repeat (first | (with_reducible first | exact HB.out | apply below_alloc | apply pw_below_drewN | apply below_drew1) | exact HB.out)))); have n1_ := Aside0.mk (below_step (by repeat (first | (with_reducible first | exact HB.out | apply below_alloc | apply pw_below_drewN | apply below_drew1) | exact HB.out)) hb); clear HB; have HO := n0_; have HB := n1_; clear n0_ n1_; clear hb ho4)
  go_loopg [1, 9, 10, 11, 12, 13] 1000 (fun gg v1 v9 v10 v11 _ _ wr => ∃ (k e : Nat) (low high : Int) (out : List (List Int)), v1 = .int .i64 e ∧ v10 = .int .i64 low ∧ v11 = .int .i64 high ∧ k ≤ gg ∧ Aside0 (out.length + k ≤ 1000) ∧ Aside0 (PlayAt h b k e low high) ∧ Aside0 (out ++ playR h b k e low high = res) ∧ Aside0 (IsRR wr g h) ∧ Aside0 (Kd.S (Kd.slice 3 (Kd.int .i64)) 25 wr w.heap.size (fun _ => True) v9 out) ∧ Aside0 (Below w.heap.size w wr))
  case atStart => exact ⟨1000, e0, 0, n0, [], rfl, rfl, rfl, Nat.le_refl _, ⟨by simp⟩, HP, HRES, HI, HO, HB⟩
  case round =>
    clear HO HI HB HRES HP
    obtain ⟨k, e, low, high, out, rfl, rfl, rfl, hgg, HLN, HP, HRES, HI, HO, HB⟩ := hrel
    by_cases hlt : low < high
    · obtain ⟨r1, r2, r3, r4, r5, r6, r7⟩ := HP.out.round hlt
      have hl0 := HP.out.l0
      have hh1 := HP.out.hi
      have he1 := HP.out.egg hlt
      have he2 := HP.out.e2
      have hrl := roundR_len h e low high
      have hlo := loOf_at b _ low r1
      have hhi := hiOf_at b high _ low r1
      obtain ⟨k', rfl⟩ : ∃ k', k = k' + 1 := ⟨k - 1, by omega⟩
      have hres := HRES.out
      rw [playR_step h b k' e low high hlt] at hres
      rw [Nat.add_sub_cancel] at r7
      have HFI : Aside0 (∀ W, IsRR W g h → Calls Try.prog 42 #[.pointer (some ⟨g, 0, none⟩), .int .i64 e, .int .i64 (high - low)] W fun e' w' => ∃ v, e' = .returned v ∧ Kd.R (Kd.int .i64) 3 w' W.heap.size (fun _ => True) v (firstR h e (high - low)) ∧ Below W.heap.size W w') := ⟨fun W hW => firstR_calls g h e (high - low) W hW HP.out.h1 HP.out.h2 he1 he2 (by omega) (by omega)⟩
      have hsh : impl_shifted.f 2000 (firstR h e (high - low)) low = some (roundR h e low high) := shifted_is _ _ (by rw [← shiftR_len low]; exact Nat.le_trans r3 (by omega)) (fun x hx => by
        have h1 : x + low ∈ roundR h e low high := List.mem_map_of_mem hx
        have := r4 _ h1
        omega) 2000 (by rw [← shiftR_len low]; exact Nat.lt_of_le_of_lt r3 (by omega))
      have hab : impl_above.f 2000 (roundR h e low high) b = some (cntA b (roundR h e low high) : Nat) := above_is _ _ (by omega) 2000 (by omega)
      have HSH : Aside0 (∀ (W : World) (v : Value), Kd.R (Kd.int .i64) 3 W w.heap.size (fun _ => True) v (firstR h e (high - low)) → ∃ A c, v = .slice A (firstR h e (high - low)).length c ∧ Calls Try.prog 41 #[.slice A (firstR h e (high - low)).length c, .int .i64 low] W fun e' w' => ∃ v, e' = .returned v ∧ Kd.R (Kd.int .i64) 3 w' W.heap.size (fun _ => True) v (roundR h e low high) ∧ Below W.heap.size W w') := ⟨fun W v hr => by
        obtain ⟨A, c, rfl⟩ := Kd.R_slice hr
        exact ⟨A, c, rfl, impl_shifted.calls 2000 A c _ low _ W (Kd.R_reads' hr).2.2 (Kd.R_reads' hr).2.1 hsh⟩⟩
      generalize firstR h e (high - low) = fl at HFI HSH
      generalize hcc : cntA b (roundR h e low high) = c at hres r5 r7 hab hlo hhi
      generalize hrr : roundR h e low high = r at *
      have hlen : r.length ≠ 0 := fun h0 => r2 (List.length_eq_zero_iff.1 h0)
      obtain ⟨i1, hi1⟩ : ∃ i1, r.length = i1 + c := ⟨r.length - c, by omega⟩
      rw [show r.length - c = i1 by omega] at hlo hhi
      have HAB : Aside0 (∀ (W : World) (g2 cap : Nat), Kd.R (Kd.int .i64) 3 W w.heap.size (fun _ => True) (.slice (some ⟨g2, 0, none⟩) (i1 + c) cap) r → Calls Try.prog 23 #[.slice (some ⟨g2, 0, none⟩) (i1 + c) cap, .int .i64 b] W fun e' w' => e' = .returned (.int .i64 c) ∧ Drawn0 W w') := ⟨fun W g2 cap hr => by
        rw [← hi1] at hr ⊢
        exact impl_above.calls 2000 _ cap r b _ W (Kd.R_reads' hr).2.2 (Kd.R_reads' hr).2.1 hab⟩
      have HFORM : Aside0 (∀ (W : World) (base : Nat) (v : Value), Kd.R (Kd.int .i64) 3 W base (fun _ => True) v r → ∃ g2 cap, v = .slice (some ⟨g2, 0, none⟩) (i1 + c) cap) := ⟨fun W base v hr => by
        obtain ⟨g2, cap, h1, _⟩ := Kd.R_form hr (by omega)
        rw [hi1] at h1
        exact ⟨g2, cap, h1⟩⟩
      have HCELL : Aside0 (∀ (W : World) (g2 cap i : Nat), i < i1 + c → Kd.R (Kd.int .i64) 3 W w.heap.size (fun _ => True) (.slice (some ⟨g2, 0, none⟩) (i1 + c) cap) r → W.cell? ⟨g2, i, none⟩ = some (.int .i64 (r.getD i 0))) := ⟨fun W g2 cap i hi hr => by
        have := (Kd.R_celln (0 : Int) hr (i : Int) (by omega) (by omega)).1
        rw [Int.toNat_natCast] at this
        simpa [rdOf] using this⟩
      have HRNG : Aside0 (∀ i, i < i1 + c → 0 < r.getD i 0 ∧ r.getD i 0 ≤ 1000) := ⟨fun i hi => by
        have h1 : r.getD i 0 = r[i] := by simp [List.getD_eq_getElem?_getD, show i < r.length by omega]
        have := r4 r[i] (List.getElem_mem (by omega))
        omega⟩
      obtain ⟨out2, ho2⟩ : ∃ out2, out2 = out ++ [r] := ⟨_, rfl⟩
      rw [show out ++ r :: playR h b k' (e - c) (loOf b low r) (hiOf b high r) = out2 ++ playR h b k' (e - c) (loOf b low r) (hiOf b high r) by rw [ho2]; simp] at hres
      have Hy := Aside0.mk ho2
      have HLN2 : Aside0 (out2.length + k' ≤ 1000) := ⟨by have := HLN.out; rw [ho2]; simp; omega⟩
      have HOL : Aside0 (out.length ≤ 1000) := ⟨by have := HLN.out; omega⟩
      have HR := Aside0.mk hres
      have HP2 := Aside0.mk r7
      have hce : c ≤ e := by omega
      obtain ⟨e', rfl⟩ : ∃ e', e = e' + c := ⟨e - c, by omega⟩
      rw [Nat.add_sub_cancel] at HR HP2
      obtain ⟨A9, c9, hv9⟩ := Kd.S_slice HO.out
      subst hv9
      have hwl : IntKind.i64.wrap (high - low) = high - low := by rw [i64_w]; unfold wrap64; omega
      have hz9 : (c : Int) ≤ 1000 := by omega
      have hz10 : (e' : Int) ≤ 10 := by omega
      have hlo1 : 1 ≤ i1 → loOf b low r = r.getD (i1 - 1) 0 := fun h => hlo.1 (by omega)
      have hlo2 : i1 = 0 → loOf b low r = low := fun h => hlo.2 (by omega)
      have hhi1 : 1 ≤ c → hiOf b high r = r.getD i1 0 - 1 := fun h => hhi.1 (by omega)
      have hhi2 : c = 0 → hiOf b high r = high := fun h => hhi.2 h
      have hpos : 1 ≤ i1 + c := by omega
      have hsm : i1 + c ≤ 1000 := by omega
      clear hrr hcc hsh hab r1 r2 r3 r4 r5 r6 r7 hres ho2 HLN HP HRES hl0 he1 hrl hi1 hlen hce hlo hhi
      generalize out.length = on at HO
      by_cases hc0 : c = 0
      · subst hc0
        obtain ⟨j, rfl⟩ : ∃ j, i1 = j + 1 := ⟨i1 - 1, by omega⟩
        rw [hlo1 (by omega), hhi2 rfl] at HR HP2
        have HC2 : Aside0 (∀ (W : World) (g2 cap : Nat), Kd.R (Kd.int .i64) 3 W w.heap.size (fun _ => True) (.slice (some ⟨g2, 0, none⟩) (j + 1) cap) r → W.cell? ⟨g2, j, none⟩ = some (.int .i64 (r.getD j 0))) := ⟨fun W g2 cap hr => HCELL.out W g2 cap j (by omega) hr⟩
        simp only [Nat.add_zero, Nat.add_sub_cancel] at HFI HAB HFORM HP2 HR
        have hxr := HRNG.out j (by omega)
        generalize r.getD j 0 = x2 at HC2 HR HP2 hxr
        have hz1 : (j : Int) < (j : Int) + 1 := by omega
        have hz2 : (0 : Int) < (j : Int) + 1 := by omega
        have hz3 : (j : Int) ≤ 1000 := by omega
        clear hlo1 hlo2 hhi1 hhi2 HCELL HRNG hpos hsm hxr
        go_wp2_with (first
          | (go_at_call 42; refine (HFI.out _ HI.out).mono ?_; rintro e_ w2 ⟨v, rfl, hr, hb⟩; obtain ⟨Af, cf, rfl, hsc⟩ := HSH.out _ v (Kd.R_lower hr (below_size HB.out)); have HSC := Aside0.mk hsc; clear hsc; have n0_ := Aside0.mk (Kd.S_below HO.out hb); have n1_ := Aside0.mk (below_step HB.out hb); have n2_ := Aside0.mk (IsRR.below HI.out hb); clear HO HB HI hr hb; have HO := n0_; have HB := n1_; have HI := n2_; clear n0_ n1_ n2_)
          | (go_at_call 41; refine (HSC.out).mono ?_; rintro e_ w3 ⟨v, rfl, hr, hb⟩; obtain ⟨g2, cap, rfl⟩ := HFORM.out _ _ _ hr; have HRD := Aside0.mk (Kd.R_lower (Kd.R_mono (Kd.R_bound hr) (fun k_ hk => hk.2.1)) (below_size HB.out)); have n0_ := Aside0.mk (Kd.S_old HO.out hb); have n1_ := Aside0.mk (below_step HB.out hb); have n2_ := Aside0.mk (IsRR.below HI.out hb); clear HO HB HI hr hb; have HO := n0_; have HB := n1_; have HI := n2_; clear n0_ n1_ n2_)
          | ((with_reducible refine gate_builtin (b := .append) (xs := #[.tmp 27, .tmp 29]) rfl ?_); at_builtin; refine Kd.S_append (Kd.slice 3 (Kd.int .i64)) (w0 := w) w.heap.size rfl (.tmp 27) (.tmp 29) 31 25 (.slice none 0 0) 24 rfl Try.underlying31 info25 rfl (by decide) (by omega) (.slice A9 on c9) out r [.slice (some ⟨g2, 0, none⟩) (j + 1) cap] (fun _ => True) (fun k_ => w2.heap.size ≤ k_ ∧ some k_ ≠ ((.slice A9 on c9) : Value).ownBlock) rfl rfl ?aP (fun _ hk => ⟨trivial, hk.2⟩) ?aF ?aO ?aB ?aS ?aL ?_; (case aP => exact ⟨_, rfl, Kd.R_apart' HRD.out (Kd.S_typed HO.out) (by decide)⟩); (case aB => exact (by repeat (first | (with_reducible first | exact HB.out | apply below_alloc | apply pw_below_drewN | apply below_drew1) | exact HB.out))); (case aF => exact (fun _ _ => trivial)); (case aO => refine Kd.S_mono (ok := fun k_ => True ∧ k_ < w2.heap.size) ?_ (fun k_ hk => ⟨trivial, fun h2_ => absurd hk.2 (Nat.not_lt.2 h2_.1)⟩); (with_reducible repeat (first | apply Kd.S_alloc | apply Kd.S_drewN | apply Kd.S_drew)); exact HO.out); (case aS => exact (below_size (by repeat (first | (with_reducible first | exact HB.out | apply below_alloc | apply pw_below_drewN | apply below_drew1) | exact HB.out)))); (case aL => (have := HOL.out; omega)); intro va_ wa_ ho hb hg hat; have n9_ := Aside0.mk (Kd.R_over' HRD.out (Kd.S_typed HO.out) (by decide) hg); rw [← Hy.out] at ho; have HI := Aside0.mk (IsRR.grownR HI.out (Kd.S_R HO.out) hg); have n0_ := Aside0.mk (hb); have n1_ := Aside0.mk (ho); clear HB HO HRD; have HB := n0_; have HO := n1_; have HRD := n9_; clear n0_ n1_ n9_; clear ho hb hg hat)
          | (go_at_call 23; refine (HAB.out _ g2 cap (Kd.R_mono HRD.out (fun _ _ => trivial))).mono ?_; have hx2 := HC2.out _ g2 cap (Kd.R_mono HRD.out (fun _ _ => trivial)); rintro e_ w_ ⟨rfl, ⟨nd, rfl⟩⟩; have n0_ := Aside0.mk (Kd.S_drewN HO.out nd); have n1_ := Aside0.mk (pw_below_drewN HB.out nd); have n2_ := Aside0.mk (IsRR.below HI.out (pw_below_drewN (Below.refl _ _) nd)); clear HO HB HI; have HO := n0_; have HB := n1_; have HI := n2_; clear n0_ n1_ n2_))
        go_roundg k'
        case measure => omega
        case rel => exact ⟨k', e', x2, high, out2, by go_num, by go_num, by go_num, by omega, HLN2, HP2, HR, HI, HO, HB⟩
      have hcp : 0 < c := by omega
      have hcz : (0 : Int) < (c : Int) := by omega
      by_cases hi0 : i1 = 0
      · subst hi0
        rw [hlo2 rfl, hhi1 (by omega)] at HR HP2
        simp only [Nat.zero_add] at HAB HFORM HCELL HRNG hsm
        have HC1 : Aside0 (∀ (W : World) (g2 cap : Nat), Kd.R (Kd.int .i64) 3 W w.heap.size (fun _ => True) (.slice (some ⟨g2, 0, none⟩) c cap) r → W.cell? ⟨g2, 0, none⟩ = some (.int .i64 (r.getD 0 0))) := ⟨fun W g2 cap hr => HCELL.out W g2 cap 0 hcp hr⟩
        have hxr := HRNG.out 0 hcp
        generalize r.getD 0 0 = x1 at HC1 HR HP2 hxr
        have hw4 : IntKind.i64.wrap (x1 - 1) = x1 - 1 := by rw [i64_w]; unfold wrap64; omega
        clear hlo1 hlo2 hhi1 hhi2 HCELL HRNG hpos hsm hxr
        go_wp2_with (first
          | (go_at_call 42; refine (HFI.out _ HI.out).mono ?_; rintro e_ w2 ⟨v, rfl, hr, hb⟩; obtain ⟨Af, cf, rfl, hsc⟩ := HSH.out _ v (Kd.R_lower hr (below_size HB.out)); have HSC := Aside0.mk hsc; clear hsc; have n0_ := Aside0.mk (Kd.S_below HO.out hb); have n1_ := Aside0.mk (below_step HB.out hb); have n2_ := Aside0.mk (IsRR.below HI.out hb); clear HO HB HI hr hb; have HO := n0_; have HB := n1_; have HI := n2_; clear n0_ n1_ n2_)
          | (go_at_call 41; refine (HSC.out).mono ?_; rintro e_ w3 ⟨v, rfl, hr, hb⟩; obtain ⟨g2, cap, rfl⟩ := HFORM.out _ _ _ hr; have HRD := Aside0.mk (Kd.R_lower (Kd.R_mono (Kd.R_bound hr) (fun k_ hk => hk.2.1)) (below_size HB.out)); have n0_ := Aside0.mk (Kd.S_old HO.out hb); have n1_ := Aside0.mk (below_step HB.out hb); have n2_ := Aside0.mk (IsRR.below HI.out hb); clear HO HB HI hr hb; have HO := n0_; have HB := n1_; have HI := n2_; clear n0_ n1_ n2_)
          | ((with_reducible refine gate_builtin (b := .append) (xs := #[.tmp 27, .tmp 29]) rfl ?_); at_builtin; refine Kd.S_append (Kd.slice 3 (Kd.int .i64)) (w0 := w) w.heap.size rfl (.tmp 27) (.tmp 29) 31 25 (.slice none 0 0) 24 rfl Try.underlying31 info25 rfl (by decide) (by omega) (.slice A9 on c9) out r [.slice (some ⟨g2, 0, none⟩) c cap] (fun _ => True) (fun k_ => w2.heap.size ≤ k_ ∧ some k_ ≠ ((.slice A9 on c9) : Value).ownBlock) rfl rfl ?aP (fun _ hk => ⟨trivial, hk.2⟩) ?aF ?aO ?aB ?aS ?aL ?_; (case aP => exact ⟨_, rfl, Kd.R_apart' HRD.out (Kd.S_typed HO.out) (by decide)⟩); (case aB => exact (by repeat (first | (with_reducible first | exact HB.out | apply below_alloc | apply pw_below_drewN | apply below_drew1) | exact HB.out))); (case aF => exact (fun _ _ => trivial)); (case aO => refine Kd.S_mono (ok := fun k_ => True ∧ k_ < w2.heap.size) ?_ (fun k_ hk => ⟨trivial, fun h2_ => absurd hk.2 (Nat.not_lt.2 h2_.1)⟩); (with_reducible repeat (first | apply Kd.S_alloc | apply Kd.S_drewN | apply Kd.S_drew)); exact HO.out); (case aS => exact (below_size (by repeat (first | (with_reducible first | exact HB.out | apply below_alloc | apply pw_below_drewN | apply below_drew1) | exact HB.out)))); (case aL => (have := HOL.out; omega)); intro va_ wa_ ho hb hg hat; have n9_ := Aside0.mk (Kd.R_over' HRD.out (Kd.S_typed HO.out) (by decide) hg); rw [← Hy.out] at ho; have HI := Aside0.mk (IsRR.grownR HI.out (Kd.S_R HO.out) hg); have n0_ := Aside0.mk (hb); have n1_ := Aside0.mk (ho); clear HB HO HRD; have HB := n0_; have HO := n1_; have HRD := n9_; clear n0_ n1_ n9_; clear ho hb hg hat)
          | (go_at_call 23; refine (HAB.out _ g2 cap (Kd.R_mono HRD.out (fun _ _ => trivial))).mono ?_; have hx1 := HC1.out _ g2 cap (Kd.R_mono HRD.out (fun _ _ => trivial)); rintro e_ w_ ⟨rfl, ⟨nd, rfl⟩⟩; have n0_ := Aside0.mk (Kd.S_drewN HO.out nd); have n1_ := Aside0.mk (pw_below_drewN HB.out nd); have n2_ := Aside0.mk (IsRR.below HI.out (pw_below_drewN (Below.refl _ _) nd)); clear HO HB HI; have HO := n0_; have HB := n1_; have HI := n2_; clear n0_ n1_ n2_))
        go_roundg k'
        case measure => omega
        case rel => exact ⟨k', e', low, x1 - 1, out2, by go_num, by go_num, by go_num, by omega, HLN2, HP2, HR, HI, HO, HB⟩
      · obtain ⟨j, rfl⟩ : ∃ j, i1 = j + 1 := ⟨i1 - 1, by omega⟩
        rw [hlo1 (by omega), hhi1 (by omega), Nat.add_sub_cancel] at HR HP2
        have HC1 : Aside0 (∀ (W : World) (g2 cap : Nat), Kd.R (Kd.int .i64) 3 W w.heap.size (fun _ => True) (.slice (some ⟨g2, 0, none⟩) (j + 1 + c) cap) r → W.cell? ⟨g2, j + 1, none⟩ = some (.int .i64 (r.getD (j + 1) 0))) := ⟨fun W g2 cap hr => HCELL.out W g2 cap (j + 1) (by omega) hr⟩
        have HC2 : Aside0 (∀ (W : World) (g2 cap : Nat), Kd.R (Kd.int .i64) 3 W w.heap.size (fun _ => True) (.slice (some ⟨g2, 0, none⟩) (j + 1 + c) cap) r → W.cell? ⟨g2, j, none⟩ = some (.int .i64 (r.getD j 0))) := ⟨fun W g2 cap hr => HCELL.out W g2 cap j (by omega) hr⟩
        have hxr := HRNG.out (j + 1) (by omega)
        generalize r.getD (j + 1) 0 = x1 at HC1 HR HP2 hxr
        generalize r.getD j 0 = x2 at HC2 HR HP2
        have hz1 : (j : Int) < (j : Int) + 1 + (c : Int) := by omega
        have hz2 : (j : Int) + 1 < (j : Int) + 1 + (c : Int) := by omega
        have hz3 : (c : Int) < (j : Int) + 1 + (c : Int) := by omega
        have hz4 : (0 : Int) ≤ (j : Int) + 1 := by omega
        have hz5 : ((j : Int) + 1).toNat = j + 1 := by omega
        have hz6 : c < j + 1 + c := by omega
        obtain ⟨hw1, hw2, hw3, hw4⟩ : IntKind.i64.wrap ((j : Int) + 1) = (j : Int) + 1 ∧ IntKind.i64.wrap (j : Int) = (j : Int) ∧ IntKind.i64.wrap (e' : Int) = (e' : Int) ∧ IntKind.i64.wrap (x1 - 1) = x1 - 1 := by
          refine ⟨?_, ?_, ?_, ?_⟩ <;> (rw [i64_w]; unfold wrap64; omega)
        clear hlo1 hlo2 hhi1 hhi2 HCELL HRNG hpos hxr
        go_wp2_with (first
          | (go_at_call 42; refine (HFI.out _ HI.out).mono ?_; rintro e_ w2 ⟨v, rfl, hr, hb⟩; obtain ⟨Af, cf, rfl, hsc⟩ := HSH.out _ v (Kd.R_lower hr (below_size HB.out)); have HSC := Aside0.mk hsc; clear hsc; have n0_ := Aside0.mk (Kd.S_below HO.out hb); have n1_ := Aside0.mk (below_step HB.out hb); have n2_ := Aside0.mk (IsRR.below HI.out hb); clear HO HB HI hr hb; have HO := n0_; have HB := n1_; have HI := n2_; clear n0_ n1_ n2_)
          | (go_at_call 41; refine (HSC.out).mono ?_; rintro e_ w3 ⟨v, rfl, hr, hb⟩; obtain ⟨g2, cap, rfl⟩ := HFORM.out _ _ _ hr; have HRD := Aside0.mk (Kd.R_lower (Kd.R_mono (Kd.R_bound hr) (fun k_ hk => hk.2.1)) (below_size HB.out)); have n0_ := Aside0.mk (Kd.S_old HO.out hb); have n1_ := Aside0.mk (below_step HB.out hb); have n2_ := Aside0.mk (IsRR.below HI.out hb); clear HO HB HI hr hb; have HO := n0_; have HB := n1_; have HI := n2_; clear n0_ n1_ n2_)
          | ((with_reducible refine gate_builtin (b := .append) (xs := #[.tmp 27, .tmp 29]) rfl ?_); at_builtin; refine Kd.S_append (Kd.slice 3 (Kd.int .i64)) (w0 := w) w.heap.size rfl (.tmp 27) (.tmp 29) 31 25 (.slice none 0 0) 24 rfl Try.underlying31 info25 rfl (by decide) (by omega) (.slice A9 on c9) out r [.slice (some ⟨g2, 0, none⟩) (j + 1 + c) cap] (fun _ => True) (fun k_ => w2.heap.size ≤ k_ ∧ some k_ ≠ ((.slice A9 on c9) : Value).ownBlock) rfl rfl ?aP (fun _ hk => ⟨trivial, hk.2⟩) ?aF ?aO ?aB ?aS ?aL ?_; (case aP => exact ⟨_, rfl, Kd.R_apart' HRD.out (Kd.S_typed HO.out) (by decide)⟩); (case aB => exact (by repeat (first | (with_reducible first | exact HB.out | apply below_alloc | apply pw_below_drewN | apply below_drew1) | exact HB.out))); (case aF => exact (fun _ _ => trivial)); (case aO => refine Kd.S_mono (ok := fun k_ => True ∧ k_ < w2.heap.size) ?_ (fun k_ hk => ⟨trivial, fun h2_ => absurd hk.2 (Nat.not_lt.2 h2_.1)⟩); (with_reducible repeat (first | apply Kd.S_alloc | apply Kd.S_drewN | apply Kd.S_drew)); exact HO.out); (case aS => exact (below_size (by repeat (first | (with_reducible first | exact HB.out | apply below_alloc | apply pw_below_drewN | apply below_drew1) | exact HB.out)))); (case aL => (have := HOL.out; omega)); intro va_ wa_ ho hb hg hat; have n9_ := Aside0.mk (Kd.R_over' HRD.out (Kd.S_typed HO.out) (by decide) hg); rw [← Hy.out] at ho; have HI := Aside0.mk (IsRR.grownR HI.out (Kd.S_R HO.out) hg); have n0_ := Aside0.mk (hb); have n1_ := Aside0.mk (ho); clear HB HO HRD; have HB := n0_; have HO := n1_; have HRD := n9_; clear n0_ n1_ n9_; clear ho hb hg hat)
          | (go_at_call 23; refine (HAB.out _ g2 cap (Kd.R_mono HRD.out (fun _ _ => trivial))).mono ?_; have hx1 := HC1.out _ g2 cap (Kd.R_mono HRD.out (fun _ _ => trivial)); have hx2 := HC2.out _ g2 cap (Kd.R_mono HRD.out (fun _ _ => trivial)); rintro e_ w_ ⟨rfl, ⟨nd, rfl⟩⟩; have n0_ := Aside0.mk (Kd.S_drewN HO.out nd); have n1_ := Aside0.mk (pw_below_drewN HB.out nd); have n2_ := Aside0.mk (IsRR.below HI.out (pw_below_drewN (Below.refl _ _) nd)); clear HO HB HI; have HO := n0_; have HB := n1_; have HI := n2_; clear n0_ n1_ n2_))
        go_roundg k'
        case measure => omega
        case rel => exact ⟨k', e', x2, x1 - 1, out2, by go_num, by go_num, by go_num, by clear hw1 hw2 hw3 hw4; omega, HLN2, HP2, HR, HI, HO, HB⟩

    · have hpe := playR_end h b k e low high hlt
      have HR : Aside0 (out = res) := ⟨by have := HRES.out; rw [hpe] at this; simpa using this⟩
      clear hpe HRES
      go_wp2
      go_ret
      exact ⟨_, rfl, by rw [← HR.out]; exact HO.out, HB.out⟩
theorem playRR_calls (g h e0 : Nat) (n0 b : Int) (w : World) (hI : IsRR w g h) (hp : PlayAt h b 1000 e0 0 n0) :
    Calls Try.prog 30 #[.pointer (some ⟨g, 0, none⟩), .int .i64 e0, .int .i64 n0, .int .i64 b] w fun e' w' => ∃ v, e' = .returned v ∧ Kd.R (Kd.slice 3 (Kd.int .i64)) 25 w' w.heap.size (fun _ => True) v (playR h b 1000 e0 0 n0) ∧ Below w.heap.size w w' :=
  (playRR_callsS g h e0 n0 b w hI hp).mono fun _ _ hh => by
    obtain ⟨v, h1, h2, h3⟩ := hh
    exact ⟨v, h1, Kd.S_R h2, h3⟩


/-! ### impl_within: function 39 -/
def impl_within.f (a0 : Int) (a1 : Int) (a2 : Int) : Option (Bool) := if a0 ≥ a1 then (some (decide (a0 ≤ a2))) else (some false)
set_option maxHeartbeats 8000000 in
set_option maxRecDepth 100000 in
theorem impl_within.calls (a0 : Int) (a1 : Int) (a2 : Int) (r : Bool) (w : World) (h : impl_within.f a0 a1 a2 = some r) :
    Calls Try.prog 39 #[.int .i64 a0, .int .i64 a1, .int .i64 a2] w fun e w' => e = .returned (.bool r) ∧ Drawn0 w w' := by
  have H : (if a0 ≥ a1 then (some (decide (a0 ≤ a2))) else (some false)) = some r := h
  clear h
  by_cases c4 : a0 ≥ a1
  · rw [if_pos c4] at H
    have c4b0 : decide (a1 ≤ a0) = true := decide_eq_true c4
    clear c4
    obtain rfl := Option.some.inj H
    go_enter Try.func39, Try.ntmps39
    go_wp2
    go_ret
    exact ⟨by first | rfl | (simp; done) | (simp [*]; done), by repeat (first | exact Drawn0.refl _ | apply Drawn0.step)⟩
  · rw [if_neg c4] at H
    have c4b0 : decide (a1 ≤ a0) = false := decide_eq_false c4
    clear c4
    obtain rfl := Option.some.inj H
    go_enter Try.func39, Try.ntmps39
    go_wp2
    go_ret
    exact ⟨by first | rfl | (simp; done) | (simp [*]; done), by repeat (first | exact Drawn0.refl _ | apply Drawn0.step)⟩

set_option maxHeartbeats 8000000 in
set_option maxRecDepth 100000 in
theorem impl_within.calls0 (a0 : Int) (a1 : Int) (a2 : Int) (r : Bool) (w : World) (h : impl_within.f a0 a1 a2 = some r) :
    Calls Try.prog 39 #[.int .i64 a0, .int .i64 a1, .int .i64 a2] w fun e w' => e = .returned (.bool r) ∧ w = w' := by
  have H : (if a0 ≥ a1 then (some (decide (a0 ≤ a2))) else (some false)) = some r := h
  clear h
  by_cases c4 : a0 ≥ a1
  · rw [if_pos c4] at H
    have c4b0 : decide (a1 ≤ a0) = true := decide_eq_true c4
    clear c4
    obtain rfl := Option.some.inj H
    go_enter Try.func39, Try.ntmps39
    go_wp2
    go_ret
    exact ⟨by first | rfl | (simp; done) | (simp [*]; done), by first | rfl | simp⟩
  · rw [if_neg c4] at H
    have c4b0 : decide (a1 ≤ a0) = false := decide_eq_false c4
    clear c4
    obtain rfl := Option.some.inj H
    go_enter Try.func39, Try.ntmps39
    go_wp2
    go_ret
    exact ⟨by first | rfl | (simp; done) | (simp [*]; done), by first | rfl | simp⟩

/-! behind impl_within -/
theorem impl_within_is (a lo hi : Int) : impl_within.f a lo hi = some (decide (lo ≤ a) && decide (a ≤ hi)) := by
  unfold impl_within.f
  by_cases h : a ≥ lo
  · rw [if_pos h, decide_eq_true (by omega : lo ≤ a)]; rfl
  · rw [if_neg h, decide_eq_false (by omega : ¬ lo ≤ a)]; rfl

/-! ### impl_isEggs: function 37 -/
def impl_isEggs.f (a0 : Int) : Option (Bool) := (impl_within.f a0 1 10).bind fun t170 => (some t170)
set_option maxHeartbeats 8000000 in
set_option maxRecDepth 100000 in
theorem impl_isEggs.calls (a0 : Int) (r : Bool) (w : World) (h : impl_isEggs.f a0 = some r) :
    Calls Try.prog 37 #[.int .i64 a0] w fun e w' => e = .returned (.bool r) ∧ Drawn0 w w' := by
  have H : ((impl_within.f a0 1 10).bind fun t170 => (some t170)) = some r := h
  clear h
  replace H := Option.bind_eq_some_iff.mp H
  obtain ⟨t170, A20, H⟩ := H
  replace H : (some t170) = some r := H
  have A2 := Aside0.mk A20
  clear A20
  obtain rfl := Option.some.inj H
  go_enter Try.func37, Try.ntmps37
  go_wp2_with (first | ((with_reducible refine gate_callee (f := 39) rfl ?_); refine goesL_ (some 4) rfl rfl Try.func39 (by kernel_rfl) rfl #[.int .i64 a0, .int .i64 1, .int .i64 10] rfl (by (try simp only [List.map_toArray, List.map_cons, List.map_nil]); first | done | rfl | (simp only [List.length_drop, List.length_take]; rfl)) ?_; (with_reducible refine (impl_within.calls0 a0 1 10 t170 _ A2.out).mono ?_); rintro e w' ⟨rfl, rfl⟩; refine ⟨_, rfl, ?_⟩))
  go_ret
  exact ⟨by first | rfl | (simp; done) | (simp [*]; done), by repeat (first | exact Drawn0.refl _ | apply Drawn0.step)⟩

set_option maxHeartbeats 8000000 in
set_option maxRecDepth 100000 in
theorem impl_isEggs.calls0 (a0 : Int) (r : Bool) (w : World) (h : impl_isEggs.f a0 = some r) :
    Calls Try.prog 37 #[.int .i64 a0] w fun e w' => e = .returned (.bool r) ∧ w = w' := by
  have H : ((impl_within.f a0 1 10).bind fun t170 => (some t170)) = some r := h
  clear h
  replace H := Option.bind_eq_some_iff.mp H
  obtain ⟨t170, A20, H⟩ := H
  replace H : (some t170) = some r := H
  have A2 := Aside0.mk A20
  clear A20
  obtain rfl := Option.some.inj H
  go_enter Try.func37, Try.ntmps37
  go_wp2_with (first | ((with_reducible refine gate_callee (f := 39) rfl ?_); refine goesL_ (some 4) rfl rfl Try.func39 (by kernel_rfl) rfl #[.int .i64 a0, .int .i64 1, .int .i64 10] rfl (by (try simp only [List.map_toArray, List.map_cons, List.map_nil]); first | done | rfl | (simp only [List.length_drop, List.length_take]; rfl)) ?_; (with_reducible refine (impl_within.calls0 a0 1 10 t170 _ A2.out).mono ?_); rintro e w' ⟨rfl, rfl⟩; refine ⟨_, rfl, ?_⟩))
  go_ret
  exact ⟨by first | rfl | (simp; done) | (simp [*]; done), by first | rfl | simp⟩

/-! behind impl_isEggs -/
theorem impl_isEggs_is (a : Int) : impl_isEggs.f a = some (decide (1 ≤ a) && decide (a ≤ 10)) := by unfold impl_isEggs.f; rw [impl_within_is]; rfl

/-! ### impl_isHands: function 38 -/
def impl_isHands.f (a0 : Int) : Option (Bool) := (impl_within.f a0 1 10).bind fun t171 => (some t171)
set_option maxHeartbeats 8000000 in
set_option maxRecDepth 100000 in
theorem impl_isHands.calls (a0 : Int) (r : Bool) (w : World) (h : impl_isHands.f a0 = some r) :
    Calls Try.prog 38 #[.int .i64 a0] w fun e w' => e = .returned (.bool r) ∧ Drawn0 w w' := by
  have H : ((impl_within.f a0 1 10).bind fun t171 => (some t171)) = some r := h
  clear h
  replace H := Option.bind_eq_some_iff.mp H
  obtain ⟨t171, A20, H⟩ := H
  replace H : (some t171) = some r := H
  have A2 := Aside0.mk A20
  clear A20
  obtain rfl := Option.some.inj H
  go_enter Try.func38, Try.ntmps38
  go_wp2_with (first | ((with_reducible refine gate_callee (f := 39) rfl ?_); refine goesL_ (some 4) rfl rfl Try.func39 (by kernel_rfl) rfl #[.int .i64 a0, .int .i64 1, .int .i64 10] rfl (by (try simp only [List.map_toArray, List.map_cons, List.map_nil]); first | done | rfl | (simp only [List.length_drop, List.length_take]; rfl)) ?_; (with_reducible refine (impl_within.calls0 a0 1 10 t171 _ A2.out).mono ?_); rintro e w' ⟨rfl, rfl⟩; refine ⟨_, rfl, ?_⟩))
  go_ret
  exact ⟨by first | rfl | (simp; done) | (simp [*]; done), by repeat (first | exact Drawn0.refl _ | apply Drawn0.step)⟩

set_option maxHeartbeats 8000000 in
set_option maxRecDepth 100000 in
theorem impl_isHands.calls0 (a0 : Int) (r : Bool) (w : World) (h : impl_isHands.f a0 = some r) :
    Calls Try.prog 38 #[.int .i64 a0] w fun e w' => e = .returned (.bool r) ∧ w = w' := by
  have H : ((impl_within.f a0 1 10).bind fun t171 => (some t171)) = some r := h
  clear h
  replace H := Option.bind_eq_some_iff.mp H
  obtain ⟨t171, A20, H⟩ := H
  replace H : (some t171) = some r := H
  have A2 := Aside0.mk A20
  clear A20
  obtain rfl := Option.some.inj H
  go_enter Try.func38, Try.ntmps38
  go_wp2_with (first | ((with_reducible refine gate_callee (f := 39) rfl ?_); refine goesL_ (some 4) rfl rfl Try.func39 (by kernel_rfl) rfl #[.int .i64 a0, .int .i64 1, .int .i64 10] rfl (by (try simp only [List.map_toArray, List.map_cons, List.map_nil]); first | done | rfl | (simp only [List.length_drop, List.length_take]; rfl)) ?_; (with_reducible refine (impl_within.calls0 a0 1 10 t171 _ A2.out).mono ?_); rintro e w' ⟨rfl, rfl⟩; refine ⟨_, rfl, ?_⟩))
  go_ret
  exact ⟨by first | rfl | (simp; done) | (simp [*]; done), by first | rfl | simp⟩

end Go.Proofs.Ytbiibhfcclfoiaa.PrintA
