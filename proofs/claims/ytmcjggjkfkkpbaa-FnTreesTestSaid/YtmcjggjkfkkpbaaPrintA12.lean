-- written by this session's own driver (wip/gen.py) with the kit's print and contracts of our own
import Derived.Test.YtmcjggjkfkkpbaaPrintA0
import Derived.Test.YtmcjggjkfkkpbaaPrintA11
namespace Go.Proofs.Ytmcjggjkfkkpbaa.PrintA
open Go.RowKit Go.Proofs.YtmcjggjkfkkpbaaLib Go.Proofs.YtmcjggjkfkkpbaaW.PrintWords Go.Proofs.YtmcjggjkfkkpbaaW.PrintLast Go.Proofs.YtmcjggjkfkkpbaaW.PrintMore
attribute [local go_sem] max2_int min2_int max_two min_two max_three min_three max_four min_four   -- for this text's walks alone
set_option linter.unusedVariables false
set_option linter.unusedSimpArgs false

/-! behind spec_TestsOfTree -/
set_option maxHeartbeats 8000000 in
set_option maxRecDepth 100000 in
theorem trees_C1 (code more : List Int) (nc nmo : Nat) (l below above mir : List Int) (n nb na nm : Nat) (tests eggs sum : Int) (T : TF code nc l n below nb above na mir nm tests eggs sum true true) (ds : Nat → List S42) (dl : Nat → Nat) (mx bx sm : Nat → Int) (hn30 : n ≤ 30) (G : TL l n mir nm tests eggs sum ds dl mx bx sm) (hpos : 0 < n) (hjn : OnIIR 22 below nb above na l n true) (hroot : rd l 0 = (nb : Int) + 1) (hsz : nb + na + 1 = n) (x y j z : List Int) (nx ny nj nz : Nat) (kk : Int) (rows : List S42) (nr : Nat) (fine : Bool) (U : TS more nmo x nx y ny j nj z nz kk rows nr true fine) (hpx : OnIRR 12 j nj x nx y ny true) (hsx : OnSame x nx) (hsy : OnSame y ny) (hbig : OnBig code nc more nmo)
    (A0 A1 : Option Addr) (c0 c1 : Nat) (w : World) (K0e : nc ≤ c0) (hK0 : Kd.C (Kd.int .u8) w A0 nc code) (K1e : nmo ≤ c1) (hK1 : Kd.C (Kd.int .u8) w A1 nmo more) :
    Calls Try.prog 3 #[.slice A0 nc c0, .slice A1 nmo c1] w fun e w' => e = .returned (.bool true) ∧ Below w.heap.size w w' := by
  have hu := Try.underlying42
  have K0 := Aside0.mk hK0
  have K1 := Aside0.mk hK1
  clear hK0 hK1
  have HT := Aside0.mk T
  have HU := Aside0.mk U
  clear T U
  have HBIG := Aside0.mk hbig
  clear hbig
  have HG := Aside0.mk G
  clear G
  have HJN := Aside0.mk hjn
  have HRT := Aside0.mk hroot
  have HSZ := Aside0.mk hsz
  clear hjn hroot hsz
  have HPX := Aside0.mk hpx
  have HSX := Aside0.mk hsx
  have HSY := Aside0.mk hsy
  clear hpx hsx hsy
  have HB := Aside0.mk (Below.refl w.heap.size w)
  go_enter Try.func3, Try.ntmps3
  go_wp2_with fail
  refine (HBIG.out _ _ _ _ _ K0e K0.out K1e K1.out).mono ?_
  rintro e w1_ ⟨rfl, hb⟩
  have n_ := Aside0.mk (Kd.C_below K0.out hb)
  clear K0
  have K0 := n_
  clear n_
  have n_ := Aside0.mk (Kd.C_below K1.out hb)
  clear K1
  have K1 := n_
  clear n_
  have n_ := Aside0.mk (below_step HB.out hb)
  clear HB
  have HB := n_
  clear n_
  clear hb
  go_wp2_with fail
  refine (HT.out.draw _ _ _ K0e K0.out).mono ?_
  rintro e w2_ ⟨AKL_, cKL_, rfl, KLe, hKL_, hb⟩
  have KL_ := Aside0.mk hKL_
  clear hKL_
  have n_ := Aside0.mk (Kd.C_below K0.out hb)
  clear K0
  have K0 := n_
  clear n_
  have n_ := Aside0.mk (Kd.C_below K1.out hb)
  clear K1
  have K1 := n_
  clear n_
  have n_ := Aside0.mk (below_step HB.out hb)
  clear HB
  have HB := n_
  clear n_
  clear hb
  have KL := KL_
  clear KL_
  clear K0
  go_wp2_with fail
  refine (HT.out.t1 _ _ _ KLe KL.out).mono ?_
  rintro e w3_ ⟨rfl, hb⟩
  have n_ := Aside0.mk (Kd.C_below K1.out hb)
  clear K1
  have K1 := n_
  clear n_
  have n_ := Aside0.mk (Kd.C_below KL.out hb)
  clear KL
  have KL := n_
  clear n_
  have n_ := Aside0.mk (below_step HB.out hb)
  clear HB
  have HB := n_
  clear n_
  clear hb
  go_wp2_with fail
  refine (HT.out.t2 _ _ _ KLe KL.out).mono ?_
  rintro e w4_ ⟨rfl, hb⟩
  have n_ := Aside0.mk (Kd.C_below K1.out hb)
  clear K1
  have K1 := n_
  clear n_
  have n_ := Aside0.mk (Kd.C_below KL.out hb)
  clear KL
  have KL := n_
  clear n_
  have n_ := Aside0.mk (below_step HB.out hb)
  clear HB
  have HB := n_
  clear n_
  clear hb
  go_wp2_with fail
  refine (HT.out.e1 _ _ _ KLe KL.out).mono ?_
  rintro e w5_ ⟨rfl, hb⟩
  have n_ := Aside0.mk (Kd.C_below K1.out hb)
  clear K1
  have K1 := n_
  clear n_
  have n_ := Aside0.mk (Kd.C_below KL.out hb)
  clear KL
  have KL := n_
  clear n_
  have n_ := Aside0.mk (below_step HB.out hb)
  clear HB
  have HB := n_
  clear n_
  clear hb
  go_wp2_with fail
  refine (HT.out.e2 _ _ _ KLe KL.out).mono ?_
  rintro e w6_ ⟨rfl, hb⟩
  have n_ := Aside0.mk (Kd.C_below K1.out hb)
  clear K1
  have K1 := n_
  clear n_
  have n_ := Aside0.mk (Kd.C_below KL.out hb)
  clear KL
  have KL := n_
  clear n_
  have n_ := Aside0.mk (below_step HB.out hb)
  clear HB
  have HB := n_
  clear n_
  clear hb
  go_wp2_with fail
  refine (HT.out.s1 _ _ _ KLe KL.out).mono ?_
  rintro e w7_ ⟨rfl, hb⟩
  have n_ := Aside0.mk (Kd.C_below K1.out hb)
  clear K1
  have K1 := n_
  clear n_
  have n_ := Aside0.mk (Kd.C_below KL.out hb)
  clear KL
  have KL := n_
  clear n_
  have n_ := Aside0.mk (below_step HB.out hb)
  clear HB
  have HB := n_
  clear n_
  clear hb
  go_wp2_with fail
  refine (HT.out.s2 _ _ _ KLe KL.out).mono ?_
  rintro e w8_ ⟨rfl, hb⟩
  have n_ := Aside0.mk (Kd.C_below K1.out hb)
  clear K1
  have K1 := n_
  clear n_
  have n_ := Aside0.mk (Kd.C_below KL.out hb)
  clear KL
  have KL := n_
  clear n_
  have n_ := Aside0.mk (below_step HB.out hb)
  clear HB
  have HB := n_
  clear n_
  clear hb
  go_wp2_with fail
  refine (HT.out.p1 _ _ _ KLe KL.out).mono ?_
  rintro e w9_ ⟨AKB_, cKB_, AKA_, cKA_, rfl, KBe, hKB_, KAe, hKA_, hb⟩
  have KB_ := Aside0.mk hKB_
  clear hKB_
  have KA_ := Aside0.mk hKA_
  clear hKA_
  have n_ := Aside0.mk (Kd.C_below K1.out hb)
  clear K1
  have K1 := n_
  clear n_
  have n_ := Aside0.mk (Kd.C_below KL.out hb)
  clear KL
  have KL := n_
  clear n_
  have n_ := Aside0.mk (below_step HB.out hb)
  clear HB
  have HB := n_
  clear n_
  clear hb
  have KB := KB_
  clear KB_
  have KA := KA_
  clear KA_
  go_wp2_with fail
  refine (HT.out.p2 _ _ _ KLe KL.out).mono ?_
  rintro e w10_ ⟨AKC_, cKC_, AKD_, cKD_, rfl, KCe, hKC_, KDe, hKD_, hb⟩
  have KC_ := Aside0.mk hKC_
  clear hKC_
  have KD_ := Aside0.mk hKD_
  clear hKD_
  have n_ := Aside0.mk (Kd.C_below K1.out hb)
  clear K1
  have K1 := n_
  clear n_
  have n_ := Aside0.mk (Kd.C_below KL.out hb)
  clear KL
  have KL := n_
  clear n_
  have n_ := Aside0.mk (Kd.C_below KB.out hb)
  clear KB
  have KB := n_
  clear n_
  have n_ := Aside0.mk (Kd.C_below KA.out hb)
  clear KA
  have KA := n_
  clear n_
  have n_ := Aside0.mk (below_step HB.out hb)
  clear HB
  have HB := n_
  clear n_
  clear hb
  have KC := KC_
  clear KC_
  have KD := KD_
  clear KD_
  go_wp2_with fail
  refine (HT.out.m1 _ _ _ KLe KL.out).mono ?_
  rintro e w11_ ⟨AKM_, cKM_, rfl, KMe, hKM_, hb⟩
  have KM_ := Aside0.mk hKM_
  clear hKM_
  have n_ := Aside0.mk (Kd.C_below K1.out hb)
  clear K1
  have K1 := n_
  clear n_
  have n_ := Aside0.mk (Kd.C_below KL.out hb)
  clear KL
  have KL := n_
  clear n_
  have n_ := Aside0.mk (Kd.C_below KB.out hb)
  clear KB
  have KB := n_
  clear n_
  have n_ := Aside0.mk (Kd.C_below KA.out hb)
  clear KA
  have KA := n_
  clear n_
  have n_ := Aside0.mk (Kd.C_below KC.out hb)
  clear KC
  have KC := n_
  clear n_
  have n_ := Aside0.mk (Kd.C_below KD.out hb)
  clear KD
  have KD := n_
  clear n_
  have n_ := Aside0.mk (below_step HB.out hb)
  clear HB
  have HB := n_
  clear n_
  clear hb
  have KM := KM_
  clear KM_
  go_wp2_with fail
  refine (HT.out.m2 _ _ _ KLe KL.out).mono ?_
  rintro e w12_ ⟨AKN_, cKN_, rfl, KNe, hKN_, hb⟩
  have KN_ := Aside0.mk hKN_
  clear hKN_
  have n_ := Aside0.mk (Kd.C_below K1.out hb)
  clear K1
  have K1 := n_
  clear n_
  have n_ := Aside0.mk (Kd.C_below KL.out hb)
  clear KL
  have KL := n_
  clear n_
  have n_ := Aside0.mk (Kd.C_below KB.out hb)
  clear KB
  have KB := n_
  clear n_
  have n_ := Aside0.mk (Kd.C_below KA.out hb)
  clear KA
  have KA := n_
  clear n_
  have n_ := Aside0.mk (Kd.C_below KC.out hb)
  clear KC
  have KC := n_
  clear n_
  have n_ := Aside0.mk (Kd.C_below KD.out hb)
  clear KD
  have KD := n_
  clear n_
  have n_ := Aside0.mk (Kd.C_below KM.out hb)
  clear KM
  have KM := n_
  clear n_
  have n_ := Aside0.mk (below_step HB.out hb)
  clear HB
  have HB := n_
  clear n_
  clear hb
  have KN := KN_
  clear KN_
  go_wp2_with fail
  refine (HT.out.b _ _ _ _ _ KBe KB.out KCe KC.out).mono ?_
  rintro e w13_ ⟨rfl, hb⟩
  have n_ := Aside0.mk (Kd.C_below K1.out hb)
  clear K1
  have K1 := n_
  clear n_
  have n_ := Aside0.mk (Kd.C_below KL.out hb)
  clear KL
  have KL := n_
  clear n_
  have n_ := Aside0.mk (Kd.C_below KB.out hb)
  clear KB
  have KB := n_
  clear n_
  have n_ := Aside0.mk (Kd.C_below KA.out hb)
  clear KA
  have KA := n_
  clear n_
  have n_ := Aside0.mk (Kd.C_below KC.out hb)
  clear KC
  have KC := n_
  clear n_
  have n_ := Aside0.mk (Kd.C_below KD.out hb)
  clear KD
  have KD := n_
  clear n_
  have n_ := Aside0.mk (Kd.C_below KM.out hb)
  clear KM
  have KM := n_
  clear n_
  have n_ := Aside0.mk (Kd.C_below KN.out hb)
  clear KN
  have KN := n_
  clear n_
  have n_ := Aside0.mk (below_step HB.out hb)
  clear HB
  have HB := n_
  clear n_
  clear hb
  clear KC
  go_wp2_with fail
  refine (HT.out.a _ _ _ _ _ KAe KA.out KDe KD.out).mono ?_
  rintro e w14_ ⟨rfl, hb⟩
  have n_ := Aside0.mk (Kd.C_below K1.out hb)
  clear K1
  have K1 := n_
  clear n_
  have n_ := Aside0.mk (Kd.C_below KL.out hb)
  clear KL
  have KL := n_
  clear n_
  have n_ := Aside0.mk (Kd.C_below KB.out hb)
  clear KB
  have KB := n_
  clear n_
  have n_ := Aside0.mk (Kd.C_below KA.out hb)
  clear KA
  have KA := n_
  clear n_
  have n_ := Aside0.mk (Kd.C_below KD.out hb)
  clear KD
  have KD := n_
  clear n_
  have n_ := Aside0.mk (Kd.C_below KM.out hb)
  clear KM
  have KM := n_
  clear n_
  have n_ := Aside0.mk (Kd.C_below KN.out hb)
  clear KN
  have KN := n_
  clear n_
  have n_ := Aside0.mk (below_step HB.out hb)
  clear HB
  have HB := n_
  clear n_
  clear hb
  clear KD
  go_wp2_with fail
  refine (HT.out.m _ _ _ _ _ KMe KM.out KNe KN.out).mono ?_
  rintro e w15_ ⟨rfl, hb⟩
  have n_ := Aside0.mk (Kd.C_below K1.out hb)
  clear K1
  have K1 := n_
  clear n_
  have n_ := Aside0.mk (Kd.C_below KL.out hb)
  clear KL
  have KL := n_
  clear n_
  have n_ := Aside0.mk (Kd.C_below KB.out hb)
  clear KB
  have KB := n_
  clear n_
  have n_ := Aside0.mk (Kd.C_below KA.out hb)
  clear KA
  have KA := n_
  clear n_
  have n_ := Aside0.mk (Kd.C_below KM.out hb)
  clear KM
  have KM := n_
  clear n_
  have n_ := Aside0.mk (Kd.C_below KN.out hb)
  clear KN
  have KN := n_
  clear n_
  have n_ := Aside0.mk (below_step HB.out hb)
  clear HB
  have HB := n_
  clear n_
  clear hb
  clear KN
  go_wp2_with fail
  refine (HT.out.i1 _ _ _ KLe KL.out).mono ?_
  rintro e w16_ ⟨rfl, hb⟩
  have n_ := Aside0.mk (Kd.C_below K1.out hb)
  clear K1
  have K1 := n_
  clear n_
  have n_ := Aside0.mk (Kd.C_below KL.out hb)
  clear KL
  have KL := n_
  clear n_
  have n_ := Aside0.mk (Kd.C_below KB.out hb)
  clear KB
  have KB := n_
  clear n_
  have n_ := Aside0.mk (Kd.C_below KA.out hb)
  clear KA
  have KA := n_
  clear n_
  have n_ := Aside0.mk (Kd.C_below KM.out hb)
  clear KM
  have KM := n_
  clear n_
  have n_ := Aside0.mk (below_step HB.out hb)
  clear HB
  have HB := n_
  clear n_
  clear hb
  go_wp2_with fail
  refine (HT.out.i1 _ _ _ KLe KL.out).mono ?_
  rintro e w17_ ⟨rfl, hb⟩
  have n_ := Aside0.mk (Kd.C_below K1.out hb)
  clear K1
  have K1 := n_
  clear n_
  have n_ := Aside0.mk (Kd.C_below KL.out hb)
  clear KL
  have KL := n_
  clear n_
  have n_ := Aside0.mk (Kd.C_below KB.out hb)
  clear KB
  have KB := n_
  clear n_
  have n_ := Aside0.mk (Kd.C_below KA.out hb)
  clear KA
  have KA := n_
  clear n_
  have n_ := Aside0.mk (Kd.C_below KM.out hb)
  clear KM
  have KM := n_
  clear n_
  have n_ := Aside0.mk (below_step HB.out hb)
  clear HB
  have HB := n_
  clear n_
  clear hb
  have hlz : ((n : Int) > 0) = True := by rw [eq_iff_iff]; constructor <;> intro h <;> first | omega | exact trivial | exact h.elim
  have hlz2 : (0 < n) = True := by rw [eq_iff_iff]; constructor <;> intro h <;> first | omega | exact trivial | exact h.elim
  go_wp2_with fail
  refine (HT.out.i2 _ _ _ KLe KL.out).mono ?_
  rintro e w18_ ⟨rfl, hb⟩
  have n_ := Aside0.mk (Kd.C_below K1.out hb)
  clear K1
  have K1 := n_
  clear n_
  have n_ := Aside0.mk (Kd.C_below KL.out hb)
  clear KL
  have KL := n_
  clear n_
  have n_ := Aside0.mk (Kd.C_below KB.out hb)
  clear KB
  have KB := n_
  clear n_
  have n_ := Aside0.mk (Kd.C_below KA.out hb)
  clear KA
  have KA := n_
  clear n_
  have n_ := Aside0.mk (Kd.C_below KM.out hb)
  clear KM
  have KM := n_
  clear n_
  have n_ := Aside0.mk (below_step HB.out hb)
  clear HB
  have HB := n_
  clear n_
  clear hb
  clear HT
  obtain ⟨wS, rfl⟩ : ∃ wS, wS = w18_ := ⟨_, rfl⟩
  have HBS := Aside0.mk (Below.refl wS.heap.size wS)
  go_wp2
  go_loopg [28, 29, 30, 31] (n + 1) (fun gg v28 v29 v30 v31 wr => ∃ (k : Nat) (qa qb qc : Int), v31 = .int .i64 k ∧ v28 = .int .i64 qa ∧ v29 = .int .i64 qb ∧ v30 = .int .i64 qc ∧ k ≤ n + 1 ∧ n + 1 - k ≤ gg ∧ Aside0 (qa = mx k ∧ qb = bx k ∧ qc = sm k) ∧ Aside0 (Below wS.heap.size wS wr))
  case atStart => exact ⟨0, 0, 0, 0, rfl, rfl, rfl, rfl, Nat.zero_le _, Nat.le_refl _, ⟨⟨HG.out.mx0.symm, HG.out.bx0.symm, HG.out.sm0.symm⟩⟩, HBS⟩
  case round =>
    clear HBS
    obtain ⟨k, qa, qb, qc, rfl, rfl, rfl, rfl, hk, hgg, HQ, HBS⟩ := hrel
    obtain ⟨wm, rfl⟩ : ∃ wm, wm = wr := ⟨_, rfl⟩
    by_cases hkn : k ≤ n
    · have hkz : (k : Int) ≤ (n : Int) := by omega
      have n_ := Aside0.mk (Kd.C_below K1.out HBS.out)
      clear K1
      have K1 := n_
      clear n_
      have n_ := Aside0.mk (Kd.C_below KL.out HBS.out)
      clear KL
      have KL := n_
      clear n_
      have n_ := Aside0.mk (Kd.C_below KB.out HBS.out)
      clear KB
      have KB := n_
      clear n_
      have n_ := Aside0.mk (Kd.C_below KA.out HBS.out)
      clear KA
      have KA := n_
      clear n_
      have n_ := Aside0.mk (Kd.C_below KM.out HBS.out)
      clear KM
      have KM := n_
      clear n_
      clear HB
      clear K1
      clear KB
      clear KA
      clear KM
      have HDR := Aside0.mk (HG.out.drops k hkn)
      have HST := Aside0.mk (HG.out.set k hkn)
      have HOP := Aside0.mk (HG.out.opn k hkn); have HM := Aside0.mk (HG.out.dlen k hkn)
      have hm30 := HG.out.len k hkn
      have HMX := Aside0.mk (HG.out.mxs k hkn)
      have HBX := Aside0.mk (HG.out.bxs k hkn)
      have HSM := Aside0.mk (HG.out.sms k hkn)
      have hsb := HG.out.smb k hkn
      rw [← HQ.out.2.2] at hsb
      generalize ds k = dr at HDR HST HOP HBX HM
      generalize dl k = m at HDR HST HOP hm30 HMX HSM HM
      go_wp2_with fail
      refine (HDR.out _ _ _ KLe KL.out).mono ?_
      rintro e w19_ ⟨AKD_, cKD_, rfl, KDe, hKD_, hb⟩
      have KD_ := Aside0.mk hKD_
      clear hKD_
      have n_ := Aside0.mk (Kd.C_below KL.out hb)
      clear KL
      have KL := n_
      clear n_
      have n_ := Aside0.mk (below_step HBS.out hb)
      clear HBS
      have HBS := n_
      clear n_
      clear hb
      have KD := KD_
      clear KD_
      go_wp2_with fail
      refine (HST.out _ _ _ KDe KD.out).mono ?_
      rintro e w20_ ⟨rfl, hb⟩
      have n_ := Aside0.mk (Kd.C_below KL.out hb)
      clear KL
      have KL := n_
      clear n_
      have n_ := Aside0.mk (Kd.C_below KD.out hb)
      clear KD
      have KD := n_
      clear n_
      have n_ := Aside0.mk (below_step HBS.out hb)
      clear HBS
      have HBS := n_
      clear n_
      clear hb
      go_wp2_with fail
      refine (HOP.out _ _ _ KDe KD.out).mono ?_
      rintro e w21_ ⟨rfl, hb⟩
      have n_ := Aside0.mk (Kd.C_below KL.out hb)
      clear KL
      have KL := n_
      clear n_
      have n_ := Aside0.mk (Kd.C_below KD.out hb)
      clear KD
      have KD := n_
      clear n_
      have n_ := Aside0.mk (below_step HBS.out hb)
      clear HBS
      have HBS := n_
      clear n_
      clear hb
      clear KL
      clear HDR HST HOP
      obtain ⟨wD, rfl⟩ : ∃ wD, wD = w21_ := ⟨_, rfl⟩
      have HBD := Aside0.mk (Below.refl wD.heap.size wD)
      go_wp2
      go_loopg [39, 270] m (fun gg v39 v270 wr => ∃ (i : Nat) (q : Nat), v270 = .int .i64 i ∧ v39 = .int .i64 q ∧ i ≤ m ∧ m - i ≤ gg ∧ q ≤ i ∧ Aside0 (q = cntB (dr.take i)) ∧ Aside0 (Below wD.heap.size wD wr))
      case atStart => exact ⟨0, 0, rfl, rfl, Nat.zero_le _, Nat.le_refl _, Nat.le_refl _, ⟨rfl⟩, HBD⟩
      case round =>
        clear HBD
        obtain ⟨i, q, rfl, rfl, hi, hgi, hqi, HC, HBD⟩ := hrel
        obtain ⟨wz, rfl⟩ : ∃ wz, wz = wr := ⟨_, rfl⟩
        by_cases him : i < m
        · have hiz : (i : Int) < (m : Int) := by omega
          have KDm : Aside0 (Kd.C k42 wz AKD_ m dr) := ⟨Kd.C_below KD.out HBD.out⟩
          obtain ⟨ad1, rfl, hx0, hx1⟩ := at_T42 KDm.out (i : Int) (by omega) hiz
          rw [Int.toNat_natCast] at hx0 hx1
          have HCN := Aside0.mk (take_cnt dr i (by rw [HM.out]; exact him))
          generalize rd_T42 dr (i : Int) = d at hx0 hx1 HCN
          obtain ⟨f0, f1⟩ := d
          dsimp only at hx0 hx1
          clear KDm
          have hw9 : IntKind.i64.wrap ((i : Int) + 1) = (i : Int) + 1 := by rw [i64_w]; unfold wrap64; omega
          have hw8 : IntKind.i64.wrap ((q : Int) + 1) = (q : Int) + 1 := by clear hw9; rw [i64_w]; unfold wrap64; omega
          cases f1 with
          | true =>
            go_wp2_with ((with_reducible refine gate_dst (N := 41) rfl ?_); refine box_event ?hg (N := 41) ?hd (cs := #[.int .i64 0, .bool false]) (t := 42) ?hr ?_; (case hd => rfl); (case hg => rfl); (case hr => first | (go_simp; done) | (go_simp; rfl)); intro gb hg w5 hbox hb; have GE : Aside0 (wD.heap.size ≤ gb) := ⟨by rw [hg]; exact HBD.out.size⟩; have n_ := Aside0.mk (below_step HBD.out hb); have BK := Aside0.mk hbox; clear HBD hb hbox hg; have HBD := n_; clear n_; have hcz0 : w5.cell? ⟨gb, 0, none⟩ = some (.int .i64 0) := (blk_cell BK.out 0).trans rfl; have hcz1 : w5.cell? ⟨gb, 1, none⟩ = some (.bool false) := (blk_cell BK.out 1).trans rfl; have hfz0 := blk_frozen BK.out 0; have hfz1 := blk_frozen BK.out 1)
            have n_ : Aside0 (Below wD.heap.size wD ((w5.setCell ⟨gb, 0, none⟩ (.int .i64 f0)).setCell ⟨gb, 1, none⟩ (.bool true))) := ⟨below_set (below_set HBD.out GE.out) GE.out⟩
            clear HBD BK hcz0 hcz1 hfz0 hfz1 hx0 hx1
            go_roundg (m - (i + 1))
            case measure => clear hw9 hw8; omega
            case rel => exact ⟨i + 1, q + 1, by go_num, by go_num, by clear hw9 hw8; omega, by clear hw9 hw8; omega, by clear hw9 hw8; omega, ⟨by have h_ := HCN.out; simp only [if_true, Bool.false_eq_true, if_false, Nat.add_zero] at h_; rw [h_, ← HC.out]⟩, n_⟩
          | false =>
            go_wp2_with ((with_reducible refine gate_dst (N := 41) rfl ?_); refine box_event ?hg (N := 41) ?hd (cs := #[.int .i64 0, .bool false]) (t := 42) ?hr ?_; (case hd => rfl); (case hg => rfl); (case hr => first | (go_simp; done) | (go_simp; rfl)); intro gb hg w5 hbox hb; have GE : Aside0 (wD.heap.size ≤ gb) := ⟨by rw [hg]; exact HBD.out.size⟩; have n_ := Aside0.mk (below_step HBD.out hb); have BK := Aside0.mk hbox; clear HBD hb hbox hg; have HBD := n_; clear n_; have hcz0 : w5.cell? ⟨gb, 0, none⟩ = some (.int .i64 0) := (blk_cell BK.out 0).trans rfl; have hcz1 : w5.cell? ⟨gb, 1, none⟩ = some (.bool false) := (blk_cell BK.out 1).trans rfl; have hfz0 := blk_frozen BK.out 0; have hfz1 := blk_frozen BK.out 1)
            have n_ : Aside0 (Below wD.heap.size wD ((w5.setCell ⟨gb, 0, none⟩ (.int .i64 f0)).setCell ⟨gb, 1, none⟩ (.bool false))) := ⟨below_set (below_set HBD.out GE.out) GE.out⟩
            clear HBD BK hcz0 hcz1 hfz0 hfz1 hx0 hx1
            go_roundg (m - (i + 1))
            case measure => clear hw9 hw8; omega
            case rel => exact ⟨i + 1, q, by go_num, by go_num, by clear hw9 hw8; omega, by clear hw9 hw8; omega, by clear hw9 hw8; omega, ⟨by have h_ := HCN.out; simp only [if_true, Bool.false_eq_true, if_false, Nat.add_zero] at h_; rw [h_, ← HC.out]⟩, n_⟩
        · have hiz : ¬ (i : Int) < (m : Int) := by omega
          obtain rfl : m = i := by omega
          have HCB : Aside0 (cntB dr = q) := ⟨by rw [HC.out, ← HM.out, List.take_length]⟩
          have n_ := Aside0.mk (below_step HBS.out HBD.out)
          clear HBS HBD HC KD
          have HBS := n_
          clear n_
          have HBX2 : Aside0 (bx (k + 1) = max (bx k) (q : Int)) := ⟨by rw [HBX.out, HCB.out]⟩
          clear HBX HCB
          have hw7 : IntKind.i64.wrap ((k : Int) + 1) = (k : Int) + 1 := by rw [i64_w]; unfold wrap64; omega
          have hw6 : IntKind.i64.wrap (qc + (m : Int)) = qc + (m : Int) := by clear hw7; rw [i64_w]; unfold wrap64; omega
          rcases (by omega : (m : Int) > qa ∨ ¬ (m : Int) > qa) with ha | ha <;> rcases (by omega : (q : Int) > qb ∨ ¬ (q : Int) > qb) with hb | hb
          · have ha2 : ((m : Int) > qa) = True := by rw [eq_iff_iff]; constructor <;> intro h <;> first | exact trivial | exact ha | exact ha h | exact h.elim
            have hb2 : ((q : Int) > qb) = True := by rw [eq_iff_iff]; constructor <;> intro h <;> first | exact trivial | exact hb | exact hb h | exact h.elim
            have HQ2 : Aside0 ((m : Int) = mx (k + 1) ∧ (q : Int) = bx (k + 1) ∧ qc + (m : Int) = sm (k + 1)) := ⟨by obtain ⟨q1, q2, q3⟩ := HQ.out; rw [HMX.out, HBX2.out, HSM.out, ← q1, ← q2, ← q3]; clear hw7 hw6 ha2 hb2; refine ⟨?_, ?_, rfl⟩ <;> omega⟩
            clear ha hb HQ HMX HBX2 HSM
            go_wp2
            go_roundg (n + 1 - (k + 1))
            case measure => clear hw7 hw6; omega
            case rel => exact ⟨k + 1, _, _, _, by go_num, rfl, rfl, rfl, by clear hw7 hw6; omega, by clear hw7 hw6; omega, HQ2, HBS⟩
          · have ha2 : ((m : Int) > qa) = True := by rw [eq_iff_iff]; constructor <;> intro h <;> first | exact trivial | exact ha | exact ha h | exact h.elim
            have hb2 : ((q : Int) > qb) = False := by rw [eq_iff_iff]; constructor <;> intro h <;> first | exact trivial | exact hb | exact hb h | exact h.elim
            have HQ2 : Aside0 ((m : Int) = mx (k + 1) ∧ qb = bx (k + 1) ∧ qc + (m : Int) = sm (k + 1)) := ⟨by obtain ⟨q1, q2, q3⟩ := HQ.out; rw [HMX.out, HBX2.out, HSM.out, ← q1, ← q2, ← q3]; clear hw7 hw6 ha2 hb2; refine ⟨?_, ?_, rfl⟩ <;> omega⟩
            clear ha hb HQ HMX HBX2 HSM
            go_wp2
            go_roundg (n + 1 - (k + 1))
            case measure => clear hw7 hw6; omega
            case rel => exact ⟨k + 1, _, _, _, by go_num, rfl, rfl, rfl, by clear hw7 hw6; omega, by clear hw7 hw6; omega, HQ2, HBS⟩
          · have ha2 : ((m : Int) > qa) = False := by rw [eq_iff_iff]; constructor <;> intro h <;> first | exact trivial | exact ha | exact ha h | exact h.elim
            have hb2 : ((q : Int) > qb) = True := by rw [eq_iff_iff]; constructor <;> intro h <;> first | exact trivial | exact hb | exact hb h | exact h.elim
            have HQ2 : Aside0 (qa = mx (k + 1) ∧ (q : Int) = bx (k + 1) ∧ qc + (m : Int) = sm (k + 1)) := ⟨by obtain ⟨q1, q2, q3⟩ := HQ.out; rw [HMX.out, HBX2.out, HSM.out, ← q1, ← q2, ← q3]; clear hw7 hw6 ha2 hb2; refine ⟨?_, ?_, rfl⟩ <;> omega⟩
            clear ha hb HQ HMX HBX2 HSM
            go_wp2
            go_roundg (n + 1 - (k + 1))
            case measure => clear hw7 hw6; omega
            case rel => exact ⟨k + 1, _, _, _, by go_num, rfl, rfl, rfl, by clear hw7 hw6; omega, by clear hw7 hw6; omega, HQ2, HBS⟩
          · have ha2 : ((m : Int) > qa) = False := by rw [eq_iff_iff]; constructor <;> intro h <;> first | exact trivial | exact ha | exact ha h | exact h.elim
            have hb2 : ((q : Int) > qb) = False := by rw [eq_iff_iff]; constructor <;> intro h <;> first | exact trivial | exact hb | exact hb h | exact h.elim
            have HQ2 : Aside0 (qa = mx (k + 1) ∧ qb = bx (k + 1) ∧ qc + (m : Int) = sm (k + 1)) := ⟨by obtain ⟨q1, q2, q3⟩ := HQ.out; rw [HMX.out, HBX2.out, HSM.out, ← q1, ← q2, ← q3]; clear hw7 hw6 ha2 hb2; refine ⟨?_, ?_, rfl⟩ <;> omega⟩
            clear ha hb HQ HMX HBX2 HSM
            go_wp2
            go_roundg (n + 1 - (k + 1))
            case measure => clear hw7 hw6; omega
            case rel => exact ⟨k + 1, _, _, _, by go_num, rfl, rfl, rfl, by clear hw7 hw6; omega, by clear hw7 hw6; omega, HQ2, HBS⟩
    · have hkz : ¬ (k : Int) ≤ (n : Int) := by omega
      obtain rfl : k = n + 1 := by omega
      obtain ⟨q1, q2, q3⟩ := HQ.out
      rw [HG.out.mxe] at q1
      rw [HG.out.bxe] at q2
      rw [HG.out.sme] at q3
      subst q1 q2 q3
      clear HQ
      have n_ := Aside0.mk (Kd.C_below K1.out HBS.out)
      clear K1
      have K1 := n_
      clear n_
      have n_ := Aside0.mk (Kd.C_below KL.out HBS.out)
      clear KL
      have KL := n_
      clear n_
      have n_ := Aside0.mk (Kd.C_below KB.out HBS.out)
      clear KB
      have KB := n_
      clear n_
      have n_ := Aside0.mk (Kd.C_below KA.out HBS.out)
      clear KA
      have KA := n_
      clear n_
      have n_ := Aside0.mk (Kd.C_below KM.out HBS.out)
      clear KM
      have KM := n_
      clear n_
      have n_ := Aside0.mk (below_step HB.out HBS.out)
      clear HB HBS
      have HB := n_
      clear n_
      go_wp2_with fail
      refine (HG.out.mm _ _ _ KMe KM.out).mono ?_
      rintro e w22_ ⟨AKT_, cKT_, rfl, KTe, hKT_, hb⟩
      have KT_ := Aside0.mk hKT_
      clear hKT_
      have n_ := Aside0.mk (Kd.C_below K1.out hb)
      clear K1
      have K1 := n_
      clear n_
      have n_ := Aside0.mk (Kd.C_below KL.out hb)
      clear KL
      have KL := n_
      clear n_
      have n_ := Aside0.mk (Kd.C_below KB.out hb)
      clear KB
      have KB := n_
      clear n_
      have n_ := Aside0.mk (Kd.C_below KA.out hb)
      clear KA
      have KA := n_
      clear n_
      have n_ := Aside0.mk (Kd.C_below KM.out hb)
      clear KM
      have KM := n_
      clear n_
      have n_ := Aside0.mk (below_step HB.out hb)
      clear HB
      have HB := n_
      clear n_
      clear hb
      have KT := KT_
      clear KT_
      go_wp2_with fail
      refine (HG.out.mt _ _ _ KMe KM.out).mono ?_
      rintro e w23_ ⟨rfl, hb⟩
      have n_ := Aside0.mk (Kd.C_below K1.out hb)
      clear K1
      have K1 := n_
      clear n_
      have n_ := Aside0.mk (Kd.C_below KL.out hb)
      clear KL
      have KL := n_
      clear n_
      have n_ := Aside0.mk (Kd.C_below KB.out hb)
      clear KB
      have KB := n_
      clear n_
      have n_ := Aside0.mk (Kd.C_below KA.out hb)
      clear KA
      have KA := n_
      clear n_
      have n_ := Aside0.mk (Kd.C_below KM.out hb)
      clear KM
      have KM := n_
      clear n_
      have n_ := Aside0.mk (Kd.C_below KT.out hb)
      clear KT
      have KT := n_
      clear n_
      have n_ := Aside0.mk (below_step HB.out hb)
      clear HB
      have HB := n_
      clear n_
      clear hb
      go_wp2_with fail
      refine (HG.out.ms _ _ _ KMe KM.out).mono ?_
      rintro e w24_ ⟨rfl, hb⟩
      have n_ := Aside0.mk (Kd.C_below K1.out hb)
      clear K1
      have K1 := n_
      clear n_
      have n_ := Aside0.mk (Kd.C_below KL.out hb)
      clear KL
      have KL := n_
      clear n_
      have n_ := Aside0.mk (Kd.C_below KB.out hb)
      clear KB
      have KB := n_
      clear n_
      have n_ := Aside0.mk (Kd.C_below KA.out hb)
      clear KA
      have KA := n_
      clear n_
      have n_ := Aside0.mk (Kd.C_below KM.out hb)
      clear KM
      have KM := n_
      clear n_
      have n_ := Aside0.mk (Kd.C_below KT.out hb)
      clear KT
      have KT := n_
      clear n_
      have n_ := Aside0.mk (below_step HB.out hb)
      clear HB
      have HB := n_
      clear n_
      clear hb
      clear KM
      go_wp2_with fail
      refine (HG.out.same _ _ _ _ _ KTe KT.out KLe KL.out).mono ?_
      rintro e w25_ ⟨rfl, hb⟩
      have n_ := Aside0.mk (Kd.C_below K1.out hb)
      clear K1
      have K1 := n_
      clear n_
      have n_ := Aside0.mk (Kd.C_below KL.out hb)
      clear KL
      have KL := n_
      clear n_
      have n_ := Aside0.mk (Kd.C_below KB.out hb)
      clear KB
      have KB := n_
      clear n_
      have n_ := Aside0.mk (Kd.C_below KA.out hb)
      clear KA
      have KA := n_
      clear n_
      have n_ := Aside0.mk (Kd.C_below KT.out hb)
      clear KT
      have KT := n_
      clear n_
      have n_ := Aside0.mk (below_step HB.out hb)
      clear HB
      have HB := n_
      clear n_
      clear hb
      clear KT
      go_wp2_with fail
      refine (HJN.out _ _ _ _ _ KBe KB.out KAe KA.out).mono ?_
      rintro e w26_ ⟨AKW_, cKW_, rfl, KWe, hKW_, hb⟩
      have KW_ := Aside0.mk hKW_
      clear hKW_
      have n_ := Aside0.mk (Kd.C_below K1.out hb)
      clear K1
      have K1 := n_
      clear n_
      have n_ := Aside0.mk (Kd.C_below KL.out hb)
      clear KL
      have KL := n_
      clear n_
      have n_ := Aside0.mk (Kd.C_below KB.out hb)
      clear KB
      have KB := n_
      clear n_
      have n_ := Aside0.mk (Kd.C_below KA.out hb)
      clear KA
      have KA := n_
      clear n_
      have n_ := Aside0.mk (below_step HB.out hb)
      clear HB
      have HB := n_
      clear n_
      clear hb
      have KW := KW_
      clear KW_
      have hroot := HRT.out
      have hsz := HSZ.out
      obtain ⟨ad9, e9_, hx9⟩ := Kd.at_int KL.out (0 : Int) (by omega) (by omega)
      cases e9_
      rw [hroot] at hx9
      have hw1 : IntKind.i64.wrap ((nb : Int) + 1) = (nb : Int) + 1 := by rw [i64_w]; unfold wrap64; omega
      have hw2 : IntKind.i64.wrap ((nb : Int) + (na : Int)) = (nb : Int) + (na : Int) := by clear hw1; rw [i64_w]; unfold wrap64; omega
      have hw3 : IntKind.i64.wrap ((nb : Int) + (na : Int) + 1) = (n : Int) := by clear hw1 hw2; rw [i64_w]; unfold wrap64; omega
      have hp0 : (0 : Int) < (n : Int) := by clear hw1 hw2 hw3; omega
      clear hsz
      rw [show (0 : Int).toNat = 0 from rfl] at hx9
      rw [Addr.add_zero'] at hx9
      go_wp2_with fail
      refine (HG.out.same _ _ _ _ _ KWe KW.out KLe KL.out).mono ?_
      rintro e w27_ ⟨rfl, hb⟩
      replace hx9 := (hb.cell (World.block_lt_of_cell? _ _ hx9)).trans hx9
      have n_ := Aside0.mk (Kd.C_below K1.out hb)
      clear K1
      have K1 := n_
      clear n_
      have n_ := Aside0.mk (Kd.C_below KL.out hb)
      clear KL
      have KL := n_
      clear n_
      have n_ := Aside0.mk (Kd.C_below KB.out hb)
      clear KB
      have KB := n_
      clear n_
      have n_ := Aside0.mk (Kd.C_below KA.out hb)
      clear KA
      have KA := n_
      clear n_
      have n_ := Aside0.mk (Kd.C_below KW.out hb)
      clear KW
      have KW := n_
      clear n_
      have n_ := Aside0.mk (below_step HB.out hb)
      clear HB
      have HB := n_
      clear n_
      clear hb
      clear KW
      go_wp2_with fail
      refine (HU.out.dj _ _ _ K1e K1.out).mono ?_
      rintro e w28_ ⟨AKX_, cKX_, AKY_, cKY_, rfl, KXe, hKX_, KYe, hKY_, hb⟩
      have KX_ := Aside0.mk hKX_
      clear hKX_
      have KY_ := Aside0.mk hKY_
      clear hKY_
      have n_ := Aside0.mk (Kd.C_below K1.out hb)
      clear K1
      have K1 := n_
      clear n_
      have n_ := Aside0.mk (Kd.C_below KL.out hb)
      clear KL
      have KL := n_
      clear n_
      have n_ := Aside0.mk (Kd.C_below KB.out hb)
      clear KB
      have KB := n_
      clear n_
      have n_ := Aside0.mk (Kd.C_below KA.out hb)
      clear KA
      have KA := n_
      clear n_
      have n_ := Aside0.mk (below_step HB.out hb)
      clear HB
      have HB := n_
      clear n_
      clear hb
      have KX := KX_
      clear KX_
      have KY := KY_
      clear KY_
      clear hx9 hw1 hw2 hw3
      clear KA
      clear KB
      clear KL
      go_wp2_with fail
      refine (HU.out.j1 _ _ _ _ _ KXe KX.out KYe KY.out).mono ?_
      rintro e w29_ ⟨AKJ_, cKJ_, rfl, KJe, hKJ_, hb⟩
      have KJ_ := Aside0.mk hKJ_
      clear hKJ_
      have n_ := Aside0.mk (Kd.C_below K1.out hb)
      clear K1
      have K1 := n_
      clear n_
      have n_ := Aside0.mk (Kd.C_below KX.out hb)
      clear KX
      have KX := n_
      clear n_
      have n_ := Aside0.mk (Kd.C_below KY.out hb)
      clear KY
      have KY := n_
      clear n_
      have n_ := Aside0.mk (below_step HB.out hb)
      clear HB
      have HB := n_
      clear n_
      clear hb
      have KJ := KJ_
      clear KJ_
      go_wp2_with fail
      refine (HU.out.j2 _ _ _ _ _ KXe KX.out KYe KY.out).mono ?_
      rintro e w30_ ⟨AKI_, cKI_, rfl, KIe, hKI_, hb⟩
      have KI_ := Aside0.mk hKI_
      clear hKI_
      have n_ := Aside0.mk (Kd.C_below K1.out hb)
      clear K1
      have K1 := n_
      clear n_
      have n_ := Aside0.mk (Kd.C_below KX.out hb)
      clear KX
      have KX := n_
      clear n_
      have n_ := Aside0.mk (Kd.C_below KY.out hb)
      clear KY
      have KY := n_
      clear n_
      have n_ := Aside0.mk (Kd.C_below KJ.out hb)
      clear KJ
      have KJ := n_
      clear n_
      have n_ := Aside0.mk (below_step HB.out hb)
      clear HB
      have HB := n_
      clear n_
      clear hb
      have KI := KI_
      clear KI_
      go_wp2_with fail
      refine (HU.out.dd _ _ _ K1e K1.out).mono ?_
      rintro e w31_ ⟨AKZ_, cKZ_, rfl, KZe, hKZ_, hb⟩
      have KZ_ := Aside0.mk hKZ_
      clear hKZ_
      have n_ := Aside0.mk (Kd.C_below K1.out hb)
      clear K1
      have K1 := n_
      clear n_
      have n_ := Aside0.mk (Kd.C_below KX.out hb)
      clear KX
      have KX := n_
      clear n_
      have n_ := Aside0.mk (Kd.C_below KY.out hb)
      clear KY
      have KY := n_
      clear n_
      have n_ := Aside0.mk (Kd.C_below KJ.out hb)
      clear KJ
      have KJ := n_
      clear n_
      have n_ := Aside0.mk (Kd.C_below KI.out hb)
      clear KI
      have KI := n_
      clear n_
      have n_ := Aside0.mk (below_step HB.out hb)
      clear HB
      have HB := n_
      clear n_
      clear hb
      have KZ := KZ_
      clear KZ_
      clear K1
      go_wp2_with fail
      refine (HU.out.t1 _ _ _ KZe KZ.out).mono ?_
      rintro e w32_ ⟨AKR_, cKR_, rfl, KRe, hKR_, hb⟩
      have KR_ := Aside0.mk hKR_
      clear hKR_
      have n_ := Aside0.mk (Kd.C_below KX.out hb)
      clear KX
      have KX := n_
      clear n_
      have n_ := Aside0.mk (Kd.C_below KY.out hb)
      clear KY
      have KY := n_
      clear n_
      have n_ := Aside0.mk (Kd.C_below KJ.out hb)
      clear KJ
      have KJ := n_
      clear n_
      have n_ := Aside0.mk (Kd.C_below KI.out hb)
      clear KI
      have KI := n_
      clear n_
      have n_ := Aside0.mk (Kd.C_below KZ.out hb)
      clear KZ
      have KZ := n_
      clear n_
      have n_ := Aside0.mk (below_step HB.out hb)
      clear HB
      have HB := n_
      clear n_
      clear hb
      have KR := KR_
      clear KR_
      go_wp2_with fail
      refine (HU.out.t2 _ _ _ KZe KZ.out).mono ?_
      rintro e w33_ ⟨AKQ_, cKQ_, rfl, KQe, hKQ_, hb⟩
      have KQ_ := Aside0.mk hKQ_
      clear hKQ_
      have n_ := Aside0.mk (Kd.C_below KX.out hb)
      clear KX
      have KX := n_
      clear n_
      have n_ := Aside0.mk (Kd.C_below KY.out hb)
      clear KY
      have KY := n_
      clear n_
      have n_ := Aside0.mk (Kd.C_below KJ.out hb)
      clear KJ
      have KJ := n_
      clear n_
      have n_ := Aside0.mk (Kd.C_below KI.out hb)
      clear KI
      have KI := n_
      clear n_
      have n_ := Aside0.mk (Kd.C_below KZ.out hb)
      clear KZ
      have KZ := n_
      clear n_
      have n_ := Aside0.mk (Kd.C_below KR.out hb)
      clear KR
      have KR := n_
      clear n_
      have n_ := Aside0.mk (below_step HB.out hb)
      clear HB
      have HB := n_
      clear n_
      clear hb
      have KQ := KQ_
      clear KQ_
      clear KZ
      go_wp2_with fail
      refine (HU.out.sj _ _ _ _ _ KJe KJ.out KIe KI.out).mono ?_
      rintro e w34_ ⟨rfl, hb⟩
      have n_ := Aside0.mk (Kd.C_below KX.out hb)
      clear KX
      have KX := n_
      clear n_
      have n_ := Aside0.mk (Kd.C_below KY.out hb)
      clear KY
      have KY := n_
      clear n_
      have n_ := Aside0.mk (Kd.C_below KJ.out hb)
      clear KJ
      have KJ := n_
      clear n_
      have n_ := Aside0.mk (Kd.C_below KI.out hb)
      clear KI
      have KI := n_
      clear n_
      have n_ := Aside0.mk (Kd.C_below KR.out hb)
      clear KR
      have KR := n_
      clear n_
      have n_ := Aside0.mk (Kd.C_below KQ.out hb)
      clear KQ
      have KQ := n_
      clear n_
      have n_ := Aside0.mk (below_step HB.out hb)
      clear HB
      have HB := n_
      clear n_
      clear hb
      clear KI
      go_wp2_with fail
      refine (HU.out.sd _ _ _ _ _ KRe KR.out KQe KQ.out).mono ?_
      rintro e w35_ ⟨rfl, hb⟩
      have n_ := Aside0.mk (Kd.C_below KX.out hb)
      clear KX
      have KX := n_
      clear n_
      have n_ := Aside0.mk (Kd.C_below KY.out hb)
      clear KY
      have KY := n_
      clear n_
      have n_ := Aside0.mk (Kd.C_below KJ.out hb)
      clear KJ
      have KJ := n_
      clear n_
      have n_ := Aside0.mk (Kd.C_below KR.out hb)
      clear KR
      have KR := n_
      clear n_
      have n_ := Aside0.mk (Kd.C_below KQ.out hb)
      clear KQ
      have KQ := n_
      clear n_
      have n_ := Aside0.mk (below_step HB.out hb)
      clear HB
      have HB := n_
      clear n_
      clear hb
      clear KR
      clear KQ
      go_wp2_with fail
      refine (HPX.out _ _ _ KJe KJ.out).mono ?_
      rintro e w36_ ⟨AKC_, cKC_, AKD_, cKD_, rfl, KCe, hKC_, KDe, hKD_, hb⟩
      have KC_ := Aside0.mk hKC_
      clear hKC_
      have KD_ := Aside0.mk hKD_
      clear hKD_
      have n_ := Aside0.mk (Kd.C_below KX.out hb)
      clear KX
      have KX := n_
      clear n_
      have n_ := Aside0.mk (Kd.C_below KY.out hb)
      clear KY
      have KY := n_
      clear n_
      have n_ := Aside0.mk (Kd.C_below KJ.out hb)
      clear KJ
      have KJ := n_
      clear n_
      have n_ := Aside0.mk (below_step HB.out hb)
      clear HB
      have HB := n_
      clear n_
      clear hb
      have KC := KC_
      clear KC_
      have KD := KD_
      clear KD_
      clear KJ
      go_wp2_with fail
      refine (HSX.out _ _ _ _ _ KCe KC.out KXe KX.out).mono ?_
      rintro e w37_ ⟨rfl, hb⟩
      have n_ := Aside0.mk (Kd.C_below KX.out hb)
      clear KX
      have KX := n_
      clear n_
      have n_ := Aside0.mk (Kd.C_below KY.out hb)
      clear KY
      have KY := n_
      clear n_
      have n_ := Aside0.mk (Kd.C_below KC.out hb)
      clear KC
      have KC := n_
      clear n_
      have n_ := Aside0.mk (Kd.C_below KD.out hb)
      clear KD
      have KD := n_
      clear n_
      have n_ := Aside0.mk (below_step HB.out hb)
      clear HB
      have HB := n_
      clear n_
      clear hb
      clear KC
      clear KX
      go_wp2_with fail
      refine (HSY.out _ _ _ _ _ KDe KD.out KYe KY.out).mono ?_
      rintro e w38_ ⟨rfl, hb⟩
      have n_ := Aside0.mk (Kd.C_below KY.out hb)
      clear KY
      have KY := n_
      clear n_
      have n_ := Aside0.mk (Kd.C_below KD.out hb)
      clear KD
      have KD := n_
      clear n_
      have n_ := Aside0.mk (below_step HB.out hb)
      clear HB
      have HB := n_
      clear n_
      clear hb
      clear KD
      clear KY
      go_wp2
      go_ret
      exact ⟨rfl, HB.out⟩

end Go.Proofs.Ytmcjggjkfkkpbaa.PrintA
