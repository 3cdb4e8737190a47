-- written by this session's own driver (wip/gen.py) with the kit's print and contracts of our own
import Derived.Test.YtmcjggjkfkkpbaaPrintA0
import Derived.Test.YtmcjggjkfkkpbaaPrintA11
namespace Go.Proofs.Ytmcjggjkfkkpbaa.PrintA
open Go.RowKit Go.Proofs.YtmcjggjkfkkpbaaLib Go.Proofs.YtmcjggjkfkkpbaaW.PrintWords Go.Proofs.YtmcjggjkfkkpbaaW.PrintLast Go.Proofs.YtmcjggjkfkkpbaaW.PrintMore
attribute [local go_sem] max2_int min2_int max_two min_two max_three min_three max_four min_four   -- for this text's walks alone
set_option linter.unusedVariables false
set_option linter.unusedSimpArgs false

/-! behind spec_JoinTrees -/
set_option maxHeartbeats 8000000 in
set_option maxRecDepth 100000 in
theorem trees_A1 (code more : List Int) (nc nmo : Nat) (l below above mir : List Int) (n nb na nm : Nat) (tests eggs sum : Int) (T : TF code nc l n below nb above na mir nm tests eggs sum false false) (x y j z : List Int) (nx ny nj nz : Nat) (kk : Int) (rows : List S42) (nr : Nat) (fine : Bool) (U : TS more nmo x nx y ny j nj z nz kk rows nr true fine) (hpx : OnIRR 12 j nj x nx y ny true) (hsx : OnSame x nx) (hsy : OnSame y ny) (hbig : OnBig code nc more nmo)
    (A0 A1 : Option Addr) (c0 c1 : Nat) (w : World) (K0e : nc ≤ c0) (hK0 : Kd.C (Kd.int .u8) w A0 nc code) (K1e : nmo ≤ c1) (hK1 : Kd.C (Kd.int .u8) w A1 nmo more) :
    Calls Try.prog 3 #[.slice A0 nc c0, .slice A1 nmo c1] w fun e w' => e = .returned (.bool true) ∧ Below w.heap.size w w' := by
  have hu := Try.underlying42
  have K0 := Aside0.mk hK0
  have K1 := Aside0.mk hK1
  clear hK0 hK1
  have HT := Aside0.mk T
  have HU := Aside0.mk U
  clear T U
  have HBIG := Aside0.mk hbig
  clear hbig
  have HPX := Aside0.mk hpx
  have HSX := Aside0.mk hsx
  have HSY := Aside0.mk hsy
  clear hpx hsx hsy
  have HB := Aside0.mk (Below.refl w.heap.size w)
  go_enter Try.func3, Try.ntmps3
  go_wp2_with fail
  refine (HBIG.out _ _ _ _ _ K0e K0.out K1e K1.out).mono ?_
  rintro e w1_ ⟨rfl, hb⟩
  have n_ := Aside0.mk (Kd.C_below K0.out hb)
  clear K0
  have K0 := n_
  clear n_
  have n_ := Aside0.mk (Kd.C_below K1.out hb)
  clear K1
  have K1 := n_
  clear n_
  have n_ := Aside0.mk (below_step HB.out hb)
  clear HB
  have HB := n_
  clear n_
  clear hb
  go_wp2_with fail
  refine (HT.out.draw _ _ _ K0e K0.out).mono ?_
  rintro e w2_ ⟨AKL_, cKL_, rfl, KLe, hKL_, hb⟩
  have KL_ := Aside0.mk hKL_
  clear hKL_
  have n_ := Aside0.mk (Kd.C_below K0.out hb)
  clear K0
  have K0 := n_
  clear n_
  have n_ := Aside0.mk (Kd.C_below K1.out hb)
  clear K1
  have K1 := n_
  clear n_
  have n_ := Aside0.mk (below_step HB.out hb)
  clear HB
  have HB := n_
  clear n_
  clear hb
  have KL := KL_
  clear KL_
  clear K0
  go_wp2_with fail
  refine (HT.out.t1 _ _ _ KLe KL.out).mono ?_
  rintro e w3_ ⟨rfl, hb⟩
  have n_ := Aside0.mk (Kd.C_below K1.out hb)
  clear K1
  have K1 := n_
  clear n_
  have n_ := Aside0.mk (Kd.C_below KL.out hb)
  clear KL
  have KL := n_
  clear n_
  have n_ := Aside0.mk (below_step HB.out hb)
  clear HB
  have HB := n_
  clear n_
  clear hb
  go_wp2_with fail
  refine (HT.out.t2 _ _ _ KLe KL.out).mono ?_
  rintro e w4_ ⟨rfl, hb⟩
  have n_ := Aside0.mk (Kd.C_below K1.out hb)
  clear K1
  have K1 := n_
  clear n_
  have n_ := Aside0.mk (Kd.C_below KL.out hb)
  clear KL
  have KL := n_
  clear n_
  have n_ := Aside0.mk (below_step HB.out hb)
  clear HB
  have HB := n_
  clear n_
  clear hb
  go_wp2_with fail
  refine (HT.out.e1 _ _ _ KLe KL.out).mono ?_
  rintro e w5_ ⟨rfl, hb⟩
  have n_ := Aside0.mk (Kd.C_below K1.out hb)
  clear K1
  have K1 := n_
  clear n_
  have n_ := Aside0.mk (Kd.C_below KL.out hb)
  clear KL
  have KL := n_
  clear n_
  have n_ := Aside0.mk (below_step HB.out hb)
  clear HB
  have HB := n_
  clear n_
  clear hb
  go_wp2_with fail
  refine (HT.out.e2 _ _ _ KLe KL.out).mono ?_
  rintro e w6_ ⟨rfl, hb⟩
  have n_ := Aside0.mk (Kd.C_below K1.out hb)
  clear K1
  have K1 := n_
  clear n_
  have n_ := Aside0.mk (Kd.C_below KL.out hb)
  clear KL
  have KL := n_
  clear n_
  have n_ := Aside0.mk (below_step HB.out hb)
  clear HB
  have HB := n_
  clear n_
  clear hb
  go_wp2_with fail
  refine (HT.out.s1 _ _ _ KLe KL.out).mono ?_
  rintro e w7_ ⟨rfl, hb⟩
  have n_ := Aside0.mk (Kd.C_below K1.out hb)
  clear K1
  have K1 := n_
  clear n_
  have n_ := Aside0.mk (Kd.C_below KL.out hb)
  clear KL
  have KL := n_
  clear n_
  have n_ := Aside0.mk (below_step HB.out hb)
  clear HB
  have HB := n_
  clear n_
  clear hb
  go_wp2_with fail
  refine (HT.out.s2 _ _ _ KLe KL.out).mono ?_
  rintro e w8_ ⟨rfl, hb⟩
  have n_ := Aside0.mk (Kd.C_below K1.out hb)
  clear K1
  have K1 := n_
  clear n_
  have n_ := Aside0.mk (Kd.C_below KL.out hb)
  clear KL
  have KL := n_
  clear n_
  have n_ := Aside0.mk (below_step HB.out hb)
  clear HB
  have HB := n_
  clear n_
  clear hb
  go_wp2_with fail
  refine (HT.out.p1 _ _ _ KLe KL.out).mono ?_
  rintro e w9_ ⟨AKB_, cKB_, AKA_, cKA_, rfl, KBe, hKB_, KAe, hKA_, hb⟩
  have KB_ := Aside0.mk hKB_
  clear hKB_
  have KA_ := Aside0.mk hKA_
  clear hKA_
  have n_ := Aside0.mk (Kd.C_below K1.out hb)
  clear K1
  have K1 := n_
  clear n_
  have n_ := Aside0.mk (Kd.C_below KL.out hb)
  clear KL
  have KL := n_
  clear n_
  have n_ := Aside0.mk (below_step HB.out hb)
  clear HB
  have HB := n_
  clear n_
  clear hb
  have KB := KB_
  clear KB_
  have KA := KA_
  clear KA_
  go_wp2_with fail
  refine (HT.out.p2 _ _ _ KLe KL.out).mono ?_
  rintro e w10_ ⟨AKC_, cKC_, AKD_, cKD_, rfl, KCe, hKC_, KDe, hKD_, hb⟩
  have KC_ := Aside0.mk hKC_
  clear hKC_
  have KD_ := Aside0.mk hKD_
  clear hKD_
  have n_ := Aside0.mk (Kd.C_below K1.out hb)
  clear K1
  have K1 := n_
  clear n_
  have n_ := Aside0.mk (Kd.C_below KL.out hb)
  clear KL
  have KL := n_
  clear n_
  have n_ := Aside0.mk (Kd.C_below KB.out hb)
  clear KB
  have KB := n_
  clear n_
  have n_ := Aside0.mk (Kd.C_below KA.out hb)
  clear KA
  have KA := n_
  clear n_
  have n_ := Aside0.mk (below_step HB.out hb)
  clear HB
  have HB := n_
  clear n_
  clear hb
  have KC := KC_
  clear KC_
  have KD := KD_
  clear KD_
  go_wp2_with fail
  refine (HT.out.m1 _ _ _ KLe KL.out).mono ?_
  rintro e w11_ ⟨AKM_, cKM_, rfl, KMe, hKM_, hb⟩
  have KM_ := Aside0.mk hKM_
  clear hKM_
  have n_ := Aside0.mk (Kd.C_below K1.out hb)
  clear K1
  have K1 := n_
  clear n_
  have n_ := Aside0.mk (Kd.C_below KL.out hb)
  clear KL
  have KL := n_
  clear n_
  have n_ := Aside0.mk (Kd.C_below KB.out hb)
  clear KB
  have KB := n_
  clear n_
  have n_ := Aside0.mk (Kd.C_below KA.out hb)
  clear KA
  have KA := n_
  clear n_
  have n_ := Aside0.mk (Kd.C_below KC.out hb)
  clear KC
  have KC := n_
  clear n_
  have n_ := Aside0.mk (Kd.C_below KD.out hb)
  clear KD
  have KD := n_
  clear n_
  have n_ := Aside0.mk (below_step HB.out hb)
  clear HB
  have HB := n_
  clear n_
  clear hb
  have KM := KM_
  clear KM_
  go_wp2_with fail
  refine (HT.out.m2 _ _ _ KLe KL.out).mono ?_
  rintro e w12_ ⟨AKN_, cKN_, rfl, KNe, hKN_, hb⟩
  have KN_ := Aside0.mk hKN_
  clear hKN_
  have n_ := Aside0.mk (Kd.C_below K1.out hb)
  clear K1
  have K1 := n_
  clear n_
  have n_ := Aside0.mk (Kd.C_below KL.out hb)
  clear KL
  have KL := n_
  clear n_
  have n_ := Aside0.mk (Kd.C_below KB.out hb)
  clear KB
  have KB := n_
  clear n_
  have n_ := Aside0.mk (Kd.C_below KA.out hb)
  clear KA
  have KA := n_
  clear n_
  have n_ := Aside0.mk (Kd.C_below KC.out hb)
  clear KC
  have KC := n_
  clear n_
  have n_ := Aside0.mk (Kd.C_below KD.out hb)
  clear KD
  have KD := n_
  clear n_
  have n_ := Aside0.mk (Kd.C_below KM.out hb)
  clear KM
  have KM := n_
  clear n_
  have n_ := Aside0.mk (below_step HB.out hb)
  clear HB
  have HB := n_
  clear n_
  clear hb
  have KN := KN_
  clear KN_
  go_wp2_with fail
  refine (HT.out.b _ _ _ _ _ KBe KB.out KCe KC.out).mono ?_
  rintro e w13_ ⟨rfl, hb⟩
  have n_ := Aside0.mk (Kd.C_below K1.out hb)
  clear K1
  have K1 := n_
  clear n_
  have n_ := Aside0.mk (Kd.C_below KL.out hb)
  clear KL
  have KL := n_
  clear n_
  have n_ := Aside0.mk (Kd.C_below KB.out hb)
  clear KB
  have KB := n_
  clear n_
  have n_ := Aside0.mk (Kd.C_below KA.out hb)
  clear KA
  have KA := n_
  clear n_
  have n_ := Aside0.mk (Kd.C_below KC.out hb)
  clear KC
  have KC := n_
  clear n_
  have n_ := Aside0.mk (Kd.C_below KD.out hb)
  clear KD
  have KD := n_
  clear n_
  have n_ := Aside0.mk (Kd.C_below KM.out hb)
  clear KM
  have KM := n_
  clear n_
  have n_ := Aside0.mk (Kd.C_below KN.out hb)
  clear KN
  have KN := n_
  clear n_
  have n_ := Aside0.mk (below_step HB.out hb)
  clear HB
  have HB := n_
  clear n_
  clear hb
  clear KC
  go_wp2_with fail
  refine (HT.out.a _ _ _ _ _ KAe KA.out KDe KD.out).mono ?_
  rintro e w14_ ⟨rfl, hb⟩
  have n_ := Aside0.mk (Kd.C_below K1.out hb)
  clear K1
  have K1 := n_
  clear n_
  have n_ := Aside0.mk (Kd.C_below KL.out hb)
  clear KL
  have KL := n_
  clear n_
  have n_ := Aside0.mk (Kd.C_below KB.out hb)
  clear KB
  have KB := n_
  clear n_
  have n_ := Aside0.mk (Kd.C_below KA.out hb)
  clear KA
  have KA := n_
  clear n_
  have n_ := Aside0.mk (Kd.C_below KD.out hb)
  clear KD
  have KD := n_
  clear n_
  have n_ := Aside0.mk (Kd.C_below KM.out hb)
  clear KM
  have KM := n_
  clear n_
  have n_ := Aside0.mk (Kd.C_below KN.out hb)
  clear KN
  have KN := n_
  clear n_
  have n_ := Aside0.mk (below_step HB.out hb)
  clear HB
  have HB := n_
  clear n_
  clear hb
  clear KD
  go_wp2_with fail
  refine (HT.out.m _ _ _ _ _ KMe KM.out KNe KN.out).mono ?_
  rintro e w15_ ⟨rfl, hb⟩
  have n_ := Aside0.mk (Kd.C_below K1.out hb)
  clear K1
  have K1 := n_
  clear n_
  have n_ := Aside0.mk (Kd.C_below KL.out hb)
  clear KL
  have KL := n_
  clear n_
  have n_ := Aside0.mk (Kd.C_below KB.out hb)
  clear KB
  have KB := n_
  clear n_
  have n_ := Aside0.mk (Kd.C_below KA.out hb)
  clear KA
  have KA := n_
  clear n_
  have n_ := Aside0.mk (Kd.C_below KM.out hb)
  clear KM
  have KM := n_
  clear n_
  have n_ := Aside0.mk (Kd.C_below KN.out hb)
  clear KN
  have KN := n_
  clear n_
  have n_ := Aside0.mk (below_step HB.out hb)
  clear HB
  have HB := n_
  clear n_
  clear hb
  clear KN
  go_wp2_with fail
  refine (HT.out.i1 _ _ _ KLe KL.out).mono ?_
  rintro e w16_ ⟨rfl, hb⟩
  have n_ := Aside0.mk (Kd.C_below K1.out hb)
  clear K1
  have K1 := n_
  clear n_
  have n_ := Aside0.mk (Kd.C_below KL.out hb)
  clear KL
  have KL := n_
  clear n_
  have n_ := Aside0.mk (Kd.C_below KB.out hb)
  clear KB
  have KB := n_
  clear n_
  have n_ := Aside0.mk (Kd.C_below KA.out hb)
  clear KA
  have KA := n_
  clear n_
  have n_ := Aside0.mk (Kd.C_below KM.out hb)
  clear KM
  have KM := n_
  clear n_
  have n_ := Aside0.mk (below_step HB.out hb)
  clear HB
  have HB := n_
  clear n_
  clear hb
  go_wp2_with fail
  refine (HT.out.i1 _ _ _ KLe KL.out).mono ?_
  rintro e w17_ ⟨rfl, hb⟩
  have n_ := Aside0.mk (Kd.C_below K1.out hb)
  clear K1
  have K1 := n_
  clear n_
  have n_ := Aside0.mk (Kd.C_below KL.out hb)
  clear KL
  have KL := n_
  clear n_
  have n_ := Aside0.mk (Kd.C_below KB.out hb)
  clear KB
  have KB := n_
  clear n_
  have n_ := Aside0.mk (Kd.C_below KA.out hb)
  clear KA
  have KA := n_
  clear n_
  have n_ := Aside0.mk (Kd.C_below KM.out hb)
  clear KM
  have KM := n_
  clear n_
  have n_ := Aside0.mk (below_step HB.out hb)
  clear HB
  have HB := n_
  clear n_
  clear hb
  go_wp2_with fail
  refine (HT.out.i2 _ _ _ KLe KL.out).mono ?_
  rintro e w18_ ⟨rfl, hb⟩
  have n_ := Aside0.mk (Kd.C_below K1.out hb)
  clear K1
  have K1 := n_
  clear n_
  have n_ := Aside0.mk (Kd.C_below KL.out hb)
  clear KL
  have KL := n_
  clear n_
  have n_ := Aside0.mk (Kd.C_below KB.out hb)
  clear KB
  have KB := n_
  clear n_
  have n_ := Aside0.mk (Kd.C_below KA.out hb)
  clear KA
  have KA := n_
  clear n_
  have n_ := Aside0.mk (Kd.C_below KM.out hb)
  clear KM
  have KM := n_
  clear n_
  have n_ := Aside0.mk (below_step HB.out hb)
  clear HB
  have HB := n_
  clear n_
  clear hb
  clear KA
  clear KB
  clear KM
  clear KL
  go_wp2_with fail
  refine (HU.out.dj _ _ _ K1e K1.out).mono ?_
  rintro e w19_ ⟨AKX_, cKX_, AKY_, cKY_, rfl, KXe, hKX_, KYe, hKY_, hb⟩
  have KX_ := Aside0.mk hKX_
  clear hKX_
  have KY_ := Aside0.mk hKY_
  clear hKY_
  have n_ := Aside0.mk (Kd.C_below K1.out hb)
  clear K1
  have K1 := n_
  clear n_
  have n_ := Aside0.mk (below_step HB.out hb)
  clear HB
  have HB := n_
  clear n_
  clear hb
  have KX := KX_
  clear KX_
  have KY := KY_
  clear KY_
  go_wp2_with fail
  refine (HU.out.j1 _ _ _ _ _ KXe KX.out KYe KY.out).mono ?_
  rintro e w20_ ⟨AKJ_, cKJ_, rfl, KJe, hKJ_, hb⟩
  have KJ_ := Aside0.mk hKJ_
  clear hKJ_
  have n_ := Aside0.mk (Kd.C_below K1.out hb)
  clear K1
  have K1 := n_
  clear n_
  have n_ := Aside0.mk (Kd.C_below KX.out hb)
  clear KX
  have KX := n_
  clear n_
  have n_ := Aside0.mk (Kd.C_below KY.out hb)
  clear KY
  have KY := n_
  clear n_
  have n_ := Aside0.mk (below_step HB.out hb)
  clear HB
  have HB := n_
  clear n_
  clear hb
  have KJ := KJ_
  clear KJ_
  go_wp2_with fail
  refine (HU.out.j2 _ _ _ _ _ KXe KX.out KYe KY.out).mono ?_
  rintro e w21_ ⟨AKI_, cKI_, rfl, KIe, hKI_, hb⟩
  have KI_ := Aside0.mk hKI_
  clear hKI_
  have n_ := Aside0.mk (Kd.C_below K1.out hb)
  clear K1
  have K1 := n_
  clear n_
  have n_ := Aside0.mk (Kd.C_below KX.out hb)
  clear KX
  have KX := n_
  clear n_
  have n_ := Aside0.mk (Kd.C_below KY.out hb)
  clear KY
  have KY := n_
  clear n_
  have n_ := Aside0.mk (Kd.C_below KJ.out hb)
  clear KJ
  have KJ := n_
  clear n_
  have n_ := Aside0.mk (below_step HB.out hb)
  clear HB
  have HB := n_
  clear n_
  clear hb
  have KI := KI_
  clear KI_
  go_wp2_with fail
  refine (HU.out.dd _ _ _ K1e K1.out).mono ?_
  rintro e w22_ ⟨AKZ_, cKZ_, rfl, KZe, hKZ_, hb⟩
  have KZ_ := Aside0.mk hKZ_
  clear hKZ_
  have n_ := Aside0.mk (Kd.C_below K1.out hb)
  clear K1
  have K1 := n_
  clear n_
  have n_ := Aside0.mk (Kd.C_below KX.out hb)
  clear KX
  have KX := n_
  clear n_
  have n_ := Aside0.mk (Kd.C_below KY.out hb)
  clear KY
  have KY := n_
  clear n_
  have n_ := Aside0.mk (Kd.C_below KJ.out hb)
  clear KJ
  have KJ := n_
  clear n_
  have n_ := Aside0.mk (Kd.C_below KI.out hb)
  clear KI
  have KI := n_
  clear n_
  have n_ := Aside0.mk (below_step HB.out hb)
  clear HB
  have HB := n_
  clear n_
  clear hb
  have KZ := KZ_
  clear KZ_
  clear K1
  go_wp2_with fail
  refine (HU.out.t1 _ _ _ KZe KZ.out).mono ?_
  rintro e w23_ ⟨AKR_, cKR_, rfl, KRe, hKR_, hb⟩
  have KR_ := Aside0.mk hKR_
  clear hKR_
  have n_ := Aside0.mk (Kd.C_below KX.out hb)
  clear KX
  have KX := n_
  clear n_
  have n_ := Aside0.mk (Kd.C_below KY.out hb)
  clear KY
  have KY := n_
  clear n_
  have n_ := Aside0.mk (Kd.C_below KJ.out hb)
  clear KJ
  have KJ := n_
  clear n_
  have n_ := Aside0.mk (Kd.C_below KI.out hb)
  clear KI
  have KI := n_
  clear n_
  have n_ := Aside0.mk (Kd.C_below KZ.out hb)
  clear KZ
  have KZ := n_
  clear n_
  have n_ := Aside0.mk (below_step HB.out hb)
  clear HB
  have HB := n_
  clear n_
  clear hb
  have KR := KR_
  clear KR_
  go_wp2_with fail
  refine (HU.out.t2 _ _ _ KZe KZ.out).mono ?_
  rintro e w24_ ⟨AKQ_, cKQ_, rfl, KQe, hKQ_, hb⟩
  have KQ_ := Aside0.mk hKQ_
  clear hKQ_
  have n_ := Aside0.mk (Kd.C_below KX.out hb)
  clear KX
  have KX := n_
  clear n_
  have n_ := Aside0.mk (Kd.C_below KY.out hb)
  clear KY
  have KY := n_
  clear n_
  have n_ := Aside0.mk (Kd.C_below KJ.out hb)
  clear KJ
  have KJ := n_
  clear n_
  have n_ := Aside0.mk (Kd.C_below KI.out hb)
  clear KI
  have KI := n_
  clear n_
  have n_ := Aside0.mk (Kd.C_below KZ.out hb)
  clear KZ
  have KZ := n_
  clear n_
  have n_ := Aside0.mk (Kd.C_below KR.out hb)
  clear KR
  have KR := n_
  clear n_
  have n_ := Aside0.mk (below_step HB.out hb)
  clear HB
  have HB := n_
  clear n_
  clear hb
  have KQ := KQ_
  clear KQ_
  clear KZ
  go_wp2_with fail
  refine (HU.out.sj _ _ _ _ _ KJe KJ.out KIe KI.out).mono ?_
  rintro e w25_ ⟨rfl, hb⟩
  have n_ := Aside0.mk (Kd.C_below KX.out hb)
  clear KX
  have KX := n_
  clear n_
  have n_ := Aside0.mk (Kd.C_below KY.out hb)
  clear KY
  have KY := n_
  clear n_
  have n_ := Aside0.mk (Kd.C_below KJ.out hb)
  clear KJ
  have KJ := n_
  clear n_
  have n_ := Aside0.mk (Kd.C_below KI.out hb)
  clear KI
  have KI := n_
  clear n_
  have n_ := Aside0.mk (Kd.C_below KR.out hb)
  clear KR
  have KR := n_
  clear n_
  have n_ := Aside0.mk (Kd.C_below KQ.out hb)
  clear KQ
  have KQ := n_
  clear n_
  have n_ := Aside0.mk (below_step HB.out hb)
  clear HB
  have HB := n_
  clear n_
  clear hb
  clear KI
  go_wp2_with fail
  refine (HU.out.sd _ _ _ _ _ KRe KR.out KQe KQ.out).mono ?_
  rintro e w26_ ⟨rfl, hb⟩
  have n_ := Aside0.mk (Kd.C_below KX.out hb)
  clear KX
  have KX := n_
  clear n_
  have n_ := Aside0.mk (Kd.C_below KY.out hb)
  clear KY
  have KY := n_
  clear n_
  have n_ := Aside0.mk (Kd.C_below KJ.out hb)
  clear KJ
  have KJ := n_
  clear n_
  have n_ := Aside0.mk (Kd.C_below KR.out hb)
  clear KR
  have KR := n_
  clear n_
  have n_ := Aside0.mk (Kd.C_below KQ.out hb)
  clear KQ
  have KQ := n_
  clear n_
  have n_ := Aside0.mk (below_step HB.out hb)
  clear HB
  have HB := n_
  clear n_
  clear hb
  clear KR
  clear KQ
  go_wp2_with fail
  refine (HPX.out _ _ _ KJe KJ.out).mono ?_
  rintro e w27_ ⟨AKC_, cKC_, AKD_, cKD_, rfl, KCe, hKC_, KDe, hKD_, hb⟩
  have KC_ := Aside0.mk hKC_
  clear hKC_
  have KD_ := Aside0.mk hKD_
  clear hKD_
  have n_ := Aside0.mk (Kd.C_below KX.out hb)
  clear KX
  have KX := n_
  clear n_
  have n_ := Aside0.mk (Kd.C_below KY.out hb)
  clear KY
  have KY := n_
  clear n_
  have n_ := Aside0.mk (Kd.C_below KJ.out hb)
  clear KJ
  have KJ := n_
  clear n_
  have n_ := Aside0.mk (below_step HB.out hb)
  clear HB
  have HB := n_
  clear n_
  clear hb
  have KC := KC_
  clear KC_
  have KD := KD_
  clear KD_
  clear KJ
  go_wp2_with fail
  refine (HSX.out _ _ _ _ _ KCe KC.out KXe KX.out).mono ?_
  rintro e w28_ ⟨rfl, hb⟩
  have n_ := Aside0.mk (Kd.C_below KX.out hb)
  clear KX
  have KX := n_
  clear n_
  have n_ := Aside0.mk (Kd.C_below KY.out hb)
  clear KY
  have KY := n_
  clear n_
  have n_ := Aside0.mk (Kd.C_below KC.out hb)
  clear KC
  have KC := n_
  clear n_
  have n_ := Aside0.mk (Kd.C_below KD.out hb)
  clear KD
  have KD := n_
  clear n_
  have n_ := Aside0.mk (below_step HB.out hb)
  clear HB
  have HB := n_
  clear n_
  clear hb
  clear KC
  clear KX
  go_wp2_with fail
  refine (HSY.out _ _ _ _ _ KDe KD.out KYe KY.out).mono ?_
  rintro e w29_ ⟨rfl, hb⟩
  have n_ := Aside0.mk (Kd.C_below KY.out hb)
  clear KY
  have KY := n_
  clear n_
  have n_ := Aside0.mk (Kd.C_below KD.out hb)
  clear KD
  have KD := n_
  clear n_
  have n_ := Aside0.mk (below_step HB.out hb)
  clear HB
  have HB := n_
  clear n_
  clear hb
  clear KD
  clear KY
  go_wp2
  go_ret
  exact ⟨rfl, HB.out⟩

end Go.Proofs.Ytmcjggjkfkkpbaa.PrintA
