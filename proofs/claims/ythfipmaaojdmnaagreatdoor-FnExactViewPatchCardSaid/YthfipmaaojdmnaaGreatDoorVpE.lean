/- The card of FnExactViewPatch: the law returns true at every input, and leaves its arguments unchanged; no condition. Text 5 of 6. -/
import Derived.Test.YthfipmaaojdmnaaGreatDoorVpD
import Derived.ChangeArms
import Derived.DataReads
import Derived.ChangeOld
import Derived.Below
import Derived.Test.YthfipmaaojdmnaaGreatDoorRows
import Derived.ProofKit
import Derived.OpenShut
import Derived.LaidLaws
import Derived.JoinedOf
import Derived.JoinedAt
import Derived.ChangeVars
import Derived.ChangeMaps5
import Derived.Stop.LaidErr
import Derived.Test.YthfipmaaojdmnaaGreatDoorTie
import Derived.Test.YthfipmaaojdmnaaGreatDoorCards
import Derived.IntWalk
import Derived.Lib.ItoaLen
section
set_option linter.unusedVariables false
set_option maxRecDepth 100000
namespace Go.Pi
open Go.Proofs
theorem kpar (n nt : Nat) : KPar (cx n nt) := KH_par (l := KL n) ⟨FD.kp, FD.kp, FD.kp, FD.kp, FD.kp, FD.kp, FD.kp, FD.kp, FD.kp, FD.kp, FD.kp, FD.kp, FD.kp, FD.kp, FD.kp, FD.kp, FD.kp, FD.kp, FD.kp, FD.kp, FD.kp, FD.kp, FD.kp, FD.kp, FD.kp, FD.kp, FD.kp, FD.kp, FD.kp, FD.kp, FD.kp, FD.kp, FD.kp, FD.kp, FD.kp, FD.kp, FD.kp, FD.kp, FD.kp, FD.kp, FD.kp, FD.kp, FD.kp, FD.kp, FD.kp, (by
    intro ω avs κ q h
    cases hc : selNil avs with
    | true =>
      obtain ⟨rv, outs, h1, h2⟩ := FD.kpar (lM_ hc h)
      exact ⟨rv, outs, h1, fun ω' κ' => (cond_is hc _ _).trans (h2 ω' κ')⟩
    | false =>
      have h := lN_ hc h
      have hc0 := hc
      clear hc
      cases hc : true with
      | true =>
        obtain ⟨rv, outs, h1, h2⟩ := FD.kpar (lM_ hc h)
        exact ⟨rv, outs, h1, fun ω' κ' => (cond_no hc0 _ _).trans ((cond_is hc _ _).trans (h2 ω' κ'))⟩
      | false =>
        have h := lN_ hc h
        have hc1 := hc
        clear hc
        cases h), FD.kp, FD.kp, FD.kp, FD.kp, FD.kp, FD.kp, FD.kp, FD.kp, FD.kp, FD.kp, FD.kp, FD.kp, FD.kp, FD.kp, FD.kp, FD.kp, FD.kp, FD.kp, FD.kp, FD.kp, FD.kp, FD.kp, FD.kp, FD.kp, FD.kp, FD.kp, FD.kp, FD.kp, FD.kp, FD.kp, FD.kp, FD.kp, FD.kp, FD.kp, FD.kp, FD.kp, FD.kp, FD.kp, FD.kp, FD.kp, FD.kp, FD.kp, FD.kp, FD.kp, FD.kp, FD.kp, FD.kp, FD.kp, FD.kp, FD.kp, FD.kp, FD.kp, FD.kp, FD.kp, FD.kp, FD.kp, FD.kp, FD.kp, FD.kp, FD.kp, FD.kp, FD.kp, FD.kp, FD.kp, FD.kp, FD.kp, FD.kp, FD.kp, FD.kp, FD.kp, FD.kp, FD.kp, FD.kp, FD.kp, FD.kp, trivial⟩
structure AllOk (n : Nat) : Prop where
  h0 : b3_.d.Ok E (b3_.F n)
  h1 : ch_.d.Ok E (ch_.F n)
  h2 : b2_.d.Ok E (b2_.F n)
  h3 : cE_.d.Ok E (cE_.F n)
  h4 : a1_.d.Ok E (a1_.F n)
  h5 : cm_.d.Ok E (cm_.F n)
  h6 : cg_.d.Ok E (cg_.F n)
  h7 : cf_.d.Ok E (cf_.F n)
  h8 : aP_.d.Ok E (aP_.F n)
  h9 : a0_.d.Ok E (a0_.F n)
  h10 : bV_.d.Ok E (bV_.F n)
  h11 : cv_.d.Ok E (cv_.F n)
  h12 : a2_.d.Ok E (a2_.F n)
  h13 : cw_.d.Ok E (cw_.F n)
  h14 : a3_.d.Ok E (a3_.F n)
  h15 : bN_.d.Ok E (bN_.F n)
  h16 : aY_.d.Ok E (aY_.F n)
  h17 : bb_.d.Ok E (bb_.F n)
  h18 : bH_.d.Ok E (bH_.F n)
  h19 : a7_.d.Ok E (a7_.F n)
  h20 : ae_.d.Ok E (ae_.F n)
  h21 : cC_.d.Ok E (cC_.F n)
  h22 : aA_.d.Ok E (aA_.F n)
  h23 : bZ_.d.Ok E (bZ_.F n)
  h24 : cu_.d.Ok E (cu_.F n)
  h25 : cs_.d.Ok E (cs_.F n)
  h26 : ct_.d.Ok E (ct_.F n)
  h27 : bQ_.d.Ok E (bQ_.F n)
  h28 : bd_.d.Ok E (bd_.F n)
  h29 : aF_.d.Ok E (aF_.F n)
  h30 : cd_.d.Ok E (cd_.F n)
  h31 : bT_.d.Ok E (bT_.F n)
  h32 : bj_.d.Ok E (bj_.F n)
  h33 : bc_.d.Ok E (bc_.F n)
  h34 : bP_.d.Ok E (bP_.F n)
  h35 : ce_.d.Ok E (ce_.F n)
  h36 : aN_.d.Ok E (aN_.F n)
  h37 : bs_.d.Ok E (bs_.F n)
  h38 : aw_.d.Ok E (aw_.F n)
  h39 : bD_.d.Ok E (bD_.F n)
  h40 : ah_.d.Ok E (ah_.F n)
  h41 : aX_.d.Ok E (aX_.F n)
  h42 : bM_.d.Ok E (bM_.F n)
  h43 : as_.d.Ok E (as_.F n)
  h44 : cH_.d.Ok E (cH_.F n)
  h45 : bn_.d.Ok E (bn_.F n)
  h46 : bG_.d.Ok E (bG_.F n)
  h47 : al_.d.Ok E (al_.F n)
  h48 : av_.d.Ok E (av_.F n)
  h49 : bJ_.d.Ok E (bJ_.F n)
  h50 : aM_.d.Ok E (aM_.F n)
  h51 : bh_.d.Ok E (bh_.F n)
  h52 : ap_.d.Ok E (ap_.F n)
  h53 : ag_.d.Ok E (ag_.F n)
  h54 : cz_.d.Ok E (cz_.F n)
  h55 : aS_.d.Ok E (aS_.F n)
  h56 : b1_.d.Ok E (b1_.F n)
  h57 : bA_.d.Ok E (bA_.F n)
  h58 : cA_.d.Ok E (cA_.F n)
  h59 : bg_.d.Ok E (bg_.F n)
  h60 : az_.d.Ok E (az_.F n)
  h61 : bX_.d.Ok E (bX_.F n)
  h62 : au_.d.Ok E (au_.F n)
  h63 : a9_.d.Ok E (a9_.F n)
  h64 : strconv_Itoa.d.Ok E (strconv_Itoa.F n)
  h65 : cj_.d.Ok E (cj_.F n)
  h66 : cl_.d.Ok E (cl_.F n)
  h67 : br_.d.Ok E (br_.F n)
  h68 : bv_.d.Ok E (bv_.F n)
  h69 : a8_.d.Ok E (a8_.F n)
  h70 : ad_.d.Ok E (ad_.F n)
  h71 : bq_.d.Ok E (bq_.F n)
  h72 : bu_.d.Ok E (bu_.F n)
  h73 : bk_.d.Ok E (bk_.F n)
  h74 : b0_.d.Ok E (b0_.F n)
  h75 : a4_.d.Ok E (a4_.F n)
  h76 : aV_.d.Ok E (aV_.F n)
  h77 : bl_.d.Ok E (bl_.F n)
  h78 : aW_.d.Ok E (aW_.F n)
  h79 : bR_.d.Ok E (bR_.F n)
  h80 : ab_.d.Ok E (ab_.F n)
  h81 : cq_.d.Ok E (cq_.F n)
  h82 : b9_.d.Ok E (b9_.F n)
  h83 : a6_.d.Ok E (a6_.F n)
  h84 : af_.d.Ok E (af_.F n)
  h85 : ac_.d.Ok E (ac_.F n)
  h86 : ca_.d.Ok E (ca_.F n)
  h87 : bx_.d.Ok E (bx_.F n)
  h88 : aC_.d.Ok E (aC_.F n)
  h89 : a5_.d.Ok E (a5_.F n)
  h90 : aL_.d.Ok E (aL_.F n)
  h91 : ck_.d.Ok E (ck_.F n)
  h92 : bo_.d.Ok E (bo_.F n)
  h93 : bE_.d.Ok E (bE_.F n)
  h94 : aE_.d.Ok E (aE_.F n)
  h95 : aU_.d.Ok E (aU_.F n)
  h96 : bK_.d.Ok E (bK_.F n)
  h97 : cJ_.d.Ok E (cJ_.F n)
  h98 : bm_.d.Ok E (bm_.F n)
  h99 : ci_.d.Ok E (ci_.F n)
  h100 : aZ_.d.Ok E (aZ_.F n)
  h101 : ba_.d.Ok E (ba_.F n)
  h102 : bW_.d.Ok E (bW_.F n)
  h103 : cx_.d.Ok E (cx_.F n)
  h104 : be_.d.Ok E (be_.F n)
  h105 : cy_.d.Ok E (cy_.F n)
  h106 : bf_.d.Ok E (bf_.F n)
  h107 : b7_.d.Ok E (b7_.F n)
  h108 : aD_.d.Ok E (aD_.F n)
  h109 : aG_.d.Ok E (aG_.F n)
  h110 : bI_.d.Ok E (bI_.F n)
  h111 : aH_.d.Ok E (aH_.F n)
  h112 : aI_.d.Ok E (aI_.F n)
  h113 : bO_.d.Ok E (bO_.F n)
  h114 : aB_.d.Ok E (aB_.F n)
  h115 : an_.d.Ok E (an_.F n)
  h116 : aq_.d.Ok E (aq_.F n)
  h117 : aT_.d.Ok E (aT_.F n)
  h118 : ao_.d.Ok E (ao_.F n)
  h119 : ar_.d.Ok E (ar_.F n)
  h120 : aQ_.d.Ok E (aQ_.F n)
  h121 : laws_FnExactViewPatch.d.Ok E (laws_FnExactViewPatch.F n)
theorem kok (n nt : Nat) (a : AllOk n) : KOk E (cx n nt) := KH_ok (l := KL n) ⟨FD.kf (d := laws_FnExactViewPatch.d) Tryz.func4 (by kernel_rfl) (by kernel_rfl) (by kernel_rfl) a.h121, FD.kf (d := bg_.d) Tryz.func11 (by kernel_rfl) (by kernel_rfl) (by kernel_rfl) a.h59, FD.kf (d := bd_.d) Tryz.func12 (by kernel_rfl) (by kernel_rfl) (by kernel_rfl) a.h28, FD.kf (d := cg_.d) Tryz.func18 (by kernel_rfl) (by kernel_rfl) (by kernel_rfl) a.h6, FD.kf (d := bG_.d) Tryz.func19 (by kernel_rfl) (by kernel_rfl) (by kernel_rfl) a.h46, FD.kf (d := bN_.d) Tryz.func20 (by kernel_rfl) (by kernel_rfl) (by kernel_rfl) a.h15, FD.kf (d := bE_.d) Tryz.func21 (by kernel_rfl) (by kernel_rfl) (by kernel_rfl) a.h93, FD.kf (d := bm_.d) Tryz.func22 (by kernel_rfl) (by kernel_rfl) (by kernel_rfl) a.h98, FD.kf (d := b7_.d) Tryz.func23 (by kernel_rfl) (by kernel_rfl) (by kernel_rfl) a.h107, FD.kf (d := bO_.d) Tryz.func24 (by kernel_rfl) (by kernel_rfl) (by kernel_rfl) a.h113, FD.kf (d := aT_.d) Tryz.func25 (by kernel_rfl) (by kernel_rfl) (by kernel_rfl) a.h117, FD.kf (d := aQ_.d) Tryz.func26 (by kernel_rfl) (by kernel_rfl) (by kernel_rfl) a.h120, FD.kf (d := az_.d) Tryz.func45 (by kernel_rfl) (by kernel_rfl) (by kernel_rfl) a.h60, FD.kf (d := b2_.d) Tryz.func48 (by kernel_rfl) (by kernel_rfl) (by kernel_rfl) a.h2, FD.kf (d := a1_.d) Tryz.func49 (by kernel_rfl) (by kernel_rfl) (by kernel_rfl) a.h4, FD.kf (d := cm_.d) Tryz.func50 (by kernel_rfl) (by kernel_rfl) (by kernel_rfl) a.h5, FD.kf (d := bH_.d) Tryz.func51 (by kernel_rfl) (by kernel_rfl) (by kernel_rfl) a.h18, FD.kf (d := cu_.d) Tryz.func52 (by kernel_rfl) (by kernel_rfl) (by kernel_rfl) a.h24, FD.kf (d := aN_.d) Tryz.func53 (by kernel_rfl) (by kernel_rfl) (by kernel_rfl) a.h36, FD.kf (d := bn_.d) Tryz.func54 (by kernel_rfl) (by kernel_rfl) (by kernel_rfl) a.h45, FD.kf (d := cH_.d) Tryz.func55 (by kernel_rfl) (by kernel_rfl) (by kernel_rfl) a.h44, FD.kf (d := bV_.d) Tryz.func56 (by kernel_rfl) (by kernel_rfl) (by kernel_rfl) a.h10, FD.kf (d := a2_.d) Tryz.func57 (by kernel_rfl) (by kernel_rfl) (by kernel_rfl) a.h12, FD.kf (d := a3_.d) Tryz.func58 (by kernel_rfl) (by kernel_rfl) (by kernel_rfl) a.h14, FD.kf (d := bJ_.d) Tryz.func59 (by kernel_rfl) (by kernel_rfl) (by kernel_rfl) a.h49, FD.kf (d := cA_.d) Tryz.func60 (by kernel_rfl) (by kernel_rfl) (by kernel_rfl) a.h58, FD.kf (d := bl_.d) Tryz.func61 (by kernel_rfl) (by kernel_rfl) (by kernel_rfl) a.h77, FD.kf (d := bo_.d) Tryz.func62 (by kernel_rfl) (by kernel_rfl) (by kernel_rfl) a.h92, FD.kf (d := aL_.d) Tryz.func63 (by kernel_rfl) (by kernel_rfl) (by kernel_rfl) a.h90, FD.kf (d := cJ_.d) Tryz.func64 (by kernel_rfl) (by kernel_rfl) (by kernel_rfl) a.h97, FD.kf (d := bW_.d) Tryz.func65 (by kernel_rfl) (by kernel_rfl) (by kernel_rfl) a.h102, FD.kf (d := be_.d) Tryz.func66 (by kernel_rfl) (by kernel_rfl) (by kernel_rfl) a.h104, FD.kf (d := bf_.d) Tryz.func67 (by kernel_rfl) (by kernel_rfl) (by kernel_rfl) a.h106, FD.kf (d := bI_.d) Tryz.func68 (by kernel_rfl) (by kernel_rfl) (by kernel_rfl) a.h110, FD.kf (d := aH_.d) Tryz.func69 (by kernel_rfl) (by kernel_rfl) (by kernel_rfl) a.h111, FD.kf (d := aI_.d) Tryz.func70 (by kernel_rfl) (by kernel_rfl) (by kernel_rfl) a.h112, FD.kf (d := an_.d) Tryz.func71 (by kernel_rfl) (by kernel_rfl) (by kernel_rfl) a.h115, FD.kf (d := aB_.d) Tryz.func72 (by kernel_rfl) (by kernel_rfl) (by kernel_rfl) a.h114, FD.kf (d := aq_.d) Tryz.func73 (by kernel_rfl) (by kernel_rfl) (by kernel_rfl) a.h116, FD.kf (d := ao_.d) Tryz.func74 (by kernel_rfl) (by kernel_rfl) (by kernel_rfl) a.h118, FD.kf (d := ar_.d) Tryz.func75 (by kernel_rfl) (by kernel_rfl) (by kernel_rfl) a.h119, FD.kf (d := bK_.d) Tryz.func88 (by kernel_rfl) (by kernel_rfl) (by kernel_rfl) a.h96, FD.kf (d := aM_.d) Tryz.func98 (by kernel_rfl) (by kernel_rfl) (by kernel_rfl) a.h50, FD.kf (d := bh_.d) Tryz.func99 (by kernel_rfl) (by kernel_rfl) (by kernel_rfl) a.h51, FD.kf (d := aV_.d) Tryz.func110 (by kernel_rfl) (by kernel_rfl) (by kernel_rfl) a.h76, (by
    intro ω avs κ q h
    cases hc : selNil avs with
    | true => exact FD.kf (d := bA_.d) Tryz.func113 (by kernel_rfl) (by kernel_rfl) (by kernel_rfl) a.h57 _ _ _ _ (lM_ hc h)
    | false =>
      have h := lN_ hc h
      cases hc : true with
      | true => exact FD.kf (d := b0_.d) Tryz.func113 (by kernel_rfl) (by kernel_rfl) (by kernel_rfl) a.h74 _ _ _ _ (lM_ hc h)
      | false =>
        have h := lN_ hc h
        cases h), FD.kf (d := bQ_.d) Tryz.func114 (by kernel_rfl) (by kernel_rfl) (by kernel_rfl) a.h27, FD.kf (d := bc_.d) Tryz.func115 (by kernel_rfl) (by kernel_rfl) (by kernel_rfl) a.h33, FD.kf (d := bP_.d) Tryz.func116 (by kernel_rfl) (by kernel_rfl) (by kernel_rfl) a.h34, FD.kf (d := bT_.d) Tryz.func117 (by kernel_rfl) (by kernel_rfl) (by kernel_rfl) a.h31, FD.kf (d := b3_.d) Tryz.func118 (by kernel_rfl) (by kernel_rfl) (by kernel_rfl) a.h0, FD.kf (d := ch_.d) Tryz.func119 (by kernel_rfl) (by kernel_rfl) (by kernel_rfl) a.h1, FD.kf (d := cE_.d) Tryz.func120 (by kernel_rfl) (by kernel_rfl) (by kernel_rfl) a.h3, FD.kf (d := aY_.d) Tryz.func121 (by kernel_rfl) (by kernel_rfl) (by kernel_rfl) a.h16, FD.kf (d := bb_.d) Tryz.func122 (by kernel_rfl) (by kernel_rfl) (by kernel_rfl) a.h17, FD.kf (d := bZ_.d) Tryz.func123 (by kernel_rfl) (by kernel_rfl) (by kernel_rfl) a.h23, FD.kf (d := ce_.d) Tryz.func124 (by kernel_rfl) (by kernel_rfl) (by kernel_rfl) a.h35, FD.kf (d := aX_.d) Tryz.func125 (by kernel_rfl) (by kernel_rfl) (by kernel_rfl) a.h41, FD.kf (d := aw_.d) Tryz.func126 (by kernel_rfl) (by kernel_rfl) (by kernel_rfl) a.h38, FD.kf (d := as_.d) Tryz.func127 (by kernel_rfl) (by kernel_rfl) (by kernel_rfl) a.h43, FD.kf (d := aP_.d) Tryz.func128 (by kernel_rfl) (by kernel_rfl) (by kernel_rfl) a.h8, FD.kf (d := a0_.d) Tryz.func129 (by kernel_rfl) (by kernel_rfl) (by kernel_rfl) a.h9, FD.kf (d := cv_.d) Tryz.func130 (by kernel_rfl) (by kernel_rfl) (by kernel_rfl) a.h11, FD.kf (d := cw_.d) Tryz.func131 (by kernel_rfl) (by kernel_rfl) (by kernel_rfl) a.h13, FD.kf (d := al_.d) Tryz.func132 (by kernel_rfl) (by kernel_rfl) (by kernel_rfl) a.h47, FD.kf (d := av_.d) Tryz.func133 (by kernel_rfl) (by kernel_rfl) (by kernel_rfl) a.h48, FD.kf (d := ck_.d) Tryz.func134 (by kernel_rfl) (by kernel_rfl) (by kernel_rfl) a.h91, FD.kf (d := aW_.d) Tryz.func135 (by kernel_rfl) (by kernel_rfl) (by kernel_rfl) a.h78, FD.kf (d := cq_.d) Tryz.func136 (by kernel_rfl) (by kernel_rfl) (by kernel_rfl) a.h81, FD.kf (d := b9_.d) Tryz.func137 (by kernel_rfl) (by kernel_rfl) (by kernel_rfl) a.h82, FD.kf (d := a6_.d) Tryz.func138 (by kernel_rfl) (by kernel_rfl) (by kernel_rfl) a.h83, FD.kf (d := ca_.d) Tryz.func139 (by kernel_rfl) (by kernel_rfl) (by kernel_rfl) a.h86, FD.kf (d := aC_.d) Tryz.func140 (by kernel_rfl) (by kernel_rfl) (by kernel_rfl) a.h88, FD.kf (d := a5_.d) Tryz.func141 (by kernel_rfl) (by kernel_rfl) (by kernel_rfl) a.h89, FD.kf (d := aE_.d) Tryz.func142 (by kernel_rfl) (by kernel_rfl) (by kernel_rfl) a.h94, FD.kf (d := aZ_.d) Tryz.func143 (by kernel_rfl) (by kernel_rfl) (by kernel_rfl) a.h100, FD.kf (d := ba_.d) Tryz.func144 (by kernel_rfl) (by kernel_rfl) (by kernel_rfl) a.h101, FD.kf (d := cx_.d) Tryz.func145 (by kernel_rfl) (by kernel_rfl) (by kernel_rfl) a.h103, FD.kf (d := cy_.d) Tryz.func146 (by kernel_rfl) (by kernel_rfl) (by kernel_rfl) a.h105, FD.kf (d := aD_.d) Tryz.func147 (by kernel_rfl) (by kernel_rfl) (by kernel_rfl) a.h108, FD.kf (d := aG_.d) Tryz.func148 (by kernel_rfl) (by kernel_rfl) (by kernel_rfl) a.h109, FD.kf (d := b1_.d) Tryz.func152 (by kernel_rfl) (by kernel_rfl) (by kernel_rfl) a.h56, FD.kf (d := aF_.d) Tryz.func155 (by kernel_rfl) (by kernel_rfl) (by kernel_rfl) a.h29, FD.kf (d := cj_.d) Tryz.func170 (by kernel_rfl) (by kernel_rfl) (by kernel_rfl) a.h65, FD.kf (d := aU_.d) Tryz.func171 (by kernel_rfl) (by kernel_rfl) (by kernel_rfl) a.h95, FD.kf (d := cl_.d) Tryz.func180 (by kernel_rfl) (by kernel_rfl) (by kernel_rfl) a.h66, FD.kf (d := bX_.d) Tryz.func184 (by kernel_rfl) (by kernel_rfl) (by kernel_rfl) a.h61, FD.kf (d := a4_.d) Tryz.func185 (by kernel_rfl) (by kernel_rfl) (by kernel_rfl) a.h75, FD.kf (d := ct_.d) Tryz.func187 (by kernel_rfl) (by kernel_rfl) (by kernel_rfl) a.h26, FD.kf (d := cs_.d) Tryz.func188 (by kernel_rfl) (by kernel_rfl) (by kernel_rfl) a.h25, FD.kf (d := bj_.d) Tryz.func189 (by kernel_rfl) (by kernel_rfl) (by kernel_rfl) a.h32, FD.kf (d := cd_.d) Tryz.func190 (by kernel_rfl) (by kernel_rfl) (by kernel_rfl) a.h30, FD.kf (d := aA_.d) Tryz.func191 (by kernel_rfl) (by kernel_rfl) (by kernel_rfl) a.h22, FD.kf (d := bs_.d) Tryz.func192 (by kernel_rfl) (by kernel_rfl) (by kernel_rfl) a.h37, FD.kf (d := bD_.d) Tryz.func193 (by kernel_rfl) (by kernel_rfl) (by kernel_rfl) a.h39, FD.kf (d := ah_.d) Tryz.func194 (by kernel_rfl) (by kernel_rfl) (by kernel_rfl) a.h40, FD.kf (d := bM_.d) Tryz.func195 (by kernel_rfl) (by kernel_rfl) (by kernel_rfl) a.h42, FD.kf (d := cf_.d) Tryz.func196 (by kernel_rfl) (by kernel_rfl) (by kernel_rfl) a.h7, FD.kf (d := bx_.d) Tryz.func197 (by kernel_rfl) (by kernel_rfl) (by kernel_rfl) a.h87, FD.kf (d := a9_.d) Tryz.func198 (by kernel_rfl) (by kernel_rfl) (by kernel_rfl) a.h63, FD.kf (d := ab_.d) Tryz.func199 (by kernel_rfl) (by kernel_rfl) (by kernel_rfl) a.h80, FD.kf (d := bR_.d) Tryz.func200 (by kernel_rfl) (by kernel_rfl) (by kernel_rfl) a.h79, FD.kf (d := strconv_Itoa.d) Tryz.func201 (by kernel_rfl) (by kernel_rfl) (by kernel_rfl) a.h64, FD.kf (d := af_.d) Tryz.func202 (by kernel_rfl) (by kernel_rfl) (by kernel_rfl) a.h84, FD.kf (d := ac_.d) Tryz.func203 (by kernel_rfl) (by kernel_rfl) (by kernel_rfl) a.h85, FD.kf (d := ci_.d) Tryz.func206 (by kernel_rfl) (by kernel_rfl) (by kernel_rfl) a.h99, FD.kf (d := aS_.d) Tryz.func211 (by kernel_rfl) (by kernel_rfl) (by kernel_rfl) a.h55, FD.kf (d := cC_.d) Tryz.func219 (by kernel_rfl) (by kernel_rfl) (by kernel_rfl) a.h21, FD.kf (d := bk_.d) Tryz.func240 (by kernel_rfl) (by kernel_rfl) (by kernel_rfl) a.h73, FD.kf (d := a7_.d) Tryz.func241 (by kernel_rfl) (by kernel_rfl) (by kernel_rfl) a.h19, FD.kf (d := ae_.d) Tryz.func242 (by kernel_rfl) (by kernel_rfl) (by kernel_rfl) a.h20, FD.kf (d := au_.d) Tryz.func243 (by kernel_rfl) (by kernel_rfl) (by kernel_rfl) a.h62, FD.kf (d := cz_.d) Tryz.func249 (by kernel_rfl) (by kernel_rfl) (by kernel_rfl) a.h54, FD.kf (d := ad_.d) Tryz.func277 (by kernel_rfl) (by kernel_rfl) (by kernel_rfl) a.h70, FD.kf (d := bq_.d) Tryz.func278 (by kernel_rfl) (by kernel_rfl) (by kernel_rfl) a.h71, FD.kf (d := bu_.d) Tryz.func279 (by kernel_rfl) (by kernel_rfl) (by kernel_rfl) a.h72, FD.kf (d := ap_.d) Tryz.func282 (by kernel_rfl) (by kernel_rfl) (by kernel_rfl) a.h52, FD.kf (d := ag_.d) Tryz.func284 (by kernel_rfl) (by kernel_rfl) (by kernel_rfl) a.h53, FD.kf (d := bv_.d) Tryz.func300 (by kernel_rfl) (by kernel_rfl) (by kernel_rfl) a.h68, FD.kf (d := a8_.d) Tryz.func301 (by kernel_rfl) (by kernel_rfl) (by kernel_rfl) a.h69, FD.kf (d := br_.d) Tryz.func320 (by kernel_rfl) (by kernel_rfl) (by kernel_rfl) a.h67, trivial⟩
theorem cP_ (n nt : Nat) (a : AllOk n) : CxOk E (cx n nt) := ⟨ttOk, tcOk, u8Ok, kok n nt a⟩
theorem bL_ : ∀ n, AllOk n
  | 0 => ⟨fun _ _ h => (by cases h), fun _ _ h => (by cases h), fun _ _ h => (by cases h), fun _ _ h => (by cases h), fun _ _ h => (by cases h), fun _ _ h => (by cases h), fun _ _ h => (by cases h), fun _ _ h => (by cases h), fun _ _ h => (by cases h), fun _ _ h => (by cases h), fun _ _ h => (by cases h), fun _ _ h => (by cases h), fun _ _ h => (by cases h), fun _ _ h => (by cases h), fun _ _ h => (by cases h), fun _ _ h => (by cases h), fun _ _ h => (by cases h), fun _ _ h => (by cases h), fun _ _ h => (by cases h), fun _ _ h => (by cases h), fun _ _ h => (by cases h), fun _ _ h => (by cases h), fun _ _ h => (by cases h), fun _ _ h => (by cases h), fun _ _ h => (by cases h), fun _ _ h => (by cases h), fun _ _ h => (by cases h), fun _ _ h => (by cases h), fun _ _ h => (by cases h), fun _ _ h => (by cases h), fun _ _ h => (by cases h), fun _ _ h => (by cases h), fun _ _ h => (by cases h), fun _ _ h => (by cases h), fun _ _ h => (by cases h), fun _ _ h => (by cases h), fun _ _ h => (by cases h), fun _ _ h => (by cases h), fun _ _ h => (by cases h), fun _ _ h => (by cases h), fun _ _ h => (by cases h), fun _ _ h => (by cases h), fun _ _ h => (by cases h), fun _ _ h => (by cases h), fun _ _ h => (by cases h), fun _ _ h => (by cases h), fun _ _ h => (by cases h), fun _ _ h => (by cases h), fun _ _ h => (by cases h), fun _ _ h => (by cases h), fun _ _ h => (by cases h), fun _ _ h => (by cases h), fun _ _ h => (by cases h), fun _ _ h => (by cases h), fun _ _ h => (by cases h), fun _ _ h => (by cases h), fun _ _ h => (by cases h), fun _ _ h => (by cases h), fun _ _ h => (by cases h), fun _ _ h => (by cases h), fun _ _ h => (by cases h), fun _ _ h => (by cases h), fun _ _ h => (by cases h), fun _ _ h => (by cases h), fun _ _ h => (by cases h), fun _ _ h => (by cases h), fun _ _ h => (by cases h), fun _ _ h => (by cases h), fun _ _ h => (by cases h), fun _ _ h => (by cases h), fun _ _ h => (by cases h), fun _ _ h => (by cases h), fun _ _ h => (by cases h), fun _ _ h => (by cases h), fun _ _ h => (by cases h), fun _ _ h => (by cases h), fun _ _ h => (by cases h), fun _ _ h => (by cases h), fun _ _ h => (by cases h), fun _ _ h => (by cases h), fun _ _ h => (by cases h), fun _ _ h => (by cases h), fun _ _ h => (by cases h), fun _ _ h => (by cases h), fun _ _ h => (by cases h), fun _ _ h => (by cases h), fun _ _ h => (by cases h), fun _ _ h => (by cases h), fun _ _ h => (by cases h), fun _ _ h => (by cases h), fun _ _ h => (by cases h), fun _ _ h => (by cases h), fun _ _ h => (by cases h), fun _ _ h => (by cases h), fun _ _ h => (by cases h), fun _ _ h => (by cases h), fun _ _ h => (by cases h), fun _ _ h => (by cases h), fun _ _ h => (by cases h), fun _ _ h => (by cases h), fun _ _ h => (by cases h), fun _ _ h => (by cases h), fun _ _ h => (by cases h), fun _ _ h => (by cases h), fun _ _ h => (by cases h), fun _ _ h => (by cases h), fun _ _ h => (by cases h), fun _ _ h => (by cases h), fun _ _ h => (by cases h), fun _ _ h => (by cases h), fun _ _ h => (by cases h), fun _ _ h => (by cases h), fun _ _ h => (by cases h), fun _ _ h => (by cases h), fun _ _ h => (by cases h), fun _ _ h => (by cases h), fun _ _ h => (by cases h), fun _ _ h => (by cases h), fun _ _ h => (by cases h), fun _ _ h => (by cases h), fun _ _ h => (by cases h), fun _ _ h => (by cases h)⟩
  | n + 1 => ⟨b3_.ok n (cP_ n _ (bL_ n)) (kpar n _), ch_.ok n (cP_ n _ (bL_ n)) (kpar n _), b2_.ok n (cP_ n _ (bL_ n)) (kpar n _), cE_.ok n (cP_ n _ (bL_ n)) (kpar n _), a1_.ok n (cP_ n _ (bL_ n)) (kpar n _), cm_.ok n (cP_ n _ (bL_ n)) (kpar n _), cg_.ok n (cP_ n _ (bL_ n)) (kpar n _), cf_.ok n (cP_ n _ (bL_ n)) (kpar n _), aP_.ok n (cP_ n _ (bL_ n)) (kpar n _), a0_.ok n (cP_ n _ (bL_ n)) (kpar n _), bV_.ok n (cP_ n _ (bL_ n)) (kpar n _), cv_.ok n (cP_ n _ (bL_ n)) (kpar n _), a2_.ok n (cP_ n _ (bL_ n)) (kpar n _), cw_.ok n (cP_ n _ (bL_ n)) (kpar n _), a3_.ok n (cP_ n _ (bL_ n)) (kpar n _), bN_.ok n (cP_ n _ (bL_ n)) (kpar n _), aY_.ok n (cP_ n _ (bL_ n)) (kpar n _), bb_.ok n (cP_ n _ (bL_ n)) (kpar n _), bH_.ok n (cP_ n _ (bL_ n)) (kpar n _), a7_.ok n (cP_ n _ (bL_ n)) (kpar n _), ae_.ok n (cP_ n _ (bL_ n)) (kpar n _), cC_.ok n (cP_ n _ (bL_ n)) (kpar n _), aA_.ok n (cP_ n _ (bL_ n)) (kpar n _), bZ_.ok n (cP_ n _ (bL_ n)) (kpar n _), cu_.ok n (cP_ n _ (bL_ n)) (kpar n _), cs_.ok n (cP_ n _ (bL_ n)) (kpar n _), ct_.ok n (cP_ n _ (bL_ n)) (kpar n _), bQ_.ok n (cP_ n _ (bL_ n)) (kpar n _), bd_.ok n (cP_ n _ (bL_ n)) (kpar n _), aF_.ok n (cP_ n _ (bL_ n)) (kpar n _), cd_.ok n (cP_ n _ (bL_ n)) (kpar n _), bT_.ok n (cP_ n _ (bL_ n)) (kpar n _), bj_.ok n (cP_ n _ (bL_ n)) (kpar n _), bc_.ok n (cP_ n _ (bL_ n)) (kpar n _), bP_.ok n (cP_ n _ (bL_ n)) (kpar n _), ce_.ok n (cP_ n _ (bL_ n)) (kpar n _), aN_.ok n (cP_ n _ (bL_ n)) (kpar n _), bs_.ok n (cP_ n _ (bL_ n)) (kpar n _), aw_.ok n (cP_ n _ (bL_ n)) (kpar n _), bD_.ok n (cP_ n _ (bL_ n)) (kpar n _), ah_.ok n (cP_ n _ (bL_ n)) (kpar n _), aX_.ok n (cP_ n _ (bL_ n)) (kpar n _), bM_.ok n (cP_ n _ (bL_ n)) (kpar n _), as_.ok n (cP_ n _ (bL_ n)) (kpar n _), cH_.ok n (cP_ n _ (bL_ n)) (kpar n _), bn_.ok n (cP_ n _ (bL_ n)) (kpar n _), bG_.ok n (cP_ n _ (bL_ n)) (kpar n _), al_.ok n (cP_ n _ (bL_ n)) (kpar n _), av_.ok n (cP_ n _ (bL_ n)) (kpar n _), bJ_.ok n (cP_ n _ (bL_ n)) (kpar n _), aM_.ok n (cP_ n _ (bL_ n)) (kpar n _), bh_.ok n (cP_ n _ (bL_ n)) (kpar n _), ap_.ok n (cP_ n _ (bL_ n)) (kpar n _), ag_.ok n (cP_ n _ (bL_ n)) (kpar n _), cz_.ok n (cP_ n _ (bL_ n)) (kpar n _), aS_.ok n (cP_ n _ (bL_ n)) (kpar n _), b1_.ok n (cP_ n _ (bL_ n)) (kpar n _), bA_.ok n (cP_ n _ (bL_ n)) (kpar n _), cA_.ok n (cP_ n _ (bL_ n)) (kpar n _), bg_.ok n (cP_ n _ (bL_ n)) (kpar n _), az_.ok n (cP_ n _ (bL_ n)) (kpar n _), bX_.ok n (cP_ n _ (bL_ n)) (kpar n _), au_.ok n (cP_ n _ (bL_ n)) (kpar n _), a9_.ok n (cP_ n _ (bL_ n)) (kpar n _), strconv_Itoa.ok n (cP_ n _ (bL_ n)) (kpar n _), cj_.ok n (cP_ n _ (bL_ n)) (kpar n _), cl_.ok n (cP_ n _ (bL_ n)) (kpar n _), br_.ok n (cP_ n _ (bL_ n)) (kpar n _), bv_.ok n (cP_ n _ (bL_ n)) (kpar n _), a8_.ok n (cP_ n _ (bL_ n)) (kpar n _), ad_.ok n (cP_ n _ (bL_ n)) (kpar n _), bq_.ok n (cP_ n _ (bL_ n)) (kpar n _), bu_.ok n (cP_ n _ (bL_ n)) (kpar n _), bk_.ok n (cP_ n _ (bL_ n)) (kpar n _), b0_.ok n (cP_ n _ (bL_ n)) (kpar n _), a4_.ok n (cP_ n _ (bL_ n)) (kpar n _), aV_.ok n (cP_ n _ (bL_ n)) (kpar n _), bl_.ok n (cP_ n _ (bL_ n)) (kpar n _), aW_.ok n (cP_ n _ (bL_ n)) (kpar n _), bR_.ok n (cP_ n _ (bL_ n)) (kpar n _), ab_.ok n (cP_ n _ (bL_ n)) (kpar n _), cq_.ok n (cP_ n _ (bL_ n)) (kpar n _), b9_.ok n (cP_ n _ (bL_ n)) (kpar n _), a6_.ok n (cP_ n _ (bL_ n)) (kpar n _), af_.ok n (cP_ n _ (bL_ n)) (kpar n _), ac_.ok n (cP_ n _ (bL_ n)) (kpar n _), ca_.ok n (cP_ n _ (bL_ n)) (kpar n _), bx_.ok n (cP_ n _ (bL_ n)) (kpar n _), aC_.ok n (cP_ n _ (bL_ n)) (kpar n _), a5_.ok n (cP_ n _ (bL_ n)) (kpar n _), aL_.ok n (cP_ n _ (bL_ n)) (kpar n _), ck_.ok n (cP_ n _ (bL_ n)) (kpar n _), bo_.ok n (cP_ n _ (bL_ n)) (kpar n _), bE_.ok n (cP_ n _ (bL_ n)) (kpar n _), aE_.ok n (cP_ n _ (bL_ n)) (kpar n _), aU_.ok n (cP_ n _ (bL_ n)) (kpar n _), bK_.ok n (cP_ n _ (bL_ n)) (kpar n _), cJ_.ok n (cP_ n _ (bL_ n)) (kpar n _), bm_.ok n (cP_ n _ (bL_ n)) (kpar n _), ci_.ok n (cP_ n _ (bL_ n)) (kpar n _), aZ_.ok n (cP_ n _ (bL_ n)) (kpar n _), ba_.ok n (cP_ n _ (bL_ n)) (kpar n _), bW_.ok n (cP_ n _ (bL_ n)) (kpar n _), cx_.ok n (cP_ n _ (bL_ n)) (kpar n _), be_.ok n (cP_ n _ (bL_ n)) (kpar n _), cy_.ok n (cP_ n _ (bL_ n)) (kpar n _), bf_.ok n (cP_ n _ (bL_ n)) (kpar n _), b7_.ok n (cP_ n _ (bL_ n)) (kpar n _), aD_.ok n (cP_ n _ (bL_ n)) (kpar n _), aG_.ok n (cP_ n _ (bL_ n)) (kpar n _), bI_.ok n (cP_ n _ (bL_ n)) (kpar n _), aH_.ok n (cP_ n _ (bL_ n)) (kpar n _), aI_.ok n (cP_ n _ (bL_ n)) (kpar n _), bO_.ok n (cP_ n _ (bL_ n)) (kpar n _), aB_.ok n (cP_ n _ (bL_ n)) (kpar n _), an_.ok n (cP_ n _ (bL_ n)) (kpar n _), aq_.ok n (cP_ n _ (bL_ n)) (kpar n _), aT_.ok n (cP_ n _ (bL_ n)) (kpar n _), ao_.ok n (cP_ n _ (bL_ n)) (kpar n _), ar_.ok n (cP_ n _ (bL_ n)) (kpar n _), aQ_.ok n (cP_ n _ (bL_ n)) (kpar n _), laws_FnExactViewPatch.ok n (cP_ n _ (bL_ n)) (kpar n _)⟩
end Go.Pi
end
section
set_option linter.unusedVariables false
namespace Go.Pi
inductive Kd where
  | i (k : IntKind)
  | b
  | s
  | sl (t : TC)
def kdsL (P : Program) (rec_ : TypeId → Option (List Kd)) : List Field → Nat → Option (List Kd)
  | [], _ => some []
  | f :: fs, off => cond (Nat.beq f.offset off) (match rec_ f.type with
    | some ks => cond (Nat.beq (P.cellsOf f.type) ks.length) (match kdsL P rec_ fs (off + ks.length) with
      | some r => some (ks ++ r)
      | none => none) none
    | none => none) none
def kds (P : Program) (gz_ : TypeId → Option TC) : Nat → TypeId → Option (List Kd)
  | 0, _ => none
  | d + 1, T => match P.underlying T with
    | some (.int k) => some [.i k]
    | some .bool => some [.b]
    | some .string => some [.s]
    | some (.slice e) => match gz_ e with
      | some t => some [.sl t]
      | none => none
    | some (.struct fs) => match kdsL P (kds P gz_ d) fs.toList 0 with
      | some ks => cond (Nat.beq (P.cellsOf T) ks.length) (some ks) none
      | none => none
    | _ => none
inductive Good [ai_] : AV → Prop
  | i (k n) : (Lit.int k n).wf = true → Good (.i k n)
  | b (q) : Good (.b q)
  | s (l) : l.length ≤ maxLen → Good (.s l)
  | sl (t xs) : xs.length ≤ maxLen → (∀ x ∈ xs, ∀ c ∈ ai_.enc .v t x, Good c) → Good (.sl .v t xs)
def KindOk : Kd → AV → Prop
  | .i k, a => ∃ n, a = .i k n
  | .b, a => ∃ q, a = .b q
  | .s, a => ∃ l, a = .s l
  | .sl t, a => ∃ xs, a = .sl .v t xs
def gA_ : List Kd → List AV → Prop
  | [], [] => True
  | k :: ks, a :: l => KindOk k a ∧ gA_ ks l
  | _, _ => False
section
variable {H : Type} {enc : TypeId × Value → H} {P : Program} {w : World} {spare : Nat → Bool}
def kp_ (enc : TypeId × Value → H) (P : Program) (w : World) (spare : Nat → Bool) (eid : TC → TypeId) (F : Nat) : Kd → Value → Prop
  | .i k, v => ∃ n, v = .int k n ∧ (Lit.int k n).wf = true
  | .b, v => ∃ q, v = .bool q
  | .s, v => ∃ s : ByteArray, v = .string s ∧ s.size ≤ maxLen
  | .sl t, v => v = .slice none 0 0 ∨ ∃ (a : Addr) (len cap N : Nat), v = .slice (some a) len cap ∧ len ≤ cap ∧ cap ≤ maxLen ∧ N < F ∧
      ∀ i, i < len → ∃ cs x, w.cells? 0 (a.add (i * P.cellsOf (eid t))) (P.cellsOf (eid t)) = some cs ∧ DataW.trod enc P w 0 spare true N (eid t) cs = some x
def dw_ (enc : TypeId × Value → H) (P : Program) (w : World) (spare : Nat → Bool) (eid : TC → TypeId) (F : Nat) : List Kd → List Value → Prop
  | [], [] => True
  | k :: ks, v :: vs => kp_ enc P w spare eid F k v ∧ dw_ enc P w spare eid F ks vs
  | _, _ => False
theorem kp_.mono {eid : TC → TypeId} {F F' : Nat} (hF : F ≤ F') {k : Kd} {v : Value} (h : kp_ enc P w spare eid F k v) : kp_ enc P w spare eid F' k v := by
  cases k with
  | sl t =>
    rcases h with h | ⟨a, len, cap, N, h1, h2, h3, h4, h5⟩
    · exact .inl h
    · exact .inr ⟨a, len, cap, N, h1, h2, h3, Nat.lt_of_lt_of_le h4 hF, h5⟩
  | _ => exact h
theorem dw_.mono {eid : TC → TypeId} {F F' : Nat} (hF : F ≤ F') : ∀ {ks : List Kd} {vs : List Value}, dw_ enc P w spare eid F ks vs → dw_ enc P w spare eid F' ks vs
  | [], [], _ => trivial
  | k :: ks, v :: vs, h => ⟨h.1.mono hF, dw_.mono hF h.2⟩
  | [], _ :: _, h => h.elim
  | _ :: _, [], h => h.elim
theorem dw_.append {eid : TC → TypeId} {F : Nat} : ∀ {ks : List Kd} {vs : List Value} {ks' : List Kd} {vs' : List Value}, dw_ enc P w spare eid F ks vs → dw_ enc P w spare eid F ks' vs' → dw_ enc P w spare eid F (ks ++ ks') (vs ++ vs')
  | [], [], _, _, _, h => h
  | k :: ks, v :: vs, _, _, h, h' => ⟨h.1, dw_.append h.2 h'⟩
  | [], _ :: _, _, _, h, _ => h.elim
  | _ :: _, [], _, _, h, _ => h.elim
theorem ig_ {gz_ : TypeId → Option TC} {eid : TC → TypeId} {n : Nat} {rec_ : TypeId → Option (List Kd)} {cs : List Value} (hrec : ∀ T ks cs x, rec_ T = some ks → DataW.trod enc P w 0 spare true n T cs = some x → dw_ enc P w spare eid n ks cs) :
    ∀ (fs : List Field) (off : Nat) (ks : List Kd), kdsL P rec_ fs off = some ks → (∀ f ∈ fs, ∃ x, DataW.trod enc P w 0 spare true n f.type ((cs.drop f.offset).take (P.cellsOf f.type)) = some x) → off + ks.length = cs.length → dw_ enc P w spare eid n ks (cs.drop off)
  | [], off, ks, h, _, hl => by
    simp only [kdsL, Option.some.injEq] at h
    subst h
    rw [List.drop_eq_nil_of_le (by simp at hl; omega)]
    trivial
  | f :: fs, off, ks, h, hx, hl => by
    simp only [kdsL] at h
    obtain ⟨h1, h2⟩ := b4_ h
    have h1 := cI_.1 h1
    cases hr : rec_ f.type with
    | none => rw [hr] at h2; cases h2
    | some k1 =>
      rw [hr] at h2
      obtain ⟨h3, h4⟩ := b4_ h2
      have h3 := cI_.1 h3
      cases hk : kdsL P rec_ fs (off + k1.length) with
      | none => rw [hk] at h4; cases h4
      | some r =>
        rw [hk] at h4
        simp only [Option.some.injEq] at h4
        subst h4
        obtain ⟨x, hx1⟩ := hx f (List.mem_cons_self ..)
        have h5 := hrec _ _ _ _ hr hx1
        have h6 := ig_ (gz_ := gz_) hrec fs (off + k1.length) r hk (fun g hg => hx g (List.mem_cons_of_mem _ hg)) (by simp at hl; omega)
        rw [h1, h3] at h5
        have : cs.drop off = (cs.drop off).take k1.length ++ cs.drop (off + k1.length) := by rw [← List.drop_drop, List.take_append_drop]
        rw [this]
        exact h5.append h6
theorem iv_ {gz_ : TypeId → Option TC} {eid : TC → TypeId} (hcode : ∀ e t, gz_ e = some t → eid t = e) : ∀ (d F : Nat) (T : TypeId) (ks : List Kd) (cs : List Value) (x : DataW H × List MemPlace), kds P gz_ d T = some ks → DataW.trod enc P w 0 spare true F T cs = some x → dw_ enc P w spare eid F ks cs
  | 0, F, T, ks, cs, x, hk, h => by cases hk
  | d + 1, F, T, ks, cs, x, hk, h => by
    simp only [kds] at hk
    cases hu : P.underlying T with
    | none => rw [hu] at hk; cases hk
    | some u =>
      rw [hu] at hk
      cases u <;> simp only at hk <;> (try (cases hk; done))
      case bool =>
        cases hk
        obtain ⟨q, rfl, _⟩ := DataW.trod_bool hu h
        exact ⟨⟨q, rfl⟩, trivial⟩
      case int k =>
        cases hk
        obtain ⟨n, rfl, _, hw⟩ := DataW.trod_int hu h
        exact ⟨⟨n, rfl, hw⟩, trivial⟩
      case string =>
        cases hk
        obtain ⟨s, rfl, _, hs⟩ := DataW.trod_string hu h
        exact ⟨⟨s, rfl, hs⟩, trivial⟩
      case slice e =>
        cases hc : gz_ e with
        | none => rw [hc] at hk; cases hk
        | some t =>
          rw [hc] at hk
          cases hk
          have he := hcode e t hc
          rcases DataW.trod_slice hu h with ⟨rfl, _⟩ | ⟨a, len, cap, elems, fk_, n, hF, rfl, _, _, hl, hm, hlen, hel, _, _⟩
          · exact ⟨.inl rfl, trivial⟩
          · refine ⟨.inr ⟨a, len, cap, n, rfl, hl, hm, by omega, fun i hi => ?_⟩, trivial⟩
            have h1 := hel i hi
            rw [List.getElem?_eq_getElem (by omega)] at h1
            rw [Option.bind_eq_some_iff] at h1
            obtain ⟨cs, k1, k2⟩ := h1
            exact ⟨cs, _, by rw [he]; exact k1, by rw [he]; exact k2⟩
      case struct fs =>
        obtain ⟨xs, n, hF, _, hcl, hxl, hx⟩ := DataW.trod_struct hu h
        cases hks : kdsL P (kds P gz_ d) fs.toList 0 with
        | none => rw [hks] at hk; cases hk
        | some ks' =>
          rw [hks] at hk
          obtain ⟨h1, h2⟩ := b4_ hk
          have h1 := cI_.1 h1
          cases h2
          subst hF
          have := ig_ (gz_ := gz_) (eid := eid) (n := n) (cs := cs) (fun T ks cs x k1 k2 => iv_ hcode d n T ks cs x k1 k2) fs.toList 0 ks hks (fun f hf => by
            obtain ⟨i, hi⟩ := List.getElem?_of_mem hf
            have hi' : fs[i]? = some f := by simpa using hi
            have h3 := hx i f hi'
            have hlt : i < xs.length := by rw [hxl]; exact (Array.getElem?_eq_some_iff.1 hi').1
            rw [List.getElem?_eq_getElem hlt] at h3
            exact ⟨_, h3⟩) (by omega)
          exact (this.mono (Nat.le_succ n))
end
end Go.Pi
end
section
set_option linter.unusedVariables false
namespace Go.Pi
variable [ai_]
open ai_
variable {H : Type} {enc' : TypeId × Value → H} {E : Env} {w : World} {spare : Nat → Bool}
abbrev NoF : Nat → Prop := fun _ => False
omit [ai_] in
theorem g1_ : ∀ {ks : List Kd} {l c : List AV}, gA_ ks l → sims .v l c → c = l
  | [], [], [], _, _ => rfl
  | k :: ks, a :: l, b :: c, h, hs => by
    have e := g1_ h.2 hs.2
    subst e
    have h1 := h.1
    have h2 := hs.1
    cases k <;> obtain ⟨x, rfl⟩ := h1 <;> simp only [AV.sim] at h2 <;> rw [h2]
  | [], [], _ :: _, _, h => h.elim
  | [], _ :: _, _, h, _ => h.elim
  | _ :: _, [], _, h, _ => h.elim
  | _ :: _, _ :: _, [], _, h => h.elim
structure hz_ (E : Env) (gz_ : TypeId → Option TC) (kinds : TC → List Kd) (d : Nat) : Prop where
  codeOk : ∀ e t, gz_ e = some t → E.eid t = e
  kdsOk : ∀ t, kds E.P gz_ d (E.eid t) = some (kinds t)
  dec : ∀ t l, gA_ (kinds t) l → ∃ y, dec t l = some y
  cells : ∀ t, E.P.cellsOf (E.eid t) = t.width
theorem jr_ [ak_] {t : TC} {N : Nat} (hel : ∀ cs x, DataW.trod enc' E.P w 0 spare true N (E.eid t) cs = some x → ∃ y : El t, RL E w NoF (enc .v t y) cs (fun _ => 0) ∧ ∀ c ∈ enc .v t y, Good c) {b o : Nat} (hW : E.P.cellsOf (E.eid t) = t.width) :
    ∀ len, (∀ i, i < len → ∃ cs x, w.cells? 0 ((⟨b, o, none⟩ : Addr).add (i * E.P.cellsOf (E.eid t))) (E.P.cellsOf (E.eid t)) = some cs ∧ DataW.trod enc' E.P w 0 spare true N (E.eid t) cs = some x) →
    ∃ (xs : List (El t)) (vals : List Value), xs.length = len ∧ vals.length = len * t.width ∧ RL E w NoF (bp_ .v t xs) vals (fun _ => 0) ∧ w.rangeAt b o vals ∧ ∀ x ∈ xs, ∀ c ∈ enc .v t x, Good c
  | 0, _ => ⟨[], [], rfl, by simp, RL.nil (fun _ => 0) fun _ => rfl, fun j v h => by simp at h, fun x hx => by cases hx⟩
  | len + 1, h => by
    obtain ⟨xs, vals, h1, h2, h3, h4, h5⟩ := jr_ hel hW len fun i hi => h i (by omega)
    obtain ⟨cs, x, k1, k2⟩ := h len (Nat.lt_succ_self _)
    obtain ⟨y, j1, j2⟩ := hel cs x k2
    obtain ⟨_, hl, hc⟩ := World.cells?_some k1
    rw [hW] at hl hc
    refine ⟨xs ++ [y], vals ++ cs, by simp [h1], by rw [List.length_append, h2, hl]; exact (Nat.succ_mul _ _).symm, ?_, fun j v hj => ?_, fun x hx => ?_⟩
    · rw [cn_]
      refine RL.append h3 (φ' := fun _ => 0) ?_ (fun b => rfl)
      simpa [bp_] using j1
    · by_cases hlt : j < vals.length
      · rw [List.getElem?_append_left hlt] at hj
        exact h4 j v hj
      · rw [List.getElem?_append_right (by omega)] at hj
        have hjl : j - vals.length < t.width := by rw [← hl]; exact (List.getElem?_eq_some_iff.1 hj).1
        have := hc (j - vals.length) hjl
        rw [Addr.add_mid, Addr.add_mid, hj] at this
        rw [← this]
        congr 2
        omega
    · rcases List.mem_append.1 hx with hx | hx
      · exact h5 x hx
      · rw [List.mem_singleton] at hx; subst hx; exact j2
theorem cell_open [ak_] {gz_ : TypeId → Option TC} {kinds : TC → List Kd} {d : Nat} (hk : hz_ E gz_ kinds d) {F : Nat} (ih : ∀ N, N < F → ∀ t cs x, DataW.trod enc' E.P w 0 spare true N (E.eid t) cs = some x → ∃ y : El t, RL E w NoF (enc .v t y) cs (fun _ => 0) ∧ ∀ c ∈ enc .v t y, Good c) {k : Kd} {v : Value} (h : kp_ enc' E.P w spare E.eid F k v) :
    ∃ a, KindOk k a ∧ RL E w NoF [a] [v] (fun _ => 0) ∧ Good a := by
  cases k with
  | i k => obtain ⟨n, rfl, hw⟩ := h; exact ⟨.i k n, ⟨n, rfl⟩, .scal _ _ _ _ _ rfl (.nil _ fun _ => rfl), .i _ _ hw⟩
  | b => obtain ⟨q, rfl⟩ := h; exact ⟨.b q, ⟨q, rfl⟩, .scal _ _ _ _ _ rfl (.nil _ fun _ => rfl), .b _⟩
  | s =>
    obtain ⟨s, rfl, hs⟩ := h
    refine ⟨.s s.data.toList, ⟨_, rfl⟩, .scal _ _ _ _ _ ?_ (.nil _ fun _ => rfl), .s _ ?_⟩
    · show Value.string s = .string ⟨s.data.toList.toArray⟩
      simp
    · rw [Array.length_toList]; exact hs
  | sl t =>
    rcases h with rfl | ⟨a, len, cap, N, rfl, hl, hm, hN, hel⟩
    · exact ⟨.sl .v t [], ⟨_, rfl⟩, .view t [] none 0 0 [] (fun _ => 0) _ _ _ ⟨rfl, Nat.le_refl _⟩ (.nil _ fun _ => rfl) (fun _ => rfl) (fun hp => by omega) (.nil _ fun _ => rfl), .sl _ _ (Nat.zero_le _) (fun x hx => by cases hx)⟩
    · cases len with
      | zero => exact ⟨.sl .v t [], ⟨_, rfl⟩, .view t [] (some a) 0 cap [] (fun _ => 0) _ _ _ ⟨rfl, hl⟩ (.nil _ fun _ => rfl) (fun _ => rfl) (fun hp => by omega) (.nil _ fun _ => rfl), .sl _ _ (Nat.zero_le _) (fun x hx => by cases hx)⟩
      | succ len =>
        have hW := hk.cells t
        have hpos : 0 < t.width := ak_.pos t
        obtain ⟨cs0, x0, k1, _⟩ := hel 0 (Nat.succ_pos _)
        obtain ⟨_, hl0, hc0⟩ := World.cells?_some k1
        have hcell := hc0 0 (by rw [hW]; exact hpos)
        rw [List.getElem?_eq_getElem (by rw [hl0, hW]; exact hpos)] at hcell
        have ha : a.spot = none := by
          have h0 : (a.add (0 * E.P.cellsOf (E.eid t))).add 0 = a := by simp [Addr.add]
          rw [h0] at hcell
          unfold World.cell? at hcell
          split at hcell
          · cases hs : a.spot with
            | none => rfl
            | some q => simp [hs] at hcell
          · cases hcell
        obtain ⟨b, o, sp⟩ := a
        simp only at ha
        subst ha
        have hb : b < w.heap.size := World.cells?_block k1 (by rw [hW]; exact hpos) |> fun h => by simpa [Addr.add] using h
        obtain ⟨xs, vals, e1, e2, e3, e4, e5⟩ := jr_ (ih N hN t) hW (len + 1) hel
        refine ⟨.sl .v t xs, ⟨_, rfl⟩, ?_, .sl _ _ (by omega) e5⟩
        exact .view t xs (some ⟨b, o, none⟩) (len + 1) cap vals (fun _ => 0) _ _ _ ⟨e1.symm, hl⟩ e3 (fun _ => rfl) (fun _ => ⟨b, o, rfl, e4, hb, fun h => h⟩) (.nil _ fun _ => rfl)
theorem go_ [ak_] {gz_ : TypeId → Option TC} {kinds : TC → List Kd} {d : Nat} (hk : hz_ E gz_ kinds d) {F : Nat} (ih : ∀ N, N < F → ∀ t cs x, DataW.trod enc' E.P w 0 spare true N (E.eid t) cs = some x → ∃ y : El t, RL E w NoF (enc .v t y) cs (fun _ => 0) ∧ ∀ c ∈ enc .v t y, Good c) :
    ∀ {ks : List Kd} {vs : List Value}, dw_ enc' E.P w spare E.eid F ks vs → ∃ l, gA_ ks l ∧ RL E w NoF l vs (fun _ => 0) ∧ ∀ c ∈ l, Good c
  | [], [], _ => ⟨[], trivial, .nil _ fun _ => rfl, fun c hc => by cases hc⟩
  | k :: ks, v :: vs, h => by
    obtain ⟨a, h1, h2, h3⟩ := cell_open hk ih h.1
    obtain ⟨l, k1, k2, k3⟩ := go_ hk ih h.2
    refine ⟨a :: l, ⟨h1, k1⟩, RL.cons h2 k2 (fun b => rfl), fun c hc => ?_⟩
    rcases List.mem_cons.1 hc with rfl | hc
    · exact h3
    · exact k3 c hc
  | [], _ :: _, h => h.elim
  | _ :: _, [], h => h.elim
theorem el_open [ak_] {gz_ : TypeId → Option TC} {kinds : TC → List Kd} {d : Nat} (hk : hz_ E gz_ kinds d) : ∀ (F : Nat) (t : TC) (cs : List Value) (x : DataW H × List MemPlace), DataW.trod enc' E.P w 0 spare true F (E.eid t) cs = some x →
    ∃ y : El t, RL E w NoF (enc .v t y) cs (fun _ => 0) ∧ ∀ c ∈ enc .v t y, Good c := by
  intro F
  induction F using Nat.strongRecOn with
  | _ F ih =>
    intro t cs x h
    have h1 := iv_ hk.codeOk d F _ _ _ _ (hk.kdsOk t) h
    obtain ⟨l, h2, h3, h4⟩ := go_ hk ih h1
    obtain ⟨y, hy⟩ := hk.dec t l h2
    have h5 := ak_.dec .v t l y hy
    have h6 := g1_ h2 h5
    exact ⟨y, by rw [h6]; exact h3, by rw [h6]; exact h4⟩
theorem lT_ [ak_] {gz_ : TypeId → Option TC} {kinds : TC → List Kd} {d : Nat} (hk : hz_ E gz_ kinds d) {T : TypeId} {ks : List Kd} (hT : kds E.P gz_ d T = some ks) {v : Value} {dd : DataW H} {ps : List MemPlace} (h : DataW.Trod enc' E.P w 0 spare true T v dd ps) :
    ∃ l, gA_ ks l ∧ RL E w NoF l v.cells.toList (fun _ => 0) ∧ ∀ c ∈ l, Good c := by
  obtain ⟨F, hF⟩ := h
  exact go_ hk (fun N _ => el_open hk N) (iv_ hk.codeOk d F T ks _ _ hT hF)
end Go.Pi
end
section
set_option linter.unusedVariables false
namespace Go.Pi
open Go.RowKit
variable [ai_]
open ai_
omit [ai_] in
theorem bz_ {k : Kd} {ks : List Kd} {l : List AV} (h : gA_ (k :: ks) l) : ∃ a l', l = a :: l' ∧ KindOk k a ∧ gA_ ks l' := by
  cases l with
  | nil => exact h.elim
  | cons a l => exact ⟨a, l, rfl, h.1, h.2⟩
omit [ai_] in
theorem cU_ {l : List AV} (h : gA_ [] l) : l = [] := by
  cases l with
  | nil => rfl
  | cons a l => exact h.elim
def codeL (eid : TC → TypeId) : List TC → TypeId → Option TC
  | [], _ => none
  | t :: ts, e => cond (Nat.beq (eid t) e) (some t) (codeL eid ts e)
omit [ai_] in
theorem lP_ {eid : TC → TypeId} {e : TypeId} {t : TC} : ∀ ts, codeL eid ts e = some t → eid t = e
  | [], h => by cases h
  | u :: ts, h => by
    simp only [codeL] at h
    cases hb : Nat.beq (eid u) e with
    | true => rw [hb] at h; cases h; exact cI_.1 hb
    | false => rw [hb] at h; exact lP_ ts h
theorem law_true [ak_] {E : Env} {f : FuncId} {avs : List AV} {outs : List AV} {ps : List PS} (h : dy_ E f avs (.b true) outs ps) {w : World} (hgl : Glob E w NoF) {Vs : List Value} (hr : RL E w NoF avs Vs (fun _ => 0)) :
    Calls E.P f Vs.toArray w fun e W' => e = .returned (.bool true) ∧ Below w.heap.size w W' := by
  refine (h w NoF Vs _ hr (fun _ => Nat.zero_le _) (fun b hb => hb.elim) hgl).mono fun e W' ⟨V, φ', he, h1, _, _, e1, e2, e3, e4, e5⟩ => ⟨?_, e1, e2, e3, e4, fun k hk => e5 k hk rfl⟩
  cases h1 with
  | scal a v l vs φ hs _ => rw [he, show V = .bool true from hs]
theorem ag_open {E : Env} {w : World} {l : List AV} {cs : Array Value} (h : RL E w NoF l (Value.agg cs).cells.toList (fun _ => 0)) {l' : List AV} {vs : List Value} (h' : RL E w NoF l' vs (fun _ => 0)) :
    RL E w NoF (.ag l :: l') (.agg cs :: vs) (fun _ => 0) := by
  have := RL.ag (E := E) (w := w) (F := NoF) l cs.toList (fun _ => 0) l' vs (fun _ => 0) (fun _ => 0) h h' (fun b => rfl)
  simpa using this
end Go.Pi
end
section
set_option linter.unusedVariables false
set_option maxRecDepth 100000
namespace Go.Pi
open Go.Proofs Go.Proofs.YthfipmaaojdmnaaGreatDoor
open Go.ChangeShapes Go.WideShapes Go.ChangeAt Go.RowKit
def gz_ : TypeId → Option TC := codeL eid [.u8, .int, .str, .lCond, .lRow, .lKid, .iCond, .iRow, .iKid, .iOp, .iJson, .ikeyed]
def kinds : TC → List Kd
  | .u8 => [.i .u8]
  | .int => [.i .i64]
  | .str => [.s]
  | .lCond => [.i .i64, .i .i64, .i .i64]
  | .lRow => [.i .i64, .sl .int]
  | .lKid => [.i .i64, .i .i64]
  | .iCond => [.i .i64, .i .i64, .i .i64]
  | .iRow => [.i .i64, .sl .int]
  | .iKid => [.i .i64, .i .i64]
  | .iOp => [.i .i64, .sl .str, .i .i64, .i .i64, .s, .sl .iJson, .sl .str]
  | .iJson => [.i .i64, .i .i64, .s, .sl .iJson, .sl .str]
  | .ikeyed => [.i .i64, .i .i64, .i .i64, .s, .sl .iJson, .sl .str]
theorem kindsOk : hz_ E gz_ kinds 12 where
  codeOk := fun e t h => lP_ _ h
  kdsOk := by intro t; cases t <;> kernel_rfl
  cells := by intro t; cases t <;> kernel_rfl
  dec := by
    intro t l h
    cases t with
    | u8 =>
      iterate 1 (replace h := bz_ h; obtain ⟨_, _, rfl, ⟨_, rfl⟩, h⟩ := h)
      replace h := cU_ h; subst h; exact ⟨_, rfl⟩
    | int =>
      iterate 1 (replace h := bz_ h; obtain ⟨_, _, rfl, ⟨_, rfl⟩, h⟩ := h)
      replace h := cU_ h; subst h; exact ⟨_, rfl⟩
    | str =>
      iterate 1 (replace h := bz_ h; obtain ⟨_, _, rfl, ⟨_, rfl⟩, h⟩ := h)
      replace h := cU_ h; subst h; exact ⟨_, rfl⟩
    | lCond =>
      iterate 3 (replace h := bz_ h; obtain ⟨_, _, rfl, ⟨_, rfl⟩, h⟩ := h)
      replace h := cU_ h; subst h; exact ⟨_, rfl⟩
    | lRow =>
      iterate 2 (replace h := bz_ h; obtain ⟨_, _, rfl, ⟨_, rfl⟩, h⟩ := h)
      replace h := cU_ h; subst h; exact ⟨_, rfl⟩
    | lKid =>
      iterate 2 (replace h := bz_ h; obtain ⟨_, _, rfl, ⟨_, rfl⟩, h⟩ := h)
      replace h := cU_ h; subst h; exact ⟨_, rfl⟩
    | iCond =>
      iterate 3 (replace h := bz_ h; obtain ⟨_, _, rfl, ⟨_, rfl⟩, h⟩ := h)
      replace h := cU_ h; subst h; exact ⟨_, rfl⟩
    | iRow =>
      iterate 2 (replace h := bz_ h; obtain ⟨_, _, rfl, ⟨_, rfl⟩, h⟩ := h)
      replace h := cU_ h; subst h; exact ⟨_, rfl⟩
    | iKid =>
      iterate 2 (replace h := bz_ h; obtain ⟨_, _, rfl, ⟨_, rfl⟩, h⟩ := h)
      replace h := cU_ h; subst h; exact ⟨_, rfl⟩
    | iOp =>
      iterate 7 (replace h := bz_ h; obtain ⟨_, _, rfl, ⟨_, rfl⟩, h⟩ := h)
      replace h := cU_ h; subst h; exact ⟨_, rfl⟩
    | iJson =>
      iterate 5 (replace h := bz_ h; obtain ⟨_, _, rfl, ⟨_, rfl⟩, h⟩ := h)
      replace h := cU_ h; subst h; exact ⟨_, rfl⟩
    | ikeyed =>
      iterate 6 (replace h := bz_ h; obtain ⟨_, _, rfl, ⟨_, rfl⟩, h⟩ := h)
      replace h := cU_ h; subst h; exact ⟨_, rfl⟩
namespace laws_FnExactViewPatch
theorem own : ownKnob Tryz.prog.godebug = none := by kernel_rfl
theorem laidOut : laidOutB Tryz.prog = true := by kernel_rfl
def tab1 : DataW Unit → List Value
  | .lit (.int k n) => [Value.int k n]
  | _ => []
def tab2 : DataW Unit → List Value
  | .agg l => l.flatMap tab1
  | d => tab1 d
def tabOf : DataW Unit → Array Value
  | .agg l => (l.flatMap tab2).toArray
  | _ => #[]
def Pure : Prop := ∀ (o : bB_) (append : bB_), (∀ c ∈ ([.i .i64 o.q.table, .sl .v .lCond o.q.where_, .i .i64 o.q.order, .b o.q.down, .i .i64 o.q.first, .sl .v .int o.q.show_, .b o.q.kids, .i .i64 o.q.kidTable, .i .i64 o.q.kidCol, .sl .v .lRow o.rows, .sl .v .lKid o.kids] : List AV), Good c) → (∀ c ∈ ([.i .i64 append.q.table, .sl .v .lCond append.q.where_, .i .i64 append.q.order, .b append.q.down, .i .i64 append.q.first, .sl .v .int append.q.show_, .b append.q.kids, .i .i64 append.q.kidTable, .i .i64 append.q.kidCol, .sl .v .lRow append.rows, .sl .v .lKid append.kids] : List AV), Good c) → ∃ n, Go.Pi.laws_FnExactViewPatch n o append = some true
noncomputable def jK_ (os : Os) : World :=
  let w0 := World.holding Tryz.prog os ⟨#[], #[], []⟩
  let put := fun (h : Array Obj) (g : Nat) (cs : Array Value) => h.modify g fun
    | .cells _ t frozen => .cells cs t frozen
    | o => o
  { w0 with heap := put (put (put (w0.heap) 4 (tabOf Rows.laid_math_bits_deBruijn32tab)) 5 (tabOf Rows.laid_math_bits_deBruijn64tab)) 3 (tabOf Rows.laid_internal_strconv_uint64pow10) }
theorem iO_ (os : Os) (args : Array Value) : laidMet Tryz.prog Rows.fnExactViewPatchRow.laid ((jK_ os).forCall (fun _ _ => 0) ⟨#[], args, []⟩).memory :=
  laidMet_of_run' 8 (by kernel_rfl) (by kernel_rfl)
theorem lifted (hp : Pure) (os : Os) (started : os.Started) (H : Type) (enc : TypeId × Value → H) :
    ReturnsInHanded {} Tryz.checked os 4 .any (fun w args => (Rows.fnExactViewPatchSpec.pre enc Tryz.prog Tryz.f4 Rows.fnExactViewPatchRow.domain false w args ∧ laidMet Tryz.prog Rows.fnExactViewPatchRow.laid w) ∧ sizedMet enc Tryz.prog Tryz.f4 (OpenSpec.ofChange Rows.fnExactViewPatchSpec) false w args) (Rows.fnExactViewPatchSpec.post enc Tryz.prog Tryz.f4 false true false false) := by
  refine returnsInHanded_of_change_and (C := Tryz.checked) (X := fun w _ => laidMet Tryz.prog Rows.fnExactViewPatchRow.laid w) (fun _ _ _ hh h => h.of_heap hh) own started (by kernel_rfl) Tryz.func4
    (ChangeSpec.witness_at (enc := enc) (C := Tryz.checked) (os := os) (X := fun w _ => laidMet Tryz.prog Rows.fnExactViewPatchRow.laid w) false (jK_ os) #[.agg #[.int .i64 0, .slice none 0 0, .int .i64 0, .bool false, .int .i64 0, .slice none 0 0, .bool false, .int .i64 0, .int .i64 0, .slice none 0 0, .slice none 0 0], .agg #[.int .i64 0, .slice none 0 0, .int .i64 0, .bool false, .int .i64 0, .slice none 0 0, .bool false, .int .i64 0, .int .i64 0, .slice none 0 0, .slice none 0 0]] 8 rfl (by kernel_rfl) (by kernel_rfl) (by kernel_rfl) (by kernel_rfl) (by kernel_rfl) (iO_ os _)) ?_
  intro W base args ds gs before hval0 hW hcnd _ hL _
  have hval : ∀ (j : Nat) t v, Tryz.f4.params[j]? = some t → args[j]? = some v → Value.okWide Tryz.prog W .any base t v := hval0
  have hW' := hW
  obtain ⟨p, q, hA0, hV, rfl, hfz, hnd⟩ := hW
  have hA : DataW.TrodAll enc Tryz.prog W 0 (fun _ => true) true Tryz.f4.params.toList args.toList ds p := hA0
  rw [Tryz.params4] at hA hval
  obtain ⟨v0, vs0, d0, ds0, p0, q0, hargs, rfl, rfl, h0, r0⟩ := trodAll_cons hA
  obtain ⟨v1, vs1, d1, ds1, p1, q1, rfl, rfl, rfl, h1, r1⟩ := trodAll_cons r0
  obtain ⟨rfl, rfl, rfl⟩ := trodAll_nil r1
  obtain rfl : args = #[v0, v1] := by cases args; simp_all
  obtain ⟨rfl, rfl⟩ := trodVars_none hV
  obtain ⟨c0, rfl, -⟩ := okWide_struct Tryz.underlying58 (hval 0 58 v0 rfl rfl)
  have lt0 : ∀ x ∈ p0, x.block < W.heap.size := by obtain ⟨m, hm⟩ := h0; exact DataW.trod_lt m _ _ _ hm
  obtain ⟨l0, k0, e0, g0⟩ := lT_ kindsOk (T := 58) (ks := [.i .i64, .sl .lCond, .i .i64, .b, .i .i64, .sl .int, .b, .i .i64, .i .i64, .sl .lRow, .sl .lKid]) (by kernel_rfl) h0
  obtain ⟨c1, rfl, -⟩ := okWide_struct Tryz.underlying58 (hval 1 58 v1 rfl rfl)
  have lt1 : ∀ x ∈ p1, x.block < W.heap.size := by obtain ⟨m, hm⟩ := h1; exact DataW.trod_lt m _ _ _ hm
  obtain ⟨l1, k1, e1, g1⟩ := lT_ kindsOk (T := 58) (ks := [.i .i64, .sl .lCond, .i .i64, .b, .i .i64, .sl .int, .b, .i .i64, .i .i64, .sl .lRow, .sl .lKid]) (by kernel_rfl) h1
  replace k0 := bz_ k0; obtain ⟨_, _, rfl, ⟨z0, rfl⟩, k0⟩ := k0
  replace k0 := bz_ k0; obtain ⟨_, _, rfl, ⟨z1, rfl⟩, k0⟩ := k0
  replace k0 := bz_ k0; obtain ⟨_, _, rfl, ⟨z2, rfl⟩, k0⟩ := k0
  replace k0 := bz_ k0; obtain ⟨_, _, rfl, ⟨z3, rfl⟩, k0⟩ := k0
  replace k0 := bz_ k0; obtain ⟨_, _, rfl, ⟨z4, rfl⟩, k0⟩ := k0
  replace k0 := bz_ k0; obtain ⟨_, _, rfl, ⟨z5, rfl⟩, k0⟩ := k0
  replace k0 := bz_ k0; obtain ⟨_, _, rfl, ⟨z6, rfl⟩, k0⟩ := k0
  replace k0 := bz_ k0; obtain ⟨_, _, rfl, ⟨z7, rfl⟩, k0⟩ := k0
  replace k0 := bz_ k0; obtain ⟨_, _, rfl, ⟨z8, rfl⟩, k0⟩ := k0
  replace k0 := bz_ k0; obtain ⟨_, _, rfl, ⟨z9, rfl⟩, k0⟩ := k0
  replace k0 := bz_ k0; obtain ⟨_, _, rfl, ⟨z10, rfl⟩, k0⟩ := k0
  replace k0 := cU_ k0; subst k0
  replace k1 := bz_ k1; obtain ⟨_, _, rfl, ⟨z11, rfl⟩, k1⟩ := k1
  replace k1 := bz_ k1; obtain ⟨_, _, rfl, ⟨z12, rfl⟩, k1⟩ := k1
  replace k1 := bz_ k1; obtain ⟨_, _, rfl, ⟨z13, rfl⟩, k1⟩ := k1
  replace k1 := bz_ k1; obtain ⟨_, _, rfl, ⟨z14, rfl⟩, k1⟩ := k1
  replace k1 := bz_ k1; obtain ⟨_, _, rfl, ⟨z15, rfl⟩, k1⟩ := k1
  replace k1 := bz_ k1; obtain ⟨_, _, rfl, ⟨z16, rfl⟩, k1⟩ := k1
  replace k1 := bz_ k1; obtain ⟨_, _, rfl, ⟨z17, rfl⟩, k1⟩ := k1
  replace k1 := bz_ k1; obtain ⟨_, _, rfl, ⟨z18, rfl⟩, k1⟩ := k1
  replace k1 := bz_ k1; obtain ⟨_, _, rfl, ⟨z19, rfl⟩, k1⟩ := k1
  replace k1 := bz_ k1; obtain ⟨_, _, rfl, ⟨z20, rfl⟩, k1⟩ := k1
  replace k1 := bz_ k1; obtain ⟨_, _, rfl, ⟨z21, rfl⟩, k1⟩ := k1
  replace k1 := cU_ k1; subst k1
  have hT : Lib.TabIs Tryz.prog W "internal/strconv.uint64pow10" .u64 Lib.pow10Tab := Lib.tabIs_of_head (t := 303) (e := 275) (n := 20) hl_ (by kernel_rfl) (by kernel_rfl) (by kernel_rfl) (by kernel_rfl) (by kernel_rfl) (show laidMet Tryz.prog ((_, Lib.tabData .u64 Lib.pow10Tab) :: _) W from hL.tail.tail)
  have hgl : Glob E W NoF := fun p hp => by
    rcases List.mem_singleton.1 hp with rfl
    obtain ⟨T, fr, h⟩ := tab_glob hT hl_; exact ⟨⟨_, T, fr, h, rfl⟩, fun h => h.elim⟩
  obtain ⟨n, hn⟩ := hp (bB_.mk (bi_.mk z0 z1 z2 z3 z4 z5 z6 z7 z8) z9 z10) (bB_.mk (bi_.mk z11 z12 z13 z14 z15 z16 z17 z18 z19) z20 z21) g0 g1
  refine (law_true ((bL_ n).h121 ((z0, z1, z2, z3, z4, z5, z6, z7, z8, z9, z10, ()), (z11, z12, z13, z14, z15, z16, z17, z18, z19, z20, z21, ()), ()) _ hn) hgl (ag_open e0 (ag_open e1 (.nil _ fun _ => rfl)))).mono fun e W' ⟨he, bel⟩ => ?_
  subst he
  exact ⟨_, rfl, _, _, _, [], _, [], hW', trodAll_mk1 (shut_bool Tryz.underlying4 _), (trodAll_cons_mk (Below.trod laidOut (by kernel_rfl) (of_decide_eq_true (by kernel_rfl)) h0 bel lt0) (trodAll_cons_mk (Below.trod laidOut (by kernel_rfl) (of_decide_eq_true (by kernel_rfl)) h1 bel lt1) trodAll_mk0)), rfl, bel.frame _, fun h => by cases h⟩
theorem jf0 : (Rows.fnExactViewPatchRow.wf (OpenSpec.ofChange Rows.fnExactViewPatchSpec)) = true := by kernel_rfl
theorem jf1 : (laidOutB Tryz.prog) = true := by kernel_rfl
theorem jf2 : (mapsRowed Tryz.prog) = true := by kernel_rfl
theorem jf3 : (Tryz.f4.params.all (Tryz.prog.readableRec ·)) = true := by kernel_rfl
theorem jf4 : (namedTie Tryz.prog Rows.fnExactViewPatchRow.named Rows.fnExactViewPatchSpec.vars) = true := by kernel_rfl
theorem jf5 : ((Rows.fnExactViewPatchRow.stops == [])) = true := by kernel_rfl
theorem jf6 : ((Tryz.prog.stops == [])) = true := by kernel_rfl
theorem jf7 : ((Rows.fnExactViewPatchRow.knobs == [])) = true := by kernel_rfl
theorem jf8 : ((Tryz.prog.stopKnobs == [])) = true := by kernel_rfl
theorem jf9 : ((Rows.fnExactViewPatchRow.inPlace == Tryz.prog.inPlace 4)) = true := by kernel_rfl
theorem jf10 : ((Rows.fnExactViewPatchRow.unfollowed == Tryz.prog.unfollowed 4)) = true := by kernel_rfl
theorem jf11 : ((Rows.fnExactViewPatchRow.recurses == Tryz.prog.recurses 4)) = true := by kernel_rfl
theorem jf12 : ((Rows.fnExactViewPatchRow.named == Tryz.prog.varsNamed 4)) = true := by kernel_rfl
theorem jf13 : ((Rows.fnExactViewPatchRow.maps == (Tryz.f4.params.toList ++ Rows.fnExactViewPatchSpec.plain.varTypes Tryz.prog).any (Tryz.prog.mapsRec ·))) = true := by kernel_rfl
theorem jf14 : ((Rows.fnExactViewPatchRow.ifaces == (Tryz.f4.params.toList ++ Rows.fnExactViewPatchSpec.plain.varTypes Tryz.prog).any (Tryz.prog.ifacesRec ·))) = true := by kernel_rfl
theorem jf15 : ((Rows.fnExactViewPatchRow.mapsOut == Tryz.prog.mapsAmong Tryz.f4.resultTypes.toList)) = true := by kernel_rfl
theorem jf16 : ((Rows.fnExactViewPatchRow.loops == (Tryz.f4.params.toList ++ Rows.fnExactViewPatchSpec.plain.varTypes Tryz.prog).any (Tryz.prog.loopsFrom ·))) = true := by kernel_rfl
theorem jf17 : ((Rows.fnExactViewPatchRow.wideKeys == (Tryz.f4.params.toList ++ Rows.fnExactViewPatchSpec.plain.varTypes Tryz.prog ++ Tryz.f4.resultTypes.toList).any (Tryz.prog.wideKeysFrom ·))) = true := by kernel_rfl
theorem jf18 : (Rows.fnExactViewPatchSpec.vars.all (Tryz.prog.varReadable ·)) = true := by kernel_rfl
theorem jf19 : (Tryz.f4.resultTypes.all (fun t => Tryz.prog.readableRec t && decide (t < Tryz.prog.types.size))) = true := by kernel_rfl
theorem jf20 : ((Rows.fnExactViewPatchRow.ifacesOut == Tryz.f4.resultTypes.toList.any (Tryz.prog.ifacesRec ·))) = true := by kernel_rfl
theorem jf21 : ((Rows.fnExactViewPatchRow.loopsOut == Tryz.f4.resultTypes.toList.any (Tryz.prog.loopsFrom ·))) = true := by kernel_rfl
theorem jf22 : ((Rows.fnExactViewPatchRow.plainKeys == Tryz.prog.plainKeys)) = true := by kernel_rfl
theorem jf23 : (Rows.fnExactViewPatchRow.shortTexts.isNone) = true := by kernel_rfl
theorem jf24 : (Tryz.prog.stopsHeard) = true := by kernel_rfl
theorem jf25 : (Tryz.prog.mayEnter) = true := by kernel_rfl
theorem jf26 : ((Rows.fnExactViewPatchRow.lifted == Tryz.prog.liftsFinal)) = true := by kernel_rfl
theorem jf27 : ((Tryz.prog.make == some Rows.fnExactViewPatchRow.make)) = true := by kernel_rfl
theorem jf28 : ((Rows.fnExactViewPatchRow.kinds == (if Rows.fnExactViewPatchRow.domain.isEmpty then [] else Tryz.f4.params.toList.map fun t => match Tryz.prog.underlying t with | some (.int k) => some k | _ => none))) = true := by kernel_rfl
theorem jf29 : ((Rows.fnExactViewPatchRow.pinned == Rows.fnExactViewPatchRow.pinnedBy)) = true := by kernel_rfl
theorem jf30 : ((Rows.fnExactViewPatchRow.veiled == (Tryz.f4.params.toList ++ Rows.fnExactViewPatchSpec.plain.varTypes Tryz.prog ++ Tryz.f4.resultTypes.toList).any (Tryz.prog.veiledRec ·))) = true := by kernel_rfl
theorem jf31 : (Rows.fnExactViewPatchRow.veiledFits Tryz.prog Tryz.f4.params.toList (Tryz.f4.params.toList ++ Rows.fnExactViewPatchSpec.plain.varTypes Tryz.prog ++ Tryz.f4.resultTypes.toList)) = true := by kernel_rfl
theorem fC_ {a b : Bool} (h : a = true) (k : b = true) : (a && b) = true := by rw [h, k]; rfl
theorem facts : joinedFacts Tryz.pinned.checked.prog 4 Tryz.f4 Rows.fnExactViewPatchSpec Rows.fnExactViewPatchRow = true := (fC_ (fC_ (fC_ (fC_ (fC_ (fC_ (fC_ (fC_ (fC_ (fC_ (fC_ (fC_ (fC_ (fC_ (fC_ (fC_ (fC_ (fC_ (fC_ (fC_ (fC_ (fC_ (fC_ (fC_ (fC_ (fC_ (fC_ (fC_ (fC_ (fC_ (fC_ jf0 jf1) jf2) jf3) jf4) jf5) jf6) jf7) jf8) jf9) jf10) jf11) jf12) jf13) jf14) jf15) jf16) jf17) jf18) jf19) jf20) jf21) jf22) jf23) jf24) jf25) jf26) jf27) jf28) jf29) jf30) jf31)
theorem over (hp : Pure) : Rows.fnExactViewPatchRow.holds Tryz.pinned (OpenSpec.ofChange Rows.fnExactViewPatchSpec) :=
  OpenClaim.holds_of_wide 4 Tryz.f4 rfl rfl rfl rfl rfl rfl rfl ⟨rfl, rfl, rfl, rfl, rfl⟩ rfl rfl rfl rfl rfl (by kernel_rfl) Tryz.func4 facts
    (of_decide_eq_true (by kernel_rfl)) (by unfold Func.isWrapper; first | (rw [if_pos (by decide +kernel)]; kernel_rfl) | (rw [if_neg (by decide +kernel)]; exact ⟨rfl, rfl⟩))
    (fun os started H enc _ => lifted hp os started H enc)
end laws_FnExactViewPatch
theorem laws_FnExactViewPatch.card (hp : laws_FnExactViewPatch.Pure) : Rows.FnExactViewPatchCardSaid :=
  Claim7.holds_tied_plain_at .later [] [.data, .data, .data] true (true, "304d6da51f0c7175cb2df9d547ed57e6da802ed516144d25710dbb5a57e39f95") true
    (laws_FnExactViewPatch.over hp) (fun _ h => by cases h) (by kernel_rfl) (fun _ h => by cases h) fnExactViewPatch_row_tie rfl ⟨rfl, rfl⟩ (by kernel_rfl) rfl
    (fun f fn hf hfn => by
      obtain rfl : f = 4 := Option.some.inj ((show Tryz.prog.funcNamed "loop.example/g00198/laws.FnExactViewPatch" = some 4 by kernel_rfl).symm.trans hf) |>.symm
      obtain rfl : fn = Tryz.f4 := (Option.some.inj (Tryz.func4.symm.trans hfn)).symm
      exact ⟨by kernel_rfl, fun j t ht => by
        rw [Tryz.params4] at ht
        have hm : t ∈ ([58, 58] : List TypeId) := List.mem_of_getElem? (show ([58, 58] : List TypeId)[j]? = some t by simpa using ht)
        have := List.all_eq_true.1 (show ([58, 58] : List TypeId).all (fun t => !Tryz.prog.wantsStandIn t) = true by kernel_rfl) t hm
        exact (by simpa using this : Tryz.prog.wantsStandIn t = false)⟩)
    (by kernel_rfl)
end Go.Pi
end
section
set_option linter.unusedVariables false
namespace Go.Pi
section
variable {α β : Type}
def Ev (f : Nat → Nat → Option α) (v : α) : Prop := ∃ M, ∀ n N, M ≤ n → M ≤ N → f n N = some v
theorem ax_ {v w : α} : Ev (fun _ _ => some v) w ↔ v = w :=
  ⟨fun ⟨M, h⟩ => Option.some.inj (h M M (Nat.le_refl _) (Nat.le_refl _)), fun h => ⟨0, fun _ _ _ _ => by rw [h]⟩⟩
theorem dj_ {f : Nat → Nat → Option α} {v w : α} (h : Ev f v) : Ev f w ↔ v = w := by
  constructor
  · rintro ⟨M', h'⟩
    obtain ⟨M, h⟩ := h
    have a := h (max M M') (max M M') (by omega) (by omega)
    have b := h' (max M M') (max M M') (by omega) (by omega)
    rw [a] at b
    exact Option.some.inj b
  · rintro rfl; exact h
theorem aj_ {f : Nat → Nat → Option α} {a : α} (h : Ev f a) {g : Nat → Nat → α → Option β} {v : β} : Ev (fun n N => (f n N).bind (g n N)) v ↔ Ev (fun n N => g n N a) v := by
  obtain ⟨M, h⟩ := h
  constructor
  · rintro ⟨M', h'⟩
    refine ⟨max M M', fun n N h1 h2 => ?_⟩
    have := h' n N (by omega) (by omega)
    simp only [h n N (by omega) (by omega), Option.bind_some] at this
    exact this
  · rintro ⟨M', h'⟩
    refine ⟨max M M', fun n N h1 h2 => ?_⟩
    simp only [h n N (by omega) (by omega), Option.bind_some]
    exact h' n N (by omega) (by omega)
theorem c5_ {v : α} : Ev (fun _ _ => none) v ↔ False := by
  simp only [iff_false]
  rintro ⟨M, h⟩
  cases h M M (Nat.le_refl _) (Nat.le_refl _)
theorem ay_ {c : Bool} {f g : Nat → Nat → Option α} {v : α} : Ev (fun n N => cond c (f n N) (g n N)) v ↔ (c = true → Ev f v) ∧ (c = false → Ev g v) := by
  cases c <;> simp
theorem bU_ {i : Int} {len : Nat} {f : Nat → Nat → Option α} {v : α} : Ev (fun n N => inB i len (f n N)) v ↔ (0 ≤ i ∧ i < (len : Int)) ∧ Ev f v := by
  unfold inB
  rw [ay_, ay_]
  by_cases h1 : 0 ≤ i <;> by_cases h2 : i < (len : Int) <;> simp [h1, h2, c5_]
theorem aJ_ {f : Nat → Nat → Option α} {v : α} (h : Ev (fun n N => f (n + 1) N) v) : Ev f v := by
  obtain ⟨M, h⟩ := h
  refine ⟨M + 1, fun n N h1 h2 => ?_⟩
  obtain ⟨m, rfl⟩ : ∃ m, n = m + 1 := ⟨n - 1, by omega⟩
  exact h m N (by omega) (by omega)
theorem dh_ {f : Nat → Nat → Option α} {v : α} (h : Ev f v) : Ev (fun n _ => f n n) v := by
  obtain ⟨M, h⟩ := h
  exact ⟨M, fun n N h1 h2 => h n n h1 h1⟩
theorem b8_ {f : Nat → Nat → Option α} {v : α} (h : Ev (fun n N => f n (N + 1)) v) : Ev f v := by
  obtain ⟨M, h⟩ := h
  refine ⟨M + 1, fun n N h1 h2 => ?_⟩
  obtain ⟨m, rfl⟩ : ∃ m, N = m + 1 := ⟨N - 1, by omega⟩
  exact h n m (by omega) (by omega)
theorem ev_ex {f : Nat → Option α} {v : α} (h : Ev (fun n _ => f n) v) : ∃ n, f n = some v := by
  obtain ⟨M, h⟩ := h
  exact ⟨M, h M M (Nat.le_refl _) (Nat.le_refl _)⟩
theorem ev_up {σ : Type} (L : Nat → Nat → Nat → σ → Option α) (F : Nat → σ → α) (I : Nat → σ → Prop) (len : Nat)
    (h : ∀ i s, I i s → i ≤ len → (∀ s', I (i + 1) s' → i < len → Ev (fun n N => L n N (i + 1) s') (F (i + 1) s')) → Ev (fun n N => L n (N + 1) i s) (F i s)) :
    ∀ s, I 0 s → Ev (fun n _ => L n n 0 s) (F 0 s) := by
  have key : ∀ d i s, d + i = len → I i s → Ev (fun n N => L n N i s) (F i s) := by
    intro d
    induction d with
    | zero => exact fun i s hd hI => b8_ (h i s hI (by omega) fun s' _ hl => absurd hl (by omega))
    | succ d ih => exact fun i s hd hI => b8_ (h i s hI (by omega) fun s' hI' _ => ih (i + 1) s' (by omega) hI')
  exact fun s hI => dh_ (f := fun n N => L n N 0 s) (key len 0 s (by omega) hI)
theorem hn_ (L : Nat → Nat → Nat → Option α) (F : Nat → α) (len : Nat)
    (h : ∀ i, i ≤ len → (i < len → Ev (fun n N => L n N (i + 1)) (F (i + 1))) → Ev (fun n N => L n (N + 1) i) (F i)) :
    Ev (fun n _ => L n n 0) (F 0) :=
  ev_up (σ := Unit) (fun n N i _ => L n N i) (fun i _ => F i) (fun _ _ => True) len (fun i s _ hi k => h i hi fun hl => k () trivial hl) () trivial
end
abbrev b5_ : Nat := 9223372036854775807
theorem W_id {n : Int} (h : -9223372036854775808 ≤ n) (h' : n < 9223372036854775808) : W n = n := by
  show IntKind.i64.wrap n = n
  rw [IntKind.wrap_i64]; omega
theorem W_up {i : Nat} {len : Nat} (h : i < len) (hl : len ≤ b5_) : W ((i : Int) + 1) = ((i + 1 : Nat) : Int) := by
  rw [W_id (by omega) (by simp only [b5_] at hl; omega)]; omega
theorem drop_step {α : Type} (d : α) {a : List α} {i : Nat} (h : i < a.length) : a.drop i = a.getD i d :: a.drop (i + 1) := by
  rw [List.drop_eq_getElem_cons h, List.getD_eq_getElem?_getD, List.getElem?_eq_getElem h]; rfl
theorem drop_end {α : Type} {a : List α} {i : Nat} (h : a.length ≤ i) : a.drop i = [] := List.drop_eq_nil_of_le h
theorem b6_ {α : Type} (d : α) {a : List α} {i : Nat} (h : i < a.length) : a.getD i d ∈ a := by
  rw [List.getD_eq_getElem?_getD, List.getElem?_eq_getElem h]; exact List.getElem_mem h
end Go.Pi
end
section
set_option linter.unusedVariables false
set_option maxRecDepth 100000
namespace Go.Pi
abbrev a1_.K7 : Type := Int → Option Int
theorem a1_.turn7 {n N : Nat} {k : Int → Option Int} {x0 x1 x2} : a1_.loop7 n k (N + 1) x0 x1 x2 = a1_.step7 n k (a1_.loop7 n k N) x0 x1 x2 := rfl
abbrev aP_.K4 : Type := (List aO_) → Option (List aO_)
theorem aP_.turn4 {n N : Nat} {k : (List aO_) → Option (List aO_)} {x0 x1 x2} : aP_.loop4 n k (N + 1) x0 x1 x2 = aP_.step4 n k (aP_.loop4 n k N) x0 x1 x2 := rfl
abbrev a0_.K4 : Type := (List Int) → Option (List Int)
theorem a0_.turn4 {n N : Nat} {k : (List Int) → Option (List Int)} {x0 x1 x2} : a0_.loop4 n k (N + 1) x0 x1 x2 = a0_.step4 n k (a0_.loop4 n k N) x0 x1 x2 := rfl
abbrev a2_.K4 : Type := (List TRow) → Option (List TRow)
theorem a2_.turn4 {n N : Nat} {k : (List TRow) → Option (List TRow)} {x0 x1 x2} : a2_.loop4 n k (N + 1) x0 x1 x2 = a2_.step4 n k (a2_.loop4 n k N) x0 x1 x2 := rfl
abbrev a3_.K4 : Type := (List TKid) → Option (List TKid)
theorem a3_.turn4 {n N : Nat} {k : (List TKid) → Option (List TKid)} {x0 x1 x2} : a3_.loop4 n k (N + 1) x0 x1 x2 = a3_.step4 n k (a3_.loop4 n k N) x0 x1 x2 := rfl
abbrev aY_.K3 : Type := (List aO_) → (List aO_) → Option Bool
theorem aY_.turn3 {n N : Nat} {k : (List aO_) → (List aO_) → Option Bool} {x0 x1 x2} : aY_.loop3 n k (N + 1) x0 x1 x2 = aY_.step3 n k (aY_.loop3 n k N) x0 x1 x2 := rfl
abbrev bb_.K3 : Type := (List Int) → (List Int) → Option Bool
theorem bb_.turn3 {n N : Nat} {k : (List Int) → (List Int) → Option Bool} {x0 x1 x2} : bb_.loop3 n k (N + 1) x0 x1 x2 = bb_.step3 n k (bb_.loop3 n k N) x0 x1 x2 := rfl
abbrev a7_.K3 : Type := Bs → Option Bool
theorem a7_.turn3 {n N : Nat} {k : Bs → Option Bool} {x0 x1} : a7_.loop3 n k (N + 1) x0 x1 = a7_.step3 n k (a7_.loop3 n k N) x0 x1 := rfl
abbrev ae_.K6 : Type := Int → Int → Bs → (List aa_) → (List Bs) → Option Bool
theorem ae_.turn6 {n N : Nat} {k : Int → Int → Bs → (List aa_) → (List Bs) → Option Bool} {x0 x1 x2 x3 x4 x5} : ae_.loop6 n k (N + 1) x0 x1 x2 x3 x4 x5 = ae_.step6 n k (ae_.loop6 n k N) x0 x1 x2 x3 x4 x5 := rfl
abbrev aA_.K23_1 : Type := Int → Int → Int → Int → Bs → (List aa_) → (List Bs) → Option Int
theorem aA_.turn23 {n N : Nat} {k0 : aa_ → Int → Option Int} {k1 : Int → Int → Int → Int → Bs → (List aa_) → (List Bs) → Option Int} {x0 x1 x2 x3 x4 x5 x6 x7 x8} : aA_.loop23 n k0 k1 (N + 1) x0 x1 x2 x3 x4 x5 x6 x7 x8 = aA_.step23 n k0 k1 (aA_.loop23 n k0 k1 N) x0 x1 x2 x3 x4 x5 x6 x7 x8 := rfl
abbrev bd_.K3 : Type := Option Int
theorem bd_.turn3 {n N : Nat} {k : Option Int} {x0 x1 x2 x3 x4 x5 x6 x7 x8 x9 x10 x11 x12} : bd_.loop3 n k (N + 1) x0 x1 x2 x3 x4 x5 x6 x7 x8 x9 x10 x11 x12 = bd_.step3 n k (bd_.loop3 n k N) x0 x1 x2 x3 x4 x5 x6 x7 x8 x9 x10 x11 x12 := rfl
abbrev aF_.K7 : Type := Bool → Bs → Option Bs
theorem aF_.turn7 {n N : Nat} {k : Bool → Bs → Option Bs} {x0 x1 x2} : aF_.loop7 n k (N + 1) x0 x1 x2 = aF_.step7 n k (aF_.loop7 n k N) x0 x1 x2 := rfl
abbrev bj_.K5 : Type := Bs → Bool → Int → Int → Bs → (List aa_) → (List Bs) → Int → Int → Bs → Int → Int → Bs → (List aa_) → (List Bs) → Option aa_
theorem bj_.turn5 {n N : Nat} {k : Bs → Bool → Int → Int → Bs → (List aa_) → (List Bs) → Int → Int → Bs → Int → Int → Bs → (List aa_) → (List Bs) → Option aa_} {x0 x1 x2 x3 x4 x5 x6 x7 x8 x9 x10 x11 x12 x13 x14 x15 x16 x17 x18 x19 x20} : bj_.loop5 n k (N + 1) x0 x1 x2 x3 x4 x5 x6 x7 x8 x9 x10 x11 x12 x13 x14 x15 x16 x17 x18 x19 x20 = bj_.step5 n k (bj_.loop5 n k N) x0 x1 x2 x3 x4 x5 x6 x7 x8 x9 x10 x11 x12 x13 x14 x15 x16 x17 x18 x19 x20 := rfl
abbrev bc_.K4 : Type := Int → Int → (List aO_) → Int → Bool → Int → (List Int) → Bool → Int → Int → Int → (List Int) → Int → Int → Bs → Int → Int → Bs → (List aa_) → (List Bs) → Option aa_
theorem bc_.turn4 {n N : Nat} {k : Int → Int → (List aO_) → Int → Bool → Int → (List Int) → Bool → Int → Int → Int → (List Int) → Int → Int → Bs → Int → Int → Bs → (List aa_) → (List Bs) → Option aa_} {x0 x1 x2 x3 x4 x5 x6 x7 x8 x9 x10 x11 x12 x13 x14 x15 x16 x17 x18 x19 x20} : bc_.loop4 n k (N + 1) x0 x1 x2 x3 x4 x5 x6 x7 x8 x9 x10 x11 x12 x13 x14 x15 x16 x17 x18 x19 x20 = bc_.step4 n k (bc_.loop4 n k N) x0 x1 x2 x3 x4 x5 x6 x7 x8 x9 x10 x11 x12 x13 x14 x15 x16 x17 x18 x19 x20 := rfl
abbrev aN_.K5 : Type := (List aa_) → (List Int) → Option ((List aa_) × (List Int))
theorem aN_.turn5 {n N : Nat} {k : (List aa_) → (List Int) → Option ((List aa_) × (List Int))} {x0 x1 x2 x3 x4 x5 x6 x7 x8 x9 x10 x11 x12 x13} : aN_.loop5 n k (N + 1) x0 x1 x2 x3 x4 x5 x6 x7 x8 x9 x10 x11 x12 x13 = aN_.step5 n k (aN_.loop5 n k N) x0 x1 x2 x3 x4 x5 x6 x7 x8 x9 x10 x11 x12 x13 := rfl
abbrev bs_.K3 : Type := Option Int
theorem bs_.turn3 {n N : Nat} {k : Option Int} {x0 x1 x2} : bs_.loop3 n k (N + 1) x0 x1 x2 = bs_.step3 n k (bs_.loop3 n k N) x0 x1 x2 := rfl
abbrev aw_.K3 : Type := (List Int) → (List aa_) → Option Bool
theorem aw_.turn3 {n N : Nat} {k : (List Int) → (List aa_) → Option Bool} {x0 x1 x2} : aw_.loop3 n k (N + 1) x0 x1 x2 = aw_.step3 n k (aw_.loop3 n k N) x0 x1 x2 := rfl
abbrev aw_.K11 : Type := (List Int) → (List aa_) → Option Bool
theorem aw_.turn11 {n N : Nat} {k : (List Int) → (List aa_) → Option Bool} {x0 x1 x2} : aw_.loop11 n k (N + 1) x0 x1 x2 = aw_.step11 n k (aw_.loop11 n k N) x0 x1 x2 := rfl
abbrev ah_.K6_1 : Type := Int → Int → Bs → (List aa_) → (List Bs) → Int → Int → Bs → (List aa_) → (List Bs) → Option Bool
theorem ah_.turn6 {n N : Nat} {k0 : aa_ → aa_ → Option Bool} {k1 : Int → Int → Bs → (List aa_) → (List Bs) → Int → Int → Bs → (List aa_) → (List Bs) → Option Bool} {x0 x1 x2 x3 x4 x5 x6 x7 x8 x9 x10} : ah_.loop6 n k0 k1 (N + 1) x0 x1 x2 x3 x4 x5 x6 x7 x8 x9 x10 = ah_.step6 n k0 k1 (ah_.loop6 n k0 k1 N) x0 x1 x2 x3 x4 x5 x6 x7 x8 x9 x10 := rfl
abbrev ah_.K14_1 : Type := Option Bool
theorem ah_.turn14 {n N : Nat} {k0 : aa_ → aa_ → Option Bool} {k1 : Option Bool} {x0 x1 x2 x3 x4 x5 x6 x7 x8 x9 x10} : ah_.loop14 n k0 k1 (N + 1) x0 x1 x2 x3 x4 x5 x6 x7 x8 x9 x10 = ah_.step14 n k0 k1 (ah_.loop14 n k0 k1 N) x0 x1 x2 x3 x4 x5 x6 x7 x8 x9 x10 := rfl
abbrev aX_.K4_1 : Type := Int → Int → Bs → Int → Int → Bs → (List aa_) → (List Bs) → Option aa_
theorem aX_.turn4 {n N : Nat} {k0 : aa_ → Option aa_} {k1 : Int → Int → Bs → Int → Int → Bs → (List aa_) → (List Bs) → Option aa_} {x0 x1 x2 x3 x4 x5 x6 x7 x8 x9 x10 x11 x12 x13} : aX_.loop4 n k0 k1 (N + 1) x0 x1 x2 x3 x4 x5 x6 x7 x8 x9 x10 x11 x12 x13 = aX_.step4 n k0 k1 (aX_.loop4 n k0 k1 N) x0 x1 x2 x3 x4 x5 x6 x7 x8 x9 x10 x11 x12 x13 := rfl
abbrev as_.K5 : Type := (List aa_) → (List Int) → (List aa_) → (List Int) → (List TOp) → (List Int) → Option (List TOp)
theorem as_.turn5 {n N : Nat} {k : (List aa_) → (List Int) → (List aa_) → (List Int) → (List TOp) → (List Int) → Option (List TOp)} {x0 x1 x2 x3 x4 x5 x6} : as_.loop5 n k (N + 1) x0 x1 x2 x3 x4 x5 x6 = as_.step5 n k (as_.loop5 n k N) x0 x1 x2 x3 x4 x5 x6 := rfl
abbrev as_.K13 : Type := (List TOp) → Option (List TOp)
theorem as_.turn13 {n N : Nat} {k : (List TOp) → Option (List TOp)} {x0 x1 x2 x3 x4 x5 x6} : as_.loop13 n k (N + 1) x0 x1 x2 x3 x4 x5 x6 = as_.step13 n k (as_.loop13 n k N) x0 x1 x2 x3 x4 x5 x6 := rfl
abbrev bn_.K4 : Type := (List TOp) → Option (List TOp)
theorem bn_.turn4 {n N : Nat} {k : (List TOp) → Option (List TOp)} {x0 x1 x2 x3} : bn_.loop4 n k (N + 1) x0 x1 x2 x3 = bn_.step4 n k (bn_.loop4 n k N) x0 x1 x2 x3 := rfl
abbrev al_.K6 : Type := Option Bool
theorem al_.turn6 {n N : Nat} {k : Option Bool} {x0 x1 x2 x3} : al_.loop6 n k (N + 1) x0 x1 x2 x3 = al_.step6 n k (al_.loop6 n k N) x0 x1 x2 x3 := rfl
abbrev av_.K6 : Type := Option Bool
theorem av_.turn6 {n N : Nat} {k : Option Bool} {x0 x1 x2 x3} : av_.loop6 n k (N + 1) x0 x1 x2 x3 = av_.step6 n k (av_.loop6 n k N) x0 x1 x2 x3 := rfl
abbrev ap_.K3 : Type := Bs → Option Bool
theorem ap_.turn3 {n N : Nat} {k : Bs → Option Bool} {x0 x1 x2} : ap_.loop3 n k (N + 1) x0 x1 x2 = ap_.step3 n k (ap_.loop3 n k N) x0 x1 x2 := rfl
abbrev ag_.K3 : Type := Option Bool
theorem ag_.turn3 {n N : Nat} {k : Option Bool} {x0 x1 x2 x3} : ag_.loop3 n k (N + 1) x0 x1 x2 x3 = ag_.step3 n k (ag_.loop3 n k N) x0 x1 x2 x3 := rfl
abbrev aS_.K7_1 : Type := Int → Option Int
theorem aS_.turn7 {n N : Nat} {k0 : aa_ → Int → Option Int} {k1 : Int → Option Int} {x0 x1 x2 x3 x4} : aS_.loop7 n k0 k1 (N + 1) x0 x1 x2 x3 x4 = aS_.step7 n k0 k1 (aS_.loop7 n k0 k1 N) x0 x1 x2 x3 x4 := rfl
abbrev bg_.K3 : Type := Option Int
theorem bg_.turn3 {n N : Nat} {k : Option Int} {x0 x1 x2 x3} : bg_.loop3 n k (N + 1) x0 x1 x2 x3 = bg_.step3 n k (bg_.loop3 n k N) x0 x1 x2 x3 := rfl
abbrev az_.K4 : Type := (List Int) → Option (List Int)
theorem az_.turn4 {n N : Nat} {k : (List Int) → Option (List Int)} {x0 x1 x2 x3 x4 x5 x6 x7 x8 x9 x10 x11 x12 x13 x14} : az_.loop4 n k (N + 1) x0 x1 x2 x3 x4 x5 x6 x7 x8 x9 x10 x11 x12 x13 x14 = az_.step4 n k (az_.loop4 n k N) x0 x1 x2 x3 x4 x5 x6 x7 x8 x9 x10 x11 x12 x13 x14 := rfl
abbrev au_.K3 : Type := Option Int
theorem au_.turn3 {n N : Nat} {k : Option Int} {x0 x1 x2 x3} : au_.loop3 n k (N + 1) x0 x1 x2 x3 = au_.step3 n k (au_.loop3 n k N) x0 x1 x2 x3 := rfl
abbrev ad_.K4 : Type := (List Bs) → Bs → Int → Int → Option (Int × Bool)
theorem ad_.turn4 {n N : Nat} {k : (List Bs) → Bs → Int → Int → Option (Int × Bool)} {x0 x1 x2 x3 x4} : ad_.loop4 n k (N + 1) x0 x1 x2 x3 x4 = ad_.step4 n k (ad_.loop4 n k N) x0 x1 x2 x3 x4 := rfl
abbrev bk_.K4 : Type := Int → Int → Bs → Int → Int → Bs → (List aa_) → (List Bs) → Option aa_
theorem bk_.turn4 {n N : Nat} {k : Int → Int → Bs → Int → Int → Bs → (List aa_) → (List Bs) → Option aa_} {x0 x1 x2 x3 x4 x5 x6 x7 x8 x9 x10 x11} : bk_.loop4 n k (N + 1) x0 x1 x2 x3 x4 x5 x6 x7 x8 x9 x10 x11 = bk_.step4 n k (bk_.loop4 n k N) x0 x1 x2 x3 x4 x5 x6 x7 x8 x9 x10 x11 := rfl
abbrev a4_.K4 : Type := Int → Int → (List aO_) → Int → Bool → Int → (List Int) → Bool → Int → Int → Int → Int → Bs → (List Bs) → (List Int) → Option aa_
theorem a4_.turn4 {n N : Nat} {k : Int → Int → (List aO_) → Int → Bool → Int → (List Int) → Bool → Int → Int → Int → Int → Bs → (List Bs) → (List Int) → Option aa_} {x0 x1 x2 x3 x4 x5 x6 x7 x8 x9 x10 x11 x12 x13 x14 x15 x16 x17 x18 x19} : a4_.loop4 n k (N + 1) x0 x1 x2 x3 x4 x5 x6 x7 x8 x9 x10 x11 x12 x13 x14 x15 x16 x17 x18 x19 = a4_.step4 n k (a4_.loop4 n k N) x0 x1 x2 x3 x4 x5 x6 x7 x8 x9 x10 x11 x12 x13 x14 x15 x16 x17 x18 x19 := rfl
abbrev aV_.K4 : Type := (List aa_) → Option (List aa_)
theorem aV_.turn4 {n N : Nat} {k : (List aa_) → Option (List aa_)} {x0 x1 x2 x3 x4 x5 x6 x7 x8 x9 x10 x11 x12 x13} : aV_.loop4 n k (N + 1) x0 x1 x2 x3 x4 x5 x6 x7 x8 x9 x10 x11 x12 x13 = aV_.step4 n k (aV_.loop4 n k N) x0 x1 x2 x3 x4 x5 x6 x7 x8 x9 x10 x11 x12 x13 := rfl
abbrev bl_.K5 : Type := (List aa_) → (List Int) → Option ((List aa_) × (List Int))
theorem bl_.turn5 {n N : Nat} {k : (List aa_) → (List Int) → Option ((List aa_) × (List Int))} {x0 x1 x2 x3 x4} : bl_.loop5 n k (N + 1) x0 x1 x2 x3 x4 = bl_.step5 n k (bl_.loop5 n k N) x0 x1 x2 x3 x4 := rfl
abbrev aW_.K7 : Type := (List am_) → Option ((List am_) × Bool)
theorem aW_.turn7 {n N : Nat} {k : (List am_) → Option ((List am_) × Bool)} {x0 x1 x2 x3 x4} : aW_.loop7 n k (N + 1) x0 x1 x2 x3 x4 = aW_.step7 n k (aW_.loop7 n k N) x0 x1 x2 x3 x4 := rfl
abbrev ab_.K3 : Type := Option Int
theorem ab_.turn3 {n N : Nat} {k : Option Int} {x0 x1 x2 x3} : ab_.loop3 n k (N + 1) x0 x1 x2 x3 = ab_.step3 n k (ab_.loop3 n k N) x0 x1 x2 x3 := rfl
abbrev af_.K6 : Type := Option Bool
theorem af_.turn6 {n N : Nat} {k : Option Bool} {x0 x1 x2 x3} : af_.loop6 n k (N + 1) x0 x1 x2 x3 = af_.step6 n k (af_.loop6 n k N) x0 x1 x2 x3 := rfl
abbrev ac_.K6_1 : Type := Option Bool
theorem ac_.turn6 {n N : Nat} {k0 : aa_ → aa_ → Option Bool} {k1 : Option Bool} {x0 x1 x2 x3} : ac_.loop6 n k0 k1 (N + 1) x0 x1 x2 x3 = ac_.step6 n k0 k1 (ac_.loop6 n k0 k1 N) x0 x1 x2 x3 := rfl
abbrev aC_.K4_1 : Type := Int → Int → Bs → Int → Int → Bs → (List aa_) → (List Bs) → Option aa_
theorem aC_.turn4 {n N : Nat} {k0 : aa_ → Option aa_} {k1 : Int → Int → Bs → Int → Int → Bs → (List aa_) → (List Bs) → Option aa_} {x0 x1 x2 x3 x4 x5 x6 x7 x8 x9 x10} : aC_.loop4 n k0 k1 (N + 1) x0 x1 x2 x3 x4 x5 x6 x7 x8 x9 x10 = aC_.step4 n k0 k1 (aC_.loop4 n k0 k1 N) x0 x1 x2 x3 x4 x5 x6 x7 x8 x9 x10 := rfl
abbrev aL_.K9 : Type := (List am_) → (List am_) → (List TOp) → Option (List TOp)
theorem aL_.turn9 {n N : Nat} {k : (List am_) → (List am_) → (List TOp) → Option (List TOp)} {x0 x1 x2 x3} : aL_.loop9 n k (N + 1) x0 x1 x2 x3 = aL_.step9 n k (aL_.loop9 n k N) x0 x1 x2 x3 := rfl
abbrev aL_.K17 : Type := (List TOp) → Option (List TOp)
theorem aL_.turn17 {n N : Nat} {k : (List TOp) → Option (List TOp)} {x0 x1 x2 x3 x4} : aL_.loop17 n k (N + 1) x0 x1 x2 x3 x4 = aL_.step17 n k (aL_.loop17 n k N) x0 x1 x2 x3 x4 := rfl
abbrev bo_.K4 : Type := (List TOp) → Option (List TOp)
theorem bo_.turn4 {n N : Nat} {k : (List TOp) → Option (List TOp)} {x0 x1 x2 x3 x4} : bo_.loop4 n k (N + 1) x0 x1 x2 x3 x4 = bo_.step4 n k (bo_.loop4 n k N) x0 x1 x2 x3 x4 := rfl
abbrev aE_.K6 : Type := Option Bool
theorem aE_.turn6 {n N : Nat} {k : Option Bool} {x0 x1 x2} : aE_.loop6 n k (N + 1) x0 x1 x2 = aE_.step6 n k (aE_.loop6 n k N) x0 x1 x2 := rfl
abbrev aU_.K6_1 : Type := Option Bool
theorem aU_.turn6 {n N : Nat} {k0 : aa_ → aa_ → Option Bool} {k1 : Option Bool} {x0 x1 x2} : aU_.loop6 n k0 k1 (N + 1) x0 x1 x2 = aU_.step6 n k0 k1 (aU_.loop6 n k0 k1 N) x0 x1 x2 := rfl
abbrev bm_.K6 : Type := Option Bool
theorem bm_.turn6 {n N : Nat} {k : Option Bool} {x0 x1 x2} : bm_.loop6 n k (N + 1) x0 x1 x2 = bm_.step6 n k (bm_.loop6 n k N) x0 x1 x2 := rfl
abbrev aZ_.K6 : Type := Option Bool
theorem aZ_.turn6 {n N : Nat} {k : Option Bool} {x0 x1 x2} : aZ_.loop6 n k (N + 1) x0 x1 x2 = aZ_.step6 n k (aZ_.loop6 n k N) x0 x1 x2 := rfl
abbrev ba_.K6 : Type := Option Bool
theorem ba_.turn6 {n N : Nat} {k : Option Bool} {x0 x1 x2} : ba_.loop6 n k (N + 1) x0 x1 x2 = ba_.step6 n k (ba_.loop6 n k N) x0 x1 x2 := rfl
abbrev be_.K6 : Type := Option Bool
theorem be_.turn6 {n N : Nat} {k : Option Bool} {x0 x1 x2} : be_.loop6 n k (N + 1) x0 x1 x2 = be_.step6 n k (be_.loop6 n k N) x0 x1 x2 := rfl
abbrev bf_.K6 : Type := Option Bool
theorem bf_.turn6 {n N : Nat} {k : Option Bool} {x0 x1 x2} : bf_.loop6 n k (N + 1) x0 x1 x2 = bf_.step6 n k (bf_.loop6 n k N) x0 x1 x2 := rfl
abbrev aD_.K3 : Type := Int → (List aO_) → Option (Int × (List aO_))
theorem aD_.turn3 {n N : Nat} {k : Int → (List aO_) → Option (Int × (List aO_))} {x0 x1 x2} : aD_.loop3 n k (N + 1) x0 x1 x2 = aD_.step3 n k (aD_.loop3 n k N) x0 x1 x2 := rfl
abbrev aG_.K3 : Type := Int → (List Int) → Option (Int × (List Int))
theorem aG_.turn3 {n N : Nat} {k : Int → (List Int) → Option (Int × (List Int))} {x0 x1 x2} : aG_.loop3 n k (N + 1) x0 x1 x2 = aG_.step3 n k (aG_.loop3 n k N) x0 x1 x2 := rfl
abbrev aH_.K3 : Type := Int → (List TRow) → Option (Int × (List TRow))
theorem aH_.turn3 {n N : Nat} {k : Int → (List TRow) → Option (Int × (List TRow))} {x0 x1 x2} : aH_.loop3 n k (N + 1) x0 x1 x2 = aH_.step3 n k (aH_.loop3 n k N) x0 x1 x2 := rfl
abbrev aI_.K3 : Type := Int → (List TKid) → Option (Int × (List TKid))
theorem aI_.turn3 {n N : Nat} {k : Int → (List TKid) → Option (Int × (List TKid))} {x0 x1 x2} : aI_.loop3 n k (N + 1) x0 x1 x2 = aI_.step3 n k (aI_.loop3 n k N) x0 x1 x2 := rfl
abbrev aB_.K6 : Type := Bs → Option Bs
theorem aB_.turn6 {n N : Nat} {k : Bs → Option Bs} {x0 x1} : aB_.loop6 n k (N + 1) x0 x1 = aB_.step6 n k (aB_.loop6 n k N) x0 x1 := rfl
abbrev an_.K3 : Type := Int → (List Bs) → Option (Int × (List Bs))
theorem an_.turn3 {n N : Nat} {k : Int → (List Bs) → Option (Int × (List Bs))} {x0 x1 x2} : an_.loop3 n k (N + 1) x0 x1 x2 = an_.step3 n k (an_.loop3 n k N) x0 x1 x2 := rfl
abbrev aq_.K3_1 : Type := Int → (List aa_) → Option (Int × (List aa_))
theorem aq_.turn3 {n N : Nat} {k0 : (List aa_) → Int → Option (Int × (List aa_))} {k1 : Int → (List aa_) → Option (Int × (List aa_))} {x0 x1 x2} : aq_.loop3 n k0 k1 (N + 1) x0 x1 x2 = aq_.step3 n k0 k1 (aq_.loop3 n k0 k1 N) x0 x1 x2 := rfl
abbrev aT_.K3 : Type := Int → (List TOp) → Option (Int × (List TOp))
theorem aT_.turn3 {n N : Nat} {k : Int → (List TOp) → Option (Int × (List TOp))} {x0 x1 x2} : aT_.loop3 n k (N + 1) x0 x1 x2 = aT_.step3 n k (aT_.loop3 n k N) x0 x1 x2 := rfl
abbrev ao_.K3 : Type := Int → Option Int
theorem ao_.turn3 {n N : Nat} {k : Int → Option Int} {x0 x1 x2} : ao_.loop3 n k (N + 1) x0 x1 x2 = ao_.step3 n k (ao_.loop3 n k N) x0 x1 x2 := rfl
abbrev ar_.K3_1 : Type := Int → Option Int
theorem ar_.turn3 {n N : Nat} {k0 : (List aa_) → Int → Option Int} {k1 : Int → Option Int} {x0 x1 x2} : ar_.loop3 n k0 k1 (N + 1) x0 x1 x2 = ar_.step3 n k0 k1 (ar_.loop3 n k0 k1 N) x0 x1 x2 := rfl
abbrev aQ_.K3 : Type := Int → Option Int
theorem aQ_.turn3 {n N : Nat} {k : Int → Option Int} {x0 x1 x2} : aQ_.loop3 n k (N + 1) x0 x1 x2 = aQ_.step3 n k (aQ_.loop3 n k N) x0 x1 x2 := rfl
end Go.Pi
end
section
set_option linter.unusedVariables false
set_option maxRecDepth 100000
set_option linter.unusedSimpArgs false
namespace Go.Pi
def eh_ (p : Nat → Bool) : Nat → Nat → Bool
  | 0, _ => true
  | d + 1, i => p i && eh_ p d (i + 1)
def gG_ (p : Nat → Bool) (len : Nat) : Bool := eh_ p len 0
theorem d7_ (L : Nat → Nat → Nat → Option Bool) (p : Nat → Bool) {len : Nat} {v : Bool}
    (h : ∀ i w, i < len → Ev (fun n N => L n N (i + 1)) w → Ev (fun n N => L n (N + 1) i) (p i && w)) (h2 : Ev (fun n N => L n (N + 1) len) v) :
    Ev (fun n _ => L n n 0) (gG_ p len && v) := by
  have key : ∀ d i, d + i = len → Ev (fun n N => L n N i) (eh_ p d i && v) := by
    intro d
    induction d with
    | zero => intro i hd; obtain rfl : i = len := by omega
              simpa [eh_] using b8_ (f := fun n N => L n N i) h2
    | succ d ih => intro i hd
                   have := h i _ (by omega) (ih (i + 1) (by omega))
                   rw [← Bool.and_assoc] at this
                   exact b8_ (f := fun n N => L n N i) this
  exact dh_ (f := fun n N => L n N 0) (key len 0 (by omega))
theorem dS_ {α : Type} {f : Nat → Nat → Option α} {v w : α} (h : Ev f v) (e : v = w) : Ev f w := e ▸ h
def inn (x lo hi : Int) : Bool := decide (lo ≤ x) && decide (x ≤ hi)
theorem inn_iff {x lo hi : Int} : inn x lo hi = true ↔ lo ≤ x ∧ x ≤ hi := by simp [inn]
theorem l1In_ev {x lo hi : Int} : Ev (fun n _ => cC_ n x lo hi) (inn x lo hi) := by
  refine aJ_ ?_
  simp only [cC_, ay_, ax_, inn]
  grind
theorem within_ev {x lo hi : Int} : Ev (fun n _ => aM_ n x lo hi) (inn x lo hi) := by
  refine aJ_ ?_
  simp only [aM_, ay_, ax_, inn]
  grind
section
variable {β : Type} {x lo hi : Int} {g : Nat → Nat → Bool → Option β} {v : β}
theorem l1In_b : Ev (fun n N => (cC_ n x lo hi).bind (g n N)) v ↔ Ev (fun n N => g n N (inn x lo hi)) v := aj_ l1In_ev
theorem gK_ : Ev (fun n N => (aM_ n x lo hi).bind (g n N)) v ↔ Ev (fun n N => g n N (inn x lo hi)) v := aj_ within_ev
theorem isNum_b : Ev (fun n N => (bh_ n x).bind (g n N)) v ↔ Ev (fun n N => g n N (inn x (-1000000000) 1000000000)) v :=
  aj_ (aJ_ (by simp only [bh_, gK_, ax_]))
end
theorem c8_ {i len : Nat} (h : i < len) : decide ((i : Int) < (len : Int)) = true := by simp; omega
theorem cX_ {len : Nat} : decide ((len : Int) < (len : Int)) = false := by simp
theorem cQ_ {i len : Nat} (h : i < len) : ((0 : Int) ≤ (i : Int) ∧ (i : Int) < (len : Int)) ↔ True := by simp; omega
end Go.Pi
end
section
set_option linter.unusedVariables false
namespace Go.Pi
abbrev cap : Nat := 1048576
def d1_ {α : Type} (f : α → Nat) : List α → Nat
  | [] => 0
  | x :: xs => f x + d1_ f xs
def cF_ {α : Type} (f : α → Nat) (l : List α) : Nat := l.length + d1_ f l
def lv_ {α : Type} (P : α → Prop) (l : List α) : Prop := l.length ≤ b5_ ∧ ∀ x ∈ l, P x
def szI (_ : Int) : Nat := 0
def szB (s : Bs) : Nat := s.length
def lenI (_ : Int) : Prop := True
def lenB (s : Bs) : Prop := s.length ≤ b5_
theorem eP_ {α : Type} (f : α → Nat) (d : α) {a : List α} {i : Nat} (h : i < a.length) : d1_ f (a.drop i) = f (a.getD i d) + d1_ f (a.drop (i + 1)) := by
  rw [drop_step d h]; rfl
theorem fK_ {α : Type} (f : α → Nat) (x : α) : ∀ (a : List α) (i : Nat), d1_ f ((a.set i x).drop (i + 1)) = d1_ f (a.drop (i + 1))
  | [], _ => rfl
  | _ :: _, 0 => rfl
  | _ :: a, i + 1 => by simpa using fK_ f x a i
theorem gW_ {α : Type} (f : α → Nat) {a : List α} {x : α} (h : x ∈ a) : f x ≤ d1_ f a := by
  induction a with
  | nil => cases h
  | cons y a ih =>
    simp only [d1_]
    rcases List.mem_cons.1 h with rfl | h
    · omega
    · have := ih h; omega
theorem dF_ {α : Type} (f : α → Nat) {a : List α} {x : α} (h : x ∈ a) : 1 + f x ≤ cF_ f a := by
  unfold cF_
  have := gW_ f h
  have := List.length_pos_of_mem h
  omega
theorem cp_ {α : Type} (f : α → Nat) (a : List α) : a.length ≤ cF_ f a := by unfold cF_; omega
theorem fJ_ {α : Type} (f : α → Nat) (h : ∀ x, f x = 0) : ∀ a : List α, d1_ f a = 0
  | [] => rfl
  | x :: a => by simp only [d1_, h, fJ_ f h a]
theorem take_set {α : Type} (d : α) {a s : List α} {i : Nat} (h : i < a.length) (hs : s.length = a.length) (ht : s.take i = a.take i) : (s.set i (a.getD i d)).take (i + 1) = a.take (i + 1) := by
  rw [List.take_add_one, List.take_add_one, List.take_set_of_le (Nat.le_refl i), ht, List.getElem?_set_self (by omega), List.getD_eq_getElem?_getD, List.getElem?_eq_getElem h]
  rfl
theorem ew_ {α : Type} (d : α) {a : List α} {i : Nat} (h : i < a.length) (x : α) : (a.set i x).getD i d = x := by
  rw [List.getD_eq_getElem?_getD, List.getElem?_set_self h]; rfl
def eH_ (l : Int) (s : Nat) : Int := if (s : Int) ≤ l then l - s else -1
theorem jj_ {l : Int} (h : 0 ≤ l) : eH_ l 0 = l := by unfold eH_; rw [if_pos (by omega)]; omega
theorem ix_ {l : Int} {s t : Nat} (h0 : 0 ≤ l) : (eH_ l s < 0 → eH_ l (s + t) = -1) ∧ (¬ eH_ l s < 0 → (0 ≤ eH_ l s ∧ eH_ l s ≤ l) ∧ eH_ (eH_ l s) t = eH_ l (s + t)) := by
  unfold eH_
  constructor <;> intro h
  · split at h
    · omega
    · rw [if_neg (by omega)]
  · split at h
    · rename_i h1
      rw [if_pos h1]
      refine ⟨by omega, ?_⟩
      by_cases h2 : (t : Int) ≤ l - s
      · rw [if_pos h2, if_pos (by omega)]; omega
      · rw [if_neg h2, if_neg (by omega)]
    · omega
theorem subS_ok {l : Int} {s : Nat} (h : ¬ eH_ l s < 0) : (s : Int) ≤ l := by
  unfold eH_ at h; split at h <;> omega
section
variable {α β : Type}
theorem kP_ {f : Nat → Nat → Option Int} {g : Nat → Nat → Int → Option Int} {l : Int} {s t : Nat} (h0 : 0 ≤ l) (h1 : l ≤ 1048576) (h : Ev f (eH_ l s)) (k : ∀ r, 0 ≤ r → r ≤ 1048576 → Ev (fun n N => g n N r) (eH_ r t)) :
    Ev (fun n N => (f n N).bind fun x => cond (decide (x < 0)) (some (-1)) (g n N x)) (eH_ l (s + t)) := by
  rw [aj_ h, ay_]
  obtain ⟨a, b⟩ := ix_ (l := l) (s := s) (t := t) h0
  refine ⟨fun h => ?_, fun h => ?_⟩
  · rw [a (of_decide_eq_true h)]; exact ax_.2 rfl
  · obtain ⟨⟨b1, b2⟩, b3⟩ := b (of_decide_eq_false h)
    rw [← b3]
    exact k _ b1 (by omega)
theorem lI_ {l : Int} (h : 0 ≤ l) : Ev (fun _ _ => some l) (eH_ l 0) := by rw [jj_ h]; exact ax_.2 rfl
theorem ev_szL {l : Int} {m t : Nat} (h0 : 0 ≤ l) (h1 : l ≤ 1048576) (hm : m ≤ b5_) {g : Nat → Nat → Int → Option Int} (k : ∀ r, 0 ≤ r → r ≤ 1048576 → Ev (fun n N => g n N r) (eH_ r t)) :
    Ev (fun n N => cond (decide (W (l - (m : Int)) < 0)) (some (-1)) (g n N (W (l - (m : Int))))) (eH_ l (m + t)) := by
  simp only [b5_] at hm
  rw [W_id (by omega) (by omega)]
  have e : l - (m : Int) < 0 ∨ l - m = eH_ l m := by unfold eH_; split <;> omega
  rw [ay_]
  refine ⟨fun h => ?_, fun h => ?_⟩
  · have h := of_decide_eq_true h
    rw [(ix_ h0).1 (by unfold eH_; rw [if_neg (by omega)]; omega)]
    exact ax_.2 rfl
  · have h := of_decide_eq_false h
    have e := e.resolve_left h
    have := (ix_ (l := l) (s := m) (t := t) h0).2 (by rw [← e]; exact h)
    rw [← this.2, ← e]
    exact k _ (by omega) (by omega)
theorem ev_szI {l : Int} {m : Nat} (h0 : 0 ≤ l) (h1 : l ≤ 1048576) (hm : m ≤ b5_) :
    Ev (fun _ _ => cond (decide (W (l - (m : Int)) < 0)) (some (-1)) (some (W (l - (m : Int))))) (eH_ l m) :=
  ev_szL (t := 0) (g := fun _ _ x => some x) h0 h1 hm fun r a b => lI_ a
theorem sz_list (d : α) (f : α → Nat) (L : Nat → Nat → Int → Nat → Option Int) (a : List α)
    (h1 : ∀ i l, i < a.length → 0 ≤ l → l ≤ 1048576 → ∀ t, (∀ r, 0 ≤ r → r ≤ 1048576 → Ev (fun n N => L n N r (i + 1)) (eH_ r t)) → Ev (fun n N => L n (N + 1) l i) (eH_ l (f (a.getD i d) + t)))
    (h2 : ∀ l, Ev (fun n N => L n (N + 1) l a.length) l) (l : Int) (hl : 0 ≤ l) (hl' : l ≤ 1048576) : Ev (fun n _ => L n n l 0) (eH_ l (d1_ f a)) := by
  have key : ∀ j i, j + i = a.length → ∀ l, 0 ≤ l → l ≤ 1048576 → Ev (fun n N => L n N l i) (eH_ l (d1_ f (a.drop i))) := by
    intro j
    induction j with
    | zero =>
      intro i hi l h0 _
      rw [drop_end (by omega)]
      refine b8_ ?_
      have : i = a.length := by omega
      subst this
      rw [show d1_ f [] = 0 from rfl, jj_ h0]
      exact h2 l
    | succ j ih =>
      intro i hi l h0 h1'
      rw [eP_ f d (by omega)]
      exact b8_ (h1 i l (by omega) h0 h1' _ fun r a b => ih (i + 1) (by omega) r a b)
  have := key a.length 0 (by omega) l hl hl'
  rw [List.drop_zero] at this
  exact dh_ (f := fun n N => L n N l 0) this
theorem iY_ (d : α) (a : List α) (L : Nat → Nat → Nat → List α → Option (List α))
    (h1 : ∀ i s, i < a.length → s.length = a.length → Ev (fun n N => L n N (i + 1) (s.set i (a.getD i d))) a → Ev (fun n N => L n (N + 1) i s) a)
    (h2 : Ev (fun n N => L n (N + 1) a.length a) a) (s : List α) (hs : s.length = a.length) : Ev (fun n _ => L n n 0 s) a := by
  refine ev_up L (fun _ _ => a) (fun i s => s.length = a.length ∧ s.take i = a.take i) a.length (fun i s hI hi k => ?_) s ⟨hs, by simp⟩
  by_cases h : i < a.length
  · exact h1 i s h hI.1 (k _ ⟨by simp [hI.1], take_set d h hI.1 hI.2⟩ h)
  · have e : i = a.length := by omega
    subst e
    have : s = a := by
      have := hI.2
      rwa [List.take_of_length_le (by omega), List.take_of_length_le (Nat.le_refl _)] at this
    subst this
    exact h2
theorem h3_ (Q : α → Prop) (d : α) (f : α → Nat) (LM : Nat → Nat → Int → Nat → List α → Option (Int × List α)) (LH : Nat → Nat → List α → Int → Nat → Option Int)
    (hm : ∀ i (a : List α) (k : Int), i < a.length → Q (a.getD i d) → a.length ≤ b5_ → 0 ≤ k → k + 32 * (1 + f (a.getD i d) : Nat) ≤ b5_ →
      ∃ k' x', k ≤ k' ∧ k' ≤ k + 32 * (1 + f (a.getD i d) : Nat) ∧ (∀ F, Ev (fun n N => LM n N k' (i + 1) (a.set i x')) F → Ev (fun n N => LM n (N + 1) k i a) F) ∧
        ∀ (b : List α) F, i < b.length → b.length ≤ b5_ → b.getD i d = x' → Ev (fun n N => LH n N b k' (i + 1)) F → Ev (fun n N => LH n (N + 1) b k i) F)
    (em : ∀ (a : List α) k, Ev (fun n N => LM n (N + 1) k a.length a) (k, a)) (eh : ∀ (a : List α) k, Ev (fun n N => LH n (N + 1) a k a.length) k)
    (a : List α) (k : Int) (hq : ∀ i, i < a.length → Q (a.getD i d)) (ha : a.length ≤ b5_) (hk : 0 ≤ k) (hb : k + 32 * (cF_ f a : Nat) ≤ b5_) :
    ∃ k' a', k ≤ k' ∧ k' ≤ k + 32 * (cF_ f a : Nat) ∧ a'.length = a.length ∧ Ev (fun n _ => LM n n k 0 a) (k', a') ∧ Ev (fun n _ => LH n n a' k 0) k' := by
  have key : ∀ j i (a : List α) (k : Int), j + i = a.length → (∀ m, i ≤ m → m < a.length → Q (a.getD m d)) → a.length ≤ b5_ → 0 ≤ k → k + 32 * ((j + d1_ f (a.drop i) : Nat) : Int) ≤ b5_ →
      ∃ k' a', k ≤ k' ∧ k' ≤ k + 32 * ((j + d1_ f (a.drop i) : Nat) : Int) ∧ a'.length = a.length ∧ a'.take i = a.take i ∧ Ev (fun n N => LM n N k i a) (k', a') ∧ Ev (fun n N => LH n N a' k i) k' := by
    intro j
    induction j with
    | zero =>
      intro i a k hi _ _ hk _
      have : i = a.length := by omega
      subst this
      exact ⟨k, a, by omega, by omega, rfl, rfl, b8_ (em a k), b8_ (eh a k)⟩
    | succ j ih =>
      intro i a k hi hq ha hk hb
      rw [eP_ f d (by omega)] at hb ⊢
      obtain ⟨k1, x', p1, p2, p3, p4⟩ := hm i a k (by omega) (hq i (Nat.le_refl _) (by omega)) ha hk (by omega)
      obtain ⟨k2, a', q1, q2, q3, q4, q5, q6⟩ := ih (i + 1) (a.set i x') k1 (by rw [List.length_set]; omega) (fun m h1 h2 => by
        rw [List.length_set] at h2
        rw [List.getD_eq_getElem?_getD, List.getElem?_set_ne (by omega), ← List.getD_eq_getElem?_getD]
        exact hq m (by omega) h2) (by rw [List.length_set]; exact ha) (by omega) (by rw [fK_]; omega)
      rw [fK_] at q2
      rw [List.length_set] at q3
      have hlt : i < a'.length := by omega
      have hx : a'.getD i d = x' := by
        have e := congrArg (fun l => l[i]?) q4
        simp only [List.getElem?_take, if_pos (Nat.lt_succ_self i), List.getElem?_set_self (show i < a.length by omega)] at e
        rw [List.getD_eq_getElem?_getD, e]; rfl
      refine ⟨k2, a', by omega, by omega, q3, ?_, b8_ (p3 _ q5), b8_ (p4 a' k2 hlt (by omega) hx q6)⟩
      have e := congrArg (List.take i) q4
      simp only [List.take_take, Nat.min_eq_left (Nat.le_succ i), List.take_set_of_le (Nat.le_refl i)] at e
      exact e
  obtain ⟨k', a', h1, h2, h3, _, h5, h6⟩ := key a.length 0 a k (by omega) (fun m _ h => hq m h) ha hk (by rw [List.drop_zero]; unfold cF_ at hb; omega)
  refine ⟨k', a', h1, by rw [List.drop_zero] at h2; unfold cF_; omega, h3, dh_ (f := fun n N => LM n N k 0 a) h5, dh_ (f := fun n N => LH n N a' k 0) h6⟩
theorem jF_ (d : α) (f : α → Nat) (LM : Nat → Nat → Int → Nat → List α → Option (Int × List α)) (LH : Nat → Nat → List α → Int → Nat → Option Int)
    (hm : ∀ i (a : List α) (k : Int), i < a.length → a.length ≤ b5_ → 0 ≤ k → k + 32 * (1 + f (a.getD i d) : Nat) ≤ b5_ →
      ∃ k' x', k ≤ k' ∧ k' ≤ k + 32 * (1 + f (a.getD i d) : Nat) ∧ (∀ F, Ev (fun n N => LM n N k' (i + 1) (a.set i x')) F → Ev (fun n N => LM n (N + 1) k i a) F) ∧
        ∀ (b : List α) F, i < b.length → b.length ≤ b5_ → b.getD i d = x' → Ev (fun n N => LH n N b k' (i + 1)) F → Ev (fun n N => LH n (N + 1) b k i) F)
    (em : ∀ (a : List α) k, Ev (fun n N => LM n (N + 1) k a.length a) (k, a)) (eh : ∀ (a : List α) k, Ev (fun n N => LH n (N + 1) a k a.length) k)
    (a : List α) (k : Int) (ha : a.length ≤ b5_) (hk : 0 ≤ k) (hb : k + 32 * (cF_ f a : Nat) ≤ b5_) :
    ∃ k' a', k ≤ k' ∧ k' ≤ k + 32 * (cF_ f a : Nat) ∧ a'.length = a.length ∧ Ev (fun n _ => LM n n k 0 a) (k', a') ∧ Ev (fun n _ => LH n n a' k 0) k' :=
  h3_ (fun _ => True) d f LM LH (fun i a k h1 _ h2 h3 h4 => hm i a k h1 h2 h3 h4) em eh a k (fun _ _ => trivial) ha hk hb
theorem fe_ (d : α) (f : α → Nat) (LM : Nat → Nat → Int → Nat → List α → Option (Int × List α))
    (hm : ∀ i (a : List α) (k : Int), i < a.length → a.length ≤ b5_ → 0 ≤ k → k + 32 * (1 + f (a.getD i d) : Nat) ≤ b5_ →
      ∃ k' x', k ≤ k' ∧ k' ≤ k + 32 * (1 + f (a.getD i d) : Nat) ∧ (∀ F, Ev (fun n N => LM n N k' (i + 1) (a.set i x')) F → Ev (fun n N => LM n (N + 1) k i a) F))
    (em : ∀ (a : List α) k, Ev (fun n N => LM n (N + 1) k a.length a) (k, a))
    (a : List α) (k : Int) (ha : a.length ≤ b5_) (hk : 0 ≤ k) (hb : k + 32 * (cF_ f a : Nat) ≤ b5_) :
    ∃ k' a', k ≤ k' ∧ k' ≤ k + 32 * (cF_ f a : Nat) ∧ a'.length = a.length ∧ Ev (fun n _ => LM n n k 0 a) (k', a') ∧ True := by
  have key : ∀ j i (a : List α) (k : Int), j + i = a.length → a.length ≤ b5_ → 0 ≤ k → k + 32 * ((j + d1_ f (a.drop i) : Nat) : Int) ≤ b5_ →
      ∃ k' a', k ≤ k' ∧ k' ≤ k + 32 * ((j + d1_ f (a.drop i) : Nat) : Int) ∧ a'.length = a.length ∧ Ev (fun n N => LM n N k i a) (k', a') := by
    intro j
    induction j with
    | zero =>
      intro i a k hi _ hk _
      have : i = a.length := by omega
      subst this
      exact ⟨k, a, by omega, by omega, rfl, b8_ (em a k)⟩
    | succ j ih =>
      intro i a k hi ha hk hb
      rw [eP_ f d (by omega)] at hb ⊢
      obtain ⟨k1, x', p1, p2, p3⟩ := hm i a k (by omega) ha hk (by omega)
      obtain ⟨k2, a', q1, q2, q3, q5⟩ := ih (i + 1) (a.set i x') k1 (by rw [List.length_set]; omega) (by rw [List.length_set]; exact ha) (by omega) (by rw [fK_]; omega)
      rw [fK_] at q2
      rw [List.length_set] at q3
      exact ⟨k2, a', by omega, by omega, q3, b8_ (p3 _ q5)⟩
  obtain ⟨k', a', h1, h2, h3, h5⟩ := key a.length 0 a k (by omega) ha hk (by rw [List.drop_zero]; unfold cF_ at hb; omega)
  exact ⟨k', a', h1, by rw [List.drop_zero] at h2; unfold cF_; omega, h3, dh_ (f := fun n N => LM n N k 0 a) h5, trivial⟩
end
theorem di_ {k : Int} (h : 0 ≤ k) (h' : k + 1 ≤ b5_) : W (k + 1) = k + 1 := W_id (by omega) (by simp only [b5_] at h'; omega)
end Go.Pi
end
section
set_option linter.unusedVariables false
set_option maxRecDepth 100000
set_option linter.unusedSimpArgs false
namespace Go.Pi
theorem W_dn {i : Nat} (h : i ≤ b5_) : W ((i : Int) - 1) = (i : Int) - 1 := by
  rw [W_id (by omega) (by simp only [b5_] at h; omega)]
theorem lf_ {i : Nat} : ((i : Int) - 1).toNat = i - 1 := by omega
theorem gO_ {x lo hi : Int} (h : inn x lo hi = true) : lo ≤ x ∧ x ≤ hi := inn_iff.1 h
def ey_ {α : Type} (s : Nat → α → α) (v : α) : Nat → Nat → α
  | 0, _ => v
  | d + 1, i => s i (ey_ s v d (i + 1))
theorem ho_ {α : Type} (L : Nat → Nat → Nat → Option α) (s : Nat → α → α) {len : Nat} {v : α}
    (h : ∀ i w, i < len → Ev (fun n N => L n N (i + 1)) w → Ev (fun n N => L n (N + 1) i) (s i w)) (h2 : Ev (fun n N => L n (N + 1) len) v) :
    Ev (fun n _ => L n n 0) (ey_ s v len 0) := by
  have key : ∀ d i, d + i = len → Ev (fun n N => L n N i) (ey_ s v d i) := by
    intro d
    induction d with
    | zero => intro i hd; obtain rfl : i = len := by omega
              exact b8_ (f := fun n N => L n N i) h2
    | succ d ih => intro i hd
                   exact b8_ (f := fun n N => L n N i) (h i _ (by omega) (ih (i + 1) (by omega)))
  exact dh_ (f := fun n N => L n N 0) (key len 0 (by omega))
theorem cG_ {α : Type} {n b : Nat} {f : Nat → Nat → Option α} {v : α} : Ev (fun m N => cL_ n b (f m N)) v ↔ n * b ≤ 140737488355328 ∧ Ev f v := by
  unfold cL_
  rw [ay_]
  by_cases h : n * b ≤ 140737488355328 <;> simp [h, c5_]
theorem ev_map {α β γ : Type} (d : α) (a : List α) (f : α → β) (L : Nat → Nat → Nat → List β → Option γ) (v : γ)
    (h1 : ∀ i s, i < a.length → s.length = i → ∀ F, Ev (fun n N => L n N (i + 1) (s ++ [f (a.getD i d)])) F → Ev (fun n N => L n (N + 1) i s) F)
    (h2 : Ev (fun n N => L n (N + 1) a.length (a.map f)) v) : Ev (fun n _ => L n n 0 []) v := by
  have key : ∀ j i, j + i = a.length → Ev (fun n N => L n N i ((a.take i).map f)) v := by
    intro j
    induction j with
    | zero =>
      intro i hi
      have : i = a.length := by omega
      subst this
      rw [List.take_of_length_le (Nat.le_refl _)]
      exact b8_ h2
    | succ j ih =>
      intro i hi
      refine b8_ (h1 i _ (by omega) (by simp; omega) _ ?_)
      have := ih (i + 1) (by omega)
      rw [List.take_add_one, List.map_append] at this
      have e : a[i]?.toList = [a.getD i d] := by
        rw [List.getD_eq_getElem?_getD, List.getElem?_eq_getElem (by omega)]; rfl
      rw [e] at this
      exact this
  have := key a.length 0 (by omega)
  exact dh_ (f := fun n N => L n N 0 []) this
abbrev capR : Nat := 1073741824
theorem e2_ {α γ : Type} (S : Nat → α) (len : Nat) (L : Nat → Nat → Nat → α → Option γ) (v : γ)
    (h1 : ∀ i, i < len → ∀ F, Ev (fun n N => L n N (i + 1) (S (i + 1))) F → Ev (fun n N => L n (N + 1) i (S i)) F)
    (h2 : Ev (fun n N => L n (N + 1) len (S len)) v) : Ev (fun n _ => L n n 0 (S 0)) v := by
  have key : ∀ j i, j + i = len → Ev (fun n N => L n N i (S i)) v := by
    intro j
    induction j with
    | zero =>
      intro i hi
      have : i = len := by omega
      subst this
      exact b8_ h2
    | succ j ih => exact fun i hi => b8_ (h1 i (by omega) _ (ih (i + 1) (by omega)))
  exact dh_ (f := fun n N => L n N 0 (S 0)) (key len 0 (by omega))
theorem de_ {α : Type} (d : α) {a : List α} {i : Nat} (h : i < a.length) : a.take (i + 1) = a.take i ++ [a.getD i d] := by
  rw [List.take_add_one, List.getD_eq_getElem?_getD, List.getElem?_eq_getElem h]; rfl
theorem e0_ {α : Type} (d : α) (P : α → Bool) : ∀ (rows : List α), ey_ (fun i (x : Int) => cond (P (rows.getD i d)) (i : Int) x) (-1) rows.length 0 = if rows.findIdx P < rows.length then (rows.findIdx P : Int) else -1 := by
  intro rows
  have key : ∀ j i, j + i = rows.length → (∀ k, k < i → P (rows.getD k d) = false) → ey_ (fun i (x : Int) => cond (P (rows.getD i d)) (i : Int) x) (-1) j i = if rows.findIdx P < rows.length then (rows.findIdx P : Int) else -1 := by
    intro j
    induction j with
    | zero =>
      intro i hi hk
      have : ¬ rows.findIdx P < rows.length := by
        intro h
        have h1 := List.findIdx_getElem (w := h)
        have h2 := hk _ (show rows.findIdx P < i by omega)
        rw [List.getD_eq_getElem?_getD, List.getElem?_eq_getElem h] at h2
        simp only [Option.getD_some] at h2
        rw [h1] at h2; cases h2
      rw [if_neg this]; rfl
    | succ j ih =>
      intro i hi hk
      simp only [ey_]
      cases hp : P (rows.getD i d) with
      | true =>
        have hlt : i < rows.length := by omega
        rw [List.getD_eq_getElem?_getD, List.getElem?_eq_getElem hlt] at hp
        have e : rows.findIdx P = i := by
          apply Nat.le_antisymm
          · exact Nat.le_of_not_lt fun h => by have := List.not_of_lt_findIdx h; rw [Option.getD_some] at hp; rw [hp] at this; cases this
          · exact Nat.le_of_not_lt fun h => by
              have h2 := hk _ h
              have hl : rows.findIdx P < rows.length := by omega
              rw [List.getD_eq_getElem?_getD, List.getElem?_eq_getElem hl] at h2
              rw [Option.getD_some, List.findIdx_getElem (w := hl)] at h2; cases h2
        rw [e, if_pos hlt]; rfl
      | false =>
        rw [cond_false]
        exact ih (i + 1) (by omega) fun k hk' => by
          by_cases e : k = i
          · subst e; exact hp
          · exact hk k (by omega)
  exact key rows.length 0 (by omega) fun k hk => by omega
theorem fy_ {α : Type} {lo hi : Int} {len : Nat} {f : Nat → Nat → Option α} {v : α} : Ev (fun n N => hO_ lo hi len (f n N)) v ↔ (0 ≤ lo ∧ lo ≤ hi ∧ hi ≤ (len : Int)) ∧ Ev f v := by
  unfold hO_
  simp only [ay_, c5_]
  by_cases h1 : 0 ≤ lo <;> by_cases h2 : lo ≤ hi <;> by_cases h3 : hi ≤ (len : Int) <;> simp [h1, h2, h3]
theorem f8_ {p : Nat → Bool} {len : Nat} : gG_ p len = true ↔ ∀ i, i < len → p i = true := by
  have key : ∀ d i, d + i = len → (eh_ p d i = true ↔ ∀ k, i ≤ k → k < len → p k = true) := by
    intro d
    induction d with
    | zero => intro i hi; simp only [eh_, true_iff]; intro k h1 h2; omega
    | succ d ih =>
      intro i hi
      simp only [eh_, Bool.and_eq_true, ih (i + 1) (by omega)]
      constructor
      · rintro ⟨h1, h2⟩ k h3 h4
        by_cases e : k = i
        · subst e; exact h1
        · exact h2 k (by omega) h4
      · exact fun h => ⟨h i (Nat.le_refl _) (by omega), fun k h1 h2 => h k (by omega) h2⟩
  have := key len 0 (by omega)
  unfold gG_
  rw [this]
  exact ⟨fun h i hi => h i (Nat.zero_le _) hi, fun h i _ hi => h i hi⟩
end Go.Pi
end
section
set_option linter.unusedVariables false
set_option maxRecDepth 100000
set_option linter.unusedSimpArgs false
namespace Go.Pi
theorem cM_ (j : aa_) : aa_.re j = j := by cases j; rfl
def i6_ (s : Bs) : Bool := gG_ (fun i => inn ((s.getD i 0).toNat : Int) 32 126) s.length && decide ((s.length : Int) ≤ 60)
theorem byte_W (b : UInt8) : W ((b.toNat : Int)) = (b.toNat : Int) := W_id (by omega) (by have := b.toNat_lt; omega)
theorem fo_ {s : Bs} (hs : s.length ≤ b5_) : Ev (fun n _ => a7_ n s) (i6_ s) := by
  refine aJ_ ?_
  simp only [a7_]
  refine d7_ (fun n N i => a7_.loop3 n (fun xy1 => (some (decide ((xy1.length : Int) ≤ 60)))) N s (i : Int)) _ (fun i w hi ih => ?_) ?_
  · simp only [a7_.turn3, a7_.step3, Int.toNat_natCast, ay_, bU_, ax_, W_up hi hs, dj_ ih, c8_ hi, cQ_ hi]
    clear ih
    simp only [inn]
    by_cases h1 : (((s.getD i 0).toNat : Nat) : Int) < 32 <;> by_cases h2 : (((s.getD i 0).toNat : Nat) : Int) > 126 <;> simp [h1, h2] <;> (intros; omega)
  · simp only [a7_.turn3, a7_.step3, cX_, cond_false, ax_]
theorem fq_ {s : Bs} (hs : s.length ≤ b5_) : Ev (fun n _ => ap_ n s) (i6_ s) := by
  refine aJ_ ?_
  simp only [ap_]
  refine d7_ (fun n N i => ap_.loop3 n (fun xy1 => (some (decide ((xy1.length : Int) ≤ 60)))) N s (s.length : Int) (i : Int)) _ (fun i w hi ih => ?_) ?_
  · simp only [ap_.turn3, ap_.step3, Int.toNat_natCast, ay_, bU_, gK_, byte_W, ax_, W_up hi hs, dj_ ih, c8_ hi, cQ_ hi]
    clear ih
    grind
  · simp only [ap_.turn3, ap_.step3, cX_, cond_false, ax_]
def lenNs (c : Nat) (l : List Bs) : Prop := l.length ≤ c ∧ ∀ x ∈ l, x.length ≤ c
theorem j2_ {c : Nat} {l : List Bs} (h : lenNs c l) (i : Nat) : (l.getD i []).length ≤ c := by
  by_cases hi : i < l.length
  · exact h.2 _ (b6_ [] hi)
  · rw [List.getD_eq_getElem?_getD, List.getElem?_eq_none (by omega)]; exact Nat.zero_le _
def gB_ (l : List Bs) : Bool := gG_ (fun i => i6_ (l.getD i []) && (decide (i = 0) || Op.bytesLess (l.getD (i - 1) []) (l.getD i []))) l.length
theorem hi_ {l : List Bs} (h : lenNs b5_ l) : Ev (fun n _ => ag_ n l) (gB_ l) := by
  refine aJ_ ?_
  simp only [ag_]
  refine dS_ (d7_ (fun n N i => ag_.loop3 n (some true) N l l (l.length : Int) (i : Int)) (fun i => i6_ (l.getD i []) && (decide (i = 0) || Op.bytesLess (l.getD (i - 1) []) (l.getD i []))) (len := l.length) (v := true) (fun i w hi ih => ?_) ?_) (by rw [Bool.and_true]; rfl)
  · simp only [ag_.turn3, ag_.step3, Int.toNat_natCast, W_up hi h.1, W_dn (i := i) (by have := h.1; omega), lf_, ay_, bU_, aj_ (fq_ (j2_ h i)), ax_, dj_ ih, c8_ hi, cQ_ hi]
    clear ih
    repeat' (first | apply And.intro | intro _)
    all_goals (try rw [Bool.eq_iff_iff])
    all_goals (try simp only [Bool.not_eq_true', Bool.not_eq_false', decide_eq_true_eq, decide_eq_false_iff_not, Bool.and_eq_true, Bool.or_eq_true, Bool.and_eq_false_iff, Bool.or_eq_false_iff] at *)
    all_goals grind
  · simp only [ag_.turn3, ag_.step3, cX_, cond_false, ax_]
def la_ (j : aa_) : Bool := cond (j.kind != 5) ((j.names.length : Int) == 0) (gB_ j.names && ((j.names.length : Int) == (j.list.length : Int)))
theorem g0_ {j : aa_} (h : lenNs b5_ j.names) : Ev (fun n _ => ae_ n j) (la_ j) := by
  refine aJ_ ?_
  have hl : Ev (fun n _ => ae_.loop6 n (fun xy2 xy3 xy4 xy5 xy6 => (some ((xy6.length : Int) == (xy5.length : Int)))) n 0 j.kind j.n_ j.s j.list j.names) (gB_ j.names && ((j.names.length : Int) == (j.list.length : Int))) := by
    refine d7_ (fun n N i => ae_.loop6 n (fun xy2 xy3 xy4 xy5 xy6 => (some ((xy6.length : Int) == (xy5.length : Int)))) N (i : Int) j.kind j.n_ j.s j.list j.names) _ (fun i w hi ih => ?_) ?_
    · simp only [ae_.turn6, ae_.step6, Int.toNat_natCast, W_up hi h.1, W_dn (i := i) (by have := h.1; omega), lf_, ay_, bU_, aj_ (fo_ (j2_ h i)), ax_, dj_ ih, c8_ hi, cQ_ hi]
      clear ih
      repeat' (first | apply And.intro | intro _)
      all_goals (try rw [Bool.eq_iff_iff])
      all_goals (try simp only [Bool.not_eq_true', Bool.not_eq_false', decide_eq_true_eq, decide_eq_false_iff_not, Bool.and_eq_true, Bool.or_eq_true, Bool.and_eq_false_iff, Bool.or_eq_false_iff] at *)
      all_goals grind
    · simp only [ae_.turn6, ae_.step6, cX_, cond_false, ax_]
  simp only [ae_, ay_, ax_, dj_ hl, la_]
  cases (j.kind != 5) <;> simp
end Go.Pi
end
section
set_option linter.unusedVariables false
set_option maxRecDepth 100000
set_option linter.unusedSimpArgs false
namespace Go.Pi
theorem he_ (k : Int) : k = 0 ∨ k = 1 ∨ k = 2 ∨ k = 3 ∨ k = 4 ∨ k = 5 ∨ (k ≠ 0 ∧ k ≠ 1 ∧ k ≠ 2 ∧ k ≠ 3 ∧ k ≠ 4 ∧ k ≠ 5) := by omega
theorem iM_ {α : Type} (l : List α) : decide (l.length = 0) = !decide ((l.length : Int) > 0) := by
  by_cases hz : l.length = 0
  · rw [hz]; rfl
  · rw [decide_eq_false hz, decide_eq_true (show (l.length : Int) > 0 by omega)]; rfl
def FOwnK (j : aa_) : Bool :=
  cond (j.kind == 1) (inn j.n_ 0 1) (cond (j.kind == 2) (inn j.n_ (-1000000000) 1000000000) (cond (j.kind == 3) (i6_ j.s) (cond (j.kind == 5) (((j.names.length : Int) == (j.list.length : Int)) && gB_ j.names) ((j.kind == 0) || (j.kind == 4)))))
def FOwn (j : aa_) : Bool :=
  (decide (j.list.length = 0) || ((j.kind == 4) || (j.kind == 5))) && ((decide (j.names.length = 0) || (j.kind == 5)) && (((j.n_ == 0) || ((j.kind == 1) || (j.kind == 2))) && (((j.s == []) || (j.kind == 3)) && FOwnK j)))
def lenJ1 (j : aa_) : Prop := j.s.length ≤ b5_ ∧ lenNs b5_ j.names
theorem iS_ {j : aa_} (h : lenJ1 j) : Ev (fun n _ => cz_ n j) (FOwn j) := by
  refine aJ_ ?_
  simp only [cz_, ay_, gK_, isNum_b, aj_ (fq_ h.1), aj_ (hi_ h.2), ax_]
  unfold FOwn FOwnK
  have e1 := iM_ j.list
  have e2 := iM_ j.names
  rw [e1, e2]
  generalize decide ((j.list.length : Int) > 0) = a
  generalize decide ((j.names.length : Int) > 0) = b
  generalize (j.s == []) = c
  have e3 : (j.n_ != 0) = !(j.n_ == 0) := rfl
  rw [e3]
  generalize hd : (j.n_ == 0) = d
  generalize i6_ j.s = ft
  generalize gB_ j.names = fn
  generalize ((j.names.length : Int) == (j.list.length : Int)) = eq
  rcases he_ j.kind with hk | hk | hk | hk | hk | hk | ⟨k0, k1, k2, k3, k4, k5⟩
  all_goals (first | simp only [hk] | simp only [beq_eq_false_iff_ne.2 k0, beq_eq_false_iff_ne.2 k1, beq_eq_false_iff_ne.2 k2, beq_eq_false_iff_ne.2 k3, beq_eq_false_iff_ne.2 k4, beq_eq_false_iff_ne.2 k5, bne])
  all_goals (cases a <;> cases b <;> cases c <;> cases d <;> simp)
  all_goals (cases eq <;> simp)
def cO_ : Nat → aa_ → Nat
  | 0, _ => 401
  | d + 1, j => cond (FOwn j) (min 401 (1 + d1_ (cO_ d) j.list)) 401
theorem FSize_le : ∀ (d : Nat) (j : aa_), cO_ d j ≤ 401
  | 0, _ => Nat.le_refl _
  | d + 1, j => by
    simp only [cO_]
    cases FOwn j <;> simp only [cond_true, cond_false] <;> omega
def gb_ : Nat → aa_ → Prop
  | 0, _ => True
  | d + 1, j => lenJ1 j ∧ j.list.length ≤ b5_ ∧ ∀ x ∈ j.list, gb_ d x
theorem getD_json {d : Nat} {l : List aa_} (h : ∀ x ∈ l, gb_ d x) {i : Nat} (hi : i < l.length) : gb_ d (l.getD i aa_.dflt) := h _ (b6_ _ hi)
theorem fr_ : ∀ (d : Nat) (j : aa_), d ≤ 1000 → gb_ d j → Ev (fun n _ => aS_ n j (d : Int)) (cO_ d j : Int)
  | 0, j, _, _ => by
    refine aJ_ ?_
    simp only [aS_, ay_, ax_]
    exact ⟨fun _ => rfl, fun h => by simp at h⟩
  | d + 1, j, hd, h => by
    refine aJ_ ?_
    have hW : W (((d + 1 : Nat) : Int) - 1) = (d : Int) := by rw [W_id (by omega) (by omega)]; omega
    simp only [aS_, cM_, ay_, aj_ (iS_ h.1), ax_, cO_]
    refine ⟨fun hc => by have := of_decide_eq_true hc; omega, fun _ => ?_⟩
    cases ho : FOwn j with
    | false => exact ⟨fun _ => rfl, fun h => by cases h⟩
    | true =>
      refine ⟨fun h => (by cases h), fun _ => ?_⟩
      have ht := h.2.1
      have key : ∀ (k i : Nat) (s : Nat), k + i = j.list.length → s ≤ 400 → Ev (fun n N => aS_.loop7 n (aS_ n) (fun xy3 => some xy3) N ((d + 1 : Nat) : Int) (s : Int) j.list (j.list.length : Int) (i : Int)) ((min 401 (s + d1_ (cO_ d) (j.list.drop i)) : Nat) : Int) := by
        intro k
        induction k with
        | zero =>
          intro i s hi hs
          have : i = j.list.length := by omega
          subst this
          refine b8_ ?_
          simp only [aS_.turn7, aS_.step7, cX_, cond_false, ax_, List.drop_length, d1_]
          omega
        | succ k ih =>
          intro i s hi hs
          have hlt : i < j.list.length := by omega
          refine b8_ ?_
          have hc := fr_ d (j.list.getD i aa_.dflt) (by omega) (getD_json h.2.2 hlt)
          have hle := FSize_le d (j.list.getD i aa_.dflt)
          have hw : W ((s : Int) + (cO_ d (j.list.getD i aa_.dflt) : Int)) = ((s + cO_ d (j.list.getD i aa_.dflt) : Nat) : Int) := by rw [W_id (by omega) (by omega)]; omega
          simp only [aS_.turn7, aS_.step7, cM_, Int.toNat_natCast, hW, W_up hlt ht, ay_, bU_, c8_ hlt, cQ_ hlt, aj_ hc, hw, ax_]
          rw [eP_ (cO_ d) aa_.dflt hlt]
          refine ⟨fun _ => ⟨trivial, fun hg => ?_, fun hg => ?_⟩, fun h => (by cases h)⟩
          · have := of_decide_eq_true hg; omega
          · have := of_decide_eq_false hg
            rw [show s + (cO_ d (j.list.getD i aa_.dflt) + d1_ (cO_ d) (j.list.drop (i + 1))) = (s + cO_ d (j.list.getD i aa_.dflt)) + d1_ (cO_ d) (j.list.drop (i + 1)) by omega]
            exact ih (i + 1) _ (by omega) (by omega)
      have := key j.list.length 0 1 (by omega) (by omega)
      rw [List.drop_zero] at this
      exact dh_ (f := fun n N => aS_.loop7 n (aS_ n) (fun xy3 => some xy3) N ((d + 1 : Nat) : Int) 1 j.list (j.list.length : Int) 0) this
def c6_ (j : aa_) : Bool := decide (cO_ 6 j ≤ 400)
theorem ef_ {j : aa_} (h : gb_ 6 j) : Ev (fun n _ => b1_ n j) (c6_ j) := by
  refine aJ_ ?_
  have e : Ev (fun n _ => aS_ n j 6) (cO_ 6 j : Int) := fr_ 6 j (by omega) h
  simp only [b1_, cM_, aj_ e, ax_, c6_]
  by_cases hq : cO_ 6 j ≤ 400
  · rw [decide_eq_true hq, decide_eq_true (by omega)]
  · rw [decide_eq_false hq, decide_eq_false (by omega)]
end Go.Pi
end
section
set_option linter.unusedVariables false
set_option maxRecDepth 100000
set_option linter.unusedSimpArgs false
namespace Go.Pi
def Great (d : Nat) (j : aa_) : Prop := ∃ v : Nat, v ≤ 401 + 401 * d ∧ min 401 v = cO_ d j ∧ Ev (fun n _ => aA_ n j (d : Int)) (v : Int)
theorem ml_ {d : Nat} {l : List aa_} (hd : d ≤ 1000) (ht : l.length ≤ b5_) (ih : ∀ x ∈ l, Great d x) (kd nn : Int) (s : Bs) (ns : List Bs) :
    ∃ w : Nat, w ≤ 401 + 401 * (d + 1) ∧ min 401 w = min 401 (1 + d1_ (cO_ d) l) ∧ ∀ (K : Nat → aA_.K23_1) (F : Int), Ev (fun n N => K n 401 (w : Int) kd nn s l ns) F → Ev (fun n _ => aA_.loop23 n (aA_ n) (K n) n ((d + 1 : Nat) : Int) 401 1 0 kd nn s l ns) F := by
  have hW : W (((d + 1 : Nat) : Int) - 1) = (d : Int) := by rw [W_id (by omega) (by omega)]; omega
  have key : ∀ (k i : Nat) (m : Nat), k + i = l.length → m ≤ 401 + 401 * (d + 1) → ∃ w : Nat, w ≤ 401 + 401 * (d + 1) ∧ min 401 w = min 401 (m + d1_ (cO_ d) (l.drop i)) ∧ ∀ (K : Nat → aA_.K23_1) (F : Int), Ev (fun n N => K n 401 (w : Int) kd nn s l ns) F →
      Ev (fun n N => aA_.loop23 n (aA_ n) (K n) N ((d + 1 : Nat) : Int) 401 (m : Int) (i : Int) kd nn s l ns) F := by
    intro k
    induction k with
    | zero =>
      intro i m hi hm
      have : i = l.length := by omega
      subst this
      refine ⟨m, hm, by simp [d1_], fun K F hF => b8_ ?_⟩
      simp only [aA_.turn23, aA_.step23, cX_, cond_false]
      exact hF
    | succ k ihk =>
      intro i m hi hm
      have hlt : i < l.length := by omega
      by_cases hg : m ≤ 400
      · obtain ⟨v, hv1, hv2, hv3⟩ := ih _ (b6_ aa_.dflt hlt)
        have hw : W ((m : Int) + (v : Int)) = ((m + v : Nat) : Int) := by rw [W_id (by omega) (by omega)]; omega
        obtain ⟨w, a1, a2, a3⟩ := ihk (i + 1) (m + v) (by omega) (by omega)
        refine ⟨w, a1, ?_, fun K F hF => b8_ ?_⟩
        · rw [a2, eP_ (cO_ d) aa_.dflt hlt, ← hv2]; omega
        · simp only [aA_.turn23, aA_.step23, cM_, Int.toNat_natCast, hW, W_up hlt ht, ay_, bU_, c8_ hlt, cQ_ hlt, aj_ hv3, hw]
          exact ⟨fun _ => ⟨fun _ => ⟨trivial, a3 K F hF⟩, fun h => by have := of_decide_eq_false h; omega⟩, fun h => (by cases h)⟩
      · refine ⟨m, hm, by omega, fun K F hF => b8_ ?_⟩
        simp only [aA_.turn23, aA_.step23, Int.toNat_natCast, ay_, c8_ hlt]
        exact ⟨fun _ => ⟨fun h => by have := of_decide_eq_true h; omega, fun _ => hF⟩, fun h => (by cases h)⟩
  obtain ⟨w, a1, a2, a3⟩ := key l.length 0 1 (by omega) (by omega)
  rw [List.drop_zero] at a2
  exact ⟨w, a1, a2, fun K F hF => dh_ (f := fun n N => aA_.loop23 n (aA_ n) (K n) N ((d + 1 : Nat) : Int) 401 1 0 kd nn s l ns) (a3 K F hF)⟩
theorem d6_ (j : aa_) : aa_.mk j.kind j.n_ j.s j.list j.names = j := by cases j; rfl
theorem eQ_ : ∀ (d : Nat) (j : aa_), d ≤ 1000 → gb_ d j → Great d j
  | 0, j, _, _ => by
    refine ⟨401, by omega, rfl, aJ_ ?_⟩
    simp only [aA_, ay_, ax_]
    exact ⟨fun _ => rfl, fun h => by simp at h⟩
  | d + 1, j, hd, h => by
    obtain ⟨w, w1, w2, w3⟩ := ml_ (d := d) (l := j.list) (by omega) h.2.1 (fun x hx => eQ_ d x (by omega) (h.2.2 x hx)) j.kind j.n_ j.s j.names
    have hz : ((((d + 1 : Nat) : Int)) == 0) = false := by simp; omega
    have hN := g0_ (j := j) h.1.2
    obtain ⟨v, hv⟩ : ∃ v : Nat, v = cond (FOwn j) (cond ((j.kind == 4) || (j.kind == 5)) w 1) 401 := ⟨_, rfl⟩
    refine ⟨v, ?_, ?_, aJ_ ?_⟩
    · rw [hv]; cases FOwn j <;> cases ((j.kind == 4) || (j.kind == 5)) <;> simp only [cond_true, cond_false] <;> omega
    · rw [hv]
      simp only [cO_]
      cases ho : FOwn j with
      | false => rfl
      | true =>
        cases hk : ((j.kind == 4) || (j.kind == 5)) with
        | true => simp only [cond_true]; exact w2
        | false =>
          have : j.list = [] := by
            unfold FOwn at ho
            rw [hk, Bool.or_false] at ho
            simp only [Bool.and_eq_true, decide_eq_true_eq] at ho
            exact List.eq_nil_of_length_eq_zero ho.1
          rw [this]; rfl
    · have hT := fo_ (s := j.s) h.1.1
      have e1 := iM_ j.list
      have e2 := iM_ j.names
      have e4 : ((j.names.length : Int) == 0) = !decide ((j.names.length : Int) > 0) := by
        by_cases hz : j.names.length = 0
        · rw [hz]; rfl
        · rw [beq_eq_false_iff_ne.2 (show (j.names.length : Int) ≠ 0 by omega), decide_eq_true (show (j.names.length : Int) > 0 by omega)]; rfl
      subst hv
      unfold FOwn FOwnK
      unfold la_ at hN
      rw [e1, e2]
      rw [e4] at hN
      simp only [aA_, cM_, hz, cond_false, ay_, l1In_b, aj_ hT, aj_ hN, ax_, bne]
      rcases he_ j.kind with hk | hk | hk | hk | hk | hk | ⟨k0, k1, k2, k3, k4, k5⟩
      case inr.inr.inr.inr.inl =>
        have hj : aa_.mk 4 j.n_ j.s j.list j.names = j := by rw [← hk]; exact d6_ j
        rw [hk] at w3
        simp only [hk, Int.reduceBEq, Int.reduceLT, Int.reduceLE, Int.reduceNeg, ge_iff_le, gt_iff_lt, decide_true, decide_false, Bool.not_false, Bool.not_true, Bool.or_true, Bool.true_or, Bool.or_false, Bool.false_or, Bool.and_true, Bool.true_and, Bool.not_not, forall_const, reduceCtorEq, false_implies, true_and, and_true, implies_true, cond_true, cond_false] at hN ⊢
        refine w3 _ _ ?_
        simp only [hj, ay_, aj_ hN, ax_, Int.reduceBEq, Int.reduceLT, Int.reduceLE, Int.reduceNeg, ge_iff_le, gt_iff_lt, decide_true, decide_false, Bool.not_false, Bool.not_true, Bool.or_true, Bool.true_or, Bool.or_false, Bool.false_or, Bool.and_true, Bool.true_and, Bool.not_not, forall_const, reduceCtorEq, false_implies, true_and, and_true, implies_true, cond_true, cond_false]
        clear hN w3 hT e1 e2 e4 hj
        generalize decide (0 < (j.names.length : Int)) = b
        generalize (j.s == []) = c
        generalize hd : (j.n_ == 0) = dd
        cases b <;> cases c <;> cases dd <;> simp
      case inr.inr.inr.inr.inr.inl =>
        have hj : aa_.mk 5 j.n_ j.s j.list j.names = j := by rw [← hk]; exact d6_ j
        rw [hk] at w3
        simp only [hk, Int.reduceBEq, Int.reduceLT, Int.reduceLE, Int.reduceNeg, ge_iff_le, gt_iff_lt, decide_true, decide_false, Bool.not_false, Bool.not_true, Bool.or_true, Bool.true_or, Bool.or_false, Bool.false_or, Bool.and_true, Bool.true_and, Bool.not_not, forall_const, reduceCtorEq, false_implies, true_and, and_true, implies_true, cond_true, cond_false] at hN ⊢
        refine w3 _ _ ?_
        simp only [hj, ay_, aj_ hN, ax_, Int.reduceBEq, Int.reduceLT, Int.reduceLE, Int.reduceNeg, ge_iff_le, gt_iff_lt, decide_true, decide_false, Bool.not_false, Bool.not_true, Bool.or_true, Bool.true_or, Bool.or_false, Bool.false_or, Bool.and_true, Bool.true_and, Bool.not_not, forall_const, reduceCtorEq, false_implies, true_and, and_true, implies_true, cond_true, cond_false]
        clear hN w3 hT e1 e2 e4 hj
        generalize gB_ j.names = fn
        generalize ((j.names.length : Int) == (j.list.length : Int)) = eq
        generalize (j.s == []) = c
        generalize hd : (j.n_ == 0) = dd
        cases fn <;> cases eq <;> cases c <;> cases dd <;> simp
      case inr.inr.inr.inr.inr.inr =>
        simp only [beq_eq_false_iff_ne.2 k0, beq_eq_false_iff_ne.2 k1, beq_eq_false_iff_ne.2 k2, beq_eq_false_iff_ne.2 k3, beq_eq_false_iff_ne.2 k4, beq_eq_false_iff_ne.2 k5, Int.reduceBEq, Int.reduceLT, Int.reduceLE, Int.reduceNeg, ge_iff_le, gt_iff_lt, decide_true, decide_false, Bool.not_false, Bool.not_true, Bool.or_true, Bool.true_or, Bool.or_false, Bool.false_or, Bool.and_true, Bool.true_and, Bool.not_not, forall_const, reduceCtorEq, false_implies, true_and, and_true, implies_true, cond_true, cond_false, Bool.and_false, Bool.false_and]
        rfl
      all_goals (
        simp only [hk, Int.reduceBEq, Int.reduceLT, Int.reduceLE, Int.reduceNeg, ge_iff_le, gt_iff_lt, decide_true, decide_false, Bool.not_false, Bool.not_true, Bool.or_true, Bool.true_or, Bool.or_false, Bool.false_or, Bool.and_true, Bool.true_and, Bool.not_not, forall_const, reduceCtorEq, false_implies, true_and, and_true, implies_true, cond_true, cond_false]
        clear hN w3 hT e1 e2 e4
        generalize decide (0 < (j.names.length : Int)) = b
        generalize decide (0 < (j.list.length : Int)) = a
        generalize (j.s == []) = c
        generalize hd : (j.n_ == 0) = dd
        generalize inn j.n_ 0 1 = i1
        generalize inn j.n_ (-1000000000) 1000000000 = i2
        generalize i6_ j.s = ft
        cases a <;> cases b <;> cases c <;> cases dd <;> cases i1 <;> cases i2 <;> cases ft <;> simp)
theorem eb_ {j : aa_} (h : gb_ 6 j) : Ev (fun n _ => bZ_ n j) (c6_ j) := by
  refine aJ_ ?_
  obtain ⟨v, v1, v2, v3⟩ := eQ_ 6 j (by omega) h
  have e : Ev (fun n _ => aA_ n j 6) (v : Int) := v3
  simp only [bZ_, cM_, aj_ e, ax_, c6_]
  by_cases hq : cO_ 6 j ≤ 400
  · rw [decide_eq_true hq, decide_eq_true (by omega)]
  · rw [decide_eq_false hq, decide_eq_false (by omega)]
end Go.Pi
end
section
set_option linter.unusedVariables false
set_option maxRecDepth 100000
set_option linter.unusedSimpArgs false
namespace Go.Pi
def deepJ : Nat → aa_ → Prop
  | 0, _ => False
  | d + 1, j => ∀ x ∈ j.list, deepJ d x
theorem gp_ : ∀ (d : Nat) (j : aa_), cO_ d j ≤ 400 → deepJ d j
  | 0, j, h => by simp only [cO_] at h; omega
  | d + 1, j, h => fun x hx => by
    refine gp_ d x ?_
    simp only [cO_] at h
    have := gW_ (cO_ d) hx
    cases ho : FOwn j with
    | false => rw [ho] at h; simp only [cond_false] at h; omega
    | true => rw [ho] at h; simp only [cond_true] at h; omega
def hA_ (a b : List Bs) : Bool := decide (a.length = b.length) && gG_ (fun i => a.getD i [] == b.getD i []) a.length
def dx_ : Nat → aa_ → aa_ → Bool
  | 0, _, _ => true
  | d + 1, a, b => (a.kind == b.kind) && ((a.n_ == b.n_) && ((a.s == b.s) && (hA_ a.names b.names && (decide (a.list.length = b.list.length) && gG_ (fun i => dx_ d (a.list.getD i aa_.dflt) (b.list.getD i aa_.dflt)) a.list.length))))
theorem h2_ {n m : Nat} : ((n : Int) != (m : Int)) = !decide (n = m) := by
  by_cases h : n = m
  · rw [h, decide_eq_true rfl]; simp
  · rw [decide_eq_false h]; simp; omega
theorem fp_ : ∀ (d : Nat) (a b : aa_), deepJ d a → gb_ d a → Ev (fun n _ => ah_ n a b) (dx_ d a b)
  | 0, a, b, h, _ => h.elim
  | d + 1, a, b, h, hl => by
    refine aJ_ ?_
    simp only [ah_, h2_, ay_, ax_, dx_, hA_]
    by_cases hq : a.list.length = b.list.length
    · by_cases hq2 : a.names.length = b.names.length
      · have hN : Ev (fun n _ => ah_.loop14 n (ah_ n) (some true) n 0 a.kind a.n_ a.s a.list a.names b.kind b.n_ b.s b.list b.names) (gG_ (fun i => a.names.getD i [] == b.names.getD i []) a.names.length) := by
          refine dS_ (d7_ (fun n N i => ah_.loop14 n (ah_ n) (some true) N (i : Int) a.kind a.n_ a.s a.list a.names b.kind b.n_ b.s b.list b.names) (fun i => a.names.getD i [] == b.names.getD i []) (len := a.names.length) (v := true) (fun i w hi ih => ?_) ?_) (by rw [Bool.and_true])
          · simp only [ah_.turn14, ah_.step14, Int.toNat_natCast, W_up hi hl.1.2.1, ay_, bU_, ax_, dj_ ih, c8_ hi, cQ_ hi, cQ_ (hq2 ▸ hi)]
            cases (a.names.getD i [] == b.names.getD i []) <;> simp
          · simp only [ah_.turn14, ah_.step14, cX_, cond_false, ax_]
        have hL : Ev (fun n _ => ah_.loop6 n (ah_ n) (fun xy2 xy3 xy4 xy5 xy6 xy7 xy8 xy9 xy10 xy11 => (ah_.loop14 n (ah_ n) (some true) n 0 xy2 xy3 xy4 xy5 xy6 xy7 xy8 xy9 xy10 xy11)) n 0 a.kind a.n_ a.s a.list a.names b.kind b.n_ b.s b.list b.names) (gG_ (fun i => dx_ d (a.list.getD i aa_.dflt) (b.list.getD i aa_.dflt)) a.list.length && gG_ (fun i => a.names.getD i [] == b.names.getD i []) a.names.length) := by
          refine d7_ (fun n N i => ah_.loop6 n (ah_ n) (fun xy2 xy3 xy4 xy5 xy6 xy7 xy8 xy9 xy10 xy11 => (ah_.loop14 n (ah_ n) (some true) n 0 xy2 xy3 xy4 xy5 xy6 xy7 xy8 xy9 xy10 xy11)) N (i : Int) a.kind a.n_ a.s a.list a.names b.kind b.n_ b.s b.list b.names) _ (fun i w hi ih => ?_) ?_
          · have hx := fp_ d (a.list.getD i aa_.dflt) (b.list.getD i aa_.dflt) (h _ (b6_ _ hi)) (hl.2.2 _ (b6_ _ hi))
            simp only [ah_.turn6, ah_.step6, cM_, Int.toNat_natCast, W_up hi hl.2.1, ay_, bU_, aj_ hx, ax_, dj_ ih, c8_ hi, cQ_ hi, cQ_ (hq ▸ hi)]
            cases dx_ d (a.list.getD i aa_.dflt) (b.list.getD i aa_.dflt) <;> simp
          · simp only [ah_.turn6, ah_.step6, cX_, cond_false]
            exact hN
        rw [decide_eq_true hq, decide_eq_true hq2]
        simp only [dj_ hL, bne]
        generalize gG_ (fun i => dx_ d (a.list.getD i aa_.dflt) (b.list.getD i aa_.dflt)) a.list.length = u
        generalize gG_ (fun i => a.names.getD i [] == b.names.getD i []) a.names.length = w
        cases (a.kind == b.kind) <;> cases (a.n_ == b.n_) <;> cases (a.s == b.s) <;> cases u <;> cases w <;> simp
      · rw [decide_eq_false hq2]
        simp only [bne]
        cases (a.kind == b.kind) <;> cases (a.n_ == b.n_) <;> cases (a.s == b.s) <;> cases decide (a.list.length = b.list.length) <;> simp
    · rw [decide_eq_false hq]
      simp only [bne]
      cases (a.kind == b.kind) <;> cases (a.n_ == b.n_) <;> cases (a.s == b.s) <;> simp
end Go.Pi
end
section
set_option linter.unusedVariables false
set_option maxRecDepth 100000
set_option linter.unusedSimpArgs false
namespace Go.Pi
theorem hC_ {a b : List Bs} (ha : a.length ≤ b5_) : Ev (fun n _ => af_ n a b) (hA_ a b) := by
  refine aJ_ ?_
  simp only [af_, h2_, ay_, ax_]
  unfold hA_
  by_cases hl : a.length = b.length
  · rw [decide_eq_true hl]
    refine ⟨fun h => (by cases h), fun _ => ?_⟩
    refine dS_ (d7_ (fun n N i => af_.loop6 n (some true) N a b (a.length : Int) (i : Int)) (fun i => a.getD i [] == b.getD i []) (len := a.length) (v := true) (fun i w hi ih => ?_) ?_) (by rw [Bool.and_true, Bool.true_and])
    · simp only [af_.turn6, af_.step6, Int.toNat_natCast, W_up hi ha, ay_, bU_, ax_, dj_ ih, c8_ hi, cQ_ hi, cQ_ (hl ▸ hi)]
      cases (a.getD i [] == b.getD i []) <;> simp
    · simp only [af_.turn6, af_.step6, cX_, cond_false, ax_]
  · rw [decide_eq_false hl]
    exact ⟨fun _ => rfl, fun h => (by cases h)⟩
theorem f0_ : ∀ (d : Nat) (a b : aa_), deepJ d a → gb_ d a → Ev (fun n _ => ca_ n a b) (dx_ d a b)
  | 0, a, b, h, _ => h.elim
  | d + 1, a, b, h, hl => by
    refine aJ_ ?_
    have hE : Ev (fun n _ => ac_ n a.list b.list) (decide (a.list.length = b.list.length) && gG_ (fun i => dx_ d (a.list.getD i aa_.dflt) (b.list.getD i aa_.dflt)) a.list.length) := by
      refine aJ_ ?_
      simp only [ac_, h2_, ay_, ax_]
      by_cases hq : a.list.length = b.list.length
      · rw [decide_eq_true hq]
        refine ⟨fun h => (by cases h), fun _ => ?_⟩
        refine dS_ (d7_ (fun n N i => ac_.loop6 n (ca_ n) (some true) N b.list a.list (a.list.length : Int) (i : Int)) (fun i => dx_ d (a.list.getD i aa_.dflt) (b.list.getD i aa_.dflt)) (len := a.list.length) (v := true) (fun i w hi ih => ?_) ?_) (by rw [Bool.and_true, Bool.true_and])
        · have hx := f0_ d (a.list.getD i aa_.dflt) (b.list.getD i aa_.dflt) (h _ (b6_ _ hi)) (hl.2.2 _ (b6_ _ hi))
          simp only [ac_.turn6, ac_.step6, cM_, Int.toNat_natCast, W_up hi hl.2.1, ay_, bU_, aj_ hx, ax_, dj_ ih, c8_ hi, cQ_ hi, cQ_ (hq ▸ hi)]
          cases dx_ d (a.list.getD i aa_.dflt) (b.list.getD i aa_.dflt) <;> simp
        · simp only [ac_.turn6, ac_.step6, cX_, cond_false, ax_]
      · rw [decide_eq_false hq]
        exact ⟨fun _ => rfl, fun h => (by cases h)⟩
    simp only [ca_, ay_, aj_ (hC_ (b := b.names) hl.1.2.1), aj_ hE, ax_, dx_]
    cases (a.kind == b.kind) <;> cases (a.n_ == b.n_) <;> cases (a.s == b.s) <;> cases hA_ a.names b.names <;> simp
end Go.Pi
end
section
set_option linter.unusedVariables false
set_option maxRecDepth 100000
set_option linter.unusedSimpArgs false
namespace Go.Pi
def bi (l : Bs) : List Int := l.map fun c => ((c.toNat : Nat) : Int)
theorem lG_ (f : UInt8 → Bs) (h : ∀ c, (f c).length ≤ 2) : ∀ s : Bs, (s.flatMap f).length ≤ 2 * s.length
  | [] => Nat.le_refl _
  | c :: s => by
    have := lG_ f h s
    have := h c
    simp only [List.flatMap_cons, List.length_append, List.length_cons]; omega
def qesc (c : UInt8) : Bs := if c = 34 ∨ c = 92 then [92, c] else [c]
theorem qesc_len (c : UInt8) : (qesc c).length ≤ 2 := by unfold qesc; split <;> simp
def lW_ (s : Bs) : Bs := 34 :: s.flatMap qesc ++ [34]
theorem ir_ (s : Bs) : (lW_ s).length ≤ 2 * s.length + 2 := by
  have := lG_ qesc qesc_len s
  simp only [lW_, List.cons_append, List.length_cons, List.length_append, List.length_nil]; omega
theorem q2 (o : Bs) (c : UInt8) : bi (34 :: (o ++ [92, c])) = (bi (34 :: o) ++ [92]) ++ [((c.toNat : Nat) : Int)] := by simp [bi]
theorem q1 (o : Bs) (c : UInt8) : bi (34 :: (o ++ [c])) = bi (34 :: o) ++ [((c.toNat : Nat) : Int)] := by simp [bi]
end Go.Pi
end
section
set_option linter.unusedVariables false
set_option maxRecDepth 100000
set_option linter.unusedSimpArgs false
namespace Go.Pi
end Go.Pi
end
section
set_option linter.unusedVariables false
set_option maxRecDepth 100000
set_option linter.unusedSimpArgs false
namespace Go.Pi
def digs (u : Nat) : Bs := if u = 0 then [] else Lib.decDigits u
theorem digs_step {u : Nat} (h : u ≠ 0) : digs u = digs (u / 10) ++ [UInt8.ofNat (48 + u % 10)] := by
  unfold digs
  rw [if_neg h, Lib.decDigits]
  by_cases h1 : u < 10
  · rw [dif_pos h1, if_pos (by omega), Nat.mod_eq_of_lt h1]; rfl
  · rw [dif_neg h1, if_neg (by omega)]
theorem lK_ {d : Nat} (h : d < 10) : toBs ([(IntKind.u8.wrap (W (48 + (d : Int))))] : List Int) = [UInt8.ofNat (48 + d)] := by
  have e1 : W (48 + (d : Int)) = ((48 + d : Nat) : Int) := by rw [W_id (by omega) (by omega)]; omega
  rw [e1]
  have e2 : IntKind.u8.wrap (((48 + d : Nat) : Int)) = ((48 + d : Nat) : Int) := by
    have : d = 0 ∨ d = 1 ∨ d = 2 ∨ d = 3 ∨ d = 4 ∨ d = 5 ∨ d = 6 ∨ d = 7 ∨ d = 8 ∨ d = 9 := by omega
    rcases this with rfl | rfl | rfl | rfl | rfl | rfl | rfl | rfl | rfl | rfl <;> rfl
  rw [e2]
  rfl
theorem dl_ {x : Int} (h0 : -9223372036854775808 ≤ x) (h1 : x ≤ 9223372036854775807) : Ev (fun n _ => aF_ n x) (Lib.itoa x) := by
  refine aJ_ ?_
  simp only [aF_, ay_, ax_]
  refine ⟨fun h => ?_, fun h => ?_⟩
  · have : x = 0 := by simpa using h
    subst this
    unfold Lib.itoa
    rw [if_neg (by decide)]
    show _ = Lib.decDigits 0
    rw [Lib.decDigits_one (by decide)]; rfl
  have hx0 : x ≠ 0 := by simpa using h
  have key : ∀ (k : Nat) (y : Int) (out : Bs), y.natAbs < 10 ^ k → -9223372036854775808 ≤ y → y ≤ 9223372036854775807 → out.length + k ≤ 100 →
      Ev (fun n N => aF_.loop7 n (fun xy3 xy4 => (cond xy3 (cond (decide ([45].length + xy4.length ≤ 9223372036854775807)) (some (([45] : Bs) ++ xy4)) none) (some xy4))) N y (decide (x < 0)) out) (cond (decide (x < 0)) ([45] ++ (digs y.natAbs ++ out)) (digs y.natAbs ++ out)) := by
    intro k
    induction k with
    | zero =>
      intro y out hy _ _ ho
      have : y = 0 := by simp at hy; omega
      subst this
      refine b8_ ?_
      simp only [aF_.turn7, aF_.step7, bne_self_eq_false, cond_false, ay_, ax_, c5_]
      refine ⟨fun hb => ⟨fun _ => by rw [hb]; rfl, fun hc => by have := of_decide_eq_false hc; simp at this; omega⟩, fun hb => by rw [hb]; rfl⟩
    | succ k ih =>
      intro y out hy hy0 hy1 ho
      by_cases hz : y = 0
      · subst hz
        refine b8_ ?_
        simp only [aF_.turn7, aF_.step7, bne_self_eq_false, cond_false, ay_, ax_, c5_]
        refine ⟨fun hb => ⟨fun _ => by rw [hb]; rfl, fun hc => by have := of_decide_eq_false hc; simp at this; omega⟩, fun hb => by rw [hb]; rfl⟩
      · have hm : (Int.tmod y 10).natAbs = y.natAbs % 10 := by rw [Int.natAbs_tmod]; rfl
        have hd : (Int.tdiv y 10).natAbs = y.natAbs / 10 := by rw [Int.natAbs_tdiv]; rfl
        have hW : W (Int.tdiv y 10) = Int.tdiv y 10 := W_id (by omega) (by omega)
        have hlt : y.natAbs % 10 < 10 := Nat.mod_lt _ (by decide)
        have hdl : (Int.tdiv y 10).natAbs < 10 ^ k := by rw [hd]; rw [Nat.pow_succ] at hy; omega
        have hrec := ih (Int.tdiv y 10) ([UInt8.ofNat (48 + y.natAbs % 10)] ++ out) hdl (by omega) (by omega) (by simp; omega)
        have hdig : digs (Int.tdiv y 10).natAbs ++ ([UInt8.ofNat (48 + y.natAbs % 10)] ++ out) = digs y.natAbs ++ out := by rw [hd, digs_step (show y.natAbs ≠ 0 by omega), List.append_assoc]
        rw [hdig] at hrec
        have hne : (y != 0) = true := by simpa using hz
        refine b8_ ?_
        simp only [aF_.turn7, aF_.step7, hne, cond_true, ay_, c5_, hW]
        refine ⟨fun hneg => ?_, fun hneg => ?_⟩
        · have hneg := of_decide_eq_true hneg
          have e : W (0 - Int.tmod y 10) = ((y.natAbs % 10 : Nat) : Int) := by rw [W_id (by omega) (by omega)]; omega
          rw [e, lK_ hlt]
          exact ⟨fun _ => hrec, fun hc => by have := of_decide_eq_false hc; simp at this; omega⟩
        · have hneg := of_decide_eq_false hneg
          have e : Int.tmod y 10 = ((y.natAbs % 10 : Nat) : Int) := by omega
          rw [e, lK_ hlt]
          exact ⟨fun _ => hrec, fun hc => by have := of_decide_eq_false hc; simp at this; omega⟩
  have hfin := key 19 x [] (by omega) h0 h1 (by simp)
  have hv : Lib.itoa x = cond (decide (x < 0)) ([45] ++ (digs x.natAbs ++ [])) (digs x.natAbs ++ []) := by
    unfold Lib.itoa digs
    rw [if_neg (show x.natAbs ≠ 0 by omega)]
    by_cases hn : x < 0
    · rw [if_pos hn, decide_eq_true hn]; simp
    · rw [if_neg hn, decide_eq_false hn, cond_false, List.append_nil, show x.toNat = x.natAbs by omega]
  rw [hv]
  exact dh_ hfin
theorem Itoa_ev {x : Int} (h0 : -9223372036854775808 ≤ x) (h1 : x ≤ 9223372036854775807) : Ev (fun n _ => strconv_Itoa n x) (Lib.itoa x) :=
  aJ_ (by simp only [strconv_Itoa, nItoa, ay_, ax_, c5_]; exact ⟨fun _ => trivial, fun h => by simp at h; omega⟩)
end Go.Pi
end
section
set_option linter.unusedVariables false
set_option maxRecDepth 100000
set_option linter.unusedSimpArgs false
namespace Go.Pi
theorem join_snoc (x sep : Bs) : ∀ l : List Bs, Lib.join (l ++ [x]) sep = if l = [] then x else Lib.join l sep ++ sep ++ x
  | [] => by rw [if_pos rfl]; exact Lib.join_one x sep
  | y :: l => by
    rw [if_neg (by simp), List.cons_append, Lib.join_cons, Lib.join_cons]
    simp [Lib.joinTail]
theorem lh_ {α : Type} (f : α → Nat) : ∀ a b : List α, d1_ f (a ++ b) = d1_ f a + d1_ f b
  | [], b => by simp [d1_]
  | x :: a, b => by simp only [List.cons_append, d1_, lh_ f a b]; omega
theorem lg_ {α : Type} (f : α → Nat) (h : ∀ x, 1 ≤ f x) : ∀ a : List α, a.length ≤ d1_ f a
  | [] => Nat.le_refl _
  | x :: a => by have := lg_ f h a; have := h x; simp only [d1_, List.length_cons]; omega
theorem FSize_pos : ∀ (d : Nat) (j : aa_), 1 ≤ cO_ d j
  | 0, _ => by simp only [cO_]; omega
  | d + 1, j => by
    simp only [cO_]
    cases FOwn j <;> simp only [cond_true, cond_false] <;> omega
theorem km_ {s : Bs} (h : i6_ s = true) : s.length ≤ 60 := by
  unfold i6_ at h
  rw [Bool.and_eq_true] at h
  have := of_decide_eq_true h.2; omega
theorem gq_ {l : List Bs} (h : gB_ l = true) {i : Nat} (hi : i < l.length) : (l.getD i []).length ≤ 60 := by
  have := f8_.1 h i hi
  rw [Bool.and_eq_true] at this
  exact km_ this.1
structure Own (j : aa_) : Prop where
  kind : j.kind = 0 ∨ j.kind = 1 ∨ j.kind = 2 ∨ j.kind = 3 ∨ j.kind = 4 ∨ j.kind = 5
  list : j.kind ≠ 4 → j.kind ≠ 5 → j.list = []
  bool : j.kind = 1 → 0 ≤ j.n_ ∧ j.n_ ≤ 1
  num : j.kind = 2 → -1000000000 ≤ j.n_ ∧ j.n_ ≤ 1000000000
  text : j.kind = 3 → j.s.length ≤ 60
  obj : j.kind = 5 → j.names.length = j.list.length ∧ gB_ j.names = true
theorem FOwn_own {j : aa_} (h : FOwn j = true) : Own j := by
  unfold FOwn FOwnK at h
  simp only [Bool.and_eq_true, Bool.or_eq_true] at h
  obtain ⟨h1, h2, h3, h4, h5⟩ := h
  refine ⟨?_, fun k4 k5 => ?_, fun hk => ?_, fun hk => ?_, fun hk => ?_, fun hk => ?_⟩
  · rcases he_ j.kind with hk | hk | hk | hk | hk | hk | ⟨k0, k1, k2, k3, k4, k5⟩
    · exact .inl hk
    · exact .inr (.inl hk)
    · exact .inr (.inr (.inl hk))
    · exact .inr (.inr (.inr (.inl hk)))
    · exact .inr (.inr (.inr (.inr (.inl hk))))
    · exact .inr (.inr (.inr (.inr (.inr hk))))
    · simp only [beq_eq_false_iff_ne.2 k0, beq_eq_false_iff_ne.2 k1, beq_eq_false_iff_ne.2 k2, beq_eq_false_iff_ne.2 k3, beq_eq_false_iff_ne.2 k4, beq_eq_false_iff_ne.2 k5, cond_false, Bool.or_false] at h5
      cases h5
  · rcases h1 with h1 | h1 | h1
    · exact List.eq_nil_of_length_eq_zero (of_decide_eq_true h1)
    · exact absurd (by simpa using h1) k4
    · exact absurd (by simpa using h1) k5
  · simp only [hk, Int.reduceBEq, cond_true, cond_false] at h5; exact gO_ h5
  · simp only [hk, Int.reduceBEq, cond_true, cond_false] at h5; exact gO_ h5
  · simp only [hk, Int.reduceBEq, cond_true, cond_false] at h5; exact km_ h5
  · simp only [hk, Int.reduceBEq, cond_true, cond_false, Bool.and_eq_true] at h5
    exact ⟨by have := h5.1; simp at this; omega, h5.2⟩
def FPart (enc : aa_ → Bs) (j : aa_) (i : Nat) : Bs := cond (j.kind == 5) (lW_ (j.names.getD i []) ++ ([58] ++ enc (j.list.getD i aa_.dflt))) (enc (j.list.getD i aa_.dflt))
def lb_ (enc : aa_ → Bs) (j : aa_) (m : Nat) : Bs := Lib.join ((List.range m).map (FPart enc j)) [44]
def FEnc : Nat → aa_ → Bs
  | 0, _ => []
  | d + 1, j => cond (j.kind == 0) [110, 117, 108, 108] (cond (j.kind == 1) (cond (j.n_ == 1) [116, 114, 117, 101] [102, 97, 108, 115, 101]) (cond (j.kind == 2) (Lib.itoa j.n_) (cond (j.kind == 3) (lW_ j.s)
      (cond (j.kind == 5) ([123] ++ lb_ (FEnc d) j j.list.length ++ [125]) ([91] ++ lb_ (FEnc d) j j.list.length ++ [93])))))
theorem FJoin_one (enc : aa_ → Bs) (j : aa_) : lb_ enc j 1 = FPart enc j 0 := Lib.join_one _ _
theorem mK_ (enc : aa_ → Bs) (j : aa_) {m : Nat} (h : 0 < m) : lb_ enc j (m + 1) = lb_ enc j m ++ [44] ++ FPart enc j m := by
  unfold lb_
  rw [List.range_succ, List.map_append, List.map_cons, List.map_nil, join_snoc, if_neg]
  intro e
  have := congrArg List.length e
  simp at this; omega
theorem fP_ {d : Nat} {j : aa_} (h : cO_ (d + 1) j ≤ 400) : Own j ∧ cO_ (d + 1) j = 1 + d1_ (cO_ d) j.list := by
  simp only [cO_] at h ⊢
  cases ho : FOwn j with
  | false => rw [ho, cond_false] at h; omega
  | true =>
    rw [ho, cond_true] at h
    exact ⟨FOwn_own ho, by rw [cond_true]; omega⟩
theorem enc_len : ∀ (d : Nat) (j : aa_), cO_ d j ≤ 400 → (FEnc d j).length + 150 ≤ 300 * cO_ d j
  | 0, j, h => by simp only [cO_] at h; omega
  | d + 1, j, h => by
    obtain ⟨ho, hs⟩ := fP_ h
    have hJ : ∀ m, m ≤ j.list.length → (lb_ (FEnc d) j m).length ≤ 300 * d1_ (cO_ d) (j.list.take m) := by
      intro m
      induction m with
      | zero => intro _; exact Nat.zero_le _
      | succ m ih =>
        intro hm
        have hi : m < j.list.length := by omega
        have h1 := ih (by omega)
        have h2 := gW_ (cO_ d) (b6_ aa_.dflt hi)
        have h3 := enc_len d (j.list.getD m aa_.dflt) (by omega)
        have h4 : (FPart (FEnc d) j m).length ≤ 123 + (FEnc d (j.list.getD m aa_.dflt)).length := by
          unfold FPart
          cases hk : (j.kind == 5) with
          | false => rw [cond_false]; omega
          | true =>
            obtain ⟨e1, e2⟩ := ho.obj (by simpa using hk)
            have := gq_ e2 (i := m) (by omega)
            have := ir_ (j.names.getD m [])
            rw [cond_true]; simp only [List.length_append, List.length_cons, List.length_nil]; omega
        rw [de_ aa_.dflt hi, lh_]
        simp only [d1_, Nat.mul_add]
        by_cases h0 : m = 0
        · subst h0; rw [FJoin_one]; omega
        · rw [mK_ _ _ (by omega)]; simp only [List.length_append, List.length_cons, List.length_nil]; omega
    have hL := hJ j.list.length (Nat.le_refl _)
    rw [List.take_length] at hL
    rw [hs]
    rcases ho.kind with hk | hk | hk | hk | hk | hk
    · simp only [FEnc, hk, Int.reduceBEq, cond_true, cond_false, List.length_cons, List.length_nil]; omega
    · simp only [FEnc, hk, Int.reduceBEq, cond_true, cond_false]
      cases (j.n_ == 1) <;> simp only [cond_true, cond_false, List.length_cons, List.length_nil] <;> omega
    · have := ho.num hk
      have := Lib.itoa_length_le j.n_ (by omega) (by omega)
      simp only [FEnc, hk, Int.reduceBEq, cond_true, cond_false]; omega
    · have := ho.text hk
      have := ir_ j.s
      simp only [FEnc, hk, Int.reduceBEq, cond_true, cond_false]; omega
    · simp only [FEnc, hk, Int.reduceBEq, cond_true, cond_false, List.length_append, List.length_cons, List.length_nil]; omega
    · simp only [FEnc, hk, Int.reduceBEq, cond_true, cond_false, List.length_append, List.length_cons, List.length_nil]; omega
structure Part (d : Nat) (j : aa_) (i : Nat) : Prop where
  size : cO_ d (j.list.getD i aa_.dflt) ≤ 400
  enc : (FEnc d (j.list.getD i aa_.dflt)).length ≤ 120000
  name : j.kind = 5 → i < j.names.length ∧ (j.names.getD i []).length ≤ 60
theorem part_of {d : Nat} {j : aa_} (h : cO_ (d + 1) j ≤ 400) {i : Nat} (hi : i < j.list.length) : Part d j i := by
  obtain ⟨ho, hs⟩ := fP_ h
  have h2 := gW_ (cO_ d) (b6_ aa_.dflt hi)
  have h3 := enc_len d (j.list.getD i aa_.dflt) (by omega)
  exact ⟨by omega, by omega, fun hk => ⟨by have := (ho.obj hk).1; omega, gq_ (ho.obj hk).2 (by have := (ho.obj hk).1; omega)⟩⟩
theorem gM_ {d : Nat} {j : aa_} (h : cO_ (d + 1) j ≤ 400) : j.list.length ≤ 400 := by
  have := (fP_ h).2
  have := lg_ (cO_ d) (FSize_pos d) j.list
  omega
end Go.Pi
end
section
set_option linter.unusedVariables false
set_option maxRecDepth 100000
set_option linter.unusedSimpArgs false
namespace Go.Pi
end Go.Pi
end
section
set_option linter.unusedVariables false
set_option maxRecDepth 100000
set_option linter.unusedSimpArgs false
namespace Go.Pi
def df_ (ns : List Bs) (x : Bs) : Nat := ns.findIdx (fun y => !Op.bytesLess y x)
def eM_ (ns : List Bs) (x : Bs) : Nat := if ns.getD (df_ ns x) [] = x ∧ df_ ns x < ns.length then df_ ns x + 1 else df_ ns x
def kq_ {α : Type} (ns : List Bs) (x : Bs) (l : List α) (y : α) : List α := l.take (df_ ns x) ++ [y] ++ l.drop (eM_ ns x)
theorem fc_ {α : Type} (d : α) {a m : List α} {i q : Nat} (p : Nat) (hi : i < a.length) (h : q ≤ i) : a.take p ++ m ++ (a.take (i + 1)).drop q = a.take p ++ m ++ (a.take i).drop q ++ [a.getD i d] := by
  rw [de_ d hi, List.drop_append_of_le_length (by simp; omega)]
  simp
theorem put_idx {ns : List Bs} {x : Bs} {i : Nat} (hi : i < ns.length) (hle : i ≤ df_ ns x) : (!Op.bytesLess (ns.getD i []) x) = decide (i = df_ ns x) := by
  rw [List.getD_eq_getElem?_getD, List.getElem?_eq_getElem hi, Option.getD_some]
  unfold df_ at hle ⊢
  by_cases h : i = ns.findIdx (fun y => !Op.bytesLess y x)
  · rw [decide_eq_true h]
    have := List.findIdx_getElem (xs := ns) (p := fun y => !Op.bytesLess y x) (w := by omega)
    simp only [← h] at this
    exact this
  · rw [decide_eq_false h]
    exact List.not_of_lt_findIdx (xs := ns) (p := fun y => !Op.bytesLess y x) (i := i) (by omega)
theorem iy_ {o j : aa_} {x : Bs} (hk : o.names.length ≤ 2000000) (he : o.list.length = o.names.length) (hlt : ∀ y, Op.bytesLess y x = true → (y == x) = false) (hne : ∀ i, eM_ o.names x ≤ i → i < o.names.length → (o.names.getD i [] == x) = false) :
    Ev (fun n _ => bj_ n o x j) (aa_.mk 5 0 [] (kq_ o.names x o.list j) (kq_ o.names x o.names x)) := by
  refine aJ_ ?_
  have ht : o.names.length ≤ b5_ := by simp only [b5_]; omega
  obtain ⟨p, hp⟩ : ∃ p, p = df_ o.names x := ⟨_, rfl⟩
  have hpl : p ≤ o.names.length := by rw [hp]; exact List.findIdx_le_length
  obtain ⟨q, hq⟩ : ∃ q, q = eM_ o.names x := ⟨_, rfl⟩
  have hqp : p ≤ q ∧ q ≤ p + 1 := by rw [hq, hp]; unfold eM_; split <;> omega
  have hT : o.list.take o.names.length = o.list := List.take_of_length_le (by omega)
  let S : Nat → Bool × List aa_ × List Bs := fun i => if i ≤ p then (false, o.list.take i, o.names.take i) else (true, o.list.take p ++ [j] ++ (o.list.take i).drop q, o.names.take p ++ [x] ++ (o.names.take i).drop q)
  have hS0 : S 0 = (false, [], []) := by simp [S]
  simp only [bj_]
  have := e2_ S o.names.length (fun n N i (s : Bool × List aa_ × List Bs) => bj_.loop5 n (fun xy1 xy2 xy3 xy4 xy5 xy6 xy7 xy8 xy9 xy10 xy11 xy12 xy13 xy14 xy15 => (cond (!xy2) (cL_ (xy15.length + ([xy1] : List Bs).length) 16 (cL_ (xy14.length + ([(aa_.mk xy3 xy4 xy5 xy6 xy7)] : List aa_).length) 80 (some (aa_.mk xy11 xy12 xy13 (xy14 ++ ([(aa_.mk xy3 xy4 xy5 xy6 xy7)] : List aa_)) (xy15 ++ ([xy1] : List Bs)))))) (some (aa_.mk xy11 xy12 xy13 xy14 xy15)))) N x s.1 (i : Int) o.kind o.n_ o.s o.list o.names j.kind j.n_ j.s j.list j.names 0 0 [] 5 0 [] s.2.1 s.2.2)
    (aa_.mk 5 0 [] (kq_ o.names x o.list j) (kq_ o.names x o.names x)) (fun i hi F hF => ?_) ?_
  · rw [hS0] at this; exact this
  · have hx := put_idx (ns := o.names) (x := x) hi
    rw [← hp] at hx
    have hln : (S i).2.2.length ≤ o.names.length + 1 := by simp only [S]; split <;> simp <;> omega
    have hll : (S i).2.1.length ≤ o.names.length + 1 := by simp only [S]; split <;> simp <;> omega
    have hil : i < o.list.length := by omega
    simp only [bj_.turn5, bj_.step5, d6_, cM_, Int.toNat_natCast, W_up hi ht, ay_, bU_, cG_, c8_ hi, cQ_ hi, cQ_ hil]
    by_cases hle : i ≤ p
    · have s1 : S i = (false, o.list.take i, o.names.take i) := by simp only [S, if_pos hle]
      rw [s1] at hln hll ⊢
      by_cases e : i = p
      · have hb : (!Op.bytesLess (o.names.getD i []) x) = true := by rw [hx hle]; exact decide_eq_true e
        subst e
        by_cases hs : o.names.getD i [] = x
        · have hqv : q = i + 1 := by rw [hq]; unfold eM_; rw [← hp, if_pos ⟨hs, hi⟩]
          have s2 : S (i + 1) = (true, o.list.take i ++ [j], o.names.take i ++ [x]) := by
            simp only [S, if_neg (show ¬ i + 1 ≤ i by omega)]
            rw [List.drop_eq_nil_of_le (by simp; omega), List.drop_eq_nil_of_le (by simp; omega), List.append_nil, List.append_nil]
          rw [s2] at hF
          have hs' : (o.names.getD i [] == x) = true := by simpa using hs
          simp only [hb, hs', cond_true, cond_false, Bool.not_true, Bool.not_false]
          repeat' (first | apply And.intro | intro _)
          all_goals (first | contradiction | exact hF | trivial | (simp; omega))
        · have hqv : q = i := by rw [hq]; unfold eM_; rw [← hp, if_neg (fun h => hs h.1)]
          have s2 : S (i + 1) = (true, o.list.take i ++ [j] ++ [o.list.getD i aa_.dflt], o.names.take i ++ [x] ++ [o.names.getD i []]) := by
            simp only [S, if_neg (show ¬ i + 1 ≤ i by omega), hqv]
            rw [fc_ aa_.dflt i hil (Nat.le_refl _), fc_ [] i hi (Nat.le_refl _), List.drop_eq_nil_of_le (by simp; omega), List.drop_eq_nil_of_le (by simp; omega), List.append_nil, List.append_nil]
          rw [s2] at hF
          have hs' : (o.names.getD i [] == x) = false := by simpa using hs
          simp only [hb, hs', cond_true, cond_false, Bool.not_true, Bool.not_false]
          repeat' (first | apply And.intro | intro _)
          all_goals (first | contradiction | exact hF | trivial | (simp; omega))
      · have hb : (!Op.bytesLess (o.names.getD i []) x) = false := by rw [hx hle]; exact decide_eq_false e
        have hs' : (o.names.getD i [] == x) = false := hlt (o.names.getD i []) (by rw [Bool.not_eq_false'] at hb; exact hb)
        have s2 : S (i + 1) = (false, o.list.take i ++ [o.list.getD i aa_.dflt], o.names.take i ++ [o.names.getD i []]) := by
          simp only [S, if_pos (show i + 1 ≤ p by omega), de_ aa_.dflt hil, de_ [] hi]
        rw [s2] at hF
        simp only [hb, hs', cond_true, cond_false, Bool.not_true, Bool.not_false]
        repeat' (first | apply And.intro | intro _)
        all_goals (first | contradiction | exact hF | trivial | (simp; omega))
    · have s1 : S i = (true, o.list.take p ++ [j] ++ (o.list.take i).drop q, o.names.take p ++ [x] ++ (o.names.take i).drop q) := by simp only [S, if_neg hle]
      have s2 : S (i + 1) = (true, o.list.take p ++ [j] ++ (o.list.take i).drop q ++ [o.list.getD i aa_.dflt], o.names.take p ++ [x] ++ (o.names.take i).drop q ++ [o.names.getD i []]) := by
        simp only [S, if_neg (show ¬ i + 1 ≤ p by omega)]
        rw [fc_ aa_.dflt p hil (by omega), fc_ [] p hi (by omega)]
      have hs' := hne i (by omega) hi
      rw [s1] at hln hll ⊢
      rw [s2] at hF
      simp only [hs', cond_true, cond_false, Bool.not_true, Bool.not_false]
      repeat' (first | apply And.intro | intro _)
      all_goals (first | contradiction | exact hF | trivial | (simp at hln hll ⊢; omega))
  · simp only [bj_.turn5, bj_.step5, d6_, cX_, cond_false, ay_, cG_, ax_]
    unfold kq_
    rw [← hp, ← hq]
    by_cases hle : o.names.length ≤ p
    · have e : p = o.names.length := by omega
      have hqv : q = p := by rw [hq]; unfold eM_; rw [← hp, if_neg (fun h => by omega)]
      have s1 : S o.names.length = (false, o.list, o.names) := by simp only [S, if_pos hle, List.take_length]; rw [List.take_of_length_le (by omega)]
      rw [s1, hqv, e, List.take_of_length_le (l := o.list) (by omega), List.drop_eq_nil_of_le (show o.list.length ≤ o.names.length by omega), List.take_length, List.drop_length]
      refine ⟨fun _ => ⟨by simp; omega, by simp; omega, by simp⟩, fun h => (by cases h)⟩
    · have s1 : S o.names.length = (true, o.list.take p ++ [j] ++ o.list.drop q, o.names.take p ++ [x] ++ o.names.drop q) := by simp only [S, if_neg hle, List.take_length]; rw [hT]
      rw [s1]
      exact ⟨fun h => (by cases h), fun _ => rfl⟩
end Go.Pi
end
section
set_option linter.unusedVariables false
set_option maxRecDepth 100000
set_option linter.unusedSimpArgs false
namespace Go.Pi
theorem eg_ : ∀ (x y : Bs), Op.bytesLess x y = decide (x < y)
  | [], [] => by simp [Op.bytesLess]
  | _ :: _, [] => by simp [Op.bytesLess]
  | [], _ :: _ => by simp [Op.bytesLess]
  | a :: x, b :: y => by
    rw [Op.bytesLess, eg_ x y]
    simp only [List.cons_lt_cons_iff]
    by_cases h1 : a < b <;> by_cases h2 : a = b <;> by_cases h3 : x < y <;> simp [h1, h2, h3]
end Go.Pi
end
section
set_option linter.unusedVariables false
set_option maxRecDepth 100000
set_option linter.unusedSimpArgs false
namespace Go.Pi
def mb_ : aa_ := aa_.mk 0 0 [] [] []
def c3_ (j : aa_) : aa_ := cond (c6_ j) j mb_
theorem orNull_ev {j : aa_} (h : gb_ 6 j) : Ev (fun n _ => b0_ n j) (c3_ j) := by
  refine aJ_ ?_
  simp only [b0_, cM_, aj_ (ef_ h), ay_, ax_, c3_, mb_]
  cases c6_ j <;> simp
end Go.Pi
end
section
set_option linter.unusedVariables false
set_option maxRecDepth 100000
set_option linter.unusedSimpArgs false
namespace Go.Pi
theorem g8_ {d : Nat} {j : aa_} (h : cO_ (d + 1) j ≤ 400) : j.names.length ≤ 400 := by
  have h1 := gM_ h
  have ho := (fP_ h).1
  by_cases hk : j.kind = 5
  · have := (ho.obj hk).1; omega
  · have : FOwn j = true := by
      simp only [cO_] at h
      cases hf : FOwn j with
      | true => rfl
      | false => rw [hf, cond_false] at h; omega
    unfold FOwn at this
    simp only [Bool.and_eq_true, Bool.or_eq_true] at this
    rcases this.2.1 with h2 | h2
    · have := of_decide_eq_true h2; omega
    · exact absurd (by simpa using h2) hk
theorem dM_ : ∀ (d : Nat) (j : aa_), cO_ d j ≤ 400 → Ev (fun n _ => aC_ n j) j
  | 0, j, h => by simp only [cO_] at h; omega
  | d + 1, j, h => by
    have hll := gM_ h
    have hnl := g8_ h
    refine aJ_ ?_
    have hc : Ev (fun n _ => bx_ n j.names) j.names := aJ_ (by simp only [bx_, cG_, ax_, List.nil_append, List.length_nil, and_true]; omega)
    simp only [aC_, aj_ hc]
    have := e2_ (fun i => j.list.take i) j.list.length (fun n N i (o : List aa_) => aC_.loop4 n (aC_ n) (fun xy3 xy4 xy5 xy6 xy7 xy8 xy9 xy10 => (some (aa_.mk xy6 xy7 xy8 xy9 xy10))) N j.list (j.list.length : Int) (i : Int) 0 0 [] j.kind j.n_ j.s o j.names) j (fun i hi F hF => ?_) ?_
    · exact this
    · have hp := part_of h hi
      have hx := dM_ d (j.list.getD i aa_.dflt) hp.size
      rw [de_ aa_.dflt hi] at hF
      simp only [aC_.turn4, aC_.step4, cM_, Int.toNat_natCast, W_up hi (show j.list.length ≤ b5_ by simp only [b5_]; omega), ay_, bU_, cG_, c8_ hi, cQ_ hi, aj_ hx]
      exact ⟨fun _ => ⟨trivial, by simp; omega, hF⟩, fun h => (by cases h)⟩
    · simp only [aC_.turn4, aC_.step4, cX_, cond_false, List.take_length, ax_, d6_]
theorem ea_ : ∀ (d : Nat) (j : aa_), cO_ d j ≤ 400 → Ev (fun n _ => aX_ n j) j
  | 0, j, h => by simp only [cO_] at h; omega
  | d + 1, j, h => by
    have hll := gM_ h
    have hnl := g8_ h
    refine aJ_ ?_
    simp only [aX_, cG_, List.nil_append, List.length_nil]
    refine ⟨by omega, ?_⟩
    have := e2_ (fun i => j.list.take i) j.list.length (fun n N i (o : List aa_) => aX_.loop4 n (aX_ n) (fun xy2 xy3 xy4 xy5 xy6 xy7 xy8 xy9 => (some (aa_.mk xy5 xy6 xy7 xy8 xy9))) N (i : Int) j.kind j.n_ j.s j.list j.names 0 0 [] j.kind j.n_ j.s o j.names) j (fun i hi F hF => ?_) ?_
    · exact this
    · have hp := part_of h hi
      have hx := ea_ d (j.list.getD i aa_.dflt) hp.size
      rw [de_ aa_.dflt hi] at hF
      simp only [aX_.turn4, aX_.step4, cM_, Int.toNat_natCast, W_up hi (show j.list.length ≤ b5_ by simp only [b5_]; omega), ay_, bU_, cG_, c8_ hi, cQ_ hi, aj_ hx]
      exact ⟨fun _ => ⟨trivial, by simp; omega, hF⟩, fun h => (by cases h)⟩
    · simp only [aX_.turn4, aX_.step4, cX_, cond_false, List.take_length, ax_, d6_]
def lenOp (o : TOp) : Prop := lenNs b5_ o.way ∧ gb_ 6 o.value
theorem op_eta (o : TOp) : TOp.mk o.kind o.way o.value = o := rfl
theorem hc_ : ∀ d, gb_ d mb_
  | 0 => trivial
  | d + 1 => ⟨⟨Nat.zero_le _, Nat.zero_le _, fun x hx => (by cases hx)⟩, Nat.zero_le _, fun x hx => (by cases hx)⟩
end Go.Pi
end
section
set_option linter.unusedVariables false
set_option maxRecDepth 100000
set_option linter.unusedSimpArgs false
namespace Go.Pi
theorem isNaN_ev {x : Bs} : Ev (fun n _ => a8_ n x) false := aJ_ (by simp [a8_, ax_])
theorem isNaN2_ev {x : Bs} : Ev (fun n _ => br_ n x) false := aJ_ (by simp [br_, ax_])
theorem mx_ {x y : Bs} : Ev (fun n _ => bv_ n x y) (Op.bytesLess x y) := by
  refine aJ_ ?_
  simp only [bv_, aj_ isNaN2_ev, ay_, ax_]
  cases Op.bytesLess x y <;> simp
theorem half {i j : Nat} (h : i + j ≤ 4000000) : W (Int.fdiv (IntKind.u64.wrap (W ((i : Int) + (j : Int)))) (2 ^ min (1 : Int).toNat (IntKind.bits .u64))) = (((i + j) / 2 : Nat) : Int) := by
  have e1 : W ((i : Int) + (j : Int)) = ((i + j : Nat) : Int) := by rw [W_id (by omega) (by omega)]; omega
  have e2 : IntKind.u64.wrap ((i + j : Nat) : Int) = ((i + j : Nat) : Int) := by
    show (((i + j : Nat) : Int)) % _ = _
    exact Int.emod_eq_of_lt (by omega) (by have : ((i + j : Nat) : Int) ≤ 4000000 := by omega
                                           exact Int.lt_of_le_of_lt this (by decide))
  have e3 : (2 : Int) ^ min (1 : Int).toNat (IntKind.bits .u64) = 2 := by decide
  rw [e1, e2, e3, Int.fdiv_eq_ediv_of_nonneg _ (by decide)]
  rw [W_id (by omega) (by omega)]; omega
theorem hD_ {ns : List Bs} {x : Bs} (hl : ns.length ≤ 2000000) (hM : ∀ h, h < ns.length → Op.bytesLess (ns.getD h []) x = decide (h < df_ ns x)) :
    Ev (fun n _ => ad_ n ns x) ((df_ ns x : Int), decide (df_ ns x < ns.length) && (ns.getD (df_ ns x) [] == x)) := by
  refine aJ_ ?_
  have hpl : df_ ns x ≤ ns.length := List.findIdx_le_length
  obtain ⟨p, hp⟩ : ∃ p, p = df_ ns x := ⟨_, rfl⟩
  rw [← hp] at hpl hM ⊢
  simp only [ad_]
  have key : ∀ (d i j : Nat), j - i ≤ d → i ≤ p → p ≤ j → j ≤ ns.length → Ev (fun n N => ad_.loop4 n (fun xy3 xy4 xy5 xy6 => (cond (decide (xy6 < xy5)) (inB xy6 xy3.length (cond ((xy3.getD xy6.toNat []) == xy4) (some (xy6, true)) (inB xy6 xy3.length ((a8_ n (xy3.getD xy6.toNat [])).bind fun xr7 => (cond xr7 ((a8_ n xy4).bind fun xr8 => (some (xy6, xr8))) (some (xy6, false))))))) (some (xy6, false)))) N ns x (ns.length : Int) (i : Int) (j : Int)) ((p : Int), decide (p < ns.length) && (ns.getD p [] == x)) := by
    intro d
    induction d with
    | zero =>
      intro i j hd h1 h2 h3
      have e : i = p := by omega
      have e' : j = p := by omega
      subst e; subst e'
      refine b8_ ?_
      simp only [ad_.turn4, ad_.step4, Int.lt_irrefl, decide_false, cond_false, ay_, bU_, ax_, Int.toNat_natCast, aj_ isNaN_ev]
      by_cases hc : j < ns.length
      · rw [decide_eq_true hc, decide_eq_true (show (j : Int) < (ns.length : Int) by omega)]
        cases hs : (ns.getD j [] == x) <;> simp <;> omega
      · rw [decide_eq_false hc, decide_eq_false (show ¬ (j : Int) < (ns.length : Int) by omega)]
        exact ⟨fun h => (by cases h), fun _ => rfl⟩
    | succ d ih =>
      intro i j hd h1 h2 h3
      by_cases hij : i < j
      · have hh := half (i := i) (j := j) (by omega)
        have hm : (i + j) / 2 < ns.length := by omega
        refine b8_ ?_
        simp only [ad_.turn4, ad_.step4, hh, decide_eq_true (show (i : Int) < (j : Int) by omega), cond_true, ay_, bU_, Int.toNat_natCast, aj_ mx_, cQ_ hm, hM _ hm, W_up hm (show ns.length ≤ b5_ by simp only [b5_]; omega)]
        refine ⟨trivial, fun hc => ?_, fun hc => ?_⟩
        · have hc := of_decide_eq_true hc
          exact ih ((i + j) / 2 + 1) j (by omega) (by omega) h2 h3
        · have hc := of_decide_eq_false hc
          exact ih i ((i + j) / 2) (by omega) h1 (by omega) (by omega)
      · exact ih i j (by omega) h1 h2 h3
  exact dh_ (f := fun n N => ad_.loop4 n _ N ns x (ns.length : Int) 0 (ns.length : Int)) (key ns.length 0 ns.length (by omega) (Nat.zero_le _) hpl (Nat.le_refl _))
end Go.Pi
end
section
set_option linter.unusedVariables false
set_option maxRecDepth 100000
set_option linter.unusedSimpArgs false
namespace Go.Pi
def ins (x : Bs) (y : Int) : List (Bs × Int) → List (Bs × Int)
  | [] => [(x, y)]
  | (k, v) :: l => if k < x then (k, v) :: ins x y l else if k = x then (x, y) :: l else (x, y) :: (k, v) :: l
def dB_ : List (Bs × Int) → Prop
  | [] => True
  | (k, _) :: l => (∀ p ∈ l, k < p.1) ∧ dB_ l
theorem iQ_ {x : Bs} {y : Int} : ∀ {l : List (Bs × Int)} {p : Bs × Int}, p ∈ ins x y l → p = (x, y) ∨ p ∈ l
  | [], p, h => by simp only [ins, List.mem_singleton] at h; exact .inl h
  | (k, v) :: l, p, h => by
    simp only [ins] at h
    split at h
    · rcases List.mem_cons.1 h with h | h
      · exact .inr (h ▸ List.mem_cons_self ..)
      · rcases iQ_ h with h | h
        · exact .inl h
        · exact .inr (List.mem_cons_of_mem _ h)
    · split at h
      · rcases List.mem_cons.1 h with h | h
        · exact .inl h
        · exact .inr (List.mem_cons_of_mem _ h)
      · rcases List.mem_cons.1 h with h | h
        · exact .inl h
        · exact .inr h
theorem jB_ {a b : Bs} (h1 : ¬ a < b) (h2 : a ≠ b) : b < a := by
  rcases Decidable.em (b < a) with h | h
  · exact h
  · exact absurd (List.le_antisymm (List.not_lt.1 h) (List.not_lt.1 h1)) h2
theorem kG_ {x : Bs} {y : Int} : ∀ {l : List (Bs × Int)}, dB_ l → dB_ (ins x y l)
  | [], _ => ⟨fun p hp => (by cases hp), trivial⟩
  | (k, v) :: l, h => by
    simp only [ins]
    split
    · rename_i hk
      exact ⟨fun p hp => (iQ_ hp).elim (fun e => e ▸ hk) (h.1 p), kG_ h.2⟩
    · split
      · rename_i h1 h2
        subst h2
        exact ⟨h.1, h.2⟩
      · rename_i h1 h2
        have hx := jB_ h1 h2
        exact ⟨fun p hp => by
          rcases List.mem_cons.1 hp with e | hp
          · rw [e]; exact hx
          · exact List.lt_trans hx (h.1 p hp), h⟩
end Go.Pi
end
section
set_option linter.unusedVariables false
set_option linter.unusedSimpArgs false
namespace Go.Pi
theorem tri (a b : Bs) : a < b ∧ ¬ b < a ∧ a ≠ b ∧ b ≠ a ∨ a = b ∧ ¬ a < b ∧ ¬ b < a ∨ b < a ∧ ¬ a < b ∧ a ≠ b ∧ b ≠ a := by
  by_cases h1 : a < b
  · exact .inl ⟨h1, List.lt_asymm h1, fun e => List.lt_irrefl b (e ▸ h1), fun e => List.lt_irrefl b (e ▸ h1)⟩
  · by_cases h2 : a = b
    · subst h2; exact .inr (.inl ⟨rfl, h1, h1⟩)
    · exact .inr (.inr ⟨jB_ h1 h2, h1, h2, fun e => h2 e.symm⟩)
theorem lw_ {x x' : Bs} {y y' : Int} (hne : x ≠ x') : ∀ l : List (Bs × Int), ins x y (ins x' y' l) = ins x' y' (ins x y l)
  | [] => by
    rcases tri x x' with ⟨h1, h2, h3, h4⟩ | ⟨h1, _⟩ | ⟨h1, h2, h3, h4⟩
    · simp only [ins, if_pos h1, if_neg h2, if_neg h4]
    · exact absurd h1 hne
    · simp only [ins, if_pos h1, if_neg h2, if_neg h3]
  | (k, v) :: l => by
    have ih := lw_ (y := y) (y' := y') hne l
    rcases tri x x' with ⟨h1, h2, h3, h4⟩ | ⟨h1, _⟩ | ⟨h1, h2, h3, h4⟩
    · rcases tri k x with ⟨a1, a2, a3, a4⟩ | ⟨a1, a2, a3⟩ | ⟨a1, a2, a3, a4⟩
      · have b1 : k < x' := List.lt_trans a1 h1
        simp only [ins, if_pos a1, if_pos b1, ih]
      · subst a1
        simp only [ins, if_pos h1, if_neg a2, if_true]
      · rcases tri k x' with ⟨b1, b2, b3, b4⟩ | ⟨b1, b2, b3⟩ | ⟨b1, b2, b3, b4⟩
        · simp only [ins, if_pos b1, if_neg a2, if_neg a3, if_pos h1]
        · subst b1
          simp only [ins, if_neg a2, if_neg a3, if_neg b2, if_pos h1, if_neg h2, if_neg h4, if_true]
        · simp only [ins, if_neg a2, if_neg a3, if_neg b2, if_neg b3, if_pos h1, if_neg h2, if_neg h4]
    · exact absurd h1 hne
    · rcases tri k x' with ⟨a1, a2, a3, a4⟩ | ⟨a1, a2, a3⟩ | ⟨a1, a2, a3, a4⟩
      · have b1 : k < x := List.lt_trans a1 h1
        simp only [ins, if_pos a1, if_pos b1, ih]
      · subst a1
        simp only [ins, if_pos h1, if_neg a2, if_true]
      · rcases tri k x with ⟨b1, b2, b3, b4⟩ | ⟨b1, b2, b3⟩ | ⟨b1, b2, b3, b4⟩
        · simp only [ins, if_pos b1, if_neg a2, if_neg a3, if_pos h1]
        · subst b1
          simp only [ins, if_neg a2, if_neg a3, if_neg b2, if_pos h1, if_neg h2, if_neg h3, if_true]
        · simp only [ins, if_neg a2, if_neg a3, if_neg b2, if_neg b3, if_pos h1, if_neg h2, if_neg h3]
end Go.Pi
end
section
set_option linter.unusedVariables false
set_option linter.unusedSimpArgs false
namespace Go.Pi
theorem putL_nil {α : Type} {x : Bs} {y : α} : kq_ [] x [] y = [y] := by
  simp [kq_]
theorem putL_cons {α : Type} {k x : Bs} {ns : List Bs} {a y : α} {l : List α} : kq_ (k :: ns) x (a :: l) y = if k < x then a :: kq_ ns x l y else if k = x then y :: l else y :: a :: l := by
  by_cases h : k < x
  · have hb : Op.bytesLess k x = true := by rw [eg_]; exact decide_eq_true h
    have e1 : df_ (k :: ns) x = df_ ns x + 1 := by unfold df_; rw [List.findIdx_cons]; simp [hb]
    have e2 : eM_ (k :: ns) x = eM_ ns x + 1 := by
      unfold eM_
      rw [e1]
      simp only [List.getD_cons_succ, List.length_cons, Nat.add_lt_add_iff_right]
      split <;> rfl
    rw [if_pos h]
    unfold kq_
    rw [e1, e2]; simp
  · have hb : Op.bytesLess k x = false := by rw [eg_]; exact decide_eq_false h
    have e1 : df_ (k :: ns) x = 0 := by unfold df_; rw [List.findIdx_cons]; simp [hb]
    rw [if_neg h]
    unfold kq_ eM_
    rw [e1]
    by_cases h2 : k = x
    · simp [h2]
    · simp [h2]
theorem fR_ {α : Type} (g : Bs × Int → α) (x : Bs) (y : Int) : ∀ l : List (Bs × Int), kq_ (l.map (·.1)) x (l.map g) (g (x, y)) = (ins x y l).map g
  | [] => by simp only [List.map_nil, ins, List.map_cons]; exact putL_nil
  | (k, v) :: l => by
    simp only [List.map_cons, putL_cons, ins]
    split
    · rw [fR_ g x y l]; rfl
    · split <;> rfl
end Go.Pi
end
section
set_option linter.unusedVariables false
set_option linter.unusedSimpArgs false
namespace Go.Pi
theorem l8_ {k x : Bs} {ns : List Bs} : eM_ (k :: ns) x = if k < x then eM_ ns x + 1 else if k = x then 1 else 0 := by
  by_cases h : k < x
  · have hb : Op.bytesLess k x = true := by rw [eg_]; exact decide_eq_true h
    have e1 : df_ (k :: ns) x = df_ ns x + 1 := by unfold df_; rw [List.findIdx_cons]; simp [hb]
    unfold eM_
    rw [e1, if_pos h]
    simp only [List.getD_cons_succ, List.length_cons, Nat.add_lt_add_iff_right]
    split <;> rfl
  · have hb : Op.bytesLess k x = false := by rw [eg_]; exact decide_eq_false h
    have e1 : df_ (k :: ns) x = 0 := by unfold df_; rw [List.findIdx_cons]; simp [hb]
    rw [if_neg h]
    unfold eM_
    rw [e1]
    by_cases h2 : k = x
    · simp [h2]
    · simp [h2]
theorem asc_ne {x : Bs} : ∀ {l : List (Bs × Int)}, dB_ l → ∀ i, eM_ (l.map (·.1)) x ≤ i → i < (l.map (·.1)).length → ((l.map (·.1)).getD i [] == x) = false
  | [], _, i, _, hi => by simp at hi
  | (k, v) :: l, h, i, hp, hi => by
    simp only [List.map_cons, l8_] at hp
    have later : ∀ i', i' < (l.map (·.1)).length → k < (l.map (·.1)).getD i' [] := fun i' hi' => by
      have hm := b6_ (d := ([] : Bs)) (a := l.map (·.1)) (i := i') hi'
      obtain ⟨p, hp, e⟩ := List.mem_map.1 hm
      rw [← e]; exact h.1 p hp
    cases i with
    | zero =>
      simp only [List.map_cons, List.getD_cons_zero]
      by_cases h1 : k < x
      · rw [if_pos h1] at hp; omega
      · rw [if_neg h1] at hp
        by_cases h2 : k = x
        · rw [if_pos h2] at hp; omega
        · exact beq_eq_false_iff_ne.2 h2
    | succ i =>
      have hi' : i < (l.map (·.1)).length := by simpa using hi
      simp only [List.map_cons, List.getD_cons_succ]
      by_cases h1 : k < x
      · rw [if_pos h1] at hp
        exact asc_ne h.2 i (by omega) hi'
      · refine beq_eq_false_iff_ne.2 fun e => h1 ?_
        rw [← e]; exact later i hi'
def gu_ (n : Int) : aa_ := aa_.mk 2 n [] [] []
def mM_ (l : List (Bs × Int)) : aa_ := aa_.mk 5 0 [] (l.map fun p => gu_ p.2) (l.map (·.1))
theorem hd_ {l : List (Bs × Int)} {x : Bs} {y : Int} (h : dB_ l) (hl : l.length ≤ 2000000) : Ev (fun n _ => bj_ n (mM_ l) x (gu_ y)) (mM_ (ins x y l)) := by
  have := iy_ (o := mM_ l) (j := gu_ y) (x := x) (by simp [mM_]; exact hl) (by simp [mM_]) (fun z hz => by
    rw [eg_] at hz
    exact beq_eq_false_iff_ne.2 fun e => by subst e; exact List.lt_irrefl z (of_decide_eq_true hz)) (fun i h1 h2 => asc_ne h i h1 h2)
  refine dS_ this ?_
  have e1 := fR_ (fun p => gu_ p.2) x y l
  have e2 := fR_ (fun p => p.1) x y l
  show aa_.mk 5 0 [] (kq_ (l.map (·.1)) x (l.map fun p => gu_ p.2) (gu_ y)) (kq_ (l.map (·.1)) x (l.map (·.1)) x) = _
  rw [e1, e2]; rfl
end Go.Pi
end
section
set_option linter.unusedVariables false
namespace Go.Pi
def lenQ (c : Nat) (q : bi_) : Prop := q.where_.length ≤ c ∧ q.show_.length ≤ c
def lenR (c : Nat) (r : List TRow) : Prop := r.length ≤ c ∧ ∀ x ∈ r, x.cells.length ≤ c
def lenV (c : Nat) (v : bB_) : Prop := lenQ c v.q ∧ lenR c v.rows ∧ v.kids.length ≤ c
end Go.Pi
end
section
set_option linter.unusedVariables false
set_option maxRecDepth 100000
set_option linter.unusedSimpArgs false
namespace Go.Pi
def i8_ (r : TRow) (col : Int) : Int := cond (inn col 0 (W ((r.cells.length : Int) - 1))) (r.cells.getD col.toNat 0) 0
theorem hF_ {r : TRow} {col : Int} (hr : r.cells.length ≤ b5_) : Ev (fun n _ => cd_ n r col) (i8_ r col) := by
  refine aJ_ ?_
  have e := @W_dn r.cells.length hr
  simp only [cd_, l1In_b, ay_, bU_, ax_, i8_]
  cases hi : inn col 0 (W ((r.cells.length : Int) - 1)) with
  | false => simp
  | true => have := gO_ hi; exact ⟨fun h => (by cases h), fun _ => ⟨by omega, rfl⟩⟩
theorem cellOf_ev {r : TRow} {col : Int} (hr : r.cells.length ≤ b5_) : Ev (fun n _ => cl_ n r col) (i8_ r col) := by
  refine aJ_ ?_
  have e := @W_dn r.cells.length hr
  simp only [cl_, gK_, ay_, bU_, ax_, i8_]
  cases hi : inn col 0 (W ((r.cells.length : Int) - 1)) with
  | false => simp
  | true => have := gO_ hi; exact ⟨fun h => (by cases h), fun _ => ⟨by omega, rfl⟩⟩
theorem ia_ {rows : List TRow} (hr : lenR b5_ rows) (i : Nat) : (rows.getD i TRow.dflt).cells.length ≤ b5_ := by
  by_cases h : i < rows.length
  · exact hr.2 _ (b6_ _ h)
  · rw [List.getD_eq_getElem?_getD, List.getElem?_eq_none (by omega)]; exact Nat.zero_le _
end Go.Pi
end
section
set_option linter.unusedVariables false
set_option linter.unusedSimpArgs false
namespace Go.Pi
def dval (l : Bs) : Nat := l.foldl (fun a c => 10 * a + (c.toNat - 48)) 0
theorem dval_snoc (l : Bs) (c : UInt8) : dval (l ++ [c]) = 10 * dval l + (c.toNat - 48) := by simp [dval]
theorem ez_ {u : Nat} (h : u < 10) : (UInt8.ofNat (48 + u)).toNat = 48 + u := by
  rw [UInt8.toNat_ofNat']; omega
theorem gP_ (u : Nat) : dval (Lib.decDigits u) = u := by
  induction u using Nat.strongRecOn with
  | _ u ih =>
    rw [Lib.decDigits]
    by_cases h : u < 10
    · rw [dif_pos h]; simp only [dval, List.foldl_cons, List.foldl_nil, ez_ h]; omega
    · rw [dif_neg h, dval_snoc, ih _ (by omega), ez_ (Nat.mod_lt _ (by decide))]; omega
theorem dec_all (u : Nat) : ∀ c ∈ Lib.decDigits u, 48 ≤ c.toNat ∧ c.toNat ≤ 57 := by
  induction u using Nat.strongRecOn with
  | _ u ih =>
    rw [Lib.decDigits]
    by_cases h : u < 10
    · rw [dif_pos h]; intro c hc
      rw [List.mem_singleton.1 hc, ez_ h]; omega
    · rw [dif_neg h]; intro c hc
      rcases List.mem_append.1 hc with hc | hc
      · exact ih _ (by omega) c hc
      · rw [List.mem_singleton.1 hc, ez_ (Nat.mod_lt _ (by decide))]; omega
theorem kb_ {u : Nat} {l : Bs} : Lib.decDigits u ≠ 45 :: l := fun e => by
  have := (dec_all u 45 (by rw [e]; exact List.mem_cons_self ..)).1
  revert this; decide
theorem itoa_inj {x y : Int} (h : Lib.itoa x = Lib.itoa y) : x = y := by
  unfold Lib.itoa at h
  by_cases hx : x < 0 <;> by_cases hy : y < 0
  · rw [if_pos hx, if_pos hy] at h
    have := congrArg dval (List.cons.inj h).2
    rw [gP_, gP_] at this; omega
  · rw [if_pos hx, if_neg hy] at h; exact absurd h.symm kb_
  · rw [if_neg hx, if_pos hy] at h; exact absurd h kb_
  · rw [if_neg hx, if_neg hy] at h
    have := congrArg dval h
    rw [gP_, gP_] at this; omega
def do_ (c : Int) : Bs := 99 :: Lib.itoa c
theorem hq_ {x y : Int} (h : do_ x = do_ y) : x = y := itoa_inj (List.cons.inj h).2
def dv_ (r : TRow) (c : Int) : Bs × Int := (do_ c, i8_ r c)
def cS_ (ps : List (Bs × Int)) (l : List (Bs × Int)) : List (Bs × Int) := ps.foldl (fun l p => ins p.1 p.2 l) l
theorem eu_ (ps : List (Bs × Int)) (p : Bs × Int) (l : List (Bs × Int)) : cS_ (ps ++ [p]) l = ins p.1 p.2 (cS_ ps l) := by simp [cS_]
theorem el_ : ∀ (ps : List (Bs × Int)) {l : List (Bs × Int)}, dB_ l → dB_ (cS_ ps l)
  | [], _, h => h
  | p :: ps, _, h => el_ ps (kG_ h)
theorem ff_ : ∀ {ps : List (Bs × Int)} {l : List (Bs × Int)} {p : Bs × Int}, p ∈ cS_ ps l → p ∈ ps ∨ p ∈ l
  | [], _, _, h => .inr h
  | q :: ps, l, p, h => by
    rcases ff_ (ps := ps) h with h | h
    · exact .inl (List.mem_cons_of_mem _ h)
    · rcases iQ_ h with h | h
      · exact .inl (h ▸ List.mem_cons_self ..)
      · exact .inr h
theorem iR_ {x : Bs} {y : Int} : ∀ {l : List (Bs × Int)}, (ins x y l).length ≤ l.length + 1
  | [] => Nat.le_refl _
  | (k, v) :: l => by
    have := iR_ (x := x) (y := y) (l := l)
    simp only [ins]
    split
    · simp only [List.length_cons]; omega
    · split <;> simp only [List.length_cons] <;> omega
theorem dU_ : ∀ {ps : List (Bs × Int)} {l : List (Bs × Int)}, (cS_ ps l).length ≤ l.length + ps.length
  | [], _ => Nat.le_refl _
  | p :: ps, l => by
    have := dU_ (ps := ps) (l := ins p.1 p.2 l)
    have h := iR_ (x := p.1) (y := p.2) (l := l)
    simp only [List.length_cons]
    show (cS_ ps (ins p.1 p.2 l)).length ≤ _
    omega
theorem ins_has {x : Bs} {y : Int} : ∀ {l : List (Bs × Int)}, dB_ l → (x, y) ∈ l → ins x y l = l
  | [], _, h => by cases h
  | (k, v) :: l, ha, h => by
    simp only [ins]
    rcases List.mem_cons.1 h with e | h
    · cases e; rw [if_neg (List.lt_irrefl _), if_pos rfl]
    · have hk := ha.1 _ h
      rw [if_pos hk, ins_has ha.2 h]
theorem gv_ {x : Bs} {y : Int} : ∀ {l : List (Bs × Int)}, (x, y) ∈ ins x y l
  | [] => List.mem_cons_self ..
  | (k, v) :: l => by
    simp only [ins]
    split
    · exact List.mem_cons_of_mem _ gv_
    · split <;> exact List.mem_cons_self ..
theorem mem_ins {x x' : Bs} {y y' : Int} (hne : x ≠ x') : ∀ {l : List (Bs × Int)}, (x, y) ∈ l → (x, y) ∈ ins x' y' l
  | [], h => by cases h
  | (k, v) :: l, h => by
    simp only [ins]
    split
    · rcases List.mem_cons.1 h with e | h
      · exact e ▸ List.mem_cons_self ..
      · exact List.mem_cons_of_mem _ (mem_ins hne h)
    · split
      · rename_i h1 h2
        rcases List.mem_cons.1 h with e | h
        · cases e; exact absurd h2 hne
        · exact List.mem_cons_of_mem _ h
      · exact List.mem_cons_of_mem _ h
def c9_ (l : List Int) : Nat → List Int
  | 0 => []
  | i + 1 => if l.getD i 0 ∈ l.take i then c9_ l i else c9_ l i ++ [l.getD i 0]
theorem gl_ {l : List Int} : ∀ {i : Nat} {c : Int}, i ≤ l.length → (c ∈ c9_ l i ↔ c ∈ l.take i)
  | 0, c, _ => by simp [c9_]
  | i + 1, c, h => by
    simp only [c9_]
    rw [de_ 0 (show i < l.length by omega)]
    split
    · rename_i hm
      rw [gl_ (by omega), List.mem_append, List.mem_singleton]
      exact ⟨.inl, fun h => h.elim id fun e => e ▸ hm⟩
    · rw [List.mem_append, List.mem_append, gl_ (by omega)]
theorem fh_ {l : List Int} : ∀ {i : Nat}, (c9_ l i).length ≤ i
  | 0 => Nat.le_refl _
  | i + 1 => by
    have := fh_ (l := l) (i := i)
    simp only [c9_]
    split
    · omega
    · simp; omega
theorem e1_ {l : List Int} : ∀ {i : Nat}, i ≤ l.length → (c9_ l i).Nodup
  | 0, _ => List.nodup_nil
  | i + 1, h => by
    simp only [c9_]
    split
    · exact e1_ (by omega)
    · rename_i hm
      rw [List.nodup_append]
      refine ⟨e1_ (by omega), by simp, fun a ha b hb => ?_⟩
      rw [List.mem_singleton.1 hb]
      rw [gl_ (by omega)] at ha
      exact fun e => hm (e ▸ ha)
theorem mj_ {r : TRow} {l0 : List (Bs × Int)} {cs : List Int} {c : Int} (h : c ∈ cs) : dv_ r c ∈ cS_ (cs.map (dv_ r)) l0 := by
  induction cs generalizing l0 with
  | nil => cases h
  | cons d cs ih =>
    show dv_ r c ∈ cS_ (cs.map (dv_ r)) (ins (do_ d) (i8_ r d) l0)
    by_cases hc : c ∈ cs
    · exact ih hc
    · have e : c = d := (List.mem_cons.1 h).resolve_right hc
      subst e
      have key : ∀ (es : List Int) (m : List (Bs × Int)), c ∉ es → dv_ r c ∈ m → dv_ r c ∈ cS_ (es.map (dv_ r)) m := by
        intro es
        induction es with
        | nil => exact fun m _ h => h
        | cons e es ih =>
          intro m hn hm
          refine ih _ (fun h => hn (List.mem_cons_of_mem _ h)) (mem_ins (fun h => hn ?_) hm)
          rw [hq_ h]; exact List.mem_cons_self ..
      exact key cs _ hc gv_
theorem fW_ {r : TRow} {l0 : List (Bs × Int)} (h0 : dB_ l0) {l : List Int} : ∀ {i : Nat}, i ≤ l.length → cS_ ((c9_ l i).map (dv_ r)) l0 = cS_ ((l.take i).map (dv_ r)) l0
  | 0, _ => by simp [c9_]
  | i + 1, h => by
    rw [de_ 0 (show i < l.length by omega), List.map_append]
    simp only [c9_]
    have ih := fW_ (r := r) h0 (l := l) (i := i) (by omega)
    have e := eu_ ((l.take i).map (dv_ r)) (dv_ r (l.getD i 0)) l0
    split
    · rename_i hm
      rw [ih]
      refine Eq.symm (e.trans (ins_has (el_ _ h0) (mj_ hm)))
    · rw [List.map_append]
      refine (eu_ _ _ _).trans ?_
      rw [ih]
      exact e.symm
theorem h6_ {x : Bs} {y : Int} : ∀ {ps : List (Bs × Int)} {l : List (Bs × Int)}, (∀ p ∈ ps, p.1 ≠ x) → cS_ ps (ins x y l) = ins x y (cS_ ps l)
  | [], _, _ => rfl
  | p :: ps, l, h => by
    show cS_ ps (ins p.1 p.2 (ins x y l)) = ins x y (cS_ ps (ins p.1 p.2 l))
    rw [lw_ (h p (List.mem_cons_self ..)), h6_ fun q hq => h q (List.mem_cons_of_mem _ hq)]
end Go.Pi
end
section
set_option linter.unusedVariables false
set_option maxRecDepth 100000
set_option linter.unusedSimpArgs false
namespace Go.Pi
theorem l9_ {k x : Bs} {ns : List Bs} : df_ (k :: ns) x = if k < x then df_ ns x + 1 else 0 := by
  by_cases h : k < x
  · have hb : Op.bytesLess k x = true := by rw [eg_]; exact decide_eq_true h
    rw [if_pos h]; unfold df_; rw [List.findIdx_cons]; simp [hb]
  · have hb : Op.bytesLess k x = false := by rw [eg_]; exact decide_eq_false h
    rw [if_neg h]; unfold df_; rw [List.findIdx_cons]; simp [hb]
theorem lS_ {x : Bs} : ∀ {l : List (Bs × Int)}, dB_ l → ∀ h, h < (l.map (·.1)).length → Op.bytesLess ((l.map (·.1)).getD h []) x = decide (h < df_ (l.map (·.1)) x)
  | [], _, h, hh => by simp at hh
  | (k, v) :: l, ha, h, hh => by
    rw [eg_]
    simp only [List.map_cons, l9_]
    cases h with
    | zero =>
      simp only [List.getD_cons_zero]
      by_cases hk : k < x
      · rw [if_pos hk, decide_eq_true hk]; simp
      · rw [if_neg hk, decide_eq_false hk]; simp
    | succ h =>
      have hh' : h < (l.map (·.1)).length := by simpa using hh
      simp only [List.getD_cons_succ]
      by_cases hk : k < x
      · have := lS_ (x := x) ha.2 h hh'
        rw [eg_] at this
        rw [if_pos hk, this]
        simp
      · rw [if_neg hk]
        have hm := b6_ (d := ([] : Bs)) (a := l.map (·.1)) hh'
        obtain ⟨p, hp, e⟩ := List.mem_map.1 hm
        have : ¬ (l.map (·.1)).getD h [] < x := fun h2 => by
          rw [← e] at h2
          exact hk (List.lt_trans (ha.1 p hp) h2)
        rw [decide_eq_false this]; simp
theorem lo_ {ns : List Bs} {x : Bs} (h : x ∉ ns) : eM_ ns x = df_ ns x := by
  unfold eM_
  rw [if_neg]
  rintro ⟨h1, h2⟩
  exact h (h1 ▸ b6_ [] h2)
theorem mc_ {α : Type} (d : α) {l : List α} (h : l.Nodup) {i : Nat} (hi : i < l.length) : l.getD i d ∉ l.take i := fun hm => by
  have := (List.take_sublist (i + 1) l).nodup h
  rw [de_ d hi, List.nodup_append] at this
  exact this.2.2 _ hm _ (List.mem_singleton.2 rfl) rfl
theorem ex_ {α β : Type} (f : α → β) (d : α) (e : β) {l : List α} {i : Nat} (h : i < l.length) : (l.map f).getD i e = f (l.getD i d) := by
  rw [List.getD_eq_getElem?_getD, List.getD_eq_getElem?_getD, List.getElem?_map, List.getElem?_eq_getElem h]; rfl
theorem iT_ {ps : List (Bs × Int)} (hl : ps.length ≤ 2000000) (hnd : (ps.map (·.1)).Nodup) : Ev (fun n _ => bk_ n (ps.map (·.1)) (ps.map (·.2))) (mM_ (cS_ ps [])) := by
  refine aJ_ ?_
  simp only [bk_]
  let S : Nat → List aa_ × List Bs := fun i => ((cS_ (ps.take i) []).map (fun p => gu_ p.2), (cS_ (ps.take i) []).map (·.1))
  have := e2_ S ps.length (fun n N i (s : List aa_ × List Bs) => bk_.loop4 n (fun xy4 xy5 xy6 xy7 xy8 xy9 xy10 xy11 => (some (aa_.mk xy7 xy8 xy9 xy10 xy11))) N (ps.map (·.2)) (ps.map (·.1)) ((ps.map (·.1)).length : Int) (i : Int) 0 0 [] 5 0 [] s.1 s.2) (mM_ (cS_ ps [])) (fun i hi F hF => ?_) ?_
  · exact this
  · obtain ⟨l, hlv⟩ : ∃ l, l = cS_ (ps.take i) [] := ⟨_, rfl⟩
    obtain ⟨p, hp⟩ : ∃ p, p = ps.getD i ([], 0) := ⟨_, rfl⟩
    have e2 : cS_ (ps.take (i + 1)) [] = ins p.1 p.2 l := by rw [de_ ([], 0) hi, eu_, hlv, hp]
    have ha : dB_ l := by rw [hlv]; exact el_ _ trivial
    have hll : l.length ≤ i := by
      have := dU_ (ps := ps.take i) (l := [])
      rw [← hlv] at this; simp at this; omega
    have hi1 : i < (ps.map (·.1)).length := by simpa using hi
    have hi2 : i < (ps.map (·.2)).length := by simpa using hi
    have hx : p.1 ∉ l.map (·.1) := fun hm => by
      obtain ⟨q, hq, e⟩ := List.mem_map.1 hm
      rw [hlv] at hq
      have hq := (ff_ hq).resolve_right (by simp)
      have := mc_ [] hnd hi1
      rw [ex_ (·.1) ([], 0) [] hi, ← hp, ← List.map_take] at this
      exact this (e ▸ List.mem_map_of_mem hq)
    have hps : ((l.map (·.1)).length : Nat) = l.length := by simp
    have hB := hD_ (ns := l.map (·.1)) (x := p.1) (by simp; omega) (lS_ ha)
    have hA : df_ (l.map (·.1)) p.1 ≤ l.length := by have := List.findIdx_le_length (xs := l.map (·.1)) (p := fun y => !Op.bytesLess y p.1); simpa [df_] using this
    have hN : Ev (fun n _ => bq_ n (l.map (·.1)) (df_ (l.map (·.1)) p.1 : Int) [p.1]) ((ins p.1 p.2 l).map (·.1)) := by
      refine aJ_ ?_
      have e := fR_ (fun p => p.1) p.1 p.2 l
      unfold kq_ at e
      rw [lo_ hx] at e
      simp only [bq_, eW_, ay_, ax_, c5_, Int.toNat_natCast, e]
      simp; omega
    have hJ : Ev (fun n _ => bu_ n (l.map fun p => gu_ p.2) (df_ (l.map (·.1)) p.1 : Int) [gu_ p.2]) ((ins p.1 p.2 l).map fun p => gu_ p.2) := by
      refine aJ_ ?_
      have e := fR_ (fun p => gu_ p.2) p.1 p.2 l
      unfold kq_ at e
      rw [lo_ hx] at e
      simp only [bu_, eW_, ay_, ax_, c5_, Int.toNat_natCast, e]
      simp; omega
    have g1 : (ps.map (·.1)).getD i [] = p.1 := by rw [ex_ (·.1) ([], 0) [] hi, hp]
    have g2 : (ps.map (·.2)).getD i 0 = p.2 := by rw [ex_ (·.2) ([], 0) 0 hi, hp]
    simp only [S, e2, ← hlv] at hF ⊢
    unfold gu_ at hJ
    simp only [bk_.turn4, bk_.step4, Int.toNat_natCast, W_up hi1 (show (ps.map (·.1)).length ≤ b5_ by simp [b5_]; omega), c8_ hi1, cQ_ hi1, cQ_ hi2, g1, g2, ay_, bU_, aj_ hB, aj_ hN]
    refine ⟨fun _ => ⟨trivial, trivial, ?_⟩, fun h => (by cases h)⟩
    unfold gu_ at hF ⊢
    simp only [aj_ hJ]
    exact hF
  · have e : ((ps.map (·.1)).length : Int) = (ps.length : Int) := by simp
    simp only [bk_.turn4, bk_.step4, e, cX_, cond_false, ax_, S, List.take_length]
    rfl
end Go.Pi
end
section
set_option linter.unusedVariables false
set_option maxRecDepth 100000
set_option linter.unusedSimpArgs false
namespace Go.Pi
abbrev nmId : Bs := [105, 100]
abbrev jD_ : Bs := [107, 105, 100, 115]
abbrev i64 (x : Int) : Prop := -9223372036854775808 ≤ x ∧ x ≤ 9223372036854775807
def gD_ (q : bi_) (kids : Int) : List (Bs × Int) := cond q.kids [(jD_, kids)] []
def k9_ (q : bi_) (r : TRow) (kids : Int) : List (Bs × Int) := cS_ (gD_ q kids) (ins nmId r.id_ (cS_ (q.show_.map (dv_ r)) []))
def gH_ (q : bi_) (r : TRow) (kids : Int) : aa_ := mM_ (k9_ q r kids)
theorem jM_ {q : bi_} {kids : Int} : (gD_ q kids).length ≤ 1 := by unfold gD_; cases q.kids <;> simp
theorem FRowL_len {q : bi_} {r : TRow} {kids : Int} : (k9_ q r kids).length ≤ q.show_.length + 2 := by
  have h1 := dU_ (ps := q.show_.map (dv_ r)) (l := [])
  have h2 := iR_ (x := nmId) (y := r.id_) (l := cS_ (q.show_.map (dv_ r)) [])
  have h3 := dU_ (ps := gD_ q kids) (l := ins nmId r.id_ (cS_ (q.show_.map (dv_ r)) []))
  have h4 := jM_ (q := q) (kids := kids)
  simp at h1
  unfold k9_; omega
theorem kW_ {c : Int} (h : i64 c) : (do_ c).length ≤ 22 := by
  have := Lib.itoa_length_le c h.1 h.2
  simp only [do_, List.length_cons]; omega
theorem k8_ {q : bi_} {r : TRow} {kids : Int} (hs : ∀ c ∈ q.show_, i64 c) : ∀ p ∈ k9_ q r kids, p.1.length ≤ 22 := fun p hp => by
  rcases ff_ hp with h | h
  · unfold gD_ at h
    cases hq : q.kids <;> rw [hq] at h
    · cases h
    · rw [List.mem_singleton.1 h]; show jD_.length ≤ 22; decide
  · rcases iQ_ h with h | h
    · rw [h]; show nmId.length ≤ 22; decide
    · rcases ff_ h with h | h
      · obtain ⟨c, hc, e⟩ := List.mem_map.1 h
        rw [← e]; exact kW_ (hs c hc)
      · cases h
theorem ke_ {c : Int} : do_ c ≠ nmId := fun h => by cases h
theorem kV_ {c : Int} : do_ c ≠ jD_ := fun h => by cases h
def hk_ (q : bi_) (r : TRow) (kids : Int) : List (Bs × Int) := (nmId, r.id_) :: (c9_ q.show_ q.show_.length).map (dv_ r) ++ gD_ q kids
theorem implL_eq {q : bi_} {r : TRow} {kids : Int} : cS_ (hk_ q r kids) [] = k9_ q r kids := by
  have e : cS_ (hk_ q r kids) [] = cS_ (gD_ q kids) (cS_ ((c9_ q.show_ q.show_.length).map (dv_ r)) (ins nmId r.id_ [])) := by
    show List.foldl _ _ _ = _
    unfold hk_ cS_
    rw [List.foldl_append]; rfl
  rw [e]
  unfold k9_
  rw [h6_ (fun p hp => by obtain ⟨c, _, e⟩ := List.mem_map.1 hp; rw [← e]; exact ke_), fW_ (l0 := []) trivial (Nat.le_refl _), List.take_length]
theorem kI_ {q : bi_} {r : TRow} {kids : Int} : ((hk_ q r kids).map (·.1)).Nodup := by
  have hm : ((c9_ q.show_ q.show_.length).map (dv_ r)).map (·.1) = (c9_ q.show_ q.show_.length).map do_ := by rw [List.map_map]; rfl
  have hc : ((c9_ q.show_ q.show_.length).map do_).Nodup := by
    have := e1_ (l := q.show_) (Nat.le_refl _)
    unfold List.Nodup at this ⊢
    rw [List.pairwise_map]
    exact this.imp fun h e => h (hq_ e)
  unfold hk_
  rw [List.cons_append, List.map_cons, List.nodup_cons, List.map_append, hm, List.nodup_append]
  refine ⟨fun h => ?_, hc, ?_, fun a ha b hb => ?_⟩
  · rcases List.mem_append.1 h with h | h
    · obtain ⟨c, _, e⟩ := List.mem_map.1 h
      exact ke_ e
    · unfold gD_ at h; cases hq : q.kids <;> rw [hq] at h
      · cases h
      · have := List.mem_singleton.1 h
        change nmId = jD_ at this
        revert this; decide
  · unfold gD_; cases q.kids <;> simp
  · obtain ⟨c, _, e⟩ := List.mem_map.1 ha
    unfold gD_ at hb; cases hq : q.kids <;> rw [hq] at hb
    · cases hb
    · have hb := List.mem_singleton.1 hb
      rw [← e, hb]; exact kV_
theorem implL_len {q : bi_} {r : TRow} {kids : Int} : (hk_ q r kids).length ≤ q.show_.length + 2 := by
  have h1 := fh_ (l := q.show_) (i := q.show_.length)
  have h4 := jM_ (q := q) (kids := kids)
  unfold hk_; simp; omega
theorem gN_ {n : Int} : ∀ d, gb_ d (gu_ n)
  | 0 => trivial
  | d + 1 => ⟨⟨Nat.zero_le _, Nat.zero_le _, fun x hx => (by cases hx)⟩, Nat.zero_le _, fun x hx => (by cases hx)⟩
theorem lenJ_obj {l : List (Bs × Int)} (hl : l.length ≤ 2000000) (hn : ∀ p ∈ l, p.1.length ≤ 22) : ∀ d, gb_ d (mM_ l)
  | 0 => trivial
  | d + 1 => ⟨⟨Nat.zero_le _, by simp [mM_, b5_]; omega, fun x hx => by
      obtain ⟨p, hp, e⟩ := List.mem_map.1 hx
      rw [← e]; have := hn p hp; simp only [b5_]; omega⟩, by simp [mM_, b5_]; omega, fun x hx => by
      obtain ⟨p, hp, e⟩ := List.mem_map.1 hx
      rw [← e]; exact gN_ d⟩
theorem iN_ {q : bi_} {r : TRow} {kids : Int} (hq : q.show_.length ≤ 1100000) (hs : ∀ c ∈ q.show_, i64 c) (d : Nat) : gb_ d (gH_ q r kids) :=
  lenJ_obj (by have := FRowL_len (q := q) (r := r) (kids := kids); omega) (k8_ hs) d
end Go.Pi
end
section
set_option linter.unusedVariables false
set_option maxRecDepth 100000
set_option linter.unusedSimpArgs false
namespace Go.Pi
theorem hK_ {x : Int} (h0 : -9223372036854775808 ≤ x) (h1 : x ≤ 9223372036854775807) : Ev (fun n _ => cj_ n x) (Lib.itoa x) := by
  refine aJ_ ?_
  have := Itoa_ev h0 h1
  simp only [cj_, aj_ this, ax_]
end Go.Pi
end
section
set_option linter.unusedVariables false
set_option maxRecDepth 100000
set_option linter.unusedSimpArgs false
namespace Go.Pi
theorem fb_ {l : List Int} {x : Int} (hl : l.length ≤ b5_) : Ev (fun n _ => a9_ n l x) (decide (x ∈ l)) := by
  have h : Ev (fun n _ => au_ n l x) (if l.findIdx (fun y => x == y) < l.length then ((l.findIdx (fun y => x == y) : Nat) : Int) else -1) := by
    refine aJ_ ?_
    rw [← e0_ 0]
    simp only [au_]
    refine ho_ (fun n N i => au_.loop3 n (some (-1)) N l x (l.length : Int) (i : Int)) _ (fun i u hi ih => ?_) ?_
    · simp only [au_.turn3, au_.step3, Int.toNat_natCast, W_up hi hl, ay_, bU_, ax_, dj_ ih, c8_ hi, cQ_ hi]
      clear ih
      cases (x == l.getD i 0) <;> simp
    · simp only [au_.turn3, au_.step3, cX_, cond_false, ax_]
  refine aJ_ ?_
  simp only [a9_, aj_ h, ax_]
  have e : (l.findIdx (fun y => x == y) < l.length) ↔ x ∈ l := by
    rw [List.findIdx_lt_length]; simp
  by_cases hm : x ∈ l
  · rw [if_pos (e.2 hm), decide_eq_true hm, decide_eq_true (by omega)]
  · rw [if_neg (fun h => hm (e.1 h)), decide_eq_false hm]; rfl
theorem kD_ {j : aa_} (h : gb_ 6 j) : Ev (fun n _ => bP_ n j) (c3_ j) := by
  refine aJ_ ?_
  simp only [bP_, cM_, aj_ (eb_ h), ay_, ax_, c3_, mb_]
  cases c6_ j <;> simp
theorem jL_ {x : Int} : Ev (fun n _ => bT_ n x) (gu_ x) := aJ_ (by simp only [bT_, ax_, gu_])
section
variable {q : bi_} {r : TRow} {kids : Int} (hq : q.show_.length ≤ 1100000) (hs : ∀ c ∈ q.show_, i64 c) (hr : r.cells.length ≤ b5_)
include hq hs hr
theorem hG_ : Ev (fun n _ => bc_ n q r kids) (gH_ q r kids) := by
  refine aJ_ ?_
  simp only [bc_]
  let S : Nat → aa_ := fun i => mM_ (cS_ ((q.show_.take i).map (dv_ r)) [])
  have := e2_ S q.show_.length (fun n N i (s : aa_) => bc_.loop4 n (fun xy5 xy6 xy7 xy8 xy9 xy10 xy11 xy12 xy13 xy14 xy15 xy16 xy17 xy18 xy19 xy20 xy21 xy22 xy23 xy24 => ((bT_ n xy15).bind fun xr25 => ((bj_ n (aa_.mk xy20 xy21 xy22 xy23 xy24) [105, 100] (aa_.re xr25)).bind fun xr26 => (cond xy12 ((bT_ n xy5).bind fun xr27 => ((bj_ n (aa_.re xr26) [107, 105, 100, 115] (aa_.re xr27)).bind fun xr28 => (some (aa_.re xr28)))) (some (aa_.re xr26)))))) N kids (i : Int) q.table q.where_ q.order q.down q.first q.show_ q.kids q.kidTable q.kidCol r.id_ r.cells 0 0 [] s.kind s.n_ s.s s.list s.names) (gH_ q r kids) (fun i hi F hF => ?_) ?_
  · exact this
  · have e2 : cS_ ((q.show_.take (i + 1)).map (dv_ r)) [] = ins (do_ (q.show_.getD i 0)) (i8_ r (q.show_.getD i 0)) (cS_ ((q.show_.take i).map (dv_ r)) []) := by
      rw [de_ 0 hi, List.map_append]; exact eu_ _ _ _
    have ha : dB_ (cS_ ((q.show_.take i).map (dv_ r)) []) := el_ _ trivial
    have hll := dU_ (ps := (q.show_.take i).map (dv_ r)) (l := [])
    simp only [S, e2] at hF ⊢
    generalize cS_ ((q.show_.take i).map (dv_ r)) [] = l at hF ha hll ⊢
    have hl2 : l.length ≤ 2000000 := by simp at hll; omega
    have hc := hs _ (b6_ 0 hi)
    have hd := Lib.itoa_length_le _ hc.1 hc.2
    have e0 : TRow.mk r.id_ r.cells = r := rfl
    have e3 : ([99] : Bs) ++ Lib.itoa (q.show_.getD i 0) = do_ (q.show_.getD i 0) := rfl
    simp only [bc_.turn4, bc_.step4, Int.toNat_natCast, W_up hi (show q.show_.length ≤ b5_ by simp only [b5_]; omega), c8_ hi, cQ_ hi, d6_, cM_, e0, e3, ay_, bU_, c5_, aj_ (dl_ hc.1 hc.2), aj_ (hF_ hr), aj_ jL_, aj_ (hd_ ha hl2)]
    simp only [cM_] at hF
    refine ⟨fun _ => ⟨trivial, fun _ => ⟨trivial, hF⟩, fun h => ?_⟩, fun h => (by cases h)⟩
    have h := of_decide_eq_false h
    simp only [List.length_singleton] at h; omega
  · have ha : dB_ (cS_ (q.show_.map (dv_ r)) []) := el_ _ trivial
    have hll := dU_ (ps := q.show_.map (dv_ r)) (l := [])
    have h2 := iR_ (x := nmId) (y := r.id_) (l := cS_ (q.show_.map (dv_ r)) [])
    simp at hll
    simp only [bc_.turn4, bc_.step4, cX_, cond_false, S, List.take_length, d6_, cM_, aj_ jL_, aj_ (hd_ ha (show _ ≤ 2000000 by omega)), aj_ (hd_ (x := jD_) (y := kids) (kG_ (x := nmId) (y := r.id_) ha) (show _ ≤ 2000000 by omega)), ay_, ax_]
    unfold gH_ k9_ gD_
    exact ⟨fun h => by rw [h]; rfl, fun h => by rw [h]; rfl⟩
theorem hL_ : Ev (fun n _ => a4_ n q r kids) (c3_ (gH_ q r kids)) := by
  refine aJ_ ?_
  simp only [a4_]
  have hO : Ev (fun n _ => bk_ n ((hk_ q r kids).map (·.1)) ((hk_ q r kids).map (·.2))) (gH_ q r kids) := by
    have := iT_ (ps := hk_ q r kids) (by have := implL_len (q := q) (r := r) (kids := kids); omega) kI_
    rw [implL_eq] at this; exact this
  have hR := orNull_ev (iN_ (r := r) (kids := kids) hq hs 6)
  have e1 : ∀ i, ((c9_ q.show_ i).map (dv_ r)).map (·.1) = (c9_ q.show_ i).map do_ := fun i => by rw [List.map_map]; rfl
  have e2 : ∀ i, ((c9_ q.show_ i).map (dv_ r)).map (·.2) = (c9_ q.show_ i).map (i8_ r) := fun i => by rw [List.map_map]; rfl
  let S : Nat → List Bs × List Int := fun i => (nmId :: (c9_ q.show_ i).map do_, r.id_ :: (c9_ q.show_ i).map (i8_ r))
  have := e2_ S q.show_.length (fun n N i (s : List Bs × List Int) => a4_.loop4 n (fun xy4 xy5 xy6 xy7 xy8 xy9 xy10 xy11 xy12 xy13 xy14 xy15 xy16 xy17 xy18 => (cond xy11 (cL_ (xy17.length + ([[107, 105, 100, 115]] : List Bs).length) 16 (cL_ (xy18.length + ([xy4] : List Int).length) 8 ((bk_ n (xy17 ++ ([[107, 105, 100, 115]] : List Bs)) (xy18 ++ ([xy4] : List Int))).bind fun xr19 => ((b0_ n (aa_.re xr19)).bind fun xr20 => (some (aa_.re xr20)))))) ((bk_ n xy17 xy18).bind fun xr21 => ((b0_ n (aa_.re xr21)).bind fun xr22 => (some (aa_.re xr22)))))) N kids q.show_ (q.show_.length : Int) (i : Int) q.table q.where_ q.order q.down q.first q.show_ q.kids q.kidTable q.kidCol r.id_ r.cells 0 0 [] s.1 s.2) (c3_ (gH_ q r kids)) (fun i hi F hF => ?_) ?_
  · exact this
  · have hc := hs _ (b6_ 0 hi)
    have hd := Lib.itoa_length_le _ hc.1 hc.2
    have hf := fh_ (l := q.show_) (i := i)
    have e0 : TRow.mk r.id_ r.cells = r := rfl
    have e3 : ([99] : Bs) ++ Lib.itoa (q.show_.getD i 0) = do_ (q.show_.getD i 0) := rfl
    have hI : Ev (fun n _ => a9_ n (q.show_.take i) (q.show_.getD i 0)) (decide (q.show_.getD i 0 ∈ q.show_.take i)) := fb_ (by simp [b5_]; omega)
    simp only [a4_.turn4, a4_.step4, Int.toNat_natCast, W_up hi (show q.show_.length ≤ b5_ by simp only [b5_]; omega), c8_ hi, cQ_ hi, e0, e3, List.drop_zero, ay_, bU_, fy_, c5_, cG_, aj_ hI, aj_ (hK_ hc.1 hc.2), aj_ (cellOf_ev hr)]
    refine ⟨fun _ => ⟨trivial, ⟨by omega, by omega, by omega⟩, fun hm => ?_, fun hm => ⟨fun _ => ⟨by simp [S]; omega, by simp [S]; omega, ?_⟩, fun h => ?_⟩⟩, fun h => (by cases h)⟩
    · have hm := of_decide_eq_true hm
      simp only [S, c9_, if_pos hm] at hF ⊢
      exact hF
    · have hm := of_decide_eq_false hm
      simp only [S, c9_, if_neg hm, List.map_append, List.map_cons, List.map_nil] at hF ⊢
      exact hF
    · have h := of_decide_eq_false h
      simp only [List.length_singleton] at h; omega
  · have hf := fh_ (l := q.show_) (i := q.show_.length)
    simp only [a4_.turn4, a4_.step4, cX_, cond_false, S, cM_, ay_, cG_]
    unfold hk_ gD_ at hO
    refine ⟨fun h => ⟨by simp; omega, by simp; omega, ?_⟩, fun h => ?_⟩
    · rw [h] at hO
      simp only [cond_true, List.cons_append, List.map_cons, List.map_append, e1, e2, List.map_nil] at hO
      simp only [List.cons_append, aj_ hO, aj_ hR, ax_]
    · rw [h] at hO
      simp only [cond_false, List.append_nil, List.map_cons, e1, e2] at hO
      simp only [aj_ hO, aj_ hR, ax_]
end
end Go.Pi
end
section
set_option linter.unusedVariables false
set_option maxRecDepth 100000
set_option linter.unusedSimpArgs false
namespace Go.Pi
theorem ev_allS {α γ : Type} (S : Nat → α) (p : Nat → Bool) (len : Nat) (L : Nat → Nat → Nat → α → Option γ) (v bad : γ)
    (h1 : ∀ i, i < len → ∀ F, (p i = true → Ev (fun n N => L n N (i + 1) (S (i + 1))) F) → (p i = false → F = bad) → Ev (fun n N => L n (N + 1) i (S i)) F)
    (h2 : Ev (fun n N => L n (N + 1) len (S len)) v) : Ev (fun n _ => L n n 0 (S 0)) (cond (gG_ p len) v bad) := by
  have key : ∀ d i, d + i = len → Ev (fun n N => L n N i (S i)) (cond (eh_ p d i) v bad) := by
    intro d
    induction d with
    | zero => intro i hd; obtain rfl : i = len := by omega
              exact b8_ (f := fun n N => L n N i (S i)) h2
    | succ d ih => intro i hd
                   refine b8_ (f := fun n N => L n N i (S i)) (h1 i (by omega) _ (fun hp => ?_) (fun hp => ?_))
                   · have := ih (i + 1) (by omega)
                     simp only [eh_, hp, Bool.true_and]; exact this
                   · simp only [eh_, hp, Bool.false_and, cond_false]
  exact dh_ (f := fun n N => L n N 0 (S 0)) (key len 0 (by omega))
def bF_ (l : List am_) : List Int := l.map (·.key)
def kAt (ks : List Int) (k : Int) : Int := if ks.findIdx (fun y => y == k) < ks.length then ((ks.findIdx (fun y => y == k) : Nat) : Int) else -1
theorem kF_ {ks : List Int} {k : Int} : kAt ks k < 0 ↔ k ∉ ks := by
  have e : (ks.findIdx (fun y => y == k) < ks.length) ↔ k ∈ ks := by rw [List.findIdx_lt_length]; simp
  unfold kAt
  by_cases h : k ∈ ks
  · rw [if_pos (e.2 h)]; simp [h]
  · rw [if_neg (fun h' => h (e.1 h'))]; simp [h]
theorem h4_ {ks : List Int} {k : Int} (h : k ∈ ks) : ∃ p : Nat, kAt ks k = p ∧ p < ks.length ∧ ks.getD p 0 = k := by
  have e : ks.findIdx (fun y => y == k) < ks.length := by rw [List.findIdx_lt_length]; simp [h]
  refine ⟨_, by unfold kAt; rw [if_pos e], e, ?_⟩
  rw [List.getD_eq_getElem?_getD, List.getElem?_eq_getElem e, Option.getD_some]
  have := List.findIdx_getElem (xs := ks) (p := fun y => y == k) (w := e)
  simpa using this
theorem h5_ {ks : List Int} {k : Int} {p : Nat} (h : kAt ks k = p) : p < ks.length ∧ ks.getD p 0 = k := by
  have hm : k ∈ ks := Classical.byContradiction fun hn => by have := kF_.2 hn; omega
  obtain ⟨q, e, h1, h2⟩ := h4_ hm
  have : q = p := by omega
  subst this; exact ⟨h1, h2⟩
theorem d4_ {ks : List Int} {k : Int} (hl : ks.length ≤ b5_) : Ev (fun n _ => bs_ n ks k) (kAt ks k) := by
  refine aJ_ ?_
  unfold kAt
  rw [← e0_ 0]
  simp only [bs_]
  refine ho_ (fun n N i => bs_.loop3 n (some (-1)) N ks k (i : Int)) _ (fun i u hi ih => ?_) ?_
  · simp only [bs_.turn3, bs_.step3, Int.toNat_natCast, W_up hi hl, ay_, bU_, ax_, dj_ ih, c8_ hi, cQ_ hi]
    clear ih
    cases (ks.getD i 0 == k) <;> simp
  · simp only [bs_.turn3, bs_.step3, cX_, cond_false, ax_]
theorem gx_ (k : Int) : ∀ l : List am_, (bF_ l).findIdx (fun y => y == k) = l.findIdx (fun x => x.key == k)
  | [] => rfl
  | x :: l => by
    have ih := gx_ k l
    unfold bF_ at ih ⊢
    simp only [List.map_cons, List.findIdx_cons, ih]
theorem co_ (l : List am_) : (bF_ l).length = l.length := List.length_map _
theorem jN_ (x : am_) : am_.mk x.key x.value = x := rfl
theorem fZ_ {l : List am_} {k : Int} (hl : l.length ≤ b5_) : Ev (fun n _ => cq_ n l k) (kAt (bF_ l) k) := by
  have hf : ∀ x : am_, Ev (fun n _ => bR_ n x k) (x.key == k) := fun x => aJ_ (by simp only [bR_, ax_])
  have h : Ev (fun n _ => ab_ n l k) (kAt (bF_ l) k) := by
    refine aJ_ ?_
    unfold kAt
    rw [gx_, co_, ← e0_ am_.dflt]
    simp only [ab_]
    refine ho_ (fun n N i => ab_.loop3 n (some (-1)) N l k (l.length : Int) (i : Int)) _ (fun i u hi ih => ?_) ?_
    · simp only [ab_.turn3, ab_.step3, cM_, jN_, Int.toNat_natCast, W_up hi hl, ay_, bU_, aj_ (hf _), ax_, dj_ ih, c8_ hi, cQ_ hi]
      clear ih
      cases ((l.getD i am_.dflt).key == k) <;> simp
    · simp only [ab_.turn3, ab_.step3, cX_, cond_false, ax_]
  exact aJ_ (by simp only [cq_, aj_ h, ax_])
def kOk (docs : List aa_) (keys : List Int) : Bool := decide (docs.length = keys.length) && gG_ (fun i => c6_ (docs.getD i aa_.dflt) && !decide (keys.getD i 0 ∈ keys.take i)) docs.length
def gc_ (docs : List aa_) (keys : List Int) (m : Nat) : List am_ := (List.range m).map fun i => am_.mk (keys.getD i 0) (docs.getD i aa_.dflt)
theorem zipK_succ {docs : List aa_} {keys : List Int} {m : Nat} : gc_ docs keys (m + 1) = gc_ docs keys m ++ [am_.mk (keys.getD m 0) (docs.getD m aa_.dflt)] := by
  unfold gc_; rw [List.range_succ, List.map_append]; rfl
theorem dQ_ {docs : List aa_} {keys : List Int} {m : Nat} : (gc_ docs keys m).length = m := by unfold gc_; simp
theorem gJ_ {l : List Int} {i : Nat} {x : Int} (hl : l.length ≤ b5_) : Ev (fun n _ => a9_ n (l.take i) x) (decide (x ∈ l.take i)) := fb_ (by simp; omega)
theorem eX_ {docs : List aa_} {keys : List Int} (hd : docs.length ≤ 2000000) (hJ : ∀ j ∈ docs, gb_ 6 j) : Ev (fun n _ => aW_ n docs keys) (cond (kOk docs keys) (gc_ docs keys docs.length, true) ([], false)) := by
  refine aJ_ ?_
  have ht : docs.length ≤ b5_ := by simp only [b5_]; omega
  simp only [aW_, h2_, ay_, ax_, kOk]
  by_cases hl : docs.length = keys.length
  · rw [decide_eq_true hl, Bool.true_and]
    refine ⟨fun h => (by cases h), fun _ => ?_⟩
    refine ev_allS (fun i => gc_ docs keys i) (fun i => c6_ (docs.getD i aa_.dflt) && !decide (keys.getD i 0 ∈ keys.take i)) docs.length (fun n N i (o : List am_) => aW_.loop7 n (fun xy3 => (some (xy3, true))) N keys docs (docs.length : Int) (i : Int) o) (gc_ docs keys docs.length, true) ([], false) (fun i hi F h1 h2 => ?_) ?_
    · have hk : i < keys.length := by omega
      rw [zipK_succ] at h1
      have hol := dQ_ (docs := docs) (keys := keys) (m := i)
      generalize gc_ docs keys i = o at h1 hol ⊢
      simp only [aW_.turn7, aW_.step7, cM_, Int.toNat_natCast, List.drop_zero, W_up hi ht, c8_ hi, cQ_ hi, cQ_ hk, ay_, bU_, fy_, cG_, aj_ (ef_ (hJ _ (b6_ aa_.dflt hi))), aj_ (gJ_ (l := keys) (i := i) (x := keys.getD i 0) (by omega)), ax_, cond_true]
      cases hj : c6_ (docs.getD i aa_.dflt) with
      | false => rw [hj] at h2; exact ⟨trivial, fun _ => (h2 rfl).symm, fun h => (by cases h)⟩
      | true =>
        rw [hj, Bool.true_and] at h1 h2
        refine ⟨trivial, fun h => (by cases h), fun _ => ⟨⟨by omega, by omega, by omega⟩, trivial, fun hc => ?_, fun hc => ?_⟩⟩
        · exact (h2 (by rw [hc]; rfl)).symm
        · exact ⟨trivial, by simp; omega, h1 (by rw [hc]; rfl)⟩
    · simp only [aW_.turn7, aW_.step7, cX_, cond_false, ax_]
  · rw [decide_eq_false hl, Bool.false_and]
    exact ⟨fun _ => rfl, fun h => (by cases h)⟩
theorem allN_and {p q : Nat → Bool} {len : Nat} : gG_ (fun i => p i && q i) len = (gG_ p len && gG_ q len) := by
  rw [Bool.eq_iff_iff, Bool.and_eq_true, f8_, f8_, f8_]
  exact ⟨fun h => ⟨fun i hi => (Bool.and_eq_true_iff.1 (h i hi)).1, fun i hi => (Bool.and_eq_true_iff.1 (h i hi)).2⟩, fun h i hi => by rw [h.1 i hi, h.2 i hi]; rfl⟩
theorem fn_ {docs : List aa_} {keys : List Int} (hd : docs.length ≤ 2000000) (hk : keys.length ≤ 2000000) (hJ : ∀ j ∈ docs, gb_ 6 j) : Ev (fun n _ => aw_ n keys docs) (kOk docs keys) := by
  refine aJ_ ?_
  have ht : docs.length ≤ b5_ := by simp only [b5_]; omega
  have htk : keys.length ≤ b5_ := by simp only [b5_]; omega
  have e : kOk docs keys = (gG_ (fun i => !decide (keys.getD i 0 ∈ keys.take i)) keys.length && (gG_ (fun i => c6_ (docs.getD i aa_.dflt)) docs.length && ((keys.length : Int) == (docs.length : Int)))) := by
    unfold kOk
    by_cases hl : docs.length = keys.length
    · rw [decide_eq_true hl, allN_and, ← hl]
      simp [Bool.and_comm]
    · rw [decide_eq_false hl]
      have : ((keys.length : Int) == (docs.length : Int)) = false := by rw [beq_eq_false_iff_ne]; omega
      rw [this]; simp
  rw [e]
  simp only [aw_]
  have hin : Ev (fun n _ => aw_.loop11 n (fun xy5 xy6 => (some ((xy5.length : Int) == (xy6.length : Int)))) n keys docs 0) (gG_ (fun i => c6_ (docs.getD i aa_.dflt)) docs.length && ((keys.length : Int) == (docs.length : Int))) := by
    refine d7_ (fun n N i => aw_.loop11 n (fun xy5 xy6 => (some ((xy5.length : Int) == (xy6.length : Int)))) N keys docs (i : Int)) _ (fun i w hi ih => ?_) ?_
    · simp only [aw_.turn11, aw_.step11, cM_, Int.toNat_natCast, W_up hi ht, ay_, bU_, aj_ (eb_ (hJ _ (b6_ aa_.dflt hi))), ax_, dj_ ih, c8_ hi, cQ_ hi]
      cases c6_ (docs.getD i aa_.dflt) <;> simp
    · simp only [aw_.turn11, aw_.step11, cX_, cond_false, ax_]
  refine d7_ (fun n N i => aw_.loop3 n (fun xy2 xy3 => (aw_.loop11 n (fun xy5 xy6 => (some ((xy5.length : Int) == (xy6.length : Int)))) n xy2 xy3 0)) N keys docs (i : Int)) _ (fun i w hi ih => ?_) ?_
  · have hA := d4_ (ks := keys.take i) (k := keys.getD i 0) (by simp; omega)
    have hg : decide (kAt (keys.take i) (keys.getD i 0) ≥ 0) = decide (keys.getD i 0 ∈ keys.take i) := by
      have := kF_ (ks := keys.take i) (k := keys.getD i 0)
      by_cases hm : keys.getD i 0 ∈ keys.take i
      · rw [decide_eq_true hm, decide_eq_true]; exact Int.not_lt.1 fun h => this.1 h hm
      · rw [decide_eq_false hm, decide_eq_false]; intro h; exact absurd (this.2 hm) (by omega)
    simp only [aw_.turn3, aw_.step3, Int.toNat_natCast, List.drop_zero, W_up hi htk, ay_, bU_, fy_, aj_ hA, hg, ax_, dj_ ih, c8_ hi, cQ_ hi]
    cases decide (keys.getD i 0 ∈ keys.take i) <;> simp <;> omega
  · simp only [aw_.turn3, aw_.step3, cX_, cond_false]
    exact hin
end Go.Pi
end
section
set_option linter.unusedVariables false
set_option maxRecDepth 100000
set_option linter.unusedSimpArgs false
namespace Go.Pi
def del {α : Type} (l : List α) (k : Nat) : List α := l.take k ++ l.drop (k + 1)
def ek_ {α : Type} (l : List α) (k : Nat) (x : α) : List α := l.take k ++ [x] ++ l.drop k
def rmOp (k : Nat) : TOp := TOp.mk 2 [Lib.itoa k] (aa_.mk 0 0 [] [] [])
def repOp (k : Nat) (j : aa_) : TOp := TOp.mk 3 [Lib.itoa k] j
def addOp (k : Nat) (j : aa_) : TOp := TOp.mk 1 [Lib.itoa k] j
theorem fA_ {α : Type} {l : List α} {k : Nat} (h : k < l.length) : (del l k).length + 1 = l.length := by
  simp only [del, List.length_append, List.length_take, List.length_drop]; omega
theorem jS_ {α : Type} {l : List α} {k : Nat} {x : α} (h : k ≤ l.length) : (ek_ l k x).length = l.length + 1 := by
  simp only [ek_, List.length_append, List.length_take, List.length_drop, List.length_cons, List.length_nil]; omega
theorem del_mem {α : Type} {l : List α} {k : Nat} {x : α} (h : x ∈ del l k) : x ∈ l := by
  rcases List.mem_append.1 h with h | h
  · exact List.mem_of_mem_take h
  · exact List.mem_of_mem_drop h
theorem jQ_ {α : Type} {l : List α} {k : Nat} {x y : α} (h : y ∈ ek_ l k x) : y = x ∨ y ∈ l := by
  rcases List.mem_append.1 h with h | h
  · rcases List.mem_append.1 h with h | h
    · exact .inr (List.mem_of_mem_take h)
    · exact .inl (List.mem_singleton.1 h)
  · exact .inr (List.mem_of_mem_drop h)
theorem del_map {α β : Type} (f : α → β) (l : List α) (k : Nat) : (del l k).map f = del (l.map f) k := by
  simp only [del, List.map_append, List.map_take, List.map_drop]
theorem jR_ {α β : Type} (f : α → β) (l : List α) (k : Nat) (x : α) : (ek_ l k x).map f = ek_ (l.map f) k (f x) := by
  simp only [ek_, List.map_append, List.map_take, List.map_drop, List.map_cons, List.map_nil]
theorem del_take {α : Type} {l : List α} {k : Nat} (h : k ≤ l.length) : (del l k).take k = l.take k := by
  unfold del
  rw [List.take_append_of_le_length (by simp; omega), List.take_of_length_le (by simp; omega)]
theorem mr_ {α : Type} (d : α) {l m : List α} {k : Nat} (h : l.take (k + 1) = m.take (k + 1)) : l.getD k d = m.getD k d := by
  have := congrArg (fun z => z[k]?) h
  simp only [List.getElem?_take_of_lt (Nat.lt_succ_self k)] at this
  rw [List.getD_eq_getElem?_getD, List.getD_eq_getElem?_getD, this]
theorem jg_ {α : Type} {l m : List α} {k : Nat} (h : l.take (k + 1) = m.take (k + 1)) : l.take k = m.take k := by
  have := congrArg (List.take k) h
  rwa [List.take_take, List.take_take, Nat.min_eq_left (Nat.le_succ k)] at this
theorem it_ {k : Nat} (h : k ≤ 4000000) : Ev (fun n _ => b9_ n (k : Int)) [Lib.itoa k] := aJ_ (by simp only [b9_, aj_ (Itoa_ev (x := (k : Int)) (by omega) (by omega)), ax_])
theorem fa_ {l : List am_} {k : Nat} (h : k < l.length) : Ev (fun n _ => a6_ n l (k : Int) ((k + 1 : Nat) : Int)) (del l k) := by
  refine aJ_ ?_
  simp only [a6_, iK_, ay_, ax_, c5_, Int.toNat_natCast, del]
  refine ⟨fun _ => trivial, fun hc => ?_⟩
  rw [decide_eq_true (show (0 : Int) ≤ (k : Int) by omega), decide_eq_true (show (k : Int) ≤ ((k + 1 : Nat) : Int) by omega), decide_eq_true (show ((k + 1 : Nat) : Int) ≤ (l.length : Int) by omega)] at hc
  cases hc
theorem e7_ {l : List am_} {k : Nat} {x : am_} (h : k ≤ l.length) (hl : l.length ≤ 10000000) : Ev (fun n _ => a5_ n l (k : Int) [x]) (ek_ l k x) := by
  refine aJ_ ?_
  simp only [a5_, eW_, ay_, ax_, c5_, Int.toNat_natCast, ek_]
  refine ⟨fun _ => ⟨fun _ => trivial, fun hc => ?_⟩, fun hc => ?_⟩
  · have hc := of_decide_eq_false hc
    simp only [List.length_cons, List.length_nil] at hc; omega
  · rw [decide_eq_true (show (0 : Int) ≤ (k : Int) by omega), decide_eq_true (show (k : Int) ≤ (l.length : Int) by omega)] at hc
    cases hc
theorem hR_ {ks : List Int} {k : Nat} (h : k < ks.length) (hl : ks.length ≤ 10000000) : Ev (fun n _ => bD_ n ks (k : Int)) (del ks k) := by
  refine aJ_ ?_
  have hw := W_up h (show ks.length ≤ b5_ by simp only [b5_]; omega)
  simp only [bD_, hw, fy_, cG_, ax_, Int.toNat_natCast, List.drop_zero, List.nil_append, List.take_length, del, List.length_nil, List.length_take, List.length_drop]
  repeat' (first | apply And.intro)
  all_goals (first | trivial | rfl | omega)
theorem jP_ {ks : List Int} {k : Nat} {x : Int} (h : k ≤ ks.length) (hl : ks.length ≤ 10000000) : Ev (fun n _ => bM_ n ks (k : Int) x) (ek_ ks k x) := by
  refine aJ_ ?_
  simp only [bM_, fy_, cG_, ax_, Int.toNat_natCast, List.drop_zero, List.nil_append, List.take_length, ek_, List.length_nil, List.length_append, List.length_cons, List.length_take, List.length_drop]
  repeat' (first | apply And.intro)
  all_goals (first | trivial | rfl | omega)
def ju_ (nk : List Int) (old : List am_) : Nat → List am_ → List TOp → List am_ × List TOp
  | 0, l, ops => (l, ops)
  | k + 1, l, ops => if (old.getD k am_.dflt).key ∈ nk then ju_ nk old k l ops else ju_ nk old k (del l k) (ops ++ [rmOp k])
theorem gL_ (nk : List Int) (old : List am_) : ∀ k l ops, ∀ x ∈ (ju_ nk old k l ops).1, x ∈ l
  | 0, l, ops, x, h => h
  | k + 1, l, ops, x, h => by
    simp only [ju_] at h
    split at h
    · exact gL_ nk old k l ops x h
    · exact del_mem (gL_ nk old k (del l k) _ x h)
theorem fO_ (nk : List Int) (old : List am_) : ∀ k l ops, k ≤ l.length → (ju_ nk old k l ops).1.length ≤ l.length ∧ (ju_ nk old k l ops).2.length ≤ ops.length + k
  | 0, l, ops, _ => ⟨Nat.le_refl _, Nat.le_refl _⟩
  | k + 1, l, ops, h => by
    simp only [ju_]
    split
    · have := fO_ nk old k l ops (by omega); omega
    · have hd := fA_ (l := l) (k := k) (by omega)
      have := fO_ nk old k (del l k) (ops ++ [rmOp k]) (by omega)
      simp only [List.length_append, List.length_cons, List.length_nil] at this; omega
theorem dn_ge {k : Nat} : decide ((k : Int) ≥ 0) = true := decide_eq_true (by omega)
theorem dn_eq {k : Nat} : (((k + 1 : Nat) : Int) - 1) = (k : Int) := by omega
theorem neg_dec {ks : List Int} {k : Int} : decide (kAt ks k < 0) = !decide (k ∈ ks) := by
  have := kF_ (ks := ks) (k := k)
  by_cases h : k ∈ ks
  · rw [decide_eq_true h, decide_eq_false (fun h' => this.1 h' h)]; rfl
  · rw [decide_eq_false h, decide_eq_true (this.2 h)]; rfl
theorem kH_ {old now : List am_} (hn : now.length ≤ 2000000) (K : Nat → List am_ → List am_ → List TOp → Option (List TOp)) (F : List TOp) : ∀ k l ops, l.take k = old.take k → k ≤ l.length → l.length ≤ 2000000 → ops.length + k ≤ 2000000 →
    Ev (fun n N => K n (ju_ (bF_ now) old k l ops).1 now (ju_ (bF_ now) old k l ops).2) F → Ev (fun n N => aL_.loop9 n (K n) N ((k : Int) - 1) l now ops) F
  | 0, l, ops, _, _, _, _, hF => by
    refine b8_ ?_
    have e : decide ((((0 : Nat) : Int) - 1) ≥ 0) = false := rfl
    simp only [aL_.turn9, aL_.step9, e, cond_false]
    exact hF
  | k + 1, l, ops, ht, hk, hl, ho, hF => by
    refine b8_ ?_
    have hg := mr_ am_.dflt ht
    have hkl : k < l.length := by omega
    have hA := fZ_ (l := now) (k := (old.getD k am_.dflt).key) (by simp only [b5_]; omega)
    simp only [ju_] at hF
    simp only [aL_.turn9, aL_.step9, dn_ge, dn_eq, cond_true, bU_, cQ_ hkl, Int.toNat_natCast, hg, aj_ hA, neg_dec, ay_, W_dn (i := k) (by simp only [b5_]; omega), aj_ (it_ (k := k) (by omega)), cG_, W_up hkl (show l.length ≤ b5_ by simp only [b5_]; omega), aj_ (fa_ hkl)]
    refine ⟨trivial, fun hc => ?_, fun hc => ?_⟩
    · have hc : ¬ (old.getD k am_.dflt).key ∈ bF_ now := by simpa using hc
      rw [if_neg hc] at hF
      have hd := fA_ hkl
      refine ⟨by simp only [List.length_cons, List.length_nil]; omega, kH_ hn K F k (del l k) _ ?_ (by omega) (by omega) (by simp only [List.length_append, List.length_cons, List.length_nil]; omega) hF⟩
      rw [del_take (by omega)]; exact jg_ ht
    · have hc : (old.getD k am_.dflt).key ∈ bF_ now := by simpa using hc
      rw [if_pos hc] at hF
      exact kH_ hn K F k l ops (jg_ ht) (by omega) hl (by omega) hF
theorem dA_ {l : List am_} {k : Nat} (h : k < l.length) : (bF_ l).getD k 0 = (l.getD k am_.dflt).key := ex_ (fun x : am_ => x.key) am_.dflt 0 h
theorem kt_ {old now : List am_} (hn : now.length ≤ 2000000) (hold : old.length ≤ 2000000) (o t2 : List aa_) (K : Nat → List aa_ → List Int → List aa_ → List Int → List TOp → List Int → Option (List TOp)) (F : List TOp) : ∀ k l ops, k ≤ old.length → k ≤ l.length → l.length ≤ 2000000 → ops.length + k ≤ 2000000 →
    Ev (fun n N => K n o (bF_ old) t2 (bF_ now) (ju_ (bF_ now) old k l ops).2 (bF_ (ju_ (bF_ now) old k l ops).1)) F → Ev (fun n N => as_.loop5 n (K n) N o (bF_ old) t2 (bF_ now) ((k : Int) - 1) ops (bF_ l)) F
  | 0, l, ops, _, _, _, _, hF => by
    refine b8_ ?_
    have e : decide ((((0 : Nat) : Int) - 1) ≥ 0) = false := rfl
    simp only [as_.turn5, as_.step5, e, cond_false]
    exact hF
  | k + 1, l, ops, hko, hk, hl, ho, hF => by
    refine b8_ ?_
    have hko' : k < (bF_ old).length := by rw [co_]; omega
    have hkl : k < l.length := by omega
    have hkl' : k < (bF_ l).length := by rw [co_]; omega
    have hg := dA_ (l := old) (k := k) (by omega)
    have hA := d4_ (ks := bF_ now) (k := (old.getD k am_.dflt).key) (by rw [co_]; simp only [b5_]; omega)
    have hW := hR_ hkl' (by rw [co_]; omega)
    have hm : del (bF_ l) k = bF_ (del l k) := (del_map (fun x : am_ => x.key) l k).symm
    rw [hm] at hW
    simp only [ju_] at hF
    simp only [as_.turn5, as_.step5, dn_ge, dn_eq, cond_true, bU_, cQ_ hko', Int.toNat_natCast, hg, aj_ hA, neg_dec, ay_, W_dn (i := k) (by simp only [b5_]; omega), aj_ (dl_ (x := (k : Int)) (by omega) (by omega)), cG_, aj_ hW]
    refine ⟨trivial, fun hc => ?_, fun hc => ?_⟩
    · have hc : ¬ (old.getD k am_.dflt).key ∈ bF_ now := by simpa using hc
      rw [if_neg hc] at hF
      have hd := fA_ hkl
      exact ⟨by simp only [List.length_cons, List.length_nil]; omega, kt_ hn hold o t2 K F k (del l k) _ (by omega) (by omega) (by omega) (by simp only [List.length_append, List.length_cons, List.length_nil]; omega) hF⟩
    · have hc : (old.getD k am_.dflt).key ∈ bF_ now := by simpa using hc
      rw [if_pos hc] at hF
      exact kt_ hn hold o t2 K F k l ops (by omega) (by omega) hl (by omega) hF
end Go.Pi
end
section
set_option linter.unusedVariables false
set_option maxRecDepth 100000
set_option linter.unusedSimpArgs false
namespace Go.Pi
def d9_ (l : List am_) (i : Nat) (x : am_) : List am_ × List TOp :=
  if kAt (bF_ l) x.key = (i : Int) then (l, cond (dx_ 6 (l.getD i am_.dflt).value x.value) [] [repOp i x.value])
  else if (i : Int) < kAt (bF_ l) x.key then (ek_ (del l (kAt (bF_ l) x.key).toNat) i x, [rmOp (kAt (bF_ l) x.key).toNat, addOp i x.value])
  else (ek_ l i x, [addOp i x.value])
def en_ (now : List am_) (s : List am_ × List TOp) : Nat → List am_ × List TOp
  | 0 => s
  | i + 1 => ((d9_ (en_ now s i).1 i (now.getD i am_.dflt)).1, (en_ now s i).2 ++ (d9_ (en_ now s i).1 i (now.getD i am_.dflt)).2)
theorem jO_ {l : List am_} {k : Int} {i : Nat} (h : (i : Int) < kAt (bF_ l) k) : ∃ p : Nat, kAt (bF_ l) k = p ∧ i < p ∧ p < l.length := by
  obtain ⟨p, hp⟩ : ∃ p : Nat, kAt (bF_ l) k = p := ⟨(kAt (bF_ l) k).toNat, by omega⟩
  have := (h5_ hp).1
  rw [co_] at this
  exact ⟨p, hp, by omega, this⟩
theorem in_ {l : List am_} {i : Nat} {x : am_} (h : i ≤ l.length) : i + 1 ≤ (d9_ l i x).1.length ∧ (d9_ l i x).1.length ≤ l.length + 1 ∧ (d9_ l i x).2.length ≤ 2 := by
  unfold d9_
  by_cases h1 : kAt (bF_ l) x.key = (i : Int)
  · rw [if_pos h1]
    have := (h5_ h1).1
    rw [co_] at this
    refine ⟨by dsimp only; omega, by dsimp only; omega, ?_⟩
    dsimp only
    cases dx_ 6 (l.getD i am_.dflt).value x.value <;> simp
  · rw [if_neg h1]
    by_cases h2 : (i : Int) < kAt (bF_ l) x.key
    · rw [if_pos h2]
      obtain ⟨p, hp, h3, h4⟩ := jO_ h2
      rw [hp, Int.toNat_natCast]
      have := fA_ h4
      have := jS_ (l := del l p) (k := i) (x := x) (by omega)
      exact ⟨by dsimp only; omega, by dsimp only; omega, Nat.le_refl _⟩
    · rw [if_neg h2]
      have := jS_ (l := l) (k := i) (x := x) h
      exact ⟨by dsimp only; omega, by dsimp only; omega, by simp⟩
theorem im_ {l : List am_} {i : Nat} {x y : am_} (h : y ∈ (d9_ l i x).1) : y = x ∨ y ∈ l := by
  unfold d9_ at h
  split at h
  · exact .inr h
  · split at h
    · rcases jQ_ h with h | h
      · exact .inl h
      · exact .inr (del_mem h)
    · exact jQ_ h
theorem e5_ (now : List am_) (s : List am_ × List TOp) : ∀ i, i ≤ (en_ now s i).1.length ∧ (en_ now s i).1.length ≤ s.1.length + i ∧ (en_ now s i).2.length ≤ s.2.length + 2 * i
  | 0 => ⟨Nat.zero_le _, Nat.le_refl _, Nat.le_refl _⟩
  | i + 1 => by
    have h := e5_ now s i
    have k := in_ (x := now.getD i am_.dflt) h.1
    simp only [en_, List.length_append]; omega
def okK (x : am_) : Prop := c6_ x.value = true ∧ gb_ 6 x.value
theorem lV_ {now : List am_} {s : List am_ × List TOp} (hn : ∀ x ∈ now, okK x) (hs : ∀ x ∈ s.1, okK x) : ∀ i, i ≤ now.length → ∀ x ∈ (en_ now s i).1, okK x
  | 0, _, x, h => hs x h
  | i + 1, hi, x, h => by
    rcases im_ h with h | h
    · rw [h]; exact hn _ (b6_ am_.dflt (by omega))
    · exact lV_ hn hs i (by omega) x h
theorem fd_ {x : am_} (h : okK x) : cO_ 6 x.value ≤ 400 := of_decide_eq_true h.1
theorem impl_add {now : List am_} {s : List am_ × List TOp} (hnl : now.length ≤ 2000000) (hsl : s.1.length ≤ 2000000) (hol : s.2.length ≤ 2000000) (hn : ∀ x ∈ now, okK x) (hs : ∀ x ∈ s.1, okK x) :
    Ev (fun n _ => aL_.loop17 n (fun xy21 => (some xy21)) n (now.length : Int) 0 s.1 s.2 now) (en_ now s now.length).2 := by
  refine e2_ (en_ now s) now.length (fun n N i (z : List am_ × List TOp) => aL_.loop17 n (fun xy21 => (some xy21)) N (now.length : Int) (i : Int) z.1 z.2 now) _ (fun i hi F hF => ?_) ?_
  · have hL := e5_ now s i
    have hO := lV_ hn hs i (by omega)
    simp only [en_] at hF
    obtain ⟨x, hx⟩ : ∃ x, x = now.getD i am_.dflt := ⟨_, rfl⟩
    have hxo : okK x := by rw [hx]; exact hn _ (b6_ am_.dflt hi)
    rw [← hx] at hF
    generalize en_ now s i = z at hF hL hO ⊢
    obtain ⟨l, ops⟩ := z
    dsimp only at hF hL hO ⊢
    have hA := fZ_ (l := l) (k := x.key) (by simp only [b5_]; omega)
    have hC := dM_ 6 x.value (fd_ hxo)
    have hWi := it_ (k := i) (by omega)
    simp only [aL_.turn17, aL_.step17, cM_, jN_, Int.toNat_natCast, ← hx, W_up hi (show now.length ≤ b5_ by simp only [b5_]; omega), c8_ hi, cQ_ hi, cond_true, bU_, aj_ hA]
    refine ⟨trivial, ?_⟩
    unfold d9_ at hF
    by_cases h1 : kAt (bF_ l) x.key = (i : Int)
    · rw [if_pos h1] at hF
      have hil := (h5_ h1).1
      rw [co_] at hil
      have ho := hO _ (b6_ am_.dflt hil)
      have hK := f0_ 6 (l.getD i am_.dflt).value x.value (gp_ 6 _ (fd_ ho)) ho.2
      simp only [h1, beq_self_eq_true, cond_true, bU_, cQ_ hil, Int.toNat_natCast, aj_ hK, ay_, aj_ hWi, aj_ hC, cG_]
      refine ⟨trivial, fun hc => ?_, fun hc => ?_⟩
      · have hc : dx_ 6 (l.getD i am_.dflt).value x.value = false := by simpa using hc
        rw [hc] at hF
        exact ⟨by simp only [List.length_cons, List.length_nil]; omega, hF⟩
      · have hc : dx_ 6 (l.getD i am_.dflt).value x.value = true := by simpa using hc
        rw [hc] at hF
        simp only [cond_true, List.append_nil] at hF
        exact hF
    · rw [if_neg h1] at hF
      have hne : (kAt (bF_ l) x.key == (i : Int)) = false := beq_eq_false_iff_ne.2 h1
      by_cases h2 : (i : Int) < kAt (bF_ l) x.key
      · rw [if_pos h2] at hF
        obtain ⟨p, hp, h3, h4⟩ := jO_ h2
        rw [hp, Int.toNat_natCast] at hF
        rw [hp] at h2 hne
        have hdl := fA_ h4
        have hI := e7_ (l := del l p) (k := i) (x := x) (by omega) (by omega)
        simp only [hp, hne, decide_eq_true (show (p : Int) > (i : Int) by omega), cond_true, cond_false, aj_ (it_ (k := p) (by omega)), cG_, W_up h4 (show l.length ≤ b5_ by simp only [b5_]; omega), aj_ (fa_ h4), aj_ hWi, aj_ hC, aj_ hI]
        refine ⟨by simp only [List.length_cons, List.length_nil]; omega, by simp only [List.length_append, List.length_cons, List.length_nil]; omega, ?_⟩
        rw [List.append_assoc]
        exact hF
      · rw [if_neg h2] at hF
        have hI := e7_ (l := l) (k := i) (x := x) (by omega) (by omega)
        simp only [hne, decide_eq_false (show ¬ kAt (bF_ l) x.key > (i : Int) from h2), cond_false, aj_ hWi, aj_ hC, cG_, aj_ hI]
        exact ⟨by simp only [List.length_cons, List.length_nil]; omega, hF⟩
  · simp only [aL_.turn17, aL_.step17, cX_, cond_false, ax_]
structure AddInv (old now : List am_) (l : List am_) (i : Nat) : Prop where
  len : i ≤ l.length
  front : ∀ j, j < i → (l.getD j am_.dflt).key = (now.getD j am_.dflt).key
  from_ : ∀ x ∈ l, x ∈ old ∨ ∃ j, j < i ∧ x.key = (now.getD j am_.dflt).key
def i0_ (now : List am_) : Prop := ∀ i j, i < j → j < now.length → (now.getD i am_.dflt).key ≠ (now.getD j am_.dflt).key
theorem j3_ {α : Type} (d : α) {a b : List α} {j : Nat} (h : j < a.length) : (a ++ b).getD j d = a.getD j d := by
  rw [List.getD_eq_getElem?_getD, List.getD_eq_getElem?_getD, List.getElem?_append_left h]
theorem hf_ {l : List am_} {i j : Nat} {x : am_} (hi : i ≤ l.length) (h : j < i) : (ek_ l i x).getD j am_.dflt = l.getD j am_.dflt := by
  have hl : (l.take i).length = i := by simp; omega
  unfold ek_
  rw [List.append_assoc, j3_ _ (by omega), List.getD_eq_getElem?_getD, List.getD_eq_getElem?_getD, List.getElem?_take_of_lt h]
theorem lx_ {l : List am_} {i : Nat} {x : am_} (hi : i ≤ l.length) : (ek_ l i x).getD i am_.dflt = x := by
  have hl : (l.take i).length = i := by simp; omega
  unfold ek_
  rw [List.append_assoc, List.getD_eq_getElem?_getD, List.getElem?_append_right (by omega), hl, Nat.sub_self]; rfl
theorem del_front {l : List am_} {p j : Nat} (hp : p ≤ l.length) (h : j < p) : (del l p).getD j am_.dflt = l.getD j am_.dflt := by
  have hl : (l.take p).length = p := by simp; omega
  unfold del
  rw [j3_ _ (by omega), List.getD_eq_getElem?_getD, List.getD_eq_getElem?_getD, List.getElem?_take_of_lt h]
theorem k3_ {old now l : List am_} {i : Nat} (h : AddInv old now l i) (hi : i < now.length) : AddInv old now (d9_ l i (now.getD i am_.dflt)).1 (i + 1) := by
  refine ⟨(in_ h.len).1, fun j hj => ?_, fun x hx => ?_⟩
  · unfold d9_
    by_cases h1 : kAt (bF_ l) (now.getD i am_.dflt).key = (i : Int)
    · rw [if_pos h1]
      by_cases e : j = i
      · subst e
        obtain ⟨a, b⟩ := h5_ h1
        rw [co_] at a
        rw [← b, dA_ a]
      · exact h.front j (by omega)
    · rw [if_neg h1]
      by_cases h2 : (i : Int) < kAt (bF_ l) (now.getD i am_.dflt).key
      · rw [if_pos h2]
        obtain ⟨p, hp, h3, h4⟩ := jO_ h2
        rw [hp, Int.toNat_natCast]
        have hdl := fA_ h4
        by_cases e : j = i
        · subst e; rw [lx_ (by omega)]
        · rw [hf_ (by omega) (by omega), del_front (by omega) (by omega)]; exact h.front j (by omega)
      · rw [if_neg h2]
        by_cases e : j = i
        · subst e; rw [lx_ h.len]
        · rw [hf_ h.len (by omega)]; exact h.front j (by omega)
  · rcases im_ hx with e | hx
    · exact .inr ⟨i, by omega, by rw [e]⟩
    · rcases h.from_ x hx with h' | ⟨j, hj, e⟩
      · exact .inl h'
      · exact .inr ⟨j, by omega, e⟩
theorem io_ {old now : List am_} {s : List am_ × List TOp} (h0 : ∀ x ∈ s.1, x ∈ old) : ∀ i, i ≤ now.length → AddInv old now (en_ now s i).1 i
  | 0, _ => ⟨Nat.zero_le _, fun j hj => by omega, fun x hx => .inl (h0 x hx)⟩
  | i + 1, hi => k3_ (io_ h0 i (by omega)) (by omega)
theorem gV_ {l : List am_} {k : Nat} (h : k < l.length) : (l.map (·.value)).getD k aa_.dflt = (l.getD k am_.dflt).value := ex_ (fun x : am_ => x.value) am_.dflt aa_.dflt h
theorem spec_add {old now : List am_} {s : List am_ × List TOp} (hnl : now.length ≤ 2000000) (hold : old.length ≤ 2000000) (hsl : s.1.length ≤ 2000000) (hol : s.2.length ≤ 2000000) (hn : ∀ x ∈ now, okK x) (ho : ∀ x ∈ old, okK x) (h0 : ∀ x ∈ s.1, x ∈ old)
    (hd : i0_ now) (hod : ∀ x ∈ old, ∀ y ∈ old, x.key = y.key → x = y) :
    Ev (fun n _ => as_.loop13 n (fun xy21 => (some xy21)) n (old.map (·.value)) (bF_ old) (now.map (·.value)) (bF_ now) 0 s.2 (bF_ s.1)) (en_ now s now.length).2 := by
  refine e2_ (en_ now s) now.length (fun n N i (z : List am_ × List TOp) => as_.loop13 n (fun xy21 => (some xy21)) N (old.map (·.value)) (bF_ old) (now.map (·.value)) (bF_ now) (i : Int) z.2 (bF_ z.1)) _ (fun i hi F hF => ?_) ?_
  · have hL := e5_ now s i
    have hI := io_ (now := now) h0 i (by omega)
    simp only [en_] at hF
    obtain ⟨x, hx⟩ : ∃ x, x = now.getD i am_.dflt := ⟨_, rfl⟩
    have hxo : okK x := by rw [hx]; exact hn _ (b6_ am_.dflt hi)
    have hik : i < (bF_ now).length := by rw [co_]; exact hi
    have hiv : i < (now.map (·.value)).length := by simpa using hi
    have hkey : (bF_ now).getD i 0 = x.key := by rw [dA_ hi, hx]
    have hval : (now.map (·.value)).getD i aa_.dflt = x.value := by rw [gV_ hi, hx]
    rw [← hx] at hF
    generalize en_ now s i = z at hF hL hI ⊢
    obtain ⟨l, ops⟩ := z
    dsimp only at hF hL hI ⊢
    have hA := d4_ (ks := bF_ l) (k := x.key) (by rw [co_]; simp only [b5_]; omega)
    have hC := ea_ 6 x.value (fd_ hxo)
    have hWi := dl_ (x := (i : Int)) (by omega) (by omega)
    simp only [as_.turn13, as_.step13, cM_, Int.toNat_natCast, hkey, hval, W_up hik (show (bF_ now).length ≤ b5_ by rw [co_]; simp only [b5_]; omega), c8_ hik, cQ_ hik, cQ_ hiv, cond_true, bU_, aj_ hA, aj_ hWi]
    refine ⟨trivial, ?_⟩
    unfold d9_ at hF
    by_cases h1 : kAt (bF_ l) x.key = (i : Int)
    · rw [if_pos h1] at hF
      obtain ⟨hil, hke⟩ := h5_ h1
      rw [co_] at hil
      rw [dA_ hil] at hke
      have hmem : l.getD i am_.dflt ∈ old := by
        rcases hI.from_ _ (b6_ am_.dflt hil) with h' | ⟨j, hj, e⟩
        · exact h'
        · exact absurd (by rw [← e, hke, hx]) (hd j i hj hi)
      have hin : x.key ∈ bF_ old := List.mem_map.2 ⟨_, hmem, hke⟩
      obtain ⟨q, hq, hql, hqk⟩ := h4_ hin
      have hqo : q < old.length := by rwa [co_] at hql
      have hqe : old.getD q am_.dflt = l.getD i am_.dflt := hod _ (b6_ am_.dflt hqo) _ hmem (by rw [← dA_ hqo, hqk, hke])
      have hqv : (old.map (·.value)).getD q aa_.dflt = (l.getD i am_.dflt).value := by rw [gV_ hqo, hqe]
      have hqi : q < (old.map (·.value)).length := by simpa using hqo
      have hB := d4_ (ks := bF_ old) (k := x.key) (by rw [co_]; simp only [b5_]; omega)
      rw [hq] at hB
      have hoo := ho _ hmem
      have hK := fp_ 6 (l.getD i am_.dflt).value x.value (gp_ 6 _ (fd_ hoo)) hoo.2
      simp only [h1, beq_self_eq_true, cond_true, bU_, aj_ hB, cQ_ hqi, cQ_ hik, cQ_ hiv, Int.toNat_natCast, hqv, aj_ hK, ay_, aj_ hC, cG_]
      refine ⟨trivial, trivial, trivial, fun hc => ?_, fun hc => ?_⟩
      · have hc : dx_ 6 (l.getD i am_.dflt).value x.value = false := by simpa using hc
        rw [hc] at hF
        exact ⟨trivial, by simp only [List.length_cons, List.length_nil]; omega, hF⟩
      · have hc : dx_ 6 (l.getD i am_.dflt).value x.value = true := by simpa using hc
        rw [hc] at hF
        simp only [cond_true, List.append_nil] at hF
        exact hF
    · rw [if_neg h1] at hF
      have hne : (kAt (bF_ l) x.key == (i : Int)) = false := beq_eq_false_iff_ne.2 h1
      by_cases h2 : (i : Int) < kAt (bF_ l) x.key
      · rw [if_pos h2] at hF
        obtain ⟨p, hp, h3, h4⟩ := jO_ h2
        rw [hp, Int.toNat_natCast] at hF
        rw [hp] at h2 hne
        have hdl := fA_ h4
        have hpk : p < (bF_ l).length := by rw [co_]; exact h4
        have hW := hR_ hpk (by rw [co_]; omega)
        have hm : del (bF_ l) p = bF_ (del l p) := (del_map (fun x : am_ => x.key) l p).symm
        rw [hm] at hW
        have hN := jP_ (ks := bF_ (del l p)) (k := i) (x := x.key) (by rw [co_]; omega) (by rw [co_]; omega)
        have hm2 : ek_ (bF_ (del l p)) i x.key = bF_ (ek_ (del l p) i x) := (jR_ (fun x : am_ => x.key) (del l p) i x).symm
        rw [hm2] at hN
        simp only [hp, hne, decide_eq_true (show (p : Int) ≥ 0 by omega), cond_true, cond_false, aj_ (dl_ (x := (p : Int)) (by omega) (by omega)), cG_, aj_ hW, bU_, cQ_ hik, cQ_ hiv, aj_ hC, aj_ hN]
        refine ⟨by simp only [List.length_cons, List.length_nil]; omega, trivial, by simp only [List.length_append, List.length_cons, List.length_nil]; omega, trivial, ?_⟩
        rw [List.append_assoc]
        exact hF
      · rw [if_neg h2] at hF
        have hlt : kAt (bF_ l) x.key < 0 := Classical.byContradiction fun hc => by
          obtain ⟨q, hq⟩ : ∃ q : Nat, kAt (bF_ l) x.key = q := ⟨(kAt (bF_ l) x.key).toNat, by omega⟩
          have hqi : q < i := by omega
          obtain ⟨a, b⟩ := h5_ hq
          rw [co_] at a
          rw [dA_ a, hI.front q hqi, hx] at b
          exact hd q i hqi hi b
        have hN := jP_ (ks := bF_ l) (k := i) (x := x.key) (by rw [co_]; omega) (by rw [co_]; omega)
        have hm2 : ek_ (bF_ l) i x.key = bF_ (ek_ l i x) := (jR_ (fun x : am_ => x.key) l i x).symm
        rw [hm2] at hN
        simp only [hne, decide_eq_false (show ¬ kAt (bF_ l) x.key ≥ 0 by omega), cond_false, bU_, cQ_ hik, cQ_ hiv, aj_ hC, cG_, aj_ hN]
        exact ⟨trivial, by simp only [List.length_cons, List.length_nil]; omega, trivial, hF⟩
  · have e : ((bF_ now).length : Int) = (now.length : Int) := by rw [co_]
    simp only [as_.turn13, as_.step13, e, cX_, cond_false, ax_]
end Go.Pi
end
section
set_option linter.unusedVariables false
set_option maxRecDepth 100000
set_option linter.unusedSimpArgs false
namespace Go.Pi
def e8_ (kids : List TKid) (id : Int) : Int := ey_ (fun i x => cond ((kids.getD i TKid.dflt).id_ == id) (kids.getD i TKid.dflt).n_ x) 0 kids.length 0
theorem hH_ {v : bB_} {id : Int} (h : v.kids.length ≤ b5_) : Ev (fun n _ => bd_ n v id) (e8_ v.kids id) := by
  refine aJ_ ?_
  simp only [bd_]
  refine ho_ (fun n N i => bd_.loop3 n (some 0) N id (i : Int) v.q.table v.q.where_ v.q.order v.q.down v.q.first v.q.show_ v.q.kids v.q.kidTable v.q.kidCol v.rows v.kids) _ (fun i u hi ih => ?_) ?_
  · simp only [bd_.turn3, bd_.step3, Int.toNat_natCast, W_up hi h, ay_, bU_, ax_, dj_ ih, c8_ hi, cQ_ hi]
    cases ((v.kids.getD i TKid.dflt).id_ == id) <;> simp
  · simp only [bd_.turn3, bd_.step3, cX_, cond_false, ax_]
theorem hM_ {v : bB_} {id : Int} (h : v.kids.length ≤ b5_) : Ev (fun n _ => bg_ n v id) (e8_ v.kids id) := by
  refine aJ_ ?_
  simp only [bg_]
  refine ho_ (fun n N i => bg_.loop3 n (some 0) N id v.kids (v.kids.length : Int) (i : Int)) _ (fun i u hi ih => ?_) ?_
  · simp only [bg_.turn3, bg_.step3, Int.toNat_natCast, W_up hi h, ay_, bU_, ax_, dj_ ih, c8_ hi, cQ_ hi]
    cases ((v.kids.getD i TKid.dflt).id_ == id) <;> simp
  · simp only [bg_.turn3, bg_.step3, cX_, cond_false, ax_]
def dP_ (v : bB_) : List Int := v.rows.map fun r => e8_ v.kids r.id_
theorem view_eta (v : bB_) : bB_.mk (bi_.mk v.q.table v.q.where_ v.q.order v.q.down v.q.first v.q.show_ v.q.kids v.q.kidTable v.q.kidCol) v.rows v.kids = v := rfl
theorem fY_ {v : bB_} (h : v.kids.length ≤ b5_) (hr : v.rows.length ≤ capR) : Ev (fun n _ => az_ n v) (dP_ v) := by
  refine aJ_ ?_
  have hl := hr
  simp only [capR] at hl
  simp only [az_]
  refine ev_map TRow.dflt v.rows (fun r => e8_ v.kids r.id_) (fun n N i s => az_.loop4 n (fun xy2 => (some xy2)) N v.rows (v.rows.length : Int) (i : Int) v.q.table v.q.where_ v.q.order v.q.down v.q.first v.q.show_ v.q.kids v.q.kidTable v.q.kidCol v.rows v.kids s) (dP_ v) (fun i s hi hs F hF => ?_) ?_
  · simp only [az_.turn4, az_.step4, view_eta, Int.toNat_natCast, W_up hi (show v.rows.length ≤ b5_ by simp only [b5_]; omega), ay_, bU_, aj_ (hM_ (v := v) (id := (v.rows.getD i TRow.dflt).id_) h), cG_, c8_ hi, cQ_ hi]
    exact ⟨fun _ => ⟨trivial, by simp; omega, hF⟩, fun h => by cases h⟩
  · simp only [az_.turn4, az_.step4, cX_, cond_false, ax_]; rfl
def e9_ (q : bi_) (n : Nat) : Nat := if q.first = 0 then n else min n q.first.toNat
theorem hj_ {q : bi_} {n : Nat} : Ev (fun m _ => bX_ m q (n : Int)) (e9_ q n : Int) := by
  refine aJ_ ?_
  simp only [bX_, ay_, ax_, e9_]
  refine ⟨fun h => by rw [if_pos (by simpa using h)], fun h => ?_⟩
  rw [if_neg (by simpa using h)]
  by_cases h1 : (0 : Int) > q.first
  · rw [decide_eq_true h1, cond_true]
    rw [decide_eq_false (by omega), cond_false]; omega
  · rw [decide_eq_false h1, cond_false]
    by_cases h2 : (n : Int) < q.first
    · rw [decide_eq_true h2, cond_true]; omega
    · rw [decide_eq_false h2, cond_false]; omega
theorem eI_ {q : bi_} {n : Nat} : Ev (fun m _ => bQ_ m q (n : Int)) (e9_ q n : Int) := by
  refine aJ_ ?_
  have hmin : ∀ a b : Int, Ev (fun m _ => cs_ m a b) (min a b) := fun a b => aJ_ (by simp only [cs_, ay_, ax_, decide_eq_true_eq, decide_eq_false_iff_not]; constructor <;> intro h <;> omega)
  have hmax : ∀ a b : Int, Ev (fun m _ => ct_ m a b) (max a b) := fun a b => aJ_ (by simp only [ct_, ay_, ax_, decide_eq_true_eq, decide_eq_false_iff_not]; constructor <;> intro h <;> omega)
  simp only [bQ_, ay_, ax_, aj_ (hmin _ _), aj_ (hmax _ _), e9_]
  refine ⟨fun h => by rw [if_pos (by simpa using h)], fun h => ?_⟩
  rw [if_neg (by simpa using h)]
  omega
end Go.Pi
end
section
set_option linter.unusedVariables false
set_option maxRecDepth 100000
set_option linter.unusedSimpArgs false
namespace Go.Pi
def gI_ (g : aa_ → aa_) (q : bi_) (rows : List TRow) (kids : List Int) (m : Nat) : List aa_ := (List.range m).map fun i => g (gH_ q (rows.getD i TRow.dflt) (kids.getD i 0))
theorem is_ {g : aa_ → aa_} {q : bi_} {rows : List TRow} {kids : List Int} {m : Nat} : gI_ g q rows kids (m + 1) = gI_ g q rows kids m ++ [g (gH_ q (rows.getD m TRow.dflt) (kids.getD m 0))] := by
  unfold gI_; rw [List.range_succ, List.map_append]; rfl
theorem ga_ {g : aa_ → aa_} {q : bi_} {rows : List TRow} {kids : List Int} {m : Nat} : (gI_ g q rows kids m).length = m := by unfold gI_; simp
abbrev nmCount : Bs := [99, 111, 117, 110, 116]
abbrev eV_ : Bs := [114, 111, 119, 115]
theorem kn_ {q : bi_} {n : Nat} : e9_ q n ≤ n := by unfold e9_; split <;> omega
section
variable {q : bi_} {rows : List TRow} {kids : List Int} (hq : q.show_.length ≤ 1100000) (hs : ∀ c ∈ q.show_, i64 c) (hr : lenR b5_ rows) (hl : rows.length ≤ 2000000)
include hq hs hr hl
theorem hh_ (hk : kids.length ≤ b5_) : Ev (fun n _ => aV_ n q rows kids) (gI_ c3_ q rows kids (e9_ q rows.length)) := by
  refine aJ_ ?_
  have hF := kn_ (q := q) (n := rows.length)
  simp only [aV_, aj_ hj_, fy_, Int.toNat_natCast, List.drop_zero]
  refine ⟨⟨by omega, by omega, by omega⟩, ?_⟩
  have eq0 : bi_.mk q.table q.where_ q.order q.down q.first q.show_ q.kids q.kidTable q.kidCol = q := rfl
  generalize hm : e9_ q rows.length = m at hF
  have hml : (rows.take m).length = m := by simp; omega
  have := e2_ (gI_ c3_ q rows kids) m (fun n N i (s : List aa_) => aV_.loop4 n (fun xy4 => (some xy4)) N kids (rows.take m) ((rows.take m).length : Int) (i : Int) q.table q.where_ q.order q.down q.first q.show_ q.kids q.kidTable q.kidCol s) (gI_ c3_ q rows kids m) (fun i hi F hF' => ?_) ?_
  · exact this
  · have hR : ∀ k, Ev (fun n _ => a4_ n q (rows.getD i TRow.dflt) k) (c3_ (gH_ q (rows.getD i TRow.dflt) k)) := fun k => hL_ hq hs (ia_ hr i)
    rw [is_] at hF'
    have hlen := ga_ (g := c3_) (q := q) (rows := rows) (kids := kids) (m := i)
    generalize gI_ c3_ q rows kids i = s at hF' hlen
    have hil : i < (rows.take m).length := by omega
    have eg : (rows.take m).getD i TRow.dflt = rows.getD i TRow.dflt := by rw [List.getD_eq_getElem?_getD, List.getD_eq_getElem?_getD, List.getElem?_take_of_lt hi]
    simp only [aV_.turn4, aV_.step4, eq0, Int.toNat_natCast, cM_, eg, W_up hil (show (rows.take m).length ≤ b5_ by simp only [b5_]; omega), c8_ hil, cQ_ hil, aj_ (hR _), cond_true, ay_, bU_, cG_]
    refine ⟨trivial, fun h => ⟨⟨by omega, by have := of_decide_eq_true h; omega⟩, by simp; omega, hF'⟩, fun h => ⟨by simp; omega, ?_⟩⟩
    have h := of_decide_eq_false h
    have e : kids.getD i 0 = 0 := by rw [List.getD_eq_getElem?_getD, List.getElem?_eq_none (by omega)]; rfl
    rw [e] at hF'; exact hF'
  · have e : (((rows.take m).length : Nat) : Int) = (m : Int) := by rw [hml]
    simp only [aV_.turn4, aV_.step4, e, cX_, cond_false, ax_]
end
end Go.Pi
end
section
set_option linter.unusedVariables false
set_option maxRecDepth 100000
set_option linter.unusedSimpArgs false
namespace Go.Pi
theorem lc_ {v : bB_} : (dP_ v).length = v.rows.length := by unfold dP_; simp
theorem lenR.top {r : List TRow} (h : lenR cap r) : lenR b5_ r := ⟨Nat.le_trans h.1 (by decide), fun x hx => Nat.le_trans (h.2 x hx) (by decide)⟩
section
variable {v : bB_} (h : lenV cap v) (hs : ∀ c ∈ v.q.show_, i64 c)
include h hs
end
end Go.Pi
end
section
set_option linter.unusedVariables false
set_option maxRecDepth 100000
set_option linter.unusedSimpArgs false
namespace Go.Pi
def sameC (x y : aO_) : Bool := cond (x.col == y.col) (cond (x.op == y.op) (cond (x.v == y.v) true false) false) false
def fE_ (a b : List aO_) : Bool := decide (a.length = b.length) && gG_ (fun i => sameC (a.getD i aO_.dflt) (b.getD i aO_.dflt)) a.length
def hB_ (a b : List Int) : Bool := decide (a.length = b.length) && gG_ (fun i => a.getD i 0 == b.getD i 0) a.length
def eE_ (a b : bi_) : Bool := (a.table == b.table) && (fE_ a.where_ b.where_ && ((a.order == b.order) && ((a.down == b.down) && ((a.first == b.first) && (hB_ a.show_ b.show_ && ((a.kids == b.kids) && ((a.kidTable == b.kidTable) && (a.kidCol == b.kidCol))))))))
theorem lr_ {n m : Nat} {p : Nat → Bool} : (gG_ p (min n m) && decide (n = m)) = (decide (n = m) && gG_ p n) := by
  by_cases h : n = m
  · subst h; simp [Nat.min_self, Bool.and_comm]
  · simp [h]
theorem gZ_ {a b : List aO_} (ha : a.length ≤ b5_) : Ev (fun n _ => aY_ n a b) (fE_ a b) := by
  refine aJ_ ?_
  simp only [aY_]
  refine dS_ (d7_ (fun n N i => aY_.loop3 n (fun x y => some ((x.length : Int) == (y.length : Int))) N a b (i : Int)) (fun i => sameC (a.getD i aO_.dflt) (b.getD i aO_.dflt)) (len := min a.length b.length) (v := decide (a.length = b.length)) (fun i u hi ih => ?_) ?_) lr_
  · have h1 : i < a.length := by omega
    have h2 : i < b.length := by omega
    simp only [aY_.turn3, aY_.step3, Int.toNat_natCast, W_up h1 ha, ay_, bU_, ax_, dj_ ih, c8_ h1, cQ_ h1, c8_ h2, cQ_ h2]
    clear ih
    simp only [sameC]
    generalize (cond ((a.getD i aO_.dflt).col == (b.getD i aO_.dflt).col) (cond ((a.getD i aO_.dflt).op == (b.getD i aO_.dflt).op) (cond ((a.getD i aO_.dflt).v == (b.getD i aO_.dflt).v) true false) false) false) = c
    cases c <;> simp
  · simp only [aY_.turn3, aY_.step3, ay_, ax_, bU_]
    grind
theorem hE_ {a b : List Int} (ha : a.length ≤ b5_) : Ev (fun n _ => bb_ n a b) (hB_ a b) := by
  refine aJ_ ?_
  simp only [bb_]
  refine dS_ (d7_ (fun n N i => bb_.loop3 n (fun x y => some ((x.length : Int) == (y.length : Int))) N a b (i : Int)) (fun i => a.getD i 0 == b.getD i 0) (len := min a.length b.length) (v := decide (a.length = b.length)) (fun i u hi ih => ?_) ?_) lr_
  · have h1 : i < a.length := by omega
    have h2 : i < b.length := by omega
    simp only [bb_.turn3, bb_.step3, Int.toNat_natCast, W_up h1 ha, ay_, bU_, ax_, dj_ ih, c8_ h1, cQ_ h1, c8_ h2, cQ_ h2]
    clear ih
    generalize a.getD i 0 = x
    generalize b.getD i 0 = y
    grind
  · simp only [bb_.turn3, bb_.step3, ay_, ax_, bU_]
    grind
theorem gf_ {a b : bi_} (ha : lenQ b5_ a) : Ev (fun n _ => bH_ n a b) (eE_ a b) := by
  refine aJ_ ?_
  simp only [bH_, aj_ (gZ_ ha.1), aj_ (hE_ ha.2), ay_, ax_, eE_]
  generalize fE_ a.where_ b.where_ = c
  generalize hB_ a.show_ b.show_ = d
  cases c <;> cases d <;> grind
theorem i9_ {a b : List aO_} (ha : a.length ≤ b5_) : Ev (fun n _ => al_ n a b) (fE_ a b) := by
  refine aJ_ ?_
  simp only [al_, ay_, ax_]
  refine ⟨fun h => ?_, fun h2 => ?_⟩
  · simp only [bne_iff_ne, ne_eq] at h; have : ¬ a.length = b.length := by omega
    simp [fE_, this]
  · simp only [bne_eq_false_iff_eq] at h2
    have hl : a.length = b.length := by omega
    refine dS_ (d7_ (fun n N i => al_.loop6 n (some true) N a b (a.length : Int) (i : Int)) (fun i => sameC (a.getD i aO_.dflt) (b.getD i aO_.dflt)) (len := a.length) (v := true) (fun i u hi ih => ?_) ?_) (by simp [fE_, hl])
    · have h2 : i < b.length := by omega
      simp only [al_.turn6, al_.step6, Int.toNat_natCast, W_up hi ha, ay_, bU_, ax_, dj_ ih, c8_ hi, cQ_ hi, cQ_ h2]
      clear ih
      simp only [sameC]
      generalize (cond ((a.getD i aO_.dflt).col == (b.getD i aO_.dflt).col) (cond ((a.getD i aO_.dflt).op == (b.getD i aO_.dflt).op) (cond ((a.getD i aO_.dflt).v == (b.getD i aO_.dflt).v) true false) false) false) = c
      cases c <;> simp
    · simp only [al_.turn6, al_.step6, cX_, cond_false, ax_]
theorem ko_ {a b : List Int} (ha : a.length ≤ b5_) : Ev (fun n _ => av_ n a b) (hB_ a b) := by
  refine aJ_ ?_
  simp only [av_, ay_, ax_]
  refine ⟨fun h => ?_, fun h2 => ?_⟩
  · simp only [bne_iff_ne, ne_eq] at h; have : ¬ a.length = b.length := by omega
    simp [hB_, this]
  · simp only [bne_eq_false_iff_eq] at h2
    have hl : a.length = b.length := by omega
    refine dS_ (d7_ (fun n N i => av_.loop6 n (some true) N a b (a.length : Int) (i : Int)) (fun i => a.getD i 0 == b.getD i 0) (len := a.length) (v := true) (fun i u hi ih => ?_) ?_) (by simp [hB_, hl])
    · have h2 : i < b.length := by omega
      simp only [av_.turn6, av_.step6, Int.toNat_natCast, W_up hi ha, ay_, bU_, ax_, dj_ ih, c8_ hi, cQ_ hi, cQ_ h2]
      clear ih
      generalize a.getD i 0 = x
      generalize b.getD i 0 = y
      grind
    · simp only [av_.turn6, av_.step6, cX_, cond_false, ax_]
theorem gk_ {a b : bi_} (ha : lenQ b5_ a) : Ev (fun n _ => bJ_ n a b) (eE_ a b) := by
  refine aJ_ ?_
  simp only [bJ_, aj_ (i9_ ha.1), aj_ (ko_ ha.2), ay_, ax_, eE_]
  generalize fE_ a.where_ b.where_ = c
  generalize hB_ a.show_ b.show_ = d
  repeat' (first | apply And.intro | intro _)
  all_goals (try simp only [beq_iff_eq, beq_eq_false_iff_ne, ne_eq] at *)
  all_goals simp_all
end Go.Pi
end
