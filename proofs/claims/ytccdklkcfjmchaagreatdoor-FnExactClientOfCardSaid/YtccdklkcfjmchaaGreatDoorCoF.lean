/- The program's ClientOf returns what the reference's returns, for all arguments, and returns memory that it shares with nothing. Text 6 of 7. -/
import Derived.Test.YtccdklkcfjmchaaGreatDoorCoE
import Derived.Lib.ItoaLen
import Derived.Lib.AtoiAllCases
set_option linter.unusedVariables false
set_option maxRecDepth 100000
set_option linter.unusedSimpArgs false
section
namespace Go.Pi
abbrev bd_.K3:Type:=Option Int
theorem bd_.turn3 {n N:Nat} {k:Option Int} {x0 x1}:bd_.loop3 n k (N+1) x0 x1=bd_.step3 n k (bd_.loop3 n k N) x0 x1:=rfl
abbrev aY_.K5:Type:=(List Bs)→Option (List Bs)
theorem aY_.turn5 {n N:Nat} {k:(List Bs)→Option (List Bs)} {x0 x1 x2 x3}:aY_.loop5 n k (N+1) x0 x1 x2 x3=aY_.step5 n k (aY_.loop5 n k N) x0 x1 x2 x3:=rfl
abbrev az_.K7:Type:=Bool→Int→Int→Bs→Int→Bool→Int→Option (Int × bc_)
theorem az_.turn7 {n N:Nat} {k:Bool→Int→Int→Bs→Int→Bool→Int→Option (Int × bc_)} {x0 x1 x2 x3 x4 x5 x6}:az_.loop7 n k (N+1) x0 x1 x2 x3 x4 x5 x6=az_.step7 n k (az_.loop7 n k N) x0 x1 x2 x3 x4 x5 x6:=rfl
abbrev aJ_.K7:Type:=Bool→Bs→Option Bs
theorem aJ_.turn7 {n N:Nat} {k:Bool→Bs→Option Bs} {x0 x1 x2}:aJ_.loop7 n k (N+1) x0 x1 x2=aJ_.step7 n k (aJ_.loop7 n k N) x0 x1 x2:=rfl
abbrev aA_.K4:Type:=Bs→Int→Bool→Int→(List Int)→Option (Bs × bc_)
theorem aA_.turn4 {n N:Nat} {k:Bs→Int→Bool→Int→(List Int)→Option (Bs × bc_)} {x0 x1 x2 x3 x4}:aA_.loop4 n k (N+1) x0 x1 x2 x3 x4=aA_.step4 n k (aA_.loop4 n k N) x0 x1 x2 x3 x4:=rfl
abbrev aU_.K8_1:Type:=Bs→Bs→Int→Bool→Int→Int→Int→Bs→Int→Int→Bs→(List aa_)→(List Bs)→Option (aa_ × bc_)
theorem aU_.turn8 {n N:Nat} {k0:bc_→Int→Option (aa_ × bc_)} {k1:Bs→Bs→Int→Bool→Int→Int→Int→Bs→Int→Int→Bs→(List aa_)→(List Bs)→Option (aa_ × bc_)} {x0 x1 x2 x3 x4 x5 x6 x7 x8 x9 x10 x11 x12 x13}:aU_.loop8 n k0 k1 (N+1) x0 x1 x2 x3 x4 x5 x6 x7 x8 x9 x10 x11 x12 x13=aU_.step8 n k0 k1 (aU_.loop8 n k0 k1 N) x0 x1 x2 x3 x4 x5 x6 x7 x8 x9 x10 x11 x12 x13:=rfl
abbrev bf_.K3:Type:=Bs→Option Bool
theorem bf_.turn3 {n N:Nat} {k:Bs→Option Bool} {x0 x1}:bf_.loop3 n k (N+1) x0 x1=bf_.step3 n k (bf_.loop3 n k N) x0 x1:=rfl
abbrev af_.K6:Type:=Int→Int→Bs→(List aa_)→(List Bs)→Option Bool
theorem af_.turn6 {n N:Nat} {k:Int→Int→Bs→(List aa_)→(List Bs)→Option Bool} {x0 x1 x2 x3 x4 x5}:af_.loop6 n k (N+1) x0 x1 x2 x3 x4 x5=af_.step6 n k (af_.loop6 n k N) x0 x1 x2 x3 x4 x5:=rfl
abbrev aG_.K23_1:Type:=Int→Int→Int→Int→Bs→(List aa_)→(List Bs)→Option Int
theorem aG_.turn23 {n N:Nat} {k0:aa_→Int→Option Int} {k1:Int→Int→Int→Int→Bs→(List aa_)→(List Bs)→Option Int} {x0 x1 x2 x3 x4 x5 x6 x7 x8}:aG_.loop23 n k0 k1 (N+1) x0 x1 x2 x3 x4 x5 x6 x7 x8=aG_.step23 n k0 k1 (aG_.loop23 n k0 k1 N) x0 x1 x2 x3 x4 x5 x6 x7 x8:=rfl
abbrev a4_.K4:Type:=(List Int)→Option Bs
theorem a4_.turn4 {n N:Nat} {k:(List Int)→Option Bs} {x0 x1 x2}:a4_.loop4 n k (N+1) x0 x1 x2=a4_.step4 n k (a4_.loop4 n k N) x0 x1 x2:=rfl
abbrev aD_.K17_1:Type:=Bs→Int→Int→Bs→(List aa_)→(List Bs)→Option Bs
theorem aD_.turn17 {n N:Nat} {k0:aa_→Option Bs} {k1:Bs→Int→Int→Bs→(List aa_)→(List Bs)→Option Bs} {x0 x1 x2 x3 x4 x5 x6}:aD_.loop17 n k0 k1 (N+1) x0 x1 x2 x3 x4 x5 x6=aD_.step17 n k0 k1 (aD_.loop17 n k0 k1 N) x0 x1 x2 x3 x4 x5 x6:=rfl
abbrev bI_.K3:Type:=Option Int
theorem bI_.turn3 {n N:Nat} {k:Option Int} {x0 x1 x2 x3 x4 x5 x6}:bI_.loop3 n k (N+1) x0 x1 x2 x3 x4 x5 x6=bI_.step3 n k (bI_.loop3 n k N) x0 x1 x2 x3 x4 x5 x6:=rfl
abbrev aH_.K4_1:Type:=Int→Int→Bs→Int→Int→Bs→(List aa_)→(List Bs)→Option aa_
theorem aH_.turn4 {n N:Nat} {k0:aa_→Option aa_} {k1:Int→Int→Bs→Int→Int→Bs→(List aa_)→(List Bs)→Option aa_} {x0 x1 x2 x3 x4 x5 x6 x7 x8 x9 x10 x11 x12 x13}:aH_.loop4 n k0 k1 (N+1) x0 x1 x2 x3 x4 x5 x6 x7 x8 x9 x10 x11 x12 x13=aH_.step4 n k0 k1 (aH_.loop4 n k0 k1 N) x0 x1 x2 x3 x4 x5 x6 x7 x8 x9 x10 x11 x12 x13:=rfl
abbrev aT_.K6:Type:=Bs→(List Bs)→(List Bs)→(List Int)→Option ((List Bs) × Bool)
theorem aT_.turn6 {n N:Nat} {k:Bs→(List Bs)→(List Bs)→(List Int)→Option ((List Bs) × Bool)} {x0 x1 x2 x3 x4}:aT_.loop6 n k (N+1) x0 x1 x2 x3 x4=aT_.step6 n k (aT_.loop6 n k N) x0 x1 x2 x3 x4:=rfl
abbrev aj_.K6_1:Type:=Int→Int→Bs→(List aa_)→(List Bs)→Int→Int→Bs→(List aa_)→(List Bs)→Option Bool
theorem aj_.turn6 {n N:Nat} {k0:aa_→aa_→Option Bool} {k1:Int→Int→Bs→(List aa_)→(List Bs)→Int→Int→Bs→(List aa_)→(List Bs)→Option Bool} {x0 x1 x2 x3 x4 x5 x6 x7 x8 x9 x10}:aj_.loop6 n k0 k1 (N+1) x0 x1 x2 x3 x4 x5 x6 x7 x8 x9 x10=aj_.step6 n k0 k1 (aj_.loop6 n k0 k1 N) x0 x1 x2 x3 x4 x5 x6 x7 x8 x9 x10:=rfl
abbrev aj_.K14_1:Type:=Option Bool
theorem aj_.turn14 {n N:Nat} {k0:aa_→aa_→Option Bool} {k1:Option Bool} {x0 x1 x2 x3 x4 x5 x6 x7 x8 x9 x10}:aj_.loop14 n k0 k1 (N+1) x0 x1 x2 x3 x4 x5 x6 x7 x8 x9 x10=aj_.step14 n k0 k1 (aj_.loop14 n k0 k1 N) x0 x1 x2 x3 x4 x5 x6 x7 x8 x9 x10:=rfl
abbrev bG_.K6:Type:=Int→(List Bs)→Int→Int→Bs→(List aa_)→(List Bs)→Option Bool
theorem bG_.turn6 {n N:Nat} {k:Int→(List Bs)→Int→Int→Bs→(List aa_)→(List Bs)→Option Bool} {x0 x1 x2 x3 x4 x5 x6 x7}:bG_.loop6 n k (N+1) x0 x1 x2 x3 x4 x5 x6 x7=bG_.step6 n k (bG_.loop6 n k N) x0 x1 x2 x3 x4 x5 x6 x7:=rfl
abbrev ar_.K10:Type:=(List Bs)→Int→(List Int)→Option Bs
theorem ar_.turn10 {n N:Nat} {k:(List Bs)→Int→(List Int)→Option Bs} {x0 x1 x2 x3}:ar_.loop10 n k (N+1) x0 x1 x2 x3=ar_.step10 n k (ar_.loop10 n k N) x0 x1 x2 x3:=rfl
abbrev ar_.K4:Type:=(List Int)→Option Bs
theorem ar_.turn4 {n N:Nat} {k:(List Int)→Option Bs} {x0 x1 x2}:ar_.loop4 n k (N+1) x0 x1 x2=ar_.step4 n k (ar_.loop4 n k N) x0 x1 x2:=rfl
abbrev bq_.K5:Type:=Bs→Bool→Int→Int→Bs→(List aa_)→(List Bs)→Int→Int→Bs→Int→Int→Bs→(List aa_)→(List Bs)→Option aa_
theorem bq_.turn5 {n N:Nat} {k:Bs→Bool→Int→Int→Bs→(List aa_)→(List Bs)→Int→Int→Bs→Int→Int→Bs→(List aa_)→(List Bs)→Option aa_} {x0 x1 x2 x3 x4 x5 x6 x7 x8 x9 x10 x11 x12 x13 x14 x15 x16 x17 x18 x19 x20}:bq_.loop5 n k (N+1) x0 x1 x2 x3 x4 x5 x6 x7 x8 x9 x10 x11 x12 x13 x14 x15 x16 x17 x18 x19 x20=bq_.step5 n k (bq_.loop5 n k N) x0 x1 x2 x3 x4 x5 x6 x7 x8 x9 x10 x11 x12 x13 x14 x15 x16 x17 x18 x19 x20:=rfl
abbrev aO_.K7:Type:=Int→Int→Bs→(List aa_)→(List Bs)→Int→Int→Int→Bs→Int→Int→Int→Bs→Int→Int→Bs→(List aa_)→(List Bs)→Option (TOp × Bool)
theorem aO_.turn7 {n N:Nat} {k:Int→Int→Bs→(List aa_)→(List Bs)→Int→Int→Int→Bs→Int→Int→Int→Bs→Int→Int→Bs→(List aa_)→(List Bs)→Option (TOp × Bool)} {x0 x1 x2 x3 x4 x5 x6 x7 x8 x9 x10 x11 x12 x13 x14 x15 x16 x17 x18 x19 x20 x21 x22 x23 x24}:aO_.loop7 n k (N+1) x0 x1 x2 x3 x4 x5 x6 x7 x8 x9 x10 x11 x12 x13 x14 x15 x16 x17 x18 x19 x20 x21 x22 x23 x24=aO_.step7 n k (aO_.loop7 n k N) x0 x1 x2 x3 x4 x5 x6 x7 x8 x9 x10 x11 x12 x13 x14 x15 x16 x17 x18 x19 x20 x21 x22 x23 x24:=rfl
abbrev be_.K4:Type:=(List TOp)→Int→Int→Bs→Int→Int→Bs→(List aa_)→Option (aa_ × Bool)
theorem be_.turn4 {n N:Nat} {k:(List TOp)→Int→Int→Bs→Int→Int→Bs→(List aa_)→Option (aa_ × Bool)} {x0 x1 x2 x3 x4 x5 x6 x7 x8}:be_.loop4 n k (N+1) x0 x1 x2 x3 x4 x5 x6 x7 x8=be_.step4 n k (be_.loop4 n k N) x0 x1 x2 x3 x4 x5 x6 x7 x8:=rfl
abbrev ac_.K20:Type:=Bs→Int→Int→Int→Int→Int→Int→Bs→Int→Int→Int→Int→Int→Bs→(List Bs)→(List aa_)→(List Bs)→(List TOp)→Option (aM_ × Bool)
theorem ac_.turn20 {n N:Nat} {k:Bs→Int→Int→Int→Int→Int→Int→Bs→Int→Int→Int→Int→Int→Bs→(List Bs)→(List aa_)→(List Bs)→(List TOp)→Option (aM_ × Bool)} {x0 x1 x2 x3 x4 x5 x6 x7 x8 x9 x10 x11 x12 x13 x14 x15 x16 x17 x18 x19 x20 x21 x22 x23}:ac_.loop20 n k (N+1) x0 x1 x2 x3 x4 x5 x6 x7 x8 x9 x10 x11 x12 x13 x14 x15 x16 x17 x18 x19 x20 x21 x22 x23=ac_.step20 n k (ac_.loop20 n k N) x0 x1 x2 x3 x4 x5 x6 x7 x8 x9 x10 x11 x12 x13 x14 x15 x16 x17 x18 x19 x20 x21 x22 x23:=rfl
abbrev ac_.K5:Type:=Bs→Int→Int→Int→Int→Int→Bs→Int→Int→Int→Int→Int→Bs→(List aa_)→(List Bs)→(List TOp)→Option (aM_ × Bool)
theorem ac_.turn5 {n N:Nat} {k:Bs→Int→Int→Int→Int→Int→Bs→Int→Int→Int→Int→Int→Bs→(List aa_)→(List Bs)→(List TOp)→Option (aM_ × Bool)} {x0 x1 x2 x3 x4 x5 x6 x7 x8 x9 x10 x11 x12 x13 x14 x15 x16 x17}:ac_.loop5 n k (N+1) x0 x1 x2 x3 x4 x5 x6 x7 x8 x9 x10 x11 x12 x13 x14 x15 x16 x17=ac_.step5 n k (ac_.loop5 n k N) x0 x1 x2 x3 x4 x5 x6 x7 x8 x9 x10 x11 x12 x13 x14 x15 x16 x17:=rfl
abbrev by_.K8:Type:=Bs→Bs→Bool→(List aM_)→Bs→Bool→Option (a1_ × (List aM_))
theorem by_.turn8 {n N:Nat} {k:Bs→Bs→Bool→(List aM_)→Bs→Bool→Option (a1_ × (List aM_))} {x0 x1 x2 x3 x4 x5}:by_.loop8 n k (N+1) x0 x1 x2 x3 x4 x5=by_.step8 n k (by_.loop8 n k N) x0 x1 x2 x3 x4 x5:=rfl
abbrev a5_.K7:Type:=Bs→Int→Option Int
theorem a5_.turn7 {n N:Nat} {k:Bs→Int→Option Int} {x0 x1 x2}:a5_.loop7 n k (N+1) x0 x1 x2=a5_.step7 n k (a5_.loop7 n k N) x0 x1 x2:=rfl
abbrev a0_.K7:Type:=Int→Int→Bs→Int→Int→Bs→(List Bs)→(List aa_)→Option (aa_ × Bool)
theorem a0_.turn7 {n N:Nat} {k:Int→Int→Bs→Int→Int→Bs→(List Bs)→(List aa_)→Option (aa_ × Bool)} {x0 x1 x2 x3 x4 x5 x6 x7 x8 x9}:a0_.loop7 n k (N+1) x0 x1 x2 x3 x4 x5 x6 x7 x8 x9=a0_.step7 n k (a0_.loop7 n k N) x0 x1 x2 x3 x4 x5 x6 x7 x8 x9:=rfl
abbrev aP_.K4:Type:=Int→Int→Bs→Int→Bool→Bool→Int→Int→Bs→(List Bs)→Int→Bool→Bool→(List aa_)→Option aL_
theorem aP_.turn4 {n N:Nat} {k:Int→Int→Bs→Int→Bool→Bool→Int→Int→Bs→(List Bs)→Int→Bool→Bool→(List aa_)→Option aL_} {x0 x1 x2 x3 x4 x5 x6 x7 x8 x9 x10 x11 x12 x13 x14 x15}:aP_.loop4 n k (N+1) x0 x1 x2 x3 x4 x5 x6 x7 x8 x9 x10 x11 x12 x13 x14 x15=aP_.step4 n k (aP_.loop4 n k N) x0 x1 x2 x3 x4 x5 x6 x7 x8 x9 x10 x11 x12 x13 x14 x15:=rfl
abbrev ak_.K4:Type:=Bs→Bool→Option (Bs × aV_)
theorem ak_.turn4 {n N:Nat} {k:Bs→Bool→Option (Bs × aV_)} {x0 x1 x2}:ak_.loop4 n k (N+1) x0 x1 x2=ak_.step4 n k (ak_.loop4 n k N) x0 x1 x2:=rfl
abbrev ah_.K3:Type:=Int→Bs→Bool→Int→Int→Bs→Option (aa_ × aV_)
theorem ah_.turn3 {n N:Nat} {k:Int→Bs→Bool→Int→Int→Bs→Option (aa_ × aV_)} {x0 x1 x2 x3 x4 x5}:ah_.loop3 n k (N+1) x0 x1 x2 x3 x4 x5=ah_.step3 n k (ah_.loop3 n k N) x0 x1 x2 x3 x4 x5:=rfl
abbrev ag_.K7_1:Type:=Bs→Bs→Bool→Int→Int→Bs→Int→Int→Bs→(List aa_)→(List Bs)→Option (aa_ × aV_)
theorem ag_.turn7 {n N:Nat} {k0:aV_→Int→Option (aa_ × aV_)} {k1:Bs→Bs→Bool→Int→Int→Bs→Int→Int→Bs→(List aa_)→(List Bs)→Option (aa_ × aV_)} {x0 x1 x2 x3 x4 x5 x6 x7 x8 x9 x10 x11 x12 x13}:ag_.loop7 n k0 k1 (N+1) x0 x1 x2 x3 x4 x5 x6 x7 x8 x9 x10 x11 x12 x13=ag_.step7 n k0 k1 (ag_.loop7 n k0 k1 N) x0 x1 x2 x3 x4 x5 x6 x7 x8 x9 x10 x11 x12 x13:=rfl
abbrev as_.K3:Type:=Bs→Option Bool
theorem as_.turn3 {n N:Nat} {k:Bs→Option Bool} {x0 x1 x2}:as_.loop3 n k (N+1) x0 x1 x2=as_.step3 n k (as_.loop3 n k N) x0 x1 x2:=rfl
abbrev ap_.K3:Type:=Option Bool
theorem ap_.turn3 {n N:Nat} {k:Option Bool} {x0 x1 x2 x3}:ap_.loop3 n k (N+1) x0 x1 x2 x3=ap_.step3 n k (ap_.loop3 n k N) x0 x1 x2 x3:=rfl
abbrev a7_.K7_1:Type:=Int→Option Int
theorem a7_.turn7 {n N:Nat} {k0:aa_→Int→Option Int} {k1:Int→Option Int} {x0 x1 x2 x3 x4}:a7_.loop7 n k0 k1 (N+1) x0 x1 x2 x3 x4=a7_.step7 n k0 k1 (a7_.loop7 n k0 k1 N) x0 x1 x2 x3 x4:=rfl
abbrev bi_.K4:Type:=(List Int)→Option Bs
theorem bi_.turn4 {n N:Nat} {k:(List Int)→Option Bs} {x0 x1 x2 x3}:bi_.loop4 n k (N+1) x0 x1 x2 x3=bi_.step4 n k (bi_.loop4 n k N) x0 x1 x2 x3:=rfl
abbrev aX_.K4_1:Type:=Int→Int→Bs→(List aa_)→(List Bs)→(List Bs)→Option Bs
theorem aX_.turn4 {n N:Nat} {k0:aa_→Option Bs} {k1:Int→Int→Bs→(List aa_)→(List Bs)→(List Bs)→Option Bs} {x0 x1 x2 x3 x4 x5 x6 x7 x8}:aX_.loop4 n k0 k1 (N+1) x0 x1 x2 x3 x4 x5 x6 x7 x8=aX_.step4 n k0 k1 (aX_.loop4 n k0 k1 N) x0 x1 x2 x3 x4 x5 x6 x7 x8:=rfl
abbrev al_.K3:Type:=Option Int
theorem al_.turn3 {n N:Nat} {k:Option Int} {x0 x1 x2 x3}:al_.loop3 n k (N+1) x0 x1 x2 x3=al_.step3 n k (al_.loop3 n k N) x0 x1 x2 x3:=rfl
abbrev aq_.K4_1:Type:=Int→Int→Bs→Int→Int→Bs→(List aa_)→(List Bs)→Option aa_
theorem aq_.turn4 {n N:Nat} {k0:aa_→Option aa_} {k1:Int→Int→Bs→Int→Int→Bs→(List aa_)→(List Bs)→Option aa_} {x0 x1 x2 x3 x4 x5 x6 x7 x8 x9 x10}:aq_.loop4 n k0 k1 (N+1) x0 x1 x2 x3 x4 x5 x6 x7 x8 x9 x10=aq_.step4 n k0 k1 (aq_.loop4 n k0 k1 N) x0 x1 x2 x3 x4 x5 x6 x7 x8 x9 x10:=rfl
abbrev a6_.K4:Type:=Bs→Option Bs
theorem a6_.turn4 {n N:Nat} {k:Bs→Option Bs} {x0 x1 x2 x3}:a6_.loop4 n k (N+1) x0 x1 x2 x3=a6_.step4 n k (a6_.loop4 n k N) x0 x1 x2 x3:=rfl
abbrev ba_.K7:Type:=Bs→(List Bs)→Option ((List Bs) × Bool)
theorem ba_.turn7 {n N:Nat} {k:Bs→(List Bs)→Option ((List Bs) × Bool)} {x0 x1 x2 x3 x4}:ba_.loop7 n k (N+1) x0 x1 x2 x3 x4=ba_.step7 n k (ba_.loop7 n k N) x0 x1 x2 x3 x4:=rfl
abbrev bH_.K3:Type:=Int→(List Bs)→Int→Int→Bs→(List aa_)→(List Bs)→Option Bool
theorem bH_.turn3 {n N:Nat} {k:Int→(List Bs)→Int→Int→Bs→(List aa_)→(List Bs)→Option Bool} {x0 x1 x2 x3 x4 x5 x6 x7 x8 x9}:bH_.loop3 n k (N+1) x0 x1 x2 x3 x4 x5 x6 x7 x8 x9=bH_.step3 n k (bH_.loop3 n k N) x0 x1 x2 x3 x4 x5 x6 x7 x8 x9:=rfl
abbrev am_.K6:Type:=Option Bool
theorem am_.turn6 {n N:Nat} {k:Option Bool} {x0 x1 x2 x3}:am_.loop6 n k (N+1) x0 x1 x2 x3=am_.step6 n k (am_.loop6 n k N) x0 x1 x2 x3:=rfl
abbrev ab_.K6_1:Type:=Option Bool
theorem ab_.turn6 {n N:Nat} {k0:aa_→aa_→Option Bool} {k1:Option Bool} {x0 x1 x2 x3}:ab_.loop6 n k0 k1 (N+1) x0 x1 x2 x3=ab_.step6 n k0 k1 (ab_.loop6 n k0 k1 N) x0 x1 x2 x3:=rfl
abbrev bo_.K4:Type:=Int→Int→Bs→(List aa_)→(List Bs)→(List TOp)→Option ((List TOp) × Bool)
theorem bo_.turn4 {n N:Nat} {k:Int→Int→Bs→(List aa_)→(List Bs)→(List TOp)→Option ((List TOp) × Bool)} {x0 x1 x2 x3 x4 x5 x6 x7 x8}:bo_.loop4 n k (N+1) x0 x1 x2 x3 x4 x5 x6 x7 x8=bo_.step4 n k (bo_.loop4 n k N) x0 x1 x2 x3 x4 x5 x6 x7 x8:=rfl
abbrev a2_.K4:Type:=Int→Int→Bs→Int→Int→Bs→(List aa_)→Option (aa_ × Bool)
theorem a2_.turn4 {n N:Nat} {k:Int→Int→Bs→Int→Int→Bs→(List aa_)→Option (aa_ × Bool)} {x0 x1 x2 x3 x4 x5 x6 x7 x8 x9}:a2_.loop4 n k (N+1) x0 x1 x2 x3 x4 x5 x6 x7 x8 x9=a2_.step4 n k (a2_.loop4 n k N) x0 x1 x2 x3 x4 x5 x6 x7 x8 x9:=rfl
abbrev bt_.K5:Type:=Bs→Bool→Bs→Bool→(List aM_)→Option (a1_ × (List aM_))
theorem bt_.turn5 {n N:Nat} {k:Bs→Bool→Bs→Bool→(List aM_)→Option (a1_ × (List aM_))} {x0 x1 x2 x3 x4}:bt_.loop5 n k (N+1) x0 x1 x2 x3 x4=bt_.step5 n k (bt_.loop5 n k N) x0 x1 x2 x3 x4:=rfl
abbrev ad_.K4:Type:=(List Bs)→Bs→Int→Int→Option (Int × Bool)
theorem ad_.turn4 {n N:Nat} {k:(List Bs)→Bs→Int→Int→Option (Int × Bool)} {x0 x1 x2 x3 x4}:ad_.loop4 n k (N+1) x0 x1 x2 x3 x4=ad_.step4 n k (ad_.loop4 n k N) x0 x1 x2 x3 x4:=rfl
abbrev aZ_.K7:Type:=Int→Int→Bs→Int→Int→Bs→(List aa_)→(List Bs)→Option (aa_ × Bool)
theorem aZ_.turn7 {n N:Nat} {k:Int→Int→Bs→Int→Int→Bs→(List aa_)→(List Bs)→Option (aa_ × Bool)} {x0 x1 x2 x3 x4 x5 x6 x7 x8 x9 x10}:aZ_.loop7 n k (N+1) x0 x1 x2 x3 x4 x5 x6 x7 x8 x9 x10=aZ_.step7 n k (aZ_.loop7 n k N) x0 x1 x2 x3 x4 x5 x6 x7 x8 x9 x10:=rfl
abbrev aR_.K4:Type:=Int→Int→Bs→Int→Bool→Bool→Int→Int→Bs→Int→Bool→Bool→(List aa_)→(List Bs)→Option aL_
theorem aR_.turn4 {n N:Nat} {k:Int→Int→Bs→Int→Bool→Bool→Int→Int→Bs→Int→Bool→Bool→(List aa_)→(List Bs)→Option aL_} {x0 x1 x2 x3 x4 x5 x6 x7 x8 x9 x10 x11 x12 x13 x14 x15 x16}:aR_.loop4 n k (N+1) x0 x1 x2 x3 x4 x5 x6 x7 x8 x9 x10 x11 x12 x13 x14 x15 x16=aR_.step4 n k (aR_.loop4 n k N) x0 x1 x2 x3 x4 x5 x6 x7 x8 x9 x10 x11 x12 x13 x14 x15 x16:=rfl
abbrev aQ_.K6:Type:=Option Bool
theorem aQ_.turn6 {n N:Nat} {k:Option Bool} {x0 x1 x2}:aQ_.loop6 n k (N+1) x0 x1 x2=aQ_.step6 n k (aQ_.loop6 n k N) x0 x1 x2:=rfl
abbrev a8_.K6_1:Type:=Option Bool
theorem a8_.turn6 {n N:Nat} {k0:aa_→aa_→Option Bool} {k1:Option Bool} {x0 x1 x2}:a8_.loop6 n k0 k1 (N+1) x0 x1 x2=a8_.step6 n k0 k1 (a8_.loop6 n k0 k1 N) x0 x1 x2:=rfl
abbrev aK_.K6:Type:=Bs→Option Bs
theorem aK_.turn6 {n N:Nat} {k:Bs→Option Bs} {x0 x1}:aK_.loop6 n k (N+1) x0 x1=aK_.step6 n k (aK_.loop6 n k N) x0 x1:=rfl
abbrev au_.K3:Type:=Int→(List Bs)→Option (Int × (List Bs))
theorem au_.turn3 {n N:Nat} {k:Int→(List Bs)→Option (Int × (List Bs))} {x0 x1 x2}:au_.loop3 n k (N+1) x0 x1 x2=au_.step3 n k (au_.loop3 n k N) x0 x1 x2:=rfl
abbrev ax_.K3_1:Type:=Int→(List aa_)→Option (Int × (List aa_))
theorem ax_.turn3 {n N:Nat} {k0:(List aa_)→Int→Option (Int × (List aa_))} {k1:Int→(List aa_)→Option (Int × (List aa_))} {x0 x1 x2}:ax_.loop3 n k0 k1 (N+1) x0 x1 x2=ax_.step3 n k0 k1 (ax_.loop3 n k0 k1 N) x0 x1 x2:=rfl
abbrev av_.K3:Type:=Int→Option Int
theorem av_.turn3 {n N:Nat} {k:Int→Option Int} {x0 x1 x2}:av_.loop3 n k (N+1) x0 x1 x2=av_.step3 n k (av_.loop3 n k N) x0 x1 x2:=rfl
abbrev ay_.K3_1:Type:=Int→Option Int
theorem ay_.turn3 {n N:Nat} {k0:(List aa_)→Int→Option Int} {k1:Int→Option Int} {x0 x1 x2}:ay_.loop3 n k0 k1 (N+1) x0 x1 x2=ay_.step3 n k0 k1 (ay_.loop3 n k0 k1 N) x0 x1 x2:=rfl
end Go.Pi
end
section
namespace Go.Pi
def gY_ (p:Nat→Bool):Nat→Nat→Bool
 |0,_=>true
 |d+1,i=>p i&&gY_ p d (i+1)
def nX_ (p:Nat→Bool) (len:Nat):Bool:=gY_ p len 0
theorem hs_ (L:Nat→Nat→Nat→Option Bool) (p:Nat→Bool) {len:Nat} {v:Bool}
  (h:∀ i w,i<len→Ev (fun n N=>L n N (i+1)) w→Ev (fun n N=>L n (N+1) i) (p i&&w)) (h2:Ev (fun n N=>L n (N+1) len) v) :
  Ev (fun n _=>L n n 0) (nX_ p len&&v):=by
 have key:∀ d i,d+i=len→Ev (fun n N=>L n N i) (gY_ p d i&&v):=by
  intro d
  induction d with
  |zero=>intro i hd;obtain rfl:i=len:=by omega
         simpa [gY_] using bm_ (f:=fun n N=>L n N i) h2
  |succ d ih=>intro i hd
              have:=h i _ (by omega) (ih (i+1) (by omega))
              rw [←Bool.and_assoc] at this
              exact bm_ (f:=fun n N=>L n N i) this
 exact c5_ (f:=fun n N=>L n N 0) (key len 0 (by omega))
theorem js_ {α:Type} {f:Nat→Nat→Option α} {v w:α} (h:Ev f v) (e:v=w):Ev f w:=e ▸ h
def inn (x lo hi:Int):Bool:=decide (lo≤x)&&decide (x≤hi)
theorem j0_ {x lo hi:Int}:inn x lo hi=true↔lo≤x∧x≤hi:=by simp [inn]
theorem l1In_ev {x lo hi:Int}:Ev (fun n _=>cT_ n x lo hi) (inn x lo hi):=by
 refine aI_ ?_
 simp only [cT_,aE_,ai_,inn]
 grind
theorem gu_ {x lo hi:Int}:Ev (fun n _=>aS_ n x lo hi) (inn x lo hi):=by
 refine aI_ ?_
 simp only [aS_,aE_,ai_,inn]
 grind
section
variable {β:Type} {x lo hi:Int} {g:Nat→Nat→Bool→Option β} {v:β}
theorem l1In_b:Ev (fun n N=>(cT_ n x lo hi).bind (g n N)) v↔Ev (fun n N=>g n N (inn x lo hi)) v:=ae_ l1In_ev
theorem fq_:Ev (fun n N=>(aS_ n x lo hi).bind (g n N)) v↔Ev (fun n N=>g n N (inn x lo hi)) v:=ae_ gu_
theorem isNum_b:Ev (fun n N=>(bk_ n x).bind (g n N)) v↔Ev (fun n N=>g n N (inn x (-1000000000) 1000000000)) v :=
 ae_ (aI_ (by simp only [bk_,fq_,ai_]))
end
theorem dm_ {i len:Nat} (h:i<len):decide ((i:Int)<(len:Int))=true:=by simp;omega
theorem dh_ {len:Nat}:decide ((len:Int)<(len:Int))=false:=by simp
theorem da_ {i len:Nat} (h:i<len):((0:Int)≤(i:Int)∧(i:Int)<(len:Int))↔True:=by simp;omega
end Go.Pi
end
section
namespace Go.Pi
def ei_ {α:Type} (f:α→Nat):List α→Nat
 |[]=>0
 |x::xs=>f x+ei_ f xs
def en_ {α:Type} (f:α→Nat) (l:List α):Nat:=l.length+ei_ f l
def lenL {α:Type} (P:α→Prop) (l:List α):Prop:=l.length≤cY_∧∀ x ∈ l,P x
def szB (s:Bs):Nat:=s.length
def lenB (s:Bs):Prop:=s.length≤cY_
theorem hS_ {α:Type} (f:α→Nat) (d:α) {a:List α} {i:Nat} (h:i<a.length):ei_ f (a.drop i)=f (a.getD i d)+ei_ f (a.drop (i+1)):=by
 rw [dB_ d h];rfl
theorem lp_ {α:Type} (f:α→Nat) (x:α):∀ (a:List α) (i:Nat),ei_ f ((a.set i x).drop (i+1))=ei_ f (a.drop (i+1))
 |[],_=>rfl
 |_::_,0=>rfl
 |_::a,i+1=>by simpa using lp_ f x a i
theorem gv_ {α:Type} (f:α→Nat) {a:List α} {x:α} (h:x ∈ a):f x≤ei_ f a:=by
 induction a with
 |nil=>cases h
 |cons y a ih=>
  simp only [ei_]
  rcases List.mem_cons.1 h with rfl|h
  · omega
  · have:=ih h;omega
theorem oi_ {α:Type} (f:α→Nat) {a:List α} {x:α} (h:x ∈ a):1+f x≤en_ f a:=by
 unfold en_
 have:=gv_ f h
 have:=List.length_pos_of_mem h
 omega
theorem fJ_ {α:Type} (f:α→Nat) (a:List α):a.length≤en_ f a:=by unfold en_;omega
theorem oO_ {α:Type} (d:α) {a:List α} {i:Nat} (h:i<a.length) (x:α):(a.set i x).getD i d=x:=by
 rw [List.getD_eq_getElem?_getD,List.getElem?_set_self h];rfl
section
variable {α β:Type}
theorem kW_ (Q:α→Prop) (d:α) (f:α→Nat) (LM:Nat→Nat→Int→Nat→List α→Option (Int × List α)) (LH:Nat→Nat→List α→Int→Nat→Option Int)
  (hm:∀ i (a:List α) (k:Int),i<a.length→Q (a.getD i d)→a.length≤cY_→0≤k→k+32*(1+f (a.getD i d):Nat)≤cY_ →
    ∃ k' x',k≤k'∧k'≤k+32*(1+f (a.getD i d):Nat)∧(∀ F,Ev (fun n N=>LM n N k' (i+1) (a.set i x')) F→Ev (fun n N=>LM n (N+1) k i a) F) ∧
      ∀ (b:List α) F,i<b.length→b.length≤cY_→b.getD i d=x'→Ev (fun n N=>LH n N b k' (i+1)) F→Ev (fun n N=>LH n (N+1) b k i) F)
  (em:∀ (a:List α) k,Ev (fun n N=>LM n (N+1) k a.length a) (k,a)) (eh:∀ (a:List α) k,Ev (fun n N=>LH n (N+1) a k a.length) k)
  (a:List α) (k:Int) (hq:∀ i,i<a.length→Q (a.getD i d)) (ha:a.length≤cY_) (hk:0≤k) (hb:k+32*(en_ f a:Nat)≤cY_) :
  ∃ k' a',k≤k'∧k'≤k+32*(en_ f a:Nat)∧a'.length=a.length∧Ev (fun n _=>LM n n k 0 a) (k',a')∧Ev (fun n _=>LH n n a' k 0) k':=by
 have key:∀ j i (a:List α) (k:Int),j+i=a.length→(∀ m,i≤m→m<a.length→Q (a.getD m d))→a.length≤cY_→0≤k→k+32*((j+ei_ f (a.drop i):Nat):Int)≤cY_ →
   ∃ k' a',k≤k'∧k'≤k+32*((j+ei_ f (a.drop i):Nat):Int)∧a'.length=a.length∧a'.take i=a.take i∧Ev (fun n N=>LM n N k i a) (k',a')∧Ev (fun n N=>LH n N a' k i) k':=by
  intro j
  induction j with
  |zero=>
   intro i a k hi _ _ hk _
   have:i=a.length:=by omega
   subst this
   exact ⟨k,a,by omega,by omega,rfl,rfl,bm_ (em a k),bm_ (eh a k)⟩
  |succ j ih=>
   intro i a k hi hq ha hk hb
   rw [hS_ f d (by omega)] at hb ⊢
   obtain ⟨k1,x',p1,p2,p3,p4⟩:=hm i a k (by omega) (hq i (Nat.le_refl _) (by omega)) ha hk (by omega)
   obtain ⟨k2,a',q1,q2,q3,q4,q5,q6⟩:=ih (i+1) (a.set i x') k1 (by rw [List.length_set];omega) (fun m h1 h2=>by
    rw [List.length_set] at h2
    rw [List.getD_eq_getElem?_getD,List.getElem?_set_ne (by omega),←List.getD_eq_getElem?_getD]
    exact hq m (by omega) h2) (by rw [List.length_set];exact ha) (by omega) (by rw [lp_];omega)
   rw [lp_] at q2
   rw [List.length_set] at q3
   have hlt:i<a'.length:=by omega
   have hx:a'.getD i d=x':=by
    have e:=congrArg (fun l=>l[i]?) q4
    simp only [List.getElem?_take,if_pos (Nat.lt_succ_self i),List.getElem?_set_self (show i<a.length by omega)] at e
    rw [List.getD_eq_getElem?_getD,e];rfl
   refine ⟨k2,a',by omega,by omega,q3,?_,bm_ (p3 _ q5),bm_ (p4 a' k2 hlt (by omega) hx q6)⟩
   have e:=congrArg (List.take i) q4
   simp only [List.take_take,Nat.min_eq_left (Nat.le_succ i),List.take_set_of_le (Nat.le_refl i)] at e
   exact e
 obtain ⟨k',a',h1,h2,h3,_,h5,h6⟩:=key a.length 0 a k (by omega) (fun m _ h=>hq m h) ha hk (by rw [List.drop_zero];unfold en_ at hb;omega)
 refine ⟨k',a',h1,by rw [List.drop_zero] at h2;unfold en_;omega,h3,c5_ (f:=fun n N=>LM n N k 0 a) h5,c5_ (f:=fun n N=>LH n N a' k 0) h6⟩
theorem mark_list (d:α) (f:α→Nat) (LM:Nat→Nat→Int→Nat→List α→Option (Int × List α)) (LH:Nat→Nat→List α→Int→Nat→Option Int)
  (hm:∀ i (a:List α) (k:Int),i<a.length→a.length≤cY_→0≤k→k+32*(1+f (a.getD i d):Nat)≤cY_ →
    ∃ k' x',k≤k'∧k'≤k+32*(1+f (a.getD i d):Nat)∧(∀ F,Ev (fun n N=>LM n N k' (i+1) (a.set i x')) F→Ev (fun n N=>LM n (N+1) k i a) F) ∧
      ∀ (b:List α) F,i<b.length→b.length≤cY_→b.getD i d=x'→Ev (fun n N=>LH n N b k' (i+1)) F→Ev (fun n N=>LH n (N+1) b k i) F)
  (em:∀ (a:List α) k,Ev (fun n N=>LM n (N+1) k a.length a) (k,a)) (eh:∀ (a:List α) k,Ev (fun n N=>LH n (N+1) a k a.length) k)
  (a:List α) (k:Int) (ha:a.length≤cY_) (hk:0≤k) (hb:k+32*(en_ f a:Nat)≤cY_) :
  ∃ k' a',k≤k'∧k'≤k+32*(en_ f a:Nat)∧a'.length=a.length∧Ev (fun n _=>LM n n k 0 a) (k',a')∧Ev (fun n _=>LH n n a' k 0) k' :=
 kW_ (fun _=>True) d f LM LH (fun i a k h1 _ h2 h3 h4=>hm i a k h1 h2 h3 h4) em eh a k (fun _ _=>trivial) ha hk hb
end
theorem i7_ {k:Int} (h:0≤k) (h':k+1≤cY_):W (k+1)=k+1:=W_id (by omega) (by simp only [cY_] at h';omega)
end Go.Pi
end
section
namespace Go.Pi
theorem W_dn {i:Nat} (h:i≤cY_):W ((i:Int) - 1)=(i:Int) - 1:=by
 rw [W_id (by omega) (by simp only [cY_] at h;omega)]
theorem ob_ {i:Nat}:((i:Int) - 1).toNat=i - 1:=by omega
theorem g6_ {x lo hi:Int} (h:inn x lo hi=true):lo≤x∧x≤hi:=j0_.1 h
def g9_ {α:Type} (s:Nat→α→α) (v:α):Nat→Nat→α
 |0,_=>v
 |d+1,i=>s i (g9_ s v d (i+1))
theorem ev_fold {α:Type} (L:Nat→Nat→Nat→Option α) (s:Nat→α→α) {len:Nat} {v:α}
  (h:∀ i w,i<len→Ev (fun n N=>L n N (i+1)) w→Ev (fun n N=>L n (N+1) i) (s i w)) (h2:Ev (fun n N=>L n (N+1) len) v) :
  Ev (fun n _=>L n n 0) (g9_ s v len 0):=by
 have key:∀ d i,d+i=len→Ev (fun n N=>L n N i) (g9_ s v d i):=by
  intro d
  induction d with
  |zero=>intro i hd;obtain rfl:i=len:=by omega
         exact bm_ (f:=fun n N=>L n N i) h2
  |succ d ih=>intro i hd
              exact bm_ (f:=fun n N=>L n N i) (h i _ (by omega) (ih (i+1) (by omega)))
 exact c5_ (f:=fun n N=>L n N 0) (key len 0 (by omega))
theorem cu_ {α:Type} {n b:Nat} {f:Nat→Nat→Option α} {v:α}:Ev (fun m N=>cF_ n b (f m N)) v↔n*b≤140737488355328∧Ev f v:=by
 unfold cF_
 rw [aE_]
 by_cases h:n*b≤140737488355328<;>simp [h,dl_]
theorem ev_map {α β γ:Type} (d:α) (a:List α) (f:α→β) (L:Nat→Nat→Nat→List β→Option γ) (v:γ)
  (h1:∀ i s,i<a.length→s.length=i→∀ F,Ev (fun n N=>L n N (i+1) (s++[f (a.getD i d)])) F→Ev (fun n N=>L n (N+1) i s) F)
  (h2:Ev (fun n N=>L n (N+1) a.length (a.map f)) v):Ev (fun n _=>L n n 0 []) v:=by
 have key:∀ j i,j+i=a.length→Ev (fun n N=>L n N i ((a.take i).map f)) v:=by
  intro j
  induction j with
  |zero=>
   intro i hi
   have:i=a.length:=by omega
   subst this
   rw [List.take_of_length_le (Nat.le_refl _)]
   exact bm_ h2
  |succ j ih=>
   intro i hi
   refine bm_ (h1 i _ (by omega) (by simp;omega) _ ?_)
   have:=ih (i+1) (by omega)
   rw [List.take_add_one,List.map_append] at this
   have e:a[i]?.toList=[a.getD i d]:=by
    rw [List.getD_eq_getElem?_getD,List.getElem?_eq_getElem (by omega)];rfl
   rw [e] at this
   exact this
 have:=key a.length 0 (by omega)
 exact c5_ (f:=fun n N=>L n N 0 []) this
theorem eY_ {α γ:Type} (S:Nat→α) (len:Nat) (L:Nat→Nat→Nat→α→Option γ) (v:γ)
  (h1:∀ i,i<len→∀ F,Ev (fun n N=>L n N (i+1) (S (i+1))) F→Ev (fun n N=>L n (N+1) i (S i)) F)
  (h2:Ev (fun n N=>L n (N+1) len (S len)) v):Ev (fun n _=>L n n 0 (S 0)) v:=by
 have key:∀ j i,j+i=len→Ev (fun n N=>L n N i (S i)) v:=by
  intro j
  induction j with
  |zero=>
   intro i hi
   have:i=len:=by omega
   subst this
   exact bm_ h2
  |succ j ih=>exact fun i hi=>bm_ (h1 i (by omega) _ (ih (i+1) (by omega)))
 exact c5_ (f:=fun n N=>L n N 0 (S 0)) (key len 0 (by omega))
theorem dg_ {α:Type} (d:α) {a:List α} {i:Nat} (h:i<a.length):a.take (i+1)=a.take i++[a.getD i d]:=by
 rw [List.take_add_one,List.getD_eq_getElem?_getD,List.getElem?_eq_getElem h];rfl
theorem i3_ {α:Type} (d:α) (P:α→Bool):∀ (rows:List α),g9_ (fun i (x:Int)=>cond (P (rows.getD i d)) (i:Int) x) (-1) rows.length 0=if rows.findIdx P<rows.length then (rows.findIdx P:Int) else -1:=by
 intro rows
 have key:∀ j i,j+i=rows.length→(∀ k,k<i→P (rows.getD k d)=false)→g9_ (fun i (x:Int)=>cond (P (rows.getD i d)) (i:Int) x) (-1) j i=if rows.findIdx P<rows.length then (rows.findIdx P:Int) else -1:=by
  intro j
  induction j with
  |zero=>
   intro i hi hk
   have:¬ rows.findIdx P<rows.length:=by
    intro h
    have h1:=List.findIdx_getElem (w:=h)
    have h2:=hk _ (show rows.findIdx P<i by omega)
    rw [List.getD_eq_getElem?_getD,List.getElem?_eq_getElem h] at h2
    simp only [Option.getD_some] at h2
    rw [h1] at h2;cases h2
   rw [if_neg this];rfl
  |succ j ih=>
   intro i hi hk
   simp only [g9_]
   cases hp:P (rows.getD i d) with
   |true=>
    have hlt:i<rows.length:=by omega
    rw [List.getD_eq_getElem?_getD,List.getElem?_eq_getElem hlt] at hp
    have e:rows.findIdx P=i:=by
     apply Nat.le_antisymm
     · exact Nat.le_of_not_lt fun h=>by have:=List.not_of_lt_findIdx h;rw [Option.getD_some] at hp;rw [hp] at this;cases this
     · exact Nat.le_of_not_lt fun h=>by
        have h2:=hk _ h
        have hl:rows.findIdx P<rows.length:=by omega
        rw [List.getD_eq_getElem?_getD,List.getElem?_eq_getElem hl] at h2
        rw [Option.getD_some,List.findIdx_getElem (w:=hl)] at h2;cases h2
    rw [e,if_pos hlt];rfl
   |false=>
    rw [cond_false]
    exact ih (i+1) (by omega) fun k hk'=>by
     by_cases e:k=i
     · subst e;exact hp
     · exact hk k (by omega)
 exact key rows.length 0 (by omega) fun k hk=>by omega
theorem d4_ {α:Type} {lo hi:Int} {len:Nat} {f:Nat→Nat→Option α} {v:α}:Ev (fun n N=>e9_ lo hi len (f n N)) v↔(0≤lo∧lo≤hi∧hi≤(len:Int))∧Ev f v:=by
 unfold e9_
 simp only [aE_,dl_]
 by_cases h1:0≤lo<;>by_cases h2:lo≤hi<;>by_cases h3:hi≤(len:Int)<;>simp [h1,h2,h3]
theorem fy_ {p:Nat→Bool} {len:Nat}:nX_ p len=true↔∀ i,i<len→p i=true:=by
 have key:∀ d i,d+i=len→(gY_ p d i=true↔∀ k,i≤k→k<len→p k=true):=by
  intro d
  induction d with
  |zero=>intro i hi;simp only [gY_,true_iff];intro k h1 h2;omega
  |succ d ih=>
   intro i hi
   simp only [gY_,Bool.and_eq_true,ih (i+1) (by omega)]
   constructor
   · rintro ⟨h1,h2⟩ k h3 h4
     by_cases e:k=i
     · subst e;exact h1
     · exact h2 k (by omega) h4
   · exact fun h=>⟨h i (Nat.le_refl _) (by omega),fun k h1 h2=>h k (by omega) h2⟩
 have:=key len 0 (by omega)
 unfold nX_
 rw [this]
 exact ⟨fun h i hi=>h i (Nat.zero_le _) hi,fun h i _ hi=>h i hi⟩
end Go.Pi
end
section
namespace Go.Pi
section
variable {α β σ:Type}
def Ans (f:Nat→Nat→Option α) (Q:α→Prop):Prop:=∃ v,Ev f v∧Q v
theorem ans_ev {f:Nat→Nat→Option α} {v:α} (h:Ev f v) {Q:α→Prop}:Ans f Q↔Q v :=
 ⟨fun ⟨w,h1,h2⟩=>(eA_ h).1 h1 ▸ h2,fun hq=>⟨v,h,hq⟩⟩
theorem br_ {v:α} {Q:α→Prop}:Ans (fun _ _=>some v) Q↔Q v:=ans_ev (ai_.2 rfl)
theorem bj_ {f:Nat→Nat→Option α} {a:α} (h:Ev f a) {g:Nat→Nat→α→Option β} {Q:β→Prop}:Ans (fun n N=>(f n N).bind (g n N)) Q↔Ans (fun n N=>g n N a) Q:=by
 unfold Ans;simp only [ae_ h]
theorem c6_ {f:Nat→Nat→Option α} {P:α→Prop} (h:Ans f P) {g:Nat→Nat→α→Option β} {Q:β→Prop} (k:∀ v,P v→Ans (fun n N=>g n N v) Q):Ans (fun n N=>(f n N).bind (g n N)) Q:=by
 obtain ⟨v,h1,h2⟩:=h
 exact (bj_ h1).2 (k v h2)
theorem cc_ {c:Bool} {f g:Nat→Nat→Option α} {Q:α→Prop}:Ans (fun n N=>cond c (f n N) (g n N)) Q↔(c=true→Ans f Q)∧(c=false→Ans g Q):=by
 cases c<;>simp
theorem dM_ {i:Int} {len:Nat} {f:Nat→Nat→Option α} {Q:α→Prop}:Ans (fun n N=>inB i len (f n N)) Q↔(0≤i∧i<(len:Int))∧Ans f Q:=by
 unfold Ans;simp only [b7_]
 exact ⟨fun ⟨v,⟨h1,h2⟩,h3⟩=>⟨h1,v,h2,h3⟩,fun ⟨h1,v,h2,h3⟩=>⟨v,⟨h1,h2⟩,h3⟩⟩
theorem es_ {n b:Nat} {f:Nat→Nat→Option α} {Q:α→Prop}:Ans (fun m N=>cF_ n b (f m N)) Q↔n*b≤140737488355328∧Ans f Q:=by
 unfold Ans;simp only [cu_]
 exact ⟨fun ⟨v,⟨h1,h2⟩,h3⟩=>⟨h1,v,h2,h3⟩,fun ⟨h1,v,h2,h3⟩=>⟨v,⟨h1,h2⟩,h3⟩⟩
theorem hf_ {lo hi:Int} {len:Nat} {f:Nat→Nat→Option α} {Q:α→Prop}:Ans (fun n N=>e9_ lo hi len (f n N)) Q↔(0≤lo∧lo≤hi∧hi≤(len:Int))∧Ans f Q:=by
 unfold Ans;simp only [d4_]
 exact ⟨fun ⟨v,⟨h1,h2⟩,h3⟩=>⟨h1,v,h2,h3⟩,fun ⟨h1,v,h2,h3⟩=>⟨v,⟨h1,h2⟩,h3⟩⟩
theorem c7_ {f:Nat→Nat→Option α} {Q:α→Prop} (h:Ans (fun n N=>f (n+1) N) Q):Ans f Q :=
 let ⟨v,h1,h2⟩:=h;⟨v,aI_ h1,h2⟩
theorem ans_round {f:Nat→Nat→Option α} {Q:α→Prop} (h:Ans (fun n N=>f n (N+1)) Q):Ans f Q :=
 let ⟨v,h1,h2⟩:=h;⟨v,bm_ h1,h2⟩
theorem ans_diag {f:Nat→Nat→Option α} {Q:α→Prop} (h:Ans f Q):Ans (fun n _=>f n n) Q :=
 let ⟨v,h1,h2⟩:=h;⟨v,c5_ h1,h2⟩
theorem ev_ans {f:Nat→Nat→Option α} {v:α} (h:Ans f fun w=>w=v):Ev f v:=let ⟨_,h1,h2⟩:=h;h2 ▸ h1
theorem fx_ (L:Nat→Nat→σ→Option α) (m:σ→Nat) (I:σ→Prop) (Q:α→Prop)
  (h:∀ s,I s→(∀ s',I s'→m s'<m s→Ans (fun n N=>L n N s') Q)→Ans (fun n N=>L n (N+1) s) Q):∀ s,I s→Ans (fun n _=>L n n s) Q:=by
 have key:∀ k s,m s<k→I s→Ans (fun n N=>L n N s) Q:=by
  intro k
  induction k with
  |zero=>intro s hk;omega
  |succ k ih=>exact fun s hk hI=>ans_round (h s hI fun s' hI' hm=>ih s' (by omega) hI')
 exact fun s hI=>ans_diag (f:=fun n N=>L n N s) (key _ s (Nat.lt_succ_self _) hI)
end
end Go.Pi
end
section
namespace Go.Pi
theorem bh_ (j:aa_):aa_.re j=j:=by cases j;rfl
def hk_ (s:Bs):Bool:=nX_ (fun i=>inn ((s.getD i 0).toNat:Int) 32 126) s.length&&decide ((s.length:Int)≤60)
theorem o5_ (b:UInt8):W ((b.toNat:Int))=(b.toNat:Int):=W_id (by omega) (by have:=b.toNat_lt;omega)
theorem fA_ {s:Bs} (hs:s.length≤cY_):Ev (fun n _=>bf_ n s) (hk_ s):=by
 refine aI_ ?_
 simp only [bf_]
 refine hs_ (fun n N i=>bf_.loop3 n (fun xy1=>(some (decide ((xy1.length:Int)≤60)))) N s (i:Int)) _ (fun i w hi ih => ?_) ?_
 · simp only [bf_.turn3,bf_.step3,Int.toNat_natCast,aE_,b7_,ai_,W_up hi hs,eA_ ih,dm_ hi,da_ hi]
   clear ih
   simp only [inn]
   by_cases h1:(((s.getD i 0).toNat:Nat):Int)<32<;>by_cases h2:(((s.getD i 0).toNat:Nat):Int) > 126<;>simp [h1,h2]<;>(intros;omega)
 · simp only [bf_.turn3,bf_.step3,dh_,cond_false,ai_]
theorem fE_ {s:Bs} (hs:s.length≤cY_):Ev (fun n _=>as_ n s) (hk_ s):=by
 refine aI_ ?_
 simp only [as_]
 refine hs_ (fun n N i=>as_.loop3 n (fun xy1=>(some (decide ((xy1.length:Int)≤60)))) N s (s.length:Int) (i:Int)) _ (fun i w hi ih => ?_) ?_
 · simp only [as_.turn3,as_.step3,Int.toNat_natCast,aE_,b7_,fq_,o5_,ai_,W_up hi hs,eA_ ih,dm_ hi,da_ hi]
   clear ih
   grind
 · simp only [as_.turn3,as_.step3,dh_,cond_false,ai_]
def pu_ (c:Nat) (l:List Bs):Prop:=l.length≤c∧∀ x ∈ l,x.length≤c
theorem id_ {c:Nat} {l:List Bs} (h:pu_ c l) (i:Nat):(l.getD i []).length≤c:=by
 by_cases hi:i<l.length
 · exact h.2 _ (cO_ [] hi)
 · rw [List.getD_eq_getElem?_getD,List.getElem?_eq_none (by omega)];exact Nat.zero_le _
def in_ (l:List Bs):Bool:=nX_ (fun i=>hk_ (l.getD i [])&&(decide (i=0)||Op.bytesLess (l.getD (i - 1) []) (l.getD i []))) l.length
theorem j2_ {l:List Bs} (h:pu_ cY_ l):Ev (fun n _=>ap_ n l) (in_ l):=by
 refine aI_ ?_
 simp only [ap_]
 refine js_ (hs_ (fun n N i=>ap_.loop3 n (some true) N l l (l.length:Int) (i:Int)) (fun i=>hk_ (l.getD i [])&&(decide (i=0)||Op.bytesLess (l.getD (i - 1) []) (l.getD i []))) (len:=l.length) (v:=true) (fun i w hi ih => ?_) ?_) (by rw [Bool.and_true];rfl)
 · simp only [ap_.turn3,ap_.step3,Int.toNat_natCast,W_up hi h.1,W_dn (i:=i) (by have:=h.1;omega),ob_,aE_,b7_,ae_ (fE_ (id_ h i)),ai_,eA_ ih,dm_ hi,da_ hi]
   clear ih
   repeat' (first|apply And.intro|intro _)
   all_goals (try rw [Bool.eq_iff_iff])
   all_goals (try simp only [Bool.not_eq_true',Bool.not_eq_false',decide_eq_true_eq,decide_eq_false_iff_not,Bool.and_eq_true,Bool.or_eq_true,Bool.and_eq_false_iff,Bool.or_eq_false_iff] at *)
   all_goals grind
 · simp only [ap_.turn3,ap_.step3,dh_,cond_false,ai_]
def n3_ (j:aa_):Bool:=cond (j.kind != 5) ((j.names.length:Int) == 0) (in_ j.names&&((j.names.length:Int) == (j.list.length:Int)))
theorem jC_ {j:aa_} (h:pu_ cY_ j.names):Ev (fun n _=>af_ n j) (n3_ j):=by
 refine aI_ ?_
 have hl:Ev (fun n _=>af_.loop6 n (fun xy2 xy3 xy4 xy5 xy6=>(some ((xy6.length:Int) == (xy5.length:Int)))) n 0 j.kind j.n_ j.s j.list j.names) (in_ j.names&&((j.names.length:Int) == (j.list.length:Int))):=by
  refine hs_ (fun n N i=>af_.loop6 n (fun xy2 xy3 xy4 xy5 xy6=>(some ((xy6.length:Int) == (xy5.length:Int)))) N (i:Int) j.kind j.n_ j.s j.list j.names) _ (fun i w hi ih => ?_) ?_
  · simp only [af_.turn6,af_.step6,Int.toNat_natCast,W_up hi h.1,W_dn (i:=i) (by have:=h.1;omega),ob_,aE_,b7_,ae_ (fA_ (id_ h i)),ai_,eA_ ih,dm_ hi,da_ hi]
    clear ih
    repeat' (first|apply And.intro|intro _)
    all_goals (try rw [Bool.eq_iff_iff])
    all_goals (try simp only [Bool.not_eq_true',Bool.not_eq_false',decide_eq_true_eq,decide_eq_false_iff_not,Bool.and_eq_true,Bool.or_eq_true,Bool.and_eq_false_iff,Bool.or_eq_false_iff] at *)
    all_goals grind
  · simp only [af_.turn6,af_.step6,dh_,cond_false,ai_]
 simp only [af_,aE_,ai_,eA_ hl,n3_]
 cases (j.kind != 5)<;>simp
end Go.Pi
end
section
namespace Go.Pi
def bi (l:Bs):List Int:=l.map fun c=>((c.toNat:Nat):Int)
theorem ip_ (l:Bs):fT_ (bi l)=l:=by
 unfold fT_ bi
 rw [List.map_map]
 refine (List.map_congr_left fun c _ => ?_).trans (List.map_id l)
 simp
theorem i6_ (l:Bs):(bi l).length=l.length:=List.length_map _
theorem bi_app (a b:Bs):bi (a++b)=bi a++bi b:=List.map_append
theorem i5_ (c:UInt8) (k:Nat) (d:UInt8) (hd:d.toNat=k):(((c.toNat:Nat):Int) == (k:Int))=decide (c=d):=by
 by_cases h:c=d
 · subst h;rw [hd];simp
 · rw [decide_eq_false h,beq_eq_false_iff_ne]
   intro e
   exact h (UInt8.toNat_inj.1 (by omega))
theorem byte34 (c:UInt8):(((c.toNat:Nat):Int) == 34)=decide (c=34):=i5_ c 34 34 rfl
theorem byte92 (c:UInt8):(((c.toNat:Nat):Int) == 92)=decide (c=92):=i5_ c 92 92 rfl
theorem byte126 (c:UInt8):(((c.toNat:Nat):Int) == 126)=decide (c=126):=i5_ c 126 126 rfl
theorem byte47 (c:UInt8):(((c.toNat:Nat):Int) == 47)=decide (c=47):=i5_ c 47 47 rfl
theorem e7_ (f:UInt8→Bs) (h:∀ c,(f c).length≤2):∀ s:Bs,(s.flatMap f).length≤2*s.length
 |[]=>Nat.le_refl _
 |c::s=>by
  have:=e7_ f h s
  have:=h c
  simp only [List.flatMap_cons,List.length_append,List.length_cons];omega
theorem mY_ (f:UInt8→Bs) {s:Bs} {i:Nat} (h:i<s.length):(s.take (i+1)).flatMap f=(s.take i).flatMap f++f (s.getD i 0):=by
 rw [dg_ 0 h,List.flatMap_append];simp
def eO_ (c:UInt8):Bs:=if c=34∨c=92 then [92,c] else [c]
theorem h0_ (c:UInt8):(eO_ c).length≤2:=by unfold eO_;split<;>simp
def do_ (s:Bs):Bs:=34::s.flatMap eO_++[34]
theorem fa_ (s:Bs):(do_ s).length≤2*s.length+2:=by
 have:=e7_ eO_ h0_ s
 simp only [do_,List.cons_append,List.length_cons,List.length_append,List.length_nil];omega
theorem q2 (o:Bs) (c:UInt8):bi (34::(o++[92,c]))=(bi (34::o)++[92])++[((c.toNat:Nat):Int)]:=by simp [bi]
theorem q1 (o:Bs) (c:UInt8):bi (34::(o++[c]))=bi (34::o)++[((c.toNat:Nat):Int)]:=by simp [bi]
theorem qEnd (o:Bs):fT_ (bi (34::o)++[34])=34::o++[34]:=by
 have:bi (34::o)++[34]=bi (34::o++[34]):=by simp [bi]
 rw [this,ip_]
theorem gw_ {s:Bs} (hs:s.length≤1000000):Ev (fun n _=>a4_ n s) (do_ s):=by
 refine aI_ ?_
 have ht:s.length≤cY_:=by simp only [cY_];omega
 simp only [a4_]
 have:=eY_ (fun i=>bi (34::(s.take i).flatMap eO_)) s.length (fun n N i (o:List Int)=>a4_.loop4 n (fun xy1=>(cF_ (xy1.length+([34]:List Int).length) 1 (some (fT_ (xy1++([34]:List Int)))))) N s (i:Int) o) (do_ s) (fun i hi F hF => ?_) ?_
 · exact this
 · have hl:=e7_ eO_ h0_ (s.take i)
   rw [List.length_take] at hl
   rw [mY_ eO_ hi] at hF
   generalize (s.take i).flatMap eO_=o at hF hl ⊢
   have hb:=i6_ (34::o)
   simp only [List.length_cons] at hb
   simp only [a4_.turn4,a4_.step4,Int.toNat_natCast,W_up hi ht,aE_,b7_,cu_,dm_ hi,da_ hi,byte34,byte92]
   generalize s.getD i 0=c at hF ⊢
   unfold eO_ at hF
   by_cases h1:c=34
   · rw [if_pos (.inl h1),q2] at hF
     simp only [h1,decide_true] at hF ⊢
     repeat' (first|apply And.intro|intro _)
     all_goals (first|contradiction|exact hF|trivial|(simp [hb];omega))
   · by_cases h2:c=92
     · rw [if_pos (.inr h2),q2] at hF
       simp only [h2,decide_true] at hF ⊢
       repeat' (first|apply And.intro|intro _)
       all_goals (first|contradiction|exact hF|trivial|(simp [hb];omega))
     · rw [if_neg (fun h=>h.elim h1 h2),q1] at hF
       simp only [h1,h2,decide_false] at hF ⊢
       repeat' (first|apply And.intro|intro _)
       all_goals (first|contradiction|exact hF|trivial|(simp [hb];omega))
 · have hl:=e7_ eO_ h0_ s
   have hb:=i6_ (34::s.flatMap eO_)
   simp only [List.length_cons] at hb
   simp only [a4_.turn4,a4_.step4,dh_,cond_false,cu_,List.take_length,ai_,qEnd]
   exact ⟨by simp only [hb,List.length_cons,List.length_nil];omega,rfl⟩
theorem hp_ {s:Bs} (hs:s.length≤1000000):Ev (fun n _=>bi_ n s) (do_ s):=by
 refine aI_ ?_
 have ht:s.length≤cY_:=by simp only [cY_];omega
 simp only [bi_]
 have:=eY_ (fun i=>bi (34::(s.take i).flatMap eO_)) s.length (fun n N i (o:List Int)=>bi_.loop4 n (fun xy1=>(cF_ (xy1.length+([34]:List Int).length) 1 (some (fT_ (xy1++([34]:List Int)))))) N s (s.length:Int) (i:Int) o) (do_ s) (fun i hi F hF => ?_) ?_
 · exact this
 · have hl:=e7_ eO_ h0_ (s.take i)
   rw [List.length_take] at hl
   rw [mY_ eO_ hi] at hF
   generalize (s.take i).flatMap eO_=o at hF hl ⊢
   have hb:=i6_ (34::o)
   simp only [List.length_cons] at hb
   simp only [bi_.turn4,bi_.step4,Int.toNat_natCast,W_up hi ht,aE_,b7_,cu_,dm_ hi,da_ hi,byte34,byte92]
   generalize s.getD i 0=c at hF ⊢
   unfold eO_ at hF
   by_cases h1:c=34
   · rw [if_pos (.inl h1),q2] at hF
     simp only [h1,decide_true] at hF ⊢
     repeat' (first|apply And.intro|intro _)
     all_goals (first|contradiction|exact hF|trivial|(simp [hb];omega))
   · by_cases h2:c=92
     · rw [if_pos (.inr h2),q2] at hF
       simp only [h2,decide_true] at hF ⊢
       repeat' (first|apply And.intro|intro _)
       all_goals (first|contradiction|exact hF|trivial|(simp [hb];omega))
     · rw [if_neg (fun h=>h.elim h1 h2),q1] at hF
       simp only [h1,h2,decide_false] at hF ⊢
       repeat' (first|apply And.intro|intro _)
       all_goals (first|contradiction|exact hF|trivial|(simp [hb];omega))
 · have hl:=e7_ eO_ h0_ s
   have hb:=i6_ (34::s.flatMap eO_)
   simp only [List.length_cons] at hb
   simp only [bi_.turn4,bi_.step4,dh_,cond_false,cu_,List.take_length,ai_,qEnd]
   exact ⟨by simp only [hb,List.length_cons,List.length_nil];omega,rfl⟩
end Go.Pi
end
section
namespace Go.Pi
theorem e8_ (a b:UInt8) (l:Bs):Lib.index (b::l) [a]=if a=b then 0 else if Lib.index l [a] = -1 then -1 else Lib.index l [a]+1:=by
 rw [Lib.index]
 have:List.isPrefixOf [a] (b::l)=decide (a=b):=by
  simp only [List.isPrefixOf,Bool.and_true]
  exact Bool.eq_iff_iff.2 (by simp)
 rw [this]
 by_cases h:a=b
 · rw [decide_eq_true h,if_pos rfl,if_pos h]
 · rw [decide_eq_false h,if_neg (by simp),if_neg h]
   by_cases h2:Lib.index l [a] = -1
   · rw [h2,if_pos rfl,if_pos (by decide)]
   · rw [if_neg h2,if_neg (by simpa using h2)]
theorem nt_ {a b:UInt8} (h:a≠b) (new l:Bs):∀ k,Lib.replaceK [a] new k (b::l)=b::Lib.replaceK [a] new k l
 |0=>rfl
 |k+1=>by
  rw [Lib.replaceK,Lib.replaceK,e8_,if_neg h]
  by_cases h2:Lib.index l [a] = -1
  · rw [if_pos h2,if_pos (by decide),h2,if_pos (by decide)]
  · have:=Lib.index_ge l [a]
    obtain ⟨i,hi⟩:∃ i:Nat,Lib.index l [a]=i:=⟨(Lib.index l [a]).toNat,by omega⟩
    rw [if_neg h2,if_neg (by rw [hi];simp<;>omega),if_neg (by rw [hi];simp<;>omega),hi,show ((i:Int)+1).toNat=i+1 by omega,show ((i:Int)).toNat=i by omega]
    rfl
theorem nu_ (a:UInt8) (new l:Bs) (k:Nat):Lib.replaceK [a] new (k+1) (a::l)=new++Lib.replaceK [a] new k l:=by
 rw [Lib.replaceK,e8_,if_pos rfl,if_neg (by decide)]
 rfl
theorem gE_ (a:UInt8) (new:Bs):∀ (s:Bs) (k:Nat),s.count a≤k→Lib.replaceK [a] new k s=s.flatMap fun c=>if c=a then new else [c]
 |[],0,_=>rfl
 |[],k+1,_=>by
  rw [Lib.replaceK]
  have:Lib.index [] [a] = -1:=rfl
  rw [this,if_pos (by decide)];rfl
 |b::l,k,h=>by
  by_cases e:b=a
  · subst e
    rw [List.count_cons_self] at h
    obtain ⟨k,rfl⟩:∃ m,k=m+1:=⟨k - 1,by omega⟩
    rw [nu_,gE_ b new l k (by omega),List.flatMap_cons,if_pos rfl]
  · rw [List.count_cons_of_ne e] at h
    rw [nt_ (fun h=>e h.symm),gE_ a new l k h,List.flatMap_cons,if_neg e];rfl
theorem f9_ (a:UInt8):∀ (s:Bs) (f:Nat),s.length<f→Lib.countFrom [a] f s=s.count a
 |[],f+1,_=>by
  rw [Lib.countFrom]
  have:Lib.index [] [a] = -1:=rfl
  rw [this,if_pos (by decide)];rfl
 |b::l,f+1,h=>by
  have hl:l.length<f:=by simpa using h
  by_cases e:a=b
  · subst e
    rw [List.count_cons_self,Lib.countFrom,e8_,if_pos rfl,if_neg (by decide)]
    show 1+Lib.countFrom [a] f l=_
    rw [f9_ a l f hl];omega
  · rw [List.count_cons_of_ne (fun h=>e h.symm),←f9_ a l (f+1) (by omega),Lib.countFrom,Lib.countFrom,e8_,if_neg e]
    by_cases h2:Lib.index l [a] = -1
    · rw [if_pos h2,if_pos (by decide),h2,if_pos (by decide)]
    · have:=Lib.index_ge l [a]
      obtain ⟨i,hi⟩:∃ i:Nat,Lib.index l [a]=i:=⟨(Lib.index l [a]).toNat,by omega⟩
      rw [if_neg h2,if_neg (by rw [hi];simp<;>omega),if_neg (by rw [hi];simp<;>omega),hi,show ((i:Int)+1).toNat=i+1 by omega,show ((i:Int)).toNat=i by omega]
      rfl
theorem ka_ (a:UInt8) (s:Bs):Lib.count s [a]=s.count a:=f9_ a s _ (Nat.lt_succ_self _)
theorem kv_ (a:UInt8) (new s:Bs) (hne:([a] == new)=false):Lib.replaceAll s [a] new=s.flatMap fun c=>if c=a then new else [c]:=by
 unfold Lib.replaceAll Lib.replace Lib.replaceNum
 rw [hne,if_neg (by simp),if_pos (.inl (by decide)),ka_]
 exact gE_ a new s _ (Nat.le_refl _)
theorem ik_ {a b c:UInt8} {s:Bs} (hs:s.length≤1000000) (hne:([a] == [b,c])=false):Ev (fun n _=>strings_ReplaceAll n s [a] [b,c]) (s.flatMap fun x=>if x=a then [b,c] else [x]):=by
 refine aI_ ?_
 have:=List.count_le_length (a:=a) (l:=s)
 simp only [strings_ReplaceAll,fe_,ka_,kv_ a [b,c] s hne,aE_,ai_,dl_]
 refine ⟨fun _=>trivial,fun h => ?_⟩
 have e1:decide (s.length<4294967281)=true:=decide_eq_true (by omega)
 have e2:decide (1≤[a].length)=true:=rfl
 have e3:decide (s.length+List.count a s*[b,c].length≤140737488355328)=true:=decide_eq_true (by simp only [List.length_cons,List.length_nil];omega)
 rw [e1,e2,e3] at h;cases h
def fn_ (c:UInt8):Bs:=if c=126 then [126,48] else if c=47 then [126,49] else [c]
theorem n5_ (c:UInt8):(fn_ c).length≤2:=by
 unfold fn_
 split
 · simp
 · split<;>simp
theorem wesc_two (s:Bs):((s.flatMap fun x=>if x=126 then [126,48] else [x]).flatMap fun x=>if x=47 then [126,49] else [x])=s.flatMap fn_:=by
 induction s with
 |nil=>rfl
 |cons c s ih=>
  rw [List.flatMap_cons,List.flatMap_append,ih,List.flatMap_cons]
  congr 1
  unfold fn_
  by_cases h1:c=126
  · subst h1;rfl
  · by_cases h2:c=47
    · subst h2;rfl
    · rw [if_neg h1,if_neg h1,if_neg h2];simp [h2]
def FWay (w:List Bs):Bs:=w.flatMap fun s=>47::s.flatMap fn_
theorem n6_ {w:List Bs} {i:Nat} (h:i<w.length):FWay (w.take (i+1))=FWay (w.take i)++(47::(w.getD i []).flatMap fn_):=by
 unfold FWay
 rw [dg_ [] h,List.flatMap_append];simp
theorem ma_ {w:List Bs} {c:Nat} (h:∀ s ∈ w,s.length≤c):(FWay w).length≤w.length*(2*c+1):=by
 induction w with
 |nil=>exact Nat.zero_le _
 |cons s w ih=>
  have h1:=e7_ fn_ n5_ s
  have h2:=h s (List.mem_cons_self ..)
  have h3:=ih fun x hx=>h x (List.mem_cons_of_mem _ hx)
  have e:FWay (s::w)=(47::s.flatMap fn_)++FWay w:=rfl
  rw [e,List.length_append,List.length_cons,List.length_cons,Nat.add_mul];omega
theorem oc_ {w:List Bs} {c:Nat} (h:∀ s ∈ w,s.length≤c) (i:Nat):∀ s ∈ w.take i,s.length≤c:=fun s hs=>h s (List.mem_of_mem_take hs)
theorem gL_ {w:List Bs} (hw:w.length≤6) (hs:∀ s ∈ w,s.length≤60):Ev (fun n _=>a6_ n w) (FWay w):=by
 refine aI_ ?_
 have ht:w.length≤cY_:=by simp only [cY_];omega
 simp only [a6_]
 have:=eY_ (fun i=>FWay (w.take i)) w.length (fun n N i (o:Bs)=>a6_.loop4 n (fun xy3=>(some xy3)) N o w (w.length:Int) (i:Int)) (FWay w) (fun i hi F hF => ?_) ?_
 · exact this
 · have h1:=hs _ (cO_ [] hi)
   have h2:=e7_ fn_ n5_ (w.getD i [])
   have h3:=ma_ (oc_ hs i)
   rw [List.length_take] at h3
   rw [n6_ hi] at hF
   have r1:=ik_ (a:=126) (b:=126) (c:=48) (s:=w.getD i []) (by omega) (by decide)
   have h4:=e7_ (fun x=>if x=126 then [126,48] else [x]) (fun c=>by split<;>simp) (w.getD i [])
   have r2:=ik_ (a:=47) (b:=126) (c:=49) (s:=(w.getD i []).flatMap fun x=>if x=126 then [126,48] else [x]) (by omega) (by decide)
   rw [wesc_two] at r2
   generalize FWay (w.take i)=o at hF h3 ⊢
   simp only [a6_.turn4,a6_.step4,Int.toNat_natCast,W_up hi ht,aE_,b7_,dl_,dm_ hi,da_ hi,ae_ r1,ae_ r2]
   generalize (w.getD i []).flatMap fn_=e at hF h2 ⊢
   have e2:([47]:Bs)++e=47::e:=rfl
   rw [e2]
   refine ⟨fun _=>⟨trivial,fun _=>⟨fun _=>hF,fun h => ?_⟩,fun h => ?_⟩,fun h=>(by cases h)⟩
   · have h:=of_decide_eq_false h
     simp only [List.length_cons] at h;omega
   · have h:=of_decide_eq_false h
     simp only [List.length_cons,List.length_nil] at h;omega
 · simp only [a6_.turn4,a6_.step4,dh_,cond_false,List.take_length,ai_]
theorem h7_ {α:Type} {i len:Nat} {x:Option α} (h:i<len):inB (i:Int) len x=x:=by
 unfold inB
 rw [decide_eq_true (by omega),decide_eq_true (by omega)];rfl
theorem hY_ {α:Type} {n b:Nat} {x:Option α} (h:n*b≤140737488355328):cF_ n b x=x:=by
 unfold cF_
 rw [decide_eq_true h];rfl
theorem lZ_ {α:Type} {f g:Nat→Nat→Option α} {v:α} (M:Nat) (h:∀ n N,M≤n→f n N=g n N) (hg:Ev g v):Ev f v:=by
 obtain ⟨M',hM⟩:=hg
 exact ⟨max M M',fun n N h1 h2=>by rw [h n N (by omega)];exact hM n N (by omega) (by omega)⟩
theorem mg_ (n:Nat) (k2:List Bs→Int→List Int→Option Bs) {w:List Bs} {i:Nat} (hi:i<w.length) (hl:(w.getD i []).length≤1000000):∀ (d j m:Nat) (o:List Int),j+d=(w.getD i []).length→d<m→o.length+2*d≤100000000 →
  ar_.loop10 n k2 m w (i:Int) (j:Int) o=k2 w (i:Int) (o++bi (((w.getD i []).drop j).flatMap fn_))
 |0,j,m+1,o,hj,_,_=>by
  have e:(j:Int)=((w.getD i []).length:Int):=by omega
  have e2:(w.getD i []).drop j=[]:=List.drop_eq_nil_of_le (by omega)
  rw [ar_.turn10,ar_.step10,Int.toNat_natCast,h7_ hi,e,dh_,e2]
  simp [bi]
 |d+1,j,m+1,o,hj,hm,ho=>by
  have hjl:j<(w.getD i []).length:=by omega
  have ih:=fun o=>mg_ n k2 hi hl d (j+1) m o (by omega) (by omega)
  have e1:(w.getD i []).drop j=(w.getD i []).getD j 0::(w.getD i []).drop (j+1):=dB_ 0 hjl
  rw [ar_.turn10,ar_.step10,Int.toNat_natCast,Int.toNat_natCast,h7_ hi,h7_ hi,h7_ hi,h7_ hjl,h7_ hjl,dm_ hjl,W_up hjl (show (w.getD i []).length≤cY_ by simp only [cY_];omega),byte126,byte47,e1,List.flatMap_cons,bi_app,←List.append_assoc]
  generalize (w.getD i []).getD j 0=c
  rw [hY_ (by simp;omega),hY_ (by simp;omega),hY_ (by simp;omega)]
  unfold fn_
  by_cases h1:c=126
  · rw [decide_eq_true h1,if_pos h1]
    exact ih _ (by simp;omega)
  · by_cases h2:c=47
    · rw [decide_eq_false h1,decide_eq_true h2,if_neg h1,if_pos h2]
      exact ih _ (by simp;omega)
    · rw [decide_eq_false h1,decide_eq_false h2,if_neg h1,if_neg h2]
      exact ih _ (by simp;omega)
theorem jD_ {w:List Bs} (hw:w.length≤6) (hs:∀ s ∈ w,s.length≤60):Ev (fun n _=>ar_ n w) (FWay w):=by
 refine aI_ ?_
 have ht:w.length≤cY_:=by simp only [cY_];omega
 simp only [ar_]
 have:=eY_ (fun i=>bi (FWay (w.take i))) w.length (fun n N i (o:List Int)=>ar_.loop4 n (fun xy4=>(some (fT_ xy4))) N w (i:Int) o) (FWay w) (fun i hi F hF => ?_) ?_
 · exact this
 · have h1:=hs _ (cO_ [] hi)
   have h3:=ma_ (oc_ hs i)
   rw [List.length_take] at h3
   rw [n6_ hi] at hF
   generalize FWay (w.take i)=o at hF h3 ⊢
   have hb:=i6_ o
   simp only [ar_.turn4,ar_.step4,dm_ hi,cond_true,cu_]
   refine ⟨by simp [hb];omega,lZ_ 61 (fun n N hn=>mg_ n _ hi (by omega) (w.getD i []).length 0 n _ (by omega) (by omega) (by simp only [hb,List.length_append,List.length_cons,List.length_nil];omega)) ?_⟩
   simp only [W_up hi ht,List.drop_zero]
   have e:bi (o++47::(w.getD i []).flatMap fn_)=bi o++([47]:List Int)++bi ((w.getD i []).flatMap fn_):=by simp [bi]
   rw [e] at hF
   exact hF
 · simp only [ar_.turn4,ar_.step4,dh_,cond_false,List.take_length,ai_,ip_]
end Go.Pi
end
section
namespace Go.Pi
theorem jY_ (k:Int):k=0∨k=1∨k=2∨k=3∨k=4∨k=5∨(k≠0∧k≠1∧k≠2∧k≠3∧k≠4∧k≠5):=by omega
theorem lL_ {α:Type} (l:List α):decide (l.length=0) = !decide ((l.length:Int) > 0):=by
 by_cases hz:l.length=0
 · rw [hz];rfl
 · rw [decide_eq_false hz,decide_eq_true (show (l.length:Int) > 0 by omega)];rfl
def FOwnK (j:aa_):Bool :=
 cond (j.kind == 1) (inn j.n_ 0 1) (cond (j.kind == 2) (inn j.n_ (-1000000000) 1000000000) (cond (j.kind == 3) (hk_ j.s) (cond (j.kind == 5) (((j.names.length:Int) == (j.list.length:Int))&&in_ j.names) ((j.kind == 0)||(j.kind == 4)))))
def FOwn (j:aa_):Bool :=
 (decide (j.list.length=0)||((j.kind == 4)||(j.kind == 5)))&&((decide (j.names.length=0)||(j.kind == 5))&&(((j.n_ == 0)||((j.kind == 1)||(j.kind == 2)))&&(((j.s == [])||(j.kind == 3))&&FOwnK j)))
def lenJ1 (j:aa_):Prop:=j.s.length≤cY_∧pu_ cY_ j.names
theorem lT_ {j:aa_} (h:lenJ1 j):Ev (fun n _=>c2_ n j) (FOwn j):=by
 refine aI_ ?_
 simp only [c2_,aE_,fq_,isNum_b,ae_ (fE_ h.1),ae_ (j2_ h.2),ai_]
 unfold FOwn FOwnK
 have e1:=lL_ j.list
 have e2:=lL_ j.names
 rw [e1,e2]
 generalize decide ((j.list.length:Int) > 0)=a
 generalize decide ((j.names.length:Int) > 0)=b
 generalize (j.s == [])=c
 have e3:(j.n_ != 0) = !(j.n_ == 0):=rfl
 rw [e3]
 generalize hd:(j.n_ == 0)=d
 generalize hk_ j.s=ft
 generalize in_ j.names=fn
 generalize ((j.names.length:Int) == (j.list.length:Int))=eq
 rcases jY_ j.kind with hk|hk|hk|hk|hk|hk|⟨k0,k1,k2,k3,k4,k5⟩
 all_goals (first|simp only [hk]|simp only [beq_eq_false_iff_ne.2 k0,beq_eq_false_iff_ne.2 k1,beq_eq_false_iff_ne.2 k2,beq_eq_false_iff_ne.2 k3,beq_eq_false_iff_ne.2 k4,beq_eq_false_iff_ne.2 k5,bne])
 all_goals (cases a<;>cases b<;>cases c<;>cases d<;>simp)
 all_goals (cases eq<;>simp)
def bE_:Nat→aa_→Nat
 |0,_=>401
 |d+1,j=>cond (FOwn j) (min 401 (1+ei_ (bE_ d) j.list)) 401
theorem FSize_le:∀ (d:Nat) (j:aa_),bE_ d j≤401
 |0,_=>Nat.le_refl _
 |d+1,j=>by
  simp only [bE_]
  cases FOwn j<;>simp only [cond_true,cond_false]<;>omega
def fg_:Nat→aa_→Prop
 |0,_=>True
 |d+1,j=>lenJ1 j∧j.list.length≤cY_∧∀ x ∈ j.list,fg_ d x
theorem getD_json {d:Nat} {l:List aa_} (h:∀ x ∈ l,fg_ d x) {i:Nat} (hi:i<l.length):fg_ d (l.getD i aa_.dflt):=h _ (cO_ _ hi)
theorem ho_:∀ (d:Nat) (j:aa_),d≤1000→fg_ d j→Ev (fun n _=>a7_ n j (d:Int)) (bE_ d j:Int)
 |0,j,_,_=>by
  refine aI_ ?_
  simp only [a7_,aE_,ai_]
  exact ⟨fun _=>rfl,fun h=>by simp at h⟩
 |d+1,j,hd,h=>by
  refine aI_ ?_
  have hW:W (((d+1:Nat):Int) - 1)=(d:Int):=by rw [W_id (by omega) (by omega)];omega
  simp only [a7_,bh_,aE_,ae_ (lT_ h.1),ai_,bE_]
  refine ⟨fun hc=>by have:=of_decide_eq_true hc;omega,fun _ => ?_⟩
  cases ho:FOwn j with
  |false=>exact ⟨fun _=>rfl,fun h=>by cases h⟩
  |true=>
   refine ⟨fun h=>(by cases h),fun _ => ?_⟩
   have ht:=h.2.1
   have key:∀ (k i:Nat) (s:Nat),k+i=j.list.length→s≤400→Ev (fun n N=>a7_.loop7 n (a7_ n) (fun xy3=>some xy3) N ((d+1:Nat):Int) (s:Int) j.list (j.list.length:Int) (i:Int)) ((min 401 (s+ei_ (bE_ d) (j.list.drop i)):Nat):Int):=by
    intro k
    induction k with
    |zero=>
     intro i s hi hs
     have:i=j.list.length:=by omega
     subst this
     refine bm_ ?_
     simp only [a7_.turn7,a7_.step7,dh_,cond_false,ai_,List.drop_length,ei_]
     omega
    |succ k ih=>
     intro i s hi hs
     have hlt:i<j.list.length:=by omega
     refine bm_ ?_
     have hc:=ho_ d (j.list.getD i aa_.dflt) (by omega) (getD_json h.2.2 hlt)
     have hle:=FSize_le d (j.list.getD i aa_.dflt)
     have hw:W ((s:Int)+(bE_ d (j.list.getD i aa_.dflt):Int))=((s+bE_ d (j.list.getD i aa_.dflt):Nat):Int):=by rw [W_id (by omega) (by omega)];omega
     simp only [a7_.turn7,a7_.step7,bh_,Int.toNat_natCast,hW,W_up hlt ht,aE_,b7_,dm_ hlt,da_ hlt,ae_ hc,hw,ai_]
     rw [hS_ (bE_ d) aa_.dflt hlt]
     refine ⟨fun _=>⟨trivial,fun hg => ?_,fun hg => ?_⟩,fun h=>(by cases h)⟩
     · have:=of_decide_eq_true hg;omega
     · have:=of_decide_eq_false hg
       rw [show s+(bE_ d (j.list.getD i aa_.dflt)+ei_ (bE_ d) (j.list.drop (i+1)))=(s+bE_ d (j.list.getD i aa_.dflt))+ei_ (bE_ d) (j.list.drop (i+1)) by omega]
       exact ih (i+1) _ (by omega) (by omega)
   have:=key j.list.length 0 1 (by omega) (by omega)
   rw [List.drop_zero] at this
   exact c5_ (f:=fun n N=>a7_.loop7 n (a7_ n) (fun xy3=>some xy3) N ((d+1:Nat):Int) 1 j.list (j.list.length:Int) 0) this
def co_ (j:aa_):Bool:=decide (bE_ 6 j≤400)
theorem dq_ {j:aa_} (h:fg_ 6 j):Ev (fun n _=>b0_ n j) (co_ j):=by
 refine aI_ ?_
 have e:Ev (fun n _=>a7_ n j 6) (bE_ 6 j:Int):=ho_ 6 j (by omega) h
 simp only [b0_,bh_,ae_ e,ai_,co_]
 by_cases hq:bE_ 6 j≤400
 · rw [decide_eq_true hq,decide_eq_true (by omega)]
 · rw [decide_eq_false hq,decide_eq_false (by omega)]
end Go.Pi
end
section
namespace Go.Pi
def Great (d:Nat) (j:aa_):Prop:=∃ v:Nat,v≤401+401*d∧min 401 v=bE_ d j∧Ev (fun n _=>aG_ n j (d:Int)) (v:Int)
theorem pB_ {d:Nat} {l:List aa_} (hd:d≤1000) (ht:l.length≤cY_) (ih:∀ x ∈ l,Great d x) (kd nn:Int) (s:Bs) (ns:List Bs) :
  ∃ w:Nat,w≤401+401*(d+1)∧min 401 w=min 401 (1+ei_ (bE_ d) l)∧∀ (K:Nat→aG_.K23_1) (F:Int),Ev (fun n N=>K n 401 (w:Int) kd nn s l ns) F→Ev (fun n _=>aG_.loop23 n (aG_ n) (K n) n ((d+1:Nat):Int) 401 1 0 kd nn s l ns) F:=by
 have hW:W (((d+1:Nat):Int) - 1)=(d:Int):=by rw [W_id (by omega) (by omega)];omega
 have key:∀ (k i:Nat) (m:Nat),k+i=l.length→m≤401+401*(d+1)→∃ w:Nat,w≤401+401*(d+1)∧min 401 w=min 401 (m+ei_ (bE_ d) (l.drop i))∧∀ (K:Nat→aG_.K23_1) (F:Int),Ev (fun n N=>K n 401 (w:Int) kd nn s l ns) F →
   Ev (fun n N=>aG_.loop23 n (aG_ n) (K n) N ((d+1:Nat):Int) 401 (m:Int) (i:Int) kd nn s l ns) F:=by
  intro k
  induction k with
  |zero=>
   intro i m hi hm
   have:i=l.length:=by omega
   subst this
   refine ⟨m,hm,by simp [ei_],fun K F hF=>bm_ ?_⟩
   simp only [aG_.turn23,aG_.step23,dh_,cond_false]
   exact hF
  |succ k ihk=>
   intro i m hi hm
   have hlt:i<l.length:=by omega
   by_cases hg:m≤400
   · obtain ⟨v,hv1,hv2,hv3⟩:=ih _ (cO_ aa_.dflt hlt)
     have hw:W ((m:Int)+(v:Int))=((m+v:Nat):Int):=by rw [W_id (by omega) (by omega)];omega
     obtain ⟨w,a1,a2,a3⟩:=ihk (i+1) (m+v) (by omega) (by omega)
     refine ⟨w,a1,?_,fun K F hF=>bm_ ?_⟩
     · rw [a2,hS_ (bE_ d) aa_.dflt hlt,←hv2];omega
     · simp only [aG_.turn23,aG_.step23,bh_,Int.toNat_natCast,hW,W_up hlt ht,aE_,b7_,dm_ hlt,da_ hlt,ae_ hv3,hw]
       exact ⟨fun _=>⟨fun _=>⟨trivial,a3 K F hF⟩,fun h=>by have:=of_decide_eq_false h;omega⟩,fun h=>(by cases h)⟩
   · refine ⟨m,hm,by omega,fun K F hF=>bm_ ?_⟩
     simp only [aG_.turn23,aG_.step23,Int.toNat_natCast,aE_,dm_ hlt]
     exact ⟨fun _=>⟨fun h=>by have:=of_decide_eq_true h;omega,fun _=>hF⟩,fun h=>(by cases h)⟩
 obtain ⟨w,a1,a2,a3⟩:=key l.length 0 1 (by omega) (by omega)
 rw [List.drop_zero] at a2
 exact ⟨w,a1,a2,fun K F hF=>c5_ (f:=fun n N=>aG_.loop23 n (aG_ n) (K n) N ((d+1:Nat):Int) 401 1 0 kd nn s l ns) (a3 K F hF)⟩
theorem dj_ (j:aa_):aa_.mk j.kind j.n_ j.s j.list j.names=j:=by cases j;rfl
theorem gx_:∀ (d:Nat) (j:aa_),d≤1000→fg_ d j→Great d j
 |0,j,_,_=>by
  refine ⟨401,by omega,rfl,aI_ ?_⟩
  simp only [aG_,aE_,ai_]
  exact ⟨fun _=>rfl,fun h=>by simp at h⟩
 |d+1,j,hd,h=>by
  obtain ⟨w,w1,w2,w3⟩:=pB_ (d:=d) (l:=j.list) (by omega) h.2.1 (fun x hx=>gx_ d x (by omega) (h.2.2 x hx)) j.kind j.n_ j.s j.names
  have hz:((((d+1:Nat):Int)) == 0)=false:=by simp;omega
  have hN:=jC_ (j:=j) h.1.2
  obtain ⟨v,hv⟩:∃ v:Nat,v=cond (FOwn j) (cond ((j.kind == 4)||(j.kind == 5)) w 1) 401:=⟨_,rfl⟩
  refine ⟨v,?_,?_,aI_ ?_⟩
  · rw [hv];cases FOwn j<;>cases ((j.kind == 4)||(j.kind == 5))<;>simp only [cond_true,cond_false]<;>omega
  · rw [hv]
    simp only [bE_]
    cases ho:FOwn j with
    |false=>rfl
    |true=>
     cases hk:((j.kind == 4)||(j.kind == 5)) with
     |true=>simp only [cond_true];exact w2
     |false=>
      have:j.list=[]:=by
       unfold FOwn at ho
       rw [hk,Bool.or_false] at ho
       simp only [Bool.and_eq_true,decide_eq_true_eq] at ho
       exact List.eq_nil_of_length_eq_zero ho.1
      rw [this];rfl
  · have hT:=fA_ (s:=j.s) h.1.1
    have e1:=lL_ j.list
    have e2:=lL_ j.names
    have e4:((j.names.length:Int) == 0) = !decide ((j.names.length:Int) > 0):=by
     by_cases hz:j.names.length=0
     · rw [hz];rfl
     · rw [beq_eq_false_iff_ne.2 (show (j.names.length:Int)≠0 by omega),decide_eq_true (show (j.names.length:Int) > 0 by omega)];rfl
    subst hv
    unfold FOwn FOwnK
    unfold n3_ at hN
    rw [e1,e2]
    rw [e4] at hN
    simp only [aG_,bh_,hz,cond_false,aE_,l1In_b,ae_ hT,ae_ hN,ai_,bne]
    rcases jY_ j.kind with hk|hk|hk|hk|hk|hk|⟨k0,k1,k2,k3,k4,k5⟩
    case inr.inr.inr.inr.inl=>
     have hj:aa_.mk 4 j.n_ j.s j.list j.names=j:=by rw [←hk];exact dj_ j
     rw [hk] at w3
     simp only [hk,Int.reduceBEq,Int.reduceLT,Int.reduceLE,Int.reduceNeg,ge_iff_le,gt_iff_lt,decide_true,decide_false,Bool.not_false,Bool.not_true,Bool.or_true,Bool.true_or,Bool.or_false,Bool.false_or,Bool.and_true,Bool.true_and,Bool.not_not,forall_const,reduceCtorEq,false_implies,true_and,and_true,implies_true,cond_true,cond_false] at hN ⊢
     refine w3 _ _ ?_
     simp only [hj,aE_,ae_ hN,ai_,Int.reduceBEq,Int.reduceLT,Int.reduceLE,Int.reduceNeg,ge_iff_le,gt_iff_lt,decide_true,decide_false,Bool.not_false,Bool.not_true,Bool.or_true,Bool.true_or,Bool.or_false,Bool.false_or,Bool.and_true,Bool.true_and,Bool.not_not,forall_const,reduceCtorEq,false_implies,true_and,and_true,implies_true,cond_true,cond_false]
     clear hN w3 hT e1 e2 e4 hj
     generalize decide (0<(j.names.length:Int))=b
     generalize (j.s == [])=c
     generalize hd:(j.n_ == 0)=dd
     cases b<;>cases c<;>cases dd<;>simp
    case inr.inr.inr.inr.inr.inl=>
     have hj:aa_.mk 5 j.n_ j.s j.list j.names=j:=by rw [←hk];exact dj_ j
     rw [hk] at w3
     simp only [hk,Int.reduceBEq,Int.reduceLT,Int.reduceLE,Int.reduceNeg,ge_iff_le,gt_iff_lt,decide_true,decide_false,Bool.not_false,Bool.not_true,Bool.or_true,Bool.true_or,Bool.or_false,Bool.false_or,Bool.and_true,Bool.true_and,Bool.not_not,forall_const,reduceCtorEq,false_implies,true_and,and_true,implies_true,cond_true,cond_false] at hN ⊢
     refine w3 _ _ ?_
     simp only [hj,aE_,ae_ hN,ai_,Int.reduceBEq,Int.reduceLT,Int.reduceLE,Int.reduceNeg,ge_iff_le,gt_iff_lt,decide_true,decide_false,Bool.not_false,Bool.not_true,Bool.or_true,Bool.true_or,Bool.or_false,Bool.false_or,Bool.and_true,Bool.true_and,Bool.not_not,forall_const,reduceCtorEq,false_implies,true_and,and_true,implies_true,cond_true,cond_false]
     clear hN w3 hT e1 e2 e4 hj
     generalize in_ j.names=fn
     generalize ((j.names.length:Int) == (j.list.length:Int))=eq
     generalize (j.s == [])=c
     generalize hd:(j.n_ == 0)=dd
     cases fn<;>cases eq<;>cases c<;>cases dd<;>simp
    case inr.inr.inr.inr.inr.inr=>
     simp only [beq_eq_false_iff_ne.2 k0,beq_eq_false_iff_ne.2 k1,beq_eq_false_iff_ne.2 k2,beq_eq_false_iff_ne.2 k3,beq_eq_false_iff_ne.2 k4,beq_eq_false_iff_ne.2 k5,Int.reduceBEq,Int.reduceLT,Int.reduceLE,Int.reduceNeg,ge_iff_le,gt_iff_lt,decide_true,decide_false,Bool.not_false,Bool.not_true,Bool.or_true,Bool.true_or,Bool.or_false,Bool.false_or,Bool.and_true,Bool.true_and,Bool.not_not,forall_const,reduceCtorEq,false_implies,true_and,and_true,implies_true,cond_true,cond_false,Bool.and_false,Bool.false_and]
     rfl
    all_goals (
     simp only [hk,Int.reduceBEq,Int.reduceLT,Int.reduceLE,Int.reduceNeg,ge_iff_le,gt_iff_lt,decide_true,decide_false,Bool.not_false,Bool.not_true,Bool.or_true,Bool.true_or,Bool.or_false,Bool.false_or,Bool.and_true,Bool.true_and,Bool.not_not,forall_const,reduceCtorEq,false_implies,true_and,and_true,implies_true,cond_true,cond_false]
     clear hN w3 hT e1 e2 e4
     generalize decide (0<(j.names.length:Int))=b
     generalize decide (0<(j.list.length:Int))=a
     generalize (j.s == [])=c
     generalize hd:(j.n_ == 0)=dd
     generalize inn j.n_ 0 1=i1
     generalize inn j.n_ (-1000000000) 1000000000=i2
     generalize hk_ j.s=ft
     cases a<;>cases b<;>cases c<;>cases dd<;>cases i1<;>cases i2<;>cases ft<;>simp)
theorem dp_ {j:aa_} (h:fg_ 6 j):Ev (fun n _=>bZ_ n j) (co_ j):=by
 refine aI_ ?_
 obtain ⟨v,v1,v2,v3⟩:=gx_ 6 j (by omega) h
 have e:Ev (fun n _=>aG_ n j 6) (v:Int):=v3
 simp only [bZ_,bh_,ae_ e,ai_,co_]
 by_cases hq:bE_ 6 j≤400
 · rw [decide_eq_true hq,decide_eq_true (by omega)]
 · rw [decide_eq_false hq,decide_eq_false (by omega)]
end Go.Pi
end
section
namespace Go.Pi
def digs (u:Nat):Bs:=if u=0 then [] else Lib.decDigits u
theorem digs_step {u:Nat} (h:u≠0):digs u=digs (u / 10)++[UInt8.ofNat (48+u % 10)]:=by
 unfold digs
 rw [if_neg h,Lib.decDigits]
 by_cases h1:u<10
 · rw [dif_pos h1,if_pos (by omega),Nat.mod_eq_of_lt h1];rfl
 · rw [dif_neg h1,if_neg (by omega)]
theorem oY_ {d:Nat} (h:d<10):fT_ ([(IntKind.u8.wrap (W (48+(d:Int))))]:List Int)=[UInt8.ofNat (48+d)]:=by
 have e1:W (48+(d:Int))=((48+d:Nat):Int):=by rw [W_id (by omega) (by omega)];omega
 rw [e1]
 have e2:IntKind.u8.wrap (((48+d:Nat):Int))=((48+d:Nat):Int):=by
  have:d=0∨d=1∨d=2∨d=3∨d=4∨d=5∨d=6∨d=7∨d=8∨d=9:=by omega
  rcases this with rfl|rfl|rfl|rfl|rfl|rfl|rfl|rfl|rfl|rfl<;>rfl
 rw [e2]
 rfl
theorem dv_ {x:Int} (h0 : -9223372036854775808≤x) (h1:x≤9223372036854775807):Ev (fun n _=>aJ_ n x) (Lib.itoa x):=by
 refine aI_ ?_
 simp only [aJ_,aE_,ai_]
 refine ⟨fun h => ?_,fun h => ?_⟩
 · have:x=0:=by simpa using h
   subst this
   unfold Lib.itoa
   rw [if_neg (by decide)]
   show _=Lib.decDigits 0
   rw [Lib.decDigits_one (by decide)];rfl
 have hx0:x≠0:=by simpa using h
 have key:∀ (k:Nat) (y:Int) (out:Bs),y.natAbs<10 ^ k → -9223372036854775808≤y→y≤9223372036854775807→out.length+k≤100 →
   Ev (fun n N=>aJ_.loop7 n (fun xy3 xy4=>(cond xy3 (cond (decide ([45].length+xy4.length≤9223372036854775807)) (some (([45]:Bs)++xy4)) none) (some xy4))) N y (decide (x<0)) out) (cond (decide (x<0)) ([45]++(digs y.natAbs++out)) (digs y.natAbs++out)):=by
  intro k
  induction k with
  |zero=>
   intro y out hy _ _ ho
   have:y=0:=by simp at hy;omega
   subst this
   refine bm_ ?_
   simp only [aJ_.turn7,aJ_.step7,bne_self_eq_false,cond_false,aE_,ai_,dl_]
   refine ⟨fun hb=>⟨fun _=>by rw [hb];rfl,fun hc=>by have:=of_decide_eq_false hc;simp at this;omega⟩,fun hb=>by rw [hb];rfl⟩
  |succ k ih=>
   intro y out hy hy0 hy1 ho
   by_cases hz:y=0
   · subst hz
     refine bm_ ?_
     simp only [aJ_.turn7,aJ_.step7,bne_self_eq_false,cond_false,aE_,ai_,dl_]
     refine ⟨fun hb=>⟨fun _=>by rw [hb];rfl,fun hc=>by have:=of_decide_eq_false hc;simp at this;omega⟩,fun hb=>by rw [hb];rfl⟩
   · have hm:(Int.tmod y 10).natAbs=y.natAbs % 10:=by rw [Int.natAbs_tmod];rfl
     have hd:(Int.tdiv y 10).natAbs=y.natAbs / 10:=by rw [Int.natAbs_tdiv];rfl
     have hW:W (Int.tdiv y 10)=Int.tdiv y 10:=W_id (by omega) (by omega)
     have hlt:y.natAbs % 10<10:=Nat.mod_lt _ (by decide)
     have hdl:(Int.tdiv y 10).natAbs<10 ^ k:=by rw [hd];rw [Nat.pow_succ] at hy;omega
     have hrec:=ih (Int.tdiv y 10) ([UInt8.ofNat (48+y.natAbs % 10)]++out) hdl (by omega) (by omega) (by simp;omega)
     have hdig:digs (Int.tdiv y 10).natAbs++([UInt8.ofNat (48+y.natAbs % 10)]++out)=digs y.natAbs++out:=by rw [hd,digs_step (show y.natAbs≠0 by omega),List.append_assoc]
     rw [hdig] at hrec
     have hne:(y != 0)=true:=by simpa using hz
     refine bm_ ?_
     simp only [aJ_.turn7,aJ_.step7,hne,cond_true,aE_,dl_,hW]
     refine ⟨fun hneg => ?_,fun hneg => ?_⟩
     · have hneg:=of_decide_eq_true hneg
       have e:W (0 - Int.tmod y 10)=((y.natAbs % 10:Nat):Int):=by rw [W_id (by omega) (by omega)];omega
       rw [e,oY_ hlt]
       exact ⟨fun _=>hrec,fun hc=>by have:=of_decide_eq_false hc;simp at this;omega⟩
     · have hneg:=of_decide_eq_false hneg
       have e:Int.tmod y 10=((y.natAbs % 10:Nat):Int):=by omega
       rw [e,oY_ hlt]
       exact ⟨fun _=>hrec,fun hc=>by have:=of_decide_eq_false hc;simp at this;omega⟩
 have hfin:=key 19 x [] (by omega) h0 h1 (by simp)
 have hv:Lib.itoa x=cond (decide (x<0)) ([45]++(digs x.natAbs++[])) (digs x.natAbs++[]):=by
  unfold Lib.itoa digs
  rw [if_neg (show x.natAbs≠0 by omega)]
  by_cases hn:x<0
  · rw [if_pos hn,decide_eq_true hn];simp
  · rw [if_neg hn,decide_eq_false hn,cond_false,List.append_nil,show x.toNat=x.natAbs by omega]
 rw [hv]
 exact c5_ hfin
theorem l9_ {x:Int} (h0 : -9223372036854775808≤x) (h1:x≤9223372036854775807):Ev (fun n _=>strconv_Itoa n x) (Lib.itoa x) :=
 aI_ (by simp only [strconv_Itoa,nItoa,aE_,ai_,dl_];exact ⟨fun _=>trivial,fun h=>by simp at h;omega⟩)
end Go.Pi
end
section
namespace Go.Pi
theorem join_snoc (x sep:Bs):∀ l:List Bs,Lib.join (l++[x]) sep=if l=[] then x else Lib.join l sep++sep++x
 |[]=>by rw [if_pos rfl];exact Lib.join_one x sep
 |y::l=>by
  rw [if_neg (by simp),List.cons_append,Lib.join_cons,Lib.join_cons]
  simp [Lib.joinTail]
theorem of_ {α:Type} (f:α→Nat):∀ a b:List α,ei_ f (a++b)=ei_ f a+ei_ f b
 |[],b=>by simp [ei_]
 |x::a,b=>by simp only [List.cons_append,ei_,of_ f a b];omega
theorem oe_ {α:Type} (f:α→Nat) (h:∀ x,1≤f x):∀ a:List α,a.length≤ei_ f a
 |[]=>Nat.le_refl _
 |x::a=>by have:=oe_ f h a;have:=h x;simp only [ei_,List.length_cons];omega
theorem ng_:∀ (d:Nat) (j:aa_),1≤bE_ d j
 |0,_=>by simp only [bE_];omega
 |d+1,j=>by
  simp only [bE_]
  cases FOwn j<;>simp only [cond_true,cond_false]<;>omega
theorem g1_ {s:Bs} (h:hk_ s=true):s.length≤60:=by
 unfold hk_ at h
 rw [Bool.and_eq_true] at h
 have:=of_decide_eq_true h.2;omega
theorem hh_ {l:List Bs} (h:in_ l=true) {i:Nat} (hi:i<l.length):(l.getD i []).length≤60:=by
 have:=fy_.1 h i hi
 rw [Bool.and_eq_true] at this
 exact g1_ this.1
structure Own (j:aa_):Prop where
 kind:j.kind=0∨j.kind=1∨j.kind=2∨j.kind=3∨j.kind=4∨j.kind=5
 list:j.kind≠4→j.kind≠5→j.list=[]
 bool:j.kind=1→0≤j.n_∧j.n_≤1
 num:j.kind=2 → -1000000000≤j.n_∧j.n_≤1000000000
 text:j.kind=3→j.s.length≤60
 obj:j.kind=5→j.names.length=j.list.length∧in_ j.names=true
theorem FOwn_own {j:aa_} (h:FOwn j=true):Own j:=by
 unfold FOwn FOwnK at h
 simp only [Bool.and_eq_true,Bool.or_eq_true] at h
 obtain ⟨h1,h2,h3,h4,h5⟩:=h
 refine ⟨?_,fun k4 k5 => ?_,fun hk => ?_,fun hk => ?_,fun hk => ?_,fun hk => ?_⟩
 · rcases jY_ j.kind with hk|hk|hk|hk|hk|hk|⟨k0,k1,k2,k3,k4,k5⟩
   · exact .inl hk
   · exact .inr (.inl hk)
   · exact .inr (.inr (.inl hk))
   · exact .inr (.inr (.inr (.inl hk)))
   · exact .inr (.inr (.inr (.inr (.inl hk))))
   · exact .inr (.inr (.inr (.inr (.inr hk))))
   · simp only [beq_eq_false_iff_ne.2 k0,beq_eq_false_iff_ne.2 k1,beq_eq_false_iff_ne.2 k2,beq_eq_false_iff_ne.2 k3,beq_eq_false_iff_ne.2 k4,beq_eq_false_iff_ne.2 k5,cond_false,Bool.or_false] at h5
     cases h5
 · rcases h1 with h1|h1|h1
   · exact List.eq_nil_of_length_eq_zero (of_decide_eq_true h1)
   · exact absurd (by simpa using h1) k4
   · exact absurd (by simpa using h1) k5
 · simp only [hk,Int.reduceBEq,cond_true,cond_false] at h5;exact g6_ h5
 · simp only [hk,Int.reduceBEq,cond_true,cond_false] at h5;exact g6_ h5
 · simp only [hk,Int.reduceBEq,cond_true,cond_false] at h5;exact g1_ h5
 · simp only [hk,Int.reduceBEq,cond_true,cond_false,Bool.and_eq_true] at h5
   exact ⟨by have:=h5.1;simp at this;omega,h5.2⟩
def dt_ (enc:aa_→Bs) (j:aa_) (i:Nat):Bs:=cond (j.kind == 5) (do_ (j.names.getD i [])++([58]++enc (j.list.getD i aa_.dflt))) (enc (j.list.getD i aa_.dflt))
def dG_ (enc:aa_→Bs) (j:aa_) (m:Nat):Bs:=Lib.join ((List.range m).map (dt_ enc j)) [44]
def FEnc:Nat→aa_→Bs
 |0,_=>[]
 |d+1,j=>cond (j.kind == 0) [110,117,108,108] (cond (j.kind == 1) (cond (j.n_ == 1) [116,114,117,101] [102,97,108,115,101]) (cond (j.kind == 2) (Lib.itoa j.n_) (cond (j.kind == 3) (do_ j.s)
   (cond (j.kind == 5) ([123]++dG_ (FEnc d) j j.list.length++[125]) ([91]++dG_ (FEnc d) j j.list.length++[93])))))
theorem lk_ (enc:aa_→Bs) (j:aa_):dG_ enc j 0=[]:=rfl
theorem g3_ (enc:aa_→Bs) (j:aa_):dG_ enc j 1=dt_ enc j 0:=Lib.join_one _ _
theorem fR_ (enc:aa_→Bs) (j:aa_) {m:Nat} (h:0<m):dG_ enc j (m+1)=dG_ enc j m++[44]++dt_ enc j m:=by
 unfold dG_
 rw [List.range_succ,List.map_append,List.map_cons,List.map_nil,join_snoc,if_neg]
 intro e
 have:=congrArg List.length e
 simp at this;omega
theorem di_ {d:Nat} {j:aa_} (h:bE_ (d+1) j≤400):Own j∧bE_ (d+1) j=1+ei_ (bE_ d) j.list:=by
 simp only [bE_] at h ⊢
 cases ho:FOwn j with
 |false=>rw [ho,cond_false] at h;omega
 |true=>
  rw [ho,cond_true] at h
  exact ⟨FOwn_own ho,by rw [cond_true];omega⟩
theorem enc_len:∀ (d:Nat) (j:aa_),bE_ d j≤400→(FEnc d j).length+150≤300*bE_ d j
 |0,j,h=>by simp only [bE_] at h;omega
 |d+1,j,h=>by
  obtain ⟨ho,hs⟩:=di_ h
  have hJ:∀ m,m≤j.list.length→(dG_ (FEnc d) j m).length≤300*ei_ (bE_ d) (j.list.take m):=by
   intro m
   induction m with
   |zero=>intro _;exact Nat.zero_le _
   |succ m ih=>
    intro hm
    have hi:m<j.list.length:=by omega
    have h1:=ih (by omega)
    have h2:=gv_ (bE_ d) (cO_ aa_.dflt hi)
    have h3:=enc_len d (j.list.getD m aa_.dflt) (by omega)
    have h4:(dt_ (FEnc d) j m).length≤123+(FEnc d (j.list.getD m aa_.dflt)).length:=by
     unfold dt_
     cases hk:(j.kind == 5) with
     |false=>rw [cond_false];omega
     |true=>
      obtain ⟨e1,e2⟩:=ho.obj (by simpa using hk)
      have:=hh_ e2 (i:=m) (by omega)
      have:=fa_ (j.names.getD m [])
      rw [cond_true];simp only [List.length_append,List.length_cons,List.length_nil];omega
    rw [dg_ aa_.dflt hi,of_]
    simp only [ei_,Nat.mul_add]
    by_cases h0:m=0
    · subst h0;rw [g3_];omega
    · rw [fR_ _ _ (by omega)];simp only [List.length_append,List.length_cons,List.length_nil];omega
  have hL:=hJ j.list.length (Nat.le_refl _)
  rw [List.take_length] at hL
  rw [hs]
  rcases ho.kind with hk|hk|hk|hk|hk|hk
  · simp only [FEnc,hk,Int.reduceBEq,cond_true,cond_false,List.length_cons,List.length_nil];omega
  · simp only [FEnc,hk,Int.reduceBEq,cond_true,cond_false]
    cases (j.n_ == 1)<;>simp only [cond_true,cond_false,List.length_cons,List.length_nil]<;>omega
  · have:=ho.num hk
    have:=Lib.itoa_length_le j.n_ (by omega) (by omega)
    simp only [FEnc,hk,Int.reduceBEq,cond_true,cond_false];omega
  · have:=ho.text hk
    have:=fa_ j.s
    simp only [FEnc,hk,Int.reduceBEq,cond_true,cond_false];omega
  · simp only [FEnc,hk,Int.reduceBEq,cond_true,cond_false,List.length_append,List.length_cons,List.length_nil];omega
  · simp only [FEnc,hk,Int.reduceBEq,cond_true,cond_false,List.length_append,List.length_cons,List.length_nil];omega
structure Part (d:Nat) (j:aa_) (i:Nat):Prop where
 size:bE_ d (j.list.getD i aa_.dflt)≤400
 enc:(FEnc d (j.list.getD i aa_.dflt)).length≤120000
 name:j.kind=5→i<j.names.length∧(j.names.getD i []).length≤60
theorem eD_ {d:Nat} {j:aa_} (h:bE_ (d+1) j≤400) {i:Nat} (hi:i<j.list.length):Part d j i:=by
 obtain ⟨ho,hs⟩:=di_ h
 have h2:=gv_ (bE_ d) (cO_ aa_.dflt hi)
 have h3:=enc_len d (j.list.getD i aa_.dflt) (by omega)
 exact ⟨by omega,by omega,fun hk=>⟨by have:=(ho.obj hk).1;omega,hh_ (ho.obj hk).2 (by have:=(ho.obj hk).1;omega)⟩⟩
theorem lS_ {d:Nat} {j:aa_} (h:bE_ (d+1) j≤400):∀ m,m≤j.list.length→(dG_ (FEnc d) j m).length≤m*120200:=by
 intro m
 induction m with
 |zero=>intro _;exact Nat.zero_le _
 |succ m ih=>
  intro hm
  have hp:=eD_ h (i:=m) (by omega)
  have h1:=ih (by omega)
  have h4:(dt_ (FEnc d) j m).length≤123+120000:=by
   have:=hp.enc
   unfold dt_
   cases hk:(j.kind == 5) with
   |false=>rw [cond_false];omega
   |true=>
    have:=(hp.name (by simpa using hk)).2
    have:=fa_ (j.names.getD m [])
    rw [cond_true];simp only [List.length_append,List.length_cons,List.length_nil];omega
  by_cases h0:m=0
  · subst h0;rw [g3_];omega
  · rw [fR_ _ _ (by omega)];simp only [List.length_append,List.length_cons,List.length_nil];omega
theorem d6_ {d:Nat} {j:aa_} (h:bE_ (d+1) j≤400):j.list.length≤400:=by
 have:=(di_ h).2
 have:=oe_ (bE_ d) (ng_ d) j.list
 omega
end Go.Pi
end
section
namespace Go.Pi
def ey_ (c:UInt8):Prop:=48≤c.toNat∧c.toNat≤57
theorem ig_ {d:Nat} (h:d<10):(UInt8.ofNat (48+d)).toNat=48+d:=by
 rw [UInt8.toNat_ofNat'];omega
theorem f8_:∀ (u:Nat),∀ c ∈ Lib.decDigits u,ey_ c:=by
 intro u
 induction u using Nat.strongRecOn with
 |ind u ih=>
  intro c hc
  rw [Lib.decDigits] at hc
  by_cases h:u<10
  · rw [dif_pos h] at hc
    obtain rfl:=List.mem_singleton.1 hc
    unfold ey_;rw [ig_ h];omega
  · rw [dif_neg h] at hc
    rcases List.mem_append.1 hc with hc|hc
    · exact ih (u / 10) (by omega) c hc
    · obtain rfl:=List.mem_singleton.1 hc
      unfold ey_;rw [ig_ (by omega)];omega
theorem j9_ (u:Nat):1≤(Lib.decDigits u).length:=by
 rw [Lib.decDigits]
 by_cases h:u<10
 · rw [dif_pos h];simp
 · rw [dif_neg h];simp
theorem l1_:∀ (k u:Nat),u<10 ^ (k+1)→(Lib.decDigits u).length≤k+1
 |0,u,h=>by rw [Lib.decDigits,dif_pos (by simpa using h)];simp
 |k+1,u,h=>by
  rw [Lib.decDigits]
  by_cases h1:u<10
  · rw [dif_pos h1];simp
  · rw [dif_neg h1,List.length_append]
    have:=l1_ k (u / 10) (by rw [Nat.pow_succ] at h;omega)
    simp;omega
def hO_ (x:Nat) (l:Bs):Nat:=l.foldl (fun x c=>10*x+(c.toNat - 48)) x
theorem val_nil (x:Nat):hO_ x []=x:=rfl
theorem g4_ (x:Nat) (c:UInt8) (l:Bs):hO_ x (c::l)=hO_ (10*x+(c.toNat - 48)) l:=by unfold hO_;rw [List.foldl_cons]
theorem val_app (x:Nat) (a b:Bs):hO_ x (a++b)=hO_ (hO_ x a) b:=List.foldl_append
theorem jx_:∀ (u:Nat),hO_ 0 (Lib.decDigits u)=u:=by
 intro u
 induction u using Nat.strongRecOn with
 |ind u ih=>
  rw [Lib.decDigits]
  by_cases h:u<10
  · rw [dif_pos h,g4_,val_nil,ig_ h];omega
  · rw [dif_neg h,val_app,ih (u / 10) (by omega)]
    have e:=ig_ (d:=u % 10) (by omega)
    rw [g4_,val_nil,e]
    omega
theorem val_le:∀ (x:Nat) (l:Bs),x≤hO_ x l
 |_,[]=>Nat.le_refl _
 |x,c::l=>by rw [g4_];exact Nat.le_trans (by omega) (val_le _ l)
theorem pu_val:∀ (x:Nat) (l:Bs),(∀ c ∈ l,ey_ c)→hO_ x l≤1000000000000000000→Lib.parseUint10 x l = .ok (hO_ x l)
 |_,[],_,_=>rfl
 |x,c::l,h,hv=>by
  have hc:=h c (List.mem_cons_self ..)
  have h1:=val_le (10*x+(c.toNat - 48)) l
  rw [g4_] at hv ⊢
  unfold ey_ at hc
  rw [Lib.parseUint10,if_pos hc,if_neg (by omega),if_neg (by omega),show x*10+(c.toNat - 48)=10*x+(c.toNat - 48) by omega]
  exact pu_val _ l (fun c hc=>h c (List.mem_cons_of_mem _ hc)) hv
theorem gX_ {n:Int} (h0 : -1000000000≤n) (h1:n≤1000000000):Lib.atoiAll (Lib.itoa n) = .ok n:=by
 unfold Lib.itoa
 have key:∀ u:Nat,u≤1000000000→Lib.parseMag (Lib.decDigits u) = .ok u:=by
  intro u hu
  have:=j9_ u
  unfold Lib.parseMag
  rw [if_neg (fun e=>by rw [e] at this;simp at this),pu_val 0 _ (f8_ u) (by rw [jx_];omega),jx_]
 by_cases hn:n<0
 · rw [if_pos hn,Lib.atoiAll_minus,key n.natAbs (by omega)]
   show (if 9223372036854775808<n.natAbs then Lib.NumEnd.range else .ok (-(n.natAbs:Int)))=_
   rw [if_neg (by omega),show (-(n.natAbs:Int))=n by omega]
 · rw [if_neg hn]
   have e:=key n.toNat (by omega)
   have hp:=j9_ n.toNat
   have hd:=f8_ n.toNat
   generalize Lib.decDigits n.toNat=l at e hp hd ⊢
   cases l with
   |nil=>simp at hp
   |cons c r=>
    have hc:=hd c (List.mem_cons_self ..)
    unfold ey_ at hc
    rw [Lib.atoiAll_plain c r (by omega) (by omega),e]
    show (if 9223372036854775808≤n.toNat then Lib.NumEnd.range else .ok (n.toNat:Int))=_
    rw [if_neg (by omega),show (n.toNat:Int)=n by omega]
def dy_ (enc:aa_→Bs) (j:aa_):Nat→Nat→Bs
 |0,_=>[]
 |k+1,i=>(if i=0 then [] else [44])++(dt_ enc j i++dy_ enc j k (i+1))
theorem ll_ (enc:aa_→Bs) (j:aa_):∀ k i,dG_ enc j i++dy_ enc j k i=dG_ enc j (i+k)
 |0,i=>by rw [dy_,List.append_nil];rfl
 |k+1,i=>by
  rw [dy_,show i+(k+1)=i+1+k by omega,←ll_ enc j k (i+1)]
  by_cases h:i=0
  · subst h;rw [lk_,g3_,if_pos rfl];simp
  · rw [if_neg h,fR_ enc j (by omega)];simp
theorem ko_ (enc:aa_→Bs) (j:aa_) (m:Nat):dG_ enc j m=dy_ enc j m 0:=by
 have:=ll_ enc j m 0
 rw [lk_,List.nil_append,Nat.zero_add] at this
 exact this.symm
def Stop (r:Bs):Prop:=∀ c t,r=c::t→¬ ey_ c
theorem lq_:Stop []:=fun c t h=>(by cases h)
theorem jz_ {c:UInt8} {t:Bs} (h:¬ ey_ c):Stop (c::t):=fun d u e=>by cases e;exact h
theorem fM_ (n:Int):∃ c t,Lib.itoa n=c::t∧(c=45∨ey_ c):=by
 unfold Lib.itoa
 by_cases h:n<0
 · rw [if_pos h];exact ⟨45,_,rfl,.inl rfl⟩
 · rw [if_neg h]
   have hp:=j9_ n.toNat
   have hd:=f8_ n.toNat
   generalize Lib.decDigits n.toNat=l at hp hd ⊢
   cases l with
   |nil=>simp at hp
   |cons c r=>exact ⟨c,r,rfl,.inr (hd c (List.mem_cons_self ..))⟩
theorem enc_head {d:Nat} {j:aa_} (h:bE_ d j≤400):∃ c t,FEnc d j=c::t∧c.toNat≠93∧c.toNat≠125∧c.toNat≠44:=by
 cases d with
 |zero=>simp only [bE_] at h;omega
 |succ d=>
  have ho:=(di_ h).1
  rcases ho.kind with hk|hk|hk|hk|hk|hk
  · exact ⟨110,[117,108,108],by simp only [FEnc,hk,Int.reduceBEq,cond_true],by decide⟩
  · cases hb:(j.n_ == 1) with
    |true=>exact ⟨116,[114,117,101],by simp only [FEnc,hk,hb,Int.reduceBEq,cond_true,cond_false],by decide⟩
    |false=>exact ⟨102,[97,108,115,101],by simp only [FEnc,hk,hb,Int.reduceBEq,cond_true,cond_false],by decide⟩
  · obtain ⟨c,t,e,hc⟩:=fM_ j.n_
    refine ⟨c,t,by simp only [FEnc,hk,Int.reduceBEq,cond_true,cond_false,e],?_⟩
    rcases hc with rfl|hc
    · decide
    · unfold ey_ at hc;omega
  · exact ⟨34,j.s.flatMap eO_++[34],by simp only [FEnc,hk,Int.reduceBEq,cond_true,cond_false,do_];rfl,by decide⟩
  · exact ⟨91,dG_ (FEnc d) j j.list.length++[93],by simp only [FEnc,hk,Int.reduceBEq,cond_true,cond_false];rfl,by decide⟩
  · exact ⟨123,dG_ (FEnc d) j j.list.length++[125],by simp only [FEnc,hk,Int.reduceBEq,cond_true,cond_false];rfl,by decide⟩
theorem li_ {d:Nat} {j:aa_} (h:bE_ (d+1) j≤400) {i:Nat} (hi:i<j.list.length):∃ c t,dt_ (FEnc d) j i=c::t∧c.toNat≠93∧c.toNat≠125∧c.toNat≠44:=by
 unfold dt_
 cases (j.kind == 5) with
 |true=>exact ⟨34,(j.names.getD i []).flatMap eO_++[34]++([58]++FEnc d (j.list.getD i aa_.dflt)),by simp only [cond_true,do_];rfl,by decide⟩
 |false=>exact enc_head (eD_ h hi).size
theorem qesc_nl {s:Bs} (h:∀ c ∈ s,c≠10):∀ c ∈ do_ s,c≠10:=by
 intro c hc
 unfold do_ at hc
 simp only [List.cons_append,List.mem_cons,List.mem_append,List.mem_flatMap,List.not_mem_nil,or_false] at hc
 rcases hc with rfl|⟨b,hb,hc⟩|rfl
 · decide
 · have:=h b hb
   unfold eO_ at hc
   split at hc
   · simp only [List.mem_cons,List.not_mem_nil,or_false] at hc
     rcases hc with rfl|rfl
     · decide
     · exact this
   · obtain rfl:=List.mem_singleton.1 hc;exact this
 · decide
theorem text_nl {s:Bs} (h:hk_ s=true):∀ c ∈ s,c≠10:=by
 intro c hc e
 subst e
 unfold hk_ at h
 rw [Bool.and_eq_true] at h
 obtain ⟨i,hi,e⟩:=List.getElem_of_mem hc
 have:=fy_.1 h.1 i hi
 rw [List.getD_eq_getElem?_getD,List.getElem?_eq_getElem hi,Option.getD_some,e] at this
 revert this;decide
theorem hG_ (n:Int):∀ c ∈ Lib.itoa n,c≠10:=by
 intro c hc e
 subst e
 unfold Lib.itoa at hc
 have key:∀ u,(10:UInt8) ∈ Lib.decDigits u→False:=fun u h=>by have:=f8_ u 10 h;unfold ey_ at this;revert this;decide
 split at hc
 · rcases List.mem_cons.1 hc with h|h
   · revert h;decide
   · exact key _ h
 · exact key _ hc
structure Own2 (j:aa_):Prop where
 text:j.kind=3→hk_ j.s=true
 n0:j.kind≠1→j.kind≠2→j.n_=0
 s0:j.kind≠3→j.s=[]
 ns0:j.kind≠5→j.names=[]
theorem ed_ {j:aa_} (h:FOwn j=true):Own2 j:=by
 unfold FOwn FOwnK at h
 simp only [Bool.and_eq_true,Bool.or_eq_true] at h
 obtain ⟨h1,h2,h3,h4,h5⟩:=h
 refine ⟨fun hk => ?_,fun k1 k2 => ?_,fun k3 => ?_,fun k5 => ?_⟩
 · simpa only [hk,Int.reduceBEq,cond_true,cond_false] using h5
 · rcases h3 with h|h|h
   · simpa using h
   · exact absurd (by simpa using h) k1
   · exact absurd (by simpa using h) k2
 · rcases h4 with h|h
   · simpa using h
   · exact absurd (by simpa using h) k3
 · rcases h2 with h|h
   · exact List.eq_nil_of_length_eq_zero (of_decide_eq_true h)
   · exact absurd (by simpa using h) k5
theorem d0_ {d:Nat} {j:aa_} (h:bE_ (d+1) j≤400):FOwn j=true:=by
 simp only [bE_] at h
 cases ho:FOwn j with
 |false=>rw [ho,cond_false] at h;omega
 |true=>rfl
theorem enc_nl:∀ (d:Nat) (j:aa_),bE_ d j≤400→∀ c ∈ FEnc d j,c≠10
 |0,j,h=>by simp only [bE_] at h;omega
 |d+1,j,h=>by
  have ho:=(di_ h).1
  have ho2:=ed_ (d0_ h)
  have hJ:∀ k i,i+k≤j.list.length→∀ c ∈ dy_ (FEnc d) j k i,c≠10:=by
   intro k
   induction k with
   |zero=>intro i _ c hc;cases hc
   |succ k ih=>
    intro i hi c hc
    have hp:=eD_ h (i:=i) (by omega)
    simp only [dy_,List.mem_append] at hc
    rcases hc with hc|hc|hc
    · split at hc
      · cases hc
      · obtain rfl:=List.mem_singleton.1 hc;decide
    · have he:=enc_nl d _ hp.size
      unfold dt_ at hc
      cases hk:(j.kind == 5) with
      |false=>rw [hk,cond_false] at hc;exact he c hc
      |true=>
       obtain ⟨e1,e2⟩:=ho.obj (by simpa using hk)
       have hn:=fy_.1 e2 i (by omega)
       rw [Bool.and_eq_true] at hn
       rw [hk,cond_true] at hc
       simp only [List.mem_append] at hc
       rcases hc with hc|hc|hc
       · exact qesc_nl (text_nl hn.1) c hc
       · obtain rfl:=List.mem_singleton.1 hc;decide
       · exact he c hc
    · exact ih (i+1) (by omega) c hc
  have hA:=hJ j.list.length 0 (by omega)
  rw [←ko_] at hA
  intro c hc
  rcases ho.kind with hk|hk|hk|hk|hk|hk
  · simp only [FEnc,hk,Int.reduceBEq,cond_true] at hc
    intro e;subst e;revert hc;decide
  · simp only [FEnc,hk,Int.reduceBEq,cond_true,cond_false] at hc
    intro e;subst e;revert hc;cases (j.n_ == 1)<;>decide
  · simp only [FEnc,hk,Int.reduceBEq,cond_true,cond_false] at hc
    exact hG_ _ c hc
  · simp only [FEnc,hk,Int.reduceBEq,cond_true,cond_false] at hc
    exact qesc_nl (text_nl (ho2.text hk)) c hc
  all_goals (
   simp only [FEnc,hk,Int.reduceBEq,cond_true,cond_false,List.mem_append,List.mem_singleton] at hc
   rcases hc with (rfl|hc)|rfl
   · decide
   · exact hA c hc
   · decide)
end Go.Pi
end
section
namespace Go.Pi
def dZ_ (b:UInt8):Bs→List Bs
 |[]=>[[]]
 |c::l=>if c=b then []::dZ_ b l else match dZ_ b l with
  |[]=>[[c]]
  |p::ps=>(c::p)::ps
theorem it_ (b:UInt8):∀ l,∃ p ps,dZ_ b l=p::ps
 |[]=>⟨[],[],rfl⟩
 |c::l=>by
  obtain ⟨p,ps,e⟩:=it_ b l
  unfold dZ_
  by_cases h:c=b
  · rw [if_pos h];exact ⟨_,_,rfl⟩
  · rw [if_neg h,e];exact ⟨_,_,rfl⟩
theorem is_ (b:UInt8):∀ (s:Bs) (k:Nat),s.count b≤k→Lib.splitK [b] 0 k s=dZ_ b s
 |[],0,_=>rfl
 |[],k+1,_=>by
  rw [Lib.splitK]
  have:Lib.index [] [b] = -1:=rfl
  rw [this,if_pos (by decide)];rfl
 |c::l,k,h=>by
  unfold dZ_
  by_cases e:c=b
  · subst e
    rw [List.count_cons_self] at h
    obtain ⟨k,rfl⟩:∃ m,k=m+1:=⟨k - 1,by omega⟩
    rw [Lib.splitK,e8_,if_pos rfl,if_neg (by decide),if_pos rfl]
    show []::Lib.splitK [c] 0 k l=_
    rw [is_ c l k (by omega)]
  · rw [List.count_cons_of_ne e] at h
    have ih:=is_ b l k h
    rw [if_neg e,←ih]
    cases k with
    |zero=>rfl
    |succ k=>
     have hx:Lib.index (c::l) [b]=if Lib.index l [b] = -1 then -1 else Lib.index l [b]+1:=by rw [e8_,if_neg (show ¬ b=c from fun h=>e h.symm)]
     rw [Lib.splitK,Lib.splitK,hx]
     by_cases h2:Lib.index l [b] = -1
     · rw [if_pos h2,if_pos (by decide),h2,if_pos (by decide)]
     · have:=Lib.index_ge l [b]
       obtain ⟨i,hi⟩:∃ i:Nat,Lib.index l [b]=i:=⟨(Lib.index l [b]).toNat,by omega⟩
       rw [if_neg h2,if_neg (by rw [hi];simp<;>omega),if_neg (by rw [hi];simp<;>omega),hi,show ((i:Int)+1).toNat=i+1 by omega,show ((i:Int)).toNat=i by omega]
       rfl
theorem split_one (b:UInt8) (s:Bs):Lib.split s [b]=dZ_ b s:=by
 unfold Lib.split
 rw [ka_]
 exact is_ b s _ (Nat.le_refl _)
theorem iu_ (b:UInt8):∀ (s:Bs),(dZ_ b s).length≤s.length+1∧∀ p ∈ dZ_ b s,p.length≤s.length
 |[]=>⟨Nat.le_refl _,fun p hp=>by obtain rfl:=List.mem_singleton.1 hp;exact Nat.le_refl _⟩
 |c::l=>by
  obtain ⟨h1,h2⟩:=iu_ b l
  obtain ⟨p,ps,e⟩:=it_ b l
  unfold dZ_
  by_cases h:c=b
  · rw [if_pos h]
    refine ⟨by simp;omega,fun q hq => ?_⟩
    rcases List.mem_cons.1 hq with rfl|hq
    · simp
    · have:=h2 q hq;simp;omega
  · rw [if_neg h,e]
    rw [e] at h1 h2
    refine ⟨by simp at h1 ⊢;omega,fun q hq => ?_⟩
    rcases List.mem_cons.1 hq with rfl|hq
    · have:=h2 p (List.mem_cons_self ..);simp;omega
    · have:=h2 q (List.mem_cons_of_mem _ hq);simp;omega
theorem iv_ (b:UInt8) (r:Bs):∀ (a:Bs),(∀ c ∈ a,c≠b)→dZ_ b (a++b::r)=a::dZ_ b r
 |[],_=>by rw [List.nil_append,dZ_,if_pos rfl]
 |c::a,h=>by
  rw [List.cons_append,dZ_,if_neg (h c (List.mem_cons_self ..)),iv_ b r a fun x hx=>h x (List.mem_cons_of_mem _ hx)]
theorem kK_ (b:UInt8):∀ (a:Bs),(∀ c ∈ a,c≠b)→dZ_ b a=[a]
 |[],_=>rfl
 |c::a,h=>by rw [dZ_,if_neg (h c (List.mem_cons_self ..)),kK_ b a fun x hx=>h x (List.mem_cons_of_mem _ hx)]
theorem wesc_sl (s:Bs):∀ c ∈ s.flatMap fn_,c≠47:=by
 intro c hc
 obtain ⟨b,_,hc⟩:=List.mem_flatMap.1 hc
 unfold fn_ at hc
 split at hc
 · intro e;subst e;revert hc;decide
 · split at hc
   · intro e;subst e;revert hc;decide
   · obtain rfl:=List.mem_singleton.1 hc;assumption
theorem mp_:∀ (w:List Bs),dZ_ 47 (FWay w)=[]::w.map fun s=>s.flatMap fn_
 |[]=>rfl
 |s::w=>by
  have e:FWay (s::w)=[]++47::(s.flatMap fn_++FWay w):=rfl
  rw [e,iv_ 47 _ [] (fun c h=>by cases h)]
  congr 1
  cases w with
  |nil=>
   have:FWay ([]:List Bs)=[]:=rfl
   rw [this,List.append_nil,kK_ 47 _ (wesc_sl s)];rfl
  |cons t w=>
   have ih:=mp_ (t::w)
   have e2:FWay (t::w)=47::(t.flatMap fn_++FWay w):=rfl
   rw [e2,dZ_,if_pos rfl] at ih
   rw [e2,iv_ 47 _ _ (wesc_sl s),List.map_cons,List.cons.inj ih |>.2]
def fC_ (a b:UInt8) (new:Bs):Bs→Bs
 |[]=>[]
 |[x]=>[x]
 |x::y::l=>if x=a∧y=b then new++fC_ a b new l else x::fC_ a b new (y::l)
theorem i2_ (a b x:UInt8) (l:Bs):Lib.index (x::l) [a,b]=if x=a∧l.head?=some b then 0 else if Lib.index l [a,b] = -1 then -1 else Lib.index l [a,b]+1:=by
 rw [Lib.index]
 have:List.isPrefixOf [a,b] (x::l)=decide (x=a∧l.head?=some b):=by
  refine Bool.eq_iff_iff.2 ?_
  cases l with
  |nil=>simp [List.isPrefixOf]
  |cons y l=>
   simp only [List.isPrefixOf,List.head?_cons,Option.some.injEq,decide_eq_true_eq,Bool.and_true,Bool.and_eq_true,beq_iff_eq]
   exact ⟨fun ⟨h1,h2⟩=>⟨h1.symm,h2.symm⟩,fun ⟨h1,h2⟩=>⟨h1.symm,h2.symm⟩⟩
 rw [this]
 by_cases h:x=a∧l.head?=some b
 · rw [decide_eq_true h,if_pos rfl,if_pos h]
 · rw [decide_eq_false h,if_neg (by simp),if_neg h]
   by_cases h2:Lib.index l [a,b] = -1
   · rw [h2,if_pos rfl,if_pos (by decide)]
   · rw [if_neg h2,if_neg (by simpa using h2)]
def cnt2 (a b:UInt8):Bs→Nat
 |[]=>0
 |[_]=>0
 |x::y::l=>if x=a∧y=b then 1+cnt2 a b l else cnt2 a b (y::l)
theorem nR_ (a b:UInt8):∀ l:Bs,cnt2 a b l≤l.length
 |[]=>Nat.le_refl _
 |[_]=>by simp [cnt2]
 |x::y::l=>by
  unfold cnt2
  have h1:=nR_ a b l
  have h2:=nR_ a b (y::l)
  split
  · simp;omega
  · simp at h2 ⊢;omega
theorem iM_ (a b:UInt8):∀ (s:Bs) (f:Nat),s.length<f→Lib.countFrom [a,b] f s=cnt2 a b s
 |[],f+1,_=>by
  rw [Lib.countFrom]
  have:Lib.index [] [a,b] = -1:=rfl
  rw [this,if_pos (by decide)];rfl
 |[x],f+1,_=>by
  rw [Lib.countFrom]
  have:Lib.index [x] [a,b] = -1:=by
   rw [i2_,if_neg (by simp)];rfl
  rw [this,if_pos (by decide)];rfl
 |x::y::l,f+1,h=>by
  have hl:l.length+1<f:=by simpa using h
  unfold cnt2
  by_cases e:x=a∧y=b
  · have hx:Lib.index (x::y::l) [a,b]=0:=by rw [i2_,if_pos (show x=a∧(y::l).head?=some b by simpa using e)]
    rw [if_pos e,Lib.countFrom,hx,if_neg (by decide)]
    show 1+Lib.countFrom [a,b] f l=_
    rw [iM_ a b l f (by omega)]
  · have hx:Lib.index (x::y::l) [a,b]=if Lib.index (y::l) [a,b] = -1 then -1 else Lib.index (y::l) [a,b]+1:=by rw [i2_,if_neg (show ¬ (x=a∧(y::l).head?=some b) by simpa using e)]
    rw [if_neg e,←iM_ a b (y::l) (f+1) (by simp;omega),Lib.countFrom,Lib.countFrom,hx]
    by_cases h2:Lib.index (y::l) [a,b] = -1
    · rw [if_pos h2,if_pos (by decide),h2,if_pos (by decide)]
    · have:=Lib.index_ge (y::l) [a,b]
      obtain ⟨i,hi⟩:∃ i:Nat,Lib.index (y::l) [a,b]=i:=⟨(Lib.index (y::l) [a,b]).toNat,by omega⟩
      rw [if_neg h2,if_neg (by rw [hi];simp<;>omega),if_neg (by rw [hi];simp<;>omega),hi,show ((i:Int)+1).toNat=i+1 by omega,show ((i:Int)).toNat=i by omega]
      rfl
theorem count2 (a b:UInt8) (s:Bs):Lib.count s [a,b]=cnt2 a b s:=iM_ a b s _ (Nat.lt_succ_self _)
theorem jO_ (a b:UInt8) (new:Bs):∀ (s:Bs) (k:Nat),cnt2 a b s≤k→Lib.replaceK [a,b] new k s=fC_ a b new s
 |[],0,_=>rfl
 |[],k+1,_=>by
  rw [Lib.replaceK]
  have:Lib.index [] [a,b] = -1:=rfl
  rw [this,if_pos (by decide)];rfl
 |[x],0,_=>rfl
 |[x],k+1,_=>by
  rw [Lib.replaceK]
  have:Lib.index [x] [a,b] = -1:=by rw [i2_,if_neg (by simp)];rfl
  rw [this,if_pos (by decide)];rfl
 |x::y::l,k,h=>by
  unfold cnt2 at h
  unfold fC_
  by_cases e:x=a∧y=b
  · rw [if_pos e] at h ⊢
    obtain ⟨k,rfl⟩:∃ m,k=m+1:=⟨k - 1,by omega⟩
    have hx:Lib.index (x::y::l) [a,b]=0:=by rw [i2_,if_pos (show x=a∧(y::l).head?=some b by simpa using e)]
    rw [Lib.replaceK,hx,if_neg (by decide)]
    show []++new++Lib.replaceK [a,b] new k l=_
    rw [jO_ a b new l k (by omega)];rfl
  · rw [if_neg e] at h ⊢
    have ih:=jO_ a b new (y::l) k h
    rw [←ih]
    cases k with
    |zero=>rfl
    |succ k=>
     have hx:Lib.index (x::y::l) [a,b]=if Lib.index (y::l) [a,b] = -1 then -1 else Lib.index (y::l) [a,b]+1:=by rw [i2_,if_neg (show ¬ (x=a∧(y::l).head?=some b) by simpa using e)]
     rw [Lib.replaceK,Lib.replaceK,hx]
     by_cases h2:Lib.index (y::l) [a,b] = -1
     · rw [if_pos h2,if_pos (by decide),h2,if_pos (by decide)]
     · have:=Lib.index_ge (y::l) [a,b]
       obtain ⟨i,hi⟩:∃ i:Nat,Lib.index (y::l) [a,b]=i:=⟨(Lib.index (y::l) [a,b]).toNat,by omega⟩
       rw [if_neg h2,if_neg (by rw [hi];simp<;>omega),if_neg (by rw [hi];simp<;>omega),hi,show ((i:Int)+1).toNat=i+1 by omega,show ((i:Int)).toNat=i by omega]
       rfl
theorem nv_ (a b:UInt8) (new s:Bs) (hne:([a,b] == new)=false):Lib.replaceAll s [a,b] new=fC_ a b new s:=by
 unfold Lib.replaceAll Lib.replace Lib.replaceNum
 rw [hne,if_neg (by simp),if_pos (.inl (by decide)),count2]
 exact jO_ a b new s _ (Nat.le_refl _)
theorem fY_ (a b c:UInt8):∀ l:Bs,(fC_ a b [c] l).length≤l.length
 |[]=>Nat.le_refl _
 |[_]=>Nat.le_refl _
 |x::y::l=>by
  unfold fC_
  have h1:=fY_ a b c l
  have h2:=fY_ a b c (y::l)
  split
  · simp;omega
  · simp at h2 ⊢;omega
theorem on_ (a b:UInt8) (new l:Bs):fC_ a b new (a::b::l)=new++fC_ a b new l:=by rw [fC_,if_pos ⟨rfl,rfl⟩]
theorem jP_ {a b x:UInt8} (h:x≠a) (new l:Bs):fC_ a b new (x::l)=x::fC_ a b new l:=by
 cases l with
 |nil=>rfl
 |cons y l=>rw [fC_,if_neg fun e=>h e.1]
theorem ph_ {a b y:UInt8} (h:y≠b) (new l:Bs) (h2:y≠a):fC_ a b new (a::y::l)=a::y::fC_ a b new l:=by
 rw [fC_,if_neg fun e=>h e.2,jP_ h2]
def mf_ (c:UInt8):Bs:=if c=126 then [126,48] else [c]
theorem unesc1:∀ (s:Bs),fC_ 126 49 [47] (s.flatMap fn_)=s.flatMap mf_
 |[]=>rfl
 |c::s=>by
  have ih:=unesc1 s
  rw [List.flatMap_cons,List.flatMap_cons]
  generalize s.flatMap fn_=x at ih ⊢
  generalize s.flatMap mf_=y at ih ⊢
  by_cases h1:c=126
  · have e1:fn_ c=[126,48]:=if_pos h1
    have e2:mf_ c=[126,48]:=if_pos h1
    rw [e1,e2]
    show fC_ 126 49 [47] (126::48::x)=126::48::y
    rw [ph_ (by decide) _ _ (by decide),ih]
  · have e2:mf_ c=[c]:=if_neg h1
    by_cases h2:c=47
    · have e1:fn_ c=[126,49]:=by unfold fn_;rw [if_neg h1,if_pos h2]
      rw [e1,e2]
      show fC_ 126 49 [47] (126::49::x)=c::y
      rw [on_,ih,h2];rfl
    · have e1:fn_ c=[c]:=by unfold fn_;rw [if_neg h1,if_neg h2]
      rw [e1,e2]
      show fC_ 126 49 [47] (c::x)=c::y
      rw [jP_ h1,ih]
theorem unesc2:∀ (s:Bs),fC_ 126 48 [126] (s.flatMap mf_)=s
 |[]=>rfl
 |c::s=>by
  have ih:=unesc2 s
  rw [List.flatMap_cons]
  generalize s.flatMap mf_=y at ih ⊢
  by_cases h1:c=126
  · have e2:mf_ c=[126,48]:=if_pos h1
    rw [e2]
    show fC_ 126 48 [126] (126::48::y)=_
    rw [on_,ih,h1];rfl
  · have e2:mf_ c=[c]:=if_neg h1
    rw [e2]
    show fC_ 126 48 [126] (c::y)=_
    rw [jP_ h1,ih]
end Go.Pi
end
section
namespace Go.Pi
theorem gj_:∀ (d:Nat) (j:aa_),bE_ d j≤400→Ev (fun n _=>aD_ n j) (FEnc d j)
 |0,j,h=>by simp only [bE_] at h;omega
 |d+1,j,h=>by
  have ho:=(di_ h).1
  have hll:=d6_ h
  refine aI_ ?_
  have hloop:(j.kind=4∨j.kind=5)→∀ (K:Nat→Bs→Int→Int→Bs→List aa_→List Bs→Option Bs) (v:Bs),Ev (fun n N=>K n (dG_ (FEnc d) j j.list.length) j.kind j.n_ j.s j.list j.names) v→Ev (fun n _=>aD_.loop17 n (aD_ n) (K n) n [] 0 j.kind j.n_ j.s j.list j.names) v:=by
   intro hk45 K v hK
   refine eY_ (fun i=>dG_ (FEnc d) j i) j.list.length (fun n N i (o:Bs)=>aD_.loop17 n (aD_ n) (K n) N o (i:Int) j.kind j.n_ j.s j.list j.names) v (fun i hi F hF => ?_) ?_
   · have hp:=eD_ h hi
     have hx:=gj_ d (j.list.getD i aa_.dflt) hp.size
     have hjl:=lS_ h i (by omega)
     have he:=hp.enc
     have hW:=W_up hi (show j.list.length≤cY_ by simp only [cY_];omega)
     rcases hk45 with hk|hk
     · have h5:(j.kind == 5)=false:=by rw [hk];rfl
       by_cases h0:i=0
       · have hg:decide ((i:Int) > 0)=false:=decide_eq_false (by omega)
         have e0:dG_ (FEnc d) j i=[]:=by rw [h0];rfl
         have e1:dG_ (FEnc d) j (i+1)=dt_ (FEnc d) j i:=by rw [h0];exact g3_ _ _
         rw [e1] at hF
         unfold dt_ at hF
         rw [h5,cond_false] at hF
         simp only [e0,aD_.turn17,aD_.step17,bh_,Int.toNat_natCast,hW,h5,hg,reduceCtorEq,false_implies,true_implies,true_and,and_true,aE_,b7_,dl_,dm_ hi,da_ hi,ae_ hx,List.nil_append]
         generalize FEnc d (j.list.getD i aa_.dflt)=x at hF he ⊢
         repeat' (first|apply And.intro|intro _)
         all_goals (first|contradiction|exact hF|trivial|(rename_i hc;have hc:=of_decide_eq_false hc;simp only [List.length_append,List.length_cons,List.length_nil] at hc;omega))
       · rw [fR_ _ _ (by omega)] at hF
         unfold dt_ at hF
         rw [h5,cond_false] at hF
         have hg:decide ((i:Int) > 0)=true:=decide_eq_true (by omega)
         simp only [aD_.turn17,aD_.step17,bh_,Int.toNat_natCast,hW,h5,hg,aE_,b7_,dl_,dm_ hi,da_ hi,ae_ hx]
         generalize FEnc d (j.list.getD i aa_.dflt)=x at hF he ⊢
         generalize dG_ (FEnc d) j i=o at hF hjl ⊢
         repeat' (first|apply And.intro|intro _)
         all_goals (first|contradiction|exact hF|trivial|(rename_i hc;have hc:=of_decide_eq_false hc;simp only [List.length_append,List.length_cons,List.length_nil] at hc;omega))
     · have h5:(j.kind == 5)=true:=by rw [hk];rfl
       have hn:=hp.name hk
       have hq:=gw_ (s:=j.names.getD i []) (by omega)
       have hql:=fa_ (j.names.getD i [])
       by_cases h0:i=0
       · have hg:decide ((i:Int) > 0)=false:=decide_eq_false (by omega)
         have e0:dG_ (FEnc d) j i=[]:=by rw [h0];rfl
         have e1:dG_ (FEnc d) j (i+1)=dt_ (FEnc d) j i:=by rw [h0];exact g3_ _ _
         rw [e1] at hF
         unfold dt_ at hF
         rw [h5,cond_true] at hF
         simp only [e0,aD_.turn17,aD_.step17,bh_,Int.toNat_natCast,hW,h5,hg,reduceCtorEq,false_implies,true_implies,true_and,and_true,aE_,b7_,dl_,dm_ hi,da_ hi,da_ hn.1,ae_ hx,ae_ hq,List.nil_append]
         generalize FEnc d (j.list.getD i aa_.dflt)=x at hF he ⊢
         generalize do_ (j.names.getD i [])=y at hF hql ⊢
         rw [←List.append_assoc] at hF
         repeat' (first|apply And.intro|intro _)
         all_goals (first|contradiction|exact hF|trivial|(rename_i hc;have hc:=of_decide_eq_false hc;simp only [List.length_append,List.length_cons,List.length_nil] at hc;omega))
       · rw [fR_ _ _ (by omega)] at hF
         unfold dt_ at hF
         rw [h5,cond_true] at hF
         have hg:decide ((i:Int) > 0)=true:=decide_eq_true (by omega)
         simp only [aD_.turn17,aD_.step17,bh_,Int.toNat_natCast,hW,h5,hg,aE_,b7_,dl_,dm_ hi,da_ hi,da_ hn.1,ae_ hx,ae_ hq]
         generalize FEnc d (j.list.getD i aa_.dflt)=x at hF he ⊢
         generalize do_ (j.names.getD i [])=y at hF hql ⊢
         generalize dG_ (FEnc d) j i=o at hF hjl ⊢
         rw [←List.append_assoc,←List.append_assoc] at hF
         repeat' (first|apply And.intro|intro _)
         all_goals (first|contradiction|exact hF|trivial|(rename_i hc;have hc:=of_decide_eq_false hc;simp only [List.length_append,List.length_cons,List.length_nil] at hc;omega))
   · simp only [aD_.turn17,aD_.step17,dh_,cond_false]
     exact hK
  have hjl:=lS_ h j.list.length (Nat.le_refl _)
  simp only [aD_,bh_]
  rcases ho.kind with hk|hk|hk|hk|hk|hk
  · simp only [FEnc,hk,Int.reduceBEq,cond_true,ai_]
  · simp only [FEnc,hk,Int.reduceBEq,cond_true,cond_false,aE_,ai_]
    cases (j.n_ == 1)<;>simp
  · have hn:=ho.num hk
    simp only [FEnc,hk,Int.reduceBEq,cond_true,cond_false,ae_ (dv_ (x:=j.n_) (by omega) (by omega)),ai_]
  · have hs:=ho.text hk
    simp only [FEnc,hk,Int.reduceBEq,cond_true,cond_false,ae_ (gw_ (s:=j.s) (by omega)),ai_]
  all_goals (
   have e0:(j.kind == 0)=false:=by rw [hk];rfl
   have e1:(j.kind == 1)=false:=by rw [hk];rfl
   have e2:(j.kind == 2)=false:=by rw [hk];rfl
   have e3:(j.kind == 3)=false:=by rw [hk];rfl
   simp only [FEnc,e0,e1,e2,e3,cond_false]
   refine hloop (by omega) _ _ ?_
   generalize dG_ (FEnc d) j j.list.length=o at hjl ⊢
   simp only [hk,Int.reduceBEq,cond_true,cond_false,aE_,ai_,dl_]
   refine ⟨fun _=>⟨fun _=>trivial,fun hc => ?_⟩,fun hc => ?_⟩
   · have hc:=of_decide_eq_false hc
     simp only [List.length_append,List.length_cons,List.length_nil] at hc;omega
   · have hc:=of_decide_eq_false hc
     simp only [List.length_append,List.length_cons,List.length_nil] at hc;omega)
theorem Join_ev {l:List Bs} {sep:Bs} (hl:l.length≤1000000) (hj:(Lib.join l sep).length≤1000000000):Ev (fun n _=>strings_Join n l sep) (Lib.join l sep):=by
 refine aI_ ?_
 simp only [strings_Join,nJoin,aE_,ai_,dl_]
 refine ⟨fun _=>trivial,fun h => ?_⟩
 rw [decide_eq_true (by omega),decide_eq_true (by omega)] at h;cases h
theorem gJ_:∀ (d:Nat) (j:aa_),bE_ d j≤400→Ev (fun n _=>aX_ n j) (FEnc d j)
 |0,j,h=>by simp only [bE_] at h;omega
 |d+1,j,h=>by
  have ho:=(di_ h).1
  have hll:=d6_ h
  refine aI_ ?_
  have hloop:∀ (K:Nat→Int→Int→Bs→List aa_→List Bs→List Bs→Option Bs) (v:Bs),Ev (fun n N=>K n j.kind j.n_ j.s j.list j.names ((List.range j.list.length).map (dt_ (FEnc d) j))) v→Ev (fun n _=>aX_.loop4 n (aX_ n) (K n) n j.list (j.list.length:Int) 0 j.kind j.n_ j.s j.list j.names []) v:=by
   intro K v hK
   refine eY_ (fun i=>(List.range i).map (dt_ (FEnc d) j)) j.list.length (fun n N i (o:List Bs)=>aX_.loop4 n (aX_ n) (K n) N j.list (j.list.length:Int) (i:Int) j.kind j.n_ j.s j.list j.names o) v (fun i hi F hF => ?_) ?_
   · have hp:=eD_ h hi
     have hx:=gJ_ d (j.list.getD i aa_.dflt) hp.size
     have he:=hp.enc
     have hW:=W_up hi (show j.list.length≤cY_ by simp only [cY_];omega)
     have hol:((List.range i).map (dt_ (FEnc d) j)).length=i:=by simp
     rw [List.range_succ,List.map_append,List.map_cons,List.map_nil] at hF
     unfold dt_ at hF
     cases h5:(j.kind == 5) with
     |false=>
      simp only [h5,cond_false] at hF
      unfold dt_ at hol ⊢
      simp only [h5,cond_false] at hol ⊢
      simp only [aX_.turn4,aX_.step4,bh_,Int.toNat_natCast,hW,h5,cond_false,aE_,b7_,dl_,cu_,dm_ hi,da_ hi,ae_ hx]
      generalize FEnc d (j.list.getD i aa_.dflt)=x at hF he ⊢
      generalize (List.range i).map _=o at hF hol ⊢
      exact ⟨fun _=>⟨trivial,by simp;omega,hF⟩,fun h=>(by cases h)⟩
     |true=>
      have hn:=hp.name (by simpa using h5)
      have hq:=hp_ (s:=j.names.getD i []) (by omega)
      have hql:=fa_ (j.names.getD i [])
      simp only [h5,cond_true] at hF
      unfold dt_ at hol ⊢
      simp only [h5,cond_true] at hol ⊢
      simp only [aX_.turn4,aX_.step4,bh_,Int.toNat_natCast,hW,h5,cond_true,aE_,b7_,dl_,cu_,dm_ hi,da_ hi,da_ hn.1,ae_ hx,ae_ hq]
      generalize FEnc d (j.list.getD i aa_.dflt)=x at hF he ⊢
      generalize do_ (j.names.getD i [])=y at hF hql ⊢
      generalize (List.range i).map _=o at hF hol ⊢
      rw [←List.append_assoc] at hF
      repeat' (first|apply And.intro|intro _)
      all_goals (first|contradiction|exact hF|trivial|(rename_i hc;have hc:=of_decide_eq_false hc;simp only [List.length_append,List.length_cons,List.length_nil] at hc;omega)|(simp;omega))
   · simp only [aX_.turn4,aX_.step4,dh_,cond_false]
     exact hK
  have hjl:=lS_ h j.list.length (Nat.le_refl _)
  have hJ:=Join_ev (l:=(List.range j.list.length).map (dt_ (FEnc d) j)) (sep:=[44]) (by simp;omega) (by unfold dG_ at hjl;omega)
  simp only [aX_,bh_]
  refine hloop _ _ ?_
  rcases ho.kind with hk|hk|hk|hk|hk|hk
  · simp only [FEnc,hk,Int.reduceBEq,cond_true,ai_]
  · have hb:=ho.bool hk
    simp only [FEnc,hk,Int.reduceBEq,cond_true,cond_false,b7_,ai_]
    have:j.n_=0∨j.n_=1:=by omega
    rcases this with e|e<;>rw [e]<;>exact ⟨⟨by decide,by decide⟩,rfl⟩
  · have hn:=ho.num hk
    simp only [FEnc,hk,Int.reduceBEq,cond_true,cond_false,ae_ (l9_ (x:=j.n_) (by omega) (by omega)),ai_]
  · have hs:=ho.text hk
    simp only [FEnc,hk,Int.reduceBEq,cond_true,cond_false,ae_ (hp_ (s:=j.s) (by omega)),ai_]
  all_goals (
   simp only [FEnc,hk,Int.reduceBEq,cond_true,cond_false,ae_ hJ]
   unfold dG_ at hjl ⊢
   generalize Lib.join ((List.range j.list.length).map (dt_ (FEnc d) j)) [44]=o at hjl ⊢
   simp only [aE_,ai_,dl_]
   refine ⟨fun _=>⟨fun _=>trivial,fun hc => ?_⟩,fun hc => ?_⟩
   · have hc:=of_decide_eq_false hc
     simp only [List.length_append,List.length_cons,List.length_nil] at hc;omega
   · have hc:=of_decide_eq_false hc
     simp only [List.length_append,List.length_cons,List.length_nil] at hc;omega)
def bQ_ (j:aa_):Bs:=cond (co_ j) (cond (decide (((FEnc 6 j).length:Int) > 6000)) [] (FEnc 6 j)) []
theorem dP_ {j:aa_} (h:fg_ 6 j):Ev (fun n _=>cn_ n j) (bQ_ j):=by
 refine aI_ ?_
 simp only [cn_,bh_,ae_ (dp_ h),aE_,ai_,bQ_]
 cases hj:co_ j with
 |false=>simp
 |true=>
  simp only [ae_ (gj_ 6 j (of_decide_eq_true hj)),aE_,ai_]
  cases decide (((FEnc 6 j).length:Int) > 6000)<;>simp
theorem dF_ {j:aa_} (h:fg_ 6 j):Ev (fun n _=>ct_ n j) (bQ_ j):=by
 refine aI_ ?_
 simp only [ct_,bh_,ae_ (dq_ h),aE_,ai_,bQ_]
 cases hj:co_ j with
 |false=>simp
 |true=>
  simp only [ae_ (gJ_ 6 j (of_decide_eq_true hj)),aE_,ai_]
  cases decide (((FEnc 6 j).length:Int) > 6000)<;>simp
end Go.Pi
end
section
namespace Go.Pi
def pN_:Nat→aa_→Prop
 |0,_=>False
 |d+1,j=>∀ x ∈ j.list,pN_ d x
theorem eH_:∀ (d:Nat) (j:aa_),bE_ d j≤400→pN_ d j
 |0,j,h=>by simp only [bE_] at h;omega
 |d+1,j,h=>fun x hx=>by
  refine eH_ d x ?_
  simp only [bE_] at h
  have:=gv_ (bE_ d) hx
  cases ho:FOwn j with
  |false=>rw [ho] at h;simp only [cond_false] at h;omega
  |true=>rw [ho] at h;simp only [cond_true] at h;omega
def hM_ (a b:List Bs):Bool:=decide (a.length=b.length)&&nX_ (fun i=>a.getD i [] == b.getD i []) a.length
def ef_:Nat→aa_→aa_→Bool
 |0,_,_=>true
 |d+1,a,b=>(a.kind == b.kind)&&((a.n_ == b.n_)&&((a.s == b.s)&&(hM_ a.names b.names&&(decide (a.list.length=b.list.length)&&nX_ (fun i=>ef_ d (a.list.getD i aa_.dflt) (b.list.getD i aa_.dflt)) a.list.length))))
theorem ne_len {n m:Nat}:((n:Int) != (m:Int)) = !decide (n=m):=by
 by_cases h:n=m
 · rw [h,decide_eq_true rfl];simp
 · rw [decide_eq_false h];simp;omega
theorem eb_:∀ (d:Nat) (a b:aa_),pN_ d a→fg_ d a→Ev (fun n _=>aj_ n a b) (ef_ d a b)
 |0,a,b,h,_=>h.elim
 |d+1,a,b,h,hl=>by
  refine aI_ ?_
  simp only [aj_,ne_len,aE_,ai_,ef_,hM_]
  by_cases hq:a.list.length=b.list.length
  · by_cases hq2:a.names.length=b.names.length
    · have hN:Ev (fun n _=>aj_.loop14 n (aj_ n) (some true) n 0 a.kind a.n_ a.s a.list a.names b.kind b.n_ b.s b.list b.names) (nX_ (fun i=>a.names.getD i [] == b.names.getD i []) a.names.length):=by
       refine js_ (hs_ (fun n N i=>aj_.loop14 n (aj_ n) (some true) N (i:Int) a.kind a.n_ a.s a.list a.names b.kind b.n_ b.s b.list b.names) (fun i=>a.names.getD i [] == b.names.getD i []) (len:=a.names.length) (v:=true) (fun i w hi ih => ?_) ?_) (by rw [Bool.and_true])
       · simp only [aj_.turn14,aj_.step14,Int.toNat_natCast,W_up hi hl.1.2.1,aE_,b7_,ai_,eA_ ih,dm_ hi,da_ hi,da_ (hq2 ▸ hi)]
         cases (a.names.getD i [] == b.names.getD i [])<;>simp
       · simp only [aj_.turn14,aj_.step14,dh_,cond_false,ai_]
      have hL:Ev (fun n _=>aj_.loop6 n (aj_ n) (fun xy2 xy3 xy4 xy5 xy6 xy7 xy8 xy9 xy10 xy11=>(aj_.loop14 n (aj_ n) (some true) n 0 xy2 xy3 xy4 xy5 xy6 xy7 xy8 xy9 xy10 xy11)) n 0 a.kind a.n_ a.s a.list a.names b.kind b.n_ b.s b.list b.names) (nX_ (fun i=>ef_ d (a.list.getD i aa_.dflt) (b.list.getD i aa_.dflt)) a.list.length&&nX_ (fun i=>a.names.getD i [] == b.names.getD i []) a.names.length):=by
       refine hs_ (fun n N i=>aj_.loop6 n (aj_ n) (fun xy2 xy3 xy4 xy5 xy6 xy7 xy8 xy9 xy10 xy11=>(aj_.loop14 n (aj_ n) (some true) n 0 xy2 xy3 xy4 xy5 xy6 xy7 xy8 xy9 xy10 xy11)) N (i:Int) a.kind a.n_ a.s a.list a.names b.kind b.n_ b.s b.list b.names) _ (fun i w hi ih => ?_) ?_
       · have hx:=eb_ d (a.list.getD i aa_.dflt) (b.list.getD i aa_.dflt) (h _ (cO_ _ hi)) (hl.2.2 _ (cO_ _ hi))
         simp only [aj_.turn6,aj_.step6,bh_,Int.toNat_natCast,W_up hi hl.2.1,aE_,b7_,ae_ hx,ai_,eA_ ih,dm_ hi,da_ hi,da_ (hq ▸ hi)]
         cases ef_ d (a.list.getD i aa_.dflt) (b.list.getD i aa_.dflt)<;>simp
       · simp only [aj_.turn6,aj_.step6,dh_,cond_false]
         exact hN
      rw [decide_eq_true hq,decide_eq_true hq2]
      simp only [eA_ hL,bne]
      generalize nX_ (fun i=>ef_ d (a.list.getD i aa_.dflt) (b.list.getD i aa_.dflt)) a.list.length=u
      generalize nX_ (fun i=>a.names.getD i [] == b.names.getD i []) a.names.length=w
      cases (a.kind == b.kind)<;>cases (a.n_ == b.n_)<;>cases (a.s == b.s)<;>cases u<;>cases w<;>simp
    · rw [decide_eq_false hq2]
      simp only [bne]
      cases (a.kind == b.kind)<;>cases (a.n_ == b.n_)<;>cases (a.s == b.s)<;>cases decide (a.list.length=b.list.length)<;>simp
  · rw [decide_eq_false hq]
    simp only [bne]
    cases (a.kind == b.kind)<;>cases (a.n_ == b.n_)<;>cases (a.s == b.s)<;>simp
end Go.Pi
end
section
namespace Go.Pi
def dI_ (ns:List Bs) (x:Bs):Nat:=ns.findIdx (fun y => !Op.bytesLess y x)
def f0_ (ns:List Bs) (x:Bs):Nat:=if ns.getD (dI_ ns x) []=x∧dI_ ns x<ns.length then dI_ ns x+1 else dI_ ns x
def mz_ {α:Type} (ns:List Bs) (x:Bs) (l:List α) (y:α):List α:=l.take (dI_ ns x)++[y]++l.drop (f0_ ns x)
theorem g5_ {α:Type} (d:α) {a m:List α} {i q:Nat} (p:Nat) (hi:i<a.length) (h:q≤i):a.take p++m++(a.take (i+1)).drop q=a.take p++m++(a.take i).drop q++[a.getD i d]:=by
 rw [dg_ d hi,List.drop_append_of_le_length (by simp;omega)]
 simp
theorem put_idx {ns:List Bs} {x:Bs} {i:Nat} (hi:i<ns.length) (hle:i≤dI_ ns x):(!Op.bytesLess (ns.getD i []) x)=decide (i=dI_ ns x):=by
 rw [List.getD_eq_getElem?_getD,List.getElem?_eq_getElem hi,Option.getD_some]
 unfold dI_ at hle ⊢
 by_cases h:i=ns.findIdx (fun y => !Op.bytesLess y x)
 · rw [decide_eq_true h]
   have:=List.findIdx_getElem (xs:=ns) (p:=fun y => !Op.bytesLess y x) (w:=by omega)
   simp only [←h] at this
   exact this
 · rw [decide_eq_false h]
   exact List.not_of_lt_findIdx (xs:=ns) (p:=fun y => !Op.bytesLess y x) (i:=i) (by omega)
theorem hT_ {o j:aa_} {x:Bs} (hk:o.names.length≤2000000) (he:o.list.length=o.names.length) (hlt:∀ y,Op.bytesLess y x=true→(y == x)=false) (hne:∀ i,f0_ o.names x≤i→i<o.names.length→(o.names.getD i [] == x)=false) :
  Ev (fun n _=>bq_ n o x j) (aa_.mk 5 0 [] (mz_ o.names x o.list j) (mz_ o.names x o.names x)):=by
 refine aI_ ?_
 have ht:o.names.length≤cY_:=by simp only [cY_];omega
 obtain ⟨p,hp⟩:∃ p,p=dI_ o.names x:=⟨_,rfl⟩
 have hpl:p≤o.names.length:=by rw [hp];exact List.findIdx_le_length
 obtain ⟨q,hq⟩:∃ q,q=f0_ o.names x:=⟨_,rfl⟩
 have hqp:p≤q∧q≤p+1:=by rw [hq,hp];unfold f0_;split<;>omega
 have hT:o.list.take o.names.length=o.list:=List.take_of_length_le (by omega)
 let S:Nat→Bool × List aa_ × List Bs:=fun i=>if i≤p then (false,o.list.take i,o.names.take i) else (true,o.list.take p++[j]++(o.list.take i).drop q,o.names.take p++[x]++(o.names.take i).drop q)
 have hS0:S 0=(false,[],[]):=by simp [S]
 simp only [bq_]
 have:=eY_ S o.names.length (fun n N i (s:Bool × List aa_ × List Bs)=>bq_.loop5 n (fun xy1 xy2 xy3 xy4 xy5 xy6 xy7 xy8 xy9 xy10 xy11 xy12 xy13 xy14 xy15=>(cond (!xy2) (cF_ (xy15.length+([xy1]:List Bs).length) 16 (cF_ (xy14.length+([(aa_.mk xy3 xy4 xy5 xy6 xy7)]:List aa_).length) 80 (some (aa_.mk xy11 xy12 xy13 (xy14++([(aa_.mk xy3 xy4 xy5 xy6 xy7)]:List aa_)) (xy15++([xy1]:List Bs)))))) (some (aa_.mk xy11 xy12 xy13 xy14 xy15)))) N x s.1 (i:Int) o.kind o.n_ o.s o.list o.names j.kind j.n_ j.s j.list j.names 0 0 [] 5 0 [] s.2.1 s.2.2)
  (aa_.mk 5 0 [] (mz_ o.names x o.list j) (mz_ o.names x o.names x)) (fun i hi F hF => ?_) ?_
 · rw [hS0] at this;exact this
 · have hx:=put_idx (ns:=o.names) (x:=x) hi
   rw [←hp] at hx
   have hln:(S i).2.2.length≤o.names.length+1:=by simp only [S];split<;>simp<;>omega
   have hll:(S i).2.1.length≤o.names.length+1:=by simp only [S];split<;>simp<;>omega
   have hil:i<o.list.length:=by omega
   simp only [bq_.turn5,bq_.step5,dj_,bh_,Int.toNat_natCast,W_up hi ht,aE_,b7_,cu_,dm_ hi,da_ hi,da_ hil]
   by_cases hle:i≤p
   · have s1:S i=(false,o.list.take i,o.names.take i):=by simp only [S,if_pos hle]
     rw [s1] at hln hll ⊢
     by_cases e:i=p
     · have hb:(!Op.bytesLess (o.names.getD i []) x)=true:=by rw [hx hle];exact decide_eq_true e
       subst e
       by_cases hs:o.names.getD i []=x
       · have hqv:q=i+1:=by rw [hq];unfold f0_;rw [←hp,if_pos ⟨hs,hi⟩]
         have s2:S (i+1)=(true,o.list.take i++[j],o.names.take i++[x]):=by
          simp only [S,if_neg (show ¬ i+1≤i by omega)]
          rw [List.drop_eq_nil_of_le (by simp;omega),List.drop_eq_nil_of_le (by simp;omega),List.append_nil,List.append_nil]
         rw [s2] at hF
         have hs':(o.names.getD i [] == x)=true:=by simpa using hs
         simp only [hb,hs',cond_true,cond_false,Bool.not_true,Bool.not_false]
         repeat' (first|apply And.intro|intro _)
         all_goals (first|contradiction|exact hF|trivial|(simp;omega))
       · have hqv:q=i:=by rw [hq];unfold f0_;rw [←hp,if_neg (fun h=>hs h.1)]
         have s2:S (i+1)=(true,o.list.take i++[j]++[o.list.getD i aa_.dflt],o.names.take i++[x]++[o.names.getD i []]):=by
          simp only [S,if_neg (show ¬ i+1≤i by omega),hqv]
          rw [g5_ aa_.dflt i hil (Nat.le_refl _),g5_ [] i hi (Nat.le_refl _),List.drop_eq_nil_of_le (by simp;omega),List.drop_eq_nil_of_le (by simp;omega),List.append_nil,List.append_nil]
         rw [s2] at hF
         have hs':(o.names.getD i [] == x)=false:=by simpa using hs
         simp only [hb,hs',cond_true,cond_false,Bool.not_true,Bool.not_false]
         repeat' (first|apply And.intro|intro _)
         all_goals (first|contradiction|exact hF|trivial|(simp;omega))
     · have hb:(!Op.bytesLess (o.names.getD i []) x)=false:=by rw [hx hle];exact decide_eq_false e
       have hs':(o.names.getD i [] == x)=false:=hlt (o.names.getD i []) (by rw [Bool.not_eq_false'] at hb;exact hb)
       have s2:S (i+1)=(false,o.list.take i++[o.list.getD i aa_.dflt],o.names.take i++[o.names.getD i []]):=by
        simp only [S,if_pos (show i+1≤p by omega),dg_ aa_.dflt hil,dg_ [] hi]
       rw [s2] at hF
       simp only [hb,hs',cond_true,cond_false,Bool.not_true,Bool.not_false]
       repeat' (first|apply And.intro|intro _)
       all_goals (first|contradiction|exact hF|trivial|(simp;omega))
   · have s1:S i=(true,o.list.take p++[j]++(o.list.take i).drop q,o.names.take p++[x]++(o.names.take i).drop q):=by simp only [S,if_neg hle]
     have s2:S (i+1)=(true,o.list.take p++[j]++(o.list.take i).drop q++[o.list.getD i aa_.dflt],o.names.take p++[x]++(o.names.take i).drop q++[o.names.getD i []]):=by
      simp only [S,if_neg (show ¬ i+1≤p by omega)]
      rw [g5_ aa_.dflt p hil (by omega),g5_ [] p hi (by omega)]
     have hs':=hne i (by omega) hi
     rw [s1] at hln hll ⊢
     rw [s2] at hF
     simp only [hs',cond_true,cond_false,Bool.not_true,Bool.not_false]
     repeat' (first|apply And.intro|intro _)
     all_goals (first|contradiction|exact hF|trivial|(simp at hln hll ⊢;omega))
 · simp only [bq_.turn5,bq_.step5,dj_,dh_,cond_false,aE_,cu_,ai_]
   unfold mz_
   rw [←hp,←hq]
   by_cases hle:o.names.length≤p
   · have e:p=o.names.length:=by omega
     have hqv:q=p:=by rw [hq];unfold f0_;rw [←hp,if_neg (fun h=>by omega)]
     have s1:S o.names.length=(false,o.list,o.names):=by simp only [S,if_pos hle,List.take_length];rw [List.take_of_length_le (by omega)]
     rw [s1,hqv,e,List.take_of_length_le (l:=o.list) (by omega),List.drop_eq_nil_of_le (show o.list.length≤o.names.length by omega),List.take_length,List.drop_length]
     refine ⟨fun _=>⟨by simp;omega,by simp;omega,by simp⟩,fun h=>(by cases h)⟩
   · have s1:S o.names.length=(true,o.list.take p++[j]++o.list.drop q,o.names.take p++[x]++o.names.drop q):=by simp only [S,if_neg hle,List.take_length];rw [hT]
     rw [s1]
     exact ⟨fun h=>(by cases h),fun _=>rfl⟩
end Go.Pi
end
section
namespace Go.Pi
theorem fG_:∀ (x y:Bs),Op.bytesLess x y=decide (x<y)
 |[],[]=>by simp [Op.bytesLess]
 |_::_,[]=>by simp [Op.bytesLess]
 |[],_::_=>by simp [Op.bytesLess]
 |a::x,b::y=>by
  rw [Op.bytesLess,fG_ x y]
  simp only [List.cons_lt_cons_iff]
  by_cases h1:a<b<;>by_cases h2:a=b<;>by_cases h3:x<y<;>simp [h1,h2,h3]
theorem less_ne {x y:Bs} (h:Op.bytesLess y x=true):(y == x)=false:=by
 rw [fG_] at h
 exact beq_eq_false_iff_ne.2 fun e=>by subst e;exact List.lt_irrefl y (of_decide_eq_true h)
end Go.Pi
end
section
namespace Go.Pi
def e6_:aa_:=aa_.mk 0 0 [] [] []
def kn_ (j:aa_):aa_:=cond (co_ j) j e6_
theorem orNull_ev {j:aa_} (h:fg_ 6 j):Ev (fun n _=>cK_ n j) (kn_ j):=by
 refine aI_ ?_
 simp only [cK_,bh_,ae_ (dq_ h),aE_,ai_,kn_,e6_]
 cases co_ j<;>simp
end Go.Pi
end
section
namespace Go.Pi
theorem eQ_ {d:Nat} {j:aa_} (h:bE_ (d+1) j≤400):j.names.length≤400:=by
 have h1:=d6_ h
 have ho:=(di_ h).1
 by_cases hk:j.kind=5
 · have:=(ho.obj hk).1;omega
 · have:FOwn j=true:=by
    simp only [bE_] at h
    cases hf:FOwn j with
    |true=>rfl
    |false=>rw [hf,cond_false] at h;omega
   unfold FOwn at this
   simp only [Bool.and_eq_true,Bool.or_eq_true] at this
   rcases this.2.1 with h2|h2
   · have:=of_decide_eq_true h2;omega
   · exact absurd (by simpa using h2) hk
theorem dx_:∀ (d:Nat) (j:aa_),bE_ d j≤400→Ev (fun n _=>aq_ n j) j
 |0,j,h=>by simp only [bE_] at h;omega
 |d+1,j,h=>by
  have hll:=d6_ h
  have hnl:=eQ_ h
  refine aI_ ?_
  have hc:Ev (fun n _=>bW_ n j.names) j.names:=aI_ (by simp only [bW_,cu_,ai_,List.nil_append,List.length_nil,and_true];omega)
  simp only [aq_,ae_ hc]
  have:=eY_ (fun i=>j.list.take i) j.list.length (fun n N i (o:List aa_)=>aq_.loop4 n (aq_ n) (fun xy3 xy4 xy5 xy6 xy7 xy8 xy9 xy10=>(some (aa_.mk xy6 xy7 xy8 xy9 xy10))) N j.list (j.list.length:Int) (i:Int) 0 0 [] j.kind j.n_ j.s o j.names) j (fun i hi F hF => ?_) ?_
  · exact this
  · have hp:=eD_ h hi
    have hx:=dx_ d (j.list.getD i aa_.dflt) hp.size
    rw [dg_ aa_.dflt hi] at hF
    simp only [aq_.turn4,aq_.step4,bh_,Int.toNat_natCast,W_up hi (show j.list.length≤cY_ by simp only [cY_];omega),aE_,b7_,cu_,dm_ hi,da_ hi,ae_ hx]
    exact ⟨fun _=>⟨trivial,by simp;omega,hF⟩,fun h=>(by cases h)⟩
  · simp only [aq_.turn4,aq_.step4,dh_,cond_false,List.take_length,ai_,dj_]
theorem dz_:∀ (d:Nat) (j:aa_),bE_ d j≤400→Ev (fun n _=>aH_ n j) j
 |0,j,h=>by simp only [bE_] at h;omega
 |d+1,j,h=>by
  have hll:=d6_ h
  have hnl:=eQ_ h
  refine aI_ ?_
  simp only [aH_,cu_,List.nil_append,List.length_nil]
  refine ⟨by omega,?_⟩
  have:=eY_ (fun i=>j.list.take i) j.list.length (fun n N i (o:List aa_)=>aH_.loop4 n (aH_ n) (fun xy2 xy3 xy4 xy5 xy6 xy7 xy8 xy9=>(some (aa_.mk xy5 xy6 xy7 xy8 xy9))) N (i:Int) j.kind j.n_ j.s j.list j.names 0 0 [] j.kind j.n_ j.s o j.names) j (fun i hi F hF => ?_) ?_
  · exact this
  · have hp:=eD_ h hi
    have hx:=dz_ d (j.list.getD i aa_.dflt) hp.size
    rw [dg_ aa_.dflt hi] at hF
    simp only [aH_.turn4,aH_.step4,bh_,Int.toNat_natCast,W_up hi (show j.list.length≤cY_ by simp only [cY_];omega),aE_,b7_,cu_,dm_ hi,da_ hi,ae_ hx]
    exact ⟨fun _=>⟨trivial,by simp;omega,hF⟩,fun h=>(by cases h)⟩
  · simp only [aH_.turn4,aH_.step4,dh_,cond_false,List.take_length,ai_,dj_]
def il_ (j:aa_):Bool:=(j.kind == 0)&&((j.n_ == 0)&&((j.s == [])&&(decide (j.list.length=0)&&decide (j.names.length=0))))
theorem lK_ {α:Type} (l:List α):((l.length:Int) == 0)=decide (l.length=0):=by
 by_cases h:l.length=0
 · rw [h];rfl
 · rw [decide_eq_false h];simp;intro e;exact h (by rw [e];rfl)
theorem hq_ {j:aa_}:Ev (fun n _=>cG_ n j) (il_ j):=by
 refine aI_ ?_
 simp only [cG_,aE_,ai_,il_,lK_]
 cases (j.kind == 0)<;>cases (j.n_ == 0)<;>cases (j.s == [])<;>cases decide (j.list.length=0)<;>simp
theorem pS_ (d:Nat) (j:aa_):ef_ (d+1) j e6_=il_ j:=by
 simp only [ef_,e6_,hM_,il_,List.length_nil]
 by_cases h1:j.names.length=0
 · by_cases h2:j.list.length=0
   · rw [h1,h2];simp [nX_,gY_]
   · have h2:j.list≠[]:=fun e=>h2 (by rw [e];rfl)
     simp [h2]
 · have h1:j.names≠[]:=fun e=>h1 (by rw [e];rfl)
   simp [h1]
def o8_ (w:List Bs):Bool:=nX_ (fun i=>hk_ (w.getD i [])) w.length
def fp_ (o:TOp):Bool:=inn o.kind 1 4&&(decide (o.way.length≤6)&&(co_ o.value&&(o8_ o.way&&((o.kind != 2)||il_ o.value))))
def ex_ (o:TOp):Prop:=pu_ cY_ o.way∧fg_ 6 o.value
theorem ek_ (o:TOp):TOp.mk o.kind o.way o.value=o:=rfl
theorem gt_le {n:Nat}:decide ((n:Int) > 6) = !decide (n≤6):=by
 by_cases h:n≤6
 · rw [decide_eq_true h,decide_eq_false (by omega)];rfl
 · rw [decide_eq_false h,decide_eq_true (by omega)];rfl
theorem le_le {n:Nat}:decide ((n:Int)≤6)=decide (n≤6):=by
 by_cases h:n≤6
 · rw [decide_eq_true h,decide_eq_true (by omega)]
 · rw [decide_eq_false h,decide_eq_false (by omega)]
theorem iU_ {o:TOp} (h:ex_ o):Ev (fun n _=>bG_ n o) (fp_ o):=by
 refine aI_ ?_
 simp only [bG_,bh_,l1In_b,ae_ (dp_ h.2),aE_,ai_,gt_le,fp_]
 cases hj:co_ o.value with
 |false=>cases inn o.kind 1 4<;>cases decide (o.way.length≤6)<;>simp
 |true=>
  have hS:=eb_ 6 o.value e6_ (eH_ 6 o.value (of_decide_eq_true hj)) h.2
  rw [pS_] at hS
  unfold e6_ at hS
  have hl:Ev (fun n _=>bG_.loop6 n (fun xy4 xy5 xy6 xy7 xy8 xy9 xy10=>(cond (xy4 != 2) (some true) ((aj_ n (aa_.mk xy6 xy7 xy8 xy9 xy10) (aa_.mk 0 0 [] [] [])).bind fun xr11=>(some xr11)))) n 0 o.kind o.way o.value.kind o.value.n_ o.value.s o.value.list o.value.names) (o8_ o.way&&((o.kind != 2)||il_ o.value)):=by
   refine hs_ (fun n N i=>bG_.loop6 n (fun xy4 xy5 xy6 xy7 xy8 xy9 xy10=>(cond (xy4 != 2) (some true) ((aj_ n (aa_.mk xy6 xy7 xy8 xy9 xy10) (aa_.mk 0 0 [] [] [])).bind fun xr11=>(some xr11)))) N (i:Int) o.kind o.way o.value.kind o.value.n_ o.value.s o.value.list o.value.names) _ (fun i w hi ih => ?_) ?_
   · simp only [bG_.turn6,bG_.step6,Int.toNat_natCast,W_up hi h.1.1,aE_,b7_,ae_ (fA_ (id_ h.1 i)),ai_,eA_ ih,dm_ hi,da_ hi]
     cases hk_ (o.way.getD i [])<;>simp
   · simp only [bG_.turn6,bG_.step6,dh_,cond_false,dj_,aE_,ae_ hS,ai_]
     cases (o.kind != 2)<;>simp
  simp only [eA_ hl]
  cases inn o.kind 1 4<;>cases decide (o.way.length≤6)<;>simp
theorem fu_ {o:TOp} (h:ex_ o):Ev (fun n _=>bH_ n o) (fp_ o):=by
 refine aI_ ?_
 simp only [bH_]
 have e:fp_ o=(o8_ o.way&&(inn o.kind 1 4&&(decide (o.way.length≤6)&&(co_ o.value&&((o.kind != 2)||il_ o.value))))):=by
  unfold fp_
  cases inn o.kind 1 4<;>cases decide (o.way.length≤6)<;>cases co_ o.value<;>cases o8_ o.way<;>simp
 rw [e]
 refine hs_ (fun n N i=>bH_.loop3 n (fun xy2 xy3 xy4 xy5 xy6 xy7 xy8=>((aS_ n xy2 1 4).bind fun xr9=>(cond xr9 (cond (decide ((xy3.length:Int)≤6)) ((b0_ n (aa_.mk xy4 xy5 xy6 xy7 xy8)).bind fun xr10=>(cond xr10 (cond (xy2 != 2) (some true) ((cG_ n (aa_.mk xy4 xy5 xy6 xy7 xy8)).bind fun xr11=>(some xr11))) (some false))) (some false)) (some false)))) N o.way (o.way.length:Int) (i:Int) o.kind o.way o.value.kind o.value.n_ o.value.s o.value.list o.value.names) _ (fun i w hi ih => ?_) ?_
 · simp only [bH_.turn3,bH_.step3,Int.toNat_natCast,W_up hi h.1.1,aE_,b7_,ae_ (fE_ (id_ h.1 i)),ai_,eA_ ih,dm_ hi,da_ hi]
   cases hk_ (o.way.getD i [])<;>simp
 · simp only [bH_.turn3,bH_.step3,dh_,cond_false,dj_,aE_,fq_,le_le,ae_ (dq_ h.2),ae_ hq_,ai_]
   cases inn o.kind 1 4<;>cases decide (o.way.length≤6)<;>cases co_ o.value<;>cases (o.kind != 2)<;>simp
def eX_ (k:Int):Bs:=cond (k == 1) [97,100,100] (cond (k == 2) [114,101,109,111,118,101] (cond (k == 3) [114,101,112,108,97,99,101] [116,101,115,116]))
def pa_ (s:Bs):aa_:=aa_.mk 3 0 s [] []
abbrev p2_:Bs:=[111,112]
abbrev eP_:Bs:=[112,97,116,104]
abbrev f1_:Bs:=[118,97,108,117,101]
def dO_ (o:TOp):aa_:=cond (o.kind == 2) (aa_.mk 5 0 [] [pa_ (eX_ o.kind),pa_ (FWay o.way)] [p2_,eP_]) (aa_.mk 5 0 [] [pa_ (eX_ o.kind),pa_ (FWay o.way),o.value] [p2_,eP_,f1_])
def c9_ (o:TOp):aa_:=cond (fp_ o) (kn_ (dO_ o)) e6_
theorem lN_:∀ (d:Nat) (j:aa_),fg_ (d+1) j→fg_ d j
 |0,_,_=>trivial
 |d+1,j,h=>⟨h.1,h.2.1,fun x hx=>lN_ d x (h.2.2 x hx)⟩
theorem jq_ {s:Bs} (h:s.length≤cY_):∀ d,fg_ d (pa_ s)
 |0=>trivial
 |d+1=>⟨⟨h,Nat.zero_le _,fun x hx=>(by cases hx)⟩,Nat.zero_le _,fun x hx=>(by cases hx)⟩
theorem ff_:∀ d,fg_ d e6_
 |0=>trivial
 |d+1=>⟨⟨Nat.zero_le _,Nat.zero_le _,fun x hx=>(by cases hx)⟩,Nat.zero_le _,fun x hx=>(by cases hx)⟩
structure OpIs (o:TOp):Prop where
 kind:o.kind=1∨o.kind=2∨o.kind=3∨o.kind=4
 way:o.way.length≤6
 text:∀ s ∈ o.way,s.length≤60
 val:bE_ 6 o.value≤400
theorem pl_ {o:TOp} (h:fp_ o=true):OpIs o:=by
 unfold fp_ at h
 simp only [Bool.and_eq_true] at h
 obtain ⟨h1,h2,h3,h4,_⟩:=h
 have hk:=g6_ h1
 refine ⟨by omega,of_decide_eq_true h2,fun s hs => ?_,of_decide_eq_true h3⟩
 obtain ⟨i,hi,e⟩:=List.mem_iff_getElem.1 hs
 have:=fy_.1 h4 i hi
 rw [List.getD_eq_getElem?_getD,List.getElem?_eq_getElem hi,Option.getD_some,e] at this
 exact g1_ this
theorem name_len (k:Int):(eX_ k).length≤60:=by
 unfold eX_
 cases (k == 1)<;>cases (k == 2)<;>cases (k == 3)<;>simp
theorem iD_ {o:TOp} (h:ex_ o) (ho:OpIs o):fg_ 6 (dO_ o):=by
 have hw:=ma_ ho.text
 have hwl:=ho.way
 have hw2:(FWay o.way).length≤cY_:=by simp only [cY_];omega
 have hn:(eX_ o.kind).length≤cY_:=by have:=name_len o.kind;simp only [cY_];omega
 have hv:=lN_ 5 _ h.2
 unfold dO_
 cases (o.kind == 2) with
 |true=>
  refine ⟨⟨Nat.zero_le _,by show 2≤cY_;decide,fun x hx => ?_⟩,by show 2≤cY_;decide,fun x hx => ?_⟩
  · simp at hx;rcases hx with e|e<;>(rw [e];decide)
  · simp at hx;rcases hx with e|e
    · rw [e];exact jq_ hn 5
    · rw [e];exact jq_ hw2 5
 |false=>
  refine ⟨⟨Nat.zero_le _,by show 3≤cY_;decide,fun x hx => ?_⟩,by show 3≤cY_;decide,fun x hx => ?_⟩
  · simp at hx;rcases hx with e|e|e<;>(rw [e];decide)
  · simp at hx;rcases hx with e|e|e
    · rw [e];exact jq_ hn 5
    · rw [e];exact jq_ hw2 5
    · rw [e];exact hv
theorem hF_ {o:TOp} (h:ex_ o):fg_ 6 (c9_ o):=by
 unfold c9_
 cases ho:fp_ o with
 |false=>exact ff_ 6
 |true=>
  unfold kn_
  cases co_ (dO_ o) with
  |false=>exact ff_ 6
  |true=>exact iD_ h (pl_ ho)
theorem put_value (a b v:aa_):Ev (fun n _=>bq_ n (aa_.mk 5 0 [] [a,b] [p2_,eP_]) f1_ v) (aa_.mk 5 0 [] [a,b,v] [p2_,eP_,f1_]) :=
 hT_ (o:=aa_.mk 5 0 [] [a,b] [p2_,eP_]) (j:=v) (x:=f1_) (by show 2≤2000000;decide) rfl (fun _=>less_ne) (fun i h1 h2=>by
  have:f0_ [p2_,eP_] f1_=2:=by decide
  have h2:i<2:=h2
  have h1:f0_ [p2_,eP_] f1_≤i:=h1
  omega)
theorem eK_ {o:TOp} (h:ex_ o):Ev (fun n _=>cJ_ n o) (c9_ o):=by
 refine aI_ ?_
 have hN:Ev (fun n _=>ce_ n ()) [[],[97,100,100],[114,101,109,111,118,101],[114,101,112,108,97,99,101],[116,101,115,116]]:=aI_ (by simp only [ce_,ai_])
 simp only [cJ_,bh_,ek_,ae_ (iU_ h),aE_,ai_]
 unfold c9_
 cases ho:fp_ o with
 |false=>exact ⟨fun _=>rfl,fun h=>(by cases h)⟩
 |true=>
  refine ⟨fun h=>(by cases h),fun _ => ?_⟩
  have hi:=pl_ ho
  have hV:=dp_ (iD_ h hi)
  have hCp:=dz_ 6 o.value hi.val
  simp only [ae_ hN,b7_,ae_ (jD_ hi.way hi.text)]
  unfold kn_ e6_ dO_ pa_ eX_
  unfold dO_ pa_ eX_ at hV
  rcases hi.kind with hk|hk|hk|hk
  all_goals (
   simp only [hk,Int.reduceBEq,cond_true,cond_false] at hV
   simp only [hk,Int.reduceBEq,cond_true,cond_false,bne,Bool.not_false,Bool.not_true,Int.reduceToNat,List.getD_cons_succ,List.getD_cons_zero,aE_,ae_ hCp,ae_ (put_value _ _ _),ae_ hV,ai_]
   refine ⟨⟨by decide,by decide⟩,?_⟩
   generalize co_ _=q
   cases q<;>simp)
theorem eM_ {o:TOp} (h:ex_ o):Ev (fun n _=>cM_ n o) (c9_ o):=by
 refine aI_ ?_
 have hN:Ev (fun n _=>cf_ n ()) [[97,100,100],[114,101,109,111,118,101],[114,101,112,108,97,99,101],[116,101,115,116]]:=aI_ (by simp only [cf_,ai_])
 simp only [cM_,bh_,ek_,ae_ (fu_ h),aE_,ai_]
 unfold c9_
 cases ho:fp_ o with
 |false=>exact ⟨fun _=>rfl,fun h=>(by cases h)⟩
 |true=>
  refine ⟨fun h=>(by cases h),fun _ => ?_⟩
  have hi:=pl_ ho
  have hV:=orNull_ev (iD_ h hi)
  have hCp:=dx_ 6 o.value hi.val
  simp only [ae_ hN,b7_,ae_ (gL_ hi.way hi.text)]
  simp only [cond_true]
  unfold dO_ pa_ eX_
  unfold dO_ pa_ eX_ at hV
  have w1:W ((1:Int) - 1)=0:=by rw [W_id (by decide) (by decide)];rfl
  have w2:W ((2:Int) - 1)=1:=by rw [W_id (by decide) (by decide)];rfl
  have w3:W ((3:Int) - 1)=2:=by rw [W_id (by decide) (by decide)];rfl
  have w4:W ((4:Int) - 1)=3:=by rw [W_id (by decide) (by decide)];rfl
  rcases hi.kind with hk|hk|hk|hk
  all_goals (
   simp only [hk,Int.reduceBEq,cond_true,cond_false] at hV
   simp only [hk,w1,w2,w3,w4,Int.reduceBEq,cond_true,cond_false,bne,Bool.not_false,Bool.not_true,Int.reduceToNat,List.getD_cons_succ,List.getD_cons_zero,List.cons_append,List.nil_append,aE_,cu_,ae_ hCp,ae_ hV,ai_,true_implies,false_implies,reduceCtorEq,and_true,true_and]
   simp only [List.length_cons,List.length_nil]
   decide)
end Go.Pi
end
section
namespace Go.Pi
def pfx (p s:Bs):Bool:=p.isPrefixOf s
theorem mB_ {a c:UInt8} (h:c≠a) (p t:Bs):pfx (a::p) (c::t)=false:=by
 have e:(a == c)=false:=beq_eq_false_iff_ne.2 fun e=>h e.symm
 show (a == c&&List.isPrefixOf p t)=false
 rw [e];rfl
theorem pfx_nil (a:UInt8) (p:Bs):pfx (a::p) []=false:=rfl
theorem hC_ (p t:Bs):pfx p (p++t)=true:=List.isPrefixOf_iff_prefix.2 (List.prefix_append p t)
theorem hB_ {p t:Bs} (h:pfx p t=true):p.length≤t.length:=(List.isPrefixOf_iff_prefix.1 h).length_le
theorem jp_ (p s:Bs):pfx p s=((s.take p.length).drop 0 == p):=by
 rw [List.drop_zero]
 refine Bool.eq_iff_iff.2 ?_
 rw [beq_iff_eq]
 exact ⟨fun h=>(List.prefix_iff_eq_take.1 (List.isPrefixOf_iff_prefix.1 h)).symm,fun h=>List.isPrefixOf_iff_prefix.2 (List.prefix_iff_eq_take.2 h.symm)⟩
section
variable {β:Type} {g:Nat→Nat→Bool→Option β} {v:β}
theorem g0_ {s p:Bs}:Ev (fun n _=>aw_ n s p) (pfx p s):=by
 refine aI_ ?_
 simp only [aw_,aE_,d4_,ai_,Int.toNat_natCast]
 refine ⟨fun h => ?_,fun h => ?_⟩
 · have h:=of_decide_eq_true h
   exact ⟨⟨by omega,by omega,by omega⟩,(jp_ p s).symm⟩
 · have h:=of_decide_eq_false h
   cases e:pfx p s with
   |false=>rfl
   |true=>have:=hB_ e;omega
theorem fz_ {s p:Bs}:Ev (fun n _=>bx_ n s p) (cond (pfx p s) (s.drop p.length,true) (s,false)):=by
 have:Ev (fun n _=>aF_ n s p) (cond (pfx p s) (s.drop p.length,true) (s,false)):=by
  refine aI_ ?_
  simp only [aF_,ae_ g0_,aE_,d4_,ai_,Int.toNat_natCast,List.take_length]
  cases e:pfx p s with
  |false=>exact ⟨fun _=>rfl,fun h=>(by cases h)⟩
  |true=>exact ⟨fun h=>(by cases h),fun _=>⟨⟨by omega,by have:=hB_ e;omega,by omega⟩,rfl⟩⟩
 exact aI_ (by simp only [bx_,ae_ this,ai_])
theorem ge_ {s p:Bs}:Ev (fun n _=>bs_ n s p) (cond (pfx p s) (s.drop p.length) s):=by
 have:Ev (fun n _=>aB_ n s p) (cond (pfx p s) (s.drop p.length) s):=by
  refine aI_ ?_
  simp only [aB_,ae_ g0_,aE_,d4_,ai_,Int.toNat_natCast,List.take_length]
  cases e:pfx p s with
  |false=>exact ⟨fun h=>(by cases h),fun _=>rfl⟩
  |true=>exact ⟨fun _=>⟨⟨by omega,by have:=hB_ e;omega,by omega⟩,rfl⟩,fun h=>(by cases h)⟩
 exact aI_ (by simp only [bs_,ae_ this,ai_])
end
def d5_ (r:aV_) (p:Bs):Bool × aV_:=cond (pfx p r.text) (!r.bad,⟨r.text.drop p.length,r.bad⟩) (false,⟨r.text,r.bad⟩)
def km_ (r:aV_) (p:Bs):aV_:=cond (pfx p r.text) ⟨r.text.drop p.length,r.bad⟩ ⟨r.text,true⟩
theorem nn_ {r:aV_} {p:Bs}:Ev (fun n _=>a9_ n r p) (d5_ r p):=by
 refine aI_ ?_
 simp only [a9_,ae_ fz_,aE_,ai_,d5_]
 cases pfx p r.text<;>simp
theorem want_ev {r:aV_} {p:Bs}:Ev (fun n _=>bp_ n r p) (km_ r p):=by
 refine aI_ ?_
 simp only [bp_,ae_ nn_,aE_,ai_,d5_,km_]
 cases pfx p r.text<;>cases r.bad<;>simp
theorem fU_ (r:aV_) (p:Bs):(d5_ r p).2.text.length≤r.text.length:=by
 unfold d5_
 cases pfx p r.text<;>simp
theorem take_less {r:aV_} {p:Bs} (h:(d5_ r p).1=true):(d5_ r p).2.text.length+p.length≤r.text.length:=by
 unfold d5_ at h ⊢
 cases e:pfx p r.text with
 |false=>rw [e] at h;cases h
 |true=>have:=hB_ e;simp;omega
theorem nl_ (r:aV_) (p:Bs):(km_ r p).text.length≤r.text.length:=by
 unfold km_
 cases pfx p r.text<;>simp
section
variable {β:Type} {Q:β→Prop} {v:β}
theorem od_ {r:aV_} {p:Bs} {g:Nat→Nat→Bool × aV_→Option β}:Ans (fun n N=>(a9_ n r p).bind (g n N)) Q↔Ans (fun n N=>g n N (d5_ r p)) Q:=bj_ nn_
theorem want_a {r:aV_} {p:Bs} {g:Nat→Nat→aV_→Option β}:Ans (fun n N=>(bp_ n r p).bind (g n N)) Q↔Ans (fun n N=>g n N (km_ r p)) Q:=bj_ want_ev
theorem ez_ {r:aV_} {p:Bs} {g:Nat→Nat→Bool × aV_→Option β}:Ev (fun n N=>(a9_ n r p).bind (g n N)) v↔Ev (fun n N=>g n N (d5_ r p)) v:=ae_ nn_
theorem n7_ {r:aV_} {p:Bs} {g:Nat→Nat→aV_→Option β}:Ev (fun n N=>(bp_ n r p).bind (g n N)) v↔Ev (fun n N=>g n N (km_ r p)) v:=ae_ want_ev
end
theorem f5_ {s p:Bs}:Ev (fun n _=>bF_ n s p) (pfx p s):=aI_ (by simp only [bF_,ae_ g0_,ai_])
theorem e0_ (p t:Bs):d5_ ⟨p++t,false⟩ p=(true,⟨t,false⟩):=by
 unfold d5_;rw [hC_,List.drop_left];rfl
theorem dc_ {a c:UInt8} (h:c≠a) (p t:Bs) (b:Bool):d5_ ⟨c::t,b⟩ (a::p)=(false,⟨c::t,b⟩):=by
 unfold d5_;rw [mB_ h];rfl
theorem take_nil (a:UInt8) (p:Bs) (b:Bool):d5_ ⟨[],b⟩ (a::p)=(false,⟨[],b⟩):=rfl
theorem jn_ (p t:Bs):km_ ⟨p++t,false⟩ p=⟨t,false⟩:=by
 unfold km_;rw [hC_,List.drop_left];rfl
theorem kQ_ {r:aV_} (hr:r.text.length≤4194304):Ans (fun n _=>ak_ n r) fun x=>x.2.text.length≤r.text.length∧x.1.length≤r.text.length:=by
 refine c7_ ?_
 simp only [ak_,want_a]
 have hw:=nl_ r [34]
 generalize km_ r [34]=q at hw ⊢
 refine fx_ (σ:=Bs × Bool × List Int) (fun n N s=>ak_.loop4 n (fun xy4 xy5=>(some ([],(aV_.mk xy4 xy5)))) N s.1 s.2.1 s.2.2) (fun s=>s.1.length) (fun s=>s.1.length+s.2.2.length≤r.text.length) _ (fun s hI ih => ?_) (q.text,q.bad,[]) (by simp;omega)
 obtain ⟨t,b,o⟩:=s
 simp only at hI ih ⊢
 simp only [ak_.turn4,ak_.step4,od_,cc_,br_,dM_,es_,hf_,Int.toNat_natCast,List.take_length]
 have h1:=fU_ ⟨t,b⟩ [34]
 have h2:=fU_ (d5_ ⟨t,b⟩ [34]).2 [92]
 simp only at h1
 generalize d5_ ⟨t,b⟩ [34]=x at h1 h2 ⊢
 generalize d5_ x.2 [92]=y at h2 ⊢
 refine ⟨fun _=>⟨fun _=>⟨by omega,by simp;omega⟩,fun _=>⟨fun _=>⟨by omega,by simp⟩,fun hc => ?_⟩⟩,fun _=>⟨by omega,by simp⟩⟩
 have hne:1≤y.2.text.length:=by
  cases he:y.2.text with
  |nil=>rw [he] at hc;cases hc
  |cons _ _=>simp
 refine ⟨by omega,by simp;omega,⟨by omega,by omega,by omega⟩,?_⟩
 exact ih (y.2.text.drop 1,y.2.bad,o++[((y.2.text.getD 0 0).toNat:Int)]) (by simp;omega) (by simp;omega)
theorem l5_ (o:Bs) (c:UInt8):bi o++[((c.toNat:Nat):Int)]=bi (o++[c]):=by simp [bi]
theorem iy_ {s r:Bs} (hl:(do_ s++r).length≤1000000000000):Ev (fun n _=>ak_ n ⟨do_ s++r,false⟩) (s,⟨r,false⟩):=by
 have hq:=fa_ s
 have hsl:s.length≤(do_ s).length:=by
  have:∀ s:Bs,s.length≤(s.flatMap eO_).length:=by
   intro s
   induction s with
   |nil=>exact Nat.le_refl _
   |cons c s ih=>rw [List.flatMap_cons,List.length_append,List.length_cons];have:1≤(eO_ c).length:=by unfold eO_;split<;>simp
                 omega
  have:=this s
  simp only [do_,List.cons_append,List.length_cons,List.length_append];omega
 simp only [List.length_append] at hl
 have e:do_ s++r=[34]++(s.flatMap eO_++34::r):=by simp [do_]
 refine aI_ ?_
 simp only [ak_,n7_,e,jn_]
 have:=eY_ (fun i=>((s.drop i).flatMap eO_++34::r,bi (s.take i))) s.length (fun n N i (q:Bs × List Int)=>ak_.loop4 n (fun xy4 xy5=>(some ([],(aV_.mk xy4 xy5)))) N q.1 false q.2) (s,⟨r,false⟩) (fun i hi F hF => ?_) ?_
 · exact this
 · have hd:=dB_ 0 hi
   have ht:=dg_ 0 hi
   rw [ht] at hF
   simp only [hd,List.flatMap_cons,List.append_assoc]
   have hbl:=i6_ (s.take i)
   rw [List.length_take] at hbl
   generalize (s.drop (i+1)).flatMap eO_++34::r=T at hF ⊢
   generalize s.getD i 0=c at hF ⊢
   rw [←l5_] at hF
   generalize bi (s.take i)=o at hF hbl ⊢
   simp only [ak_.turn4,ak_.step4,Bool.not_false,cond_true,ez_]
   by_cases hc:c=34∨c=92
   · have e1:eO_ c=[92,c]:=if_pos hc
     have e2:eO_ c++T=92::c::T:=by rw [e1];rfl
     have e3:d5_ ⟨92::c::T,false⟩ [92]=(true,⟨c::T,false⟩):=e0_ [92] (c::T)
     simp only [e2,ez_,dc_ (show (92:UInt8)≠34 by decide),e3,cond_false,aE_,b7_,cu_,d4_,Int.toNat_natCast,List.take_length,List.getD_cons_zero,List.drop_succ_cons,List.drop_zero]
     repeat' (first|exact hF|apply And.intro|intro _)
     all_goals (first|contradiction|omega|(simp;done)|(simp;omega)|trace_state)
   · have e1:eO_ c=[c]:=if_neg hc
     have e2:eO_ c++T=c::T:=by rw [e1];rfl
     simp only [e2,ez_,dc_ (show c≠34 from fun e=>hc (.inl e)),dc_ (show c≠92 from fun e=>hc (.inr e)),cond_false,aE_,b7_,cu_,d4_,Int.toNat_natCast,List.take_length,List.getD_cons_zero,List.drop_succ_cons,List.drop_zero]
     repeat' (first|exact hF|apply And.intro|intro _)
     all_goals (first|contradiction|omega|(simp;done)|(simp;omega)|trace_state)
 · have e3:d5_ ⟨34::r,false⟩ [34]=(true,⟨r,false⟩):=e0_ [34] r
   simp only [List.drop_length,List.take_length,List.flatMap_nil,List.nil_append,ak_.turn4,ak_.step4,Bool.not_false,cond_true,ez_,e3,ip_,ai_]
theorem iP_ {s:Bs} (h:s.length≤281474976710656):Ev (fun n _=>b4_ n s) (pL_ s (Lib.atoiAll s)) :=
 aI_ (by simp only [b4_,nAtoi,decide_eq_true h,cond_true,ai_])
theorem pn_ {r:aV_} (hr:r.text.length≤4194304):Ans (fun n _=>ah_ n r) fun x=>x.2.text.length≤r.text.length∧x.1.s=[]∧x.1.list=[]∧x.1.names=[]:=by
 refine c7_ ?_
 simp only [ah_]
 obtain ⟨t,b⟩:=r
 simp only at hr ⊢
 have key:∀ (K:Nat→ah_.K3) (Q:aa_ × aV_→Prop),(∀ i,i≤t.length→Ans (fun n _=>K n ((i:Nat):Int) t b 0 0 []) Q)→Ans (fun n _=>ah_.loop3 n (K n) n 0 t b 0 0 []) Q:=by
  intro K Q hK
  refine fx_ (σ:=Nat) (fun n N i=>ah_.loop3 n (K n) N (i:Int) t b 0 0 []) (fun i=>t.length - i) (fun i=>i≤t.length) _ (fun i hI ih => ?_) 0 (Nat.zero_le _)
  have hend:=hK i hI
  simp only [ah_.turn3,ah_.step3,Int.toNat_natCast]
  by_cases hi:i<t.length
  · have ihn:=ih (i+1) hi (by omega)
    have hW:=W_up hi (show t.length≤cY_ by simp only [cY_];omega)
    simp only [hW,dm_ hi,cond_true,dM_,da_ hi,true_and,bj_ gu_,cc_]
    exact ⟨fun _=>ihn,fun _=>⟨fun _=>⟨by omega,fun _=>ihn,fun _=>hend⟩,fun _=>hend⟩⟩
  · have e:i=t.length:=by omega
    subst e
    simp only [dh_,cond_false]
    exact hend
 refine key _ _ fun i hi => ?_
 have hA:=iP_ (s:=(t.take i).drop 0) (by simp;omega)
 simp only [Int.toNat_natCast,List.take_length,hf_,bj_ hA,cc_,br_]
 exact ⟨by omega,fun _=>⟨by omega,by simp⟩,fun _=>⟨by omega,by simp⟩⟩
theorem itoa_at (n:Int) {i:Nat} (hi:i<(Lib.itoa n).length):ey_ ((Lib.itoa n).getD i 0)∨(i=0∧(Lib.itoa n).getD i 0=45):=by
 unfold Lib.itoa at hi ⊢
 by_cases h:n<0
 · rw [if_pos h] at hi ⊢
   cases i with
   |zero=>exact .inr ⟨rfl,rfl⟩
   |succ i=>
    left
    rw [List.getD_cons_succ]
    exact f8_ n.natAbs _ (cO_ 0 (by simpa using hi))
 · rw [if_neg h] at hi ⊢
   exact .inl (f8_ n.toNat _ (cO_ 0 hi))
theorem mV_ {a b:Bs} {i:Nat} (h:i<a.length):(a++b).getD i 0=a.getD i 0:=by
 rw [List.getD_eq_getElem?_getD,List.getElem?_append_left h,←List.getD_eq_getElem?_getD]
theorem pH_ {a b:Bs} {c:UInt8}:(a++c::b).getD a.length 0=c:=by
 rw [List.getD_eq_getElem?_getD,List.getElem?_append_right (Nat.le_refl _)];simp
theorem inn_dig {c:UInt8} (h:ey_ c):inn (c.toNat:Int) 48 57=true:=by
 unfold ey_ at h
 exact j0_.2 (by omega)
theorem inn_not {c:UInt8} (h:¬ ey_ c):inn (c.toNat:Int) 48 57=false:=by
 cases e:inn (c.toNat:Int) 48 57 with
 |false=>rfl
 |true=>exact absurd (by unfold ey_;have:=g6_ e;omega) h
theorem pm_ {n:Int} {r:Bs} (h0 : -1000000000≤n) (h1:n≤1000000000) (hs:Stop r) (hl:(Lib.itoa n++r).length≤1000000000000):Ev (fun m _=>ah_ m ⟨Lib.itoa n++r,false⟩) (aa_.mk 2 n [] [] [],⟨r,false⟩):=by
 have hA:=iP_ (s:=Lib.itoa n) (by simp only [List.length_append] at hl;omega)
 rw [gX_ h0 h1] at hA
 obtain ⟨c0,t0,e0,_⟩:=fM_ n
 have hp:1≤(Lib.itoa n).length:=by rw [e0];simp
 have hat:=fun i=>itoa_at n (i:=i)
 generalize Lib.itoa n=t at hl hA hp hat ⊢
 simp only [List.length_append] at hl
 refine aI_ ?_
 simp only [ah_]
 have key:∀ (K:Nat→ah_.K3) (F:aa_ × aV_),Ev (fun n _=>K n (t.length:Int) (t++r) false 0 0 []) F→Ev (fun n _=>ah_.loop3 n (K n) n 0 (t++r) false 0 0 []) F:=by
  intro K F hK
  refine eY_ (fun _=>()) t.length (fun n N i (_:Unit)=>ah_.loop3 n (K n) N (i:Int) (t++r) false 0 0 []) F (fun i hi F hF => ?_) ?_
  · have hi2:i<(t++r).length:=by simp;omega
    have hW:=W_up hi2 (by simp only [cY_,List.length_append];omega)
    simp only [ah_.turn3,ah_.step3,Int.toNat_natCast,hW,dm_ hi2,cond_true,b7_,da_ hi2,true_and,fq_,o5_,mV_ hi,aE_]
    rcases hat i hi with hd|⟨rfl,hd⟩
    · rw [inn_dig hd]
      exact ⟨fun _=>hF,fun h=>(by cases h)⟩
    · simp only [mV_ hi,hd]
      exact ⟨fun _=>hF,fun _=>⟨fun _=>⟨by omega,fun _=>hF,fun h=>absurd h (by decide)⟩,fun h=>(by cases h)⟩⟩
  · simp only [ah_.turn3,ah_.step3,Int.toNat_natCast]
    cases r with
    |nil=>
     rw [List.append_nil] at hK ⊢
     simp only [dh_,cond_false]
     exact hK
    |cons c r=>
     have hi2:t.length<(t++c::r).length:=by simp
     have hz:(((t.length:Nat):Int) == 0)=false:=beq_eq_false_iff_ne.2 (by omega)
     simp only [dm_ hi2,cond_true,b7_,da_ hi2,true_and,fq_,o5_,pH_,inn_not (hs c r rfl),hz,cond_false]
     exact hK
 refine key _ _ ?_
 have e1:((t++r).take t.length).drop 0=t:=by simp
 simp only [Int.toNat_natCast,e1,List.take_length,List.drop_left,d4_,ae_ hA,pL_,Bool.not_true,cond_false,ai_]
 exact ⟨by simp;omega,by simp;omega,trivial⟩
end Go.Pi
end
section
namespace Go.Pi
def FPos (s:Bs):Int:=match (List.range 1000).find? (fun x:Nat=>Lib.itoa (x:Int) == s) with
 |some x=>(x:Int)
 |none => -1
theorem pw_ {x y:Nat} (hx:x≤999) (hy:y≤999) (h:Lib.itoa (x:Int)=Lib.itoa (y:Int)):x=y:=by
 have h1:=gX_ (n:=(x:Int)) (by omega) (by omega)
 have h2:=gX_ (n:=(y:Int)) (by omega) (by omega)
 rw [h,h2] at h1
 cases h1;rfl
theorem pos_itoa {x:Nat} (h:x≤999):FPos (Lib.itoa (x:Int))=x:=by
 unfold FPos
 cases e:(List.range 1000).find? (fun y:Nat=>Lib.itoa (y:Int) == Lib.itoa (x:Int)) with
 |none=>
  have:=List.find?_eq_none.1 e x (List.mem_range.2 (by omega))
  simp at this
 |some y=>
  have h1:=List.find?_some e
  have h3:=List.mem_range.1 (List.mem_of_find?_eq_some e)
  have h2:=pw_ (x:=y) (y:=x) (by omega) h (eq_of_beq h1)
  show ((y:Nat):Int)=(x:Int)
  rw [h2]
theorem pos_none {s:Bs} (h:∀ x:Nat,x≤999→Lib.itoa (x:Int)≠s):FPos s = -1:=by
 unfold FPos
 rw [List.find?_eq_none.2 fun x hx=>by have:=h x (by have:=List.mem_range.1 hx;omega);simp;exact this]
theorem gF_ (s:Bs):(∃ x:Nat,x≤999∧s=Lib.itoa (x:Int)∧FPos s=x)∨((∀ x:Nat,x≤999→Lib.itoa (x:Int)≠s)∧FPos s = -1):=by
 by_cases h:∃ x:Nat,x≤999∧s=Lib.itoa (x:Int)
 · obtain ⟨x,h1,rfl⟩:=h
   exact .inl ⟨x,h1,rfl,pos_itoa h1⟩
 · have h':∀ x:Nat,x≤999→Lib.itoa (x:Int)≠s:=fun x hx e=>h ⟨x,hx,e.symm⟩
   exact .inr ⟨h',pos_none h'⟩
theorem jQ_ (s:Bs) : -1≤FPos s∧FPos s≤999:=by
 rcases gF_ s with ⟨x,h,_,e⟩|⟨_,e⟩<;>rw [e]<;>omega
theorem oG_ (x:Nat):Lib.itoa (x:Int)=Lib.decDigits x:=by
 unfold Lib.itoa
 rw [if_neg (by omega)]
 simp
theorem gN_ {s:Bs} (hs:s.length≤281474976710656):Ev (fun n _=>cr_ n s) (FPos s):=by
 refine aI_ ?_
 simp only [cr_,ae_ (iP_ hs)]
 rcases gF_ s with ⟨x,h,rfl,e⟩|⟨h,e⟩
 · rw [gX_ (n:=(x:Int)) (by omega) (by omega),e]
   have e2:pL_ (Lib.itoa (x:Int)) (.ok (x:Int))=((x:Int),true):=rfl
   have e3:inn (x:Int) 0 999=true:=by simp [inn];omega
   simp only [e2,e3,Bool.not_true,cond_false,ae_ gu_,ai_,ae_ (l9_ (x:=(x:Int)) (by omega) (by omega)),beq_self_eq_true]
 · rw [e]
   generalize pL_ s (Lib.atoiAll s)=v
   obtain ⟨x,ok⟩:=v
   simp only [aE_,ai_,ae_ gu_]
   refine ⟨fun _=>trivial,fun _=>⟨fun _=>trivial,fun hw => ?_⟩⟩
   have hw:0≤x∧x≤999:=by simpa [inn] using hw
   have hne:=h x.toNat (by omega)
   rw [Int.toNat_of_nonneg hw.1] at hne
   simp only [ae_ (l9_ (x:=x) (by omega) (by omega)),aE_,ai_]
   exact ⟨fun _=>trivial,fun hq=>by simp [hne] at hq⟩
def FVal (x:Nat):Bs→Option Nat
 |[]=>some x
 |c::l=>if 48≤c.toNat∧c.toNat≤57 then FVal (10*x+(c.toNat - 48)) l else none
theorem oP_:∀ (x:Nat) (l:Bs),(∀ c ∈ l,ey_ c)→FVal x l=some (hO_ x l)
 |_,[],_=>rfl
 |x,c::l,h=>by
  unfold FVal
  rw [if_pos (show 48≤c.toNat∧c.toNat≤57 from h c (List.mem_cons_self ..)),oP_ _ l fun y hy=>h y (List.mem_cons_of_mem _ hy),g4_]
theorem fval_lt:∀ (l:Bs) (x i y:Nat),x<10 ^ i→FVal x l=some y→y<10 ^ (i+l.length)
 |[],x,i,y,hx,h=>by
  simp only [FVal,Option.some.injEq] at h
  subst h;simpa using hx
 |c::l,x,i,y,hx,h=>by
  unfold FVal at h
  split at h
  · rename_i hc
    have:=fval_lt l _ (i+1) y (by rw [Nat.pow_succ];omega) h
    rw [List.length_cons,show i+(l.length+1)=i+1+l.length by omega]
    exact this
  · cases h
def FPos1 (s:Bs):Option Nat→Int
 |some y=>cond (!(Lib.itoa (y:Int) == s)) (-1) y
 |none => -1
theorem fc_ {s:Bs}:Ev (fun n _=>a5_ n s) (FPos s):=by
 refine aI_ ?_
 simp only [a5_,aE_,ai_]
 refine ⟨fun h => ?_,fun _=>⟨fun h => ?_,fun hl => ?_⟩⟩
 · have:s=[]:=by simpa using h
   subst this
   rcases gF_ [] with ⟨x,h1,h2,h3⟩|⟨_,e⟩
   · obtain ⟨c,t,e,_⟩:=fM_ (x:Int)
     rw [e] at h2;cases h2
   · exact e.symm
 · rcases gF_ s with ⟨x,h1,h2,h3⟩|⟨_,e⟩
   · have h:=of_decide_eq_true h
     have:=l1_ 2 x (by omega)
     rw [h2,oG_] at h
     omega
   · exact e.symm
 · have hl:s.length≤3:=by have:=of_decide_eq_false hl;omega
   have key:∀ (m i x:Nat),i+m=s.length→x<10 ^ i →
     Ev (fun n N=>a5_.loop7 n (fun xy1 xy2=>((aJ_ n xy2).bind fun xr3=>(cond (!(xr3 == xy1)) (some (-1)) (some xy2)))) N s (x:Int) (i:Int)) (FPos1 s (FVal x (s.drop i))):=by
    intro m
    induction m with
    |zero=>
     intro i x hi hx
     have:i=s.length:=by omega
     subst this
     have hx3:10 ^ s.length≤10 ^ 3:=Nat.pow_le_pow_right (by omega) hl
     refine bm_ ?_
     simp only [a5_.turn7,a5_.step7,dh_,cond_false,List.drop_length,FVal,FPos1,ae_ (dv_ (x:=(x:Int)) (by omega) (by omega)),aE_,ai_]
     cases (!(Lib.itoa (x:Int) == s))<;>simp
    |succ m ih=>
     intro i x hi hx
     have hlt:i<s.length:=by omega
     have hx3:10 ^ i≤10 ^ 3:=Nat.pow_le_pow_right (by omega) (by omega)
     have hW:=W_up hlt (show s.length≤cY_ by simp only [cY_];omega)
     have hd:=dB_ 0 hlt
     refine bm_ ?_
     simp only [a5_.turn7,a5_.step7,dm_ hlt,cond_true,b7_,da_ hlt,true_and,Int.toNat_natCast,hW,aE_,ai_]
     rw [hd,FVal]
     have hc:(s.getD i 0).toNat≤255:=by have:=(s.getD i 0).toNat_lt;omega
     refine ⟨fun h => ?_,fun h=>⟨fun h2 => ?_,fun h2 => ?_⟩⟩
     · have h:=of_decide_eq_true h
       rw [if_neg (by omega)];rfl
     · have h2:=of_decide_eq_true h2
       rw [if_neg (by omega)];rfl
     · have h:=of_decide_eq_false h
       have h2:=of_decide_eq_false h2
       rw [if_pos (by omega)]
       have e:W (W (W (10*(x:Int))+W ((s.getD i 0).toNat:Int)) - 48)=((10*x+((s.getD i 0).toNat - 48):Nat):Int):=by
        rw [W_id (n:=10*(x:Int)) (by omega) (by omega),W_id (n:=((s.getD i 0).toNat:Int)) (by omega) (by omega),W_id (n:=10*(x:Int)+((s.getD i 0).toNat:Int)) (by omega) (by omega),W_id (by omega) (by omega)]
        omega
       rw [e]
       exact ih (i+1) _ (by omega) (by rw [Nat.pow_succ];omega)
   have hk:=key s.length 0 0 (by omega) (by omega)
   have e:FPos1 s (FVal 0 (s.drop 0))=FPos s:=by
    rw [List.drop_zero]
    rcases gF_ s with ⟨x,h1,h2,h3⟩|⟨h,e⟩
    · rw [h3]
      have:FVal 0 s=some x:=by rw [h2,oG_,oP_ _ _ (f8_ x),jx_]
      rw [this,FPos1,←h2]
      simp
    · rw [e]
      cases hv:FVal 0 s with
      |none=>rfl
      |some y=>
       have:=fval_lt s 0 0 y (by omega) hv
       have hx3:10 ^ (0+s.length)≤10 ^ 3:=Nat.pow_le_pow_right (by omega) (by omega)
       have:=h y (by omega)
       have hb:(Lib.itoa (y:Int) == s)=false:=beq_eq_false_iff_ne.2 this
       simp only [FPos1,hb,Bool.not_false,cond_true]
   rw [e] at hk
   exact c5_ (f:=fun n N=>a5_.loop7 n (fun xy1 xy2=>((aJ_ n xy2).bind fun xr3=>(cond (!(xr3 == xy1)) (some (-1)) (some xy2)))) N s 0 0) hk
end Go.Pi
end
section
namespace Go.Pi
def pU_ (L d:Nat) (x:aa_ × aV_):Prop:=x.2.text.length≤L∧fg_ d x.1
theorem ec_ {d:Nat} {k n:Int}:fg_ d (aa_.mk k n [] [] []):=by
 cases d with
 |zero=>trivial
 |succ d=>exact ⟨⟨Nat.zero_le _,Nat.zero_le _,fun x h=>(by cases h)⟩,Nat.zero_le _,fun x h=>(by cases h)⟩
theorem mL_ {d:Nat} {k n:Int} {s:Bs} (h:s.length≤cY_):fg_ d (aa_.mk k n s [] []):=by
 cases d with
 |zero=>trivial
 |succ d=>exact ⟨⟨h,Nat.zero_le _,fun x h=>(by cases h)⟩,Nat.zero_le _,fun x h=>(by cases h)⟩
theorem pU_.mono {L M d:Nat} {x:aa_ × aV_} (h:pU_ L d x) (hl:L≤M):pU_ M d x:=⟨Nat.le_trans h.1 hl,h.2⟩
theorem parts_any {d:Nat} (hd:d≤1000) (ih:∀ r:aV_,r.text.length≤4194304→Ans (fun n _=>aN_ n r (d:Int)) (pU_ r.text.length d))
  {r:aV_} (hr:r.text.length≤4194304) (kind:Int) (end_:Bs):Ans (fun n _=>ag_ n r kind end_ ((d+1:Nat):Int)) (pU_ r.text.length (d+1)):=by
 refine c7_ ?_
 have hW:W (((d+1:Nat):Int) - 1)=(d:Int):=by rw [W_id (by omega) (by omega)];omega
 simp only [ag_,od_,cc_,br_]
 have ht:=fU_ r end_
 generalize d5_ r end_=x at ht ⊢
 refine ⟨fun _=>⟨ht,ec_⟩,fun _ => ?_⟩
 obtain ⟨x1,t0,b0⟩:=x
 simp only at ht ⊢
 have key:∀ (K:Nat→ag_.K7_1) (Q:aa_ × aV_→Prop),(∀ t b l ns,t.length≤t0.length→l.length≤4194305→(∀ y ∈ l,fg_ d y)→ns.length≤l.length→(∀ y ∈ ns,y.length≤4194304)→Ans (fun n _=>K n end_ t b 0 0 [] kind 0 [] l ns) Q) →
   Ans (fun n _=>ag_.loop7 n (aN_ n) (K n) n kind end_ ((d+1:Nat):Int) true t0 b0 0 0 [] kind 0 [] [] []) Q:=by
  intro K Q hK
  refine fx_ (σ:=Bool × Bs × Bool × List aa_ × List Bs) (fun n N s=>ag_.loop7 n (aN_ n) (K n) N kind end_ ((d+1:Nat):Int) s.1 s.2.1 s.2.2.1 0 0 [] kind 0 [] s.2.2.2.1 s.2.2.2.2)
   (fun s=>s.2.1.length+cond s.1 1 0) (fun s=>s.2.1.length≤t0.length∧s.2.2.2.1.length+s.2.1.length≤t0.length+cond s.1 0 1∧(∀ y ∈ s.2.2.2.1,fg_ d y)∧s.2.2.2.2.length≤s.2.2.2.1.length∧(∀ y ∈ s.2.2.2.2,y.length≤4194304)) _ (fun s hI ihl => ?_) (true,t0,b0,[],[]) (by simp)
  obtain ⟨more,t,b,l,ns⟩:=s
  simp only at hI ihl ⊢
  obtain ⟨h1,h2,h3,h4,h5⟩:=hI
  have hll:l.length≤4194305:=by cases more<;>simp at h2<;>omega
  have hend:=hK t b l ns h1 hll h3 h4 h5
  simp only [ag_.turn7,ag_.step7,hW,bh_,cc_]
  refine ⟨fun hm=>⟨fun _ => ?_,fun _=>hend⟩,fun _=>hend⟩
  subst hm
  simp only [cond_true,Nat.add_zero] at h2 ihl
  have step:∀ (q:aV_) (ns':List Bs),q.text.length≤t.length→ns'.length≤l.length+1→(∀ y ∈ ns',y.length≤4194304) →
    Ans (fun n N=>(aN_ n q (d:Int)).bind fun xr4=>cF_ (l.length+[xr4.1].length) 80 ((a9_ n xr4.2 [44]).bind fun xr5=>ag_.loop7 n (aN_ n) (K n) N kind end_ ((d+1:Nat):Int) xr5.1 xr5.2.text xr5.2.bad 0 0 [] kind 0 [] (l++[xr4.1]) ns')) Q:=by
   intro q ns' hq hn hb
   refine c6_ (ih q (by omega)) fun v hv => ?_
   simp only [es_,od_]
   have g1:=fU_ v.2 [44]
   have g2:=take_less (r:=v.2) (p:=[44])
   generalize d5_ v.2 [44]=x at g1 g2 ⊢
   obtain ⟨m',t',b'⟩:=x
   simp only [List.length_cons,List.length_nil] at g1 g2 ⊢
   have hv1:=hv.1
   refine ⟨by omega,ihl (m',t',b',l++[v.1],ns') ⟨by simp only;omega,?_,?_,by simpa using hn,hb⟩ ?_⟩
   · cases m' with
     |true=>have:=g2 rfl;simp;omega
     |false=>simp;omega
   · intro y hy
     rcases List.mem_append.1 hy with hy|hy
     · exact h3 y hy
     · obtain rfl:=List.mem_singleton.1 hy;exact hv.2
   · cases m' with
     |true=>have:=g2 rfl;simp;omega
     |false=>simp;omega
  refine ⟨fun _ => ?_,fun _=>step ⟨t,b⟩ ns (Nat.le_refl _) (by omega) h5⟩
  refine c6_ (kQ_ (r:=⟨t,b⟩) (by simp only;omega)) fun v hv => ?_
  simp only at hv
  simp only [want_a,es_]
  have hw:=nl_ v.2 [58]
  refine ⟨by simp;omega,step (km_ v.2 [58]) (ns++[v.1]) (by omega) (by simp;omega) fun y hy => ?_⟩
  rcases List.mem_append.1 hy with hy|hy
  · exact h5 y hy
  · obtain rfl:=List.mem_singleton.1 hy;omega
 refine key _ _ fun t b l ns h1 h2 h3 h4 h5 => ?_
 simp only [want_a,br_]
 have hw:=nl_ ⟨t,b⟩ end_
 simp only at hw
 exact ⟨by simp only;omega,⟨Nat.zero_le _,by show ns.length≤cY_;simp only [cY_];omega,fun y hy=>by have:=h5 y hy;simp only [cY_];omega⟩,by show l.length≤cY_;simp only [cY_];omega,h3⟩
theorem mi_:∀ (d:Nat),d≤1000→∀ r:aV_,r.text.length≤4194304→Ans (fun n _=>aN_ n r (d:Int)) (pU_ r.text.length d)
 |0,_,r,hr=>by
  refine c7_ ?_
  simp only [aN_,cc_,br_]
  exact ⟨fun _=>⟨Nat.le_refl _,trivial⟩,fun h=>by simp at h⟩
 |d+1,hd,r,hr=>by
  have ih:=fun (r:aV_) hr=>parts_any (d:=d) (by omega) (mi_ d (by omega)) (r:=r) hr
  refine c7_ ?_
  simp only [aN_,bh_,cc_,br_,od_,bj_ f5_]
  refine ⟨fun h=>by have:=of_decide_eq_true h;omega,fun _=>⟨fun _=>⟨Nat.le_refl _,ec_⟩,fun _ => ?_⟩⟩
  have h1:=fU_ r [110,117,108,108]
  generalize d5_ r [110,117,108,108]=x1 at h1 ⊢
  have h2:=fU_ x1.2 [102,97,108,115,101]
  generalize d5_ x1.2 [102,97,108,115,101]=x2 at h2 ⊢
  have h3:=fU_ x2.2 [116,114,117,101]
  generalize d5_ x2.2 [116,114,117,101]=x3 at h3 ⊢
  have h4:=fU_ x3.2 [91]
  generalize d5_ x3.2 [91]=x4 at h4 ⊢
  have h5:=fU_ x4.2 [123]
  generalize d5_ x4.2 [123]=x5 at h5 ⊢
  refine ⟨fun _=>⟨h1,ec_⟩,fun _=>⟨fun _=>⟨by simp only;omega,ec_⟩,fun _=>⟨fun _=>⟨by simp only;omega,ec_⟩,fun _=>⟨fun _ => ?_,fun _=>⟨fun _ => ?_,fun _=>⟨fun _ => ?_,fun _ => ?_⟩⟩⟩⟩⟩⟩
  · refine c6_ (kQ_ (r:=x3.2) (by omega)) fun v hv => ?_
    simp only [br_]
    exact ⟨by simp only;omega,mL_ (by simp only [cY_];omega)⟩
  · refine c6_ (ih x4.2 (by omega) 4 [93]) fun v hv => ?_
    simp only [br_]
    exact hv.mono (by omega)
  · refine c6_ (ih x5.2 (by omega) 5 [125]) fun v hv => ?_
    simp only [br_]
    exact hv.mono (by omega)
  · refine c6_ (pn_ (r:=x5.2) (by omega)) fun v hv => ?_
    simp only [br_]
    obtain ⟨⟨k,nn,s,l,ns⟩,q⟩:=v
    obtain ⟨e1,e2,e3,e4⟩:=hv
    simp only at e1 e2 e3 e4
    subst e2 e3 e4
    exact ⟨by simp only;omega,ec_⟩
theorem m5_ (enc:aa_→Bs) (j:aa_) (k i:Nat):dy_ enc j (k+1) (i+1)=44::(dt_ enc j (i+1)++dy_ enc j k (i+2)):=by
 rw [dy_,if_neg (by omega)];rfl
theorem mo_ (enc:aa_→Bs) (j:aa_) (k i:Nat) {c:UInt8} (h:¬ ey_ c) (r:Bs):Stop (dy_ enc j k (i+1)++c::r):=by
 cases k with
 |zero=>exact jz_ h
 |succ k=>rw [m5_];exact jz_ (by unfold ey_;decide)
theorem nM_ {kind:Int} {c:UInt8} (h:c.toNat=93∨c.toNat=125):¬ ey_ c:=by unfold ey_;omega
theorem mC_ {d:Nat} (hd:d≤1000) {j:aa_} (h:bE_ (d+1) j≤400) (hk:j.kind=4∨j.kind=5)
  (ih:∀ x,bE_ d x≤400→∀ r,Stop r→(FEnc d x++r).length≤1000000000000→Ev (fun n _=>aN_ n ⟨FEnc d x++r,false⟩ (d:Int)) (x,⟨r,false⟩))
  (c:UInt8) (hc:c.toNat=93∨c.toNat=125) (r:Bs) (hl:(dG_ (FEnc d) j j.list.length++c::r).length≤1000000000000) :
  Ev (fun n _=>ag_ n ⟨dG_ (FEnc d) j j.list.length++c::r,false⟩ j.kind [c] ((d+1:Nat):Int)) (aa_.mk j.kind 0 [] j.list j.names,⟨r,false⟩):=by
 have hW:W (((d+1:Nat):Int) - 1)=(d:Int):=by rw [W_id (by omega) (by omega)];omega
 have hll:=d6_ h
 have hnl:=eQ_ h
 have hT:d5_ ⟨c::r,false⟩ [c]=(true,⟨r,false⟩):=e0_ [c] r
 have hWa:km_ ⟨c::r,false⟩ [c]=⟨r,false⟩:=jn_ [c] r
 have ho:=(di_ h).1
 have ho2:=ed_ (d0_ h)
 rw [ko_] at hl ⊢
 refine aI_ ?_
 cases hm:j.list.length with
 |zero=>
  have e1:j.list=[]:=List.eq_nil_of_length_eq_zero hm
  have e2:j.names=[]:=by
   rcases hk with hk|hk
   · exact ho2.ns0 (by omega)
   · exact List.eq_nil_of_length_eq_zero (by rw [(ho.obj hk).1,hm])
  simp only [ag_,ez_,dy_,List.nil_append,hT,cond_true,ai_,e1,e2]
 |succ m=>
  obtain ⟨a,p0,ep,hp1,hp2,hp3⟩:=li_ h (i:=0) (by omega)
  have e0:dy_ (FEnc d) j (m+1) 0=dt_ (FEnc d) j 0++dy_ (FEnc d) j m 1:=by rw [dy_,if_pos rfl];rfl
  have hac:a≠c:=fun e=>by subst e;omega
  have e3:dt_ (FEnc d) j 0++dy_ (FEnc d) j m 1++c::r=a::(p0++dy_ (FEnc d) j m 1++c::r):=by rw [ep];rfl
  have e4:d5_ ⟨dt_ (FEnc d) j 0++dy_ (FEnc d) j m 1++c::r,false⟩ [c]=(false,⟨dt_ (FEnc d) j 0++dy_ (FEnc d) j m 1++c::r,false⟩):=by rw [e3];exact dc_ hac [] _ false
  simp only [ag_,ez_,e0,e4,cond_false]
  rw [hm,e0] at hl
  have key:∀ (K:Nat→ag_.K7_1) (F:aa_ × aV_),Ev (fun n _=>K n [c] (c::r) false 0 0 [] j.kind 0 [] j.list j.names) F →
    ∀ k i,i+1+k=j.list.length→(dt_ (FEnc d) j i++dy_ (FEnc d) j k (i+1)++c::r).length≤1000000000000 →
    Ev (fun n N=>ag_.loop7 n (aN_ n) (K n) N j.kind [c] ((d+1:Nat):Int) true (dt_ (FEnc d) j i++dy_ (FEnc d) j k (i+1)++c::r) false 0 0 [] j.kind 0 [] (j.list.take i) (j.names.take i)) F:=by
   intro K F hK k
   induction k with
   |zero=>
    intro i hi hlen
    have hp:=eD_ h (i:=i) (by omega)
    have hx:=ih _ hp.size (c::r) (jz_ (nM_ (kind:=0) hc))
    have hcm:d5_ ⟨c::r,false⟩ [44]=(false,⟨c::r,false⟩):=dc_ (by intro e;subst e;revert hc;decide) [] _ false
    have hlast:∀ F,Ev (fun n _=>K n [c] (c::r) false 0 0 [] j.kind 0 [] j.list j.names) F→Ev (fun n N=>ag_.loop7 n (aN_ n) (K n) N j.kind [c] ((d+1:Nat):Int) false (c::r) false 0 0 [] j.kind 0 [] j.list j.names) F:=fun F hF=>bm_ (by
     simp only [ag_.turn7,ag_.step7,cond_false];exact hF)
    have el:j.list.take i++[j.list.getD i aa_.dflt]=j.list:=by rw [←dg_ aa_.dflt (by omega)];exact List.take_of_length_le (by omega)
    refine bm_ ?_
    simp only [dy_,List.append_nil]
    simp only [dy_,List.append_nil] at hlen
    rcases hk with hk|hk
    · have h5:(j.kind == 5)=false:=by rw [hk];rfl
      have en:j.names=[]:=ho2.ns0 (by omega)
      unfold dt_ at hlen ⊢
      rw [h5,cond_false] at hlen ⊢
      simp only [ag_.turn7,ag_.step7,bh_,hW,h5,Bool.not_false,cond_true,cond_false,ae_ (hx hlen),cu_,ez_,hcm,el,en,List.take_nil]
      refine ⟨by simp;omega,?_⟩
      have:=hlast F hK
      rw [en] at this
      exact this
    · have h5:(j.kind == 5)=true:=by rw [hk];rfl
      obtain ⟨o1,o2⟩:=ho.obj hk
      have en:j.names.take i++[j.names.getD i []]=j.names:=by rw [←dg_ [] (by omega)];exact List.take_of_length_le (by omega)
      unfold dt_ at hlen ⊢
      rw [h5,cond_true] at hlen ⊢
      simp only [List.append_assoc] at hlen ⊢
      have hq:=iy_ hlen
      simp only [List.length_append] at hlen
      have hx:=hx (by simp only [List.length_append];simp at hlen ⊢;omega)
      simp only [ag_.turn7,ag_.step7,bh_,hW,h5,Bool.not_false,cond_true,cond_false,ae_ hq,n7_,jn_,ae_ hx,cu_,ez_,hcm,el,en]
      exact ⟨by simp;omega,by simp;omega,hlast F hK⟩
   |succ k ihk=>
    intro i hi hlen
    have hp:=eD_ h (i:=i) (by omega)
    have hx:=ih _ hp.size (dy_ (FEnc d) j (k+1) (i+1)++c::r) (mo_ _ _ _ _ (nM_ (kind:=0) hc) r)
    have e5:dy_ (FEnc d) j (k+1) (i+1)++c::r=[44]++(dt_ (FEnc d) j (i+1)++dy_ (FEnc d) j k (i+2)++c::r):=by rw [m5_];simp
    have hcm:d5_ ⟨dy_ (FEnc d) j (k+1) (i+1)++c::r,false⟩ [44]=(true,⟨dt_ (FEnc d) j (i+1)++dy_ (FEnc d) j k (i+2)++c::r,false⟩):=by rw [e5];exact e0_ _ _
    have hlen2:(dt_ (FEnc d) j (i+1)++dy_ (FEnc d) j k (i+2)++c::r).length≤1000000000000:=by
     have:=congrArg List.length e5
     simp only [List.length_append,List.length_cons,List.length_nil] at this hlen ⊢
     omega
    have hnext:=ihk (i+1) (by omega) hlen2
    rw [dg_ aa_.dflt (show i<j.list.length by omega)] at hnext
    refine bm_ ?_
    rw [List.append_assoc] at hlen ⊢
    generalize dy_ (FEnc d) j (k+1) (i+1)++c::r=T at hx hcm hlen ⊢
    rcases hk with hk|hk
    · have h5:(j.kind == 5)=false:=by rw [hk];rfl
      have en:j.names=[]:=ho2.ns0 (by omega)
      have ef:dt_ (FEnc d) j i=FEnc d (j.list.getD i aa_.dflt):=by unfold dt_;rw [h5];rfl
      rw [ef] at hlen ⊢
      rw [en,List.take_nil] at hnext
      simp only [ag_.turn7,ag_.step7,bh_,hW,h5,Bool.not_false,cond_true,cond_false,ae_ (hx hlen),cu_,ez_,hcm,en,List.take_nil]
      exact ⟨by simp;omega,hnext⟩
    · have h5:(j.kind == 5)=true:=by rw [hk];rfl
      obtain ⟨o1,o2⟩:=ho.obj hk
      rw [dg_ [] (show i<j.names.length by omega)] at hnext
      have ef:dt_ (FEnc d) j i=do_ (j.names.getD i [])++([58]++FEnc d (j.list.getD i aa_.dflt)):=by unfold dt_;rw [h5];rfl
      rw [ef] at hlen ⊢
      simp only [List.append_assoc] at hlen ⊢
      have hq:=iy_ hlen
      have hx:=hx (by simp only [List.length_append] at hlen ⊢;simp at hlen ⊢;omega)
      simp only [ag_.turn7,ag_.step7,bh_,hW,h5,Bool.not_false,cond_true,cond_false,ae_ hq,n7_,jn_,ae_ hx,cu_,ez_,hcm]
      exact ⟨by simp;omega,by simp;omega,hnext⟩
  have:=key (fun n=>fun xy8 xy9 xy10 xy11 xy12 xy13 xy14 xy15 xy16 xy17 xy18=>((bp_ n (aV_.mk xy9 xy10) xy8).bind fun xr19=>(some ((aa_.mk xy14 xy15 xy16 xy17 xy18),xr19)))) (aa_.mk j.kind 0 [] j.list j.names,⟨r,false⟩) (by simp only [n7_,hWa,ai_]) m 0 (by omega) hl
  exact c5_ (f:=fun n N=>ag_.loop7 n (aN_ n) (fun xy8 xy9 xy10 xy11 xy12 xy13 xy14 xy15 xy16 xy17 xy18=>((bp_ n (aV_.mk xy9 xy10) xy8).bind fun xr19=>(some ((aa_.mk xy14 xy15 xy16 xy17 xy18),xr19)))) N j.kind [c] ((d+1:Nat):Int) true (dt_ (FEnc d) j 0++dy_ (FEnc d) j m 1++c::r) false 0 0 [] j.kind 0 [] [] []) this
theorem lQ_ {d:Nat} {j:aa_} (h:bE_ (d+1) j≤400) (hk:j.kind=4∨j.kind=5):aa_.mk j.kind 0 [] j.list j.names=j:=by
 have ho2:=ed_ (d0_ h)
 have e1:=ho2.n0 (by omega) (by omega)
 have e2:=ho2.s0 (by omega)
 obtain ⟨k,n,s,l,ns⟩:=j
 simp only at e1 e2 ⊢
 subst e1 e2;rfl
theorem mh_:∀ (d:Nat),d≤1000→∀ j,bE_ d j≤400→∀ r,Stop r→(FEnc d j++r).length≤1000000000000→Ev (fun n _=>aN_ n ⟨FEnc d j++r,false⟩ (d:Int)) (j,⟨r,false⟩)
 |0,_,j,h,r,_,_=>by simp only [bE_] at h;omega
 |d+1,hd,j,h,r,hs,hl=>by
  have ih:=mh_ d (by omega)
  have ho:=(di_ h).1
  have ho2:=ed_ (d0_ h)
  have hd1:decide (((d+1:Nat):Int)<1)=false:=decide_eq_false (by omega)
  refine aI_ ?_
  simp only [aN_,bh_,hd1,cond_false,ez_,ae_ f5_]
  rcases ho.kind with hk|hk|hk|hk|hk|hk
  · have e:FEnc (d+1) j=[110,117,108,108]:=by simp only [FEnc,hk,Int.reduceBEq,cond_true]
    have ej:j=aa_.mk 0 0 [] [] []:=by
     have e1:=ho2.n0 (by omega) (by omega)
     have e2:=ho2.s0 (by omega)
     have e3:=ho.list (by omega) (by omega)
     have e4:=ho2.ns0 (by omega)
     obtain ⟨k,n,s,l,ns⟩:=j
     simp only at e1 e2 e3 e4 hk
     subst e1 e2 e3 e4 hk;rfl
    rw [e]
    simp only [e0_,cond_true,ai_]
    rw [ej]
  · have hb:=ho.bool hk
    have e2:=ho2.s0 (by omega)
    have e3:=ho.list (by omega) (by omega)
    have e4:=ho2.ns0 (by omega)
    obtain ⟨k,n,s,l,ns⟩:=j
    simp only at e2 e3 e4 hk hb
    subst e2 e3 e4 hk
    have:n=0∨n=1:=by omega
    rcases this with rfl|rfl
    · have e:FEnc (d+1) (aa_.mk 1 0 [] [] [])++r=102::([97,108,115,101]++r):=rfl
      have e5:d5_ ⟨102::([97,108,115,101]++r),false⟩ [102,97,108,115,101]=(true,⟨r,false⟩):=e0_ [102,97,108,115,101] r
      rw [e]
      simp only [ez_,ae_ f5_,dc_ (show (102:UInt8)≠110 by decide),e5,cond_false,cond_true,ai_]
    · have e:FEnc (d+1) (aa_.mk 1 1 [] [] [])++r=116::([114,117,101]++r):=rfl
      have e5:d5_ ⟨116::([114,117,101]++r),false⟩ [116,114,117,101]=(true,⟨r,false⟩):=e0_ [116,114,117,101] r
      rw [e]
      simp only [ez_,ae_ f5_,dc_ (show (116:UInt8)≠110 by decide),dc_ (show (116:UInt8)≠102 by decide),e5,cond_false,cond_true,ai_]
  · have hn:=ho.num hk
    have e:FEnc (d+1) j=Lib.itoa j.n_:=by simp only [FEnc,hk,Int.reduceBEq,cond_true,cond_false]
    rw [e] at hl ⊢
    have hN:=pm_ hn.1 hn.2 hs hl
    have ej:aa_.mk 2 j.n_ [] [] []=j:=by
     have e2:=ho2.s0 (by omega)
     have e3:=ho.list (by omega) (by omega)
     have e4:=ho2.ns0 (by omega)
     obtain ⟨k,n,s,l,ns⟩:=j
     simp only at e2 e3 e4 hk
     subst e2 e3 e4 hk;rfl
    rw [ej] at hN
    obtain ⟨c,t,ec,hc⟩:=fM_ j.n_
    rw [ec] at hN ⊢
    have ne:∀ x:UInt8,(x.toNat<45∨x.toNat=46∨57<x.toNat)→c≠x:=by
     rintro x hx rfl
     rcases hc with rfl|hc
     · revert hx;decide
     · unfold ey_ at hc;omega
    rw [List.cons_append] at hN ⊢
    simp only [ez_,ae_ f5_,dc_ (ne 110 (by decide)),dc_ (ne 102 (by decide)),dc_ (ne 116 (by decide)),dc_ (ne 91 (by decide)),dc_ (ne 123 (by decide)),mB_ (ne 34 (by decide)),cond_false,ae_ hN,ai_]
  · have ht:=ho2.text hk
    have e:FEnc (d+1) j=do_ j.s:=by simp only [FEnc,hk,Int.reduceBEq,cond_true,cond_false]
    rw [e] at hl ⊢
    have hq:=iy_ hl
    have ej:aa_.mk 3 0 j.s [] []=j:=by
     have e2:=ho2.n0 (by omega) (by omega)
     have e3:=ho.list (by omega) (by omega)
     have e4:=ho2.ns0 (by omega)
     obtain ⟨k,n,s,l,ns⟩:=j
     simp only at e2 e3 e4 hk
     subst e2 e3 e4 hk;rfl
    have ec:do_ j.s++r=34::(j.s.flatMap eO_++[34]++r):=by simp [do_]
    rw [ec] at hq ⊢
    have hpx:pfx [34] (34::(j.s.flatMap eO_++[34]++r))=true:=hC_ [34] _
    simp only [ez_,ae_ f5_,dc_ (show (34:UInt8)≠110 by decide),dc_ (show (34:UInt8)≠102 by decide),dc_ (show (34:UInt8)≠116 by decide),hpx,cond_false,cond_true,ae_ hq,ai_,ej]
  · have e:FEnc (d+1) j=[91]++dG_ (FEnc d) j j.list.length++[93]:=by simp only [FEnc,hk,Int.reduceBEq,cond_true,cond_false]
    have e1:FEnc (d+1) j++r=91::(dG_ (FEnc d) j j.list.length++93::r):=by rw [e];simp
    rw [e1] at hl ⊢
    have hP:=mC_ (by omega) h (.inl hk) ih 93 (.inl rfl) r (by simp only [List.length_cons] at hl;omega)
    rw [lQ_ h (.inl hk),hk] at hP
    have e5:d5_ ⟨91::(dG_ (FEnc d) j j.list.length++93::r),false⟩ [91]=(true,⟨dG_ (FEnc d) j j.list.length++93::r,false⟩):=e0_ [91] _
    simp only [ez_,ae_ f5_,dc_ (show (91:UInt8)≠110 by decide),dc_ (show (91:UInt8)≠102 by decide),dc_ (show (91:UInt8)≠116 by decide),mB_ (show (91:UInt8)≠34 by decide),e5,cond_false,cond_true,ae_ hP,ai_]
  · have e:FEnc (d+1) j=[123]++dG_ (FEnc d) j j.list.length++[125]:=by simp only [FEnc,hk,Int.reduceBEq,cond_true,cond_false]
    have e1:FEnc (d+1) j++r=123::(dG_ (FEnc d) j j.list.length++125::r):=by rw [e];simp
    rw [e1] at hl ⊢
    have hP:=mC_ (by omega) h (.inr hk) ih 125 (.inr rfl) r (by simp only [List.length_cons] at hl;omega)
    rw [lQ_ h (.inr hk),hk] at hP
    have e5:d5_ ⟨123::(dG_ (FEnc d) j j.list.length++125::r),false⟩ [123]=(true,⟨dG_ (FEnc d) j j.list.length++125::r,false⟩):=e0_ [123] _
    simp only [ez_,ae_ f5_,dc_ (show (123:UInt8)≠110 by decide),dc_ (show (123:UInt8)≠102 by decide),dc_ (show (123:UInt8)≠116 by decide),dc_ (show (123:UInt8)≠91 by decide),mB_ (show (123:UInt8)≠34 by decide),e5,cond_false,cond_true,ae_ hP,ai_]
end Go.Pi
end
section
namespace Go.Pi
abbrev ih_:Nat:=4194304
structure At (s:Bs) (p:Nat) (x:Bs):Prop where
 le:p≤s.length
 eq:s.drop p=x
theorem At.next {s a b:Bs} {p:Nat} (h:At s p (a++b)):At s (p+a.length) b:=by
 have h1:=congrArg List.length h.eq
 simp only [List.length_drop,List.length_append] at h1
 have h2:=h.le
 exact ⟨by omega,by rw [←List.drop_drop,h.eq,List.drop_left]⟩
theorem At.next1 {s t:Bs} {c:UInt8} {p:Nat} (h:At s p (c::t)):At s (p+1) t:=At.next (a:=[c]) h
theorem At.lt {s t:Bs} {c:UInt8} {p:Nat} (h:At s p (c::t)):p<s.length∧s.getD p 0=c:=by
 have h1:=congrArg List.length h.eq
 simp only [List.length_drop,List.length_cons] at h1
 have hp:p<s.length:=by omega
 refine ⟨hp,?_⟩
 have:=dB_ 0 hp
 rw [h.eq] at this
 exact (List.cons.inj this).1.symm
theorem At.end_ {s:Bs} {p:Nat} (h:At s p []):p=s.length:=by
 have h1:=congrArg List.length h.eq
 simp only [List.length_drop,List.length_nil] at h1
 have:=h.le;omega
def g2_ (s:Bs) (p:Nat):Int:=cond (decide (p<s.length)) ((s.getD p 0).toNat:Int) 0
theorem dS_ {s:Bs} {p:Nat} {ok:Bool} {left:Int}:Ev (fun n _=>b5_ n ⟨s,(p:Int),ok,left⟩) (g2_ s p,⟨s,(p:Int),ok,left⟩):=by
 refine aI_ ?_
 simp only [b5_,aE_,b7_,ai_,Int.toNat_natCast,g2_]
 by_cases h:p<s.length
 · rw [decide_eq_true h]
   exact ⟨fun hc=>by have:=of_decide_eq_true hc;omega,fun _=>⟨by omega,rfl⟩⟩
 · rw [decide_eq_false h]
   exact ⟨fun _=>rfl,fun hc=>by have:=of_decide_eq_false hc;omega⟩
theorem dT_ {s t:Bs} {c:UInt8} {p:Nat} (h:At s p (c::t)):g2_ s p=(c.toNat:Int):=by
 obtain ⟨h1,h2⟩:=h.lt
 unfold g2_;rw [decide_eq_true h1,h2];rfl
theorem peek_end {s:Bs} {p:Nat} (h:At s p []):g2_ s p=0:=by
 unfold g2_;rw [decide_eq_false (by have:=h.end_;omega)];rfl
theorem lz_ {s:Bs} {p:Nat} (h:g2_ s p≠0):p<s.length:=by
 unfold g2_ at h
 by_cases hp:p<s.length
 · exact hp
 · rw [decide_eq_false hp] at h;exact absurd rfl h
def FTk (s:Bs) (p:Nat) (ok:Bool) (left:Int) (w:Bs):bc_:=cond (pfx w (s.drop p)) ⟨s,((p+w.length:Nat):Int),ok,left⟩ ⟨s,(p:Int),false,left⟩
theorem hP_ {s w:Bs} {p:Nat} {ok:Bool} {left:Int} (hs:s.length≤ih_) (hw:w.length≤100) (hp:p≤s.length):Ev (fun n _=>bB_ n ⟨s,(p:Int),ok,left⟩ w) (FTk s p ok left w):=by
 refine aI_ ?_
 simp only [ih_] at hs
 have e1:W ((s.length:Int) - (p:Int))=(s.length:Int) - p:=W_id (by omega) (by omega)
 have e2:W ((p:Int)+(w.length:Int))=((p+w.length:Nat):Int):=by rw [W_id (by omega) (by omega)];omega
 simp only [bB_,e1,e2,aE_,d4_,ai_,Int.toNat_natCast,FTk]
 have e3:pfx w (s.drop p)=(((s.take (p+w.length)).drop p) == w):=by
  rw [jp_,List.drop_zero,List.drop_take,show p+w.length - p=w.length by omega]
 refine ⟨fun h => ?_,fun h => ?_⟩
 · have h:=of_decide_eq_true h
   cases e:pfx w (s.drop p) with
   |false=>rfl
   |true=>have:=hB_ e;simp only [List.length_drop] at this;omega
 · have h:=of_decide_eq_false h
   refine ⟨by omega,?_⟩
   rw [e3]
   cases ((s.take (p+w.length)).drop p == w)<;>simp
theorem mj_ {s w t:Bs} {p:Nat} {ok:Bool} {left:Int} (h:At s p (w++t)):FTk s p ok left w=⟨s,((p+w.length:Nat):Int),ok,left⟩:=by
 unfold FTk;rw [h.eq,hC_];rfl
theorem iq_ {s w:Bs} {p:Nat} {ok:Bool} {left:Int} (hp:p≤s.length):∃ p' ok',FTk s p ok left w=⟨s,((p':Nat):Int),ok',left⟩∧p≤p'∧p'≤s.length∧(ok'=true→ok=true):=by
 unfold FTk
 cases e:pfx w (s.drop p) with
 |false=>exact ⟨p,false,rfl,by omega,hp,fun h=>(by cases h)⟩
 |true=>have:=hB_ e;simp only [List.length_drop] at this;exact ⟨p+w.length,ok,rfl,by omega,by omega,id⟩
theorem iZ_ {s:Bs} {p:Nat} {ok:Bool} {left:Int} (hs:s.length≤ih_) (hp:p≤s.length) :
  Ans (fun n _=>aA_ n ⟨s,(p:Int),ok,left⟩) fun x=>∃ p' ok',x.2=⟨s,((p':Nat):Int),ok',left⟩∧p'≤s.length∧x.1.length≤ih_∧(ok'=true→ok=true):=by
 refine c7_ ?_
 simp only [aA_,bj_ (hP_ (w:=[34]) hs (by simp) hp)]
 obtain ⟨p0,ok0,e0,_,hp0,hk0⟩:=iq_ (w:=[34]) (ok:=ok) (left:=left) hp
 rw [e0]
 have hs':=hs
 simp only [ih_] at hs
 have key:∀ (K:Nat→aA_.K4) (Q:Bs × bc_→Prop),(∀ (q:Nat) b o,q≤s.length→o.length≤ih_→(b=true→ok0=true)→Ans (fun n _=>K n s (q:Int) b left o) Q)→Ans (fun n _=>aA_.loop4 n (K n) n s (p0:Int) ok0 left []) Q:=by
  intro K Q hK
  refine fx_ (σ:=Nat × Bool × List Int) (fun n N st=>aA_.loop4 n (K n) N s (st.1:Int) st.2.1 left st.2.2) (fun st=>s.length - st.1) (fun st=>st.1≤s.length∧st.2.2.length≤st.1∧(st.2.1=true→ok0=true)) _ (fun st hI ih => ?_) (p0,ok0,[]) ⟨hp0,Nat.zero_le _,id⟩
  obtain ⟨q,b,o⟩:=st
  simp only at hI ih ⊢
  have hend:=hK q b o hI.1 (by simp only [ih_];omega) hI.2.2
  have hW:W ((q:Int)+1)=((q+1:Nat):Int):=by rw [W_id (by omega) (by omega)];omega
  have hW2:W (((q+1:Nat):Int)+1)=((q+1+1:Nat):Int):=by rw [W_id (by omega) (by omega)];omega
  simp only [aA_.turn4,aA_.step4,cc_,bj_ dS_,hW,hW2,dM_,es_,Int.toNat_natCast]
  refine ⟨fun hb=>⟨fun _=>⟨fun h92 => ?_,fun _=>⟨fun hc=>hK q false o hI.1 (by simp only [ih_];omega) (fun h=>(by cases h)),fun hc => ?_⟩⟩,fun _=>hend⟩,fun _=>hend⟩
  · have hlt:q<s.length:=lz_ (fun e=>by rw [e] at h92;revert h92;decide)
    refine ⟨fun hc=>hK (q+1) false o (by omega) (by simp only [ih_];omega) (fun h=>(by cases h)),fun hc => ?_⟩
    have hc:=of_decide_eq_false hc
    exact ⟨by omega,by simp;omega,ih (q+1+1,b,_) ⟨by simp only;omega,by simp;omega,hI.2.2⟩ (by simp only;omega)⟩
  · have hc:=of_decide_eq_false hc
    exact ⟨by omega,by simp;omega,ih (q+1,b,_) ⟨by simp only;omega,by simp;omega,hI.2.2⟩ (by simp only;omega)⟩
 refine key _ _ fun q b o hq ho hb => ?_
 simp only [bj_ (hP_ (w:=[34]) hs' (by simp) hq),br_]
 obtain ⟨p1,ok1,e1,h2,h3,h4⟩:=iq_ (w:=[34]) (ok:=b) (left:=left) hq
 exact ⟨p1,ok1,e1,h3,by simpa using ho,fun h=>hk0 (hb (h4 h))⟩
theorem iY_ {s t r:Bs} {p:Nat} {left:Int} (hs:s.length≤ih_) (h:At s p (do_ t++r)) :
  Ev (fun n _=>aA_ n ⟨s,(p:Int),true,left⟩) (t,⟨s,((p+(do_ t).length:Nat):Int),true,left⟩):=by
 have e:do_ t++r=[34]++(t.flatMap eO_++34::r):=by simp [do_]
 have eq:(do_ t).length=1+(t.flatMap eO_).length+1:=by simp [do_];omega
 rw [e] at h
 have h1:At s (p+1) (t.flatMap eO_++34::r):=h.next
 refine aI_ ?_
 simp only [aA_,ae_ (hP_ (w:=[34]) hs (by simp) h.le),mj_ h]
 have hs':=hs
 simp only [ih_] at hs
 have key:∀ (K:Nat→aA_.K4) (F:Bs × bc_),Ev (fun n _=>K n s ((p+1+(t.flatMap eO_).length:Nat):Int) true left (bi t)) F →
   ∀ (u v:Bs) (q:Nat),v++u=t→q=p+1+(v.flatMap eO_).length→At s q (u.flatMap eO_++34::r)→Ev (fun n N=>aA_.loop4 n (K n) N s (q:Int) true left (bi v)) F:=by
  intro K F hK u
  induction u with
  |nil=>
   intro v q hv hq ha
   rw [List.append_nil] at hv
   subst hv hq
   refine bm_ ?_
   have ha:At s (p+1+(v.flatMap eO_).length) (34::r):=ha
   simp only [aA_.turn4,aA_.step4,cond_true,ae_ dS_,dT_ ha]
   exact hK
  |cons c u ih=>
   intro v q hv hq ha
   have hnext:=ih (v++[c]) (q+(eO_ c).length) (by rw [←hv];simp) (by rw [hq];simp;omega) (by
    rw [List.flatMap_cons,List.append_assoc] at ha;exact ha.next)
   rw [←l5_] at hnext
   have hvl:v.length≤(v.flatMap eO_).length:=by
    clear hv hq hnext
    induction v with
    |nil=>exact Nat.le_refl _
    |cons c v ih=>rw [List.flatMap_cons,List.length_append,List.length_cons];have:1≤(eO_ c).length:=by unfold eO_;split<;>simp
                  omega
   have hbl:=i6_ v
   rw [List.flatMap_cons,List.append_assoc] at ha
   generalize bi v=o at hnext hbl ⊢
   refine bm_ ?_
   by_cases hc:c=34∨c=92
   · have e1:eO_ c=[92,c]:=if_pos hc
     rw [e1] at ha hnext
     have ha:At s q (92::c::(u.flatMap eO_++34::r)):=ha
     have hl:=ha.next1.lt
     have hW:W ((q:Int)+1)=((q+1:Nat):Int):=by rw [W_id (by omega) (by omega)];omega
     have hW2:W (((q+1:Nat):Int)+1)=((q+1+1:Nat):Int):=by rw [W_id (by omega) (by omega)];omega
     have hge:decide (((q+1:Nat):Int)≥(s.length:Int))=false:=decide_eq_false (by omega)
     have hp1:(((92:UInt8).toNat:Int) != 34)=true:=rfl
     have hp2:(((92:UInt8).toNat:Int) == 92)=true:=rfl
     simp only [aA_.turn4,aA_.step4,cond_true,cond_false,ae_ dS_,dT_ ha,hp1,hp2,hW,hW2,hge,b7_,cu_,Int.toNat_natCast,hl.2]
     exact ⟨by omega,by simp;omega,hnext⟩
   · have e1:eO_ c=[c]:=if_neg hc
     rw [e1] at ha hnext
     have ha:At s q (c::(u.flatMap eO_++34::r)):=ha
     have hl:=ha.lt
     have hW:W ((q:Int)+1)=((q+1:Nat):Int):=by rw [W_id (by omega) (by omega)];omega
     have hge:decide ((q:Int)≥(s.length:Int))=false:=decide_eq_false (by omega)
     have hp1:((c.toNat:Int) != 34)=true:=by
      show (!((c.toNat:Int) == 34))=true
      rw [byte34,decide_eq_false fun e=>hc (.inl e)];rfl
     have hp2:((c.toNat:Int) == 92)=false:=by rw [byte92,decide_eq_false fun e=>hc (.inr e)]
     simp only [aA_.turn4,aA_.step4,cond_true,cond_false,ae_ dS_,dT_ ha,hp1,hp2,hW,hge,b7_,cu_,Int.toNat_natCast,hl.2]
     exact ⟨by omega,by simp;omega,hnext⟩
 have h2:At s (p+1+(t.flatMap eO_).length) (34::r):=h1.next
 have:=key (fun n=>fun xy4 xy5 xy6 xy7 xy8=>((bB_ n (bc_.mk xy4 xy5 xy6 xy7) [34]).bind fun xr9=>(some ((fT_ xy8),xr9)))) (t,⟨s,((p+(do_ t).length:Nat):Int),true,left⟩) (by
  simp only [ae_ (hP_ (w:=[34]) hs' (by simp) h2.le),mj_ (w:=[34]) h2,ai_,ip_]
  show (t,bc_.mk s ((p+1+(t.flatMap eO_).length+1:Nat):Int) true left)=_
  rw [show p+1+(t.flatMap eO_).length+1=p+(do_ t).length by omega]) t [] (p+1) rfl rfl h1
 exact c5_ (f:=fun n N=>aA_.loop4 n (fun xy4 xy5 xy6 xy7 xy8=>((bB_ n (bc_.mk xy4 xy5 xy6 xy7) [34]).bind fun xr9=>(some ((fT_ xy8),xr9)))) N s ((p+1:Nat):Int) true left []) this
theorem i1_ {s:Bs} {p:Nat} {ok:Bool} {left:Int} (hs:s.length≤ih_) (hp:p≤s.length) :
  Ans (fun n _=>az_ n ⟨s,(p:Int),ok,left⟩) fun x=>∃ p' ok',x.2=⟨s,((p':Nat):Int),ok',left⟩∧p'≤s.length∧(ok'=true→ok=true) ∧ -9223372036854775808≤x.1∧x.1≤9223372036854775807:=by
 have hWr:∀ x:Int,-9223372036854775808≤W x∧W x≤9223372036854775807:=by
  intro x
  show -9223372036854775808≤IntKind.i64.wrap x∧IntKind.i64.wrap x≤9223372036854775807
  rw [IntKind.wrap_i64];omega
 simp only [ih_] at hs
 have key:∀ (K:Nat→az_.K7) (Q:Int × bc_→Prop) (t3:Bool) (t4:Int) (p0:Nat),p0≤s.length→(∀ (q:Nat) (x:Int),q≤s.length → -9223372036854775808≤x→x≤9223372036854775807→Ans (fun n _=>K n t3 t4 x s (q:Int) ok left) Q)→Ans (fun n _=>az_.loop7 n (K n) n t3 t4 0 s (p0:Int) ok left) Q:=by
  intro K Q t3 t4 p0 hp0 hK
  refine fx_ (σ:=Nat × Int) (fun n N st=>az_.loop7 n (K n) N t3 t4 st.2 s (st.1:Int) ok left) (fun st=>s.length - st.1) (fun st=>st.1≤s.length ∧ -9223372036854775808≤st.2∧st.2≤9223372036854775807) _ (fun st hI ih => ?_) (p0,0) ⟨hp0,by simp,by simp⟩
  obtain ⟨q,x⟩:=st
  simp only at hI ih ⊢
  have hend:=hK q x hI.1 hI.2.1 hI.2.2
  have hW:W ((q:Int)+1)=((q+1:Nat):Int):=by rw [W_id (by omega) (by omega)];omega
  simp only [az_.turn7,az_.step7,cc_,bj_ dS_,hW]
  refine ⟨fun h48=>⟨fun _=>⟨fun _ => ?_,fun _=>hend⟩,fun _=>hend⟩,fun _=>hend⟩
  have h48:=of_decide_eq_true h48
  have hlt:q<s.length:=lz_ (fun e=>by omega)
  exact ih (q+1,_) ⟨by simp only;omega,hWr _⟩ (by simp only;omega)
 refine c7_ ?_
 simp only [az_,bj_ dS_,cc_]
 refine ⟨fun h45 => ?_,fun _ => ?_⟩
 · have hlt:p<s.length:=lz_ (fun e=>by rw [e] at h45;revert h45;decide)
   have hW:W ((p:Int)+1)=((p+1:Nat):Int):=by rw [W_id (by omega) (by omega)];omega
   rw [hW]
   refine key _ _ _ _ (p+1) (by omega) fun q x hq hx0 hx1 => ?_
   simp only [cc_,br_]
   exact ⟨fun _=>⟨fun _=>⟨q,false,rfl,hq,fun h=>(by cases h),hWr _⟩,fun _=>⟨q,false,rfl,hq,fun h=>(by cases h),hx0,hx1⟩⟩,fun _=>⟨fun _=>⟨q,ok,rfl,hq,id,hWr _⟩,fun _=>⟨q,ok,rfl,hq,id,hx0,hx1⟩⟩⟩
 · refine key _ _ _ _ p hp fun q x hq hx0 hx1 => ?_
   simp only [cc_,br_]
   exact ⟨fun _=>⟨fun _=>⟨q,false,rfl,hq,fun h=>(by cases h),hWr _⟩,fun _=>⟨q,false,rfl,hq,fun h=>(by cases h),hx0,hx1⟩⟩,fun _=>⟨fun _=>⟨q,ok,rfl,hq,id,hWr _⟩,fun _=>⟨q,ok,rfl,hq,id,hx0,hx1⟩⟩⟩
theorem i0_ {s r:Bs} {p:Nat} {left:Int} {n:Int} (hs:s.length≤ih_) (h0 : -1000000000≤n) (h1:n≤1000000000) (hst:Stop r) (h:At s p (Lib.itoa n++r)) :
  Ev (fun m _=>az_ m ⟨s,(p:Int),true,left⟩) (n,⟨s,((p+(Lib.itoa n).length:Nat):Int),true,left⟩):=by
 simp only [ih_] at hs
 have key:∀ (K:Nat→az_.K7) (F:Int × bc_) (t3:Bool) (f:Nat) (D:Bs),(∀ c ∈ D,ey_ c)→∀ (q x:Nat),f≤q→q+D.length≤f+10→hO_ x D≤1000000000→At s q (D++r) →
   Ev (fun n _=>K n t3 (f:Int) (hO_ x D:Int) s ((q+D.length:Nat):Int) true left) F→Ev (fun n N=>az_.loop7 n (K n) N t3 (f:Int) (x:Int) s (q:Int) true left) F:=by
  intro K F t3 f D
  induction D with
  |nil=>
   intro _ q x hf hl hv ha hK
   refine bm_ ?_
   have hK:Ev (fun n _=>K n t3 (f:Int) (x:Int) s (q:Int) true left) F:=hK
   have ha:At s q r:=ha
   simp only [az_.turn7,az_.step7,ae_ dS_,aE_]
   have hnd:¬ (48≤g2_ s q∧g2_ s q≤57):=by
    cases r with
    |nil=>rw [peek_end ha];omega
    |cons c r=>rw [dT_ ha];have:=hst c r rfl;unfold ey_ at this;omega
   exact ⟨fun a=>⟨fun b=>absurd ⟨of_decide_eq_true a,of_decide_eq_true b⟩ hnd,fun _=>hK⟩,fun _=>hK⟩
  |cons c D ih=>
   intro hd q x hf hl hv ha hK
   have hc:=hd c (List.mem_cons_self ..)
   unfold ey_ at hc
   rw [g4_] at hv hK
   have hle:=val_le (10*x+(c.toNat - 48)) D
   have ha:At s q (c::(D++r)):=ha
   have hlt:=ha.lt
   simp only [List.length_cons] at hl
   have hn:=ih (fun c hc=>hd c (List.mem_cons_of_mem _ hc)) (q+1) (10*x+(c.toNat - 48)) (by omega) (by omega) hv ha.next1 (by
    rw [show q+1+D.length=q+(c::D).length by simp;omega];exact hK)
   have hW:W ((q:Int)+1)=((q+1:Nat):Int):=by rw [W_id (by omega) (by omega)];omega
   have hW2:W ((q:Int) - (f:Int))=(q:Int) - f:=W_id (by omega) (by omega)
   have hW3:W (10*(x:Int))=((10*x:Nat):Int):=by rw [W_id (by omega) (by omega)];omega
   have hW4:W (((10*x:Nat):Int)+(c.toNat:Int))=((10*x+c.toNat:Nat):Int):=by rw [W_id (by omega) (by omega)];omega
   have hW5:W (((10*x+c.toNat:Nat):Int) - 48)=((10*x+(c.toNat - 48):Nat):Int):=by rw [W_id (by omega) (by omega)];omega
   refine bm_ ?_
   simp only [az_.turn7,az_.step7,ae_ dS_,dT_ ha,o5_,hW,hW2,hW3,hW4,hW5,aE_]
   exact ⟨fun _=>⟨fun _=>⟨fun _=>hn,fun hx=>by have:=of_decide_eq_false hx;omega⟩,fun hx=>by have:=of_decide_eq_false hx;omega⟩,fun hx=>by have:=of_decide_eq_false hx;omega⟩
 refine aI_ ?_
 by_cases hn:n<0
 · have e:Lib.itoa n=45::Lib.decDigits n.natAbs:=by unfold Lib.itoa;rw [if_pos hn]
   rw [e] at h ⊢
   have hdp:=j9_ n.natAbs
   have hdl:=l1_ 9 n.natAbs (by omega)
   have hdd:=f8_ n.natAbs
   have hdv:=jx_ n.natAbs
   generalize Lib.decDigits n.natAbs=D at h hdp hdl hdd hdv ⊢
   have h:At s p (45::(D++r)):=h
   have hlt:=h.lt
   have hW:W ((p:Int)+1)=((p+1:Nat):Int):=by rw [W_id (by omega) (by omega)];omega
   have hW0:W (0 - ((n.natAbs:Nat):Int))=n:=by rw [W_id (by omega) (by omega)];omega
   have h45:(((45:UInt8).toNat:Int) == 45)=true:=rfl
   simp only [az_,ae_ dS_,dT_ h,h45,cond_true,hW]
   have hne:(((p+1+D.length:Nat):Int) == ((p+1:Nat):Int))=false:=beq_eq_false_iff_ne.2 (by omega)
   have:=key (fun n=>fun xy5 xy6 xy7 xy8 xy9 xy10 xy11=>(cond (xy9 == xy6) (cond xy5 (some ((W (0 - xy7)),(bc_.mk xy8 xy9 false xy11))) (some (xy7,(bc_.mk xy8 xy9 false xy11)))) (cond xy5 (some ((W (0 - xy7)),(bc_.mk xy8 xy9 xy10 xy11))) (some (xy7,(bc_.mk xy8 xy9 xy10 xy11)))))) (n,⟨s,((p+(45::D).length:Nat):Int),true,left⟩) true (p+1) D hdd (p+1) 0 (Nat.le_refl _) (by omega) (by omega) h.next1 (by
    simp only [hne,cond_false,cond_true,hdv,hW0,ai_,List.length_cons];congr 3;omega)
   exact c5_ (f:=fun n N=>az_.loop7 n (fun xy5 xy6 xy7 xy8 xy9 xy10 xy11=>(cond (xy9 == xy6) (cond xy5 (some ((W (0 - xy7)),(bc_.mk xy8 xy9 false xy11))) (some (xy7,(bc_.mk xy8 xy9 false xy11)))) (cond xy5 (some ((W (0 - xy7)),(bc_.mk xy8 xy9 xy10 xy11))) (some (xy7,(bc_.mk xy8 xy9 xy10 xy11)))))) N true ((p+1:Nat):Int) 0 s ((p+1:Nat):Int) true left) this
 · have e:Lib.itoa n=Lib.decDigits n.toNat:=by unfold Lib.itoa;rw [if_neg hn]
   rw [e] at h ⊢
   have hdp:=j9_ n.toNat
   have hdl:=l1_ 9 n.toNat (by omega)
   have hdd:=f8_ n.toNat
   have hdv:=jx_ n.toNat
   generalize Lib.decDigits n.toNat=D at h hdp hdl hdd hdv ⊢
   have h45:(g2_ s p == 45)=false:=by
    cases D with
    |nil=>simp at hdp
    |cons c D=>
     have h:At s p (c::(D++r)):=h
     have hc:=hdd c (List.mem_cons_self ..)
     unfold ey_ at hc
     rw [dT_ h];exact beq_eq_false_iff_ne.2 (by omega)
   have hN:((n.toNat:Nat):Int)=n:=by omega
   simp only [az_,ae_ dS_,h45,cond_false]
   have hne:(((p+D.length:Nat):Int) == (p:Int))=false:=beq_eq_false_iff_ne.2 (by omega)
   have:=key (fun n=>fun xy12 xy13 xy14 xy15 xy16 xy17 xy18=>(cond (xy16 == xy13) (cond xy12 (some ((W (0 - xy14)),(bc_.mk xy15 xy16 false xy18))) (some (xy14,(bc_.mk xy15 xy16 false xy18)))) (cond xy12 (some ((W (0 - xy14)),(bc_.mk xy15 xy16 xy17 xy18))) (some (xy14,(bc_.mk xy15 xy16 xy17 xy18)))))) (n,⟨s,((p+D.length:Nat):Int),true,left⟩) false p D hdd p 0 (Nat.le_refl _) (by omega) (by omega) h (by
    simp only [hne,cond_false,hdv,hN,ai_])
   exact c5_ (f:=fun n N=>az_.loop7 n (fun xy12 xy13 xy14 xy15 xy16 xy17 xy18=>(cond (xy16 == xy13) (cond xy12 (some ((W (0 - xy14)),(bc_.mk xy15 xy16 false xy18))) (some (xy14,(bc_.mk xy15 xy16 false xy18)))) (cond xy12 (some ((W (0 - xy14)),(bc_.mk xy15 xy16 xy17 xy18))) (some (xy14,(bc_.mk xy15 xy16 xy17 xy18)))))) N false (p:Int) 0 s (p:Int) true left) this
end Go.Pi
end
section
namespace Go.Pi
def n4_ (s:Bs) (left:Int) (d:Nat) (x:aa_ × bc_):Prop :=
 ∃ (p':Nat) (ok':Bool) (left':Int),x.2=⟨s,(p':Int),ok',left'⟩∧p'≤s.length ∧ -1≤left'∧left'<left∧(ok'=true→0≤left')∧fg_ d x.1
theorem many_any {s:Bs} (hs:s.length≤ih_) {d:Nat} (hd:d≤1000) (ih:∀ (p:Nat) (ok:Bool) (left:Int),p≤s.length→0≤left→left≤400→Ans (fun n _=>bn_ n ⟨s,(p:Int),ok,left⟩ (d:Int)) (n4_ s left d))
  (p:Nat) (left:Int) (hp:p<s.length) (h0:0≤left) (h1:left≤400):Ans (fun n _=>aU_ n ⟨s,(p:Int),true,left⟩ ((d+1:Nat):Int)) (n4_ s (left+1) (d+1)):=by
 have hW:W (((d+1:Nat):Int) - 1)=(d:Int):=by rw [W_id (by omega) (by omega)];omega
 have hs':=hs
 simp only [ih_] at hs
 have hWp:W ((p:Int)+1)=((p+1:Nat):Int):=by rw [W_id (by omega) (by omega)];omega
 have key:∀ (K:Nat→aU_.K8_1) (Q:aa_ × bc_→Prop) (kind:Int) (e:UInt8),(∀ (q:Nat) b (l:Int) js ns,q≤s.length → -1≤l→l≤left→(b=true→0≤l)→js.length≤402→(∀ y ∈ js,fg_ d y)→ns.length≤402→(∀ y ∈ ns,y.length≤ih_)→Ans (fun n _=>K n [e] s (q:Int) b l 0 0 [] kind 0 [] js ns) Q) →
   Ans (fun n _=>aU_.loop8 n (bn_ n) (K n) n ((d+1:Nat):Int) [e] s ((p+1:Nat):Int) true left 0 0 [] kind 0 [] [] []) Q:=by
  intro K Q kind e hK
  refine fx_ (σ:=Nat × Bool × Int × List aa_ × List Bs) (fun n N st=>aU_.loop8 n (bn_ n) (K n) N ((d+1:Nat):Int) [e] s (st.1:Int) st.2.1 st.2.2.1 0 0 [] kind 0 [] st.2.2.2.1 st.2.2.2.2)
   (fun st=>(st.2.2.1+1).toNat) (fun st=>st.1≤s.length ∧ -1≤st.2.2.1∧st.2.2.1+st.2.2.2.1.length≤left∧(st.2.1=true→0≤st.2.2.1)∧(∀ y ∈ st.2.2.2.1,fg_ d y)∧st.2.2.2.2.length≤st.2.2.2.1.length∧(∀ y ∈ st.2.2.2.2,y.length≤ih_)) _ (fun st hI ihl => ?_) (p+1,true,left,[],[]) ⟨hp,by simp only;omega,by simp,fun _=>h0,fun y h=>(by cases h),Nat.le_refl _,fun y h=>(by cases h)⟩
  obtain ⟨q,b,l,js,ns⟩:=st
  simp only at hI ihl ⊢
  obtain ⟨i1,i2,i3,i4,i5,i6,i7⟩:=hI
  have hend:=hK q b l js ns i1 i2 (by omega) i4 (by omega) i5 (by omega) i7
  simp only [aU_.turn8,aU_.step8,bh_,hW,cc_,bj_ dS_,dM_,List.length_cons,List.length_nil]
  refine ⟨fun hb=>⟨by omega,fun _ => ?_,fun _=>hend⟩,fun _=>hend⟩
  subst hb
  have l0:=i4 rfl
  have step:∀ (q:Nat) (b:Bool) (ns':List Bs),q≤s.length→ns'.length≤js.length+1→(∀ y ∈ ns',y.length≤ih_) →
    Ans (fun n N=>(bn_ n ⟨s,(q:Int),b,l⟩ (d:Int)).bind fun xr6=>cF_ (js.length+(0+1)) 80 (aU_.loop8 n (bn_ n) (K n) N ((d+1:Nat):Int) [e] xr6.2.s xr6.2.at_ xr6.2.ok xr6.2.left 0 0 [] kind 0 [] (js++[xr6.1]) ns')) Q:=by
   intro q b ns' hq hn hnb
   refine c6_ (ih q b l hq l0 (by omega)) fun v hv => ?_
   obtain ⟨j,c⟩:=v
   obtain ⟨p',ok',left',e1,e2,e3,e4,e5,e6⟩:=hv
   simp only at e1 e6
   subst e1
   simp only [es_]
   refine ⟨by omega,ihl (p',ok',left',js++[j],ns') ⟨e2,e3,by simp;omega,e5,?_,by simpa using hn,hnb⟩ (by simp only;omega)⟩
   intro y hy
   rcases List.mem_append.1 hy with hy|hy
   · exact i5 y hy
   · obtain rfl:=List.mem_singleton.1 hy;exact e6
  have named:∀ (q:Nat) (b:Bool),q≤s.length →
    Ans (fun n N=>(aA_ n ⟨s,(q:Int),b,l⟩).bind fun xr4=>cF_ (ns.length+(0+1)) 16 ((bB_ n xr4.2 [58]).bind fun xr5=>(bn_ n xr5 (d:Int)).bind fun xr6=>cF_ (js.length+(0+1)) 80 (aU_.loop8 n (bn_ n) (K n) N ((d+1:Nat):Int) [e] xr6.2.s xr6.2.at_ xr6.2.ok xr6.2.left 0 0 [] kind 0 [] (js++[xr6.1]) (ns++[xr4.1])))) Q:=by
   intro q b hq
   refine c6_ (iZ_ (ok:=b) (left:=l) hs' hq) fun v hv => ?_
   obtain ⟨t,c⟩:=v
   obtain ⟨p',ok',e1,e2,e3,e4⟩:=hv
   simp only at e1 e3
   subst e1
   obtain ⟨p2,ok2,g1,g2,g3,g4⟩:=iq_ (w:=[58]) (ok:=ok') (left:=l) e2
   simp only [es_,bj_ (hP_ (w:=[58]) hs' (by simp) e2),g1]
   refine ⟨by omega,step p2 ok2 (ns++[t]) g3 (by simp;omega) fun y hy => ?_⟩
   rcases List.mem_append.1 hy with hy|hy
   · exact i7 y hy
   · obtain rfl:=List.mem_singleton.1 hy;exact e3
  refine ⟨fun _ => ?_,fun _=>⟨fun _=>named q true i1,fun _=>step q true ns i1 (by omega) i7⟩⟩
  obtain ⟨p2,ok2,g1,g2,g3,g4⟩:=iq_ (w:=[44]) (ok:=true) (left:=l) i1
  simp only [bj_ (hP_ (w:=[44]) hs' (by simp) i1),g1,cc_]
  exact ⟨fun _=>named p2 ok2 g3,fun _=>step p2 ok2 ns g3 (by omega) i7⟩
 have fin:∀ (e:UInt8) (kind:Int) (q:Nat) (b:Bool) (l:Int) (js:List aa_) (ns:List Bs),q≤s.length → -1≤l→l≤left→(b=true→0≤l)→js.length≤402→(∀ y ∈ js,fg_ d y)→ns.length≤402→(∀ y ∈ ns,y.length≤ih_) →
   Ans (fun n (_:Nat)=>(bB_ n (bc_.mk s (q:Int) b l) [e]).bind fun xr25=>some ((aa_.mk kind 0 [] js ns),xr25)) (n4_ s (left+1) (d+1)):=by
  intro e kind q b l js ns a1 a2 a3 a4 a5 a6 a7 a8
  obtain ⟨p2,ok2,g1,g2,g3,g4⟩:=iq_ (w:=[e]) (ok:=b) (left:=l) a1
  simp only [bj_ (hP_ (w:=[e]) hs' (by simp) a1),g1,br_]
  refine ⟨p2,ok2,l,rfl,g3,a2,by omega,fun h=>a4 (g4 h),⟨Nat.zero_le _,?_,fun y hy => ?_⟩,?_,a6⟩
  · show ns.length≤cY_;simp only [cY_];omega
  · have:=a8 y hy;simp only [ih_] at this;simp only [cY_];omega
  · show js.length≤cY_;simp only [cY_];omega
 refine c7_ ?_
 simp only [aU_,bj_ dS_,cc_,hWp]
 exact ⟨fun _=>key _ _ 5 125 fun q b l js ns a1 a2 a3 a4 a5 a6 a7 a8=>fin 125 5 q b l js ns a1 a2 a3 a4 a5 a6 a7 a8,fun _=>key _ _ 4 93 fun q b l js ns a1 a2 a3 a4 a5 a6 a7 a8=>fin 93 4 q b l js ns a1 a2 a3 a4 a5 a6 a7 a8⟩
theorem jX_ {s:Bs} (hs:s.length≤ih_):∀ (d:Nat),d≤1000→∀ (p:Nat) (ok:Bool) (left:Int),p≤s.length→0≤left→left≤400→Ans (fun n _=>bn_ n ⟨s,(p:Int),ok,left⟩ (d:Int)) (n4_ s left d)
 |0,_,p,ok,left,hp,h0,h1=>by
  have hl:W (left - 1)=left - 1:=W_id (by omega) (by omega)
  refine c7_ ?_
  simp only [bn_,cc_,br_,hl]
  exact ⟨fun _=>⟨p,false,_,rfl,hp,by omega,by omega,fun h=>(by cases h),trivial⟩,fun h=>by simp at h⟩
 |d+1,hd,p,ok,left,hp,h0,h1=>by
  have ihm:=many_any hs (d:=d) (by omega) (jX_ hs d (by omega))
  have hl:W (left - 1)=left - 1:=W_id (by omega) (by omega)
  refine c7_ ?_
  simp only [bn_,bh_,cc_,br_,hl,bj_ dS_]
  refine ⟨fun h=>by simp at h;omega,fun _=>⟨fun _=>⟨p,false,_,rfl,hp,by omega,by omega,fun h=>(by cases h),ec_⟩,fun hc => ?_⟩⟩
  have hc:=of_decide_eq_false hc
  refine ⟨fun _=>⟨p,ok,_,rfl,hp,by omega,by omega,fun h=>by omega,ec_⟩,fun hok => ?_⟩
  have hok:ok=true:=by simpa using hok
  subst hok
  have lit:∀ (w:Bs) (k n:Int),w.length≤100→Ans (fun m (_:Nat)=>(bB_ m ⟨s,(p:Int),true,left - 1⟩ w).bind fun xr=>some (aa_.mk k n [] [] [],xr)) (n4_ s left (d+1)):=by
   intro w k n hw
   obtain ⟨p2,ok2,g1,g2,g3,g4⟩:=iq_ (w:=w) (ok:=true) (left:=left - 1) hp
   simp only [bj_ (hP_ (w:=w) hs hw hp),g1,br_]
   exact ⟨p2,ok2,_,rfl,g3,by omega,by omega,fun _=>by omega,ec_⟩
  have num:Ans (fun m (_:Nat)=>(az_ m ⟨s,(p:Int),true,left - 1⟩).bind fun xr=>some (aa_.mk 2 xr.1 [] [] [],xr.2)) (n4_ s left (d+1)):=by
   refine c6_ (i1_ (ok:=true) (left:=left - 1) hs hp) fun v hv => ?_
   obtain ⟨x,c⟩:=v
   obtain ⟨p',ok',e1,e2,e3,_⟩:=hv
   simp only at e1
   subst e1
   simp only [br_]
   exact ⟨p',ok',_,rfl,e2,by omega,by omega,fun _=>by omega,ec_⟩
  have many:(g2_ s p == 91)=true∨(g2_ s p == 123)=true→Ans (fun n (_:Nat)=>(aU_ n ⟨s,(p:Int),true,left - 1⟩ ((d+1:Nat):Int)).bind fun xr8=>some (xr8.1,xr8.2)) (n4_ s left (d+1)):=by
   intro hpk
   have hlt:p<s.length:=lz_ (fun e=>by rw [e] at hpk;revert hpk;decide)
   refine c6_ (ihm p (left - 1) hlt (by omega) (by omega)) fun v hv => ?_
   simp only [br_]
   obtain ⟨p',ok',left',e1,e2,e3,e4,e5,e6⟩:=hv
   exact ⟨p',ok',left',e1,e2,e3,by omega,e5,e6⟩
  refine ⟨fun _=>lit _ 0 0 (by simp),fun _=>⟨fun _=>lit _ 1 1 (by simp),fun _=>⟨fun _=>lit _ 1 0 (by simp),fun _=>⟨fun _ => ?_,fun _=>⟨fun h=>⟨fun _=>many (.inl h),fun _=>num⟩,fun _=>⟨fun h=>many (.inr h),fun _=>num⟩⟩⟩⟩⟩⟩
  refine c6_ (iZ_ (ok:=true) (left:=left - 1) hs hp) fun v hv => ?_
  obtain ⟨t,c⟩:=v
  obtain ⟨p',ok',e1,e2,e3,e4⟩:=hv
  simp only at e1 e3
  subst e1
  simp only [br_]
  exact ⟨p',ok',_,rfl,e2,by omega,by omega,fun _=>by omega,mL_ (by simp only [ih_] at e3;simp only [cY_];omega)⟩
end Go.Pi
end
section
namespace Go.Pi
theorem oy_ {s:Bs} (hs:s.length≤ih_) {d:Nat} (hd:d≤1000) {j:aa_} (h:bE_ (d+1) j≤400) (hk:j.kind=4∨j.kind=5)
  (ih:∀ x,bE_ d x≤400→∀ (p:Nat) (r:Bs) (left:Int),Stop r→(bE_ d x:Int)≤left→left≤400→At s p (FEnc d x++r)→Ev (fun n _=>bn_ n ⟨s,(p:Int),true,left⟩ (d:Int)) (x,⟨s,((p+(FEnc d x).length:Nat):Int),true,left - bE_ d x⟩))
  (o c:UInt8) (hoc:(j.kind=4→o=91∧c=93)∧(j.kind=5→o=123∧c=125)) (r:Bs) (p:Nat) (left:Int) (hl:(ei_ (bE_ d) j.list:Int)≤left) (hl2:left≤400) (ha:At s p (o::(dG_ (FEnc d) j j.list.length++c::r))) :
  Ev (fun n _=>aU_ n ⟨s,(p:Int),true,left⟩ ((d+1:Nat):Int)) (aa_.mk j.kind 0 [] j.list j.names,⟨s,((p+1+(dG_ (FEnc d) j j.list.length).length+1:Nat):Int),true,left - ei_ (bE_ d) j.list⟩):=by
 have hW:W (((d+1:Nat):Int) - 1)=(d:Int):=by rw [W_id (by omega) (by omega)];omega
 have hs':=hs
 simp only [ih_] at hs
 have hll:=d6_ h
 have hnl:=eQ_ h
 have ho:=(di_ h).1
 have ho2:=ed_ (d0_ h)
 have hlt:=ha.lt
 have hWp:W ((p:Int)+1)=((p+1:Nat):Int):=by rw [W_id (by omega) (by omega)];omega
 have hc:c.toNat=93∨c.toNat=125:=by
  rcases hk with hk|hk
  · rw [(hoc.1 hk).2];exact .inl rfl
  · rw [(hoc.2 hk).2];exact .inr rfl
 have hcd:¬ ey_ c:=nM_ (kind:=0) hc
 have key:∀ (K:Nat→aU_.K8_1) (F:aa_ × bc_) (k i q:Nat) (left:Int),i+k=j.list.length→(ei_ (bE_ d) (j.list.drop i):Int)≤left→left≤400→At s q (dy_ (FEnc d) j k i++c::r) →
   Ev (fun n _=>K n [c] s ((q+(dy_ (FEnc d) j k i).length:Nat):Int) true (left - ei_ (bE_ d) (j.list.drop i)) 0 0 [] j.kind 0 [] j.list j.names) F →
   Ev (fun n N=>aU_.loop8 n (bn_ n) (K n) N ((d+1:Nat):Int) [c] s (q:Int) true left 0 0 [] j.kind 0 [] (j.list.take i) (j.names.take i)) F:=by
  intro K F k
  induction k with
  |zero=>
   intro i q left hi hl _ ha hK
   have ei:i=j.list.length:=by omega
   subst ei
   have en:j.names.take j.list.length=j.names:=by
    rcases hk with hk|hk
    · rw [ho2.ns0 (by omega)];simp
    · exact List.take_of_length_le (by rw [(ho.obj hk).1];exact Nat.le_refl _)
   have ha:At s q (c::r):=ha
   have hK:Ev (fun n _=>K n [c] s (q:Int) true left 0 0 [] j.kind 0 [] j.list j.names) F:=by
    simpa [dy_,ei_] using hK
   refine bm_ ?_
   have hne:((c.toNat:Int) != (([c]:Bs).getD 0 0).toNat)=false:=by simp
   simp only [aU_.turn8,aU_.step8,List.take_length,en,cond_true,ae_ dS_,dT_ ha,hne,cond_false,b7_]
   exact ⟨by simp,hK⟩
  |succ k ihk=>
   intro i q left hi hl hl2 ha hK
   have hlti:i<j.list.length:=by omega
   have hp:=eD_ h (i:=i) (by omega)
   rw [hS_ (bE_ d) aa_.dflt hlti] at hl hK
   have hnext:=ihk (i+1)
   rw [dg_ aa_.dflt hlti] at hnext
   have hx:=ih _ hp.size
   have hst:Stop (dy_ (FEnc d) j k (i+1)++c::r):=mo_ _ _ _ _ hcd r
   have etl:(j.list.take i).length=i:=by simp;omega
   have fX_:∀ (q':Nat),At s q' (dt_ (FEnc d) j i++(dy_ (FEnc d) j k (i+1)++c::r))→q'+(dt_ (FEnc d) j i).length+(dy_ (FEnc d) j k (i+1)).length=q+(dy_ (FEnc d) j (k+1) i).length →
     Ev (fun n N=>cond (j.kind == 5) ((aA_ n ⟨s,(q':Int),true,left⟩).bind fun xr4=>cF_ ((j.names.take i).length+[xr4.1].length) 16 ((bB_ n xr4.2 [58]).bind fun xr5=>(bn_ n xr5 (d:Int)).bind fun xr6=>cF_ ((j.list.take i).length+[xr6.1].length) 80 (aU_.loop8 n (bn_ n) (K n) N ((d+1:Nat):Int) [c] xr6.2.s xr6.2.at_ xr6.2.ok xr6.2.left 0 0 [] j.kind 0 [] (j.list.take i++[xr6.1]) (j.names.take i++[xr4.1]))))
      ((bn_ n ⟨s,(q':Int),true,left⟩ (d:Int)).bind fun xr6=>cF_ ((j.list.take i).length+[xr6.1].length) 80 (aU_.loop8 n (bn_ n) (K n) N ((d+1:Nat):Int) [c] xr6.2.s xr6.2.at_ xr6.2.ok xr6.2.left 0 0 [] j.kind 0 [] (j.list.take i++[xr6.1]) (j.names.take i)))) F:=by
    intro q' ha' hq'
    rcases hk with hk|hk
    · have h5:(j.kind == 5)=false:=by rw [hk];rfl
      have en:j.names=[]:=ho2.ns0 (by omega)
      have ef:dt_ (FEnc d) j i=FEnc d (j.list.getD i aa_.dflt):=by unfold dt_;rw [h5];rfl
      rw [ef] at ha' hq'
      have hx:=hx q' _ left hst (by omega) hl2 ha'
      have hn:=hnext (q'+(FEnc d (j.list.getD i aa_.dflt)).length) (left - bE_ d (j.list.getD i aa_.dflt)) (by omega) (by omega) (by omega) ha'.next (by
       rw [hq',show left - (bE_ d (j.list.getD i aa_.dflt):Int) - (ei_ (bE_ d) (j.list.drop (i+1)):Int)=left - ((bE_ d (j.list.getD i aa_.dflt)+ei_ (bE_ d) (j.list.drop (i+1)):Nat):Int) by omega]
       exact hK)
      rw [en,List.take_nil] at hn
      simp only [h5,cond_false,ae_ hx,cu_,en,List.take_nil]
      exact ⟨by simp;omega,hn⟩
    · have h5:(j.kind == 5)=true:=by rw [hk];rfl
      obtain ⟨o1,o2⟩:=ho.obj hk
      have ef:dt_ (FEnc d) j i=do_ (j.names.getD i [])++([58]++FEnc d (j.list.getD i aa_.dflt)):=by unfold dt_;rw [h5];rfl
      rw [ef] at ha' hq'
      simp only [List.append_assoc] at ha'
      have hq:=iY_ (left:=left) hs' ha'
      have ha2:=ha'.next
      have ha3:=ha2.next
      have hx:=hx _ _ left hst (by omega) hl2 ha3
      rw [dg_ [] (show i<j.names.length by omega)] at hnext
      have hn:=hnext _ (left - bE_ d (j.list.getD i aa_.dflt)) (by omega) (by omega) (by omega) ha3.next (by
       rw [show q'+(do_ (j.names.getD i [])).length+([58]:Bs).length+(FEnc d (j.list.getD i aa_.dflt)).length+(dy_ (FEnc d) j k (i+1)).length=q+(dy_ (FEnc d) j (k+1) i).length by rw [←hq'];simp only [List.length_append];omega,
        show left - (bE_ d (j.list.getD i aa_.dflt):Int) - (ei_ (bE_ d) (j.list.drop (i+1)):Int)=left - ((bE_ d (j.list.getD i aa_.dflt)+ei_ (bE_ d) (j.list.drop (i+1)):Nat):Int) by omega]
       exact hK)
      simp only [h5,cond_true,ae_ hq,ae_ (hP_ (w:=[58]) hs' (by simp) ha2.le),mj_ ha2,ae_ hx,cu_]
      exact ⟨by simp;omega,by simp;omega,hn⟩
   refine bm_ ?_
   by_cases h0:i=0
   · have e0:dy_ (FEnc d) j (k+1) i=dt_ (FEnc d) j i++dy_ (FEnc d) j k (i+1):=by rw [dy_,if_pos h0];rfl
     have ha':At s q (dt_ (FEnc d) j i++(dy_ (FEnc d) j k (i+1)++c::r)):=by rw [e0,List.append_assoc] at ha;exact ha
     have hr:=fX_ q ha' (by rw [e0,List.length_append];omega)
     obtain ⟨a,p0,ep,hp1,hp2,hp3⟩:=li_ h (i:=i) (by omega)
     have hpk:(g2_ s q != (([c]:Bs).getD 0 0).toNat)=true:=by
      rw [ep] at ha'
      rw [dT_ (t:=p0++(dy_ (FEnc d) j k (i+1)++c::r)) ha']
      show (!((a.toNat:Int) == (c.toNat:Int)))=true
      rw [beq_eq_false_iff_ne.2 (by omega)];rfl
     have hg:decide (((j.list.take i).length:Int) > 0)=false:=decide_eq_false (by omega)
     simp only [aU_.turn8,aU_.step8,bh_,hW,cond_true,ae_ dS_,hpk,hg,cond_false,b7_]
     exact ⟨by simp,hr⟩
   · have e0:dy_ (FEnc d) j (k+1) i=[44]++(dt_ (FEnc d) j i++dy_ (FEnc d) j k (i+1)):=by rw [dy_,if_neg h0]
     have ha':At s q ([44]++(dt_ (FEnc d) j i++(dy_ (FEnc d) j k (i+1)++c::r))):=by rw [e0,List.append_assoc,List.append_assoc] at ha;exact ha
     have hr:=fX_ (q+([44]:Bs).length) ha'.next (by rw [e0];simp only [List.length_append];omega)
     have hpk:(g2_ s q != (([c]:Bs).getD 0 0).toNat)=true:=by
      rw [dT_ (c:=44) ha']
      show (!(((44:UInt8).toNat:Int) == (c.toNat:Int)))=true
      rw [beq_eq_false_iff_ne.2 (show (((44:UInt8).toNat:Int))≠(c.toNat:Int) by show (44:Int)≠_;omega)];rfl
     have hg:decide (((j.list.take i).length:Int) > 0)=true:=decide_eq_true (by omega)
     simp only [aU_.turn8,aU_.step8,bh_,hW,cond_true,ae_ dS_,hpk,hg,ae_ (hP_ (w:=[44]) hs' (by simp) ha'.le),mj_ ha',b7_]
     exact ⟨by simp,hr⟩
 have ha1:=ha.next1
 rw [ko_] at ha1 ⊢
 have ha2:=ha1.next
 have fin:Ev (fun n (_:Nat)=>(bB_ n (bc_.mk s ((p+1+(dy_ (FEnc d) j j.list.length 0).length:Nat):Int) true (left - ei_ (bE_ d) (j.list.drop 0))) [c]).bind fun xr25=>some ((aa_.mk j.kind 0 [] j.list j.names),xr25)) (aa_.mk j.kind 0 [] j.list j.names,⟨s,((p+1+(dy_ (FEnc d) j j.list.length 0).length+1:Nat):Int),true,left - ei_ (bE_ d) j.list⟩):=by
  simp only [ae_ (hP_ (w:=[c]) hs' (by simp) ha2.le),mj_ (w:=[c]) ha2,ai_,List.drop_zero];rfl
 refine aI_ ?_
 simp only [aU_,ae_ dS_,dT_ ha,hWp]
 rcases hk with hk|hk
 · obtain ⟨rfl,rfl⟩:=hoc.1 hk
   have h1:(((91:UInt8).toNat:Int) == 123)=false:=rfl
   have:=key (fun n=>fun xy26 xy27 xy28 xy29 xy30 xy31 xy32 xy33 xy34 xy35 xy36 xy37 xy38=>((bB_ n (bc_.mk xy27 xy28 xy29 xy30) xy26).bind fun xr39=>(some ((aa_.mk xy34 xy35 xy36 xy37 xy38),xr39)))) _ j.list.length 0 (p+1) left (by omega) (by rw [List.drop_zero];exact hl) hl2 ha1 fin
   rw [hk] at this ⊢
   simp only [h1,cond_false]
   exact c5_ this
 · obtain ⟨rfl,rfl⟩:=hoc.2 hk
   have h1:(((123:UInt8).toNat:Int) == 123)=true:=rfl
   have:=key (fun n=>fun xy12 xy13 xy14 xy15 xy16 xy17 xy18 xy19 xy20 xy21 xy22 xy23 xy24=>((bB_ n (bc_.mk xy13 xy14 xy15 xy16) xy12).bind fun xr25=>(some ((aa_.mk xy20 xy21 xy22 xy23 xy24),xr25)))) _ j.list.length 0 (p+1) left (by omega) (by rw [List.drop_zero];exact hl) hl2 ha1 fin
   rw [hk] at this ⊢
   simp only [h1,cond_true]
   exact c5_ this
theorem jW_ {s:Bs} (hs:s.length≤ih_):∀ (d:Nat),d≤1000→∀ x,bE_ d x≤400→∀ (p:Nat) (r:Bs) (left:Int),Stop r→(bE_ d x:Int)≤left→left≤400→At s p (FEnc d x++r)→Ev (fun n _=>bn_ n ⟨s,(p:Int),true,left⟩ (d:Int)) (x,⟨s,((p+(FEnc d x).length:Nat):Int),true,left - bE_ d x⟩)
 |0,_,x,h,p,r,left,_,_,_,_=>by simp only [bE_] at h;omega
 |d+1,hd,j,h,p,r,left,hst,hl,hl2,ha=>by
  have ih:=jW_ hs d (by omega)
  have ho:=(di_ h).1
  have ho2:=ed_ (d0_ h)
  have hsz:=(di_ h).2
  have hpos:=ng_ (d+1) j
  have hWl:W (left - 1)=left - 1:=W_id (by omega) (by omega)
  have hz:((((d+1:Nat):Int)) == 0)=false:=beq_eq_false_iff_ne.2 (by omega)
  have hlt:decide (left - 1<0)=false:=decide_eq_false (by omega)
  refine aI_ ?_
  simp only [bn_,bh_,hWl,hz,hlt,Bool.not_true,cond_false,ae_ dS_]
  have one:j.list=[]→left - 1=left - (bE_ (d+1) j:Int):=by
   intro e;rw [hsz,e];simp [ei_]
  rcases ho.kind with hk|hk|hk|hk|hk|hk
  · have e:FEnc (d+1) j=[110,117,108,108]:=by simp only [FEnc,hk,Int.reduceBEq,cond_true]
    have e3:=ho.list (by omega) (by omega)
    rw [←one e3]
    have ej:j=aa_.mk 0 0 [] [] []:=by
     have e1:=ho2.n0 (by omega) (by omega)
     have e2:=ho2.s0 (by omega)
     have e4:=ho2.ns0 (by omega)
     obtain ⟨k,n,s,l,ns⟩:=j
     simp only at e1 e2 e3 e4 hk
     subst e1 e2 e3 e4 hk;rfl
    rw [e] at ha ⊢
    have hpk:=dT_ (c:=110) (t:=[117,108,108]++r) ha
    have c1:(((110:UInt8).toNat:Int) == 110)=true:=rfl
    simp only [hpk,c1,cond_true,ae_ (hP_ (w:=[110,117,108,108]) hs (by simp) ha.le),mj_ ha,ai_]
    rw [ej]
  · have hb:=ho.bool hk
    have e2:=ho2.s0 (by omega)
    have e3:=ho.list (by omega) (by omega)
    have e4:=ho2.ns0 (by omega)
    rw [←one e3]
    obtain ⟨k,n,ss,l,ns⟩:=j
    simp only at e2 e3 e4 hk hb
    subst e2 e3 e4 hk
    have:n=0∨n=1:=by omega
    rcases this with rfl|rfl
    · have e:FEnc (d+1) (aa_.mk 1 0 [] [] [])=[102,97,108,115,101]:=rfl
      rw [e] at ha ⊢
      have hpk:=dT_ (c:=102) (t:=[97,108,115,101]++r) ha
      have c1:(((102:UInt8).toNat:Int) == 110)=false:=rfl
      have c2:(((102:UInt8).toNat:Int) == 116)=false:=rfl
      have c3:(((102:UInt8).toNat:Int) == 102)=true:=rfl
      simp only [hpk,c1,c2,c3,cond_true,cond_false,ae_ (hP_ (w:=[102,97,108,115,101]) hs (by simp) ha.le),mj_ ha,ai_]
    · have e:FEnc (d+1) (aa_.mk 1 1 [] [] [])=[116,114,117,101]:=rfl
      rw [e] at ha ⊢
      have hpk:=dT_ (c:=116) (t:=[114,117,101]++r) ha
      have c1:(((116:UInt8).toNat:Int) == 110)=false:=rfl
      have c2:(((116:UInt8).toNat:Int) == 116)=true:=rfl
      simp only [hpk,c1,c2,cond_true,cond_false,ae_ (hP_ (w:=[116,114,117,101]) hs (by simp) ha.le),mj_ ha,ai_]
  · have hn:=ho.num hk
    have e:FEnc (d+1) j=Lib.itoa j.n_:=by simp only [FEnc,hk,Int.reduceBEq,cond_true,cond_false]
    have e3:=ho.list (by omega) (by omega)
    rw [←one e3]
    rw [e] at ha ⊢
    have hN:=i0_ (left:=left - 1) hs hn.1 hn.2 hst ha
    have ej:aa_.mk 2 j.n_ [] [] []=j:=by
     have e2:=ho2.s0 (by omega)
     have e4:=ho2.ns0 (by omega)
     obtain ⟨k,n,s,l,ns⟩:=j
     simp only at e2 e3 e4 hk
     subst e2 e3 e4 hk;rfl
    obtain ⟨c,t,ec,hc⟩:=fM_ j.n_
    have hpk:g2_ s p=(c.toNat:Int):=by
     rw [ec] at ha
     exact dT_ (t:=t++r) ha
    have ne:∀ x:Int,(x<45∨x=46∨57<x)→((c.toNat:Int) == x)=false:=by
     intro x hx
     refine beq_eq_false_iff_ne.2 ?_
     rcases hc with rfl|hc
     · show (45:Int)≠x;omega
     · unfold ey_ at hc;omega
    simp only [hpk,ne 110 (by decide),ne 116 (by decide),ne 102 (by decide),ne 34 (by decide),ne 91 (by decide),ne 123 (by decide),cond_false,ae_ hN,ai_,ej]
  · have ht:=ho2.text hk
    have e:FEnc (d+1) j=do_ j.s:=by simp only [FEnc,hk,Int.reduceBEq,cond_true,cond_false]
    have e3:=ho.list (by omega) (by omega)
    rw [←one e3]
    rw [e] at ha ⊢
    have hq:=iY_ (left:=left - 1) hs ha
    have ej:aa_.mk 3 0 j.s [] []=j:=by
     have e2:=ho2.n0 (by omega) (by omega)
     have e4:=ho2.ns0 (by omega)
     obtain ⟨k,n,s,l,ns⟩:=j
     simp only at e2 e3 e4 hk
     subst e2 e3 e4 hk;rfl
    have hpk:g2_ s p=((34:UInt8).toNat:Int):=dT_ (c:=34) (t:=j.s.flatMap eO_++[34]++r) (by
     have:do_ j.s++r=34::(j.s.flatMap eO_++[34]++r):=by simp [do_]
     rw [←this];exact ha)
    have c1:(((34:UInt8).toNat:Int) == 110)=false:=rfl
    have c2:(((34:UInt8).toNat:Int) == 116)=false:=rfl
    have c3:(((34:UInt8).toNat:Int) == 102)=false:=rfl
    have c4:(((34:UInt8).toNat:Int) == 34)=true:=rfl
    simp only [hpk,c1,c2,c3,c4,cond_true,cond_false,ae_ hq,ai_,ej]
  · have e:FEnc (d+1) j=[91]++dG_ (FEnc d) j j.list.length++[93]:=by simp only [FEnc,hk,Int.reduceBEq,cond_true,cond_false]
    have e1:FEnc (d+1) j++r=91::(dG_ (FEnc d) j j.list.length++93::r):=by rw [e];simp
    have e2:p+(FEnc (d+1) j).length=p+1+(dG_ (FEnc d) j j.list.length).length+1:=by rw [e];simp;omega
    rw [e1] at ha
    rw [e2]
    have hP:=oy_ hs (by omega) h (.inl hk) ih 91 93 ⟨fun _=>⟨rfl,rfl⟩,fun h=>by omega⟩ r p (left - 1) (by omega) (by omega) ha
    rw [lQ_ h (.inl hk),show left - 1 - (ei_ (bE_ d) j.list:Int)=left - (bE_ (d+1) j:Int) by rw [hsz];omega] at hP
    have hpk:=dT_ ha
    have c1:(((91:UInt8).toNat:Int) == 110)=false:=rfl
    have c2:(((91:UInt8).toNat:Int) == 116)=false:=rfl
    have c3:(((91:UInt8).toNat:Int) == 102)=false:=rfl
    have c4:(((91:UInt8).toNat:Int) == 34)=false:=rfl
    have c5:(((91:UInt8).toNat:Int) == 91)=true:=rfl
    simp only [hpk,c1,c2,c3,c4,c5,cond_true,cond_false,ae_ hP,ai_]
  · have e:FEnc (d+1) j=[123]++dG_ (FEnc d) j j.list.length++[125]:=by simp only [FEnc,hk,Int.reduceBEq,cond_true,cond_false]
    have e1:FEnc (d+1) j++r=123::(dG_ (FEnc d) j j.list.length++125::r):=by rw [e];simp
    have e2:p+(FEnc (d+1) j).length=p+1+(dG_ (FEnc d) j j.list.length).length+1:=by rw [e];simp;omega
    rw [e1] at ha
    rw [e2]
    have hP:=oy_ hs (by omega) h (.inr hk) ih 123 125 ⟨fun h=>by omega,fun _=>⟨rfl,rfl⟩⟩ r p (left - 1) (by omega) (by omega) ha
    rw [lQ_ h (.inr hk),show left - 1 - (ei_ (bE_ d) j.list:Int)=left - (bE_ (d+1) j:Int) by rw [hsz];omega] at hP
    have hpk:=dT_ ha
    have c1:(((123:UInt8).toNat:Int) == 110)=false:=rfl
    have c2:(((123:UInt8).toNat:Int) == 116)=false:=rfl
    have c3:(((123:UInt8).toNat:Int) == 102)=false:=rfl
    have c4:(((123:UInt8).toNat:Int) == 34)=false:=rfl
    have c5:(((123:UInt8).toNat:Int) == 91)=false:=rfl
    have c6:(((123:UInt8).toNat:Int) == 123)=true:=rfl
    simp only [hpk,c1,c2,c3,c4,c5,c6,cond_true,cond_false,ae_ hP,ai_]
end Go.Pi
end
section
namespace Go.Pi
theorem kp_ {a b:List Bs} (ha:a.length≤cY_):Ev (fun n _=>am_ n a b) (hM_ a b):=by
 refine aI_ ?_
 simp only [am_,ne_len,aE_,ai_]
 unfold hM_
 by_cases hl:a.length=b.length
 · rw [decide_eq_true hl]
   refine ⟨fun h=>(by cases h),fun _ => ?_⟩
   refine js_ (hs_ (fun n N i=>am_.loop6 n (some true) N a b (a.length:Int) (i:Int)) (fun i=>a.getD i [] == b.getD i []) (len:=a.length) (v:=true) (fun i w hi ih => ?_) ?_) (by rw [Bool.and_true,Bool.true_and])
   · simp only [am_.turn6,am_.step6,Int.toNat_natCast,W_up hi ha,aE_,b7_,ai_,eA_ ih,dm_ hi,da_ hi,da_ (hl ▸ hi)]
     cases (a.getD i [] == b.getD i [])<;>simp
   · simp only [am_.turn6,am_.step6,dh_,cond_false,ai_]
 · rw [decide_eq_false hl]
   exact ⟨fun _=>rfl,fun h=>(by cases h)⟩
theorem f4_:∀ (d:Nat) (a b:aa_),pN_ d a→fg_ d a→Ev (fun n _=>cC_ n a b) (ef_ d a b)
 |0,a,b,h,_=>h.elim
 |d+1,a,b,h,hl=>by
  refine aI_ ?_
  have hE:Ev (fun n _=>ab_ n a.list b.list) (decide (a.list.length=b.list.length)&&nX_ (fun i=>ef_ d (a.list.getD i aa_.dflt) (b.list.getD i aa_.dflt)) a.list.length):=by
   refine aI_ ?_
   simp only [ab_,ne_len,aE_,ai_]
   by_cases hq:a.list.length=b.list.length
   · rw [decide_eq_true hq]
     refine ⟨fun h=>(by cases h),fun _ => ?_⟩
     refine js_ (hs_ (fun n N i=>ab_.loop6 n (cC_ n) (some true) N b.list a.list (a.list.length:Int) (i:Int)) (fun i=>ef_ d (a.list.getD i aa_.dflt) (b.list.getD i aa_.dflt)) (len:=a.list.length) (v:=true) (fun i w hi ih => ?_) ?_) (by rw [Bool.and_true,Bool.true_and])
     · have hx:=f4_ d (a.list.getD i aa_.dflt) (b.list.getD i aa_.dflt) (h _ (cO_ _ hi)) (hl.2.2 _ (cO_ _ hi))
       simp only [ab_.turn6,ab_.step6,bh_,Int.toNat_natCast,W_up hi hl.2.1,aE_,b7_,ae_ hx,ai_,eA_ ih,dm_ hi,da_ hi,da_ (hq ▸ hi)]
       cases ef_ d (a.list.getD i aa_.dflt) (b.list.getD i aa_.dflt)<;>simp
     · simp only [ab_.turn6,ab_.step6,dh_,cond_false,ai_]
   · rw [decide_eq_false hq]
     exact ⟨fun _=>rfl,fun h=>(by cases h)⟩
  simp only [cC_,aE_,ae_ (kp_ (b:=b.names) hl.1.2.1),ae_ hE,ai_,ef_]
  cases (a.kind == b.kind)<;>cases (a.n_ == b.n_)<;>cases (a.s == b.s)<;>cases hM_ a.names b.names<;>simp
end Go.Pi
end
section
namespace Go.Pi
def fQ_ (a b:aa_):Bool:=co_ a&&(co_ b&&ef_ 6 a b)
theorem gn_ {a b:aa_} (ha:fg_ 6 a) (hb:fg_ 6 b):Ev (fun n _=>cl_ n a b) (fQ_ a b):=by
 refine aI_ ?_
 simp only [cl_,bh_,ae_ (dq_ ha),ae_ (dq_ hb),aE_,ai_,fQ_]
 cases h1:co_ a with
 |false=>simp
 |true=>
  have hd:pN_ 6 a:=eH_ 6 a (of_decide_eq_true h1)
  simp only [ae_ (f4_ 6 a b hd ha),ai_]
  cases co_ b<;>simp
theorem gl_ {a b:aa_} (ha:fg_ 6 a) (hb:fg_ 6 b):Ev (fun n _=>ch_ n a b) (fQ_ a b):=by
 refine aI_ ?_
 simp only [ch_,bh_,ae_ (dp_ ha),ae_ (dp_ hb),aE_,ai_,fQ_]
 cases h1:co_ a with
 |false=>simp
 |true=>
  have hd:pN_ 6 a:=eH_ 6 a (of_decide_eq_true h1)
  simp only [ae_ (eb_ 6 a b hd ha),ai_]
  cases co_ b<;>simp
end Go.Pi
end
section
namespace Go.Pi
theorem ej_ {d:Nat} {j:aa_} (h:bE_ (d+1) j≤400) {x:aa_} (hx:x ∈ j.list):bE_ d x≤400:=by
 have:=(di_ h).2
 have:=gv_ (bE_ d) hx
 omega
theorem cI_:∀ (d:Nat) (j:aa_),bE_ d j≤400→fg_ d j
 |0,_,_=>trivial
 |d+1,j,h=>by
  have ho:=(di_ h).1
  have ho2:=ed_ (d0_ h)
  have hll:=d6_ h
  have hnl:=eQ_ h
  refine ⟨⟨?_,by simp only [cY_];omega,fun x hx => ?_⟩,by simp only [cY_];omega,fun x hx=>cI_ d x (ej_ h hx)⟩
  · by_cases hk:j.kind=3
    · have:=g1_ (ho2.text hk);simp only [cY_];omega
    · rw [ho2.s0 hk];exact Nat.zero_le _
  · by_cases hk:j.kind=5
    · obtain ⟨i,hi,e⟩:=List.getElem_of_mem hx
      have:=hh_ (ho.obj hk).2 hi
      rw [List.getD_eq_getElem?_getD,List.getElem?_eq_getElem hi,Option.getD_some,e] at this
      simp only [cY_];omega
    · rw [ho2.ns0 hk] at hx;cases hx
theorem kJ_ {α:Type} {f g:α→Nat}:∀ {l:List α},(∀ x ∈ l,f x=g x)→ei_ f l=ei_ g l
 |[],_=>rfl
 |x::l,h=>by
  simp only [ei_]
  rw [h x (List.mem_cons_self ..),kJ_ fun y hy=>h y (List.mem_cons_of_mem _ hy)]
theorem jw_:∀ (d:Nat) (j:aa_),bE_ d j≤400→bE_ (d+1) j=bE_ d j
 |0,j,h=>by simp only [bE_] at h;omega
 |d+1,j,h=>by
  have hs:=(di_ h).2
  have ho:=d0_ h
  have e:ei_ (bE_ (d+1)) j.list=ei_ (bE_ d) j.list:=kJ_ fun x hx=>jw_ d x (ej_ h hx)
  rw [bE_,ho,cond_true,e,←hs];omega
theorem dQ_:bE_ 6 e6_≤400:=by decide
theorem ht_ {j:aa_} (h:bQ_ j≠[]):bE_ 6 j≤400∧bQ_ j=FEnc 6 j∧(FEnc 6 j).length≤6000:=by
 unfold bQ_ at h ⊢
 cases hj:co_ j with
 |false=>rw [hj] at h;exact absurd rfl h
 |true=>
  rw [hj] at h
  simp only [cond_true] at h ⊢
  cases hl:decide (((FEnc 6 j).length:Int) > 6000) with
  |true=>rw [hl] at h;exact absurd rfl h
  |false=>have:=of_decide_eq_false hl;exact ⟨of_decide_eq_true hj,rfl,by omega⟩
theorem gQ_ {s:Bs} (hs:s.length≤4194304):Ans (fun n _=>cx_ n s) fun x=>bE_ 6 x.1≤400:=by
 refine c7_ ?_
 simp only [cx_,bh_,cc_,br_]
 refine ⟨fun _=>dQ_,fun _ => ?_⟩
 by_cases h0:s=[]
 · subst h0
   have hN:Ev (fun n _=>ah_ n ⟨[],false⟩) (aa_.mk 2 0 [] [] [],⟨[],true⟩):=by
    have hA:Ev (fun n _=>b4_ n []) (0,false):=iP_ (s:=[]) (by simp)
    refine aI_ ?_
    simp only [ah_]
    refine c5_ (f:=fun n N=>ah_.loop3 n (fun xy2 xy3 xy4 xy5 xy6 xy7=>(e9_ 0 xy2 xy3.length ((b4_ n ((xy3.take xy2.toNat).drop 0)).bind fun xr8=>(cond (!xr8.2) (e9_ xy2 (xy3.length:Int) xy3.length (some ((aa_.mk 2 xr8.1 [] ([]:List aa_) ([]:List Bs)),(aV_.mk ((xy3.take (xy3.length:Int).toNat).drop xy2.toNat) true)))) (e9_ xy2 (xy3.length:Int) xy3.length (some ((aa_.mk 2 xr8.1 [] ([]:List aa_) ([]:List Bs)),(aV_.mk ((xy3.take (xy3.length:Int).toNat).drop xy2.toNat) xy4)))))))) N 0 [] false 0 0 []) (bm_ ?_)
    have e0:(([]:Bs).take (0:Int).toNat).drop 0=[]:=rfl
    have c0:decide ((0:Int)<((([]:Bs).length:Nat):Int))=false:=rfl
    simp only [ah_.turn3,ah_.step3,c0,cond_false,e0,d4_,ae_ hA,Bool.not_false,cond_true,ai_]
    exact ⟨⟨by decide,by decide,by decide⟩,⟨by decide,by decide,by decide⟩,rfl⟩
   have hv:Ev (fun n _=>aN_ n ⟨[],false⟩ 6) (aa_.mk 2 0 [] [] [],⟨[],true⟩):=by
    have hd1:decide ((6:Int)<1)=false:=rfl
    refine aI_ ?_
    simp only [aN_,bh_,hd1,cond_false,ez_,ae_ f5_,take_nil,pfx_nil,ae_ hN,ai_]
   simp only [bj_ hv,cond_true,br_]
   exact dQ_
 · refine c6_ (mi_ 6 (by omega) ⟨s,false⟩ hs) fun v hv => ?_
   simp only [cc_,br_,bj_ (dF_ hv.2)]
   refine ⟨fun _=>dQ_,fun _=>⟨fun _=>dQ_,fun h => ?_⟩⟩
   have e:bQ_ v.1=s:=by simpa using h
   exact (ht_ (by rw [e];exact h0)).1
theorem gP_ {j:aa_} (h:bQ_ j≠[]):Ev (fun n _=>cx_ n (bQ_ j)) (j,true):=by
 obtain ⟨h1,h2,h3⟩:=ht_ h
 have hv:=mh_ 6 (by omega) j h1 [] lq_ (by rw [List.append_nil];omega)
 rw [List.append_nil,←h2] at hv
 have hv:Ev (fun n _=>aN_ n ⟨bQ_ j,false⟩ 6) (j,⟨[],false⟩):=hv
 have hE:=dF_ (cI_ 6 j h1)
 have hl:decide (((bQ_ j).length:Int) > 6000)=false:=by rw [h2];exact decide_eq_false (by omega)
 refine aI_ ?_
 simp only [cx_,bh_,hl,cond_false,ae_ hv,ae_ hE,beq_self_eq_true,Bool.not_true,ai_]
theorem jG_ {s:Bs} (hs:s.length≤4194304):Ans (fun n _=>cE_ n s) fun x=>bE_ 6 x.1≤400:=by
 refine c7_ ?_
 simp only [cE_,bh_,cc_,br_]
 refine ⟨fun _=>dQ_,fun h0=>⟨fun _=>dQ_,fun _ => ?_⟩⟩
 refine c6_ (jX_ (s:=s) hs 6 (by omega) 0 true 400 (Nat.zero_le _) (by omega) (by omega)) fun v hv => ?_
 obtain ⟨p',ok',left',e1,e2,e3,e4,e5,e6⟩:=hv
 simp only [cc_,br_,bj_ (dP_ e6)]
 refine ⟨fun _=>dQ_,fun _=>⟨fun _=>dQ_,fun _=>⟨fun _=>dQ_,fun h => ?_⟩⟩⟩
 have e:bQ_ v.1=s:=by simpa using h
 exact (ht_ (by rw [e];intro e;rw [e] at h0;cases h0)).1
theorem gA_ {j:aa_} (h:bQ_ j≠[]):Ev (fun n _=>cE_ n (bQ_ j)) (j,true):=by
 obtain ⟨h1,h2,h3⟩:=ht_ h
 have hsz:(bQ_ j).length≤6000:=by rw [h2];exact h3
 have hv:=jW_ (s:=bQ_ j) (by simp only [ih_];omega) 6 (by omega) j h1 0 [] 400 lq_ (by omega) (by omega) ⟨Nat.zero_le _,by rw [List.append_nil,←h2];rfl⟩
 have hv:Ev (fun n _=>bn_ n ⟨bQ_ j,0,true,400⟩ 6) (j,⟨bQ_ j,((0+(FEnc 6 j).length:Nat):Int),true,400 - bE_ 6 j⟩):=hv
 have hE:=dP_ (cI_ 6 j h1)
 have hl:decide (((bQ_ j).length:Int) > 6000)=false:=decide_eq_false (by omega)
 have hn:(bQ_ j == [])=false:=beq_eq_false_iff_ne.2 h
 have ha:(((0+(FEnc 6 j).length:Nat):Int) != ((bQ_ j).length:Int))=false:=by rw [h2];simp
 refine aI_ ?_
 simp only [cE_,bh_,hl,hn,cond_false,ae_ hv,ha,ae_ hE,beq_self_eq_true,Bool.not_true,ai_]
def FIdx (l:List Bs) (x:Bs):Int:=if l.findIdx (fun y=>y == x)<l.length then ((l.findIdx (fun y=>y == x):Nat):Int) else -1
theorem iT_ {j:aa_} {x:Bs} (h:j.names.length≤cY_):Ev (fun n _=>bI_ n j x) (FIdx j.names x):=by
 refine aI_ ?_
 unfold FIdx
 rw [←i3_ ([]:Bs) (fun y=>y == x) j.names]
 simp only [bI_]
 refine ev_fold (fun n N i=>bI_.loop3 n (some (-1)) N x (i:Int) j.kind j.n_ j.s j.list j.names) _ (fun i u hi ih => ?_) ?_
 · simp only [bI_.turn3,bI_.step3,Int.toNat_natCast,W_up hi h,aE_,b7_,ai_,eA_ ih,dm_ hi,da_ hi]
   cases (j.names.getD i [] == x)<;>simp
 · simp only [bI_.turn3,bI_.step3,dh_,cond_false,ai_]
theorem et_ {l:List Bs} {x:Bs} (h:l.length≤cY_):Ev (fun n _=>al_ n l x) (FIdx l x):=by
 refine aI_ ?_
 unfold FIdx
 rw [←i3_ ([]:Bs) (fun y=>y == x) l]
 simp only [al_]
 refine ev_fold (fun n N i=>al_.loop3 n (some (-1)) N l x (l.length:Int) (i:Int)) _ (fun i u hi ih => ?_) ?_
 · simp only [al_.turn3,al_.step3,Int.toNat_natCast,W_up hi h,aE_,b7_,ai_,eA_ ih,dm_ hi,da_ hi]
   rw [show (x == l.getD i [])=(l.getD i [] == x) from BEq.comm]
   cases (l.getD i [] == x)<;>simp
 · simp only [al_.turn3,al_.step3,dh_,cond_false,ai_]
def eZ_ (j:aa_) (x:Bs):aa_ × Bool:=if FIdx j.names x<0 then (e6_,false) else (j.list.getD (FIdx j.names x).toNat aa_.dflt,true)
theorem idx_lt {l:List Bs} {x:Bs} (h:¬ FIdx l x<0):0≤FIdx l x∧FIdx l x<(l.length:Int):=by
 unfold FIdx at h ⊢
 split at h
 · rename_i hl;rw [if_pos hl];omega
 · exact absurd (by decide) h
theorem lY_ {j:aa_} (h:bE_ 6 j≤400) {x:Bs} (hx:¬ FIdx j.names x<0):(FIdx j.names x).toNat<j.list.length∧j.kind=5:=by
 have hi:=idx_lt hx
 by_cases hk:j.kind=5
 · have:=((di_ h).1.obj hk).1;exact ⟨by omega,hk⟩
 · rw [(ed_ (d0_ h)).ns0 hk] at hi;simp at hi;omega
theorem fh_ {j:aa_} (h:bE_ 6 j≤400) (x:Bs):bE_ 6 (eZ_ j x).1≤400:=by
 unfold eZ_
 by_cases hx:FIdx j.names x<0
 · rw [if_pos hx];exact dQ_
 · rw [if_neg hx]
   have:=(eD_ h (lY_ h hx).1).size
   rw [jw_ 5 _ this];exact this
theorem e1_ {j:aa_} (h:bE_ 6 j≤400) {x:Bs}:Ev (fun n _=>cP_ n j x) (eZ_ j x):=by
 have hJ:=dp_ (cI_ 6 j h)
 have hn:=eQ_ h
 have hok:co_ j=true:=decide_eq_true h
 refine aI_ ?_
 simp only [cP_,bh_,ae_ (iT_ (j:=j) (x:=x) (by simp only [cY_];omega)),ae_ hJ,hok,Bool.not_true,cond_false,eZ_]
 by_cases hx:FIdx j.names x<0
 · rw [if_pos hx,decide_eq_true hx]
   simp only [cond_true,aE_,ai_]
   exact ⟨fun _=>rfl,fun _=>rfl⟩
 · obtain ⟨h1,h2⟩:=lY_ h hx
   have hi:=idx_lt hx
   have hC:=dz_ 5 (j.list.getD (FIdx j.names x).toNat aa_.dflt) (eD_ h h1).size
   have hk:(j.kind != 5)=false:=by rw [h2];rfl
   rw [if_neg hx,decide_eq_false hx,hk]
   simp only [cond_false,b7_,ae_ hC,ai_]
   exact ⟨by omega,trivial⟩
theorem h8_ {j:aa_} (h:bE_ 6 j≤400) {x:Bs}:Ev (fun n _=>cW_ n j x) (eZ_ j x):=by
 have hJ:=dq_ (cI_ 6 j h)
 have hn:=eQ_ h
 have hok:co_ j=true:=decide_eq_true h
 refine aI_ ?_
 simp only [cW_,bh_,ae_ (et_ (l:=j.names) (x:=x) (by simp only [cY_];omega)),ae_ hJ,hok,Bool.not_true,cond_false,eZ_]
 by_cases hx:FIdx j.names x<0
 · rw [if_pos hx,decide_eq_true hx]
   simp only [cond_true,ai_];rfl
 · obtain ⟨h1,h2⟩:=lY_ h hx
   have hi:=idx_lt hx
   have hC:=dx_ 5 (j.list.getD (FIdx j.names x).toNat aa_.dflt) (eD_ h h1).size
   rw [if_neg hx,decide_eq_false hx]
   simp only [cond_false,b7_,ae_ hC,ai_]
   exact ⟨by omega,trivial⟩
end Go.Pi
end
section
namespace Go.Pi
def FAt (j:aa_) (s:Bs):Int:=cond (j.kind == 5) (FIdx j.names s) (cond (j.kind == 4) (cond (decide (FPos s<(j.list.length:Int))) (FPos s) (-1)) (-1))
theorem idx_low (l:List Bs) (x:Bs) : -1≤FIdx l x∧FIdx l x<(l.length:Int):=by
 unfold FIdx
 split<;>omega
theorem iS_ {j:aa_} {s:Bs} (hn:j.names.length≤cY_):Ev (fun n _=>dd_ n j s) (FAt j s):=by
 refine aI_ ?_
 simp only [dd_,bh_,aE_,ae_ (iT_ (x:=s) hn),ae_ fc_,ai_,FAt]
 cases (j.kind == 5)<;>cases (j.kind == 4)<;>cases (decide (FPos s<(j.list.length:Int)))<;>simp
theorem j1_ {j:aa_} {s:Bs} (hn:j.names.length≤cY_) (he:j.kind=5→j.list.length=j.names.length) (hs:s.length≤281474976710656):Ev (fun n _=>cq_ n j s) (FAt j s):=by
 refine aI_ ?_
 simp only [cq_,bh_,aE_,ae_ (et_ (x:=s) hn),ae_ (gN_ hs),ai_,FAt]
 have h1:=idx_low j.names s
 refine ⟨fun h5 => ?_,fun h5=>⟨fun h4 => ?_,fun h4 => ?_⟩⟩
 · have hk:j.kind=5:=by simpa using h5
   have:=he hk
   rw [h5]
   exact ⟨fun h=>by have:=of_decide_eq_true h;omega,fun _=>rfl⟩
 · rw [h5,h4]
   refine ⟨fun h => ?_,fun h => ?_⟩
   · have:=of_decide_eq_true h
     rw [decide_eq_false (by omega)];rfl
   · have:=of_decide_eq_false h
     rw [decide_eq_true (by omega)];rfl
 · rw [h5,h4]
   exact ⟨fun _=>rfl,fun _=>rfl⟩
theorem jv_ (j:aa_) (s:Bs) (he:j.kind=5→j.list.length=j.names.length) : -1≤FAt j s∧FAt j s<(j.list.length:Int):=by
 have h1:=idx_low j.names s
 have h2:=jQ_ s
 unfold FAt
 cases h5:(j.kind == 5)
 · cases h4:(j.kind == 4)
   · simp;omega
   · simp only [cond_false,cond_true]
     cases hd:decide (FPos s<(j.list.length:Int))
     · simp;omega
     · have:=of_decide_eq_true hd
       simp only [cond_true];omega
 · have hk:j.kind=5:=by simpa using h5
   have:=he hk
   simp only [cond_true];omega
end Go.Pi
end
