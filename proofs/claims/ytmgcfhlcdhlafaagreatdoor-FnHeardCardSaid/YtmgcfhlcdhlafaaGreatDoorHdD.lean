/- FnHeard: what is cut off of a drawn text leaves whoever listens with what came ahead of it: a version that was, never a later one. No condition. Text 4 of 8. -/
import Derived.Test.YtmgcfhlcdhlafaaGreatDoorHdC
set_option linter.unusedVariables false
set_option maxRecDepth 100000
namespace Go.Pi
def gG_:Nat->(List Int)->Option Bool
 |0,_=>none
 |n+1,e9_=>
  (some (decide ((e9_.length:Int) > 1048576)))
abbrev ce_.K4:Type:=(List Int)->Int->Option am_
abbrev ce_.T4:Type:=(List Int)->Int->Int->Option am_
def ce_.step4 (n:Nat)(k0:ce_.K4)(back:ce_.T4):ce_.T4:=fun e9_ h i=>
 (cond (decide (i<(e9_.length:Int))) (cond (decide (i<4000)) (inB i e9_.length (let C1:Int:=(IntKind.i64.wrap (BitVec.ofInt (IntKind.bits .i64) (W ((W ((W (h*131))+(W ((e9_.getD i.toNat 0)))))+7)) &&& BitVec.ofInt (IntKind.bits .i64) 1073741823).toNat);(back e9_ C1 (W (i+1))))) (k0 e9_ h)) (k0 e9_ h))
def ce_.loop4 (n:Nat)(k0:ce_.K4)(N:Nat):ce_.T4:=cw_ (fun _ _ _=>none) (ce_.step4 n k0) N
def ce_:Nat->(List Int)->Option am_
 |0,_=>none
 |n+1,e9_=>
  (ce_.loop4 n (fun B2 B3=>(some (am_.mk B2 0 B3))) n e9_ (W (17333+(e9_.length:Int))) 0)
def dI_:Nat->am_->Option (Int×am_)
 |0,_=>none
 |n+1,c=>
  (let C1:Int:=(Int.fdiv (W ((W (c.h*6364136223846793005))+1442695040888963407)) (2 ^ min (33:Int).toNat (IntKind.bits .i64)));(let C2:Int:=(Int.fdiv (W ((W (c.h*6364136223846793005))+1442695040888963407)) (2 ^ min (45:Int).toNat (IntKind.bits .i64)));(let C3:Int:=(IntKind.i64.wrap (BitVec.ofInt (IntKind.bits .i64) C1 ^^^ BitVec.ofInt (IntKind.bits .i64) C2).toNat);(let C4:Int:=(IntKind.i64.wrap (BitVec.ofInt (IntKind.bits .i64) C3 &&& BitVec.ofInt (IntKind.bits .i64) 255).toNat);(cond (decide (c.i<(c.b.length:Int))) (inB c.i c.b.length (let C5:Int:=(IntKind.i64.wrap (BitVec.ofInt (IntKind.bits .i64) (W (C4+(W ((c.b.getD c.i.toNat 0))))) &&& BitVec.ofInt (IntKind.bits .i64) 255).toNat);(some (C5,(am_.mk c.b (W (c.i+1)) (W ((W (c.h*6364136223846793005))+1442695040888963407))))))) (some (C4,(am_.mk c.b c.i (W ((W (c.h*6364136223846793005))+1442695040888963407))))))))))
def ap_:Nat->am_->Int->Option (Int×am_)
 |0,_,_=>none
 |n+1,c,n1=>
  (cond (decide (n1<=0)) (some (0,c)) (cond (decide (n1<=256)) ((dI_ n c).bind fun A1=>(cond (decide (n1=0)) none (some ((Int.tmod A1.1 n1),A1.2)))) ((dI_ n c).bind fun A2=>((dI_ n A2.2).bind fun A3=>((dI_ n A3.2).bind fun A4=>((dI_ n A4.2).bind fun A5=>(let C6:Int:=(W ((W ((W (A2.1*16777216))+(W (A3.1*65536))))+(W (A4.1*256))));(cond (decide (n1=0)) none (some ((Int.tmod (W (C6+A5.1)) n1),A5.2))))))))))
abbrev aK_.K4:Type:=(List Int)->Int->Int->(List Int)->Option (a7_×am_)
abbrev aK_.T4:Type:=Int->(List Int)->Int->Int->(List Int)->Option (a7_×am_)
def aK_.step4 (n:Nat)(k0:aK_.K4)(back:aK_.T4):aK_.T4:=fun i c0 c1 c2 s0=>
 ((ap_ n (am_.mk c0 c1 c2) 3).bind fun A1=>(cond (decide (i<(W (1+A1.1)))) ((ap_ n A1.2 4).bind fun A2=>(bj_ (s0.length+([(W (1+A2.1))]:List Int).length) 8 (back (W (i+1)) A2.2.b A2.2.i A2.2.h (s0++([(W (1+A2.1))]:List Int))))) (k0 A1.2.b A1.2.i A1.2.h s0)))
def aK_.loop4 (n:Nat)(k0:aK_.K4)(N:Nat):aK_.T4:=cw_ (fun _ _ _ _ _=>none) (aK_.step4 n k0) N
def aK_:Nat->am_->Option (a7_×am_)
 |0,_=>none
 |n+1,c=>
  (aK_.loop4 n (fun B3 B4 B5 B6=>(some ((a7_.mk B6),(am_.mk B3 B4 B5)))) n 0 c.b c.i c.h ([]:List Int))
def b4_:Nat->Int->Int->Int->Option Bool
 |0,_,_,_=>none
 |n+1,x,lo,hi=>
  (cond (decide (x>=lo)) (some (decide (x<=hi))) (some false))
abbrev a1_.K3:Type:=(List Int)->Option Bool
abbrev a1_.T3:Type:=Int->(List Int)->Option Bool
def a1_.step3 (n:Nat)(k0:a1_.K3)(back:a1_.T3):a1_.T3:=fun i s0=>
 (cond (decide (i<(s0.length:Int))) (inB i s0.length ((b4_ n (s0.getD i.toNat 0) 1 4).bind fun A1=>(cond (!A1) (some false) (back (W (i+1)) s0)))) (k0 s0))
def a1_.loop3 (n:Nat)(k0:a1_.K3)(N:Nat):a1_.T3:=cw_ (fun _ _=>none) (a1_.step3 n k0) N
def a1_:Nat->a7_->Option Bool
 |0,_=>none
 |n+1,s=>
  (a1_.loop3 n (fun B2=>((b4_ n (B2.length:Int) 1 3).bind fun A3=>(some A3))) n 0 s.cols)
def dN_:Nat->a7_->Option a7_
 |0,_=>none
 |n+1,s=>
  (bj_ (([]:List Int).length+s.cols.length) 8 (some (a7_.mk (([]:List Int)++s.cols))))
def d8_:Nat->a7_->Option (aA_×Bool)
 |0,_=>none
 |n+1,s=>
  ((a1_ n s).bind fun A1=>(cond (!A1) (some ((aA_.mk (a7_.mk ([]:List Int)) 0 ([]:List (List TRow))),false)) ((dN_ n s).bind fun A2=>(cond (decide ((s.cols.length:Int)=(s.cols.length:Int))) (cond (decide (0<=(s.cols.length:Int))) (cond (decide ((s.cols.length:Int)*24<=140737488355328)) (some ((aA_.mk A2 0 (List.replicate (s.cols.length:Int).toNat [])),true)) none) none) none))))
abbrev a5_.K4:Type:=(List Int)->Int->Int->Int->Int->(List Int)->Option (TRow×am_)
abbrev a5_.T4:Type:=Int->Int->(List Int)->Int->Int->Int->Int->(List Int)->Option (TRow×am_)
def a5_.step4 (n:Nat)(k0:a5_.K4)(back:a5_.T4):a5_.T4:=fun cols i c0 c1 c2 t40 r0 r1=>
 (cond (decide (i<cols)) ((ap_ n (am_.mk c0 c1 c2) 6).bind fun A2=>(bj_ (r1.length+([A2.1]:List Int).length) 8 (back cols (W (i+1)) A2.2.b A2.2.i A2.2.h t40 r0 (r1++([A2.1]:List Int))))) (k0 c0 c1 c2 t40 r0 r1))
def a5_.loop4 (n:Nat)(k0:a5_.K4)(N:Nat):a5_.T4:=cw_ (fun _ _ _ _ _ _ _ _=>none) (a5_.step4 n k0) N
def a5_:Nat->am_->Int->Option (TRow×am_)
 |0,_,_=>none
 |n+1,c,cols=>
  ((ap_ n c 12).bind fun A1=>(a5_.loop4 n (fun B3 B4 B5 B6 B7 B8=>(some ((TRow.mk B7 B8),(am_.mk B3 B4 B5)))) n cols 0 A1.2.b A1.2.i A1.2.h 0 (W (1+A1.1)) ([]:List Int)))
abbrev cf_.T3:Type:=(List TRow)->Int->Int->Option Int
def cf_.step3 (n:Nat)(k0:Option Int)(back:cf_.T3):cf_.T3:=fun rows id_1 i=>
 (cond (decide (i<(rows.length:Int))) (inB i rows.length (cond (((rows.getD i.toNat TRow.dflt).id_)==id_1) (some i) (back rows id_1 (W (i+1))))) k0)
def cf_.loop3 (n:Nat)(k0:Option Int)(N:Nat):cf_.T3:=cw_ (fun _ _ _=>none) (cf_.step3 n k0) N
def cf_:Nat->(List TRow)->Int->Option Int
 |0,_,_=>none
 |n+1,rows,id1=>
  (cf_.loop3 n (some (-1)) n rows id1 0)
def cB_:Nat->TRow->Option TRow
 |0,_=>none
 |n+1,r=>
  (bj_ (([]:List Int).length+r.cells.length) 8 (some (TRow.mk r.id_ (([]:List Int)++r.cells))))
abbrev bh_.K5:Type:=(List TRow)->Option (List TRow)
abbrev bh_.T5:Type:=(List TRow)->Int->Int->(List TRow)->Option (List TRow)
def bh_.step5 (n:Nat)(k0:bh_.K5)(back:bh_.T5):bh_.T5:=fun rows at_1 i out_1=>
 (cond (decide (i<(rows.length:Int))) (cond (i != at_1) (inB i rows.length ((cB_ n (rows.getD i.toNat TRow.dflt)).bind fun A2=>(bj_ (out_1.length+([A2]:List TRow).length) 32 (back rows at_1 (W (i+1)) (out_1++([A2]:List TRow)))))) (back rows at_1 (W (i+1)) out_1)) (k0 out_1))
def bh_.loop5 (n:Nat)(k0:bh_.K5)(N:Nat):bh_.T5:=cw_ (fun _ _ _ _=>none) (bh_.step5 n k0) N
def bh_:Nat->(List TRow)->Int->Option (List TRow)
 |0,_,_=>none
 |n+1,rows,id1=>
  ((cf_ n rows id1).bind fun A1=>(bh_.loop5 n (fun B3=>(some B3)) n rows A1 0 ([]:List TRow)))
abbrev bG_.K6:Type:=Int->Int->(List Int)->(List TRow)->Option (List TRow)
abbrev bG_.T6:Type:=Int->Int->Int->(List Int)->(List TRow)->Option (List TRow)
def bG_.step6 (n:Nat)(k0:bG_.K6)(back:bG_.T6):bG_.T6:=fun at_1 i r0 r1 out_1=>
 (cond (decide (i>=0)) (inB i out_1.length (cond (decide (((out_1.getD i.toNat TRow.dflt).id_) > r0)) (back i (W (i - 1)) r0 r1 out_1) (back at_1 (W (i - 1)) r0 r1 out_1))) (k0 at_1 r0 r1 out_1))
def bG_.loop6 (n:Nat)(k0:bG_.K6)(N:Nat):bG_.T6:=cw_ (fun _ _ _ _ _=>none) (bG_.step6 n k0) N
def bG_:Nat->(List TRow)->TRow->Option (List TRow)
 |0,_,_=>none
 |n+1,rows,r=>
  ((bh_ n rows r.id_).bind fun A1=>((cf_ n rows r.id_).bind fun A2=>(cond (decide (A2>=0)) ((cf_ n rows r.id_).bind fun A3=>(fF_ 0 A3 A1.length (bj_ (([]:List TRow).length+((A1.take A3.toNat).drop 0).length) 32 ((cB_ n r).bind fun A4=>(bj_ ((([]:List TRow)++((A1.take A3.toNat).drop 0)).length+([A4]:List TRow).length) 32 (fF_ A3 (A1.length:Int) A1.length (bj_ (((([]:List TRow)++((A1.take A3.toNat).drop 0))++([A4]:List TRow)).length+((A1.take ((A1.length:Int).toNat)).drop A3.toNat).length) 32 (some (((([]:List TRow)++((A1.take A3.toNat).drop 0))++([A4]:List TRow))++((A1.take ((A1.length:Int).toNat)).drop A3.toNat)))))))))) (bG_.loop6 n (fun B5 B6 B7 B8=>(fF_ 0 B5 B8.length (bj_ (([]:List TRow).length+((B8.take B5.toNat).drop 0).length) 32 ((cB_ n (TRow.mk B6 B7)).bind fun A9=>(bj_ ((([]:List TRow)++((B8.take B5.toNat).drop 0)).length+([A9]:List TRow).length) 32 (fF_ B5 (B8.length:Int) B8.length (bj_ (((([]:List TRow)++((B8.take B5.toNat).drop 0))++([A9]:List TRow)).length+((B8.take ((B8.length:Int).toNat)).drop B5.toNat).length) 32 (some (((([]:List TRow)++((B8.take B5.toNat).drop 0))++([A9]:List TRow))++((B8.take ((B8.length:Int).toNat)).drop B5.toNat)))))))))) n (A1.length:Int) (W ((A1.length:Int) - 1)) r.id_ r.cells A1))))
abbrev aZ_.K4:Type:=(List Int)->Int->Int->(List TRow)->Option ((List TRow)×am_)
abbrev aZ_.T4:Type:=Int->Int->(List Int)->Int->Int->(List TRow)->Option ((List TRow)×am_)
def aZ_.step4 (n:Nat)(k0:aZ_.K4)(back:aZ_.T4):aZ_.T4:=fun cols i c0 c1 c2 out_1=>
 ((ap_ n (am_.mk c0 c1 c2) 9).bind fun A1=>(cond (decide (i<A1.1)) ((a5_ n A1.2 cols).bind fun A2=>((bG_ n out_1 A2.1).bind fun A3=>(back cols (W (i+1)) A2.2.b A2.2.i A2.2.h A3))) (k0 A1.2.b A1.2.i A1.2.h out_1)))
def aZ_.loop4 (n:Nat)(k0:aZ_.K4)(N:Nat):aZ_.T4:=cw_ (fun _ _ _ _ _ _=>none) (aZ_.step4 n k0) N
def aZ_:Nat->am_->Int->Option ((List TRow)×am_)
 |0,_,_=>none
 |n+1,c,cols=>
  (aZ_.loop4 n (fun B4 B5 B6 B7=>(some (B7,(am_.mk B4 B5 B6)))) n cols 0 c.b c.i c.h ([]:List TRow))
abbrev aP_.K4:Type:=(List Int)->Int->Int->Int->Int->(List Int)->(List (List TRow))->Option (aA_×am_)
abbrev aP_.T4:Type:=Int->(List Int)->Int->Int->Int->Int->(List Int)->(List (List TRow))->Option (aA_×am_)
def aP_.step4 (n:Nat)(k0:aP_.K4)(back:aP_.T4):aP_.T4:=fun t c0 c1 c2 t21 s1 s0 s2=>
 (cond (decide (t<(s2.length:Int))) (inB t s0.length ((aZ_ n (am_.mk c0 c1 c2) (s0.getD t.toNat 0)).bind fun A3=>(inB t s2.length (let D4:List (List TRow):=s2.set t.toNat A3.1;(back (W (t+1)) A3.2.b A3.2.i A3.2.h t21 s1 s0 D4))))) (k0 c0 c1 c2 t21 s1 s0 s2))
def aP_.loop4 (n:Nat)(k0:aP_.K4)(N:Nat):aP_.T4:=cw_ (fun _ _ _ _ _ _ _ _=>none) (aP_.step4 n k0) N
def aP_:Nat->am_->Option (aA_×am_)
 |0,_=>none
 |n+1,c=>
  ((aK_ n c).bind fun A1=>((d8_ n A1.1).bind fun A2=>(aP_.loop4 n (fun B5 B6 B7 B8 B9 B10 B11=>((ap_ n (am_.mk B5 B6 B7) 5).bind fun A12=>(some ((aA_.mk (a7_.mk B10) A12.1 B11),A12.2)))) n 0 A1.2.b A1.2.i A1.2.h 0 A2.1.version A2.1.schema.cols A2.1.tables)))
def cT_:Nat->Int->Int->Option Int
 |0,_,_=>none
 |n+1,a,b=>
  (cond (decide (a > b)) (some a) (some b))
def cV_:Nat->am_->Int->Option (Bool×am_)
 |0,_,_=>none
 |n+1,c,n1=>
  ((ap_ n c n1).bind fun A1=>(some ((A1.1==0),A1.2)))
def b8_:Nat->am_->(List Int)->Option (Int×am_)
 |0,_,_=>none
 |n+1,c,list=>
  ((ap_ n c (list.length:Int)).bind fun A1=>(inB A1.1 list.length (some ((list.getD A1.1.toNat 0),A1.2))))
abbrev ah_.K7:Type:=Int->(List Int)->Int->Int->(List Int)->Int->Int->Bool->Int->Bool->Int->Int->Int->Int->Bool->Int->Bool->Int->Int->(List ci_)->Option (ax_×am_)
abbrev ah_.T7:Type:=Int->Int->(List Int)->Int->Int->(List Int)->Int->Int->Bool->Int->Bool->Int->Int->Int->Int->Bool->Int->Bool->Int->Int->(List ci_)->Option (ax_×am_)
def ah_.step7 (n:Nat)(k0:ah_.K7)(back:ah_.T7):ah_.T7:=fun t6 t7 o0 o1 o2 t30 t40 t42 t43 t44 t46 t47 t48 t50 t52 t53 t54 t56 t57 t58 t51=>
 ((ap_ n (am_.mk o0 o1 o2) 3).bind fun A4=>(cond (decide (t7<A4.1)) ((ap_ n A4.2 t6).bind fun A5=>((ap_ n A5.2 4).bind fun A6=>((ap_ n A6.2 6).bind fun A7=>(bj_ (t51.length+([(ci_.mk A5.1 (W (1+A6.1)) A7.1)]:List ci_).length) 24 (back t6 (W (t7+1)) A7.2.b A7.2.i A7.2.h t30 t40 t42 t43 t44 t46 t47 t48 t50 t52 t53 t54 t56 t57 t58 (t51++([(ci_.mk A5.1 (W (1+A6.1)) A7.1)]:List ci_))))))) (k0 t6 A4.2.b A4.2.i A4.2.h t30 t40 t42 t43 t44 t46 t47 t48 t50 t52 t53 t54 t56 t57 t58 t51)))
def ah_.loop7 (n:Nat)(k0:ah_.K7)(N:Nat):ah_.T7:=cw_ (fun _ _ _ _ _ _ _ _ _ _ _ _ _ _ _ _ _ _ _ _ _=>none) (ah_.step7 n k0) N
abbrev ah_.K16:Type:=(List Int)->Int->Int->(List Int)->Int->Int->Bool->Int->Bool->Int->Int->Int->Int->Bool->Int->Bool->Int->Int->(List ci_)->(List Int)->Option (ax_×am_)
abbrev ah_.T16:Type:=Int->Int->(List Int)->Int->Int->(List Int)->Int->Int->Bool->Int->Bool->Int->Int->Int->Int->Bool->Int->Bool->Int->Int->(List ci_)->(List Int)->Option (ax_×am_)
def ah_.step16 (n:Nat)(k2:ah_.K16)(back:ah_.T16):ah_.T16:=fun t6 t8 o0 o1 o2 t30 t40 t42 t43 t44 t46 t47 t48 t50 t52 t53 t54 t56 t57 t58 t51 t55=>
 (cond (decide (t8<t6)) ((cV_ n (am_.mk o0 o1 o2) 2).bind fun A31=>(cond A31.1 (bj_ (t55.length+([t8]:List Int).length) 8 (back t6 (W (t8+1)) A31.2.b A31.2.i A31.2.h t30 t40 t42 t43 t44 t46 t47 t48 t50 t52 t53 t54 t56 t57 t58 t51 (t55++([t8]:List Int)))) (back t6 (W (t8+1)) A31.2.b A31.2.i A31.2.h t30 t40 t42 t43 t44 t46 t47 t48 t50 t52 t53 t54 t56 t57 t58 t51 t55))) (k2 o0 o1 o2 t30 t40 t42 t43 t44 t46 t47 t48 t50 t52 t53 t54 t56 t57 t58 t51 t55))
def ah_.loop16 (n:Nat)(k2:ah_.K16)(N:Nat):ah_.T16:=cw_ (fun _ _ _ _ _ _ _ _ _ _ _ _ _ _ _ _ _ _ _ _ _ _=>none) (ah_.step16 n k2) N
def ah_:Nat->am_->a7_->Option (ax_×am_)
 |0,_,_=>none
 |n+1,o,append=>
  ((cT_ n (append.cols.length:Int) 1).bind fun A1=>((ap_ n o A1).bind fun A2=>(cond (decide (A2.1<(append.cols.length:Int))) (inB A2.1 append.cols.length ((cT_ n (append.cols.getD A2.1.toNat 0) 1).bind fun A3=>(ah_.loop7 n (fun B8 B9 B10 B11 B12 B13 B14 B15 B16 B17 B18 B19 B20 B21 B22 B23 B24 B25 B26 B27=>((ap_ n (am_.mk B9 B10 B11) (W (B8+1))).bind fun A28=>(cond (decide (A28.1 > 0)) ((cV_ n A28.2 2).bind fun A29=>((b8_ n A29.2 ([0,0,1,2,3,5]:List Int)).bind fun A30=>(ah_.loop16 n (fun B32 B33 B34 B35 B36 B37 B38 B39 B40 B41 B42 B43 B44 B45 B46 B47 B48 B49 B50 B51=>((cV_ n (am_.mk B32 B33 B34) 2).bind fun A52=>(cond A52.1 ((cT_ n (B35.length:Int) 1).bind fun A53=>((ap_ n A52.2 A53).bind fun A54=>(cond (decide (A54.1<(B35.length:Int))) (inB A54.1 B35.length ((cT_ n (B35.getD A54.1.toNat 0) 1).bind fun A55=>((ap_ n A54.2 A55).bind fun A56=>(some ((ax_.mk B43 B50 B44 B45 B46 B51 true A54.1 A56.1),A56.2))))) (some ((ax_.mk B43 B50 B44 B45 B46 B51 true A54.1 B49),A54.2))))) (some ((ax_.mk B43 B50 B44 B45 B46 B51 B47 B48 B49),A52.2))))) n B8 0 A30.2.b A30.2.i A30.2.h B12 B13 B14 B15 B16 B17 B18 B19 B20 A28.1 A29.1 A30.1 B24 B25 B26 B27 ([]:List Int)))) ((b8_ n A28.2 ([0,0,1,2,3,5]:List Int)).bind fun A57=>(ah_.loop16 n (fun B58 B59 B60 B61 B62 B63 B64 B65 B66 B67 B68 B69 B70 B71 B72 B73 B74 B75 B76 B77=>((cV_ n (am_.mk B58 B59 B60) 2).bind fun A78=>(cond A78.1 ((cT_ n (B61.length:Int) 1).bind fun A79=>((ap_ n A78.2 A79).bind fun A80=>(cond (decide (A80.1<(B61.length:Int))) (inB A80.1 B61.length ((cT_ n (B61.getD A80.1.toNat 0) 1).bind fun A81=>((ap_ n A80.2 A81).bind fun A82=>(some ((ax_.mk B69 B76 B70 B71 B72 B77 true A80.1 A82.1),A82.2))))) (some ((ax_.mk B69 B76 B70 B71 B72 B77 true A80.1 B75),A80.2))))) (some ((ax_.mk B69 B76 B70 B71 B72 B77 B73 B74 B75),A78.2))))) n B8 0 A57.2.b A57.2.i A57.2.h B12 B13 B14 B15 B16 B17 B18 B19 B20 A28.1 false A57.1 B24 B25 B26 B27 ([]:List Int)))))) n A3 0 A2.2.b A2.2.i A2.2.h append.cols 0 0 false 0 false 0 0 A2.1 0 false 0 false 0 0 ([]:List ci_)))) (ah_.loop7 n (fun B83 B84 B85 B86 B87 B88 B89 B90 B91 B92 B93 B94 B95 B96 B97 B98 B99 B100 B101 B102=>((ap_ n (am_.mk B84 B85 B86) (W (B83+1))).bind fun A103=>(cond (decide (A103.1 > 0)) ((cV_ n A103.2 2).bind fun A104=>((b8_ n A104.2 ([0,0,1,2,3,5]:List Int)).bind fun A105=>(ah_.loop16 n (fun B106 B107 B108 B109 B110 B111 B112 B113 B114 B115 B116 B117 B118 B119 B120 B121 B122 B123 B124 B125=>((cV_ n (am_.mk B106 B107 B108) 2).bind fun A126=>(cond A126.1 ((cT_ n (B109.length:Int) 1).bind fun A127=>((ap_ n A126.2 A127).bind fun A128=>(cond (decide (A128.1<(B109.length:Int))) (inB A128.1 B109.length ((cT_ n (B109.getD A128.1.toNat 0) 1).bind fun A129=>((ap_ n A128.2 A129).bind fun A130=>(some ((ax_.mk B117 B124 B118 B119 B120 B125 true A128.1 A130.1),A130.2))))) (some ((ax_.mk B117 B124 B118 B119 B120 B125 true A128.1 B123),A128.2))))) (some ((ax_.mk B117 B124 B118 B119 B120 B125 B121 B122 B123),A126.2))))) n B83 0 A105.2.b A105.2.i A105.2.h B87 B88 B89 B90 B91 B92 B93 B94 B95 A103.1 A104.1 A105.1 B99 B100 B101 B102 ([]:List Int)))) ((b8_ n A103.2 ([0,0,1,2,3,5]:List Int)).bind fun A131=>(ah_.loop16 n (fun B132 B133 B134 B135 B136 B137 B138 B139 B140 B141 B142 B143 B144 B145 B146 B147 B148 B149 B150 B151=>((cV_ n (am_.mk B132 B133 B134) 2).bind fun A152=>(cond A152.1 ((cT_ n (B135.length:Int) 1).bind fun A153=>((ap_ n A152.2 A153).bind fun A154=>(cond (decide (A154.1<(B135.length:Int))) (inB A154.1 B135.length ((cT_ n (B135.getD A154.1.toNat 0) 1).bind fun A155=>((ap_ n A154.2 A155).bind fun A156=>(some ((ax_.mk B143 B150 B144 B145 B146 B151 true A154.1 A156.1),A156.2))))) (some ((ax_.mk B143 B150 B144 B145 B146 B151 true A154.1 B149),A154.2))))) (some ((ax_.mk B143 B150 B144 B145 B146 B151 B147 B148 B149),A152.2))))) n B83 0 A131.2.b A131.2.i A131.2.h B87 B88 B89 B90 B91 B92 B93 B94 B95 A103.1 false A131.1 B99 B100 B101 B102 ([]:List Int)))))) n 1 0 A2.2.b A2.2.i A2.2.h append.cols 0 0 false 0 false 0 0 A2.1 0 false 0 false 0 0 ([]:List ci_)))))
abbrev cl_.T6:Type:=Int->Int->(List Int)->Option Bool
def cl_.step6 (n:Nat)(k0:Option Bool)(back:cl_.T6):cl_.T6:=fun i r0 r1=>
 (cond (decide (i<(r1.length:Int))) (inB i r1.length ((b4_ n (r1.getD i.toNat 0) (-1000000000) 1000000000).bind fun A4=>(cond (!A4) (some false) (back (W (i+1)) r0 r1)))) k0)
def cl_.loop6 (n:Nat)(k0:Option Bool)(N:Nat):cl_.T6:=cw_ (fun _ _ _=>none) (cl_.step6 n k0) N
def cl_:Nat->a7_->Int->TRow->Option Bool
 |0,_,_,_=>none
 |n+1,s,table,r=>
  ((a1_ n s).bind fun A1=>(cond (!A1) (some false) ((b4_ n table 0 (W ((s.cols.length:Int) - 1))).bind fun A2=>(cond (!A2) (some false) ((b4_ n r.id_ 1 999).bind fun A3=>(cond (!A3) (some false) (inB table s.cols.length (cond ((r.cells.length:Int) != (s.cols.getD table.toNat 0)) (some false) (cl_.loop6 n (some true) n 0 r.id_ r.cells)))))))))
abbrev b3_.K3:Type:=Int->(List TRow)->(List Int)->Option Bool
abbrev b3_.T3:Type:=Int->(List TRow)->Int->(List Int)->Option Bool
def b3_.step3 (n:Nat)(k0:b3_.K3)(back:b3_.T3):b3_.T3:=fun table rows i s0=>
 (cond (decide (i<(rows.length:Int))) (inB i rows.length ((cl_ n (a7_.mk s0) table (rows.getD i.toNat TRow.dflt)).bind fun A1=>(cond (!A1) (some false) (cond (decide (i > 0)) (inB (W (i - 1)) rows.length (inB i rows.length (let C2:Bool:=(decide (((rows.getD (W (i - 1)).toNat TRow.dflt).id_)>=((rows.getD i.toNat TRow.dflt).id_)));(cond C2 (some false) (back table rows (W (i+1)) s0))))) (back table rows (W (i+1)) s0))))) (k0 table rows s0))
def b3_.loop3 (n:Nat)(k0:b3_.K3)(N:Nat):b3_.T3:=cw_ (fun _ _ _ _=>none) (b3_.step3 n k0) N
def b3_:Nat->a7_->Int->(List TRow)->Option Bool
 |0,_,_,_=>none
 |n+1,s,table,rows=>
  (b3_.loop3 n (fun B3 B4 B5=>((a1_ n (a7_.mk B5)).bind fun A6=>(cond A6 ((b4_ n B3 0 (W ((B5.length:Int) - 1))).bind fun A7=>(cond A7 (some (decide ((B4.length:Int)<=24))) (some false))) (some false)))) n table rows 0 s.cols)
abbrev bD_.T6:Type:=Int->(List Int)->Int->(List (List TRow))->Option Bool
def bD_.step6 (n:Nat)(k0:Option Bool)(back:bD_.T6):bD_.T6:=fun t s0 s1 s2=>
 (cond (decide (t<(s2.length:Int))) (inB t s2.length ((b3_ n (a7_.mk s0) t (s2.getD t.toNat [])).bind fun A3=>(cond (!A3) (some false) (back (W (t+1)) s0 s1 s2)))) k0)
def bD_.loop6 (n:Nat)(k0:Option Bool)(N:Nat):bD_.T6:=cw_ (fun _ _ _ _=>none) (bD_.step6 n k0) N
def bD_:Nat->aA_->Option Bool
 |0,_=>none
 |n+1,s=>
  ((a1_ n s.schema).bind fun A1=>(cond (!A1) (some false) ((b4_ n s.version 0 100000).bind fun A2=>(cond (!A2) (some false) (cond ((s.tables.length:Int) != (s.schema.cols.length:Int)) (some false) (bD_.loop6 n (some true) n 0 s.schema.cols s.version s.tables))))))
abbrev ay_.K7:Type:=Int->(List Int)->Int->(List ci_)->Int->Bool->Int->(List Int)->Bool->Int->Int->Option Bool
abbrev ay_.T7:Type:=Int->Int->(List Int)->Int->(List ci_)->Int->Bool->Int->(List Int)->Bool->Int->Int->Option Bool
def ay_.step7 (n:Nat)(k0:ay_.K7)(back:ay_.T7):ay_.T7:=fun t5 t6 t20 t30 t31 t32 t33 t34 t35 t36 t37 t38=>
 (cond (decide (t6<(t31.length:Int))) (inB t6 t31.length ((b4_ n ((t31.getD t6.toNat ci_.dflt).col) 0 (W (t5 - 1))).bind fun A3=>(cond (!A3) (some false) ((b4_ n ((t31.getD t6.toNat ci_.dflt).op) 1 4).bind fun A4=>(cond (!A4) (some false) ((b4_ n ((t31.getD t6.toNat ci_.dflt).v) (-1000000000) 1000000000).bind fun A5=>(cond (!A5) (some false) (back t5 (W (t6+1)) t20 t30 t31 t32 t33 t34 t35 t36 t37 t38)))))))) (k0 t5 t20 t30 t31 t32 t33 t34 t35 t36 t37 t38))
def ay_.loop7 (n:Nat)(k0:ay_.K7)(N:Nat):ay_.T7:=cw_ (fun _ _ _ _ _ _ _ _ _ _ _ _=>none) (ay_.step7 n k0) N
abbrev ay_.K16:Type:=Int->(List Int)->Int->(List ci_)->Int->Bool->Int->(List Int)->Bool->Int->Int->Option Bool
abbrev ay_.T16:Type:=Int->Int->(List Int)->Int->(List ci_)->Int->Bool->Int->(List Int)->Bool->Int->Int->Option Bool
def ay_.step16 (n:Nat)(k2:ay_.K16)(back:ay_.T16):ay_.T16:=fun t5 t8 t20 t30 t31 t32 t33 t34 t35 t36 t37 t38=>
 (cond (decide (t8<(t35.length:Int))) (inB t8 t35.length ((b4_ n (t35.getD t8.toNat 0) 0 (W (t5 - 1))).bind fun A17=>(cond (!A17) (some false) (cond (decide (t8 > 0)) (inB (W (t8 - 1)) t35.length (inB t8 t35.length (cond (decide ((t35.getD (W (t8 - 1)).toNat 0)>=(t35.getD t8.toNat 0))) (some false) (back t5 (W (t8+1)) t20 t30 t31 t32 t33 t34 t35 t36 t37 t38)))) (back t5 (W (t8+1)) t20 t30 t31 t32 t33 t34 t35 t36 t37 t38))))) (k2 t5 t20 t30 t31 t32 t33 t34 t35 t36 t37 t38))
def ay_.loop16 (n:Nat)(k2:ay_.K16)(N:Nat):ay_.T16:=cw_ (fun _ _ _ _ _ _ _ _ _ _ _ _=>none) (ay_.step16 n k2) N
def ay_:Nat->a7_->ax_->Option Bool
 |0,_,_=>none
 |n+1,o,append=>
  ((a1_ n o).bind fun A1=>(cond (!A1) (some false) ((b4_ n append.table 0 (W ((o.cols.length:Int) - 1))).bind fun A2=>(cond (!A2) (some false) (cond (decide ((append.where_.length:Int) > 3)) (some false) (inB append.table o.cols.length (ay_.loop7 n (fun B6 B7 B8 B9 B10 B11 B12 B13 B14 B15 B16=>(ay_.loop16 n (fun B18 B19 B20 B21 B22 B23 B24 B25 B26 B27 B28=>((b4_ n B22 0 B18).bind fun A29=>(cond (!A29) (some false) ((b4_ n B24 0 24).bind fun A30=>(cond (!A30) (some false) (cond (B22==0) (cond B23 (some false) (cond (!B26) (cond (B27==0) (some (B28==0)) (some false)) ((b4_ n B27 0 (W ((B19.length:Int) - 1))).bind fun A31=>(cond A31 (inB B27 B19.length ((b4_ n B28 0 (W ((B19.getD B27.toNat 0) - 1))).bind fun A32=>(some A32))) (some false))))) (cond (!B26) (cond (B27==0) (some (B28==0)) (some false)) ((b4_ n B27 0 (W ((B19.length:Int) - 1))).bind fun A33=>(cond A33 (inB B27 B19.length ((b4_ n B28 0 (W ((B19.getD B27.toNat 0) - 1))).bind fun A34=>(some A34))) (some false)))))))))) n B6 0 B7 B8 B9 B10 B11 B12 B13 B14 B15 B16)) n (o.cols.getD append.table.toNat 0) 0 o.cols append.table append.where_ append.order append.down append.first append.show_ append.kids append.kidTable append.kidCol)))))))
def eA_:Nat->ax_->Option ax_
 |0,_=>none
 |n+1,q=>
  (bj_ (([]:List ci_).length+q.where_.length) 24 (bj_ (([]:List Int).length+q.show_.length) 8 (some { q with where_:=(([]:List ci_)++q.where_),show_:=(([]:List Int)++q.show_) })))
def eb_:Nat->ci_->TRow->Option Bool
 |0,_,_=>none
 |n+1,x,r=>
  ((b4_ n x.col 0 (W ((r.cells.length:Int) - 1))).bind fun A1=>(cond (!A1) (some false) (inB x.col r.cells.length (cond (x.op==1) (some ((r.cells.getD x.col.toNat 0)==x.v)) (cond (x.op==2) (some (decide ((r.cells.getD x.col.toNat 0)<x.v))) (cond (x.op==3) (some (decide ((r.cells.getD x.col.toNat 0) > x.v))) (cond (x.op==4) (some ((r.cells.getD x.col.toNat 0) != x.v)) (some false))))))))
abbrev bR_.T3:Type:=Int->Int->(List ci_)->Int->Bool->Int->(List Int)->Bool->Int->Int->Int->(List Int)->Option Bool
def bR_.step3 (n:Nat)(k0:Option Bool)(back:bR_.T3):bR_.T3:=fun i q0 q1 q2 q3 q4 q5 q6 q7 q8 r0 r1=>
 (cond (decide (i<(q1.length:Int))) (inB i q1.length ((eb_ n (q1.getD i.toNat ci_.dflt) (TRow.mk r0 r1)).bind fun A1=>(cond (!A1) (some false) (back (W (i+1)) q0 q1 q2 q3 q4 q5 q6 q7 q8 r0 r1)))) k0)
def bR_.loop3 (n:Nat)(k0:Option Bool)(N:Nat):bR_.T3:=cw_ (fun _ _ _ _ _ _ _ _ _ _ _ _=>none) (bR_.step3 n k0) N
def bR_:Nat->ax_->TRow->Option Bool
 |0,_,_=>none
 |n+1,q,r=>
  (bR_.loop3 n (some true) n 0 q.table q.where_ q.order q.down q.first q.show_ q.kids q.kidTable q.kidCol r.id_ r.cells)
def bV_:Nat->TRow->Int->Option Int
 |0,_,_=>none
 |n+1,r,col=>
  ((b4_ n col 0 (W ((r.cells.length:Int) - 1))).bind fun A1=>(cond (!A1) (some 0) (inB col r.cells.length (some (r.cells.getD col.toNat 0)))))
def e2_:Nat->ax_->TRow->TRow->Option Bool
 |0,_,_,_=>none
 |n+1,q,a,b=>
  (cond (q.order != 0) ((bV_ n a (W (q.order - 1))).bind fun A1=>((bV_ n b (W (q.order - 1))).bind fun A2=>(cond (A1 != A2) (some (!((decide (A1<A2))==q.down))) (some (decide (a.id_<b.id_)))))) (some (decide (a.id_<b.id_))))
abbrev bW_.K5:Type:=Bool->Int->(List Int)->(List TRow)->Option (List TRow)
abbrev bW_.T5:Type:=(List TRow)->Bool->Int->Int->(List ci_)->Int->Bool->Int->(List Int)->Bool->Int->Int->Int->(List Int)->(List TRow)->Option (List TRow)
def bW_.step5 (n:Nat)(k0:bW_.K5)(back:bW_.T5):bW_.T5:=fun rows put i q0 q1 q2 q3 q4 q5 q6 q7 q8 r0 r1 out_1=>
 (cond (decide (i<(rows.length:Int))) (cond (!put) (inB i rows.length ((e2_ n (ax_.mk q0 q1 q2 q3 q4 q5 q6 q7 q8) (TRow.mk r0 r1) (rows.getD i.toNat TRow.dflt)).bind fun A1=>(cond A1 ((cB_ n (TRow.mk r0 r1)).bind fun A2=>(bj_ (out_1.length+([A2]:List TRow).length) 32 (inB i rows.length (bj_ ((out_1++([A2]:List TRow)).length+([(rows.getD i.toNat TRow.dflt)]:List TRow).length) 32 (back rows true (W (i+1)) q0 q1 q2 q3 q4 q5 q6 q7 q8 r0 r1 ((out_1++([A2]:List TRow))++([(rows.getD i.toNat TRow.dflt)]:List TRow))))))) (inB i rows.length (bj_ (out_1.length+([(rows.getD i.toNat TRow.dflt)]:List TRow).length) 32 (back rows put (W (i+1)) q0 q1 q2 q3 q4 q5 q6 q7 q8 r0 r1 (out_1++([(rows.getD i.toNat TRow.dflt)]:List TRow)))))))) (inB i rows.length (bj_ (out_1.length+([(rows.getD i.toNat TRow.dflt)]:List TRow).length) 32 (back rows put (W (i+1)) q0 q1 q2 q3 q4 q5 q6 q7 q8 r0 r1 (out_1++([(rows.getD i.toNat TRow.dflt)]:List TRow)))))) (k0 put r0 r1 out_1))
def bW_.loop5 (n:Nat)(k0:bW_.K5)(N:Nat):bW_.T5:=cw_ (fun _ _ _ _ _ _ _ _ _ _ _ _ _ _ _=>none) (bW_.step5 n k0) N
def bW_:Nat->ax_->(List TRow)->TRow->Option (List TRow)
 |0,_,_,_=>none
 |n+1,q,rows,r=>
  (bW_.loop5 n (fun B3 B4 B5 B6=>(cond (!B3) ((cB_ n (TRow.mk B4 B5)).bind fun A7=>(bj_ (B6.length+([A7]:List TRow).length) 32 (some (B6++([A7]:List TRow))))) (some B6))) n rows false 0 q.table q.where_ q.order q.down q.first q.show_ q.kids q.kidTable q.kidCol r.id_ r.cells ([]:List TRow))
abbrev bL_.K8:Type:=(List TRow)->Option (List TRow)
abbrev bL_.T8:Type:=(List TRow)->Int->Int->(List ci_)->Int->Bool->Int->(List Int)->Bool->Int->Int->(List TRow)->Option (List TRow)
def bL_.step8 (n:Nat)(k0:bL_.K8)(back:bL_.T8):bL_.T8:=fun rows i q0 q1 q2 q3 q4 q5 q6 q7 q8 out_1=>
 (cond (decide (i<(rows.length:Int))) (inB i rows.length ((bR_ n (ax_.mk q0 q1 q2 q3 q4 q5 q6 q7 q8) (rows.getD i.toNat TRow.dflt)).bind fun A3=>(cond A3 (inB i rows.length ((bW_ n (ax_.mk q0 q1 q2 q3 q4 q5 q6 q7 q8) out_1 (rows.getD i.toNat TRow.dflt)).bind fun A4=>(back rows (W (i+1)) q0 q1 q2 q3 q4 q5 q6 q7 q8 A4))) (back rows (W (i+1)) q0 q1 q2 q3 q4 q5 q6 q7 q8 out_1)))) (k0 out_1))
def bL_.loop8 (n:Nat)(k0:bL_.K8)(N:Nat):bL_.T8:=cw_ (fun _ _ _ _ _ _ _ _ _ _ _ _=>none) (bL_.step8 n k0) N
def bL_:Nat->aA_->ax_->Option (List TRow)
 |0,_,_=>none
 |n+1,s,q=>
  ((bD_ n s).bind fun A1=>(cond (!A1) (some ([]:List TRow)) ((ay_ n s.schema q).bind fun A2=>(cond (!A2) (some ([]:List TRow)) (inB q.table s.tables.length (bL_.loop8 n (fun B5=>(some B5)) n (s.tables.getD q.table.toNat []) 0 q.table q.where_ q.order q.down q.first q.show_ q.kids q.kidTable q.kidCol ([]:List TRow)))))))
abbrev aQ_.K5:Type:=Int->Int->Bool->(List TKid)->Option (List TKid)
abbrev aQ_.T5:Type:=(List TKid)->Int->Int->Bool->Int->(List TKid)->Option (List TKid)
def aQ_.step5 (n:Nat)(k0:aQ_.K5)(back:aQ_.T5):aQ_.T5:=fun o append t2 t8 t9 t7=>
 (cond (decide (t9<(o.length:Int))) (inB t9 o.length (cond (!t8) (cond (decide (((o.getD t9.toNat TKid.dflt).id_)>=append)) (cond (((o.getD t9.toNat TKid.dflt).id_)==append) (cond (decide ((W (((o.getD t9.toNat TKid.dflt).n_)+t2)) > 0)) (bj_ (t7.length+([(TKid.mk append (W (((o.getD t9.toNat TKid.dflt).n_)+t2)))]:List TKid).length) 16 (cond (((o.getD t9.toNat TKid.dflt).id_)==append) (back o append t2 true (W (t9+1)) (t7++([(TKid.mk append (W (((o.getD t9.toNat TKid.dflt).n_)+t2)))]:List TKid))) (bj_ ((t7++([(TKid.mk append (W (((o.getD t9.toNat TKid.dflt).n_)+t2)))]:List TKid)).length+([(o.getD t9.toNat TKid.dflt)]:List TKid).length) 16 (back o append t2 true (W (t9+1)) ((t7++([(TKid.mk append (W (((o.getD t9.toNat TKid.dflt).n_)+t2)))]:List TKid))++([(o.getD t9.toNat TKid.dflt)]:List TKid)))))) (cond (((o.getD t9.toNat TKid.dflt).id_)==append) (back o append t2 true (W (t9+1)) t7) (bj_ (t7.length+([(o.getD t9.toNat TKid.dflt)]:List TKid).length) 16 (back o append t2 true (W (t9+1)) (t7++([(o.getD t9.toNat TKid.dflt)]:List TKid)))))) (cond (decide (t2 > 0)) (bj_ (t7.length+([(TKid.mk append t2)]:List TKid).length) 16 (cond (((o.getD t9.toNat TKid.dflt).id_)==append) (back o append t2 true (W (t9+1)) (t7++([(TKid.mk append t2)]:List TKid))) (bj_ ((t7++([(TKid.mk append t2)]:List TKid)).length+([(o.getD t9.toNat TKid.dflt)]:List TKid).length) 16 (back o append t2 true (W (t9+1)) ((t7++([(TKid.mk append t2)]:List TKid))++([(o.getD t9.toNat TKid.dflt)]:List TKid)))))) (cond (((o.getD t9.toNat TKid.dflt).id_)==append) (back o append t2 true (W (t9+1)) t7) (bj_ (t7.length+([(o.getD t9.toNat TKid.dflt)]:List TKid).length) 16 (back o append t2 true (W (t9+1)) (t7++([(o.getD t9.toNat TKid.dflt)]:List TKid))))))) (bj_ (t7.length+([(o.getD t9.toNat TKid.dflt)]:List TKid).length) 16 (back o append t2 t8 (W (t9+1)) (t7++([(o.getD t9.toNat TKid.dflt)]:List TKid))))) (bj_ (t7.length+([(o.getD t9.toNat TKid.dflt)]:List TKid).length) 16 (back o append t2 t8 (W (t9+1)) (t7++([(o.getD t9.toNat TKid.dflt)]:List TKid)))))) (k0 append t2 t8 t7))
def aQ_.loop5 (n:Nat)(k0:aQ_.K5)(N:Nat):aQ_.T5:=cw_ (fun _ _ _ _ _ _=>none) (aQ_.step5 n k0) N
def aQ_:Nat->(List TKid)->Int->Int->Option (List TKid)
 |0,_,_,_=>none
 |n+1,o,append,a2=>
  (aQ_.loop5 n (fun B1 B2 B3 B4=>(cond (!B3) (cond (decide (B2 > 0)) (bj_ (B4.length+([(TKid.mk B1 B2)]:List TKid).length) 16 (some (B4++([(TKid.mk B1 B2)]:List TKid)))) (some B4)) (some B4))) n o append a2 false 0 ([]:List TKid))
abbrev b2_.K8:Type:=Int->Int->Bool->Int->Bool->Int->Int->Int->Int->Bool->Int->Bool->Int->Int->(List ci_)->(List Int)->(List TRow)->(List TKid)->Option (bF_×Bool)
abbrev b2_.T8:Type:=(List TRow)->Int->Int->(List ci_)->Int->Bool->Int->(List Int)->Bool->Int->Int->Int->Int->Bool->Int->Bool->Int->Int->Int->Int->Bool->Int->Bool->Int->Int->(List ci_)->(List Int)->(List TRow)->(List TKid)->Option (bF_×Bool)
def b2_.step8 (n:Nat)(k0:b2_.K8)(back:b2_.T8):b2_.T8:=fun rows i q0 q1 q2 q3 q4 q5 q6 q7 q8 t40 t42 t43 t44 t46 t47 t48 v0 v2 v3 v4 v6 v7 v8 v1 v5 v9 v10=>
 (cond (decide (i<(rows.length:Int))) (cond q6 (inB i rows.length (inB q8 ((rows.getD i.toNat TRow.dflt).cells).length ((aQ_ n v10 (((rows.getD i.toNat TRow.dflt).cells).getD q8.toNat 0) 1).bind fun A5=>(back rows (W (i+1)) q0 q1 q2 q3 q4 q5 q6 q7 q8 t40 t42 t43 t44 t46 t47 t48 v0 v2 v3 v4 v6 v7 v8 v1 v5 v9 A5)))) (k0 t40 t42 t43 t44 t46 t47 t48 v0 v2 v3 v4 v6 v7 v8 v1 v5 v9 v10)) (k0 t40 t42 t43 t44 t46 t47 t48 v0 v2 v3 v4 v6 v7 v8 v1 v5 v9 v10))
def b2_.loop8 (n:Nat)(k0:b2_.K8)(N:Nat):b2_.T8:=cw_ (fun _ _ _ _ _ _ _ _ _ _ _ _ _ _ _ _ _ _ _ _ _ _ _ _ _ _ _ _ _=>none) (b2_.step8 n k0) N
def b2_:Nat->aA_->ax_->Option (bF_×Bool)
 |0,_,_=>none
 |n+1,s,q=>
  ((bD_ n s).bind fun A1=>(cond (!A1) (some ((bF_.mk (ax_.mk 0 ([]:List ci_) 0 false 0 ([]:List Int) false 0 0) ([]:List TRow) ([]:List TKid)),false)) ((ay_ n s.schema q).bind fun A2=>(cond (!A2) (some ((bF_.mk (ax_.mk 0 ([]:List ci_) 0 false 0 ([]:List Int) false 0 0) ([]:List TRow) ([]:List TKid)),false)) ((eA_ n q).bind fun A3=>((bL_ n s q).bind fun A4=>(inB q.kidTable s.tables.length (b2_.loop8 n (fun B6 B7 B8 B9 B10 B11 B12 B13 B14 B15 B16 B17 B18 B19 B20 B21 B22 B23=>(some ((bF_.mk (ax_.mk B13 B20 B14 B15 B16 B21 B17 B18 B19) B22 B23),true))) n (s.tables.getD q.kidTable.toNat []) 0 q.table q.where_ q.order q.down q.first q.show_ q.kids q.kidTable q.kidCol 0 0 false 0 false 0 0 A3.table A3.order A3.down A3.first A3.kids A3.kidTable A3.kidCol A3.where_ A3.show_ A4 ([]:List TKid)))))))))
def ev_:Nat->aA_->ax_->Option (c1_×Bool)
 |0,_,_=>none
 |n+1,s,q=>
  ((b2_ n s q).bind fun A1=>(cond (!A1.2) (some ((c1_.mk (bF_.mk (ax_.mk 0 ([]:List ci_) 0 false 0 ([]:List Int) false 0 0) ([]:List TRow) ([]:List TKid)) 0 (bF_.mk (ax_.mk 0 ([]:List ci_) 0 false 0 ([]:List Int) false 0 0) ([]:List TRow) ([]:List TKid)) 0 false),false)) (some ((c1_.mk A1.1 s.version (bF_.mk (ax_.mk 0 ([]:List ci_) 0 false 0 ([]:List Int) false 0 0) ([]:List TRow) ([]:List TKid)) 0 false),true))))
abbrev bX_.K4:Type:=(List TRow)->Option (List TRow)
abbrev bX_.T4:Type:=(List TRow)->Int->(List TRow)->Option (List TRow)
def bX_.step4 (n:Nat)(k0:bX_.K4)(back:bX_.T4):bX_.T4:=fun rows i out_1=>
 (cond (decide (i<(rows.length:Int))) (inB i rows.length ((cB_ n (rows.getD i.toNat TRow.dflt)).bind fun A1=>(bj_ (out_1.length+([A1]:List TRow).length) 32 (back rows (W (i+1)) (out_1++([A1]:List TRow)))))) (k0 out_1))
def bX_.loop4 (n:Nat)(k0:bX_.K4)(N:Nat):bX_.T4:=cw_ (fun _ _ _=>none) (bX_.step4 n k0) N
def bX_:Nat->(List TRow)->Option (List TRow)
 |0,_=>none
 |n+1,rows=>
  (bX_.loop4 n (fun B2=>(some B2)) n rows 0 ([]:List TRow))
def c8_:Nat->bF_->Option bF_
 |0,_=>none
 |n+1,v=>
  ((eA_ n v.q).bind fun A1=>((bX_ n v.rows).bind fun A2=>(bj_ (([]:List TKid).length+v.kids.length) 16 (some (bF_.mk A1 A2 (([]:List TKid)++v.kids))))))
def ec_:Nat->c1_->Option c1_
 |0,_=>none
 |n+1,x=>
  ((c8_ n x.view).bind fun A1=>((c8_ n x.last).bind fun A2=>(some { x with view:=A1,last:=A2 })))
abbrev b7_.T3:Type:=Int->Int->Int->(List ci_)->Int->Bool->Int->(List Int)->Bool->Int->Int->(List TRow)->(List TKid)->Option Int
def b7_.step3 (n:Nat)(k0:Option Int)(back:b7_.T3):b7_.T3:=fun id_1 i v0 v1 v2 v3 v4 v5 v6 v7 v8 v9 v10=>
 (cond (decide (i<(v10.length:Int))) (inB i v10.length (cond (((v10.getD i.toNat TKid.dflt).id_)==id_1) (inB i v10.length (some ((v10.getD i.toNat TKid.dflt).n_))) (back id_1 (W (i+1)) v0 v1 v2 v3 v4 v5 v6 v7 v8 v9 v10))) k0)
def b7_.loop3 (n:Nat)(k0:Option Int)(N:Nat):b7_.T3:=cw_ (fun _ _ _ _ _ _ _ _ _ _ _ _ _=>none) (b7_.step3 n k0) N
def b7_:Nat->bF_->Int->Option Int
 |0,_,_=>none
 |n+1,v,id1=>
  (b7_.loop3 n (some 0) n id1 0 v.q.table v.q.where_ v.q.order v.q.down v.q.first v.q.show_ v.q.kids v.q.kidTable v.q.kidCol v.rows v.kids)
abbrev ba_.K4:Type:=(List Int)->Option (List Int)
abbrev ba_.T4:Type:=Int->Int->(List ci_)->Int->Bool->Int->(List Int)->Bool->Int->Int->(List TRow)->(List TKid)->(List Int)->Option (List Int)
def ba_.step4 (n:Nat)(k0:ba_.K4)(back:ba_.T4):ba_.T4:=fun i v0 v1 v2 v3 v4 v5 v6 v7 v8 v9 v10 out_1=>
 (cond (decide (i<(v9.length:Int))) (inB i v9.length ((b7_ n (bF_.mk (ax_.mk v0 v1 v2 v3 v4 v5 v6 v7 v8) v9 v10) ((v9.getD i.toNat TRow.dflt).id_)).bind fun A1=>(bj_ (out_1.length+([A1]:List Int).length) 8 (back (W (i+1)) v0 v1 v2 v3 v4 v5 v6 v7 v8 v9 v10 (out_1++([A1]:List Int)))))) (k0 out_1))
def ba_.loop4 (n:Nat)(k0:ba_.K4)(N:Nat):ba_.T4:=cw_ (fun _ _ _ _ _ _ _ _ _ _ _ _ _=>none) (ba_.step4 n k0) N
def ba_:Nat->bF_->Option (List Int)
 |0,_=>none
 |n+1,v=>
  (ba_.loop4 n (fun B2=>(some B2)) n 0 v.q.table v.q.where_ v.q.order v.q.down v.q.first v.q.show_ v.q.kids v.q.kidTable v.q.kidCol v.rows v.kids ([]:List Int))
def fi_:Nat->Int->Int->Option Int
 |0,_,_=>none
 |n+1,a,b=>
  (cond (decide (a<b)) (some a) (some b))
def dQ_:Nat->ax_->Int->Option Int
 |0,_,_=>none
 |n+1,q,n1=>
  (cond (q.first==0) (some n1) ((fi_ n n1 q.first).bind fun A1=>((cT_ n A1 0).bind fun A2=>(some A2))))
abbrev aN_.K7:Type:=Bool->Bs->Option Bs
abbrev aN_.T7:Type:=Int->Bool->Bs->Option Bs
def aN_.step7 (n:Nat)(k0:aN_.K7)(back:aN_.T7):aN_.T7:=fun n_1 below out_1=>
 (cond (n_1 != 0) (cond (decide ((Int.tmod n_1 10)<0)) (let C1:Bs:=(i6_ ([(IntKind.u8.wrap ((W (48+(W (0 - (Int.tmod n_1 10)))))))]:List Int));(cond (decide (C1.length+out_1.length<=9223372036854775807)) (back (W (Int.tdiv n_1 10)) below (C1++out_1)) none)) (cond (decide ((i6_ ([(IntKind.u8.wrap ((W (48+(Int.tmod n_1 10)))))]:List Int)).length+out_1.length<=9223372036854775807)) (let C2:Bs:=((i6_ ([(IntKind.u8.wrap ((W (48+(Int.tmod n_1 10)))))]:List Int))++out_1);(back (W (Int.tdiv n_1 10)) below C2)) none)) (k0 below out_1))
def aN_.loop7 (n:Nat)(k0:aN_.K7)(N:Nat):aN_.T7:=cw_ (fun _ _ _=>none) (aN_.step7 n k0) N
def aN_:Nat->Int->Option Bs
 |0,_=>none
 |n+1,n1=>
  (cond (n1==0) (some [48]) (aN_.loop7 n (fun B3 B4=>(cond B3 (cond (decide ([45].length+B4.length<=9223372036854775807)) (some (([45]:Bs)++B4)) none) (some B4))) n n1 (decide (n1<0)) []))
def dm_:Nat->Int->Option aa_
 |0,_=>none
 |n+1,n1=>
  (some (aa_.mk 2 n1 [] ([]:List aa_) ([]:List Bs)))
abbrev bM_.K5:Type:=Bs->Bool->Int->Int->Bs->(List aa_)->(List Bs)->Int->Int->Bs->Int->Int->Bs->(List aa_)->(List Bs)->Option aa_
abbrev bM_.T5:Type:=Bs->Bool->Int->Int->Int->Bs->(List aa_)->(List Bs)->Int->Int->Bs->(List aa_)->(List Bs)->Int->Int->Bs->Int->Int->Bs->(List aa_)->(List Bs)->Option aa_
def bM_.step5 (n:Nat)(k0:bM_.K5)(back:bM_.T5):bM_.T5:=fun append t8 t9 t30 t31 t32 t33 t34 t50 t51 t52 t53 t54 t60 t61 t62 t70 t71 t72 t73 t74=>
 (cond (decide (t9<(t34.length:Int))) (cond (!t8) (inB t9 t34.length (cond (!Op.bytesLess (t34.getD t9.toNat []) append) (bj_ (t74.length+([append]:List Bs).length) 16 (bj_ (t73.length+([(aa_.mk t50 t51 t52 t53 t54)]:List aa_).length) 80 (inB t9 t34.length (cond (!((t34.getD t9.toNat [])==append)) (inB t9 t34.length (bj_ ((t74++([append]:List Bs)).length+([(t34.getD t9.toNat [])]:List Bs).length) 16 (inB t9 t33.length (bj_ ((t73++([(aa_.mk t50 t51 t52 t53 t54)]:List aa_)).length+([(aa_.re (t33.getD t9.toNat aa_.dflt))]:List aa_).length) 80 (back append true (W (t9+1)) t30 t31 t32 t33 t34 t50 t51 t52 t53 t54 t60 t61 t62 t70 t71 t72 ((t73++([(aa_.mk t50 t51 t52 t53 t54)]:List aa_))++([(aa_.re (t33.getD t9.toNat aa_.dflt))]:List aa_)) ((t74++([append]:List Bs))++([(t34.getD t9.toNat [])]:List Bs))))))) (back append true (W (t9+1)) t30 t31 t32 t33 t34 t50 t51 t52 t53 t54 t60 t61 t62 t70 t71 t72 (t73++([(aa_.mk t50 t51 t52 t53 t54)]:List aa_)) (t74++([append]:List Bs))))))) (inB t9 t34.length (cond (!((t34.getD t9.toNat [])==append)) (inB t9 t34.length (bj_ (t74.length+([(t34.getD t9.toNat [])]:List Bs).length) 16 (inB t9 t33.length (bj_ (t73.length+([(aa_.re (t33.getD t9.toNat aa_.dflt))]:List aa_).length) 80 (back append t8 (W (t9+1)) t30 t31 t32 t33 t34 t50 t51 t52 t53 t54 t60 t61 t62 t70 t71 t72 (t73++([(aa_.re (t33.getD t9.toNat aa_.dflt))]:List aa_)) (t74++([(t34.getD t9.toNat [])]:List Bs))))))) (back append t8 (W (t9+1)) t30 t31 t32 t33 t34 t50 t51 t52 t53 t54 t60 t61 t62 t70 t71 t72 t73 t74))))) (inB t9 t34.length (cond (!((t34.getD t9.toNat [])==append)) (inB t9 t34.length (bj_ (t74.length+([(t34.getD t9.toNat [])]:List Bs).length) 16 (inB t9 t33.length (bj_ (t73.length+([(aa_.re (t33.getD t9.toNat aa_.dflt))]:List aa_).length) 80 (back append t8 (W (t9+1)) t30 t31 t32 t33 t34 t50 t51 t52 t53 t54 t60 t61 t62 t70 t71 t72 (t73++([(aa_.re (t33.getD t9.toNat aa_.dflt))]:List aa_)) (t74++([(t34.getD t9.toNat [])]:List Bs))))))) (back append t8 (W (t9+1)) t30 t31 t32 t33 t34 t50 t51 t52 t53 t54 t60 t61 t62 t70 t71 t72 t73 t74)))) (k0 append t8 t50 t51 t52 t53 t54 t60 t61 t62 t70 t71 t72 t73 t74))
def bM_.loop5 (n:Nat)(k0:bM_.K5)(N:Nat):bM_.T5:=cw_ (fun _ _ _ _ _ _ _ _ _ _ _ _ _ _ _ _ _ _ _ _ _=>none) (bM_.step5 n k0) N
def bM_:Nat->aa_->Bs->aa_->Option aa_
 |0,_,_,_=>none
 |n+1,o,append,a2=>
  (bM_.loop5 n (fun B1 B2 B3 B4 B5 B6 B7 B8 B9 B10 B11 B12 B13 B14 B15=>(cond (!B2) (bj_ (B15.length+([B1]:List Bs).length) 16 (bj_ (B14.length+([(aa_.mk B3 B4 B5 B6 B7)]:List aa_).length) 80 (some (aa_.mk B11 B12 B13 (B14++([(aa_.mk B3 B4 B5 B6 B7)]:List aa_)) (B15++([B1]:List Bs)))))) (some (aa_.mk B11 B12 B13 B14 B15)))) n append false 0 o.kind o.n_ o.s o.list o.names a2.kind a2.n_ a2.s a2.list a2.names 0 0 [] 5 0 [] ([]:List aa_) ([]:List Bs))
abbrev bQ_.K4:Type:=Int->Int->(List ci_)->Int->Bool->Int->(List Int)->Bool->Int->Int->Int->(List Int)->Int->Int->Bs->Int->Int->Bs->(List aa_)->(List Bs)->Option aa_
abbrev bQ_.T4:Type:=Int->Int->Int->(List ci_)->Int->Bool->Int->(List Int)->Bool->Int->Int->Int->(List Int)->Int->Int->Bs->Int->Int->Bs->(List aa_)->(List Bs)->Option aa_
def bQ_.step4 (n:Nat)(k0:bQ_.K4)(back:bQ_.T4):bQ_.T4:=fun kids i q0 q1 q2 q3 q4 q5 q6 q7 q8 r0 r1 t60 t61 t62 out0 out1 out2 out3 out4=>
 (cond (decide (i<(q5.length:Int))) (inB i q5.length ((aN_ n (q5.getD i.toNat 0)).bind fun A1=>(cond (decide ([99].length+A1.length<=9223372036854775807)) (inB i q5.length ((bV_ n (TRow.mk r0 r1) (q5.getD i.toNat 0)).bind fun A2=>((dm_ n A2).bind fun A3=>((bM_ n (aa_.mk out0 out1 out2 out3 out4) (([99]:Bs)++A1) (aa_.re A3)).bind fun A4=>(back kids (W (i+1)) q0 q1 q2 q3 q4 q5 q6 q7 q8 r0 r1 t60 t61 t62 A4.kind A4.n_ A4.s A4.list A4.names))))) none))) (k0 kids q0 q1 q2 q3 q4 q5 q6 q7 q8 r0 r1 t60 t61 t62 out0 out1 out2 out3 out4))
def bQ_.loop4 (n:Nat)(k0:bQ_.K4)(N:Nat):bQ_.T4:=cw_ (fun _ _ _ _ _ _ _ _ _ _ _ _ _ _ _ _ _ _ _ _ _=>none) (bQ_.step4 n k0) N
def bQ_:Nat->ax_->TRow->Int->Option aa_
 |0,_,_,_=>none
 |n+1,q,r,kids=>
  (bQ_.loop4 n (fun B5 B6 B7 B8 B9 B10 B11 B12 B13 B14 B15 B16 B17 B18 B19 B20 B21 B22 B23 B24=>((dm_ n B15).bind fun A25=>((bM_ n (aa_.mk B20 B21 B22 B23 B24) [105,100] (aa_.re A25)).bind fun A26=>(cond B12 ((dm_ n B5).bind fun A27=>((bM_ n (aa_.re A26) [107,105,100,115] (aa_.re A27)).bind fun A28=>(some (aa_.re A28)))) (some (aa_.re A26)))))) n kids 0 q.table q.where_ q.order q.down q.first q.show_ q.kids q.kidTable q.kidCol r.id_ r.cells 0 0 [] 5 0 [] ([]:List aa_) ([]:List Bs))
abbrev b5_.T3:Type:=Bs->Int->Option Bool
def b5_.step3 (n:Nat)(k0:Bs->Option Bool)(back:b5_.T3):b5_.T3:=fun s i=>
 (cond (decide (i<(s.length:Int))) (inB i s.length (cond (decide (((s.getD i.toNat 0).toNat:Int)<32)) (some false) (inB i s.length (cond (decide (((s.getD i.toNat 0).toNat:Int) > 126)) (some false) (back s (W (i+1))))))) (k0 s))
def b5_.loop3 (n:Nat)(k0:Bs->Option Bool)(N:Nat):b5_.T3:=cw_ (fun _ _=>none) (b5_.step3 n k0) N
def b5_:Nat->Bs->Option Bool
 |0,_=>none
 |n+1,s=>
  (b5_.loop3 n (fun B1=>(some (decide ((B1.length:Int)<=60)))) n s 0)
abbrev ad_.K6:Type:=Int->Int->Bs->(List aa_)->(List Bs)->Option Bool
abbrev ad_.T6:Type:=Int->Int->Int->Bs->(List aa_)->(List Bs)->Option Bool
def ad_.step6 (n:Nat)(k0:ad_.K6)(back:ad_.T6):ad_.T6:=fun i j0 j1 j2 j3 j4=>
 (cond (decide (i<(j4.length:Int))) (inB i j4.length ((b5_ n (j4.getD i.toNat [])).bind fun A1=>(cond (!A1) (some false) (cond (decide (i > 0)) (inB (W (i - 1)) j4.length (inB i j4.length (cond (!Op.bytesLess (j4.getD (W (i - 1)).toNat []) (j4.getD i.toNat [])) (some false) (back (W (i+1)) j0 j1 j2 j3 j4)))) (back (W (i+1)) j0 j1 j2 j3 j4))))) (k0 j0 j1 j2 j3 j4))
def ad_.loop6 (n:Nat)(k0:ad_.K6)(N:Nat):ad_.T6:=cw_ (fun _ _ _ _ _ _=>none) (ad_.step6 n k0) N
def ad_:Nat->aa_->Option Bool
 |0,_=>none
 |n+1,j=>
  (cond (j.kind != 5) (some ((j.names.length:Int)==0)) (ad_.loop6 n (fun B2 B3 B4 B5 B6=>(some ((B6.length:Int)==(B5.length:Int)))) n 0 j.kind j.n_ j.s j.list j.names))
abbrev aR_.K23_1:Type:=Int->Int->Int->Int->Bs->(List aa_)->(List Bs)->Option Int
abbrev aR_.T23:Type:=Int->Int->Int->Int->Int->Int->Bs->(List aa_)->(List Bs)->Option Int
def aR_.step23 (n:Nat)(spec_l1Great_:aa_->Int->Option Int)(k1:aR_.K23_1)(back:aR_.T23):aR_.T23:=fun append t5 t6 t7 t20 t21 t22 t23 t24=>
 (cond (decide (t7<(t23.length:Int))) (cond (decide (t6<=400)) (inB t7 t23.length ((spec_l1Great_ (aa_.re (t23.getD t7.toNat aa_.dflt)) (W (append - 1))).bind fun A52=>(back append t5 (W (t6+A52)) (W (t7+1)) t20 t21 t22 t23 t24))) (k1 t5 t6 t20 t21 t22 t23 t24)) (k1 t5 t6 t20 t21 t22 t23 t24))
def aR_.loop23 (n:Nat)(spec_l1Great_:aa_->Int->Option Int)(k1:aR_.K23_1)(N:Nat):aR_.T23:=cw_ (fun _ _ _ _ _ _ _ _ _=>none) (aR_.step23 n spec_l1Great_ k1) N
def aR_:Nat->aa_->Int->Option Int
 |0,_,_=>none
 |n+1,o,append=>
  (cond (append==0) (some 401) (cond (o.kind==0) (cond (o.n_ != 0) (some 401) (cond (o.kind != 3) (cond (!(o.s==[])) (some 401) (cond (o.kind==3) (cond (o.n_ != 0) (some 401) (cond (decide (o.kind<4)) (cond (decide ((o.list.length:Int) > 0)) (some 401) ((ad_ n (aa_.re o)).bind fun A1=>(cond (!A1) (some 401) (some 1)))) ((ad_ n (aa_.re o)).bind fun A2=>(cond (!A2) (some 401) (some 1))))) (cond (decide (o.kind>=4)) (cond (o.n_ != 0) (some 401) (cond (decide (o.kind<4)) (cond (decide ((o.list.length:Int) > 0)) (some 401) ((ad_ n (aa_.re o)).bind fun A3=>(cond (!A3) (some 401) (some 1)))) ((ad_ n (aa_.re o)).bind fun A4=>(cond (!A4) (some 401) (some 1))))) (cond (decide (o.kind<4)) (cond (decide ((o.list.length:Int) > 0)) (some 401) ((ad_ n (aa_.re o)).bind fun A5=>(cond (!A5) (some 401) (some 1)))) ((ad_ n (aa_.re o)).bind fun A6=>(cond (!A6) (some 401) (some 1))))))) (cond (o.kind==3) (cond (o.n_ != 0) (some 401) (cond (decide (o.kind<4)) (cond (decide ((o.list.length:Int) > 0)) (some 401) ((ad_ n (aa_.re o)).bind fun A7=>(cond (!A7) (some 401) (some 1)))) ((ad_ n (aa_.re o)).bind fun A8=>(cond (!A8) (some 401) (some 1))))) (cond (decide (o.kind>=4)) (cond (o.n_ != 0) (some 401) (cond (decide (o.kind<4)) (cond (decide ((o.list.length:Int) > 0)) (some 401) ((ad_ n (aa_.re o)).bind fun A9=>(cond (!A9) (some 401) (some 1)))) ((ad_ n (aa_.re o)).bind fun A10=>(cond (!A10) (some 401) (some 1))))) (cond (decide (o.kind<4)) (cond (decide ((o.list.length:Int) > 0)) (some 401) ((ad_ n (aa_.re o)).bind fun A11=>(cond (!A11) (some 401) (some 1)))) ((ad_ n (aa_.re o)).bind fun A12=>(cond (!A12) (some 401) (some 1)))))))) (cond (o.kind==1) ((b4_ n o.n_ 0 1).bind fun A13=>(cond (!A13) (some 401) (cond (o.kind != 3) (cond (!(o.s==[])) (some 401) (cond (o.kind==3) (cond (o.n_ != 0) (some 401) (cond (decide (o.kind<4)) (cond (decide ((o.list.length:Int) > 0)) (some 401) ((ad_ n (aa_.re o)).bind fun A14=>(cond (!A14) (some 401) (some 1)))) ((ad_ n (aa_.re o)).bind fun A15=>(cond (!A15) (some 401) (some 1))))) (cond (decide (o.kind>=4)) (cond (o.n_ != 0) (some 401) (cond (decide (o.kind<4)) (cond (decide ((o.list.length:Int) > 0)) (some 401) ((ad_ n (aa_.re o)).bind fun A16=>(cond (!A16) (some 401) (some 1)))) ((ad_ n (aa_.re o)).bind fun A17=>(cond (!A17) (some 401) (some 1))))) (cond (decide (o.kind<4)) (cond (decide ((o.list.length:Int) > 0)) (some 401) ((ad_ n (aa_.re o)).bind fun A18=>(cond (!A18) (some 401) (some 1)))) ((ad_ n (aa_.re o)).bind fun A19=>(cond (!A19) (some 401) (some 1))))))) (cond (o.kind==3) (cond (o.n_ != 0) (some 401) (cond (decide (o.kind<4)) (cond (decide ((o.list.length:Int) > 0)) (some 401) ((ad_ n (aa_.re o)).bind fun A20=>(cond (!A20) (some 401) (some 1)))) ((ad_ n (aa_.re o)).bind fun A21=>(cond (!A21) (some 401) (some 1))))) (cond (decide (o.kind>=4)) (cond (o.n_ != 0) (some 401) (cond (decide (o.kind<4)) (cond (decide ((o.list.length:Int) > 0)) (some 401) ((ad_ n (aa_.re o)).bind fun A22=>(cond (!A22) (some 401) (some 1)))) ((ad_ n (aa_.re o)).bind fun A23=>(cond (!A23) (some 401) (some 1))))) (cond (decide (o.kind<4)) (cond (decide ((o.list.length:Int) > 0)) (some 401) ((ad_ n (aa_.re o)).bind fun A24=>(cond (!A24) (some 401) (some 1)))) ((ad_ n (aa_.re o)).bind fun A25=>(cond (!A25) (some 401) (some 1))))))))) (cond (o.kind==2) ((b4_ n o.n_ (-1000000000) 1000000000).bind fun A26=>(cond (!A26) (some 401) (cond (o.kind != 3) (cond (!(o.s==[])) (some 401) (cond (o.kind==3) (cond (o.n_ != 0) (some 401) (cond (decide (o.kind<4)) (cond (decide ((o.list.length:Int) > 0)) (some 401) ((ad_ n (aa_.re o)).bind fun A27=>(cond (!A27) (some 401) (some 1)))) ((ad_ n (aa_.re o)).bind fun A28=>(cond (!A28) (some 401) (some 1))))) (cond (decide (o.kind>=4)) (cond (o.n_ != 0) (some 401) (cond (decide (o.kind<4)) (cond (decide ((o.list.length:Int) > 0)) (some 401) ((ad_ n (aa_.re o)).bind fun A29=>(cond (!A29) (some 401) (some 1)))) ((ad_ n (aa_.re o)).bind fun A30=>(cond (!A30) (some 401) (some 1))))) (cond (decide (o.kind<4)) (cond (decide ((o.list.length:Int) > 0)) (some 401) ((ad_ n (aa_.re o)).bind fun A31=>(cond (!A31) (some 401) (some 1)))) ((ad_ n (aa_.re o)).bind fun A32=>(cond (!A32) (some 401) (some 1))))))) (cond (o.kind==3) (cond (o.n_ != 0) (some 401) (cond (decide (o.kind<4)) (cond (decide ((o.list.length:Int) > 0)) (some 401) ((ad_ n (aa_.re o)).bind fun A33=>(cond (!A33) (some 401) (some 1)))) ((ad_ n (aa_.re o)).bind fun A34=>(cond (!A34) (some 401) (some 1))))) (cond (decide (o.kind>=4)) (cond (o.n_ != 0) (some 401) (cond (decide (o.kind<4)) (cond (decide ((o.list.length:Int) > 0)) (some 401) ((ad_ n (aa_.re o)).bind fun A35=>(cond (!A35) (some 401) (some 1)))) ((ad_ n (aa_.re o)).bind fun A36=>(cond (!A36) (some 401) (some 1))))) (cond (decide (o.kind<4)) (cond (decide ((o.list.length:Int) > 0)) (some 401) ((ad_ n (aa_.re o)).bind fun A37=>(cond (!A37) (some 401) (some 1)))) ((ad_ n (aa_.re o)).bind fun A38=>(cond (!A38) (some 401) (some 1))))))))) (cond (o.kind==3) ((b5_ n o.s).bind fun A39=>(cond (!A39) (some 401) (cond (o.kind != 3) (cond (!(o.s==[])) (some 401) (cond (o.kind==3) (cond (o.n_ != 0) (some 401) (cond (decide (o.kind<4)) (cond (decide ((o.list.length:Int) > 0)) (some 401) ((ad_ n (aa_.re o)).bind fun A40=>(cond (!A40) (some 401) (some 1)))) ((ad_ n (aa_.re o)).bind fun A41=>(cond (!A41) (some 401) (some 1))))) (cond (decide (o.kind>=4)) (cond (o.n_ != 0) (some 401) (cond (decide (o.kind<4)) (cond (decide ((o.list.length:Int) > 0)) (some 401) ((ad_ n (aa_.re o)).bind fun A42=>(cond (!A42) (some 401) (some 1)))) ((ad_ n (aa_.re o)).bind fun A43=>(cond (!A43) (some 401) (some 1))))) (cond (decide (o.kind<4)) (cond (decide ((o.list.length:Int) > 0)) (some 401) ((ad_ n (aa_.re o)).bind fun A44=>(cond (!A44) (some 401) (some 1)))) ((ad_ n (aa_.re o)).bind fun A45=>(cond (!A45) (some 401) (some 1))))))) (cond (o.kind==3) (cond (o.n_ != 0) (some 401) (cond (decide (o.kind<4)) (cond (decide ((o.list.length:Int) > 0)) (some 401) ((ad_ n (aa_.re o)).bind fun A46=>(cond (!A46) (some 401) (some 1)))) ((ad_ n (aa_.re o)).bind fun A47=>(cond (!A47) (some 401) (some 1))))) (cond (decide (o.kind>=4)) (cond (o.n_ != 0) (some 401) (cond (decide (o.kind<4)) (cond (decide ((o.list.length:Int) > 0)) (some 401) ((ad_ n (aa_.re o)).bind fun A48=>(cond (!A48) (some 401) (some 1)))) ((ad_ n (aa_.re o)).bind fun A49=>(cond (!A49) (some 401) (some 1))))) (cond (decide (o.kind<4)) (cond (decide ((o.list.length:Int) > 0)) (some 401) ((ad_ n (aa_.re o)).bind fun A50=>(cond (!A50) (some 401) (some 1)))) ((ad_ n (aa_.re o)).bind fun A51=>(cond (!A51) (some 401) (some 1))))))))) (cond (o.kind==4) (cond (o.kind==4) (aR_.loop23 n (aR_ n) (fun B53 B54 B55 B56 B57 B58 B59=>(cond (B55 != 3) (cond (!(B57==[])) (some B53) (cond (B55==3) (cond (B56 != 0) (some B53) (cond (decide (B55<4)) (cond (decide ((B58.length:Int) > 0)) (some B53) ((ad_ n (aa_.mk B55 B56 B57 B58 B59)).bind fun A60=>(cond (!A60) (some B53) (some B54)))) ((ad_ n (aa_.mk B55 B56 B57 B58 B59)).bind fun A61=>(cond (!A61) (some B53) (some B54))))) (cond (decide (B55>=4)) (cond (B56 != 0) (some B53) (cond (decide (B55<4)) (cond (decide ((B58.length:Int) > 0)) (some B53) ((ad_ n (aa_.mk B55 B56 B57 B58 B59)).bind fun A62=>(cond (!A62) (some B53) (some B54)))) ((ad_ n (aa_.mk B55 B56 B57 B58 B59)).bind fun A63=>(cond (!A63) (some B53) (some B54))))) (cond (decide (B55<4)) (cond (decide ((B58.length:Int) > 0)) (some B53) ((ad_ n (aa_.mk B55 B56 B57 B58 B59)).bind fun A64=>(cond (!A64) (some B53) (some B54)))) ((ad_ n (aa_.mk B55 B56 B57 B58 B59)).bind fun A65=>(cond (!A65) (some B53) (some B54))))))) (cond (B55==3) (cond (B56 != 0) (some B53) (cond (decide (B55<4)) (cond (decide ((B58.length:Int) > 0)) (some B53) ((ad_ n (aa_.mk B55 B56 B57 B58 B59)).bind fun A66=>(cond (!A66) (some B53) (some B54)))) ((ad_ n (aa_.mk B55 B56 B57 B58 B59)).bind fun A67=>(cond (!A67) (some B53) (some B54))))) (cond (decide (B55>=4)) (cond (B56 != 0) (some B53) (cond (decide (B55<4)) (cond (decide ((B58.length:Int) > 0)) (some B53) ((ad_ n (aa_.mk B55 B56 B57 B58 B59)).bind fun A68=>(cond (!A68) (some B53) (some B54)))) ((ad_ n (aa_.mk B55 B56 B57 B58 B59)).bind fun A69=>(cond (!A69) (some B53) (some B54))))) (cond (decide (B55<4)) (cond (decide ((B58.length:Int) > 0)) (some B53) ((ad_ n (aa_.mk B55 B56 B57 B58 B59)).bind fun A70=>(cond (!A70) (some B53) (some B54)))) ((ad_ n (aa_.mk B55 B56 B57 B58 B59)).bind fun A71=>(cond (!A71) (some B53) (some B54)))))))) n append 401 1 0 o.kind o.n_ o.s o.list o.names) (some 401)) (cond (o.kind==5) (aR_.loop23 n (aR_ n) (fun B72 B73 B74 B75 B76 B77 B78=>(cond (B74 != 3) (cond (!(B76==[])) (some B72) (cond (B74==3) (cond (B75 != 0) (some B72) (cond (decide (B74<4)) (cond (decide ((B77.length:Int) > 0)) (some B72) ((ad_ n (aa_.mk B74 B75 B76 B77 B78)).bind fun A79=>(cond (!A79) (some B72) (some B73)))) ((ad_ n (aa_.mk B74 B75 B76 B77 B78)).bind fun A80=>(cond (!A80) (some B72) (some B73))))) (cond (decide (B74>=4)) (cond (B75 != 0) (some B72) (cond (decide (B74<4)) (cond (decide ((B77.length:Int) > 0)) (some B72) ((ad_ n (aa_.mk B74 B75 B76 B77 B78)).bind fun A81=>(cond (!A81) (some B72) (some B73)))) ((ad_ n (aa_.mk B74 B75 B76 B77 B78)).bind fun A82=>(cond (!A82) (some B72) (some B73))))) (cond (decide (B74<4)) (cond (decide ((B77.length:Int) > 0)) (some B72) ((ad_ n (aa_.mk B74 B75 B76 B77 B78)).bind fun A83=>(cond (!A83) (some B72) (some B73)))) ((ad_ n (aa_.mk B74 B75 B76 B77 B78)).bind fun A84=>(cond (!A84) (some B72) (some B73))))))) (cond (B74==3) (cond (B75 != 0) (some B72) (cond (decide (B74<4)) (cond (decide ((B77.length:Int) > 0)) (some B72) ((ad_ n (aa_.mk B74 B75 B76 B77 B78)).bind fun A85=>(cond (!A85) (some B72) (some B73)))) ((ad_ n (aa_.mk B74 B75 B76 B77 B78)).bind fun A86=>(cond (!A86) (some B72) (some B73))))) (cond (decide (B74>=4)) (cond (B75 != 0) (some B72) (cond (decide (B74<4)) (cond (decide ((B77.length:Int) > 0)) (some B72) ((ad_ n (aa_.mk B74 B75 B76 B77 B78)).bind fun A87=>(cond (!A87) (some B72) (some B73)))) ((ad_ n (aa_.mk B74 B75 B76 B77 B78)).bind fun A88=>(cond (!A88) (some B72) (some B73))))) (cond (decide (B74<4)) (cond (decide ((B77.length:Int) > 0)) (some B72) ((ad_ n (aa_.mk B74 B75 B76 B77 B78)).bind fun A89=>(cond (!A89) (some B72) (some B73)))) ((ad_ n (aa_.mk B74 B75 B76 B77 B78)).bind fun A90=>(cond (!A90) (some B72) (some B73)))))))) n append 401 1 0 o.kind o.n_ o.s o.list o.names) (some 401))))))))
def cH_:Nat->aa_->Option Bool
 |0,_=>none
 |n+1,j=>
  ((aR_ n (aa_.re j) 6).bind fun A1=>(some (decide (A1<=400))))
def du_:Nat->aa_->Option aa_
 |0,_=>none
 |n+1,j=>
  ((cH_ n (aa_.re j)).bind fun A1=>(cond (!A1) (some (aa_.mk 0 0 [] [] [])) (some (aa_.re j))))
abbrev cg_.K4:Type:=(List TRow)->Int->Int->Bs->Int->Int->Bs->(List aa_)->Option aa_
abbrev cg_.T4:Type:=(List TRow)->(List Int)->Int->Int->(List ci_)->Int->Bool->Int->(List Int)->Bool->Int->Int->Int->Int->Bs->Int->Int->Bs->(List aa_)->Option aa_
def cg_.step4 (n:Nat)(k0:cg_.K4)(back:cg_.T4):cg_.T4:=fun rows kids i q0 q1 q2 q3 q4 q5 q6 q7 q8 t60 t61 t62 list0 list1 list2 list3=>
 ((dQ_ n (ax_.mk q0 q1 q2 q3 q4 q5 q6 q7 q8) (rows.length:Int)).bind fun A1=>(cond (decide (i<A1)) (cond (decide (i<(kids.length:Int))) (inB i kids.length (inB i rows.length ((bQ_ n (ax_.mk q0 q1 q2 q3 q4 q5 q6 q7 q8) (rows.getD i.toNat TRow.dflt) (kids.getD i.toNat 0)).bind fun A2=>(bj_ (list3.length+([(aa_.re A2)]:List aa_).length) 80 (back rows kids (W (i+1)) q0 q1 q2 q3 q4 q5 q6 q7 q8 t60 t61 t62 list0 list1 list2 (list3++([(aa_.re A2)]:List aa_))))))) (inB i rows.length ((bQ_ n (ax_.mk q0 q1 q2 q3 q4 q5 q6 q7 q8) (rows.getD i.toNat TRow.dflt) 0).bind fun A3=>(bj_ (list3.length+([(aa_.re A3)]:List aa_).length) 80 (back rows kids (W (i+1)) q0 q1 q2 q3 q4 q5 q6 q7 q8 t60 t61 t62 list0 list1 list2 (list3++([(aa_.re A3)]:List aa_))))))) (k0 rows t60 t61 t62 list0 list1 list2 list3)))
def cg_.loop4 (n:Nat)(k0:cg_.K4)(N:Nat):cg_.T4:=cw_ (fun _ _ _ _ _ _ _ _ _ _ _ _ _ _ _ _ _ _ _=>none) (cg_.step4 n k0) N
def cg_:Nat->ax_->(List TRow)->(List Int)->Option aa_
 |0,_,_,_=>none
 |n+1,q,rows,kids=>
  (cg_.loop4 n (fun B4 B5 B6 B7 B8 B9 B10 B11=>((dm_ n (B4.length:Int)).bind fun A12=>((du_ n (aa_.mk 5 0 [] ([(aa_.re A12),(aa_.mk B8 B9 B10 B11 [])]:List aa_) ([[99,111,117,110,116],[114,111,119,115]]:List Bs))).bind fun A13=>(some (aa_.re A13))))) n rows kids 0 q.table q.where_ q.order q.down q.first q.show_ q.kids q.kidTable q.kidCol 0 0 [] 4 0 [] ([]:List aa_))
def dE_:Nat->bF_->Option aa_
 |0,_=>none
 |n+1,v=>
  ((ba_ n v).bind fun A1=>((cg_ n v.q v.rows A1).bind fun A2=>(some (aa_.re A2))))
abbrev an_.K6_1:Type:=Int->Int->Bs->(List aa_)->(List Bs)->Int->Int->Bs->(List aa_)->(List Bs)->Option Bool
abbrev an_.T6:Type:=Int->Int->Int->Bs->(List aa_)->(List Bs)->Int->Int->Bs->(List aa_)->(List Bs)->Option Bool
def an_.step6 (n:Nat)(spec_l1Same_:aa_->aa_->Option Bool)(k0:an_.K6_1)(back:an_.T6):an_.T6:=fun t5 t20 t21 t22 t23 t24 t30 t31 t32 t33 t34=>
 (cond (decide (t5<(t23.length:Int))) (inB t5 t23.length (inB t5 t33.length ((spec_l1Same_ (aa_.re (t23.getD t5.toNat aa_.dflt)) (aa_.re (t33.getD t5.toNat aa_.dflt))).bind fun A1=>(cond (!A1) (some false) (back (W (t5+1)) t20 t21 t22 t23 t24 t30 t31 t32 t33 t34))))) (k0 t20 t21 t22 t23 t24 t30 t31 t32 t33 t34))
def an_.loop6 (n:Nat)(spec_l1Same_:aa_->aa_->Option Bool)(k0:an_.K6_1)(N:Nat):an_.T6:=cw_ (fun _ _ _ _ _ _ _ _ _ _ _=>none) (an_.step6 n spec_l1Same_ k0) N
abbrev an_.T14:Type:=Int->Int->Int->Bs->(List aa_)->(List Bs)->Int->Int->Bs->(List aa_)->(List Bs)->Option Bool
def an_.step14 (n:Nat)(spec_l1Same_:aa_->aa_->Option Bool)(k2:Option Bool)(back:an_.T14):an_.T14:=fun t6 t20 t21 t22 t23 t24 t30 t31 t32 t33 t34=>
 (cond (decide (t6<(t24.length:Int))) (inB t6 t24.length (inB t6 t34.length (cond (!((t24.getD t6.toNat [])==(t34.getD t6.toNat []))) (some false) (back (W (t6+1)) t20 t21 t22 t23 t24 t30 t31 t32 t33 t34)))) k2)
def an_.loop14 (n:Nat)(spec_l1Same_:aa_->aa_->Option Bool)(k2:Option Bool)(N:Nat):an_.T14:=cw_ (fun _ _ _ _ _ _ _ _ _ _ _=>none) (an_.step14 n spec_l1Same_ k2) N
def an_:Nat->aa_->aa_->Option Bool
 |0,_,_=>none
 |n+1,o,append=>
  (cond (o.kind != append.kind) (some false) (cond (o.n_ != append.n_) (some false) (cond (!(o.s==append.s)) (some false) (cond ((o.list.length:Int) != (append.list.length:Int)) (some false) (cond ((o.names.length:Int) != (append.names.length:Int)) (some false) (an_.loop6 n (an_ n) (fun B2 B3 B4 B5 B6 B7 B8 B9 B10 B11=>(an_.loop14 n (an_ n) (some true) n 0 B2 B3 B4 B5 B6 B7 B8 B9 B10 B11)) n 0 o.kind o.n_ o.s o.list o.names append.kind append.n_ append.s append.list append.names))))))
def dT_:Nat->aa_->aa_->Option Bool
 |0,_,_=>none
 |n+1,a,b=>
  ((cH_ n (aa_.re a)).bind fun A1=>(cond A1 ((cH_ n (aa_.re b)).bind fun A2=>(cond A2 ((an_ n (aa_.re a) (aa_.re b)).bind fun A3=>(some A3)) (some false))) (some false)))
def ew_:Nat->c1_->Option Bool
 |0,_=>none
 |n+1,x=>
  (cond (!x.began) (some true) ((dE_ n x.view).bind fun A1=>((dE_ n x.last).bind fun A2=>((dT_ n (aa_.re A1) (aa_.re A2)).bind fun A3=>(some (!A3))))))
abbrev bK_.K3:Type:=(List ci_)->(List ci_)->Option Bool
abbrev bK_.T3:Type:=(List ci_)->(List ci_)->Int->Option Bool
def bK_.step3 (n:Nat)(k0:bK_.K3)(back:bK_.T3):bK_.T3:=fun a b i=>
 (cond (decide (i<(a.length:Int))) (cond (decide (i<(b.length:Int))) (inB i a.length (inB i b.length (let C1:Bool:=(!(cond (((a.getD i.toNat ci_.dflt).col)==((b.getD i.toNat ci_.dflt).col)) (cond (((a.getD i.toNat ci_.dflt).op)==((b.getD i.toNat ci_.dflt).op)) (cond (((a.getD i.toNat ci_.dflt).v)==((b.getD i.toNat ci_.dflt).v)) true false) false) false));(cond C1 (some false) (back a b (W (i+1))))))) (k0 a b)) (k0 a b))
def bK_.loop3 (n:Nat)(k0:bK_.K3)(N:Nat):bK_.T3:=cw_ (fun _ _ _=>none) (bK_.step3 n k0) N
def bK_:Nat->(List ci_)->(List ci_)->Option Bool
 |0,_,_=>none
 |n+1,a,b=>
  (bK_.loop3 n (fun B2 B3=>(some ((B2.length:Int)==(B3.length:Int)))) n a b 0)
abbrev b0_.K3:Type:=(List Int)->(List Int)->Option Bool
abbrev b0_.T3:Type:=(List Int)->(List Int)->Int->Option Bool
def b0_.step3 (n:Nat)(k0:b0_.K3)(back:b0_.T3):b0_.T3:=fun a b i=>
 (cond (decide (i<(a.length:Int))) (cond (decide (i<(b.length:Int))) (inB i a.length (inB i b.length (cond ((a.getD i.toNat 0) != (b.getD i.toNat 0)) (some false) (back a b (W (i+1)))))) (k0 a b)) (k0 a b))
def b0_.loop3 (n:Nat)(k0:b0_.K3)(N:Nat):b0_.T3:=cw_ (fun _ _ _=>none) (b0_.step3 n k0) N
def b0_:Nat->(List Int)->(List Int)->Option Bool
 |0,_,_=>none
 |n+1,a,b=>
  (b0_.loop3 n (fun B1 B2=>(some ((B1.length:Int)==(B2.length:Int)))) n a b 0)
def dS_:Nat->ax_->ax_->Option Bool
 |0,_,_=>none
 |n+1,o,append=>
  (cond (o.table==append.table) ((bK_ n o.where_ append.where_).bind fun A1=>(cond A1 (cond (o.order==append.order) (cond (o.down==append.down) (cond (o.first==append.first) ((b0_ n o.show_ append.show_).bind fun A2=>(cond A2 (cond (o.kids==append.kids) (cond (o.kidTable==append.kidTable) (some (o.kidCol==append.kidCol)) (some false)) (some false)) (some false))) (some false)) (some false)) (some false)) (some false))) (some false))
def fk_:Nat->Int->Option aa_
 |0,_=>none
 |n+1,n1=>
  ((cH_ n (aa_.mk 2 n1 [] [] [])).bind fun A1=>(cond (!A1) (some (aa_.mk 0 0 [] ([]:List aa_) ([]:List Bs))) (some (aa_.mk 2 n1 [] ([]:List aa_) ([]:List Bs)))))
def eW_:Nat->ax_->TRow->Int->Option aa_
 |0,_,_,_=>none
 |n+1,q,r,kids=>
  ((bQ_ n q r kids).bind fun A1=>((du_ n (aa_.re A1)).bind fun A2=>(some (aa_.re A2))))
abbrev bq_.K5:Type:=(List aa_)->(List Int)->Option ((List aa_)×(List Int))
abbrev bq_.T5:Type:=Int->Int->(List ci_)->Int->Bool->Int->(List Int)->Bool->Int->Int->(List TRow)->(List TKid)->(List aa_)->(List Int)->Option ((List aa_)×(List Int))
def bq_.step5 (n:Nat)(k0:bq_.K5)(back:bq_.T5):bq_.T5:=fun i v0 v1 v2 v3 v4 v5 v6 v7 v8 v9 v10 list keys=>
 ((dQ_ n (ax_.mk v0 v1 v2 v3 v4 v5 v6 v7 v8) (v9.length:Int)).bind fun A1=>(cond (decide (i<A1)) (inB i v9.length (inB i v9.length ((b7_ n (bF_.mk (ax_.mk v0 v1 v2 v3 v4 v5 v6 v7 v8) v9 v10) ((v9.getD i.toNat TRow.dflt).id_)).bind fun A2=>((eW_ n (ax_.mk v0 v1 v2 v3 v4 v5 v6 v7 v8) (v9.getD i.toNat TRow.dflt) A2).bind fun A3=>(bj_ (list.length+([(aa_.re A3)]:List aa_).length) 80 (inB i v9.length (bj_ (keys.length+([(v9.getD i.toNat TRow.dflt).id_]:List Int).length) 8 (back (W (i+1)) v0 v1 v2 v3 v4 v5 v6 v7 v8 v9 v10 (list++([(aa_.re A3)]:List aa_)) (keys++([(v9.getD i.toNat TRow.dflt).id_]:List Int)))))))))) (k0 list keys)))
def bq_.loop5 (n:Nat)(k0:bq_.K5)(N:Nat):bq_.T5:=cw_ (fun _ _ _ _ _ _ _ _ _ _ _ _ _ _=>none) (bq_.step5 n k0) N
def bq_:Nat->bF_->Option ((List aa_)×(List Int))
 |0,_=>none
 |n+1,v=>
  (bq_.loop5 n (fun B4 B5=>(some (B4,B5))) n 0 v.q.table v.q.where_ v.q.order v.q.down v.q.first v.q.show_ v.q.kids v.q.kidTable v.q.kidCol v.rows v.kids ([]:List aa_) ([]:List Int))
abbrev cA_.T3:Type:=(List Int)->Int->Int->Option Int
def cA_.step3 (n:Nat)(k0:Option Int)(back:cA_.T3):cA_.T3:=fun keys key i=>
 (cond (decide (i<(keys.length:Int))) (inB i keys.length (cond ((keys.getD i.toNat 0)==key) (some i) (back keys key (W (i+1))))) k0)
def cA_.loop3 (n:Nat)(k0:Option Int)(N:Nat):cA_.T3:=cw_ (fun _ _ _=>none) (cA_.step3 n k0) N
def cA_:Nat->(List Int)->Int->Option Int
 |0,_,_=>none
 |n+1,keys,key=>
  (cA_.loop3 n (some (-1)) n keys key 0)
abbrev aJ_.K3:Type:=(List Int)->(List aa_)->Option Bool
abbrev aJ_.T3:Type:=(List Int)->(List aa_)->Int->Option Bool
def aJ_.step3 (n:Nat)(k0:aJ_.K3)(back:aJ_.T3):aJ_.T3:=fun keys list i=>
 (cond (decide (i<(keys.length:Int))) (fF_ 0 i keys.length (inB i keys.length ((cA_ n ((keys.take i.toNat).drop 0) (keys.getD i.toNat 0)).bind fun A1=>(cond (decide (A1>=0)) (some false) (back keys list (W (i+1))))))) (k0 keys list))
def aJ_.loop3 (n:Nat)(k0:aJ_.K3)(N:Nat):aJ_.T3:=cw_ (fun _ _ _=>none) (aJ_.step3 n k0) N
abbrev aJ_.K11:Type:=(List Int)->(List aa_)->Option Bool
abbrev aJ_.T11:Type:=(List Int)->(List aa_)->Int->Option Bool
def aJ_.step11 (n:Nat)(k2:aJ_.K11)(back:aJ_.T11):aJ_.T11:=fun keys list i=>
 (cond (decide (i<(list.length:Int))) (inB i list.length ((cH_ n (aa_.re (list.getD i.toNat aa_.dflt))).bind fun A4=>(cond (!A4) (some false) (back keys list (W (i+1)))))) (k2 keys list))
def aJ_.loop11 (n:Nat)(k2:aJ_.K11)(N:Nat):aJ_.T11:=cw_ (fun _ _ _=>none) (aJ_.step11 n k2) N
def aJ_:Nat->(List Int)->(List aa_)->Option Bool
 |0,_,_=>none
 |n+1,keys,list=>
  (aJ_.loop3 n (fun B2 B3=>(aJ_.loop11 n (fun B5 B6=>(some ((B5.length:Int)==(B6.length:Int)))) n B2 B3 0)) n keys list 0)
def dp_:Nat->(List Int)->Int->Option (List Int)
 |0,_,_=>none
 |n+1,keys,at1=>
  (fF_ 0 at1 keys.length (bj_ (([]:List Int).length+((keys.take at1.toNat).drop 0).length) 8 (fF_ (W (at1+1)) (keys.length:Int) keys.length (bj_ ((([]:List Int)++((keys.take at1.toNat).drop 0)).length+((keys.take (keys.length:Int).toNat).drop (W (at1+1)).toNat).length) 8 (some ((([]:List Int)++((keys.take at1.toNat).drop 0))++((keys.take (keys.length:Int).toNat).drop (W (at1+1)).toNat)))))))
abbrev aF_.K4_1:Type:=Int->Int->Bs->Int->Int->Bs->(List aa_)->(List Bs)->Option aa_
abbrev aF_.T4:Type:=Int->Int->Int->Bs->(List aa_)->(List Bs)->Int->Int->Bs->Int->Int->Bs->(List aa_)->(List Bs)->Option aa_
def aF_.step4 (n:Nat)(spec_l1Copy_:aa_->Option aa_)(k0:aF_.K4_1)(back:aF_.T4):aF_.T4:=fun i j0 j1 j2 j3 j4 t20 t21 t22 out0 out1 out2 out3 out4=>
 (cond (decide (i<(j3.length:Int))) (inB i j3.length ((spec_l1Copy_ (aa_.re (j3.getD i.toNat aa_.dflt))).bind fun A1=>(bj_ (out3.length+([(aa_.re A1)]:List aa_).length) 80 (back (W (i+1)) j0 j1 j2 j3 j4 t20 t21 t22 out0 out1 out2 (out3++([(aa_.re A1)]:List aa_)) out4)))) (k0 t20 t21 t22 out0 out1 out2 out3 out4))
def aF_.loop4 (n:Nat)(spec_l1Copy_:aa_->Option aa_)(k0:aF_.K4_1)(N:Nat):aF_.T4:=cw_ (fun _ _ _ _ _ _ _ _ _ _ _ _ _ _=>none) (aF_.step4 n spec_l1Copy_ k0) N
def aF_:Nat->aa_->Option aa_
 |0,_=>none
 |n+1,j=>
  (bj_ (([]:List Bs).length+j.names.length) 16 (aF_.loop4 n (aF_ n) (fun B2 B3 B4 B5 B6 B7 B8 B9=>(some (aa_.mk B5 B6 B7 B8 B9))) n 0 j.kind j.n_ j.s j.list j.names 0 0 [] j.kind j.n_ j.s ([]:List aa_) (([]:List Bs)++j.names)))
def dP_:Nat->(List Int)->Int->Int->Option (List Int)
 |0,_,_,_=>none
 |n+1,keys,at1,key=>
  (fF_ 0 at1 keys.length (bj_ (([]:List Int).length+((keys.take at1.toNat).drop 0).length) 8 (bj_ ((([]:List Int)++((keys.take at1.toNat).drop 0)).length+([key]:List Int).length) 8 (fF_ at1 (keys.length:Int) keys.length (bj_ (((([]:List Int)++((keys.take at1.toNat).drop 0))++([key]:List Int)).length+((keys.take (keys.length:Int).toNat).drop at1.toNat).length) 8 (some (((([]:List Int)++((keys.take at1.toNat).drop 0))++([key]:List Int))++((keys.take (keys.length:Int).toNat).drop at1.toNat))))))))
abbrev aG_.K5:Type:=(List aa_)->(List Int)->(List aa_)->(List Int)->(List TOp)->(List Int)->Option (List TOp)
abbrev aG_.T5:Type:=(List aa_)->(List Int)->(List aa_)->(List Int)->Int->(List TOp)->(List Int)->Option (List TOp)
def aG_.step5 (n:Nat)(k0:aG_.K5)(back:aG_.T5):aG_.T5:=fun o append t2 t3 t11 t9 t10=>
 (cond (decide (t11>=0)) (inB t11 append.length ((cA_ n t3 (append.getD t11.toNat 0)).bind fun A1=>(cond (decide (A1<0)) ((aN_ n t11).bind fun A2=>(bj_ (t9.length+([(TOp.mk 2 ([A2]:List Bs) (aa_.mk 0 0 [] [] []))]:List TOp).length) 112 ((dp_ n t10 t11).bind fun A3=>(back o append t2 t3 (W (t11 - 1)) (t9++([(TOp.mk 2 ([A2]:List Bs) (aa_.mk 0 0 [] [] []))]:List TOp)) A3)))) (back o append t2 t3 (W (t11 - 1)) t9 t10)))) (k0 o append t2 t3 t9 t10))
def aG_.loop5 (n:Nat)(k0:aG_.K5)(N:Nat):aG_.T5:=cw_ (fun _ _ _ _ _ _ _=>none) (aG_.step5 n k0) N
abbrev aG_.K13:Type:=(List TOp)->Option (List TOp)
abbrev aG_.T13:Type:=(List aa_)->(List Int)->(List aa_)->(List Int)->Int->(List TOp)->(List Int)->Option (List TOp)
def aG_.step13 (n:Nat)(k2:aG_.K13)(back:aG_.T13):aG_.T13:=fun o append t2 t3 t12 t9 t10=>
 (cond (decide (t12<(t3.length:Int))) ((aN_ n t12).bind fun A10=>(inB t12 t3.length ((cA_ n t10 (t3.getD t12.toNat 0)).bind fun A11=>(cond (A11==t12) (inB t12 t3.length ((cA_ n append (t3.getD t12.toNat 0)).bind fun A12=>(inB A12 o.length (inB t12 t2.length ((an_ n (aa_.re (o.getD A12.toNat aa_.dflt)) (aa_.re (t2.getD t12.toNat aa_.dflt))).bind fun A13=>(cond (!A13) (inB t12 t2.length ((aF_ n (aa_.re (t2.getD t12.toNat aa_.dflt))).bind fun A14=>(bj_ (t9.length+([(TOp.mk 3 ([A10]:List Bs) (aa_.re A14))]:List TOp).length) 112 (back o append t2 t3 (W (t12+1)) (t9++([(TOp.mk 3 ([A10]:List Bs) (aa_.re A14))]:List TOp)) t10)))) (back o append t2 t3 (W (t12+1)) t9 t10))))))) (cond (decide (A11>=0)) ((aN_ n A11).bind fun A15=>(bj_ (t9.length+([(TOp.mk 2 ([A15]:List Bs) (aa_.mk 0 0 [] [] []))]:List TOp).length) 112 ((dp_ n t10 A11).bind fun A16=>(inB t12 t2.length ((aF_ n (aa_.re (t2.getD t12.toNat aa_.dflt))).bind fun A17=>(bj_ ((t9++([(TOp.mk 2 ([A15]:List Bs) (aa_.mk 0 0 [] [] []))]:List TOp)).length+([(TOp.mk 1 ([A10]:List Bs) (aa_.re A17))]:List TOp).length) 112 (inB t12 t3.length ((dP_ n A16 t12 (t3.getD t12.toNat 0)).bind fun A18=>(back o append t2 t3 (W (t12+1)) ((t9++([(TOp.mk 2 ([A15]:List Bs) (aa_.mk 0 0 [] [] []))]:List TOp))++([(TOp.mk 1 ([A10]:List Bs) (aa_.re A17))]:List TOp)) A18))))))))) (inB t12 t2.length ((aF_ n (aa_.re (t2.getD t12.toNat aa_.dflt))).bind fun A19=>(bj_ (t9.length+([(TOp.mk 1 ([A10]:List Bs) (aa_.re A19))]:List TOp).length) 112 (inB t12 t3.length ((dP_ n t10 t12 (t3.getD t12.toNat 0)).bind fun A20=>(back o append t2 t3 (W (t12+1)) (t9++([(TOp.mk 1 ([A10]:List Bs) (aa_.re A19))]:List TOp)) A20))))))))))) (k2 t9))
def aG_.loop13 (n:Nat)(k2:aG_.K13)(N:Nat):aG_.T13:=cw_ (fun _ _ _ _ _ _ _=>none) (aG_.step13 n k2) N
def aG_:Nat->(List aa_)->(List Int)->(List aa_)->(List Int)->Option (List TOp)
 |0,_,_,_,_=>none
 |n+1,o,append,a2,a3=>
  (bj_ (([]:List Int).length+append.length) 8 (aG_.loop5 n (fun B4 B5 B6 B7 B8 B9=>(aG_.loop13 n (fun B21=>(some B21)) n B4 B5 B6 B7 0 B8 B9)) n o append a2 a3 (W ((append.length:Int) - 1)) ([]:List TOp) (([]:List Int)++append)))
def fs_:Nat->(List aa_)->(List Int)->(List aa_)->(List Int)->Option (List TOp)
 |0,_,_,_,_=>none
 |n+1,old,oldKeys,now,nowKeys=>
  ((aJ_ n oldKeys old).bind fun A1=>(cond (!A1) (some ([]:List TOp)) ((aJ_ n nowKeys now).bind fun A2=>(cond (!A2) (some ([]:List TOp)) ((aG_ n old oldKeys now nowKeys).bind fun A3=>(some A3))))))
abbrev cd_.K4:Type:=(List TOp)->Option (List TOp)
abbrev cd_.T4:Type:=Bs->(List TOp)->Int->(List TOp)->Option (List TOp)
def cd_.step4 (n:Nat)(k0:cd_.K4)(back:cd_.T4):cd_.T4:=fun name list i out_1=>
 (cond (decide (i<(list.length:Int))) (inB i list.length (inB i list.length (bj_ (([name]:List Bs).length+((list.getD i.toNat TOp.dflt).way).length) 16 (inB i list.length ((aF_ n (aa_.re ((list.getD i.toNat TOp.dflt).value))).bind fun A1=>(bj_ (out_1.length+([(TOp.mk ((list.getD i.toNat TOp.dflt).kind) (([name]:List Bs)++((list.getD i.toNat TOp.dflt).way)) (aa_.re A1))]:List TOp).length) 112 (back name list (W (i+1)) (out_1++([(TOp.mk ((list.getD i.toNat TOp.dflt).kind) (([name]:List Bs)++((list.getD i.toNat TOp.dflt).way)) (aa_.re A1))]:List TOp))))))))) (k0 out_1))
def cd_.loop4 (n:Nat)(k0:cd_.K4)(N:Nat):cd_.T4:=cw_ (fun _ _ _ _=>none) (cd_.step4 n k0) N
def cd_:Nat->Bs->(List TOp)->Option (List TOp)
 |0,_,_=>none
 |n+1,name,list=>
  (cd_.loop4 n (fun B2=>(some B2)) n name list 0 ([]:List TOp))
def dr_:Nat->bF_->bF_->Option (List TOp)
 |0,_,_=>none
 |n+1,a,b=>
  ((dS_ n a.q b.q).bind fun A1=>(cond (!A1) (some ([]:List TOp)) (cond ((a.rows.length:Int) != (b.rows.length:Int)) ((fk_ n (b.rows.length:Int)).bind fun A2=>(bj_ (([]:List TOp).length+([(TOp.mk 3 ([[99,111,117,110,116]]:List Bs) (aa_.re A2))]:List TOp).length) 112 ((bq_ n a).bind fun A3=>((bq_ n b).bind fun A4=>((fs_ n A3.1 A3.2 A4.1 A4.2).bind fun A5=>((cd_ n [114,111,119,115] A5).bind fun A6=>(bj_ ((([]:List TOp)++([(TOp.mk 3 ([[99,111,117,110,116]]:List Bs) (aa_.re A2))]:List TOp)).length+A6.length) 112 (some ((([]:List TOp)++([(TOp.mk 3 ([[99,111,117,110,116]]:List Bs) (aa_.re A2))]:List TOp))++A6))))))))) ((bq_ n a).bind fun A7=>((bq_ n b).bind fun A8=>((fs_ n A7.1 A7.2 A8.1 A8.2).bind fun A9=>((cd_ n [114,111,119,115] A9).bind fun A10=>(bj_ (([]:List TOp).length+A10.length) 112 (some (([]:List TOp)++A10))))))))))
abbrev cs_.K6:Type:=Int->(List Bs)->Int->Int->Bs->(List aa_)->(List Bs)->Option Bool
abbrev cs_.T6:Type:=Int->Int->(List Bs)->Int->Int->Bs->(List aa_)->(List Bs)->Option Bool
def cs_.step6 (n:Nat)(k0:cs_.K6)(back:cs_.T6):cs_.T6:=fun i o0 o1 o2 o3 o4 o5 o6=>
 (cond (decide (i<(o1.length:Int))) (inB i o1.length ((b5_ n (o1.getD i.toNat [])).bind fun A3=>(cond (!A3) (some false) (back (W (i+1)) o0 o1 o2 o3 o4 o5 o6)))) (k0 o0 o1 o2 o3 o4 o5 o6))
def cs_.loop6 (n:Nat)(k0:cs_.K6)(N:Nat):cs_.T6:=cw_ (fun _ _ _ _ _ _ _ _=>none) (cs_.step6 n k0) N
def cs_:Nat->TOp->Option Bool
 |0,_=>none
 |n+1,o=>
  ((b4_ n o.kind 1 4).bind fun A1=>(cond (!A1) (some false) (cond (decide ((o.way.length:Int) > 6)) (some false) ((cH_ n (aa_.re o.value)).bind fun A2=>(cond (!A2) (some false) (cs_.loop6 n (fun B4 B5 B6 B7 B8 B9 B10=>(cond (B4 != 2) (some true) ((an_ n (aa_.mk B6 B7 B8 B9 B10) (aa_.mk 0 0 [] [] [])).bind fun A11=>(some A11)))) n 0 o.kind o.way o.value.kind o.value.n_ o.value.s o.value.list o.value.names))))))
def dD_:Nat->Unit->Option (List Bs)
 |0,_=>none
 |n+1,_u=>
  (some ([[],[97,100,100],[114,101,109,111,118,101],[114,101,112,108,97,99,101],[116,101,115,116]]:List Bs))
abbrev aE_.K10:Type:=(List Bs)->Int->(List Int)->Option Bs
abbrev aE_.T10:Type:=(List Bs)->Int->Int->(List Int)->Option Bs
def aE_.step10 (n:Nat)(k2:aE_.K10)(back:aE_.T10):aE_.T10:=fun way i k out_1=>
 (inB i way.length (cond (decide (k<((way.getD i.toNat []).length:Int))) (inB i way.length (inB k (way.getD i.toNat []).length (cond ((((way.getD i.toNat []).getD k.toNat 0).toNat:Int)==126) (bj_ (out_1.length+([126,48]:List Int).length) 1 (back way i (W (k+1)) (out_1++([126,48]:List Int)))) (cond ((((way.getD i.toNat []).getD k.toNat 0).toNat:Int)==47) (bj_ (out_1.length+([126,49]:List Int).length) 1 (back way i (W (k+1)) (out_1++([126,49]:List Int)))) (inB i way.length (inB k (way.getD i.toNat []).length (bj_ (out_1.length+([(((way.getD i.toNat []).getD k.toNat 0).toNat:Int)]:List Int).length) 1 (back way i (W (k+1)) (out_1++([(((way.getD i.toNat []).getD k.toNat 0).toNat:Int)]:List Int)))))))))) (k2 way i out_1)))
def aE_.loop10 (n:Nat)(k2:aE_.K10)(N:Nat):aE_.T10:=cw_ (fun _ _ _ _=>none) (aE_.step10 n k2) N
abbrev aE_.K4:Type:=(List Int)->Option Bs
abbrev aE_.T4:Type:=(List Bs)->Int->(List Int)->Option Bs
def aE_.step4 (n:Nat)(k0:aE_.K4)(back:aE_.T4):aE_.T4:=fun way i out_1=>
 (cond (decide (i<(way.length:Int))) (bj_ (out_1.length+([47]:List Int).length) 1 (aE_.loop10 n (fun B1 B2 B3=>(back B1 (W (B2+1)) B3)) n way i 0 (out_1++([47]:List Int)))) (k0 out_1))
def aE_.loop4 (n:Nat)(k0:aE_.K4)(N:Nat):aE_.T4:=cw_ (fun _ _ _=>none) (aE_.step4 n k0) N
def aE_:Nat->(List Bs)->Option Bs
 |0,_=>none
 |n+1,way=>
  (aE_.loop4 n (fun B4=>(some (i6_ B4))) n way 0 ([]:List Int))
def ek_:Nat->TOp->Option aa_
 |0,_=>none
 |n+1,o=>
  ((cs_ n (TOp.mk o.kind o.way (aa_.re o.value))).bind fun A1=>(cond (!A1) (some (aa_.mk 0 0 [] ([]:List aa_) ([]:List Bs))) ((dD_ n ()).bind fun A2=>(inB o.kind A2.length ((aE_ n o.way).bind fun A3=>(cond (o.kind != 2) ((aF_ n (aa_.re o.value)).bind fun A4=>((bM_ n (aa_.mk 5 0 [] ([(aa_.mk 3 0 (A2.getD o.kind.toNat []) [] []),(aa_.mk 3 0 A3 [] [])]:List aa_) ([[111,112],[112,97,116,104]]:List Bs)) [118,97,108,117,101] (aa_.re A4)).bind fun A5=>((cH_ n (aa_.re A5)).bind fun A6=>(cond (!A6) (some (aa_.mk 0 0 [] ([]:List aa_) ([]:List Bs))) (some (aa_.re A5)))))) ((cH_ n (aa_.mk 5 0 [] ([(aa_.mk 3 0 (A2.getD o.kind.toNat []) [] []),(aa_.mk 3 0 A3 [] [])]:List aa_) ([[111,112],[112,97,116,104]]:List Bs))).bind fun A7=>(cond (!A7) (some (aa_.mk 0 0 [] ([]:List aa_) ([]:List Bs))) (some (aa_.mk 5 0 [] ([(aa_.mk 3 0 (A2.getD o.kind.toNat []) [] []),(aa_.mk 3 0 A3 [] [])]:List aa_) ([[111,112],[112,97,116,104]]:List Bs)))))))))))
abbrev bv_.K4:Type:=(List Int)->Option Bs
abbrev bv_.T4:Type:=Bs->Int->(List Int)->Option Bs
def bv_.step4 (n:Nat)(k0:bv_.K4)(back:bv_.T4):bv_.T4:=fun s i out_1=>
 (cond (decide (i<(s.length:Int))) (inB i s.length (cond (((s.getD i.toNat 0).toNat:Int)==34) (bj_ (out_1.length+([92]:List Int).length) 1 (inB i s.length (bj_ ((out_1++([92]:List Int)).length+([((s.getD i.toNat 0).toNat:Int)]:List Int).length) 1 (back s (W (i+1)) ((out_1++([92]:List Int))++([((s.getD i.toNat 0).toNat:Int)]:List Int)))))) (inB i s.length (cond (((s.getD i.toNat 0).toNat:Int)==92) (bj_ (out_1.length+([92]:List Int).length) 1 (inB i s.length (bj_ ((out_1++([92]:List Int)).length+([((s.getD i.toNat 0).toNat:Int)]:List Int).length) 1 (back s (W (i+1)) ((out_1++([92]:List Int))++([((s.getD i.toNat 0).toNat:Int)]:List Int)))))) (inB i s.length (bj_ (out_1.length+([((s.getD i.toNat 0).toNat:Int)]:List Int).length) 1 (back s (W (i+1)) (out_1++([((s.getD i.toNat 0).toNat:Int)]:List Int))))))))) (k0 out_1))
def bv_.loop4 (n:Nat)(k0:bv_.K4)(N:Nat):bv_.T4:=cw_ (fun _ _ _=>none) (bv_.step4 n k0) N
def bv_:Nat->Bs->Option Bs
 |0,_=>none
 |n+1,s=>
  (bv_.loop4 n (fun B1=>(bj_ (B1.length+([34]:List Int).length) 1 (some (i6_ (B1++([34]:List Int)))))) n s 0 ([34]:List Int))
abbrev aO_.K17_1:Type:=Bs->Int->Int->Bs->(List aa_)->(List Bs)->Option Bs
abbrev aO_.T17:Type:=Bs->Int->Int->Int->Bs->(List aa_)->(List Bs)->Option Bs
def aO_.step17 (n:Nat)(spec_l2Encode_:aa_->Option Bs)(k1:aO_.K17_1)(back:aO_.T17):aO_.T17:=fun out_1 i j0 j1 j2 j3 j4=>
 (cond (decide (i<(j3.length:Int))) (cond (decide (i > 0)) (cond (decide (out_1.length+[44].length<=9223372036854775807)) (cond (j0==5) (inB i j4.length ((bv_ n (j4.getD i.toNat [])).bind fun A3=>(cond (decide ((out_1++[44]).length+A3.length<=9223372036854775807)) (cond (decide (((out_1++[44])++A3).length+[58].length<=9223372036854775807)) (inB i j3.length ((spec_l2Encode_ (aa_.re (j3.getD i.toNat aa_.dflt))).bind fun A4=>(cond (decide ((((out_1++[44])++A3)++[58]).length+A4.length<=9223372036854775807)) (back ((((out_1++[44])++A3)++[58])++A4) (W (i+1)) j0 j1 j2 j3 j4) none))) none) none))) (inB i j3.length ((spec_l2Encode_ (aa_.re (j3.getD i.toNat aa_.dflt))).bind fun A5=>(cond (decide ((out_1++[44]).length+A5.length<=9223372036854775807)) (back ((out_1++[44])++A5) (W (i+1)) j0 j1 j2 j3 j4) none)))) none) (cond (j0==5) (inB i j4.length ((bv_ n (j4.getD i.toNat [])).bind fun A6=>(cond (decide (out_1.length+A6.length<=9223372036854775807)) (cond (decide ((out_1++A6).length+[58].length<=9223372036854775807)) (inB i j3.length ((spec_l2Encode_ (aa_.re (j3.getD i.toNat aa_.dflt))).bind fun A7=>(cond (decide (((out_1++A6)++[58]).length+A7.length<=9223372036854775807)) (back (((out_1++A6)++[58])++A7) (W (i+1)) j0 j1 j2 j3 j4) none))) none) none))) (inB i j3.length ((spec_l2Encode_ (aa_.re (j3.getD i.toNat aa_.dflt))).bind fun A8=>(cond (decide (out_1.length+A8.length<=9223372036854775807)) (back (out_1++A8) (W (i+1)) j0 j1 j2 j3 j4) none))))) (k1 out_1 j0 j1 j2 j3 j4))
def aO_.loop17 (n:Nat)(spec_l2Encode_:aa_->Option Bs)(k1:aO_.K17_1)(N:Nat):aO_.T17:=cw_ (fun _ _ _ _ _ _ _=>none) (aO_.step17 n spec_l2Encode_ k1) N
def aO_:Nat->aa_->Option Bs
 |0,_=>none
 |n+1,j=>
  (cond (j.kind==0) (some [110,117,108,108]) (cond (j.kind==1) (cond (j.n_==1) (some [116,114,117,101]) (some [102,97,108,115,101])) (cond (j.kind==2) ((aN_ n j.n_).bind fun A1=>(some A1)) (cond (j.kind==3) ((bv_ n j.s).bind fun A2=>(some A2)) (aO_.loop17 n (aO_ n) (fun B9 B10 B11 B12 B13 B14=>(cond (B10==5) (cond (decide ([123].length+B9.length<=9223372036854775807)) (cond (decide ((([123]:Bs)++B9).length+[125].length<=9223372036854775807)) (some ((([123]:Bs)++B9)++[125])) none) none) (cond (decide ([91].length+B9.length<=9223372036854775807)) (cond (decide ((([91]:Bs)++B9).length+[93].length<=9223372036854775807)) (some ((([91]:Bs)++B9)++[93])) none) none))) n [] 0 j.kind j.n_ j.s j.list j.names)))))
def c9_:Nat->aa_->Option Bs
 |0,_=>none
 |n+1,j=>
  ((cH_ n (aa_.re j)).bind fun A1=>(cond (!A1) (some []) ((aO_ n (aa_.re j)).bind fun A2=>(cond (decide ((A2.length:Int) > 6000)) (some []) (some A2)))))
abbrev a3_.K4:Type:=Int->Int->Bs->(List aa_)->Option Int
abbrev a3_.T4:Type:=(List TOp)->Int->Int->Int->Bs->(List aa_)->Option Int
def a3_.step4 (n:Nat)(k0:a3_.K4)(back:a3_.T4):a3_.T4:=fun list i j0 j1 j2 j3=>
 (cond (decide (i<(list.length:Int))) (inB i list.length ((ek_ n { (list.getD i.toNat TOp.dflt) with value:=(aa_.re ((list.getD i.toNat TOp.dflt).value)) }).bind fun A1=>(cond (A1.kind==0) (some (-1)) (bj_ (j3.length+([(aa_.re A1)]:List aa_).length) 80 (back list (W (i+1)) j0 j1 j2 (j3++([(aa_.re A1)]:List aa_))))))) (k0 j0 j1 j2 j3))
def a3_.loop4 (n:Nat)(k0:a3_.K4)(N:Nat):a3_.T4:=cw_ (fun _ _ _ _ _ _=>none) (a3_.step4 n k0) N
def a3_:Nat->(List TOp)->Option Int
 |0,_=>none
 |n+1,list=>
  (a3_.loop4 n (fun B2 B3 B4 B5=>((c9_ n (aa_.mk B2 B3 B4 B5 [])).bind fun A6=>(cond (A6==[]) (some (-1)) (some (A6.length:Int))))) n list 0 4 0 [] ([]:List aa_))
def eu_:Nat->bF_->bF_->Option Bool
 |0,_,_=>none
 |n+1,a,b=>
  ((dr_ n a b).bind fun A1=>((a3_ n A1).bind fun A2=>(cond (decide ((A1.length:Int)<=40)) (cond (decide (A2>=0)) ((dE_ n b).bind fun A3=>((c9_ n (aa_.re A3)).bind fun A4=>(some (decide (A2<(A4.length:Int)))))) (some false)) (some false))))
def dR_:Nat->c1_->Option (c1_×ar_×Bool)
 |0,_=>none
 |n+1,x=>
  ((ec_ n x).bind fun A1=>((ew_ n x).bind fun A2=>(cond (!A2) (some (A1,(ar_.mk 0 0 0 (aa_.mk 0 0 [] [] []) ([]:List TOp)),false)) ((dE_ n x.view).bind fun A3=>(cond x.began ((eu_ n x.last x.view).bind fun A4=>(cond A4 ((dr_ n x.last x.view).bind fun A5=>((c8_ n x.view).bind fun A6=>(some ({ A1 with last:=A6,lastVersion:=x.version,began:=true },(ar_.mk 2 x.version x.lastVersion (aa_.mk 0 0 [] [] []) A5),true)))) ((c8_ n x.view).bind fun A7=>(some ({ A1 with last:=A7,lastVersion:=x.version,began:=true },(ar_.mk 1 x.version 0 (aa_.re A3) ([]:List TOp)),true))))) ((c8_ n x.view).bind fun A8=>(some ({ A1 with last:=A8,lastVersion:=x.version,began:=true },(ar_.mk 1 x.version 0 (aa_.re A3) ([]:List TOp)),true))))))))
def dO_:Nat->am_->aA_->Option (TMut×am_)
 |0,_,_=>none
 |n+1,o,append=>
  ((cT_ n (append.tables.length:Int) 1).bind fun A1=>((ap_ n o A1).bind fun A2=>(cond (decide (A2.1>=(append.tables.length:Int))) (some ((TMut.mk 3 0 (TRow.mk 1 ([]:List Int))),A2.2)) (cond (decide (A2.1>=(append.schema.cols.length:Int))) (some ((TMut.mk 3 0 (TRow.mk 1 ([]:List Int))),A2.2)) ((ap_ n A2.2 3).bind fun A3=>(inB A2.1 append.schema.cols.length ((a5_ n A3.2 (append.schema.cols.getD A2.1.toNat 0)).bind fun A4=>(cond ((W (1+A3.1)) != 1) (inB A2.1 append.tables.length (cond (decide (((append.tables.getD A2.1.toNat []).length:Int) > 0)) ((cV_ n A4.2 9).bind fun A5=>(cond (!A5.1) (inB A2.1 append.tables.length (inB A2.1 append.tables.length ((ap_ n A5.2 ((append.tables.getD A2.1.toNat []).length:Int)).bind fun A6=>(inB A6.1 (append.tables.getD A2.1.toNat []).length (cond ((W (1+A3.1))==3) ((ap_ n A6.2 25).bind fun A7=>(cond (A7.1==0) ((ap_ n A7.2 5).bind fun A8=>(some ((TMut.mk A8.1 A2.1 (TRow.mk (((append.tables.getD A2.1.toNat []).getD A6.1.toNat TRow.dflt).id_) ([]:List Int))),A8.2))) (cond (A7.1==1) ((ap_ n A7.2 5).bind fun A9=>(some ((TMut.mk (W (1+A3.1)) (W (A9.1 - 1)) (TRow.mk (((append.tables.getD A2.1.toNat []).getD A6.1.toNat TRow.dflt).id_) ([]:List Int))),A9.2))) (cond (A7.1==2) ((b8_ n A7.2 ([0,999,1000]:List Int)).bind fun A10=>(some ((TMut.mk (W (1+A3.1)) A2.1 (TRow.mk A10.1 ([]:List Int))),A10.2))) (some ((TMut.mk (W (1+A3.1)) A2.1 (TRow.mk (((append.tables.getD A2.1.toNat []).getD A6.1.toNat TRow.dflt).id_) ([]:List Int))),A7.2)))))) ((ap_ n A6.2 25).bind fun A11=>(cond (A11.1==0) ((ap_ n A11.2 5).bind fun A12=>(some ((TMut.mk A12.1 A2.1 (TRow.mk (((append.tables.getD A2.1.toNat []).getD A6.1.toNat TRow.dflt).id_) A4.1.cells)),A12.2))) (cond (A11.1==1) ((ap_ n A11.2 5).bind fun A13=>(some ((TMut.mk (W (1+A3.1)) (W (A13.1 - 1)) (TRow.mk (((append.tables.getD A2.1.toNat []).getD A6.1.toNat TRow.dflt).id_) A4.1.cells)),A13.2))) (cond (A11.1==2) ((b8_ n A11.2 ([0,999,1000]:List Int)).bind fun A14=>(some ((TMut.mk (W (1+A3.1)) A2.1 (TRow.mk A14.1 A4.1.cells)),A14.2))) (some ((TMut.mk (W (1+A3.1)) A2.1 (TRow.mk (((append.tables.getD A2.1.toNat []).getD A6.1.toNat TRow.dflt).id_) A4.1.cells)),A11.2))))))))))) (cond ((W (1+A3.1))==3) ((ap_ n A5.2 25).bind fun A15=>(cond (A15.1==0) ((ap_ n A15.2 5).bind fun A16=>(some ((TMut.mk A16.1 A2.1 (TRow.mk A4.1.id_ ([]:List Int))),A16.2))) (cond (A15.1==1) ((ap_ n A15.2 5).bind fun A17=>(some ((TMut.mk (W (1+A3.1)) (W (A17.1 - 1)) (TRow.mk A4.1.id_ ([]:List Int))),A17.2))) (cond (A15.1==2) ((b8_ n A15.2 ([0,999,1000]:List Int)).bind fun A18=>(some ((TMut.mk (W (1+A3.1)) A2.1 (TRow.mk A18.1 ([]:List Int))),A18.2))) (some ((TMut.mk (W (1+A3.1)) A2.1 (TRow.mk A4.1.id_ ([]:List Int))),A15.2)))))) ((ap_ n A5.2 25).bind fun A19=>(cond (A19.1==0) ((ap_ n A19.2 5).bind fun A20=>(some ((TMut.mk A20.1 A2.1 A4.1),A20.2))) (cond (A19.1==1) ((ap_ n A19.2 5).bind fun A21=>(some ((TMut.mk (W (1+A3.1)) (W (A21.1 - 1)) A4.1),A21.2))) (cond (A19.1==2) ((b8_ n A19.2 ([0,999,1000]:List Int)).bind fun A22=>(some ((TMut.mk (W (1+A3.1)) A2.1 (TRow.mk A22.1 A4.1.cells)),A22.2))) (some ((TMut.mk (W (1+A3.1)) A2.1 A4.1),A19.2))))))))) (cond ((W (1+A3.1))==3) ((ap_ n A4.2 25).bind fun A23=>(cond (A23.1==0) ((ap_ n A23.2 5).bind fun A24=>(some ((TMut.mk A24.1 A2.1 (TRow.mk A4.1.id_ ([]:List Int))),A24.2))) (cond (A23.1==1) ((ap_ n A23.2 5).bind fun A25=>(some ((TMut.mk (W (1+A3.1)) (W (A25.1 - 1)) (TRow.mk A4.1.id_ ([]:List Int))),A25.2))) (cond (A23.1==2) ((b8_ n A23.2 ([0,999,1000]:List Int)).bind fun A26=>(some ((TMut.mk (W (1+A3.1)) A2.1 (TRow.mk A26.1 ([]:List Int))),A26.2))) (some ((TMut.mk (W (1+A3.1)) A2.1 (TRow.mk A4.1.id_ ([]:List Int))),A23.2)))))) ((ap_ n A4.2 25).bind fun A27=>(cond (A27.1==0) ((ap_ n A27.2 5).bind fun A28=>(some ((TMut.mk A28.1 A2.1 A4.1),A28.2))) (cond (A27.1==1) ((ap_ n A27.2 5).bind fun A29=>(some ((TMut.mk (W (1+A3.1)) (W (A29.1 - 1)) A4.1),A29.2))) (cond (A27.1==2) ((b8_ n A27.2 ([0,999,1000]:List Int)).bind fun A30=>(some ((TMut.mk (W (1+A3.1)) A2.1 (TRow.mk A30.1 A4.1.cells)),A30.2))) (some ((TMut.mk (W (1+A3.1)) A2.1 A4.1),A27.2))))))))) (cond ((W (1+A3.1))==3) ((ap_ n A4.2 25).bind fun A31=>(cond (A31.1==0) ((ap_ n A31.2 5).bind fun A32=>(some ((TMut.mk A32.1 A2.1 (TRow.mk A4.1.id_ ([]:List Int))),A32.2))) (cond (A31.1==1) ((ap_ n A31.2 5).bind fun A33=>(some ((TMut.mk (W (1+A3.1)) (W (A33.1 - 1)) (TRow.mk A4.1.id_ ([]:List Int))),A33.2))) (cond (A31.1==2) ((b8_ n A31.2 ([0,999,1000]:List Int)).bind fun A34=>(some ((TMut.mk (W (1+A3.1)) A2.1 (TRow.mk A34.1 ([]:List Int))),A34.2))) (some ((TMut.mk (W (1+A3.1)) A2.1 (TRow.mk A4.1.id_ ([]:List Int))),A31.2)))))) ((ap_ n A4.2 25).bind fun A35=>(cond (A35.1==0) ((ap_ n A35.2 5).bind fun A36=>(some ((TMut.mk A36.1 A2.1 A4.1),A36.2))) (cond (A35.1==1) ((ap_ n A35.2 5).bind fun A37=>(some ((TMut.mk (W (1+A3.1)) (W (A37.1 - 1)) A4.1),A37.2))) (cond (A35.1==2) ((b8_ n A35.2 ([0,999,1000]:List Int)).bind fun A38=>(some ((TMut.mk (W (1+A3.1)) A2.1 (TRow.mk A38.1 A4.1.cells)),A38.2))) (some ((TMut.mk (W (1+A3.1)) A2.1 A4.1),A35.2)))))))))))))))
def fl_:Nat->a7_->TMut->Option Bool
 |0,_,_=>none
 |n+1,s,m=>
  (cond (m.kind==3) ((a1_ n s).bind fun A1=>(cond A1 ((b4_ n m.table 0 (W ((s.cols.length:Int) - 1))).bind fun A2=>(cond A2 ((b4_ n m.row.id_ 1 999).bind fun A3=>(cond A3 (some ((m.row.cells.length:Int)==0)) (some false))) (some false))) (some false))) ((b4_ n m.kind 1 2).bind fun A4=>(cond A4 ((cl_ n s m.table m.row).bind fun A5=>(some A5)) (some false))))
abbrev bx_.K4:Type:=Int->Int->(List Int)->(List (List TRow))->Option aA_
abbrev bx_.T4:Type:=Int->(List Int)->Int->(List (List TRow))->Int->Int->(List Int)->(List (List TRow))->Option aA_
def bx_.step4 (n:Nat)(k0:bx_.K4)(back:bx_.T4):bx_.T4:=fun t s0 s1 s2 t21 out1 out0 out2=>
 (cond (decide (t<(s2.length:Int))) (inB t s2.length ((bX_ n (s2.getD t.toNat [])).bind fun A2=>(bj_ (out2.length+([A2]:List (List TRow)).length) 24 (back (W (t+1)) s0 s1 s2 t21 out1 out0 (out2++([A2]:List (List TRow))))))) (k0 t21 out1 out0 out2))
def bx_.loop4 (n:Nat)(k0:bx_.K4)(N:Nat):bx_.T4:=cw_ (fun _ _ _ _ _ _ _ _=>none) (bx_.step4 n k0) N
def bx_:Nat->aA_->Option aA_
 |0,_=>none
 |n+1,s=>
  ((dN_ n s.schema).bind fun A1=>(bx_.loop4 n (fun B3 B4 B5 B6=>(some (aA_.mk (a7_.mk B5) B4 B6))) n 0 s.schema.cols s.version s.tables 0 s.version A1.cols ([]:List (List TRow))))
def fK_:Nat->aA_->TMut->Option (aA_×aX_×Bool)
 |0,_,_=>none
 |n+1,o,append=>
  (inB append.table o.tables.length ((cf_ n (o.tables.getD append.table.toNat []) append.row.id_).bind fun A1=>(cond (!((decide (A1>=0))==(append.kind != 1))) (some (o,(aX_.mk 0 false false (TRow.mk 0 ([]:List Int)) (TRow.mk 0 ([]:List Int))),false)) (cond (append.kind==1) (cond (((o.tables.getD append.table.toNat []).length:Int)==24) (some (o,(aX_.mk 0 false false (TRow.mk 0 ([]:List Int)) (TRow.mk 0 ([]:List Int))),false)) (cond (append.kind != 1) (inB A1 (o.tables.getD append.table.toNat []).length ((cB_ n ((o.tables.getD append.table.toNat []).getD A1.toNat TRow.dflt)).bind fun A2=>(cond (append.kind != 3) ((cB_ n append.row).bind fun A3=>((bG_ n (o.tables.getD append.table.toNat []) append.row).bind fun A4=>(inB append.table o.tables.length (let D5:List (List TRow):=o.tables.set append.table.toNat A4;(some ((aA_.mk o.schema o.version D5),(aX_.mk append.table (append.kind != 1) (append.kind != 3) A2 A3),true)))))) ((bh_ n (o.tables.getD append.table.toNat []) append.row.id_).bind fun A6=>(inB append.table o.tables.length (let D7:List (List TRow):=o.tables.set append.table.toNat A6;(some ((aA_.mk o.schema o.version D7),(aX_.mk append.table (append.kind != 1) (append.kind != 3) A2 (TRow.mk 0 ([]:List Int))),true)))))))) (cond (append.kind != 3) ((cB_ n append.row).bind fun A8=>((bG_ n (o.tables.getD append.table.toNat []) append.row).bind fun A9=>(inB append.table o.tables.length (let D10:List (List TRow):=o.tables.set append.table.toNat A9;(some ((aA_.mk o.schema o.version D10),(aX_.mk append.table (append.kind != 1) (append.kind != 3) (TRow.mk 0 ([]:List Int)) A8),true)))))) ((bh_ n (o.tables.getD append.table.toNat []) append.row.id_).bind fun A11=>(inB append.table o.tables.length (let D12:List (List TRow):=o.tables.set append.table.toNat A11;(some ((aA_.mk o.schema o.version D12),(aX_.mk append.table (append.kind != 1) (append.kind != 3) (TRow.mk 0 ([]:List Int)) (TRow.mk 0 ([]:List Int))),true)))))))) (cond (append.kind != 1) (inB A1 (o.tables.getD append.table.toNat []).length ((cB_ n ((o.tables.getD append.table.toNat []).getD A1.toNat TRow.dflt)).bind fun A13=>(cond (append.kind != 3) ((cB_ n append.row).bind fun A14=>((bG_ n (o.tables.getD append.table.toNat []) append.row).bind fun A15=>(inB append.table o.tables.length (let D16:List (List TRow):=o.tables.set append.table.toNat A15;(some ((aA_.mk o.schema o.version D16),(aX_.mk append.table (append.kind != 1) (append.kind != 3) A13 A14),true)))))) ((bh_ n (o.tables.getD append.table.toNat []) append.row.id_).bind fun A17=>(inB append.table o.tables.length (let D18:List (List TRow):=o.tables.set append.table.toNat A17;(some ((aA_.mk o.schema o.version D18),(aX_.mk append.table (append.kind != 1) (append.kind != 3) A13 (TRow.mk 0 ([]:List Int))),true)))))))) (cond (append.kind != 3) ((cB_ n append.row).bind fun A19=>((bG_ n (o.tables.getD append.table.toNat []) append.row).bind fun A20=>(inB append.table o.tables.length (let D21:List (List TRow):=o.tables.set append.table.toNat A20;(some ((aA_.mk o.schema o.version D21),(aX_.mk append.table (append.kind != 1) (append.kind != 3) (TRow.mk 0 ([]:List Int)) A19),true)))))) ((bh_ n (o.tables.getD append.table.toNat []) append.row.id_).bind fun A22=>(inB append.table o.tables.length (let D23:List (List TRow):=o.tables.set append.table.toNat A22;(some ((aA_.mk o.schema o.version D23),(aX_.mk append.table (append.kind != 1) (append.kind != 3) (TRow.mk 0 ([]:List Int)) (TRow.mk 0 ([]:List Int))),true)))))))))))
def e1_:Nat->aA_->TMut->Option (aA_×aX_×Bool)
 |0,_,_=>none
 |n+1,s,m=>
  ((bD_ n s).bind fun A1=>(cond (!A1) (some ((aA_.mk (a7_.mk ([]:List Int)) 0 ([]:List (List TRow))),(aX_.mk 0 false false (TRow.mk 0 ([]:List Int)) (TRow.mk 0 ([]:List Int))),false)) ((fl_ n s.schema m).bind fun A2=>(cond (!A2) ((bx_ n s).bind fun A3=>(some (A3,(aX_.mk 0 false false (TRow.mk 0 ([]:List Int)) (TRow.mk 0 ([]:List Int))),false))) ((bx_ n s).bind fun A4=>((fK_ n A4 m).bind fun A5=>(cond (!A5.2.2) ((bx_ n s).bind fun A6=>(some (A6,(aX_.mk 0 false false (TRow.mk 0 ([]:List Int)) (TRow.mk 0 ([]:List Int))),false))) (some (A5.1,A5.2.1,true)))))))))
def az_.tail9 (n:Nat) (kn:Int->(List Int)->Int->Int->(List Int)->Int->(List (List TRow))->(List TMut)->Option ((List TMut)×am_)) (i:Int) (c0:List Int) (c1:Int) (c2:Int) (now0:List Int) (now1:Int) (now2:List (List TRow)) (list:List TMut) (m0:Int) (m1:Int) (m2:Int) (m3:List Int):Option ((List TMut)×am_) :=
 ((e1_ n (aA_.mk (a7_.mk now0) now1 now2) (TMut.mk m0 m1 (TRow.mk m2 m3))).bind fun A3=>(cond A3.2.2 (cond A3.2.2 (bj_ (list.length+([(TMut.mk m0 m1 (TRow.mk m2 m3))]:List TMut).length) 48 (kn i c0 c1 c2 A3.1.schema.cols A3.1.version A3.1.tables (list++([(TMut.mk m0 m1 (TRow.mk m2 m3))]:List TMut)))) ((cV_ n (am_.mk c0 c1 c2) 9).bind fun A4=>(cond A4.1 (bj_ (list.length+([(TMut.mk m0 m1 (TRow.mk m2 m3))]:List TMut).length) 48 (kn i A4.2.b A4.2.i A4.2.h A3.1.schema.cols A3.1.version A3.1.tables (list++([(TMut.mk m0 m1 (TRow.mk m2 m3))]:List TMut)))) (kn i A4.2.b A4.2.i A4.2.h A3.1.schema.cols A3.1.version A3.1.tables list)))) (cond A3.2.2 (bj_ (list.length+([(TMut.mk m0 m1 (TRow.mk m2 m3))]:List TMut).length) 48 (kn i c0 c1 c2 now0 now1 now2 (list++([(TMut.mk m0 m1 (TRow.mk m2 m3))]:List TMut)))) ((cV_ n (am_.mk c0 c1 c2) 9).bind fun A5=>(cond A5.1 (bj_ (list.length+([(TMut.mk m0 m1 (TRow.mk m2 m3))]:List TMut).length) 48 (kn i A5.2.b A5.2.i A5.2.h now0 now1 now2 (list++([(TMut.mk m0 m1 (TRow.mk m2 m3))]:List TMut)))) (kn i A5.2.b A5.2.i A5.2.h now0 now1 now2 list))))))
abbrev az_.K5:Type:=(List Int)->Int->Int->(List TMut)->Option ((List TMut)×am_)
abbrev az_.T5:Type:=Int->(List Int)->Int->Int->(List Int)->Int->(List (List TRow))->(List TMut)->Option ((List TMut)×am_)
def az_.step5 (n:Nat)(k0:az_.K5)(back:az_.T5):az_.T5:=fun i c0 c1 c2 now0 now1 now2 list=>
 ((ap_ n (am_.mk c0 c1 c2) 3).bind fun A1=>(cond (decide (i<(W (1+A1.1)))) ((dO_ n A1.2 (aA_.mk (a7_.mk now0) now1 now2)).bind fun A2=>(az_.tail9 n (fun B6 B7 B8 B9 B10 B11 B12 B13=>(back (W (B6+1)) B7 B8 B9 B10 B11 B12 B13)) i A2.2.b A2.2.i A2.2.h now0 now1 now2 list A2.1.kind A2.1.table A2.1.row.id_ A2.1.row.cells)) (k0 A1.2.b A1.2.i A1.2.h list)))
def az_.loop5 (n:Nat)(k0:az_.K5)(N:Nat):az_.T5:=cw_ (fun _ _ _ _ _ _ _ _=>none) (az_.step5 n k0) N
def az_:Nat->am_->aA_->Option ((List TMut)×am_)
 |0,_,_=>none
 |n+1,c,s=>
  (az_.loop5 n (fun B14 B15 B16 B17=>(some (B17,(am_.mk B14 B15 B16)))) n 0 c.b c.i c.h s.schema.cols s.version s.tables ([]:List TMut))
abbrev br_.K12:Type:=(List Int)->Int->(List (List TRow))->Int->Int->(List aX_)->(List Int)->(List (List TRow))->Option (aA_×(List aX_)×Bool)
abbrev br_.T12:Type:=(List TMut)->Int->(List Int)->Int->(List (List TRow))->Int->(List aX_)->Int->(List aX_)->(List Int)->(List (List TRow))->Option (aA_×(List aX_)×Bool)
def br_.step12 (n:Nat)(k0:br_.K12)(back:br_.T12):br_.T12:=fun append t10 t20 t21 t22 t41 t7 t81 t9 t80 t82=>
 (cond (decide (t10<(append.length:Int))) (inB t10 append.length ((e1_ n (aA_.mk (a7_.mk t80) t81 t82) { (append.getD t10.toNat TMut.dflt) with row:=((append.getD t10.toNat TMut.dflt).row) }).bind fun A6=>(cond (!A6.2.2) ((bx_ n (aA_.mk (a7_.mk t20) t21 t22)).bind fun A7=>(some (A7,t7,false))) (bj_ (t9.length+([A6.2.1]:List aX_).length) 80 (back append (W (t10+1)) t20 t21 t22 t41 t7 A6.1.version (t9++([A6.2.1]:List aX_)) A6.1.schema.cols A6.1.tables))))) (k0 t20 t21 t22 t41 t81 t9 t80 t82))
def br_.loop12 (n:Nat)(k0:br_.K12)(N:Nat):br_.T12:=cw_ (fun _ _ _ _ _ _ _ _ _ _ _=>none) (br_.step12 n k0) N
def br_:Nat->aA_->(List TMut)->Option (aA_×(List aX_)×Bool)
 |0,_,_=>none
 |n+1,o,append=>
  ((bD_ n o).bind fun A1=>(cond (!A1) (some ((aA_.mk (a7_.mk ([]:List Int)) 0 ([]:List (List TRow))),([]:List aX_),false)) ((b4_ n (append.length:Int) 1 5).bind fun A2=>(cond (!A2) ((bx_ n o).bind fun A3=>(some (A3,([]:List aX_),false))) (cond (o.version==100000) ((bx_ n o).bind fun A4=>(some (A4,([]:List aX_),false))) ((bx_ n o).bind fun A5=>(br_.loop12 n (fun B8 B9 B10 B11 B12 B13 B14 B15=>(some ((aA_.mk (a7_.mk B14) (W (B9+1)) B15),B13,true))) n append 0 o.schema.cols o.version o.tables 0 ([]:List aX_) A5.version ([]:List aX_) A5.schema.cols A5.tables)))))))
def dv_:Nat->bF_->aX_->Option bF_
 |0,_,_=>none
 |n+1,o,append=>
  ((c8_ n o).bind fun A1=>(cond (append.table==o.q.table) (cond append.had ((bh_ n A1.rows append.old.id_).bind fun A2=>(cond append.has ((bR_ n o.q append.new).bind fun A3=>(cond A3 ((bW_ n o.q A2 append.new).bind fun A4=>(cond o.q.kids (cond (append.table==o.q.kidTable) (cond append.had ((bV_ n append.old o.q.kidCol).bind fun A5=>((aQ_ n A1.kids A5 (-1)).bind fun A6=>(cond append.has ((bV_ n append.new o.q.kidCol).bind fun A7=>((aQ_ n A6 A7 1).bind fun A8=>(some (bF_.mk A1.q A4 A8)))) (some (bF_.mk A1.q A4 A6))))) (cond append.has ((bV_ n append.new o.q.kidCol).bind fun A9=>((aQ_ n A1.kids A9 1).bind fun A10=>(some (bF_.mk A1.q A4 A10)))) (some { A1 with rows:=A4 }))) (some { A1 with rows:=A4 })) (some { A1 with rows:=A4 }))) (cond o.q.kids (cond (append.table==o.q.kidTable) (cond append.had ((bV_ n append.old o.q.kidCol).bind fun A11=>((aQ_ n A1.kids A11 (-1)).bind fun A12=>(cond append.has ((bV_ n append.new o.q.kidCol).bind fun A13=>((aQ_ n A12 A13 1).bind fun A14=>(some (bF_.mk A1.q A2 A14)))) (some (bF_.mk A1.q A2 A12))))) (cond append.has ((bV_ n append.new o.q.kidCol).bind fun A15=>((aQ_ n A1.kids A15 1).bind fun A16=>(some (bF_.mk A1.q A2 A16)))) (some { A1 with rows:=A2 }))) (some { A1 with rows:=A2 })) (some { A1 with rows:=A2 })))) (cond o.q.kids (cond (append.table==o.q.kidTable) (cond append.had ((bV_ n append.old o.q.kidCol).bind fun A17=>((aQ_ n A1.kids A17 (-1)).bind fun A18=>(cond append.has ((bV_ n append.new o.q.kidCol).bind fun A19=>((aQ_ n A18 A19 1).bind fun A20=>(some (bF_.mk A1.q A2 A20)))) (some (bF_.mk A1.q A2 A18))))) (cond append.has ((bV_ n append.new o.q.kidCol).bind fun A21=>((aQ_ n A1.kids A21 1).bind fun A22=>(some (bF_.mk A1.q A2 A22)))) (some { A1 with rows:=A2 }))) (some { A1 with rows:=A2 })) (some { A1 with rows:=A2 })))) (cond append.has ((bR_ n o.q append.new).bind fun A23=>(cond A23 ((bW_ n o.q A1.rows append.new).bind fun A24=>(cond o.q.kids (cond (append.table==o.q.kidTable) (cond append.had ((bV_ n append.old o.q.kidCol).bind fun A25=>((aQ_ n A1.kids A25 (-1)).bind fun A26=>(cond append.has ((bV_ n append.new o.q.kidCol).bind fun A27=>((aQ_ n A26 A27 1).bind fun A28=>(some (bF_.mk A1.q A24 A28)))) (some (bF_.mk A1.q A24 A26))))) (cond append.has ((bV_ n append.new o.q.kidCol).bind fun A29=>((aQ_ n A1.kids A29 1).bind fun A30=>(some (bF_.mk A1.q A24 A30)))) (some { A1 with rows:=A24 }))) (some { A1 with rows:=A24 })) (some { A1 with rows:=A24 }))) (cond o.q.kids (cond (append.table==o.q.kidTable) (cond append.had ((bV_ n append.old o.q.kidCol).bind fun A31=>((aQ_ n A1.kids A31 (-1)).bind fun A32=>(cond append.has ((bV_ n append.new o.q.kidCol).bind fun A33=>((aQ_ n A32 A33 1).bind fun A34=>(some { A1 with kids:=A34 }))) (some { A1 with kids:=A32 })))) (cond append.has ((bV_ n append.new o.q.kidCol).bind fun A35=>((aQ_ n A1.kids A35 1).bind fun A36=>(some { A1 with kids:=A36 }))) (some A1))) (some A1)) (some A1)))) (cond o.q.kids (cond (append.table==o.q.kidTable) (cond append.had ((bV_ n append.old o.q.kidCol).bind fun A37=>((aQ_ n A1.kids A37 (-1)).bind fun A38=>(cond append.has ((bV_ n append.new o.q.kidCol).bind fun A39=>((aQ_ n A38 A39 1).bind fun A40=>(some { A1 with kids:=A40 }))) (some { A1 with kids:=A38 })))) (cond append.has ((bV_ n append.new o.q.kidCol).bind fun A41=>((aQ_ n A1.kids A41 1).bind fun A42=>(some { A1 with kids:=A42 }))) (some A1))) (some A1)) (some A1)))) (cond o.q.kids (cond (append.table==o.q.kidTable) (cond append.had ((bV_ n append.old o.q.kidCol).bind fun A43=>((aQ_ n A1.kids A43 (-1)).bind fun A44=>(cond append.has ((bV_ n append.new o.q.kidCol).bind fun A45=>((aQ_ n A44 A45 1).bind fun A46=>(some { A1 with kids:=A46 }))) (some { A1 with kids:=A44 })))) (cond append.has ((bV_ n append.new o.q.kidCol).bind fun A47=>((aQ_ n A1.kids A47 1).bind fun A48=>(some { A1 with kids:=A48 }))) (some A1))) (some A1)) (some A1))))
abbrev aS_.K4:Type:=Int->Int->Bool->Int->Bool->Int->Int->Int->Int->Bool->Int->Bool->Int->Int->(List ci_)->(List Int)->(List TRow)->(List TKid)->Option bF_
abbrev aS_.T4:Type:=(List aX_)->Int->Int->Int->Bool->Int->Bool->Int->Int->Int->Int->Bool->Int->Bool->Int->Int->(List ci_)->(List Int)->(List TRow)->(List TKid)->Option bF_
def aS_.step4 (n:Nat)(k0:aS_.K4)(back:aS_.T4):aS_.T4:=fun list i t40 t42 t43 t44 t46 t47 t48 out0 out2 out3 out4 out6 out7 out8 out1 out5 out9 out10=>
 (cond (decide (i<(list.length:Int))) (inB i list.length ((dv_ n (bF_.mk (ax_.mk out0 out1 out2 out3 out4 out5 out6 out7 out8) out9 out10) { (list.getD i.toNat aX_.dflt) with old:=((list.getD i.toNat aX_.dflt).old),new:=((list.getD i.toNat aX_.dflt).new) }).bind fun A2=>(back list (W (i+1)) t40 t42 t43 t44 t46 t47 t48 A2.q.table A2.q.order A2.q.down A2.q.first A2.q.kids A2.q.kidTable A2.q.kidCol A2.q.where_ A2.q.show_ A2.rows A2.kids))) (k0 t40 t42 t43 t44 t46 t47 t48 out0 out2 out3 out4 out6 out7 out8 out1 out5 out9 out10))
def aS_.loop4 (n:Nat)(k0:aS_.K4)(N:Nat):aS_.T4:=cw_ (fun _ _ _ _ _ _ _ _ _ _ _ _ _ _ _ _ _ _ _ _=>none) (aS_.step4 n k0) N
def aS_:Nat->bF_->(List aX_)->Option bF_
 |0,_,_=>none
 |n+1,v,list=>
  ((c8_ n v).bind fun A1=>(aS_.loop4 n (fun B3 B4 B5 B6 B7 B8 B9 B10 B11 B12 B13 B14 B15 B16 B17 B18 B19 B20=>(some (bF_.mk (ax_.mk B10 B17 B11 B12 B13 B18 B14 B15 B16) B19 B20))) n list 0 0 0 false 0 false 0 0 A1.q.table A1.q.order A1.q.down A1.q.first A1.q.kids A1.q.kidTable A1.q.kidCol A1.q.where_ A1.q.show_ A1.rows A1.kids))
def dJ_:Nat->c1_->(List aX_)->Option c1_
 |0,_,_=>none
 |n+1,x,list=>
  ((ec_ n x).bind fun A1=>((aS_ n x.view list).bind fun A2=>(some { A1 with view:=A2,version:=(W (x.version+1)) })))
def aq_.tail8 (n:Nat) (kn:Int->Int->(List Int)->Int->Int->(List Int)->Int->(List (List TRow))->Int->(List ci_)->Int->Bool->Int->(List Int)->Bool->Int->Int->(List TRow)->(List TKid)->Int->Int->(List ci_)->Int->Bool->Int->(List Int)->Bool->Int->Int->(List TRow)->(List TKid)->Int->Bool->(List ar_)->Option ((List ar_)×am_)) (t7:Int) (t8:Int) (o0:List Int) (o1:Int) (o2:Int) (t30:List Int) (t31:Int) (t32:List (List TRow)) (t40:Int) (t41:List ci_) (t42:Int) (t43:Bool) (t44:Int) (t45:List Int) (t46:Bool) (t47:Int) (t48:Int) (t49:List TRow) (t410:List TKid) (t411:Int) (t412:Int) (t413:List ci_) (t414:Int) (t415:Bool) (t416:Int) (t417:List Int) (t418:Bool) (t419:Int) (t420:Int) (t421:List TRow) (t422:List TKid) (t423:Int) (t424:Bool) (t6:List ar_):Option ((List ar_)×am_) :=
 ((dR_ n (c1_.mk (bF_.mk (ax_.mk t40 t41 t42 t43 t44 t45 t46 t47 t48) t49 t410) t411 (bF_.mk (ax_.mk t412 t413 t414 t415 t416 t417 t418 t419 t420) t421 t422) t423 t424)).bind fun A5=>(cond A5.2.2 ((cV_ n (am_.mk o0 o1 o2) 25).bind fun A6=>(cond (!A6.1) (bj_ (t6.length+([{ A5.2.1 with doc:=(aa_.re A5.2.1.doc) }]:List ar_).length) 128 ((az_ n A6.2 (aA_.mk (a7_.mk t30) t31 t32)).bind fun A7=>((br_ n (aA_.mk (a7_.mk t30) t31 t32) A7.1).bind fun A8=>(cond A8.2.2 ((dJ_ n A5.1 A8.2.1).bind fun A9=>(kn t7 (W (t8+1)) A7.2.b A7.2.i A7.2.h A8.1.schema.cols A8.1.version A8.1.tables A9.view.q.table A9.view.q.where_ A9.view.q.order A9.view.q.down A9.view.q.first A9.view.q.show_ A9.view.q.kids A9.view.q.kidTable A9.view.q.kidCol A9.view.rows A9.view.kids A9.version A9.last.q.table A9.last.q.where_ A9.last.q.order A9.last.q.down A9.last.q.first A9.last.q.show_ A9.last.q.kids A9.last.q.kidTable A9.last.q.kidCol A9.last.rows A9.last.kids A9.lastVersion A9.began (t6++([{ A5.2.1 with doc:=(aa_.re A5.2.1.doc) }]:List ar_)))) (kn t7 (W (t8+1)) A7.2.b A7.2.i A7.2.h t30 t31 t32 A5.1.view.q.table A5.1.view.q.where_ A5.1.view.q.order A5.1.view.q.down A5.1.view.q.first A5.1.view.q.show_ A5.1.view.q.kids A5.1.view.q.kidTable A5.1.view.q.kidCol A5.1.view.rows A5.1.view.kids A5.1.version A5.1.last.q.table A5.1.last.q.where_ A5.1.last.q.order A5.1.last.q.down A5.1.last.q.first A5.1.last.q.show_ A5.1.last.q.kids A5.1.last.q.kidTable A5.1.last.q.kidCol A5.1.last.rows A5.1.last.kids A5.1.lastVersion A5.1.began (t6++([{ A5.2.1 with doc:=(aa_.re A5.2.1.doc) }]:List ar_))))))) ((az_ n A6.2 (aA_.mk (a7_.mk t30) t31 t32)).bind fun A10=>((br_ n (aA_.mk (a7_.mk t30) t31 t32) A10.1).bind fun A11=>(cond A11.2.2 ((dJ_ n A5.1 A11.2.1).bind fun A12=>(kn t7 (W (t8+1)) A10.2.b A10.2.i A10.2.h A11.1.schema.cols A11.1.version A11.1.tables A12.view.q.table A12.view.q.where_ A12.view.q.order A12.view.q.down A12.view.q.first A12.view.q.show_ A12.view.q.kids A12.view.q.kidTable A12.view.q.kidCol A12.view.rows A12.view.kids A12.version A12.last.q.table A12.last.q.where_ A12.last.q.order A12.last.q.down A12.last.q.first A12.last.q.show_ A12.last.q.kids A12.last.q.kidTable A12.last.q.kidCol A12.last.rows A12.last.kids A12.lastVersion A12.began t6)) (kn t7 (W (t8+1)) A10.2.b A10.2.i A10.2.h t30 t31 t32 A5.1.view.q.table A5.1.view.q.where_ A5.1.view.q.order A5.1.view.q.down A5.1.view.q.first A5.1.view.q.show_ A5.1.view.q.kids A5.1.view.q.kidTable A5.1.view.q.kidCol A5.1.view.rows A5.1.view.kids A5.1.version A5.1.last.q.table A5.1.last.q.where_ A5.1.last.q.order A5.1.last.q.down A5.1.last.q.first A5.1.last.q.show_ A5.1.last.q.kids A5.1.last.q.kidTable A5.1.last.q.kidCol A5.1.last.rows A5.1.last.kids A5.1.lastVersion A5.1.began t6)))))) ((az_ n (am_.mk o0 o1 o2) (aA_.mk (a7_.mk t30) t31 t32)).bind fun A13=>((br_ n (aA_.mk (a7_.mk t30) t31 t32) A13.1).bind fun A14=>(cond A14.2.2 ((dJ_ n (c1_.mk (bF_.mk (ax_.mk t40 t41 t42 t43 t44 t45 t46 t47 t48) t49 t410) t411 (bF_.mk (ax_.mk t412 t413 t414 t415 t416 t417 t418 t419 t420) t421 t422) t423 t424) A14.2.1).bind fun A15=>(kn t7 (W (t8+1)) A13.2.b A13.2.i A13.2.h A14.1.schema.cols A14.1.version A14.1.tables A15.view.q.table A15.view.q.where_ A15.view.q.order A15.view.q.down A15.view.q.first A15.view.q.show_ A15.view.q.kids A15.view.q.kidTable A15.view.q.kidCol A15.view.rows A15.view.kids A15.version A15.last.q.table A15.last.q.where_ A15.last.q.order A15.last.q.down A15.last.q.first A15.last.q.show_ A15.last.q.kids A15.last.q.kidTable A15.last.q.kidCol A15.last.rows A15.last.kids A15.lastVersion A15.began t6)) (kn t7 (W (t8+1)) A13.2.b A13.2.i A13.2.h t30 t31 t32 t40 t41 t42 t43 t44 t45 t46 t47 t48 t49 t410 t411 t412 t413 t414 t415 t416 t417 t418 t419 t420 t421 t422 t423 t424 t6))))))
abbrev aq_.K7:Type:=(List Int)->Int->Int->(List ar_)->Option ((List ar_)×am_)
abbrev aq_.T7:Type:=Int->Int->(List Int)->Int->Int->(List Int)->Int->(List (List TRow))->Int->(List ci_)->Int->Bool->Int->(List Int)->Bool->Int->Int->(List TRow)->(List TKid)->Int->Int->(List ci_)->Int->Bool->Int->(List Int)->Bool->Int->Int->(List TRow)->(List TKid)->Int->Bool->(List ar_)->Option ((List ar_)×am_)
def aq_.step7 (n:Nat)(k0:aq_.K7)(back:aq_.T7):aq_.T7:=fun t7 t8 o0 o1 o2 t30 t31 t32 t40 t41 t42 t43 t44 t45 t46 t47 t48 t49 t410 t411 t412 t413 t414 t415 t416 t417 t418 t419 t420 t421 t422 t423 t424 t6=>
 (cond (decide (t8<t7)) (aq_.tail8 n (fun B16 B17 B18 B19 B20 B21 B22 B23 B24 B25 B26 B27 B28 B29 B30 B31 B32 B33 B34 B35 B36 B37 B38 B39 B40 B41 B42 B43 B44 B45 B46 B47 B48 B49=>(back B16 B17 B18 B19 B20 B21 B22 B23 B24 B25 B26 B27 B28 B29 B30 B31 B32 B33 B34 B35 B36 B37 B38 B39 B40 B41 B42 B43 B44 B45 B46 B47 B48 B49)) t7 t8 o0 o1 o2 t30 t31 t32 t40 t41 t42 t43 t44 t45 t46 t47 t48 t49 t410 t411 t412 t413 t414 t415 t416 t417 t418 t419 t420 t421 t422 t423 t424 t6) (k0 o0 o1 o2 t6))
def aq_.loop7 (n:Nat)(k0:aq_.K7)(N:Nat):aq_.T7:=cw_ (fun _ _ _ _ _ _ _ _ _ _ _ _ _ _ _ _ _ _ _ _ _ _ _ _ _ _ _ _ _ _ _ _ _ _=>none) (aq_.step7 n k0) N
def aq_.tail1 (n:Nat)(o0:List Int)(o1 o2:Int)(t30:List Int)(t31:Int) (t32:List (List TRow)):Option ((List ar_)×am_) :=
 ((ah_ n (am_.mk o0 o1 o2) (a7_.mk t30)).bind fun A2=>((ev_ n (aA_.mk (a7_.mk t30) t31 t32) A2.1).bind fun A3=>((ap_ n A2.2 6).bind fun A4=>(aq_.loop7 n (fun B50 B51 B52 B53=>(some (B53,(am_.mk B50 B51 B52)))) n (W (1+A4.1)) 0 A4.2.b A4.2.i A4.2.h t30 t31 t32 A3.1.view.q.table A3.1.view.q.where_ A3.1.view.q.order A3.1.view.q.down A3.1.view.q.first A3.1.view.q.show_ A3.1.view.q.kids A3.1.view.q.kidTable A3.1.view.q.kidCol A3.1.view.rows A3.1.view.kids A3.1.version A3.1.last.q.table A3.1.last.q.where_ A3.1.last.q.order A3.1.last.q.down A3.1.last.q.first A3.1.last.q.show_ A3.1.last.q.kids A3.1.last.q.kidTable A3.1.last.q.kidCol A3.1.last.rows A3.1.last.kids A3.1.lastVersion A3.1.began ([]:List ar_)))))
def aq_:Nat->am_->Option ((List ar_)×am_)
 |0,_=>none
 |n+1,o=>
  ((aP_ n o).bind fun A1=>(aq_.tail1 n A1.2.b A1.2.i A1.2.h A1.1.schema.cols A1.1.version A1.1.tables))
abbrev bP_.K4:Type:=(List TOp)->Int->Int->Bs->Int->Int->Bs->(List aa_)->Option (aa_×Bool)
abbrev bP_.T4:Type:=(List TOp)->Int->Int->Int->Bs->Int->Int->Bs->(List aa_)->Option (aa_×Bool)
def bP_.step4 (n:Nat)(k0:bP_.K4)(back:bP_.T4):bP_.T4:=fun list i t20 t21 t22 j0 j1 j2 j3=>
 (cond (decide (i<(list.length:Int))) (inB i list.length ((ek_ n { (list.getD i.toNat TOp.dflt) with value:=(aa_.re ((list.getD i.toNat TOp.dflt).value)) }).bind fun A1=>(cond (A1.kind==0) (some ((aa_.mk j0 j1 j2 j3 ([]:List Bs)),false)) (bj_ (j3.length+([(aa_.re A1)]:List aa_).length) 80 (back list (W (i+1)) t20 t21 t22 j0 j1 j2 (j3++([(aa_.re A1)]:List aa_))))))) (k0 list t20 t21 t22 j0 j1 j2 j3))
def bP_.loop4 (n:Nat)(k0:bP_.K4)(N:Nat):bP_.T4:=cw_ (fun _ _ _ _ _ _ _ _ _=>none) (bP_.step4 n k0) N
def bP_:Nat->(List TOp)->Option (aa_×Bool)
 |0,_=>none
 |n+1,list=>
  (bP_.loop4 n (fun B2 B3 B4 B5 B6 B7 B8 B9=>(cond (decide ((B2.length:Int)<=40)) ((c9_ n (aa_.mk B6 B7 B8 B9 [])).bind fun A10=>(some ((aa_.mk B6 B7 B8 B9 ([]:List Bs)),(!(A10==[]))))) (some ((aa_.mk B6 B7 B8 B9 ([]:List Bs)),false)))) n list 0 0 0 [] 4 0 [] ([]:List aa_))
def ed_:Nat->ar_->Option Bool
 |0,_=>none
 |n+1,e=>
  ((b4_ n e.version 0 100000).bind fun A1=>(cond (!A1) (some false) (cond (e.kind==1) (cond (e.base==0) (cond ((e.ops.length:Int)==0) ((c9_ n (aa_.re e.doc)).bind fun A2=>(some (!(A2==[])))) (some false)) (some false)) (cond (e.kind==2) ((bP_ n e.ops).bind fun A3=>(cond A3.2 ((b4_ n e.base 0 (W (e.version - 1))).bind fun A4=>(cond A4 ((an_ n (aa_.re e.doc) (aa_.mk 0 0 [] [] [])).bind fun A5=>(some A5)) (some false))) (some false))) (some false)))))
def ds_:Nat->ar_->Option Bs
 |0,_=>none
 |n+1,e=>
  ((ed_ n { e with doc:=(aa_.re e.doc) }).bind fun A1=>(cond (!A1) (some []) ((aN_ n e.version).bind fun A2=>(cond (decide ([105,100,58,32].length+A2.length<=9223372036854775807)) (cond (decide ((([105,100,58,32]:Bs)++A2).length+[10].length<=9223372036854775807)) (cond (e.kind==1) (cond (decide ([101,118,101,110,116,58,32,115,110,97,112,10].length+((([105,100,58,32]:Bs)++A2)++[10]).length<=9223372036854775807)) (let C3:Bs:=(([101,118,101,110,116,58,32,115,110,97,112,10]:Bs)++((([105,100,58,32]:Bs)++A2)++[10]));(cond (decide (C3.length+[100,97,116,97,58,32].length<=9223372036854775807)) ((c9_ n (aa_.re e.doc)).bind fun A4=>(cond (decide ((C3++[100,97,116,97,58,32]).length+A4.length<=9223372036854775807)) (cond (decide (((C3++[100,97,116,97,58,32])++A4).length+[10,10].length<=9223372036854775807)) (some (((C3++[100,97,116,97,58,32])++A4)++[10,10])) none) none)) none)) none) ((bP_ n e.ops).bind fun A5=>(cond (decide ([101,118,101,110,116,58,32,112,97,116,99,104,10].length+((([105,100,58,32]:Bs)++A2)++[10]).length<=9223372036854775807)) (let C6:Bs:=(([101,118,101,110,116,58,32,112,97,116,99,104,10]:Bs)++((([105,100,58,32]:Bs)++A2)++[10]));(cond (decide (C6.length+[98,97,115,101,58,32].length<=9223372036854775807)) ((aN_ n e.base).bind fun A7=>(cond (decide ((C6++[98,97,115,101,58,32]).length+A7.length<=9223372036854775807)) (cond (decide (((C6++[98,97,115,101,58,32])++A7).length+[10,100,97,116,97,58,32].length<=9223372036854775807)) (let C8:Bs:=(((C6++[98,97,115,101,58,32])++A7)++[10,100,97,116,97,58,32]);((c9_ n (aa_.re A5.1)).bind fun A9=>(cond (decide (C8.length+A9.length<=9223372036854775807)) (cond (decide ((C8++A9).length+[10,10].length<=9223372036854775807)) (some ((C8++A9)++[10,10])) none) none))) none) none)) none)) none))) none) none))))
abbrev aL_.K6:Type:=Bs->(List Int)->Int->Int->Option Bs
abbrev aL_.T6:Type:=Bs->Int->(List Int)->Int->Int->(List ar_)->Option Bs
def aL_.step6 (n:Nat)(k0:aL_.K6)(back:aL_.T6):aL_.T6:=fun text i c0 c1 c2 list=>
 (cond (decide (i<(list.length:Int))) (inB i list.length ((ds_ n { (list.getD i.toNat ar_.dflt) with doc:=(aa_.re ((list.getD i.toNat ar_.dflt).doc)) }).bind fun A3=>(cond (decide (text.length+A3.length<=9223372036854775807)) (back (text++A3) (W (i+1)) c0 c1 c2 list) none))) (k0 text c0 c1 c2))
def aL_.loop6 (n:Nat)(k0:aL_.K6)(N:Nat):aL_.T6:=cw_ (fun _ _ _ _ _ _=>none) (aL_.step6 n k0) N
def aL_:Nat->(List Int)->Option Bs
 |0,_=>none
 |n+1,e9_=>
  ((ce_ n e9_).bind fun A1=>((aq_ n A1).bind fun A2=>(aL_.loop6 n (fun B4 B5 B6 B7=>((ap_ n (am_.mk B5 B6 B7) 6).bind fun A8=>(cond (A8.1==0) ((ap_ n A8.2 (W ((B4.length:Int)+1))).bind fun A9=>(fF_ 0 A9.1 B4.length (some ((B4.take A9.1.toNat).drop 0)))) (cond (A8.1==1) (cond (decide (B4.length+[120,10,10].length<=9223372036854775807)) (some (B4++[120,10,10])) none) (some B4))))) n [] 0 A2.2.b A2.2.i A2.2.h A2.1)))
def strings_Index:Nat->Bs->Bs->Option Int
 |0,_,_=>none
 |_+1,s,a=>pk_ s a
def bi_:Nat->Bs->Bs->Option Bool
 |0,_,_=>none
 |n+1,s,prefix1=>
  (cond (decide ((s.length:Int)>=(prefix1.length:Int))) (fF_ 0 (prefix1.length:Int) s.length (some (((s.take (prefix1.length:Int).toNat).drop 0)==prefix1))) (some false))
def bS_:Nat->Bs->Bs->Option (Bs×Bool)
 |0,_,_=>none
 |n+1,s,prefix1=>
  ((bi_ n s prefix1).bind fun A1=>(cond (!A1) (some (s,false)) (fF_ (prefix1.length:Int) (s.length:Int) s.length (some (((s.take (s.length:Int).toNat).drop (prefix1.length:Int).toNat),true)))))
def cX_:Nat->Bs->Bs->Option (Bs×Bool)
 |0,_,_=>none
 |n+1,s,prefix1=>
  ((bS_ n s prefix1).bind fun A1=>(some (A1.1,A1.2)))
def ca_:Nat->Bs->Bs->Option Int
 |0,_,_=>none
 |_+1,s,a=>sN_ s a
def cm_:Nat->Bs->Bs->Option (Bs×Bs×Bool)
 |0,_,_=>none
 |n+1,s,sep=>
  ((ca_ n s sep).bind fun A1=>(cond (decide (A1>=0)) (fF_ 0 A1 s.length (fF_ (W (A1+(sep.length:Int))) (s.length:Int) s.length (let C2:Bs:=((s.take (s.length:Int).toNat).drop (W (A1+(sep.length:Int))).toNat);(some (((s.take A1.toNat).drop 0),C2,true))))) (some (s,[],false))))
def eV_:Nat->Bs->Bs->Option (Bs×Bs×Bool)
 |0,_,_=>none
 |n+1,s,sep=>
  ((cm_ n s sep).bind fun A1=>(some (A1.1,A1.2.1,A1.2.2)))
def bH_:Nat->Bs->Bs->Option Bs
 |0,_,_=>none
 |n+1,s,prefix1=>
  ((bi_ n s prefix1).bind fun A1=>(cond A1 (fF_ (prefix1.length:Int) (s.length:Int) s.length (some ((s.take (s.length:Int).toNat).drop (prefix1.length:Int).toNat))) (some s)))
def cR_:Nat->Bs->Bs->Option Bs
 |0,_,_=>none
 |n+1,s,prefix1=>
  ((bH_ n s prefix1).bind fun A1=>(some A1))
def d1_:Nat->Bs->Bs->Option (Bs×Bs)
 |0,_,_=>none
 |n+1,text,word=>
  ((eV_ n text [10]).bind fun A1=>((cR_ n A1.1 word).bind fun A2=>(some (A2,A1.2.1))))
def dg_:Nat->Bs->Option (Int×Bool)
 |0,_=>none
 |_+1,s=>nAtoi s
def bN_:Nat->bu_->Bs->Option (Bool×bu_)
 |0,_,_=>none
 |n+1,r,text=>
  ((cX_ n r.text text).bind fun A1=>(cond A1.2 (some ((!r.bad),(bu_.mk A1.1 r.bad))) (some (false,(bu_.mk A1.1 r.bad)))))
def de_:Nat->Bs->Bs->Option Bool
 |0,_,_=>none
 |n+1,s,prefix1=>
  ((bi_ n s prefix1).bind fun A1=>(some A1))
def cy_:Nat->bu_->Bs->Option bu_
 |0,_,_=>none
 |n+1,r,text=>
  ((bN_ n r text).bind fun A1=>(cond (!A1.1) (some (bu_.mk A1.2.text true)) (some A1.2)))
abbrev aD_.K4:Type:=Bs->Bool->Option (Bs×bu_)
abbrev aD_.T4:Type:=Bs->Bool->(List Int)->Option (Bs×bu_)
def aD_.step4 (n:Nat)(k0:aD_.K4)(back:aD_.T4):aD_.T4:=fun r0 r1 out_1=>
 (cond (!r1) ((bN_ n (bu_.mk r0 r1) [34]).bind fun A2=>(cond A2.1 (some ((i6_ out_1),A2.2)) ((bN_ n A2.2 [92]).bind fun A3=>(cond (A3.2.text==[]) (k0 A3.2.text true) (inB 0 A3.2.text.length (bj_ (out_1.length+([((A3.2.text.getD 0 0).toNat:Int)]:List Int).length) 1 (fF_ 1 (A3.2.text.length:Int) A3.2.text.length (back ((A3.2.text.take (A3.2.text.length:Int).toNat).drop 1) A3.2.bad (out_1++([((A3.2.text.getD 0 0).toNat:Int)]:List Int)))))))))) (k0 r0 r1))
def aD_.loop4 (n:Nat)(k0:aD_.K4)(N:Nat):aD_.T4:=cw_ (fun _ _ _=>none) (aD_.step4 n k0) N
def aD_:Nat->bu_->Option (Bs×bu_)
 |0,_=>none
 |n+1,r=>
  ((cy_ n r [34]).bind fun A1=>(aD_.loop4 n (fun B4 B5=>(some ([],(bu_.mk B4 B5)))) n A1.text A1.bad ([]:List Int)))
def aI_:Nat->Int->Int->Int->Option Bool
 |0,_,_,_=>none
 |n+1,n1,low,high=>
  (cond (decide (n1>=low)) (some (decide (n1<=high))) (some false))
abbrev aB_.K3:Type:=Int->Bs->Bool->Int->Int->Bs->Option (aa_×bu_)
abbrev aB_.T3:Type:=Int->Bs->Bool->Int->Int->Bs->Option (aa_×bu_)
def aB_.step3 (n:Nat)(k0:aB_.K3)(back:aB_.T3):aB_.T3:=fun n_1 r0 r1 t20 t21 t22=>
 (cond (decide (n_1<(r0.length:Int))) (inB n_1 r0.length ((aI_ n (W (((r0.getD n_1.toNat 0).toNat:Int))) 48 57).bind fun A1=>(cond A1 (back (W (n_1+1)) r0 r1 t20 t21 t22) (cond (n_1==0) (inB 0 r0.length (cond (((r0.getD 0 0).toNat:Int)==45) (back (W (n_1+1)) r0 r1 t20 t21 t22) (k0 n_1 r0 r1 t20 t21 t22))) (k0 n_1 r0 r1 t20 t21 t22))))) (k0 n_1 r0 r1 t20 t21 t22))
def aB_.loop3 (n:Nat)(k0:aB_.K3)(N:Nat):aB_.T3:=cw_ (fun _ _ _ _ _ _=>none) (aB_.step3 n k0) N
def aB_:Nat->bu_->Option (aa_×bu_)
 |0,_=>none
 |n+1,r=>
  (aB_.loop3 n (fun B2 B3 B4 B5 B6 B7=>(fF_ 0 B2 B3.length ((dg_ n ((B3.take B2.toNat).drop 0)).bind fun A8=>(cond (!A8.2) (fF_ B2 (B3.length:Int) B3.length (some ((aa_.mk 2 A8.1 [] ([]:List aa_) ([]:List Bs)),(bu_.mk ((B3.take (B3.length:Int).toNat).drop B2.toNat) true)))) (fF_ B2 (B3.length:Int) B3.length (some ((aa_.mk 2 A8.1 [] ([]:List aa_) ([]:List Bs)),(bu_.mk ((B3.take (B3.length:Int).toNat).drop B2.toNat) B4)))))))) n 0 r.text r.bad 0 0 [])
abbrev as_.K7_1:Type:=Bs->Bs->Bool->Int->Int->Bs->Int->Int->Bs->(List aa_)->(List Bs)->Option (aa_×bu_)
abbrev as_.T7:Type:=Int->Bs->Int->Bool->Bs->Bool->Int->Int->Bs->Int->Int->Bs->(List aa_)->(List Bs)->Option (aa_×bu_)
def as_.step7 (n:Nat) (impl_reader_value_:bu_->Int->Option (aa_×bu_)) (k0:as_.K7_1) (back:as_.T7):as_.T7:=fun kind end_1 deep more r0 r1 t80 t81 t82 j0 j1 j2 j3 j4=>
 (cond more (cond (!r1) (cond (kind==5) ((aD_ n (bu_.mk r0 r1)).bind fun A2=>((cy_ n A2.2 [58]).bind fun A3=>(bj_ (j4.length+([A2.1]:List Bs).length) 16 ((impl_reader_value_ A3 (W (deep - 1))).bind fun A4=>(bj_ (j3.length+([(aa_.re A4.1)]:List aa_).length) 80 ((bN_ n A4.2 [44]).bind fun A5=>(back kind end_1 deep A5.1 A5.2.text A5.2.bad t80 t81 t82 j0 j1 j2 (j3++([(aa_.re A4.1)]:List aa_)) (j4++([A2.1]:List Bs))))))))) ((impl_reader_value_ (bu_.mk r0 r1) (W (deep - 1))).bind fun A6=>(bj_ (j3.length+([(aa_.re A6.1)]:List aa_).length) 80 ((bN_ n A6.2 [44]).bind fun A7=>(back kind end_1 deep A7.1 A7.2.text A7.2.bad t80 t81 t82 j0 j1 j2 (j3++([(aa_.re A6.1)]:List aa_)) j4))))) (k0 end_1 r0 r1 t80 t81 t82 j0 j1 j2 j3 j4)) (k0 end_1 r0 r1 t80 t81 t82 j0 j1 j2 j3 j4))
def as_.loop7 (n:Nat) (impl_reader_value_:bu_->Int->Option (aa_×bu_)) (k0:as_.K7_1) (N:Nat):as_.T7:=cw_ (fun _ _ _ _ _ _ _ _ _ _ _ _ _ _=>none) (as_.step7 n impl_reader_value_ k0) N
mutual
def b6_:Nat->bu_->Int->Option (aa_×bu_)
 |0,_,_=>none
 |n+1,r,deep=>
  (cond (decide (deep<1)) (some ((aa_.mk 0 0 [] ([]:List aa_) ([]:List Bs)),(bu_.mk r.text true))) (cond r.bad (some ((aa_.mk 0 0 [] ([]:List aa_) ([]:List Bs)),(bu_.mk r.text true))) ((bN_ n r [110,117,108,108]).bind fun A1=>(cond A1.1 (some ((aa_.mk 0 0 [] ([]:List aa_) ([]:List Bs)),A1.2)) ((bN_ n A1.2 [102,97,108,115,101]).bind fun A2=>(cond A2.1 (some ((aa_.mk 1 0 [] ([]:List aa_) ([]:List Bs)),A2.2)) ((bN_ n A2.2 [116,114,117,101]).bind fun A3=>(cond A3.1 (some ((aa_.mk 1 1 [] ([]:List aa_) ([]:List Bs)),A3.2)) ((de_ n A3.2.text [34]).bind fun A4=>(cond A4 ((aD_ n A3.2).bind fun A5=>(some ((aa_.mk 3 0 A5.1 ([]:List aa_) ([]:List Bs)),A5.2))) ((bN_ n A3.2 [91]).bind fun A6=>(cond A6.1 ((as_ n A6.2 4 [93] deep).bind fun A7=>(some ((aa_.re A7.1),A7.2))) ((bN_ n A6.2 [123]).bind fun A8=>(cond A8.1 ((as_ n A8.2 5 [125] deep).bind fun A9=>(some ((aa_.re A9.1),A9.2))) ((aB_ n A8.2).bind fun A10=>(some ((aa_.re A10.1),A10.2)))))))))))))))))
def as_:Nat->bu_->Int->Bs->Int->Option (aa_×bu_)
 |0,_,_,_,_=>none
 |n+1,r,kind,end1,deep=>
  ((bN_ n r end1).bind fun A1=>(cond A1.1 (some ((aa_.mk kind 0 [] ([]:List aa_) ([]:List Bs)),A1.2)) (as_.loop7 n (b6_ n) (fun B8 B9 B10 B11 B12 B13 B14 B15 B16 B17 B18=>((cy_ n (bu_.mk B9 B10) B8).bind fun A19=>(some ((aa_.mk B14 B15 B16 B17 B18),A19)))) n kind end1 deep true A1.2.text A1.2.bad 0 0 [] kind 0 [] ([]:List aa_) ([]:List Bs))))
end
def bm_:Nat->Int->Option Bool
 |0,_=>none
 |n+1,n1=>
  ((aI_ n n1 (-1000000000) 1000000000).bind fun A1=>(some A1))
abbrev av_.T3:Type:=Bs->Int->Int->Option Bool
def av_.step3 (n:Nat)(k0:Bs->Option Bool)(back:av_.T3):av_.T3:=fun s t5 t6=>
 (cond (decide (t6<t5)) (inB t6 s.length ((aI_ n (W (((s.getD t6.toNat 0).toNat:Int))) 32 126).bind fun A1=>(cond (!A1) (some false) (back s t5 (W (t6+1)))))) (k0 s))
def av_.loop3 (n:Nat)(k0:Bs->Option Bool)(N:Nat):av_.T3:=cw_ (fun _ _ _=>none) (av_.step3 n k0) N
def av_:Nat->Bs->Option Bool
 |0,_=>none
 |n+1,s=>
  (av_.loop3 n (fun B2=>(some (decide ((B2.length:Int)<=60)))) n s (s.length:Int) 0)
abbrev au_.T3:Type:=(List Bs)->(List Bs)->Int->Int->Option Bool
def au_.step3 (n:Nat)(k0:Option Bool)(back:au_.T3):au_.T3:=fun names t5 t6 t7=>
 (cond (decide (t7<t6)) (inB t7 t5.length ((av_ n (t5.getD t7.toNat [])).bind fun A1=>(cond (!A1) (some false) (cond (decide (t7 > 0)) (inB (W (t7 - 1)) names.length (let C2:Bool:=(!Op.bytesLess (names.getD (W (t7 - 1)).toNat []) (t5.getD t7.toNat []));(cond C2 (some false) (back names t5 t6 (W (t7+1)))))) (back names t5 t6 (W (t7+1))))))) k0)
def au_.loop3 (n:Nat)(k0:Option Bool)(N:Nat):au_.T3:=cw_ (fun _ _ _ _=>none) (au_.step3 n k0) N
def au_:Nat->(List Bs)->Option Bool
 |0,_=>none
 |n+1,names=>
  (au_.loop3 n (some true) n names names (names.length:Int) 0)
def fn_:Nat->aa_->Option Bool
 |0,_=>none
 |n+1,o=>
  (cond (decide ((o.list.length:Int) > 0)) (cond (o.kind != 4) (cond (o.kind != 5) (some false) (cond (decide ((o.names.length:Int) > 0)) (cond (o.kind != 5) (some false) (cond (o.n_ != 0) (cond (o.kind != 1) (cond (o.kind != 2) (some false) (cond (!(o.s==[])) (cond (o.kind != 3) (some false) (cond (o.kind==1) ((aI_ n o.n_ 0 1).bind fun A1=>(some A1)) (cond (o.kind==2) ((bm_ n o.n_).bind fun A2=>(some A2)) (cond (o.kind==3) ((av_ n o.s).bind fun A3=>(some A3)) (cond (o.kind==5) (cond ((o.names.length:Int)==(o.list.length:Int)) ((au_ n o.names).bind fun A4=>(some A4)) (some false)) (cond (o.kind==0) (some true) (some (o.kind==4)))))))) (cond (o.kind==1) ((aI_ n o.n_ 0 1).bind fun A5=>(some A5)) (cond (o.kind==2) ((bm_ n o.n_).bind fun A6=>(some A6)) (cond (o.kind==3) ((av_ n o.s).bind fun A7=>(some A7)) (cond (o.kind==5) (cond ((o.names.length:Int)==(o.list.length:Int)) ((au_ n o.names).bind fun A8=>(some A8)) (some false)) (cond (o.kind==0) (some true) (some (o.kind==4))))))))) (cond (!(o.s==[])) (cond (o.kind != 3) (some false) (cond (o.kind==1) ((aI_ n o.n_ 0 1).bind fun A9=>(some A9)) (cond (o.kind==2) ((bm_ n o.n_).bind fun A10=>(some A10)) (cond (o.kind==3) ((av_ n o.s).bind fun A11=>(some A11)) (cond (o.kind==5) (cond ((o.names.length:Int)==(o.list.length:Int)) ((au_ n o.names).bind fun A12=>(some A12)) (some false)) (cond (o.kind==0) (some true) (some (o.kind==4)))))))) (cond (o.kind==1) ((aI_ n o.n_ 0 1).bind fun A13=>(some A13)) (cond (o.kind==2) ((bm_ n o.n_).bind fun A14=>(some A14)) (cond (o.kind==3) ((av_ n o.s).bind fun A15=>(some A15)) (cond (o.kind==5) (cond ((o.names.length:Int)==(o.list.length:Int)) ((au_ n o.names).bind fun A16=>(some A16)) (some false)) (cond (o.kind==0) (some true) (some (o.kind==4))))))))) (cond (!(o.s==[])) (cond (o.kind != 3) (some false) (cond (o.kind==1) ((aI_ n o.n_ 0 1).bind fun A17=>(some A17)) (cond (o.kind==2) ((bm_ n o.n_).bind fun A18=>(some A18)) (cond (o.kind==3) ((av_ n o.s).bind fun A19=>(some A19)) (cond (o.kind==5) (cond ((o.names.length:Int)==(o.list.length:Int)) ((au_ n o.names).bind fun A20=>(some A20)) (some false)) (cond (o.kind==0) (some true) (some (o.kind==4)))))))) (cond (o.kind==1) ((aI_ n o.n_ 0 1).bind fun A21=>(some A21)) (cond (o.kind==2) ((bm_ n o.n_).bind fun A22=>(some A22)) (cond (o.kind==3) ((av_ n o.s).bind fun A23=>(some A23)) (cond (o.kind==5) (cond ((o.names.length:Int)==(o.list.length:Int)) ((au_ n o.names).bind fun A24=>(some A24)) (some false)) (cond (o.kind==0) (some true) (some (o.kind==4)))))))))) (cond (o.n_ != 0) (cond (o.kind != 1) (cond (o.kind != 2) (some false) (cond (!(o.s==[])) (cond (o.kind != 3) (some false) (cond (o.kind==1) ((aI_ n o.n_ 0 1).bind fun A25=>(some A25)) (cond (o.kind==2) ((bm_ n o.n_).bind fun A26=>(some A26)) (cond (o.kind==3) ((av_ n o.s).bind fun A27=>(some A27)) (cond (o.kind==5) (cond ((o.names.length:Int)==(o.list.length:Int)) ((au_ n o.names).bind fun A28=>(some A28)) (some false)) (cond (o.kind==0) (some true) (some (o.kind==4)))))))) (cond (o.kind==1) ((aI_ n o.n_ 0 1).bind fun A29=>(some A29)) (cond (o.kind==2) ((bm_ n o.n_).bind fun A30=>(some A30)) (cond (o.kind==3) ((av_ n o.s).bind fun A31=>(some A31)) (cond (o.kind==5) (cond ((o.names.length:Int)==(o.list.length:Int)) ((au_ n o.names).bind fun A32=>(some A32)) (some false)) (cond (o.kind==0) (some true) (some (o.kind==4))))))))) (cond (!(o.s==[])) (cond (o.kind != 3) (some false) (cond (o.kind==1) ((aI_ n o.n_ 0 1).bind fun A33=>(some A33)) (cond (o.kind==2) ((bm_ n o.n_).bind fun A34=>(some A34)) (cond (o.kind==3) ((av_ n o.s).bind fun A35=>(some A35)) (cond (o.kind==5) (cond ((o.names.length:Int)==(o.list.length:Int)) ((au_ n o.names).bind fun A36=>(some A36)) (some false)) (cond (o.kind==0) (some true) (some (o.kind==4)))))))) (cond (o.kind==1) ((aI_ n o.n_ 0 1).bind fun A37=>(some A37)) (cond (o.kind==2) ((bm_ n o.n_).bind fun A38=>(some A38)) (cond (o.kind==3) ((av_ n o.s).bind fun A39=>(some A39)) (cond (o.kind==5) (cond ((o.names.length:Int)==(o.list.length:Int)) ((au_ n o.names).bind fun A40=>(some A40)) (some false)) (cond (o.kind==0) (some true) (some (o.kind==4))))))))) (cond (!(o.s==[])) (cond (o.kind != 3) (some false) (cond (o.kind==1) ((aI_ n o.n_ 0 1).bind fun A41=>(some A41)) (cond (o.kind==2) ((bm_ n o.n_).bind fun A42=>(some A42)) (cond (o.kind==3) ((av_ n o.s).bind fun A43=>(some A43)) (cond (o.kind==5) (cond ((o.names.length:Int)==(o.list.length:Int)) ((au_ n o.names).bind fun A44=>(some A44)) (some false)) (cond (o.kind==0) (some true) (some (o.kind==4)))))))) (cond (o.kind==1) ((aI_ n o.n_ 0 1).bind fun A45=>(some A45)) (cond (o.kind==2) ((bm_ n o.n_).bind fun A46=>(some A46)) (cond (o.kind==3) ((av_ n o.s).bind fun A47=>(some A47)) (cond (o.kind==5) (cond ((o.names.length:Int)==(o.list.length:Int)) ((au_ n o.names).bind fun A48=>(some A48)) (some false)) (cond (o.kind==0) (some true) (some (o.kind==4))))))))))) (cond (decide ((o.names.length:Int) > 0)) (cond (o.kind != 5) (some false) (cond (o.n_ != 0) (cond (o.kind != 1) (cond (o.kind != 2) (some false) (cond (!(o.s==[])) (cond (o.kind != 3) (some false) (cond (o.kind==1) ((aI_ n o.n_ 0 1).bind fun A49=>(some A49)) (cond (o.kind==2) ((bm_ n o.n_).bind fun A50=>(some A50)) (cond (o.kind==3) ((av_ n o.s).bind fun A51=>(some A51)) (cond (o.kind==5) (cond ((o.names.length:Int)==(o.list.length:Int)) ((au_ n o.names).bind fun A52=>(some A52)) (some false)) (cond (o.kind==0) (some true) (some (o.kind==4)))))))) (cond (o.kind==1) ((aI_ n o.n_ 0 1).bind fun A53=>(some A53)) (cond (o.kind==2) ((bm_ n o.n_).bind fun A54=>(some A54)) (cond (o.kind==3) ((av_ n o.s).bind fun A55=>(some A55)) (cond (o.kind==5) (cond ((o.names.length:Int)==(o.list.length:Int)) ((au_ n o.names).bind fun A56=>(some A56)) (some false)) (cond (o.kind==0) (some true) (some (o.kind==4))))))))) (cond (!(o.s==[])) (cond (o.kind != 3) (some false) (cond (o.kind==1) ((aI_ n o.n_ 0 1).bind fun A57=>(some A57)) (cond (o.kind==2) ((bm_ n o.n_).bind fun A58=>(some A58)) (cond (o.kind==3) ((av_ n o.s).bind fun A59=>(some A59)) (cond (o.kind==5) (cond ((o.names.length:Int)==(o.list.length:Int)) ((au_ n o.names).bind fun A60=>(some A60)) (some false)) (cond (o.kind==0) (some true) (some (o.kind==4)))))))) (cond (o.kind==1) ((aI_ n o.n_ 0 1).bind fun A61=>(some A61)) (cond (o.kind==2) ((bm_ n o.n_).bind fun A62=>(some A62)) (cond (o.kind==3) ((av_ n o.s).bind fun A63=>(some A63)) (cond (o.kind==5) (cond ((o.names.length:Int)==(o.list.length:Int)) ((au_ n o.names).bind fun A64=>(some A64)) (some false)) (cond (o.kind==0) (some true) (some (o.kind==4))))))))) (cond (!(o.s==[])) (cond (o.kind != 3) (some false) (cond (o.kind==1) ((aI_ n o.n_ 0 1).bind fun A65=>(some A65)) (cond (o.kind==2) ((bm_ n o.n_).bind fun A66=>(some A66)) (cond (o.kind==3) ((av_ n o.s).bind fun A67=>(some A67)) (cond (o.kind==5) (cond ((o.names.length:Int)==(o.list.length:Int)) ((au_ n o.names).bind fun A68=>(some A68)) (some false)) (cond (o.kind==0) (some true) (some (o.kind==4)))))))) (cond (o.kind==1) ((aI_ n o.n_ 0 1).bind fun A69=>(some A69)) (cond (o.kind==2) ((bm_ n o.n_).bind fun A70=>(some A70)) (cond (o.kind==3) ((av_ n o.s).bind fun A71=>(some A71)) (cond (o.kind==5) (cond ((o.names.length:Int)==(o.list.length:Int)) ((au_ n o.names).bind fun A72=>(some A72)) (some false)) (cond (o.kind==0) (some true) (some (o.kind==4)))))))))) (cond (o.n_ != 0) (cond (o.kind != 1) (cond (o.kind != 2) (some false) (cond (!(o.s==[])) (cond (o.kind != 3) (some false) (cond (o.kind==1) ((aI_ n o.n_ 0 1).bind fun A73=>(some A73)) (cond (o.kind==2) ((bm_ n o.n_).bind fun A74=>(some A74)) (cond (o.kind==3) ((av_ n o.s).bind fun A75=>(some A75)) (cond (o.kind==5) (cond ((o.names.length:Int)==(o.list.length:Int)) ((au_ n o.names).bind fun A76=>(some A76)) (some false)) (cond (o.kind==0) (some true) (some (o.kind==4)))))))) (cond (o.kind==1) ((aI_ n o.n_ 0 1).bind fun A77=>(some A77)) (cond (o.kind==2) ((bm_ n o.n_).bind fun A78=>(some A78)) (cond (o.kind==3) ((av_ n o.s).bind fun A79=>(some A79)) (cond (o.kind==5) (cond ((o.names.length:Int)==(o.list.length:Int)) ((au_ n o.names).bind fun A80=>(some A80)) (some false)) (cond (o.kind==0) (some true) (some (o.kind==4))))))))) (cond (!(o.s==[])) (cond (o.kind != 3) (some false) (cond (o.kind==1) ((aI_ n o.n_ 0 1).bind fun A81=>(some A81)) (cond (o.kind==2) ((bm_ n o.n_).bind fun A82=>(some A82)) (cond (o.kind==3) ((av_ n o.s).bind fun A83=>(some A83)) (cond (o.kind==5) (cond ((o.names.length:Int)==(o.list.length:Int)) ((au_ n o.names).bind fun A84=>(some A84)) (some false)) (cond (o.kind==0) (some true) (some (o.kind==4)))))))) (cond (o.kind==1) ((aI_ n o.n_ 0 1).bind fun A85=>(some A85)) (cond (o.kind==2) ((bm_ n o.n_).bind fun A86=>(some A86)) (cond (o.kind==3) ((av_ n o.s).bind fun A87=>(some A87)) (cond (o.kind==5) (cond ((o.names.length:Int)==(o.list.length:Int)) ((au_ n o.names).bind fun A88=>(some A88)) (some false)) (cond (o.kind==0) (some true) (some (o.kind==4))))))))) (cond (!(o.s==[])) (cond (o.kind != 3) (some false) (cond (o.kind==1) ((aI_ n o.n_ 0 1).bind fun A89=>(some A89)) (cond (o.kind==2) ((bm_ n o.n_).bind fun A90=>(some A90)) (cond (o.kind==3) ((av_ n o.s).bind fun A91=>(some A91)) (cond (o.kind==5) (cond ((o.names.length:Int)==(o.list.length:Int)) ((au_ n o.names).bind fun A92=>(some A92)) (some false)) (cond (o.kind==0) (some true) (some (o.kind==4)))))))) (cond (o.kind==1) ((aI_ n o.n_ 0 1).bind fun A93=>(some A93)) (cond (o.kind==2) ((bm_ n o.n_).bind fun A94=>(some A94)) (cond (o.kind==3) ((av_ n o.s).bind fun A95=>(some A95)) (cond (o.kind==5) (cond ((o.names.length:Int)==(o.list.length:Int)) ((au_ n o.names).bind fun A96=>(some A96)) (some false)) (cond (o.kind==0) (some true) (some (o.kind==4))))))))))) (cond (decide ((o.names.length:Int) > 0)) (cond (o.kind != 5) (some false) (cond (o.n_ != 0) (cond (o.kind != 1) (cond (o.kind != 2) (some false) (cond (!(o.s==[])) (cond (o.kind != 3) (some false) (cond (o.kind==1) ((aI_ n o.n_ 0 1).bind fun A97=>(some A97)) (cond (o.kind==2) ((bm_ n o.n_).bind fun A98=>(some A98)) (cond (o.kind==3) ((av_ n o.s).bind fun A99=>(some A99)) (cond (o.kind==5) (cond ((o.names.length:Int)==(o.list.length:Int)) ((au_ n o.names).bind fun A100=>(some A100)) (some false)) (cond (o.kind==0) (some true) (some (o.kind==4)))))))) (cond (o.kind==1) ((aI_ n o.n_ 0 1).bind fun A101=>(some A101)) (cond (o.kind==2) ((bm_ n o.n_).bind fun A102=>(some A102)) (cond (o.kind==3) ((av_ n o.s).bind fun A103=>(some A103)) (cond (o.kind==5) (cond ((o.names.length:Int)==(o.list.length:Int)) ((au_ n o.names).bind fun A104=>(some A104)) (some false)) (cond (o.kind==0) (some true) (some (o.kind==4))))))))) (cond (!(o.s==[])) (cond (o.kind != 3) (some false) (cond (o.kind==1) ((aI_ n o.n_ 0 1).bind fun A105=>(some A105)) (cond (o.kind==2) ((bm_ n o.n_).bind fun A106=>(some A106)) (cond (o.kind==3) ((av_ n o.s).bind fun A107=>(some A107)) (cond (o.kind==5) (cond ((o.names.length:Int)==(o.list.length:Int)) ((au_ n o.names).bind fun A108=>(some A108)) (some false)) (cond (o.kind==0) (some true) (some (o.kind==4)))))))) (cond (o.kind==1) ((aI_ n o.n_ 0 1).bind fun A109=>(some A109)) (cond (o.kind==2) ((bm_ n o.n_).bind fun A110=>(some A110)) (cond (o.kind==3) ((av_ n o.s).bind fun A111=>(some A111)) (cond (o.kind==5) (cond ((o.names.length:Int)==(o.list.length:Int)) ((au_ n o.names).bind fun A112=>(some A112)) (some false)) (cond (o.kind==0) (some true) (some (o.kind==4))))))))) (cond (!(o.s==[])) (cond (o.kind != 3) (some false) (cond (o.kind==1) ((aI_ n o.n_ 0 1).bind fun A113=>(some A113)) (cond (o.kind==2) ((bm_ n o.n_).bind fun A114=>(some A114)) (cond (o.kind==3) ((av_ n o.s).bind fun A115=>(some A115)) (cond (o.kind==5) (cond ((o.names.length:Int)==(o.list.length:Int)) ((au_ n o.names).bind fun A116=>(some A116)) (some false)) (cond (o.kind==0) (some true) (some (o.kind==4)))))))) (cond (o.kind==1) ((aI_ n o.n_ 0 1).bind fun A117=>(some A117)) (cond (o.kind==2) ((bm_ n o.n_).bind fun A118=>(some A118)) (cond (o.kind==3) ((av_ n o.s).bind fun A119=>(some A119)) (cond (o.kind==5) (cond ((o.names.length:Int)==(o.list.length:Int)) ((au_ n o.names).bind fun A120=>(some A120)) (some false)) (cond (o.kind==0) (some true) (some (o.kind==4)))))))))) (cond (o.n_ != 0) (cond (o.kind != 1) (cond (o.kind != 2) (some false) (cond (!(o.s==[])) (cond (o.kind != 3) (some false) (cond (o.kind==1) ((aI_ n o.n_ 0 1).bind fun A121=>(some A121)) (cond (o.kind==2) ((bm_ n o.n_).bind fun A122=>(some A122)) (cond (o.kind==3) ((av_ n o.s).bind fun A123=>(some A123)) (cond (o.kind==5) (cond ((o.names.length:Int)==(o.list.length:Int)) ((au_ n o.names).bind fun A124=>(some A124)) (some false)) (cond (o.kind==0) (some true) (some (o.kind==4)))))))) (cond (o.kind==1) ((aI_ n o.n_ 0 1).bind fun A125=>(some A125)) (cond (o.kind==2) ((bm_ n o.n_).bind fun A126=>(some A126)) (cond (o.kind==3) ((av_ n o.s).bind fun A127=>(some A127)) (cond (o.kind==5) (cond ((o.names.length:Int)==(o.list.length:Int)) ((au_ n o.names).bind fun A128=>(some A128)) (some false)) (cond (o.kind==0) (some true) (some (o.kind==4))))))))) (cond (!(o.s==[])) (cond (o.kind != 3) (some false) (cond (o.kind==1) ((aI_ n o.n_ 0 1).bind fun A129=>(some A129)) (cond (o.kind==2) ((bm_ n o.n_).bind fun A130=>(some A130)) (cond (o.kind==3) ((av_ n o.s).bind fun A131=>(some A131)) (cond (o.kind==5) (cond ((o.names.length:Int)==(o.list.length:Int)) ((au_ n o.names).bind fun A132=>(some A132)) (some false)) (cond (o.kind==0) (some true) (some (o.kind==4)))))))) (cond (o.kind==1) ((aI_ n o.n_ 0 1).bind fun A133=>(some A133)) (cond (o.kind==2) ((bm_ n o.n_).bind fun A134=>(some A134)) (cond (o.kind==3) ((av_ n o.s).bind fun A135=>(some A135)) (cond (o.kind==5) (cond ((o.names.length:Int)==(o.list.length:Int)) ((au_ n o.names).bind fun A136=>(some A136)) (some false)) (cond (o.kind==0) (some true) (some (o.kind==4))))))))) (cond (!(o.s==[])) (cond (o.kind != 3) (some false) (cond (o.kind==1) ((aI_ n o.n_ 0 1).bind fun A137=>(some A137)) (cond (o.kind==2) ((bm_ n o.n_).bind fun A138=>(some A138)) (cond (o.kind==3) ((av_ n o.s).bind fun A139=>(some A139)) (cond (o.kind==5) (cond ((o.names.length:Int)==(o.list.length:Int)) ((au_ n o.names).bind fun A140=>(some A140)) (some false)) (cond (o.kind==0) (some true) (some (o.kind==4)))))))) (cond (o.kind==1) ((aI_ n o.n_ 0 1).bind fun A141=>(some A141)) (cond (o.kind==2) ((bm_ n o.n_).bind fun A142=>(some A142)) (cond (o.kind==3) ((av_ n o.s).bind fun A143=>(some A143)) (cond (o.kind==5) (cond ((o.names.length:Int)==(o.list.length:Int)) ((au_ n o.names).bind fun A144=>(some A144)) (some false)) (cond (o.kind==0) (some true) (some (o.kind==4)))))))))))
abbrev bI_.T7:Type:=Int->Int->(List aa_)->Int->Int->Option Int
def bI_.step7 (n:Nat)(impl_sizeIn_:aa_->Int->Option Int)(k0:Int->Option Int)(back:bI_.T7):bI_.T7:=fun deep n_1 t16 t17 t18=>
 (cond (decide (t18<t17)) (inB t18 t16.length ((impl_sizeIn_ (aa_.re (t16.getD t18.toNat aa_.dflt)) (W (deep - 1))).bind fun A2=>(cond (decide ((W (n_1+A2)) > 400)) (some 401) (back deep (W (n_1+A2)) t16 t17 (W (t18+1)))))) (k0 n_1))
def bI_.loop7 (n:Nat)(impl_sizeIn_:aa_->Int->Option Int)(k0:Int->Option Int)(N:Nat):bI_.T7:=cw_ (fun _ _ _ _ _=>none) (bI_.step7 n impl_sizeIn_ k0) N
def bI_:Nat->aa_->Int->Option Int
 |0,_,_=>none
 |n+1,j,deep=>
  (cond (decide (deep<1)) (some 401) ((fn_ n (aa_.re j)).bind fun A1=>(cond (!A1) (some 401) (bI_.loop7 n (bI_ n) (fun B3=>(some B3)) n deep 1 j.list (j.list.length:Int) 0))))
def c0_:Nat->aa_->Option Bool
 |0,_=>none
 |n+1,j=>
  ((bI_ n (aa_.re j) 6).bind fun A1=>(some (decide (A1<=400))))
abbrev bY_.K4:Type:=(List Int)->Option Bs
abbrev bY_.T4:Type:=Bs->Int->Int->(List Int)->Option Bs
def bY_.step4 (n:Nat)(k0:bY_.K4)(back:bY_.T4):bY_.T4:=fun s t7 t8 out_1=>
 (cond (decide (t8<t7)) (inB t8 s.length (cond (((s.getD t8.toNat 0).toNat:Int)==34) (bj_ (out_1.length+([92]:List Int).length) 1 (inB t8 s.length (bj_ ((out_1++([92]:List Int)).length+([((s.getD t8.toNat 0).toNat:Int)]:List Int).length) 1 (back s t7 (W (t8+1)) ((out_1++([92]:List Int))++([((s.getD t8.toNat 0).toNat:Int)]:List Int)))))) (inB t8 s.length (cond (((s.getD t8.toNat 0).toNat:Int)==92) (bj_ (out_1.length+([92]:List Int).length) 1 (inB t8 s.length (bj_ ((out_1++([92]:List Int)).length+([((s.getD t8.toNat 0).toNat:Int)]:List Int).length) 1 (back s t7 (W (t8+1)) ((out_1++([92]:List Int))++([((s.getD t8.toNat 0).toNat:Int)]:List Int)))))) (inB t8 s.length (bj_ (out_1.length+([((s.getD t8.toNat 0).toNat:Int)]:List Int).length) 1 (back s t7 (W (t8+1)) (out_1++([((s.getD t8.toNat 0).toNat:Int)]:List Int))))))))) (k0 out_1))
def bY_.loop4 (n:Nat)(k0:bY_.K4)(N:Nat):bY_.T4:=cw_ (fun _ _ _ _=>none) (bY_.step4 n k0) N
def bY_:Nat->Bs->Option Bs
 |0,_=>none
 |n+1,s=>
  (bY_.loop4 n (fun B1=>(bj_ (B1.length+([34]:List Int).length) 1 (some (i6_ (B1++([34]:List Int)))))) n s (s.length:Int) 0 ([34]:List Int))
def strconv_Itoa:Nat->Int->Option Bs
 |0,_=>none
 |_+1,i=>nItoa i
def strings_Join:Nat->List Bs->Bs->Option Bs
 |0,_,_=>none
 |_+1,l,s=>nJoin l s
abbrev a9_.K4_1:Type:=Int->Int->Bs->(List aa_)->(List Bs)->(List Bs)->Option Bs
abbrev a9_.T4:Type:=(List aa_)->Int->Int->Int->Int->Bs->(List aa_)->(List Bs)->(List Bs)->Option Bs
def a9_.step4 (n:Nat)(impl_written_:aa_->Option Bs)(k0:a9_.K4_1)(back:a9_.T4):a9_.T4:=fun t9 t10 t11 append0 append1 append2 append3 append4 t3=>
 (cond (decide (t11<t10)) (inB t11 t9.length ((impl_written_ (aa_.re (t9.getD t11.toNat aa_.dflt))).bind fun A1=>(cond (append0==5) (inB t11 append4.length ((bY_ n (append4.getD t11.toNat [])).bind fun A2=>(cond (decide (A2.length+[58].length<=9223372036854775807)) (cond (decide ((A2++[58]).length+A1.length<=9223372036854775807)) (bj_ (t3.length+([((A2++[58])++A1)]:List Bs).length) 16 (back t9 t10 (W (t11+1)) append0 append1 append2 append3 append4 (t3++([((A2++[58])++A1)]:List Bs)))) none) none))) (bj_ (t3.length+([A1]:List Bs).length) 16 (back t9 t10 (W (t11+1)) append0 append1 append2 append3 append4 (t3++([A1]:List Bs))))))) (k0 append0 append1 append2 append3 append4 t3))
def a9_.loop4 (n:Nat)(impl_written_:aa_->Option Bs)(k0:a9_.K4_1)(N:Nat):a9_.T4:=cw_ (fun _ _ _ _ _ _ _ _ _=>none) (a9_.step4 n impl_written_ k0) N
def a9_:Nat->aa_->Option Bs
 |0,_=>none
 |n+1,o=>
  (a9_.loop4 n (a9_ n) (fun B3 B4 B5 B6 B7 B8=>(cond (B3==0) (some [110,117,108,108]) (cond (B3==1) (inB B4 ([[102,97,108,115,101],[116,114,117,101]]:List Bs).length (let C9:Bs:=(([[102,97,108,115,101],[116,114,117,101]]:List Bs).getD B4.toNat []);(some C9))) (cond (B3==2) ((strconv_Itoa n B4).bind fun A10=>(some A10)) (cond (B3==3) ((bY_ n B5).bind fun A11=>(some A11)) (cond (B3==4) ((strings_Join n B8 [44]).bind fun A12=>(cond (decide ([91].length+A12.length<=9223372036854775807)) (cond (decide ((([91]:Bs)++A12).length+[93].length<=9223372036854775807)) (some ((([91]:Bs)++A12)++[93])) none) none)) ((strings_Join n B8 [44]).bind fun A13=>(cond (decide ([123].length+A13.length<=9223372036854775807)) (cond (decide ((([123]:Bs)++A13).length+[125].length<=9223372036854775807)) (some ((([123]:Bs)++A13)++[125])) none) none)))))))) n o.list (o.list.length:Int) 0 o.kind o.n_ o.s o.list o.names ([]:List Bs))
def dL_:Nat->aa_->Option Bs
 |0,_=>none
 |n+1,j=>
  ((c0_ n (aa_.re j)).bind fun A1=>(cond (!A1) (some []) ((a9_ n (aa_.re j)).bind fun A2=>(cond (decide ((A2.length:Int) > 6000)) (some []) (some A2)))))
def eG_:Nat->Bs->Option (aa_×Bool)
 |0,_=>none
 |n+1,s=>
  (cond (decide ((s.length:Int) > 6000)) (some ((aa_.mk 0 0 [] ([]:List aa_) ([]:List Bs)),false)) ((b6_ n (bu_.mk s false) 6).bind fun A1=>(cond A1.2.bad (some ((aa_.mk 0 0 [] ([]:List aa_) ([]:List Bs)),false)) ((dL_ n (aa_.re A1.1)).bind fun A2=>(cond (!(A2==s)) (some ((aa_.mk 0 0 [] ([]:List aa_) ([]:List Bs)),false)) (some ((aa_.re A1.1),true)))))))
abbrev aC_.T3:Type:=(List Bs)->Bs->Int->Int->Option Int
def aC_.step3 (n:Nat)(k0:Option Int)(back:aC_.T3):aC_.T3:=fun s v t7 t8=>
 (cond (decide (t8<t7)) (inB t8 s.length (cond (v==(s.getD t8.toNat [])) (some t8) (back s v t7 (W (t8+1))))) k0)
def aC_.loop3 (n:Nat)(k0:Option Int)(N:Nat):aC_.T3:=cw_ (fun _ _ _ _=>none) (aC_.step3 n k0) N
def aC_:Nat->(List Bs)->Bs->Option Int
 |0,_,_=>none
 |n+1,s,v=>
  (aC_.loop3 n (some (-1)) n s v (s.length:Int) 0)
def dh_:Nat->(List Bs)->Option (List Bs)
 |0,_=>none
 |n+1,l=>
  (bj_ (([]:List Bs).length+l.length) 16 (some (([]:List Bs)++l)))
abbrev aw_.K4_1:Type:=Int->Int->Bs->Int->Int->Bs->(List aa_)->(List Bs)->Option aa_
abbrev aw_.T4:Type:=(List aa_)->Int->Int->Int->Int->Bs->Int->Int->Bs->(List aa_)->(List Bs)->Option aa_
def aw_.step4 (n:Nat)(impl_copyJson_:aa_->Option aa_)(k0:aw_.K4_1)(back:aw_.T4):aw_.T4:=fun t17 t18 t19 t20 t21 t22 out0 out1 out2 out3 out4=>
 (cond (decide (t19<t18)) (inB t19 t17.length ((impl_copyJson_ (aa_.re (t17.getD t19.toNat aa_.dflt))).bind fun A2=>(bj_ (out3.length+([(aa_.re A2)]:List aa_).length) 80 (back t17 t18 (W (t19+1)) t20 t21 t22 out0 out1 out2 (out3++([(aa_.re A2)]:List aa_)) out4)))) (k0 t20 t21 t22 out0 out1 out2 out3 out4))
def aw_.loop4 (n:Nat)(impl_copyJson_:aa_->Option aa_)(k0:aw_.K4_1)(N:Nat):aw_.T4:=cw_ (fun _ _ _ _ _ _ _ _ _ _ _=>none) (aw_.step4 n impl_copyJson_ k0) N
def aw_:Nat->aa_->Option aa_
 |0,_=>none
 |n+1,j=>
  ((dh_ n j.names).bind fun A1=>(aw_.loop4 n (aw_ n) (fun B3 B4 B5 B6 B7 B8 B9 B10=>(some (aa_.mk B6 B7 B8 B9 B10))) n j.list (j.list.length:Int) 0 0 0 [] j.kind j.n_ j.s ([]:List aa_) A1))
def eN_:Nat->aa_->Bs->Option (aa_×Bool)
 |0,_,_=>none
 |n+1,j,name=>
  ((aC_ n j.names name).bind fun A1=>((c0_ n (aa_.re j)).bind fun A2=>(cond (!A2) (some ((aa_.mk 0 0 [] ([]:List aa_) ([]:List Bs)),false)) (cond (decide (A1<0)) (some ((aa_.mk 0 0 [] ([]:List aa_) ([]:List Bs)),false)) (inB A1 j.list.length ((aw_ n (aa_.re (j.list.getD A1.toNat aa_.dflt))).bind fun A3=>(some ((aa_.re A3),true))))))))
def strings_Split:Nat->Bs->Bs->Option (List Bs)
 |0,_,_=>none
 |_+1,s,a=>sM_ s a
def strings_ReplaceAll:Nat->Bs->Bs->Bs->Option Bs
 |0,_,_,_=>none
 |_+1,s,a,b=>gX_ s a b
abbrev bT_.T4:Type:=Bs->(List Bs)->Int->Int->Option Bs
def bT_.step4 (n:Nat)(k0:Bs->Option Bs)(back:bT_.T4):bT_.T4:=fun out_1 t6 t7 t8=>
 (cond (decide (t8<t7)) (inB t8 t6.length ((strings_ReplaceAll n (t6.getD t8.toNat []) [126] [126,48]).bind fun A1=>((strings_ReplaceAll n A1 [47] [126,49]).bind fun A2=>(cond (decide ([47].length+A2.length<=9223372036854775807)) (cond (decide (out_1.length+(([47]:Bs)++A2).length<=9223372036854775807)) (back (out_1++(([47]:Bs)++A2)) t6 t7 (W (t8+1))) none) none)))) (k0 out_1))
def bT_.loop4 (n:Nat)(k0:Bs->Option Bs)(N:Nat):bT_.T4:=cw_ (fun _ _ _ _=>none) (bT_.step4 n k0) N
def bT_:Nat->(List Bs)->Option Bs
 |0,_=>none
 |n+1,way=>
  (bT_.loop4 n (fun B3=>(some B3)) n [] way (way.length:Int) 0)
abbrev bE_.K7:Type:=Bs->(List Bs)->Option ((List Bs)×Bool)
abbrev bE_.T7:Type:=Bs->(List Bs)->Int->Int->(List Bs)->Option ((List Bs)×Bool)
def bE_.step7 (n:Nat)(k0:bE_.K7)(back:bE_.T7):bE_.T7:=fun s t13 t14 t15 way=>
 (cond (decide (t15<t14)) (inB t15 t13.length ((strings_ReplaceAll n (t13.getD t15.toNat []) [126,49] [47]).bind fun A2=>((strings_ReplaceAll n A2 [126,48] [126]).bind fun A3=>(bj_ (way.length+([A3]:List Bs).length) 16 (back s t13 t14 (W (t15+1)) (way++([A3]:List Bs))))))) (k0 s way))
def bE_.loop7 (n:Nat)(k0:bE_.K7)(N:Nat):bE_.T7:=cw_ (fun _ _ _ _ _=>none) (bE_.step7 n k0) N
def bE_:Nat->Bs->Option ((List Bs)×Bool)
 |0,_=>none
 |n+1,s=>
  (cond (s==[]) (some (([]:List Bs),true)) ((strings_Split n s [47]).bind fun A1=>(fF_ 1 (A1.length:Int) A1.length (bE_.loop7 n (fun B4 B5=>(cond (decide ((B5.length:Int) > 6)) (some (([]:List Bs),false)) ((bT_ n B5).bind fun A6=>(cond (!(A6==B4)) (some (([]:List Bs),false)) (some (B5,true)))))) n s ((A1.take ((A1.length:Int).toNat)).drop 1) ((((A1.length:Int).toNat) - 1:Nat):Int) 0 ([]:List Bs)))))
def dF_:Nat->Unit->Option (List Bs)
 |0,_=>none
 |n+1,_u=>
  (some ([[97,100,100],[114,101,109,111,118,101],[114,101,112,108,97,99,101],[116,101,115,116]]:List Bs))
def em_:Nat->aa_->Option Bool
 |0,_=>none
 |n+1,j=>
  (cond (j.kind==0) (cond (j.n_==0) (cond (j.s==[]) (cond ((j.list.length:Int)==0) (some ((j.names.length:Int)==0)) (some false)) (some false)) (some false)) (some false))
abbrev cu_.K3:Type:=Int->(List Bs)->Int->Int->Bs->(List aa_)->(List Bs)->Option Bool
abbrev cu_.T3:Type:=(List Bs)->Int->Int->Int->(List Bs)->Int->Int->Bs->(List aa_)->(List Bs)->Option Bool
def cu_.step3 (n:Nat)(k0:cu_.K3)(back:cu_.T3):cu_.T3:=fun t6 t7 t8 o0 o1 o2 o3 o4 o5 o6=>
 (cond (decide (t8<t7)) (inB t8 t6.length ((av_ n (t6.getD t8.toNat [])).bind fun A1=>(cond (!A1) (some false) (back t6 t7 (W (t8+1)) o0 o1 o2 o3 o4 o5 o6)))) (k0 o0 o1 o2 o3 o4 o5 o6))
def cu_.loop3 (n:Nat)(k0:cu_.K3)(N:Nat):cu_.T3:=cw_ (fun _ _ _ _ _ _ _ _ _ _=>none) (cu_.step3 n k0) N
def cu_:Nat->TOp->Option Bool
 |0,_=>none
 |n+1,o=>
  (cu_.loop3 n (fun B2 B3 B4 B5 B6 B7 B8=>((aI_ n B2 1 4).bind fun A9=>(cond A9 (cond (decide ((B3.length:Int)<=6)) ((c0_ n (aa_.mk B4 B5 B6 B7 B8)).bind fun A10=>(cond A10 (cond (B2 != 2) (some true) ((em_ n (aa_.mk B4 B5 B6 B7 B8)).bind fun A11=>(some A11))) (some false))) (some false)) (some false)))) n o.way (o.way.length:Int) 0 o.kind o.way o.value.kind o.value.n_ o.value.s o.value.list o.value.names)
def eD_:Nat->aa_->Option aa_
 |0,_=>none
 |n+1,j=>
  ((c0_ n (aa_.re j)).bind fun A1=>(cond (!A1) (some (aa_.mk 0 0 [] ([]:List aa_) ([]:List Bs))) (some (aa_.re j))))
def eF_:Nat->TOp->Option aa_
 |0,_=>none
 |n+1,o=>
  ((cu_ n (TOp.mk o.kind o.way (aa_.re o.value))).bind fun A1=>(cond (!A1) (some (aa_.mk 0 0 [] ([]:List aa_) ([]:List Bs))) ((dF_ n ()).bind fun A2=>(inB (W (o.kind - 1)) A2.length ((bT_ n o.way).bind fun A3=>(cond (o.kind != 2) (bj_ (([[111,112],[112,97,116,104]]:List Bs).length+([[118,97,108,117,101]]:List Bs).length) 16 ((aw_ n (aa_.re o.value)).bind fun A4=>(bj_ (([(aa_.mk 3 0 (A2.getD ((W (o.kind - 1)).toNat) []) [] []),(aa_.mk 3 0 A3 [] [])]:List aa_).length+([(aa_.re A4)]:List aa_).length) 80 ((eD_ n (aa_.mk 5 0 [] (([(aa_.mk 3 0 (A2.getD ((W (o.kind - 1)).toNat) []) [] []),(aa_.mk 3 0 A3 [] [])]:List aa_)++([(aa_.re A4)]:List aa_)) (([[111,112],[112,97,116,104]]:List Bs)++([[118,97,108,117,101]]:List Bs)))).bind fun A5=>(some (aa_.re A5)))))) ((eD_ n (aa_.mk 5 0 [] ([(aa_.mk 3 0 (A2.getD ((W (o.kind - 1)).toNat) []) [] []),(aa_.mk 3 0 A3 [] [])]:List aa_) ([[111,112],[112,97,116,104]]:List Bs))).bind fun A6=>(some (aa_.re A6)))))))))
abbrev aH_.T6:Type:=(List Bs)->(List Bs)->Int->Int->Option Bool
def aH_.step6 (n:Nat)(k0:Option Bool)(back:aH_.T6):aH_.T6:=fun s1 s2 t12 t13=>
 (cond (decide (t13<t12)) (inB t13 s1.length (inB t13 s2.length (cond (!((s1.getD t13.toNat [])==(s2.getD t13.toNat []))) (some false) (back s1 s2 t12 (W (t13+1)))))) k0)
def aH_.loop6 (n:Nat)(k0:Option Bool)(N:Nat):aH_.T6:=cw_ (fun _ _ _ _=>none) (aH_.step6 n k0) N
def aH_:Nat->(List Bs)->(List Bs)->Option Bool
 |0,_,_=>none
 |n+1,s1,s2=>
  (cond ((s1.length:Int) != (s2.length:Int)) (some false) (aH_.loop6 n (some true) n s1 s2 (s1.length:Int) 0))
abbrev af_.T6:Type:=(List aa_)->(List aa_)->Int->Int->Option Bool
def af_.step6 (n:Nat)(impl_alike_:aa_->aa_->Option Bool)(k0:Option Bool)(back:af_.T6):af_.T6:=fun s2 t15 t16 t17=>
 (cond (decide (t17<t16)) (inB t17 t15.length (inB t17 s2.length ((impl_alike_ (aa_.re (t15.getD t17.toNat aa_.dflt)) (aa_.re (s2.getD t17.toNat aa_.dflt))).bind fun A1=>(cond (!A1) (some false) (back s2 t15 t16 (W (t17+1))))))) k0)
def af_.loop6 (n:Nat)(impl_alike_:aa_->aa_->Option Bool)(k0:Option Bool)(N:Nat):af_.T6:=cw_ (fun _ _ _ _=>none) (af_.step6 n impl_alike_ k0) N
mutual
def d2_:Nat->aa_->aa_->Option Bool
 |0,_,_=>none
 |n+1,a,b=>
  (cond (a.kind==b.kind) (cond (a.n_==b.n_) (cond (a.s==b.s) ((aH_ n a.names b.names).bind fun A1=>(cond A1 ((af_ n a.list b.list).bind fun A2=>(some A2)) (some false))) (some false)) (some false)) (some false))
def af_:Nat->(List aa_)->(List aa_)->Option Bool
 |0,_,_=>none
 |n+1,s1,s2=>
  (cond ((s1.length:Int) != (s2.length:Int)) (some false) (af_.loop6 n (d2_ n) (some true) n s2 s1 (s1.length:Int) 0))
end
def ea_:Nat->aa_->aa_->Option Bool
 |0,_,_=>none
 |n+1,a,b=>
  ((c0_ n (aa_.re a)).bind fun A1=>(cond A1 ((c0_ n (aa_.re b)).bind fun A2=>(cond A2 ((d2_ n (aa_.re a) (aa_.re b)).bind fun A3=>(some A3)) (some false))) (some false)))
def eY_:Nat->aa_->Option (TOp×Bool)
 |0,_=>none
 |n+1,o=>
  ((eN_ n (aa_.re o) [111,112]).bind fun A1=>((eN_ n (aa_.re o) [112,97,116,104]).bind fun A2=>((eN_ n (aa_.re o) [118,97,108,117,101]).bind fun A3=>((bE_ n A2.1.s).bind fun A4=>((dF_ n ()).bind fun A5=>((aC_ n A5 A1.1.s).bind fun A6=>(cond (!A1.2) (some ((TOp.mk 0 ([]:List Bs) (aa_.mk 0 0 [] ([]:List aa_) ([]:List Bs))),false)) (cond (!A2.2) (some ((TOp.mk 0 ([]:List Bs) (aa_.mk 0 0 [] ([]:List aa_) ([]:List Bs))),false)) (cond (!A4.2) (some ((TOp.mk 0 ([]:List Bs) (aa_.mk 0 0 [] ([]:List aa_) ([]:List Bs))),false)) ((cu_ n (TOp.mk (W (1+A6)) A4.1 (aa_.re A3.1))).bind fun A7=>(cond (!A7) (some ((TOp.mk 0 ([]:List Bs) (aa_.mk 0 0 [] ([]:List aa_) ([]:List Bs))),false)) ((eF_ n (TOp.mk (W (1+A6)) A4.1 (aa_.re A3.1))).bind fun A8=>((ea_ n (aa_.re A8) (aa_.re o)).bind fun A9=>(cond (!A9) (some ((TOp.mk 0 ([]:List Bs) (aa_.mk 0 0 [] ([]:List aa_) ([]:List Bs))),false)) (some ((TOp.mk (W (1+A6)) A4.1 (aa_.re A3.1)),true))))))))))))))))
abbrev ch_.K4:Type:=Int->Int->Bs->(List aa_)->(List Bs)->(List TOp)->Option ((List TOp)×Bool)
abbrev ch_.T4:Type:=(List aa_)->Int->Int->Int->Int->Bs->(List aa_)->(List Bs)->(List TOp)->Option ((List TOp)×Bool)
def ch_.step4 (n:Nat)(k0:ch_.K4)(back:ch_.T4):ch_.T4:=fun t11 t12 t13 j0 j1 j2 j3 j4 ops=>
 (cond (decide (t13<t12)) (inB t13 t11.length ((eY_ n (aa_.re (t11.getD t13.toNat aa_.dflt))).bind fun A1=>(cond (!A1.2) (some (([]:List TOp),false)) (bj_ (ops.length+([{ A1.1 with value:=(aa_.re A1.1.value) }]:List TOp).length) 112 (back t11 t12 (W (t13+1)) j0 j1 j2 j3 j4 (ops++([{ A1.1 with value:=(aa_.re A1.1.value) }]:List TOp))))))) (k0 j0 j1 j2 j3 j4 ops))
def ch_.loop4 (n:Nat)(k0:ch_.K4)(N:Nat):ch_.T4:=cw_ (fun _ _ _ _ _ _ _ _ _=>none) (ch_.step4 n k0) N
def ch_:Nat->aa_->Option ((List TOp)×Bool)
 |0,_=>none
 |n+1,j=>
  (ch_.loop4 n (fun B2 B3 B4 B5 B6 B7=>(some (B7,(B2==4)))) n j.list (j.list.length:Int) 0 j.kind j.n_ j.s j.list j.names ([]:List TOp))
def eg_:Nat->Bs->Option ar_
 |0,_=>none
 |n+1,o=>
  ((cX_ n o [101,118,101,110,116,58,32,115,110,97,112,10]).bind fun A1=>(cond A1.2 ((d1_ n A1.1 [105,100,58,32]).bind fun A2=>((d1_ n A2.2 [100,97,116,97,58,32]).bind fun A3=>((dg_ n A2.1).bind fun A4=>((eG_ n A3.1).bind fun A5=>(some (ar_.mk 1 A4.1 0 (aa_.re A5.1) ([]:List TOp))))))) ((cR_ n o [101,118,101,110,116,58,32,112,97,116,99,104,10]).bind fun A6=>((d1_ n A6 [105,100,58,32]).bind fun A7=>((d1_ n A7.2 [98,97,115,101,58,32]).bind fun A8=>((d1_ n A8.2 [100,97,116,97,58,32]).bind fun A9=>((dg_ n A7.1).bind fun A10=>((dg_ n A8.1).bind fun A11=>((eG_ n A9.1).bind fun A12=>((ch_ n (aa_.re A12.1)).bind fun A13=>(some (ar_.mk 2 A10.1 A11.1 (aa_.mk 0 0 [] ([]:List aa_) ([]:List Bs)) A13.1))))))))))))
def dt_:Nat->Int->Option Bool
 |0,_=>none
 |n+1,n1=>
  ((aI_ n n1 0 100000).bind fun A1=>(some A1))
abbrev bs_.K4:Type:=Int->Int->Bs->Int->Int->Bs->(List aa_)->Option (aa_×Bool)
abbrev bs_.T4:Type:=(List TOp)->Int->Int->Int->Int->Bs->Int->Int->Bs->(List aa_)->Option (aa_×Bool)
def bs_.step4 (n:Nat)(k0:bs_.K4)(back:bs_.T4):bs_.T4:=fun t9 t10 t11 t20 t21 t22 j0 j1 j2 j3=>
 (cond (decide (t11<t10)) (inB t11 t9.length ((eF_ n { (t9.getD t11.toNat TOp.dflt) with value:=(aa_.re ((t9.getD t11.toNat TOp.dflt).value)) }).bind fun A1=>(cond (A1.kind==0) (some ((aa_.mk 0 0 [] ([]:List aa_) ([]:List Bs)),false)) (bj_ (j3.length+([(aa_.re A1)]:List aa_).length) 80 (back t9 t10 (W (t11+1)) t20 t21 t22 j0 j1 j2 (j3++([(aa_.re A1)]:List aa_))))))) (k0 t20 t21 t22 j0 j1 j2 j3))
def bs_.loop4 (n:Nat)(k0:bs_.K4)(N:Nat):bs_.T4:=cw_ (fun _ _ _ _ _ _ _ _ _ _=>none) (bs_.step4 n k0) N
def bs_:Nat->(List TOp)->Option (aa_×Bool)
 |0,_=>none
 |n+1,list=>
  (bs_.loop4 n (fun B2 B3 B4 B5 B6 B7 B8=>(some ((aa_.mk B5 B6 B7 B8 ([]:List Bs)),true))) n list (list.length:Int) 0 0 0 [] 4 0 [] ([]:List aa_))
def dV_:Nat->(List TOp)->Option Int
 |0,_=>none
 |n+1,list=>
  ((bs_ n list).bind fun A1=>((dL_ n (aa_.re A1.1)).bind fun A2=>(cond (!A1.2) (some (-1)) (cond (A2==[]) (some (-1)) (some (A2.length:Int))))))
def ei_:Nat->ar_->Option Bool
 |0,_=>none
 |n+1,e=>
  (cond (e.kind==1) ((dt_ n e.version).bind fun A1=>(cond A1 (cond (e.base==0) ((dL_ n (aa_.re e.doc)).bind fun A2=>(cond (!(A2==[])) (some ((e.ops.length:Int)==0)) (some false))) (some false)) (some false))) (cond (e.kind==2) ((dt_ n e.version).bind fun A3=>(cond A3 ((aI_ n e.base 0 (W (e.version - 1))).bind fun A4=>(cond A4 ((em_ n (aa_.re e.doc)).bind fun A5=>(cond A5 (cond (decide ((e.ops.length:Int)<=40)) ((dV_ n e.ops).bind fun A6=>(some (decide (A6>=0)))) (some false)) (some false))) (some false))) (some false))) (some false)))
def eE_:Nat->Int->Option Bs
 |0,_=>none
 |n+1,n1=>
  ((strconv_Itoa n n1).bind fun A1=>(some A1))
def dX_:Nat->ar_->Option Bs
 |0,_=>none
 |n+1,e=>
  ((ei_ n { e with doc:=(aa_.re e.doc) }).bind fun A1=>(cond (!A1) (some []) ((eE_ n e.version).bind fun A2=>(cond (decide ([105,100,58,32].length+A2.length<=9223372036854775807)) (cond (decide ((([105,100,58,32]:Bs)++A2).length+[10].length<=9223372036854775807)) (cond (e.kind==1) (cond (decide ([101,118,101,110,116,58,32,115,110,97,112,10].length+((([105,100,58,32]:Bs)++A2)++[10]).length<=9223372036854775807)) (let C3:Bs:=(([101,118,101,110,116,58,32,115,110,97,112,10]:Bs)++((([105,100,58,32]:Bs)++A2)++[10]));(cond (decide (C3.length+[100,97,116,97,58,32].length<=9223372036854775807)) ((dL_ n (aa_.re e.doc)).bind fun A4=>(cond (decide ((C3++[100,97,116,97,58,32]).length+A4.length<=9223372036854775807)) (cond (decide (((C3++[100,97,116,97,58,32])++A4).length+[10,10].length<=9223372036854775807)) (some (((C3++[100,97,116,97,58,32])++A4)++[10,10])) none) none)) none)) none) ((bs_ n e.ops).bind fun A5=>(cond (decide ([101,118,101,110,116,58,32,112,97,116,99,104,10].length+((([105,100,58,32]:Bs)++A2)++[10]).length<=9223372036854775807)) (let C6:Bs:=(([101,118,101,110,116,58,32,112,97,116,99,104,10]:Bs)++((([105,100,58,32]:Bs)++A2)++[10]));(cond (decide (C6.length+[98,97,115,101,58,32].length<=9223372036854775807)) ((eE_ n e.base).bind fun A7=>(cond (decide ((C6++[98,97,115,101,58,32]).length+A7.length<=9223372036854775807)) (cond (decide (((C6++[98,97,115,101,58,32])++A7).length+[10,100,97,116,97,58,32].length<=9223372036854775807)) (let C8:Bs:=(((C6++[98,97,115,101,58,32])++A7)++[10,100,97,116,97,58,32]);((dL_ n (aa_.re A5.1)).bind fun A9=>(cond (decide (C8.length+A9.length<=9223372036854775807)) (cond (decide ((C8++A9).length+[10,10].length<=9223372036854775807)) (some ((C8++A9)++[10,10])) none) none))) none) none)) none)) none))) none) none))))
def dd_:Nat->Bs->Option (ar_×Bool)
 |0,_=>none
 |n+1,text=>
  ((eg_ n text).bind fun A1=>((dX_ n { A1 with doc:=(aa_.re A1.doc) }).bind fun A2=>(cond (A2==[]) (some ((ar_.mk 0 0 0 (aa_.mk 0 0 [] ([]:List aa_) ([]:List Bs)) ([]:List TOp)),false)) (cond (!(A2==text)) (some ((ar_.mk 0 0 0 (aa_.mk 0 0 [] ([]:List aa_) ([]:List Bs)) ([]:List TOp)),false)) (some ({ A1 with doc:=(aa_.re A1.doc) },true))))))
abbrev cv_.K5:Type:=Bs->Bool->Bs->Bool->(List ar_)->Option (aW_×(List ar_))
abbrev cv_.T5:Type:=Bs->Bool->Bs->Bool->(List ar_)->Option (aW_×(List ar_))
def cv_.step5 (n:Nat)(k0:cv_.K5)(back:cv_.T5):cv_.T5:=fun wait bad t40 t41 events=>
 (cond (!bad) ((strings_Index n wait [10,10]).bind fun A1=>(cond (decide (A1<0)) (k0 wait (decide ((wait.length:Int) > 14000)) t40 t41 events) (fF_ 0 (W (A1+2)) wait.length ((dd_ n ((wait.take (W (A1+2)).toNat).drop 0)).bind fun A2=>(cond (!A2.2) (k0 wait true t40 t41 events) (bj_ (events.length+([{ A2.1 with doc:=(aa_.re A2.1.doc) }]:List ar_).length) 128 (fF_ (W (A1+2)) (wait.length:Int) wait.length (back ((wait.take (wait.length:Int).toNat).drop (W (A1+2)).toNat) bad t40 t41 (events++([{ A2.1 with doc:=(aa_.re A2.1.doc) }]:List ar_)))))))))) (k0 wait bad t40 t41 events))
def cv_.loop5 (n:Nat)(k0:cv_.K5)(N:Nat):cv_.T5:=cw_ (fun _ _ _ _ _=>none) (cv_.step5 n k0) N
def cv_:Nat->aW_->Bs->Option (aW_×(List ar_))
 |0,_,_=>none
 |n+1,s,pb_=>
  (cond (decide (s.wait.length+pb_.length<=9223372036854775807)) (cv_.loop5 n (fun B3 B4 B5 B6 B7=>(cond B4 (some ((aW_.mk [] true),B7)) (some ((aW_.mk B3 false),B7)))) n (s.wait++pb_) s.bad [] false ([]:List ar_)) none)
def dy_:Nat->bf_->Option bf_
 |0,_=>none
 |n+1,c=>
  ((aw_ n (aa_.re c.doc)).bind fun A1=>(some { c with doc:=(aa_.re A1) }))
def fm_:Nat->aa_->TOp->Option (aa_×Bool)
 |0,_,_=>none
 |n+1,j,o=>
  (cond (o.kind==1) (cond (o.kind==1) ((aw_ n (aa_.re o.value)).bind fun A1=>(some ((aa_.re A1),true))) (cond (o.kind==4) ((d2_ n (aa_.re j) (aa_.re o.value)).bind fun A2=>(some ((aa_.re j),A2))) (some ((aa_.mk 0 0 [] ([]:List aa_) ([]:List Bs)),false)))) (cond (o.kind==3) ((aw_ n (aa_.re o.value)).bind fun A3=>(some ((aa_.re A3),true))) (cond (o.kind==4) ((d2_ n (aa_.re j) (aa_.re o.value)).bind fun A4=>(some ((aa_.re j),A4))) (some ((aa_.mk 0 0 [] ([]:List aa_) ([]:List Bs)),false)))))
def cY_:Nat->Bs->Option Bool
 |0,_=>none
 |n+1,x=>
  (some (!(x==x)))
def dl_:Nat->Bs->Bs->Option Bool
 |0,_,_=>none
 |n+1,x,y=>
  ((cY_ n x).bind fun A1=>(cond A1 ((cY_ n y).bind fun A2=>(cond (!A2) (some true) (some (Op.bytesLess x y)))) (some (Op.bytesLess x y))))
def cp_:Nat->Bs->Option Bool
 |0,_=>none
 |n+1,x=>
  (some (!(x==x)))
abbrev al_.K4:Type:=(List Bs)->Bs->Int->Int->Option (Int×Bool)
abbrev al_.T4:Type:=(List Bs)->Bs->Int->Int->Int->Option (Int×Bool)
def al_.step4 (n:Nat)(k0:al_.K4)(back:al_.T4):al_.T4:=fun x target n_1 i j=>
 (cond (decide (i<j)) (let C1:Int:=(Int.fdiv (IntKind.u64.wrap ((W (i+j)))) (2 ^ min (1:Int).toNat (IntKind.bits .u64)));(inB (W (C1)) x.length ((dl_ n (x.getD (W (C1)).toNat []) target).bind fun A2=>(cond A2 (back x target n_1 (W ((W (C1))+1)) j) (back x target n_1 i (W (C1))))))) (k0 x target n_1 i))
def al_.loop4 (n:Nat)(k0:al_.K4)(N:Nat):al_.T4:=cw_ (fun _ _ _ _ _=>none) (al_.step4 n k0) N
def al_:Nat->(List Bs)->Bs->Option (Int×Bool)
 |0,_,_=>none
 |n+1,x,target=>
  (al_.loop4 n (fun B3 B4 B5 B6=>(cond (decide (B6<B5)) (inB B6 B3.length (cond ((B3.getD B6.toNat [])==B4) (some (B6,true)) (inB B6 B3.length ((cp_ n (B3.getD B6.toNat [])).bind fun A7=>(cond A7 ((cp_ n B4).bind fun A8=>(some (B6,A8))) (some (B6,false))))))) (some (B6,false)))) n x target (x.length:Int) 0 (x.length:Int))
def cO_:Nat->List Bs->Int->List Bs->Option (List Bs)
 |0,_,_,_=>none
 |_+1,s,i,v=>kV_ 16 s i v
def cF_:Nat->List aa_->Int->List aa_->Option (List aa_)
 |0,_,_,_=>none
 |_+1,s,i,v=>kV_ 80 s i v
def eh_:Nat->Bs->Option Int
 |0,_=>none
 |n+1,s=>
  ((dg_ n s).bind fun A1=>(cond (!A1.2) (some (-1)) ((aI_ n A1.1 0 999).bind fun A2=>(cond (!A2) (some (-1)) ((strconv_Itoa n A1.1).bind fun A3=>(cond (!(A3==s)) (some (-1)) (some A1.1)))))))
def ez_:Nat->aa_->Bs->aa_->Option (aa_×Bool)
 |0,_,_,_=>none
 |n+1,o,append,a2=>
  (cond (o.kind==5) ((al_ n o.names append).bind fun A1=>(cond A1.2 (inB A1.1 o.list.length (let D2:List aa_:=o.list.set A1.1.toNat (aa_.re a2);(some ((aa_.mk o.kind o.n_ o.s D2 o.names),true)))) ((cO_ n o.names A1.1 ([append]:List Bs)).bind fun A3=>((cF_ n o.list A1.1 ([(aa_.re a2)]:List aa_)).bind fun A4=>(some ((aa_.mk o.kind o.n_ o.s A4 A3),true)))))) (cond (o.kind==4) ((eh_ n append).bind fun A5=>(cond (append==[45]) ((aI_ n (o.list.length:Int) 0 (o.list.length:Int)).bind fun A6=>(cond (!A6) (some ((aa_.mk 0 0 [] ([]:List aa_) ([]:List Bs)),false)) ((cF_ n o.list (o.list.length:Int) ([(aa_.re a2)]:List aa_)).bind fun A7=>(some ((aa_.mk o.kind o.n_ o.s A7 o.names),true))))) ((aI_ n A5 0 (o.list.length:Int)).bind fun A8=>(cond (!A8) (some ((aa_.mk 0 0 [] ([]:List aa_) ([]:List Bs)),false)) ((cF_ n o.list A5 ([(aa_.re a2)]:List aa_)).bind fun A9=>(some ((aa_.mk o.kind o.n_ o.s A9 o.names),true))))))) (some ((aa_.mk 0 0 [] ([]:List aa_) ([]:List Bs)),false))))
def ef_:Nat->aa_->Bs->Option Int
 |0,_,_=>none
 |n+1,j,text=>
  (cond (j.kind==5) ((aC_ n j.names text).bind fun A1=>(cond (decide (A1>=(j.list.length:Int))) (some (-1)) (some A1))) (cond (j.kind==4) ((eh_ n text).bind fun A2=>(cond (decide (A2>=(j.list.length:Int))) (some (-1)) (some A2))) (cond (decide ((-1:Int)>=(j.list.length:Int))) (some (-1)) (some (-1)))))
def c2_:Nat->List aa_->Int->Int->Option (List aa_)
 |0,_,_,_=>none
 |_+1,s,i,j=>kW_ s i j
def cP_:Nat->List Bs->Int->Int->Option (List Bs)
 |0,_,_,_=>none
 |_+1,s,i,j=>kW_ s i j
def dU_:Nat->aa_->Int->Option aa_
 |0,_,_=>none
 |n+1,j,at1=>
  ((c2_ n j.list at1 (W (at1+1))).bind fun A1=>(cond (j.kind==5) ((cP_ n j.names at1 (W (at1+1))).bind fun A2=>(some (aa_.mk j.kind j.n_ j.s A1 A2))) (some (aa_.mk j.kind j.n_ j.s A1 j.names))))
def da_:Nat->aa_->(List Bs)->TOp->Option (aa_×Bool)
 |0,_,_,_=>none
 |n+1,o,append,a2=>
  (cond ((append.length:Int)==0) ((fm_ n (aa_.re o) (TOp.mk a2.kind a2.way (aa_.re a2.value))).bind fun A1=>(some ((aa_.re A1.1),A1.2))) (cond ((append.length:Int)==1) (cond (a2.kind==1) (inB 0 append.length ((aw_ n (aa_.re a2.value)).bind fun A2=>((ez_ n (aa_.re o) (append.getD 0 []) (aa_.re A2)).bind fun A3=>(some ((aa_.re A3.1),A3.2))))) (inB 0 append.length ((ef_ n (aa_.re o) (append.getD 0 [])).bind fun A4=>(cond (decide (A4<0)) (some ((aa_.mk 0 0 [] ([]:List aa_) ([]:List Bs)),false)) (cond ((append.length:Int)==1) (cond (a2.kind==2) ((dU_ n (aa_.re o) A4).bind fun A5=>(some ((aa_.re A5),true))) (inB A4 o.list.length (fF_ 1 (append.length:Int) append.length (cond (Nat.beq A4.toNat A4.toNat) (cond (Nat.beq A4.toNat A4.toNat) ((da_ n (aa_.re (o.list.getD A4.toNat aa_.dflt)) ((append.take (append.length:Int).toNat).drop 1) (TOp.mk a2.kind a2.way (aa_.re a2.value))).bind fun A6=>(cond (!A6.2) (some ((aa_.mk 0 0 [] ([]:List aa_) ([]:List Bs)),false)) (inB A4 o.list.length (cond (Nat.beq A4.toNat A4.toNat) (let D7:List aa_:=o.list.set A4.toNat (aa_.re A6.1);(some ((aa_.mk o.kind o.n_ o.s D7 o.names),true))) none)))) none) none)))) (inB A4 o.list.length (fF_ 1 (append.length:Int) append.length (cond (Nat.beq A4.toNat A4.toNat) (cond (Nat.beq A4.toNat A4.toNat) ((da_ n (aa_.re (o.list.getD A4.toNat aa_.dflt)) ((append.take (append.length:Int).toNat).drop 1) (TOp.mk a2.kind a2.way (aa_.re a2.value))).bind fun A8=>(cond (!A8.2) (some ((aa_.mk 0 0 [] ([]:List aa_) ([]:List Bs)),false)) (inB A4 o.list.length (cond (Nat.beq A4.toNat A4.toNat) (let D9:List aa_:=o.list.set A4.toNat (aa_.re A8.1);(some ((aa_.mk o.kind o.n_ o.s D9 o.names),true))) none)))) none) none)))))))) (inB 0 append.length ((ef_ n (aa_.re o) (append.getD 0 [])).bind fun A10=>(cond (decide (A10<0)) (some ((aa_.mk 0 0 [] ([]:List aa_) ([]:List Bs)),false)) (cond ((append.length:Int)==1) (cond (a2.kind==2) ((dU_ n (aa_.re o) A10).bind fun A11=>(some ((aa_.re A11),true))) (inB A10 o.list.length (fF_ 1 (append.length:Int) append.length (cond (Nat.beq A10.toNat A10.toNat) (cond (Nat.beq A10.toNat A10.toNat) ((da_ n (aa_.re (o.list.getD A10.toNat aa_.dflt)) ((append.take (append.length:Int).toNat).drop 1) (TOp.mk a2.kind a2.way (aa_.re a2.value))).bind fun A12=>(cond (!A12.2) (some ((aa_.mk 0 0 [] ([]:List aa_) ([]:List Bs)),false)) (inB A10 o.list.length (cond (Nat.beq A10.toNat A10.toNat) (let D13:List aa_:=o.list.set A10.toNat (aa_.re A12.1);(some ((aa_.mk o.kind o.n_ o.s D13 o.names),true))) none)))) none) none)))) (inB A10 o.list.length (fF_ 1 (append.length:Int) append.length (cond (Nat.beq A10.toNat A10.toNat) (cond (Nat.beq A10.toNat A10.toNat) ((da_ n (aa_.re (o.list.getD A10.toNat aa_.dflt)) ((append.take (append.length:Int).toNat).drop 1) (TOp.mk a2.kind a2.way (aa_.re a2.value))).bind fun A14=>(cond (!A14.2) (some ((aa_.mk 0 0 [] ([]:List aa_) ([]:List Bs)),false)) (inB A10 o.list.length (cond (Nat.beq A10.toNat A10.toNat) (let D15:List aa_:=o.list.set A10.toNat (aa_.re A14.1);(some ((aa_.mk o.kind o.n_ o.s D15 o.names),true))) none)))) none) none)))))))))
def fo_:Nat->aa_->TOp->Option (aa_×Bool)
 |0,_,_=>none
 |n+1,j,o=>
  ((c0_ n (aa_.re j)).bind fun A1=>(cond (!A1) (some ((aa_.mk 0 0 [] ([]:List aa_) ([]:List Bs)),false)) ((cu_ n (TOp.mk o.kind o.way (aa_.re o.value))).bind fun A2=>(cond (!A2) (some ((aa_.mk 0 0 [] ([]:List aa_) ([]:List Bs)),false)) ((aw_ n (aa_.re j)).bind fun A3=>((da_ n (aa_.re A3) o.way (TOp.mk o.kind o.way (aa_.re o.value))).bind fun A4=>(cond (!A4.2) (some ((aa_.mk 0 0 [] ([]:List aa_) ([]:List Bs)),false)) ((c0_ n (aa_.re A4.1)).bind fun A5=>(cond (!A5) (some ((aa_.mk 0 0 [] ([]:List aa_) ([]:List Bs)),false)) (some ((aa_.re A4.1),true)))))))))))
abbrev bl_.K7:Type:=Int->Int->Bs->Int->Int->Bs->(List aa_)->(List Bs)->Option (aa_×Bool)
abbrev bl_.T7:Type:=(List TOp)->Int->Int->Int->Int->Bs->Int->Int->Bs->(List aa_)->(List Bs)->Option (aa_×Bool)
def bl_.step7 (n:Nat)(k0:bl_.K7)(back:bl_.T7):bl_.T7:=fun t22 t23 t24 t40 t41 t42 out0 out1 out2 out3 out4=>
 (cond (decide (t24<t23)) (inB t24 t22.length ((fo_ n (aa_.mk out0 out1 out2 out3 out4) { (t22.getD t24.toNat TOp.dflt) with value:=(aa_.re ((t22.getD t24.toNat TOp.dflt).value)) }).bind fun A3=>(cond (!A3.2) (some ((aa_.mk 0 0 [] ([]:List aa_) ([]:List Bs)),false)) (back t22 t23 (W (t24+1)) t40 t41 t42 A3.1.kind A3.1.n_ A3.1.s A3.1.list A3.1.names)))) (k0 t40 t41 t42 out0 out1 out2 out3 out4))
def bl_.loop7 (n:Nat)(k0:bl_.K7)(N:Nat):bl_.T7:=cw_ (fun _ _ _ _ _ _ _ _ _ _ _=>none) (bl_.step7 n k0) N
def bl_:Nat->aa_->(List TOp)->Option (aa_×Bool)
 |0,_,_=>none
 |n+1,j,list=>
  ((c0_ n (aa_.re j)).bind fun A1=>(cond (!A1) (some ((aa_.mk 0 0 [] ([]:List aa_) ([]:List Bs)),false)) (cond (decide ((list.length:Int) > 40)) (some ((aa_.mk 0 0 [] ([]:List aa_) ([]:List Bs)),false)) ((aw_ n (aa_.re j)).bind fun A2=>(bl_.loop7 n (fun B4 B5 B6 B7 B8 B9 B10 B11=>(some ((aa_.mk B7 B8 B9 B10 B11),true))) n list (list.length:Int) 0 0 0 [] A2.kind A2.n_ A2.s A2.list A2.names)))))
def dz_:Nat->bf_->ar_->Option bf_
 |0,_,_=>none
 |n+1,o,append=>
  ((dy_ n { o with doc:=(aa_.re o.doc) }).bind fun A1=>(cond o.bad (some { A1 with doc:=(aa_.re A1.doc) }) ((ei_ n { append with doc:=(aa_.re append.doc) }).bind fun A2=>(cond (!A2) (some { A1 with doc:=(aa_.re A1.doc),bad:=true }) (cond (append.kind==1) (cond (!o.began) ((aw_ n (aa_.re append.doc)).bind fun A3=>(some (bf_.mk (aa_.re A3) append.version true A1.bad))) (cond (decide (append.version > o.version)) ((aw_ n (aa_.re append.doc)).bind fun A4=>(some (bf_.mk (aa_.re A4) append.version true A1.bad))) (cond (append.kind==2) (cond o.began (cond (append.base==o.version) ((bl_ n (aa_.re o.doc) append.ops).bind fun A5=>(cond A5.2 (some { A1 with doc:=(aa_.re A5.1),version:=append.version }) (some { A1 with doc:=(aa_.re A1.doc),bad:=true }))) (some { A1 with doc:=(aa_.re A1.doc),bad:=true })) (some { A1 with doc:=(aa_.re A1.doc),bad:=true })) (some { A1 with doc:=(aa_.re A1.doc),bad:=true })))) (cond (append.kind==2) (cond o.began (cond (append.base==o.version) ((bl_ n (aa_.re o.doc) append.ops).bind fun A6=>(cond A6.2 (some { A1 with doc:=(aa_.re A6.1),version:=append.version }) (some { A1 with doc:=(aa_.re A1.doc),bad:=true }))) (some { A1 with doc:=(aa_.re A1.doc),bad:=true })) (some { A1 with doc:=(aa_.re A1.doc),bad:=true })) (some { A1 with doc:=(aa_.re A1.doc),bad:=true })))))))
abbrev bc_.K4:Type:=Int->Int->Bs->Int->Bool->Bool->Int->Int->Bs->Int->Bool->Bool->(List aa_)->(List Bs)->Option bf_
abbrev bc_.T4:Type:=(List ar_)->Int->Int->Int->Int->Bs->Int->Bool->Bool->Int->Int->Bs->Int->Bool->Bool->(List aa_)->(List Bs)->Option bf_
def bc_.step4 (n:Nat)(k0:bc_.K4)(back:bc_.T4):bc_.T4:=fun t7 t8 t9 t20 t21 t22 t25 t26 t27 c0 c1 c2 c5 c6 c7 c3 c4=>
 (cond (decide (t9<t8)) (inB t9 t7.length ((dz_ n (bf_.mk (aa_.mk c0 c1 c2 c3 c4) c5 c6 c7) { (t7.getD t9.toNat ar_.dflt) with doc:=(aa_.re ((t7.getD t9.toNat ar_.dflt).doc)) }).bind fun A1=>(back t7 t8 (W (t9+1)) t20 t21 t22 t25 t26 t27 A1.doc.kind A1.doc.n_ A1.doc.s A1.version A1.began A1.bad A1.doc.list A1.doc.names))) (k0 t20 t21 t22 t25 t26 t27 c0 c1 c2 c5 c6 c7 c3 c4))
def bc_.loop4 (n:Nat)(k0:bc_.K4)(N:Nat):bc_.T4:=cw_ (fun _ _ _ _ _ _ _ _ _ _ _ _ _ _ _ _ _=>none) (bc_.step4 n k0) N
def bc_:Nat->(List ar_)->Option bf_
 |0,_=>none
 |n+1,list=>
  (bc_.loop4 n (fun B2 B3 B4 B5 B6 B7 B8 B9 B10 B11 B12 B13 B14 B15=>(some (bf_.mk (aa_.mk B8 B9 B10 B14 B15) B11 B12 B13))) n list (list.length:Int) 0 0 0 [] 0 false false 0 0 [] 0 false false ([]:List aa_) ([]:List Bs))
def dk_:Nat->Bs->Option (bf_×aW_)
 |0,_=>none
 |n+1,text=>
  ((cv_ n (aW_.mk [] false) text).bind fun A1=>((bc_ n A1.2).bind fun A2=>(cond A2.bad (some ({ A2 with doc:=(aa_.re A2.doc),bad:=true },A1.1)) (some ({ A2 with doc:=(aa_.re A2.doc),bad:=A1.1.bad },A1.1)))))
abbrev b1_.T3:Type:=Bs->Int->Option Int
def b1_.step3 (n:Nat)(k0:Option Int)(back:b1_.T3):b1_.T3:=fun s i=>
 (cond (decide (i<(s.length:Int))) (inB i s.length (cond (((s.getD i.toNat 0).toNat:Int)==10) (inB (W (i - 1)) s.length (cond (((s.getD (W (i - 1)).toNat 0).toNat:Int)==10) (some (W (i+1))) (back s (W (i+1))))) (back s (W (i+1))))) k0)
def b1_.loop3 (n:Nat)(k0:Option Int)(N:Nat):b1_.T3:=cw_ (fun _ _=>none) (b1_.step3 n k0) N
def b1_:Nat->Bs->Option Int
 |0,_=>none
 |n+1,s=>
  (b1_.loop3 n (some (-1)) n s 1)
abbrev bk_.K5:Type:=(List Bs)->Option (List Bs)
abbrev bk_.T5:Type:=Bs->Int->Int->(List Bs)->Option (List Bs)
def bk_.step5 (n:Nat)(k0:bk_.K5)(back:bk_.T5):bk_.T5:=fun text from_1 i out_1=>
 (cond (decide (i<(text.length:Int))) (inB i text.length (cond (((text.getD i.toNat 0).toNat:Int)==10) (fF_ from_1 i text.length (bj_ (out_1.length+([((text.take i.toNat).drop from_1.toNat)]:List Bs).length) 16 (back text (W (i+1)) (W (i+1)) (out_1++([((text.take i.toNat).drop from_1.toNat)]:List Bs))))) (back text from_1 (W (i+1)) out_1))) (k0 out_1))
def bk_.loop5 (n:Nat)(k0:bk_.K5)(N:Nat):bk_.T5:=cw_ (fun _ _ _ _=>none) (bk_.step5 n k0) N
def bk_:Nat->Bs->Option (List Bs)
 |0,_=>none
 |n+1,text=>
  (bk_.loop5 n (fun B1=>(some B1)) n text 0 0 ([]:List Bs))
def cS_:Nat->Bs->Bs->Option Bs
 |0,_,_=>none
 |n+1,line,head=>
  (cond (decide ((line.length:Int)<(head.length:Int))) (some []) (fF_ 0 (head.length:Int) line.length (cond (!(((line.take (head.length:Int).toNat).drop 0)==head)) (some []) (fF_ (head.length:Int) (line.length:Int) line.length (some ((line.take (line.length:Int).toNat).drop (head.length:Int).toNat))))))
def c7_:Nat->be_->Option (Int×be_)
 |0,_=>none
 |n+1,c=>
  (cond (decide (c.at_>=(c.s.length:Int))) (some (0,c)) (inB c.at_ c.s.length (some (((c.s.getD c.at_.toNat 0).toNat:Int),c))))
abbrev aU_.K7:Type:=Bool->Int->Int->Bs->Int->Bool->Int->Option (Int×be_)
abbrev aU_.T7:Type:=Bool->Int->Int->Bs->Int->Bool->Int->Option (Int×be_)
def aU_.step7 (n:Nat)(k0:aU_.K7)(back:aU_.T7):aU_.T7:=fun t3 t4 t5 o0 o1 o2 o3=>
 ((c7_ n (be_.mk o0 o1 o2 o3)).bind fun A2=>(cond (decide (A2.1>=48)) ((c7_ n A2.2).bind fun A3=>(cond (decide (A3.1<=57)) (cond (decide ((W (A3.2.at_ - t4))<11)) ((c7_ n A3.2).bind fun A4=>(back t3 t4 (W ((W ((W (10*t5))+(W (A4.1)))) - 48)) A4.2.s (W (A4.2.at_+1)) A4.2.ok A4.2.left)) (k0 t3 t4 t5 A3.2.s A3.2.at_ A3.2.ok A3.2.left)) (k0 t3 t4 t5 A3.2.s A3.2.at_ A3.2.ok A3.2.left))) (k0 t3 t4 t5 A2.2.s A2.2.at_ A2.2.ok A2.2.left)))
def aU_.loop7 (n:Nat)(k0:aU_.K7)(N:Nat):aU_.T7:=cw_ (fun _ _ _ _ _ _ _=>none) (aU_.step7 n k0) N
def aU_:Nat->be_->Option (Int×be_)
 |0,_=>none
 |n+1,o=>
  ((c7_ n o).bind fun A1=>(cond (A1.1==45) (aU_.loop7 n (fun B5 B6 B7 B8 B9 B10 B11=>(cond (B9==B6) (cond B5 (some ((W (0 - B7)),(be_.mk B8 B9 false B11))) (some (B7,(be_.mk B8 B9 false B11)))) (cond B5 (some ((W (0 - B7)),(be_.mk B8 B9 B10 B11))) (some (B7,(be_.mk B8 B9 B10 B11)))))) n (A1.1==45) (W (A1.2.at_+1)) 0 A1.2.s (W (A1.2.at_+1)) A1.2.ok A1.2.left) (aU_.loop7 n (fun B12 B13 B14 B15 B16 B17 B18=>(cond (B16==B13) (cond B12 (some ((W (0 - B14)),(be_.mk B15 B16 false B18))) (some (B14,(be_.mk B15 B16 false B18)))) (cond B12 (some ((W (0 - B14)),(be_.mk B15 B16 B17 B18))) (some (B14,(be_.mk B15 B16 B17 B18)))))) n (A1.1==45) A1.2.at_ 0 A1.2.s A1.2.at_ A1.2.ok A1.2.left)))
def eB_:Nat->Bs->Option (Int×Bool)
 |0,_=>none
 |n+1,s=>
  ((aU_ n (be_.mk s 0 true 0)).bind fun A1=>(cond A1.2.ok ((aN_ n A1.1).bind fun A2=>(some (A1.1,(A2==s)))) (some (A1.1,false))))
def cq_:Nat->be_->Bs->Option be_
 |0,_,_=>none
 |n+1,c,what=>
  (cond (decide ((W ((c.s.length:Int) - c.at_))<(what.length:Int))) (some { c with ok:=false }) (fF_ c.at_ (W (c.at_+(what.length:Int))) c.s.length (let C1:Bool:=(!(((c.s.take (W (c.at_+(what.length:Int))).toNat).drop c.at_.toNat)==what));(cond C1 (some { c with ok:=false }) (some { c with at_:=(W (c.at_+(what.length:Int))) })))))
abbrev aV_.K4:Type:=Bs->Int->Bool->Int->(List Int)->Option (Bs×be_)
abbrev aV_.T4:Type:=Bs->Int->Bool->Int->(List Int)->Option (Bs×be_)
def aV_.step4 (n:Nat)(k0:aV_.K4)(back:aV_.T4):aV_.T4:=fun c0 c1 c2 c3 out_1=>
 (cond c2 ((c7_ n (be_.mk c0 c1 c2 c3)).bind fun A2=>(cond (A2.1 != 34) ((c7_ n A2.2).bind fun A3=>(cond (A3.1==92) (cond (decide ((W (A3.2.at_+1))>=(A3.2.s.length:Int))) (k0 A3.2.s (W (A3.2.at_+1)) false A3.2.left out_1) (inB (W (A3.2.at_+1)) A3.2.s.length (bj_ (out_1.length+([((A3.2.s.getD (W (A3.2.at_+1)).toNat 0).toNat:Int)]:List Int).length) 1 (back A3.2.s (W ((W (A3.2.at_+1))+1)) A3.2.ok A3.2.left (out_1++([((A3.2.s.getD (W (A3.2.at_+1)).toNat 0).toNat:Int)]:List Int)))))) (cond (decide (A3.2.at_>=(A3.2.s.length:Int))) (k0 A3.2.s A3.2.at_ false A3.2.left out_1) (inB A3.2.at_ A3.2.s.length (bj_ (out_1.length+([((A3.2.s.getD A3.2.at_.toNat 0).toNat:Int)]:List Int).length) 1 (back A3.2.s (W (A3.2.at_+1)) A3.2.ok A3.2.left (out_1++([((A3.2.s.getD A3.2.at_.toNat 0).toNat:Int)]:List Int)))))))) (k0 A2.2.s A2.2.at_ A2.2.ok A2.2.left out_1))) (k0 c0 c1 c2 c3 out_1))
def aV_.loop4 (n:Nat)(k0:aV_.K4)(N:Nat):aV_.T4:=cw_ (fun _ _ _ _ _=>none) (aV_.step4 n k0) N
def aV_:Nat->be_->Option (Bs×be_)
 |0,_=>none
 |n+1,c=>
  ((cq_ n c [34]).bind fun A1=>(aV_.loop4 n (fun B4 B5 B6 B7 B8=>((cq_ n (be_.mk B4 B5 B6 B7) [34]).bind fun A9=>(some ((i6_ B8),A9)))) n A1.s A1.at_ A1.ok A1.left ([]:List Int)))
abbrev bt_.K8_1:Type:=Bs->Bs->Int->Bool->Int->Int->Int->Bs->Int->Int->Bs->(List aa_)->(List Bs)->Option (aa_×be_)
abbrev bt_.T8:Type:=Int->Bs->Bs->Int->Bool->Int->Int->Int->Bs->Int->Int->Bs->(List aa_)->(List Bs)->Option (aa_×be_)
def bt_.step8 (n:Nat) (spec_l2Value_:be_->Int->Option (aa_×be_)) (k0:bt_.K8_1) (back:bt_.T8):bt_.T8:=fun depth end_1 c0 c1 c2 c3 t40 t41 t42 out0 out1 out2 out3 out4=>
 (cond c2 ((c7_ n (be_.mk c0 c1 c2 c3)).bind fun A2=>(inB 0 end_1.length (cond (A2.1 != ((end_1.getD 0 0).toNat:Int)) (cond (decide ((out3.length:Int) > 0)) ((cq_ n A2.2 [44]).bind fun A3=>(cond (out0==5) ((aV_ n A3).bind fun A4=>(bj_ (out4.length+([A4.1]:List Bs).length) 16 ((cq_ n A4.2 [58]).bind fun A5=>((spec_l2Value_ A5 (W (depth - 1))).bind fun A6=>(bj_ (out3.length+([(aa_.re A6.1)]:List aa_).length) 80 (back depth end_1 A6.2.s A6.2.at_ A6.2.ok A6.2.left t40 t41 t42 out0 out1 out2 (out3++([(aa_.re A6.1)]:List aa_)) (out4++([A4.1]:List Bs)))))))) ((spec_l2Value_ A3 (W (depth - 1))).bind fun A7=>(bj_ (out3.length+([(aa_.re A7.1)]:List aa_).length) 80 (back depth end_1 A7.2.s A7.2.at_ A7.2.ok A7.2.left t40 t41 t42 out0 out1 out2 (out3++([(aa_.re A7.1)]:List aa_)) out4))))) (cond (out0==5) ((aV_ n A2.2).bind fun A8=>(bj_ (out4.length+([A8.1]:List Bs).length) 16 ((cq_ n A8.2 [58]).bind fun A9=>((spec_l2Value_ A9 (W (depth - 1))).bind fun A10=>(bj_ (out3.length+([(aa_.re A10.1)]:List aa_).length) 80 (back depth end_1 A10.2.s A10.2.at_ A10.2.ok A10.2.left t40 t41 t42 out0 out1 out2 (out3++([(aa_.re A10.1)]:List aa_)) (out4++([A8.1]:List Bs)))))))) ((spec_l2Value_ A2.2 (W (depth - 1))).bind fun A11=>(bj_ (out3.length+([(aa_.re A11.1)]:List aa_).length) 80 (back depth end_1 A11.2.s A11.2.at_ A11.2.ok A11.2.left t40 t41 t42 out0 out1 out2 (out3++([(aa_.re A11.1)]:List aa_)) out4))))) (k0 end_1 A2.2.s A2.2.at_ A2.2.ok A2.2.left t40 t41 t42 out0 out1 out2 out3 out4)))) (k0 end_1 c0 c1 c2 c3 t40 t41 t42 out0 out1 out2 out3 out4))
def bt_.loop8 (n:Nat) (spec_l2Value_:be_->Int->Option (aa_×be_)) (k0:bt_.K8_1) (N:Nat):bt_.T8:=cw_ (fun _ _ _ _ _ _ _ _ _ _ _ _ _ _=>none) (bt_.step8 n spec_l2Value_ k0) N
mutual
def cE_:Nat->be_->Int->Option (aa_×be_)
 |0,_,_=>none
 |n+1,c,depth=>
  (cond (depth==0) (some ((aa_.mk 0 0 [] ([]:List aa_) ([]:List Bs)),(be_.mk c.s c.at_ false (W (c.left - 1))))) (cond (decide ((W (c.left - 1))<0)) (some ((aa_.mk 0 0 [] ([]:List aa_) ([]:List Bs)),(be_.mk c.s c.at_ false (W (c.left - 1))))) (cond (!c.ok) (some ((aa_.mk 0 0 [] ([]:List aa_) ([]:List Bs)),{ c with left:=(W (c.left - 1)) })) ((c7_ n { c with left:=(W (c.left - 1)) }).bind fun A1=>(cond (A1.1==110) ((cq_ n A1.2 [110,117,108,108]).bind fun A2=>(some ((aa_.mk 0 0 [] ([]:List aa_) ([]:List Bs)),A2))) (cond (A1.1==116) ((cq_ n A1.2 [116,114,117,101]).bind fun A3=>(some ((aa_.mk 1 1 [] ([]:List aa_) ([]:List Bs)),A3))) (cond (A1.1==102) ((cq_ n A1.2 [102,97,108,115,101]).bind fun A4=>(some ((aa_.mk 1 0 [] ([]:List aa_) ([]:List Bs)),A4))) (cond (A1.1==34) ((aV_ n A1.2).bind fun A5=>(some ((aa_.mk 3 0 A5.1 ([]:List aa_) ([]:List Bs)),A5.2))) (cond (A1.1==91) (cond (A1.1==91) ((bt_ n A1.2 depth).bind fun A6=>(some ((aa_.re A6.1),A6.2))) ((aU_ n A1.2).bind fun A7=>(some ((aa_.mk 2 A7.1 [] ([]:List aa_) ([]:List Bs)),A7.2)))) (cond (A1.1==123) ((bt_ n A1.2 depth).bind fun A8=>(some ((aa_.re A8.1),A8.2))) ((aU_ n A1.2).bind fun A9=>(some ((aa_.mk 2 A9.1 [] ([]:List aa_) ([]:List Bs)),A9.2)))))))))))))
def bt_:Nat->be_->Int->Option (aa_×be_)
 |0,_,_=>none
 |n+1,c,depth=>
  ((c7_ n c).bind fun A1=>(cond (A1.1==123) (bt_.loop8 n (cE_ n) (fun B12 B13 B14 B15 B16 B17 B18 B19 B20 B21 B22 B23 B24=>((cq_ n (be_.mk B13 B14 B15 B16) B12).bind fun A25=>(some ((aa_.mk B20 B21 B22 B23 B24),A25)))) n depth [125] A1.2.s (W (A1.2.at_+1)) A1.2.ok A1.2.left 0 0 [] 5 0 [] ([]:List aa_) ([]:List Bs)) (bt_.loop8 n (cE_ n) (fun B26 B27 B28 B29 B30 B31 B32 B33 B34 B35 B36 B37 B38=>((cq_ n (be_.mk B27 B28 B29 B30) B26).bind fun A39=>(some ((aa_.mk B34 B35 B36 B37 B38),A39)))) n depth [93] A1.2.s (W (A1.2.at_+1)) A1.2.ok A1.2.left 0 0 [] 4 0 [] ([]:List aa_) ([]:List Bs))))
end
def eX_:Nat->Bs->Option (aa_×Bool)
 |0,_=>none
 |n+1,s=>
  (cond (s==[]) (some ((aa_.mk 0 0 [] ([]:List aa_) ([]:List Bs)),false)) (cond (decide ((s.length:Int) > 6000)) (some ((aa_.mk 0 0 [] ([]:List aa_) ([]:List Bs)),false)) ((cE_ n (be_.mk s 0 true 400) 6).bind fun A1=>(cond (!A1.2.ok) (some ((aa_.mk 0 0 [] ([]:List aa_) ([]:List Bs)),false)) (cond (A1.2.at_ != (s.length:Int)) (some ((aa_.mk 0 0 [] ([]:List aa_) ([]:List Bs)),false)) ((c9_ n (aa_.re A1.1)).bind fun A2=>(cond (!(A2==s)) (some ((aa_.mk 0 0 [] ([]:List aa_) ([]:List Bs)),false)) (some ((aa_.re A1.1),true)))))))))
abbrev cL_.T3:Type:=Bs->Int->Int->Int->Bs->(List aa_)->(List Bs)->Option Int
def cL_.step3 (n:Nat)(k0:Option Int)(back:cL_.T3):cL_.T3:=fun name i j0 j1 j2 j3 j4=>
 (cond (decide (i<(j4.length:Int))) (inB i j4.length (cond ((j4.getD i.toNat [])==name) (some i) (back name (W (i+1)) j0 j1 j2 j3 j4))) k0)
def cL_.loop3 (n:Nat)(k0:Option Int)(N:Nat):cL_.T3:=cw_ (fun _ _ _ _ _ _ _=>none) (cL_.step3 n k0) N
def cL_:Nat->aa_->Bs->Option Int
 |0,_,_=>none
 |n+1,j,name=>
  (cL_.loop3 n (some (-1)) n name 0 j.kind j.n_ j.s j.list j.names)
def ep_:Nat->aa_->Bs->Option (aa_×Bool)
 |0,_,_=>none
 |n+1,j,name=>
  ((cL_ n (aa_.re j) name).bind fun A1=>((cH_ n (aa_.re j)).bind fun A2=>(cond (!A2) (some ((aa_.mk 0 0 [] ([]:List aa_) ([]:List Bs)),false)) (cond (j.kind != 5) (some ((aa_.mk 0 0 [] ([]:List aa_) ([]:List Bs)),false)) (cond (decide (A1<0)) (some ((aa_.mk 0 0 [] ([]:List aa_) ([]:List Bs)),false)) (inB A1 j.list.length ((aF_ n (aa_.re (j.list.getD A1.toNat aa_.dflt))).bind fun A3=>(some ((aa_.re A3),true)))))))))
abbrev a4_.K6:Type:=Bs->(List Bs)->(List Bs)->(List Int)->Option ((List Bs)×Bool)
abbrev a4_.T6:Type:=Bs->Int->(List Bs)->(List Bs)->(List Int)->Option ((List Bs)×Bool)
def a4_.step6 (n:Nat)(k0:a4_.K6)(back:a4_.T6):a4_.T6:=fun o t7 t4 t5 t6=>
 (cond (decide (t7<(o.length:Int))) (inB t7 o.length (cond (((o.getD t7.toNat 0).toNat:Int)==47) (cond (decide (t7 > 0)) (bj_ (t5.length+([(i6_ t6)]:List Bs).length) 16 (back o (W (t7+1)) t4 (t5++([(i6_ t6)]:List Bs)) ([]:List Int))) (back o (W (t7+1)) t4 t5 ([]:List Int))) (cond (t7==0) (some (t4,false)) (inB t7 o.length (cond (((o.getD t7.toNat 0).toNat:Int)==126) (cond ((W (t7+1))==(o.length:Int)) (some (t4,false)) (inB (W (t7+1)) o.length (cond (((o.getD (W (t7+1)).toNat 0).toNat:Int) != 48) (inB (W (t7+1)) o.length (cond (((o.getD (W (t7+1)).toNat 0).toNat:Int) != 49) (some (t4,false)) (inB (W (t7+1)) o.length (cond (((o.getD (W (t7+1)).toNat 0).toNat:Int)==48) (bj_ (t6.length+([126]:List Int).length) 1 (back o (W ((W (t7+1))+1)) t4 t5 (t6++([126]:List Int)))) (bj_ (t6.length+([47]:List Int).length) 1 (back o (W ((W (t7+1))+1)) t4 t5 (t6++([47]:List Int)))))))) (inB (W (t7+1)) o.length (cond (((o.getD (W (t7+1)).toNat 0).toNat:Int)==48) (bj_ (t6.length+([126]:List Int).length) 1 (back o (W ((W (t7+1))+1)) t4 t5 (t6++([126]:List Int)))) (bj_ (t6.length+([47]:List Int).length) 1 (back o (W ((W (t7+1))+1)) t4 t5 (t6++([47]:List Int))))))))) (inB t7 o.length (bj_ (t6.length+([((o.getD t7.toNat 0).toNat:Int)]:List Int).length) 1 (back o (W (t7+1)) t4 t5 (t6++([((o.getD t7.toNat 0).toNat:Int)]:List Int)))))))))) (k0 o t4 t5 t6))
def a4_.loop6 (n:Nat)(k0:a4_.K6)(N:Nat):a4_.T6:=cw_ (fun _ _ _ _ _=>none) (a4_.step6 n k0) N
def a4_:Nat->Bs->Option ((List Bs)×Bool)
 |0,_=>none
 |n+1,o=>
  (a4_.loop6 n (fun B1 B2 B3 B4=>(cond (!(B1==[])) (bj_ (B3.length+([(i6_ B4)]:List Bs).length) 16 (cond (decide (((B3++([(i6_ B4)]:List Bs)).length:Int) > 6)) (some (B2,false)) (some ((B3++([(i6_ B4)]:List Bs)),true)))) (cond (decide ((B3.length:Int) > 6)) (some (B2,false)) (some (B3,true))))) n o 0 ([]:List Bs) ([]:List Bs) ([]:List Int))
abbrev bz_.K7:Type:=Int->Int->Bs->(List aa_)->(List Bs)->Int->Int->Int->Bs->Int->Int->Int->Bs->Int->Int->Bs->(List aa_)->(List Bs)->Option (TOp×Bool)
abbrev bz_.T7:Type:=Int->Int->Int->Bs->(List aa_)->(List Bs)->Int->Int->Int->Bs->Int->Int->Int->Bs->Int->Int->Bs->Int->Int->Bs->(List Bs)->(List aa_)->(List Bs)->(List aa_)->(List Bs)->Option (TOp×Bool)
def bz_.step7 (n:Nat)(k0:bz_.K7)(back:bz_.T7):bz_.T7:=fun t10 append0 append1 append2 append3 append4 t20 t22 t23 t24 t40 t42 t43 t44 t50 t51 t52 t70 t71 t72 t9 t53 t54 t73 t74=>
 (cond (decide (t10<(t9.length:Int))) (cond (t50==3) (inB t10 t9.length (cond (t52==(t9.getD t10.toNat [])) (back (W (t10+1)) append0 append1 append2 append3 append4 t20 t22 t23 t24 t10 t42 t43 t44 t50 t51 t52 t70 t71 t72 t9 t53 t54 t73 t74) (back (W (t10+1)) append0 append1 append2 append3 append4 t20 t22 t23 t24 t40 t42 t43 t44 t50 t51 t52 t70 t71 t72 t9 t53 t54 t73 t74))) (back (W (t10+1)) append0 append1 append2 append3 append4 t20 t22 t23 t24 t40 t42 t43 t44 t50 t51 t52 t70 t71 t72 t9 t53 t54 t73 t74)) (k0 append0 append1 append2 append3 append4 t20 t22 t23 t24 t40 t42 t43 t44 t70 t71 t72 t73 t74))
def bz_.loop7 (n:Nat)(k0:bz_.K7)(N:Nat):bz_.T7:=cw_ (fun _ _ _ _ _ _ _ _ _ _ _ _ _ _ _ _ _ _ _ _ _ _ _ _ _=>none) (bz_.step7 n k0) N
def bz_.tail15 (n:Nat)(t12:Bool)(append0 append1:Int)(append2:Bs)(append3:List aa_)(append4:List Bs)(t20 t22 t23:Int)(t24:Bs)(t40:Int)(t41:List Bs)(t42 t43:Int)(t44:Bs)(t45:List aa_)(t46:List Bs):Option (TOp×Bool) :=
 (cond (!t12) (some ((TOp.mk 0 [] (aa_.mk 0 0 [] [] [])),false)) (cond (t40==0) (some ((TOp.mk 0 [] (aa_.mk 0 0 [] [] [])),false)) ((ek_ n (TOp.mk t40 t41 (aa_.mk t42 t43 t44 t45 t46))).bind fun A24=>((dT_ n (aa_.re A24) (aa_.mk append0 append1 append2 append3 append4)).bind fun A25=>(cond (!A25) (some ((TOp.mk 0 [] (aa_.mk 0 0 [] [] [])),false)) (some ((TOp.mk t40 t41 (aa_.mk t42 t43 t44 t45 t46)),true)))))))
def bz_:Nat->aa_->Option (TOp×Bool)
 |0,_=>none
 |n+1,o=>
  ((ep_ n (aa_.re o) [111,112]).bind fun A1=>((ep_ n (aa_.re o) [112,97,116,104]).bind fun A2=>((dD_ n ()).bind fun A3=>(bz_.loop7 n (fun B4 B5 B6 B7 B8 B9 B10 B11 B12 B13 B14 B15 B16 B17 B18 B19 B20 B21=>((a4_ n B19).bind fun A22=>((ep_ n (aa_.mk B4 B5 B6 B7 B8) [118,97,108,117,101]).bind fun A23=>(bz_.tail15 n A22.2 B4 B5 B6 B7 B8 B9 B10 B11 B12 B13 A22.1 A23.1.kind A23.1.n_ A23.1.s A23.1.list A23.1.names)))) n 1 o.kind o.n_ o.s o.list o.names 0 0 0 [] 0 0 0 [] A1.1.kind A1.1.n_ A1.1.s A2.1.kind A2.1.n_ A2.1.s A3 A1.1.list A1.1.names A2.1.list A2.1.names))))
abbrev ae_.K20:Type:=Bs->Int->Int->Int->Int->Int->Int->Bs->Int->Int->Int->Int->Int->Bs->(List Bs)->(List aa_)->(List Bs)->(List TOp)->Option (ar_×Bool)
abbrev ae_.T20:Type:=Bs->Int->Int->Int->Int->Int->Int->Int->Bs->Int->Int->Int->Int->Int->Bs->(List Bs)->Int->Int->Bs->(List aa_)->(List Bs)->(List TOp)->(List aa_)->(List Bs)->Option (ar_×Bool)
def ae_.step20 (n:Nat)(k3:ae_.K20)(back:ae_.T20):ae_.T20:=fun o t6 t10 t20 t21 t22 t23 t24 t25 t40 t41 t42 t43 t44 t45 t5 t80 t81 t82 t46 t47 t48 t83 t84=>
 (cond (decide (t10<(t83.length:Int))) (inB t10 t83.length ((bz_ n (aa_.re (t83.getD t10.toNat aa_.dflt))).bind fun A13=>(cond (!A13.2) (some ((ar_.mk 0 0 0 (aa_.mk 0 0 [] ([]:List aa_) ([]:List Bs)) ([]:List TOp)),false)) (bj_ (t48.length+([{ A13.1 with value:=(aa_.re A13.1.value) }]:List TOp).length) 112 (back o t6 (W (t10+1)) t20 t21 t22 t23 t24 t25 t40 t41 t42 t43 t44 t45 t5 t80 t81 t82 t46 t47 (t48++([{ A13.1 with value:=(aa_.re A13.1.value) }]:List TOp)) t83 t84))))) (k3 o t6 t20 t21 t22 t23 t24 t25 t40 t41 t42 t43 t44 t45 t5 t46 t47 t48))
def ae_.loop20 (n:Nat)(k3:ae_.K20)(N:Nat):ae_.T20:=cw_ (fun _ _ _ _ _ _ _ _ _ _ _ _ _ _ _ _ _ _ _ _ _ _ _ _=>none) (ae_.step20 n k3) N
abbrev ae_.K5:Type:=Bs->Int->Int->Int->Int->Int->Bs->Int->Int->Int->Int->Int->Bs->(List aa_)->(List Bs)->(List TOp)->Option (ar_×Bool)
abbrev ae_.T5:Type:=Bs->Int->Int->Int->Int->Int->Int->Bs->Int->Int->Int->Int->Int->Bs->(List Bs)->(List aa_)->(List Bs)->(List TOp)->Option (ar_×Bool)
def ae_.step5 (n:Nat)(k0:ae_.K5)(back:ae_.T5):ae_.T5:=fun o t6 t20 t21 t22 t23 t24 t25 t40 t41 t42 t43 t44 t45 t5 t46 t47 t48=>
 (cond (decide (t6<(t5.length:Int))) (cond (decide (t6<6)) (inB t6 t5.length (let C2:Bool:=((t5.getD t6.toNat [])==[101,118,101,110,116,58,32,115,110,97,112]);(cond C2 (back o (W (t6+1)) t20 t21 t22 t23 t24 t25 1 t41 t42 t43 t44 t45 t5 t46 t47 t48) (let C3:Bool:=((t5.getD t6.toNat [])==[101,118,101,110,116,58,32,112,97,116,99,104]);(cond C3 (back o (W (t6+1)) t20 t21 t22 t23 t24 t25 2 t41 t42 t43 t44 t45 t5 t46 t47 t48) ((cS_ n (t5.getD t6.toNat []) [105,100,58,32]).bind fun A4=>(cond (!(A4==[])) ((cS_ n (t5.getD t6.toNat []) [105,100,58,32]).bind fun A5=>((eB_ n A5).bind fun A6=>(back o (W (t6+1)) t20 t21 t22 t23 t24 t25 t40 A6.1 t42 t43 t44 t45 t5 t46 t47 t48))) ((cS_ n (t5.getD t6.toNat []) [98,97,115,101,58,32]).bind fun A7=>(cond (!(A7==[])) ((cS_ n (t5.getD t6.toNat []) [98,97,115,101,58,32]).bind fun A8=>((eB_ n A8).bind fun A9=>(back o (W (t6+1)) t20 t21 t22 t23 t24 t25 t40 t41 A9.1 t43 t44 t45 t5 t46 t47 t48))) ((cS_ n (t5.getD t6.toNat []) [100,97,116,97,58,32]).bind fun A10=>(cond (!(A10==[])) ((cS_ n (t5.getD t6.toNat []) [100,97,116,97,58,32]).bind fun A11=>((eX_ n A11).bind fun A12=>(cond (t40==1) (back o (W (t6+1)) t20 t21 t22 t23 t24 t25 t40 t41 t42 A12.1.kind A12.1.n_ A12.1.s t5 A12.1.list A12.1.names t48) (ae_.loop20 n (fun B14 B15 B16 B17 B18 B19 B20 B21 B22 B23 B24 B25 B26 B27 B28 B29 B30 B31=>(back B14 (W (B15+1)) B16 B17 B18 B19 B20 B21 B22 B23 B24 B25 B26 B27 B28 B29 B30 B31)) n o t6 0 t20 t21 t22 t23 t24 t25 t40 t41 t42 t43 t44 t45 t5 A12.1.kind A12.1.n_ A12.1.s t46 t47 t48 A12.1.list A12.1.names)))) (back o (W (t6+1)) t20 t21 t22 t23 t24 t25 t40 t41 t42 t43 t44 t45 t5 t46 t47 t48)))))))))))) (k0 o t20 t21 t22 t23 t24 t25 t40 t41 t42 t43 t44 t45 t46 t47 t48)) (k0 o t20 t21 t22 t23 t24 t25 t40 t41 t42 t43 t44 t45 t46 t47 t48))
def ae_.loop5 (n:Nat)(k0:ae_.K5)(N:Nat):ae_.T5:=cw_ (fun _ _ _ _ _ _ _ _ _ _ _ _ _ _ _ _ _ _=>none) (ae_.step5 n k0) N
def ae_:Nat->Bs->Option (ar_×Bool)
 |0,_=>none
 |n+1,o=>
  ((bk_ n o).bind fun A1=>(ae_.loop5 n (fun B32 B33 B34 B35 B36 B37 B38 B39 B40 B41 B42 B43 B44 B45 B46 B47=>(cond (B32==[]) (some ((ar_.mk 0 0 0 (aa_.mk 0 0 [] ([]:List aa_) ([]:List Bs)) ([]:List TOp)),false)) ((ds_ n (ar_.mk B39 B40 B41 (aa_.mk B42 B43 B44 B45 B46) B47)).bind fun A48=>(cond (!(A48==B32)) (some ((ar_.mk 0 0 0 (aa_.mk 0 0 [] ([]:List aa_) ([]:List Bs)) ([]:List TOp)),false)) (some ((ar_.mk B39 B40 B41 (aa_.mk B42 B43 B44 B45 B46) B47),true)))))) n o 0 0 0 0 0 0 [] 0 0 0 0 0 [] A1 ([]:List aa_) ([]:List Bs) ([]:List TOp)))
abbrev ct_.K8:Type:=Bs->Bs->Bool->(List ar_)->Bs->Bool->Option (aW_×(List ar_))
abbrev ct_.T8:Type:=Bs->Bs->Bool->(List ar_)->Bs->Bool->Option (aW_×(List ar_))
def ct_.step8 (n:Nat)(k0:ct_.K8)(back:ct_.T8):ct_.T8:=fun wait t40 t41 out_1 bad0 bad1=>
 ((b1_ n wait).bind fun A1=>(cond (decide (A1<0)) (k0 wait t40 t41 out_1 bad0 bad1) (fF_ 0 A1 wait.length ((ae_ n ((wait.take A1.toNat).drop 0)).bind fun A2=>(cond (!A2.2) (some ((aW_.mk bad0 bad1),out_1)) (bj_ (out_1.length+([{ A2.1 with doc:=(aa_.re A2.1.doc) }]:List ar_).length) 128 (fF_ A1 (wait.length:Int) wait.length (back ((wait.take (wait.length:Int).toNat).drop A1.toNat) t40 t41 (out_1++([{ A2.1 with doc:=(aa_.re A2.1.doc) }]:List ar_)) bad0 bad1))))))))
def ct_.loop8 (n:Nat)(k0:ct_.K8)(N:Nat):ct_.T8:=cw_ (fun _ _ _ _ _ _=>none) (ct_.step8 n k0) N
def ct_:Nat->aW_->Bs->Option (aW_×(List ar_))
 |0,_,_=>none
 |n+1,s,pb_=>
  (cond s.bad (some ((aW_.mk [] true),([]:List ar_))) (cond (decide (s.wait.length+pb_.length<=9223372036854775807)) (ct_.loop8 n (fun B3 B4 B5 B6 B7 B8=>(cond (decide ((B3.length:Int) > 14000)) (some ((aW_.mk B7 B8),B6)) (some ((aW_.mk B3 false),B6)))) n (s.wait++pb_) [] false ([]:List ar_) [] true) none))
def et_:Nat->bf_->Option bf_
 |0,_=>none
 |n+1,c=>
  ((aF_ n (aa_.re c.doc)).bind fun A1=>(some { c with doc:=(aa_.re A1) }))
def es_:Nat->aa_->TOp->Option (aa_×Bool)
 |0,_,_=>none
 |n+1,j,o=>
  (cond (o.kind==2) (some ((aa_.re j),false)) (cond (o.kind==4) ((an_ n (aa_.re j) (aa_.re o.value)).bind fun A1=>(some ((aa_.re j),A1))) ((aF_ n (aa_.re o.value)).bind fun A2=>(some ((aa_.re A2),true)))))
abbrev bw_.K7:Type:=Bs->Int->Option Int
abbrev bw_.T7:Type:=Bs->Int->Int->Option Int
def bw_.step7 (n:Nat)(k0:bw_.K7)(back:bw_.T7):bw_.T7:=fun s x i=>
 (cond (decide (i<(s.length:Int))) (inB i s.length (cond (decide (((s.getD i.toNat 0).toNat:Int)<48)) (some (-1)) (inB i s.length (cond (decide (((s.getD i.toNat 0).toNat:Int) > 57)) (some (-1)) (inB i s.length (back s (W ((W ((W (10*x))+(W (((s.getD i.toNat 0).toNat:Int))))) - 48)) (W (i+1)))))))) (k0 s x))
def bw_.loop7 (n:Nat)(k0:bw_.K7)(N:Nat):bw_.T7:=cw_ (fun _ _ _=>none) (bw_.step7 n k0) N
def bw_:Nat->Bs->Option Int
 |0,_=>none
 |n+1,s=>
  (cond (s==[]) (some (-1)) (cond (decide ((s.length:Int) > 3)) (some (-1)) (bw_.loop7 n (fun B1 B2=>((aN_ n B2).bind fun A3=>(cond (!(A3==B1)) (some (-1)) (some B2)))) n s 0 0)))
def fr_:Nat->aa_->Bs->Option Int
 |0,_,_=>none
 |n+1,j,s=>
  (cond (j.kind==5) ((cL_ n (aa_.re j) s).bind fun A1=>(some A1)) (cond (j.kind==4) ((bw_ n s).bind fun A2=>(cond (decide (A2<(j.list.length:Int))) (some A2) (some (-1)))) (some (-1))))
def fh_:Nat->aa_->Bs->TOp->Option (aa_×Bool)
 |0,_,_,_=>none
 |n+1,j,name,o=>
  (cond (j.kind==5) ((aF_ n (aa_.re o.value)).bind fun A1=>((bM_ n (aa_.re j) name (aa_.re A1)).bind fun A2=>(some ((aa_.re A2),true)))) ((bw_ n name).bind fun A3=>(cond (name==[45]) (cond (j.kind != 4) (some ((aa_.re j),false)) ((b4_ n (j.list.length:Int) 0 (j.list.length:Int)).bind fun A4=>(cond (!A4) (some ((aa_.re j),false)) (fF_ 0 (j.list.length:Int) j.list.length (bj_ (([]:List aa_).length+((j.list.take ((j.list.length:Int).toNat)).drop 0).length) 80 ((aF_ n (aa_.re o.value)).bind fun A5=>(bj_ ((([]:List aa_)++((j.list.take ((j.list.length:Int).toNat)).drop 0)).length+([(aa_.re A5)]:List aa_).length) 80 (fF_ (j.list.length:Int) (j.list.length:Int) j.list.length (bj_ (((([]:List aa_)++((j.list.take ((j.list.length:Int).toNat)).drop 0))++([(aa_.re A5)]:List aa_)).length+((j.list.take ((j.list.length:Int).toNat)).drop ((j.list.length:Int).toNat)).length) 80 (let D6:List aa_:=(((([]:List aa_)++((j.list.take ((j.list.length:Int).toNat)).drop 0))++([(aa_.re A5)]:List aa_))++((j.list.take ((j.list.length:Int).toNat)).drop ((j.list.length:Int).toNat)));(some ((aa_.mk j.kind j.n_ j.s D6 j.names),true)))))))))))) (cond (j.kind != 4) (some ((aa_.re j),false)) ((b4_ n A3 0 (j.list.length:Int)).bind fun A7=>(cond (!A7) (some ((aa_.re j),false)) (fF_ 0 A3 j.list.length (bj_ (([]:List aa_).length+((j.list.take A3.toNat).drop 0).length) 80 ((aF_ n (aa_.re o.value)).bind fun A8=>(bj_ ((([]:List aa_)++((j.list.take A3.toNat).drop 0)).length+([(aa_.re A8)]:List aa_).length) 80 (fF_ A3 (j.list.length:Int) j.list.length (bj_ (((([]:List aa_)++((j.list.take A3.toNat).drop 0))++([(aa_.re A8)]:List aa_)).length+((j.list.take ((j.list.length:Int).toNat)).drop A3.toNat).length) 80 (let D9:List aa_:=(((([]:List aa_)++((j.list.take A3.toNat).drop 0))++([(aa_.re A8)]:List aa_))++((j.list.take ((j.list.length:Int).toNat)).drop A3.toNat));(some ((aa_.mk j.kind j.n_ j.s D9 j.names),true)))))))))))))))
def dH_.tail17 (n:Nat) (kn:Int->Int->Bs->(List Bs)->Int->Int->Bs->(List aa_)->Option (aa_×Bool)) (t8:Int) (t62:Bool) (t30:Int) (t31:Int) (t32:Bs) (t34:List Bs) (t60:Int) (t61:Int) (t62_1:Bs) (t33:List aa_):Option (aa_×Bool) :=
 (cond t62 (fF_ 0 t8 t34.length (bj_ (([]:List Bs).length+((t34.take t8.toNat).drop 0).length) 16 (fF_ (W (t8+1)) (t34.length:Int) t34.length (bj_ ((([]:List Bs)++((t34.take t8.toNat).drop 0)).length+((t34.take (t34.length:Int).toNat).drop (W (t8+1)).toNat).length) 16 (kn t30 t31 t32 ((([]:List Bs)++((t34.take t8.toNat).drop 0))++((t34.take (t34.length:Int).toNat).drop (W (t8+1)).toNat)) t60 t61 t62_1 t33))))) (kn t30 t31 t32 t34 t60 t61 t62_1 t33))
def dH_.tail8 (n:Nat)(t8:Int)(a2:List Bs)(t30 t31:Int)(t32:Bs)(t33:List aa_)(t60 t61:Int)(t62:Bs):Option (aa_×Bool) :=
 (fF_ 0 t8 t33.length (bj_ (([]:List aa_).length+((t33.take t8.toNat).drop 0).length) 80 (fF_ (W (t8+1)) (t33.length:Int) t33.length (bj_ ((([]:List aa_)++((t33.take t8.toNat).drop 0)).length+((t33.take (t33.length:Int).toNat).drop (W (t8+1)).toNat).length) 80 (dH_.tail17 n (fun B6 B7 B8 B9 B10 B11 B12 B13=>(some ((aa_.mk B6 B7 B8 B13 B9),true))) t8 (t30==5) t30 t31 t32 a2 t60 t61 t62 ((([]:List aa_)++((t33.take t8.toNat).drop 0))++((t33.take (t33.length:Int).toNat).drop (W (t8+1)).toNat)))))))
def dH_:Nat->aa_->Bs->TOp->Option (aa_×Bool)
 |0,_,_,_=>none
 |n+1,o,append,a2=>
  ((fr_ n (aa_.re o) append).bind fun A1=>(cond (a2.kind==1) ((fh_ n (aa_.re o) append (TOp.mk a2.kind a2.way (aa_.re a2.value))).bind fun A2=>(some ((aa_.re A2.1),A2.2))) (cond (decide (A1<0)) (some ((aa_.re o),false)) (cond (a2.kind==4) (inB A1 o.list.length ((an_ n (aa_.re (o.list.getD A1.toNat aa_.dflt)) (aa_.re a2.value)).bind fun A3=>(some ((aa_.re o),A3)))) (cond (a2.kind==3) ((aF_ n (aa_.re a2.value)).bind fun A4=>(inB A1 o.list.length (let D5:List aa_:=o.list.set A1.toNat (aa_.re A4);(some ((aa_.mk o.kind o.n_ o.s D5 o.names),true))))) (dH_.tail8 n A1 o.names o.kind o.n_ o.s o.list 0 0 []))))))
def dC_:Nat->aa_->(List Bs)->TOp->Option (aa_×Bool)
 |0,_,_,_=>none
 |n+1,j,way,o=>
  (cond ((way.length:Int)==0) ((es_ n (aa_.re j) (TOp.mk o.kind o.way (aa_.re o.value))).bind fun A1=>(some ((aa_.re A1.1),A1.2))) (cond ((way.length:Int)==1) (inB 0 way.length ((dH_ n (aa_.re j) (way.getD 0 []) (TOp.mk o.kind o.way (aa_.re o.value))).bind fun A2=>(some ((aa_.re A2.1),A2.2)))) (inB 0 way.length ((fr_ n (aa_.re j) (way.getD 0 [])).bind fun A3=>(cond (decide (A3<0)) (some ((aa_.re j),false)) (inB A3 j.list.length (fF_ 1 (way.length:Int) way.length (cond (Nat.beq A3.toNat A3.toNat) (cond (Nat.beq A3.toNat A3.toNat) ((dC_ n (aa_.re (j.list.getD A3.toNat aa_.dflt)) ((way.take (way.length:Int).toNat).drop 1) (TOp.mk o.kind o.way (aa_.re o.value))).bind fun A4=>(inB A3 j.list.length (cond (Nat.beq A3.toNat A3.toNat) (let D5:List aa_:=j.list.set A3.toNat (aa_.re A4.1);(some ((aa_.mk j.kind j.n_ j.s D5 j.names),A4.2))) none))) none) none))))))))
def fj_:Nat->aa_->TOp->Option (aa_×Bool)
 |0,_,_=>none
 |n+1,j,o=>
  ((cH_ n (aa_.re j)).bind fun A1=>(cond (!A1) (some ((aa_.mk 0 0 [] ([]:List aa_) []),false)) ((cs_ n (TOp.mk o.kind o.way (aa_.re o.value))).bind fun A2=>(cond (!A2) (some ((aa_.mk 0 0 [] ([]:List aa_) []),false)) ((aF_ n (aa_.re j)).bind fun A3=>((dC_ n (aa_.re A3) o.way (TOp.mk o.kind o.way (aa_.re o.value))).bind fun A4=>(cond (!A4.2) (some ((aa_.mk 0 0 [] ([]:List aa_) []),false)) ((cH_ n (aa_.re A4.1)).bind fun A5=>(cond (!A5) (some ((aa_.mk 0 0 [] ([]:List aa_) []),false)) (some ((aa_.re A4.1),true)))))))))))
abbrev bo_.K7:Type:=Int->Int->Bs->Int->Int->Bs->(List Bs)->(List aa_)->Option (aa_×Bool)
abbrev bo_.T7:Type:=(List TOp)->Int->Int->Int->Bs->Int->Int->Bs->(List Bs)->(List aa_)->Option (aa_×Bool)
def bo_.step7 (n:Nat)(k0:bo_.K7)(back:bo_.T7):bo_.T7:=fun list i t40 t41 t42 out0 out1 out2 out4 out3=>
 (cond (decide (i<(list.length:Int))) (inB i list.length ((fj_ n (aa_.mk out0 out1 out2 out3 out4) { (list.getD i.toNat TOp.dflt) with value:=(aa_.re ((list.getD i.toNat TOp.dflt).value)) }).bind fun A3=>(cond (!A3.2) (some ((aa_.mk 0 0 [] ([]:List aa_) []),false)) (back list (W (i+1)) t40 t41 t42 A3.1.kind A3.1.n_ A3.1.s A3.1.names A3.1.list)))) (k0 t40 t41 t42 out0 out1 out2 out4 out3))
def bo_.loop7 (n:Nat)(k0:bo_.K7)(N:Nat):bo_.T7:=cw_ (fun _ _ _ _ _ _ _ _ _ _=>none) (bo_.step7 n k0) N
def bo_:Nat->aa_->(List TOp)->Option (aa_×Bool)
 |0,_,_=>none
 |n+1,j,list=>
  ((cH_ n (aa_.re j)).bind fun A1=>(cond (!A1) (some ((aa_.mk 0 0 [] ([]:List aa_) []),false)) (cond (decide ((list.length:Int) > 40)) (some ((aa_.mk 0 0 [] ([]:List aa_) []),false)) ((aF_ n (aa_.re j)).bind fun A2=>(bo_.loop7 n (fun B4 B5 B6 B7 B8 B9 B10 B11=>(some ((aa_.mk B7 B8 B9 B11 B10),true))) n list 0 0 0 [] A2.kind A2.n_ A2.s A2.names A2.list)))))
def dw_:Nat->bf_->ar_->Option bf_
 |0,_,_=>none
 |n+1,c,e=>
  ((et_ n { c with doc:=(aa_.re c.doc) }).bind fun A1=>(cond c.bad (some { A1 with doc:=(aa_.re A1.doc) }) ((ed_ n { e with doc:=(aa_.re e.doc) }).bind fun A2=>(cond (!A2) (some { A1 with doc:=(aa_.re A1.doc),bad:=true }) (cond (e.kind==1) (cond c.began (cond (decide (e.version<=c.version)) (some { A1 with doc:=(aa_.re A1.doc),bad:=true }) ((aF_ n (aa_.re e.doc)).bind fun A3=>(some (bf_.mk (aa_.re A3) e.version true false)))) ((aF_ n (aa_.re e.doc)).bind fun A4=>(some (bf_.mk (aa_.re A4) e.version true false)))) ((bo_ n (aa_.re c.doc) e.ops).bind fun A5=>(cond (!c.began) (some { A1 with doc:=(aa_.re A1.doc),bad:=true }) (cond (e.base != c.version) (some { A1 with doc:=(aa_.re A1.doc),bad:=true }) (cond (!A5.2) (some { A1 with doc:=(aa_.re A1.doc),bad:=true }) (some (bf_.mk (aa_.re A5.1) e.version true false)))))))))))
abbrev bb_.K4:Type:=Int->Int->Bs->Int->Bool->Bool->Int->Int->Bs->(List Bs)->Int->Bool->Bool->(List aa_)->Option bf_
abbrev bb_.T4:Type:=(List ar_)->Int->Int->Int->Bs->Int->Bool->Bool->Int->Int->Bs->(List Bs)->Int->Bool->Bool->(List aa_)->Option bf_
def bb_.step4 (n:Nat)(k0:bb_.K4)(back:bb_.T4):bb_.T4:=fun list i t20 t21 t22 t25 t26 t27 c0 c1 c2 c4 c5 c6 c7 c3=>
 (cond (decide (i<(list.length:Int))) (inB i list.length ((dw_ n (bf_.mk (aa_.mk c0 c1 c2 c3 c4) c5 c6 c7) { (list.getD i.toNat ar_.dflt) with doc:=(aa_.re ((list.getD i.toNat ar_.dflt).doc)) }).bind fun A1=>(back list (W (i+1)) t20 t21 t22 t25 t26 t27 A1.doc.kind A1.doc.n_ A1.doc.s A1.doc.names A1.version A1.began A1.bad A1.doc.list))) (k0 t20 t21 t22 t25 t26 t27 c0 c1 c2 c4 c5 c6 c7 c3))
def bb_.loop4 (n:Nat)(k0:bb_.K4)(N:Nat):bb_.T4:=cw_ (fun _ _ _ _ _ _ _ _ _ _ _ _ _ _ _ _=>none) (bb_.step4 n k0) N
def bb_:Nat->(List ar_)->Option bf_
 |0,_=>none
 |n+1,list=>
  (bb_.loop4 n (fun B2 B3 B4 B5 B6 B7 B8 B9 B10 B11 B12 B13 B14 B15=>(some (bf_.mk (aa_.mk B8 B9 B10 B15 B11) B12 B13 B14))) n list 0 0 0 [] 0 false false 0 0 [] [] 0 false false ([]:List aa_))
def d9_:Nat->Bs->Option (bf_×aW_)
 |0,_=>none
 |n+1,text=>
  ((ct_ n (aW_.mk [] false) text).bind fun A1=>((bb_ n A1.2).bind fun A2=>(cond A2.bad (some ({ A2 with doc:=(aa_.re A2.doc),bad:=true },A1.1)) (some ({ A2 with doc:=(aa_.re A2.doc),bad:=A1.1.bad },A1.1)))))
def hW_:Nat->(List Int)->Int->Option Int
 |0,_,_=>none
 |n+1,e9_,i=>
  (cond (decide (i<(e9_.length:Int))) (inB i e9_.length (some (W ((e9_.getD i.toNat 0))))) (some (Int.tmod (W ((W (i*7))+(e9_.length:Int))) 256)))
def laws_FnHeard:Nat->(List Int)->Option Bool
 |0,_=>none
 |n+1,o=>
  ((gG_ n o).bind fun A1=>(cond A1 (some true) ((aL_ n o).bind fun A2=>((dk_ n A2).bind fun A3=>((d9_ n A2).bind fun A4=>(cond (A3.1.version != A4.1.version) (some false) (cond (!(A3.1.bad==A4.1.bad)) (some false) (let C5:Bool:=(!(cond (A3.2.wait==A4.2.wait) (cond (A3.2.bad==A4.2.bad) true false) false));(cond C5 (some false) (cond (decide ((A2.length:Int) > 0)) ((hW_ n o 1).bind fun A6=>(fF_ 0 (W (Int.tdiv (W (A6*(A2.length:Int))) 256)) A2.length (let C7:Bs:=((A2.take (W (Int.tdiv (W (A6*(A2.length:Int))) 256)).toNat).drop 0);((dk_ n C7).bind fun A8=>(cond (!A8.1.bad) (cond A3.1.bad (some true) (cond (!A8.1.began) (some true) (cond A3.1.began (some (decide (A8.1.version<=A3.1.version))) (some false)))) (cond A3.1.bad (cond A3.1.bad (some true) (cond (!A8.1.began) (some true) (cond A3.1.began (some (decide (A8.1.version<=A3.1.version))) (some false)))) (some false))))))) (fF_ 0 0 A2.length ((dk_ n ((A2.take 0).drop 0)).bind fun A9=>(cond (!A9.1.bad) (cond A3.1.bad (some true) (cond (!A9.1.began) (some true) (cond A3.1.began (some (decide (A9.1.version<=A3.1.version))) (some false)))) (cond A3.1.bad (cond A3.1.bad (some true) (cond (!A9.1.began) (some true) (cond A3.1.began (some (decide (A9.1.version<=A3.1.version))) (some false)))) (some false)))))))))))))))
end Go.Pi
