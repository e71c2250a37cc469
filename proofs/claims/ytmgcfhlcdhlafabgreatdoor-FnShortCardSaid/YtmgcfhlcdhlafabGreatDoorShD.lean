/- FnShort: what is sent of two drawn views as a patch is less than the answer would be; of alike ones nothing is. No condition. Text 4 of 7. -/
import Derived.Test.YtmgcfhlcdhlafabGreatDoorShC
set_option linter.unusedVariables false
set_option maxRecDepth 100000
section
namespace Go.Pi
def ff_:Nat→(List Int)→Option Bool
 |0,_=>none
 |n+1,ed_=>
  (some (decide ((ed_.length:Int) > 1048576)))
abbrev bS_.K4:Type:=(List Int)→Int→Option al_
abbrev bS_.T4:Type:=(List Int)→Int→Int→Option al_
def bS_.step4 (n:Nat) (k0:bS_.K4) (back:bS_.T4):bS_.T4:=fun ed_ h i=>
 (cond (decide (i<(ed_.length:Int))) (cond (decide (i<4000)) (inB i ed_.length (let xv1:Int:=(IntKind.i64.wrap (BitVec.ofInt (IntKind.bits .i64) (W ((W ((W (h*131))+(W ((ed_.getD i.toNat 0)))))+7)) &&& BitVec.ofInt (IntKind.bits .i64) 1073741823).toNat);(back ed_ xv1 (W (i+1))))) (k0 ed_ h)) (k0 ed_ h))
def bS_.loop4 (n:Nat) (k0:bS_.K4) (N:Nat):bS_.T4:=cc_ (fun _ _ _=>none) (bS_.step4 n k0) N
def bS_:Nat→(List Int)→Option al_
 |0,_=>none
 |n+1,ed_=>
  (bS_.loop4 n (fun xy2 xy3=>(some (al_.mk xy2 0 xy3))) n ed_ (W (17333+(ed_.length:Int))) 0)
def cX_:Nat→al_→Option (Int × al_)
 |0,_=>none
 |n+1,c=>
  (let xv1:Int:=(Int.fdiv (W ((W (c.h*6364136223846793005))+1442695040888963407)) (2 ^ min (33:Int).toNat (IntKind.bits .i64)));(let xv2:Int:=(Int.fdiv (W ((W (c.h*6364136223846793005))+1442695040888963407)) (2 ^ min (45:Int).toNat (IntKind.bits .i64)));(let xv3:Int:=(IntKind.i64.wrap (BitVec.ofInt (IntKind.bits .i64) xv1 ^^^ BitVec.ofInt (IntKind.bits .i64) xv2).toNat);(let xv4:Int:=(IntKind.i64.wrap (BitVec.ofInt (IntKind.bits .i64) xv3 &&& BitVec.ofInt (IntKind.bits .i64) 255).toNat);(cond (decide (c.i<(c.b.length:Int))) (inB c.i c.b.length (let xv5:Int:=(IntKind.i64.wrap (BitVec.ofInt (IntKind.bits .i64) (W (xv4+(W ((c.b.getD c.i.toNat 0))))) &&& BitVec.ofInt (IntKind.bits .i64) 255).toNat);(some (xv5,(al_.mk c.b (W (c.i+1)) (W ((W (c.h*6364136223846793005))+1442695040888963407))))))) (some (xv4,(al_.mk c.b c.i (W ((W (c.h*6364136223846793005))+1442695040888963407))))))))))
def am_:Nat→al_→Int→Option (Int × al_)
 |0,_,_=>none
 |n+1,c,n1=>
  (cond (decide (n1≤0)) (some (0,c)) (cond (decide (n1≤256)) ((cX_ n c).bind fun xr1=>(cond (decide (n1=0)) none (some ((Int.tmod xr1.1 n1),xr1.2)))) ((cX_ n c).bind fun xr2=>((cX_ n xr2.2).bind fun xr3=>((cX_ n xr3.2).bind fun xr4=>((cX_ n xr4.2).bind fun xr5=>(let xv6:Int:=(W ((W ((W (xr2.1*16777216))+(W (xr3.1*65536))))+(W (xr4.1*256))));(cond (decide (n1=0)) none (some ((Int.tmod (W (xv6+xr5.1)) n1),xr5.2))))))))))
abbrev aI_.K4:Type:=(List Int)→Int→Int→(List Int)→Option (aA_ × al_)
abbrev aI_.T4:Type:=Int→(List Int)→Int→Int→(List Int)→Option (aA_ × al_)
def aI_.step4 (n:Nat) (k0:aI_.K4) (back:aI_.T4):aI_.T4:=fun i c0 c1 c2 s0=>
 ((am_ n (al_.mk c0 c1 c2) 3).bind fun xr1=>(cond (decide (i<(W (1+xr1.1)))) ((am_ n xr1.2 4).bind fun xr2=>(bm_ (s0.length+([(W (1+xr2.1))]:List Int).length) 8 (back (W (i+1)) xr2.2.b xr2.2.i xr2.2.h (s0++([(W (1+xr2.1))]:List Int))))) (k0 xr1.2.b xr1.2.i xr1.2.h s0)))
def aI_.loop4 (n:Nat) (k0:aI_.K4) (N:Nat):aI_.T4:=cc_ (fun _ _ _ _ _=>none) (aI_.step4 n k0) N
def aI_:Nat→al_→Option (aA_ × al_)
 |0,_=>none
 |n+1,c=>
  (aI_.loop4 n (fun xy3 xy4 xy5 xy6=>(some ((aA_.mk xy6),(al_.mk xy3 xy4 xy5)))) n 0 c.b c.i c.h ([]:List Int))
def bX_:Nat→Int→Int→Int→Option Bool
 |0,_,_,_=>none
 |n+1,x,lo,hi=>
  (cond (decide (x≥lo)) (some (decide (x≤hi))) (some false))
abbrev aW_.K3:Type:=(List Int)→Option Bool
abbrev aW_.T3:Type:=Int→(List Int)→Option Bool
def aW_.step3 (n:Nat) (k0:aW_.K3) (back:aW_.T3):aW_.T3:=fun i s0=>
 (cond (decide (i<(s0.length:Int))) (inB i s0.length ((bX_ n (s0.getD i.toNat 0) 1 4).bind fun xr1=>(cond (!xr1) (some false) (back (W (i+1)) s0)))) (k0 s0))
def aW_.loop3 (n:Nat) (k0:aW_.K3) (N:Nat):aW_.T3:=cc_ (fun _ _=>none) (aW_.step3 n k0) N
def aW_:Nat→aA_→Option Bool
 |0,_=>none
 |n+1,s=>
  (aW_.loop3 n (fun xy2=>((bX_ n (xy2.length:Int) 1 3).bind fun xr3=>(some xr3))) n 0 s.cols)
def c1_:Nat→aA_→Option aA_
 |0,_=>none
 |n+1,s=>
  (bm_ (([]:List Int).length+s.cols.length) 8 (some (aA_.mk (([]:List Int)++s.cols))))
def de_:Nat→aA_→Option (aw_ × Bool)
 |0,_=>none
 |n+1,s=>
  ((aW_ n s).bind fun xr1=>(cond (!xr1) (some ((aw_.mk (aA_.mk ([]:List Int)) 0 ([]:List (List TRow))),false)) ((c1_ n s).bind fun xr2=>(cond (decide ((s.cols.length:Int)=(s.cols.length:Int))) (cond (decide (0≤(s.cols.length:Int))) (cond (decide ((s.cols.length:Int)*24≤140737488355328)) (some ((aw_.mk xr2 0 (List.replicate (s.cols.length:Int).toNat [])),true)) none) none) none))))
abbrev a0_.K4:Type:=(List Int)→Int→Int→Int→Int→(List Int)→Option (TRow × al_)
abbrev a0_.T4:Type:=Int→Int→(List Int)→Int→Int→Int→Int→(List Int)→Option (TRow × al_)
def a0_.step4 (n:Nat) (k0:a0_.K4) (back:a0_.T4):a0_.T4:=fun cols i c0 c1 c2 t40 r0 r1=>
 (cond (decide (i<cols)) ((am_ n (al_.mk c0 c1 c2) 6).bind fun xr2=>(bm_ (r1.length+([xr2.1]:List Int).length) 8 (back cols (W (i+1)) xr2.2.b xr2.2.i xr2.2.h t40 r0 (r1++([xr2.1]:List Int))))) (k0 c0 c1 c2 t40 r0 r1))
def a0_.loop4 (n:Nat) (k0:a0_.K4) (N:Nat):a0_.T4:=cc_ (fun _ _ _ _ _ _ _ _=>none) (a0_.step4 n k0) N
def a0_:Nat→al_→Int→Option (TRow × al_)
 |0,_,_=>none
 |n+1,c,cols=>
  ((am_ n c 12).bind fun xr1=>(a0_.loop4 n (fun xy3 xy4 xy5 xy6 xy7 xy8=>(some ((TRow.mk xy7 xy8),(al_.mk xy3 xy4 xy5)))) n cols 0 xr1.2.b xr1.2.i xr1.2.h 0 (W (1+xr1.1)) ([]:List Int)))
abbrev b0_.T3:Type:=(List TRow)→Int→Int→Option Int
def b0_.step3 (n:Nat) (k0:Option Int) (back:b0_.T3):b0_.T3:=fun rows id_1 i=>
 (cond (decide (i<(rows.length:Int))) (inB i rows.length (cond (((rows.getD i.toNat TRow.dflt).id_) == id_1) (some i) (back rows id_1 (W (i+1))))) k0)
def b0_.loop3 (n:Nat) (k0:Option Int) (N:Nat):b0_.T3:=cc_ (fun _ _ _=>none) (b0_.step3 n k0) N
def b0_:Nat→(List TRow)→Int→Option Int
 |0,_,_=>none
 |n+1,rows,id1=>
  (b0_.loop3 n (some (-1)) n rows id1 0)
def ci_:Nat→TRow→Option TRow
 |0,_=>none
 |n+1,r=>
  (bm_ (([]:List Int).length+r.cells.length) 8 (some (TRow.mk r.id_ (([]:List Int)++r.cells))))
abbrev a9_.K5:Type:=(List TRow)→Option (List TRow)
abbrev a9_.T5:Type:=(List TRow)→Int→Int→(List TRow)→Option (List TRow)
def a9_.step5 (n:Nat) (k0:a9_.K5) (back:a9_.T5):a9_.T5:=fun rows at_1 i out_1=>
 (cond (decide (i<(rows.length:Int))) (cond (i != at_1) (inB i rows.length ((ci_ n (rows.getD i.toNat TRow.dflt)).bind fun xr2=>(bm_ (out_1.length+([xr2]:List TRow).length) 32 (back rows at_1 (W (i+1)) (out_1++([xr2]:List TRow)))))) (back rows at_1 (W (i+1)) out_1)) (k0 out_1))
def a9_.loop5 (n:Nat) (k0:a9_.K5) (N:Nat):a9_.T5:=cc_ (fun _ _ _ _=>none) (a9_.step5 n k0) N
def a9_:Nat→(List TRow)→Int→Option (List TRow)
 |0,_,_=>none
 |n+1,rows,id1=>
  ((b0_ n rows id1).bind fun xr1=>(a9_.loop5 n (fun xy3=>(some xy3)) n rows xr1 0 ([]:List TRow)))
abbrev bo_.K6:Type:=Int→Int→(List Int)→(List TRow)→Option (List TRow)
abbrev bo_.T6:Type:=Int→Int→Int→(List Int)→(List TRow)→Option (List TRow)
def bo_.step6 (n:Nat) (k0:bo_.K6) (back:bo_.T6):bo_.T6:=fun at_1 i r0 r1 out_1=>
 (cond (decide (i≥0)) (inB i out_1.length (cond (decide (((out_1.getD i.toNat TRow.dflt).id_) > r0)) (back i (W (i - 1)) r0 r1 out_1) (back at_1 (W (i - 1)) r0 r1 out_1))) (k0 at_1 r0 r1 out_1))
def bo_.loop6 (n:Nat) (k0:bo_.K6) (N:Nat):bo_.T6:=cc_ (fun _ _ _ _ _=>none) (bo_.step6 n k0) N
def bo_:Nat→(List TRow)→TRow→Option (List TRow)
 |0,_,_=>none
 |n+1,rows,r=>
  ((a9_ n rows r.id_).bind fun xr1=>((b0_ n rows r.id_).bind fun xr2=>(cond (decide (xr2≥0)) ((b0_ n rows r.id_).bind fun xr3=>(i1_ 0 xr3 xr1.length (bm_ (([]:List TRow).length+((xr1.take xr3.toNat).drop 0).length) 32 ((ci_ n r).bind fun xr4=>(bm_ ((([]:List TRow)++((xr1.take xr3.toNat).drop 0)).length+([xr4]:List TRow).length) 32 (i1_ xr3 (xr1.length:Int) xr1.length (bm_ (((([]:List TRow)++((xr1.take xr3.toNat).drop 0))++([xr4]:List TRow)).length+((xr1.take ((xr1.length:Int).toNat)).drop xr3.toNat).length) 32 (some (((([]:List TRow)++((xr1.take xr3.toNat).drop 0))++([xr4]:List TRow))++((xr1.take ((xr1.length:Int).toNat)).drop xr3.toNat)))))))))) (bo_.loop6 n (fun xy5 xy6 xy7 xy8=>(i1_ 0 xy5 xy8.length (bm_ (([]:List TRow).length+((xy8.take xy5.toNat).drop 0).length) 32 ((ci_ n (TRow.mk xy6 xy7)).bind fun xr9=>(bm_ ((([]:List TRow)++((xy8.take xy5.toNat).drop 0)).length+([xr9]:List TRow).length) 32 (i1_ xy5 (xy8.length:Int) xy8.length (bm_ (((([]:List TRow)++((xy8.take xy5.toNat).drop 0))++([xr9]:List TRow)).length+((xy8.take ((xy8.length:Int).toNat)).drop xy5.toNat).length) 32 (some (((([]:List TRow)++((xy8.take xy5.toNat).drop 0))++([xr9]:List TRow))++((xy8.take ((xy8.length:Int).toNat)).drop xy5.toNat)))))))))) n (xr1.length:Int) (W ((xr1.length:Int) - 1)) r.id_ r.cells xr1))))
abbrev aU_.K4:Type:=(List Int)→Int→Int→(List TRow)→Option ((List TRow) × al_)
abbrev aU_.T4:Type:=Int→Int→(List Int)→Int→Int→(List TRow)→Option ((List TRow) × al_)
def aU_.step4 (n:Nat) (k0:aU_.K4) (back:aU_.T4):aU_.T4:=fun cols i c0 c1 c2 out_1=>
 ((am_ n (al_.mk c0 c1 c2) 9).bind fun xr1=>(cond (decide (i<xr1.1)) ((a0_ n xr1.2 cols).bind fun xr2=>((bo_ n out_1 xr2.1).bind fun xr3=>(back cols (W (i+1)) xr2.2.b xr2.2.i xr2.2.h xr3))) (k0 xr1.2.b xr1.2.i xr1.2.h out_1)))
def aU_.loop4 (n:Nat) (k0:aU_.K4) (N:Nat):aU_.T4:=cc_ (fun _ _ _ _ _ _=>none) (aU_.step4 n k0) N
def aU_:Nat→al_→Int→Option ((List TRow) × al_)
 |0,_,_=>none
 |n+1,c,cols=>
  (aU_.loop4 n (fun xy4 xy5 xy6 xy7=>(some (xy7,(al_.mk xy4 xy5 xy6)))) n cols 0 c.b c.i c.h ([]:List TRow))
abbrev aK_.K4:Type:=(List Int)→Int→Int→Int→Int→(List Int)→(List (List TRow))→Option (aw_ × al_)
abbrev aK_.T4:Type:=Int→(List Int)→Int→Int→Int→Int→(List Int)→(List (List TRow))→Option (aw_ × al_)
def aK_.step4 (n:Nat) (k0:aK_.K4) (back:aK_.T4):aK_.T4:=fun t c0 c1 c2 t21 s1 s0 s2=>
 (cond (decide (t<(s2.length:Int))) (inB t s0.length ((aU_ n (al_.mk c0 c1 c2) (s0.getD t.toNat 0)).bind fun xr3=>(inB t s2.length (let xa4:List (List TRow):=s2.set t.toNat xr3.1;(back (W (t+1)) xr3.2.b xr3.2.i xr3.2.h t21 s1 s0 xa4))))) (k0 c0 c1 c2 t21 s1 s0 s2))
def aK_.loop4 (n:Nat) (k0:aK_.K4) (N:Nat):aK_.T4:=cc_ (fun _ _ _ _ _ _ _ _=>none) (aK_.step4 n k0) N
def aK_:Nat→al_→Option (aw_ × al_)
 |0,_=>none
 |n+1,c=>
  ((aI_ n c).bind fun xr1=>((de_ n xr1.1).bind fun xr2=>(aK_.loop4 n (fun xy5 xy6 xy7 xy8 xy9 xy10 xy11=>((am_ n (al_.mk xy5 xy6 xy7) 5).bind fun xr12=>(some ((aw_.mk (aA_.mk xy10) xr12.1 xy11),xr12.2)))) n 0 xr1.2.b xr1.2.i xr1.2.h 0 xr2.1.version xr2.1.schema.cols xr2.1.tables)))
def cp_:Nat→Int→Int→Option Int
 |0,_,_=>none
 |n+1,a,b=>
  (cond (decide (a > b)) (some a) (some b))
def cn_:Nat→al_→Int→Option (Bool × al_)
 |0,_,_=>none
 |n+1,c,n1=>
  ((am_ n c n1).bind fun xr1=>(some ((xr1.1 == 0),xr1.2)))
def bE_:Nat→al_→(List Int)→Option (Int × al_)
 |0,_,_=>none
 |n+1,c,list=>
  ((am_ n c (list.length:Int)).bind fun xr1=>(inB xr1.1 list.length (some ((list.getD xr1.1.toNat 0),xr1.2))))
abbrev ai_.K7:Type:=Int→(List Int)→Int→Int→(List Int)→Int→Int→Bool→Int→Bool→Int→Int→Int→Int→Bool→Int→Bool→Int→Int→(List a6_)→Option (an_ × al_)
abbrev ai_.T7:Type:=Int→Int→(List Int)→Int→Int→(List Int)→Int→Int→Bool→Int→Bool→Int→Int→Int→Int→Bool→Int→Bool→Int→Int→(List a6_)→Option (an_ × al_)
def ai_.step7 (n:Nat) (k0:ai_.K7) (back:ai_.T7):ai_.T7:=fun t6 t7 o0 o1 o2 t30 t40 t42 t43 t44 t46 t47 t48 t50 t52 t53 t54 t56 t57 t58 t51=>
 ((am_ n (al_.mk o0 o1 o2) 3).bind fun xr4=>(cond (decide (t7<xr4.1)) ((am_ n xr4.2 t6).bind fun xr5=>((am_ n xr5.2 4).bind fun xr6=>((am_ n xr6.2 6).bind fun xr7=>(bm_ (t51.length+([(a6_.mk xr5.1 (W (1+xr6.1)) xr7.1)]:List a6_).length) 24 (back t6 (W (t7+1)) xr7.2.b xr7.2.i xr7.2.h t30 t40 t42 t43 t44 t46 t47 t48 t50 t52 t53 t54 t56 t57 t58 (t51++([(a6_.mk xr5.1 (W (1+xr6.1)) xr7.1)]:List a6_))))))) (k0 t6 xr4.2.b xr4.2.i xr4.2.h t30 t40 t42 t43 t44 t46 t47 t48 t50 t52 t53 t54 t56 t57 t58 t51)))
def ai_.loop7 (n:Nat) (k0:ai_.K7) (N:Nat):ai_.T7:=cc_ (fun _ _ _ _ _ _ _ _ _ _ _ _ _ _ _ _ _ _ _ _ _=>none) (ai_.step7 n k0) N
abbrev ai_.K16:Type:=(List Int)→Int→Int→(List Int)→Int→Int→Bool→Int→Bool→Int→Int→Int→Int→Bool→Int→Bool→Int→Int→(List a6_)→(List Int)→Option (an_ × al_)
abbrev ai_.T16:Type:=Int→Int→(List Int)→Int→Int→(List Int)→Int→Int→Bool→Int→Bool→Int→Int→Int→Int→Bool→Int→Bool→Int→Int→(List a6_)→(List Int)→Option (an_ × al_)
def ai_.step16 (n:Nat) (k2:ai_.K16) (back:ai_.T16):ai_.T16:=fun t6 t8 o0 o1 o2 t30 t40 t42 t43 t44 t46 t47 t48 t50 t52 t53 t54 t56 t57 t58 t51 t55=>
 (cond (decide (t8<t6)) ((cn_ n (al_.mk o0 o1 o2) 2).bind fun xr31=>(cond xr31.1 (bm_ (t55.length+([t8]:List Int).length) 8 (back t6 (W (t8+1)) xr31.2.b xr31.2.i xr31.2.h t30 t40 t42 t43 t44 t46 t47 t48 t50 t52 t53 t54 t56 t57 t58 t51 (t55++([t8]:List Int)))) (back t6 (W (t8+1)) xr31.2.b xr31.2.i xr31.2.h t30 t40 t42 t43 t44 t46 t47 t48 t50 t52 t53 t54 t56 t57 t58 t51 t55))) (k2 o0 o1 o2 t30 t40 t42 t43 t44 t46 t47 t48 t50 t52 t53 t54 t56 t57 t58 t51 t55))
def ai_.loop16 (n:Nat) (k2:ai_.K16) (N:Nat):ai_.T16:=cc_ (fun _ _ _ _ _ _ _ _ _ _ _ _ _ _ _ _ _ _ _ _ _ _=>none) (ai_.step16 n k2) N
def ai_:Nat→al_→aA_→Option (an_ × al_)
 |0,_,_=>none
 |n+1,o,append=>
  ((cp_ n (append.cols.length:Int) 1).bind fun xr1=>((am_ n o xr1).bind fun xr2=>(cond (decide (xr2.1<(append.cols.length:Int))) (inB xr2.1 append.cols.length ((cp_ n (append.cols.getD xr2.1.toNat 0) 1).bind fun xr3=>(ai_.loop7 n (fun xy8 xy9 xy10 xy11 xy12 xy13 xy14 xy15 xy16 xy17 xy18 xy19 xy20 xy21 xy22 xy23 xy24 xy25 xy26 xy27=>((am_ n (al_.mk xy9 xy10 xy11) (W (xy8+1))).bind fun xr28=>(cond (decide (xr28.1 > 0)) ((cn_ n xr28.2 2).bind fun xr29=>((bE_ n xr29.2 ([0,0,1,2,3,5]:List Int)).bind fun xr30=>(ai_.loop16 n (fun xy32 xy33 xy34 xy35 xy36 xy37 xy38 xy39 xy40 xy41 xy42 xy43 xy44 xy45 xy46 xy47 xy48 xy49 xy50 xy51=>((cn_ n (al_.mk xy32 xy33 xy34) 2).bind fun xr52=>(cond xr52.1 ((cp_ n (xy35.length:Int) 1).bind fun xr53=>((am_ n xr52.2 xr53).bind fun xr54=>(cond (decide (xr54.1<(xy35.length:Int))) (inB xr54.1 xy35.length ((cp_ n (xy35.getD xr54.1.toNat 0) 1).bind fun xr55=>((am_ n xr54.2 xr55).bind fun xr56=>(some ((an_.mk xy43 xy50 xy44 xy45 xy46 xy51 true xr54.1 xr56.1),xr56.2))))) (some ((an_.mk xy43 xy50 xy44 xy45 xy46 xy51 true xr54.1 xy49),xr54.2))))) (some ((an_.mk xy43 xy50 xy44 xy45 xy46 xy51 xy47 xy48 xy49),xr52.2))))) n xy8 0 xr30.2.b xr30.2.i xr30.2.h xy12 xy13 xy14 xy15 xy16 xy17 xy18 xy19 xy20 xr28.1 xr29.1 xr30.1 xy24 xy25 xy26 xy27 ([]:List Int)))) ((bE_ n xr28.2 ([0,0,1,2,3,5]:List Int)).bind fun xr57=>(ai_.loop16 n (fun xy58 xy59 xy60 xy61 xy62 xy63 xy64 xy65 xy66 xy67 xy68 xy69 xy70 xy71 xy72 xy73 xy74 xy75 xy76 xy77=>((cn_ n (al_.mk xy58 xy59 xy60) 2).bind fun xr78=>(cond xr78.1 ((cp_ n (xy61.length:Int) 1).bind fun xr79=>((am_ n xr78.2 xr79).bind fun xr80=>(cond (decide (xr80.1<(xy61.length:Int))) (inB xr80.1 xy61.length ((cp_ n (xy61.getD xr80.1.toNat 0) 1).bind fun xr81=>((am_ n xr80.2 xr81).bind fun xr82=>(some ((an_.mk xy69 xy76 xy70 xy71 xy72 xy77 true xr80.1 xr82.1),xr82.2))))) (some ((an_.mk xy69 xy76 xy70 xy71 xy72 xy77 true xr80.1 xy75),xr80.2))))) (some ((an_.mk xy69 xy76 xy70 xy71 xy72 xy77 xy73 xy74 xy75),xr78.2))))) n xy8 0 xr57.2.b xr57.2.i xr57.2.h xy12 xy13 xy14 xy15 xy16 xy17 xy18 xy19 xy20 xr28.1 false xr57.1 xy24 xy25 xy26 xy27 ([]:List Int)))))) n xr3 0 xr2.2.b xr2.2.i xr2.2.h append.cols 0 0 false 0 false 0 0 xr2.1 0 false 0 false 0 0 ([]:List a6_)))) (ai_.loop7 n (fun xy83 xy84 xy85 xy86 xy87 xy88 xy89 xy90 xy91 xy92 xy93 xy94 xy95 xy96 xy97 xy98 xy99 xy100 xy101 xy102=>((am_ n (al_.mk xy84 xy85 xy86) (W (xy83+1))).bind fun xr103=>(cond (decide (xr103.1 > 0)) ((cn_ n xr103.2 2).bind fun xr104=>((bE_ n xr104.2 ([0,0,1,2,3,5]:List Int)).bind fun xr105=>(ai_.loop16 n (fun xy106 xy107 xy108 xy109 xy110 xy111 xy112 xy113 xy114 xy115 xy116 xy117 xy118 xy119 xy120 xy121 xy122 xy123 xy124 xy125=>((cn_ n (al_.mk xy106 xy107 xy108) 2).bind fun xr126=>(cond xr126.1 ((cp_ n (xy109.length:Int) 1).bind fun xr127=>((am_ n xr126.2 xr127).bind fun xr128=>(cond (decide (xr128.1<(xy109.length:Int))) (inB xr128.1 xy109.length ((cp_ n (xy109.getD xr128.1.toNat 0) 1).bind fun xr129=>((am_ n xr128.2 xr129).bind fun xr130=>(some ((an_.mk xy117 xy124 xy118 xy119 xy120 xy125 true xr128.1 xr130.1),xr130.2))))) (some ((an_.mk xy117 xy124 xy118 xy119 xy120 xy125 true xr128.1 xy123),xr128.2))))) (some ((an_.mk xy117 xy124 xy118 xy119 xy120 xy125 xy121 xy122 xy123),xr126.2))))) n xy83 0 xr105.2.b xr105.2.i xr105.2.h xy87 xy88 xy89 xy90 xy91 xy92 xy93 xy94 xy95 xr103.1 xr104.1 xr105.1 xy99 xy100 xy101 xy102 ([]:List Int)))) ((bE_ n xr103.2 ([0,0,1,2,3,5]:List Int)).bind fun xr131=>(ai_.loop16 n (fun xy132 xy133 xy134 xy135 xy136 xy137 xy138 xy139 xy140 xy141 xy142 xy143 xy144 xy145 xy146 xy147 xy148 xy149 xy150 xy151=>((cn_ n (al_.mk xy132 xy133 xy134) 2).bind fun xr152=>(cond xr152.1 ((cp_ n (xy135.length:Int) 1).bind fun xr153=>((am_ n xr152.2 xr153).bind fun xr154=>(cond (decide (xr154.1<(xy135.length:Int))) (inB xr154.1 xy135.length ((cp_ n (xy135.getD xr154.1.toNat 0) 1).bind fun xr155=>((am_ n xr154.2 xr155).bind fun xr156=>(some ((an_.mk xy143 xy150 xy144 xy145 xy146 xy151 true xr154.1 xr156.1),xr156.2))))) (some ((an_.mk xy143 xy150 xy144 xy145 xy146 xy151 true xr154.1 xy149),xr154.2))))) (some ((an_.mk xy143 xy150 xy144 xy145 xy146 xy151 xy147 xy148 xy149),xr152.2))))) n xy83 0 xr131.2.b xr131.2.i xr131.2.h xy87 xy88 xy89 xy90 xy91 xy92 xy93 xy94 xy95 xr103.1 false xr131.1 xy99 xy100 xy101 xy102 ([]:List Int)))))) n 1 0 xr2.2.b xr2.2.i xr2.2.h append.cols 0 0 false 0 false 0 0 xr2.1 0 false 0 false 0 0 ([]:List a6_)))))
abbrev b3_.T6:Type:=Int→Int→(List Int)→Option Bool
def b3_.step6 (n:Nat) (k0:Option Bool) (back:b3_.T6):b3_.T6:=fun i r0 r1=>
 (cond (decide (i<(r1.length:Int))) (inB i r1.length ((bX_ n (r1.getD i.toNat 0) (-1000000000) 1000000000).bind fun xr4=>(cond (!xr4) (some false) (back (W (i+1)) r0 r1)))) k0)
def b3_.loop6 (n:Nat) (k0:Option Bool) (N:Nat):b3_.T6:=cc_ (fun _ _ _=>none) (b3_.step6 n k0) N
def b3_:Nat→aA_→Int→TRow→Option Bool
 |0,_,_,_=>none
 |n+1,s,table,r=>
  ((aW_ n s).bind fun xr1=>(cond (!xr1) (some false) ((bX_ n table 0 (W ((s.cols.length:Int) - 1))).bind fun xr2=>(cond (!xr2) (some false) ((bX_ n r.id_ 1 999).bind fun xr3=>(cond (!xr3) (some false) (inB table s.cols.length (cond ((r.cells.length:Int) != (s.cols.getD table.toNat 0)) (some false) (b3_.loop6 n (some true) n 0 r.id_ r.cells)))))))))
abbrev bK_.K3:Type:=Int→(List TRow)→(List Int)→Option Bool
abbrev bK_.T3:Type:=Int→(List TRow)→Int→(List Int)→Option Bool
def bK_.step3 (n:Nat) (k0:bK_.K3) (back:bK_.T3):bK_.T3:=fun table rows i s0=>
 (cond (decide (i<(rows.length:Int))) (inB i rows.length ((b3_ n (aA_.mk s0) table (rows.getD i.toNat TRow.dflt)).bind fun xr1=>(cond (!xr1) (some false) (cond (decide (i > 0)) (inB (W (i - 1)) rows.length (inB i rows.length (let xv2:Bool:=(decide (((rows.getD (W (i - 1)).toNat TRow.dflt).id_)≥((rows.getD i.toNat TRow.dflt).id_)));(cond xv2 (some false) (back table rows (W (i+1)) s0))))) (back table rows (W (i+1)) s0))))) (k0 table rows s0))
def bK_.loop3 (n:Nat) (k0:bK_.K3) (N:Nat):bK_.T3:=cc_ (fun _ _ _ _=>none) (bK_.step3 n k0) N
def bK_:Nat→aA_→Int→(List TRow)→Option Bool
 |0,_,_,_=>none
 |n+1,s,table,rows=>
  (bK_.loop3 n (fun xy3 xy4 xy5=>((aW_ n (aA_.mk xy5)).bind fun xr6=>(cond xr6 ((bX_ n xy3 0 (W ((xy5.length:Int) - 1))).bind fun xr7=>(cond xr7 (some (decide ((xy4.length:Int)≤24))) (some false))) (some false)))) n table rows 0 s.cols)
abbrev bj_.T6:Type:=Int→(List Int)→Int→(List (List TRow))→Option Bool
def bj_.step6 (n:Nat) (k0:Option Bool) (back:bj_.T6):bj_.T6:=fun t s0 s1 s2=>
 (cond (decide (t<(s2.length:Int))) (inB t s2.length ((bK_ n (aA_.mk s0) t (s2.getD t.toNat [])).bind fun xr3=>(cond (!xr3) (some false) (back (W (t+1)) s0 s1 s2)))) k0)
def bj_.loop6 (n:Nat) (k0:Option Bool) (N:Nat):bj_.T6:=cc_ (fun _ _ _ _=>none) (bj_.step6 n k0) N
def bj_:Nat→aw_→Option Bool
 |0,_=>none
 |n+1,s=>
  ((aW_ n s.schema).bind fun xr1=>(cond (!xr1) (some false) ((bX_ n s.version 0 100000).bind fun xr2=>(cond (!xr2) (some false) (cond ((s.tables.length:Int) != (s.schema.cols.length:Int)) (some false) (bj_.loop6 n (some true) n 0 s.schema.cols s.version s.tables))))))
abbrev ay_.K7:Type:=Int→(List Int)→Int→(List a6_)→Int→Bool→Int→(List Int)→Bool→Int→Int→Option Bool
abbrev ay_.T7:Type:=Int→Int→(List Int)→Int→(List a6_)→Int→Bool→Int→(List Int)→Bool→Int→Int→Option Bool
def ay_.step7 (n:Nat) (k0:ay_.K7) (back:ay_.T7):ay_.T7:=fun t5 t6 t20 t30 t31 t32 t33 t34 t35 t36 t37 t38=>
 (cond (decide (t6<(t31.length:Int))) (inB t6 t31.length ((bX_ n ((t31.getD t6.toNat a6_.dflt).col) 0 (W (t5 - 1))).bind fun xr3=>(cond (!xr3) (some false) ((bX_ n ((t31.getD t6.toNat a6_.dflt).op) 1 4).bind fun xr4=>(cond (!xr4) (some false) ((bX_ n ((t31.getD t6.toNat a6_.dflt).v) (-1000000000) 1000000000).bind fun xr5=>(cond (!xr5) (some false) (back t5 (W (t6+1)) t20 t30 t31 t32 t33 t34 t35 t36 t37 t38)))))))) (k0 t5 t20 t30 t31 t32 t33 t34 t35 t36 t37 t38))
def ay_.loop7 (n:Nat) (k0:ay_.K7) (N:Nat):ay_.T7:=cc_ (fun _ _ _ _ _ _ _ _ _ _ _ _=>none) (ay_.step7 n k0) N
abbrev ay_.K16:Type:=Int→(List Int)→Int→(List a6_)→Int→Bool→Int→(List Int)→Bool→Int→Int→Option Bool
abbrev ay_.T16:Type:=Int→Int→(List Int)→Int→(List a6_)→Int→Bool→Int→(List Int)→Bool→Int→Int→Option Bool
def ay_.step16 (n:Nat) (k2:ay_.K16) (back:ay_.T16):ay_.T16:=fun t5 t8 t20 t30 t31 t32 t33 t34 t35 t36 t37 t38=>
 (cond (decide (t8<(t35.length:Int))) (inB t8 t35.length ((bX_ n (t35.getD t8.toNat 0) 0 (W (t5 - 1))).bind fun xr17=>(cond (!xr17) (some false) (cond (decide (t8 > 0)) (inB (W (t8 - 1)) t35.length (inB t8 t35.length (cond (decide ((t35.getD (W (t8 - 1)).toNat 0)≥(t35.getD t8.toNat 0))) (some false) (back t5 (W (t8+1)) t20 t30 t31 t32 t33 t34 t35 t36 t37 t38)))) (back t5 (W (t8+1)) t20 t30 t31 t32 t33 t34 t35 t36 t37 t38))))) (k2 t5 t20 t30 t31 t32 t33 t34 t35 t36 t37 t38))
def ay_.loop16 (n:Nat) (k2:ay_.K16) (N:Nat):ay_.T16:=cc_ (fun _ _ _ _ _ _ _ _ _ _ _ _=>none) (ay_.step16 n k2) N
def ay_:Nat→aA_→an_→Option Bool
 |0,_,_=>none
 |n+1,o,append=>
  ((aW_ n o).bind fun xr1=>(cond (!xr1) (some false) ((bX_ n append.table 0 (W ((o.cols.length:Int) - 1))).bind fun xr2=>(cond (!xr2) (some false) (cond (decide ((append.where_.length:Int) > 3)) (some false) (inB append.table o.cols.length (ay_.loop7 n (fun xy6 xy7 xy8 xy9 xy10 xy11 xy12 xy13 xy14 xy15 xy16=>(ay_.loop16 n (fun xy18 xy19 xy20 xy21 xy22 xy23 xy24 xy25 xy26 xy27 xy28=>((bX_ n xy22 0 xy18).bind fun xr29=>(cond (!xr29) (some false) ((bX_ n xy24 0 24).bind fun xr30=>(cond (!xr30) (some false) (cond (xy22 == 0) (cond xy23 (some false) (cond (!xy26) (cond (xy27 == 0) (some (xy28 == 0)) (some false)) ((bX_ n xy27 0 (W ((xy19.length:Int) - 1))).bind fun xr31=>(cond xr31 (inB xy27 xy19.length ((bX_ n xy28 0 (W ((xy19.getD xy27.toNat 0) - 1))).bind fun xr32=>(some xr32))) (some false))))) (cond (!xy26) (cond (xy27 == 0) (some (xy28 == 0)) (some false)) ((bX_ n xy27 0 (W ((xy19.length:Int) - 1))).bind fun xr33=>(cond xr33 (inB xy27 xy19.length ((bX_ n xy28 0 (W ((xy19.getD xy27.toNat 0) - 1))).bind fun xr34=>(some xr34))) (some false)))))))))) n xy6 0 xy7 xy8 xy9 xy10 xy11 xy12 xy13 xy14 xy15 xy16)) n (o.cols.getD append.table.toNat 0) 0 o.cols append.table append.where_ append.order append.down append.first append.show_ append.kids append.kidTable append.kidCol)))))))
def dA_:Nat→an_→Option an_
 |0,_=>none
 |n+1,q=>
  (bm_ (([]:List a6_).length+q.where_.length) 24 (bm_ (([]:List Int).length+q.show_.length) 8 (some { q with where_:=(([]:List a6_)++q.where_),show_:=(([]:List Int)++q.show_) })))
def dj_:Nat→a6_→TRow→Option Bool
 |0,_,_=>none
 |n+1,x,r=>
  ((bX_ n x.col 0 (W ((r.cells.length:Int) - 1))).bind fun xr1=>(cond (!xr1) (some false) (inB x.col r.cells.length (cond (x.op == 1) (some ((r.cells.getD x.col.toNat 0) == x.v)) (cond (x.op == 2) (some (decide ((r.cells.getD x.col.toNat 0)<x.v))) (cond (x.op == 3) (some (decide ((r.cells.getD x.col.toNat 0) > x.v))) (cond (x.op == 4) (some ((r.cells.getD x.col.toNat 0) != x.v)) (some false))))))))
abbrev bw_.T3:Type:=Int→Int→(List a6_)→Int→Bool→Int→(List Int)→Bool→Int→Int→Int→(List Int)→Option Bool
def bw_.step3 (n:Nat) (k0:Option Bool) (back:bw_.T3):bw_.T3:=fun i q0 q1 q2 q3 q4 q5 q6 q7 q8 r0 r1=>
 (cond (decide (i<(q1.length:Int))) (inB i q1.length ((dj_ n (q1.getD i.toNat a6_.dflt) (TRow.mk r0 r1)).bind fun xr1=>(cond (!xr1) (some false) (back (W (i+1)) q0 q1 q2 q3 q4 q5 q6 q7 q8 r0 r1)))) k0)
def bw_.loop3 (n:Nat) (k0:Option Bool) (N:Nat):bw_.T3:=cc_ (fun _ _ _ _ _ _ _ _ _ _ _ _=>none) (bw_.step3 n k0) N
def bw_:Nat→an_→TRow→Option Bool
 |0,_,_=>none
 |n+1,q,r=>
  (bw_.loop3 n (some true) n 0 q.table q.where_ q.order q.down q.first q.show_ q.kids q.kidTable q.kidCol r.id_ r.cells)
def bz_:Nat→TRow→Int→Option Int
 |0,_,_=>none
 |n+1,r,col=>
  ((bX_ n col 0 (W ((r.cells.length:Int) - 1))).bind fun xr1=>(cond (!xr1) (some 0) (inB col r.cells.length (some (r.cells.getD col.toNat 0)))))
def dX_:Nat→an_→TRow→TRow→Option Bool
 |0,_,_,_=>none
 |n+1,q,a,b=>
  (cond (q.order != 0) ((bz_ n a (W (q.order - 1))).bind fun xr1=>((bz_ n b (W (q.order - 1))).bind fun xr2=>(cond (xr1 != xr2) (some (!((decide (xr1<xr2)) == q.down))) (some (decide (a.id_<b.id_)))))) (some (decide (a.id_<b.id_))))
abbrev bA_.K5:Type:=Bool→Int→(List Int)→(List TRow)→Option (List TRow)
abbrev bA_.T5:Type:=(List TRow)→Bool→Int→Int→(List a6_)→Int→Bool→Int→(List Int)→Bool→Int→Int→Int→(List Int)→(List TRow)→Option (List TRow)
def bA_.step5 (n:Nat) (k0:bA_.K5) (back:bA_.T5):bA_.T5:=fun rows put i q0 q1 q2 q3 q4 q5 q6 q7 q8 r0 r1 out_1=>
 (cond (decide (i<(rows.length:Int))) (cond (!put) (inB i rows.length ((dX_ n (an_.mk q0 q1 q2 q3 q4 q5 q6 q7 q8) (TRow.mk r0 r1) (rows.getD i.toNat TRow.dflt)).bind fun xr1=>(cond xr1 ((ci_ n (TRow.mk r0 r1)).bind fun xr2=>(bm_ (out_1.length+([xr2]:List TRow).length) 32 (inB i rows.length (bm_ ((out_1++([xr2]:List TRow)).length+([(rows.getD i.toNat TRow.dflt)]:List TRow).length) 32 (back rows true (W (i+1)) q0 q1 q2 q3 q4 q5 q6 q7 q8 r0 r1 ((out_1++([xr2]:List TRow))++([(rows.getD i.toNat TRow.dflt)]:List TRow))))))) (inB i rows.length (bm_ (out_1.length+([(rows.getD i.toNat TRow.dflt)]:List TRow).length) 32 (back rows put (W (i+1)) q0 q1 q2 q3 q4 q5 q6 q7 q8 r0 r1 (out_1++([(rows.getD i.toNat TRow.dflt)]:List TRow)))))))) (inB i rows.length (bm_ (out_1.length+([(rows.getD i.toNat TRow.dflt)]:List TRow).length) 32 (back rows put (W (i+1)) q0 q1 q2 q3 q4 q5 q6 q7 q8 r0 r1 (out_1++([(rows.getD i.toNat TRow.dflt)]:List TRow)))))) (k0 put r0 r1 out_1))
def bA_.loop5 (n:Nat) (k0:bA_.K5) (N:Nat):bA_.T5:=cc_ (fun _ _ _ _ _ _ _ _ _ _ _ _ _ _ _=>none) (bA_.step5 n k0) N
def bA_:Nat→an_→(List TRow)→TRow→Option (List TRow)
 |0,_,_,_=>none
 |n+1,q,rows,r=>
  (bA_.loop5 n (fun xy3 xy4 xy5 xy6=>(cond (!xy3) ((ci_ n (TRow.mk xy4 xy5)).bind fun xr7=>(bm_ (xy6.length+([xr7]:List TRow).length) 32 (some (xy6++([xr7]:List TRow))))) (some xy6))) n rows false 0 q.table q.where_ q.order q.down q.first q.show_ q.kids q.kidTable q.kidCol r.id_ r.cells ([]:List TRow))
abbrev br_.K8:Type:=(List TRow)→Option (List TRow)
abbrev br_.T8:Type:=(List TRow)→Int→Int→(List a6_)→Int→Bool→Int→(List Int)→Bool→Int→Int→(List TRow)→Option (List TRow)
def br_.step8 (n:Nat) (k0:br_.K8) (back:br_.T8):br_.T8:=fun rows i q0 q1 q2 q3 q4 q5 q6 q7 q8 out_1=>
 (cond (decide (i<(rows.length:Int))) (inB i rows.length ((bw_ n (an_.mk q0 q1 q2 q3 q4 q5 q6 q7 q8) (rows.getD i.toNat TRow.dflt)).bind fun xr3=>(cond xr3 (inB i rows.length ((bA_ n (an_.mk q0 q1 q2 q3 q4 q5 q6 q7 q8) out_1 (rows.getD i.toNat TRow.dflt)).bind fun xr4=>(back rows (W (i+1)) q0 q1 q2 q3 q4 q5 q6 q7 q8 xr4))) (back rows (W (i+1)) q0 q1 q2 q3 q4 q5 q6 q7 q8 out_1)))) (k0 out_1))
def br_.loop8 (n:Nat) (k0:br_.K8) (N:Nat):br_.T8:=cc_ (fun _ _ _ _ _ _ _ _ _ _ _ _=>none) (br_.step8 n k0) N
def br_:Nat→aw_→an_→Option (List TRow)
 |0,_,_=>none
 |n+1,s,q=>
  ((bj_ n s).bind fun xr1=>(cond (!xr1) (some ([]:List TRow)) ((ay_ n s.schema q).bind fun xr2=>(cond (!xr2) (some ([]:List TRow)) (inB q.table s.tables.length (br_.loop8 n (fun xy5=>(some xy5)) n (s.tables.getD q.table.toNat []) 0 q.table q.where_ q.order q.down q.first q.show_ q.kids q.kidTable q.kidCol ([]:List TRow)))))))
abbrev aL_.K5:Type:=Int→Int→Bool→(List TKid)→Option (List TKid)
abbrev aL_.T5:Type:=(List TKid)→Int→Int→Bool→Int→(List TKid)→Option (List TKid)
def aL_.step5 (n:Nat) (k0:aL_.K5) (back:aL_.T5):aL_.T5:=fun o append t2 t8 t9 t7=>
 (cond (decide (t9<(o.length:Int))) (inB t9 o.length (cond (!t8) (cond (decide (((o.getD t9.toNat TKid.dflt).id_)≥append)) (cond (((o.getD t9.toNat TKid.dflt).id_) == append) (cond (decide ((W (((o.getD t9.toNat TKid.dflt).n_)+t2)) > 0)) (bm_ (t7.length+([(TKid.mk append (W (((o.getD t9.toNat TKid.dflt).n_)+t2)))]:List TKid).length) 16 (cond (((o.getD t9.toNat TKid.dflt).id_) == append) (back o append t2 true (W (t9+1)) (t7++([(TKid.mk append (W (((o.getD t9.toNat TKid.dflt).n_)+t2)))]:List TKid))) (bm_ ((t7++([(TKid.mk append (W (((o.getD t9.toNat TKid.dflt).n_)+t2)))]:List TKid)).length+([(o.getD t9.toNat TKid.dflt)]:List TKid).length) 16 (back o append t2 true (W (t9+1)) ((t7++([(TKid.mk append (W (((o.getD t9.toNat TKid.dflt).n_)+t2)))]:List TKid))++([(o.getD t9.toNat TKid.dflt)]:List TKid)))))) (cond (((o.getD t9.toNat TKid.dflt).id_) == append) (back o append t2 true (W (t9+1)) t7) (bm_ (t7.length+([(o.getD t9.toNat TKid.dflt)]:List TKid).length) 16 (back o append t2 true (W (t9+1)) (t7++([(o.getD t9.toNat TKid.dflt)]:List TKid)))))) (cond (decide (t2 > 0)) (bm_ (t7.length+([(TKid.mk append t2)]:List TKid).length) 16 (cond (((o.getD t9.toNat TKid.dflt).id_) == append) (back o append t2 true (W (t9+1)) (t7++([(TKid.mk append t2)]:List TKid))) (bm_ ((t7++([(TKid.mk append t2)]:List TKid)).length+([(o.getD t9.toNat TKid.dflt)]:List TKid).length) 16 (back o append t2 true (W (t9+1)) ((t7++([(TKid.mk append t2)]:List TKid))++([(o.getD t9.toNat TKid.dflt)]:List TKid)))))) (cond (((o.getD t9.toNat TKid.dflt).id_) == append) (back o append t2 true (W (t9+1)) t7) (bm_ (t7.length+([(o.getD t9.toNat TKid.dflt)]:List TKid).length) 16 (back o append t2 true (W (t9+1)) (t7++([(o.getD t9.toNat TKid.dflt)]:List TKid))))))) (bm_ (t7.length+([(o.getD t9.toNat TKid.dflt)]:List TKid).length) 16 (back o append t2 t8 (W (t9+1)) (t7++([(o.getD t9.toNat TKid.dflt)]:List TKid))))) (bm_ (t7.length+([(o.getD t9.toNat TKid.dflt)]:List TKid).length) 16 (back o append t2 t8 (W (t9+1)) (t7++([(o.getD t9.toNat TKid.dflt)]:List TKid)))))) (k0 append t2 t8 t7))
def aL_.loop5 (n:Nat) (k0:aL_.K5) (N:Nat):aL_.T5:=cc_ (fun _ _ _ _ _ _=>none) (aL_.step5 n k0) N
def aL_:Nat→(List TKid)→Int→Int→Option (List TKid)
 |0,_,_,_=>none
 |n+1,o,append,a2=>
  (aL_.loop5 n (fun xy1 xy2 xy3 xy4=>(cond (!xy3) (cond (decide (xy2 > 0)) (bm_ (xy4.length+([(TKid.mk xy1 xy2)]:List TKid).length) 16 (some (xy4++([(TKid.mk xy1 xy2)]:List TKid)))) (some xy4)) (some xy4))) n o append a2 false 0 ([]:List TKid))
abbrev bJ_.K8:Type:=Int→Int→Bool→Int→Bool→Int→Int→Int→Int→Bool→Int→Bool→Int→Int→(List a6_)→(List Int)→(List TRow)→(List TKid)→Option (aD_ × Bool)
abbrev bJ_.T8:Type:=(List TRow)→Int→Int→(List a6_)→Int→Bool→Int→(List Int)→Bool→Int→Int→Int→Int→Bool→Int→Bool→Int→Int→Int→Int→Bool→Int→Bool→Int→Int→(List a6_)→(List Int)→(List TRow)→(List TKid)→Option (aD_ × Bool)
def bJ_.step8 (n:Nat) (k0:bJ_.K8) (back:bJ_.T8):bJ_.T8:=fun rows i q0 q1 q2 q3 q4 q5 q6 q7 q8 t40 t42 t43 t44 t46 t47 t48 v0 v2 v3 v4 v6 v7 v8 v1 v5 v9 v10=>
 (cond (decide (i<(rows.length:Int))) (cond q6 (inB i rows.length (inB q8 ((rows.getD i.toNat TRow.dflt).cells).length ((aL_ n v10 (((rows.getD i.toNat TRow.dflt).cells).getD q8.toNat 0) 1).bind fun xr5=>(back rows (W (i+1)) q0 q1 q2 q3 q4 q5 q6 q7 q8 t40 t42 t43 t44 t46 t47 t48 v0 v2 v3 v4 v6 v7 v8 v1 v5 v9 xr5)))) (k0 t40 t42 t43 t44 t46 t47 t48 v0 v2 v3 v4 v6 v7 v8 v1 v5 v9 v10)) (k0 t40 t42 t43 t44 t46 t47 t48 v0 v2 v3 v4 v6 v7 v8 v1 v5 v9 v10))
def bJ_.loop8 (n:Nat) (k0:bJ_.K8) (N:Nat):bJ_.T8:=cc_ (fun _ _ _ _ _ _ _ _ _ _ _ _ _ _ _ _ _ _ _ _ _ _ _ _ _ _ _ _ _=>none) (bJ_.step8 n k0) N
def bJ_:Nat→aw_→an_→Option (aD_ × Bool)
 |0,_,_=>none
 |n+1,s,q=>
  ((bj_ n s).bind fun xr1=>(cond (!xr1) (some ((aD_.mk (an_.mk 0 ([]:List a6_) 0 false 0 ([]:List Int) false 0 0) ([]:List TRow) ([]:List TKid)),false)) ((ay_ n s.schema q).bind fun xr2=>(cond (!xr2) (some ((aD_.mk (an_.mk 0 ([]:List a6_) 0 false 0 ([]:List Int) false 0 0) ([]:List TRow) ([]:List TKid)),false)) ((dA_ n q).bind fun xr3=>((br_ n s q).bind fun xr4=>(inB q.kidTable s.tables.length (bJ_.loop8 n (fun xy6 xy7 xy8 xy9 xy10 xy11 xy12 xy13 xy14 xy15 xy16 xy17 xy18 xy19 xy20 xy21 xy22 xy23=>(some ((aD_.mk (an_.mk xy13 xy20 xy14 xy15 xy16 xy21 xy17 xy18 xy19) xy22 xy23),true))) n (s.tables.getD q.kidTable.toNat []) 0 q.table q.where_ q.order q.down q.first q.show_ q.kids q.kidTable q.kidCol 0 0 false 0 false 0 0 xr3.table xr3.order xr3.down xr3.first xr3.kids xr3.kidTable xr3.kidCol xr3.where_ xr3.show_ xr4 ([]:List TKid)))))))))
def b2_.tail1 (n:Nat) (c0:List Int) (c1:Int) (c2:Int) (t21:Int) (t30:Int) (t32:Int) (t33:Bool) (t34:Int) (t36:Bool) (t37:Int) (t38:Int) (s0:List Int) (s1:Int) (s2:List (List TRow)):Option (aw_ × aD_ × al_) :=
 ((ai_ n (al_.mk c0 c1 c2) (aA_.mk s0)).bind fun xr2=>((bJ_ n (aw_.mk (aA_.mk s0) s1 s2) xr2.1).bind fun xr3=>(some ((aw_.mk (aA_.mk s0) s1 s2),xr3.1,xr2.2))))
def b2_:Nat→al_→Option (aw_ × aD_ × al_)
 |0,_=>none
 |n+1,c=>
  ((aK_ n c).bind fun xr1=>(b2_.tail1 n xr1.2.b xr1.2.i xr1.2.h 0 0 0 false 0 false 0 0 xr1.1.schema.cols xr1.1.version xr1.1.tables))
def c2_:Nat→al_→aw_→Option (TMut × al_)
 |0,_,_=>none
 |n+1,o,append=>
  ((cp_ n (append.tables.length:Int) 1).bind fun xr1=>((am_ n o xr1).bind fun xr2=>(cond (decide (xr2.1≥(append.tables.length:Int))) (some ((TMut.mk 3 0 (TRow.mk 1 ([]:List Int))),xr2.2)) (cond (decide (xr2.1≥(append.schema.cols.length:Int))) (some ((TMut.mk 3 0 (TRow.mk 1 ([]:List Int))),xr2.2)) ((am_ n xr2.2 3).bind fun xr3=>(inB xr2.1 append.schema.cols.length ((a0_ n xr3.2 (append.schema.cols.getD xr2.1.toNat 0)).bind fun xr4=>(cond ((W (1+xr3.1)) != 1) (inB xr2.1 append.tables.length (cond (decide (((append.tables.getD xr2.1.toNat []).length:Int) > 0)) ((cn_ n xr4.2 9).bind fun xr5=>(cond (!xr5.1) (inB xr2.1 append.tables.length (inB xr2.1 append.tables.length ((am_ n xr5.2 ((append.tables.getD xr2.1.toNat []).length:Int)).bind fun xr6=>(inB xr6.1 (append.tables.getD xr2.1.toNat []).length (cond ((W (1+xr3.1)) == 3) ((am_ n xr6.2 25).bind fun xr7=>(cond (xr7.1 == 0) ((am_ n xr7.2 5).bind fun xr8=>(some ((TMut.mk xr8.1 xr2.1 (TRow.mk (((append.tables.getD xr2.1.toNat []).getD xr6.1.toNat TRow.dflt).id_) ([]:List Int))),xr8.2))) (cond (xr7.1 == 1) ((am_ n xr7.2 5).bind fun xr9=>(some ((TMut.mk (W (1+xr3.1)) (W (xr9.1 - 1)) (TRow.mk (((append.tables.getD xr2.1.toNat []).getD xr6.1.toNat TRow.dflt).id_) ([]:List Int))),xr9.2))) (cond (xr7.1 == 2) ((bE_ n xr7.2 ([0,999,1000]:List Int)).bind fun xr10=>(some ((TMut.mk (W (1+xr3.1)) xr2.1 (TRow.mk xr10.1 ([]:List Int))),xr10.2))) (some ((TMut.mk (W (1+xr3.1)) xr2.1 (TRow.mk (((append.tables.getD xr2.1.toNat []).getD xr6.1.toNat TRow.dflt).id_) ([]:List Int))),xr7.2)))))) ((am_ n xr6.2 25).bind fun xr11=>(cond (xr11.1 == 0) ((am_ n xr11.2 5).bind fun xr12=>(some ((TMut.mk xr12.1 xr2.1 (TRow.mk (((append.tables.getD xr2.1.toNat []).getD xr6.1.toNat TRow.dflt).id_) xr4.1.cells)),xr12.2))) (cond (xr11.1 == 1) ((am_ n xr11.2 5).bind fun xr13=>(some ((TMut.mk (W (1+xr3.1)) (W (xr13.1 - 1)) (TRow.mk (((append.tables.getD xr2.1.toNat []).getD xr6.1.toNat TRow.dflt).id_) xr4.1.cells)),xr13.2))) (cond (xr11.1 == 2) ((bE_ n xr11.2 ([0,999,1000]:List Int)).bind fun xr14=>(some ((TMut.mk (W (1+xr3.1)) xr2.1 (TRow.mk xr14.1 xr4.1.cells)),xr14.2))) (some ((TMut.mk (W (1+xr3.1)) xr2.1 (TRow.mk (((append.tables.getD xr2.1.toNat []).getD xr6.1.toNat TRow.dflt).id_) xr4.1.cells)),xr11.2))))))))))) (cond ((W (1+xr3.1)) == 3) ((am_ n xr5.2 25).bind fun xr15=>(cond (xr15.1 == 0) ((am_ n xr15.2 5).bind fun xr16=>(some ((TMut.mk xr16.1 xr2.1 (TRow.mk xr4.1.id_ ([]:List Int))),xr16.2))) (cond (xr15.1 == 1) ((am_ n xr15.2 5).bind fun xr17=>(some ((TMut.mk (W (1+xr3.1)) (W (xr17.1 - 1)) (TRow.mk xr4.1.id_ ([]:List Int))),xr17.2))) (cond (xr15.1 == 2) ((bE_ n xr15.2 ([0,999,1000]:List Int)).bind fun xr18=>(some ((TMut.mk (W (1+xr3.1)) xr2.1 (TRow.mk xr18.1 ([]:List Int))),xr18.2))) (some ((TMut.mk (W (1+xr3.1)) xr2.1 (TRow.mk xr4.1.id_ ([]:List Int))),xr15.2)))))) ((am_ n xr5.2 25).bind fun xr19=>(cond (xr19.1 == 0) ((am_ n xr19.2 5).bind fun xr20=>(some ((TMut.mk xr20.1 xr2.1 xr4.1),xr20.2))) (cond (xr19.1 == 1) ((am_ n xr19.2 5).bind fun xr21=>(some ((TMut.mk (W (1+xr3.1)) (W (xr21.1 - 1)) xr4.1),xr21.2))) (cond (xr19.1 == 2) ((bE_ n xr19.2 ([0,999,1000]:List Int)).bind fun xr22=>(some ((TMut.mk (W (1+xr3.1)) xr2.1 (TRow.mk xr22.1 xr4.1.cells)),xr22.2))) (some ((TMut.mk (W (1+xr3.1)) xr2.1 xr4.1),xr19.2))))))))) (cond ((W (1+xr3.1)) == 3) ((am_ n xr4.2 25).bind fun xr23=>(cond (xr23.1 == 0) ((am_ n xr23.2 5).bind fun xr24=>(some ((TMut.mk xr24.1 xr2.1 (TRow.mk xr4.1.id_ ([]:List Int))),xr24.2))) (cond (xr23.1 == 1) ((am_ n xr23.2 5).bind fun xr25=>(some ((TMut.mk (W (1+xr3.1)) (W (xr25.1 - 1)) (TRow.mk xr4.1.id_ ([]:List Int))),xr25.2))) (cond (xr23.1 == 2) ((bE_ n xr23.2 ([0,999,1000]:List Int)).bind fun xr26=>(some ((TMut.mk (W (1+xr3.1)) xr2.1 (TRow.mk xr26.1 ([]:List Int))),xr26.2))) (some ((TMut.mk (W (1+xr3.1)) xr2.1 (TRow.mk xr4.1.id_ ([]:List Int))),xr23.2)))))) ((am_ n xr4.2 25).bind fun xr27=>(cond (xr27.1 == 0) ((am_ n xr27.2 5).bind fun xr28=>(some ((TMut.mk xr28.1 xr2.1 xr4.1),xr28.2))) (cond (xr27.1 == 1) ((am_ n xr27.2 5).bind fun xr29=>(some ((TMut.mk (W (1+xr3.1)) (W (xr29.1 - 1)) xr4.1),xr29.2))) (cond (xr27.1 == 2) ((bE_ n xr27.2 ([0,999,1000]:List Int)).bind fun xr30=>(some ((TMut.mk (W (1+xr3.1)) xr2.1 (TRow.mk xr30.1 xr4.1.cells)),xr30.2))) (some ((TMut.mk (W (1+xr3.1)) xr2.1 xr4.1),xr27.2))))))))) (cond ((W (1+xr3.1)) == 3) ((am_ n xr4.2 25).bind fun xr31=>(cond (xr31.1 == 0) ((am_ n xr31.2 5).bind fun xr32=>(some ((TMut.mk xr32.1 xr2.1 (TRow.mk xr4.1.id_ ([]:List Int))),xr32.2))) (cond (xr31.1 == 1) ((am_ n xr31.2 5).bind fun xr33=>(some ((TMut.mk (W (1+xr3.1)) (W (xr33.1 - 1)) (TRow.mk xr4.1.id_ ([]:List Int))),xr33.2))) (cond (xr31.1 == 2) ((bE_ n xr31.2 ([0,999,1000]:List Int)).bind fun xr34=>(some ((TMut.mk (W (1+xr3.1)) xr2.1 (TRow.mk xr34.1 ([]:List Int))),xr34.2))) (some ((TMut.mk (W (1+xr3.1)) xr2.1 (TRow.mk xr4.1.id_ ([]:List Int))),xr31.2)))))) ((am_ n xr4.2 25).bind fun xr35=>(cond (xr35.1 == 0) ((am_ n xr35.2 5).bind fun xr36=>(some ((TMut.mk xr36.1 xr2.1 xr4.1),xr36.2))) (cond (xr35.1 == 1) ((am_ n xr35.2 5).bind fun xr37=>(some ((TMut.mk (W (1+xr3.1)) (W (xr37.1 - 1)) xr4.1),xr37.2))) (cond (xr35.1 == 2) ((bE_ n xr35.2 ([0,999,1000]:List Int)).bind fun xr38=>(some ((TMut.mk (W (1+xr3.1)) xr2.1 (TRow.mk xr38.1 xr4.1.cells)),xr38.2))) (some ((TMut.mk (W (1+xr3.1)) xr2.1 xr4.1),xr35.2)))))))))))))))
def d9_:Nat→aA_→TMut→Option Bool
 |0,_,_=>none
 |n+1,s,m=>
  (cond (m.kind == 3) ((aW_ n s).bind fun xr1=>(cond xr1 ((bX_ n m.table 0 (W ((s.cols.length:Int) - 1))).bind fun xr2=>(cond xr2 ((bX_ n m.row.id_ 1 999).bind fun xr3=>(cond xr3 (some ((m.row.cells.length:Int) == 0)) (some false))) (some false))) (some false))) ((bX_ n m.kind 1 2).bind fun xr4=>(cond xr4 ((b3_ n s m.table m.row).bind fun xr5=>(some xr5)) (some false))))
abbrev bC_.K4:Type:=(List TRow)→Option (List TRow)
abbrev bC_.T4:Type:=(List TRow)→Int→(List TRow)→Option (List TRow)
def bC_.step4 (n:Nat) (k0:bC_.K4) (back:bC_.T4):bC_.T4:=fun rows i out_1=>
 (cond (decide (i<(rows.length:Int))) (inB i rows.length ((ci_ n (rows.getD i.toNat TRow.dflt)).bind fun xr1=>(bm_ (out_1.length+([xr1]:List TRow).length) 32 (back rows (W (i+1)) (out_1++([xr1]:List TRow)))))) (k0 out_1))
def bC_.loop4 (n:Nat) (k0:bC_.K4) (N:Nat):bC_.T4:=cc_ (fun _ _ _=>none) (bC_.step4 n k0) N
def bC_:Nat→(List TRow)→Option (List TRow)
 |0,_=>none
 |n+1,rows=>
  (bC_.loop4 n (fun xy2=>(some xy2)) n rows 0 ([]:List TRow))
abbrev bh_.K4:Type:=Int→Int→(List Int)→(List (List TRow))→Option aw_
abbrev bh_.T4:Type:=Int→(List Int)→Int→(List (List TRow))→Int→Int→(List Int)→(List (List TRow))→Option aw_
def bh_.step4 (n:Nat) (k0:bh_.K4) (back:bh_.T4):bh_.T4:=fun t s0 s1 s2 t21 out1 out0 out2=>
 (cond (decide (t<(s2.length:Int))) (inB t s2.length ((bC_ n (s2.getD t.toNat [])).bind fun xr2=>(bm_ (out2.length+([xr2]:List (List TRow)).length) 24 (back (W (t+1)) s0 s1 s2 t21 out1 out0 (out2++([xr2]:List (List TRow))))))) (k0 t21 out1 out0 out2))
def bh_.loop4 (n:Nat) (k0:bh_.K4) (N:Nat):bh_.T4:=cc_ (fun _ _ _ _ _ _ _ _=>none) (bh_.step4 n k0) N
def bh_:Nat→aw_→Option aw_
 |0,_=>none
 |n+1,s=>
  ((c1_ n s.schema).bind fun xr1=>(bh_.loop4 n (fun xy3 xy4 xy5 xy6=>(some (aw_.mk (aA_.mk xy5) xy4 xy6))) n 0 s.schema.cols s.version s.tables 0 s.version xr1.cols ([]:List (List TRow))))
def ew_:Nat→aw_→TMut→Option (aw_ × aT_ × Bool)
 |0,_,_=>none
 |n+1,o,append=>
  (inB append.table o.tables.length ((b0_ n (o.tables.getD append.table.toNat []) append.row.id_).bind fun xr1=>(cond (!((decide (xr1≥0)) == (append.kind != 1))) (some (o,(aT_.mk 0 false false (TRow.mk 0 ([]:List Int)) (TRow.mk 0 ([]:List Int))),false)) (cond (append.kind == 1) (cond (((o.tables.getD append.table.toNat []).length:Int) == 24) (some (o,(aT_.mk 0 false false (TRow.mk 0 ([]:List Int)) (TRow.mk 0 ([]:List Int))),false)) (cond (append.kind != 1) (inB xr1 (o.tables.getD append.table.toNat []).length ((ci_ n ((o.tables.getD append.table.toNat []).getD xr1.toNat TRow.dflt)).bind fun xr2=>(cond (append.kind != 3) ((ci_ n append.row).bind fun xr3=>((bo_ n (o.tables.getD append.table.toNat []) append.row).bind fun xr4=>(inB append.table o.tables.length (let xa5:List (List TRow):=o.tables.set append.table.toNat xr4;(some ((aw_.mk o.schema o.version xa5),(aT_.mk append.table (append.kind != 1) (append.kind != 3) xr2 xr3),true)))))) ((a9_ n (o.tables.getD append.table.toNat []) append.row.id_).bind fun xr6=>(inB append.table o.tables.length (let xa7:List (List TRow):=o.tables.set append.table.toNat xr6;(some ((aw_.mk o.schema o.version xa7),(aT_.mk append.table (append.kind != 1) (append.kind != 3) xr2 (TRow.mk 0 ([]:List Int))),true)))))))) (cond (append.kind != 3) ((ci_ n append.row).bind fun xr8=>((bo_ n (o.tables.getD append.table.toNat []) append.row).bind fun xr9=>(inB append.table o.tables.length (let xa10:List (List TRow):=o.tables.set append.table.toNat xr9;(some ((aw_.mk o.schema o.version xa10),(aT_.mk append.table (append.kind != 1) (append.kind != 3) (TRow.mk 0 ([]:List Int)) xr8),true)))))) ((a9_ n (o.tables.getD append.table.toNat []) append.row.id_).bind fun xr11=>(inB append.table o.tables.length (let xa12:List (List TRow):=o.tables.set append.table.toNat xr11;(some ((aw_.mk o.schema o.version xa12),(aT_.mk append.table (append.kind != 1) (append.kind != 3) (TRow.mk 0 ([]:List Int)) (TRow.mk 0 ([]:List Int))),true)))))))) (cond (append.kind != 1) (inB xr1 (o.tables.getD append.table.toNat []).length ((ci_ n ((o.tables.getD append.table.toNat []).getD xr1.toNat TRow.dflt)).bind fun xr13=>(cond (append.kind != 3) ((ci_ n append.row).bind fun xr14=>((bo_ n (o.tables.getD append.table.toNat []) append.row).bind fun xr15=>(inB append.table o.tables.length (let xa16:List (List TRow):=o.tables.set append.table.toNat xr15;(some ((aw_.mk o.schema o.version xa16),(aT_.mk append.table (append.kind != 1) (append.kind != 3) xr13 xr14),true)))))) ((a9_ n (o.tables.getD append.table.toNat []) append.row.id_).bind fun xr17=>(inB append.table o.tables.length (let xa18:List (List TRow):=o.tables.set append.table.toNat xr17;(some ((aw_.mk o.schema o.version xa18),(aT_.mk append.table (append.kind != 1) (append.kind != 3) xr13 (TRow.mk 0 ([]:List Int))),true)))))))) (cond (append.kind != 3) ((ci_ n append.row).bind fun xr19=>((bo_ n (o.tables.getD append.table.toNat []) append.row).bind fun xr20=>(inB append.table o.tables.length (let xa21:List (List TRow):=o.tables.set append.table.toNat xr20;(some ((aw_.mk o.schema o.version xa21),(aT_.mk append.table (append.kind != 1) (append.kind != 3) (TRow.mk 0 ([]:List Int)) xr19),true)))))) ((a9_ n (o.tables.getD append.table.toNat []) append.row.id_).bind fun xr22=>(inB append.table o.tables.length (let xa23:List (List TRow):=o.tables.set append.table.toNat xr22;(some ((aw_.mk o.schema o.version xa23),(aT_.mk append.table (append.kind != 1) (append.kind != 3) (TRow.mk 0 ([]:List Int)) (TRow.mk 0 ([]:List Int))),true)))))))))))
def dV_:Nat→aw_→TMut→Option (aw_ × aT_ × Bool)
 |0,_,_=>none
 |n+1,s,m=>
  ((bj_ n s).bind fun xr1=>(cond (!xr1) (some ((aw_.mk (aA_.mk ([]:List Int)) 0 ([]:List (List TRow))),(aT_.mk 0 false false (TRow.mk 0 ([]:List Int)) (TRow.mk 0 ([]:List Int))),false)) ((d9_ n s.schema m).bind fun xr2=>(cond (!xr2) ((bh_ n s).bind fun xr3=>(some (xr3,(aT_.mk 0 false false (TRow.mk 0 ([]:List Int)) (TRow.mk 0 ([]:List Int))),false))) ((bh_ n s).bind fun xr4=>((ew_ n xr4 m).bind fun xr5=>(cond (!xr5.2.2) ((bh_ n s).bind fun xr6=>(some (xr6,(aT_.mk 0 false false (TRow.mk 0 ([]:List Int)) (TRow.mk 0 ([]:List Int))),false))) (some (xr5.1,xr5.2.1,true)))))))))
def aB_.tail9 (n:Nat) (kn:Int→(List Int)→Int→Int→(List Int)→Int→(List (List TRow))→(List TMut)→Option ((List TMut) × al_)) (i:Int) (c0:List Int) (c1:Int) (c2:Int) (now0:List Int) (now1:Int) (now2:List (List TRow)) (list:List TMut) (m0:Int) (m1:Int) (m2:Int) (m3:List Int):Option ((List TMut) × al_) :=
 ((dV_ n (aw_.mk (aA_.mk now0) now1 now2) (TMut.mk m0 m1 (TRow.mk m2 m3))).bind fun xr3=>(cond xr3.2.2 (cond xr3.2.2 (bm_ (list.length+([(TMut.mk m0 m1 (TRow.mk m2 m3))]:List TMut).length) 48 (kn i c0 c1 c2 xr3.1.schema.cols xr3.1.version xr3.1.tables (list++([(TMut.mk m0 m1 (TRow.mk m2 m3))]:List TMut)))) ((cn_ n (al_.mk c0 c1 c2) 9).bind fun xr4=>(cond xr4.1 (bm_ (list.length+([(TMut.mk m0 m1 (TRow.mk m2 m3))]:List TMut).length) 48 (kn i xr4.2.b xr4.2.i xr4.2.h xr3.1.schema.cols xr3.1.version xr3.1.tables (list++([(TMut.mk m0 m1 (TRow.mk m2 m3))]:List TMut)))) (kn i xr4.2.b xr4.2.i xr4.2.h xr3.1.schema.cols xr3.1.version xr3.1.tables list)))) (cond xr3.2.2 (bm_ (list.length+([(TMut.mk m0 m1 (TRow.mk m2 m3))]:List TMut).length) 48 (kn i c0 c1 c2 now0 now1 now2 (list++([(TMut.mk m0 m1 (TRow.mk m2 m3))]:List TMut)))) ((cn_ n (al_.mk c0 c1 c2) 9).bind fun xr5=>(cond xr5.1 (bm_ (list.length+([(TMut.mk m0 m1 (TRow.mk m2 m3))]:List TMut).length) 48 (kn i xr5.2.b xr5.2.i xr5.2.h now0 now1 now2 (list++([(TMut.mk m0 m1 (TRow.mk m2 m3))]:List TMut)))) (kn i xr5.2.b xr5.2.i xr5.2.h now0 now1 now2 list))))))
abbrev aB_.K5:Type:=(List Int)→Int→Int→(List TMut)→Option ((List TMut) × al_)
abbrev aB_.T5:Type:=Int→(List Int)→Int→Int→(List Int)→Int→(List (List TRow))→(List TMut)→Option ((List TMut) × al_)
def aB_.step5 (n:Nat) (k0:aB_.K5) (back:aB_.T5):aB_.T5:=fun i c0 c1 c2 now0 now1 now2 list=>
 ((am_ n (al_.mk c0 c1 c2) 3).bind fun xr1=>(cond (decide (i<(W (1+xr1.1)))) ((c2_ n xr1.2 (aw_.mk (aA_.mk now0) now1 now2)).bind fun xr2=>(aB_.tail9 n (fun xy6 xy7 xy8 xy9 xy10 xy11 xy12 xy13=>(back (W (xy6+1)) xy7 xy8 xy9 xy10 xy11 xy12 xy13)) i xr2.2.b xr2.2.i xr2.2.h now0 now1 now2 list xr2.1.kind xr2.1.table xr2.1.row.id_ xr2.1.row.cells)) (k0 xr1.2.b xr1.2.i xr1.2.h list)))
def aB_.loop5 (n:Nat) (k0:aB_.K5) (N:Nat):aB_.T5:=cc_ (fun _ _ _ _ _ _ _ _=>none) (aB_.step5 n k0) N
def aB_:Nat→al_→aw_→Option ((List TMut) × al_)
 |0,_,_=>none
 |n+1,c,s=>
  (aB_.loop5 n (fun xy14 xy15 xy16 xy17=>(some (xy17,(al_.mk xy14 xy15 xy16)))) n 0 c.b c.i c.h s.schema.cols s.version s.tables ([]:List TMut))
abbrev bs_.K12:Type:=(List Int)→Int→(List (List TRow))→Int→Int→(List aT_)→(List Int)→(List (List TRow))→Option (aw_ × (List aT_) × Bool)
abbrev bs_.T12:Type:=(List TMut)→Int→(List Int)→Int→(List (List TRow))→Int→(List aT_)→Int→(List aT_)→(List Int)→(List (List TRow))→Option (aw_ × (List aT_) × Bool)
def bs_.step12 (n:Nat) (k0:bs_.K12) (back:bs_.T12):bs_.T12:=fun append t10 t20 t21 t22 t41 t7 t81 t9 t80 t82=>
 (cond (decide (t10<(append.length:Int))) (inB t10 append.length ((dV_ n (aw_.mk (aA_.mk t80) t81 t82) { (append.getD t10.toNat TMut.dflt) with row:=((append.getD t10.toNat TMut.dflt).row) }).bind fun xr6=>(cond (!xr6.2.2) ((bh_ n (aw_.mk (aA_.mk t20) t21 t22)).bind fun xr7=>(some (xr7,t7,false))) (bm_ (t9.length+([xr6.2.1]:List aT_).length) 80 (back append (W (t10+1)) t20 t21 t22 t41 t7 xr6.1.version (t9++([xr6.2.1]:List aT_)) xr6.1.schema.cols xr6.1.tables))))) (k0 t20 t21 t22 t41 t81 t9 t80 t82))
def bs_.loop12 (n:Nat) (k0:bs_.K12) (N:Nat):bs_.T12:=cc_ (fun _ _ _ _ _ _ _ _ _ _ _=>none) (bs_.step12 n k0) N
def bs_:Nat→aw_→(List TMut)→Option (aw_ × (List aT_) × Bool)
 |0,_,_=>none
 |n+1,o,append=>
  ((bj_ n o).bind fun xr1=>(cond (!xr1) (some ((aw_.mk (aA_.mk ([]:List Int)) 0 ([]:List (List TRow))),([]:List aT_),false)) ((bX_ n (append.length:Int) 1 5).bind fun xr2=>(cond (!xr2) ((bh_ n o).bind fun xr3=>(some (xr3,([]:List aT_),false))) (cond (o.version == 100000) ((bh_ n o).bind fun xr4=>(some (xr4,([]:List aT_),false))) ((bh_ n o).bind fun xr5=>(bs_.loop12 n (fun xy8 xy9 xy10 xy11 xy12 xy13 xy14 xy15=>(some ((aw_.mk (aA_.mk xy14) (W (xy9+1)) xy15),xy13,true))) n append 0 o.schema.cols o.version o.tables 0 ([]:List aT_) xr5.version ([]:List aT_) xr5.schema.cols xr5.tables)))))))
def dk_:Nat→aD_→Option aD_
 |0,_=>none
 |n+1,v=>
  ((dA_ n v.q).bind fun xr1=>((bC_ n v.rows).bind fun xr2=>(bm_ (([]:List TKid).length+v.kids.length) 16 (some (aD_.mk xr1 xr2 (([]:List TKid)++v.kids))))))
def cR_:Nat→aD_→aT_→Option aD_
 |0,_,_=>none
 |n+1,o,append=>
  ((dk_ n o).bind fun xr1=>(cond (append.table == o.q.table) (cond append.had ((a9_ n xr1.rows append.old.id_).bind fun xr2=>(cond append.has ((bw_ n o.q append.new).bind fun xr3=>(cond xr3 ((bA_ n o.q xr2 append.new).bind fun xr4=>(cond o.q.kids (cond (append.table == o.q.kidTable) (cond append.had ((bz_ n append.old o.q.kidCol).bind fun xr5=>((aL_ n xr1.kids xr5 (-1)).bind fun xr6=>(cond append.has ((bz_ n append.new o.q.kidCol).bind fun xr7=>((aL_ n xr6 xr7 1).bind fun xr8=>(some (aD_.mk xr1.q xr4 xr8)))) (some (aD_.mk xr1.q xr4 xr6))))) (cond append.has ((bz_ n append.new o.q.kidCol).bind fun xr9=>((aL_ n xr1.kids xr9 1).bind fun xr10=>(some (aD_.mk xr1.q xr4 xr10)))) (some { xr1 with rows:=xr4 }))) (some { xr1 with rows:=xr4 })) (some { xr1 with rows:=xr4 }))) (cond o.q.kids (cond (append.table == o.q.kidTable) (cond append.had ((bz_ n append.old o.q.kidCol).bind fun xr11=>((aL_ n xr1.kids xr11 (-1)).bind fun xr12=>(cond append.has ((bz_ n append.new o.q.kidCol).bind fun xr13=>((aL_ n xr12 xr13 1).bind fun xr14=>(some (aD_.mk xr1.q xr2 xr14)))) (some (aD_.mk xr1.q xr2 xr12))))) (cond append.has ((bz_ n append.new o.q.kidCol).bind fun xr15=>((aL_ n xr1.kids xr15 1).bind fun xr16=>(some (aD_.mk xr1.q xr2 xr16)))) (some { xr1 with rows:=xr2 }))) (some { xr1 with rows:=xr2 })) (some { xr1 with rows:=xr2 })))) (cond o.q.kids (cond (append.table == o.q.kidTable) (cond append.had ((bz_ n append.old o.q.kidCol).bind fun xr17=>((aL_ n xr1.kids xr17 (-1)).bind fun xr18=>(cond append.has ((bz_ n append.new o.q.kidCol).bind fun xr19=>((aL_ n xr18 xr19 1).bind fun xr20=>(some (aD_.mk xr1.q xr2 xr20)))) (some (aD_.mk xr1.q xr2 xr18))))) (cond append.has ((bz_ n append.new o.q.kidCol).bind fun xr21=>((aL_ n xr1.kids xr21 1).bind fun xr22=>(some (aD_.mk xr1.q xr2 xr22)))) (some { xr1 with rows:=xr2 }))) (some { xr1 with rows:=xr2 })) (some { xr1 with rows:=xr2 })))) (cond append.has ((bw_ n o.q append.new).bind fun xr23=>(cond xr23 ((bA_ n o.q xr1.rows append.new).bind fun xr24=>(cond o.q.kids (cond (append.table == o.q.kidTable) (cond append.had ((bz_ n append.old o.q.kidCol).bind fun xr25=>((aL_ n xr1.kids xr25 (-1)).bind fun xr26=>(cond append.has ((bz_ n append.new o.q.kidCol).bind fun xr27=>((aL_ n xr26 xr27 1).bind fun xr28=>(some (aD_.mk xr1.q xr24 xr28)))) (some (aD_.mk xr1.q xr24 xr26))))) (cond append.has ((bz_ n append.new o.q.kidCol).bind fun xr29=>((aL_ n xr1.kids xr29 1).bind fun xr30=>(some (aD_.mk xr1.q xr24 xr30)))) (some { xr1 with rows:=xr24 }))) (some { xr1 with rows:=xr24 })) (some { xr1 with rows:=xr24 }))) (cond o.q.kids (cond (append.table == o.q.kidTable) (cond append.had ((bz_ n append.old o.q.kidCol).bind fun xr31=>((aL_ n xr1.kids xr31 (-1)).bind fun xr32=>(cond append.has ((bz_ n append.new o.q.kidCol).bind fun xr33=>((aL_ n xr32 xr33 1).bind fun xr34=>(some { xr1 with kids:=xr34 }))) (some { xr1 with kids:=xr32 })))) (cond append.has ((bz_ n append.new o.q.kidCol).bind fun xr35=>((aL_ n xr1.kids xr35 1).bind fun xr36=>(some { xr1 with kids:=xr36 }))) (some xr1))) (some xr1)) (some xr1)))) (cond o.q.kids (cond (append.table == o.q.kidTable) (cond append.had ((bz_ n append.old o.q.kidCol).bind fun xr37=>((aL_ n xr1.kids xr37 (-1)).bind fun xr38=>(cond append.has ((bz_ n append.new o.q.kidCol).bind fun xr39=>((aL_ n xr38 xr39 1).bind fun xr40=>(some { xr1 with kids:=xr40 }))) (some { xr1 with kids:=xr38 })))) (cond append.has ((bz_ n append.new o.q.kidCol).bind fun xr41=>((aL_ n xr1.kids xr41 1).bind fun xr42=>(some { xr1 with kids:=xr42 }))) (some xr1))) (some xr1)) (some xr1)))) (cond o.q.kids (cond (append.table == o.q.kidTable) (cond append.had ((bz_ n append.old o.q.kidCol).bind fun xr43=>((aL_ n xr1.kids xr43 (-1)).bind fun xr44=>(cond append.has ((bz_ n append.new o.q.kidCol).bind fun xr45=>((aL_ n xr44 xr45 1).bind fun xr46=>(some { xr1 with kids:=xr46 }))) (some { xr1 with kids:=xr44 })))) (cond append.has ((bz_ n append.new o.q.kidCol).bind fun xr47=>((aL_ n xr1.kids xr47 1).bind fun xr48=>(some { xr1 with kids:=xr48 }))) (some xr1))) (some xr1)) (some xr1))))
abbrev aN_.K4:Type:=Int→Int→Bool→Int→Bool→Int→Int→Int→Int→Bool→Int→Bool→Int→Int→(List a6_)→(List Int)→(List TRow)→(List TKid)→Option aD_
abbrev aN_.T4:Type:=(List aT_)→Int→Int→Int→Bool→Int→Bool→Int→Int→Int→Int→Bool→Int→Bool→Int→Int→(List a6_)→(List Int)→(List TRow)→(List TKid)→Option aD_
def aN_.step4 (n:Nat) (k0:aN_.K4) (back:aN_.T4):aN_.T4:=fun list i t40 t42 t43 t44 t46 t47 t48 out0 out2 out3 out4 out6 out7 out8 out1 out5 out9 out10=>
 (cond (decide (i<(list.length:Int))) (inB i list.length ((cR_ n (aD_.mk (an_.mk out0 out1 out2 out3 out4 out5 out6 out7 out8) out9 out10) { (list.getD i.toNat aT_.dflt) with old:=((list.getD i.toNat aT_.dflt).old),new:=((list.getD i.toNat aT_.dflt).new) }).bind fun xr2=>(back list (W (i+1)) t40 t42 t43 t44 t46 t47 t48 xr2.q.table xr2.q.order xr2.q.down xr2.q.first xr2.q.kids xr2.q.kidTable xr2.q.kidCol xr2.q.where_ xr2.q.show_ xr2.rows xr2.kids))) (k0 t40 t42 t43 t44 t46 t47 t48 out0 out2 out3 out4 out6 out7 out8 out1 out5 out9 out10))
def aN_.loop4 (n:Nat) (k0:aN_.K4) (N:Nat):aN_.T4:=cc_ (fun _ _ _ _ _ _ _ _ _ _ _ _ _ _ _ _ _ _ _ _=>none) (aN_.step4 n k0) N
def aN_:Nat→aD_→(List aT_)→Option aD_
 |0,_,_=>none
 |n+1,v,list=>
  ((dk_ n v).bind fun xr1=>(aN_.loop4 n (fun xy3 xy4 xy5 xy6 xy7 xy8 xy9 xy10 xy11 xy12 xy13 xy14 xy15 xy16 xy17 xy18 xy19 xy20=>(some (aD_.mk (an_.mk xy10 xy17 xy11 xy12 xy13 xy18 xy14 xy15 xy16) xy19 xy20))) n list 0 0 0 false 0 false 0 0 xr1.q.table xr1.q.order xr1.q.down xr1.q.first xr1.q.kids xr1.q.kidTable xr1.q.kidCol xr1.q.where_ xr1.q.show_ xr1.rows xr1.kids))
def dH_:Nat→al_→aA_→Option (an_ × al_)
 |0,_,_=>none
 |n+1,c,s=>
  ((ai_ n c s).bind fun xr1=>((am_ n xr1.2 25).bind fun xr2=>(cond (xr2.1 == 0) ((am_ n xr2.2 5).bind fun xr3=>(some ({ xr1.1 with table:=(W (xr3.1 - 1)) },xr3.2))) (cond (xr2.1 == 1) ((am_ n xr2.2 6).bind fun xr4=>((am_ n xr4.2 6).bind fun xr5=>((bE_ n xr5.2 ([0,1000000001]:List Int)).bind fun xr6=>(bm_ (xr1.1.where_.length+([(a6_.mk (W (xr4.1 - 1)) xr5.1 xr6.1)]:List a6_).length) 24 (some ({ xr1.1 with where_:=(xr1.1.where_++([(a6_.mk (W (xr4.1 - 1)) xr5.1 xr6.1)]:List a6_)) },xr6.2)))))) (cond (xr2.1 == 2) ((am_ n xr2.2 7).bind fun xr7=>(some ({ xr1.1 with order:=(W (xr7.1 - 1)) },xr7.2))) (cond (xr2.1 == 3) ((bE_ n xr2.2 ([(-1),24,25]:List Int)).bind fun xr8=>(some ({ xr1.1 with first:=xr8.1 },xr8.2))) (cond (xr2.1 == 4) ((am_ n xr2.2 5).bind fun xr9=>(bm_ (xr1.1.show_.length+([xr9.1]:List Int).length) 8 (some ({ xr1.1 with show_:=(xr1.1.show_++([xr9.1]:List Int)) },xr9.2)))) (cond (xr2.1 == 5) ((am_ n xr2.2 6).bind fun xr10=>(some ({ xr1.1 with kidCol:=(W (xr10.1 - 1)) },xr10.2))) (some (xr1.1,xr2.2))))))))))
def du_:Nat→al_→Option (aA_ × aD_ × al_)
 |0,_=>none
 |n+1,c=>
  ((b2_ n c).bind fun xr1=>((am_ n xr1.2.2 15).bind fun xr2=>(cond (xr2.1 == 0) (cond (decide ((xr1.2.1.rows.length:Int) > 0)) (inB 0 xr1.2.1.rows.length (bm_ (xr1.2.1.rows.length+([(xr1.2.1.rows.getD 0 TRow.dflt)]:List TRow).length) 32 (some (xr1.1.schema,{ xr1.2.1 with rows:=(xr1.2.1.rows++([(xr1.2.1.rows.getD 0 TRow.dflt)]:List TRow)) },xr2.2)))) (some (xr1.1.schema,xr1.2.1,xr2.2))) (cond (xr2.1 == 1) ((am_ n xr2.2 5).bind fun xr3=>((am_ n xr3.2 3).bind fun xr4=>(bm_ (xr1.2.1.kids.length+([(TKid.mk xr3.1 xr4.1)]:List TKid).length) 16 (some (xr1.1.schema,{ xr1.2.1 with kids:=(xr1.2.1.kids++([(TKid.mk xr3.1 xr4.1)]:List TKid)) },xr4.2))))) (cond (xr2.1 == 2) ((dH_ n xr2.2 xr1.1.schema).bind fun xr5=>(some (xr1.1.schema,{ xr1.2.1 with q:=xr5.1 },xr5.2))) (cond (xr2.1 == 3) (cond (decide ((xr1.2.1.rows.length:Int) > 0)) ((am_ n xr2.2 12).bind fun xr6=>(inB 0 xr1.2.1.rows.length (let xa7:List TRow:=xr1.2.1.rows.set 0 (TRow.mk xr6.1 ((xr1.2.1.rows.getD 0 TRow.dflt).cells));(some (xr1.1.schema,{ xr1.2.1 with rows:=xa7 },xr6.2))))) (some (xr1.1.schema,xr1.2.1,xr2.2))) (some (xr1.1.schema,xr1.2.1,xr2.2))))))))
def aG_.tail13 (n:Nat) (kn:Int→Int→Int→Bool→Int→Bool→Int→Int→Int→Int→Bool→Int→Bool→Int→Int→(List Int)→Int→Int→Int→(List a6_)→Int→Bool→Int→(List Int)→Bool→Int→Int→(List TRow)→(List TKid)→(List Int)→Int→(List (List TRow))→Int→Int→Bool→Int→Bool→Int→Int→(List a6_)→(List Int)→(List TRow)→(List TKid)→Option (aD_ × aD_)) (i:Int) (changes:List aT_) (t20:Int) (t22:Int) (t23:Bool) (t24:Int) (t26:Bool) (t27:Int) (t28:Int) (t30:Int) (t32:Int) (t33:Bool) (t34:Int) (t36:Bool) (t37:Int) (t38:Int) (c0:List Int) (c1:Int) (c2:Int) (v0:Int) (v1:List a6_) (v2:Int) (v3:Bool) (v4:Int) (v5:List Int) (v6:Bool) (v7:Int) (v8:Int) (v9:List TRow) (v10:List TKid) (now0:List Int) (now1:Int) (now2:List (List TRow)) (w0:Int) (w1:List a6_) (w2:Int) (w3:Bool) (w4:Int) (w5:List Int) (w6:Bool) (w7:Int) (w8:Int) (w9:List TRow) (w10:List TKid):Option (aD_ × aD_) :=
 ((aN_ n (aD_.mk (an_.mk w0 w1 w2 w3 w4 w5 w6 w7 w8) w9 w10) changes).bind fun xr6=>(kn i t20 t22 t23 t24 t26 t27 t28 t30 t32 t33 t34 t36 t37 t38 c0 c1 c2 v0 v1 v2 v3 v4 v5 v6 v7 v8 v9 v10 now0 now1 now2 xr6.q.table xr6.q.order xr6.q.down xr6.q.first xr6.q.kids xr6.q.kidTable xr6.q.kidCol xr6.q.where_ xr6.q.show_ xr6.rows xr6.kids))
def aG_.tail12 (n:Nat) (kn:Int→Int→Int→Bool→Int→Bool→Int→Int→Int→Int→Bool→Int→Bool→Int→Int→(List Int)→Int→Int→Int→(List a6_)→Int→Bool→Int→(List Int)→Bool→Int→Int→(List TRow)→(List TKid)→(List Int)→Int→(List (List TRow))→Int→(List a6_)→Int→Bool→Int→(List Int)→Bool→Int→Int→(List TRow)→(List TKid)→Option (aD_ × aD_)) (i:Int) (t38:Bool) (t20:Int) (t22:Int) (t23:Bool) (t24:Int) (t26:Bool) (t27:Int) (t28:Int) (t30:Int) (t32:Int) (t33:Bool) (t34:Int) (t36:Bool) (t37:Int) (t38_1:Int) (c0:List Int) (c1:Int) (c2:Int) (v0:Int) (v1:List a6_) (v2:Int) (v3:Bool) (v4:Int) (v5:List Int) (v6:Bool) (v7:Int) (v8:Int) (v9:List TRow) (v10:List TKid) (now0:List Int) (now1:Int) (now2:List (List TRow)) (w0:Int) (w1:List a6_) (w2:Int) (w3:Bool) (w4:Int) (w5:List Int) (w6:Bool) (w7:Int) (w8:Int) (w9:List TRow) (w10:List TKid) (next0:List Int) (next1:Int) (next2:List (List TRow)) (changes:List aT_):Option (aD_ × aD_) :=
 (cond t38 (aG_.tail13 n (fun xy7 xy8 xy9 xy10 xy11 xy12 xy13 xy14 xy15 xy16 xy17 xy18 xy19 xy20 xy21 xy22 xy23 xy24 xy25 xy26 xy27 xy28 xy29 xy30 xy31 xy32 xy33 xy34 xy35 xy36 xy37 xy38 xy39 xy40 xy41 xy42 xy43 xy44 xy45 xy46 xy47 xy48 xy49=>(kn xy7 xy8 xy9 xy10 xy11 xy12 xy13 xy14 xy15 xy16 xy17 xy18 xy19 xy20 xy21 xy22 xy23 xy24 xy25 xy26 xy27 xy28 xy29 xy30 xy31 xy32 xy33 xy34 xy35 xy36 xy37 xy38 xy39 xy46 xy40 xy41 xy42 xy47 xy43 xy44 xy45 xy48 xy49)) i changes t20 t22 t23 t24 t26 t27 t28 t30 t32 t33 t34 t36 t37 t38_1 c0 c1 c2 v0 v1 v2 v3 v4 v5 v6 v7 v8 v9 v10 next0 next1 next2 w0 w1 w2 w3 w4 w5 w6 w7 w8 w9 w10) (kn i t20 t22 t23 t24 t26 t27 t28 t30 t32 t33 t34 t36 t37 t38_1 c0 c1 c2 v0 v1 v2 v3 v4 v5 v6 v7 v8 v9 v10 now0 now1 now2 w0 w1 w2 w3 w4 w5 w6 w7 w8 w9 w10))
def aG_.tail8 (n:Nat) (kn:Int→Int→Int→Bool→Int→Bool→Int→Int→Int→Int→Bool→Int→Bool→Int→Int→(List Int)→Int→Int→Int→(List a6_)→Int→Bool→Int→(List Int)→Bool→Int→Int→(List TRow)→(List TKid)→(List Int)→Int→(List (List TRow))→Int→(List a6_)→Int→Bool→Int→(List Int)→Bool→Int→Int→(List TRow)→(List TKid)→Option (aD_ × aD_)) (i:Int) (t20:Int) (t22:Int) (t23:Bool) (t24:Int) (t26:Bool) (t27:Int) (t28:Int) (t30:Int) (t32:Int) (t33:Bool) (t34:Int) (t36:Bool) (t37:Int) (t38:Int) (c0:List Int) (c1:Int) (c2:Int) (v0:Int) (v1:List a6_) (v2:Int) (v3:Bool) (v4:Int) (v5:List Int) (v6:Bool) (v7:Int) (v8:Int) (v9:List TRow) (v10:List TKid) (now0:List Int) (now1:Int) (now2:List (List TRow)) (w0:Int) (w1:List a6_) (w2:Int) (w3:Bool) (w4:Int) (w5:List Int) (w6:Bool) (w7:Int) (w8:Int) (w9:List TRow) (w10:List TKid):Option (aD_ × aD_) :=
 ((aB_ n (al_.mk c0 c1 c2) (aw_.mk (aA_.mk now0) now1 now2)).bind fun xr4=>((bs_ n (aw_.mk (aA_.mk now0) now1 now2) xr4.1).bind fun xr5=>(aG_.tail12 n (fun xy50 xy51 xy52 xy53 xy54 xy55 xy56 xy57 xy58 xy59 xy60 xy61 xy62 xy63 xy64 xy65 xy66 xy67 xy68 xy69 xy70 xy71 xy72 xy73 xy74 xy75 xy76 xy77 xy78 xy79 xy80 xy81 xy82 xy83 xy84 xy85 xy86 xy87 xy88 xy89 xy90 xy91 xy92=>(kn (W (xy50+1)) xy51 xy52 xy53 xy54 xy55 xy56 xy57 xy58 xy59 xy60 xy61 xy62 xy63 xy64 xy65 xy66 xy67 xy68 xy69 xy70 xy71 xy72 xy73 xy74 xy75 xy76 xy77 xy78 xy79 xy80 xy81 xy82 xy83 xy84 xy85 xy86 xy87 xy88 xy89 xy90 xy91 xy92)) i xr5.2.2 t20 t22 t23 t24 t26 t27 t28 t30 t32 t33 t34 t36 t37 t38 xr4.2.b xr4.2.i xr4.2.h v0 v1 v2 v3 v4 v5 v6 v7 v8 v9 v10 now0 now1 now2 w0 w1 w2 w3 w4 w5 w6 w7 w8 w9 w10 xr5.1.schema.cols xr5.1.version xr5.1.tables xr5.2.1)))
abbrev aG_.K7:Type:=Int→Int→Bool→Int→Bool→Int→Int→Int→Int→Bool→Int→Bool→Int→Int→(List Int)→Int→Int→Int→(List a6_)→Int→Bool→Int→(List Int)→Bool→Int→Int→(List TRow)→(List TKid)→Int→(List a6_)→Int→Bool→Int→(List Int)→Bool→Int→Int→(List TRow)→(List TKid)→Option (aD_ × aD_)
abbrev aG_.T7:Type:=Int→Int→Int→Bool→Int→Bool→Int→Int→Int→Int→Bool→Int→Bool→Int→Int→(List Int)→Int→Int→Int→(List a6_)→Int→Bool→Int→(List Int)→Bool→Int→Int→(List TRow)→(List TKid)→(List Int)→Int→(List (List TRow))→Int→(List a6_)→Int→Bool→Int→(List Int)→Bool→Int→Int→(List TRow)→(List TKid)→Option (aD_ × aD_)
def aG_.step7 (n:Nat) (k0:aG_.K7) (back:aG_.T7):aG_.T7:=fun i t20 t22 t23 t24 t26 t27 t28 t30 t32 t33 t34 t36 t37 t38 c0 c1 c2 v0 v1 v2 v3 v4 v5 v6 v7 v8 v9 v10 now0 now1 now2 w0 w1 w2 w3 w4 w5 w6 w7 w8 w9 w10=>
 ((am_ n (al_.mk c0 c1 c2) 3).bind fun xr3=>(cond (decide (i<(W (1+xr3.1)))) (aG_.tail8 n (fun xy93 xy94 xy95 xy96 xy97 xy98 xy99 xy100 xy101 xy102 xy103 xy104 xy105 xy106 xy107 xy108 xy109 xy110 xy111 xy112 xy113 xy114 xy115 xy116 xy117 xy118 xy119 xy120 xy121 xy122 xy123 xy124 xy125 xy126 xy127 xy128 xy129 xy130 xy131 xy132 xy133 xy134 xy135=>(back xy93 xy94 xy95 xy96 xy97 xy98 xy99 xy100 xy101 xy102 xy103 xy104 xy105 xy106 xy107 xy108 xy109 xy110 xy111 xy112 xy113 xy114 xy115 xy116 xy117 xy118 xy119 xy120 xy121 xy122 xy123 xy124 xy125 xy126 xy127 xy128 xy129 xy130 xy131 xy132 xy133 xy134 xy135)) i t20 t22 t23 t24 t26 t27 t28 t30 t32 t33 t34 t36 t37 t38 xr3.2.b xr3.2.i xr3.2.h v0 v1 v2 v3 v4 v5 v6 v7 v8 v9 v10 now0 now1 now2 w0 w1 w2 w3 w4 w5 w6 w7 w8 w9 w10) (k0 t20 t22 t23 t24 t26 t27 t28 t30 t32 t33 t34 t36 t37 t38 xr3.2.b xr3.2.i xr3.2.h v0 v1 v2 v3 v4 v5 v6 v7 v8 v9 v10 w0 w1 w2 w3 w4 w5 w6 w7 w8 w9 w10)))
def aG_.loop7 (n:Nat) (k0:aG_.K7) (N:Nat):aG_.T7:=cc_ (fun _ _ _ _ _ _ _ _ _ _ _ _ _ _ _ _ _ _ _ _ _ _ _ _ _ _ _ _ _ _ _ _ _ _ _ _ _ _ _ _ _ _ _=>none) (aG_.step7 n k0) N
def aG_.tail3 (n:Nat) (t20:Int) (t22:Int) (t23:Bool) (t24:Int) (t26:Bool) (t27:Int) (t28:Int) (t30:Int) (t32:Int) (t33:Bool) (t34:Int) (t36:Bool) (t37:Int) (t38:Int) (c0:List Int) (c1:Int) (c2:Int) (v0:Int) (v1:List a6_) (v2:Int) (v3:Bool) (v4:Int) (v5:List Int) (v6:Bool) (v7:Int) (v8:Int) (v9:List TRow) (v10:List TKid) (now0:List Int) (now1:Int) (now2:List (List TRow)):Option (aD_ × aD_) :=
 (aG_.loop7 n (fun xy136 xy137 xy138 xy139 xy140 xy141 xy142 xy143 xy144 xy145 xy146 xy147 xy148 xy149 xy150 xy151 xy152 xy153 xy154 xy155 xy156 xy157 xy158 xy159 xy160 xy161 xy162 xy163 xy164 xy165 xy166 xy167 xy168 xy169 xy170 xy171 xy172 xy173 xy174=>((cn_ n (al_.mk xy150 xy151 xy152) 15).bind fun xr175=>(cond xr175.1 ((du_ n xr175.2).bind fun xr176=>(some ((aD_.mk (an_.mk xy153 xy154 xy155 xy156 xy157 xy158 xy159 xy160 xy161) xy162 xy163),xr176.2.1))) (some ((aD_.mk (an_.mk xy153 xy154 xy155 xy156 xy157 xy158 xy159 xy160 xy161) xy162 xy163),(aD_.mk (an_.mk xy164 xy165 xy166 xy167 xy168 xy169 xy170 xy171 xy172) xy173 xy174)))))) n 0 t20 t22 t23 t24 t26 t27 t28 t30 t32 t33 t34 t36 t37 t38 c0 c1 c2 v0 v1 v2 v3 v4 v5 v6 v7 v8 v9 v10 now0 now1 now2 v0 v1 v2 v3 v4 v5 v6 v7 v8 v9 v10)
def aG_:Nat→(List Int)→Option (aD_ × aD_)
 |0,_=>none
 |n+1,ed_=>
  ((bS_ n ed_).bind fun xr1=>((b2_ n xr1).bind fun xr2=>(aG_.tail3 n 0 0 false 0 false 0 0 0 0 false 0 false 0 0 xr2.2.2.b xr2.2.2.i xr2.2.2.h xr2.2.1.q.table xr2.2.1.q.where_ xr2.2.1.q.order xr2.2.1.q.down xr2.2.1.q.first xr2.2.1.q.show_ xr2.2.1.q.kids xr2.2.1.q.kidTable xr2.2.1.q.kidCol xr2.2.1.rows xr2.2.1.kids xr2.1.schema.cols xr2.1.version xr2.1.tables)))
def cI_:Nat→(List Int)→Option (aD_ × aD_)
 |0,_=>none
 |n+1,ed_=>
  ((aG_ n ed_).bind fun xr1=>(some (xr1.1,xr1.2)))
abbrev aO_.T6:Type:=(List a6_)→(List a6_)→Int→Int→Option Bool
def aO_.step6 (n:Nat) (k0:Option Bool) (back:aO_.T6):aO_.T6:=fun s1 s2 t12 t13=>
 (cond (decide (t13<t12)) (inB t13 s1.length (inB t13 s2.length (let xv1:Bool:=(!(cond (((s1.getD t13.toNat a6_.dflt).col) == ((s2.getD t13.toNat a6_.dflt).col)) (cond (((s1.getD t13.toNat a6_.dflt).op) == ((s2.getD t13.toNat a6_.dflt).op)) (cond (((s1.getD t13.toNat a6_.dflt).v) == ((s2.getD t13.toNat a6_.dflt).v)) true false) false) false));(cond xv1 (some false) (back s1 s2 t12 (W (t13+1))))))) k0)
def aO_.loop6 (n:Nat) (k0:Option Bool) (N:Nat):aO_.T6:=cc_ (fun _ _ _ _=>none) (aO_.step6 n k0) N
def aO_:Nat→(List a6_)→(List a6_)→Option Bool
 |0,_,_=>none
 |n+1,s1,s2=>
  (cond ((s1.length:Int) != (s2.length:Int)) (some false) (aO_.loop6 n (some true) n s1 s2 (s1.length:Int) 0))
abbrev aY_.T6:Type:=(List Int)→(List Int)→Int→Int→Option Bool
def aY_.step6 (n:Nat) (k0:Option Bool) (back:aY_.T6):aY_.T6:=fun s1 s2 t12 t13=>
 (cond (decide (t13<t12)) (inB t13 s1.length (inB t13 s2.length (cond ((s1.getD t13.toNat 0) != (s2.getD t13.toNat 0)) (some false) (back s1 s2 t12 (W (t13+1)))))) k0)
def aY_.loop6 (n:Nat) (k0:Option Bool) (N:Nat):aY_.T6:=cc_ (fun _ _ _ _=>none) (aY_.step6 n k0) N
def aY_:Nat→(List Int)→(List Int)→Option Bool
 |0,_,_=>none
 |n+1,s1,s2=>
  (cond ((s1.length:Int) != (s2.length:Int)) (some false) (aY_.loop6 n (some true) n s1 s2 (s1.length:Int) 0))
def c6_:Nat→an_→an_→Option Bool
 |0,_,_=>none
 |n+1,o,append=>
  (cond (o.table == append.table) (cond (o.order == append.order) (cond (o.down == append.down) (cond (o.kids == append.kids) (cond (o.kidTable == append.kidTable) (cond (o.first == append.first) (cond (o.kidCol == append.kidCol) ((aO_ n o.where_ append.where_).bind fun xr1=>(cond xr1 ((aY_ n o.show_ append.show_).bind fun xr2=>(some xr2)) (some false))) (some false)) (some false)) (cond (o.first == append.first) (some false) (some false))) (cond (o.first == append.first) (some false) (some false))) (cond (o.kids == append.kids) (cond (o.kidTable == append.kidTable) (some false) (some false)) (some false))) (cond (o.kids == append.kids) (cond (o.kidTable == append.kidTable) (some false) (some false)) (some false))) (cond (o.kids == append.kids) (cond (o.kidTable == append.kidTable) (some false) (some false)) (some false)))
def az_:Nat→Int→Int→Int→Option Bool
 |0,_,_,_=>none
 |n+1,n1,low,high=>
  (cond (decide (n1≥low)) (some (decide (n1≤high))) (some false))
def a7_:Nat→Int→Option Bool
 |0,_=>none
 |n+1,n1=>
  ((az_ n n1 (-1000000000) 1000000000).bind fun xr1=>(some xr1))
abbrev ax_.T3:Type:=Bs→Int→Int→Option Bool
def ax_.step3 (n:Nat) (k0:Bs→Option Bool) (back:ax_.T3):ax_.T3:=fun s t5 t6=>
 (cond (decide (t6<t5)) (inB t6 s.length ((az_ n (W (((s.getD t6.toNat 0).toNat:Int))) 32 126).bind fun xr1=>(cond (!xr1) (some false) (back s t5 (W (t6+1)))))) (k0 s))
def ax_.loop3 (n:Nat) (k0:Bs→Option Bool) (N:Nat):ax_.T3:=cc_ (fun _ _ _=>none) (ax_.step3 n k0) N
def ax_:Nat→Bs→Option Bool
 |0,_=>none
 |n+1,s=>
  (ax_.loop3 n (fun xy2=>(some (decide ((xy2.length:Int)≤60)))) n s (s.length:Int) 0)
abbrev au_.T3:Type:=(List Bs)→(List Bs)→Int→Int→Option Bool
def au_.step3 (n:Nat) (k0:Option Bool) (back:au_.T3):au_.T3:=fun names t5 t6 t7=>
 (cond (decide (t7<t6)) (inB t7 t5.length ((ax_ n (t5.getD t7.toNat [])).bind fun xr1=>(cond (!xr1) (some false) (cond (decide (t7 > 0)) (inB (W (t7 - 1)) names.length (let xv2:Bool:=(!Op.bytesLess (names.getD (W (t7 - 1)).toNat []) (t5.getD t7.toNat []));(cond xv2 (some false) (back names t5 t6 (W (t7+1)))))) (back names t5 t6 (W (t7+1))))))) k0)
def au_.loop3 (n:Nat) (k0:Option Bool) (N:Nat):au_.T3:=cc_ (fun _ _ _ _=>none) (au_.step3 n k0) N
def au_:Nat→(List Bs)→Option Bool
 |0,_=>none
 |n+1,names=>
  (au_.loop3 n (some true) n names names (names.length:Int) 0)
def ea_:Nat→aa_→Option Bool
 |0,_=>none
 |n+1,o=>
  (cond (decide ((o.list.length:Int) > 0)) (cond (o.kind != 4) (cond (o.kind != 5) (some false) (cond (decide ((o.names.length:Int) > 0)) (cond (o.kind != 5) (some false) (cond (o.n_ != 0) (cond (o.kind != 1) (cond (o.kind != 2) (some false) (cond (!(o.s == [])) (cond (o.kind != 3) (some false) (cond (o.kind == 1) ((az_ n o.n_ 0 1).bind fun xr1=>(some xr1)) (cond (o.kind == 2) ((a7_ n o.n_).bind fun xr2=>(some xr2)) (cond (o.kind == 3) ((ax_ n o.s).bind fun xr3=>(some xr3)) (cond (o.kind == 5) (cond ((o.names.length:Int) == (o.list.length:Int)) ((au_ n o.names).bind fun xr4=>(some xr4)) (some false)) (cond (o.kind == 0) (some true) (some (o.kind == 4)))))))) (cond (o.kind == 1) ((az_ n o.n_ 0 1).bind fun xr5=>(some xr5)) (cond (o.kind == 2) ((a7_ n o.n_).bind fun xr6=>(some xr6)) (cond (o.kind == 3) ((ax_ n o.s).bind fun xr7=>(some xr7)) (cond (o.kind == 5) (cond ((o.names.length:Int) == (o.list.length:Int)) ((au_ n o.names).bind fun xr8=>(some xr8)) (some false)) (cond (o.kind == 0) (some true) (some (o.kind == 4))))))))) (cond (!(o.s == [])) (cond (o.kind != 3) (some false) (cond (o.kind == 1) ((az_ n o.n_ 0 1).bind fun xr9=>(some xr9)) (cond (o.kind == 2) ((a7_ n o.n_).bind fun xr10=>(some xr10)) (cond (o.kind == 3) ((ax_ n o.s).bind fun xr11=>(some xr11)) (cond (o.kind == 5) (cond ((o.names.length:Int) == (o.list.length:Int)) ((au_ n o.names).bind fun xr12=>(some xr12)) (some false)) (cond (o.kind == 0) (some true) (some (o.kind == 4)))))))) (cond (o.kind == 1) ((az_ n o.n_ 0 1).bind fun xr13=>(some xr13)) (cond (o.kind == 2) ((a7_ n o.n_).bind fun xr14=>(some xr14)) (cond (o.kind == 3) ((ax_ n o.s).bind fun xr15=>(some xr15)) (cond (o.kind == 5) (cond ((o.names.length:Int) == (o.list.length:Int)) ((au_ n o.names).bind fun xr16=>(some xr16)) (some false)) (cond (o.kind == 0) (some true) (some (o.kind == 4))))))))) (cond (!(o.s == [])) (cond (o.kind != 3) (some false) (cond (o.kind == 1) ((az_ n o.n_ 0 1).bind fun xr17=>(some xr17)) (cond (o.kind == 2) ((a7_ n o.n_).bind fun xr18=>(some xr18)) (cond (o.kind == 3) ((ax_ n o.s).bind fun xr19=>(some xr19)) (cond (o.kind == 5) (cond ((o.names.length:Int) == (o.list.length:Int)) ((au_ n o.names).bind fun xr20=>(some xr20)) (some false)) (cond (o.kind == 0) (some true) (some (o.kind == 4)))))))) (cond (o.kind == 1) ((az_ n o.n_ 0 1).bind fun xr21=>(some xr21)) (cond (o.kind == 2) ((a7_ n o.n_).bind fun xr22=>(some xr22)) (cond (o.kind == 3) ((ax_ n o.s).bind fun xr23=>(some xr23)) (cond (o.kind == 5) (cond ((o.names.length:Int) == (o.list.length:Int)) ((au_ n o.names).bind fun xr24=>(some xr24)) (some false)) (cond (o.kind == 0) (some true) (some (o.kind == 4)))))))))) (cond (o.n_ != 0) (cond (o.kind != 1) (cond (o.kind != 2) (some false) (cond (!(o.s == [])) (cond (o.kind != 3) (some false) (cond (o.kind == 1) ((az_ n o.n_ 0 1).bind fun xr25=>(some xr25)) (cond (o.kind == 2) ((a7_ n o.n_).bind fun xr26=>(some xr26)) (cond (o.kind == 3) ((ax_ n o.s).bind fun xr27=>(some xr27)) (cond (o.kind == 5) (cond ((o.names.length:Int) == (o.list.length:Int)) ((au_ n o.names).bind fun xr28=>(some xr28)) (some false)) (cond (o.kind == 0) (some true) (some (o.kind == 4)))))))) (cond (o.kind == 1) ((az_ n o.n_ 0 1).bind fun xr29=>(some xr29)) (cond (o.kind == 2) ((a7_ n o.n_).bind fun xr30=>(some xr30)) (cond (o.kind == 3) ((ax_ n o.s).bind fun xr31=>(some xr31)) (cond (o.kind == 5) (cond ((o.names.length:Int) == (o.list.length:Int)) ((au_ n o.names).bind fun xr32=>(some xr32)) (some false)) (cond (o.kind == 0) (some true) (some (o.kind == 4))))))))) (cond (!(o.s == [])) (cond (o.kind != 3) (some false) (cond (o.kind == 1) ((az_ n o.n_ 0 1).bind fun xr33=>(some xr33)) (cond (o.kind == 2) ((a7_ n o.n_).bind fun xr34=>(some xr34)) (cond (o.kind == 3) ((ax_ n o.s).bind fun xr35=>(some xr35)) (cond (o.kind == 5) (cond ((o.names.length:Int) == (o.list.length:Int)) ((au_ n o.names).bind fun xr36=>(some xr36)) (some false)) (cond (o.kind == 0) (some true) (some (o.kind == 4)))))))) (cond (o.kind == 1) ((az_ n o.n_ 0 1).bind fun xr37=>(some xr37)) (cond (o.kind == 2) ((a7_ n o.n_).bind fun xr38=>(some xr38)) (cond (o.kind == 3) ((ax_ n o.s).bind fun xr39=>(some xr39)) (cond (o.kind == 5) (cond ((o.names.length:Int) == (o.list.length:Int)) ((au_ n o.names).bind fun xr40=>(some xr40)) (some false)) (cond (o.kind == 0) (some true) (some (o.kind == 4))))))))) (cond (!(o.s == [])) (cond (o.kind != 3) (some false) (cond (o.kind == 1) ((az_ n o.n_ 0 1).bind fun xr41=>(some xr41)) (cond (o.kind == 2) ((a7_ n o.n_).bind fun xr42=>(some xr42)) (cond (o.kind == 3) ((ax_ n o.s).bind fun xr43=>(some xr43)) (cond (o.kind == 5) (cond ((o.names.length:Int) == (o.list.length:Int)) ((au_ n o.names).bind fun xr44=>(some xr44)) (some false)) (cond (o.kind == 0) (some true) (some (o.kind == 4)))))))) (cond (o.kind == 1) ((az_ n o.n_ 0 1).bind fun xr45=>(some xr45)) (cond (o.kind == 2) ((a7_ n o.n_).bind fun xr46=>(some xr46)) (cond (o.kind == 3) ((ax_ n o.s).bind fun xr47=>(some xr47)) (cond (o.kind == 5) (cond ((o.names.length:Int) == (o.list.length:Int)) ((au_ n o.names).bind fun xr48=>(some xr48)) (some false)) (cond (o.kind == 0) (some true) (some (o.kind == 4))))))))))) (cond (decide ((o.names.length:Int) > 0)) (cond (o.kind != 5) (some false) (cond (o.n_ != 0) (cond (o.kind != 1) (cond (o.kind != 2) (some false) (cond (!(o.s == [])) (cond (o.kind != 3) (some false) (cond (o.kind == 1) ((az_ n o.n_ 0 1).bind fun xr49=>(some xr49)) (cond (o.kind == 2) ((a7_ n o.n_).bind fun xr50=>(some xr50)) (cond (o.kind == 3) ((ax_ n o.s).bind fun xr51=>(some xr51)) (cond (o.kind == 5) (cond ((o.names.length:Int) == (o.list.length:Int)) ((au_ n o.names).bind fun xr52=>(some xr52)) (some false)) (cond (o.kind == 0) (some true) (some (o.kind == 4)))))))) (cond (o.kind == 1) ((az_ n o.n_ 0 1).bind fun xr53=>(some xr53)) (cond (o.kind == 2) ((a7_ n o.n_).bind fun xr54=>(some xr54)) (cond (o.kind == 3) ((ax_ n o.s).bind fun xr55=>(some xr55)) (cond (o.kind == 5) (cond ((o.names.length:Int) == (o.list.length:Int)) ((au_ n o.names).bind fun xr56=>(some xr56)) (some false)) (cond (o.kind == 0) (some true) (some (o.kind == 4))))))))) (cond (!(o.s == [])) (cond (o.kind != 3) (some false) (cond (o.kind == 1) ((az_ n o.n_ 0 1).bind fun xr57=>(some xr57)) (cond (o.kind == 2) ((a7_ n o.n_).bind fun xr58=>(some xr58)) (cond (o.kind == 3) ((ax_ n o.s).bind fun xr59=>(some xr59)) (cond (o.kind == 5) (cond ((o.names.length:Int) == (o.list.length:Int)) ((au_ n o.names).bind fun xr60=>(some xr60)) (some false)) (cond (o.kind == 0) (some true) (some (o.kind == 4)))))))) (cond (o.kind == 1) ((az_ n o.n_ 0 1).bind fun xr61=>(some xr61)) (cond (o.kind == 2) ((a7_ n o.n_).bind fun xr62=>(some xr62)) (cond (o.kind == 3) ((ax_ n o.s).bind fun xr63=>(some xr63)) (cond (o.kind == 5) (cond ((o.names.length:Int) == (o.list.length:Int)) ((au_ n o.names).bind fun xr64=>(some xr64)) (some false)) (cond (o.kind == 0) (some true) (some (o.kind == 4))))))))) (cond (!(o.s == [])) (cond (o.kind != 3) (some false) (cond (o.kind == 1) ((az_ n o.n_ 0 1).bind fun xr65=>(some xr65)) (cond (o.kind == 2) ((a7_ n o.n_).bind fun xr66=>(some xr66)) (cond (o.kind == 3) ((ax_ n o.s).bind fun xr67=>(some xr67)) (cond (o.kind == 5) (cond ((o.names.length:Int) == (o.list.length:Int)) ((au_ n o.names).bind fun xr68=>(some xr68)) (some false)) (cond (o.kind == 0) (some true) (some (o.kind == 4)))))))) (cond (o.kind == 1) ((az_ n o.n_ 0 1).bind fun xr69=>(some xr69)) (cond (o.kind == 2) ((a7_ n o.n_).bind fun xr70=>(some xr70)) (cond (o.kind == 3) ((ax_ n o.s).bind fun xr71=>(some xr71)) (cond (o.kind == 5) (cond ((o.names.length:Int) == (o.list.length:Int)) ((au_ n o.names).bind fun xr72=>(some xr72)) (some false)) (cond (o.kind == 0) (some true) (some (o.kind == 4)))))))))) (cond (o.n_ != 0) (cond (o.kind != 1) (cond (o.kind != 2) (some false) (cond (!(o.s == [])) (cond (o.kind != 3) (some false) (cond (o.kind == 1) ((az_ n o.n_ 0 1).bind fun xr73=>(some xr73)) (cond (o.kind == 2) ((a7_ n o.n_).bind fun xr74=>(some xr74)) (cond (o.kind == 3) ((ax_ n o.s).bind fun xr75=>(some xr75)) (cond (o.kind == 5) (cond ((o.names.length:Int) == (o.list.length:Int)) ((au_ n o.names).bind fun xr76=>(some xr76)) (some false)) (cond (o.kind == 0) (some true) (some (o.kind == 4)))))))) (cond (o.kind == 1) ((az_ n o.n_ 0 1).bind fun xr77=>(some xr77)) (cond (o.kind == 2) ((a7_ n o.n_).bind fun xr78=>(some xr78)) (cond (o.kind == 3) ((ax_ n o.s).bind fun xr79=>(some xr79)) (cond (o.kind == 5) (cond ((o.names.length:Int) == (o.list.length:Int)) ((au_ n o.names).bind fun xr80=>(some xr80)) (some false)) (cond (o.kind == 0) (some true) (some (o.kind == 4))))))))) (cond (!(o.s == [])) (cond (o.kind != 3) (some false) (cond (o.kind == 1) ((az_ n o.n_ 0 1).bind fun xr81=>(some xr81)) (cond (o.kind == 2) ((a7_ n o.n_).bind fun xr82=>(some xr82)) (cond (o.kind == 3) ((ax_ n o.s).bind fun xr83=>(some xr83)) (cond (o.kind == 5) (cond ((o.names.length:Int) == (o.list.length:Int)) ((au_ n o.names).bind fun xr84=>(some xr84)) (some false)) (cond (o.kind == 0) (some true) (some (o.kind == 4)))))))) (cond (o.kind == 1) ((az_ n o.n_ 0 1).bind fun xr85=>(some xr85)) (cond (o.kind == 2) ((a7_ n o.n_).bind fun xr86=>(some xr86)) (cond (o.kind == 3) ((ax_ n o.s).bind fun xr87=>(some xr87)) (cond (o.kind == 5) (cond ((o.names.length:Int) == (o.list.length:Int)) ((au_ n o.names).bind fun xr88=>(some xr88)) (some false)) (cond (o.kind == 0) (some true) (some (o.kind == 4))))))))) (cond (!(o.s == [])) (cond (o.kind != 3) (some false) (cond (o.kind == 1) ((az_ n o.n_ 0 1).bind fun xr89=>(some xr89)) (cond (o.kind == 2) ((a7_ n o.n_).bind fun xr90=>(some xr90)) (cond (o.kind == 3) ((ax_ n o.s).bind fun xr91=>(some xr91)) (cond (o.kind == 5) (cond ((o.names.length:Int) == (o.list.length:Int)) ((au_ n o.names).bind fun xr92=>(some xr92)) (some false)) (cond (o.kind == 0) (some true) (some (o.kind == 4)))))))) (cond (o.kind == 1) ((az_ n o.n_ 0 1).bind fun xr93=>(some xr93)) (cond (o.kind == 2) ((a7_ n o.n_).bind fun xr94=>(some xr94)) (cond (o.kind == 3) ((ax_ n o.s).bind fun xr95=>(some xr95)) (cond (o.kind == 5) (cond ((o.names.length:Int) == (o.list.length:Int)) ((au_ n o.names).bind fun xr96=>(some xr96)) (some false)) (cond (o.kind == 0) (some true) (some (o.kind == 4))))))))))) (cond (decide ((o.names.length:Int) > 0)) (cond (o.kind != 5) (some false) (cond (o.n_ != 0) (cond (o.kind != 1) (cond (o.kind != 2) (some false) (cond (!(o.s == [])) (cond (o.kind != 3) (some false) (cond (o.kind == 1) ((az_ n o.n_ 0 1).bind fun xr97=>(some xr97)) (cond (o.kind == 2) ((a7_ n o.n_).bind fun xr98=>(some xr98)) (cond (o.kind == 3) ((ax_ n o.s).bind fun xr99=>(some xr99)) (cond (o.kind == 5) (cond ((o.names.length:Int) == (o.list.length:Int)) ((au_ n o.names).bind fun xr100=>(some xr100)) (some false)) (cond (o.kind == 0) (some true) (some (o.kind == 4)))))))) (cond (o.kind == 1) ((az_ n o.n_ 0 1).bind fun xr101=>(some xr101)) (cond (o.kind == 2) ((a7_ n o.n_).bind fun xr102=>(some xr102)) (cond (o.kind == 3) ((ax_ n o.s).bind fun xr103=>(some xr103)) (cond (o.kind == 5) (cond ((o.names.length:Int) == (o.list.length:Int)) ((au_ n o.names).bind fun xr104=>(some xr104)) (some false)) (cond (o.kind == 0) (some true) (some (o.kind == 4))))))))) (cond (!(o.s == [])) (cond (o.kind != 3) (some false) (cond (o.kind == 1) ((az_ n o.n_ 0 1).bind fun xr105=>(some xr105)) (cond (o.kind == 2) ((a7_ n o.n_).bind fun xr106=>(some xr106)) (cond (o.kind == 3) ((ax_ n o.s).bind fun xr107=>(some xr107)) (cond (o.kind == 5) (cond ((o.names.length:Int) == (o.list.length:Int)) ((au_ n o.names).bind fun xr108=>(some xr108)) (some false)) (cond (o.kind == 0) (some true) (some (o.kind == 4)))))))) (cond (o.kind == 1) ((az_ n o.n_ 0 1).bind fun xr109=>(some xr109)) (cond (o.kind == 2) ((a7_ n o.n_).bind fun xr110=>(some xr110)) (cond (o.kind == 3) ((ax_ n o.s).bind fun xr111=>(some xr111)) (cond (o.kind == 5) (cond ((o.names.length:Int) == (o.list.length:Int)) ((au_ n o.names).bind fun xr112=>(some xr112)) (some false)) (cond (o.kind == 0) (some true) (some (o.kind == 4))))))))) (cond (!(o.s == [])) (cond (o.kind != 3) (some false) (cond (o.kind == 1) ((az_ n o.n_ 0 1).bind fun xr113=>(some xr113)) (cond (o.kind == 2) ((a7_ n o.n_).bind fun xr114=>(some xr114)) (cond (o.kind == 3) ((ax_ n o.s).bind fun xr115=>(some xr115)) (cond (o.kind == 5) (cond ((o.names.length:Int) == (o.list.length:Int)) ((au_ n o.names).bind fun xr116=>(some xr116)) (some false)) (cond (o.kind == 0) (some true) (some (o.kind == 4)))))))) (cond (o.kind == 1) ((az_ n o.n_ 0 1).bind fun xr117=>(some xr117)) (cond (o.kind == 2) ((a7_ n o.n_).bind fun xr118=>(some xr118)) (cond (o.kind == 3) ((ax_ n o.s).bind fun xr119=>(some xr119)) (cond (o.kind == 5) (cond ((o.names.length:Int) == (o.list.length:Int)) ((au_ n o.names).bind fun xr120=>(some xr120)) (some false)) (cond (o.kind == 0) (some true) (some (o.kind == 4)))))))))) (cond (o.n_ != 0) (cond (o.kind != 1) (cond (o.kind != 2) (some false) (cond (!(o.s == [])) (cond (o.kind != 3) (some false) (cond (o.kind == 1) ((az_ n o.n_ 0 1).bind fun xr121=>(some xr121)) (cond (o.kind == 2) ((a7_ n o.n_).bind fun xr122=>(some xr122)) (cond (o.kind == 3) ((ax_ n o.s).bind fun xr123=>(some xr123)) (cond (o.kind == 5) (cond ((o.names.length:Int) == (o.list.length:Int)) ((au_ n o.names).bind fun xr124=>(some xr124)) (some false)) (cond (o.kind == 0) (some true) (some (o.kind == 4)))))))) (cond (o.kind == 1) ((az_ n o.n_ 0 1).bind fun xr125=>(some xr125)) (cond (o.kind == 2) ((a7_ n o.n_).bind fun xr126=>(some xr126)) (cond (o.kind == 3) ((ax_ n o.s).bind fun xr127=>(some xr127)) (cond (o.kind == 5) (cond ((o.names.length:Int) == (o.list.length:Int)) ((au_ n o.names).bind fun xr128=>(some xr128)) (some false)) (cond (o.kind == 0) (some true) (some (o.kind == 4))))))))) (cond (!(o.s == [])) (cond (o.kind != 3) (some false) (cond (o.kind == 1) ((az_ n o.n_ 0 1).bind fun xr129=>(some xr129)) (cond (o.kind == 2) ((a7_ n o.n_).bind fun xr130=>(some xr130)) (cond (o.kind == 3) ((ax_ n o.s).bind fun xr131=>(some xr131)) (cond (o.kind == 5) (cond ((o.names.length:Int) == (o.list.length:Int)) ((au_ n o.names).bind fun xr132=>(some xr132)) (some false)) (cond (o.kind == 0) (some true) (some (o.kind == 4)))))))) (cond (o.kind == 1) ((az_ n o.n_ 0 1).bind fun xr133=>(some xr133)) (cond (o.kind == 2) ((a7_ n o.n_).bind fun xr134=>(some xr134)) (cond (o.kind == 3) ((ax_ n o.s).bind fun xr135=>(some xr135)) (cond (o.kind == 5) (cond ((o.names.length:Int) == (o.list.length:Int)) ((au_ n o.names).bind fun xr136=>(some xr136)) (some false)) (cond (o.kind == 0) (some true) (some (o.kind == 4))))))))) (cond (!(o.s == [])) (cond (o.kind != 3) (some false) (cond (o.kind == 1) ((az_ n o.n_ 0 1).bind fun xr137=>(some xr137)) (cond (o.kind == 2) ((a7_ n o.n_).bind fun xr138=>(some xr138)) (cond (o.kind == 3) ((ax_ n o.s).bind fun xr139=>(some xr139)) (cond (o.kind == 5) (cond ((o.names.length:Int) == (o.list.length:Int)) ((au_ n o.names).bind fun xr140=>(some xr140)) (some false)) (cond (o.kind == 0) (some true) (some (o.kind == 4)))))))) (cond (o.kind == 1) ((az_ n o.n_ 0 1).bind fun xr141=>(some xr141)) (cond (o.kind == 2) ((a7_ n o.n_).bind fun xr142=>(some xr142)) (cond (o.kind == 3) ((ax_ n o.s).bind fun xr143=>(some xr143)) (cond (o.kind == 5) (cond ((o.names.length:Int) == (o.list.length:Int)) ((au_ n o.names).bind fun xr144=>(some xr144)) (some false)) (cond (o.kind == 0) (some true) (some (o.kind == 4)))))))))))
abbrev bp_.T7:Type:=Int→Int→(List aa_)→Int→Int→Option Int
def bp_.step7 (n:Nat) (impl_sizeIn_:aa_→Int→Option Int) (k0:Int→Option Int) (back:bp_.T7):bp_.T7:=fun deep n_1 t16 t17 t18=>
 (cond (decide (t18<t17)) (inB t18 t16.length ((impl_sizeIn_ (aa_.re (t16.getD t18.toNat aa_.dflt)) (W (deep - 1))).bind fun xr2=>(cond (decide ((W (n_1+xr2)) > 400)) (some 401) (back deep (W (n_1+xr2)) t16 t17 (W (t18+1)))))) (k0 n_1))
def bp_.loop7 (n:Nat) (impl_sizeIn_:aa_→Int→Option Int) (k0:Int→Option Int) (N:Nat):bp_.T7:=cc_ (fun _ _ _ _ _=>none) (bp_.step7 n impl_sizeIn_ k0) N
def bp_:Nat→aa_→Int→Option Int
 |0,_,_=>none
 |n+1,j,deep=>
  (cond (decide (deep<1)) (some 401) ((ea_ n (aa_.re j)).bind fun xr1=>(cond (!xr1) (some 401) (bp_.loop7 n (bp_ n) (fun xy3=>(some xy3)) n deep 1 j.list (j.list.length:Int) 0))))
def cZ_:Nat→aa_→Option Bool
 |0,_=>none
 |n+1,j=>
  ((bp_ n (aa_.re j) 6).bind fun xr1=>(some (decide (xr1≤400))))
def cD_:Nat→aa_→Option aa_
 |0,_=>none
 |n+1,j=>
  ((cZ_ n (aa_.re j)).bind fun xr1=>(cond (!xr1) (some (aa_.mk 0 0 [] ([]:List aa_) ([]:List Bs))) (some (aa_.re j))))
def eb_:Nat→Int→Option aa_
 |0,_=>none
 |n+1,n1=>
  ((cD_ n (aa_.mk 2 n1 [] [] [])).bind fun xr1=>(some (aa_.re xr1)))
abbrev bW_.T3:Type:=Int→(List TKid)→Int→Int→Option Int
def bW_.step3 (n:Nat) (k0:Option Int) (back:bW_.T3):bW_.T3:=fun id_1 t8 t9 t10=>
 (cond (decide (t10<t9)) (inB t10 t8.length (cond (((t8.getD t10.toNat TKid.dflt).id_) == id_1) (some ((t8.getD t10.toNat TKid.dflt).n_)) (back id_1 t8 t9 (W (t10+1))))) k0)
def bW_.loop3 (n:Nat) (k0:Option Int) (N:Nat):bW_.T3:=cc_ (fun _ _ _ _=>none) (bW_.step3 n k0) N
def bW_:Nat→aD_→Int→Option Int
 |0,_,_=>none
 |n+1,v,id1=>
  (bW_.loop3 n (some 0) n id1 v.kids (v.kids.length:Int) 0)
abbrev aQ_.K4:Type:=(List Int)→Option (List Int)
abbrev aQ_.T4:Type:=(List TRow)→Int→Int→Int→(List a6_)→Int→Bool→Int→(List Int)→Bool→Int→Int→(List TRow)→(List TKid)→(List Int)→Option (List Int)
def aQ_.step4 (n:Nat) (k0:aQ_.K4) (back:aQ_.T4):aQ_.T4:=fun t8 t9 t10 v0 v1 v2 v3 v4 v5 v6 v7 v8 v9 v10 kids=>
 (cond (decide (t10<t9)) (inB t10 t8.length ((bW_ n (aD_.mk (an_.mk v0 v1 v2 v3 v4 v5 v6 v7 v8) v9 v10) ((t8.getD t10.toNat TRow.dflt).id_)).bind fun xr1=>(bm_ (kids.length+([xr1]:List Int).length) 8 (back t8 t9 (W (t10+1)) v0 v1 v2 v3 v4 v5 v6 v7 v8 v9 v10 (kids++([xr1]:List Int)))))) (k0 kids))
def aQ_.loop4 (n:Nat) (k0:aQ_.K4) (N:Nat):aQ_.T4:=cc_ (fun _ _ _ _ _ _ _ _ _ _ _ _ _ _ _=>none) (aQ_.step4 n k0) N
def aQ_:Nat→aD_→Option (List Int)
 |0,_=>none
 |n+1,v=>
  (aQ_.loop4 n (fun xy2=>(some xy2)) n v.rows (v.rows.length:Int) 0 v.q.table v.q.where_ v.q.order v.q.down v.q.first v.q.show_ v.q.kids v.q.kidTable v.q.kidCol v.rows v.kids ([]:List Int))
def dy_:Nat→an_→Int→Option Int
 |0,_,_=>none
 |n+1,q,count=>
  (cond (q.first == 0) (some count) (let xv1:Int:=(cond (decide (count<(cond (decide ((0:Int) > q.first)) 0 q.first))) count (cond (decide ((0:Int) > q.first)) 0 q.first));(some xv1)))
abbrev aX_.T3:Type:=(List Int)→Int→Int→Int→Option Int
def aX_.step3 (n:Nat) (k0:Option Int) (back:aX_.T3):aX_.T3:=fun s v t7 t8=>
 (cond (decide (t8<t7)) (inB t8 s.length (cond (v == (s.getD t8.toNat 0)) (some t8) (back s v t7 (W (t8+1))))) k0)
def aX_.loop3 (n:Nat) (k0:Option Int) (N:Nat):aX_.T3:=cc_ (fun _ _ _ _=>none) (aX_.step3 n k0) N
def aX_:Nat→(List Int)→Int→Option Int
 |0,_,_=>none
 |n+1,s,v=>
  (aX_.loop3 n (some (-1)) n s v (s.length:Int) 0)
def b6_:Nat→(List Int)→Int→Option Bool
 |0,_,_=>none
 |n+1,s,v=>
  ((aX_ n s v).bind fun xr1=>(some (decide (xr1≥0))))
def strconv_Itoa:Nat→Int→Option Bs
 |0,_=>none
 |_+1,i=>nItoa i
def dL_:Nat→Int→Option Bs
 |0,_=>none
 |n+1,n1=>
  ((strconv_Itoa n n1).bind fun xr1=>(some xr1))
def dp_:Nat→TRow→Int→Option Int
 |0,_,_=>none
 |n+1,r,col=>
  ((az_ n col 0 (W ((r.cells.length:Int) - 1))).bind fun xr1=>(cond (!xr1) (some 0) (inB col r.cells.length (some (r.cells.getD col.toNat 0)))))
def cu_:Nat→Bs→Option Bool
 |0,_=>none
 |n+1,x=>
  (some (!(x == x)))
def cK_:Nat→Bs→Bs→Option Bool
 |0,_,_=>none
 |n+1,x,y=>
  ((cu_ n x).bind fun xr1=>(cond xr1 ((cu_ n y).bind fun xr2=>(cond (!xr2) (some true) (some (Op.bytesLess x y)))) (some (Op.bytesLess x y))))
def b5_:Nat→Bs→Option Bool
 |0,_=>none
 |n+1,x=>
  (some (!(x == x)))
abbrev ak_.K4:Type:=(List Bs)→Bs→Int→Int→Option (Int × Bool)
abbrev ak_.T4:Type:=(List Bs)→Bs→Int→Int→Int→Option (Int × Bool)
def ak_.step4 (n:Nat) (k0:ak_.K4) (back:ak_.T4):ak_.T4:=fun x target n_1 i j=>
 (cond (decide (i<j)) (let xv1:Int:=(Int.fdiv (IntKind.u64.wrap ((W (i+j)))) (2 ^ min (1:Int).toNat (IntKind.bits .u64)));(inB (W (xv1)) x.length ((cK_ n (x.getD (W (xv1)).toNat []) target).bind fun xr2=>(cond xr2 (back x target n_1 (W ((W (xv1))+1)) j) (back x target n_1 i (W (xv1))))))) (k0 x target n_1 i))
def ak_.loop4 (n:Nat) (k0:ak_.K4) (N:Nat):ak_.T4:=cc_ (fun _ _ _ _ _=>none) (ak_.step4 n k0) N
def ak_:Nat→(List Bs)→Bs→Option (Int × Bool)
 |0,_,_=>none
 |n+1,x,target=>
  (ak_.loop4 n (fun xy3 xy4 xy5 xy6=>(cond (decide (xy6<xy5)) (inB xy6 xy3.length (cond ((xy3.getD xy6.toNat []) == xy4) (some (xy6,true)) (inB xy6 xy3.length ((b5_ n (xy3.getD xy6.toNat [])).bind fun xr7=>(cond xr7 ((b5_ n xy4).bind fun xr8=>(some (xy6,xr8))) (some (xy6,false))))))) (some (xy6,false)))) n x target (x.length:Int) 0 (x.length:Int))
def cm_:Nat→List Bs→Int→List Bs→Option (List Bs)
 |0,_,_,_=>none
 |_+1,s,i,v=>gU_ 16 s i v
def cw_:Nat→List aa_→Int→List aa_→Option (List aa_)
 |0,_,_,_=>none
 |_+1,s,i,v=>gU_ 80 s i v
abbrev bL_.K4:Type:=Int→Int→Bs→Int→Int→Bs→(List aa_)→(List Bs)→Option aa_
abbrev bL_.T4:Type:=(List Int)→(List Bs)→Int→Int→Int→Int→Bs→Int→Int→Bs→(List aa_)→(List Bs)→Option aa_
def bL_.step4 (n:Nat) (k0:bL_.K4) (back:bL_.T4):bL_.T4:=fun numbers t11 t12 t13 t40 t41 t42 j0 j1 j2 j3 j4=>
 (cond (decide (t13<t12)) (inB t13 t11.length ((ak_ n j4 (t11.getD t13.toNat [])).bind fun xr1=>((cm_ n j4 xr1.1 ([(t11.getD t13.toNat [])]:List Bs)).bind fun xr2=>(inB t13 numbers.length ((cw_ n j3 xr1.1 ([(aa_.mk 2 (numbers.getD t13.toNat 0) [] [] [])]:List aa_)).bind fun xr3=>(back numbers t11 t12 (W (t13+1)) t40 t41 t42 j0 j1 j2 xr3 xr2)))))) (k0 t40 t41 t42 j0 j1 j2 j3 j4))
def bL_.loop4 (n:Nat) (k0:bL_.K4) (N:Nat):bL_.T4:=cc_ (fun _ _ _ _ _ _ _ _ _ _ _ _=>none) (bL_.step4 n k0) N
def bL_:Nat→(List Bs)→(List Int)→Option aa_
 |0,_,_=>none
 |n+1,names,numbers=>
  (bL_.loop4 n (fun xy4 xy5 xy6 xy7 xy8 xy9 xy10 xy11=>(some (aa_.mk xy7 xy8 xy9 xy10 xy11))) n numbers names (names.length:Int) 0 0 0 [] 5 0 [] ([]:List aa_) ([]:List Bs))
abbrev bB_.K4:Type:=Int→Int→(List a6_)→Int→Bool→Int→(List Int)→Bool→Int→Int→Int→Int→Bs→(List Bs)→(List Int)→Option aa_
abbrev bB_.T4:Type:=Int→(List Int)→Int→Int→Int→(List a6_)→Int→Bool→Int→(List Int)→Bool→Int→Int→Int→(List Int)→Int→Int→Bs→(List Bs)→(List Int)→Option aa_
def bB_.step4 (n:Nat) (k0:bB_.K4) (back:bB_.T4):bB_.T4:=fun kids t16 t17 t18 q0 q1 q2 q3 q4 q5 q6 q7 q8 r0 r1 t60 t61 t62 names numbers=>
 (cond (decide (t18<t17)) (inB t18 t16.length (i1_ 0 t18 q5.length ((b6_ n ((q5.take t18.toNat).drop 0) (t16.getD t18.toNat 0)).bind fun xr1=>(cond xr1 (back kids t16 t17 (W (t18+1)) q0 q1 q2 q3 q4 q5 q6 q7 q8 r0 r1 t60 t61 t62 names numbers) ((dL_ n (t16.getD t18.toNat 0)).bind fun xr2=>(cond (decide ([99].length+xr2.length≤9223372036854775807)) (bm_ (names.length+([(([99]:Bs)++xr2)]:List Bs).length) 16 ((dp_ n (TRow.mk r0 r1) (t16.getD t18.toNat 0)).bind fun xr3=>(bm_ (numbers.length+([xr3]:List Int).length) 8 (back kids t16 t17 (W (t18+1)) q0 q1 q2 q3 q4 q5 q6 q7 q8 r0 r1 t60 t61 t62 (names++([(([99]:Bs)++xr2)]:List Bs)) (numbers++([xr3]:List Int)))))) none)))))) (k0 kids q0 q1 q2 q3 q4 q5 q6 q7 q8 t60 t61 t62 names numbers))
def bB_.loop4 (n:Nat) (k0:bB_.K4) (N:Nat):bB_.T4:=cc_ (fun _ _ _ _ _ _ _ _ _ _ _ _ _ _ _ _ _ _ _ _=>none) (bB_.step4 n k0) N
def bB_:Nat→an_→TRow→Int→Option aa_
 |0,_,_,_=>none
 |n+1,q,r,kids=>
  (bB_.loop4 n (fun xy4 xy5 xy6 xy7 xy8 xy9 xy10 xy11 xy12 xy13 xy14 xy15 xy16 xy17 xy18=>(cond xy11 (bm_ (xy17.length+([[107,105,100,115]]:List Bs).length) 16 (bm_ (xy18.length+([xy4]:List Int).length) 8 ((bL_ n (xy17++([[107,105,100,115]]:List Bs)) (xy18++([xy4]:List Int))).bind fun xr19=>((cD_ n (aa_.re xr19)).bind fun xr20=>(some (aa_.re xr20)))))) ((bL_ n xy17 xy18).bind fun xr21=>((cD_ n (aa_.re xr21)).bind fun xr22=>(some (aa_.re xr22)))))) n kids q.show_ (q.show_.length:Int) 0 q.table q.where_ q.order q.down q.first q.show_ q.kids q.kidTable q.kidCol r.id_ r.cells 0 0 [] ([[105,100]]:List Bs) ([r.id_]:List Int))
abbrev bf_.K4:Type:=(List aa_)→Option (List aa_)
abbrev bf_.T4:Type:=(List Int)→(List TRow)→Int→Int→Int→(List a6_)→Int→Bool→Int→(List Int)→Bool→Int→Int→(List aa_)→Option (List aa_)
def bf_.step4 (n:Nat) (k0:bf_.K4) (back:bf_.T4):bf_.T4:=fun kids t17 t18 t19 q0 q1 q2 q3 q4 q5 q6 q7 q8 docs=>
 (cond (decide (t19<t18)) (inB t19 t17.length (cond (decide (t19<(kids.length:Int))) (inB t19 kids.length ((bB_ n (an_.mk q0 q1 q2 q3 q4 q5 q6 q7 q8) (t17.getD t19.toNat TRow.dflt) (kids.getD t19.toNat 0)).bind fun xr2=>(bm_ (docs.length+([(aa_.re xr2)]:List aa_).length) 80 (back kids t17 t18 (W (t19+1)) q0 q1 q2 q3 q4 q5 q6 q7 q8 (docs++([(aa_.re xr2)]:List aa_)))))) ((bB_ n (an_.mk q0 q1 q2 q3 q4 q5 q6 q7 q8) (t17.getD t19.toNat TRow.dflt) 0).bind fun xr3=>(bm_ (docs.length+([(aa_.re xr3)]:List aa_).length) 80 (back kids t17 t18 (W (t19+1)) q0 q1 q2 q3 q4 q5 q6 q7 q8 (docs++([(aa_.re xr3)]:List aa_))))))) (k0 docs))
def bf_.loop4 (n:Nat) (k0:bf_.K4) (N:Nat):bf_.T4:=cc_ (fun _ _ _ _ _ _ _ _ _ _ _ _ _ _=>none) (bf_.step4 n k0) N
def bf_:Nat→an_→(List TRow)→(List Int)→Option (List aa_)
 |0,_,_,_=>none
 |n+1,q,rows,kids=>
  ((dy_ n q (rows.length:Int)).bind fun xr1=>(i1_ 0 xr1 rows.length (bf_.loop4 n (fun xy4=>(some xy4)) n kids ((rows.take xr1.toNat).drop 0) (((rows.take xr1.toNat).drop 0).length:Int) 0 q.table q.where_ q.order q.down q.first q.show_ q.kids q.kidTable q.kidCol ([]:List aa_))))
abbrev bO_.K5:Type:=(List aa_)→(List Int)→Option ((List aa_) × (List Int))
abbrev bO_.T5:Type:=(List TRow)→Int→Int→(List aa_)→(List Int)→Option ((List aa_) × (List Int))
def bO_.step5 (n:Nat) (k0:bO_.K5) (back:bO_.T5):bO_.T5:=fun t20 t21 t22 docs ids=>
 (cond (decide (t22<t21)) (inB t22 t20.length (bm_ (ids.length+([(t20.getD t22.toNat TRow.dflt).id_]:List Int).length) 8 (back t20 t21 (W (t22+1)) docs (ids++([(t20.getD t22.toNat TRow.dflt).id_]:List Int))))) (k0 docs ids))
def bO_.loop5 (n:Nat) (k0:bO_.K5) (N:Nat):bO_.T5:=cc_ (fun _ _ _ _ _=>none) (bO_.step5 n k0) N
def bO_:Nat→aD_→Option ((List aa_) × (List Int))
 |0,_=>none
 |n+1,v=>
  ((aQ_ n v).bind fun xr1=>((bf_ n v.q v.rows xr1).bind fun xr2=>(i1_ 0 (xr2.length:Int) v.rows.length (bO_.loop5 n (fun xy3 xy4=>(some (xy3,xy4))) n ((v.rows.take (xr2.length:Int).toNat).drop 0) (((v.rows.take (xr2.length:Int).toNat).drop 0).length:Int) 0 xr2 ([]:List Int)))))
abbrev bk_.K7:Type:=(List aq_)→Option ((List aq_) × Bool)
abbrev bk_.T7:Type:=(List Int)→(List aa_)→Int→Int→(List aq_)→Option ((List aq_) × Bool)
def bk_.step7 (n:Nat) (k0:bk_.K7) (back:bk_.T7):bk_.T7:=fun keys t15 t16 t17 out_1=>
 (cond (decide (t17<t16)) (inB t17 t15.length ((cZ_ n (aa_.re (t15.getD t17.toNat aa_.dflt))).bind fun xr1=>(cond (!xr1) (some (([]:List aq_),false)) (i1_ 0 t17 keys.length (inB t17 keys.length ((b6_ n ((keys.take t17.toNat).drop 0) (keys.getD t17.toNat 0)).bind fun xr2=>(cond xr2 (some (([]:List aq_),false)) (inB t17 keys.length (bm_ (out_1.length+([(aq_.mk (keys.getD t17.toNat 0) (aa_.re (t15.getD t17.toNat aa_.dflt)))]:List aq_).length) 88 (back keys t15 t16 (W (t17+1)) (out_1++([(aq_.mk (keys.getD t17.toNat 0) (aa_.re (t15.getD t17.toNat aa_.dflt)))]:List aq_)))))))))))) (k0 out_1))
def bk_.loop7 (n:Nat) (k0:bk_.K7) (N:Nat):bk_.T7:=cc_ (fun _ _ _ _ _=>none) (bk_.step7 n k0) N
def bk_:Nat→(List aa_)→(List Int)→Option ((List aq_) × Bool)
 |0,_,_=>none
 |n+1,list,keys=>
  (cond ((list.length:Int) != (keys.length:Int)) (some (([]:List aq_),false)) (bk_.loop7 n (fun xy3=>(some (xy3,true))) n keys list (list.length:Int) 0 ([]:List aq_)))
def df_:Nat→aq_→Int→Option Bool
 |0,_,_=>none
 |n+1,x,c=>
  (some (x.key == c))
abbrev ad_.T3:Type:=(List aq_)→Int→Int→Int→Option Int
def ad_.step3 (n:Nat) (k0:Option Int) (back:ad_.T3):ad_.T3:=fun s f00 t7 t8=>
 (cond (decide (t8<t7)) (inB t8 s.length ((df_ n (aq_.mk ((s.getD t8.toNat aq_.dflt).key) (aa_.re ((s.getD t8.toNat aq_.dflt).value))) f00).bind fun xr1=>(cond xr1 (some t8) (back s f00 t7 (W (t8+1)))))) k0)
def ad_.loop3 (n:Nat) (k0:Option Int) (N:Nat):ad_.T3:=cc_ (fun _ _ _ _=>none) (ad_.step3 n k0) N
def ad_:Nat→(List aq_)→Int→Option Int
 |0,_,_=>none
 |n+1,s,c=>
  (ad_.loop3 n (some (-1)) n s c (s.length:Int) 0)
def dY_:Nat→(List aq_)→Int→Option Int
 |0,_,_=>none
 |n+1,list,key=>
  ((ad_ n list key).bind fun xr1=>(some xr1))
def dn_:Nat→Int→Option (List Bs)
 |0,_=>none
 |n+1,n1=>
  ((strconv_Itoa n n1).bind fun xr1=>(some ([xr1]:List Bs)))
def bZ_:Nat→List aq_→Int→Int→Option (List aq_)
 |0,_,_,_=>none
 |_+1,s,i,j=>l7_ s i j
abbrev aF_.T6:Type:=(List Bs)→(List Bs)→Int→Int→Option Bool
def aF_.step6 (n:Nat) (k0:Option Bool) (back:aF_.T6):aF_.T6:=fun s1 s2 t12 t13=>
 (cond (decide (t13<t12)) (inB t13 s1.length (inB t13 s2.length (cond (!((s1.getD t13.toNat []) == (s2.getD t13.toNat []))) (some false) (back s1 s2 t12 (W (t13+1)))))) k0)
def aF_.loop6 (n:Nat) (k0:Option Bool) (N:Nat):aF_.T6:=cc_ (fun _ _ _ _=>none) (aF_.step6 n k0) N
def aF_:Nat→(List Bs)→(List Bs)→Option Bool
 |0,_,_=>none
 |n+1,s1,s2=>
  (cond ((s1.length:Int) != (s2.length:Int)) (some false) (aF_.loop6 n (some true) n s1 s2 (s1.length:Int) 0))
abbrev ag_.T6:Type:=(List aa_)→(List aa_)→Int→Int→Option Bool
def ag_.step6 (n:Nat) (impl_alike_:aa_→aa_→Option Bool) (k0:Option Bool) (back:ag_.T6):ag_.T6:=fun s2 t15 t16 t17=>
 (cond (decide (t17<t16)) (inB t17 t15.length (inB t17 s2.length ((impl_alike_ (aa_.re (t15.getD t17.toNat aa_.dflt)) (aa_.re (s2.getD t17.toNat aa_.dflt))).bind fun xr1=>(cond (!xr1) (some false) (back s2 t15 t16 (W (t17+1))))))) k0)
def ag_.loop6 (n:Nat) (impl_alike_:aa_→aa_→Option Bool) (k0:Option Bool) (N:Nat):ag_.T6:=cc_ (fun _ _ _ _=>none) (ag_.step6 n impl_alike_ k0) N
mutual
def ds_:Nat→aa_→aa_→Option Bool
 |0,_,_=>none
 |n+1,a,b=>
  (cond (a.kind == b.kind) (cond (a.n_ == b.n_) (cond (a.s == b.s) ((aF_ n a.names b.names).bind fun xr1=>(cond xr1 ((ag_ n a.list b.list).bind fun xr2=>(some xr2)) (some false))) (some false)) (some false)) (some false))
def ag_:Nat→(List aa_)→(List aa_)→Option Bool
 |0,_,_=>none
 |n+1,s1,s2=>
  (cond ((s1.length:Int) != (s2.length:Int)) (some false) (ag_.loop6 n (ds_ n) (some true) n s2 s1 (s1.length:Int) 0))
end
def cz_:Nat→(List Bs)→Option (List Bs)
 |0,_=>none
 |n+1,l=>
  (bm_ (([]:List Bs).length+l.length) 16 (some (([]:List Bs)++l)))
abbrev aS_.K4_1:Type:=Int→Int→Bs→Int→Int→Bs→(List aa_)→(List Bs)→Option aa_
abbrev aS_.T4:Type:=(List aa_)→Int→Int→Int→Int→Bs→Int→Int→Bs→(List aa_)→(List Bs)→Option aa_
def aS_.step4 (n:Nat) (impl_copyJson_:aa_→Option aa_) (k0:aS_.K4_1) (back:aS_.T4):aS_.T4:=fun t17 t18 t19 t20 t21 t22 out0 out1 out2 out3 out4=>
 (cond (decide (t19<t18)) (inB t19 t17.length ((impl_copyJson_ (aa_.re (t17.getD t19.toNat aa_.dflt))).bind fun xr2=>(bm_ (out3.length+([(aa_.re xr2)]:List aa_).length) 80 (back t17 t18 (W (t19+1)) t20 t21 t22 out0 out1 out2 (out3++([(aa_.re xr2)]:List aa_)) out4)))) (k0 t20 t21 t22 out0 out1 out2 out3 out4))
def aS_.loop4 (n:Nat) (impl_copyJson_:aa_→Option aa_) (k0:aS_.K4_1) (N:Nat):aS_.T4:=cc_ (fun _ _ _ _ _ _ _ _ _ _ _=>none) (aS_.step4 n impl_copyJson_ k0) N
def aS_:Nat→aa_→Option aa_
 |0,_=>none
 |n+1,j=>
  ((cz_ n j.names).bind fun xr1=>(aS_.loop4 n (aS_ n) (fun xy3 xy4 xy5 xy6 xy7 xy8 xy9 xy10=>(some (aa_.mk xy6 xy7 xy8 xy9 xy10))) n j.list (j.list.length:Int) 0 0 0 [] j.kind j.n_ j.s ([]:List aa_) xr1))
def bY_:Nat→List aq_→Int→List aq_→Option (List aq_)
 |0,_,_,_=>none
 |_+1,s,i,v=>gU_ 88 s i v
abbrev a3_.K9:Type:=(List aq_)→(List aq_)→(List TOp)→Option (List TOp)
abbrev a3_.T9:Type:=Int→(List aq_)→(List aq_)→(List TOp)→Option (List TOp)
def a3_.step9 (n:Nat) (k0:a3_.K9) (back:a3_.T9):a3_.T9:=fun t14 t9 t11 t13=>
 (cond (decide (t14≥0)) (inB t14 t9.length ((dY_ n t11 ((t9.getD t14.toNat aq_.dflt).key)).bind fun xr3=>(cond (decide (xr3<0)) ((dn_ n t14).bind fun xr4=>(bm_ (t13.length+([(TOp.mk 2 xr4 (aa_.mk 0 0 [] [] []))]:List TOp).length) 112 ((bZ_ n t9 t14 (W (t14+1))).bind fun xr5=>(back (W (t14 - 1)) xr5 t11 (t13++([(TOp.mk 2 xr4 (aa_.mk 0 0 [] [] []))]:List TOp)))))) (back (W (t14 - 1)) t9 t11 t13)))) (k0 t9 t11 t13))
def a3_.loop9 (n:Nat) (k0:a3_.K9) (N:Nat):a3_.T9:=cc_ (fun _ _ _ _=>none) (a3_.step9 n k0) N
abbrev a3_.K17:Type:=(List TOp)→Option (List TOp)
abbrev a3_.T17:Type:=Int→Int→(List aq_)→(List TOp)→(List aq_)→Option (List TOp)
def a3_.step17 (n:Nat) (k2:a3_.K17) (back:a3_.T17):a3_.T17:=fun t65 t66 t9 t13 t64=>
 (cond (decide (t66<t65)) (inB t66 t64.length ((dY_ n t9 ((t64.getD t66.toNat aq_.dflt).key)).bind fun xr9=>(cond (xr9 == t66) (inB t66 t9.length ((ds_ n (aa_.re ((t9.getD t66.toNat aq_.dflt).value)) (aa_.re ((t64.getD t66.toNat aq_.dflt).value))).bind fun xr10=>(cond (!xr10) ((dn_ n t66).bind fun xr11=>((aS_ n (aa_.re ((t64.getD t66.toNat aq_.dflt).value))).bind fun xr12=>(bm_ (t13.length+([(TOp.mk 3 xr11 (aa_.re xr12))]:List TOp).length) 112 (back t65 (W (t66+1)) t9 (t13++([(TOp.mk 3 xr11 (aa_.re xr12))]:List TOp)) t64)))) (back t65 (W (t66+1)) t9 t13 t64)))) (cond (decide (xr9 > t66)) ((dn_ n xr9).bind fun xr13=>(bm_ (t13.length+([(TOp.mk 2 xr13 (aa_.mk 0 0 [] [] []))]:List TOp).length) 112 ((bZ_ n t9 xr9 (W (xr9+1))).bind fun xr14=>((dn_ n t66).bind fun xr15=>((aS_ n (aa_.re ((t64.getD t66.toNat aq_.dflt).value))).bind fun xr16=>(bm_ ((t13++([(TOp.mk 2 xr13 (aa_.mk 0 0 [] [] []))]:List TOp)).length+([(TOp.mk 1 xr15 (aa_.re xr16))]:List TOp).length) 112 ((bY_ n xr14 t66 ([(aq_.mk ((t64.getD t66.toNat aq_.dflt).key) (aa_.re ((t64.getD t66.toNat aq_.dflt).value)))]:List aq_)).bind fun xr17=>(back t65 (W (t66+1)) xr17 ((t13++([(TOp.mk 2 xr13 (aa_.mk 0 0 [] [] []))]:List TOp))++([(TOp.mk 1 xr15 (aa_.re xr16))]:List TOp)) t64)))))))) ((dn_ n t66).bind fun xr18=>((aS_ n (aa_.re ((t64.getD t66.toNat aq_.dflt).value))).bind fun xr19=>(bm_ (t13.length+([(TOp.mk 1 xr18 (aa_.re xr19))]:List TOp).length) 112 ((bY_ n t9 t66 ([(aq_.mk ((t64.getD t66.toNat aq_.dflt).key) (aa_.re ((t64.getD t66.toNat aq_.dflt).value)))]:List aq_)).bind fun xr20=>(back t65 (W (t66+1)) xr20 (t13++([(TOp.mk 1 xr18 (aa_.re xr19))]:List TOp)) t64))))))))) (k2 t13))
def a3_.loop17 (n:Nat) (k2:a3_.K17) (N:Nat):a3_.T17:=cc_ (fun _ _ _ _ _=>none) (a3_.step17 n k2) N
def a3_:Nat→(List aa_)→(List Int)→(List aa_)→(List Int)→Option (List TOp)
 |0,_,_,_,_=>none
 |n+1,o,append,a2,a3=>
  ((bk_ n o append).bind fun xr1=>((bk_ n a2 a3).bind fun xr2=>(cond (!xr1.2) (some ([]:List TOp)) (cond (!xr2.2) (some ([]:List TOp)) (a3_.loop9 n (fun xy6 xy7 xy8=>(a3_.loop17 n (fun xy21=>(some xy21)) n (xy7.length:Int) 0 xy6 xy8 xy7)) n (W ((xr1.1.length:Int) - 1)) xr1.1 xr2.1 ([]:List TOp))))))
def dM_:Nat→TOp→Option TOp
 |0,_=>none
 |n+1,o=>
  ((cz_ n o.way).bind fun xr1=>((aS_ n (aa_.re o.value)).bind fun xr2=>(some (TOp.mk o.kind xr1 (aa_.re xr2)))))
abbrev bV_.K4:Type:=(List TOp)→Option (List TOp)
abbrev bV_.T4:Type:=Bs→(List TOp)→Int→Int→(List TOp)→Option (List TOp)
def bV_.step4 (n:Nat) (k0:bV_.K4) (back:bV_.T4):bV_.T4:=fun name t9 t10 t11 out_1=>
 (cond (decide (t11<t10)) (inB t11 t9.length ((dM_ n { (t9.getD t11.toNat TOp.dflt) with value:=(aa_.re ((t9.getD t11.toNat TOp.dflt).value)) }).bind fun xr1=>(bm_ (([name]:List Bs).length+xr1.way.length) 16 (bm_ (out_1.length+([(TOp.mk xr1.kind (([name]:List Bs)++xr1.way) (aa_.re xr1.value))]:List TOp).length) 112 (back name t9 t10 (W (t11+1)) (out_1++([(TOp.mk xr1.kind (([name]:List Bs)++xr1.way) (aa_.re xr1.value))]:List TOp))))))) (k0 out_1))
def bV_.loop4 (n:Nat) (k0:bV_.K4) (N:Nat):bV_.T4:=cc_ (fun _ _ _ _ _=>none) (bV_.step4 n k0) N
def bV_:Nat→Bs→(List TOp)→Option (List TOp)
 |0,_,_=>none
 |n+1,name,list=>
  (bV_.loop4 n (fun xy2=>(some xy2)) n name list (list.length:Int) 0 ([]:List TOp))
def cF_:Nat→aD_→aD_→Option (List TOp)
 |0,_,_=>none
 |n+1,a,b=>
  ((c6_ n a.q b.q).bind fun xr1=>(cond (!xr1) (some ([]:List TOp)) (cond ((a.rows.length:Int) != (b.rows.length:Int)) ((eb_ n (b.rows.length:Int)).bind fun xr2=>(bm_ (([]:List TOp).length+([(TOp.mk 3 ([[99,111,117,110,116]]:List Bs) (aa_.re xr2))]:List TOp).length) 112 ((bO_ n a).bind fun xr3=>((bO_ n b).bind fun xr4=>((a3_ n xr3.1 xr3.2 xr4.1 xr4.2).bind fun xr5=>((bV_ n [114,111,119,115] xr5).bind fun xr6=>(bm_ ((([]:List TOp)++([(TOp.mk 3 ([[99,111,117,110,116]]:List Bs) (aa_.re xr2))]:List TOp)).length+xr6.length) 112 (some ((([]:List TOp)++([(TOp.mk 3 ([[99,111,117,110,116]]:List Bs) (aa_.re xr2))]:List TOp))++xr6))))))))) ((bO_ n a).bind fun xr7=>((bO_ n b).bind fun xr8=>((a3_ n xr7.1 xr7.2 xr8.1 xr8.2).bind fun xr9=>((bV_ n [114,111,119,115] xr9).bind fun xr10=>(bm_ (([]:List TOp).length+xr10.length) 112 (some (([]:List TOp)++xr10))))))))))
def dB_:Nat→aa_→Option Bool
 |0,_=>none
 |n+1,j=>
  (cond (j.kind == 0) (cond (j.n_ == 0) (cond (j.s == []) (cond ((j.list.length:Int) == 0) (some ((j.names.length:Int) == 0)) (some false)) (some false)) (some false)) (some false))
abbrev cg_.K3:Type:=Int→(List Bs)→Int→Int→Bs→(List aa_)→(List Bs)→Option Bool
abbrev cg_.T3:Type:=(List Bs)→Int→Int→Int→(List Bs)→Int→Int→Bs→(List aa_)→(List Bs)→Option Bool
def cg_.step3 (n:Nat) (k0:cg_.K3) (back:cg_.T3):cg_.T3:=fun t6 t7 t8 o0 o1 o2 o3 o4 o5 o6=>
 (cond (decide (t8<t7)) (inB t8 t6.length ((ax_ n (t6.getD t8.toNat [])).bind fun xr1=>(cond (!xr1) (some false) (back t6 t7 (W (t8+1)) o0 o1 o2 o3 o4 o5 o6)))) (k0 o0 o1 o2 o3 o4 o5 o6))
def cg_.loop3 (n:Nat) (k0:cg_.K3) (N:Nat):cg_.T3:=cc_ (fun _ _ _ _ _ _ _ _ _ _=>none) (cg_.step3 n k0) N
def cg_:Nat→TOp→Option Bool
 |0,_=>none
 |n+1,o=>
  (cg_.loop3 n (fun xy2 xy3 xy4 xy5 xy6 xy7 xy8=>((az_ n xy2 1 4).bind fun xr9=>(cond xr9 (cond (decide ((xy3.length:Int)≤6)) ((cZ_ n (aa_.mk xy4 xy5 xy6 xy7 xy8)).bind fun xr10=>(cond xr10 (cond (xy2 != 2) (some true) ((dB_ n (aa_.mk xy4 xy5 xy6 xy7 xy8)).bind fun xr11=>(some xr11))) (some false))) (some false)) (some false)))) n o.way (o.way.length:Int) 0 o.kind o.way o.value.kind o.value.n_ o.value.s o.value.list o.value.names)
def dx_:Nat→Unit→Option (List Bs)
 |0,_=>none
 |n+1,_u=>
  (some ([[97,100,100],[114,101,109,111,118,101],[114,101,112,108,97,99,101],[116,101,115,116]]:List Bs))
def strings_ReplaceAll:Nat→Bs→Bs→Bs→Option Bs
 |0,_,_,_=>none
 |_+1,s,a,b=>gg_ s a b
abbrev bF_.T4:Type:=Bs→(List Bs)→Int→Int→Option Bs
def bF_.step4 (n:Nat) (k0:Bs→Option Bs) (back:bF_.T4):bF_.T4:=fun out_1 t6 t7 t8=>
 (cond (decide (t8<t7)) (inB t8 t6.length ((strings_ReplaceAll n (t6.getD t8.toNat []) [126] [126,48]).bind fun xr1=>((strings_ReplaceAll n xr1 [47] [126,49]).bind fun xr2=>(cond (decide ([47].length+xr2.length≤9223372036854775807)) (cond (decide (out_1.length+(([47]:Bs)++xr2).length≤9223372036854775807)) (back (out_1++(([47]:Bs)++xr2)) t6 t7 (W (t8+1))) none) none)))) (k0 out_1))
def bF_.loop4 (n:Nat) (k0:Bs→Option Bs) (N:Nat):bF_.T4:=cc_ (fun _ _ _ _=>none) (bF_.step4 n k0) N
def bF_:Nat→(List Bs)→Option Bs
 |0,_=>none
 |n+1,way=>
  (bF_.loop4 n (fun xy3=>(some xy3)) n [] way (way.length:Int) 0)
def dO_:Nat→TOp→Option aa_
 |0,_=>none
 |n+1,o=>
  ((cg_ n (TOp.mk o.kind o.way (aa_.re o.value))).bind fun xr1=>(cond (!xr1) (some (aa_.mk 0 0 [] ([]:List aa_) ([]:List Bs))) ((dx_ n ()).bind fun xr2=>(inB (W (o.kind - 1)) xr2.length ((bF_ n o.way).bind fun xr3=>(cond (o.kind != 2) (bm_ (([[111,112],[112,97,116,104]]:List Bs).length+([[118,97,108,117,101]]:List Bs).length) 16 ((aS_ n (aa_.re o.value)).bind fun xr4=>(bm_ (([(aa_.mk 3 0 (xr2.getD ((W (o.kind - 1)).toNat) []) [] []),(aa_.mk 3 0 xr3 [] [])]:List aa_).length+([(aa_.re xr4)]:List aa_).length) 80 ((cD_ n (aa_.mk 5 0 [] (([(aa_.mk 3 0 (xr2.getD ((W (o.kind - 1)).toNat) []) [] []),(aa_.mk 3 0 xr3 [] [])]:List aa_)++([(aa_.re xr4)]:List aa_)) (([[111,112],[112,97,116,104]]:List Bs)++([[118,97,108,117,101]]:List Bs)))).bind fun xr5=>(some (aa_.re xr5)))))) ((cD_ n (aa_.mk 5 0 [] ([(aa_.mk 3 0 (xr2.getD ((W (o.kind - 1)).toNat) []) [] []),(aa_.mk 3 0 xr3 [] [])]:List aa_) ([[111,112],[112,97,116,104]]:List Bs))).bind fun xr6=>(some (aa_.re xr6)))))))))
abbrev bg_.K4:Type:=Int→Int→Bs→Int→Int→Bs→(List aa_)→Option (aa_ × Bool)
abbrev bg_.T4:Type:=(List TOp)→Int→Int→Int→Int→Bs→Int→Int→Bs→(List aa_)→Option (aa_ × Bool)
def bg_.step4 (n:Nat) (k0:bg_.K4) (back:bg_.T4):bg_.T4:=fun t9 t10 t11 t20 t21 t22 j0 j1 j2 j3=>
 (cond (decide (t11<t10)) (inB t11 t9.length ((dO_ n { (t9.getD t11.toNat TOp.dflt) with value:=(aa_.re ((t9.getD t11.toNat TOp.dflt).value)) }).bind fun xr1=>(cond (xr1.kind == 0) (some ((aa_.mk 0 0 [] ([]:List aa_) ([]:List Bs)),false)) (bm_ (j3.length+([(aa_.re xr1)]:List aa_).length) 80 (back t9 t10 (W (t11+1)) t20 t21 t22 j0 j1 j2 (j3++([(aa_.re xr1)]:List aa_))))))) (k0 t20 t21 t22 j0 j1 j2 j3))
def bg_.loop4 (n:Nat) (k0:bg_.K4) (N:Nat):bg_.T4:=cc_ (fun _ _ _ _ _ _ _ _ _ _=>none) (bg_.step4 n k0) N
def bg_:Nat→(List TOp)→Option (aa_ × Bool)
 |0,_=>none
 |n+1,list=>
  (bg_.loop4 n (fun xy2 xy3 xy4 xy5 xy6 xy7 xy8=>(some ((aa_.mk xy5 xy6 xy7 xy8 ([]:List Bs)),true))) n list (list.length:Int) 0 0 0 [] 4 0 [] ([]:List aa_))
abbrev bD_.K4:Type:=(List Int)→Option Bs
abbrev bD_.T4:Type:=Bs→Int→Int→(List Int)→Option Bs
def bD_.step4 (n:Nat) (k0:bD_.K4) (back:bD_.T4):bD_.T4:=fun s t7 t8 out_1=>
 (cond (decide (t8<t7)) (inB t8 s.length (cond (((s.getD t8.toNat 0).toNat:Int) == 34) (bm_ (out_1.length+([92]:List Int).length) 1 (inB t8 s.length (bm_ ((out_1++([92]:List Int)).length+([((s.getD t8.toNat 0).toNat:Int)]:List Int).length) 1 (back s t7 (W (t8+1)) ((out_1++([92]:List Int))++([((s.getD t8.toNat 0).toNat:Int)]:List Int)))))) (inB t8 s.length (cond (((s.getD t8.toNat 0).toNat:Int) == 92) (bm_ (out_1.length+([92]:List Int).length) 1 (inB t8 s.length (bm_ ((out_1++([92]:List Int)).length+([((s.getD t8.toNat 0).toNat:Int)]:List Int).length) 1 (back s t7 (W (t8+1)) ((out_1++([92]:List Int))++([((s.getD t8.toNat 0).toNat:Int)]:List Int)))))) (inB t8 s.length (bm_ (out_1.length+([((s.getD t8.toNat 0).toNat:Int)]:List Int).length) 1 (back s t7 (W (t8+1)) (out_1++([((s.getD t8.toNat 0).toNat:Int)]:List Int))))))))) (k0 out_1))
def bD_.loop4 (n:Nat) (k0:bD_.K4) (N:Nat):bD_.T4:=cc_ (fun _ _ _ _=>none) (bD_.step4 n k0) N
def bD_:Nat→Bs→Option Bs
 |0,_=>none
 |n+1,s=>
  (bD_.loop4 n (fun xy1=>(bm_ (xy1.length+([34]:List Int).length) 1 (some (pL_ (xy1++([34]:List Int)))))) n s (s.length:Int) 0 ([34]:List Int))
def strings_Join:Nat→List Bs→Bs→Option Bs
 |0,_,_=>none
 |_+1,l,s=>nJoin l s
abbrev a2_.K4_1:Type:=Int→Int→Bs→(List aa_)→(List Bs)→(List Bs)→Option Bs
abbrev a2_.T4:Type:=(List aa_)→Int→Int→Int→Int→Bs→(List aa_)→(List Bs)→(List Bs)→Option Bs
def a2_.step4 (n:Nat) (impl_written_:aa_→Option Bs) (k0:a2_.K4_1) (back:a2_.T4):a2_.T4:=fun t9 t10 t11 append0 append1 append2 append3 append4 t3=>
 (cond (decide (t11<t10)) (inB t11 t9.length ((impl_written_ (aa_.re (t9.getD t11.toNat aa_.dflt))).bind fun xr1=>(cond (append0 == 5) (inB t11 append4.length ((bD_ n (append4.getD t11.toNat [])).bind fun xr2=>(cond (decide (xr2.length+[58].length≤9223372036854775807)) (cond (decide ((xr2++[58]).length+xr1.length≤9223372036854775807)) (bm_ (t3.length+([((xr2++[58])++xr1)]:List Bs).length) 16 (back t9 t10 (W (t11+1)) append0 append1 append2 append3 append4 (t3++([((xr2++[58])++xr1)]:List Bs)))) none) none))) (bm_ (t3.length+([xr1]:List Bs).length) 16 (back t9 t10 (W (t11+1)) append0 append1 append2 append3 append4 (t3++([xr1]:List Bs))))))) (k0 append0 append1 append2 append3 append4 t3))
def a2_.loop4 (n:Nat) (impl_written_:aa_→Option Bs) (k0:a2_.K4_1) (N:Nat):a2_.T4:=cc_ (fun _ _ _ _ _ _ _ _ _=>none) (a2_.step4 n impl_written_ k0) N
def a2_:Nat→aa_→Option Bs
 |0,_=>none
 |n+1,o=>
  (a2_.loop4 n (a2_ n) (fun xy3 xy4 xy5 xy6 xy7 xy8=>(cond (xy3 == 0) (some [110,117,108,108]) (cond (xy3 == 1) (inB xy4 ([[102,97,108,115,101],[116,114,117,101]]:List Bs).length (let xv9:Bs:=(([[102,97,108,115,101],[116,114,117,101]]:List Bs).getD xy4.toNat []);(some xv9))) (cond (xy3 == 2) ((strconv_Itoa n xy4).bind fun xr10=>(some xr10)) (cond (xy3 == 3) ((bD_ n xy5).bind fun xr11=>(some xr11)) (cond (xy3 == 4) ((strings_Join n xy8 [44]).bind fun xr12=>(cond (decide ([91].length+xr12.length≤9223372036854775807)) (cond (decide ((([91]:Bs)++xr12).length+[93].length≤9223372036854775807)) (some ((([91]:Bs)++xr12)++[93])) none) none)) ((strings_Join n xy8 [44]).bind fun xr13=>(cond (decide ([123].length+xr13.length≤9223372036854775807)) (cond (decide ((([123]:Bs)++xr13).length+[125].length≤9223372036854775807)) (some ((([123]:Bs)++xr13)++[125])) none) none)))))))) n o.list (o.list.length:Int) 0 o.kind o.n_ o.s o.list o.names ([]:List Bs))
def dc_:Nat→aa_→Option Bs
 |0,_=>none
 |n+1,j=>
  ((cZ_ n (aa_.re j)).bind fun xr1=>(cond (!xr1) (some []) ((a2_ n (aa_.re j)).bind fun xr2=>(cond (decide ((xr2.length:Int) > 6000)) (some []) (some xr2)))))
def cG_:Nat→(List TOp)→Option Int
 |0,_=>none
 |n+1,list=>
  ((bg_ n list).bind fun xr1=>((dc_ n (aa_.re xr1.1)).bind fun xr2=>(cond (!xr1.2) (some (-1)) (cond (xr2 == []) (some (-1)) (some (xr2.length:Int))))))
def dh_:Nat→aa_→Option Bool
 |0,_=>none
 |n+1,j=>
  (some (j.kind == 0))
abbrev ae_.T3:Type:=(List aa_)→Int→Int→Option Int
def ae_.step3 (n:Nat) (k0:Option Int) (back:ae_.T3):ae_.T3:=fun s t7 t8=>
 (cond (decide (t8<t7)) (inB t8 s.length ((dh_ n (aa_.re (s.getD t8.toNat aa_.dflt))).bind fun xr1=>(cond xr1 (some t8) (back s t7 (W (t8+1)))))) k0)
def ae_.loop3 (n:Nat) (k0:Option Int) (N:Nat):ae_.T3:=cc_ (fun _ _ _=>none) (ae_.step3 n k0) N
def ae_:Nat→(List aa_)→Option Int
 |0,_=>none
 |n+1,s=>
  (ae_.loop3 n (some (-1)) n s (s.length:Int) 0)
def a1_:Nat→(List aa_)→Option Bool
 |0,_=>none
 |n+1,s=>
  ((ae_ n s).bind fun xr1=>(some (decide (xr1≥0))))
def ec_:Nat→an_→(List TRow)→(List Int)→Option aa_
 |0,_,_,_=>none
 |n+1,q,rows,kids=>
  ((bf_ n q rows kids).bind fun xr1=>((a1_ n xr1).bind fun xr2=>(cond xr2 (some (aa_.mk 0 0 [] ([]:List aa_) ([]:List Bs))) ((cD_ n (aa_.mk 5 0 [] ([(aa_.mk 2 (rows.length:Int) [] [] []),(aa_.mk 4 0 [] xr1 [])]:List aa_) ([[99,111,117,110,116],[114,111,119,115]]:List Bs))).bind fun xr3=>(some (aa_.re xr3))))))
def c8_:Nat→aD_→Option aa_
 |0,_=>none
 |n+1,v=>
  ((aQ_ n v).bind fun xr1=>((ec_ n v.q v.rows xr1).bind fun xr2=>(some (aa_.re xr2))))
def dz_:Nat→aD_→aD_→Option Bool
 |0,_,_=>none
 |n+1,a,b=>
  ((cF_ n a b).bind fun xr1=>((cG_ n xr1).bind fun xr2=>(cond (decide ((xr1.length:Int)≤40)) (cond (decide (xr2≥0)) ((c8_ n b).bind fun xr3=>((dc_ n (aa_.re xr3)).bind fun xr4=>(some (decide (xr2<(xr4.length:Int)))))) (some false)) (some false))))
abbrev bq_.K3:Type:=(List a6_)→(List a6_)→Option Bool
abbrev bq_.T3:Type:=(List a6_)→(List a6_)→Int→Option Bool
def bq_.step3 (n:Nat) (k0:bq_.K3) (back:bq_.T3):bq_.T3:=fun a b i=>
 (cond (decide (i<(a.length:Int))) (cond (decide (i<(b.length:Int))) (inB i a.length (inB i b.length (let xv1:Bool:=(!(cond (((a.getD i.toNat a6_.dflt).col) == ((b.getD i.toNat a6_.dflt).col)) (cond (((a.getD i.toNat a6_.dflt).op) == ((b.getD i.toNat a6_.dflt).op)) (cond (((a.getD i.toNat a6_.dflt).v) == ((b.getD i.toNat a6_.dflt).v)) true false) false) false));(cond xv1 (some false) (back a b (W (i+1))))))) (k0 a b)) (k0 a b))
def bq_.loop3 (n:Nat) (k0:bq_.K3) (N:Nat):bq_.T3:=cc_ (fun _ _ _=>none) (bq_.step3 n k0) N
def bq_:Nat→(List a6_)→(List a6_)→Option Bool
 |0,_,_=>none
 |n+1,a,b=>
  (bq_.loop3 n (fun xy2 xy3=>(some ((xy2.length:Int) == (xy3.length:Int)))) n a b 0)
abbrev bI_.K3:Type:=(List Int)→(List Int)→Option Bool
abbrev bI_.T3:Type:=(List Int)→(List Int)→Int→Option Bool
def bI_.step3 (n:Nat) (k0:bI_.K3) (back:bI_.T3):bI_.T3:=fun a b i=>
 (cond (decide (i<(a.length:Int))) (cond (decide (i<(b.length:Int))) (inB i a.length (inB i b.length (cond ((a.getD i.toNat 0) != (b.getD i.toNat 0)) (some false) (back a b (W (i+1)))))) (k0 a b)) (k0 a b))
def bI_.loop3 (n:Nat) (k0:bI_.K3) (N:Nat):bI_.T3:=cc_ (fun _ _ _=>none) (bI_.step3 n k0) N
def bI_:Nat→(List Int)→(List Int)→Option Bool
 |0,_,_=>none
 |n+1,a,b=>
  (bI_.loop3 n (fun xy1 xy2=>(some ((xy1.length:Int) == (xy2.length:Int)))) n a b 0)
def c5_:Nat→an_→an_→Option Bool
 |0,_,_=>none
 |n+1,o,append=>
  (cond (o.table == append.table) ((bq_ n o.where_ append.where_).bind fun xr1=>(cond xr1 (cond (o.order == append.order) (cond (o.down == append.down) (cond (o.first == append.first) ((bI_ n o.show_ append.show_).bind fun xr2=>(cond xr2 (cond (o.kids == append.kids) (cond (o.kidTable == append.kidTable) (some (o.kidCol == append.kidCol)) (some false)) (some false)) (some false))) (some false)) (some false)) (some false)) (some false))) (some false))
abbrev bM_.T3:Type:=Bs→Int→Option Bool
def bM_.step3 (n:Nat) (k0:Bs→Option Bool) (back:bM_.T3):bM_.T3:=fun s i=>
 (cond (decide (i<(s.length:Int))) (inB i s.length (cond (decide (((s.getD i.toNat 0).toNat:Int)<32)) (some false) (inB i s.length (cond (decide (((s.getD i.toNat 0).toNat:Int) > 126)) (some false) (back s (W (i+1))))))) (k0 s))
def bM_.loop3 (n:Nat) (k0:Bs→Option Bool) (N:Nat):bM_.T3:=cc_ (fun _ _=>none) (bM_.step3 n k0) N
def bM_:Nat→Bs→Option Bool
 |0,_=>none
 |n+1,s=>
  (bM_.loop3 n (fun xy1=>(some (decide ((xy1.length:Int)≤60)))) n s 0)
abbrev ac_.K6:Type:=Int→Int→Bs→(List aa_)→(List Bs)→Option Bool
abbrev ac_.T6:Type:=Int→Int→Int→Bs→(List aa_)→(List Bs)→Option Bool
def ac_.step6 (n:Nat) (k0:ac_.K6) (back:ac_.T6):ac_.T6:=fun i j0 j1 j2 j3 j4=>
 (cond (decide (i<(j4.length:Int))) (inB i j4.length ((bM_ n (j4.getD i.toNat [])).bind fun xr1=>(cond (!xr1) (some false) (cond (decide (i > 0)) (inB (W (i - 1)) j4.length (inB i j4.length (cond (!Op.bytesLess (j4.getD (W (i - 1)).toNat []) (j4.getD i.toNat [])) (some false) (back (W (i+1)) j0 j1 j2 j3 j4)))) (back (W (i+1)) j0 j1 j2 j3 j4))))) (k0 j0 j1 j2 j3 j4))
def ac_.loop6 (n:Nat) (k0:ac_.K6) (N:Nat):ac_.T6:=cc_ (fun _ _ _ _ _ _=>none) (ac_.step6 n k0) N
def ac_:Nat→aa_→Option Bool
 |0,_=>none
 |n+1,j=>
  (cond (j.kind != 5) (some ((j.names.length:Int) == 0)) (ac_.loop6 n (fun xy2 xy3 xy4 xy5 xy6=>(some ((xy6.length:Int) == (xy5.length:Int)))) n 0 j.kind j.n_ j.s j.list j.names))
abbrev aM_.K23_1:Type:=Int→Int→Int→Int→Bs→(List aa_)→(List Bs)→Option Int
abbrev aM_.T23:Type:=Int→Int→Int→Int→Int→Int→Bs→(List aa_)→(List Bs)→Option Int
def aM_.step23 (n:Nat) (spec_l1Great_:aa_→Int→Option Int) (k1:aM_.K23_1) (back:aM_.T23):aM_.T23:=fun append t5 t6 t7 t20 t21 t22 t23 t24=>
 (cond (decide (t7<(t23.length:Int))) (cond (decide (t6≤400)) (inB t7 t23.length ((spec_l1Great_ (aa_.re (t23.getD t7.toNat aa_.dflt)) (W (append - 1))).bind fun xr52=>(back append t5 (W (t6+xr52)) (W (t7+1)) t20 t21 t22 t23 t24))) (k1 t5 t6 t20 t21 t22 t23 t24)) (k1 t5 t6 t20 t21 t22 t23 t24))
def aM_.loop23 (n:Nat) (spec_l1Great_:aa_→Int→Option Int) (k1:aM_.K23_1) (N:Nat):aM_.T23:=cc_ (fun _ _ _ _ _ _ _ _ _=>none) (aM_.step23 n spec_l1Great_ k1) N
def aM_:Nat→aa_→Int→Option Int
 |0,_,_=>none
 |n+1,o,append=>
  (cond (append == 0) (some 401) (cond (o.kind == 0) (cond (o.n_ != 0) (some 401) (cond (o.kind != 3) (cond (!(o.s == [])) (some 401) (cond (o.kind == 3) (cond (o.n_ != 0) (some 401) (cond (decide (o.kind<4)) (cond (decide ((o.list.length:Int) > 0)) (some 401) ((ac_ n (aa_.re o)).bind fun xr1=>(cond (!xr1) (some 401) (some 1)))) ((ac_ n (aa_.re o)).bind fun xr2=>(cond (!xr2) (some 401) (some 1))))) (cond (decide (o.kind≥4)) (cond (o.n_ != 0) (some 401) (cond (decide (o.kind<4)) (cond (decide ((o.list.length:Int) > 0)) (some 401) ((ac_ n (aa_.re o)).bind fun xr3=>(cond (!xr3) (some 401) (some 1)))) ((ac_ n (aa_.re o)).bind fun xr4=>(cond (!xr4) (some 401) (some 1))))) (cond (decide (o.kind<4)) (cond (decide ((o.list.length:Int) > 0)) (some 401) ((ac_ n (aa_.re o)).bind fun xr5=>(cond (!xr5) (some 401) (some 1)))) ((ac_ n (aa_.re o)).bind fun xr6=>(cond (!xr6) (some 401) (some 1))))))) (cond (o.kind == 3) (cond (o.n_ != 0) (some 401) (cond (decide (o.kind<4)) (cond (decide ((o.list.length:Int) > 0)) (some 401) ((ac_ n (aa_.re o)).bind fun xr7=>(cond (!xr7) (some 401) (some 1)))) ((ac_ n (aa_.re o)).bind fun xr8=>(cond (!xr8) (some 401) (some 1))))) (cond (decide (o.kind≥4)) (cond (o.n_ != 0) (some 401) (cond (decide (o.kind<4)) (cond (decide ((o.list.length:Int) > 0)) (some 401) ((ac_ n (aa_.re o)).bind fun xr9=>(cond (!xr9) (some 401) (some 1)))) ((ac_ n (aa_.re o)).bind fun xr10=>(cond (!xr10) (some 401) (some 1))))) (cond (decide (o.kind<4)) (cond (decide ((o.list.length:Int) > 0)) (some 401) ((ac_ n (aa_.re o)).bind fun xr11=>(cond (!xr11) (some 401) (some 1)))) ((ac_ n (aa_.re o)).bind fun xr12=>(cond (!xr12) (some 401) (some 1)))))))) (cond (o.kind == 1) ((bX_ n o.n_ 0 1).bind fun xr13=>(cond (!xr13) (some 401) (cond (o.kind != 3) (cond (!(o.s == [])) (some 401) (cond (o.kind == 3) (cond (o.n_ != 0) (some 401) (cond (decide (o.kind<4)) (cond (decide ((o.list.length:Int) > 0)) (some 401) ((ac_ n (aa_.re o)).bind fun xr14=>(cond (!xr14) (some 401) (some 1)))) ((ac_ n (aa_.re o)).bind fun xr15=>(cond (!xr15) (some 401) (some 1))))) (cond (decide (o.kind≥4)) (cond (o.n_ != 0) (some 401) (cond (decide (o.kind<4)) (cond (decide ((o.list.length:Int) > 0)) (some 401) ((ac_ n (aa_.re o)).bind fun xr16=>(cond (!xr16) (some 401) (some 1)))) ((ac_ n (aa_.re o)).bind fun xr17=>(cond (!xr17) (some 401) (some 1))))) (cond (decide (o.kind<4)) (cond (decide ((o.list.length:Int) > 0)) (some 401) ((ac_ n (aa_.re o)).bind fun xr18=>(cond (!xr18) (some 401) (some 1)))) ((ac_ n (aa_.re o)).bind fun xr19=>(cond (!xr19) (some 401) (some 1))))))) (cond (o.kind == 3) (cond (o.n_ != 0) (some 401) (cond (decide (o.kind<4)) (cond (decide ((o.list.length:Int) > 0)) (some 401) ((ac_ n (aa_.re o)).bind fun xr20=>(cond (!xr20) (some 401) (some 1)))) ((ac_ n (aa_.re o)).bind fun xr21=>(cond (!xr21) (some 401) (some 1))))) (cond (decide (o.kind≥4)) (cond (o.n_ != 0) (some 401) (cond (decide (o.kind<4)) (cond (decide ((o.list.length:Int) > 0)) (some 401) ((ac_ n (aa_.re o)).bind fun xr22=>(cond (!xr22) (some 401) (some 1)))) ((ac_ n (aa_.re o)).bind fun xr23=>(cond (!xr23) (some 401) (some 1))))) (cond (decide (o.kind<4)) (cond (decide ((o.list.length:Int) > 0)) (some 401) ((ac_ n (aa_.re o)).bind fun xr24=>(cond (!xr24) (some 401) (some 1)))) ((ac_ n (aa_.re o)).bind fun xr25=>(cond (!xr25) (some 401) (some 1))))))))) (cond (o.kind == 2) ((bX_ n o.n_ (-1000000000) 1000000000).bind fun xr26=>(cond (!xr26) (some 401) (cond (o.kind != 3) (cond (!(o.s == [])) (some 401) (cond (o.kind == 3) (cond (o.n_ != 0) (some 401) (cond (decide (o.kind<4)) (cond (decide ((o.list.length:Int) > 0)) (some 401) ((ac_ n (aa_.re o)).bind fun xr27=>(cond (!xr27) (some 401) (some 1)))) ((ac_ n (aa_.re o)).bind fun xr28=>(cond (!xr28) (some 401) (some 1))))) (cond (decide (o.kind≥4)) (cond (o.n_ != 0) (some 401) (cond (decide (o.kind<4)) (cond (decide ((o.list.length:Int) > 0)) (some 401) ((ac_ n (aa_.re o)).bind fun xr29=>(cond (!xr29) (some 401) (some 1)))) ((ac_ n (aa_.re o)).bind fun xr30=>(cond (!xr30) (some 401) (some 1))))) (cond (decide (o.kind<4)) (cond (decide ((o.list.length:Int) > 0)) (some 401) ((ac_ n (aa_.re o)).bind fun xr31=>(cond (!xr31) (some 401) (some 1)))) ((ac_ n (aa_.re o)).bind fun xr32=>(cond (!xr32) (some 401) (some 1))))))) (cond (o.kind == 3) (cond (o.n_ != 0) (some 401) (cond (decide (o.kind<4)) (cond (decide ((o.list.length:Int) > 0)) (some 401) ((ac_ n (aa_.re o)).bind fun xr33=>(cond (!xr33) (some 401) (some 1)))) ((ac_ n (aa_.re o)).bind fun xr34=>(cond (!xr34) (some 401) (some 1))))) (cond (decide (o.kind≥4)) (cond (o.n_ != 0) (some 401) (cond (decide (o.kind<4)) (cond (decide ((o.list.length:Int) > 0)) (some 401) ((ac_ n (aa_.re o)).bind fun xr35=>(cond (!xr35) (some 401) (some 1)))) ((ac_ n (aa_.re o)).bind fun xr36=>(cond (!xr36) (some 401) (some 1))))) (cond (decide (o.kind<4)) (cond (decide ((o.list.length:Int) > 0)) (some 401) ((ac_ n (aa_.re o)).bind fun xr37=>(cond (!xr37) (some 401) (some 1)))) ((ac_ n (aa_.re o)).bind fun xr38=>(cond (!xr38) (some 401) (some 1))))))))) (cond (o.kind == 3) ((bM_ n o.s).bind fun xr39=>(cond (!xr39) (some 401) (cond (o.kind != 3) (cond (!(o.s == [])) (some 401) (cond (o.kind == 3) (cond (o.n_ != 0) (some 401) (cond (decide (o.kind<4)) (cond (decide ((o.list.length:Int) > 0)) (some 401) ((ac_ n (aa_.re o)).bind fun xr40=>(cond (!xr40) (some 401) (some 1)))) ((ac_ n (aa_.re o)).bind fun xr41=>(cond (!xr41) (some 401) (some 1))))) (cond (decide (o.kind≥4)) (cond (o.n_ != 0) (some 401) (cond (decide (o.kind<4)) (cond (decide ((o.list.length:Int) > 0)) (some 401) ((ac_ n (aa_.re o)).bind fun xr42=>(cond (!xr42) (some 401) (some 1)))) ((ac_ n (aa_.re o)).bind fun xr43=>(cond (!xr43) (some 401) (some 1))))) (cond (decide (o.kind<4)) (cond (decide ((o.list.length:Int) > 0)) (some 401) ((ac_ n (aa_.re o)).bind fun xr44=>(cond (!xr44) (some 401) (some 1)))) ((ac_ n (aa_.re o)).bind fun xr45=>(cond (!xr45) (some 401) (some 1))))))) (cond (o.kind == 3) (cond (o.n_ != 0) (some 401) (cond (decide (o.kind<4)) (cond (decide ((o.list.length:Int) > 0)) (some 401) ((ac_ n (aa_.re o)).bind fun xr46=>(cond (!xr46) (some 401) (some 1)))) ((ac_ n (aa_.re o)).bind fun xr47=>(cond (!xr47) (some 401) (some 1))))) (cond (decide (o.kind≥4)) (cond (o.n_ != 0) (some 401) (cond (decide (o.kind<4)) (cond (decide ((o.list.length:Int) > 0)) (some 401) ((ac_ n (aa_.re o)).bind fun xr48=>(cond (!xr48) (some 401) (some 1)))) ((ac_ n (aa_.re o)).bind fun xr49=>(cond (!xr49) (some 401) (some 1))))) (cond (decide (o.kind<4)) (cond (decide ((o.list.length:Int) > 0)) (some 401) ((ac_ n (aa_.re o)).bind fun xr50=>(cond (!xr50) (some 401) (some 1)))) ((ac_ n (aa_.re o)).bind fun xr51=>(cond (!xr51) (some 401) (some 1))))))))) (cond (o.kind == 4) (cond (o.kind == 4) (aM_.loop23 n (aM_ n) (fun xy53 xy54 xy55 xy56 xy57 xy58 xy59=>(cond (xy55 != 3) (cond (!(xy57 == [])) (some xy53) (cond (xy55 == 3) (cond (xy56 != 0) (some xy53) (cond (decide (xy55<4)) (cond (decide ((xy58.length:Int) > 0)) (some xy53) ((ac_ n (aa_.mk xy55 xy56 xy57 xy58 xy59)).bind fun xr60=>(cond (!xr60) (some xy53) (some xy54)))) ((ac_ n (aa_.mk xy55 xy56 xy57 xy58 xy59)).bind fun xr61=>(cond (!xr61) (some xy53) (some xy54))))) (cond (decide (xy55≥4)) (cond (xy56 != 0) (some xy53) (cond (decide (xy55<4)) (cond (decide ((xy58.length:Int) > 0)) (some xy53) ((ac_ n (aa_.mk xy55 xy56 xy57 xy58 xy59)).bind fun xr62=>(cond (!xr62) (some xy53) (some xy54)))) ((ac_ n (aa_.mk xy55 xy56 xy57 xy58 xy59)).bind fun xr63=>(cond (!xr63) (some xy53) (some xy54))))) (cond (decide (xy55<4)) (cond (decide ((xy58.length:Int) > 0)) (some xy53) ((ac_ n (aa_.mk xy55 xy56 xy57 xy58 xy59)).bind fun xr64=>(cond (!xr64) (some xy53) (some xy54)))) ((ac_ n (aa_.mk xy55 xy56 xy57 xy58 xy59)).bind fun xr65=>(cond (!xr65) (some xy53) (some xy54))))))) (cond (xy55 == 3) (cond (xy56 != 0) (some xy53) (cond (decide (xy55<4)) (cond (decide ((xy58.length:Int) > 0)) (some xy53) ((ac_ n (aa_.mk xy55 xy56 xy57 xy58 xy59)).bind fun xr66=>(cond (!xr66) (some xy53) (some xy54)))) ((ac_ n (aa_.mk xy55 xy56 xy57 xy58 xy59)).bind fun xr67=>(cond (!xr67) (some xy53) (some xy54))))) (cond (decide (xy55≥4)) (cond (xy56 != 0) (some xy53) (cond (decide (xy55<4)) (cond (decide ((xy58.length:Int) > 0)) (some xy53) ((ac_ n (aa_.mk xy55 xy56 xy57 xy58 xy59)).bind fun xr68=>(cond (!xr68) (some xy53) (some xy54)))) ((ac_ n (aa_.mk xy55 xy56 xy57 xy58 xy59)).bind fun xr69=>(cond (!xr69) (some xy53) (some xy54))))) (cond (decide (xy55<4)) (cond (decide ((xy58.length:Int) > 0)) (some xy53) ((ac_ n (aa_.mk xy55 xy56 xy57 xy58 xy59)).bind fun xr70=>(cond (!xr70) (some xy53) (some xy54)))) ((ac_ n (aa_.mk xy55 xy56 xy57 xy58 xy59)).bind fun xr71=>(cond (!xr71) (some xy53) (some xy54)))))))) n append 401 1 0 o.kind o.n_ o.s o.list o.names) (some 401)) (cond (o.kind == 5) (aM_.loop23 n (aM_ n) (fun xy72 xy73 xy74 xy75 xy76 xy77 xy78=>(cond (xy74 != 3) (cond (!(xy76 == [])) (some xy72) (cond (xy74 == 3) (cond (xy75 != 0) (some xy72) (cond (decide (xy74<4)) (cond (decide ((xy77.length:Int) > 0)) (some xy72) ((ac_ n (aa_.mk xy74 xy75 xy76 xy77 xy78)).bind fun xr79=>(cond (!xr79) (some xy72) (some xy73)))) ((ac_ n (aa_.mk xy74 xy75 xy76 xy77 xy78)).bind fun xr80=>(cond (!xr80) (some xy72) (some xy73))))) (cond (decide (xy74≥4)) (cond (xy75 != 0) (some xy72) (cond (decide (xy74<4)) (cond (decide ((xy77.length:Int) > 0)) (some xy72) ((ac_ n (aa_.mk xy74 xy75 xy76 xy77 xy78)).bind fun xr81=>(cond (!xr81) (some xy72) (some xy73)))) ((ac_ n (aa_.mk xy74 xy75 xy76 xy77 xy78)).bind fun xr82=>(cond (!xr82) (some xy72) (some xy73))))) (cond (decide (xy74<4)) (cond (decide ((xy77.length:Int) > 0)) (some xy72) ((ac_ n (aa_.mk xy74 xy75 xy76 xy77 xy78)).bind fun xr83=>(cond (!xr83) (some xy72) (some xy73)))) ((ac_ n (aa_.mk xy74 xy75 xy76 xy77 xy78)).bind fun xr84=>(cond (!xr84) (some xy72) (some xy73))))))) (cond (xy74 == 3) (cond (xy75 != 0) (some xy72) (cond (decide (xy74<4)) (cond (decide ((xy77.length:Int) > 0)) (some xy72) ((ac_ n (aa_.mk xy74 xy75 xy76 xy77 xy78)).bind fun xr85=>(cond (!xr85) (some xy72) (some xy73)))) ((ac_ n (aa_.mk xy74 xy75 xy76 xy77 xy78)).bind fun xr86=>(cond (!xr86) (some xy72) (some xy73))))) (cond (decide (xy74≥4)) (cond (xy75 != 0) (some xy72) (cond (decide (xy74<4)) (cond (decide ((xy77.length:Int) > 0)) (some xy72) ((ac_ n (aa_.mk xy74 xy75 xy76 xy77 xy78)).bind fun xr87=>(cond (!xr87) (some xy72) (some xy73)))) ((ac_ n (aa_.mk xy74 xy75 xy76 xy77 xy78)).bind fun xr88=>(cond (!xr88) (some xy72) (some xy73))))) (cond (decide (xy74<4)) (cond (decide ((xy77.length:Int) > 0)) (some xy72) ((ac_ n (aa_.mk xy74 xy75 xy76 xy77 xy78)).bind fun xr89=>(cond (!xr89) (some xy72) (some xy73)))) ((ac_ n (aa_.mk xy74 xy75 xy76 xy77 xy78)).bind fun xr90=>(cond (!xr90) (some xy72) (some xy73)))))))) n append 401 1 0 o.kind o.n_ o.s o.list o.names) (some 401))))))))
def cM_:Nat→aa_→Option Bool
 |0,_=>none
 |n+1,j=>
  ((aM_ n (aa_.re j) 6).bind fun xr1=>(some (decide (xr1≤400))))
def d8_:Nat→Int→Option aa_
 |0,_=>none
 |n+1,n1=>
  ((cM_ n (aa_.mk 2 n1 [] [] [])).bind fun xr1=>(cond (!xr1) (some (aa_.mk 0 0 [] ([]:List aa_) ([]:List Bs))) (some (aa_.mk 2 n1 [] ([]:List aa_) ([]:List Bs)))))
def d7_:Nat→Int→Int→Option Int
 |0,_,_=>none
 |n+1,a,b=>
  (cond (decide (a<b)) (some a) (some b))
def c4_:Nat→an_→Int→Option Int
 |0,_,_=>none
 |n+1,q,n1=>
  (cond (q.first == 0) (some n1) ((d7_ n n1 q.first).bind fun xr1=>((cp_ n xr1 0).bind fun xr2=>(some xr2))))
abbrev bP_.T3:Type:=Int→Int→Int→(List a6_)→Int→Bool→Int→(List Int)→Bool→Int→Int→(List TRow)→(List TKid)→Option Int
def bP_.step3 (n:Nat) (k0:Option Int) (back:bP_.T3):bP_.T3:=fun id_1 i v0 v1 v2 v3 v4 v5 v6 v7 v8 v9 v10=>
 (cond (decide (i<(v10.length:Int))) (inB i v10.length (cond (((v10.getD i.toNat TKid.dflt).id_) == id_1) (inB i v10.length (some ((v10.getD i.toNat TKid.dflt).n_))) (back id_1 (W (i+1)) v0 v1 v2 v3 v4 v5 v6 v7 v8 v9 v10))) k0)
def bP_.loop3 (n:Nat) (k0:Option Int) (N:Nat):bP_.T3:=cc_ (fun _ _ _ _ _ _ _ _ _ _ _ _ _=>none) (bP_.step3 n k0) N
def bP_:Nat→aD_→Int→Option Int
 |0,_,_=>none
 |n+1,v,id1=>
  (bP_.loop3 n (some 0) n id1 0 v.q.table v.q.where_ v.q.order v.q.down v.q.first v.q.show_ v.q.kids v.q.kidTable v.q.kidCol v.rows v.kids)
abbrev aV_.K7:Type:=Bool→Bs→Option Bs
abbrev aV_.T7:Type:=Int→Bool→Bs→Option Bs
def aV_.step7 (n:Nat) (k0:aV_.K7) (back:aV_.T7):aV_.T7:=fun n_1 below out_1=>
 (cond (n_1 != 0) (cond (decide ((Int.tmod n_1 10)<0)) (let xv1:Bs:=(pL_ ([(IntKind.u8.wrap ((W (48+(W (0 - (Int.tmod n_1 10)))))))]:List Int));(cond (decide (xv1.length+out_1.length≤9223372036854775807)) (back (W (Int.tdiv n_1 10)) below (xv1++out_1)) none)) (cond (decide ((pL_ ([(IntKind.u8.wrap ((W (48+(Int.tmod n_1 10)))))]:List Int)).length+out_1.length≤9223372036854775807)) (let xv2:Bs:=((pL_ ([(IntKind.u8.wrap ((W (48+(Int.tmod n_1 10)))))]:List Int))++out_1);(back (W (Int.tdiv n_1 10)) below xv2)) none)) (k0 below out_1))
def aV_.loop7 (n:Nat) (k0:aV_.K7) (N:Nat):aV_.T7:=cc_ (fun _ _ _=>none) (aV_.step7 n k0) N
def aV_:Nat→Int→Option Bs
 |0,_=>none
 |n+1,n1=>
  (cond (n1 == 0) (some [48]) (aV_.loop7 n (fun xy3 xy4=>(cond xy3 (cond (decide ([45].length+xy4.length≤9223372036854775807)) (some (([45]:Bs)++xy4)) none) (some xy4))) n n1 (decide (n1<0)) []))
def cL_:Nat→Int→Option aa_
 |0,_=>none
 |n+1,n1=>
  (some (aa_.mk 2 n1 [] ([]:List aa_) ([]:List Bs)))
abbrev bx_.K5:Type:=Bs→Bool→Int→Int→Bs→(List aa_)→(List Bs)→Int→Int→Bs→Int→Int→Bs→(List aa_)→(List Bs)→Option aa_
abbrev bx_.T5:Type:=Bs→Bool→Int→Int→Int→Bs→(List aa_)→(List Bs)→Int→Int→Bs→(List aa_)→(List Bs)→Int→Int→Bs→Int→Int→Bs→(List aa_)→(List Bs)→Option aa_
def bx_.step5 (n:Nat) (k0:bx_.K5) (back:bx_.T5):bx_.T5:=fun append t8 t9 t30 t31 t32 t33 t34 t50 t51 t52 t53 t54 t60 t61 t62 t70 t71 t72 t73 t74=>
 (cond (decide (t9<(t34.length:Int))) (cond (!t8) (inB t9 t34.length (cond (!Op.bytesLess (t34.getD t9.toNat []) append) (bm_ (t74.length+([append]:List Bs).length) 16 (bm_ (t73.length+([(aa_.mk t50 t51 t52 t53 t54)]:List aa_).length) 80 (inB t9 t34.length (cond (!((t34.getD t9.toNat []) == append)) (inB t9 t34.length (bm_ ((t74++([append]:List Bs)).length+([(t34.getD t9.toNat [])]:List Bs).length) 16 (inB t9 t33.length (bm_ ((t73++([(aa_.mk t50 t51 t52 t53 t54)]:List aa_)).length+([(aa_.re (t33.getD t9.toNat aa_.dflt))]:List aa_).length) 80 (back append true (W (t9+1)) t30 t31 t32 t33 t34 t50 t51 t52 t53 t54 t60 t61 t62 t70 t71 t72 ((t73++([(aa_.mk t50 t51 t52 t53 t54)]:List aa_))++([(aa_.re (t33.getD t9.toNat aa_.dflt))]:List aa_)) ((t74++([append]:List Bs))++([(t34.getD t9.toNat [])]:List Bs))))))) (back append true (W (t9+1)) t30 t31 t32 t33 t34 t50 t51 t52 t53 t54 t60 t61 t62 t70 t71 t72 (t73++([(aa_.mk t50 t51 t52 t53 t54)]:List aa_)) (t74++([append]:List Bs))))))) (inB t9 t34.length (cond (!((t34.getD t9.toNat []) == append)) (inB t9 t34.length (bm_ (t74.length+([(t34.getD t9.toNat [])]:List Bs).length) 16 (inB t9 t33.length (bm_ (t73.length+([(aa_.re (t33.getD t9.toNat aa_.dflt))]:List aa_).length) 80 (back append t8 (W (t9+1)) t30 t31 t32 t33 t34 t50 t51 t52 t53 t54 t60 t61 t62 t70 t71 t72 (t73++([(aa_.re (t33.getD t9.toNat aa_.dflt))]:List aa_)) (t74++([(t34.getD t9.toNat [])]:List Bs))))))) (back append t8 (W (t9+1)) t30 t31 t32 t33 t34 t50 t51 t52 t53 t54 t60 t61 t62 t70 t71 t72 t73 t74))))) (inB t9 t34.length (cond (!((t34.getD t9.toNat []) == append)) (inB t9 t34.length (bm_ (t74.length+([(t34.getD t9.toNat [])]:List Bs).length) 16 (inB t9 t33.length (bm_ (t73.length+([(aa_.re (t33.getD t9.toNat aa_.dflt))]:List aa_).length) 80 (back append t8 (W (t9+1)) t30 t31 t32 t33 t34 t50 t51 t52 t53 t54 t60 t61 t62 t70 t71 t72 (t73++([(aa_.re (t33.getD t9.toNat aa_.dflt))]:List aa_)) (t74++([(t34.getD t9.toNat [])]:List Bs))))))) (back append t8 (W (t9+1)) t30 t31 t32 t33 t34 t50 t51 t52 t53 t54 t60 t61 t62 t70 t71 t72 t73 t74)))) (k0 append t8 t50 t51 t52 t53 t54 t60 t61 t62 t70 t71 t72 t73 t74))
def bx_.loop5 (n:Nat) (k0:bx_.K5) (N:Nat):bx_.T5:=cc_ (fun _ _ _ _ _ _ _ _ _ _ _ _ _ _ _ _ _ _ _ _ _=>none) (bx_.step5 n k0) N
def bx_:Nat→aa_→Bs→aa_→Option aa_
 |0,_,_,_=>none
 |n+1,o,append,a2=>
  (bx_.loop5 n (fun xy1 xy2 xy3 xy4 xy5 xy6 xy7 xy8 xy9 xy10 xy11 xy12 xy13 xy14 xy15=>(cond (!xy2) (bm_ (xy15.length+([xy1]:List Bs).length) 16 (bm_ (xy14.length+([(aa_.mk xy3 xy4 xy5 xy6 xy7)]:List aa_).length) 80 (some (aa_.mk xy11 xy12 xy13 (xy14++([(aa_.mk xy3 xy4 xy5 xy6 xy7)]:List aa_)) (xy15++([xy1]:List Bs)))))) (some (aa_.mk xy11 xy12 xy13 xy14 xy15)))) n append false 0 o.kind o.n_ o.s o.list o.names a2.kind a2.n_ a2.s a2.list a2.names 0 0 [] 5 0 [] ([]:List aa_) ([]:List Bs))
abbrev bv_.K4:Type:=Int→Int→(List a6_)→Int→Bool→Int→(List Int)→Bool→Int→Int→Int→(List Int)→Int→Int→Bs→Int→Int→Bs→(List aa_)→(List Bs)→Option aa_
abbrev bv_.T4:Type:=Int→Int→Int→(List a6_)→Int→Bool→Int→(List Int)→Bool→Int→Int→Int→(List Int)→Int→Int→Bs→Int→Int→Bs→(List aa_)→(List Bs)→Option aa_
def bv_.step4 (n:Nat) (k0:bv_.K4) (back:bv_.T4):bv_.T4:=fun kids i q0 q1 q2 q3 q4 q5 q6 q7 q8 r0 r1 t60 t61 t62 out0 out1 out2 out3 out4=>
 (cond (decide (i<(q5.length:Int))) (inB i q5.length ((aV_ n (q5.getD i.toNat 0)).bind fun xr1=>(cond (decide ([99].length+xr1.length≤9223372036854775807)) (inB i q5.length ((bz_ n (TRow.mk r0 r1) (q5.getD i.toNat 0)).bind fun xr2=>((cL_ n xr2).bind fun xr3=>((bx_ n (aa_.mk out0 out1 out2 out3 out4) (([99]:Bs)++xr1) (aa_.re xr3)).bind fun xr4=>(back kids (W (i+1)) q0 q1 q2 q3 q4 q5 q6 q7 q8 r0 r1 t60 t61 t62 xr4.kind xr4.n_ xr4.s xr4.list xr4.names))))) none))) (k0 kids q0 q1 q2 q3 q4 q5 q6 q7 q8 r0 r1 t60 t61 t62 out0 out1 out2 out3 out4))
def bv_.loop4 (n:Nat) (k0:bv_.K4) (N:Nat):bv_.T4:=cc_ (fun _ _ _ _ _ _ _ _ _ _ _ _ _ _ _ _ _ _ _ _ _=>none) (bv_.step4 n k0) N
def bv_:Nat→an_→TRow→Int→Option aa_
 |0,_,_,_=>none
 |n+1,q,r,kids=>
  (bv_.loop4 n (fun xy5 xy6 xy7 xy8 xy9 xy10 xy11 xy12 xy13 xy14 xy15 xy16 xy17 xy18 xy19 xy20 xy21 xy22 xy23 xy24=>((cL_ n xy15).bind fun xr25=>((bx_ n (aa_.mk xy20 xy21 xy22 xy23 xy24) [105,100] (aa_.re xr25)).bind fun xr26=>(cond xy12 ((cL_ n xy5).bind fun xr27=>((bx_ n (aa_.re xr26) [107,105,100,115] (aa_.re xr27)).bind fun xr28=>(some (aa_.re xr28)))) (some (aa_.re xr26)))))) n kids 0 q.table q.where_ q.order q.down q.first q.show_ q.kids q.kidTable q.kidCol r.id_ r.cells 0 0 [] 5 0 [] ([]:List aa_) ([]:List Bs))
def cQ_:Nat→aa_→Option aa_
 |0,_=>none
 |n+1,j=>
  ((cM_ n (aa_.re j)).bind fun xr1=>(cond (!xr1) (some (aa_.mk 0 0 [] [] [])) (some (aa_.re j))))
def dI_:Nat→an_→TRow→Int→Option aa_
 |0,_,_,_=>none
 |n+1,q,r,kids=>
  ((bv_ n q r kids).bind fun xr1=>((cQ_ n (aa_.re xr1)).bind fun xr2=>(some (aa_.re xr2))))
abbrev bb_.K5:Type:=(List aa_)→(List Int)→Option ((List aa_) × (List Int))
abbrev bb_.T5:Type:=Int→Int→(List a6_)→Int→Bool→Int→(List Int)→Bool→Int→Int→(List TRow)→(List TKid)→(List aa_)→(List Int)→Option ((List aa_) × (List Int))
def bb_.step5 (n:Nat) (k0:bb_.K5) (back:bb_.T5):bb_.T5:=fun i v0 v1 v2 v3 v4 v5 v6 v7 v8 v9 v10 list keys=>
 ((c4_ n (an_.mk v0 v1 v2 v3 v4 v5 v6 v7 v8) (v9.length:Int)).bind fun xr1=>(cond (decide (i<xr1)) (inB i v9.length (inB i v9.length ((bP_ n (aD_.mk (an_.mk v0 v1 v2 v3 v4 v5 v6 v7 v8) v9 v10) ((v9.getD i.toNat TRow.dflt).id_)).bind fun xr2=>((dI_ n (an_.mk v0 v1 v2 v3 v4 v5 v6 v7 v8) (v9.getD i.toNat TRow.dflt) xr2).bind fun xr3=>(bm_ (list.length+([(aa_.re xr3)]:List aa_).length) 80 (inB i v9.length (bm_ (keys.length+([(v9.getD i.toNat TRow.dflt).id_]:List Int).length) 8 (back (W (i+1)) v0 v1 v2 v3 v4 v5 v6 v7 v8 v9 v10 (list++([(aa_.re xr3)]:List aa_)) (keys++([(v9.getD i.toNat TRow.dflt).id_]:List Int)))))))))) (k0 list keys)))
def bb_.loop5 (n:Nat) (k0:bb_.K5) (N:Nat):bb_.T5:=cc_ (fun _ _ _ _ _ _ _ _ _ _ _ _ _ _=>none) (bb_.step5 n k0) N
def bb_:Nat→aD_→Option ((List aa_) × (List Int))
 |0,_=>none
 |n+1,v=>
  (bb_.loop5 n (fun xy4 xy5=>(some (xy4,xy5))) n 0 v.q.table v.q.where_ v.q.order v.q.down v.q.first v.q.show_ v.q.kids v.q.kidTable v.q.kidCol v.rows v.kids ([]:List aa_) ([]:List Int))
abbrev ce_.T3:Type:=(List Int)→Int→Int→Option Int
def ce_.step3 (n:Nat) (k0:Option Int) (back:ce_.T3):ce_.T3:=fun keys key i=>
 (cond (decide (i<(keys.length:Int))) (inB i keys.length (cond ((keys.getD i.toNat 0) == key) (some i) (back keys key (W (i+1))))) k0)
def ce_.loop3 (n:Nat) (k0:Option Int) (N:Nat):ce_.T3:=cc_ (fun _ _ _=>none) (ce_.step3 n k0) N
def ce_:Nat→(List Int)→Int→Option Int
 |0,_,_=>none
 |n+1,keys,key=>
  (ce_.loop3 n (some (-1)) n keys key 0)
abbrev aH_.K3:Type:=(List Int)→(List aa_)→Option Bool
abbrev aH_.T3:Type:=(List Int)→(List aa_)→Int→Option Bool
def aH_.step3 (n:Nat) (k0:aH_.K3) (back:aH_.T3):aH_.T3:=fun keys list i=>
 (cond (decide (i<(keys.length:Int))) (i1_ 0 i keys.length (inB i keys.length ((ce_ n ((keys.take i.toNat).drop 0) (keys.getD i.toNat 0)).bind fun xr1=>(cond (decide (xr1≥0)) (some false) (back keys list (W (i+1))))))) (k0 keys list))
def aH_.loop3 (n:Nat) (k0:aH_.K3) (N:Nat):aH_.T3:=cc_ (fun _ _ _=>none) (aH_.step3 n k0) N
abbrev aH_.K11:Type:=(List Int)→(List aa_)→Option Bool
abbrev aH_.T11:Type:=(List Int)→(List aa_)→Int→Option Bool
def aH_.step11 (n:Nat) (k2:aH_.K11) (back:aH_.T11):aH_.T11:=fun keys list i=>
 (cond (decide (i<(list.length:Int))) (inB i list.length ((cM_ n (aa_.re (list.getD i.toNat aa_.dflt))).bind fun xr4=>(cond (!xr4) (some false) (back keys list (W (i+1)))))) (k2 keys list))
def aH_.loop11 (n:Nat) (k2:aH_.K11) (N:Nat):aH_.T11:=cc_ (fun _ _ _=>none) (aH_.step11 n k2) N
def aH_:Nat→(List Int)→(List aa_)→Option Bool
 |0,_,_=>none
 |n+1,keys,list=>
  (aH_.loop3 n (fun xy2 xy3=>(aH_.loop11 n (fun xy5 xy6=>(some ((xy5.length:Int) == (xy6.length:Int)))) n xy2 xy3 0)) n keys list 0)
def cP_:Nat→(List Int)→Int→Option (List Int)
 |0,_,_=>none
 |n+1,keys,at1=>
  (i1_ 0 at1 keys.length (bm_ (([]:List Int).length+((keys.take at1.toNat).drop 0).length) 8 (i1_ (W (at1+1)) (keys.length:Int) keys.length (bm_ ((([]:List Int)++((keys.take at1.toNat).drop 0)).length+((keys.take (keys.length:Int).toNat).drop (W (at1+1)).toNat).length) 8 (some ((([]:List Int)++((keys.take at1.toNat).drop 0))++((keys.take (keys.length:Int).toNat).drop (W (at1+1)).toNat)))))))
abbrev av_.K6_1:Type:=Int→Int→Bs→(List aa_)→(List Bs)→Int→Int→Bs→(List aa_)→(List Bs)→Option Bool
abbrev av_.T6:Type:=Int→Int→Int→Bs→(List aa_)→(List Bs)→Int→Int→Bs→(List aa_)→(List Bs)→Option Bool
def av_.step6 (n:Nat) (spec_l1Same_:aa_→aa_→Option Bool) (k0:av_.K6_1) (back:av_.T6):av_.T6:=fun t5 t20 t21 t22 t23 t24 t30 t31 t32 t33 t34=>
 (cond (decide (t5<(t23.length:Int))) (inB t5 t23.length (inB t5 t33.length ((spec_l1Same_ (aa_.re (t23.getD t5.toNat aa_.dflt)) (aa_.re (t33.getD t5.toNat aa_.dflt))).bind fun xr1=>(cond (!xr1) (some false) (back (W (t5+1)) t20 t21 t22 t23 t24 t30 t31 t32 t33 t34))))) (k0 t20 t21 t22 t23 t24 t30 t31 t32 t33 t34))
def av_.loop6 (n:Nat) (spec_l1Same_:aa_→aa_→Option Bool) (k0:av_.K6_1) (N:Nat):av_.T6:=cc_ (fun _ _ _ _ _ _ _ _ _ _ _=>none) (av_.step6 n spec_l1Same_ k0) N
abbrev av_.T14:Type:=Int→Int→Int→Bs→(List aa_)→(List Bs)→Int→Int→Bs→(List aa_)→(List Bs)→Option Bool
def av_.step14 (n:Nat) (spec_l1Same_:aa_→aa_→Option Bool) (k2:Option Bool) (back:av_.T14):av_.T14:=fun t6 t20 t21 t22 t23 t24 t30 t31 t32 t33 t34=>
 (cond (decide (t6<(t24.length:Int))) (inB t6 t24.length (inB t6 t34.length (cond (!((t24.getD t6.toNat []) == (t34.getD t6.toNat []))) (some false) (back (W (t6+1)) t20 t21 t22 t23 t24 t30 t31 t32 t33 t34)))) k2)
def av_.loop14 (n:Nat) (spec_l1Same_:aa_→aa_→Option Bool) (k2:Option Bool) (N:Nat):av_.T14:=cc_ (fun _ _ _ _ _ _ _ _ _ _ _=>none) (av_.step14 n spec_l1Same_ k2) N
def av_:Nat→aa_→aa_→Option Bool
 |0,_,_=>none
 |n+1,o,append=>
  (cond (o.kind != append.kind) (some false) (cond (o.n_ != append.n_) (some false) (cond (!(o.s == append.s)) (some false) (cond ((o.list.length:Int) != (append.list.length:Int)) (some false) (cond ((o.names.length:Int) != (append.names.length:Int)) (some false) (av_.loop6 n (av_ n) (fun xy2 xy3 xy4 xy5 xy6 xy7 xy8 xy9 xy10 xy11=>(av_.loop14 n (av_ n) (some true) n 0 xy2 xy3 xy4 xy5 xy6 xy7 xy8 xy9 xy10 xy11)) n 0 o.kind o.n_ o.s o.list o.names append.kind append.n_ append.s append.list append.names))))))
abbrev bd_.K4_1:Type:=Int→Int→Bs→Int→Int→Bs→(List aa_)→(List Bs)→Option aa_
abbrev bd_.T4:Type:=Int→Int→Int→Bs→(List aa_)→(List Bs)→Int→Int→Bs→Int→Int→Bs→(List aa_)→(List Bs)→Option aa_
def bd_.step4 (n:Nat) (spec_l1Copy_:aa_→Option aa_) (k0:bd_.K4_1) (back:bd_.T4):bd_.T4:=fun i j0 j1 j2 j3 j4 t20 t21 t22 out0 out1 out2 out3 out4=>
 (cond (decide (i<(j3.length:Int))) (inB i j3.length ((spec_l1Copy_ (aa_.re (j3.getD i.toNat aa_.dflt))).bind fun xr1=>(bm_ (out3.length+([(aa_.re xr1)]:List aa_).length) 80 (back (W (i+1)) j0 j1 j2 j3 j4 t20 t21 t22 out0 out1 out2 (out3++([(aa_.re xr1)]:List aa_)) out4)))) (k0 t20 t21 t22 out0 out1 out2 out3 out4))
def bd_.loop4 (n:Nat) (spec_l1Copy_:aa_→Option aa_) (k0:bd_.K4_1) (N:Nat):bd_.T4:=cc_ (fun _ _ _ _ _ _ _ _ _ _ _ _ _ _=>none) (bd_.step4 n spec_l1Copy_ k0) N
def bd_:Nat→aa_→Option aa_
 |0,_=>none
 |n+1,j=>
  (bm_ (([]:List Bs).length+j.names.length) 16 (bd_.loop4 n (bd_ n) (fun xy2 xy3 xy4 xy5 xy6 xy7 xy8 xy9=>(some (aa_.mk xy5 xy6 xy7 xy8 xy9))) n 0 j.kind j.n_ j.s j.list j.names 0 0 [] j.kind j.n_ j.s ([]:List aa_) (([]:List Bs)++j.names)))
def c3_:Nat→(List Int)→Int→Int→Option (List Int)
 |0,_,_,_=>none
 |n+1,keys,at1,key=>
  (i1_ 0 at1 keys.length (bm_ (([]:List Int).length+((keys.take at1.toNat).drop 0).length) 8 (bm_ ((([]:List Int)++((keys.take at1.toNat).drop 0)).length+([key]:List Int).length) 8 (i1_ at1 (keys.length:Int) keys.length (bm_ (((([]:List Int)++((keys.take at1.toNat).drop 0))++([key]:List Int)).length+((keys.take (keys.length:Int).toNat).drop at1.toNat).length) 8 (some (((([]:List Int)++((keys.take at1.toNat).drop 0))++([key]:List Int))++((keys.take (keys.length:Int).toNat).drop at1.toNat))))))))
abbrev aE_.K5:Type:=(List aa_)→(List Int)→(List aa_)→(List Int)→(List TOp)→(List Int)→Option (List TOp)
abbrev aE_.T5:Type:=(List aa_)→(List Int)→(List aa_)→(List Int)→Int→(List TOp)→(List Int)→Option (List TOp)
def aE_.step5 (n:Nat) (k0:aE_.K5) (back:aE_.T5):aE_.T5:=fun o append t2 t3 t11 t9 t10=>
 (cond (decide (t11≥0)) (inB t11 append.length ((ce_ n t3 (append.getD t11.toNat 0)).bind fun xr1=>(cond (decide (xr1<0)) ((aV_ n t11).bind fun xr2=>(bm_ (t9.length+([(TOp.mk 2 ([xr2]:List Bs) (aa_.mk 0 0 [] [] []))]:List TOp).length) 112 ((cP_ n t10 t11).bind fun xr3=>(back o append t2 t3 (W (t11 - 1)) (t9++([(TOp.mk 2 ([xr2]:List Bs) (aa_.mk 0 0 [] [] []))]:List TOp)) xr3)))) (back o append t2 t3 (W (t11 - 1)) t9 t10)))) (k0 o append t2 t3 t9 t10))
def aE_.loop5 (n:Nat) (k0:aE_.K5) (N:Nat):aE_.T5:=cc_ (fun _ _ _ _ _ _ _=>none) (aE_.step5 n k0) N
abbrev aE_.K13:Type:=(List TOp)→Option (List TOp)
abbrev aE_.T13:Type:=(List aa_)→(List Int)→(List aa_)→(List Int)→Int→(List TOp)→(List Int)→Option (List TOp)
def aE_.step13 (n:Nat) (k2:aE_.K13) (back:aE_.T13):aE_.T13:=fun o append t2 t3 t12 t9 t10=>
 (cond (decide (t12<(t3.length:Int))) ((aV_ n t12).bind fun xr10=>(inB t12 t3.length ((ce_ n t10 (t3.getD t12.toNat 0)).bind fun xr11=>(cond (xr11 == t12) (inB t12 t3.length ((ce_ n append (t3.getD t12.toNat 0)).bind fun xr12=>(inB xr12 o.length (inB t12 t2.length ((av_ n (aa_.re (o.getD xr12.toNat aa_.dflt)) (aa_.re (t2.getD t12.toNat aa_.dflt))).bind fun xr13=>(cond (!xr13) (inB t12 t2.length ((bd_ n (aa_.re (t2.getD t12.toNat aa_.dflt))).bind fun xr14=>(bm_ (t9.length+([(TOp.mk 3 ([xr10]:List Bs) (aa_.re xr14))]:List TOp).length) 112 (back o append t2 t3 (W (t12+1)) (t9++([(TOp.mk 3 ([xr10]:List Bs) (aa_.re xr14))]:List TOp)) t10)))) (back o append t2 t3 (W (t12+1)) t9 t10))))))) (cond (decide (xr11≥0)) ((aV_ n xr11).bind fun xr15=>(bm_ (t9.length+([(TOp.mk 2 ([xr15]:List Bs) (aa_.mk 0 0 [] [] []))]:List TOp).length) 112 ((cP_ n t10 xr11).bind fun xr16=>(inB t12 t2.length ((bd_ n (aa_.re (t2.getD t12.toNat aa_.dflt))).bind fun xr17=>(bm_ ((t9++([(TOp.mk 2 ([xr15]:List Bs) (aa_.mk 0 0 [] [] []))]:List TOp)).length+([(TOp.mk 1 ([xr10]:List Bs) (aa_.re xr17))]:List TOp).length) 112 (inB t12 t3.length ((c3_ n xr16 t12 (t3.getD t12.toNat 0)).bind fun xr18=>(back o append t2 t3 (W (t12+1)) ((t9++([(TOp.mk 2 ([xr15]:List Bs) (aa_.mk 0 0 [] [] []))]:List TOp))++([(TOp.mk 1 ([xr10]:List Bs) (aa_.re xr17))]:List TOp)) xr18))))))))) (inB t12 t2.length ((bd_ n (aa_.re (t2.getD t12.toNat aa_.dflt))).bind fun xr19=>(bm_ (t9.length+([(TOp.mk 1 ([xr10]:List Bs) (aa_.re xr19))]:List TOp).length) 112 (inB t12 t3.length ((c3_ n t10 t12 (t3.getD t12.toNat 0)).bind fun xr20=>(back o append t2 t3 (W (t12+1)) (t9++([(TOp.mk 1 ([xr10]:List Bs) (aa_.re xr19))]:List TOp)) xr20))))))))))) (k2 t9))
def aE_.loop13 (n:Nat) (k2:aE_.K13) (N:Nat):aE_.T13:=cc_ (fun _ _ _ _ _ _ _=>none) (aE_.step13 n k2) N
def aE_:Nat→(List aa_)→(List Int)→(List aa_)→(List Int)→Option (List TOp)
 |0,_,_,_,_=>none
 |n+1,o,append,a2,a3=>
  (bm_ (([]:List Int).length+append.length) 8 (aE_.loop5 n (fun xy4 xy5 xy6 xy7 xy8 xy9=>(aE_.loop13 n (fun xy21=>(some xy21)) n xy4 xy5 xy6 xy7 0 xy8 xy9)) n o append a2 a3 (W ((append.length:Int) - 1)) ([]:List TOp) (([]:List Int)++append)))
def eg_:Nat→(List aa_)→(List Int)→(List aa_)→(List Int)→Option (List TOp)
 |0,_,_,_,_=>none
 |n+1,old,oldKeys,now,nowKeys=>
  ((aH_ n oldKeys old).bind fun xr1=>(cond (!xr1) (some ([]:List TOp)) ((aH_ n nowKeys now).bind fun xr2=>(cond (!xr2) (some ([]:List TOp)) ((aE_ n old oldKeys now nowKeys).bind fun xr3=>(some xr3))))))
abbrev bT_.K4:Type:=(List TOp)→Option (List TOp)
abbrev bT_.T4:Type:=Bs→(List TOp)→Int→(List TOp)→Option (List TOp)
def bT_.step4 (n:Nat) (k0:bT_.K4) (back:bT_.T4):bT_.T4:=fun name list i out_1=>
 (cond (decide (i<(list.length:Int))) (inB i list.length (inB i list.length (bm_ (([name]:List Bs).length+((list.getD i.toNat TOp.dflt).way).length) 16 (inB i list.length ((bd_ n (aa_.re ((list.getD i.toNat TOp.dflt).value))).bind fun xr1=>(bm_ (out_1.length+([(TOp.mk ((list.getD i.toNat TOp.dflt).kind) (([name]:List Bs)++((list.getD i.toNat TOp.dflt).way)) (aa_.re xr1))]:List TOp).length) 112 (back name list (W (i+1)) (out_1++([(TOp.mk ((list.getD i.toNat TOp.dflt).kind) (([name]:List Bs)++((list.getD i.toNat TOp.dflt).way)) (aa_.re xr1))]:List TOp))))))))) (k0 out_1))
def bT_.loop4 (n:Nat) (k0:bT_.K4) (N:Nat):bT_.T4:=cc_ (fun _ _ _ _=>none) (bT_.step4 n k0) N
def bT_:Nat→Bs→(List TOp)→Option (List TOp)
 |0,_,_=>none
 |n+1,name,list=>
  (bT_.loop4 n (fun xy2=>(some xy2)) n name list 0 ([]:List TOp))
def cE_:Nat→aD_→aD_→Option (List TOp)
 |0,_,_=>none
 |n+1,a,b=>
  ((c5_ n a.q b.q).bind fun xr1=>(cond (!xr1) (some ([]:List TOp)) (cond ((a.rows.length:Int) != (b.rows.length:Int)) ((d8_ n (b.rows.length:Int)).bind fun xr2=>(bm_ (([]:List TOp).length+([(TOp.mk 3 ([[99,111,117,110,116]]:List Bs) (aa_.re xr2))]:List TOp).length) 112 ((bb_ n a).bind fun xr3=>((bb_ n b).bind fun xr4=>((eg_ n xr3.1 xr3.2 xr4.1 xr4.2).bind fun xr5=>((bT_ n [114,111,119,115] xr5).bind fun xr6=>(bm_ ((([]:List TOp)++([(TOp.mk 3 ([[99,111,117,110,116]]:List Bs) (aa_.re xr2))]:List TOp)).length+xr6.length) 112 (some ((([]:List TOp)++([(TOp.mk 3 ([[99,111,117,110,116]]:List Bs) (aa_.re xr2))]:List TOp))++xr6))))))))) ((bb_ n a).bind fun xr7=>((bb_ n b).bind fun xr8=>((eg_ n xr7.1 xr7.2 xr8.1 xr8.2).bind fun xr9=>((bT_ n [114,111,119,115] xr9).bind fun xr10=>(bm_ (([]:List TOp).length+xr10.length) 112 (some (([]:List TOp)++xr10))))))))))
abbrev cb_.K6:Type:=Int→(List Bs)→Int→Int→Bs→(List aa_)→(List Bs)→Option Bool
abbrev cb_.T6:Type:=Int→Int→(List Bs)→Int→Int→Bs→(List aa_)→(List Bs)→Option Bool
def cb_.step6 (n:Nat) (k0:cb_.K6) (back:cb_.T6):cb_.T6:=fun i o0 o1 o2 o3 o4 o5 o6=>
 (cond (decide (i<(o1.length:Int))) (inB i o1.length ((bM_ n (o1.getD i.toNat [])).bind fun xr3=>(cond (!xr3) (some false) (back (W (i+1)) o0 o1 o2 o3 o4 o5 o6)))) (k0 o0 o1 o2 o3 o4 o5 o6))
def cb_.loop6 (n:Nat) (k0:cb_.K6) (N:Nat):cb_.T6:=cc_ (fun _ _ _ _ _ _ _ _=>none) (cb_.step6 n k0) N
def cb_:Nat→TOp→Option Bool
 |0,_=>none
 |n+1,o=>
  ((bX_ n o.kind 1 4).bind fun xr1=>(cond (!xr1) (some false) (cond (decide ((o.way.length:Int) > 6)) (some false) ((cM_ n (aa_.re o.value)).bind fun xr2=>(cond (!xr2) (some false) (cb_.loop6 n (fun xy4 xy5 xy6 xy7 xy8 xy9 xy10=>(cond (xy4 != 2) (some true) ((av_ n (aa_.mk xy6 xy7 xy8 xy9 xy10) (aa_.mk 0 0 [] [] [])).bind fun xr11=>(some xr11)))) n 0 o.kind o.way o.value.kind o.value.n_ o.value.s o.value.list o.value.names))))))
def dt_:Nat→Unit→Option (List Bs)
 |0,_=>none
 |n+1,_u=>
  (some ([[],[97,100,100],[114,101,109,111,118,101],[114,101,112,108,97,99,101],[116,101,115,116]]:List Bs))
abbrev aC_.K10:Type:=(List Bs)→Int→(List Int)→Option Bs
abbrev aC_.T10:Type:=(List Bs)→Int→Int→(List Int)→Option Bs
def aC_.step10 (n:Nat) (k2:aC_.K10) (back:aC_.T10):aC_.T10:=fun way i k out_1=>
 (inB i way.length (cond (decide (k<((way.getD i.toNat []).length:Int))) (inB i way.length (inB k (way.getD i.toNat []).length (cond ((((way.getD i.toNat []).getD k.toNat 0).toNat:Int) == 126) (bm_ (out_1.length+([126,48]:List Int).length) 1 (back way i (W (k+1)) (out_1++([126,48]:List Int)))) (cond ((((way.getD i.toNat []).getD k.toNat 0).toNat:Int) == 47) (bm_ (out_1.length+([126,49]:List Int).length) 1 (back way i (W (k+1)) (out_1++([126,49]:List Int)))) (inB i way.length (inB k (way.getD i.toNat []).length (bm_ (out_1.length+([(((way.getD i.toNat []).getD k.toNat 0).toNat:Int)]:List Int).length) 1 (back way i (W (k+1)) (out_1++([(((way.getD i.toNat []).getD k.toNat 0).toNat:Int)]:List Int)))))))))) (k2 way i out_1)))
def aC_.loop10 (n:Nat) (k2:aC_.K10) (N:Nat):aC_.T10:=cc_ (fun _ _ _ _=>none) (aC_.step10 n k2) N
abbrev aC_.K4:Type:=(List Int)→Option Bs
abbrev aC_.T4:Type:=(List Bs)→Int→(List Int)→Option Bs
def aC_.step4 (n:Nat) (k0:aC_.K4) (back:aC_.T4):aC_.T4:=fun way i out_1=>
 (cond (decide (i<(way.length:Int))) (bm_ (out_1.length+([47]:List Int).length) 1 (aC_.loop10 n (fun xy1 xy2 xy3=>(back xy1 (W (xy2+1)) xy3)) n way i 0 (out_1++([47]:List Int)))) (k0 out_1))
def aC_.loop4 (n:Nat) (k0:aC_.K4) (N:Nat):aC_.T4:=cc_ (fun _ _ _=>none) (aC_.step4 n k0) N
def aC_:Nat→(List Bs)→Option Bs
 |0,_=>none
 |n+1,way=>
  (aC_.loop4 n (fun xy4=>(some (pL_ xy4))) n way 0 ([]:List Int))
def dJ_:Nat→TOp→Option aa_
 |0,_=>none
 |n+1,o=>
  ((cb_ n (TOp.mk o.kind o.way (aa_.re o.value))).bind fun xr1=>(cond (!xr1) (some (aa_.mk 0 0 [] ([]:List aa_) ([]:List Bs))) ((dt_ n ()).bind fun xr2=>(inB o.kind xr2.length ((aC_ n o.way).bind fun xr3=>(cond (o.kind != 2) ((bd_ n (aa_.re o.value)).bind fun xr4=>((bx_ n (aa_.mk 5 0 [] ([(aa_.mk 3 0 (xr2.getD o.kind.toNat []) [] []),(aa_.mk 3 0 xr3 [] [])]:List aa_) ([[111,112],[112,97,116,104]]:List Bs)) [118,97,108,117,101] (aa_.re xr4)).bind fun xr5=>((cM_ n (aa_.re xr5)).bind fun xr6=>(cond (!xr6) (some (aa_.mk 0 0 [] ([]:List aa_) ([]:List Bs))) (some (aa_.re xr5)))))) ((cM_ n (aa_.mk 5 0 [] ([(aa_.mk 3 0 (xr2.getD o.kind.toNat []) [] []),(aa_.mk 3 0 xr3 [] [])]:List aa_) ([[111,112],[112,97,116,104]]:List Bs))).bind fun xr7=>(cond (!xr7) (some (aa_.mk 0 0 [] ([]:List aa_) ([]:List Bs))) (some (aa_.mk 5 0 [] ([(aa_.mk 3 0 (xr2.getD o.kind.toNat []) [] []),(aa_.mk 3 0 xr3 [] [])]:List aa_) ([[111,112],[112,97,116,104]]:List Bs)))))))))))
abbrev be_.K4:Type:=(List Int)→Option Bs
abbrev be_.T4:Type:=Bs→Int→(List Int)→Option Bs
def be_.step4 (n:Nat) (k0:be_.K4) (back:be_.T4):be_.T4:=fun s i out_1=>
 (cond (decide (i<(s.length:Int))) (inB i s.length (cond (((s.getD i.toNat 0).toNat:Int) == 34) (bm_ (out_1.length+([92]:List Int).length) 1 (inB i s.length (bm_ ((out_1++([92]:List Int)).length+([((s.getD i.toNat 0).toNat:Int)]:List Int).length) 1 (back s (W (i+1)) ((out_1++([92]:List Int))++([((s.getD i.toNat 0).toNat:Int)]:List Int)))))) (inB i s.length (cond (((s.getD i.toNat 0).toNat:Int) == 92) (bm_ (out_1.length+([92]:List Int).length) 1 (inB i s.length (bm_ ((out_1++([92]:List Int)).length+([((s.getD i.toNat 0).toNat:Int)]:List Int).length) 1 (back s (W (i+1)) ((out_1++([92]:List Int))++([((s.getD i.toNat 0).toNat:Int)]:List Int)))))) (inB i s.length (bm_ (out_1.length+([((s.getD i.toNat 0).toNat:Int)]:List Int).length) 1 (back s (W (i+1)) (out_1++([((s.getD i.toNat 0).toNat:Int)]:List Int))))))))) (k0 out_1))
def be_.loop4 (n:Nat) (k0:be_.K4) (N:Nat):be_.T4:=cc_ (fun _ _ _=>none) (be_.step4 n k0) N
def be_:Nat→Bs→Option Bs
 |0,_=>none
 |n+1,s=>
  (be_.loop4 n (fun xy1=>(bm_ (xy1.length+([34]:List Int).length) 1 (some (pL_ (xy1++([34]:List Int)))))) n s 0 ([34]:List Int))
abbrev aJ_.K17_1:Type:=Bs→Int→Int→Bs→(List aa_)→(List Bs)→Option Bs
abbrev aJ_.T17:Type:=Bs→Int→Int→Int→Bs→(List aa_)→(List Bs)→Option Bs
def aJ_.step17 (n:Nat) (spec_l2Encode_:aa_→Option Bs) (k1:aJ_.K17_1) (back:aJ_.T17):aJ_.T17:=fun out_1 i j0 j1 j2 j3 j4=>
 (cond (decide (i<(j3.length:Int))) (cond (decide (i > 0)) (cond (decide (out_1.length+[44].length≤9223372036854775807)) (cond (j0 == 5) (inB i j4.length ((be_ n (j4.getD i.toNat [])).bind fun xr3=>(cond (decide ((out_1++[44]).length+xr3.length≤9223372036854775807)) (cond (decide (((out_1++[44])++xr3).length+[58].length≤9223372036854775807)) (inB i j3.length ((spec_l2Encode_ (aa_.re (j3.getD i.toNat aa_.dflt))).bind fun xr4=>(cond (decide ((((out_1++[44])++xr3)++[58]).length+xr4.length≤9223372036854775807)) (back ((((out_1++[44])++xr3)++[58])++xr4) (W (i+1)) j0 j1 j2 j3 j4) none))) none) none))) (inB i j3.length ((spec_l2Encode_ (aa_.re (j3.getD i.toNat aa_.dflt))).bind fun xr5=>(cond (decide ((out_1++[44]).length+xr5.length≤9223372036854775807)) (back ((out_1++[44])++xr5) (W (i+1)) j0 j1 j2 j3 j4) none)))) none) (cond (j0 == 5) (inB i j4.length ((be_ n (j4.getD i.toNat [])).bind fun xr6=>(cond (decide (out_1.length+xr6.length≤9223372036854775807)) (cond (decide ((out_1++xr6).length+[58].length≤9223372036854775807)) (inB i j3.length ((spec_l2Encode_ (aa_.re (j3.getD i.toNat aa_.dflt))).bind fun xr7=>(cond (decide (((out_1++xr6)++[58]).length+xr7.length≤9223372036854775807)) (back (((out_1++xr6)++[58])++xr7) (W (i+1)) j0 j1 j2 j3 j4) none))) none) none))) (inB i j3.length ((spec_l2Encode_ (aa_.re (j3.getD i.toNat aa_.dflt))).bind fun xr8=>(cond (decide (out_1.length+xr8.length≤9223372036854775807)) (back (out_1++xr8) (W (i+1)) j0 j1 j2 j3 j4) none))))) (k1 out_1 j0 j1 j2 j3 j4))
def aJ_.loop17 (n:Nat) (spec_l2Encode_:aa_→Option Bs) (k1:aJ_.K17_1) (N:Nat):aJ_.T17:=cc_ (fun _ _ _ _ _ _ _=>none) (aJ_.step17 n spec_l2Encode_ k1) N
def aJ_:Nat→aa_→Option Bs
 |0,_=>none
 |n+1,j=>
  (cond (j.kind == 0) (some [110,117,108,108]) (cond (j.kind == 1) (cond (j.n_ == 1) (some [116,114,117,101]) (some [102,97,108,115,101])) (cond (j.kind == 2) ((aV_ n j.n_).bind fun xr1=>(some xr1)) (cond (j.kind == 3) ((be_ n j.s).bind fun xr2=>(some xr2)) (aJ_.loop17 n (aJ_ n) (fun xy9 xy10 xy11 xy12 xy13 xy14=>(cond (xy10 == 5) (cond (decide ([123].length+xy9.length≤9223372036854775807)) (cond (decide ((([123]:Bs)++xy9).length+[125].length≤9223372036854775807)) (some ((([123]:Bs)++xy9)++[125])) none) none) (cond (decide ([91].length+xy9.length≤9223372036854775807)) (cond (decide ((([91]:Bs)++xy9).length+[93].length≤9223372036854775807)) (some ((([91]:Bs)++xy9)++[93])) none) none))) n [] 0 j.kind j.n_ j.s j.list j.names)))))
def do_:Nat→aa_→Option Bs
 |0,_=>none
 |n+1,j=>
  ((cM_ n (aa_.re j)).bind fun xr1=>(cond (!xr1) (some []) ((aJ_ n (aa_.re j)).bind fun xr2=>(cond (decide ((xr2.length:Int) > 6000)) (some []) (some xr2)))))
abbrev aP_.K4:Type:=Int→Int→Bs→(List aa_)→Option Int
abbrev aP_.T4:Type:=(List TOp)→Int→Int→Int→Bs→(List aa_)→Option Int
def aP_.step4 (n:Nat) (k0:aP_.K4) (back:aP_.T4):aP_.T4:=fun list i j0 j1 j2 j3=>
 (cond (decide (i<(list.length:Int))) (inB i list.length ((dJ_ n { (list.getD i.toNat TOp.dflt) with value:=(aa_.re ((list.getD i.toNat TOp.dflt).value)) }).bind fun xr1=>(cond (xr1.kind == 0) (some (-1)) (bm_ (j3.length+([(aa_.re xr1)]:List aa_).length) 80 (back list (W (i+1)) j0 j1 j2 (j3++([(aa_.re xr1)]:List aa_))))))) (k0 j0 j1 j2 j3))
def aP_.loop4 (n:Nat) (k0:aP_.K4) (N:Nat):aP_.T4:=cc_ (fun _ _ _ _ _ _=>none) (aP_.step4 n k0) N
def aP_:Nat→(List TOp)→Option Int
 |0,_=>none
 |n+1,list=>
  (aP_.loop4 n (fun xy2 xy3 xy4 xy5=>((do_ n (aa_.mk xy2 xy3 xy4 xy5 [])).bind fun xr6=>(cond (xr6 == []) (some (-1)) (some (xr6.length:Int))))) n list 0 4 0 [] ([]:List aa_))
abbrev a4_.K4:Type:=(List Int)→Option (List Int)
abbrev a4_.T4:Type:=Int→Int→(List a6_)→Int→Bool→Int→(List Int)→Bool→Int→Int→(List TRow)→(List TKid)→(List Int)→Option (List Int)
def a4_.step4 (n:Nat) (k0:a4_.K4) (back:a4_.T4):a4_.T4:=fun i v0 v1 v2 v3 v4 v5 v6 v7 v8 v9 v10 out_1=>
 (cond (decide (i<(v9.length:Int))) (inB i v9.length ((bP_ n (aD_.mk (an_.mk v0 v1 v2 v3 v4 v5 v6 v7 v8) v9 v10) ((v9.getD i.toNat TRow.dflt).id_)).bind fun xr1=>(bm_ (out_1.length+([xr1]:List Int).length) 8 (back (W (i+1)) v0 v1 v2 v3 v4 v5 v6 v7 v8 v9 v10 (out_1++([xr1]:List Int)))))) (k0 out_1))
def a4_.loop4 (n:Nat) (k0:a4_.K4) (N:Nat):a4_.T4:=cc_ (fun _ _ _ _ _ _ _ _ _ _ _ _ _=>none) (a4_.step4 n k0) N
def a4_:Nat→aD_→Option (List Int)
 |0,_=>none
 |n+1,v=>
  (a4_.loop4 n (fun xy2=>(some xy2)) n 0 v.q.table v.q.where_ v.q.order v.q.down v.q.first v.q.show_ v.q.kids v.q.kidTable v.q.kidCol v.rows v.kids ([]:List Int))
abbrev b1_.K4:Type:=(List TRow)→Int→Int→Bs→Int→Int→Bs→(List aa_)→Option aa_
abbrev b1_.T4:Type:=(List TRow)→(List Int)→Int→Int→(List a6_)→Int→Bool→Int→(List Int)→Bool→Int→Int→Int→Int→Bs→Int→Int→Bs→(List aa_)→Option aa_
def b1_.step4 (n:Nat) (k0:b1_.K4) (back:b1_.T4):b1_.T4:=fun rows kids i q0 q1 q2 q3 q4 q5 q6 q7 q8 t60 t61 t62 list0 list1 list2 list3=>
 ((c4_ n (an_.mk q0 q1 q2 q3 q4 q5 q6 q7 q8) (rows.length:Int)).bind fun xr1=>(cond (decide (i<xr1)) (cond (decide (i<(kids.length:Int))) (inB i kids.length (inB i rows.length ((bv_ n (an_.mk q0 q1 q2 q3 q4 q5 q6 q7 q8) (rows.getD i.toNat TRow.dflt) (kids.getD i.toNat 0)).bind fun xr2=>(bm_ (list3.length+([(aa_.re xr2)]:List aa_).length) 80 (back rows kids (W (i+1)) q0 q1 q2 q3 q4 q5 q6 q7 q8 t60 t61 t62 list0 list1 list2 (list3++([(aa_.re xr2)]:List aa_))))))) (inB i rows.length ((bv_ n (an_.mk q0 q1 q2 q3 q4 q5 q6 q7 q8) (rows.getD i.toNat TRow.dflt) 0).bind fun xr3=>(bm_ (list3.length+([(aa_.re xr3)]:List aa_).length) 80 (back rows kids (W (i+1)) q0 q1 q2 q3 q4 q5 q6 q7 q8 t60 t61 t62 list0 list1 list2 (list3++([(aa_.re xr3)]:List aa_))))))) (k0 rows t60 t61 t62 list0 list1 list2 list3)))
def b1_.loop4 (n:Nat) (k0:b1_.K4) (N:Nat):b1_.T4:=cc_ (fun _ _ _ _ _ _ _ _ _ _ _ _ _ _ _ _ _ _ _=>none) (b1_.step4 n k0) N
def b1_:Nat→an_→(List TRow)→(List Int)→Option aa_
 |0,_,_,_=>none
 |n+1,q,rows,kids=>
  (b1_.loop4 n (fun xy4 xy5 xy6 xy7 xy8 xy9 xy10 xy11=>((cL_ n (xy4.length:Int)).bind fun xr12=>((cQ_ n (aa_.mk 5 0 [] ([(aa_.re xr12),(aa_.mk xy8 xy9 xy10 xy11 [])]:List aa_) ([[99,111,117,110,116],[114,111,119,115]]:List Bs))).bind fun xr13=>(some (aa_.re xr13))))) n rows kids 0 q.table q.where_ q.order q.down q.first q.show_ q.kids q.kidTable q.kidCol 0 0 [] 4 0 [] ([]:List aa_))
def dv_:Nat→aD_→Option aa_
 |0,_=>none
 |n+1,v=>
  ((a4_ n v).bind fun xr1=>((b1_ n v.q v.rows xr1).bind fun xr2=>(some (aa_.re xr2))))
def dw_:Nat→aD_→aD_→Option Bool
 |0,_,_=>none
 |n+1,a,b=>
  ((cE_ n a b).bind fun xr1=>((aP_ n xr1).bind fun xr2=>(cond (decide ((xr1.length:Int)≤40)) (cond (decide (xr2≥0)) ((dv_ n b).bind fun xr3=>((do_ n (aa_.re xr3)).bind fun xr4=>(some (decide (xr2<(xr4.length:Int)))))) (some false)) (some false))))
def cv_:Nat→(List Int)→Option (List TOp)
 |0,_=>none
 |n+1,ed_=>
  ((bS_ n ed_).bind fun xr1=>((aG_ n ed_).bind fun xr2=>((cE_ n xr2.1 xr2.2).bind fun xr3=>((cn_ n xr1 6).bind fun xr4=>(cond xr4.1 ((am_ n xr4.2 6).bind fun xr5=>(bm_ (xr3.length+([(TOp.mk xr5.1 [] (aa_.mk 0 0 [] [] []))]:List TOp).length) 112 (some (xr3++([(TOp.mk xr5.1 [] (aa_.mk 0 0 [] [] []))]:List TOp))))) (some xr3))))))
abbrev bG_.K3:Type:=(List Int)→Option Bool
abbrev bG_.T3:Type:=(List Int)→Int→Int→(List Int)→Option Bool
def bG_.step3 (n:Nat) (k0:bG_.K3) (back:bG_.T3):bG_.T3:=fun t6 t7 t8 s0=>
 (cond (decide (t8<t7)) (inB t8 t6.length ((az_ n (t6.getD t8.toNat 0) 1 4).bind fun xr1=>(cond (!xr1) (some false) (back t6 t7 (W (t8+1)) s0)))) (k0 s0))
def bG_.loop3 (n:Nat) (k0:bG_.K3) (N:Nat):bG_.T3:=cc_ (fun _ _ _ _=>none) (bG_.step3 n k0) N
def bG_:Nat→aA_→Option Bool
 |0,_=>none
 |n+1,s=>
  (bG_.loop3 n (fun xy2=>((az_ n (xy2.length:Int) 1 3).bind fun xr3=>(some xr3))) n s.cols (s.cols.length:Int) 0 s.cols)
def dg_:Nat→aA_→Int→Option Bool
 |0,_,_=>none
 |n+1,s,table=>
  ((az_ n table 0 (W ((s.cols.length:Int) - 1))).bind fun xr1=>(some xr1))
def dE_:Nat→aA_→an_→Option Bool
 |0,_,_=>none
 |n+1,s,q=>
  (cond (!q.kids) (cond (q.kidTable == 0) (some (q.kidCol == 0)) (some false)) ((dg_ n s q.kidTable).bind fun xr1=>(cond xr1 (inB q.kidTable s.cols.length ((az_ n q.kidCol 0 (W ((s.cols.getD q.kidTable.toNat 0) - 1))).bind fun xr2=>(some xr2))) (some false))))
abbrev aZ_.K7:Type:=Int→(List Int)→Int→(List a6_)→Int→Bool→Int→(List Int)→Bool→Int→Int→Option Bool
abbrev aZ_.T7:Type:=Int→(List a6_)→Int→Int→(List Int)→Int→(List a6_)→Int→Bool→Int→(List Int)→Bool→Int→Int→Option Bool
def aZ_.step7 (n:Nat) (k0:aZ_.K7) (back:aZ_.T7):aZ_.T7:=fun t5 t28 t29 t30 t20 t30_1 t31 t32 t33 t34 t35 t36 t37 t38=>
 (cond (decide (t30<t29)) (inB t30 t28.length ((az_ n ((t28.getD t30.toNat a6_.dflt).col) 0 (W (t5 - 1))).bind fun xr3=>(cond (!xr3) (some false) ((az_ n ((t28.getD t30.toNat a6_.dflt).op) 1 4).bind fun xr4=>(cond (!xr4) (some false) ((a7_ n ((t28.getD t30.toNat a6_.dflt).v)).bind fun xr5=>(cond (!xr5) (some false) (back t5 t28 t29 (W (t30+1)) t20 t30_1 t31 t32 t33 t34 t35 t36 t37 t38)))))))) (k0 t5 t20 t30_1 t31 t32 t33 t34 t35 t36 t37 t38))
def aZ_.loop7 (n:Nat) (k0:aZ_.K7) (N:Nat):aZ_.T7:=cc_ (fun _ _ _ _ _ _ _ _ _ _ _ _ _ _=>none) (aZ_.step7 n k0) N
abbrev aZ_.K16:Type:=Int→(List Int)→Int→(List a6_)→Int→Bool→Int→(List Int)→Bool→Int→Int→Option Bool
abbrev aZ_.T16:Type:=Int→(List Int)→Int→Int→(List Int)→Int→(List a6_)→Int→Bool→Int→(List Int)→Bool→Int→Int→Option Bool
def aZ_.step16 (n:Nat) (k2:aZ_.K16) (back:aZ_.T16):aZ_.T16:=fun t5 t54 t55 t56 t20 t30 t31 t32 t33 t34 t35 t36 t37 t38=>
 (cond (decide (t56<t55)) (inB t56 t54.length ((az_ n (t54.getD t56.toNat 0) 0 (W (t5 - 1))).bind fun xr17=>(cond (!xr17) (some false) (cond (decide (t56 > 0)) (inB (W (t56 - 1)) t35.length (cond (decide ((t35.getD (W (t56 - 1)).toNat 0)≥(t54.getD t56.toNat 0))) (some false) (back t5 t54 t55 (W (t56+1)) t20 t30 t31 t32 t33 t34 t35 t36 t37 t38))) (back t5 t54 t55 (W (t56+1)) t20 t30 t31 t32 t33 t34 t35 t36 t37 t38))))) (k2 t5 t20 t30 t31 t32 t33 t34 t35 t36 t37 t38))
def aZ_.loop16 (n:Nat) (k2:aZ_.K16) (N:Nat):aZ_.T16:=cc_ (fun _ _ _ _ _ _ _ _ _ _ _ _ _ _=>none) (aZ_.step16 n k2) N
def aZ_:Nat→aA_→an_→Option Bool
 |0,_,_=>none
 |n+1,o,append=>
  ((bG_ n o).bind fun xr1=>(cond (!xr1) (some false) ((dg_ n o append.table).bind fun xr2=>(cond (!xr2) (some false) (inB append.table o.cols.length (aZ_.loop7 n (fun xy6 xy7 xy8 xy9 xy10 xy11 xy12 xy13 xy14 xy15 xy16=>(aZ_.loop16 n (fun xy18 xy19 xy20 xy21 xy22 xy23 xy24 xy25 xy26 xy27 xy28=>((az_ n xy22 0 xy18).bind fun xr29=>(cond xr29 (cond (!xy23) (cond (decide ((xy21.length:Int)≤3)) ((az_ n xy24 0 24).bind fun xr30=>(cond xr30 ((dE_ n (aA_.mk xy19) (an_.mk xy20 xy21 xy22 xy23 xy24 xy25 xy26 xy27 xy28)).bind fun xr31=>(some xr31)) (some false))) (some false)) (cond (decide ((xy21.length:Int)≤3)) (cond (decide (xy22 > 0)) ((az_ n xy24 0 24).bind fun xr32=>(cond xr32 ((dE_ n (aA_.mk xy19) (an_.mk xy20 xy21 xy22 xy23 xy24 xy25 xy26 xy27 xy28)).bind fun xr33=>(some xr33)) (some false))) (some false)) (some false))) (cond (decide ((xy21.length:Int)≤3)) (some false) (some false))))) n xy6 xy13 (xy13.length:Int) 0 xy7 xy8 xy9 xy10 xy11 xy12 xy13 xy14 xy15 xy16)) n (o.cols.getD append.table.toNat 0) append.where_ (append.where_.length:Int) 0 o.cols append.table append.where_ append.order append.down append.first append.show_ append.kids append.kidTable append.kidCol))))))
abbrev co_.K3:Type:=Int→(List Int)→Int→(List Int)→Option Bool
abbrev co_.T3:Type:=Int→(List Int)→Int→Int→(List Int)→Int→(List Int)→Option Bool
def co_.step3 (n:Nat) (k0:co_.K3) (back:co_.T3):co_.T3:=fun table t10 t11 t12 s0 r0 r1=>
 (cond (decide (t12<t11)) (inB t12 t10.length ((a7_ n (t10.getD t12.toNat 0)).bind fun xr1=>(cond (!xr1) (some false) (back table t10 t11 (W (t12+1)) s0 r0 r1)))) (k0 table s0 r0 r1))
def co_.loop3 (n:Nat) (k0:co_.K3) (N:Nat):co_.T3:=cc_ (fun _ _ _ _ _ _ _=>none) (co_.step3 n k0) N
def co_:Nat→aA_→Int→TRow→Option Bool
 |0,_,_,_=>none
 |n+1,s,table,r=>
  (co_.loop3 n (fun xy2 xy3 xy4 xy5=>((bG_ n (aA_.mk xy3)).bind fun xr6=>(cond xr6 ((dg_ n (aA_.mk xy3) xy2).bind fun xr7=>(cond xr7 (inB xy2 xy3.length (cond ((xy5.length:Int) == (xy3.getD xy2.toNat 0)) ((az_ n xy4 1 999).bind fun xr8=>(some xr8)) (some false))) (some false))) (some false)))) n table r.cells (r.cells.length:Int) 0 s.cols r.id_ r.cells)
def impl_holds:Nat→a6_→TRow→Option Bool
 |0,_,_=>none
 |n+1,c,r=>
  ((az_ n c.col 0 (W ((r.cells.length:Int) - 1))).bind fun xr1=>(cond (!xr1) (some false) (inB c.col r.cells.length (cond (c.op == 1) (some ((r.cells.getD c.col.toNat 0) == c.v)) (cond (c.op == 2) (some (decide ((r.cells.getD c.col.toNat 0)<c.v))) (cond (c.op == 3) (some (decide ((r.cells.getD c.col.toNat 0) > c.v))) (cond (c.op == 4) (some ((r.cells.getD c.col.toNat 0) != c.v)) (some false))))))))
abbrev cd_.T3:Type:=(List a6_)→Int→Int→Int→(List Int)→Option Bool
def cd_.step3 (n:Nat) (k0:Option Bool) (back:cd_.T3):cd_.T3:=fun t8 t9 t10 r0 r1=>
 (cond (decide (t10<t9)) (inB t10 t8.length ((impl_holds n (t8.getD t10.toNat a6_.dflt) (TRow.mk r0 r1)).bind fun xr1=>(cond (!xr1) (some false) (back t8 t9 (W (t10+1)) r0 r1)))) k0)
def cd_.loop3 (n:Nat) (k0:Option Bool) (N:Nat):cd_.T3:=cc_ (fun _ _ _ _ _=>none) (cd_.step3 n k0) N
def cd_:Nat→an_→TRow→Option Bool
 |0,_,_=>none
 |n+1,q,r=>
  (cd_.loop3 n (some true) n q.where_ (q.where_.length:Int) 0 r.id_ r.cells)
def eO_:Nat→an_→TRow→TRow→Option Bool
 |0,_,_,_=>none
 |n+1,q,a,b=>
  (cond (q.order == 0) (some (decide (a.id_<b.id_))) ((dp_ n a (W (q.order - 1))).bind fun xr1=>((dp_ n b (W (q.order - 1))).bind fun xr2=>(cond (xr1 == xr2) (some (decide (a.id_<b.id_))) (cond q.down (some (decide (xr1 > xr2))) (some (decide (xr1<xr2))))))))
def dN_:Nat→TRow→Int→Option Bool
 |0,_,_=>none
 |n+1,r,c=>
  (some (r.id_ == c))
abbrev ap_.T3:Type:=(List TRow)→Int→Int→Int→Option Int
def ap_.step3 (n:Nat) (k0:Option Int) (back:ap_.T3):ap_.T3:=fun s f00 t7 t8=>
 (cond (decide (t8<t7)) (inB t8 s.length ((dN_ n (s.getD t8.toNat TRow.dflt) f00).bind fun xr1=>(cond xr1 (some t8) (back s f00 t7 (W (t8+1)))))) k0)
def ap_.loop3 (n:Nat) (k0:Option Int) (N:Nat):ap_.T3:=cc_ (fun _ _ _ _=>none) (ap_.step3 n k0) N
def ap_:Nat→(List TRow)→Int→Option Int
 |0,_,_=>none
 |n+1,s,c=>
  (ap_.loop3 n (some (-1)) n s c (s.length:Int) 0)
def eq_:Nat→(List TRow)→Int→Option Int
 |0,_,_=>none
 |n+1,rows,id1=>
  ((ap_ n rows id1).bind fun xr1=>(some xr1))
abbrev ba_.K6:Type:=Int→(List a6_)→Int→Bool→Int→(List Int)→Bool→Int→Int→(List TRow)→(List TKid)→Option Bool
abbrev ba_.T6:Type:=(List TRow)→Int→Int→(List Int)→Int→(List a6_)→Int→Bool→Int→(List Int)→Bool→Int→Int→(List TRow)→(List TKid)→Option Bool
def ba_.step6 (n:Nat) (k0:ba_.K6) (back:ba_.T6):ba_.T6:=fun t33 t34 t35 t20 t30 t31 t32 t33_1 t34_1 t35_1 t36 t37 t38 t39 t310=>
 (cond (decide (t35<t34)) (inB t35 t33.length ((co_ n (aA_.mk t20) t30 (t33.getD t35.toNat TRow.dflt)).bind fun xr2=>(cond (!xr2) (some false) ((cd_ n (an_.mk t30 t31 t32 t33_1 t34_1 t35_1 t36 t37 t38) (t33.getD t35.toNat TRow.dflt)).bind fun xr3=>(cond (!xr3) (some false) (cond (decide (t35 > 0)) (inB (W (t35 - 1)) t39.length ((eO_ n (an_.mk t30 t31 t32 t33_1 t34_1 t35_1 t36 t37 t38) (t39.getD (W (t35 - 1)).toNat TRow.dflt) (t33.getD t35.toNat TRow.dflt)).bind fun xr4=>(cond (!xr4) (some false) ((eq_ n t39 ((t33.getD t35.toNat TRow.dflt).id_)).bind fun xr5=>(cond (xr5 != t35) (some false) (back t33 t34 (W (t35+1)) t20 t30 t31 t32 t33_1 t34_1 t35_1 t36 t37 t38 t39 t310)))))) ((eq_ n t39 ((t33.getD t35.toNat TRow.dflt).id_)).bind fun xr6=>(cond (xr6 != t35) (some false) (back t33 t34 (W (t35+1)) t20 t30 t31 t32 t33_1 t34_1 t35_1 t36 t37 t38 t39 t310))))))))) (k0 t30 t31 t32 t33_1 t34_1 t35_1 t36 t37 t38 t39 t310))
def ba_.loop6 (n:Nat) (k0:ba_.K6) (N:Nat):ba_.T6:=cc_ (fun _ _ _ _ _ _ _ _ _ _ _ _ _ _ _=>none) (ba_.step6 n k0) N
abbrev ba_.T15:Type:=(List TKid)→Int→Int→Int→(List a6_)→Int→Bool→Int→(List Int)→Bool→Int→Int→(List TRow)→(List TKid)→Option Bool
def ba_.step15 (n:Nat) (k2:Option Bool) (back:ba_.T15):ba_.T15:=fun t82 t83 t84 t30 t31 t32 t33 t34 t35 t36 t37 t38 t39 t310=>
 (cond (decide (t84<t83)) (inB t84 t82.length ((az_ n ((t82.getD t84.toNat TKid.dflt).n_) 1 24).bind fun xr18=>(cond (!xr18) (some false) (cond (decide (t84 > 0)) (inB (W (t84 - 1)) t310.length (let xv19:Bool:=(decide (((t310.getD (W (t84 - 1)).toNat TKid.dflt).id_)≥((t82.getD t84.toNat TKid.dflt).id_)));(cond xv19 (some false) (back t82 t83 (W (t84+1)) t30 t31 t32 t33 t34 t35 t36 t37 t38 t39 t310)))) (back t82 t83 (W (t84+1)) t30 t31 t32 t33 t34 t35 t36 t37 t38 t39 t310))))) k2)
def ba_.loop15 (n:Nat) (k2:Option Bool) (N:Nat):ba_.T15:=cc_ (fun _ _ _ _ _ _ _ _ _ _ _ _ _ _=>none) (ba_.step15 n k2) N
def ba_:Nat→aA_→aD_→Option Bool
 |0,_,_=>none
 |n+1,o,append=>
  ((aZ_ n o append.q).bind fun xr1=>(cond (!xr1) (some false) (cond (decide ((append.rows.length:Int) > 24)) (some false) (cond (decide ((append.kids.length:Int) > 0)) (cond (!append.q.kids) (some false) (ba_.loop6 n (fun xy7 xy8 xy9 xy10 xy11 xy12 xy13 xy14 xy15 xy16 xy17=>(ba_.loop15 n (some true) n xy17 (xy17.length:Int) 0 xy7 xy8 xy9 xy10 xy11 xy12 xy13 xy14 xy15 xy16 xy17)) n append.rows (append.rows.length:Int) 0 o.cols append.q.table append.q.where_ append.q.order append.q.down append.q.first append.q.show_ append.q.kids append.q.kidTable append.q.kidCol append.rows append.kids)) (ba_.loop6 n (fun xy20 xy21 xy22 xy23 xy24 xy25 xy26 xy27 xy28 xy29 xy30=>(ba_.loop15 n (some true) n xy30 (xy30.length:Int) 0 xy20 xy21 xy22 xy23 xy24 xy25 xy26 xy27 xy28 xy29 xy30)) n append.rows (append.rows.length:Int) 0 o.cols append.q.table append.q.where_ append.q.order append.q.down append.q.first append.q.show_ append.q.kids append.q.kidTable append.q.kidCol append.rows append.kids)))))
def laws_FnShort:Nat→(List Int)→Option Bool
 |0,_=>none
 |n+1,o=>
  ((ff_ n o).bind fun xr1=>(cond xr1 (some true) ((cI_ n o).bind fun xr2=>((dz_ n xr2.1 xr2.2).bind fun xr3=>((cF_ n xr2.1 xr2.2).bind fun xr4=>((cG_ n xr4).bind fun xr5=>((dw_ n xr2.1 xr2.2).bind fun xr6=>(cond (!(xr3 == xr6)) (some false) ((cE_ n xr2.1 xr2.2).bind fun xr7=>(cond ((xr4.length:Int) != (xr7.length:Int)) (some false) ((aP_ n xr4).bind fun xr8=>(cond (xr5 != xr8) (some false) ((cv_ n o).bind fun xr9=>((cG_ n xr9).bind fun xr10=>((aP_ n xr9).bind fun xr11=>(cond (xr10 != xr11) (some false) ((cF_ n xr2.2 xr2.2).bind fun xr12=>(cond ((xr12.length:Int) != 0) ((ba_ n (aA_.mk ([4,4,4]:List Int)) xr2.2).bind fun xr13=>(cond xr13 (some false) (cond (!xr3) (some true) ((c8_ n xr2.2).bind fun xr14=>((dc_ n (aa_.re xr14)).bind fun xr15=>(cond (decide (xr5<(xr15.length:Int))) (some (decide ((xr4.length:Int)≤40))) (some false))))))) (cond (!xr3) (some true) ((c8_ n xr2.2).bind fun xr16=>((dc_ n (aa_.re xr16)).bind fun xr17=>(cond (decide (xr5<(xr17.length:Int))) (some (decide ((xr4.length:Int)≤40))) (some false)))))))))))))))))))))))
end Go.Pi
end
