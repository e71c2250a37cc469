/- FnClient: of drawn events that follow each other whoever listens has the last one's version, or is bad; once bad always. No condition. Text 4 of 7. -/
import Derived.Test.YtmgcfhlcdhlafaaGreatDoorClC
set_option linter.unusedVariables false
set_option maxRecDepth 100000
section
namespace Go.Pi
def fz_:Nat→(List Int)→Option Bool
 |0,_=>none
 |n+1,eJ_=>
  (some (decide ((eJ_.length:Int) > 1048576)))
abbrev bS_.K4:Type:=(List Int)→Int→Option ac_
abbrev bS_.T4:Type:=(List Int)→Int→Int→Option ac_
def bS_.step4 (n:Nat) (k0:bS_.K4) (back:bS_.T4):bS_.T4:=fun eJ_ h i=>
 (cond (decide (i<(eJ_.length:Int))) (cond (decide (i<4000)) (inB i eJ_.length (let xv1:Int:=(IntKind.i64.wrap (BitVec.ofInt (IntKind.bits .i64) (W ((W ((W (h*131))+(W ((eJ_.getD i.toNat 0)))))+7)) &&& BitVec.ofInt (IntKind.bits .i64) 1073741823).toNat);(back eJ_ xv1 (W (i+1))))) (k0 eJ_ h)) (k0 eJ_ h))
def bS_.loop4 (n:Nat) (k0:bS_.K4) (N:Nat):bS_.T4:=cl_ (fun _ _ _=>none) (bS_.step4 n k0) N
def bS_:Nat→(List Int)→Option ac_
 |0,_=>none
 |n+1,eJ_=>
  (bS_.loop4 n (fun xy2 xy3=>(some (ac_.mk xy2 0 xy3))) n eJ_ (W (17333+(eJ_.length:Int))) 0)
def c4_:Nat→ac_→Option (Int × ac_)
 |0,_=>none
 |n+1,c=>
  (let xv1:Int:=(Int.fdiv (W ((W (c.h*6364136223846793005))+1442695040888963407)) (2 ^ min (33:Int).toNat (IntKind.bits .i64)));(let xv2:Int:=(Int.fdiv (W ((W (c.h*6364136223846793005))+1442695040888963407)) (2 ^ min (45:Int).toNat (IntKind.bits .i64)));(let xv3:Int:=(IntKind.i64.wrap (BitVec.ofInt (IntKind.bits .i64) xv1 ^^^ BitVec.ofInt (IntKind.bits .i64) xv2).toNat);(let xv4:Int:=(IntKind.i64.wrap (BitVec.ofInt (IntKind.bits .i64) xv3 &&& BitVec.ofInt (IntKind.bits .i64) 255).toNat);(cond (decide (c.i<(c.b.length:Int))) (inB c.i c.b.length (let xv5:Int:=(IntKind.i64.wrap (BitVec.ofInt (IntKind.bits .i64) (W (xv4+(W ((c.b.getD c.i.toNat 0))))) &&& BitVec.ofInt (IntKind.bits .i64) 255).toNat);(some (xv5,(ac_.mk c.b (W (c.i+1)) (W ((W (c.h*6364136223846793005))+1442695040888963407))))))) (some (xv4,(ac_.mk c.b c.i (W ((W (c.h*6364136223846793005))+1442695040888963407))))))))))
def ag_:Nat→ac_→Int→Option (Int × ac_)
 |0,_,_=>none
 |n+1,c,n1=>
  (cond (decide (n1≤0)) (some (0,c)) (cond (decide (n1≤256)) ((c4_ n c).bind fun xr1=>(cond (decide (n1=0)) none (some ((Int.tmod xr1.1 n1),xr1.2)))) ((c4_ n c).bind fun xr2=>((c4_ n xr2.2).bind fun xr3=>((c4_ n xr3.2).bind fun xr4=>((c4_ n xr4.2).bind fun xr5=>(let xv6:Int:=(W ((W ((W (xr2.1*16777216))+(W (xr3.1*65536))))+(W (xr4.1*256))));(cond (decide (n1=0)) none (some ((Int.tmod (W (xv6+xr5.1)) n1),xr5.2))))))))))
abbrev aK_.K4:Type:=(List Int)→Int→Int→(List Int)→Option (aP_ × ac_)
abbrev aK_.T4:Type:=Int→(List Int)→Int→Int→(List Int)→Option (aP_ × ac_)
def aK_.step4 (n:Nat) (k0:aK_.K4) (back:aK_.T4):aK_.T4:=fun i c0 c1 c2 s0=>
 ((ag_ n (ac_.mk c0 c1 c2) 3).bind fun xr1=>(cond (decide (i<(W (1+xr1.1)))) ((ag_ n xr1.2 4).bind fun xr2=>(bq_ (s0.length+([(W (1+xr2.1))]:List Int).length) 8 (back (W (i+1)) xr2.2.b xr2.2.i xr2.2.h (s0++([(W (1+xr2.1))]:List Int))))) (k0 xr1.2.b xr1.2.i xr1.2.h s0)))
def aK_.loop4 (n:Nat) (k0:aK_.K4) (N:Nat):aK_.T4:=cl_ (fun _ _ _ _ _=>none) (aK_.step4 n k0) N
def aK_:Nat→ac_→Option (aP_ × ac_)
 |0,_=>none
 |n+1,c=>
  (aK_.loop4 n (fun xy3 xy4 xy5 xy6=>(some ((aP_.mk xy6),(ac_.mk xy3 xy4 xy5)))) n 0 c.b c.i c.h ([]:List Int))
def bN_:Nat→Int→Int→Int→Option Bool
 |0,_,_,_=>none
 |n+1,x,lo,hi=>
  (cond (decide (x≥lo)) (some (decide (x≤hi))) (some false))
abbrev aV_.K3:Type:=(List Int)→Option Bool
abbrev aV_.T3:Type:=Int→(List Int)→Option Bool
def aV_.step3 (n:Nat) (k0:aV_.K3) (back:aV_.T3):aV_.T3:=fun i s0=>
 (cond (decide (i<(s0.length:Int))) (inB i s0.length ((bN_ n (s0.getD i.toNat 0) 1 4).bind fun xr1=>(cond (!xr1) (some false) (back (W (i+1)) s0)))) (k0 s0))
def aV_.loop3 (n:Nat) (k0:aV_.K3) (N:Nat):aV_.T3:=cl_ (fun _ _=>none) (aV_.step3 n k0) N
def aV_:Nat→aP_→Option Bool
 |0,_=>none
 |n+1,s=>
  (aV_.loop3 n (fun xy2=>((bN_ n (xy2.length:Int) 1 3).bind fun xr3=>(some xr3))) n 0 s.cols)
def c6_:Nat→aP_→Option aP_
 |0,_=>none
 |n+1,s=>
  (bq_ (([]:List Int).length+s.cols.length) 8 (some (aP_.mk (([]:List Int)++s.cols))))
def dl_:Nat→aP_→Option (ar_ × Bool)
 |0,_=>none
 |n+1,s=>
  ((aV_ n s).bind fun xr1=>(cond (!xr1) (some ((ar_.mk (aP_.mk ([]:List Int)) 0 ([]:List (List TRow))),false)) ((c6_ n s).bind fun xr2=>(cond (decide ((s.cols.length:Int)=(s.cols.length:Int))) (cond (decide (0≤(s.cols.length:Int))) (cond (decide ((s.cols.length:Int)*24≤140737488355328)) (some ((ar_.mk xr2 0 (List.replicate (s.cols.length:Int).toNat [])),true)) none) none) none))))
abbrev aZ_.K4:Type:=(List Int)→Int→Int→Int→Int→(List Int)→Option (TRow × ac_)
abbrev aZ_.T4:Type:=Int→Int→(List Int)→Int→Int→Int→Int→(List Int)→Option (TRow × ac_)
def aZ_.step4 (n:Nat) (k0:aZ_.K4) (back:aZ_.T4):aZ_.T4:=fun cols i c0 c1 c2 t40 r0 r1=>
 (cond (decide (i<cols)) ((ag_ n (ac_.mk c0 c1 c2) 6).bind fun xr2=>(bq_ (r1.length+([xr2.1]:List Int).length) 8 (back cols (W (i+1)) xr2.2.b xr2.2.i xr2.2.h t40 r0 (r1++([xr2.1]:List Int))))) (k0 c0 c1 c2 t40 r0 r1))
def aZ_.loop4 (n:Nat) (k0:aZ_.K4) (N:Nat):aZ_.T4:=cl_ (fun _ _ _ _ _ _ _ _=>none) (aZ_.step4 n k0) N
def aZ_:Nat→ac_→Int→Option (TRow × ac_)
 |0,_,_=>none
 |n+1,c,cols=>
  ((ag_ n c 12).bind fun xr1=>(aZ_.loop4 n (fun xy3 xy4 xy5 xy6 xy7 xy8=>(some ((TRow.mk xy7 xy8),(ac_.mk xy3 xy4 xy5)))) n cols 0 xr1.2.b xr1.2.i xr1.2.h 0 (W (1+xr1.1)) ([]:List Int)))
abbrev bW_.T3:Type:=(List TRow)→Int→Int→Option Int
def bW_.step3 (n:Nat) (k0:Option Int) (back:bW_.T3):bW_.T3:=fun rows id_1 i=>
 (cond (decide (i<(rows.length:Int))) (inB i rows.length (cond (((rows.getD i.toNat TRow.dflt).id_) == id_1) (some i) (back rows id_1 (W (i+1))))) k0)
def bW_.loop3 (n:Nat) (k0:Option Int) (N:Nat):bW_.T3:=cl_ (fun _ _ _=>none) (bW_.step3 n k0) N
def bW_:Nat→(List TRow)→Int→Option Int
 |0,_,_=>none
 |n+1,rows,id1=>
  (bW_.loop3 n (some (-1)) n rows id1 0)
def cc_:Nat→TRow→Option TRow
 |0,_=>none
 |n+1,r=>
  (bq_ (([]:List Int).length+r.cells.length) 8 (some (TRow.mk r.id_ (([]:List Int)++r.cells))))
abbrev a6_.K5:Type:=(List TRow)→Option (List TRow)
abbrev a6_.T5:Type:=(List TRow)→Int→Int→(List TRow)→Option (List TRow)
def a6_.step5 (n:Nat) (k0:a6_.K5) (back:a6_.T5):a6_.T5:=fun rows at_1 i out_1=>
 (cond (decide (i<(rows.length:Int))) (cond (i != at_1) (inB i rows.length ((cc_ n (rows.getD i.toNat TRow.dflt)).bind fun xr2=>(bq_ (out_1.length+([xr2]:List TRow).length) 32 (back rows at_1 (W (i+1)) (out_1++([xr2]:List TRow)))))) (back rows at_1 (W (i+1)) out_1)) (k0 out_1))
def a6_.loop5 (n:Nat) (k0:a6_.K5) (N:Nat):a6_.T5:=cl_ (fun _ _ _ _=>none) (a6_.step5 n k0) N
def a6_:Nat→(List TRow)→Int→Option (List TRow)
 |0,_,_=>none
 |n+1,rows,id1=>
  ((bW_ n rows id1).bind fun xr1=>(a6_.loop5 n (fun xy3=>(some xy3)) n rows xr1 0 ([]:List TRow)))
abbrev bs_.K6:Type:=Int→Int→(List Int)→(List TRow)→Option (List TRow)
abbrev bs_.T6:Type:=Int→Int→Int→(List Int)→(List TRow)→Option (List TRow)
def bs_.step6 (n:Nat) (k0:bs_.K6) (back:bs_.T6):bs_.T6:=fun at_1 i r0 r1 out_1=>
 (cond (decide (i≥0)) (inB i out_1.length (cond (decide (((out_1.getD i.toNat TRow.dflt).id_) > r0)) (back i (W (i - 1)) r0 r1 out_1) (back at_1 (W (i - 1)) r0 r1 out_1))) (k0 at_1 r0 r1 out_1))
def bs_.loop6 (n:Nat) (k0:bs_.K6) (N:Nat):bs_.T6:=cl_ (fun _ _ _ _ _=>none) (bs_.step6 n k0) N
def bs_:Nat→(List TRow)→TRow→Option (List TRow)
 |0,_,_=>none
 |n+1,rows,r=>
  ((a6_ n rows r.id_).bind fun xr1=>((bW_ n rows r.id_).bind fun xr2=>(cond (decide (xr2≥0)) ((bW_ n rows r.id_).bind fun xr3=>(gI_ 0 xr3 xr1.length (bq_ (([]:List TRow).length+((xr1.take xr3.toNat).drop 0).length) 32 ((cc_ n r).bind fun xr4=>(bq_ ((([]:List TRow)++((xr1.take xr3.toNat).drop 0)).length+([xr4]:List TRow).length) 32 (gI_ xr3 (xr1.length:Int) xr1.length (bq_ (((([]:List TRow)++((xr1.take xr3.toNat).drop 0))++([xr4]:List TRow)).length+((xr1.take ((xr1.length:Int).toNat)).drop xr3.toNat).length) 32 (some (((([]:List TRow)++((xr1.take xr3.toNat).drop 0))++([xr4]:List TRow))++((xr1.take ((xr1.length:Int).toNat)).drop xr3.toNat)))))))))) (bs_.loop6 n (fun xy5 xy6 xy7 xy8=>(gI_ 0 xy5 xy8.length (bq_ (([]:List TRow).length+((xy8.take xy5.toNat).drop 0).length) 32 ((cc_ n (TRow.mk xy6 xy7)).bind fun xr9=>(bq_ ((([]:List TRow)++((xy8.take xy5.toNat).drop 0)).length+([xr9]:List TRow).length) 32 (gI_ xy5 (xy8.length:Int) xy8.length (bq_ (((([]:List TRow)++((xy8.take xy5.toNat).drop 0))++([xr9]:List TRow)).length+((xy8.take ((xy8.length:Int).toNat)).drop xy5.toNat).length) 32 (some (((([]:List TRow)++((xy8.take xy5.toNat).drop 0))++([xr9]:List TRow))++((xy8.take ((xy8.length:Int).toNat)).drop xy5.toNat)))))))))) n (xr1.length:Int) (W ((xr1.length:Int) - 1)) r.id_ r.cells xr1))))
abbrev aU_.K4:Type:=(List Int)→Int→Int→(List TRow)→Option ((List TRow) × ac_)
abbrev aU_.T4:Type:=Int→Int→(List Int)→Int→Int→(List TRow)→Option ((List TRow) × ac_)
def aU_.step4 (n:Nat) (k0:aU_.K4) (back:aU_.T4):aU_.T4:=fun cols i c0 c1 c2 out_1=>
 ((ag_ n (ac_.mk c0 c1 c2) 9).bind fun xr1=>(cond (decide (i<xr1.1)) ((aZ_ n xr1.2 cols).bind fun xr2=>((bs_ n out_1 xr2.1).bind fun xr3=>(back cols (W (i+1)) xr2.2.b xr2.2.i xr2.2.h xr3))) (k0 xr1.2.b xr1.2.i xr1.2.h out_1)))
def aU_.loop4 (n:Nat) (k0:aU_.K4) (N:Nat):aU_.T4:=cl_ (fun _ _ _ _ _ _=>none) (aU_.step4 n k0) N
def aU_:Nat→ac_→Int→Option ((List TRow) × ac_)
 |0,_,_=>none
 |n+1,c,cols=>
  (aU_.loop4 n (fun xy4 xy5 xy6 xy7=>(some (xy7,(ac_.mk xy4 xy5 xy6)))) n cols 0 c.b c.i c.h ([]:List TRow))
abbrev aL_.K4:Type:=(List Int)→Int→Int→Int→Int→(List Int)→(List (List TRow))→Option (ar_ × ac_)
abbrev aL_.T4:Type:=Int→(List Int)→Int→Int→Int→Int→(List Int)→(List (List TRow))→Option (ar_ × ac_)
def aL_.step4 (n:Nat) (k0:aL_.K4) (back:aL_.T4):aL_.T4:=fun t c0 c1 c2 t21 s1 s0 s2=>
 (cond (decide (t<(s2.length:Int))) (inB t s0.length ((aU_ n (ac_.mk c0 c1 c2) (s0.getD t.toNat 0)).bind fun xr3=>(inB t s2.length (let xa4:List (List TRow):=s2.set t.toNat xr3.1;(back (W (t+1)) xr3.2.b xr3.2.i xr3.2.h t21 s1 s0 xa4))))) (k0 c0 c1 c2 t21 s1 s0 s2))
def aL_.loop4 (n:Nat) (k0:aL_.K4) (N:Nat):aL_.T4:=cl_ (fun _ _ _ _ _ _ _ _=>none) (aL_.step4 n k0) N
def aL_:Nat→ac_→Option (ar_ × ac_)
 |0,_=>none
 |n+1,c=>
  ((aK_ n c).bind fun xr1=>((dl_ n xr1.1).bind fun xr2=>(aL_.loop4 n (fun xy5 xy6 xy7 xy8 xy9 xy10 xy11=>((ag_ n (ac_.mk xy5 xy6 xy7) 5).bind fun xr12=>(some ((ar_.mk (aP_.mk xy10) xr12.1 xy11),xr12.2)))) n 0 xr1.2.b xr1.2.i xr1.2.h 0 xr2.1.version xr2.1.schema.cols xr2.1.tables)))
def cp_:Nat→Int→Int→Option Int
 |0,_,_=>none
 |n+1,a,b=>
  (cond (decide (a > b)) (some a) (some b))
def b1_:Nat→ac_→Int→Option (Bool × ac_)
 |0,_,_=>none
 |n+1,c,n1=>
  ((ag_ n c n1).bind fun xr1=>(some ((xr1.1 == 0),xr1.2)))
def bj_:Nat→ac_→(List Int)→Option (Int × ac_)
 |0,_,_=>none
 |n+1,c,list=>
  ((ag_ n c (list.length:Int)).bind fun xr1=>(inB xr1.1 list.length (some ((list.getD xr1.1.toNat 0),xr1.2))))
abbrev aj_.K7:Type:=Int→(List Int)→Int→Int→(List Int)→Int→Int→Bool→Int→Bool→Int→Int→Int→Int→Bool→Int→Bool→Int→Int→(List bJ_)→Option (av_ × ac_)
abbrev aj_.T7:Type:=Int→Int→(List Int)→Int→Int→(List Int)→Int→Int→Bool→Int→Bool→Int→Int→Int→Int→Bool→Int→Bool→Int→Int→(List bJ_)→Option (av_ × ac_)
def aj_.step7 (n:Nat) (k0:aj_.K7) (back:aj_.T7):aj_.T7:=fun t6 t7 o0 o1 o2 t30 t40 t42 t43 t44 t46 t47 t48 t50 t52 t53 t54 t56 t57 t58 t51=>
 ((ag_ n (ac_.mk o0 o1 o2) 3).bind fun xr4=>(cond (decide (t7<xr4.1)) ((ag_ n xr4.2 t6).bind fun xr5=>((ag_ n xr5.2 4).bind fun xr6=>((ag_ n xr6.2 6).bind fun xr7=>(bq_ (t51.length+([(bJ_.mk xr5.1 (W (1+xr6.1)) xr7.1)]:List bJ_).length) 24 (back t6 (W (t7+1)) xr7.2.b xr7.2.i xr7.2.h t30 t40 t42 t43 t44 t46 t47 t48 t50 t52 t53 t54 t56 t57 t58 (t51++([(bJ_.mk xr5.1 (W (1+xr6.1)) xr7.1)]:List bJ_))))))) (k0 t6 xr4.2.b xr4.2.i xr4.2.h t30 t40 t42 t43 t44 t46 t47 t48 t50 t52 t53 t54 t56 t57 t58 t51)))
def aj_.loop7 (n:Nat) (k0:aj_.K7) (N:Nat):aj_.T7:=cl_ (fun _ _ _ _ _ _ _ _ _ _ _ _ _ _ _ _ _ _ _ _ _=>none) (aj_.step7 n k0) N
abbrev aj_.K16:Type:=(List Int)→Int→Int→(List Int)→Int→Int→Bool→Int→Bool→Int→Int→Int→Int→Bool→Int→Bool→Int→Int→(List bJ_)→(List Int)→Option (av_ × ac_)
abbrev aj_.T16:Type:=Int→Int→(List Int)→Int→Int→(List Int)→Int→Int→Bool→Int→Bool→Int→Int→Int→Int→Bool→Int→Bool→Int→Int→(List bJ_)→(List Int)→Option (av_ × ac_)
def aj_.step16 (n:Nat) (k2:aj_.K16) (back:aj_.T16):aj_.T16:=fun t6 t8 o0 o1 o2 t30 t40 t42 t43 t44 t46 t47 t48 t50 t52 t53 t54 t56 t57 t58 t51 t55=>
 (cond (decide (t8<t6)) ((b1_ n (ac_.mk o0 o1 o2) 2).bind fun xr31=>(cond xr31.1 (bq_ (t55.length+([t8]:List Int).length) 8 (back t6 (W (t8+1)) xr31.2.b xr31.2.i xr31.2.h t30 t40 t42 t43 t44 t46 t47 t48 t50 t52 t53 t54 t56 t57 t58 t51 (t55++([t8]:List Int)))) (back t6 (W (t8+1)) xr31.2.b xr31.2.i xr31.2.h t30 t40 t42 t43 t44 t46 t47 t48 t50 t52 t53 t54 t56 t57 t58 t51 t55))) (k2 o0 o1 o2 t30 t40 t42 t43 t44 t46 t47 t48 t50 t52 t53 t54 t56 t57 t58 t51 t55))
def aj_.loop16 (n:Nat) (k2:aj_.K16) (N:Nat):aj_.T16:=cl_ (fun _ _ _ _ _ _ _ _ _ _ _ _ _ _ _ _ _ _ _ _ _ _=>none) (aj_.step16 n k2) N
def aj_:Nat→ac_→aP_→Option (av_ × ac_)
 |0,_,_=>none
 |n+1,o,append=>
  ((cp_ n (append.cols.length:Int) 1).bind fun xr1=>((ag_ n o xr1).bind fun xr2=>(cond (decide (xr2.1<(append.cols.length:Int))) (inB xr2.1 append.cols.length ((cp_ n (append.cols.getD xr2.1.toNat 0) 1).bind fun xr3=>(aj_.loop7 n (fun xy8 xy9 xy10 xy11 xy12 xy13 xy14 xy15 xy16 xy17 xy18 xy19 xy20 xy21 xy22 xy23 xy24 xy25 xy26 xy27=>((ag_ n (ac_.mk xy9 xy10 xy11) (W (xy8+1))).bind fun xr28=>(cond (decide (xr28.1 > 0)) ((b1_ n xr28.2 2).bind fun xr29=>((bj_ n xr29.2 ([0,0,1,2,3,5]:List Int)).bind fun xr30=>(aj_.loop16 n (fun xy32 xy33 xy34 xy35 xy36 xy37 xy38 xy39 xy40 xy41 xy42 xy43 xy44 xy45 xy46 xy47 xy48 xy49 xy50 xy51=>((b1_ n (ac_.mk xy32 xy33 xy34) 2).bind fun xr52=>(cond xr52.1 ((cp_ n (xy35.length:Int) 1).bind fun xr53=>((ag_ n xr52.2 xr53).bind fun xr54=>(cond (decide (xr54.1<(xy35.length:Int))) (inB xr54.1 xy35.length ((cp_ n (xy35.getD xr54.1.toNat 0) 1).bind fun xr55=>((ag_ n xr54.2 xr55).bind fun xr56=>(some ((av_.mk xy43 xy50 xy44 xy45 xy46 xy51 true xr54.1 xr56.1),xr56.2))))) (some ((av_.mk xy43 xy50 xy44 xy45 xy46 xy51 true xr54.1 xy49),xr54.2))))) (some ((av_.mk xy43 xy50 xy44 xy45 xy46 xy51 xy47 xy48 xy49),xr52.2))))) n xy8 0 xr30.2.b xr30.2.i xr30.2.h xy12 xy13 xy14 xy15 xy16 xy17 xy18 xy19 xy20 xr28.1 xr29.1 xr30.1 xy24 xy25 xy26 xy27 ([]:List Int)))) ((bj_ n xr28.2 ([0,0,1,2,3,5]:List Int)).bind fun xr57=>(aj_.loop16 n (fun xy58 xy59 xy60 xy61 xy62 xy63 xy64 xy65 xy66 xy67 xy68 xy69 xy70 xy71 xy72 xy73 xy74 xy75 xy76 xy77=>((b1_ n (ac_.mk xy58 xy59 xy60) 2).bind fun xr78=>(cond xr78.1 ((cp_ n (xy61.length:Int) 1).bind fun xr79=>((ag_ n xr78.2 xr79).bind fun xr80=>(cond (decide (xr80.1<(xy61.length:Int))) (inB xr80.1 xy61.length ((cp_ n (xy61.getD xr80.1.toNat 0) 1).bind fun xr81=>((ag_ n xr80.2 xr81).bind fun xr82=>(some ((av_.mk xy69 xy76 xy70 xy71 xy72 xy77 true xr80.1 xr82.1),xr82.2))))) (some ((av_.mk xy69 xy76 xy70 xy71 xy72 xy77 true xr80.1 xy75),xr80.2))))) (some ((av_.mk xy69 xy76 xy70 xy71 xy72 xy77 xy73 xy74 xy75),xr78.2))))) n xy8 0 xr57.2.b xr57.2.i xr57.2.h xy12 xy13 xy14 xy15 xy16 xy17 xy18 xy19 xy20 xr28.1 false xr57.1 xy24 xy25 xy26 xy27 ([]:List Int)))))) n xr3 0 xr2.2.b xr2.2.i xr2.2.h append.cols 0 0 false 0 false 0 0 xr2.1 0 false 0 false 0 0 ([]:List bJ_)))) (aj_.loop7 n (fun xy83 xy84 xy85 xy86 xy87 xy88 xy89 xy90 xy91 xy92 xy93 xy94 xy95 xy96 xy97 xy98 xy99 xy100 xy101 xy102=>((ag_ n (ac_.mk xy84 xy85 xy86) (W (xy83+1))).bind fun xr103=>(cond (decide (xr103.1 > 0)) ((b1_ n xr103.2 2).bind fun xr104=>((bj_ n xr104.2 ([0,0,1,2,3,5]:List Int)).bind fun xr105=>(aj_.loop16 n (fun xy106 xy107 xy108 xy109 xy110 xy111 xy112 xy113 xy114 xy115 xy116 xy117 xy118 xy119 xy120 xy121 xy122 xy123 xy124 xy125=>((b1_ n (ac_.mk xy106 xy107 xy108) 2).bind fun xr126=>(cond xr126.1 ((cp_ n (xy109.length:Int) 1).bind fun xr127=>((ag_ n xr126.2 xr127).bind fun xr128=>(cond (decide (xr128.1<(xy109.length:Int))) (inB xr128.1 xy109.length ((cp_ n (xy109.getD xr128.1.toNat 0) 1).bind fun xr129=>((ag_ n xr128.2 xr129).bind fun xr130=>(some ((av_.mk xy117 xy124 xy118 xy119 xy120 xy125 true xr128.1 xr130.1),xr130.2))))) (some ((av_.mk xy117 xy124 xy118 xy119 xy120 xy125 true xr128.1 xy123),xr128.2))))) (some ((av_.mk xy117 xy124 xy118 xy119 xy120 xy125 xy121 xy122 xy123),xr126.2))))) n xy83 0 xr105.2.b xr105.2.i xr105.2.h xy87 xy88 xy89 xy90 xy91 xy92 xy93 xy94 xy95 xr103.1 xr104.1 xr105.1 xy99 xy100 xy101 xy102 ([]:List Int)))) ((bj_ n xr103.2 ([0,0,1,2,3,5]:List Int)).bind fun xr131=>(aj_.loop16 n (fun xy132 xy133 xy134 xy135 xy136 xy137 xy138 xy139 xy140 xy141 xy142 xy143 xy144 xy145 xy146 xy147 xy148 xy149 xy150 xy151=>((b1_ n (ac_.mk xy132 xy133 xy134) 2).bind fun xr152=>(cond xr152.1 ((cp_ n (xy135.length:Int) 1).bind fun xr153=>((ag_ n xr152.2 xr153).bind fun xr154=>(cond (decide (xr154.1<(xy135.length:Int))) (inB xr154.1 xy135.length ((cp_ n (xy135.getD xr154.1.toNat 0) 1).bind fun xr155=>((ag_ n xr154.2 xr155).bind fun xr156=>(some ((av_.mk xy143 xy150 xy144 xy145 xy146 xy151 true xr154.1 xr156.1),xr156.2))))) (some ((av_.mk xy143 xy150 xy144 xy145 xy146 xy151 true xr154.1 xy149),xr154.2))))) (some ((av_.mk xy143 xy150 xy144 xy145 xy146 xy151 xy147 xy148 xy149),xr152.2))))) n xy83 0 xr131.2.b xr131.2.i xr131.2.h xy87 xy88 xy89 xy90 xy91 xy92 xy93 xy94 xy95 xr103.1 false xr131.1 xy99 xy100 xy101 xy102 ([]:List Int)))))) n 1 0 xr2.2.b xr2.2.i xr2.2.h append.cols 0 0 false 0 false 0 0 xr2.1 0 false 0 false 0 0 ([]:List bJ_)))))
abbrev bZ_.T6:Type:=Int→Int→(List Int)→Option Bool
def bZ_.step6 (n:Nat) (k0:Option Bool) (back:bZ_.T6):bZ_.T6:=fun i r0 r1=>
 (cond (decide (i<(r1.length:Int))) (inB i r1.length ((bN_ n (r1.getD i.toNat 0) (-1000000000) 1000000000).bind fun xr4=>(cond (!xr4) (some false) (back (W (i+1)) r0 r1)))) k0)
def bZ_.loop6 (n:Nat) (k0:Option Bool) (N:Nat):bZ_.T6:=cl_ (fun _ _ _=>none) (bZ_.step6 n k0) N
def bZ_:Nat→aP_→Int→TRow→Option Bool
 |0,_,_,_=>none
 |n+1,s,table,r=>
  ((aV_ n s).bind fun xr1=>(cond (!xr1) (some false) ((bN_ n table 0 (W ((s.cols.length:Int) - 1))).bind fun xr2=>(cond (!xr2) (some false) ((bN_ n r.id_ 1 999).bind fun xr3=>(cond (!xr3) (some false) (inB table s.cols.length (cond ((r.cells.length:Int) != (s.cols.getD table.toNat 0)) (some false) (bZ_.loop6 n (some true) n 0 r.id_ r.cells)))))))))
abbrev bM_.K3:Type:=Int→(List TRow)→(List Int)→Option Bool
abbrev bM_.T3:Type:=Int→(List TRow)→Int→(List Int)→Option Bool
def bM_.step3 (n:Nat) (k0:bM_.K3) (back:bM_.T3):bM_.T3:=fun table rows i s0=>
 (cond (decide (i<(rows.length:Int))) (inB i rows.length ((bZ_ n (aP_.mk s0) table (rows.getD i.toNat TRow.dflt)).bind fun xr1=>(cond (!xr1) (some false) (cond (decide (i > 0)) (inB (W (i - 1)) rows.length (inB i rows.length (let xv2:Bool:=(decide (((rows.getD (W (i - 1)).toNat TRow.dflt).id_)≥((rows.getD i.toNat TRow.dflt).id_)));(cond xv2 (some false) (back table rows (W (i+1)) s0))))) (back table rows (W (i+1)) s0))))) (k0 table rows s0))
def bM_.loop3 (n:Nat) (k0:bM_.K3) (N:Nat):bM_.T3:=cl_ (fun _ _ _ _=>none) (bM_.step3 n k0) N
def bM_:Nat→aP_→Int→(List TRow)→Option Bool
 |0,_,_,_=>none
 |n+1,s,table,rows=>
  (bM_.loop3 n (fun xy3 xy4 xy5=>((aV_ n (aP_.mk xy5)).bind fun xr6=>(cond xr6 ((bN_ n xy3 0 (W ((xy5.length:Int) - 1))).bind fun xr7=>(cond xr7 (some (decide ((xy4.length:Int)≤24))) (some false))) (some false)))) n table rows 0 s.cols)
abbrev bp_.T6:Type:=Int→(List Int)→Int→(List (List TRow))→Option Bool
def bp_.step6 (n:Nat) (k0:Option Bool) (back:bp_.T6):bp_.T6:=fun t s0 s1 s2=>
 (cond (decide (t<(s2.length:Int))) (inB t s2.length ((bM_ n (aP_.mk s0) t (s2.getD t.toNat [])).bind fun xr3=>(cond (!xr3) (some false) (back (W (t+1)) s0 s1 s2)))) k0)
def bp_.loop6 (n:Nat) (k0:Option Bool) (N:Nat):bp_.T6:=cl_ (fun _ _ _ _=>none) (bp_.step6 n k0) N
def bp_:Nat→ar_→Option Bool
 |0,_=>none
 |n+1,s=>
  ((aV_ n s.schema).bind fun xr1=>(cond (!xr1) (some false) ((bN_ n s.version 0 100000).bind fun xr2=>(cond (!xr2) (some false) (cond ((s.tables.length:Int) != (s.schema.cols.length:Int)) (some false) (bp_.loop6 n (some true) n 0 s.schema.cols s.version s.tables))))))
abbrev az_.K7:Type:=Int→(List Int)→Int→(List bJ_)→Int→Bool→Int→(List Int)→Bool→Int→Int→Option Bool
abbrev az_.T7:Type:=Int→Int→(List Int)→Int→(List bJ_)→Int→Bool→Int→(List Int)→Bool→Int→Int→Option Bool
def az_.step7 (n:Nat) (k0:az_.K7) (back:az_.T7):az_.T7:=fun t5 t6 t20 t30 t31 t32 t33 t34 t35 t36 t37 t38=>
 (cond (decide (t6<(t31.length:Int))) (inB t6 t31.length ((bN_ n ((t31.getD t6.toNat bJ_.dflt).col) 0 (W (t5 - 1))).bind fun xr3=>(cond (!xr3) (some false) ((bN_ n ((t31.getD t6.toNat bJ_.dflt).op) 1 4).bind fun xr4=>(cond (!xr4) (some false) ((bN_ n ((t31.getD t6.toNat bJ_.dflt).v) (-1000000000) 1000000000).bind fun xr5=>(cond (!xr5) (some false) (back t5 (W (t6+1)) t20 t30 t31 t32 t33 t34 t35 t36 t37 t38)))))))) (k0 t5 t20 t30 t31 t32 t33 t34 t35 t36 t37 t38))
def az_.loop7 (n:Nat) (k0:az_.K7) (N:Nat):az_.T7:=cl_ (fun _ _ _ _ _ _ _ _ _ _ _ _=>none) (az_.step7 n k0) N
abbrev az_.K16:Type:=Int→(List Int)→Int→(List bJ_)→Int→Bool→Int→(List Int)→Bool→Int→Int→Option Bool
abbrev az_.T16:Type:=Int→Int→(List Int)→Int→(List bJ_)→Int→Bool→Int→(List Int)→Bool→Int→Int→Option Bool
def az_.step16 (n:Nat) (k2:az_.K16) (back:az_.T16):az_.T16:=fun t5 t8 t20 t30 t31 t32 t33 t34 t35 t36 t37 t38=>
 (cond (decide (t8<(t35.length:Int))) (inB t8 t35.length ((bN_ n (t35.getD t8.toNat 0) 0 (W (t5 - 1))).bind fun xr17=>(cond (!xr17) (some false) (cond (decide (t8 > 0)) (inB (W (t8 - 1)) t35.length (inB t8 t35.length (cond (decide ((t35.getD (W (t8 - 1)).toNat 0)≥(t35.getD t8.toNat 0))) (some false) (back t5 (W (t8+1)) t20 t30 t31 t32 t33 t34 t35 t36 t37 t38)))) (back t5 (W (t8+1)) t20 t30 t31 t32 t33 t34 t35 t36 t37 t38))))) (k2 t5 t20 t30 t31 t32 t33 t34 t35 t36 t37 t38))
def az_.loop16 (n:Nat) (k2:az_.K16) (N:Nat):az_.T16:=cl_ (fun _ _ _ _ _ _ _ _ _ _ _ _=>none) (az_.step16 n k2) N
def az_:Nat→aP_→av_→Option Bool
 |0,_,_=>none
 |n+1,o,append=>
  ((aV_ n o).bind fun xr1=>(cond (!xr1) (some false) ((bN_ n append.table 0 (W ((o.cols.length:Int) - 1))).bind fun xr2=>(cond (!xr2) (some false) (cond (decide ((append.where_.length:Int) > 3)) (some false) (inB append.table o.cols.length (az_.loop7 n (fun xy6 xy7 xy8 xy9 xy10 xy11 xy12 xy13 xy14 xy15 xy16=>(az_.loop16 n (fun xy18 xy19 xy20 xy21 xy22 xy23 xy24 xy25 xy26 xy27 xy28=>((bN_ n xy22 0 xy18).bind fun xr29=>(cond (!xr29) (some false) ((bN_ n xy24 0 24).bind fun xr30=>(cond (!xr30) (some false) (cond (xy22 == 0) (cond xy23 (some false) (cond (!xy26) (cond (xy27 == 0) (some (xy28 == 0)) (some false)) ((bN_ n xy27 0 (W ((xy19.length:Int) - 1))).bind fun xr31=>(cond xr31 (inB xy27 xy19.length ((bN_ n xy28 0 (W ((xy19.getD xy27.toNat 0) - 1))).bind fun xr32=>(some xr32))) (some false))))) (cond (!xy26) (cond (xy27 == 0) (some (xy28 == 0)) (some false)) ((bN_ n xy27 0 (W ((xy19.length:Int) - 1))).bind fun xr33=>(cond xr33 (inB xy27 xy19.length ((bN_ n xy28 0 (W ((xy19.getD xy27.toNat 0) - 1))).bind fun xr34=>(some xr34))) (some false)))))))))) n xy6 0 xy7 xy8 xy9 xy10 xy11 xy12 xy13 xy14 xy15 xy16)) n (o.cols.getD append.table.toNat 0) 0 o.cols append.table append.where_ append.order append.down append.first append.show_ append.kids append.kidTable append.kidCol)))))))
def dT_:Nat→av_→Option av_
 |0,_=>none
 |n+1,q=>
  (bq_ (([]:List bJ_).length+q.where_.length) 24 (bq_ (([]:List Int).length+q.show_.length) 8 (some { q with where_:=(([]:List bJ_)++q.where_),show_:=(([]:List Int)++q.show_) })))
def dq_:Nat→bJ_→TRow→Option Bool
 |0,_,_=>none
 |n+1,x,r=>
  ((bN_ n x.col 0 (W ((r.cells.length:Int) - 1))).bind fun xr1=>(cond (!xr1) (some false) (inB x.col r.cells.length (cond (x.op == 1) (some ((r.cells.getD x.col.toNat 0) == x.v)) (cond (x.op == 2) (some (decide ((r.cells.getD x.col.toNat 0)<x.v))) (cond (x.op == 3) (some (decide ((r.cells.getD x.col.toNat 0) > x.v))) (cond (x.op == 4) (some ((r.cells.getD x.col.toNat 0) != x.v)) (some false))))))))
abbrev bA_.T3:Type:=Int→Int→(List bJ_)→Int→Bool→Int→(List Int)→Bool→Int→Int→Int→(List Int)→Option Bool
def bA_.step3 (n:Nat) (k0:Option Bool) (back:bA_.T3):bA_.T3:=fun i q0 q1 q2 q3 q4 q5 q6 q7 q8 r0 r1=>
 (cond (decide (i<(q1.length:Int))) (inB i q1.length ((dq_ n (q1.getD i.toNat bJ_.dflt) (TRow.mk r0 r1)).bind fun xr1=>(cond (!xr1) (some false) (back (W (i+1)) q0 q1 q2 q3 q4 q5 q6 q7 q8 r0 r1)))) k0)
def bA_.loop3 (n:Nat) (k0:Option Bool) (N:Nat):bA_.T3:=cl_ (fun _ _ _ _ _ _ _ _ _ _ _ _=>none) (bA_.step3 n k0) N
def bA_:Nat→av_→TRow→Option Bool
 |0,_,_=>none
 |n+1,q,r=>
  (bA_.loop3 n (some true) n 0 q.table q.where_ q.order q.down q.first q.show_ q.kids q.kidTable q.kidCol r.id_ r.cells)
def bC_:Nat→TRow→Int→Option Int
 |0,_,_=>none
 |n+1,r,col=>
  ((bN_ n col 0 (W ((r.cells.length:Int) - 1))).bind fun xr1=>(cond (!xr1) (some 0) (inB col r.cells.length (some (r.cells.getD col.toNat 0)))))
def ed_:Nat→av_→TRow→TRow→Option Bool
 |0,_,_,_=>none
 |n+1,q,a,b=>
  (cond (q.order != 0) ((bC_ n a (W (q.order - 1))).bind fun xr1=>((bC_ n b (W (q.order - 1))).bind fun xr2=>(cond (xr1 != xr2) (some (!((decide (xr1<xr2)) == q.down))) (some (decide (a.id_<b.id_)))))) (some (decide (a.id_<b.id_))))
abbrev bE_.K5:Type:=Bool→Int→(List Int)→(List TRow)→Option (List TRow)
abbrev bE_.T5:Type:=(List TRow)→Bool→Int→Int→(List bJ_)→Int→Bool→Int→(List Int)→Bool→Int→Int→Int→(List Int)→(List TRow)→Option (List TRow)
def bE_.step5 (n:Nat) (k0:bE_.K5) (back:bE_.T5):bE_.T5:=fun rows put i q0 q1 q2 q3 q4 q5 q6 q7 q8 r0 r1 out_1=>
 (cond (decide (i<(rows.length:Int))) (cond (!put) (inB i rows.length ((ed_ n (av_.mk q0 q1 q2 q3 q4 q5 q6 q7 q8) (TRow.mk r0 r1) (rows.getD i.toNat TRow.dflt)).bind fun xr1=>(cond xr1 ((cc_ n (TRow.mk r0 r1)).bind fun xr2=>(bq_ (out_1.length+([xr2]:List TRow).length) 32 (inB i rows.length (bq_ ((out_1++([xr2]:List TRow)).length+([(rows.getD i.toNat TRow.dflt)]:List TRow).length) 32 (back rows true (W (i+1)) q0 q1 q2 q3 q4 q5 q6 q7 q8 r0 r1 ((out_1++([xr2]:List TRow))++([(rows.getD i.toNat TRow.dflt)]:List TRow))))))) (inB i rows.length (bq_ (out_1.length+([(rows.getD i.toNat TRow.dflt)]:List TRow).length) 32 (back rows put (W (i+1)) q0 q1 q2 q3 q4 q5 q6 q7 q8 r0 r1 (out_1++([(rows.getD i.toNat TRow.dflt)]:List TRow)))))))) (inB i rows.length (bq_ (out_1.length+([(rows.getD i.toNat TRow.dflt)]:List TRow).length) 32 (back rows put (W (i+1)) q0 q1 q2 q3 q4 q5 q6 q7 q8 r0 r1 (out_1++([(rows.getD i.toNat TRow.dflt)]:List TRow)))))) (k0 put r0 r1 out_1))
def bE_.loop5 (n:Nat) (k0:bE_.K5) (N:Nat):bE_.T5:=cl_ (fun _ _ _ _ _ _ _ _ _ _ _ _ _ _ _=>none) (bE_.step5 n k0) N
def bE_:Nat→av_→(List TRow)→TRow→Option (List TRow)
 |0,_,_,_=>none
 |n+1,q,rows,r=>
  (bE_.loop5 n (fun xy3 xy4 xy5 xy6=>(cond (!xy3) ((cc_ n (TRow.mk xy4 xy5)).bind fun xr7=>(bq_ (xy6.length+([xr7]:List TRow).length) 32 (some (xy6++([xr7]:List TRow))))) (some xy6))) n rows false 0 q.table q.where_ q.order q.down q.first q.show_ q.kids q.kidTable q.kidCol r.id_ r.cells ([]:List TRow))
abbrev bv_.K8:Type:=(List TRow)→Option (List TRow)
abbrev bv_.T8:Type:=(List TRow)→Int→Int→(List bJ_)→Int→Bool→Int→(List Int)→Bool→Int→Int→(List TRow)→Option (List TRow)
def bv_.step8 (n:Nat) (k0:bv_.K8) (back:bv_.T8):bv_.T8:=fun rows i q0 q1 q2 q3 q4 q5 q6 q7 q8 out_1=>
 (cond (decide (i<(rows.length:Int))) (inB i rows.length ((bA_ n (av_.mk q0 q1 q2 q3 q4 q5 q6 q7 q8) (rows.getD i.toNat TRow.dflt)).bind fun xr3=>(cond xr3 (inB i rows.length ((bE_ n (av_.mk q0 q1 q2 q3 q4 q5 q6 q7 q8) out_1 (rows.getD i.toNat TRow.dflt)).bind fun xr4=>(back rows (W (i+1)) q0 q1 q2 q3 q4 q5 q6 q7 q8 xr4))) (back rows (W (i+1)) q0 q1 q2 q3 q4 q5 q6 q7 q8 out_1)))) (k0 out_1))
def bv_.loop8 (n:Nat) (k0:bv_.K8) (N:Nat):bv_.T8:=cl_ (fun _ _ _ _ _ _ _ _ _ _ _ _=>none) (bv_.step8 n k0) N
def bv_:Nat→ar_→av_→Option (List TRow)
 |0,_,_=>none
 |n+1,s,q=>
  ((bp_ n s).bind fun xr1=>(cond (!xr1) (some ([]:List TRow)) ((az_ n s.schema q).bind fun xr2=>(cond (!xr2) (some ([]:List TRow)) (inB q.table s.tables.length (bv_.loop8 n (fun xy5=>(some xy5)) n (s.tables.getD q.table.toNat []) 0 q.table q.where_ q.order q.down q.first q.show_ q.kids q.kidTable q.kidCol ([]:List TRow)))))))
abbrev aN_.K5:Type:=Int→Int→Bool→(List TKid)→Option (List TKid)
abbrev aN_.T5:Type:=(List TKid)→Int→Int→Bool→Int→(List TKid)→Option (List TKid)
def aN_.step5 (n:Nat) (k0:aN_.K5) (back:aN_.T5):aN_.T5:=fun o append t2 t8 t9 t7=>
 (cond (decide (t9<(o.length:Int))) (inB t9 o.length (cond (!t8) (cond (decide (((o.getD t9.toNat TKid.dflt).id_)≥append)) (cond (((o.getD t9.toNat TKid.dflt).id_) == append) (cond (decide ((W (((o.getD t9.toNat TKid.dflt).n_)+t2)) > 0)) (bq_ (t7.length+([(TKid.mk append (W (((o.getD t9.toNat TKid.dflt).n_)+t2)))]:List TKid).length) 16 (cond (((o.getD t9.toNat TKid.dflt).id_) == append) (back o append t2 true (W (t9+1)) (t7++([(TKid.mk append (W (((o.getD t9.toNat TKid.dflt).n_)+t2)))]:List TKid))) (bq_ ((t7++([(TKid.mk append (W (((o.getD t9.toNat TKid.dflt).n_)+t2)))]:List TKid)).length+([(o.getD t9.toNat TKid.dflt)]:List TKid).length) 16 (back o append t2 true (W (t9+1)) ((t7++([(TKid.mk append (W (((o.getD t9.toNat TKid.dflt).n_)+t2)))]:List TKid))++([(o.getD t9.toNat TKid.dflt)]:List TKid)))))) (cond (((o.getD t9.toNat TKid.dflt).id_) == append) (back o append t2 true (W (t9+1)) t7) (bq_ (t7.length+([(o.getD t9.toNat TKid.dflt)]:List TKid).length) 16 (back o append t2 true (W (t9+1)) (t7++([(o.getD t9.toNat TKid.dflt)]:List TKid)))))) (cond (decide (t2 > 0)) (bq_ (t7.length+([(TKid.mk append t2)]:List TKid).length) 16 (cond (((o.getD t9.toNat TKid.dflt).id_) == append) (back o append t2 true (W (t9+1)) (t7++([(TKid.mk append t2)]:List TKid))) (bq_ ((t7++([(TKid.mk append t2)]:List TKid)).length+([(o.getD t9.toNat TKid.dflt)]:List TKid).length) 16 (back o append t2 true (W (t9+1)) ((t7++([(TKid.mk append t2)]:List TKid))++([(o.getD t9.toNat TKid.dflt)]:List TKid)))))) (cond (((o.getD t9.toNat TKid.dflt).id_) == append) (back o append t2 true (W (t9+1)) t7) (bq_ (t7.length+([(o.getD t9.toNat TKid.dflt)]:List TKid).length) 16 (back o append t2 true (W (t9+1)) (t7++([(o.getD t9.toNat TKid.dflt)]:List TKid))))))) (bq_ (t7.length+([(o.getD t9.toNat TKid.dflt)]:List TKid).length) 16 (back o append t2 t8 (W (t9+1)) (t7++([(o.getD t9.toNat TKid.dflt)]:List TKid))))) (bq_ (t7.length+([(o.getD t9.toNat TKid.dflt)]:List TKid).length) 16 (back o append t2 t8 (W (t9+1)) (t7++([(o.getD t9.toNat TKid.dflt)]:List TKid)))))) (k0 append t2 t8 t7))
def aN_.loop5 (n:Nat) (k0:aN_.K5) (N:Nat):aN_.T5:=cl_ (fun _ _ _ _ _ _=>none) (aN_.step5 n k0) N
def aN_:Nat→(List TKid)→Int→Int→Option (List TKid)
 |0,_,_,_=>none
 |n+1,o,append,a2=>
  (aN_.loop5 n (fun xy1 xy2 xy3 xy4=>(cond (!xy3) (cond (decide (xy2 > 0)) (bq_ (xy4.length+([(TKid.mk xy1 xy2)]:List TKid).length) 16 (some (xy4++([(TKid.mk xy1 xy2)]:List TKid)))) (some xy4)) (some xy4))) n o append a2 false 0 ([]:List TKid))
abbrev bL_.K8:Type:=Int→Int→Bool→Int→Bool→Int→Int→Int→Int→Bool→Int→Bool→Int→Int→(List bJ_)→(List Int)→(List TRow)→(List TKid)→Option (a8_ × Bool)
abbrev bL_.T8:Type:=(List TRow)→Int→Int→(List bJ_)→Int→Bool→Int→(List Int)→Bool→Int→Int→Int→Int→Bool→Int→Bool→Int→Int→Int→Int→Bool→Int→Bool→Int→Int→(List bJ_)→(List Int)→(List TRow)→(List TKid)→Option (a8_ × Bool)
def bL_.step8 (n:Nat) (k0:bL_.K8) (back:bL_.T8):bL_.T8:=fun rows i q0 q1 q2 q3 q4 q5 q6 q7 q8 t40 t42 t43 t44 t46 t47 t48 v0 v2 v3 v4 v6 v7 v8 v1 v5 v9 v10=>
 (cond (decide (i<(rows.length:Int))) (cond q6 (inB i rows.length (inB q8 ((rows.getD i.toNat TRow.dflt).cells).length ((aN_ n v10 (((rows.getD i.toNat TRow.dflt).cells).getD q8.toNat 0) 1).bind fun xr5=>(back rows (W (i+1)) q0 q1 q2 q3 q4 q5 q6 q7 q8 t40 t42 t43 t44 t46 t47 t48 v0 v2 v3 v4 v6 v7 v8 v1 v5 v9 xr5)))) (k0 t40 t42 t43 t44 t46 t47 t48 v0 v2 v3 v4 v6 v7 v8 v1 v5 v9 v10)) (k0 t40 t42 t43 t44 t46 t47 t48 v0 v2 v3 v4 v6 v7 v8 v1 v5 v9 v10))
def bL_.loop8 (n:Nat) (k0:bL_.K8) (N:Nat):bL_.T8:=cl_ (fun _ _ _ _ _ _ _ _ _ _ _ _ _ _ _ _ _ _ _ _ _ _ _ _ _ _ _ _ _=>none) (bL_.step8 n k0) N
def bL_:Nat→ar_→av_→Option (a8_ × Bool)
 |0,_,_=>none
 |n+1,s,q=>
  ((bp_ n s).bind fun xr1=>(cond (!xr1) (some ((a8_.mk (av_.mk 0 ([]:List bJ_) 0 false 0 ([]:List Int) false 0 0) ([]:List TRow) ([]:List TKid)),false)) ((az_ n s.schema q).bind fun xr2=>(cond (!xr2) (some ((a8_.mk (av_.mk 0 ([]:List bJ_) 0 false 0 ([]:List Int) false 0 0) ([]:List TRow) ([]:List TKid)),false)) ((dT_ n q).bind fun xr3=>((bv_ n s q).bind fun xr4=>(inB q.kidTable s.tables.length (bL_.loop8 n (fun xy6 xy7 xy8 xy9 xy10 xy11 xy12 xy13 xy14 xy15 xy16 xy17 xy18 xy19 xy20 xy21 xy22 xy23=>(some ((a8_.mk (av_.mk xy13 xy20 xy14 xy15 xy16 xy21 xy17 xy18 xy19) xy22 xy23),true))) n (s.tables.getD q.kidTable.toNat []) 0 q.table q.where_ q.order q.down q.first q.show_ q.kids q.kidTable q.kidCol 0 0 false 0 false 0 0 xr3.table xr3.order xr3.down xr3.first xr3.kids xr3.kidTable xr3.kidCol xr3.where_ xr3.show_ xr4 ([]:List TKid)))))))))
def dt_:Nat→ar_→av_→Option (b3_ × Bool)
 |0,_,_=>none
 |n+1,s,q=>
  ((bL_ n s q).bind fun xr1=>(cond (!xr1.2) (some ((b3_.mk (a8_.mk (av_.mk 0 ([]:List bJ_) 0 false 0 ([]:List Int) false 0 0) ([]:List TRow) ([]:List TKid)) 0 (a8_.mk (av_.mk 0 ([]:List bJ_) 0 false 0 ([]:List Int) false 0 0) ([]:List TRow) ([]:List TKid)) 0 false),false)) (some ((b3_.mk xr1.1 s.version (a8_.mk (av_.mk 0 ([]:List bJ_) 0 false 0 ([]:List Int) false 0 0) ([]:List TRow) ([]:List TKid)) 0 false),true))))
abbrev bG_.K4:Type:=(List TRow)→Option (List TRow)
abbrev bG_.T4:Type:=(List TRow)→Int→(List TRow)→Option (List TRow)
def bG_.step4 (n:Nat) (k0:bG_.K4) (back:bG_.T4):bG_.T4:=fun rows i out_1=>
 (cond (decide (i<(rows.length:Int))) (inB i rows.length ((cc_ n (rows.getD i.toNat TRow.dflt)).bind fun xr1=>(bq_ (out_1.length+([xr1]:List TRow).length) 32 (back rows (W (i+1)) (out_1++([xr1]:List TRow)))))) (k0 out_1))
def bG_.loop4 (n:Nat) (k0:bG_.K4) (N:Nat):bG_.T4:=cl_ (fun _ _ _=>none) (bG_.step4 n k0) N
def bG_:Nat→(List TRow)→Option (List TRow)
 |0,_=>none
 |n+1,rows=>
  (bG_.loop4 n (fun xy2=>(some xy2)) n rows 0 ([]:List TRow))
def cB_:Nat→a8_→Option a8_
 |0,_=>none
 |n+1,v=>
  ((dT_ n v.q).bind fun xr1=>((bG_ n v.rows).bind fun xr2=>(bq_ (([]:List TKid).length+v.kids.length) 16 (some (a8_.mk xr1 xr2 (([]:List TKid)++v.kids))))))
def ds_:Nat→b3_→Option b3_
 |0,_=>none
 |n+1,x=>
  ((cB_ n x.view).bind fun xr1=>((cB_ n x.last).bind fun xr2=>(some { x with view:=xr1,last:=xr2 })))
abbrev bQ_.T3:Type:=Int→Int→Int→(List bJ_)→Int→Bool→Int→(List Int)→Bool→Int→Int→(List TRow)→(List TKid)→Option Int
def bQ_.step3 (n:Nat) (k0:Option Int) (back:bQ_.T3):bQ_.T3:=fun id_1 i v0 v1 v2 v3 v4 v5 v6 v7 v8 v9 v10=>
 (cond (decide (i<(v10.length:Int))) (inB i v10.length (cond (((v10.getD i.toNat TKid.dflt).id_) == id_1) (inB i v10.length (some ((v10.getD i.toNat TKid.dflt).n_))) (back id_1 (W (i+1)) v0 v1 v2 v3 v4 v5 v6 v7 v8 v9 v10))) k0)
def bQ_.loop3 (n:Nat) (k0:Option Int) (N:Nat):bQ_.T3:=cl_ (fun _ _ _ _ _ _ _ _ _ _ _ _ _=>none) (bQ_.step3 n k0) N
def bQ_:Nat→a8_→Int→Option Int
 |0,_,_=>none
 |n+1,v,id1=>
  (bQ_.loop3 n (some 0) n id1 0 v.q.table v.q.where_ v.q.order v.q.down v.q.first v.q.show_ v.q.kids v.q.kidTable v.q.kidCol v.rows v.kids)
abbrev a2_.K4:Type:=(List Int)→Option (List Int)
abbrev a2_.T4:Type:=Int→Int→(List bJ_)→Int→Bool→Int→(List Int)→Bool→Int→Int→(List TRow)→(List TKid)→(List Int)→Option (List Int)
def a2_.step4 (n:Nat) (k0:a2_.K4) (back:a2_.T4):a2_.T4:=fun i v0 v1 v2 v3 v4 v5 v6 v7 v8 v9 v10 out_1=>
 (cond (decide (i<(v9.length:Int))) (inB i v9.length ((bQ_ n (a8_.mk (av_.mk v0 v1 v2 v3 v4 v5 v6 v7 v8) v9 v10) ((v9.getD i.toNat TRow.dflt).id_)).bind fun xr1=>(bq_ (out_1.length+([xr1]:List Int).length) 8 (back (W (i+1)) v0 v1 v2 v3 v4 v5 v6 v7 v8 v9 v10 (out_1++([xr1]:List Int)))))) (k0 out_1))
def a2_.loop4 (n:Nat) (k0:a2_.K4) (N:Nat):a2_.T4:=cl_ (fun _ _ _ _ _ _ _ _ _ _ _ _ _=>none) (a2_.step4 n k0) N
def a2_:Nat→a8_→Option (List Int)
 |0,_=>none
 |n+1,v=>
  (a2_.loop4 n (fun xy2=>(some xy2)) n 0 v.q.table v.q.where_ v.q.order v.q.down v.q.first v.q.show_ v.q.kids v.q.kidTable v.q.kidCol v.rows v.kids ([]:List Int))
def eu_:Nat→Int→Int→Option Int
 |0,_,_=>none
 |n+1,a,b=>
  (cond (decide (a<b)) (some a) (some b))
def c9_:Nat→av_→Int→Option Int
 |0,_,_=>none
 |n+1,q,n1=>
  (cond (q.first == 0) (some n1) ((eu_ n n1 q.first).bind fun xr1=>((cp_ n xr1 0).bind fun xr2=>(some xr2))))
abbrev aQ_.K7:Type:=Bool→Bs→Option Bs
abbrev aQ_.T7:Type:=Int→Bool→Bs→Option Bs
def aQ_.step7 (n:Nat) (k0:aQ_.K7) (back:aQ_.T7):aQ_.T7:=fun n_1 below out_1=>
 (cond (n_1 != 0) (cond (decide ((Int.tmod n_1 10)<0)) (let xv1:Bs:=(qP_ ([(IntKind.u8.wrap ((W (48+(W (0 - (Int.tmod n_1 10)))))))]:List Int));(cond (decide (xv1.length+out_1.length≤9223372036854775807)) (back (W (Int.tdiv n_1 10)) below (xv1++out_1)) none)) (cond (decide ((qP_ ([(IntKind.u8.wrap ((W (48+(Int.tmod n_1 10)))))]:List Int)).length+out_1.length≤9223372036854775807)) (let xv2:Bs:=((qP_ ([(IntKind.u8.wrap ((W (48+(Int.tmod n_1 10)))))]:List Int))++out_1);(back (W (Int.tdiv n_1 10)) below xv2)) none)) (k0 below out_1))
def aQ_.loop7 (n:Nat) (k0:aQ_.K7) (N:Nat):aQ_.T7:=cl_ (fun _ _ _=>none) (aQ_.step7 n k0) N
def aQ_:Nat→Int→Option Bs
 |0,_=>none
 |n+1,n1=>
  (cond (n1 == 0) (some [48]) (aQ_.loop7 n (fun xy3 xy4=>(cond xy3 (cond (decide ([45].length+xy4.length≤9223372036854775807)) (some (([45]:Bs)++xy4)) none) (some xy4))) n n1 (decide (n1<0)) []))
def cL_:Nat→Int→Option aa_
 |0,_=>none
 |n+1,n1=>
  (some (aa_.mk 2 n1 [] ([]:List aa_) ([]:List Bs)))
abbrev br_.K5:Type:=Bs→Bool→Int→Int→Bs→(List aa_)→(List Bs)→Int→Int→Bs→Int→Int→Bs→(List aa_)→(List Bs)→Option aa_
abbrev br_.T5:Type:=Bs→Bool→Int→Int→Int→Bs→(List aa_)→(List Bs)→Int→Int→Bs→(List aa_)→(List Bs)→Int→Int→Bs→Int→Int→Bs→(List aa_)→(List Bs)→Option aa_
def br_.step5 (n:Nat) (k0:br_.K5) (back:br_.T5):br_.T5:=fun append t8 t9 t30 t31 t32 t33 t34 t50 t51 t52 t53 t54 t60 t61 t62 t70 t71 t72 t73 t74=>
 (cond (decide (t9<(t34.length:Int))) (cond (!t8) (inB t9 t34.length (cond (!Op.bytesLess (t34.getD t9.toNat []) append) (bq_ (t74.length+([append]:List Bs).length) 16 (bq_ (t73.length+([(aa_.mk t50 t51 t52 t53 t54)]:List aa_).length) 80 (inB t9 t34.length (cond (!((t34.getD t9.toNat []) == append)) (inB t9 t34.length (bq_ ((t74++([append]:List Bs)).length+([(t34.getD t9.toNat [])]:List Bs).length) 16 (inB t9 t33.length (bq_ ((t73++([(aa_.mk t50 t51 t52 t53 t54)]:List aa_)).length+([(aa_.re (t33.getD t9.toNat aa_.dflt))]:List aa_).length) 80 (back append true (W (t9+1)) t30 t31 t32 t33 t34 t50 t51 t52 t53 t54 t60 t61 t62 t70 t71 t72 ((t73++([(aa_.mk t50 t51 t52 t53 t54)]:List aa_))++([(aa_.re (t33.getD t9.toNat aa_.dflt))]:List aa_)) ((t74++([append]:List Bs))++([(t34.getD t9.toNat [])]:List Bs))))))) (back append true (W (t9+1)) t30 t31 t32 t33 t34 t50 t51 t52 t53 t54 t60 t61 t62 t70 t71 t72 (t73++([(aa_.mk t50 t51 t52 t53 t54)]:List aa_)) (t74++([append]:List Bs))))))) (inB t9 t34.length (cond (!((t34.getD t9.toNat []) == append)) (inB t9 t34.length (bq_ (t74.length+([(t34.getD t9.toNat [])]:List Bs).length) 16 (inB t9 t33.length (bq_ (t73.length+([(aa_.re (t33.getD t9.toNat aa_.dflt))]:List aa_).length) 80 (back append t8 (W (t9+1)) t30 t31 t32 t33 t34 t50 t51 t52 t53 t54 t60 t61 t62 t70 t71 t72 (t73++([(aa_.re (t33.getD t9.toNat aa_.dflt))]:List aa_)) (t74++([(t34.getD t9.toNat [])]:List Bs))))))) (back append t8 (W (t9+1)) t30 t31 t32 t33 t34 t50 t51 t52 t53 t54 t60 t61 t62 t70 t71 t72 t73 t74))))) (inB t9 t34.length (cond (!((t34.getD t9.toNat []) == append)) (inB t9 t34.length (bq_ (t74.length+([(t34.getD t9.toNat [])]:List Bs).length) 16 (inB t9 t33.length (bq_ (t73.length+([(aa_.re (t33.getD t9.toNat aa_.dflt))]:List aa_).length) 80 (back append t8 (W (t9+1)) t30 t31 t32 t33 t34 t50 t51 t52 t53 t54 t60 t61 t62 t70 t71 t72 (t73++([(aa_.re (t33.getD t9.toNat aa_.dflt))]:List aa_)) (t74++([(t34.getD t9.toNat [])]:List Bs))))))) (back append t8 (W (t9+1)) t30 t31 t32 t33 t34 t50 t51 t52 t53 t54 t60 t61 t62 t70 t71 t72 t73 t74)))) (k0 append t8 t50 t51 t52 t53 t54 t60 t61 t62 t70 t71 t72 t73 t74))
def br_.loop5 (n:Nat) (k0:br_.K5) (N:Nat):br_.T5:=cl_ (fun _ _ _ _ _ _ _ _ _ _ _ _ _ _ _ _ _ _ _ _ _=>none) (br_.step5 n k0) N
def br_:Nat→aa_→Bs→aa_→Option aa_
 |0,_,_,_=>none
 |n+1,o,append,a2=>
  (br_.loop5 n (fun xy1 xy2 xy3 xy4 xy5 xy6 xy7 xy8 xy9 xy10 xy11 xy12 xy13 xy14 xy15=>(cond (!xy2) (bq_ (xy15.length+([xy1]:List Bs).length) 16 (bq_ (xy14.length+([(aa_.mk xy3 xy4 xy5 xy6 xy7)]:List aa_).length) 80 (some (aa_.mk xy11 xy12 xy13 (xy14++([(aa_.mk xy3 xy4 xy5 xy6 xy7)]:List aa_)) (xy15++([xy1]:List Bs)))))) (some (aa_.mk xy11 xy12 xy13 xy14 xy15)))) n append false 0 o.kind o.n_ o.s o.list o.names a2.kind a2.n_ a2.s a2.list a2.names 0 0 [] 5 0 [] ([]:List aa_) ([]:List Bs))
abbrev bz_.K4:Type:=Int→Int→(List bJ_)→Int→Bool→Int→(List Int)→Bool→Int→Int→Int→(List Int)→Int→Int→Bs→Int→Int→Bs→(List aa_)→(List Bs)→Option aa_
abbrev bz_.T4:Type:=Int→Int→Int→(List bJ_)→Int→Bool→Int→(List Int)→Bool→Int→Int→Int→(List Int)→Int→Int→Bs→Int→Int→Bs→(List aa_)→(List Bs)→Option aa_
def bz_.step4 (n:Nat) (k0:bz_.K4) (back:bz_.T4):bz_.T4:=fun kids i q0 q1 q2 q3 q4 q5 q6 q7 q8 r0 r1 t60 t61 t62 out0 out1 out2 out3 out4=>
 (cond (decide (i<(q5.length:Int))) (inB i q5.length ((aQ_ n (q5.getD i.toNat 0)).bind fun xr1=>(cond (decide ([99].length+xr1.length≤9223372036854775807)) (inB i q5.length ((bC_ n (TRow.mk r0 r1) (q5.getD i.toNat 0)).bind fun xr2=>((cL_ n xr2).bind fun xr3=>((br_ n (aa_.mk out0 out1 out2 out3 out4) (([99]:Bs)++xr1) (aa_.re xr3)).bind fun xr4=>(back kids (W (i+1)) q0 q1 q2 q3 q4 q5 q6 q7 q8 r0 r1 t60 t61 t62 xr4.kind xr4.n_ xr4.s xr4.list xr4.names))))) none))) (k0 kids q0 q1 q2 q3 q4 q5 q6 q7 q8 r0 r1 t60 t61 t62 out0 out1 out2 out3 out4))
def bz_.loop4 (n:Nat) (k0:bz_.K4) (N:Nat):bz_.T4:=cl_ (fun _ _ _ _ _ _ _ _ _ _ _ _ _ _ _ _ _ _ _ _ _=>none) (bz_.step4 n k0) N
def bz_:Nat→av_→TRow→Int→Option aa_
 |0,_,_,_=>none
 |n+1,q,r,kids=>
  (bz_.loop4 n (fun xy5 xy6 xy7 xy8 xy9 xy10 xy11 xy12 xy13 xy14 xy15 xy16 xy17 xy18 xy19 xy20 xy21 xy22 xy23 xy24=>((cL_ n xy15).bind fun xr25=>((br_ n (aa_.mk xy20 xy21 xy22 xy23 xy24) [105,100] (aa_.re xr25)).bind fun xr26=>(cond xy12 ((cL_ n xy5).bind fun xr27=>((br_ n (aa_.re xr26) [107,105,100,115] (aa_.re xr27)).bind fun xr28=>(some (aa_.re xr28)))) (some (aa_.re xr26)))))) n kids 0 q.table q.where_ q.order q.down q.first q.show_ q.kids q.kidTable q.kidCol r.id_ r.cells 0 0 [] 5 0 [] ([]:List aa_) ([]:List Bs))
abbrev bP_.T3:Type:=Bs→Int→Option Bool
def bP_.step3 (n:Nat) (k0:Bs→Option Bool) (back:bP_.T3):bP_.T3:=fun s i=>
 (cond (decide (i<(s.length:Int))) (inB i s.length (cond (decide (((s.getD i.toNat 0).toNat:Int)<32)) (some false) (inB i s.length (cond (decide (((s.getD i.toNat 0).toNat:Int) > 126)) (some false) (back s (W (i+1))))))) (k0 s))
def bP_.loop3 (n:Nat) (k0:Bs→Option Bool) (N:Nat):bP_.T3:=cl_ (fun _ _=>none) (bP_.step3 n k0) N
def bP_:Nat→Bs→Option Bool
 |0,_=>none
 |n+1,s=>
  (bP_.loop3 n (fun xy1=>(some (decide ((xy1.length:Int)≤60)))) n s 0)
abbrev ae_.K6:Type:=Int→Int→Bs→(List aa_)→(List Bs)→Option Bool
abbrev ae_.T6:Type:=Int→Int→Int→Bs→(List aa_)→(List Bs)→Option Bool
def ae_.step6 (n:Nat) (k0:ae_.K6) (back:ae_.T6):ae_.T6:=fun i j0 j1 j2 j3 j4=>
 (cond (decide (i<(j4.length:Int))) (inB i j4.length ((bP_ n (j4.getD i.toNat [])).bind fun xr1=>(cond (!xr1) (some false) (cond (decide (i > 0)) (inB (W (i - 1)) j4.length (inB i j4.length (cond (!Op.bytesLess (j4.getD (W (i - 1)).toNat []) (j4.getD i.toNat [])) (some false) (back (W (i+1)) j0 j1 j2 j3 j4)))) (back (W (i+1)) j0 j1 j2 j3 j4))))) (k0 j0 j1 j2 j3 j4))
def ae_.loop6 (n:Nat) (k0:ae_.K6) (N:Nat):ae_.T6:=cl_ (fun _ _ _ _ _ _=>none) (ae_.step6 n k0) N
def ae_:Nat→aa_→Option Bool
 |0,_=>none
 |n+1,j=>
  (cond (j.kind != 5) (some ((j.names.length:Int) == 0)) (ae_.loop6 n (fun xy2 xy3 xy4 xy5 xy6=>(some ((xy6.length:Int) == (xy5.length:Int)))) n 0 j.kind j.n_ j.s j.list j.names))
abbrev aO_.K23_1:Type:=Int→Int→Int→Int→Bs→(List aa_)→(List Bs)→Option Int
abbrev aO_.T23:Type:=Int→Int→Int→Int→Int→Int→Bs→(List aa_)→(List Bs)→Option Int
def aO_.step23 (n:Nat) (spec_l1Great_:aa_→Int→Option Int) (k1:aO_.K23_1) (back:aO_.T23):aO_.T23:=fun append t5 t6 t7 t20 t21 t22 t23 t24=>
 (cond (decide (t7<(t23.length:Int))) (cond (decide (t6≤400)) (inB t7 t23.length ((spec_l1Great_ (aa_.re (t23.getD t7.toNat aa_.dflt)) (W (append - 1))).bind fun xr52=>(back append t5 (W (t6+xr52)) (W (t7+1)) t20 t21 t22 t23 t24))) (k1 t5 t6 t20 t21 t22 t23 t24)) (k1 t5 t6 t20 t21 t22 t23 t24))
def aO_.loop23 (n:Nat) (spec_l1Great_:aa_→Int→Option Int) (k1:aO_.K23_1) (N:Nat):aO_.T23:=cl_ (fun _ _ _ _ _ _ _ _ _=>none) (aO_.step23 n spec_l1Great_ k1) N
def aO_:Nat→aa_→Int→Option Int
 |0,_,_=>none
 |n+1,o,append=>
  (cond (append == 0) (some 401) (cond (o.kind == 0) (cond (o.n_ != 0) (some 401) (cond (o.kind != 3) (cond (!(o.s == [])) (some 401) (cond (o.kind == 3) (cond (o.n_ != 0) (some 401) (cond (decide (o.kind<4)) (cond (decide ((o.list.length:Int) > 0)) (some 401) ((ae_ n (aa_.re o)).bind fun xr1=>(cond (!xr1) (some 401) (some 1)))) ((ae_ n (aa_.re o)).bind fun xr2=>(cond (!xr2) (some 401) (some 1))))) (cond (decide (o.kind≥4)) (cond (o.n_ != 0) (some 401) (cond (decide (o.kind<4)) (cond (decide ((o.list.length:Int) > 0)) (some 401) ((ae_ n (aa_.re o)).bind fun xr3=>(cond (!xr3) (some 401) (some 1)))) ((ae_ n (aa_.re o)).bind fun xr4=>(cond (!xr4) (some 401) (some 1))))) (cond (decide (o.kind<4)) (cond (decide ((o.list.length:Int) > 0)) (some 401) ((ae_ n (aa_.re o)).bind fun xr5=>(cond (!xr5) (some 401) (some 1)))) ((ae_ n (aa_.re o)).bind fun xr6=>(cond (!xr6) (some 401) (some 1))))))) (cond (o.kind == 3) (cond (o.n_ != 0) (some 401) (cond (decide (o.kind<4)) (cond (decide ((o.list.length:Int) > 0)) (some 401) ((ae_ n (aa_.re o)).bind fun xr7=>(cond (!xr7) (some 401) (some 1)))) ((ae_ n (aa_.re o)).bind fun xr8=>(cond (!xr8) (some 401) (some 1))))) (cond (decide (o.kind≥4)) (cond (o.n_ != 0) (some 401) (cond (decide (o.kind<4)) (cond (decide ((o.list.length:Int) > 0)) (some 401) ((ae_ n (aa_.re o)).bind fun xr9=>(cond (!xr9) (some 401) (some 1)))) ((ae_ n (aa_.re o)).bind fun xr10=>(cond (!xr10) (some 401) (some 1))))) (cond (decide (o.kind<4)) (cond (decide ((o.list.length:Int) > 0)) (some 401) ((ae_ n (aa_.re o)).bind fun xr11=>(cond (!xr11) (some 401) (some 1)))) ((ae_ n (aa_.re o)).bind fun xr12=>(cond (!xr12) (some 401) (some 1)))))))) (cond (o.kind == 1) ((bN_ n o.n_ 0 1).bind fun xr13=>(cond (!xr13) (some 401) (cond (o.kind != 3) (cond (!(o.s == [])) (some 401) (cond (o.kind == 3) (cond (o.n_ != 0) (some 401) (cond (decide (o.kind<4)) (cond (decide ((o.list.length:Int) > 0)) (some 401) ((ae_ n (aa_.re o)).bind fun xr14=>(cond (!xr14) (some 401) (some 1)))) ((ae_ n (aa_.re o)).bind fun xr15=>(cond (!xr15) (some 401) (some 1))))) (cond (decide (o.kind≥4)) (cond (o.n_ != 0) (some 401) (cond (decide (o.kind<4)) (cond (decide ((o.list.length:Int) > 0)) (some 401) ((ae_ n (aa_.re o)).bind fun xr16=>(cond (!xr16) (some 401) (some 1)))) ((ae_ n (aa_.re o)).bind fun xr17=>(cond (!xr17) (some 401) (some 1))))) (cond (decide (o.kind<4)) (cond (decide ((o.list.length:Int) > 0)) (some 401) ((ae_ n (aa_.re o)).bind fun xr18=>(cond (!xr18) (some 401) (some 1)))) ((ae_ n (aa_.re o)).bind fun xr19=>(cond (!xr19) (some 401) (some 1))))))) (cond (o.kind == 3) (cond (o.n_ != 0) (some 401) (cond (decide (o.kind<4)) (cond (decide ((o.list.length:Int) > 0)) (some 401) ((ae_ n (aa_.re o)).bind fun xr20=>(cond (!xr20) (some 401) (some 1)))) ((ae_ n (aa_.re o)).bind fun xr21=>(cond (!xr21) (some 401) (some 1))))) (cond (decide (o.kind≥4)) (cond (o.n_ != 0) (some 401) (cond (decide (o.kind<4)) (cond (decide ((o.list.length:Int) > 0)) (some 401) ((ae_ n (aa_.re o)).bind fun xr22=>(cond (!xr22) (some 401) (some 1)))) ((ae_ n (aa_.re o)).bind fun xr23=>(cond (!xr23) (some 401) (some 1))))) (cond (decide (o.kind<4)) (cond (decide ((o.list.length:Int) > 0)) (some 401) ((ae_ n (aa_.re o)).bind fun xr24=>(cond (!xr24) (some 401) (some 1)))) ((ae_ n (aa_.re o)).bind fun xr25=>(cond (!xr25) (some 401) (some 1))))))))) (cond (o.kind == 2) ((bN_ n o.n_ (-1000000000) 1000000000).bind fun xr26=>(cond (!xr26) (some 401) (cond (o.kind != 3) (cond (!(o.s == [])) (some 401) (cond (o.kind == 3) (cond (o.n_ != 0) (some 401) (cond (decide (o.kind<4)) (cond (decide ((o.list.length:Int) > 0)) (some 401) ((ae_ n (aa_.re o)).bind fun xr27=>(cond (!xr27) (some 401) (some 1)))) ((ae_ n (aa_.re o)).bind fun xr28=>(cond (!xr28) (some 401) (some 1))))) (cond (decide (o.kind≥4)) (cond (o.n_ != 0) (some 401) (cond (decide (o.kind<4)) (cond (decide ((o.list.length:Int) > 0)) (some 401) ((ae_ n (aa_.re o)).bind fun xr29=>(cond (!xr29) (some 401) (some 1)))) ((ae_ n (aa_.re o)).bind fun xr30=>(cond (!xr30) (some 401) (some 1))))) (cond (decide (o.kind<4)) (cond (decide ((o.list.length:Int) > 0)) (some 401) ((ae_ n (aa_.re o)).bind fun xr31=>(cond (!xr31) (some 401) (some 1)))) ((ae_ n (aa_.re o)).bind fun xr32=>(cond (!xr32) (some 401) (some 1))))))) (cond (o.kind == 3) (cond (o.n_ != 0) (some 401) (cond (decide (o.kind<4)) (cond (decide ((o.list.length:Int) > 0)) (some 401) ((ae_ n (aa_.re o)).bind fun xr33=>(cond (!xr33) (some 401) (some 1)))) ((ae_ n (aa_.re o)).bind fun xr34=>(cond (!xr34) (some 401) (some 1))))) (cond (decide (o.kind≥4)) (cond (o.n_ != 0) (some 401) (cond (decide (o.kind<4)) (cond (decide ((o.list.length:Int) > 0)) (some 401) ((ae_ n (aa_.re o)).bind fun xr35=>(cond (!xr35) (some 401) (some 1)))) ((ae_ n (aa_.re o)).bind fun xr36=>(cond (!xr36) (some 401) (some 1))))) (cond (decide (o.kind<4)) (cond (decide ((o.list.length:Int) > 0)) (some 401) ((ae_ n (aa_.re o)).bind fun xr37=>(cond (!xr37) (some 401) (some 1)))) ((ae_ n (aa_.re o)).bind fun xr38=>(cond (!xr38) (some 401) (some 1))))))))) (cond (o.kind == 3) ((bP_ n o.s).bind fun xr39=>(cond (!xr39) (some 401) (cond (o.kind != 3) (cond (!(o.s == [])) (some 401) (cond (o.kind == 3) (cond (o.n_ != 0) (some 401) (cond (decide (o.kind<4)) (cond (decide ((o.list.length:Int) > 0)) (some 401) ((ae_ n (aa_.re o)).bind fun xr40=>(cond (!xr40) (some 401) (some 1)))) ((ae_ n (aa_.re o)).bind fun xr41=>(cond (!xr41) (some 401) (some 1))))) (cond (decide (o.kind≥4)) (cond (o.n_ != 0) (some 401) (cond (decide (o.kind<4)) (cond (decide ((o.list.length:Int) > 0)) (some 401) ((ae_ n (aa_.re o)).bind fun xr42=>(cond (!xr42) (some 401) (some 1)))) ((ae_ n (aa_.re o)).bind fun xr43=>(cond (!xr43) (some 401) (some 1))))) (cond (decide (o.kind<4)) (cond (decide ((o.list.length:Int) > 0)) (some 401) ((ae_ n (aa_.re o)).bind fun xr44=>(cond (!xr44) (some 401) (some 1)))) ((ae_ n (aa_.re o)).bind fun xr45=>(cond (!xr45) (some 401) (some 1))))))) (cond (o.kind == 3) (cond (o.n_ != 0) (some 401) (cond (decide (o.kind<4)) (cond (decide ((o.list.length:Int) > 0)) (some 401) ((ae_ n (aa_.re o)).bind fun xr46=>(cond (!xr46) (some 401) (some 1)))) ((ae_ n (aa_.re o)).bind fun xr47=>(cond (!xr47) (some 401) (some 1))))) (cond (decide (o.kind≥4)) (cond (o.n_ != 0) (some 401) (cond (decide (o.kind<4)) (cond (decide ((o.list.length:Int) > 0)) (some 401) ((ae_ n (aa_.re o)).bind fun xr48=>(cond (!xr48) (some 401) (some 1)))) ((ae_ n (aa_.re o)).bind fun xr49=>(cond (!xr49) (some 401) (some 1))))) (cond (decide (o.kind<4)) (cond (decide ((o.list.length:Int) > 0)) (some 401) ((ae_ n (aa_.re o)).bind fun xr50=>(cond (!xr50) (some 401) (some 1)))) ((ae_ n (aa_.re o)).bind fun xr51=>(cond (!xr51) (some 401) (some 1))))))))) (cond (o.kind == 4) (cond (o.kind == 4) (aO_.loop23 n (aO_ n) (fun xy53 xy54 xy55 xy56 xy57 xy58 xy59=>(cond (xy55 != 3) (cond (!(xy57 == [])) (some xy53) (cond (xy55 == 3) (cond (xy56 != 0) (some xy53) (cond (decide (xy55<4)) (cond (decide ((xy58.length:Int) > 0)) (some xy53) ((ae_ n (aa_.mk xy55 xy56 xy57 xy58 xy59)).bind fun xr60=>(cond (!xr60) (some xy53) (some xy54)))) ((ae_ n (aa_.mk xy55 xy56 xy57 xy58 xy59)).bind fun xr61=>(cond (!xr61) (some xy53) (some xy54))))) (cond (decide (xy55≥4)) (cond (xy56 != 0) (some xy53) (cond (decide (xy55<4)) (cond (decide ((xy58.length:Int) > 0)) (some xy53) ((ae_ n (aa_.mk xy55 xy56 xy57 xy58 xy59)).bind fun xr62=>(cond (!xr62) (some xy53) (some xy54)))) ((ae_ n (aa_.mk xy55 xy56 xy57 xy58 xy59)).bind fun xr63=>(cond (!xr63) (some xy53) (some xy54))))) (cond (decide (xy55<4)) (cond (decide ((xy58.length:Int) > 0)) (some xy53) ((ae_ n (aa_.mk xy55 xy56 xy57 xy58 xy59)).bind fun xr64=>(cond (!xr64) (some xy53) (some xy54)))) ((ae_ n (aa_.mk xy55 xy56 xy57 xy58 xy59)).bind fun xr65=>(cond (!xr65) (some xy53) (some xy54))))))) (cond (xy55 == 3) (cond (xy56 != 0) (some xy53) (cond (decide (xy55<4)) (cond (decide ((xy58.length:Int) > 0)) (some xy53) ((ae_ n (aa_.mk xy55 xy56 xy57 xy58 xy59)).bind fun xr66=>(cond (!xr66) (some xy53) (some xy54)))) ((ae_ n (aa_.mk xy55 xy56 xy57 xy58 xy59)).bind fun xr67=>(cond (!xr67) (some xy53) (some xy54))))) (cond (decide (xy55≥4)) (cond (xy56 != 0) (some xy53) (cond (decide (xy55<4)) (cond (decide ((xy58.length:Int) > 0)) (some xy53) ((ae_ n (aa_.mk xy55 xy56 xy57 xy58 xy59)).bind fun xr68=>(cond (!xr68) (some xy53) (some xy54)))) ((ae_ n (aa_.mk xy55 xy56 xy57 xy58 xy59)).bind fun xr69=>(cond (!xr69) (some xy53) (some xy54))))) (cond (decide (xy55<4)) (cond (decide ((xy58.length:Int) > 0)) (some xy53) ((ae_ n (aa_.mk xy55 xy56 xy57 xy58 xy59)).bind fun xr70=>(cond (!xr70) (some xy53) (some xy54)))) ((ae_ n (aa_.mk xy55 xy56 xy57 xy58 xy59)).bind fun xr71=>(cond (!xr71) (some xy53) (some xy54)))))))) n append 401 1 0 o.kind o.n_ o.s o.list o.names) (some 401)) (cond (o.kind == 5) (aO_.loop23 n (aO_ n) (fun xy72 xy73 xy74 xy75 xy76 xy77 xy78=>(cond (xy74 != 3) (cond (!(xy76 == [])) (some xy72) (cond (xy74 == 3) (cond (xy75 != 0) (some xy72) (cond (decide (xy74<4)) (cond (decide ((xy77.length:Int) > 0)) (some xy72) ((ae_ n (aa_.mk xy74 xy75 xy76 xy77 xy78)).bind fun xr79=>(cond (!xr79) (some xy72) (some xy73)))) ((ae_ n (aa_.mk xy74 xy75 xy76 xy77 xy78)).bind fun xr80=>(cond (!xr80) (some xy72) (some xy73))))) (cond (decide (xy74≥4)) (cond (xy75 != 0) (some xy72) (cond (decide (xy74<4)) (cond (decide ((xy77.length:Int) > 0)) (some xy72) ((ae_ n (aa_.mk xy74 xy75 xy76 xy77 xy78)).bind fun xr81=>(cond (!xr81) (some xy72) (some xy73)))) ((ae_ n (aa_.mk xy74 xy75 xy76 xy77 xy78)).bind fun xr82=>(cond (!xr82) (some xy72) (some xy73))))) (cond (decide (xy74<4)) (cond (decide ((xy77.length:Int) > 0)) (some xy72) ((ae_ n (aa_.mk xy74 xy75 xy76 xy77 xy78)).bind fun xr83=>(cond (!xr83) (some xy72) (some xy73)))) ((ae_ n (aa_.mk xy74 xy75 xy76 xy77 xy78)).bind fun xr84=>(cond (!xr84) (some xy72) (some xy73))))))) (cond (xy74 == 3) (cond (xy75 != 0) (some xy72) (cond (decide (xy74<4)) (cond (decide ((xy77.length:Int) > 0)) (some xy72) ((ae_ n (aa_.mk xy74 xy75 xy76 xy77 xy78)).bind fun xr85=>(cond (!xr85) (some xy72) (some xy73)))) ((ae_ n (aa_.mk xy74 xy75 xy76 xy77 xy78)).bind fun xr86=>(cond (!xr86) (some xy72) (some xy73))))) (cond (decide (xy74≥4)) (cond (xy75 != 0) (some xy72) (cond (decide (xy74<4)) (cond (decide ((xy77.length:Int) > 0)) (some xy72) ((ae_ n (aa_.mk xy74 xy75 xy76 xy77 xy78)).bind fun xr87=>(cond (!xr87) (some xy72) (some xy73)))) ((ae_ n (aa_.mk xy74 xy75 xy76 xy77 xy78)).bind fun xr88=>(cond (!xr88) (some xy72) (some xy73))))) (cond (decide (xy74<4)) (cond (decide ((xy77.length:Int) > 0)) (some xy72) ((ae_ n (aa_.mk xy74 xy75 xy76 xy77 xy78)).bind fun xr89=>(cond (!xr89) (some xy72) (some xy73)))) ((ae_ n (aa_.mk xy74 xy75 xy76 xy77 xy78)).bind fun xr90=>(cond (!xr90) (some xy72) (some xy73)))))))) n append 401 1 0 o.kind o.n_ o.s o.list o.names) (some 401))))))))
def ch_:Nat→aa_→Option Bool
 |0,_=>none
 |n+1,j=>
  ((aO_ n (aa_.re j) 6).bind fun xr1=>(some (decide (xr1≤400))))
def cW_:Nat→aa_→Option aa_
 |0,_=>none
 |n+1,j=>
  ((ch_ n (aa_.re j)).bind fun xr1=>(cond (!xr1) (some (aa_.mk 0 0 [] [] [])) (some (aa_.re j))))
abbrev bX_.K4:Type:=(List TRow)→Int→Int→Bs→Int→Int→Bs→(List aa_)→Option aa_
abbrev bX_.T4:Type:=(List TRow)→(List Int)→Int→Int→(List bJ_)→Int→Bool→Int→(List Int)→Bool→Int→Int→Int→Int→Bs→Int→Int→Bs→(List aa_)→Option aa_
def bX_.step4 (n:Nat) (k0:bX_.K4) (back:bX_.T4):bX_.T4:=fun rows kids i q0 q1 q2 q3 q4 q5 q6 q7 q8 t60 t61 t62 list0 list1 list2 list3=>
 ((c9_ n (av_.mk q0 q1 q2 q3 q4 q5 q6 q7 q8) (rows.length:Int)).bind fun xr1=>(cond (decide (i<xr1)) (cond (decide (i<(kids.length:Int))) (inB i kids.length (inB i rows.length ((bz_ n (av_.mk q0 q1 q2 q3 q4 q5 q6 q7 q8) (rows.getD i.toNat TRow.dflt) (kids.getD i.toNat 0)).bind fun xr2=>(bq_ (list3.length+([(aa_.re xr2)]:List aa_).length) 80 (back rows kids (W (i+1)) q0 q1 q2 q3 q4 q5 q6 q7 q8 t60 t61 t62 list0 list1 list2 (list3++([(aa_.re xr2)]:List aa_))))))) (inB i rows.length ((bz_ n (av_.mk q0 q1 q2 q3 q4 q5 q6 q7 q8) (rows.getD i.toNat TRow.dflt) 0).bind fun xr3=>(bq_ (list3.length+([(aa_.re xr3)]:List aa_).length) 80 (back rows kids (W (i+1)) q0 q1 q2 q3 q4 q5 q6 q7 q8 t60 t61 t62 list0 list1 list2 (list3++([(aa_.re xr3)]:List aa_))))))) (k0 rows t60 t61 t62 list0 list1 list2 list3)))
def bX_.loop4 (n:Nat) (k0:bX_.K4) (N:Nat):bX_.T4:=cl_ (fun _ _ _ _ _ _ _ _ _ _ _ _ _ _ _ _ _ _ _=>none) (bX_.step4 n k0) N
def bX_:Nat→av_→(List TRow)→(List Int)→Option aa_
 |0,_,_,_=>none
 |n+1,q,rows,kids=>
  (bX_.loop4 n (fun xy4 xy5 xy6 xy7 xy8 xy9 xy10 xy11=>((cL_ n (xy4.length:Int)).bind fun xr12=>((cW_ n (aa_.mk 5 0 [] ([(aa_.re xr12),(aa_.mk xy8 xy9 xy10 xy11 [])]:List aa_) ([[99,111,117,110,116],[114,111,119,115]]:List Bs))).bind fun xr13=>(some (aa_.re xr13))))) n rows kids 0 q.table q.where_ q.order q.down q.first q.show_ q.kids q.kidTable q.kidCol 0 0 [] 4 0 [] ([]:List aa_))
def c2_:Nat→a8_→Option aa_
 |0,_=>none
 |n+1,v=>
  ((a2_ n v).bind fun xr1=>((bX_ n v.q v.rows xr1).bind fun xr2=>(some (aa_.re xr2))))
abbrev an_.K6_1:Type:=Int→Int→Bs→(List aa_)→(List Bs)→Int→Int→Bs→(List aa_)→(List Bs)→Option Bool
abbrev an_.T6:Type:=Int→Int→Int→Bs→(List aa_)→(List Bs)→Int→Int→Bs→(List aa_)→(List Bs)→Option Bool
def an_.step6 (n:Nat) (spec_l1Same_:aa_→aa_→Option Bool) (k0:an_.K6_1) (back:an_.T6):an_.T6:=fun t5 t20 t21 t22 t23 t24 t30 t31 t32 t33 t34=>
 (cond (decide (t5<(t23.length:Int))) (inB t5 t23.length (inB t5 t33.length ((spec_l1Same_ (aa_.re (t23.getD t5.toNat aa_.dflt)) (aa_.re (t33.getD t5.toNat aa_.dflt))).bind fun xr1=>(cond (!xr1) (some false) (back (W (t5+1)) t20 t21 t22 t23 t24 t30 t31 t32 t33 t34))))) (k0 t20 t21 t22 t23 t24 t30 t31 t32 t33 t34))
def an_.loop6 (n:Nat) (spec_l1Same_:aa_→aa_→Option Bool) (k0:an_.K6_1) (N:Nat):an_.T6:=cl_ (fun _ _ _ _ _ _ _ _ _ _ _=>none) (an_.step6 n spec_l1Same_ k0) N
abbrev an_.T14:Type:=Int→Int→Int→Bs→(List aa_)→(List Bs)→Int→Int→Bs→(List aa_)→(List Bs)→Option Bool
def an_.step14 (n:Nat) (spec_l1Same_:aa_→aa_→Option Bool) (k2:Option Bool) (back:an_.T14):an_.T14:=fun t6 t20 t21 t22 t23 t24 t30 t31 t32 t33 t34=>
 (cond (decide (t6<(t24.length:Int))) (inB t6 t24.length (inB t6 t34.length (cond (!((t24.getD t6.toNat []) == (t34.getD t6.toNat []))) (some false) (back (W (t6+1)) t20 t21 t22 t23 t24 t30 t31 t32 t33 t34)))) k2)
def an_.loop14 (n:Nat) (spec_l1Same_:aa_→aa_→Option Bool) (k2:Option Bool) (N:Nat):an_.T14:=cl_ (fun _ _ _ _ _ _ _ _ _ _ _=>none) (an_.step14 n spec_l1Same_ k2) N
def an_:Nat→aa_→aa_→Option Bool
 |0,_,_=>none
 |n+1,o,append=>
  (cond (o.kind != append.kind) (some false) (cond (o.n_ != append.n_) (some false) (cond (!(o.s == append.s)) (some false) (cond ((o.list.length:Int) != (append.list.length:Int)) (some false) (cond ((o.names.length:Int) != (append.names.length:Int)) (some false) (an_.loop6 n (an_ n) (fun xy2 xy3 xy4 xy5 xy6 xy7 xy8 xy9 xy10 xy11=>(an_.loop14 n (an_ n) (some true) n 0 xy2 xy3 xy4 xy5 xy6 xy7 xy8 xy9 xy10 xy11)) n 0 o.kind o.n_ o.s o.list o.names append.kind append.n_ append.s append.list append.names))))))
def dm_:Nat→aa_→aa_→Option Bool
 |0,_,_=>none
 |n+1,a,b=>
  ((ch_ n (aa_.re a)).bind fun xr1=>(cond xr1 ((ch_ n (aa_.re b)).bind fun xr2=>(cond xr2 ((an_ n (aa_.re a) (aa_.re b)).bind fun xr3=>(some xr3)) (some false))) (some false)))
def dL_:Nat→b3_→Option Bool
 |0,_=>none
 |n+1,x=>
  (cond (!x.began) (some true) ((c2_ n x.view).bind fun xr1=>((c2_ n x.last).bind fun xr2=>((dm_ n (aa_.re xr1) (aa_.re xr2)).bind fun xr3=>(some (!xr3))))))
abbrev bu_.K3:Type:=(List bJ_)→(List bJ_)→Option Bool
abbrev bu_.T3:Type:=(List bJ_)→(List bJ_)→Int→Option Bool
def bu_.step3 (n:Nat) (k0:bu_.K3) (back:bu_.T3):bu_.T3:=fun a b i=>
 (cond (decide (i<(a.length:Int))) (cond (decide (i<(b.length:Int))) (inB i a.length (inB i b.length (let xv1:Bool:=(!(cond (((a.getD i.toNat bJ_.dflt).col) == ((b.getD i.toNat bJ_.dflt).col)) (cond (((a.getD i.toNat bJ_.dflt).op) == ((b.getD i.toNat bJ_.dflt).op)) (cond (((a.getD i.toNat bJ_.dflt).v) == ((b.getD i.toNat bJ_.dflt).v)) true false) false) false));(cond xv1 (some false) (back a b (W (i+1))))))) (k0 a b)) (k0 a b))
def bu_.loop3 (n:Nat) (k0:bu_.K3) (N:Nat):bu_.T3:=cl_ (fun _ _ _=>none) (bu_.step3 n k0) N
def bu_:Nat→(List bJ_)→(List bJ_)→Option Bool
 |0,_,_=>none
 |n+1,a,b=>
  (bu_.loop3 n (fun xy2 xy3=>(some ((xy2.length:Int) == (xy3.length:Int)))) n a b 0)
abbrev bK_.K3:Type:=(List Int)→(List Int)→Option Bool
abbrev bK_.T3:Type:=(List Int)→(List Int)→Int→Option Bool
def bK_.step3 (n:Nat) (k0:bK_.K3) (back:bK_.T3):bK_.T3:=fun a b i=>
 (cond (decide (i<(a.length:Int))) (cond (decide (i<(b.length:Int))) (inB i a.length (inB i b.length (cond ((a.getD i.toNat 0) != (b.getD i.toNat 0)) (some false) (back a b (W (i+1)))))) (k0 a b)) (k0 a b))
def bK_.loop3 (n:Nat) (k0:bK_.K3) (N:Nat):bK_.T3:=cl_ (fun _ _ _=>none) (bK_.step3 n k0) N
def bK_:Nat→(List Int)→(List Int)→Option Bool
 |0,_,_=>none
 |n+1,a,b=>
  (bK_.loop3 n (fun xy1 xy2=>(some ((xy1.length:Int) == (xy2.length:Int)))) n a b 0)
def da_:Nat→av_→av_→Option Bool
 |0,_,_=>none
 |n+1,o,append=>
  (cond (o.table == append.table) ((bu_ n o.where_ append.where_).bind fun xr1=>(cond xr1 (cond (o.order == append.order) (cond (o.down == append.down) (cond (o.first == append.first) ((bK_ n o.show_ append.show_).bind fun xr2=>(cond xr2 (cond (o.kids == append.kids) (cond (o.kidTable == append.kidTable) (some (o.kidCol == append.kidCol)) (some false)) (some false)) (some false))) (some false)) (some false)) (some false)) (some false))) (some false))
def ew_:Nat→Int→Option aa_
 |0,_=>none
 |n+1,n1=>
  ((ch_ n (aa_.mk 2 n1 [] [] [])).bind fun xr1=>(cond (!xr1) (some (aa_.mk 0 0 [] ([]:List aa_) ([]:List Bs))) (some (aa_.mk 2 n1 [] ([]:List aa_) ([]:List Bs)))))
def d8_:Nat→av_→TRow→Int→Option aa_
 |0,_,_,_=>none
 |n+1,q,r,kids=>
  ((bz_ n q r kids).bind fun xr1=>((cW_ n (aa_.re xr1)).bind fun xr2=>(some (aa_.re xr2))))
abbrev bg_.K5:Type:=(List aa_)→(List Int)→Option ((List aa_) × (List Int))
abbrev bg_.T5:Type:=Int→Int→(List bJ_)→Int→Bool→Int→(List Int)→Bool→Int→Int→(List TRow)→(List TKid)→(List aa_)→(List Int)→Option ((List aa_) × (List Int))
def bg_.step5 (n:Nat) (k0:bg_.K5) (back:bg_.T5):bg_.T5:=fun i v0 v1 v2 v3 v4 v5 v6 v7 v8 v9 v10 list keys=>
 ((c9_ n (av_.mk v0 v1 v2 v3 v4 v5 v6 v7 v8) (v9.length:Int)).bind fun xr1=>(cond (decide (i<xr1)) (inB i v9.length (inB i v9.length ((bQ_ n (a8_.mk (av_.mk v0 v1 v2 v3 v4 v5 v6 v7 v8) v9 v10) ((v9.getD i.toNat TRow.dflt).id_)).bind fun xr2=>((d8_ n (av_.mk v0 v1 v2 v3 v4 v5 v6 v7 v8) (v9.getD i.toNat TRow.dflt) xr2).bind fun xr3=>(bq_ (list.length+([(aa_.re xr3)]:List aa_).length) 80 (inB i v9.length (bq_ (keys.length+([(v9.getD i.toNat TRow.dflt).id_]:List Int).length) 8 (back (W (i+1)) v0 v1 v2 v3 v4 v5 v6 v7 v8 v9 v10 (list++([(aa_.re xr3)]:List aa_)) (keys++([(v9.getD i.toNat TRow.dflt).id_]:List Int)))))))))) (k0 list keys)))
def bg_.loop5 (n:Nat) (k0:bg_.K5) (N:Nat):bg_.T5:=cl_ (fun _ _ _ _ _ _ _ _ _ _ _ _ _ _=>none) (bg_.step5 n k0) N
def bg_:Nat→a8_→Option ((List aa_) × (List Int))
 |0,_=>none
 |n+1,v=>
  (bg_.loop5 n (fun xy4 xy5=>(some (xy4,xy5))) n 0 v.q.table v.q.where_ v.q.order v.q.down v.q.first v.q.show_ v.q.kids v.q.kidTable v.q.kidCol v.rows v.kids ([]:List aa_) ([]:List Int))
abbrev cb_.T3:Type:=(List Int)→Int→Int→Option Int
def cb_.step3 (n:Nat) (k0:Option Int) (back:cb_.T3):cb_.T3:=fun keys key i=>
 (cond (decide (i<(keys.length:Int))) (inB i keys.length (cond ((keys.getD i.toNat 0) == key) (some i) (back keys key (W (i+1))))) k0)
def cb_.loop3 (n:Nat) (k0:Option Int) (N:Nat):cb_.T3:=cl_ (fun _ _ _=>none) (cb_.step3 n k0) N
def cb_:Nat→(List Int)→Int→Option Int
 |0,_,_=>none
 |n+1,keys,key=>
  (cb_.loop3 n (some (-1)) n keys key 0)
abbrev aI_.K3:Type:=(List Int)→(List aa_)→Option Bool
abbrev aI_.T3:Type:=(List Int)→(List aa_)→Int→Option Bool
def aI_.step3 (n:Nat) (k0:aI_.K3) (back:aI_.T3):aI_.T3:=fun keys list i=>
 (cond (decide (i<(keys.length:Int))) (gI_ 0 i keys.length (inB i keys.length ((cb_ n ((keys.take i.toNat).drop 0) (keys.getD i.toNat 0)).bind fun xr1=>(cond (decide (xr1≥0)) (some false) (back keys list (W (i+1))))))) (k0 keys list))
def aI_.loop3 (n:Nat) (k0:aI_.K3) (N:Nat):aI_.T3:=cl_ (fun _ _ _=>none) (aI_.step3 n k0) N
abbrev aI_.K11:Type:=(List Int)→(List aa_)→Option Bool
abbrev aI_.T11:Type:=(List Int)→(List aa_)→Int→Option Bool
def aI_.step11 (n:Nat) (k2:aI_.K11) (back:aI_.T11):aI_.T11:=fun keys list i=>
 (cond (decide (i<(list.length:Int))) (inB i list.length ((ch_ n (aa_.re (list.getD i.toNat aa_.dflt))).bind fun xr4=>(cond (!xr4) (some false) (back keys list (W (i+1)))))) (k2 keys list))
def aI_.loop11 (n:Nat) (k2:aI_.K11) (N:Nat):aI_.T11:=cl_ (fun _ _ _=>none) (aI_.step11 n k2) N
def aI_:Nat→(List Int)→(List aa_)→Option Bool
 |0,_,_=>none
 |n+1,keys,list=>
  (aI_.loop3 n (fun xy2 xy3=>(aI_.loop11 n (fun xy5 xy6=>(some ((xy5.length:Int) == (xy6.length:Int)))) n xy2 xy3 0)) n keys list 0)
def cQ_:Nat→(List Int)→Int→Option (List Int)
 |0,_,_=>none
 |n+1,keys,at1=>
  (gI_ 0 at1 keys.length (bq_ (([]:List Int).length+((keys.take at1.toNat).drop 0).length) 8 (gI_ (W (at1+1)) (keys.length:Int) keys.length (bq_ ((([]:List Int)++((keys.take at1.toNat).drop 0)).length+((keys.take (keys.length:Int).toNat).drop (W (at1+1)).toNat).length) 8 (some ((([]:List Int)++((keys.take at1.toNat).drop 0))++((keys.take (keys.length:Int).toNat).drop (W (at1+1)).toNat)))))))
abbrev aB_.K4_1:Type:=Int→Int→Bs→Int→Int→Bs→(List aa_)→(List Bs)→Option aa_
abbrev aB_.T4:Type:=Int→Int→Int→Bs→(List aa_)→(List Bs)→Int→Int→Bs→Int→Int→Bs→(List aa_)→(List Bs)→Option aa_
def aB_.step4 (n:Nat) (spec_l1Copy_:aa_→Option aa_) (k0:aB_.K4_1) (back:aB_.T4):aB_.T4:=fun i j0 j1 j2 j3 j4 t20 t21 t22 out0 out1 out2 out3 out4=>
 (cond (decide (i<(j3.length:Int))) (inB i j3.length ((spec_l1Copy_ (aa_.re (j3.getD i.toNat aa_.dflt))).bind fun xr1=>(bq_ (out3.length+([(aa_.re xr1)]:List aa_).length) 80 (back (W (i+1)) j0 j1 j2 j3 j4 t20 t21 t22 out0 out1 out2 (out3++([(aa_.re xr1)]:List aa_)) out4)))) (k0 t20 t21 t22 out0 out1 out2 out3 out4))
def aB_.loop4 (n:Nat) (spec_l1Copy_:aa_→Option aa_) (k0:aB_.K4_1) (N:Nat):aB_.T4:=cl_ (fun _ _ _ _ _ _ _ _ _ _ _ _ _ _=>none) (aB_.step4 n spec_l1Copy_ k0) N
def aB_:Nat→aa_→Option aa_
 |0,_=>none
 |n+1,j=>
  (bq_ (([]:List Bs).length+j.names.length) 16 (aB_.loop4 n (aB_ n) (fun xy2 xy3 xy4 xy5 xy6 xy7 xy8 xy9=>(some (aa_.mk xy5 xy6 xy7 xy8 xy9))) n 0 j.kind j.n_ j.s j.list j.names 0 0 [] j.kind j.n_ j.s ([]:List aa_) (([]:List Bs)++j.names)))
def c8_:Nat→(List Int)→Int→Int→Option (List Int)
 |0,_,_,_=>none
 |n+1,keys,at1,key=>
  (gI_ 0 at1 keys.length (bq_ (([]:List Int).length+((keys.take at1.toNat).drop 0).length) 8 (bq_ ((([]:List Int)++((keys.take at1.toNat).drop 0)).length+([key]:List Int).length) 8 (gI_ at1 (keys.length:Int) keys.length (bq_ (((([]:List Int)++((keys.take at1.toNat).drop 0))++([key]:List Int)).length+((keys.take (keys.length:Int).toNat).drop at1.toNat).length) 8 (some (((([]:List Int)++((keys.take at1.toNat).drop 0))++([key]:List Int))++((keys.take (keys.length:Int).toNat).drop at1.toNat))))))))
abbrev aF_.K5:Type:=(List aa_)→(List Int)→(List aa_)→(List Int)→(List TOp)→(List Int)→Option (List TOp)
abbrev aF_.T5:Type:=(List aa_)→(List Int)→(List aa_)→(List Int)→Int→(List TOp)→(List Int)→Option (List TOp)
def aF_.step5 (n:Nat) (k0:aF_.K5) (back:aF_.T5):aF_.T5:=fun o append t2 t3 t11 t9 t10=>
 (cond (decide (t11≥0)) (inB t11 append.length ((cb_ n t3 (append.getD t11.toNat 0)).bind fun xr1=>(cond (decide (xr1<0)) ((aQ_ n t11).bind fun xr2=>(bq_ (t9.length+([(TOp.mk 2 ([xr2]:List Bs) (aa_.mk 0 0 [] [] []))]:List TOp).length) 112 ((cQ_ n t10 t11).bind fun xr3=>(back o append t2 t3 (W (t11 - 1)) (t9++([(TOp.mk 2 ([xr2]:List Bs) (aa_.mk 0 0 [] [] []))]:List TOp)) xr3)))) (back o append t2 t3 (W (t11 - 1)) t9 t10)))) (k0 o append t2 t3 t9 t10))
def aF_.loop5 (n:Nat) (k0:aF_.K5) (N:Nat):aF_.T5:=cl_ (fun _ _ _ _ _ _ _=>none) (aF_.step5 n k0) N
abbrev aF_.K13:Type:=(List TOp)→Option (List TOp)
abbrev aF_.T13:Type:=(List aa_)→(List Int)→(List aa_)→(List Int)→Int→(List TOp)→(List Int)→Option (List TOp)
def aF_.step13 (n:Nat) (k2:aF_.K13) (back:aF_.T13):aF_.T13:=fun o append t2 t3 t12 t9 t10=>
 (cond (decide (t12<(t3.length:Int))) ((aQ_ n t12).bind fun xr10=>(inB t12 t3.length ((cb_ n t10 (t3.getD t12.toNat 0)).bind fun xr11=>(cond (xr11 == t12) (inB t12 t3.length ((cb_ n append (t3.getD t12.toNat 0)).bind fun xr12=>(inB xr12 o.length (inB t12 t2.length ((an_ n (aa_.re (o.getD xr12.toNat aa_.dflt)) (aa_.re (t2.getD t12.toNat aa_.dflt))).bind fun xr13=>(cond (!xr13) (inB t12 t2.length ((aB_ n (aa_.re (t2.getD t12.toNat aa_.dflt))).bind fun xr14=>(bq_ (t9.length+([(TOp.mk 3 ([xr10]:List Bs) (aa_.re xr14))]:List TOp).length) 112 (back o append t2 t3 (W (t12+1)) (t9++([(TOp.mk 3 ([xr10]:List Bs) (aa_.re xr14))]:List TOp)) t10)))) (back o append t2 t3 (W (t12+1)) t9 t10))))))) (cond (decide (xr11≥0)) ((aQ_ n xr11).bind fun xr15=>(bq_ (t9.length+([(TOp.mk 2 ([xr15]:List Bs) (aa_.mk 0 0 [] [] []))]:List TOp).length) 112 ((cQ_ n t10 xr11).bind fun xr16=>(inB t12 t2.length ((aB_ n (aa_.re (t2.getD t12.toNat aa_.dflt))).bind fun xr17=>(bq_ ((t9++([(TOp.mk 2 ([xr15]:List Bs) (aa_.mk 0 0 [] [] []))]:List TOp)).length+([(TOp.mk 1 ([xr10]:List Bs) (aa_.re xr17))]:List TOp).length) 112 (inB t12 t3.length ((c8_ n xr16 t12 (t3.getD t12.toNat 0)).bind fun xr18=>(back o append t2 t3 (W (t12+1)) ((t9++([(TOp.mk 2 ([xr15]:List Bs) (aa_.mk 0 0 [] [] []))]:List TOp))++([(TOp.mk 1 ([xr10]:List Bs) (aa_.re xr17))]:List TOp)) xr18))))))))) (inB t12 t2.length ((aB_ n (aa_.re (t2.getD t12.toNat aa_.dflt))).bind fun xr19=>(bq_ (t9.length+([(TOp.mk 1 ([xr10]:List Bs) (aa_.re xr19))]:List TOp).length) 112 (inB t12 t3.length ((c8_ n t10 t12 (t3.getD t12.toNat 0)).bind fun xr20=>(back o append t2 t3 (W (t12+1)) (t9++([(TOp.mk 1 ([xr10]:List Bs) (aa_.re xr19))]:List TOp)) xr20))))))))))) (k2 t9))
def aF_.loop13 (n:Nat) (k2:aF_.K13) (N:Nat):aF_.T13:=cl_ (fun _ _ _ _ _ _ _=>none) (aF_.step13 n k2) N
def aF_:Nat→(List aa_)→(List Int)→(List aa_)→(List Int)→Option (List TOp)
 |0,_,_,_,_=>none
 |n+1,o,append,a2,a3=>
  (bq_ (([]:List Int).length+append.length) 8 (aF_.loop5 n (fun xy4 xy5 xy6 xy7 xy8 xy9=>(aF_.loop13 n (fun xy21=>(some xy21)) n xy4 xy5 xy6 xy7 0 xy8 xy9)) n o append a2 a3 (W ((append.length:Int) - 1)) ([]:List TOp) (([]:List Int)++append)))
def eF_:Nat→(List aa_)→(List Int)→(List aa_)→(List Int)→Option (List TOp)
 |0,_,_,_,_=>none
 |n+1,old,oldKeys,now,nowKeys=>
  ((aI_ n oldKeys old).bind fun xr1=>(cond (!xr1) (some ([]:List TOp)) ((aI_ n nowKeys now).bind fun xr2=>(cond (!xr2) (some ([]:List TOp)) ((aF_ n old oldKeys now nowKeys).bind fun xr3=>(some xr3))))))
abbrev bT_.K4:Type:=(List TOp)→Option (List TOp)
abbrev bT_.T4:Type:=Bs→(List TOp)→Int→(List TOp)→Option (List TOp)
def bT_.step4 (n:Nat) (k0:bT_.K4) (back:bT_.T4):bT_.T4:=fun name list i out_1=>
 (cond (decide (i<(list.length:Int))) (inB i list.length (inB i list.length (bq_ (([name]:List Bs).length+((list.getD i.toNat TOp.dflt).way).length) 16 (inB i list.length ((aB_ n (aa_.re ((list.getD i.toNat TOp.dflt).value))).bind fun xr1=>(bq_ (out_1.length+([(TOp.mk ((list.getD i.toNat TOp.dflt).kind) (([name]:List Bs)++((list.getD i.toNat TOp.dflt).way)) (aa_.re xr1))]:List TOp).length) 112 (back name list (W (i+1)) (out_1++([(TOp.mk ((list.getD i.toNat TOp.dflt).kind) (([name]:List Bs)++((list.getD i.toNat TOp.dflt).way)) (aa_.re xr1))]:List TOp))))))))) (k0 out_1))
def bT_.loop4 (n:Nat) (k0:bT_.K4) (N:Nat):bT_.T4:=cl_ (fun _ _ _ _=>none) (bT_.step4 n k0) N
def bT_:Nat→Bs→(List TOp)→Option (List TOp)
 |0,_,_=>none
 |n+1,name,list=>
  (bT_.loop4 n (fun xy2=>(some xy2)) n name list 0 ([]:List TOp))
def cS_:Nat→a8_→a8_→Option (List TOp)
 |0,_,_=>none
 |n+1,a,b=>
  ((da_ n a.q b.q).bind fun xr1=>(cond (!xr1) (some ([]:List TOp)) (cond ((a.rows.length:Int) != (b.rows.length:Int)) ((ew_ n (b.rows.length:Int)).bind fun xr2=>(bq_ (([]:List TOp).length+([(TOp.mk 3 ([[99,111,117,110,116]]:List Bs) (aa_.re xr2))]:List TOp).length) 112 ((bg_ n a).bind fun xr3=>((bg_ n b).bind fun xr4=>((eF_ n xr3.1 xr3.2 xr4.1 xr4.2).bind fun xr5=>((bT_ n [114,111,119,115] xr5).bind fun xr6=>(bq_ ((([]:List TOp)++([(TOp.mk 3 ([[99,111,117,110,116]]:List Bs) (aa_.re xr2))]:List TOp)).length+xr6.length) 112 (some ((([]:List TOp)++([(TOp.mk 3 ([[99,111,117,110,116]]:List Bs) (aa_.re xr2))]:List TOp))++xr6))))))))) ((bg_ n a).bind fun xr7=>((bg_ n b).bind fun xr8=>((eF_ n xr7.1 xr7.2 xr8.1 xr8.2).bind fun xr9=>((bT_ n [114,111,119,115] xr9).bind fun xr10=>(bq_ (([]:List TOp).length+xr10.length) 112 (some (([]:List TOp)++xr10))))))))))
abbrev b6_.K6:Type:=Int→(List Bs)→Int→Int→Bs→(List aa_)→(List Bs)→Option Bool
abbrev b6_.T6:Type:=Int→Int→(List Bs)→Int→Int→Bs→(List aa_)→(List Bs)→Option Bool
def b6_.step6 (n:Nat) (k0:b6_.K6) (back:b6_.T6):b6_.T6:=fun i o0 o1 o2 o3 o4 o5 o6=>
 (cond (decide (i<(o1.length:Int))) (inB i o1.length ((bP_ n (o1.getD i.toNat [])).bind fun xr3=>(cond (!xr3) (some false) (back (W (i+1)) o0 o1 o2 o3 o4 o5 o6)))) (k0 o0 o1 o2 o3 o4 o5 o6))
def b6_.loop6 (n:Nat) (k0:b6_.K6) (N:Nat):b6_.T6:=cl_ (fun _ _ _ _ _ _ _ _=>none) (b6_.step6 n k0) N
def b6_:Nat→TOp→Option Bool
 |0,_=>none
 |n+1,o=>
  ((bN_ n o.kind 1 4).bind fun xr1=>(cond (!xr1) (some false) (cond (decide ((o.way.length:Int) > 6)) (some false) ((ch_ n (aa_.re o.value)).bind fun xr2=>(cond (!xr2) (some false) (b6_.loop6 n (fun xy4 xy5 xy6 xy7 xy8 xy9 xy10=>(cond (xy4 != 2) (some true) ((an_ n (aa_.mk xy6 xy7 xy8 xy9 xy10) (aa_.mk 0 0 [] [] [])).bind fun xr11=>(some xr11)))) n 0 o.kind o.way o.value.kind o.value.n_ o.value.s o.value.list o.value.names))))))
def dI_:Nat→Unit→Option (List Bs)
 |0,_=>none
 |n+1,_u=>
  (some ([[],[97,100,100],[114,101,109,111,118,101],[114,101,112,108,97,99,101],[116,101,115,116]]:List Bs))
abbrev aC_.K10:Type:=(List Bs)→Int→(List Int)→Option Bs
abbrev aC_.T10:Type:=(List Bs)→Int→Int→(List Int)→Option Bs
def aC_.step10 (n:Nat) (k2:aC_.K10) (back:aC_.T10):aC_.T10:=fun way i k out_1=>
 (inB i way.length (cond (decide (k<((way.getD i.toNat []).length:Int))) (inB i way.length (inB k (way.getD i.toNat []).length (cond ((((way.getD i.toNat []).getD k.toNat 0).toNat:Int) == 126) (bq_ (out_1.length+([126,48]:List Int).length) 1 (back way i (W (k+1)) (out_1++([126,48]:List Int)))) (cond ((((way.getD i.toNat []).getD k.toNat 0).toNat:Int) == 47) (bq_ (out_1.length+([126,49]:List Int).length) 1 (back way i (W (k+1)) (out_1++([126,49]:List Int)))) (inB i way.length (inB k (way.getD i.toNat []).length (bq_ (out_1.length+([(((way.getD i.toNat []).getD k.toNat 0).toNat:Int)]:List Int).length) 1 (back way i (W (k+1)) (out_1++([(((way.getD i.toNat []).getD k.toNat 0).toNat:Int)]:List Int)))))))))) (k2 way i out_1)))
def aC_.loop10 (n:Nat) (k2:aC_.K10) (N:Nat):aC_.T10:=cl_ (fun _ _ _ _=>none) (aC_.step10 n k2) N
abbrev aC_.K4:Type:=(List Int)→Option Bs
abbrev aC_.T4:Type:=(List Bs)→Int→(List Int)→Option Bs
def aC_.step4 (n:Nat) (k0:aC_.K4) (back:aC_.T4):aC_.T4:=fun way i out_1=>
 (cond (decide (i<(way.length:Int))) (bq_ (out_1.length+([47]:List Int).length) 1 (aC_.loop10 n (fun xy1 xy2 xy3=>(back xy1 (W (xy2+1)) xy3)) n way i 0 (out_1++([47]:List Int)))) (k0 out_1))
def aC_.loop4 (n:Nat) (k0:aC_.K4) (N:Nat):aC_.T4:=cl_ (fun _ _ _=>none) (aC_.step4 n k0) N
def aC_:Nat→(List Bs)→Option Bs
 |0,_=>none
 |n+1,way=>
  (aC_.loop4 n (fun xy4=>(some (qP_ xy4))) n way 0 ([]:List Int))
def dU_:Nat→TOp→Option aa_
 |0,_=>none
 |n+1,o=>
  ((b6_ n (TOp.mk o.kind o.way (aa_.re o.value))).bind fun xr1=>(cond (!xr1) (some (aa_.mk 0 0 [] ([]:List aa_) ([]:List Bs))) ((dI_ n ()).bind fun xr2=>(inB o.kind xr2.length ((aC_ n o.way).bind fun xr3=>(cond (o.kind != 2) ((aB_ n (aa_.re o.value)).bind fun xr4=>((br_ n (aa_.mk 5 0 [] ([(aa_.mk 3 0 (xr2.getD o.kind.toNat []) [] []),(aa_.mk 3 0 xr3 [] [])]:List aa_) ([[111,112],[112,97,116,104]]:List Bs)) [118,97,108,117,101] (aa_.re xr4)).bind fun xr5=>((ch_ n (aa_.re xr5)).bind fun xr6=>(cond (!xr6) (some (aa_.mk 0 0 [] ([]:List aa_) ([]:List Bs))) (some (aa_.re xr5)))))) ((ch_ n (aa_.mk 5 0 [] ([(aa_.mk 3 0 (xr2.getD o.kind.toNat []) [] []),(aa_.mk 3 0 xr3 [] [])]:List aa_) ([[111,112],[112,97,116,104]]:List Bs))).bind fun xr7=>(cond (!xr7) (some (aa_.mk 0 0 [] ([]:List aa_) ([]:List Bs))) (some (aa_.mk 5 0 [] ([(aa_.mk 3 0 (xr2.getD o.kind.toNat []) [] []),(aa_.mk 3 0 xr3 [] [])]:List aa_) ([[111,112],[112,97,116,104]]:List Bs)))))))))))
abbrev bi_.K4:Type:=(List Int)→Option Bs
abbrev bi_.T4:Type:=Bs→Int→(List Int)→Option Bs
def bi_.step4 (n:Nat) (k0:bi_.K4) (back:bi_.T4):bi_.T4:=fun s i out_1=>
 (cond (decide (i<(s.length:Int))) (inB i s.length (cond (((s.getD i.toNat 0).toNat:Int) == 34) (bq_ (out_1.length+([92]:List Int).length) 1 (inB i s.length (bq_ ((out_1++([92]:List Int)).length+([((s.getD i.toNat 0).toNat:Int)]:List Int).length) 1 (back s (W (i+1)) ((out_1++([92]:List Int))++([((s.getD i.toNat 0).toNat:Int)]:List Int)))))) (inB i s.length (cond (((s.getD i.toNat 0).toNat:Int) == 92) (bq_ (out_1.length+([92]:List Int).length) 1 (inB i s.length (bq_ ((out_1++([92]:List Int)).length+([((s.getD i.toNat 0).toNat:Int)]:List Int).length) 1 (back s (W (i+1)) ((out_1++([92]:List Int))++([((s.getD i.toNat 0).toNat:Int)]:List Int)))))) (inB i s.length (bq_ (out_1.length+([((s.getD i.toNat 0).toNat:Int)]:List Int).length) 1 (back s (W (i+1)) (out_1++([((s.getD i.toNat 0).toNat:Int)]:List Int))))))))) (k0 out_1))
def bi_.loop4 (n:Nat) (k0:bi_.K4) (N:Nat):bi_.T4:=cl_ (fun _ _ _=>none) (bi_.step4 n k0) N
def bi_:Nat→Bs→Option Bs
 |0,_=>none
 |n+1,s=>
  (bi_.loop4 n (fun xy1=>(bq_ (xy1.length+([34]:List Int).length) 1 (some (qP_ (xy1++([34]:List Int)))))) n s 0 ([34]:List Int))
abbrev aM_.K17_1:Type:=Bs→Int→Int→Bs→(List aa_)→(List Bs)→Option Bs
abbrev aM_.T17:Type:=Bs→Int→Int→Int→Bs→(List aa_)→(List Bs)→Option Bs
def aM_.step17 (n:Nat) (spec_l2Encode_:aa_→Option Bs) (k1:aM_.K17_1) (back:aM_.T17):aM_.T17:=fun out_1 i j0 j1 j2 j3 j4=>
 (cond (decide (i<(j3.length:Int))) (cond (decide (i > 0)) (cond (decide (out_1.length+[44].length≤9223372036854775807)) (cond (j0 == 5) (inB i j4.length ((bi_ n (j4.getD i.toNat [])).bind fun xr3=>(cond (decide ((out_1++[44]).length+xr3.length≤9223372036854775807)) (cond (decide (((out_1++[44])++xr3).length+[58].length≤9223372036854775807)) (inB i j3.length ((spec_l2Encode_ (aa_.re (j3.getD i.toNat aa_.dflt))).bind fun xr4=>(cond (decide ((((out_1++[44])++xr3)++[58]).length+xr4.length≤9223372036854775807)) (back ((((out_1++[44])++xr3)++[58])++xr4) (W (i+1)) j0 j1 j2 j3 j4) none))) none) none))) (inB i j3.length ((spec_l2Encode_ (aa_.re (j3.getD i.toNat aa_.dflt))).bind fun xr5=>(cond (decide ((out_1++[44]).length+xr5.length≤9223372036854775807)) (back ((out_1++[44])++xr5) (W (i+1)) j0 j1 j2 j3 j4) none)))) none) (cond (j0 == 5) (inB i j4.length ((bi_ n (j4.getD i.toNat [])).bind fun xr6=>(cond (decide (out_1.length+xr6.length≤9223372036854775807)) (cond (decide ((out_1++xr6).length+[58].length≤9223372036854775807)) (inB i j3.length ((spec_l2Encode_ (aa_.re (j3.getD i.toNat aa_.dflt))).bind fun xr7=>(cond (decide (((out_1++xr6)++[58]).length+xr7.length≤9223372036854775807)) (back (((out_1++xr6)++[58])++xr7) (W (i+1)) j0 j1 j2 j3 j4) none))) none) none))) (inB i j3.length ((spec_l2Encode_ (aa_.re (j3.getD i.toNat aa_.dflt))).bind fun xr8=>(cond (decide (out_1.length+xr8.length≤9223372036854775807)) (back (out_1++xr8) (W (i+1)) j0 j1 j2 j3 j4) none))))) (k1 out_1 j0 j1 j2 j3 j4))
def aM_.loop17 (n:Nat) (spec_l2Encode_:aa_→Option Bs) (k1:aM_.K17_1) (N:Nat):aM_.T17:=cl_ (fun _ _ _ _ _ _ _=>none) (aM_.step17 n spec_l2Encode_ k1) N
def aM_:Nat→aa_→Option Bs
 |0,_=>none
 |n+1,j=>
  (cond (j.kind == 0) (some [110,117,108,108]) (cond (j.kind == 1) (cond (j.n_ == 1) (some [116,114,117,101]) (some [102,97,108,115,101])) (cond (j.kind == 2) ((aQ_ n j.n_).bind fun xr1=>(some xr1)) (cond (j.kind == 3) ((bi_ n j.s).bind fun xr2=>(some xr2)) (aM_.loop17 n (aM_ n) (fun xy9 xy10 xy11 xy12 xy13 xy14=>(cond (xy10 == 5) (cond (decide ([123].length+xy9.length≤9223372036854775807)) (cond (decide ((([123]:Bs)++xy9).length+[125].length≤9223372036854775807)) (some ((([123]:Bs)++xy9)++[125])) none) none) (cond (decide ([91].length+xy9.length≤9223372036854775807)) (cond (decide ((([91]:Bs)++xy9).length+[93].length≤9223372036854775807)) (some ((([91]:Bs)++xy9)++[93])) none) none))) n [] 0 j.kind j.n_ j.s j.list j.names)))))
def cY_:Nat→aa_→Option Bs
 |0,_=>none
 |n+1,j=>
  ((ch_ n (aa_.re j)).bind fun xr1=>(cond (!xr1) (some []) ((aM_ n (aa_.re j)).bind fun xr2=>(cond (decide ((xr2.length:Int) > 6000)) (some []) (some xr2)))))
abbrev aY_.K4:Type:=Int→Int→Bs→(List aa_)→Option Int
abbrev aY_.T4:Type:=(List TOp)→Int→Int→Int→Bs→(List aa_)→Option Int
def aY_.step4 (n:Nat) (k0:aY_.K4) (back:aY_.T4):aY_.T4:=fun list i j0 j1 j2 j3=>
 (cond (decide (i<(list.length:Int))) (inB i list.length ((dU_ n { (list.getD i.toNat TOp.dflt) with value:=(aa_.re ((list.getD i.toNat TOp.dflt).value)) }).bind fun xr1=>(cond (xr1.kind == 0) (some (-1)) (bq_ (j3.length+([(aa_.re xr1)]:List aa_).length) 80 (back list (W (i+1)) j0 j1 j2 (j3++([(aa_.re xr1)]:List aa_))))))) (k0 j0 j1 j2 j3))
def aY_.loop4 (n:Nat) (k0:aY_.K4) (N:Nat):aY_.T4:=cl_ (fun _ _ _ _ _ _=>none) (aY_.step4 n k0) N
def aY_:Nat→(List TOp)→Option Int
 |0,_=>none
 |n+1,list=>
  (aY_.loop4 n (fun xy2 xy3 xy4 xy5=>((cY_ n (aa_.mk xy2 xy3 xy4 xy5 [])).bind fun xr6=>(cond (xr6 == []) (some (-1)) (some (xr6.length:Int))))) n list 0 4 0 [] ([]:List aa_))
def dK_:Nat→a8_→a8_→Option Bool
 |0,_,_=>none
 |n+1,a,b=>
  ((cS_ n a b).bind fun xr1=>((aY_ n xr1).bind fun xr2=>(cond (decide ((xr1.length:Int)≤40)) (cond (decide (xr2≥0)) ((c2_ n b).bind fun xr3=>((cY_ n (aa_.re xr3)).bind fun xr4=>(some (decide (xr2<(xr4.length:Int)))))) (some false)) (some false))))
def cJ_:Nat→b3_→Option (b3_ × aE_ × Bool)
 |0,_=>none
 |n+1,x=>
  ((ds_ n x).bind fun xr1=>((dL_ n x).bind fun xr2=>(cond (!xr2) (some (xr1,(aE_.mk 0 0 0 (aa_.mk 0 0 [] [] []) ([]:List TOp)),false)) ((c2_ n x.view).bind fun xr3=>(cond x.began ((dK_ n x.last x.view).bind fun xr4=>(cond xr4 ((cS_ n x.last x.view).bind fun xr5=>((cB_ n x.view).bind fun xr6=>(some ({ xr1 with last:=xr6,lastVersion:=x.version,began:=true },(aE_.mk 2 x.version x.lastVersion (aa_.mk 0 0 [] [] []) xr5),true)))) ((cB_ n x.view).bind fun xr7=>(some ({ xr1 with last:=xr7,lastVersion:=x.version,began:=true },(aE_.mk 1 x.version 0 (aa_.re xr3) ([]:List TOp)),true))))) ((cB_ n x.view).bind fun xr8=>(some ({ xr1 with last:=xr8,lastVersion:=x.version,began:=true },(aE_.mk 1 x.version 0 (aa_.re xr3) ([]:List TOp)),true))))))))
def c7_:Nat→ac_→ar_→Option (TMut × ac_)
 |0,_,_=>none
 |n+1,o,append=>
  ((cp_ n (append.tables.length:Int) 1).bind fun xr1=>((ag_ n o xr1).bind fun xr2=>(cond (decide (xr2.1≥(append.tables.length:Int))) (some ((TMut.mk 3 0 (TRow.mk 1 ([]:List Int))),xr2.2)) (cond (decide (xr2.1≥(append.schema.cols.length:Int))) (some ((TMut.mk 3 0 (TRow.mk 1 ([]:List Int))),xr2.2)) ((ag_ n xr2.2 3).bind fun xr3=>(inB xr2.1 append.schema.cols.length ((aZ_ n xr3.2 (append.schema.cols.getD xr2.1.toNat 0)).bind fun xr4=>(cond ((W (1+xr3.1)) != 1) (inB xr2.1 append.tables.length (cond (decide (((append.tables.getD xr2.1.toNat []).length:Int) > 0)) ((b1_ n xr4.2 9).bind fun xr5=>(cond (!xr5.1) (inB xr2.1 append.tables.length (inB xr2.1 append.tables.length ((ag_ n xr5.2 ((append.tables.getD xr2.1.toNat []).length:Int)).bind fun xr6=>(inB xr6.1 (append.tables.getD xr2.1.toNat []).length (cond ((W (1+xr3.1)) == 3) ((ag_ n xr6.2 25).bind fun xr7=>(cond (xr7.1 == 0) ((ag_ n xr7.2 5).bind fun xr8=>(some ((TMut.mk xr8.1 xr2.1 (TRow.mk (((append.tables.getD xr2.1.toNat []).getD xr6.1.toNat TRow.dflt).id_) ([]:List Int))),xr8.2))) (cond (xr7.1 == 1) ((ag_ n xr7.2 5).bind fun xr9=>(some ((TMut.mk (W (1+xr3.1)) (W (xr9.1 - 1)) (TRow.mk (((append.tables.getD xr2.1.toNat []).getD xr6.1.toNat TRow.dflt).id_) ([]:List Int))),xr9.2))) (cond (xr7.1 == 2) ((bj_ n xr7.2 ([0,999,1000]:List Int)).bind fun xr10=>(some ((TMut.mk (W (1+xr3.1)) xr2.1 (TRow.mk xr10.1 ([]:List Int))),xr10.2))) (some ((TMut.mk (W (1+xr3.1)) xr2.1 (TRow.mk (((append.tables.getD xr2.1.toNat []).getD xr6.1.toNat TRow.dflt).id_) ([]:List Int))),xr7.2)))))) ((ag_ n xr6.2 25).bind fun xr11=>(cond (xr11.1 == 0) ((ag_ n xr11.2 5).bind fun xr12=>(some ((TMut.mk xr12.1 xr2.1 (TRow.mk (((append.tables.getD xr2.1.toNat []).getD xr6.1.toNat TRow.dflt).id_) xr4.1.cells)),xr12.2))) (cond (xr11.1 == 1) ((ag_ n xr11.2 5).bind fun xr13=>(some ((TMut.mk (W (1+xr3.1)) (W (xr13.1 - 1)) (TRow.mk (((append.tables.getD xr2.1.toNat []).getD xr6.1.toNat TRow.dflt).id_) xr4.1.cells)),xr13.2))) (cond (xr11.1 == 2) ((bj_ n xr11.2 ([0,999,1000]:List Int)).bind fun xr14=>(some ((TMut.mk (W (1+xr3.1)) xr2.1 (TRow.mk xr14.1 xr4.1.cells)),xr14.2))) (some ((TMut.mk (W (1+xr3.1)) xr2.1 (TRow.mk (((append.tables.getD xr2.1.toNat []).getD xr6.1.toNat TRow.dflt).id_) xr4.1.cells)),xr11.2))))))))))) (cond ((W (1+xr3.1)) == 3) ((ag_ n xr5.2 25).bind fun xr15=>(cond (xr15.1 == 0) ((ag_ n xr15.2 5).bind fun xr16=>(some ((TMut.mk xr16.1 xr2.1 (TRow.mk xr4.1.id_ ([]:List Int))),xr16.2))) (cond (xr15.1 == 1) ((ag_ n xr15.2 5).bind fun xr17=>(some ((TMut.mk (W (1+xr3.1)) (W (xr17.1 - 1)) (TRow.mk xr4.1.id_ ([]:List Int))),xr17.2))) (cond (xr15.1 == 2) ((bj_ n xr15.2 ([0,999,1000]:List Int)).bind fun xr18=>(some ((TMut.mk (W (1+xr3.1)) xr2.1 (TRow.mk xr18.1 ([]:List Int))),xr18.2))) (some ((TMut.mk (W (1+xr3.1)) xr2.1 (TRow.mk xr4.1.id_ ([]:List Int))),xr15.2)))))) ((ag_ n xr5.2 25).bind fun xr19=>(cond (xr19.1 == 0) ((ag_ n xr19.2 5).bind fun xr20=>(some ((TMut.mk xr20.1 xr2.1 xr4.1),xr20.2))) (cond (xr19.1 == 1) ((ag_ n xr19.2 5).bind fun xr21=>(some ((TMut.mk (W (1+xr3.1)) (W (xr21.1 - 1)) xr4.1),xr21.2))) (cond (xr19.1 == 2) ((bj_ n xr19.2 ([0,999,1000]:List Int)).bind fun xr22=>(some ((TMut.mk (W (1+xr3.1)) xr2.1 (TRow.mk xr22.1 xr4.1.cells)),xr22.2))) (some ((TMut.mk (W (1+xr3.1)) xr2.1 xr4.1),xr19.2))))))))) (cond ((W (1+xr3.1)) == 3) ((ag_ n xr4.2 25).bind fun xr23=>(cond (xr23.1 == 0) ((ag_ n xr23.2 5).bind fun xr24=>(some ((TMut.mk xr24.1 xr2.1 (TRow.mk xr4.1.id_ ([]:List Int))),xr24.2))) (cond (xr23.1 == 1) ((ag_ n xr23.2 5).bind fun xr25=>(some ((TMut.mk (W (1+xr3.1)) (W (xr25.1 - 1)) (TRow.mk xr4.1.id_ ([]:List Int))),xr25.2))) (cond (xr23.1 == 2) ((bj_ n xr23.2 ([0,999,1000]:List Int)).bind fun xr26=>(some ((TMut.mk (W (1+xr3.1)) xr2.1 (TRow.mk xr26.1 ([]:List Int))),xr26.2))) (some ((TMut.mk (W (1+xr3.1)) xr2.1 (TRow.mk xr4.1.id_ ([]:List Int))),xr23.2)))))) ((ag_ n xr4.2 25).bind fun xr27=>(cond (xr27.1 == 0) ((ag_ n xr27.2 5).bind fun xr28=>(some ((TMut.mk xr28.1 xr2.1 xr4.1),xr28.2))) (cond (xr27.1 == 1) ((ag_ n xr27.2 5).bind fun xr29=>(some ((TMut.mk (W (1+xr3.1)) (W (xr29.1 - 1)) xr4.1),xr29.2))) (cond (xr27.1 == 2) ((bj_ n xr27.2 ([0,999,1000]:List Int)).bind fun xr30=>(some ((TMut.mk (W (1+xr3.1)) xr2.1 (TRow.mk xr30.1 xr4.1.cells)),xr30.2))) (some ((TMut.mk (W (1+xr3.1)) xr2.1 xr4.1),xr27.2))))))))) (cond ((W (1+xr3.1)) == 3) ((ag_ n xr4.2 25).bind fun xr31=>(cond (xr31.1 == 0) ((ag_ n xr31.2 5).bind fun xr32=>(some ((TMut.mk xr32.1 xr2.1 (TRow.mk xr4.1.id_ ([]:List Int))),xr32.2))) (cond (xr31.1 == 1) ((ag_ n xr31.2 5).bind fun xr33=>(some ((TMut.mk (W (1+xr3.1)) (W (xr33.1 - 1)) (TRow.mk xr4.1.id_ ([]:List Int))),xr33.2))) (cond (xr31.1 == 2) ((bj_ n xr31.2 ([0,999,1000]:List Int)).bind fun xr34=>(some ((TMut.mk (W (1+xr3.1)) xr2.1 (TRow.mk xr34.1 ([]:List Int))),xr34.2))) (some ((TMut.mk (W (1+xr3.1)) xr2.1 (TRow.mk xr4.1.id_ ([]:List Int))),xr31.2)))))) ((ag_ n xr4.2 25).bind fun xr35=>(cond (xr35.1 == 0) ((ag_ n xr35.2 5).bind fun xr36=>(some ((TMut.mk xr36.1 xr2.1 xr4.1),xr36.2))) (cond (xr35.1 == 1) ((ag_ n xr35.2 5).bind fun xr37=>(some ((TMut.mk (W (1+xr3.1)) (W (xr37.1 - 1)) xr4.1),xr37.2))) (cond (xr35.1 == 2) ((bj_ n xr35.2 ([0,999,1000]:List Int)).bind fun xr38=>(some ((TMut.mk (W (1+xr3.1)) xr2.1 (TRow.mk xr38.1 xr4.1.cells)),xr38.2))) (some ((TMut.mk (W (1+xr3.1)) xr2.1 xr4.1),xr35.2)))))))))))))))
def ex_:Nat→aP_→TMut→Option Bool
 |0,_,_=>none
 |n+1,s,m=>
  (cond (m.kind == 3) ((aV_ n s).bind fun xr1=>(cond xr1 ((bN_ n m.table 0 (W ((s.cols.length:Int) - 1))).bind fun xr2=>(cond xr2 ((bN_ n m.row.id_ 1 999).bind fun xr3=>(cond xr3 (some ((m.row.cells.length:Int) == 0)) (some false))) (some false))) (some false))) ((bN_ n m.kind 1 2).bind fun xr4=>(cond xr4 ((bZ_ n s m.table m.row).bind fun xr5=>(some xr5)) (some false))))
abbrev bm_.K4:Type:=Int→Int→(List Int)→(List (List TRow))→Option ar_
abbrev bm_.T4:Type:=Int→(List Int)→Int→(List (List TRow))→Int→Int→(List Int)→(List (List TRow))→Option ar_
def bm_.step4 (n:Nat) (k0:bm_.K4) (back:bm_.T4):bm_.T4:=fun t s0 s1 s2 t21 out1 out0 out2=>
 (cond (decide (t<(s2.length:Int))) (inB t s2.length ((bG_ n (s2.getD t.toNat [])).bind fun xr2=>(bq_ (out2.length+([xr2]:List (List TRow)).length) 24 (back (W (t+1)) s0 s1 s2 t21 out1 out0 (out2++([xr2]:List (List TRow))))))) (k0 t21 out1 out0 out2))
def bm_.loop4 (n:Nat) (k0:bm_.K4) (N:Nat):bm_.T4:=cl_ (fun _ _ _ _ _ _ _ _=>none) (bm_.step4 n k0) N
def bm_:Nat→ar_→Option ar_
 |0,_=>none
 |n+1,s=>
  ((c6_ n s.schema).bind fun xr1=>(bm_.loop4 n (fun xy3 xy4 xy5 xy6=>(some (ar_.mk (aP_.mk xy5) xy4 xy6))) n 0 s.schema.cols s.version s.tables 0 s.version xr1.cols ([]:List (List TRow))))
def eS_:Nat→ar_→TMut→Option (ar_ × aT_ × Bool)
 |0,_,_=>none
 |n+1,o,append=>
  (inB append.table o.tables.length ((bW_ n (o.tables.getD append.table.toNat []) append.row.id_).bind fun xr1=>(cond (!((decide (xr1≥0)) == (append.kind != 1))) (some (o,(aT_.mk 0 false false (TRow.mk 0 ([]:List Int)) (TRow.mk 0 ([]:List Int))),false)) (cond (append.kind == 1) (cond (((o.tables.getD append.table.toNat []).length:Int) == 24) (some (o,(aT_.mk 0 false false (TRow.mk 0 ([]:List Int)) (TRow.mk 0 ([]:List Int))),false)) (cond (append.kind != 1) (inB xr1 (o.tables.getD append.table.toNat []).length ((cc_ n ((o.tables.getD append.table.toNat []).getD xr1.toNat TRow.dflt)).bind fun xr2=>(cond (append.kind != 3) ((cc_ n append.row).bind fun xr3=>((bs_ n (o.tables.getD append.table.toNat []) append.row).bind fun xr4=>(inB append.table o.tables.length (let xa5:List (List TRow):=o.tables.set append.table.toNat xr4;(some ((ar_.mk o.schema o.version xa5),(aT_.mk append.table (append.kind != 1) (append.kind != 3) xr2 xr3),true)))))) ((a6_ n (o.tables.getD append.table.toNat []) append.row.id_).bind fun xr6=>(inB append.table o.tables.length (let xa7:List (List TRow):=o.tables.set append.table.toNat xr6;(some ((ar_.mk o.schema o.version xa7),(aT_.mk append.table (append.kind != 1) (append.kind != 3) xr2 (TRow.mk 0 ([]:List Int))),true)))))))) (cond (append.kind != 3) ((cc_ n append.row).bind fun xr8=>((bs_ n (o.tables.getD append.table.toNat []) append.row).bind fun xr9=>(inB append.table o.tables.length (let xa10:List (List TRow):=o.tables.set append.table.toNat xr9;(some ((ar_.mk o.schema o.version xa10),(aT_.mk append.table (append.kind != 1) (append.kind != 3) (TRow.mk 0 ([]:List Int)) xr8),true)))))) ((a6_ n (o.tables.getD append.table.toNat []) append.row.id_).bind fun xr11=>(inB append.table o.tables.length (let xa12:List (List TRow):=o.tables.set append.table.toNat xr11;(some ((ar_.mk o.schema o.version xa12),(aT_.mk append.table (append.kind != 1) (append.kind != 3) (TRow.mk 0 ([]:List Int)) (TRow.mk 0 ([]:List Int))),true)))))))) (cond (append.kind != 1) (inB xr1 (o.tables.getD append.table.toNat []).length ((cc_ n ((o.tables.getD append.table.toNat []).getD xr1.toNat TRow.dflt)).bind fun xr13=>(cond (append.kind != 3) ((cc_ n append.row).bind fun xr14=>((bs_ n (o.tables.getD append.table.toNat []) append.row).bind fun xr15=>(inB append.table o.tables.length (let xa16:List (List TRow):=o.tables.set append.table.toNat xr15;(some ((ar_.mk o.schema o.version xa16),(aT_.mk append.table (append.kind != 1) (append.kind != 3) xr13 xr14),true)))))) ((a6_ n (o.tables.getD append.table.toNat []) append.row.id_).bind fun xr17=>(inB append.table o.tables.length (let xa18:List (List TRow):=o.tables.set append.table.toNat xr17;(some ((ar_.mk o.schema o.version xa18),(aT_.mk append.table (append.kind != 1) (append.kind != 3) xr13 (TRow.mk 0 ([]:List Int))),true)))))))) (cond (append.kind != 3) ((cc_ n append.row).bind fun xr19=>((bs_ n (o.tables.getD append.table.toNat []) append.row).bind fun xr20=>(inB append.table o.tables.length (let xa21:List (List TRow):=o.tables.set append.table.toNat xr20;(some ((ar_.mk o.schema o.version xa21),(aT_.mk append.table (append.kind != 1) (append.kind != 3) (TRow.mk 0 ([]:List Int)) xr19),true)))))) ((a6_ n (o.tables.getD append.table.toNat []) append.row.id_).bind fun xr22=>(inB append.table o.tables.length (let xa23:List (List TRow):=o.tables.set append.table.toNat xr22;(some ((ar_.mk o.schema o.version xa23),(aT_.mk append.table (append.kind != 1) (append.kind != 3) (TRow.mk 0 ([]:List Int)) (TRow.mk 0 ([]:List Int))),true)))))))))))
def ec_:Nat→ar_→TMut→Option (ar_ × aT_ × Bool)
 |0,_,_=>none
 |n+1,s,m=>
  ((bp_ n s).bind fun xr1=>(cond (!xr1) (some ((ar_.mk (aP_.mk ([]:List Int)) 0 ([]:List (List TRow))),(aT_.mk 0 false false (TRow.mk 0 ([]:List Int)) (TRow.mk 0 ([]:List Int))),false)) ((ex_ n s.schema m).bind fun xr2=>(cond (!xr2) ((bm_ n s).bind fun xr3=>(some (xr3,(aT_.mk 0 false false (TRow.mk 0 ([]:List Int)) (TRow.mk 0 ([]:List Int))),false))) ((bm_ n s).bind fun xr4=>((eS_ n xr4 m).bind fun xr5=>(cond (!xr5.2.2) ((bm_ n s).bind fun xr6=>(some (xr6,(aT_.mk 0 false false (TRow.mk 0 ([]:List Int)) (TRow.mk 0 ([]:List Int))),false))) (some (xr5.1,xr5.2.1,true)))))))))
def aw_.tail9 (n:Nat) (kn:Int→(List Int)→Int→Int→(List Int)→Int→(List (List TRow))→(List TMut)→Option ((List TMut) × ac_)) (i:Int) (c0:List Int) (c1:Int) (c2:Int) (now0:List Int) (now1:Int) (now2:List (List TRow)) (list:List TMut) (m0:Int) (m1:Int) (m2:Int) (m3:List Int):Option ((List TMut) × ac_) :=
 ((ec_ n (ar_.mk (aP_.mk now0) now1 now2) (TMut.mk m0 m1 (TRow.mk m2 m3))).bind fun xr3=>(cond xr3.2.2 (cond xr3.2.2 (bq_ (list.length+([(TMut.mk m0 m1 (TRow.mk m2 m3))]:List TMut).length) 48 (kn i c0 c1 c2 xr3.1.schema.cols xr3.1.version xr3.1.tables (list++([(TMut.mk m0 m1 (TRow.mk m2 m3))]:List TMut)))) ((b1_ n (ac_.mk c0 c1 c2) 9).bind fun xr4=>(cond xr4.1 (bq_ (list.length+([(TMut.mk m0 m1 (TRow.mk m2 m3))]:List TMut).length) 48 (kn i xr4.2.b xr4.2.i xr4.2.h xr3.1.schema.cols xr3.1.version xr3.1.tables (list++([(TMut.mk m0 m1 (TRow.mk m2 m3))]:List TMut)))) (kn i xr4.2.b xr4.2.i xr4.2.h xr3.1.schema.cols xr3.1.version xr3.1.tables list)))) (cond xr3.2.2 (bq_ (list.length+([(TMut.mk m0 m1 (TRow.mk m2 m3))]:List TMut).length) 48 (kn i c0 c1 c2 now0 now1 now2 (list++([(TMut.mk m0 m1 (TRow.mk m2 m3))]:List TMut)))) ((b1_ n (ac_.mk c0 c1 c2) 9).bind fun xr5=>(cond xr5.1 (bq_ (list.length+([(TMut.mk m0 m1 (TRow.mk m2 m3))]:List TMut).length) 48 (kn i xr5.2.b xr5.2.i xr5.2.h now0 now1 now2 (list++([(TMut.mk m0 m1 (TRow.mk m2 m3))]:List TMut)))) (kn i xr5.2.b xr5.2.i xr5.2.h now0 now1 now2 list))))))
abbrev aw_.K5:Type:=(List Int)→Int→Int→(List TMut)→Option ((List TMut) × ac_)
abbrev aw_.T5:Type:=Int→(List Int)→Int→Int→(List Int)→Int→(List (List TRow))→(List TMut)→Option ((List TMut) × ac_)
def aw_.step5 (n:Nat) (k0:aw_.K5) (back:aw_.T5):aw_.T5:=fun i c0 c1 c2 now0 now1 now2 list=>
 ((ag_ n (ac_.mk c0 c1 c2) 3).bind fun xr1=>(cond (decide (i<(W (1+xr1.1)))) ((c7_ n xr1.2 (ar_.mk (aP_.mk now0) now1 now2)).bind fun xr2=>(aw_.tail9 n (fun xy6 xy7 xy8 xy9 xy10 xy11 xy12 xy13=>(back (W (xy6+1)) xy7 xy8 xy9 xy10 xy11 xy12 xy13)) i xr2.2.b xr2.2.i xr2.2.h now0 now1 now2 list xr2.1.kind xr2.1.table xr2.1.row.id_ xr2.1.row.cells)) (k0 xr1.2.b xr1.2.i xr1.2.h list)))
def aw_.loop5 (n:Nat) (k0:aw_.K5) (N:Nat):aw_.T5:=cl_ (fun _ _ _ _ _ _ _ _=>none) (aw_.step5 n k0) N
def aw_:Nat→ac_→ar_→Option ((List TMut) × ac_)
 |0,_,_=>none
 |n+1,c,s=>
  (aw_.loop5 n (fun xy14 xy15 xy16 xy17=>(some (xy17,(ac_.mk xy14 xy15 xy16)))) n 0 c.b c.i c.h s.schema.cols s.version s.tables ([]:List TMut))
abbrev a7_.K12:Type:=(List Int)→Int→(List (List TRow))→Int→Int→(List aT_)→(List Int)→(List (List TRow))→Option (ar_ × (List aT_) × Bool)
abbrev a7_.T12:Type:=(List TMut)→Int→(List Int)→Int→(List (List TRow))→Int→(List aT_)→Int→(List aT_)→(List Int)→(List (List TRow))→Option (ar_ × (List aT_) × Bool)
def a7_.step12 (n:Nat) (k0:a7_.K12) (back:a7_.T12):a7_.T12:=fun append t10 t20 t21 t22 t41 t7 t81 t9 t80 t82=>
 (cond (decide (t10<(append.length:Int))) (inB t10 append.length ((ec_ n (ar_.mk (aP_.mk t80) t81 t82) { (append.getD t10.toNat TMut.dflt) with row:=((append.getD t10.toNat TMut.dflt).row) }).bind fun xr6=>(cond (!xr6.2.2) ((bm_ n (ar_.mk (aP_.mk t20) t21 t22)).bind fun xr7=>(some (xr7,t7,false))) (bq_ (t9.length+([xr6.2.1]:List aT_).length) 80 (back append (W (t10+1)) t20 t21 t22 t41 t7 xr6.1.version (t9++([xr6.2.1]:List aT_)) xr6.1.schema.cols xr6.1.tables))))) (k0 t20 t21 t22 t41 t81 t9 t80 t82))
def a7_.loop12 (n:Nat) (k0:a7_.K12) (N:Nat):a7_.T12:=cl_ (fun _ _ _ _ _ _ _ _ _ _ _=>none) (a7_.step12 n k0) N
def a7_:Nat→ar_→(List TMut)→Option (ar_ × (List aT_) × Bool)
 |0,_,_=>none
 |n+1,o,append=>
  ((bp_ n o).bind fun xr1=>(cond (!xr1) (some ((ar_.mk (aP_.mk ([]:List Int)) 0 ([]:List (List TRow))),([]:List aT_),false)) ((bN_ n (append.length:Int) 1 5).bind fun xr2=>(cond (!xr2) ((bm_ n o).bind fun xr3=>(some (xr3,([]:List aT_),false))) (cond (o.version == 100000) ((bm_ n o).bind fun xr4=>(some (xr4,([]:List aT_),false))) ((bm_ n o).bind fun xr5=>(a7_.loop12 n (fun xy8 xy9 xy10 xy11 xy12 xy13 xy14 xy15=>(some ((ar_.mk (aP_.mk xy14) (W (xy9+1)) xy15),xy13,true))) n append 0 o.schema.cols o.version o.tables 0 ([]:List aT_) xr5.version ([]:List aT_) xr5.schema.cols xr5.tables)))))))
def cX_:Nat→a8_→aT_→Option a8_
 |0,_,_=>none
 |n+1,o,append=>
  ((cB_ n o).bind fun xr1=>(cond (append.table == o.q.table) (cond append.had ((a6_ n xr1.rows append.old.id_).bind fun xr2=>(cond append.has ((bA_ n o.q append.new).bind fun xr3=>(cond xr3 ((bE_ n o.q xr2 append.new).bind fun xr4=>(cond o.q.kids (cond (append.table == o.q.kidTable) (cond append.had ((bC_ n append.old o.q.kidCol).bind fun xr5=>((aN_ n xr1.kids xr5 (-1)).bind fun xr6=>(cond append.has ((bC_ n append.new o.q.kidCol).bind fun xr7=>((aN_ n xr6 xr7 1).bind fun xr8=>(some (a8_.mk xr1.q xr4 xr8)))) (some (a8_.mk xr1.q xr4 xr6))))) (cond append.has ((bC_ n append.new o.q.kidCol).bind fun xr9=>((aN_ n xr1.kids xr9 1).bind fun xr10=>(some (a8_.mk xr1.q xr4 xr10)))) (some { xr1 with rows:=xr4 }))) (some { xr1 with rows:=xr4 })) (some { xr1 with rows:=xr4 }))) (cond o.q.kids (cond (append.table == o.q.kidTable) (cond append.had ((bC_ n append.old o.q.kidCol).bind fun xr11=>((aN_ n xr1.kids xr11 (-1)).bind fun xr12=>(cond append.has ((bC_ n append.new o.q.kidCol).bind fun xr13=>((aN_ n xr12 xr13 1).bind fun xr14=>(some (a8_.mk xr1.q xr2 xr14)))) (some (a8_.mk xr1.q xr2 xr12))))) (cond append.has ((bC_ n append.new o.q.kidCol).bind fun xr15=>((aN_ n xr1.kids xr15 1).bind fun xr16=>(some (a8_.mk xr1.q xr2 xr16)))) (some { xr1 with rows:=xr2 }))) (some { xr1 with rows:=xr2 })) (some { xr1 with rows:=xr2 })))) (cond o.q.kids (cond (append.table == o.q.kidTable) (cond append.had ((bC_ n append.old o.q.kidCol).bind fun xr17=>((aN_ n xr1.kids xr17 (-1)).bind fun xr18=>(cond append.has ((bC_ n append.new o.q.kidCol).bind fun xr19=>((aN_ n xr18 xr19 1).bind fun xr20=>(some (a8_.mk xr1.q xr2 xr20)))) (some (a8_.mk xr1.q xr2 xr18))))) (cond append.has ((bC_ n append.new o.q.kidCol).bind fun xr21=>((aN_ n xr1.kids xr21 1).bind fun xr22=>(some (a8_.mk xr1.q xr2 xr22)))) (some { xr1 with rows:=xr2 }))) (some { xr1 with rows:=xr2 })) (some { xr1 with rows:=xr2 })))) (cond append.has ((bA_ n o.q append.new).bind fun xr23=>(cond xr23 ((bE_ n o.q xr1.rows append.new).bind fun xr24=>(cond o.q.kids (cond (append.table == o.q.kidTable) (cond append.had ((bC_ n append.old o.q.kidCol).bind fun xr25=>((aN_ n xr1.kids xr25 (-1)).bind fun xr26=>(cond append.has ((bC_ n append.new o.q.kidCol).bind fun xr27=>((aN_ n xr26 xr27 1).bind fun xr28=>(some (a8_.mk xr1.q xr24 xr28)))) (some (a8_.mk xr1.q xr24 xr26))))) (cond append.has ((bC_ n append.new o.q.kidCol).bind fun xr29=>((aN_ n xr1.kids xr29 1).bind fun xr30=>(some (a8_.mk xr1.q xr24 xr30)))) (some { xr1 with rows:=xr24 }))) (some { xr1 with rows:=xr24 })) (some { xr1 with rows:=xr24 }))) (cond o.q.kids (cond (append.table == o.q.kidTable) (cond append.had ((bC_ n append.old o.q.kidCol).bind fun xr31=>((aN_ n xr1.kids xr31 (-1)).bind fun xr32=>(cond append.has ((bC_ n append.new o.q.kidCol).bind fun xr33=>((aN_ n xr32 xr33 1).bind fun xr34=>(some { xr1 with kids:=xr34 }))) (some { xr1 with kids:=xr32 })))) (cond append.has ((bC_ n append.new o.q.kidCol).bind fun xr35=>((aN_ n xr1.kids xr35 1).bind fun xr36=>(some { xr1 with kids:=xr36 }))) (some xr1))) (some xr1)) (some xr1)))) (cond o.q.kids (cond (append.table == o.q.kidTable) (cond append.had ((bC_ n append.old o.q.kidCol).bind fun xr37=>((aN_ n xr1.kids xr37 (-1)).bind fun xr38=>(cond append.has ((bC_ n append.new o.q.kidCol).bind fun xr39=>((aN_ n xr38 xr39 1).bind fun xr40=>(some { xr1 with kids:=xr40 }))) (some { xr1 with kids:=xr38 })))) (cond append.has ((bC_ n append.new o.q.kidCol).bind fun xr41=>((aN_ n xr1.kids xr41 1).bind fun xr42=>(some { xr1 with kids:=xr42 }))) (some xr1))) (some xr1)) (some xr1)))) (cond o.q.kids (cond (append.table == o.q.kidTable) (cond append.had ((bC_ n append.old o.q.kidCol).bind fun xr43=>((aN_ n xr1.kids xr43 (-1)).bind fun xr44=>(cond append.has ((bC_ n append.new o.q.kidCol).bind fun xr45=>((aN_ n xr44 xr45 1).bind fun xr46=>(some { xr1 with kids:=xr46 }))) (some { xr1 with kids:=xr44 })))) (cond append.has ((bC_ n append.new o.q.kidCol).bind fun xr47=>((aN_ n xr1.kids xr47 1).bind fun xr48=>(some { xr1 with kids:=xr48 }))) (some xr1))) (some xr1)) (some xr1))))
abbrev aR_.K4:Type:=Int→Int→Bool→Int→Bool→Int→Int→Int→Int→Bool→Int→Bool→Int→Int→(List bJ_)→(List Int)→(List TRow)→(List TKid)→Option a8_
abbrev aR_.T4:Type:=(List aT_)→Int→Int→Int→Bool→Int→Bool→Int→Int→Int→Int→Bool→Int→Bool→Int→Int→(List bJ_)→(List Int)→(List TRow)→(List TKid)→Option a8_
def aR_.step4 (n:Nat) (k0:aR_.K4) (back:aR_.T4):aR_.T4:=fun list i t40 t42 t43 t44 t46 t47 t48 out0 out2 out3 out4 out6 out7 out8 out1 out5 out9 out10=>
 (cond (decide (i<(list.length:Int))) (inB i list.length ((cX_ n (a8_.mk (av_.mk out0 out1 out2 out3 out4 out5 out6 out7 out8) out9 out10) { (list.getD i.toNat aT_.dflt) with old:=((list.getD i.toNat aT_.dflt).old),new:=((list.getD i.toNat aT_.dflt).new) }).bind fun xr2=>(back list (W (i+1)) t40 t42 t43 t44 t46 t47 t48 xr2.q.table xr2.q.order xr2.q.down xr2.q.first xr2.q.kids xr2.q.kidTable xr2.q.kidCol xr2.q.where_ xr2.q.show_ xr2.rows xr2.kids))) (k0 t40 t42 t43 t44 t46 t47 t48 out0 out2 out3 out4 out6 out7 out8 out1 out5 out9 out10))
def aR_.loop4 (n:Nat) (k0:aR_.K4) (N:Nat):aR_.T4:=cl_ (fun _ _ _ _ _ _ _ _ _ _ _ _ _ _ _ _ _ _ _ _=>none) (aR_.step4 n k0) N
def aR_:Nat→a8_→(List aT_)→Option a8_
 |0,_,_=>none
 |n+1,v,list=>
  ((cB_ n v).bind fun xr1=>(aR_.loop4 n (fun xy3 xy4 xy5 xy6 xy7 xy8 xy9 xy10 xy11 xy12 xy13 xy14 xy15 xy16 xy17 xy18 xy19 xy20=>(some (a8_.mk (av_.mk xy10 xy17 xy11 xy12 xy13 xy18 xy14 xy15 xy16) xy19 xy20))) n list 0 0 0 false 0 false 0 0 xr1.q.table xr1.q.order xr1.q.down xr1.q.first xr1.q.kids xr1.q.kidTable xr1.q.kidCol xr1.q.where_ xr1.q.show_ xr1.rows xr1.kids))
def cM_:Nat→b3_→(List aT_)→Option b3_
 |0,_,_=>none
 |n+1,x,list=>
  ((ds_ n x).bind fun xr1=>((aR_ n x.view list).bind fun xr2=>(some { xr1 with view:=xr2,version:=(W (x.version+1)) })))
def ao_.tail8 (n:Nat) (kn:Int→Int→(List Int)→Int→Int→(List Int)→Int→(List (List TRow))→Int→(List bJ_)→Int→Bool→Int→(List Int)→Bool→Int→Int→(List TRow)→(List TKid)→Int→Int→(List bJ_)→Int→Bool→Int→(List Int)→Bool→Int→Int→(List TRow)→(List TKid)→Int→Bool→(List aE_)→Option ((List aE_) × ac_)) (t7:Int) (t8:Int) (o0:List Int) (o1:Int) (o2:Int) (t30:List Int) (t31:Int) (t32:List (List TRow)) (t40:Int) (t41:List bJ_) (t42:Int) (t43:Bool) (t44:Int) (t45:List Int) (t46:Bool) (t47:Int) (t48:Int) (t49:List TRow) (t410:List TKid) (t411:Int) (t412:Int) (t413:List bJ_) (t414:Int) (t415:Bool) (t416:Int) (t417:List Int) (t418:Bool) (t419:Int) (t420:Int) (t421:List TRow) (t422:List TKid) (t423:Int) (t424:Bool) (t6:List aE_):Option ((List aE_) × ac_) :=
 ((cJ_ n (b3_.mk (a8_.mk (av_.mk t40 t41 t42 t43 t44 t45 t46 t47 t48) t49 t410) t411 (a8_.mk (av_.mk t412 t413 t414 t415 t416 t417 t418 t419 t420) t421 t422) t423 t424)).bind fun xr5=>(cond xr5.2.2 ((b1_ n (ac_.mk o0 o1 o2) 25).bind fun xr6=>(cond (!xr6.1) (bq_ (t6.length+([{ xr5.2.1 with doc:=(aa_.re xr5.2.1.doc) }]:List aE_).length) 128 ((aw_ n xr6.2 (ar_.mk (aP_.mk t30) t31 t32)).bind fun xr7=>((a7_ n (ar_.mk (aP_.mk t30) t31 t32) xr7.1).bind fun xr8=>(cond xr8.2.2 ((cM_ n xr5.1 xr8.2.1).bind fun xr9=>(kn t7 (W (t8+1)) xr7.2.b xr7.2.i xr7.2.h xr8.1.schema.cols xr8.1.version xr8.1.tables xr9.view.q.table xr9.view.q.where_ xr9.view.q.order xr9.view.q.down xr9.view.q.first xr9.view.q.show_ xr9.view.q.kids xr9.view.q.kidTable xr9.view.q.kidCol xr9.view.rows xr9.view.kids xr9.version xr9.last.q.table xr9.last.q.where_ xr9.last.q.order xr9.last.q.down xr9.last.q.first xr9.last.q.show_ xr9.last.q.kids xr9.last.q.kidTable xr9.last.q.kidCol xr9.last.rows xr9.last.kids xr9.lastVersion xr9.began (t6++([{ xr5.2.1 with doc:=(aa_.re xr5.2.1.doc) }]:List aE_)))) (kn t7 (W (t8+1)) xr7.2.b xr7.2.i xr7.2.h t30 t31 t32 xr5.1.view.q.table xr5.1.view.q.where_ xr5.1.view.q.order xr5.1.view.q.down xr5.1.view.q.first xr5.1.view.q.show_ xr5.1.view.q.kids xr5.1.view.q.kidTable xr5.1.view.q.kidCol xr5.1.view.rows xr5.1.view.kids xr5.1.version xr5.1.last.q.table xr5.1.last.q.where_ xr5.1.last.q.order xr5.1.last.q.down xr5.1.last.q.first xr5.1.last.q.show_ xr5.1.last.q.kids xr5.1.last.q.kidTable xr5.1.last.q.kidCol xr5.1.last.rows xr5.1.last.kids xr5.1.lastVersion xr5.1.began (t6++([{ xr5.2.1 with doc:=(aa_.re xr5.2.1.doc) }]:List aE_))))))) ((aw_ n xr6.2 (ar_.mk (aP_.mk t30) t31 t32)).bind fun xr10=>((a7_ n (ar_.mk (aP_.mk t30) t31 t32) xr10.1).bind fun xr11=>(cond xr11.2.2 ((cM_ n xr5.1 xr11.2.1).bind fun xr12=>(kn t7 (W (t8+1)) xr10.2.b xr10.2.i xr10.2.h xr11.1.schema.cols xr11.1.version xr11.1.tables xr12.view.q.table xr12.view.q.where_ xr12.view.q.order xr12.view.q.down xr12.view.q.first xr12.view.q.show_ xr12.view.q.kids xr12.view.q.kidTable xr12.view.q.kidCol xr12.view.rows xr12.view.kids xr12.version xr12.last.q.table xr12.last.q.where_ xr12.last.q.order xr12.last.q.down xr12.last.q.first xr12.last.q.show_ xr12.last.q.kids xr12.last.q.kidTable xr12.last.q.kidCol xr12.last.rows xr12.last.kids xr12.lastVersion xr12.began t6)) (kn t7 (W (t8+1)) xr10.2.b xr10.2.i xr10.2.h t30 t31 t32 xr5.1.view.q.table xr5.1.view.q.where_ xr5.1.view.q.order xr5.1.view.q.down xr5.1.view.q.first xr5.1.view.q.show_ xr5.1.view.q.kids xr5.1.view.q.kidTable xr5.1.view.q.kidCol xr5.1.view.rows xr5.1.view.kids xr5.1.version xr5.1.last.q.table xr5.1.last.q.where_ xr5.1.last.q.order xr5.1.last.q.down xr5.1.last.q.first xr5.1.last.q.show_ xr5.1.last.q.kids xr5.1.last.q.kidTable xr5.1.last.q.kidCol xr5.1.last.rows xr5.1.last.kids xr5.1.lastVersion xr5.1.began t6)))))) ((aw_ n (ac_.mk o0 o1 o2) (ar_.mk (aP_.mk t30) t31 t32)).bind fun xr13=>((a7_ n (ar_.mk (aP_.mk t30) t31 t32) xr13.1).bind fun xr14=>(cond xr14.2.2 ((cM_ n (b3_.mk (a8_.mk (av_.mk t40 t41 t42 t43 t44 t45 t46 t47 t48) t49 t410) t411 (a8_.mk (av_.mk t412 t413 t414 t415 t416 t417 t418 t419 t420) t421 t422) t423 t424) xr14.2.1).bind fun xr15=>(kn t7 (W (t8+1)) xr13.2.b xr13.2.i xr13.2.h xr14.1.schema.cols xr14.1.version xr14.1.tables xr15.view.q.table xr15.view.q.where_ xr15.view.q.order xr15.view.q.down xr15.view.q.first xr15.view.q.show_ xr15.view.q.kids xr15.view.q.kidTable xr15.view.q.kidCol xr15.view.rows xr15.view.kids xr15.version xr15.last.q.table xr15.last.q.where_ xr15.last.q.order xr15.last.q.down xr15.last.q.first xr15.last.q.show_ xr15.last.q.kids xr15.last.q.kidTable xr15.last.q.kidCol xr15.last.rows xr15.last.kids xr15.lastVersion xr15.began t6)) (kn t7 (W (t8+1)) xr13.2.b xr13.2.i xr13.2.h t30 t31 t32 t40 t41 t42 t43 t44 t45 t46 t47 t48 t49 t410 t411 t412 t413 t414 t415 t416 t417 t418 t419 t420 t421 t422 t423 t424 t6))))))
abbrev ao_.K7:Type:=(List Int)→Int→Int→(List aE_)→Option ((List aE_) × ac_)
abbrev ao_.T7:Type:=Int→Int→(List Int)→Int→Int→(List Int)→Int→(List (List TRow))→Int→(List bJ_)→Int→Bool→Int→(List Int)→Bool→Int→Int→(List TRow)→(List TKid)→Int→Int→(List bJ_)→Int→Bool→Int→(List Int)→Bool→Int→Int→(List TRow)→(List TKid)→Int→Bool→(List aE_)→Option ((List aE_) × ac_)
def ao_.step7 (n:Nat) (k0:ao_.K7) (back:ao_.T7):ao_.T7:=fun t7 t8 o0 o1 o2 t30 t31 t32 t40 t41 t42 t43 t44 t45 t46 t47 t48 t49 t410 t411 t412 t413 t414 t415 t416 t417 t418 t419 t420 t421 t422 t423 t424 t6=>
 (cond (decide (t8<t7)) (ao_.tail8 n (fun xy16 xy17 xy18 xy19 xy20 xy21 xy22 xy23 xy24 xy25 xy26 xy27 xy28 xy29 xy30 xy31 xy32 xy33 xy34 xy35 xy36 xy37 xy38 xy39 xy40 xy41 xy42 xy43 xy44 xy45 xy46 xy47 xy48 xy49=>(back xy16 xy17 xy18 xy19 xy20 xy21 xy22 xy23 xy24 xy25 xy26 xy27 xy28 xy29 xy30 xy31 xy32 xy33 xy34 xy35 xy36 xy37 xy38 xy39 xy40 xy41 xy42 xy43 xy44 xy45 xy46 xy47 xy48 xy49)) t7 t8 o0 o1 o2 t30 t31 t32 t40 t41 t42 t43 t44 t45 t46 t47 t48 t49 t410 t411 t412 t413 t414 t415 t416 t417 t418 t419 t420 t421 t422 t423 t424 t6) (k0 o0 o1 o2 t6))
def ao_.loop7 (n:Nat) (k0:ao_.K7) (N:Nat):ao_.T7:=cl_ (fun _ _ _ _ _ _ _ _ _ _ _ _ _ _ _ _ _ _ _ _ _ _ _ _ _ _ _ _ _ _ _ _ _ _=>none) (ao_.step7 n k0) N
def ao_.tail1 (n:Nat) (o0:List Int) (o1:Int) (o2:Int) (t30:List Int) (t31:Int) (t32:List (List TRow)):Option ((List aE_) × ac_) :=
 ((aj_ n (ac_.mk o0 o1 o2) (aP_.mk t30)).bind fun xr2=>((dt_ n (ar_.mk (aP_.mk t30) t31 t32) xr2.1).bind fun xr3=>((ag_ n xr2.2 6).bind fun xr4=>(ao_.loop7 n (fun xy50 xy51 xy52 xy53=>(some (xy53,(ac_.mk xy50 xy51 xy52)))) n (W (1+xr4.1)) 0 xr4.2.b xr4.2.i xr4.2.h t30 t31 t32 xr3.1.view.q.table xr3.1.view.q.where_ xr3.1.view.q.order xr3.1.view.q.down xr3.1.view.q.first xr3.1.view.q.show_ xr3.1.view.q.kids xr3.1.view.q.kidTable xr3.1.view.q.kidCol xr3.1.view.rows xr3.1.view.kids xr3.1.version xr3.1.last.q.table xr3.1.last.q.where_ xr3.1.last.q.order xr3.1.last.q.down xr3.1.last.q.first xr3.1.last.q.show_ xr3.1.last.q.kids xr3.1.last.q.kidTable xr3.1.last.q.kidCol xr3.1.last.rows xr3.1.last.kids xr3.1.lastVersion xr3.1.began ([]:List aE_)))))
def ao_:Nat→ac_→Option ((List aE_) × ac_)
 |0,_=>none
 |n+1,o=>
  ((aL_ n o).bind fun xr1=>(ao_.tail1 n xr1.2.b xr1.2.i xr1.2.h xr1.1.schema.cols xr1.1.version xr1.1.tables))
def cw_:Nat→(List Int)→Option (List aE_)
 |0,_=>none
 |n+1,eJ_=>
  ((bS_ n eJ_).bind fun xr1=>((ao_ n xr1).bind fun xr2=>(some xr2.1)))
def cH_:Nat→(List Bs)→Option (List Bs)
 |0,_=>none
 |n+1,l=>
  (bq_ (([]:List Bs).length+l.length) 16 (some (([]:List Bs)++l)))
abbrev aA_.K4_1:Type:=Int→Int→Bs→Int→Int→Bs→(List aa_)→(List Bs)→Option aa_
abbrev aA_.T4:Type:=(List aa_)→Int→Int→Int→Int→Bs→Int→Int→Bs→(List aa_)→(List Bs)→Option aa_
def aA_.step4 (n:Nat) (impl_copyJson_:aa_→Option aa_) (k0:aA_.K4_1) (back:aA_.T4):aA_.T4:=fun t17 t18 t19 t20 t21 t22 out0 out1 out2 out3 out4=>
 (cond (decide (t19<t18)) (inB t19 t17.length ((impl_copyJson_ (aa_.re (t17.getD t19.toNat aa_.dflt))).bind fun xr2=>(bq_ (out3.length+([(aa_.re xr2)]:List aa_).length) 80 (back t17 t18 (W (t19+1)) t20 t21 t22 out0 out1 out2 (out3++([(aa_.re xr2)]:List aa_)) out4)))) (k0 t20 t21 t22 out0 out1 out2 out3 out4))
def aA_.loop4 (n:Nat) (impl_copyJson_:aa_→Option aa_) (k0:aA_.K4_1) (N:Nat):aA_.T4:=cl_ (fun _ _ _ _ _ _ _ _ _ _ _=>none) (aA_.step4 n impl_copyJson_ k0) N
def aA_:Nat→aa_→Option aa_
 |0,_=>none
 |n+1,j=>
  ((cH_ n j.names).bind fun xr1=>(aA_.loop4 n (aA_ n) (fun xy3 xy4 xy5 xy6 xy7 xy8 xy9 xy10=>(some (aa_.mk xy6 xy7 xy8 xy9 xy10))) n j.list (j.list.length:Int) 0 0 0 [] j.kind j.n_ j.s ([]:List aa_) xr1))
def cZ_:Nat→aX_→Option aX_
 |0,_=>none
 |n+1,c=>
  ((aA_ n (aa_.re c.doc)).bind fun xr1=>(some { c with doc:=(aa_.re xr1) }))
def aJ_:Nat→Int→Int→Int→Option Bool
 |0,_,_,_=>none
 |n+1,n1,low,high=>
  (cond (decide (n1≥low)) (some (decide (n1≤high))) (some false))
def cT_:Nat→Int→Option Bool
 |0,_=>none
 |n+1,n1=>
  ((aJ_ n n1 0 100000).bind fun xr1=>(some xr1))
def bb_:Nat→Int→Option Bool
 |0,_=>none
 |n+1,n1=>
  ((aJ_ n n1 (-1000000000) 1000000000).bind fun xr1=>(some xr1))
abbrev ay_.T3:Type:=Bs→Int→Int→Option Bool
def ay_.step3 (n:Nat) (k0:Bs→Option Bool) (back:ay_.T3):ay_.T3:=fun s t5 t6=>
 (cond (decide (t6<t5)) (inB t6 s.length ((aJ_ n (W (((s.getD t6.toNat 0).toNat:Int))) 32 126).bind fun xr1=>(cond (!xr1) (some false) (back s t5 (W (t6+1)))))) (k0 s))
def ay_.loop3 (n:Nat) (k0:Bs→Option Bool) (N:Nat):ay_.T3:=cl_ (fun _ _ _=>none) (ay_.step3 n k0) N
def ay_:Nat→Bs→Option Bool
 |0,_=>none
 |n+1,s=>
  (ay_.loop3 n (fun xy2=>(some (decide ((xy2.length:Int)≤60)))) n s (s.length:Int) 0)
abbrev as_.T3:Type:=(List Bs)→(List Bs)→Int→Int→Option Bool
def as_.step3 (n:Nat) (k0:Option Bool) (back:as_.T3):as_.T3:=fun names t5 t6 t7=>
 (cond (decide (t7<t6)) (inB t7 t5.length ((ay_ n (t5.getD t7.toNat [])).bind fun xr1=>(cond (!xr1) (some false) (cond (decide (t7 > 0)) (inB (W (t7 - 1)) names.length (let xv2:Bool:=(!Op.bytesLess (names.getD (W (t7 - 1)).toNat []) (t5.getD t7.toNat []));(cond xv2 (some false) (back names t5 t6 (W (t7+1)))))) (back names t5 t6 (W (t7+1))))))) k0)
def as_.loop3 (n:Nat) (k0:Option Bool) (N:Nat):as_.T3:=cl_ (fun _ _ _ _=>none) (as_.step3 n k0) N
def as_:Nat→(List Bs)→Option Bool
 |0,_=>none
 |n+1,names=>
  (as_.loop3 n (some true) n names names (names.length:Int) 0)
def eB_:Nat→aa_→Option Bool
 |0,_=>none
 |n+1,o=>
  (cond (decide ((o.list.length:Int) > 0)) (cond (o.kind != 4) (cond (o.kind != 5) (some false) (cond (decide ((o.names.length:Int) > 0)) (cond (o.kind != 5) (some false) (cond (o.n_ != 0) (cond (o.kind != 1) (cond (o.kind != 2) (some false) (cond (!(o.s == [])) (cond (o.kind != 3) (some false) (cond (o.kind == 1) ((aJ_ n o.n_ 0 1).bind fun xr1=>(some xr1)) (cond (o.kind == 2) ((bb_ n o.n_).bind fun xr2=>(some xr2)) (cond (o.kind == 3) ((ay_ n o.s).bind fun xr3=>(some xr3)) (cond (o.kind == 5) (cond ((o.names.length:Int) == (o.list.length:Int)) ((as_ n o.names).bind fun xr4=>(some xr4)) (some false)) (cond (o.kind == 0) (some true) (some (o.kind == 4)))))))) (cond (o.kind == 1) ((aJ_ n o.n_ 0 1).bind fun xr5=>(some xr5)) (cond (o.kind == 2) ((bb_ n o.n_).bind fun xr6=>(some xr6)) (cond (o.kind == 3) ((ay_ n o.s).bind fun xr7=>(some xr7)) (cond (o.kind == 5) (cond ((o.names.length:Int) == (o.list.length:Int)) ((as_ n o.names).bind fun xr8=>(some xr8)) (some false)) (cond (o.kind == 0) (some true) (some (o.kind == 4))))))))) (cond (!(o.s == [])) (cond (o.kind != 3) (some false) (cond (o.kind == 1) ((aJ_ n o.n_ 0 1).bind fun xr9=>(some xr9)) (cond (o.kind == 2) ((bb_ n o.n_).bind fun xr10=>(some xr10)) (cond (o.kind == 3) ((ay_ n o.s).bind fun xr11=>(some xr11)) (cond (o.kind == 5) (cond ((o.names.length:Int) == (o.list.length:Int)) ((as_ n o.names).bind fun xr12=>(some xr12)) (some false)) (cond (o.kind == 0) (some true) (some (o.kind == 4)))))))) (cond (o.kind == 1) ((aJ_ n o.n_ 0 1).bind fun xr13=>(some xr13)) (cond (o.kind == 2) ((bb_ n o.n_).bind fun xr14=>(some xr14)) (cond (o.kind == 3) ((ay_ n o.s).bind fun xr15=>(some xr15)) (cond (o.kind == 5) (cond ((o.names.length:Int) == (o.list.length:Int)) ((as_ n o.names).bind fun xr16=>(some xr16)) (some false)) (cond (o.kind == 0) (some true) (some (o.kind == 4))))))))) (cond (!(o.s == [])) (cond (o.kind != 3) (some false) (cond (o.kind == 1) ((aJ_ n o.n_ 0 1).bind fun xr17=>(some xr17)) (cond (o.kind == 2) ((bb_ n o.n_).bind fun xr18=>(some xr18)) (cond (o.kind == 3) ((ay_ n o.s).bind fun xr19=>(some xr19)) (cond (o.kind == 5) (cond ((o.names.length:Int) == (o.list.length:Int)) ((as_ n o.names).bind fun xr20=>(some xr20)) (some false)) (cond (o.kind == 0) (some true) (some (o.kind == 4)))))))) (cond (o.kind == 1) ((aJ_ n o.n_ 0 1).bind fun xr21=>(some xr21)) (cond (o.kind == 2) ((bb_ n o.n_).bind fun xr22=>(some xr22)) (cond (o.kind == 3) ((ay_ n o.s).bind fun xr23=>(some xr23)) (cond (o.kind == 5) (cond ((o.names.length:Int) == (o.list.length:Int)) ((as_ n o.names).bind fun xr24=>(some xr24)) (some false)) (cond (o.kind == 0) (some true) (some (o.kind == 4)))))))))) (cond (o.n_ != 0) (cond (o.kind != 1) (cond (o.kind != 2) (some false) (cond (!(o.s == [])) (cond (o.kind != 3) (some false) (cond (o.kind == 1) ((aJ_ n o.n_ 0 1).bind fun xr25=>(some xr25)) (cond (o.kind == 2) ((bb_ n o.n_).bind fun xr26=>(some xr26)) (cond (o.kind == 3) ((ay_ n o.s).bind fun xr27=>(some xr27)) (cond (o.kind == 5) (cond ((o.names.length:Int) == (o.list.length:Int)) ((as_ n o.names).bind fun xr28=>(some xr28)) (some false)) (cond (o.kind == 0) (some true) (some (o.kind == 4)))))))) (cond (o.kind == 1) ((aJ_ n o.n_ 0 1).bind fun xr29=>(some xr29)) (cond (o.kind == 2) ((bb_ n o.n_).bind fun xr30=>(some xr30)) (cond (o.kind == 3) ((ay_ n o.s).bind fun xr31=>(some xr31)) (cond (o.kind == 5) (cond ((o.names.length:Int) == (o.list.length:Int)) ((as_ n o.names).bind fun xr32=>(some xr32)) (some false)) (cond (o.kind == 0) (some true) (some (o.kind == 4))))))))) (cond (!(o.s == [])) (cond (o.kind != 3) (some false) (cond (o.kind == 1) ((aJ_ n o.n_ 0 1).bind fun xr33=>(some xr33)) (cond (o.kind == 2) ((bb_ n o.n_).bind fun xr34=>(some xr34)) (cond (o.kind == 3) ((ay_ n o.s).bind fun xr35=>(some xr35)) (cond (o.kind == 5) (cond ((o.names.length:Int) == (o.list.length:Int)) ((as_ n o.names).bind fun xr36=>(some xr36)) (some false)) (cond (o.kind == 0) (some true) (some (o.kind == 4)))))))) (cond (o.kind == 1) ((aJ_ n o.n_ 0 1).bind fun xr37=>(some xr37)) (cond (o.kind == 2) ((bb_ n o.n_).bind fun xr38=>(some xr38)) (cond (o.kind == 3) ((ay_ n o.s).bind fun xr39=>(some xr39)) (cond (o.kind == 5) (cond ((o.names.length:Int) == (o.list.length:Int)) ((as_ n o.names).bind fun xr40=>(some xr40)) (some false)) (cond (o.kind == 0) (some true) (some (o.kind == 4))))))))) (cond (!(o.s == [])) (cond (o.kind != 3) (some false) (cond (o.kind == 1) ((aJ_ n o.n_ 0 1).bind fun xr41=>(some xr41)) (cond (o.kind == 2) ((bb_ n o.n_).bind fun xr42=>(some xr42)) (cond (o.kind == 3) ((ay_ n o.s).bind fun xr43=>(some xr43)) (cond (o.kind == 5) (cond ((o.names.length:Int) == (o.list.length:Int)) ((as_ n o.names).bind fun xr44=>(some xr44)) (some false)) (cond (o.kind == 0) (some true) (some (o.kind == 4)))))))) (cond (o.kind == 1) ((aJ_ n o.n_ 0 1).bind fun xr45=>(some xr45)) (cond (o.kind == 2) ((bb_ n o.n_).bind fun xr46=>(some xr46)) (cond (o.kind == 3) ((ay_ n o.s).bind fun xr47=>(some xr47)) (cond (o.kind == 5) (cond ((o.names.length:Int) == (o.list.length:Int)) ((as_ n o.names).bind fun xr48=>(some xr48)) (some false)) (cond (o.kind == 0) (some true) (some (o.kind == 4))))))))))) (cond (decide ((o.names.length:Int) > 0)) (cond (o.kind != 5) (some false) (cond (o.n_ != 0) (cond (o.kind != 1) (cond (o.kind != 2) (some false) (cond (!(o.s == [])) (cond (o.kind != 3) (some false) (cond (o.kind == 1) ((aJ_ n o.n_ 0 1).bind fun xr49=>(some xr49)) (cond (o.kind == 2) ((bb_ n o.n_).bind fun xr50=>(some xr50)) (cond (o.kind == 3) ((ay_ n o.s).bind fun xr51=>(some xr51)) (cond (o.kind == 5) (cond ((o.names.length:Int) == (o.list.length:Int)) ((as_ n o.names).bind fun xr52=>(some xr52)) (some false)) (cond (o.kind == 0) (some true) (some (o.kind == 4)))))))) (cond (o.kind == 1) ((aJ_ n o.n_ 0 1).bind fun xr53=>(some xr53)) (cond (o.kind == 2) ((bb_ n o.n_).bind fun xr54=>(some xr54)) (cond (o.kind == 3) ((ay_ n o.s).bind fun xr55=>(some xr55)) (cond (o.kind == 5) (cond ((o.names.length:Int) == (o.list.length:Int)) ((as_ n o.names).bind fun xr56=>(some xr56)) (some false)) (cond (o.kind == 0) (some true) (some (o.kind == 4))))))))) (cond (!(o.s == [])) (cond (o.kind != 3) (some false) (cond (o.kind == 1) ((aJ_ n o.n_ 0 1).bind fun xr57=>(some xr57)) (cond (o.kind == 2) ((bb_ n o.n_).bind fun xr58=>(some xr58)) (cond (o.kind == 3) ((ay_ n o.s).bind fun xr59=>(some xr59)) (cond (o.kind == 5) (cond ((o.names.length:Int) == (o.list.length:Int)) ((as_ n o.names).bind fun xr60=>(some xr60)) (some false)) (cond (o.kind == 0) (some true) (some (o.kind == 4)))))))) (cond (o.kind == 1) ((aJ_ n o.n_ 0 1).bind fun xr61=>(some xr61)) (cond (o.kind == 2) ((bb_ n o.n_).bind fun xr62=>(some xr62)) (cond (o.kind == 3) ((ay_ n o.s).bind fun xr63=>(some xr63)) (cond (o.kind == 5) (cond ((o.names.length:Int) == (o.list.length:Int)) ((as_ n o.names).bind fun xr64=>(some xr64)) (some false)) (cond (o.kind == 0) (some true) (some (o.kind == 4))))))))) (cond (!(o.s == [])) (cond (o.kind != 3) (some false) (cond (o.kind == 1) ((aJ_ n o.n_ 0 1).bind fun xr65=>(some xr65)) (cond (o.kind == 2) ((bb_ n o.n_).bind fun xr66=>(some xr66)) (cond (o.kind == 3) ((ay_ n o.s).bind fun xr67=>(some xr67)) (cond (o.kind == 5) (cond ((o.names.length:Int) == (o.list.length:Int)) ((as_ n o.names).bind fun xr68=>(some xr68)) (some false)) (cond (o.kind == 0) (some true) (some (o.kind == 4)))))))) (cond (o.kind == 1) ((aJ_ n o.n_ 0 1).bind fun xr69=>(some xr69)) (cond (o.kind == 2) ((bb_ n o.n_).bind fun xr70=>(some xr70)) (cond (o.kind == 3) ((ay_ n o.s).bind fun xr71=>(some xr71)) (cond (o.kind == 5) (cond ((o.names.length:Int) == (o.list.length:Int)) ((as_ n o.names).bind fun xr72=>(some xr72)) (some false)) (cond (o.kind == 0) (some true) (some (o.kind == 4)))))))))) (cond (o.n_ != 0) (cond (o.kind != 1) (cond (o.kind != 2) (some false) (cond (!(o.s == [])) (cond (o.kind != 3) (some false) (cond (o.kind == 1) ((aJ_ n o.n_ 0 1).bind fun xr73=>(some xr73)) (cond (o.kind == 2) ((bb_ n o.n_).bind fun xr74=>(some xr74)) (cond (o.kind == 3) ((ay_ n o.s).bind fun xr75=>(some xr75)) (cond (o.kind == 5) (cond ((o.names.length:Int) == (o.list.length:Int)) ((as_ n o.names).bind fun xr76=>(some xr76)) (some false)) (cond (o.kind == 0) (some true) (some (o.kind == 4)))))))) (cond (o.kind == 1) ((aJ_ n o.n_ 0 1).bind fun xr77=>(some xr77)) (cond (o.kind == 2) ((bb_ n o.n_).bind fun xr78=>(some xr78)) (cond (o.kind == 3) ((ay_ n o.s).bind fun xr79=>(some xr79)) (cond (o.kind == 5) (cond ((o.names.length:Int) == (o.list.length:Int)) ((as_ n o.names).bind fun xr80=>(some xr80)) (some false)) (cond (o.kind == 0) (some true) (some (o.kind == 4))))))))) (cond (!(o.s == [])) (cond (o.kind != 3) (some false) (cond (o.kind == 1) ((aJ_ n o.n_ 0 1).bind fun xr81=>(some xr81)) (cond (o.kind == 2) ((bb_ n o.n_).bind fun xr82=>(some xr82)) (cond (o.kind == 3) ((ay_ n o.s).bind fun xr83=>(some xr83)) (cond (o.kind == 5) (cond ((o.names.length:Int) == (o.list.length:Int)) ((as_ n o.names).bind fun xr84=>(some xr84)) (some false)) (cond (o.kind == 0) (some true) (some (o.kind == 4)))))))) (cond (o.kind == 1) ((aJ_ n o.n_ 0 1).bind fun xr85=>(some xr85)) (cond (o.kind == 2) ((bb_ n o.n_).bind fun xr86=>(some xr86)) (cond (o.kind == 3) ((ay_ n o.s).bind fun xr87=>(some xr87)) (cond (o.kind == 5) (cond ((o.names.length:Int) == (o.list.length:Int)) ((as_ n o.names).bind fun xr88=>(some xr88)) (some false)) (cond (o.kind == 0) (some true) (some (o.kind == 4))))))))) (cond (!(o.s == [])) (cond (o.kind != 3) (some false) (cond (o.kind == 1) ((aJ_ n o.n_ 0 1).bind fun xr89=>(some xr89)) (cond (o.kind == 2) ((bb_ n o.n_).bind fun xr90=>(some xr90)) (cond (o.kind == 3) ((ay_ n o.s).bind fun xr91=>(some xr91)) (cond (o.kind == 5) (cond ((o.names.length:Int) == (o.list.length:Int)) ((as_ n o.names).bind fun xr92=>(some xr92)) (some false)) (cond (o.kind == 0) (some true) (some (o.kind == 4)))))))) (cond (o.kind == 1) ((aJ_ n o.n_ 0 1).bind fun xr93=>(some xr93)) (cond (o.kind == 2) ((bb_ n o.n_).bind fun xr94=>(some xr94)) (cond (o.kind == 3) ((ay_ n o.s).bind fun xr95=>(some xr95)) (cond (o.kind == 5) (cond ((o.names.length:Int) == (o.list.length:Int)) ((as_ n o.names).bind fun xr96=>(some xr96)) (some false)) (cond (o.kind == 0) (some true) (some (o.kind == 4))))))))))) (cond (decide ((o.names.length:Int) > 0)) (cond (o.kind != 5) (some false) (cond (o.n_ != 0) (cond (o.kind != 1) (cond (o.kind != 2) (some false) (cond (!(o.s == [])) (cond (o.kind != 3) (some false) (cond (o.kind == 1) ((aJ_ n o.n_ 0 1).bind fun xr97=>(some xr97)) (cond (o.kind == 2) ((bb_ n o.n_).bind fun xr98=>(some xr98)) (cond (o.kind == 3) ((ay_ n o.s).bind fun xr99=>(some xr99)) (cond (o.kind == 5) (cond ((o.names.length:Int) == (o.list.length:Int)) ((as_ n o.names).bind fun xr100=>(some xr100)) (some false)) (cond (o.kind == 0) (some true) (some (o.kind == 4)))))))) (cond (o.kind == 1) ((aJ_ n o.n_ 0 1).bind fun xr101=>(some xr101)) (cond (o.kind == 2) ((bb_ n o.n_).bind fun xr102=>(some xr102)) (cond (o.kind == 3) ((ay_ n o.s).bind fun xr103=>(some xr103)) (cond (o.kind == 5) (cond ((o.names.length:Int) == (o.list.length:Int)) ((as_ n o.names).bind fun xr104=>(some xr104)) (some false)) (cond (o.kind == 0) (some true) (some (o.kind == 4))))))))) (cond (!(o.s == [])) (cond (o.kind != 3) (some false) (cond (o.kind == 1) ((aJ_ n o.n_ 0 1).bind fun xr105=>(some xr105)) (cond (o.kind == 2) ((bb_ n o.n_).bind fun xr106=>(some xr106)) (cond (o.kind == 3) ((ay_ n o.s).bind fun xr107=>(some xr107)) (cond (o.kind == 5) (cond ((o.names.length:Int) == (o.list.length:Int)) ((as_ n o.names).bind fun xr108=>(some xr108)) (some false)) (cond (o.kind == 0) (some true) (some (o.kind == 4)))))))) (cond (o.kind == 1) ((aJ_ n o.n_ 0 1).bind fun xr109=>(some xr109)) (cond (o.kind == 2) ((bb_ n o.n_).bind fun xr110=>(some xr110)) (cond (o.kind == 3) ((ay_ n o.s).bind fun xr111=>(some xr111)) (cond (o.kind == 5) (cond ((o.names.length:Int) == (o.list.length:Int)) ((as_ n o.names).bind fun xr112=>(some xr112)) (some false)) (cond (o.kind == 0) (some true) (some (o.kind == 4))))))))) (cond (!(o.s == [])) (cond (o.kind != 3) (some false) (cond (o.kind == 1) ((aJ_ n o.n_ 0 1).bind fun xr113=>(some xr113)) (cond (o.kind == 2) ((bb_ n o.n_).bind fun xr114=>(some xr114)) (cond (o.kind == 3) ((ay_ n o.s).bind fun xr115=>(some xr115)) (cond (o.kind == 5) (cond ((o.names.length:Int) == (o.list.length:Int)) ((as_ n o.names).bind fun xr116=>(some xr116)) (some false)) (cond (o.kind == 0) (some true) (some (o.kind == 4)))))))) (cond (o.kind == 1) ((aJ_ n o.n_ 0 1).bind fun xr117=>(some xr117)) (cond (o.kind == 2) ((bb_ n o.n_).bind fun xr118=>(some xr118)) (cond (o.kind == 3) ((ay_ n o.s).bind fun xr119=>(some xr119)) (cond (o.kind == 5) (cond ((o.names.length:Int) == (o.list.length:Int)) ((as_ n o.names).bind fun xr120=>(some xr120)) (some false)) (cond (o.kind == 0) (some true) (some (o.kind == 4)))))))))) (cond (o.n_ != 0) (cond (o.kind != 1) (cond (o.kind != 2) (some false) (cond (!(o.s == [])) (cond (o.kind != 3) (some false) (cond (o.kind == 1) ((aJ_ n o.n_ 0 1).bind fun xr121=>(some xr121)) (cond (o.kind == 2) ((bb_ n o.n_).bind fun xr122=>(some xr122)) (cond (o.kind == 3) ((ay_ n o.s).bind fun xr123=>(some xr123)) (cond (o.kind == 5) (cond ((o.names.length:Int) == (o.list.length:Int)) ((as_ n o.names).bind fun xr124=>(some xr124)) (some false)) (cond (o.kind == 0) (some true) (some (o.kind == 4)))))))) (cond (o.kind == 1) ((aJ_ n o.n_ 0 1).bind fun xr125=>(some xr125)) (cond (o.kind == 2) ((bb_ n o.n_).bind fun xr126=>(some xr126)) (cond (o.kind == 3) ((ay_ n o.s).bind fun xr127=>(some xr127)) (cond (o.kind == 5) (cond ((o.names.length:Int) == (o.list.length:Int)) ((as_ n o.names).bind fun xr128=>(some xr128)) (some false)) (cond (o.kind == 0) (some true) (some (o.kind == 4))))))))) (cond (!(o.s == [])) (cond (o.kind != 3) (some false) (cond (o.kind == 1) ((aJ_ n o.n_ 0 1).bind fun xr129=>(some xr129)) (cond (o.kind == 2) ((bb_ n o.n_).bind fun xr130=>(some xr130)) (cond (o.kind == 3) ((ay_ n o.s).bind fun xr131=>(some xr131)) (cond (o.kind == 5) (cond ((o.names.length:Int) == (o.list.length:Int)) ((as_ n o.names).bind fun xr132=>(some xr132)) (some false)) (cond (o.kind == 0) (some true) (some (o.kind == 4)))))))) (cond (o.kind == 1) ((aJ_ n o.n_ 0 1).bind fun xr133=>(some xr133)) (cond (o.kind == 2) ((bb_ n o.n_).bind fun xr134=>(some xr134)) (cond (o.kind == 3) ((ay_ n o.s).bind fun xr135=>(some xr135)) (cond (o.kind == 5) (cond ((o.names.length:Int) == (o.list.length:Int)) ((as_ n o.names).bind fun xr136=>(some xr136)) (some false)) (cond (o.kind == 0) (some true) (some (o.kind == 4))))))))) (cond (!(o.s == [])) (cond (o.kind != 3) (some false) (cond (o.kind == 1) ((aJ_ n o.n_ 0 1).bind fun xr137=>(some xr137)) (cond (o.kind == 2) ((bb_ n o.n_).bind fun xr138=>(some xr138)) (cond (o.kind == 3) ((ay_ n o.s).bind fun xr139=>(some xr139)) (cond (o.kind == 5) (cond ((o.names.length:Int) == (o.list.length:Int)) ((as_ n o.names).bind fun xr140=>(some xr140)) (some false)) (cond (o.kind == 0) (some true) (some (o.kind == 4)))))))) (cond (o.kind == 1) ((aJ_ n o.n_ 0 1).bind fun xr141=>(some xr141)) (cond (o.kind == 2) ((bb_ n o.n_).bind fun xr142=>(some xr142)) (cond (o.kind == 3) ((ay_ n o.s).bind fun xr143=>(some xr143)) (cond (o.kind == 5) (cond ((o.names.length:Int) == (o.list.length:Int)) ((as_ n o.names).bind fun xr144=>(some xr144)) (some false)) (cond (o.kind == 0) (some true) (some (o.kind == 4)))))))))))
abbrev bt_.T7:Type:=Int→Int→(List aa_)→Int→Int→Option Int
def bt_.step7 (n:Nat) (impl_sizeIn_:aa_→Int→Option Int) (k0:Int→Option Int) (back:bt_.T7):bt_.T7:=fun deep n_1 t16 t17 t18=>
 (cond (decide (t18<t17)) (inB t18 t16.length ((impl_sizeIn_ (aa_.re (t16.getD t18.toNat aa_.dflt)) (W (deep - 1))).bind fun xr2=>(cond (decide ((W (n_1+xr2)) > 400)) (some 401) (back deep (W (n_1+xr2)) t16 t17 (W (t18+1)))))) (k0 n_1))
def bt_.loop7 (n:Nat) (impl_sizeIn_:aa_→Int→Option Int) (k0:Int→Option Int) (N:Nat):bt_.T7:=cl_ (fun _ _ _ _ _=>none) (bt_.step7 n impl_sizeIn_ k0) N
def bt_:Nat→aa_→Int→Option Int
 |0,_,_=>none
 |n+1,j,deep=>
  (cond (decide (deep<1)) (some 401) ((eB_ n (aa_.re j)).bind fun xr1=>(cond (!xr1) (some 401) (bt_.loop7 n (bt_ n) (fun xy3=>(some xy3)) n deep 1 j.list (j.list.length:Int) 0))))
def cN_:Nat→aa_→Option Bool
 |0,_=>none
 |n+1,j=>
  ((bt_ n (aa_.re j) 6).bind fun xr1=>(some (decide (xr1≤400))))
abbrev bH_.K4:Type:=(List Int)→Option Bs
abbrev bH_.T4:Type:=Bs→Int→Int→(List Int)→Option Bs
def bH_.step4 (n:Nat) (k0:bH_.K4) (back:bH_.T4):bH_.T4:=fun s t7 t8 out_1=>
 (cond (decide (t8<t7)) (inB t8 s.length (cond (((s.getD t8.toNat 0).toNat:Int) == 34) (bq_ (out_1.length+([92]:List Int).length) 1 (inB t8 s.length (bq_ ((out_1++([92]:List Int)).length+([((s.getD t8.toNat 0).toNat:Int)]:List Int).length) 1 (back s t7 (W (t8+1)) ((out_1++([92]:List Int))++([((s.getD t8.toNat 0).toNat:Int)]:List Int)))))) (inB t8 s.length (cond (((s.getD t8.toNat 0).toNat:Int) == 92) (bq_ (out_1.length+([92]:List Int).length) 1 (inB t8 s.length (bq_ ((out_1++([92]:List Int)).length+([((s.getD t8.toNat 0).toNat:Int)]:List Int).length) 1 (back s t7 (W (t8+1)) ((out_1++([92]:List Int))++([((s.getD t8.toNat 0).toNat:Int)]:List Int)))))) (inB t8 s.length (bq_ (out_1.length+([((s.getD t8.toNat 0).toNat:Int)]:List Int).length) 1 (back s t7 (W (t8+1)) (out_1++([((s.getD t8.toNat 0).toNat:Int)]:List Int))))))))) (k0 out_1))
def bH_.loop4 (n:Nat) (k0:bH_.K4) (N:Nat):bH_.T4:=cl_ (fun _ _ _ _=>none) (bH_.step4 n k0) N
def bH_:Nat→Bs→Option Bs
 |0,_=>none
 |n+1,s=>
  (bH_.loop4 n (fun xy1=>(bq_ (xy1.length+([34]:List Int).length) 1 (some (qP_ (xy1++([34]:List Int)))))) n s (s.length:Int) 0 ([34]:List Int))
def strconv_Itoa:Nat→Int→Option Bs
 |0,_=>none
 |_+1,i=>nItoa i
def strings_Join:Nat→List Bs→Bs→Option Bs
 |0,_,_=>none
 |_+1,l,s=>nJoin l s
abbrev a1_.K4_1:Type:=Int→Int→Bs→(List aa_)→(List Bs)→(List Bs)→Option Bs
abbrev a1_.T4:Type:=(List aa_)→Int→Int→Int→Int→Bs→(List aa_)→(List Bs)→(List Bs)→Option Bs
def a1_.step4 (n:Nat) (impl_written_:aa_→Option Bs) (k0:a1_.K4_1) (back:a1_.T4):a1_.T4:=fun t9 t10 t11 append0 append1 append2 append3 append4 t3=>
 (cond (decide (t11<t10)) (inB t11 t9.length ((impl_written_ (aa_.re (t9.getD t11.toNat aa_.dflt))).bind fun xr1=>(cond (append0 == 5) (inB t11 append4.length ((bH_ n (append4.getD t11.toNat [])).bind fun xr2=>(cond (decide (xr2.length+[58].length≤9223372036854775807)) (cond (decide ((xr2++[58]).length+xr1.length≤9223372036854775807)) (bq_ (t3.length+([((xr2++[58])++xr1)]:List Bs).length) 16 (back t9 t10 (W (t11+1)) append0 append1 append2 append3 append4 (t3++([((xr2++[58])++xr1)]:List Bs)))) none) none))) (bq_ (t3.length+([xr1]:List Bs).length) 16 (back t9 t10 (W (t11+1)) append0 append1 append2 append3 append4 (t3++([xr1]:List Bs))))))) (k0 append0 append1 append2 append3 append4 t3))
def a1_.loop4 (n:Nat) (impl_written_:aa_→Option Bs) (k0:a1_.K4_1) (N:Nat):a1_.T4:=cl_ (fun _ _ _ _ _ _ _ _ _=>none) (a1_.step4 n impl_written_ k0) N
def a1_:Nat→aa_→Option Bs
 |0,_=>none
 |n+1,o=>
  (a1_.loop4 n (a1_ n) (fun xy3 xy4 xy5 xy6 xy7 xy8=>(cond (xy3 == 0) (some [110,117,108,108]) (cond (xy3 == 1) (inB xy4 ([[102,97,108,115,101],[116,114,117,101]]:List Bs).length (let xv9:Bs:=(([[102,97,108,115,101],[116,114,117,101]]:List Bs).getD xy4.toNat []);(some xv9))) (cond (xy3 == 2) ((strconv_Itoa n xy4).bind fun xr10=>(some xr10)) (cond (xy3 == 3) ((bH_ n xy5).bind fun xr11=>(some xr11)) (cond (xy3 == 4) ((strings_Join n xy8 [44]).bind fun xr12=>(cond (decide ([91].length+xr12.length≤9223372036854775807)) (cond (decide ((([91]:Bs)++xr12).length+[93].length≤9223372036854775807)) (some ((([91]:Bs)++xr12)++[93])) none) none)) ((strings_Join n xy8 [44]).bind fun xr13=>(cond (decide ([123].length+xr13.length≤9223372036854775807)) (cond (decide ((([123]:Bs)++xr13).length+[125].length≤9223372036854775807)) (some ((([123]:Bs)++xr13)++[125])) none) none)))))))) n o.list (o.list.length:Int) 0 o.kind o.n_ o.s o.list o.names ([]:List Bs))
def dW_:Nat→aa_→Option Bs
 |0,_=>none
 |n+1,j=>
  ((cN_ n (aa_.re j)).bind fun xr1=>(cond (!xr1) (some []) ((a1_ n (aa_.re j)).bind fun xr2=>(cond (decide ((xr2.length:Int) > 6000)) (some []) (some xr2)))))
def dz_:Nat→aa_→Option Bool
 |0,_=>none
 |n+1,j=>
  (cond (j.kind == 0) (cond (j.n_ == 0) (cond (j.s == []) (cond ((j.list.length:Int) == 0) (some ((j.names.length:Int) == 0)) (some false)) (some false)) (some false)) (some false))
abbrev b9_.K3:Type:=Int→(List Bs)→Int→Int→Bs→(List aa_)→(List Bs)→Option Bool
abbrev b9_.T3:Type:=(List Bs)→Int→Int→Int→(List Bs)→Int→Int→Bs→(List aa_)→(List Bs)→Option Bool
def b9_.step3 (n:Nat) (k0:b9_.K3) (back:b9_.T3):b9_.T3:=fun t6 t7 t8 o0 o1 o2 o3 o4 o5 o6=>
 (cond (decide (t8<t7)) (inB t8 t6.length ((ay_ n (t6.getD t8.toNat [])).bind fun xr1=>(cond (!xr1) (some false) (back t6 t7 (W (t8+1)) o0 o1 o2 o3 o4 o5 o6)))) (k0 o0 o1 o2 o3 o4 o5 o6))
def b9_.loop3 (n:Nat) (k0:b9_.K3) (N:Nat):b9_.T3:=cl_ (fun _ _ _ _ _ _ _ _ _ _=>none) (b9_.step3 n k0) N
def b9_:Nat→TOp→Option Bool
 |0,_=>none
 |n+1,o=>
  (b9_.loop3 n (fun xy2 xy3 xy4 xy5 xy6 xy7 xy8=>((aJ_ n xy2 1 4).bind fun xr9=>(cond xr9 (cond (decide ((xy3.length:Int)≤6)) ((cN_ n (aa_.mk xy4 xy5 xy6 xy7 xy8)).bind fun xr10=>(cond xr10 (cond (xy2 != 2) (some true) ((dz_ n (aa_.mk xy4 xy5 xy6 xy7 xy8)).bind fun xr11=>(some xr11))) (some false))) (some false)) (some false)))) n o.way (o.way.length:Int) 0 o.kind o.way o.value.kind o.value.n_ o.value.s o.value.list o.value.names)
def dP_:Nat→Unit→Option (List Bs)
 |0,_=>none
 |n+1,_u=>
  (some ([[97,100,100],[114,101,109,111,118,101],[114,101,112,108,97,99,101],[116,101,115,116]]:List Bs))
def strings_ReplaceAll:Nat→Bs→Bs→Bs→Option Bs
 |0,_,_,_=>none
 |_+1,s,a,b=>gC_ s a b
abbrev bI_.T4:Type:=Bs→(List Bs)→Int→Int→Option Bs
def bI_.step4 (n:Nat) (k0:Bs→Option Bs) (back:bI_.T4):bI_.T4:=fun out_1 t6 t7 t8=>
 (cond (decide (t8<t7)) (inB t8 t6.length ((strings_ReplaceAll n (t6.getD t8.toNat []) [126] [126,48]).bind fun xr1=>((strings_ReplaceAll n xr1 [47] [126,49]).bind fun xr2=>(cond (decide ([47].length+xr2.length≤9223372036854775807)) (cond (decide (out_1.length+(([47]:Bs)++xr2).length≤9223372036854775807)) (back (out_1++(([47]:Bs)++xr2)) t6 t7 (W (t8+1))) none) none)))) (k0 out_1))
def bI_.loop4 (n:Nat) (k0:Bs→Option Bs) (N:Nat):bI_.T4:=cl_ (fun _ _ _ _=>none) (bI_.step4 n k0) N
def bI_:Nat→(List Bs)→Option Bs
 |0,_=>none
 |n+1,way=>
  (bI_.loop4 n (fun xy3=>(some xy3)) n [] way (way.length:Int) 0)
def dV_:Nat→aa_→Option aa_
 |0,_=>none
 |n+1,j=>
  ((cN_ n (aa_.re j)).bind fun xr1=>(cond (!xr1) (some (aa_.mk 0 0 [] ([]:List aa_) ([]:List Bs))) (some (aa_.re j))))
def d9_:Nat→TOp→Option aa_
 |0,_=>none
 |n+1,o=>
  ((b9_ n (TOp.mk o.kind o.way (aa_.re o.value))).bind fun xr1=>(cond (!xr1) (some (aa_.mk 0 0 [] ([]:List aa_) ([]:List Bs))) ((dP_ n ()).bind fun xr2=>(inB (W (o.kind - 1)) xr2.length ((bI_ n o.way).bind fun xr3=>(cond (o.kind != 2) (bq_ (([[111,112],[112,97,116,104]]:List Bs).length+([[118,97,108,117,101]]:List Bs).length) 16 ((aA_ n (aa_.re o.value)).bind fun xr4=>(bq_ (([(aa_.mk 3 0 (xr2.getD ((W (o.kind - 1)).toNat) []) [] []),(aa_.mk 3 0 xr3 [] [])]:List aa_).length+([(aa_.re xr4)]:List aa_).length) 80 ((dV_ n (aa_.mk 5 0 [] (([(aa_.mk 3 0 (xr2.getD ((W (o.kind - 1)).toNat) []) [] []),(aa_.mk 3 0 xr3 [] [])]:List aa_)++([(aa_.re xr4)]:List aa_)) (([[111,112],[112,97,116,104]]:List Bs)++([[118,97,108,117,101]]:List Bs)))).bind fun xr5=>(some (aa_.re xr5)))))) ((dV_ n (aa_.mk 5 0 [] ([(aa_.mk 3 0 (xr2.getD ((W (o.kind - 1)).toNat) []) [] []),(aa_.mk 3 0 xr3 [] [])]:List aa_) ([[111,112],[112,97,116,104]]:List Bs))).bind fun xr6=>(some (aa_.re xr6)))))))))
abbrev bl_.K4:Type:=Int→Int→Bs→Int→Int→Bs→(List aa_)→Option (aa_ × Bool)
abbrev bl_.T4:Type:=(List TOp)→Int→Int→Int→Int→Bs→Int→Int→Bs→(List aa_)→Option (aa_ × Bool)
def bl_.step4 (n:Nat) (k0:bl_.K4) (back:bl_.T4):bl_.T4:=fun t9 t10 t11 t20 t21 t22 j0 j1 j2 j3=>
 (cond (decide (t11<t10)) (inB t11 t9.length ((d9_ n { (t9.getD t11.toNat TOp.dflt) with value:=(aa_.re ((t9.getD t11.toNat TOp.dflt).value)) }).bind fun xr1=>(cond (xr1.kind == 0) (some ((aa_.mk 0 0 [] ([]:List aa_) ([]:List Bs)),false)) (bq_ (j3.length+([(aa_.re xr1)]:List aa_).length) 80 (back t9 t10 (W (t11+1)) t20 t21 t22 j0 j1 j2 (j3++([(aa_.re xr1)]:List aa_))))))) (k0 t20 t21 t22 j0 j1 j2 j3))
def bl_.loop4 (n:Nat) (k0:bl_.K4) (N:Nat):bl_.T4:=cl_ (fun _ _ _ _ _ _ _ _ _ _=>none) (bl_.step4 n k0) N
def bl_:Nat→(List TOp)→Option (aa_ × Bool)
 |0,_=>none
 |n+1,list=>
  (bl_.loop4 n (fun xy2 xy3 xy4 xy5 xy6 xy7 xy8=>(some ((aa_.mk xy5 xy6 xy7 xy8 ([]:List Bs)),true))) n list (list.length:Int) 0 0 0 [] 4 0 [] ([]:List aa_))
def dc_:Nat→(List TOp)→Option Int
 |0,_=>none
 |n+1,list=>
  ((bl_ n list).bind fun xr1=>((dW_ n (aa_.re xr1.1)).bind fun xr2=>(cond (!xr1.2) (some (-1)) (cond (xr2 == []) (some (-1)) (some (xr2.length:Int))))))
def dR_:Nat→aE_→Option Bool
 |0,_=>none
 |n+1,e=>
  (cond (e.kind == 1) ((cT_ n e.version).bind fun xr1=>(cond xr1 (cond (e.base == 0) ((dW_ n (aa_.re e.doc)).bind fun xr2=>(cond (!(xr2 == [])) (some ((e.ops.length:Int) == 0)) (some false))) (some false)) (some false))) (cond (e.kind == 2) ((cT_ n e.version).bind fun xr3=>(cond xr3 ((aJ_ n e.base 0 (W (e.version - 1))).bind fun xr4=>(cond xr4 ((dz_ n (aa_.re e.doc)).bind fun xr5=>(cond xr5 (cond (decide ((e.ops.length:Int)≤40)) ((dc_ n e.ops).bind fun xr6=>(some (decide (xr6≥0)))) (some false)) (some false))) (some false))) (some false))) (some false)))
abbrev aH_.T6:Type:=(List Bs)→(List Bs)→Int→Int→Option Bool
def aH_.step6 (n:Nat) (k0:Option Bool) (back:aH_.T6):aH_.T6:=fun s1 s2 t12 t13=>
 (cond (decide (t13<t12)) (inB t13 s1.length (inB t13 s2.length (cond (!((s1.getD t13.toNat []) == (s2.getD t13.toNat []))) (some false) (back s1 s2 t12 (W (t13+1)))))) k0)
def aH_.loop6 (n:Nat) (k0:Option Bool) (N:Nat):aH_.T6:=cl_ (fun _ _ _ _=>none) (aH_.step6 n k0) N
def aH_:Nat→(List Bs)→(List Bs)→Option Bool
 |0,_,_=>none
 |n+1,s1,s2=>
  (cond ((s1.length:Int) != (s2.length:Int)) (some false) (aH_.loop6 n (some true) n s1 s2 (s1.length:Int) 0))
abbrev ai_.T6:Type:=(List aa_)→(List aa_)→Int→Int→Option Bool
def ai_.step6 (n:Nat) (impl_alike_:aa_→aa_→Option Bool) (k0:Option Bool) (back:ai_.T6):ai_.T6:=fun s2 t15 t16 t17=>
 (cond (decide (t17<t16)) (inB t17 t15.length (inB t17 s2.length ((impl_alike_ (aa_.re (t15.getD t17.toNat aa_.dflt)) (aa_.re (s2.getD t17.toNat aa_.dflt))).bind fun xr1=>(cond (!xr1) (some false) (back s2 t15 t16 (W (t17+1))))))) k0)
def ai_.loop6 (n:Nat) (impl_alike_:aa_→aa_→Option Bool) (k0:Option Bool) (N:Nat):ai_.T6:=cl_ (fun _ _ _ _=>none) (ai_.step6 n impl_alike_ k0) N
mutual
def dy_:Nat→aa_→aa_→Option Bool
 |0,_,_=>none
 |n+1,a,b=>
  (cond (a.kind == b.kind) (cond (a.n_ == b.n_) (cond (a.s == b.s) ((aH_ n a.names b.names).bind fun xr1=>(cond xr1 ((ai_ n a.list b.list).bind fun xr2=>(some xr2)) (some false))) (some false)) (some false)) (some false))
def ai_:Nat→(List aa_)→(List aa_)→Option Bool
 |0,_,_=>none
 |n+1,s1,s2=>
  (cond ((s1.length:Int) != (s2.length:Int)) (some false) (ai_.loop6 n (dy_ n) (some true) n s2 s1 (s1.length:Int) 0))
end
def eA_:Nat→aa_→TOp→Option (aa_ × Bool)
 |0,_,_=>none
 |n+1,j,o=>
  (cond (o.kind == 1) (cond (o.kind == 1) ((aA_ n (aa_.re o.value)).bind fun xr1=>(some ((aa_.re xr1),true))) (cond (o.kind == 4) ((dy_ n (aa_.re j) (aa_.re o.value)).bind fun xr2=>(some ((aa_.re j),xr2))) (some ((aa_.mk 0 0 [] ([]:List aa_) ([]:List Bs)),false)))) (cond (o.kind == 3) ((aA_ n (aa_.re o.value)).bind fun xr3=>(some ((aa_.re xr3),true))) (cond (o.kind == 4) ((dy_ n (aa_.re j) (aa_.re o.value)).bind fun xr4=>(some ((aa_.re j),xr4))) (some ((aa_.mk 0 0 [] ([]:List aa_) ([]:List Bs)),false)))))
def ct_:Nat→Bs→Option Bool
 |0,_=>none
 |n+1,x=>
  (some (!(x == x)))
def cK_:Nat→Bs→Bs→Option Bool
 |0,_,_=>none
 |n+1,x,y=>
  ((ct_ n x).bind fun xr1=>(cond xr1 ((ct_ n y).bind fun xr2=>(cond (!xr2) (some true) (some (Op.bytesLess x y)))) (some (Op.bytesLess x y))))
def b2_:Nat→Bs→Option Bool
 |0,_=>none
 |n+1,x=>
  (some (!(x == x)))
abbrev al_.K4:Type:=(List Bs)→Bs→Int→Int→Option (Int × Bool)
abbrev al_.T4:Type:=(List Bs)→Bs→Int→Int→Int→Option (Int × Bool)
def al_.step4 (n:Nat) (k0:al_.K4) (back:al_.T4):al_.T4:=fun x target n_1 i j=>
 (cond (decide (i<j)) (let xv1:Int:=(Int.fdiv (IntKind.u64.wrap ((W (i+j)))) (2 ^ min (1:Int).toNat (IntKind.bits .u64)));(inB (W (xv1)) x.length ((cK_ n (x.getD (W (xv1)).toNat []) target).bind fun xr2=>(cond xr2 (back x target n_1 (W ((W (xv1))+1)) j) (back x target n_1 i (W (xv1))))))) (k0 x target n_1 i))
def al_.loop4 (n:Nat) (k0:al_.K4) (N:Nat):al_.T4:=cl_ (fun _ _ _ _ _=>none) (al_.step4 n k0) N
def al_:Nat→(List Bs)→Bs→Option (Int × Bool)
 |0,_,_=>none
 |n+1,x,target=>
  (al_.loop4 n (fun xy3 xy4 xy5 xy6=>(cond (decide (xy6<xy5)) (inB xy6 xy3.length (cond ((xy3.getD xy6.toNat []) == xy4) (some (xy6,true)) (inB xy6 xy3.length ((b2_ n (xy3.getD xy6.toNat [])).bind fun xr7=>(cond xr7 ((b2_ n xy4).bind fun xr8=>(some (xy6,xr8))) (some (xy6,false))))))) (some (xy6,false)))) n x target (x.length:Int) 0 (x.length:Int))
def cn_:Nat→List Bs→Int→List Bs→Option (List Bs)
 |0,_,_,_=>none
 |_+1,s,i,v=>jh_ 16 s i v
def cd_:Nat→List aa_→Int→List aa_→Option (List aa_)
 |0,_,_,_=>none
 |_+1,s,i,v=>jh_ 80 s i v
def dG_:Nat→Bs→Option (Int × Bool)
 |0,_=>none
 |_+1,s=>nAtoi s
def dw_:Nat→Bs→Option Int
 |0,_=>none
 |n+1,s=>
  ((dG_ n s).bind fun xr1=>(cond (!xr1.2) (some (-1)) ((aJ_ n xr1.1 0 999).bind fun xr2=>(cond (!xr2) (some (-1)) ((strconv_Itoa n xr1.1).bind fun xr3=>(cond (!(xr3 == s)) (some (-1)) (some xr1.1)))))))
def dQ_:Nat→aa_→Bs→aa_→Option (aa_ × Bool)
 |0,_,_,_=>none
 |n+1,o,append,a2=>
  (cond (o.kind == 5) ((al_ n o.names append).bind fun xr1=>(cond xr1.2 (inB xr1.1 o.list.length (let xa2:List aa_:=o.list.set xr1.1.toNat (aa_.re a2);(some ((aa_.mk o.kind o.n_ o.s xa2 o.names),true)))) ((cn_ n o.names xr1.1 ([append]:List Bs)).bind fun xr3=>((cd_ n o.list xr1.1 ([(aa_.re a2)]:List aa_)).bind fun xr4=>(some ((aa_.mk o.kind o.n_ o.s xr4 xr3),true)))))) (cond (o.kind == 4) ((dw_ n append).bind fun xr5=>(cond (append == [45]) ((aJ_ n (o.list.length:Int) 0 (o.list.length:Int)).bind fun xr6=>(cond (!xr6) (some ((aa_.mk 0 0 [] ([]:List aa_) ([]:List Bs)),false)) ((cd_ n o.list (o.list.length:Int) ([(aa_.re a2)]:List aa_)).bind fun xr7=>(some ((aa_.mk o.kind o.n_ o.s xr7 o.names),true))))) ((aJ_ n xr5 0 (o.list.length:Int)).bind fun xr8=>(cond (!xr8) (some ((aa_.mk 0 0 [] ([]:List aa_) ([]:List Bs)),false)) ((cd_ n o.list xr5 ([(aa_.re a2)]:List aa_)).bind fun xr9=>(some ((aa_.mk o.kind o.n_ o.s xr9 o.names),true))))))) (some ((aa_.mk 0 0 [] ([]:List aa_) ([]:List Bs)),false))))
abbrev aG_.T3:Type:=(List Bs)→Bs→Int→Int→Option Int
def aG_.step3 (n:Nat) (k0:Option Int) (back:aG_.T3):aG_.T3:=fun s v t7 t8=>
 (cond (decide (t8<t7)) (inB t8 s.length (cond (v == (s.getD t8.toNat [])) (some t8) (back s v t7 (W (t8+1))))) k0)
def aG_.loop3 (n:Nat) (k0:Option Int) (N:Nat):aG_.T3:=cl_ (fun _ _ _ _=>none) (aG_.step3 n k0) N
def aG_:Nat→(List Bs)→Bs→Option Int
 |0,_,_=>none
 |n+1,s,v=>
  (aG_.loop3 n (some (-1)) n s v (s.length:Int) 0)
def dv_:Nat→aa_→Bs→Option Int
 |0,_,_=>none
 |n+1,j,text=>
  (cond (j.kind == 5) ((aG_ n j.names text).bind fun xr1=>(cond (decide (xr1≥(j.list.length:Int))) (some (-1)) (some xr1))) (cond (j.kind == 4) ((dw_ n text).bind fun xr2=>(cond (decide (xr2≥(j.list.length:Int))) (some (-1)) (some xr2))) (cond (decide ((-1:Int)≥(j.list.length:Int))) (some (-1)) (some (-1)))))
def cx_:Nat→List aa_→Int→Int→Option (List aa_)
 |0,_,_,_=>none
 |_+1,s,i,j=>ji_ s i j
def co_:Nat→List Bs→Int→Int→Option (List Bs)
 |0,_,_,_=>none
 |_+1,s,i,j=>ji_ s i j
def db_:Nat→aa_→Int→Option aa_
 |0,_,_=>none
 |n+1,j,at1=>
  ((cx_ n j.list at1 (W (at1+1))).bind fun xr1=>(cond (j.kind == 5) ((co_ n j.names at1 (W (at1+1))).bind fun xr2=>(some (aa_.mk j.kind j.n_ j.s xr1 xr2))) (some (aa_.mk j.kind j.n_ j.s xr1 j.names))))
def cC_:Nat→aa_→(List Bs)→TOp→Option (aa_ × Bool)
 |0,_,_,_=>none
 |n+1,o,append,a2=>
  (cond ((append.length:Int) == 0) ((eA_ n (aa_.re o) (TOp.mk a2.kind a2.way (aa_.re a2.value))).bind fun xr1=>(some ((aa_.re xr1.1),xr1.2))) (cond ((append.length:Int) == 1) (cond (a2.kind == 1) (inB 0 append.length ((aA_ n (aa_.re a2.value)).bind fun xr2=>((dQ_ n (aa_.re o) (append.getD 0 []) (aa_.re xr2)).bind fun xr3=>(some ((aa_.re xr3.1),xr3.2))))) (inB 0 append.length ((dv_ n (aa_.re o) (append.getD 0 [])).bind fun xr4=>(cond (decide (xr4<0)) (some ((aa_.mk 0 0 [] ([]:List aa_) ([]:List Bs)),false)) (cond ((append.length:Int) == 1) (cond (a2.kind == 2) ((db_ n (aa_.re o) xr4).bind fun xr5=>(some ((aa_.re xr5),true))) (inB xr4 o.list.length (gI_ 1 (append.length:Int) append.length (cond (Nat.beq xr4.toNat xr4.toNat) (cond (Nat.beq xr4.toNat xr4.toNat) ((cC_ n (aa_.re (o.list.getD xr4.toNat aa_.dflt)) ((append.take (append.length:Int).toNat).drop 1) (TOp.mk a2.kind a2.way (aa_.re a2.value))).bind fun xr6=>(cond (!xr6.2) (some ((aa_.mk 0 0 [] ([]:List aa_) ([]:List Bs)),false)) (inB xr4 o.list.length (cond (Nat.beq xr4.toNat xr4.toNat) (let xa7:List aa_:=o.list.set xr4.toNat (aa_.re xr6.1);(some ((aa_.mk o.kind o.n_ o.s xa7 o.names),true))) none)))) none) none)))) (inB xr4 o.list.length (gI_ 1 (append.length:Int) append.length (cond (Nat.beq xr4.toNat xr4.toNat) (cond (Nat.beq xr4.toNat xr4.toNat) ((cC_ n (aa_.re (o.list.getD xr4.toNat aa_.dflt)) ((append.take (append.length:Int).toNat).drop 1) (TOp.mk a2.kind a2.way (aa_.re a2.value))).bind fun xr8=>(cond (!xr8.2) (some ((aa_.mk 0 0 [] ([]:List aa_) ([]:List Bs)),false)) (inB xr4 o.list.length (cond (Nat.beq xr4.toNat xr4.toNat) (let xa9:List aa_:=o.list.set xr4.toNat (aa_.re xr8.1);(some ((aa_.mk o.kind o.n_ o.s xa9 o.names),true))) none)))) none) none)))))))) (inB 0 append.length ((dv_ n (aa_.re o) (append.getD 0 [])).bind fun xr10=>(cond (decide (xr10<0)) (some ((aa_.mk 0 0 [] ([]:List aa_) ([]:List Bs)),false)) (cond ((append.length:Int) == 1) (cond (a2.kind == 2) ((db_ n (aa_.re o) xr10).bind fun xr11=>(some ((aa_.re xr11),true))) (inB xr10 o.list.length (gI_ 1 (append.length:Int) append.length (cond (Nat.beq xr10.toNat xr10.toNat) (cond (Nat.beq xr10.toNat xr10.toNat) ((cC_ n (aa_.re (o.list.getD xr10.toNat aa_.dflt)) ((append.take (append.length:Int).toNat).drop 1) (TOp.mk a2.kind a2.way (aa_.re a2.value))).bind fun xr12=>(cond (!xr12.2) (some ((aa_.mk 0 0 [] ([]:List aa_) ([]:List Bs)),false)) (inB xr10 o.list.length (cond (Nat.beq xr10.toNat xr10.toNat) (let xa13:List aa_:=o.list.set xr10.toNat (aa_.re xr12.1);(some ((aa_.mk o.kind o.n_ o.s xa13 o.names),true))) none)))) none) none)))) (inB xr10 o.list.length (gI_ 1 (append.length:Int) append.length (cond (Nat.beq xr10.toNat xr10.toNat) (cond (Nat.beq xr10.toNat xr10.toNat) ((cC_ n (aa_.re (o.list.getD xr10.toNat aa_.dflt)) ((append.take (append.length:Int).toNat).drop 1) (TOp.mk a2.kind a2.way (aa_.re a2.value))).bind fun xr14=>(cond (!xr14.2) (some ((aa_.mk 0 0 [] ([]:List aa_) ([]:List Bs)),false)) (inB xr10 o.list.length (cond (Nat.beq xr10.toNat xr10.toNat) (let xa15:List aa_:=o.list.set xr10.toNat (aa_.re xr14.1);(some ((aa_.mk o.kind o.n_ o.s xa15 o.names),true))) none)))) none) none)))))))))
def eC_:Nat→aa_→TOp→Option (aa_ × Bool)
 |0,_,_=>none
 |n+1,j,o=>
  ((cN_ n (aa_.re j)).bind fun xr1=>(cond (!xr1) (some ((aa_.mk 0 0 [] ([]:List aa_) ([]:List Bs)),false)) ((b9_ n (TOp.mk o.kind o.way (aa_.re o.value))).bind fun xr2=>(cond (!xr2) (some ((aa_.mk 0 0 [] ([]:List aa_) ([]:List Bs)),false)) ((aA_ n (aa_.re j)).bind fun xr3=>((cC_ n (aa_.re xr3) o.way (TOp.mk o.kind o.way (aa_.re o.value))).bind fun xr4=>(cond (!xr4.2) (some ((aa_.mk 0 0 [] ([]:List aa_) ([]:List Bs)),false)) ((cN_ n (aa_.re xr4.1)).bind fun xr5=>(cond (!xr5) (some ((aa_.mk 0 0 [] ([]:List aa_) ([]:List Bs)),false)) (some ((aa_.re xr4.1),true)))))))))))
abbrev a9_.K7:Type:=Int→Int→Bs→Int→Int→Bs→(List aa_)→(List Bs)→Option (aa_ × Bool)
abbrev a9_.T7:Type:=(List TOp)→Int→Int→Int→Int→Bs→Int→Int→Bs→(List aa_)→(List Bs)→Option (aa_ × Bool)
def a9_.step7 (n:Nat) (k0:a9_.K7) (back:a9_.T7):a9_.T7:=fun t22 t23 t24 t40 t41 t42 out0 out1 out2 out3 out4=>
 (cond (decide (t24<t23)) (inB t24 t22.length ((eC_ n (aa_.mk out0 out1 out2 out3 out4) { (t22.getD t24.toNat TOp.dflt) with value:=(aa_.re ((t22.getD t24.toNat TOp.dflt).value)) }).bind fun xr3=>(cond (!xr3.2) (some ((aa_.mk 0 0 [] ([]:List aa_) ([]:List Bs)),false)) (back t22 t23 (W (t24+1)) t40 t41 t42 xr3.1.kind xr3.1.n_ xr3.1.s xr3.1.list xr3.1.names)))) (k0 t40 t41 t42 out0 out1 out2 out3 out4))
def a9_.loop7 (n:Nat) (k0:a9_.K7) (N:Nat):a9_.T7:=cl_ (fun _ _ _ _ _ _ _ _ _ _ _=>none) (a9_.step7 n k0) N
def a9_:Nat→aa_→(List TOp)→Option (aa_ × Bool)
 |0,_,_=>none
 |n+1,j,list=>
  ((cN_ n (aa_.re j)).bind fun xr1=>(cond (!xr1) (some ((aa_.mk 0 0 [] ([]:List aa_) ([]:List Bs)),false)) (cond (decide ((list.length:Int) > 40)) (some ((aa_.mk 0 0 [] ([]:List aa_) ([]:List Bs)),false)) ((aA_ n (aa_.re j)).bind fun xr2=>(a9_.loop7 n (fun xy4 xy5 xy6 xy7 xy8 xy9 xy10 xy11=>(some ((aa_.mk xy7 xy8 xy9 xy10 xy11),true))) n list (list.length:Int) 0 0 0 [] xr2.kind xr2.n_ xr2.s xr2.list xr2.names)))))
def cI_:Nat→aX_→aE_→Option aX_
 |0,_,_=>none
 |n+1,o,append=>
  ((cZ_ n { o with doc:=(aa_.re o.doc) }).bind fun xr1=>(cond o.bad (some { xr1 with doc:=(aa_.re xr1.doc) }) ((dR_ n { append with doc:=(aa_.re append.doc) }).bind fun xr2=>(cond (!xr2) (some { xr1 with doc:=(aa_.re xr1.doc),bad:=true }) (cond (append.kind == 1) (cond (!o.began) ((aA_ n (aa_.re append.doc)).bind fun xr3=>(some (aX_.mk (aa_.re xr3) append.version true xr1.bad))) (cond (decide (append.version > o.version)) ((aA_ n (aa_.re append.doc)).bind fun xr4=>(some (aX_.mk (aa_.re xr4) append.version true xr1.bad))) (cond (append.kind == 2) (cond o.began (cond (append.base == o.version) ((a9_ n (aa_.re o.doc) append.ops).bind fun xr5=>(cond xr5.2 (some { xr1 with doc:=(aa_.re xr5.1),version:=append.version }) (some { xr1 with doc:=(aa_.re xr1.doc),bad:=true }))) (some { xr1 with doc:=(aa_.re xr1.doc),bad:=true })) (some { xr1 with doc:=(aa_.re xr1.doc),bad:=true })) (some { xr1 with doc:=(aa_.re xr1.doc),bad:=true })))) (cond (append.kind == 2) (cond o.began (cond (append.base == o.version) ((a9_ n (aa_.re o.doc) append.ops).bind fun xr6=>(cond xr6.2 (some { xr1 with doc:=(aa_.re xr6.1),version:=append.version }) (some { xr1 with doc:=(aa_.re xr1.doc),bad:=true }))) (some { xr1 with doc:=(aa_.re xr1.doc),bad:=true })) (some { xr1 with doc:=(aa_.re xr1.doc),bad:=true })) (some { xr1 with doc:=(aa_.re xr1.doc),bad:=true })))))))
abbrev a3_.K4:Type:=Int→Int→Bs→Int→Bool→Bool→Int→Int→Bs→Int→Bool→Bool→(List aa_)→(List Bs)→Option aX_
abbrev a3_.T4:Type:=(List aE_)→Int→Int→Int→Int→Bs→Int→Bool→Bool→Int→Int→Bs→Int→Bool→Bool→(List aa_)→(List Bs)→Option aX_
def a3_.step4 (n:Nat) (k0:a3_.K4) (back:a3_.T4):a3_.T4:=fun t7 t8 t9 t20 t21 t22 t25 t26 t27 c0 c1 c2 c5 c6 c7 c3 c4=>
 (cond (decide (t9<t8)) (inB t9 t7.length ((cI_ n (aX_.mk (aa_.mk c0 c1 c2 c3 c4) c5 c6 c7) { (t7.getD t9.toNat aE_.dflt) with doc:=(aa_.re ((t7.getD t9.toNat aE_.dflt).doc)) }).bind fun xr1=>(back t7 t8 (W (t9+1)) t20 t21 t22 t25 t26 t27 xr1.doc.kind xr1.doc.n_ xr1.doc.s xr1.version xr1.began xr1.bad xr1.doc.list xr1.doc.names))) (k0 t20 t21 t22 t25 t26 t27 c0 c1 c2 c5 c6 c7 c3 c4))
def a3_.loop4 (n:Nat) (k0:a3_.K4) (N:Nat):a3_.T4:=cl_ (fun _ _ _ _ _ _ _ _ _ _ _ _ _ _ _ _ _=>none) (a3_.step4 n k0) N
def a3_:Nat→(List aE_)→Option aX_
 |0,_=>none
 |n+1,list=>
  (a3_.loop4 n (fun xy2 xy3 xy4 xy5 xy6 xy7 xy8 xy9 xy10 xy11 xy12 xy13 xy14 xy15=>(some (aX_.mk (aa_.mk xy8 xy9 xy10 xy14 xy15) xy11 xy12 xy13))) n list (list.length:Int) 0 0 0 [] 0 false false 0 0 [] 0 false false ([]:List aa_) ([]:List Bs))
def dJ_:Nat→aX_→Option aX_
 |0,_=>none
 |n+1,c=>
  ((aB_ n (aa_.re c.doc)).bind fun xr1=>(some { c with doc:=(aa_.re xr1) }))
abbrev bD_.K4:Type:=(List TOp)→Int→Int→Bs→Int→Int→Bs→(List aa_)→Option (aa_ × Bool)
abbrev bD_.T4:Type:=(List TOp)→Int→Int→Int→Bs→Int→Int→Bs→(List aa_)→Option (aa_ × Bool)
def bD_.step4 (n:Nat) (k0:bD_.K4) (back:bD_.T4):bD_.T4:=fun list i t20 t21 t22 j0 j1 j2 j3=>
 (cond (decide (i<(list.length:Int))) (inB i list.length ((dU_ n { (list.getD i.toNat TOp.dflt) with value:=(aa_.re ((list.getD i.toNat TOp.dflt).value)) }).bind fun xr1=>(cond (xr1.kind == 0) (some ((aa_.mk j0 j1 j2 j3 ([]:List Bs)),false)) (bq_ (j3.length+([(aa_.re xr1)]:List aa_).length) 80 (back list (W (i+1)) t20 t21 t22 j0 j1 j2 (j3++([(aa_.re xr1)]:List aa_))))))) (k0 list t20 t21 t22 j0 j1 j2 j3))
def bD_.loop4 (n:Nat) (k0:bD_.K4) (N:Nat):bD_.T4:=cl_ (fun _ _ _ _ _ _ _ _ _=>none) (bD_.step4 n k0) N
def bD_:Nat→(List TOp)→Option (aa_ × Bool)
 |0,_=>none
 |n+1,list=>
  (bD_.loop4 n (fun xy2 xy3 xy4 xy5 xy6 xy7 xy8 xy9=>(cond (decide ((xy2.length:Int)≤40)) ((cY_ n (aa_.mk xy6 xy7 xy8 xy9 [])).bind fun xr10=>(some ((aa_.mk xy6 xy7 xy8 xy9 ([]:List Bs)),(!(xr10 == []))))) (some ((aa_.mk xy6 xy7 xy8 xy9 ([]:List Bs)),false)))) n list 0 0 0 [] 4 0 [] ([]:List aa_))
def dM_:Nat→aE_→Option Bool
 |0,_=>none
 |n+1,e=>
  ((bN_ n e.version 0 100000).bind fun xr1=>(cond (!xr1) (some false) (cond (e.kind == 1) (cond (e.base == 0) (cond ((e.ops.length:Int) == 0) ((cY_ n (aa_.re e.doc)).bind fun xr2=>(some (!(xr2 == [])))) (some false)) (some false)) (cond (e.kind == 2) ((bD_ n e.ops).bind fun xr3=>(cond xr3.2 ((bN_ n e.base 0 (W (e.version - 1))).bind fun xr4=>(cond xr4 ((an_ n (aa_.re e.doc) (aa_.mk 0 0 [] [] [])).bind fun xr5=>(some xr5)) (some false))) (some false))) (some false)))))
def dH_:Nat→aa_→TOp→Option (aa_ × Bool)
 |0,_,_=>none
 |n+1,j,o=>
  (cond (o.kind == 2) (some ((aa_.re j),false)) (cond (o.kind == 4) ((an_ n (aa_.re j) (aa_.re o.value)).bind fun xr1=>(some ((aa_.re j),xr1))) ((aB_ n (aa_.re o.value)).bind fun xr2=>(some ((aa_.re xr2),true)))))
abbrev ck_.T3:Type:=Bs→Int→Int→Int→Bs→(List aa_)→(List Bs)→Option Int
def ck_.step3 (n:Nat) (k0:Option Int) (back:ck_.T3):ck_.T3:=fun name i j0 j1 j2 j3 j4=>
 (cond (decide (i<(j4.length:Int))) (inB i j4.length (cond ((j4.getD i.toNat []) == name) (some i) (back name (W (i+1)) j0 j1 j2 j3 j4))) k0)
def ck_.loop3 (n:Nat) (k0:Option Int) (N:Nat):ck_.T3:=cl_ (fun _ _ _ _ _ _ _=>none) (ck_.step3 n k0) N
def ck_:Nat→aa_→Bs→Option Int
 |0,_,_=>none
 |n+1,j,name=>
  (ck_.loop3 n (some (-1)) n name 0 j.kind j.n_ j.s j.list j.names)
abbrev bk_.K7:Type:=Bs→Int→Option Int
abbrev bk_.T7:Type:=Bs→Int→Int→Option Int
def bk_.step7 (n:Nat) (k0:bk_.K7) (back:bk_.T7):bk_.T7:=fun s x i=>
 (cond (decide (i<(s.length:Int))) (inB i s.length (cond (decide (((s.getD i.toNat 0).toNat:Int)<48)) (some (-1)) (inB i s.length (cond (decide (((s.getD i.toNat 0).toNat:Int) > 57)) (some (-1)) (inB i s.length (back s (W ((W ((W (10*x))+(W (((s.getD i.toNat 0).toNat:Int))))) - 48)) (W (i+1)))))))) (k0 s x))
def bk_.loop7 (n:Nat) (k0:bk_.K7) (N:Nat):bk_.T7:=cl_ (fun _ _ _=>none) (bk_.step7 n k0) N
def bk_:Nat→Bs→Option Int
 |0,_=>none
 |n+1,s=>
  (cond (s == []) (some (-1)) (cond (decide ((s.length:Int) > 3)) (some (-1)) (bk_.loop7 n (fun xy1 xy2=>((aQ_ n xy2).bind fun xr3=>(cond (!(xr3 == xy1)) (some (-1)) (some xy2)))) n s 0 0)))
def ek_:Nat→aa_→Bs→Option Int
 |0,_,_=>none
 |n+1,j,s=>
  (cond (j.kind == 5) ((ck_ n (aa_.re j) s).bind fun xr1=>(some xr1)) (cond (j.kind == 4) ((bk_ n s).bind fun xr2=>(cond (decide (xr2<(j.list.length:Int))) (some xr2) (some (-1)))) (some (-1))))
def et_:Nat→aa_→Bs→TOp→Option (aa_ × Bool)
 |0,_,_,_=>none
 |n+1,j,name,o=>
  (cond (j.kind == 5) ((aB_ n (aa_.re o.value)).bind fun xr1=>((br_ n (aa_.re j) name (aa_.re xr1)).bind fun xr2=>(some ((aa_.re xr2),true)))) ((bk_ n name).bind fun xr3=>(cond (name == [45]) (cond (j.kind != 4) (some ((aa_.re j),false)) ((bN_ n (j.list.length:Int) 0 (j.list.length:Int)).bind fun xr4=>(cond (!xr4) (some ((aa_.re j),false)) (gI_ 0 (j.list.length:Int) j.list.length (bq_ (([]:List aa_).length+((j.list.take ((j.list.length:Int).toNat)).drop 0).length) 80 ((aB_ n (aa_.re o.value)).bind fun xr5=>(bq_ ((([]:List aa_)++((j.list.take ((j.list.length:Int).toNat)).drop 0)).length+([(aa_.re xr5)]:List aa_).length) 80 (gI_ (j.list.length:Int) (j.list.length:Int) j.list.length (bq_ (((([]:List aa_)++((j.list.take ((j.list.length:Int).toNat)).drop 0))++([(aa_.re xr5)]:List aa_)).length+((j.list.take ((j.list.length:Int).toNat)).drop ((j.list.length:Int).toNat)).length) 80 (let xa6:List aa_:=(((([]:List aa_)++((j.list.take ((j.list.length:Int).toNat)).drop 0))++([(aa_.re xr5)]:List aa_))++((j.list.take ((j.list.length:Int).toNat)).drop ((j.list.length:Int).toNat)));(some ((aa_.mk j.kind j.n_ j.s xa6 j.names),true)))))))))))) (cond (j.kind != 4) (some ((aa_.re j),false)) ((bN_ n xr3 0 (j.list.length:Int)).bind fun xr7=>(cond (!xr7) (some ((aa_.re j),false)) (gI_ 0 xr3 j.list.length (bq_ (([]:List aa_).length+((j.list.take xr3.toNat).drop 0).length) 80 ((aB_ n (aa_.re o.value)).bind fun xr8=>(bq_ ((([]:List aa_)++((j.list.take xr3.toNat).drop 0)).length+([(aa_.re xr8)]:List aa_).length) 80 (gI_ xr3 (j.list.length:Int) j.list.length (bq_ (((([]:List aa_)++((j.list.take xr3.toNat).drop 0))++([(aa_.re xr8)]:List aa_)).length+((j.list.take ((j.list.length:Int).toNat)).drop xr3.toNat).length) 80 (let xa9:List aa_:=(((([]:List aa_)++((j.list.take xr3.toNat).drop 0))++([(aa_.re xr8)]:List aa_))++((j.list.take ((j.list.length:Int).toNat)).drop xr3.toNat));(some ((aa_.mk j.kind j.n_ j.s xa9 j.names),true)))))))))))))))
def c3_.tail17 (n:Nat) (kn:Int→Int→Bs→(List Bs)→Int→Int→Bs→(List aa_)→Option (aa_ × Bool)) (t8:Int) (t62:Bool) (t30:Int) (t31:Int) (t32:Bs) (t34:List Bs) (t60:Int) (t61:Int) (t62_1:Bs) (t33:List aa_):Option (aa_ × Bool) :=
 (cond t62 (gI_ 0 t8 t34.length (bq_ (([]:List Bs).length+((t34.take t8.toNat).drop 0).length) 16 (gI_ (W (t8+1)) (t34.length:Int) t34.length (bq_ ((([]:List Bs)++((t34.take t8.toNat).drop 0)).length+((t34.take (t34.length:Int).toNat).drop (W (t8+1)).toNat).length) 16 (kn t30 t31 t32 ((([]:List Bs)++((t34.take t8.toNat).drop 0))++((t34.take (t34.length:Int).toNat).drop (W (t8+1)).toNat)) t60 t61 t62_1 t33))))) (kn t30 t31 t32 t34 t60 t61 t62_1 t33))
def c3_.tail8 (n:Nat) (t8:Int) (a2:List Bs) (t30:Int) (t31:Int) (t32:Bs) (t33:List aa_) (t60:Int) (t61:Int) (t62:Bs):Option (aa_ × Bool) :=
 (gI_ 0 t8 t33.length (bq_ (([]:List aa_).length+((t33.take t8.toNat).drop 0).length) 80 (gI_ (W (t8+1)) (t33.length:Int) t33.length (bq_ ((([]:List aa_)++((t33.take t8.toNat).drop 0)).length+((t33.take (t33.length:Int).toNat).drop (W (t8+1)).toNat).length) 80 (c3_.tail17 n (fun xy6 xy7 xy8 xy9 xy10 xy11 xy12 xy13=>(some ((aa_.mk xy6 xy7 xy8 xy13 xy9),true))) t8 (t30 == 5) t30 t31 t32 a2 t60 t61 t62 ((([]:List aa_)++((t33.take t8.toNat).drop 0))++((t33.take (t33.length:Int).toNat).drop (W (t8+1)).toNat)))))))
def c3_:Nat→aa_→Bs→TOp→Option (aa_ × Bool)
 |0,_,_,_=>none
 |n+1,o,append,a2=>
  ((ek_ n (aa_.re o) append).bind fun xr1=>(cond (a2.kind == 1) ((et_ n (aa_.re o) append (TOp.mk a2.kind a2.way (aa_.re a2.value))).bind fun xr2=>(some ((aa_.re xr2.1),xr2.2))) (cond (decide (xr1<0)) (some ((aa_.re o),false)) (cond (a2.kind == 4) (inB xr1 o.list.length ((an_ n (aa_.re (o.list.getD xr1.toNat aa_.dflt)) (aa_.re a2.value)).bind fun xr3=>(some ((aa_.re o),xr3)))) (cond (a2.kind == 3) ((aB_ n (aa_.re a2.value)).bind fun xr4=>(inB xr1 o.list.length (let xa5:List aa_:=o.list.set xr1.toNat (aa_.re xr4);(some ((aa_.mk o.kind o.n_ o.s xa5 o.names),true))))) (c3_.tail8 n xr1 o.names o.kind o.n_ o.s o.list 0 0 []))))))
def c1_:Nat→aa_→(List Bs)→TOp→Option (aa_ × Bool)
 |0,_,_,_=>none
 |n+1,j,way,o=>
  (cond ((way.length:Int) == 0) ((dH_ n (aa_.re j) (TOp.mk o.kind o.way (aa_.re o.value))).bind fun xr1=>(some ((aa_.re xr1.1),xr1.2))) (cond ((way.length:Int) == 1) (inB 0 way.length ((c3_ n (aa_.re j) (way.getD 0 []) (TOp.mk o.kind o.way (aa_.re o.value))).bind fun xr2=>(some ((aa_.re xr2.1),xr2.2)))) (inB 0 way.length ((ek_ n (aa_.re j) (way.getD 0 [])).bind fun xr3=>(cond (decide (xr3<0)) (some ((aa_.re j),false)) (inB xr3 j.list.length (gI_ 1 (way.length:Int) way.length (cond (Nat.beq xr3.toNat xr3.toNat) (cond (Nat.beq xr3.toNat xr3.toNat) ((c1_ n (aa_.re (j.list.getD xr3.toNat aa_.dflt)) ((way.take (way.length:Int).toNat).drop 1) (TOp.mk o.kind o.way (aa_.re o.value))).bind fun xr4=>(inB xr3 j.list.length (cond (Nat.beq xr3.toNat xr3.toNat) (let xa5:List aa_:=j.list.set xr3.toNat (aa_.re xr4.1);(some ((aa_.mk j.kind j.n_ j.s xa5 j.names),xr4.2))) none))) none) none))))))))
def ev_:Nat→aa_→TOp→Option (aa_ × Bool)
 |0,_,_=>none
 |n+1,j,o=>
  ((ch_ n (aa_.re j)).bind fun xr1=>(cond (!xr1) (some ((aa_.mk 0 0 [] ([]:List aa_) []),false)) ((b6_ n (TOp.mk o.kind o.way (aa_.re o.value))).bind fun xr2=>(cond (!xr2) (some ((aa_.mk 0 0 [] ([]:List aa_) []),false)) ((aB_ n (aa_.re j)).bind fun xr3=>((c1_ n (aa_.re xr3) o.way (TOp.mk o.kind o.way (aa_.re o.value))).bind fun xr4=>(cond (!xr4.2) (some ((aa_.mk 0 0 [] ([]:List aa_) []),false)) ((ch_ n (aa_.re xr4.1)).bind fun xr5=>(cond (!xr5) (some ((aa_.mk 0 0 [] ([]:List aa_) []),false)) (some ((aa_.re xr4.1),true)))))))))))
abbrev be_.K7:Type:=Int→Int→Bs→Int→Int→Bs→(List Bs)→(List aa_)→Option (aa_ × Bool)
abbrev be_.T7:Type:=(List TOp)→Int→Int→Int→Bs→Int→Int→Bs→(List Bs)→(List aa_)→Option (aa_ × Bool)
def be_.step7 (n:Nat) (k0:be_.K7) (back:be_.T7):be_.T7:=fun list i t40 t41 t42 out0 out1 out2 out4 out3=>
 (cond (decide (i<(list.length:Int))) (inB i list.length ((ev_ n (aa_.mk out0 out1 out2 out3 out4) { (list.getD i.toNat TOp.dflt) with value:=(aa_.re ((list.getD i.toNat TOp.dflt).value)) }).bind fun xr3=>(cond (!xr3.2) (some ((aa_.mk 0 0 [] ([]:List aa_) []),false)) (back list (W (i+1)) t40 t41 t42 xr3.1.kind xr3.1.n_ xr3.1.s xr3.1.names xr3.1.list)))) (k0 t40 t41 t42 out0 out1 out2 out4 out3))
def be_.loop7 (n:Nat) (k0:be_.K7) (N:Nat):be_.T7:=cl_ (fun _ _ _ _ _ _ _ _ _ _=>none) (be_.step7 n k0) N
def be_:Nat→aa_→(List TOp)→Option (aa_ × Bool)
 |0,_,_=>none
 |n+1,j,list=>
  ((ch_ n (aa_.re j)).bind fun xr1=>(cond (!xr1) (some ((aa_.mk 0 0 [] ([]:List aa_) []),false)) (cond (decide ((list.length:Int) > 40)) (some ((aa_.mk 0 0 [] ([]:List aa_) []),false)) ((aB_ n (aa_.re j)).bind fun xr2=>(be_.loop7 n (fun xy4 xy5 xy6 xy7 xy8 xy9 xy10 xy11=>(some ((aa_.mk xy7 xy8 xy9 xy11 xy10),true))) n list 0 0 0 [] xr2.kind xr2.n_ xr2.s xr2.names xr2.list)))))
def cG_:Nat→aX_→aE_→Option aX_
 |0,_,_=>none
 |n+1,c,e=>
  ((dJ_ n { c with doc:=(aa_.re c.doc) }).bind fun xr1=>(cond c.bad (some { xr1 with doc:=(aa_.re xr1.doc) }) ((dM_ n { e with doc:=(aa_.re e.doc) }).bind fun xr2=>(cond (!xr2) (some { xr1 with doc:=(aa_.re xr1.doc),bad:=true }) (cond (e.kind == 1) (cond c.began (cond (decide (e.version≤c.version)) (some { xr1 with doc:=(aa_.re xr1.doc),bad:=true }) ((aB_ n (aa_.re e.doc)).bind fun xr3=>(some (aX_.mk (aa_.re xr3) e.version true false)))) ((aB_ n (aa_.re e.doc)).bind fun xr4=>(some (aX_.mk (aa_.re xr4) e.version true false)))) ((be_ n (aa_.re c.doc) e.ops).bind fun xr5=>(cond (!c.began) (some { xr1 with doc:=(aa_.re xr1.doc),bad:=true }) (cond (e.base != c.version) (some { xr1 with doc:=(aa_.re xr1.doc),bad:=true }) (cond (!xr5.2) (some { xr1 with doc:=(aa_.re xr1.doc),bad:=true }) (some (aX_.mk (aa_.re xr5.1) e.version true false)))))))))))
abbrev a0_.K4:Type:=Int→Int→Bs→Int→Bool→Bool→Int→Int→Bs→(List Bs)→Int→Bool→Bool→(List aa_)→Option aX_
abbrev a0_.T4:Type:=(List aE_)→Int→Int→Int→Bs→Int→Bool→Bool→Int→Int→Bs→(List Bs)→Int→Bool→Bool→(List aa_)→Option aX_
def a0_.step4 (n:Nat) (k0:a0_.K4) (back:a0_.T4):a0_.T4:=fun list i t20 t21 t22 t25 t26 t27 c0 c1 c2 c4 c5 c6 c7 c3=>
 (cond (decide (i<(list.length:Int))) (inB i list.length ((cG_ n (aX_.mk (aa_.mk c0 c1 c2 c3 c4) c5 c6 c7) { (list.getD i.toNat aE_.dflt) with doc:=(aa_.re ((list.getD i.toNat aE_.dflt).doc)) }).bind fun xr1=>(back list (W (i+1)) t20 t21 t22 t25 t26 t27 xr1.doc.kind xr1.doc.n_ xr1.doc.s xr1.doc.names xr1.version xr1.began xr1.bad xr1.doc.list))) (k0 t20 t21 t22 t25 t26 t27 c0 c1 c2 c4 c5 c6 c7 c3))
def a0_.loop4 (n:Nat) (k0:a0_.K4) (N:Nat):a0_.T4:=cl_ (fun _ _ _ _ _ _ _ _ _ _ _ _ _ _ _ _=>none) (a0_.step4 n k0) N
def a0_:Nat→(List aE_)→Option aX_
 |0,_=>none
 |n+1,list=>
  (a0_.loop4 n (fun xy2 xy3 xy4 xy5 xy6 xy7 xy8 xy9 xy10 xy11 xy12 xy13 xy14 xy15=>(some (aX_.mk (aa_.mk xy8 xy9 xy10 xy15 xy11) xy12 xy13 xy14))) n list 0 0 0 [] 0 false false 0 0 [] [] 0 false false ([]:List aa_))
def cU_:Nat→ac_→(List Bs)→Option (Bs × ac_)
 |0,_,_=>none
 |n+1,c,list=>
  ((ag_ n c (list.length:Int)).bind fun xr1=>(inB xr1.1 list.length (some ((list.getD xr1.1.toNat []),xr1.2))))
def cV_:Nat→ac_→Option (Bs × ac_)
 |0,_=>none
 |n+1,c=>
  ((cU_ n c ([[97],[98],[99],[105,100],[110],[114,111,119,115],[],[97,47,98],[126]]:List Bs)).bind fun xr1=>(some (xr1.1,xr1.2)))
abbrev ab_.K20_1:Type:=(List Int)→Int→Int→Int→Int→Bs→Int→Int→Bs→(List aa_)→Option (aa_ × ac_)
abbrev ab_.T20:Type:=Int→Int→(List Int)→Int→Int→Int→Int→Bs→Int→Int→Bs→(List aa_)→Option (aa_ × ac_)
def ab_.step20 (n:Nat) (spec_l1DrawRight_:ac_→Int→Option (aa_ × ac_)) (k1:ab_.K20_1) (back:ab_.T20):ab_.T20:=fun append t7 o0 o1 o2 t40 t41 t42 t60 t61 t62 t63=>
 ((ag_ n (ac_.mk o0 o1 o2) 5).bind fun xr6=>(cond (decide (t7<xr6.1)) ((spec_l1DrawRight_ xr6.2 (W (append - 1))).bind fun xr7=>(bq_ (t63.length+([(aa_.re xr7.1)]:List aa_).length) 80 (back append (W (t7+1)) xr7.2.b xr7.2.i xr7.2.h t40 t41 t42 t60 t61 t62 (t63++([(aa_.re xr7.1)]:List aa_))))) (k1 xr6.2.b xr6.2.i xr6.2.h t40 t41 t42 t60 t61 t62 t63)))
def ab_.loop20 (n:Nat) (spec_l1DrawRight_:ac_→Int→Option (aa_ × ac_)) (k1:ab_.K20_1) (N:Nat):ab_.T20:=cl_ (fun _ _ _ _ _ _ _ _ _ _ _ _=>none) (ab_.step20 n spec_l1DrawRight_ k1) N
abbrev ab_.K28_1:Type:=(List Int)→Int→Int→Int→Int→Bs→Int→Int→Bs→(List aa_)→(List Bs)→Option (aa_ × ac_)
abbrev ab_.T28:Type:=Int→Int→(List Int)→Int→Int→Int→Int→Bs→Int→Int→Bs→(List aa_)→(List Bs)→Option (aa_ × ac_)
def ab_.step28 (n:Nat) (spec_l1DrawRight_:ac_→Int→Option (aa_ × ac_)) (k3:ab_.K28_1) (back:ab_.T28):ab_.T28:=fun append t9 o0 o1 o2 t40 t41 t42 t80 t81 t82 t83 t84=>
 ((ag_ n (ac_.mk o0 o1 o2) 5).bind fun xr18=>(cond (decide (t9<xr18.1)) ((cV_ n xr18.2).bind fun xr19=>((ck_ n (aa_.mk t80 t81 t82 t83 t84) xr19.1).bind fun xr20=>(cond (decide (xr20<0)) ((spec_l1DrawRight_ xr19.2 (W (append - 1))).bind fun xr21=>((br_ n (aa_.mk t80 t81 t82 t83 t84) xr19.1 (aa_.re xr21.1)).bind fun xr22=>(back append (W (t9+1)) xr21.2.b xr21.2.i xr21.2.h t40 t41 t42 xr22.kind xr22.n_ xr22.s xr22.list xr22.names))) (back append (W (t9+1)) xr19.2.b xr19.2.i xr19.2.h t40 t41 t42 t80 t81 t82 t83 t84)))) (k3 xr18.2.b xr18.2.i xr18.2.h t40 t41 t42 t80 t81 t82 t83 t84)))
def ab_.loop28 (n:Nat) (spec_l1DrawRight_:ac_→Int→Option (aa_ × ac_)) (k3:ab_.K28_1) (N:Nat):ab_.T28:=cl_ (fun _ _ _ _ _ _ _ _ _ _ _ _ _=>none) (ab_.step28 n spec_l1DrawRight_ k3) N
def ab_:Nat→ac_→Int→Option (aa_ × ac_)
 |0,_,_=>none
 |n+1,o,append=>
  ((ag_ n o 8).bind fun xr1=>(cond (decide (append≤1)) ((ag_ n xr1.2 5).bind fun xr2=>(cond (xr2.1 == 0) (some ((aa_.mk 0 0 [] ([]:List aa_) ([]:List Bs)),xr2.2)) (cond (xr2.1 == 1) ((ag_ n xr2.2 2).bind fun xr3=>(some ((aa_.mk 1 xr3.1 [] ([]:List aa_) ([]:List Bs)),xr3.2))) (cond (xr2.1 == 2) ((cU_ n xr2.2 ([[],[120],[97,34,98],[97,92,92,98],[104,101,108,108,111,32,116,104,101,114,101],[126,49]]:List Bs)).bind fun xr4=>(some ((aa_.mk 3 0 xr4.1 ([]:List aa_) ([]:List Bs)),xr4.2))) (cond (xr2.1 == 3) (cond (xr2.1 == 3) ((bj_ n xr2.2 ([0,1,(-5),77,1000000000,(-1000000000)]:List Int)).bind fun xr5=>(some ((aa_.mk 2 xr5.1 [] ([]:List aa_) ([]:List Bs)),xr5.2))) (cond (xr2.1 == 5) (cond (xr2.1 == 5) (ab_.loop20 n (ab_ n) (fun xy8 xy9 xy10 xy11 xy12 xy13 xy14 xy15 xy16 xy17=>(some ((aa_.mk xy14 xy15 xy16 xy17 ([]:List Bs)),(ac_.mk xy8 xy9 xy10)))) n append 0 xr2.2.b xr2.2.i xr2.2.h 0 0 [] 4 0 [] ([]:List aa_)) (ab_.loop28 n (ab_ n) (fun xy23 xy24 xy25 xy26 xy27 xy28 xy29 xy30 xy31 xy32 xy33=>(some ((aa_.mk xy29 xy30 xy31 xy32 xy33),(ac_.mk xy23 xy24 xy25)))) n append 0 xr2.2.b xr2.2.i xr2.2.h 0 0 [] 5 0 [] ([]:List aa_) ([]:List Bs))) (cond (xr2.1 == 6) (ab_.loop20 n (ab_ n) (fun xy34 xy35 xy36 xy37 xy38 xy39 xy40 xy41 xy42 xy43=>(some ((aa_.mk xy40 xy41 xy42 xy43 ([]:List Bs)),(ac_.mk xy34 xy35 xy36)))) n append 0 xr2.2.b xr2.2.i xr2.2.h 0 0 [] 4 0 [] ([]:List aa_)) (ab_.loop28 n (ab_ n) (fun xy44 xy45 xy46 xy47 xy48 xy49 xy50 xy51 xy52 xy53 xy54=>(some ((aa_.mk xy50 xy51 xy52 xy53 xy54),(ac_.mk xy44 xy45 xy46)))) n append 0 xr2.2.b xr2.2.i xr2.2.h 0 0 [] 5 0 [] ([]:List aa_) ([]:List Bs))))) (cond (xr2.1 == 4) ((bj_ n xr2.2 ([0,1,(-5),77,1000000000,(-1000000000)]:List Int)).bind fun xr55=>(some ((aa_.mk 2 xr55.1 [] ([]:List aa_) ([]:List Bs)),xr55.2))) (cond (xr2.1 == 5) (cond (xr2.1 == 5) (ab_.loop20 n (ab_ n) (fun xy56 xy57 xy58 xy59 xy60 xy61 xy62 xy63 xy64 xy65=>(some ((aa_.mk xy62 xy63 xy64 xy65 ([]:List Bs)),(ac_.mk xy56 xy57 xy58)))) n append 0 xr2.2.b xr2.2.i xr2.2.h 0 0 [] 4 0 [] ([]:List aa_)) (ab_.loop28 n (ab_ n) (fun xy66 xy67 xy68 xy69 xy70 xy71 xy72 xy73 xy74 xy75 xy76=>(some ((aa_.mk xy72 xy73 xy74 xy75 xy76),(ac_.mk xy66 xy67 xy68)))) n append 0 xr2.2.b xr2.2.i xr2.2.h 0 0 [] 5 0 [] ([]:List aa_) ([]:List Bs))) (cond (xr2.1 == 6) (ab_.loop20 n (ab_ n) (fun xy77 xy78 xy79 xy80 xy81 xy82 xy83 xy84 xy85 xy86=>(some ((aa_.mk xy83 xy84 xy85 xy86 ([]:List Bs)),(ac_.mk xy77 xy78 xy79)))) n append 0 xr2.2.b xr2.2.i xr2.2.h 0 0 [] 4 0 [] ([]:List aa_)) (ab_.loop28 n (ab_ n) (fun xy87 xy88 xy89 xy90 xy91 xy92 xy93 xy94 xy95 xy96 xy97=>(some ((aa_.mk xy93 xy94 xy95 xy96 xy97),(ac_.mk xy87 xy88 xy89)))) n append 0 xr2.2.b xr2.2.i xr2.2.h 0 0 [] 5 0 [] ([]:List aa_) ([]:List Bs)))))))))) (cond (xr1.1 == 0) (some ((aa_.mk 0 0 [] ([]:List aa_) ([]:List Bs)),xr1.2)) (cond (xr1.1 == 1) ((ag_ n xr1.2 2).bind fun xr98=>(some ((aa_.mk 1 xr98.1 [] ([]:List aa_) ([]:List Bs)),xr98.2))) (cond (xr1.1 == 2) ((cU_ n xr1.2 ([[],[120],[97,34,98],[97,92,92,98],[104,101,108,108,111,32,116,104,101,114,101],[126,49]]:List Bs)).bind fun xr99=>(some ((aa_.mk 3 0 xr99.1 ([]:List aa_) ([]:List Bs)),xr99.2))) (cond (xr1.1 == 3) (cond (xr1.1 == 3) ((bj_ n xr1.2 ([0,1,(-5),77,1000000000,(-1000000000)]:List Int)).bind fun xr100=>(some ((aa_.mk 2 xr100.1 [] ([]:List aa_) ([]:List Bs)),xr100.2))) (cond (xr1.1 == 5) (cond (xr1.1 == 5) (ab_.loop20 n (ab_ n) (fun xy101 xy102 xy103 xy104 xy105 xy106 xy107 xy108 xy109 xy110=>(some ((aa_.mk xy107 xy108 xy109 xy110 ([]:List Bs)),(ac_.mk xy101 xy102 xy103)))) n append 0 xr1.2.b xr1.2.i xr1.2.h 0 0 [] 4 0 [] ([]:List aa_)) (ab_.loop28 n (ab_ n) (fun xy111 xy112 xy113 xy114 xy115 xy116 xy117 xy118 xy119 xy120 xy121=>(some ((aa_.mk xy117 xy118 xy119 xy120 xy121),(ac_.mk xy111 xy112 xy113)))) n append 0 xr1.2.b xr1.2.i xr1.2.h 0 0 [] 5 0 [] ([]:List aa_) ([]:List Bs))) (cond (xr1.1 == 6) (ab_.loop20 n (ab_ n) (fun xy122 xy123 xy124 xy125 xy126 xy127 xy128 xy129 xy130 xy131=>(some ((aa_.mk xy128 xy129 xy130 xy131 ([]:List Bs)),(ac_.mk xy122 xy123 xy124)))) n append 0 xr1.2.b xr1.2.i xr1.2.h 0 0 [] 4 0 [] ([]:List aa_)) (ab_.loop28 n (ab_ n) (fun xy132 xy133 xy134 xy135 xy136 xy137 xy138 xy139 xy140 xy141 xy142=>(some ((aa_.mk xy138 xy139 xy140 xy141 xy142),(ac_.mk xy132 xy133 xy134)))) n append 0 xr1.2.b xr1.2.i xr1.2.h 0 0 [] 5 0 [] ([]:List aa_) ([]:List Bs))))) (cond (xr1.1 == 4) ((bj_ n xr1.2 ([0,1,(-5),77,1000000000,(-1000000000)]:List Int)).bind fun xr143=>(some ((aa_.mk 2 xr143.1 [] ([]:List aa_) ([]:List Bs)),xr143.2))) (cond (xr1.1 == 5) (cond (xr1.1 == 5) (ab_.loop20 n (ab_ n) (fun xy144 xy145 xy146 xy147 xy148 xy149 xy150 xy151 xy152 xy153=>(some ((aa_.mk xy150 xy151 xy152 xy153 ([]:List Bs)),(ac_.mk xy144 xy145 xy146)))) n append 0 xr1.2.b xr1.2.i xr1.2.h 0 0 [] 4 0 [] ([]:List aa_)) (ab_.loop28 n (ab_ n) (fun xy154 xy155 xy156 xy157 xy158 xy159 xy160 xy161 xy162 xy163 xy164=>(some ((aa_.mk xy160 xy161 xy162 xy163 xy164),(ac_.mk xy154 xy155 xy156)))) n append 0 xr1.2.b xr1.2.i xr1.2.h 0 0 [] 5 0 [] ([]:List aa_) ([]:List Bs))) (cond (xr1.1 == 6) (ab_.loop20 n (ab_ n) (fun xy165 xy166 xy167 xy168 xy169 xy170 xy171 xy172 xy173 xy174=>(some ((aa_.mk xy171 xy172 xy173 xy174 ([]:List Bs)),(ac_.mk xy165 xy166 xy167)))) n append 0 xr1.2.b xr1.2.i xr1.2.h 0 0 [] 4 0 [] ([]:List aa_)) (ab_.loop28 n (ab_ n) (fun xy175 xy176 xy177 xy178 xy179 xy180 xy181 xy182 xy183 xy184 xy185=>(some ((aa_.mk xy181 xy182 xy183 xy184 xy185),(ac_.mk xy175 xy176 xy177)))) n append 0 xr1.2.b xr1.2.i xr1.2.h 0 0 [] 5 0 [] ([]:List aa_) ([]:List Bs)))))))))))
def aq_.tail10 (n:Nat) (kn:Int→(List Int)→Int→Int→Int→Int→Int→Bool→Int→Bool→Int→Int→Int→Int→Int→Bool→Int→Bool→Int→Int→Int→Bool→(List Int)→Int→(List (List TRow))→Int→(List bJ_)→Int→Bool→Int→(List Int)→Bool→Int→Int→(List TRow)→(List TKid)→Int→Int→(List bJ_)→Int→Bool→Int→(List Int)→Bool→Int→Int→(List TRow)→(List TKid)→Int→Bool→Option (ar_ × b3_ × ac_)) (i:Int) (t29:Bool) (c0:List Int) (c1:Int) (c2:Int) (t21:Int) (t30:Int) (t32:Int) (t33:Bool) (t34:Int) (t36:Bool) (t37:Int) (t38:Int) (t311:Int) (t312:Int) (t314:Int) (t315:Bool) (t316:Int) (t318:Bool) (t319:Int) (t320:Int) (t323:Int) (t324:Bool) (s0:List Int) (s1:Int) (s2:List (List TRow)) (x0:Int) (x1:List bJ_) (x2:Int) (x3:Bool) (x4:Int) (x5:List Int) (x6:Bool) (x7:Int) (x8:Int) (x9:List TRow) (x10:List TKid) (x11:Int) (x12:Int) (x13:List bJ_) (x14:Int) (x15:Bool) (x16:Int) (x17:List Int) (x18:Bool) (x19:Int) (x20:Int) (x21:List TRow) (x22:List TKid) (x23:Int) (x24:Bool):Option (ar_ × b3_ × ac_) :=
 (cond t29 ((cJ_ n (b3_.mk (a8_.mk (av_.mk x0 x1 x2 x3 x4 x5 x6 x7 x8) x9 x10) x11 (a8_.mk (av_.mk x12 x13 x14 x15 x16 x17 x18 x19 x20) x21 x22) x23 x24)).bind fun xr6=>(kn i c0 c1 c2 t21 t30 t32 t33 t34 t36 t37 t38 t311 t312 t314 t315 t316 t318 t319 t320 t323 t324 s0 s1 s2 xr6.1.view.q.table xr6.1.view.q.where_ xr6.1.view.q.order xr6.1.view.q.down xr6.1.view.q.first xr6.1.view.q.show_ xr6.1.view.q.kids xr6.1.view.q.kidTable xr6.1.view.q.kidCol xr6.1.view.rows xr6.1.view.kids xr6.1.version xr6.1.last.q.table xr6.1.last.q.where_ xr6.1.last.q.order xr6.1.last.q.down xr6.1.last.q.first xr6.1.last.q.show_ xr6.1.last.q.kids xr6.1.last.q.kidTable xr6.1.last.q.kidCol xr6.1.last.rows xr6.1.last.kids xr6.1.lastVersion xr6.1.began)) (kn i c0 c1 c2 t21 t30 t32 t33 t34 t36 t37 t38 t311 t312 t314 t315 t316 t318 t319 t320 t323 t324 s0 s1 s2 x0 x1 x2 x3 x4 x5 x6 x7 x8 x9 x10 x11 x12 x13 x14 x15 x16 x17 x18 x19 x20 x21 x22 x23 x24))
abbrev aq_.K5:Type:=(List Int)→Int→Int→Int→Int→Int→Bool→Int→Bool→Int→Int→Int→Int→Int→Bool→Int→Bool→Int→Int→Int→Bool→(List Int)→Int→(List (List TRow))→Int→(List bJ_)→Int→Bool→Int→(List Int)→Bool→Int→Int→(List TRow)→(List TKid)→Int→Int→(List bJ_)→Int→Bool→Int→(List Int)→Bool→Int→Int→(List TRow)→(List TKid)→Int→Bool→Option (ar_ × b3_ × ac_)
abbrev aq_.T5:Type:=Int→(List Int)→Int→Int→Int→Int→Int→Bool→Int→Bool→Int→Int→Int→Int→Int→Bool→Int→Bool→Int→Int→Int→Bool→(List Int)→Int→(List (List TRow))→Int→(List bJ_)→Int→Bool→Int→(List Int)→Bool→Int→Int→(List TRow)→(List TKid)→Int→Int→(List bJ_)→Int→Bool→Int→(List Int)→Bool→Int→Int→(List TRow)→(List TKid)→Int→Bool→Option (ar_ × b3_ × ac_)
def aq_.step5 (n:Nat) (k0:aq_.K5) (back:aq_.T5):aq_.T5:=fun i c0 c1 c2 t21 t30 t32 t33 t34 t36 t37 t38 t311 t312 t314 t315 t316 t318 t319 t320 t323 t324 s0 s1 s2 x0 x1 x2 x3 x4 x5 x6 x7 x8 x9 x10 x11 x12 x13 x14 x15 x16 x17 x18 x19 x20 x21 x22 x23 x24=>
 ((ag_ n (ac_.mk c0 c1 c2) 6).bind fun xr4=>(cond (decide (i<xr4.1)) ((b1_ n xr4.2 2).bind fun xr5=>(aq_.tail10 n (fun xy7 xy8 xy9 xy10 xy11 xy12 xy13 xy14 xy15 xy16 xy17 xy18 xy19 xy20 xy21 xy22 xy23 xy24 xy25 xy26 xy27 xy28 xy29 xy30 xy31 xy32 xy33 xy34 xy35 xy36 xy37 xy38 xy39 xy40 xy41 xy42 xy43 xy44 xy45 xy46 xy47 xy48 xy49 xy50 xy51 xy52 xy53 xy54 xy55 xy56=>((aw_ n (ac_.mk xy8 xy9 xy10) (ar_.mk (aP_.mk xy29) xy30 xy31)).bind fun xr57=>((a7_ n (ar_.mk (aP_.mk xy29) xy30 xy31) xr57.1).bind fun xr58=>(cond xr58.2.2 ((cM_ n (b3_.mk (a8_.mk (av_.mk xy32 xy33 xy34 xy35 xy36 xy37 xy38 xy39 xy40) xy41 xy42) xy43 (a8_.mk (av_.mk xy44 xy45 xy46 xy47 xy48 xy49 xy50 xy51 xy52) xy53 xy54) xy55 xy56) xr58.2.1).bind fun xr59=>(back (W (xy7+1)) xr57.2.b xr57.2.i xr57.2.h xy11 xy12 xy13 xy14 xy15 xy16 xy17 xy18 xy19 xy20 xy21 xy22 xy23 xy24 xy25 xy26 xy27 xy28 xr58.1.schema.cols xr58.1.version xr58.1.tables xr59.view.q.table xr59.view.q.where_ xr59.view.q.order xr59.view.q.down xr59.view.q.first xr59.view.q.show_ xr59.view.q.kids xr59.view.q.kidTable xr59.view.q.kidCol xr59.view.rows xr59.view.kids xr59.version xr59.last.q.table xr59.last.q.where_ xr59.last.q.order xr59.last.q.down xr59.last.q.first xr59.last.q.show_ xr59.last.q.kids xr59.last.q.kidTable xr59.last.q.kidCol xr59.last.rows xr59.last.kids xr59.lastVersion xr59.began)) (back (W (xy7+1)) xr57.2.b xr57.2.i xr57.2.h xy11 xy12 xy13 xy14 xy15 xy16 xy17 xy18 xy19 xy20 xy21 xy22 xy23 xy24 xy25 xy26 xy27 xy28 xy29 xy30 xy31 xy32 xy33 xy34 xy35 xy36 xy37 xy38 xy39 xy40 xy41 xy42 xy43 xy44 xy45 xy46 xy47 xy48 xy49 xy50 xy51 xy52 xy53 xy54 xy55 xy56))))) i xr5.1 xr5.2.b xr5.2.i xr5.2.h t21 t30 t32 t33 t34 t36 t37 t38 t311 t312 t314 t315 t316 t318 t319 t320 t323 t324 s0 s1 s2 x0 x1 x2 x3 x4 x5 x6 x7 x8 x9 x10 x11 x12 x13 x14 x15 x16 x17 x18 x19 x20 x21 x22 x23 x24)) (k0 xr4.2.b xr4.2.i xr4.2.h t21 t30 t32 t33 t34 t36 t37 t38 t311 t312 t314 t315 t316 t318 t319 t320 t323 t324 s0 s1 s2 x0 x1 x2 x3 x4 x5 x6 x7 x8 x9 x10 x11 x12 x13 x14 x15 x16 x17 x18 x19 x20 x21 x22 x23 x24)))
def aq_.loop5 (n:Nat) (k0:aq_.K5) (N:Nat):aq_.T5:=cl_ (fun _ _ _ _ _ _ _ _ _ _ _ _ _ _ _ _ _ _ _ _ _ _ _ _ _ _ _ _ _ _ _ _ _ _ _ _ _ _ _ _ _ _ _ _ _ _ _ _ _ _=>none) (aq_.step5 n k0) N
def aq_.tail1 (n:Nat) (c0:List Int) (c1:Int) (c2:Int) (t21:Int) (t30:Int) (t32:Int) (t33:Bool) (t34:Int) (t36:Bool) (t37:Int) (t38:Int) (t311:Int) (t312:Int) (t314:Int) (t315:Bool) (t316:Int) (t318:Bool) (t319:Int) (t320:Int) (t323:Int) (t324:Bool) (s0:List Int) (s1:Int) (s2:List (List TRow)):Option (ar_ × b3_ × ac_) :=
 ((aj_ n (ac_.mk c0 c1 c2) (aP_.mk s0)).bind fun xr2=>((dt_ n (ar_.mk (aP_.mk s0) s1 s2) xr2.1).bind fun xr3=>(aq_.loop5 n (fun xy60 xy61 xy62 xy63 xy64 xy65 xy66 xy67 xy68 xy69 xy70 xy71 xy72 xy73 xy74 xy75 xy76 xy77 xy78 xy79 xy80 xy81 xy82 xy83 xy84 xy85 xy86 xy87 xy88 xy89 xy90 xy91 xy92 xy93 xy94 xy95 xy96 xy97 xy98 xy99 xy100 xy101 xy102 xy103 xy104 xy105 xy106 xy107 xy108=>(some ((ar_.mk (aP_.mk xy81) xy82 xy83),(b3_.mk (a8_.mk (av_.mk xy84 xy85 xy86 xy87 xy88 xy89 xy90 xy91 xy92) xy93 xy94) xy95 (a8_.mk (av_.mk xy96 xy97 xy98 xy99 xy100 xy101 xy102 xy103 xy104) xy105 xy106) xy107 xy108),(ac_.mk xy60 xy61 xy62)))) n 0 xr2.2.b xr2.2.i xr2.2.h t21 t30 t32 t33 t34 t36 t37 t38 t311 t312 t314 t315 t316 t318 t319 t320 t323 t324 s0 s1 s2 xr3.1.view.q.table xr3.1.view.q.where_ xr3.1.view.q.order xr3.1.view.q.down xr3.1.view.q.first xr3.1.view.q.show_ xr3.1.view.q.kids xr3.1.view.q.kidTable xr3.1.view.q.kidCol xr3.1.view.rows xr3.1.view.kids xr3.1.version xr3.1.last.q.table xr3.1.last.q.where_ xr3.1.last.q.order xr3.1.last.q.down xr3.1.last.q.first xr3.1.last.q.show_ xr3.1.last.q.kids xr3.1.last.q.kidTable xr3.1.last.q.kidCol xr3.1.last.rows xr3.1.last.kids xr3.1.lastVersion xr3.1.began)))
def aq_:Nat→ac_→Option (ar_ × b3_ × ac_)
 |0,_=>none
 |n+1,c=>
  ((aL_ n c).bind fun xr1=>(aq_.tail1 n xr1.2.b xr1.2.i xr1.2.h 0 0 0 false 0 false 0 0 0 0 0 false 0 false 0 0 0 false xr1.1.schema.cols xr1.1.version xr1.1.tables))
def cE_:Nat→ac_→Option (aE_ × ac_)
 |0,_=>none
 |n+1,c=>
  ((b1_ n c 3).bind fun xr1=>(cond xr1.1 ((ag_ n xr1.2 9).bind fun xr2=>((ab_ n xr2.2 4).bind fun xr3=>(some ((aE_.mk 1 xr2.1 0 (aa_.re xr3.1) ([]:List TOp)),xr3.2)))) ((aq_ n xr1.2).bind fun xr4=>((cJ_ n xr4.2.1).bind fun xr5=>(cond (!xr5.2.2) (some ((aE_.mk 1 3 0 (aa_.mk 0 0 [] [] []) ([]:List TOp)),xr4.2.2)) (some ({ xr5.2.1 with doc:=(aa_.re xr5.2.1.doc) },xr4.2.2)))))))
abbrev bo_.K10:Type:=(List Int)→Int→Int→Int→Int→Bs→Int→Int→Bs→(List aa_)→(List Bs)→Option (aa_ × ac_)
abbrev bo_.T10:Type:=Int→(List Int)→Int→Int→Int→Int→Bs→Int→Int→Bs→(List aa_)→(List Bs)→Option (aa_ × ac_)
def bo_.step10 (n:Nat) (k1:bo_.K10) (back:bo_.T10):bo_.T10:=fun i b0 b1 b2 t20 t21 t22 j0 j1 j2 j3 j4=>
 (cond (decide (i<5)) (back (W (i+1)) b0 b1 b2 t20 t21 t22 4 0 [] ([(aa_.mk j0 j1 j2 j3 j4)]:List aa_) ([]:List Bs)) (k1 b0 b1 b2 t20 t21 t22 j0 j1 j2 j3 j4))
def bo_.loop10 (n:Nat) (k1:bo_.K10) (N:Nat):bo_.T10:=cl_ (fun _ _ _ _ _ _ _ _ _ _ _ _=>none) (bo_.step10 n k1) N
def bo_:Nat→ac_→Option (aa_ × ac_)
 |0,_=>none
 |n+1,c=>
  ((ab_ n c 4).bind fun xr1=>((ag_ n xr1.2 20).bind fun xr2=>(cond (xr2.1 == 0) ((ag_ n xr2.2 8).bind fun xr3=>(some ((aa_.mk (W (xr3.1 - 1)) xr1.1.n_ xr1.1.s xr1.1.list xr1.1.names),xr3.2))) (cond (xr2.1 == 1) ((bj_ n xr2.2 ([1,2,(-1),1000000001]:List Int)).bind fun xr4=>(some ((aa_.mk xr1.1.kind xr4.1 xr1.1.s xr1.1.list xr1.1.names),xr4.2))) (cond (xr2.1 == 2) ((cU_ n xr2.2 ([[120],[1],[127]]:List Bs)).bind fun xr5=>(some ((aa_.mk xr1.1.kind xr1.1.n_ xr5.1 xr1.1.list xr1.1.names),xr5.2))) (cond (xr2.1 == 3) (bq_ (xr1.1.names.length+([[97]]:List Bs).length) 16 (some ((aa_.mk xr1.1.kind xr1.1.n_ xr1.1.s xr1.1.list (xr1.1.names++([[97]]:List Bs))),xr2.2))) (cond (xr2.1 == 4) (bo_.loop10 n (fun xy6 xy7 xy8 xy9 xy10 xy11 xy12 xy13 xy14 xy15 xy16=>(some ((aa_.mk xy12 xy13 xy14 xy15 xy16),(ac_.mk xy6 xy7 xy8)))) n 0 xr2.2.b xr2.2.i xr2.2.h 0 0 [] xr1.1.kind xr1.1.n_ xr1.1.s xr1.1.list xr1.1.names) (cond (xr2.1 == 5) ((ag_ n xr2.2 2).bind fun xr17=>(cond (decide ((W (399+xr17.1))=(W (399+xr17.1)))) (cond (decide (0≤(W (399+xr17.1)))) (cond (decide ((W (399+xr17.1))*80≤140737488355328)) (some ((aa_.mk 4 0 [] (List.replicate (W (399+xr17.1)).toNat aa_.dflt) ([]:List Bs)),xr17.2)) none) none) none)) (some ((aa_.re xr1.1),xr2.2))))))))))
abbrev ba_.K4:Type:=(List Int)→Int→Int→(List Bs)→Option ((List Bs) × ac_)
abbrev ba_.T4:Type:=Int→(List Int)→Int→Int→Int→Int→Bs→(List aa_)→(List Bs)→(List Bs)→Option ((List Bs) × ac_)
def ba_.step4 (n:Nat) (k0:ba_.K4) (back:ba_.T4):ba_.T4:=fun t6 o0 o1 o2 t30 t31 t32 t33 t34 t5=>
 (cond (decide (t6<5)) (cond (decide ((t33.length:Int) > 0)) ((b1_ n (ac_.mk o0 o1 o2) 4).bind fun xr1=>(cond (!xr1.1) ((ag_ n xr1.2 (t33.length:Int)).bind fun xr2=>((aQ_ n xr2.1).bind fun xr3=>(cond (t30 == 5) (cond (decide (xr2.1<(t34.length:Int))) (inB xr2.1 t34.length (bq_ (t5.length+([(t34.getD xr2.1.toNat [])]:List Bs).length) 16 (inB xr2.1 t33.length (back (W (t6+1)) xr2.2.b xr2.2.i xr2.2.h ((t33.getD xr2.1.toNat aa_.dflt).kind) ((t33.getD xr2.1.toNat aa_.dflt).n_) ((t33.getD xr2.1.toNat aa_.dflt).s) ((t33.getD xr2.1.toNat aa_.dflt).list) ((t33.getD xr2.1.toNat aa_.dflt).names) (t5++([(t34.getD xr2.1.toNat [])]:List Bs)))))) (bq_ (t5.length+([xr3]:List Bs).length) 16 (inB xr2.1 t33.length (back (W (t6+1)) xr2.2.b xr2.2.i xr2.2.h ((t33.getD xr2.1.toNat aa_.dflt).kind) ((t33.getD xr2.1.toNat aa_.dflt).n_) ((t33.getD xr2.1.toNat aa_.dflt).s) ((t33.getD xr2.1.toNat aa_.dflt).list) ((t33.getD xr2.1.toNat aa_.dflt).names) (t5++([xr3]:List Bs)))))) (bq_ (t5.length+([xr3]:List Bs).length) 16 (inB xr2.1 t33.length (back (W (t6+1)) xr2.2.b xr2.2.i xr2.2.h ((t33.getD xr2.1.toNat aa_.dflt).kind) ((t33.getD xr2.1.toNat aa_.dflt).n_) ((t33.getD xr2.1.toNat aa_.dflt).s) ((t33.getD xr2.1.toNat aa_.dflt).list) ((t33.getD xr2.1.toNat aa_.dflt).names) (t5++([xr3]:List Bs)))))))) (k0 xr1.2.b xr1.2.i xr1.2.h t5))) (k0 o0 o1 o2 t5)) (k0 o0 o1 o2 t5))
def ba_.loop4 (n:Nat) (k0:ba_.K4) (N:Nat):ba_.T4:=cl_ (fun _ _ _ _ _ _ _ _ _ _=>none) (ba_.step4 n k0) N
def ba_:Nat→ac_→aa_→Option ((List Bs) × ac_)
 |0,_,_=>none
 |n+1,o,append=>
  (ba_.loop4 n (fun xy4 xy5 xy6 xy7=>((b1_ n (ac_.mk xy4 xy5 xy6) 5).bind fun xr8=>(cond xr8.1 ((cU_ n xr8.2 ([[97],[48],[49],[45],[114,111,119,115],[48,48],[122,122]]:List Bs)).bind fun xr9=>(bq_ (xy7.length+([xr9.1]:List Bs).length) 16 (some ((xy7++([xr9.1]:List Bs)),xr9.2)))) (some (xy7,xr8.2))))) n 0 o.b o.i o.h append.kind append.n_ append.s append.list append.names ([]:List Bs))
abbrev cr_.K6:Type:=Int→Int→Bs→(List aa_)→(List Bs)→Int→Int→Bs→Option (aa_ × Bool)
abbrev cr_.T6:Type:=(List Bs)→Int→Int→Int→Bs→(List aa_)→(List Bs)→Int→Int→Bs→Option (aa_ × Bool)
def cr_.step6 (n:Nat) (k0:cr_.K6) (back:cr_.T6):cr_.T6:=fun way i j0 j1 j2 j3 j4 t40 t41 t42=>
 (cond (decide (i<(way.length:Int))) (inB i way.length ((ek_ n (aa_.mk j0 j1 j2 j3 j4) (way.getD i.toNat [])).bind fun xr2=>(cond (decide (xr2<0)) (some ((aa_.mk 0 0 [] ([]:List aa_) ([]:List Bs)),false)) (inB xr2 j3.length (back way (W (i+1)) ((j3.getD xr2.toNat aa_.dflt).kind) ((j3.getD xr2.toNat aa_.dflt).n_) ((j3.getD xr2.toNat aa_.dflt).s) ((j3.getD xr2.toNat aa_.dflt).list) ((j3.getD xr2.toNat aa_.dflt).names) t40 t41 t42))))) (k0 j0 j1 j2 j3 j4 t40 t41 t42))
def cr_.loop6 (n:Nat) (k0:cr_.K6) (N:Nat):cr_.T6:=cl_ (fun _ _ _ _ _ _ _ _ _ _=>none) (cr_.step6 n k0) N
def cr_:Nat→aa_→(List Bs)→Option (aa_ × Bool)
 |0,_,_=>none
 |n+1,j,way=>
  ((ch_ n (aa_.re j)).bind fun xr1=>(cond (!xr1) (some ((aa_.mk 0 0 [] ([]:List aa_) ([]:List Bs)),false)) (cr_.loop6 n (fun xy3 xy4 xy5 xy6 xy7 xy8 xy9 xy10=>((aB_ n (aa_.mk xy3 xy4 xy5 xy6 xy7)).bind fun xr11=>(some ((aa_.re xr11),true)))) n way 0 j.kind j.n_ j.s j.list j.names 0 0 [])))
def dk_:Nat→ac_→aa_→Option (TOp × ac_)
 |0,_,_=>none
 |n+1,c,j=>
  ((ag_ n c 4).bind fun xr1=>((ba_ n xr1.2 (aa_.re j)).bind fun xr2=>(cond ((W (1+xr1.1)) != 2) ((ab_ n xr2.2 2).bind fun xr3=>((cr_ n (aa_.re j) xr2.1).bind fun xr4=>(cond xr4.2 (cond ((W (1+xr1.1)) == 4) ((b1_ n xr3.2 2).bind fun xr5=>(cond xr5.1 ((ag_ n xr5.2 25).bind fun xr6=>(cond (xr6.1 == 0) ((ag_ n xr6.2 6).bind fun xr7=>(some ((TOp.mk xr7.1 xr2.1 (aa_.re xr4.1)),xr7.2))) (cond (xr6.1 == 1) (bq_ (xr2.1.length+([[1]]:List Bs).length) 16 (some ((TOp.mk (W (1+xr1.1)) (xr2.1++([[1]]:List Bs)) (aa_.re xr4.1)),xr6.2))) (cond (xr6.1 == 2) ((bo_ n xr6.2).bind fun xr8=>(some ((TOp.mk (W (1+xr1.1)) xr2.1 (aa_.re xr8.1)),xr8.2))) (cond (xr6.1 == 3) (some ((TOp.mk (W (1+xr1.1)) ([[97],[97],[97],[97],[97],[97],[97]]:List Bs) (aa_.re xr4.1)),xr6.2)) (some ((TOp.mk (W (1+xr1.1)) xr2.1 (aa_.re xr4.1)),xr6.2))))))) ((ag_ n xr5.2 25).bind fun xr9=>(cond (xr9.1 == 0) ((ag_ n xr9.2 6).bind fun xr10=>(some ((TOp.mk xr10.1 xr2.1 (aa_.re xr3.1)),xr10.2))) (cond (xr9.1 == 1) (bq_ (xr2.1.length+([[1]]:List Bs).length) 16 (some ((TOp.mk (W (1+xr1.1)) (xr2.1++([[1]]:List Bs)) (aa_.re xr3.1)),xr9.2))) (cond (xr9.1 == 2) ((bo_ n xr9.2).bind fun xr11=>(some ((TOp.mk (W (1+xr1.1)) xr2.1 (aa_.re xr11.1)),xr11.2))) (cond (xr9.1 == 3) (some ((TOp.mk (W (1+xr1.1)) ([[97],[97],[97],[97],[97],[97],[97]]:List Bs) (aa_.re xr3.1)),xr9.2)) (some ((TOp.mk (W (1+xr1.1)) xr2.1 (aa_.re xr3.1)),xr9.2))))))))) ((ag_ n xr3.2 25).bind fun xr12=>(cond (xr12.1 == 0) ((ag_ n xr12.2 6).bind fun xr13=>(some ((TOp.mk xr13.1 xr2.1 (aa_.re xr3.1)),xr13.2))) (cond (xr12.1 == 1) (bq_ (xr2.1.length+([[1]]:List Bs).length) 16 (some ((TOp.mk (W (1+xr1.1)) (xr2.1++([[1]]:List Bs)) (aa_.re xr3.1)),xr12.2))) (cond (xr12.1 == 2) ((bo_ n xr12.2).bind fun xr14=>(some ((TOp.mk (W (1+xr1.1)) xr2.1 (aa_.re xr14.1)),xr14.2))) (cond (xr12.1 == 3) (some ((TOp.mk (W (1+xr1.1)) ([[97],[97],[97],[97],[97],[97],[97]]:List Bs) (aa_.re xr3.1)),xr12.2)) (some ((TOp.mk (W (1+xr1.1)) xr2.1 (aa_.re xr3.1)),xr12.2)))))))) ((ag_ n xr3.2 25).bind fun xr15=>(cond (xr15.1 == 0) ((ag_ n xr15.2 6).bind fun xr16=>(some ((TOp.mk xr16.1 xr2.1 (aa_.re xr3.1)),xr16.2))) (cond (xr15.1 == 1) (bq_ (xr2.1.length+([[1]]:List Bs).length) 16 (some ((TOp.mk (W (1+xr1.1)) (xr2.1++([[1]]:List Bs)) (aa_.re xr3.1)),xr15.2))) (cond (xr15.1 == 2) ((bo_ n xr15.2).bind fun xr17=>(some ((TOp.mk (W (1+xr1.1)) xr2.1 (aa_.re xr17.1)),xr17.2))) (cond (xr15.1 == 3) (some ((TOp.mk (W (1+xr1.1)) ([[97],[97],[97],[97],[97],[97],[97]]:List Bs) (aa_.re xr3.1)),xr15.2)) (some ((TOp.mk (W (1+xr1.1)) xr2.1 (aa_.re xr3.1)),xr15.2)))))))))) ((ag_ n xr2.2 25).bind fun xr18=>(cond (xr18.1 == 0) ((ag_ n xr18.2 6).bind fun xr19=>(some ((TOp.mk xr19.1 xr2.1 (aa_.mk 0 0 [] ([]:List aa_) ([]:List Bs))),xr19.2))) (cond (xr18.1 == 1) (bq_ (xr2.1.length+([[1]]:List Bs).length) 16 (some ((TOp.mk (W (1+xr1.1)) (xr2.1++([[1]]:List Bs)) (aa_.mk 0 0 [] ([]:List aa_) ([]:List Bs))),xr18.2))) (cond (xr18.1 == 2) ((bo_ n xr18.2).bind fun xr20=>(some ((TOp.mk (W (1+xr1.1)) xr2.1 (aa_.re xr20.1)),xr20.2))) (cond (xr18.1 == 3) (some ((TOp.mk (W (1+xr1.1)) ([[97],[97],[97],[97],[97],[97],[97]]:List Bs) (aa_.mk 0 0 [] ([]:List aa_) ([]:List Bs))),xr18.2)) (some ((TOp.mk (W (1+xr1.1)) xr2.1 (aa_.mk 0 0 [] ([]:List aa_) ([]:List Bs))),xr18.2))))))))))
def dr_:Nat→ac_→Option (aE_ × ac_)
 |0,_=>none
 |n+1,c=>
  ((cE_ n c).bind fun xr1=>((ag_ n xr1.2 15).bind fun xr2=>(cond (xr2.1 == 0) ((ag_ n xr2.2 4).bind fun xr3=>(some ({ xr1.1 with kind:=xr3.1,doc:=(aa_.re xr1.1.doc) },xr3.2))) (cond (xr2.1 == 1) ((bj_ n xr2.2 ([(-1),0,100000,100001]:List Int)).bind fun xr4=>(some ({ xr1.1 with version:=xr4.1,doc:=(aa_.re xr1.1.doc) },xr4.2))) (cond (xr2.1 == 2) ((ag_ n xr2.2 9).bind fun xr5=>(some ({ xr1.1 with base:=(W (xr5.1 - 1)),doc:=(aa_.re xr1.1.doc) },xr5.2))) (cond (xr2.1 == 3) ((bo_ n xr2.2).bind fun xr6=>(some ({ xr1.1 with doc:=(aa_.re xr6.1) },xr6.2))) (cond (xr2.1 == 4) ((dk_ n xr2.2 (aa_.mk 0 0 [] [] [])).bind fun xr7=>(bq_ (xr1.1.ops.length+([{ xr7.1 with value:=(aa_.re xr7.1.value) }]:List TOp).length) 112 (some ({ xr1.1 with doc:=(aa_.re xr1.1.doc),ops:=(xr1.1.ops++([{ xr7.1 with value:=(aa_.re xr7.1.value) }]:List TOp)) },xr7.2)))) (some ({ xr1.1 with doc:=(aa_.re xr1.1.doc) },xr2.2)))))))))
def bU_.tail6 (n:Nat) (list:List aE_) (k:Int) (t20:Int) (t21:Int) (t22:Bs) (t25:Int) (t26:Bool) (t27:Bool) (t30:Int) (t31:Int) (t32:Int) (t33:Int) (t34:Int) (t35:Bs) (c0:List Int) (c1:Int) (c2:Int):Option (aX_ × aE_) :=
 (gI_ 0 k list.length ((a0_ n ((list.take k.toNat).drop 0)).bind fun xr5=>(inB k list.length ((ag_ n (ac_.mk c0 c1 c2) 10).bind fun xr6=>(cond (xr6.1 == 0) ((dr_ n xr6.2).bind fun xr7=>(some ({ xr5 with doc:=(aa_.re xr5.doc) },{ xr7.1 with doc:=(aa_.re xr7.1.doc) }))) (cond (xr6.1 == 1) (some ({ xr5 with doc:=(aa_.re xr5.doc),version:=(W (xr5.version+1)) },{ (list.getD k.toNat aE_.dflt) with doc:=(aa_.re ((list.getD k.toNat aE_.dflt).doc)) })) (cond (xr6.1 == 2) ((ab_ n xr6.2 3).bind fun xr8=>(some ({ xr5 with doc:=(aa_.re xr8.1) },{ (list.getD k.toNat aE_.dflt) with doc:=(aa_.re ((list.getD k.toNat aE_.dflt).doc)) }))) (some ({ xr5 with doc:=(aa_.re xr5.doc) },{ (list.getD k.toNat aE_.dflt) with doc:=(aa_.re ((list.getD k.toNat aE_.dflt).doc)) })))))))))
def bU_:Nat→(List Int)→Option (aX_ × aE_)
 |0,_=>none
 |n+1,eJ_=>
  ((bS_ n eJ_).bind fun xr1=>((ao_ n xr1).bind fun xr2=>(cond ((xr2.1.length:Int) == 0) ((dr_ n xr2.2).bind fun xr3=>(some ((aX_.mk (aa_.mk 0 0 [] ([]:List aa_) []) 0 false false),{ xr3.1 with doc:=(aa_.re xr3.1.doc) }))) ((ag_ n xr2.2 (xr2.1.length:Int)).bind fun xr4=>(bU_.tail6 n xr2.1 xr4.1 0 0 [] 0 false false 0 0 0 0 0 [] xr4.2.b xr4.2.i xr4.2.h)))))
def laws_FnClient.tail11 (n:Nat) (t3:List aE_) (t40:Int) (t41:Int) (t42:Bs) (t45:Int) (t46:Bool) (t47:Bool) (t60:Int) (t61:Int) (t62:Bs) (t63:List aa_) (t64:List Bs) (t65:Int) (t66:Bool) (t67:Bool) (t70:Int) (t71:Int) (t72:Int) (t73:Int) (t74:Int) (t75:Bs) (t76:List aa_) (t77:List Bs) (t78:List TOp) (t80:Int) (t81:Int) (t82:Bs) (t85:Int) (t86:Bool) (t87:Bool) (t43:List aa_) (t44:List Bs) (t83:List aa_) (t84:List Bs):Option Bool :=
 ((cG_ n (aX_.mk (aa_.mk t60 t61 t62 t63 t64) t65 t66 t67) (aE_.mk t70 t71 t72 (aa_.mk t73 t74 t75 t76 t77) t78)).bind fun xr7=>(cond (t85 != xr7.version) (some false) (cond (!(t87 == xr7.bad)) (some false) (cond t67 (cond (!t87) (some false) (cond t87 (cond (t85 != t65) (some false) (cond (!t87) (cond (t85 != t71) (some false) (cond t47 (some true) (cond ((t3.length:Int) == 0) (some true) (inB (W ((t3.length:Int) - 1)) t3.length (let xv8:Bool:=(t45 == ((t3.getD (W ((t3.length:Int) - 1)).toNat aE_.dflt).version));(cond xv8 (some t46) (some false))))))) (cond t47 (some true) (cond ((t3.length:Int) == 0) (some true) (inB (W ((t3.length:Int) - 1)) t3.length (let xv9:Bool:=(t45 == ((t3.getD (W ((t3.length:Int) - 1)).toNat aE_.dflt).version));(cond xv9 (some t46) (some false)))))))) (cond (!t87) (cond (t85 != t71) (some false) (cond t47 (some true) (cond ((t3.length:Int) == 0) (some true) (inB (W ((t3.length:Int) - 1)) t3.length (let xv10:Bool:=(t45 == ((t3.getD (W ((t3.length:Int) - 1)).toNat aE_.dflt).version));(cond xv10 (some t46) (some false))))))) (cond t47 (some true) (cond ((t3.length:Int) == 0) (some true) (inB (W ((t3.length:Int) - 1)) t3.length (let xv11:Bool:=(t45 == ((t3.getD (W ((t3.length:Int) - 1)).toNat aE_.dflt).version));(cond xv11 (some t46) (some false))))))))) (cond t87 (cond (t85 != t65) (some false) (cond (!t87) (cond (t85 != t71) (some false) (cond t47 (some true) (cond ((t3.length:Int) == 0) (some true) (inB (W ((t3.length:Int) - 1)) t3.length (let xv12:Bool:=(t45 == ((t3.getD (W ((t3.length:Int) - 1)).toNat aE_.dflt).version));(cond xv12 (some t46) (some false))))))) (cond t47 (some true) (cond ((t3.length:Int) == 0) (some true) (inB (W ((t3.length:Int) - 1)) t3.length (let xv13:Bool:=(t45 == ((t3.getD (W ((t3.length:Int) - 1)).toNat aE_.dflt).version));(cond xv13 (some t46) (some false)))))))) (cond (!t87) (cond (t85 != t71) (some false) (cond t47 (some true) (cond ((t3.length:Int) == 0) (some true) (inB (W ((t3.length:Int) - 1)) t3.length (let xv14:Bool:=(t45 == ((t3.getD (W ((t3.length:Int) - 1)).toNat aE_.dflt).version));(cond xv14 (some t46) (some false))))))) (cond t47 (some true) (cond ((t3.length:Int) == 0) (some true) (inB (W ((t3.length:Int) - 1)) t3.length (let xv15:Bool:=(t45 == ((t3.getD (W ((t3.length:Int) - 1)).toNat aE_.dflt).version));(cond xv15 (some t46) (some false))))))))))))
def laws_FnClient.tail5 (n:Nat) (o:List Int) (t3:List aE_) (t40:Int) (t41:Int) (t42:Bs) (t45:Int) (t46:Bool) (t47:Bool) (t43:List aa_) (t44:List Bs):Option Bool :=
 ((a0_ n t3).bind fun xr4=>(cond (t45 != xr4.version) (some false) (cond (!(t46 == xr4.began)) (some false) (cond (!(t47 == xr4.bad)) (some false) ((bU_ n o).bind fun xr5=>((cI_ n { xr5.1 with doc:=(aa_.re xr5.1.doc) } { xr5.2 with doc:=(aa_.re xr5.2.doc) }).bind fun xr6=>(laws_FnClient.tail11 n t3 t40 t41 t42 t45 t46 t47 xr5.1.doc.kind xr5.1.doc.n_ xr5.1.doc.s xr5.1.doc.list xr5.1.doc.names xr5.1.version xr5.1.began xr5.1.bad xr5.2.kind xr5.2.version xr5.2.base xr5.2.doc.kind xr5.2.doc.n_ xr5.2.doc.s xr5.2.doc.list xr5.2.doc.names xr5.2.ops xr6.doc.kind xr6.doc.n_ xr6.doc.s xr6.version xr6.began xr6.bad t43 t44 xr6.doc.list xr6.doc.names)))))))
def laws_FnClient:Nat→(List Int)→Option Bool
 |0,_=>none
 |n+1,o=>
  ((fz_ n o).bind fun xr1=>(cond xr1 (some true) ((cw_ n o).bind fun xr2=>((a3_ n xr2).bind fun xr3=>(laws_FnClient.tail5 n o xr2 xr3.doc.kind xr3.doc.n_ xr3.doc.s xr3.version xr3.began xr3.bad xr3.doc.list xr3.doc.names)))))
end Go.Pi
end
