/- FnGoesAlong: a view of a drawn store that goes along with a batch is the view of the store behind it, and its answer what asking anew tells. No condition. Text 4 of 7. -/
import Derived.Test.YtilkdgbncfebkaaGreatDoorGaC
set_option linter.unusedVariables false
set_option maxRecDepth 100000
section
namespace Go.Pi
def eL_:Nat→(List Int)→Option Bool
 |0,_=>none
 |n+1,eb_=>
  (some (decide ((eb_.length:Int) > 1048576)))
abbrev bH_.K4:Type:=(List Int)→Int→Option aw_
abbrev bH_.T4:Type:=(List Int)→Int→Int→Option aw_
def bH_.step4 (n:Nat) (k0:bH_.K4) (back:bH_.T4):bH_.T4:=fun eb_ h i=>
 (cond (decide (i<(eb_.length:Int))) (cond (decide (i<4000)) (inB i eb_.length (let xv1:Int:=(IntKind.i64.wrap (BitVec.ofInt (IntKind.bits .i64) (W ((W ((W (h*131))+(W ((eb_.getD i.toNat 0)))))+7)) &&& BitVec.ofInt (IntKind.bits .i64) 1073741823).toNat);(back eb_ xv1 (W (i+1))))) (k0 eb_ h)) (k0 eb_ h))
def bH_.loop4 (n:Nat) (k0:bH_.K4) (N:Nat):bH_.T4:=b4_ (fun _ _ _=>none) (bH_.step4 n k0) N
def bH_:Nat→(List Int)→Option aw_
 |0,_=>none
 |n+1,eb_=>
  (bH_.loop4 n (fun xy2 xy3=>(some (aw_.mk xy2 0 xy3))) n eb_ (W (17333+(eb_.length:Int))) 0)
def cD_:Nat→aw_→Option (Int × aw_)
 |0,_=>none
 |n+1,c=>
  (let xv1:Int:=(Int.fdiv (W ((W (c.h*6364136223846793005))+1442695040888963407)) (2 ^ min (33:Int).toNat (IntKind.bits .i64)));(let xv2:Int:=(Int.fdiv (W ((W (c.h*6364136223846793005))+1442695040888963407)) (2 ^ min (45:Int).toNat (IntKind.bits .i64)));(let xv3:Int:=(IntKind.i64.wrap (BitVec.ofInt (IntKind.bits .i64) xv1 ^^^ BitVec.ofInt (IntKind.bits .i64) xv2).toNat);(let xv4:Int:=(IntKind.i64.wrap (BitVec.ofInt (IntKind.bits .i64) xv3 &&& BitVec.ofInt (IntKind.bits .i64) 255).toNat);(cond (decide (c.i<(c.b.length:Int))) (inB c.i c.b.length (let xv5:Int:=(IntKind.i64.wrap (BitVec.ofInt (IntKind.bits .i64) (W (xv4+(W ((c.b.getD c.i.toNat 0))))) &&& BitVec.ofInt (IntKind.bits .i64) 255).toNat);(some (xv5,(aw_.mk c.b (W (c.i+1)) (W ((W (c.h*6364136223846793005))+1442695040888963407))))))) (some (xv4,(aw_.mk c.b c.i (W ((W (c.h*6364136223846793005))+1442695040888963407))))))))))
def ay_:Nat→aw_→Int→Option (Int × aw_)
 |0,_,_=>none
 |n+1,c,n1=>
  (cond (decide (n1≤0)) (some (0,c)) (cond (decide (n1≤256)) ((cD_ n c).bind fun xr1=>(cond (decide (n1=0)) none (some ((Int.tmod xr1.1 n1),xr1.2)))) ((cD_ n c).bind fun xr2=>((cD_ n xr2.2).bind fun xr3=>((cD_ n xr3.2).bind fun xr4=>((cD_ n xr4.2).bind fun xr5=>(let xv6:Int:=(W ((W ((W (xr2.1*16777216))+(W (xr3.1*65536))))+(W (xr4.1*256))));(cond (decide (n1=0)) none (some ((Int.tmod (W (xv6+xr5.1)) n1),xr5.2))))))))))
abbrev aC_.K4:Type:=(List Int)→Int→Int→(List Int)→Option (au_ × aw_)
abbrev aC_.T4:Type:=Int→(List Int)→Int→Int→(List Int)→Option (au_ × aw_)
def aC_.step4 (n:Nat) (k0:aC_.K4) (back:aC_.T4):aC_.T4:=fun i c0 c1 c2 s0=>
 ((ay_ n (aw_.mk c0 c1 c2) 3).bind fun xr1=>(cond (decide (i<(W (1+xr1.1)))) ((ay_ n xr1.2 4).bind fun xr2=>(cl_ (s0.length+([(W (1+xr2.1))]:List Int).length) 8 (back (W (i+1)) xr2.2.b xr2.2.i xr2.2.h (s0++([(W (1+xr2.1))]:List Int))))) (k0 xr1.2.b xr1.2.i xr1.2.h s0)))
def aC_.loop4 (n:Nat) (k0:aC_.K4) (N:Nat):aC_.T4:=b4_ (fun _ _ _ _ _=>none) (aC_.step4 n k0) N
def aC_:Nat→aw_→Option (au_ × aw_)
 |0,_=>none
 |n+1,c=>
  (aC_.loop4 n (fun xy3 xy4 xy5 xy6=>(some ((au_.mk xy6),(aw_.mk xy3 xy4 xy5)))) n 0 c.b c.i c.h ([]:List Int))
def bO_:Nat→Int→Int→Int→Option Bool
 |0,_,_,_=>none
 |n+1,x,lo,hi=>
  (cond (decide (x≥lo)) (some (decide (x≤hi))) (some false))
abbrev aW_.K3:Type:=(List Int)→Option Bool
abbrev aW_.T3:Type:=Int→(List Int)→Option Bool
def aW_.step3 (n:Nat) (k0:aW_.K3) (back:aW_.T3):aW_.T3:=fun i s0=>
 (cond (decide (i<(s0.length:Int))) (inB i s0.length ((bO_ n (s0.getD i.toNat 0) 1 4).bind fun xr1=>(cond (!xr1) (some false) (back (W (i+1)) s0)))) (k0 s0))
def aW_.loop3 (n:Nat) (k0:aW_.K3) (N:Nat):aW_.T3:=b4_ (fun _ _=>none) (aW_.step3 n k0) N
def aW_:Nat→au_→Option Bool
 |0,_=>none
 |n+1,s=>
  (aW_.loop3 n (fun xy2=>((bO_ n (xy2.length:Int) 1 3).bind fun xr3=>(some xr3))) n 0 s.cols)
def cG_:Nat→au_→Option au_
 |0,_=>none
 |n+1,s=>
  (cl_ (([]:List Int).length+s.cols.length) 8 (some (au_.mk (([]:List Int)++s.cols))))
def cR_:Nat→au_→Option (an_ × Bool)
 |0,_=>none
 |n+1,s=>
  ((aW_ n s).bind fun xr1=>(cond (!xr1) (some ((an_.mk (au_.mk ([]:List Int)) 0 ([]:List (List TRow))),false)) ((cG_ n s).bind fun xr2=>(cond (decide ((s.cols.length:Int)=(s.cols.length:Int))) (cond (decide (0≤(s.cols.length:Int))) (cond (decide ((s.cols.length:Int)*24≤140737488355328)) (some ((an_.mk xr2 0 (List.replicate (s.cols.length:Int).toNat [])),true)) none) none) none))))
abbrev aP_.K4:Type:=(List Int)→Int→Int→Int→Int→(List Int)→Option (TRow × aw_)
abbrev aP_.T4:Type:=Int→Int→(List Int)→Int→Int→Int→Int→(List Int)→Option (TRow × aw_)
def aP_.step4 (n:Nat) (k0:aP_.K4) (back:aP_.T4):aP_.T4:=fun cols i c0 c1 c2 t40 r0 r1=>
 (cond (decide (i<cols)) ((ay_ n (aw_.mk c0 c1 c2) 6).bind fun xr2=>(cl_ (r1.length+([xr2.1]:List Int).length) 8 (back cols (W (i+1)) xr2.2.b xr2.2.i xr2.2.h t40 r0 (r1++([xr2.1]:List Int))))) (k0 c0 c1 c2 t40 r0 r1))
def aP_.loop4 (n:Nat) (k0:aP_.K4) (N:Nat):aP_.T4:=b4_ (fun _ _ _ _ _ _ _ _=>none) (aP_.step4 n k0) N
def aP_:Nat→aw_→Int→Option (TRow × aw_)
 |0,_,_=>none
 |n+1,c,cols=>
  ((ay_ n c 12).bind fun xr1=>(aP_.loop4 n (fun xy3 xy4 xy5 xy6 xy7 xy8=>(some ((TRow.mk xy7 xy8),(aw_.mk xy3 xy4 xy5)))) n cols 0 xr1.2.b xr1.2.i xr1.2.h 0 (W (1+xr1.1)) ([]:List Int)))
abbrev bI_.T3:Type:=(List TRow)→Int→Int→Option Int
def bI_.step3 (n:Nat) (k0:Option Int) (back:bI_.T3):bI_.T3:=fun rows id_1 i=>
 (cond (decide (i<(rows.length:Int))) (inB i rows.length (cond (((rows.getD i.toNat TRow.dflt).id_) == id_1) (some i) (back rows id_1 (W (i+1))))) k0)
def bI_.loop3 (n:Nat) (k0:Option Int) (N:Nat):bI_.T3:=b4_ (fun _ _ _=>none) (bI_.step3 n k0) N
def bI_:Nat→(List TRow)→Int→Option Int
 |0,_,_=>none
 |n+1,rows,id1=>
  (bI_.loop3 n (some (-1)) n rows id1 0)
def bT_:Nat→TRow→Option TRow
 |0,_=>none
 |n+1,r=>
  (cl_ (([]:List Int).length+r.cells.length) 8 (some (TRow.mk r.id_ (([]:List Int)++r.cells))))
abbrev a7_.K5:Type:=(List TRow)→Option (List TRow)
abbrev a7_.T5:Type:=(List TRow)→Int→Int→(List TRow)→Option (List TRow)
def a7_.step5 (n:Nat) (k0:a7_.K5) (back:a7_.T5):a7_.T5:=fun rows at_1 i out_1=>
 (cond (decide (i<(rows.length:Int))) (cond (i != at_1) (inB i rows.length ((bT_ n (rows.getD i.toNat TRow.dflt)).bind fun xr2=>(cl_ (out_1.length+([xr2]:List TRow).length) 32 (back rows at_1 (W (i+1)) (out_1++([xr2]:List TRow)))))) (back rows at_1 (W (i+1)) out_1)) (k0 out_1))
def a7_.loop5 (n:Nat) (k0:a7_.K5) (N:Nat):a7_.T5:=b4_ (fun _ _ _ _=>none) (a7_.step5 n k0) N
def a7_:Nat→(List TRow)→Int→Option (List TRow)
 |0,_,_=>none
 |n+1,rows,id1=>
  ((bI_ n rows id1).bind fun xr1=>(a7_.loop5 n (fun xy3=>(some xy3)) n rows xr1 0 ([]:List TRow)))
abbrev bf_.K6:Type:=Int→Int→(List Int)→(List TRow)→Option (List TRow)
abbrev bf_.T6:Type:=Int→Int→Int→(List Int)→(List TRow)→Option (List TRow)
def bf_.step6 (n:Nat) (k0:bf_.K6) (back:bf_.T6):bf_.T6:=fun at_1 i r0 r1 out_1=>
 (cond (decide (i≥0)) (inB i out_1.length (cond (decide (((out_1.getD i.toNat TRow.dflt).id_) > r0)) (back i (W (i - 1)) r0 r1 out_1) (back at_1 (W (i - 1)) r0 r1 out_1))) (k0 at_1 r0 r1 out_1))
def bf_.loop6 (n:Nat) (k0:bf_.K6) (N:Nat):bf_.T6:=b4_ (fun _ _ _ _ _=>none) (bf_.step6 n k0) N
def bf_:Nat→(List TRow)→TRow→Option (List TRow)
 |0,_,_=>none
 |n+1,rows,r=>
  ((a7_ n rows r.id_).bind fun xr1=>((bI_ n rows r.id_).bind fun xr2=>(cond (decide (xr2≥0)) ((bI_ n rows r.id_).bind fun xr3=>(j6_ 0 xr3 xr1.length (cl_ (([]:List TRow).length+((xr1.take xr3.toNat).drop 0).length) 32 ((bT_ n r).bind fun xr4=>(cl_ ((([]:List TRow)++((xr1.take xr3.toNat).drop 0)).length+([xr4]:List TRow).length) 32 (j6_ xr3 (xr1.length:Int) xr1.length (cl_ (((([]:List TRow)++((xr1.take xr3.toNat).drop 0))++([xr4]:List TRow)).length+((xr1.take ((xr1.length:Int).toNat)).drop xr3.toNat).length) 32 (some (((([]:List TRow)++((xr1.take xr3.toNat).drop 0))++([xr4]:List TRow))++((xr1.take ((xr1.length:Int).toNat)).drop xr3.toNat)))))))))) (bf_.loop6 n (fun xy5 xy6 xy7 xy8=>(j6_ 0 xy5 xy8.length (cl_ (([]:List TRow).length+((xy8.take xy5.toNat).drop 0).length) 32 ((bT_ n (TRow.mk xy6 xy7)).bind fun xr9=>(cl_ ((([]:List TRow)++((xy8.take xy5.toNat).drop 0)).length+([xr9]:List TRow).length) 32 (j6_ xy5 (xy8.length:Int) xy8.length (cl_ (((([]:List TRow)++((xy8.take xy5.toNat).drop 0))++([xr9]:List TRow)).length+((xy8.take ((xy8.length:Int).toNat)).drop xy5.toNat).length) 32 (some (((([]:List TRow)++((xy8.take xy5.toNat).drop 0))++([xr9]:List TRow))++((xy8.take ((xy8.length:Int).toNat)).drop xy5.toNat)))))))))) n (xr1.length:Int) (W ((xr1.length:Int) - 1)) r.id_ r.cells xr1))))
abbrev aK_.K4:Type:=(List Int)→Int→Int→(List TRow)→Option ((List TRow) × aw_)
abbrev aK_.T4:Type:=Int→Int→(List Int)→Int→Int→(List TRow)→Option ((List TRow) × aw_)
def aK_.step4 (n:Nat) (k0:aK_.K4) (back:aK_.T4):aK_.T4:=fun cols i c0 c1 c2 out_1=>
 ((ay_ n (aw_.mk c0 c1 c2) 9).bind fun xr1=>(cond (decide (i<xr1.1)) ((aP_ n xr1.2 cols).bind fun xr2=>((bf_ n out_1 xr2.1).bind fun xr3=>(back cols (W (i+1)) xr2.2.b xr2.2.i xr2.2.h xr3))) (k0 xr1.2.b xr1.2.i xr1.2.h out_1)))
def aK_.loop4 (n:Nat) (k0:aK_.K4) (N:Nat):aK_.T4:=b4_ (fun _ _ _ _ _ _=>none) (aK_.step4 n k0) N
def aK_:Nat→aw_→Int→Option ((List TRow) × aw_)
 |0,_,_=>none
 |n+1,c,cols=>
  (aK_.loop4 n (fun xy4 xy5 xy6 xy7=>(some (xy7,(aw_.mk xy4 xy5 xy6)))) n cols 0 c.b c.i c.h ([]:List TRow))
abbrev aH_.K4:Type:=(List Int)→Int→Int→Int→Int→(List Int)→(List (List TRow))→Option (an_ × aw_)
abbrev aH_.T4:Type:=Int→(List Int)→Int→Int→Int→Int→(List Int)→(List (List TRow))→Option (an_ × aw_)
def aH_.step4 (n:Nat) (k0:aH_.K4) (back:aH_.T4):aH_.T4:=fun t c0 c1 c2 t21 s1 s0 s2=>
 (cond (decide (t<(s2.length:Int))) (inB t s0.length ((aK_ n (aw_.mk c0 c1 c2) (s0.getD t.toNat 0)).bind fun xr3=>(inB t s2.length (let xa4:List (List TRow):=s2.set t.toNat xr3.1;(back (W (t+1)) xr3.2.b xr3.2.i xr3.2.h t21 s1 s0 xa4))))) (k0 c0 c1 c2 t21 s1 s0 s2))
def aH_.loop4 (n:Nat) (k0:aH_.K4) (N:Nat):aH_.T4:=b4_ (fun _ _ _ _ _ _ _ _=>none) (aH_.step4 n k0) N
def aH_:Nat→aw_→Option (an_ × aw_)
 |0,_=>none
 |n+1,c=>
  ((aC_ n c).bind fun xr1=>((cR_ n xr1.1).bind fun xr2=>(aH_.loop4 n (fun xy5 xy6 xy7 xy8 xy9 xy10 xy11=>((ay_ n (aw_.mk xy5 xy6 xy7) 5).bind fun xr12=>(some ((an_.mk (au_.mk xy10) xr12.1 xy11),xr12.2)))) n 0 xr1.2.b xr1.2.i xr1.2.h 0 xr2.1.version xr2.1.schema.cols xr2.1.tables)))
def ce_:Nat→Int→Int→Option Int
 |0,_,_=>none
 |n+1,a,b=>
  (cond (decide (a > b)) (some a) (some b))
def ck_:Nat→aw_→Int→Option (Bool × aw_)
 |0,_,_=>none
 |n+1,c,n1=>
  ((ay_ n c n1).bind fun xr1=>(some ((xr1.1 == 0),xr1.2)))
def bC_:Nat→aw_→(List Int)→Option (Int × aw_)
 |0,_,_=>none
 |n+1,c,list=>
  ((ay_ n c (list.length:Int)).bind fun xr1=>(inB xr1.1 list.length (some ((list.getD xr1.1.toNat 0),xr1.2))))
abbrev af_.K7:Type:=Int→(List Int)→Int→Int→(List Int)→Int→Int→Bool→Int→Bool→Int→Int→Int→Int→Bool→Int→Bool→Int→Int→(List aY_)→Option (ae_ × aw_)
abbrev af_.T7:Type:=Int→Int→(List Int)→Int→Int→(List Int)→Int→Int→Bool→Int→Bool→Int→Int→Int→Int→Bool→Int→Bool→Int→Int→(List aY_)→Option (ae_ × aw_)
def af_.step7 (n:Nat) (k0:af_.K7) (back:af_.T7):af_.T7:=fun t6 t7 o0 o1 o2 t30 t40 t42 t43 t44 t46 t47 t48 t50 t52 t53 t54 t56 t57 t58 t51=>
 ((ay_ n (aw_.mk o0 o1 o2) 3).bind fun xr4=>(cond (decide (t7<xr4.1)) ((ay_ n xr4.2 t6).bind fun xr5=>((ay_ n xr5.2 4).bind fun xr6=>((ay_ n xr6.2 6).bind fun xr7=>(cl_ (t51.length+([(aY_.mk xr5.1 (W (1+xr6.1)) xr7.1)]:List aY_).length) 24 (back t6 (W (t7+1)) xr7.2.b xr7.2.i xr7.2.h t30 t40 t42 t43 t44 t46 t47 t48 t50 t52 t53 t54 t56 t57 t58 (t51++([(aY_.mk xr5.1 (W (1+xr6.1)) xr7.1)]:List aY_))))))) (k0 t6 xr4.2.b xr4.2.i xr4.2.h t30 t40 t42 t43 t44 t46 t47 t48 t50 t52 t53 t54 t56 t57 t58 t51)))
def af_.loop7 (n:Nat) (k0:af_.K7) (N:Nat):af_.T7:=b4_ (fun _ _ _ _ _ _ _ _ _ _ _ _ _ _ _ _ _ _ _ _ _=>none) (af_.step7 n k0) N
abbrev af_.K16:Type:=(List Int)→Int→Int→(List Int)→Int→Int→Bool→Int→Bool→Int→Int→Int→Int→Bool→Int→Bool→Int→Int→(List aY_)→(List Int)→Option (ae_ × aw_)
abbrev af_.T16:Type:=Int→Int→(List Int)→Int→Int→(List Int)→Int→Int→Bool→Int→Bool→Int→Int→Int→Int→Bool→Int→Bool→Int→Int→(List aY_)→(List Int)→Option (ae_ × aw_)
def af_.step16 (n:Nat) (k2:af_.K16) (back:af_.T16):af_.T16:=fun t6 t8 o0 o1 o2 t30 t40 t42 t43 t44 t46 t47 t48 t50 t52 t53 t54 t56 t57 t58 t51 t55=>
 (cond (decide (t8<t6)) ((ck_ n (aw_.mk o0 o1 o2) 2).bind fun xr31=>(cond xr31.1 (cl_ (t55.length+([t8]:List Int).length) 8 (back t6 (W (t8+1)) xr31.2.b xr31.2.i xr31.2.h t30 t40 t42 t43 t44 t46 t47 t48 t50 t52 t53 t54 t56 t57 t58 t51 (t55++([t8]:List Int)))) (back t6 (W (t8+1)) xr31.2.b xr31.2.i xr31.2.h t30 t40 t42 t43 t44 t46 t47 t48 t50 t52 t53 t54 t56 t57 t58 t51 t55))) (k2 o0 o1 o2 t30 t40 t42 t43 t44 t46 t47 t48 t50 t52 t53 t54 t56 t57 t58 t51 t55))
def af_.loop16 (n:Nat) (k2:af_.K16) (N:Nat):af_.T16:=b4_ (fun _ _ _ _ _ _ _ _ _ _ _ _ _ _ _ _ _ _ _ _ _ _=>none) (af_.step16 n k2) N
def af_:Nat→aw_→au_→Option (ae_ × aw_)
 |0,_,_=>none
 |n+1,o,append=>
  ((ce_ n (append.cols.length:Int) 1).bind fun xr1=>((ay_ n o xr1).bind fun xr2=>(cond (decide (xr2.1<(append.cols.length:Int))) (inB xr2.1 append.cols.length ((ce_ n (append.cols.getD xr2.1.toNat 0) 1).bind fun xr3=>(af_.loop7 n (fun xy8 xy9 xy10 xy11 xy12 xy13 xy14 xy15 xy16 xy17 xy18 xy19 xy20 xy21 xy22 xy23 xy24 xy25 xy26 xy27=>((ay_ n (aw_.mk xy9 xy10 xy11) (W (xy8+1))).bind fun xr28=>(cond (decide (xr28.1 > 0)) ((ck_ n xr28.2 2).bind fun xr29=>((bC_ n xr29.2 ([0,0,1,2,3,5]:List Int)).bind fun xr30=>(af_.loop16 n (fun xy32 xy33 xy34 xy35 xy36 xy37 xy38 xy39 xy40 xy41 xy42 xy43 xy44 xy45 xy46 xy47 xy48 xy49 xy50 xy51=>((ck_ n (aw_.mk xy32 xy33 xy34) 2).bind fun xr52=>(cond xr52.1 ((ce_ n (xy35.length:Int) 1).bind fun xr53=>((ay_ n xr52.2 xr53).bind fun xr54=>(cond (decide (xr54.1<(xy35.length:Int))) (inB xr54.1 xy35.length ((ce_ n (xy35.getD xr54.1.toNat 0) 1).bind fun xr55=>((ay_ n xr54.2 xr55).bind fun xr56=>(some ((ae_.mk xy43 xy50 xy44 xy45 xy46 xy51 true xr54.1 xr56.1),xr56.2))))) (some ((ae_.mk xy43 xy50 xy44 xy45 xy46 xy51 true xr54.1 xy49),xr54.2))))) (some ((ae_.mk xy43 xy50 xy44 xy45 xy46 xy51 xy47 xy48 xy49),xr52.2))))) n xy8 0 xr30.2.b xr30.2.i xr30.2.h xy12 xy13 xy14 xy15 xy16 xy17 xy18 xy19 xy20 xr28.1 xr29.1 xr30.1 xy24 xy25 xy26 xy27 ([]:List Int)))) ((bC_ n xr28.2 ([0,0,1,2,3,5]:List Int)).bind fun xr57=>(af_.loop16 n (fun xy58 xy59 xy60 xy61 xy62 xy63 xy64 xy65 xy66 xy67 xy68 xy69 xy70 xy71 xy72 xy73 xy74 xy75 xy76 xy77=>((ck_ n (aw_.mk xy58 xy59 xy60) 2).bind fun xr78=>(cond xr78.1 ((ce_ n (xy61.length:Int) 1).bind fun xr79=>((ay_ n xr78.2 xr79).bind fun xr80=>(cond (decide (xr80.1<(xy61.length:Int))) (inB xr80.1 xy61.length ((ce_ n (xy61.getD xr80.1.toNat 0) 1).bind fun xr81=>((ay_ n xr80.2 xr81).bind fun xr82=>(some ((ae_.mk xy69 xy76 xy70 xy71 xy72 xy77 true xr80.1 xr82.1),xr82.2))))) (some ((ae_.mk xy69 xy76 xy70 xy71 xy72 xy77 true xr80.1 xy75),xr80.2))))) (some ((ae_.mk xy69 xy76 xy70 xy71 xy72 xy77 xy73 xy74 xy75),xr78.2))))) n xy8 0 xr57.2.b xr57.2.i xr57.2.h xy12 xy13 xy14 xy15 xy16 xy17 xy18 xy19 xy20 xr28.1 false xr57.1 xy24 xy25 xy26 xy27 ([]:List Int)))))) n xr3 0 xr2.2.b xr2.2.i xr2.2.h append.cols 0 0 false 0 false 0 0 xr2.1 0 false 0 false 0 0 ([]:List aY_)))) (af_.loop7 n (fun xy83 xy84 xy85 xy86 xy87 xy88 xy89 xy90 xy91 xy92 xy93 xy94 xy95 xy96 xy97 xy98 xy99 xy100 xy101 xy102=>((ay_ n (aw_.mk xy84 xy85 xy86) (W (xy83+1))).bind fun xr103=>(cond (decide (xr103.1 > 0)) ((ck_ n xr103.2 2).bind fun xr104=>((bC_ n xr104.2 ([0,0,1,2,3,5]:List Int)).bind fun xr105=>(af_.loop16 n (fun xy106 xy107 xy108 xy109 xy110 xy111 xy112 xy113 xy114 xy115 xy116 xy117 xy118 xy119 xy120 xy121 xy122 xy123 xy124 xy125=>((ck_ n (aw_.mk xy106 xy107 xy108) 2).bind fun xr126=>(cond xr126.1 ((ce_ n (xy109.length:Int) 1).bind fun xr127=>((ay_ n xr126.2 xr127).bind fun xr128=>(cond (decide (xr128.1<(xy109.length:Int))) (inB xr128.1 xy109.length ((ce_ n (xy109.getD xr128.1.toNat 0) 1).bind fun xr129=>((ay_ n xr128.2 xr129).bind fun xr130=>(some ((ae_.mk xy117 xy124 xy118 xy119 xy120 xy125 true xr128.1 xr130.1),xr130.2))))) (some ((ae_.mk xy117 xy124 xy118 xy119 xy120 xy125 true xr128.1 xy123),xr128.2))))) (some ((ae_.mk xy117 xy124 xy118 xy119 xy120 xy125 xy121 xy122 xy123),xr126.2))))) n xy83 0 xr105.2.b xr105.2.i xr105.2.h xy87 xy88 xy89 xy90 xy91 xy92 xy93 xy94 xy95 xr103.1 xr104.1 xr105.1 xy99 xy100 xy101 xy102 ([]:List Int)))) ((bC_ n xr103.2 ([0,0,1,2,3,5]:List Int)).bind fun xr131=>(af_.loop16 n (fun xy132 xy133 xy134 xy135 xy136 xy137 xy138 xy139 xy140 xy141 xy142 xy143 xy144 xy145 xy146 xy147 xy148 xy149 xy150 xy151=>((ck_ n (aw_.mk xy132 xy133 xy134) 2).bind fun xr152=>(cond xr152.1 ((ce_ n (xy135.length:Int) 1).bind fun xr153=>((ay_ n xr152.2 xr153).bind fun xr154=>(cond (decide (xr154.1<(xy135.length:Int))) (inB xr154.1 xy135.length ((ce_ n (xy135.getD xr154.1.toNat 0) 1).bind fun xr155=>((ay_ n xr154.2 xr155).bind fun xr156=>(some ((ae_.mk xy143 xy150 xy144 xy145 xy146 xy151 true xr154.1 xr156.1),xr156.2))))) (some ((ae_.mk xy143 xy150 xy144 xy145 xy146 xy151 true xr154.1 xy149),xr154.2))))) (some ((ae_.mk xy143 xy150 xy144 xy145 xy146 xy151 xy147 xy148 xy149),xr152.2))))) n xy83 0 xr131.2.b xr131.2.i xr131.2.h xy87 xy88 xy89 xy90 xy91 xy92 xy93 xy94 xy95 xr103.1 false xr131.1 xy99 xy100 xy101 xy102 ([]:List Int)))))) n 1 0 xr2.2.b xr2.2.i xr2.2.h append.cols 0 0 false 0 false 0 0 xr2.1 0 false 0 false 0 0 ([]:List aY_)))))
def cH_:Nat→aw_→an_→Option (TMut × aw_)
 |0,_,_=>none
 |n+1,o,append=>
  ((ce_ n (append.tables.length:Int) 1).bind fun xr1=>((ay_ n o xr1).bind fun xr2=>(cond (decide (xr2.1≥(append.tables.length:Int))) (some ((TMut.mk 3 0 (TRow.mk 1 ([]:List Int))),xr2.2)) (cond (decide (xr2.1≥(append.schema.cols.length:Int))) (some ((TMut.mk 3 0 (TRow.mk 1 ([]:List Int))),xr2.2)) ((ay_ n xr2.2 3).bind fun xr3=>(inB xr2.1 append.schema.cols.length ((aP_ n xr3.2 (append.schema.cols.getD xr2.1.toNat 0)).bind fun xr4=>(cond ((W (1+xr3.1)) != 1) (inB xr2.1 append.tables.length (cond (decide (((append.tables.getD xr2.1.toNat []).length:Int) > 0)) ((ck_ n xr4.2 9).bind fun xr5=>(cond (!xr5.1) (inB xr2.1 append.tables.length (inB xr2.1 append.tables.length ((ay_ n xr5.2 ((append.tables.getD xr2.1.toNat []).length:Int)).bind fun xr6=>(inB xr6.1 (append.tables.getD xr2.1.toNat []).length (cond ((W (1+xr3.1)) == 3) ((ay_ n xr6.2 25).bind fun xr7=>(cond (xr7.1 == 0) ((ay_ n xr7.2 5).bind fun xr8=>(some ((TMut.mk xr8.1 xr2.1 (TRow.mk (((append.tables.getD xr2.1.toNat []).getD xr6.1.toNat TRow.dflt).id_) ([]:List Int))),xr8.2))) (cond (xr7.1 == 1) ((ay_ n xr7.2 5).bind fun xr9=>(some ((TMut.mk (W (1+xr3.1)) (W (xr9.1 - 1)) (TRow.mk (((append.tables.getD xr2.1.toNat []).getD xr6.1.toNat TRow.dflt).id_) ([]:List Int))),xr9.2))) (cond (xr7.1 == 2) ((bC_ n xr7.2 ([0,999,1000]:List Int)).bind fun xr10=>(some ((TMut.mk (W (1+xr3.1)) xr2.1 (TRow.mk xr10.1 ([]:List Int))),xr10.2))) (some ((TMut.mk (W (1+xr3.1)) xr2.1 (TRow.mk (((append.tables.getD xr2.1.toNat []).getD xr6.1.toNat TRow.dflt).id_) ([]:List Int))),xr7.2)))))) ((ay_ n xr6.2 25).bind fun xr11=>(cond (xr11.1 == 0) ((ay_ n xr11.2 5).bind fun xr12=>(some ((TMut.mk xr12.1 xr2.1 (TRow.mk (((append.tables.getD xr2.1.toNat []).getD xr6.1.toNat TRow.dflt).id_) xr4.1.cells)),xr12.2))) (cond (xr11.1 == 1) ((ay_ n xr11.2 5).bind fun xr13=>(some ((TMut.mk (W (1+xr3.1)) (W (xr13.1 - 1)) (TRow.mk (((append.tables.getD xr2.1.toNat []).getD xr6.1.toNat TRow.dflt).id_) xr4.1.cells)),xr13.2))) (cond (xr11.1 == 2) ((bC_ n xr11.2 ([0,999,1000]:List Int)).bind fun xr14=>(some ((TMut.mk (W (1+xr3.1)) xr2.1 (TRow.mk xr14.1 xr4.1.cells)),xr14.2))) (some ((TMut.mk (W (1+xr3.1)) xr2.1 (TRow.mk (((append.tables.getD xr2.1.toNat []).getD xr6.1.toNat TRow.dflt).id_) xr4.1.cells)),xr11.2))))))))))) (cond ((W (1+xr3.1)) == 3) ((ay_ n xr5.2 25).bind fun xr15=>(cond (xr15.1 == 0) ((ay_ n xr15.2 5).bind fun xr16=>(some ((TMut.mk xr16.1 xr2.1 (TRow.mk xr4.1.id_ ([]:List Int))),xr16.2))) (cond (xr15.1 == 1) ((ay_ n xr15.2 5).bind fun xr17=>(some ((TMut.mk (W (1+xr3.1)) (W (xr17.1 - 1)) (TRow.mk xr4.1.id_ ([]:List Int))),xr17.2))) (cond (xr15.1 == 2) ((bC_ n xr15.2 ([0,999,1000]:List Int)).bind fun xr18=>(some ((TMut.mk (W (1+xr3.1)) xr2.1 (TRow.mk xr18.1 ([]:List Int))),xr18.2))) (some ((TMut.mk (W (1+xr3.1)) xr2.1 (TRow.mk xr4.1.id_ ([]:List Int))),xr15.2)))))) ((ay_ n xr5.2 25).bind fun xr19=>(cond (xr19.1 == 0) ((ay_ n xr19.2 5).bind fun xr20=>(some ((TMut.mk xr20.1 xr2.1 xr4.1),xr20.2))) (cond (xr19.1 == 1) ((ay_ n xr19.2 5).bind fun xr21=>(some ((TMut.mk (W (1+xr3.1)) (W (xr21.1 - 1)) xr4.1),xr21.2))) (cond (xr19.1 == 2) ((bC_ n xr19.2 ([0,999,1000]:List Int)).bind fun xr22=>(some ((TMut.mk (W (1+xr3.1)) xr2.1 (TRow.mk xr22.1 xr4.1.cells)),xr22.2))) (some ((TMut.mk (W (1+xr3.1)) xr2.1 xr4.1),xr19.2))))))))) (cond ((W (1+xr3.1)) == 3) ((ay_ n xr4.2 25).bind fun xr23=>(cond (xr23.1 == 0) ((ay_ n xr23.2 5).bind fun xr24=>(some ((TMut.mk xr24.1 xr2.1 (TRow.mk xr4.1.id_ ([]:List Int))),xr24.2))) (cond (xr23.1 == 1) ((ay_ n xr23.2 5).bind fun xr25=>(some ((TMut.mk (W (1+xr3.1)) (W (xr25.1 - 1)) (TRow.mk xr4.1.id_ ([]:List Int))),xr25.2))) (cond (xr23.1 == 2) ((bC_ n xr23.2 ([0,999,1000]:List Int)).bind fun xr26=>(some ((TMut.mk (W (1+xr3.1)) xr2.1 (TRow.mk xr26.1 ([]:List Int))),xr26.2))) (some ((TMut.mk (W (1+xr3.1)) xr2.1 (TRow.mk xr4.1.id_ ([]:List Int))),xr23.2)))))) ((ay_ n xr4.2 25).bind fun xr27=>(cond (xr27.1 == 0) ((ay_ n xr27.2 5).bind fun xr28=>(some ((TMut.mk xr28.1 xr2.1 xr4.1),xr28.2))) (cond (xr27.1 == 1) ((ay_ n xr27.2 5).bind fun xr29=>(some ((TMut.mk (W (1+xr3.1)) (W (xr29.1 - 1)) xr4.1),xr29.2))) (cond (xr27.1 == 2) ((bC_ n xr27.2 ([0,999,1000]:List Int)).bind fun xr30=>(some ((TMut.mk (W (1+xr3.1)) xr2.1 (TRow.mk xr30.1 xr4.1.cells)),xr30.2))) (some ((TMut.mk (W (1+xr3.1)) xr2.1 xr4.1),xr27.2))))))))) (cond ((W (1+xr3.1)) == 3) ((ay_ n xr4.2 25).bind fun xr31=>(cond (xr31.1 == 0) ((ay_ n xr31.2 5).bind fun xr32=>(some ((TMut.mk xr32.1 xr2.1 (TRow.mk xr4.1.id_ ([]:List Int))),xr32.2))) (cond (xr31.1 == 1) ((ay_ n xr31.2 5).bind fun xr33=>(some ((TMut.mk (W (1+xr3.1)) (W (xr33.1 - 1)) (TRow.mk xr4.1.id_ ([]:List Int))),xr33.2))) (cond (xr31.1 == 2) ((bC_ n xr31.2 ([0,999,1000]:List Int)).bind fun xr34=>(some ((TMut.mk (W (1+xr3.1)) xr2.1 (TRow.mk xr34.1 ([]:List Int))),xr34.2))) (some ((TMut.mk (W (1+xr3.1)) xr2.1 (TRow.mk xr4.1.id_ ([]:List Int))),xr31.2)))))) ((ay_ n xr4.2 25).bind fun xr35=>(cond (xr35.1 == 0) ((ay_ n xr35.2 5).bind fun xr36=>(some ((TMut.mk xr36.1 xr2.1 xr4.1),xr36.2))) (cond (xr35.1 == 1) ((ay_ n xr35.2 5).bind fun xr37=>(some ((TMut.mk (W (1+xr3.1)) (W (xr37.1 - 1)) xr4.1),xr37.2))) (cond (xr35.1 == 2) ((bC_ n xr35.2 ([0,999,1000]:List Int)).bind fun xr38=>(some ((TMut.mk (W (1+xr3.1)) xr2.1 (TRow.mk xr38.1 xr4.1.cells)),xr38.2))) (some ((TMut.mk (W (1+xr3.1)) xr2.1 xr4.1),xr35.2)))))))))))))))
abbrev bJ_.T6:Type:=Int→Int→(List Int)→Option Bool
def bJ_.step6 (n:Nat) (k0:Option Bool) (back:bJ_.T6):bJ_.T6:=fun i r0 r1=>
 (cond (decide (i<(r1.length:Int))) (inB i r1.length ((bO_ n (r1.getD i.toNat 0) (-1000000000) 1000000000).bind fun xr4=>(cond (!xr4) (some false) (back (W (i+1)) r0 r1)))) k0)
def bJ_.loop6 (n:Nat) (k0:Option Bool) (N:Nat):bJ_.T6:=b4_ (fun _ _ _=>none) (bJ_.step6 n k0) N
def bJ_:Nat→au_→Int→TRow→Option Bool
 |0,_,_,_=>none
 |n+1,s,table,r=>
  ((aW_ n s).bind fun xr1=>(cond (!xr1) (some false) ((bO_ n table 0 (W ((s.cols.length:Int) - 1))).bind fun xr2=>(cond (!xr2) (some false) ((bO_ n r.id_ 1 999).bind fun xr3=>(cond (!xr3) (some false) (inB table s.cols.length (cond ((r.cells.length:Int) != (s.cols.getD table.toNat 0)) (some false) (bJ_.loop6 n (some true) n 0 r.id_ r.cells)))))))))
abbrev bu_.K3:Type:=Int→(List TRow)→(List Int)→Option Bool
abbrev bu_.T3:Type:=Int→(List TRow)→Int→(List Int)→Option Bool
def bu_.step3 (n:Nat) (k0:bu_.K3) (back:bu_.T3):bu_.T3:=fun table rows i s0=>
 (cond (decide (i<(rows.length:Int))) (inB i rows.length ((bJ_ n (au_.mk s0) table (rows.getD i.toNat TRow.dflt)).bind fun xr1=>(cond (!xr1) (some false) (cond (decide (i > 0)) (inB (W (i - 1)) rows.length (inB i rows.length (let xv2:Bool:=(decide (((rows.getD (W (i - 1)).toNat TRow.dflt).id_)≥((rows.getD i.toNat TRow.dflt).id_)));(cond xv2 (some false) (back table rows (W (i+1)) s0))))) (back table rows (W (i+1)) s0))))) (k0 table rows s0))
def bu_.loop3 (n:Nat) (k0:bu_.K3) (N:Nat):bu_.T3:=b4_ (fun _ _ _ _=>none) (bu_.step3 n k0) N
def bu_:Nat→au_→Int→(List TRow)→Option Bool
 |0,_,_,_=>none
 |n+1,s,table,rows=>
  (bu_.loop3 n (fun xy3 xy4 xy5=>((aW_ n (au_.mk xy5)).bind fun xr6=>(cond xr6 ((bO_ n xy3 0 (W ((xy5.length:Int) - 1))).bind fun xr7=>(cond xr7 (some (decide ((xy4.length:Int)≤24))) (some false))) (some false)))) n table rows 0 s.cols)
abbrev be_.T6:Type:=Int→(List Int)→Int→(List (List TRow))→Option Bool
def be_.step6 (n:Nat) (k0:Option Bool) (back:be_.T6):be_.T6:=fun t s0 s1 s2=>
 (cond (decide (t<(s2.length:Int))) (inB t s2.length ((bu_ n (au_.mk s0) t (s2.getD t.toNat [])).bind fun xr3=>(cond (!xr3) (some false) (back (W (t+1)) s0 s1 s2)))) k0)
def be_.loop6 (n:Nat) (k0:Option Bool) (N:Nat):be_.T6:=b4_ (fun _ _ _ _=>none) (be_.step6 n k0) N
def be_:Nat→an_→Option Bool
 |0,_=>none
 |n+1,s=>
  ((aW_ n s.schema).bind fun xr1=>(cond (!xr1) (some false) ((bO_ n s.version 0 100000).bind fun xr2=>(cond (!xr2) (some false) (cond ((s.tables.length:Int) != (s.schema.cols.length:Int)) (some false) (be_.loop6 n (some true) n 0 s.schema.cols s.version s.tables))))))
def dR_:Nat→au_→TMut→Option Bool
 |0,_,_=>none
 |n+1,s,m=>
  (cond (m.kind == 3) ((aW_ n s).bind fun xr1=>(cond xr1 ((bO_ n m.table 0 (W ((s.cols.length:Int) - 1))).bind fun xr2=>(cond xr2 ((bO_ n m.row.id_ 1 999).bind fun xr3=>(cond xr3 (some ((m.row.cells.length:Int) == 0)) (some false))) (some false))) (some false))) ((bO_ n m.kind 1 2).bind fun xr4=>(cond xr4 ((bJ_ n s m.table m.row).bind fun xr5=>(some xr5)) (some false))))
abbrev bs_.K4:Type:=(List TRow)→Option (List TRow)
abbrev bs_.T4:Type:=(List TRow)→Int→(List TRow)→Option (List TRow)
def bs_.step4 (n:Nat) (k0:bs_.K4) (back:bs_.T4):bs_.T4:=fun rows i out_1=>
 (cond (decide (i<(rows.length:Int))) (inB i rows.length ((bT_ n (rows.getD i.toNat TRow.dflt)).bind fun xr1=>(cl_ (out_1.length+([xr1]:List TRow).length) 32 (back rows (W (i+1)) (out_1++([xr1]:List TRow)))))) (k0 out_1))
def bs_.loop4 (n:Nat) (k0:bs_.K4) (N:Nat):bs_.T4:=b4_ (fun _ _ _=>none) (bs_.step4 n k0) N
def bs_:Nat→(List TRow)→Option (List TRow)
 |0,_=>none
 |n+1,rows=>
  (bs_.loop4 n (fun xy2=>(some xy2)) n rows 0 ([]:List TRow))
abbrev bb_.K4:Type:=Int→Int→(List Int)→(List (List TRow))→Option an_
abbrev bb_.T4:Type:=Int→(List Int)→Int→(List (List TRow))→Int→Int→(List Int)→(List (List TRow))→Option an_
def bb_.step4 (n:Nat) (k0:bb_.K4) (back:bb_.T4):bb_.T4:=fun t s0 s1 s2 t21 out1 out0 out2=>
 (cond (decide (t<(s2.length:Int))) (inB t s2.length ((bs_ n (s2.getD t.toNat [])).bind fun xr2=>(cl_ (out2.length+([xr2]:List (List TRow)).length) 24 (back (W (t+1)) s0 s1 s2 t21 out1 out0 (out2++([xr2]:List (List TRow))))))) (k0 t21 out1 out0 out2))
def bb_.loop4 (n:Nat) (k0:bb_.K4) (N:Nat):bb_.T4:=b4_ (fun _ _ _ _ _ _ _ _=>none) (bb_.step4 n k0) N
def bb_:Nat→an_→Option an_
 |0,_=>none
 |n+1,s=>
  ((cG_ n s.schema).bind fun xr1=>(bb_.loop4 n (fun xy3 xy4 xy5 xy6=>(some (an_.mk (au_.mk xy5) xy4 xy6))) n 0 s.schema.cols s.version s.tables 0 s.version xr1.cols ([]:List (List TRow))))
def ed_:Nat→an_→TMut→Option (an_ × aI_ × Bool)
 |0,_,_=>none
 |n+1,o,append=>
  (inB append.table o.tables.length ((bI_ n (o.tables.getD append.table.toNat []) append.row.id_).bind fun xr1=>(cond (!((decide (xr1≥0)) == (append.kind != 1))) (some (o,(aI_.mk 0 false false (TRow.mk 0 ([]:List Int)) (TRow.mk 0 ([]:List Int))),false)) (cond (append.kind == 1) (cond (((o.tables.getD append.table.toNat []).length:Int) == 24) (some (o,(aI_.mk 0 false false (TRow.mk 0 ([]:List Int)) (TRow.mk 0 ([]:List Int))),false)) (cond (append.kind != 1) (inB xr1 (o.tables.getD append.table.toNat []).length ((bT_ n ((o.tables.getD append.table.toNat []).getD xr1.toNat TRow.dflt)).bind fun xr2=>(cond (append.kind != 3) ((bT_ n append.row).bind fun xr3=>((bf_ n (o.tables.getD append.table.toNat []) append.row).bind fun xr4=>(inB append.table o.tables.length (let xa5:List (List TRow):=o.tables.set append.table.toNat xr4;(some ((an_.mk o.schema o.version xa5),(aI_.mk append.table (append.kind != 1) (append.kind != 3) xr2 xr3),true)))))) ((a7_ n (o.tables.getD append.table.toNat []) append.row.id_).bind fun xr6=>(inB append.table o.tables.length (let xa7:List (List TRow):=o.tables.set append.table.toNat xr6;(some ((an_.mk o.schema o.version xa7),(aI_.mk append.table (append.kind != 1) (append.kind != 3) xr2 (TRow.mk 0 ([]:List Int))),true)))))))) (cond (append.kind != 3) ((bT_ n append.row).bind fun xr8=>((bf_ n (o.tables.getD append.table.toNat []) append.row).bind fun xr9=>(inB append.table o.tables.length (let xa10:List (List TRow):=o.tables.set append.table.toNat xr9;(some ((an_.mk o.schema o.version xa10),(aI_.mk append.table (append.kind != 1) (append.kind != 3) (TRow.mk 0 ([]:List Int)) xr8),true)))))) ((a7_ n (o.tables.getD append.table.toNat []) append.row.id_).bind fun xr11=>(inB append.table o.tables.length (let xa12:List (List TRow):=o.tables.set append.table.toNat xr11;(some ((an_.mk o.schema o.version xa12),(aI_.mk append.table (append.kind != 1) (append.kind != 3) (TRow.mk 0 ([]:List Int)) (TRow.mk 0 ([]:List Int))),true)))))))) (cond (append.kind != 1) (inB xr1 (o.tables.getD append.table.toNat []).length ((bT_ n ((o.tables.getD append.table.toNat []).getD xr1.toNat TRow.dflt)).bind fun xr13=>(cond (append.kind != 3) ((bT_ n append.row).bind fun xr14=>((bf_ n (o.tables.getD append.table.toNat []) append.row).bind fun xr15=>(inB append.table o.tables.length (let xa16:List (List TRow):=o.tables.set append.table.toNat xr15;(some ((an_.mk o.schema o.version xa16),(aI_.mk append.table (append.kind != 1) (append.kind != 3) xr13 xr14),true)))))) ((a7_ n (o.tables.getD append.table.toNat []) append.row.id_).bind fun xr17=>(inB append.table o.tables.length (let xa18:List (List TRow):=o.tables.set append.table.toNat xr17;(some ((an_.mk o.schema o.version xa18),(aI_.mk append.table (append.kind != 1) (append.kind != 3) xr13 (TRow.mk 0 ([]:List Int))),true)))))))) (cond (append.kind != 3) ((bT_ n append.row).bind fun xr19=>((bf_ n (o.tables.getD append.table.toNat []) append.row).bind fun xr20=>(inB append.table o.tables.length (let xa21:List (List TRow):=o.tables.set append.table.toNat xr20;(some ((an_.mk o.schema o.version xa21),(aI_.mk append.table (append.kind != 1) (append.kind != 3) (TRow.mk 0 ([]:List Int)) xr19),true)))))) ((a7_ n (o.tables.getD append.table.toNat []) append.row.id_).bind fun xr22=>(inB append.table o.tables.length (let xa23:List (List TRow):=o.tables.set append.table.toNat xr22;(some ((an_.mk o.schema o.version xa23),(aI_.mk append.table (append.kind != 1) (append.kind != 3) (TRow.mk 0 ([]:List Int)) (TRow.mk 0 ([]:List Int))),true)))))))))))
def dA_:Nat→an_→TMut→Option (an_ × aI_ × Bool)
 |0,_,_=>none
 |n+1,s,m=>
  ((be_ n s).bind fun xr1=>(cond (!xr1) (some ((an_.mk (au_.mk ([]:List Int)) 0 ([]:List (List TRow))),(aI_.mk 0 false false (TRow.mk 0 ([]:List Int)) (TRow.mk 0 ([]:List Int))),false)) ((dR_ n s.schema m).bind fun xr2=>(cond (!xr2) ((bb_ n s).bind fun xr3=>(some (xr3,(aI_.mk 0 false false (TRow.mk 0 ([]:List Int)) (TRow.mk 0 ([]:List Int))),false))) ((bb_ n s).bind fun xr4=>((ed_ n xr4 m).bind fun xr5=>(cond (!xr5.2.2) ((bb_ n s).bind fun xr6=>(some (xr6,(aI_.mk 0 false false (TRow.mk 0 ([]:List Int)) (TRow.mk 0 ([]:List Int))),false))) (some (xr5.1,xr5.2.1,true)))))))))
def aA_.tail12 (n:Nat) (kn:Int→Int→Int→Int→Bool→Int→Bool→Int→Int→(List Int)→Int→Int→(List Int)→Int→(List (List TRow))→Int→Int→Bool→Int→Bool→Int→Int→(List Int)→Int→(List (List TRow))→(List TMut)→(List aY_)→(List Int)→Option (an_ × ae_ × (List TMut))) (i:Int) (t21:Int) (t30:Int) (t32:Int) (t33:Bool) (t34:Int) (t36:Bool) (t37:Int) (t38:Int) (c0:List Int) (c1:Int) (c2:Int) (s0:List Int) (s1:Int) (s2:List (List TRow)) (q0:Int) (q2:Int) (q3:Bool) (q4:Int) (q6:Bool) (q7:Int) (q8:Int) (now0:List Int) (now1:Int) (now2:List (List TRow)) (list:List TMut) (m0:Int) (m1:Int) (m2:Int) (m3:List Int) (q1:List aY_) (q5:List Int):Option (an_ × ae_ × (List TMut)) :=
 ((dA_ n (an_.mk (au_.mk now0) now1 now2) (TMut.mk m0 m1 (TRow.mk m2 m3))).bind fun xr6=>(cond xr6.2.2 (cl_ (list.length+([(TMut.mk m0 m1 (TRow.mk m2 m3))]:List TMut).length) 48 (kn i t21 t30 t32 t33 t34 t36 t37 t38 c0 c1 c2 s0 s1 s2 q0 q2 q3 q4 q6 q7 q8 xr6.1.schema.cols xr6.1.version xr6.1.tables (list++([(TMut.mk m0 m1 (TRow.mk m2 m3))]:List TMut)) q1 q5)) (kn i t21 t30 t32 t33 t34 t36 t37 t38 c0 c1 c2 s0 s1 s2 q0 q2 q3 q4 q6 q7 q8 now0 now1 now2 list q1 q5)))
def aA_.tail9 (n:Nat) (kn:Int→Int→Int→Int→Bool→Int→Bool→Int→Int→(List Int)→Int→Int→(List Int)→Int→(List (List TRow))→Int→Int→Bool→Int→Bool→Int→Int→(List Int)→Int→(List (List TRow))→(List TMut)→(List aY_)→(List Int)→Option (an_ × ae_ × (List TMut))) (i:Int) (t21:Int) (t30:Int) (t32:Int) (t33:Bool) (t34:Int) (t36:Bool) (t37:Int) (t38:Int) (c0:List Int) (c1:Int) (c2:Int) (s0:List Int) (s1:Int) (s2:List (List TRow)) (q0:Int) (q2:Int) (q3:Bool) (q4:Int) (q6:Bool) (q7:Int) (q8:Int) (now0:List Int) (now1:Int) (now2:List (List TRow)) (list:List TMut) (q1:List aY_) (q5:List Int):Option (an_ × ae_ × (List TMut)) :=
 ((cH_ n (aw_.mk c0 c1 c2) (an_.mk (au_.mk now0) now1 now2)).bind fun xr5=>(aA_.tail12 n (fun xy7 xy8 xy9 xy10 xy11 xy12 xy13 xy14 xy15 xy16 xy17 xy18 xy19 xy20 xy21 xy22 xy23 xy24 xy25 xy26 xy27 xy28 xy29 xy30 xy31 xy32 xy33 xy34=>(kn (W (xy7+1)) xy8 xy9 xy10 xy11 xy12 xy13 xy14 xy15 xy16 xy17 xy18 xy19 xy20 xy21 xy22 xy23 xy24 xy25 xy26 xy27 xy28 xy29 xy30 xy31 xy32 xy33 xy34)) i t21 t30 t32 t33 t34 t36 t37 t38 xr5.2.b xr5.2.i xr5.2.h s0 s1 s2 q0 q2 q3 q4 q6 q7 q8 now0 now1 now2 list xr5.1.kind xr5.1.table xr5.1.row.id_ xr5.1.row.cells q1 q5))
abbrev aA_.K8:Type:=Int→Int→Int→Bool→Int→Bool→Int→Int→(List Int)→Int→(List (List TRow))→Int→Int→Bool→Int→Bool→Int→Int→(List TMut)→(List aY_)→(List Int)→Option (an_ × ae_ × (List TMut))
abbrev aA_.T8:Type:=Int→Int→Int→Int→Bool→Int→Bool→Int→Int→(List Int)→Int→Int→(List Int)→Int→(List (List TRow))→Int→Int→Bool→Int→Bool→Int→Int→(List Int)→Int→(List (List TRow))→(List TMut)→(List aY_)→(List Int)→Option (an_ × ae_ × (List TMut))
def aA_.step8 (n:Nat) (k0:aA_.K8) (back:aA_.T8):aA_.T8:=fun i t21 t30 t32 t33 t34 t36 t37 t38 c0 c1 c2 s0 s1 s2 q0 q2 q3 q4 q6 q7 q8 now0 now1 now2 list q1 q5=>
 (cond (decide (i<6)) ((ay_ n (aw_.mk c0 c1 c2) 4).bind fun xr4=>(cond (decide ((list.length:Int)<(W (1+xr4.1)))) (aA_.tail9 n (fun xy35 xy36 xy37 xy38 xy39 xy40 xy41 xy42 xy43 xy44 xy45 xy46 xy47 xy48 xy49 xy50 xy51 xy52 xy53 xy54 xy55 xy56 xy57 xy58 xy59 xy60 xy61 xy62=>(back xy35 xy36 xy37 xy38 xy39 xy40 xy41 xy42 xy43 xy44 xy45 xy46 xy47 xy48 xy49 xy50 xy51 xy52 xy53 xy54 xy55 xy56 xy57 xy58 xy59 xy60 xy61 xy62)) i t21 t30 t32 t33 t34 t36 t37 t38 xr4.2.b xr4.2.i xr4.2.h s0 s1 s2 q0 q2 q3 q4 q6 q7 q8 now0 now1 now2 list q1 q5) (k0 t21 t30 t32 t33 t34 t36 t37 t38 s0 s1 s2 q0 q2 q3 q4 q6 q7 q8 list q1 q5))) (k0 t21 t30 t32 t33 t34 t36 t37 t38 s0 s1 s2 q0 q2 q3 q4 q6 q7 q8 list q1 q5))
def aA_.loop8 (n:Nat) (k0:aA_.K8) (N:Nat):aA_.T8:=b4_ (fun _ _ _ _ _ _ _ _ _ _ _ _ _ _ _ _ _ _ _ _ _ _ _ _ _ _ _ _=>none) (aA_.step8 n k0) N
def aA_.tail3 (n:Nat) (t21:Int) (t30:Int) (t32:Int) (t33:Bool) (t34:Int) (t36:Bool) (t37:Int) (t38:Int) (c0:List Int) (c1:Int) (c2:Int) (s0:List Int) (s1:Int) (s2:List (List TRow)) (q0:Int) (q2:Int) (q3:Bool) (q4:Int) (q6:Bool) (q7:Int) (q8:Int) (q1:List aY_) (q5:List Int):Option (an_ × ae_ × (List TMut)) :=
 (aA_.loop8 n (fun xy63 xy64 xy65 xy66 xy67 xy68 xy69 xy70 xy71 xy72 xy73 xy74 xy75 xy76 xy77 xy78 xy79 xy80 xy81 xy82 xy83=>(some ((an_.mk (au_.mk xy71) xy72 xy73),(ae_.mk xy74 xy82 xy75 xy76 xy77 xy83 xy78 xy79 xy80),xy81))) n 0 t21 t30 t32 t33 t34 t36 t37 t38 c0 c1 c2 s0 s1 s2 q0 q2 q3 q4 q6 q7 q8 s0 s1 s2 ([]:List TMut) q1 q5)
def aA_.tail2 (n:Nat) (t21:Int) (t30:Int) (t32:Int) (t33:Bool) (t34:Int) (t36:Bool) (t37:Int) (t38:Int) (c0:List Int) (c1:Int) (c2:Int) (s0:List Int) (s1:Int) (s2:List (List TRow)):Option (an_ × ae_ × (List TMut)) :=
 ((af_ n (aw_.mk c0 c1 c2) (au_.mk s0)).bind fun xr3=>(aA_.tail3 n t21 t30 t32 t33 t34 t36 t37 t38 xr3.2.b xr3.2.i xr3.2.h s0 s1 s2 xr3.1.table xr3.1.order xr3.1.down xr3.1.first xr3.1.kids xr3.1.kidTable xr3.1.kidCol xr3.1.where_ xr3.1.show_))
def aA_:Nat→(List Int)→Option (an_ × ae_ × (List TMut))
 |0,_=>none
 |n+1,eb_=>
  ((bH_ n eb_).bind fun xr1=>((aH_ n xr1).bind fun xr2=>(aA_.tail2 n 0 0 0 false 0 false 0 0 xr2.2.b xr2.2.i xr2.2.h xr2.1.schema.cols xr2.1.version xr2.1.tables)))
def aE_:Nat→Int→Int→Int→Option Bool
 |0,_,_,_=>none
 |n+1,n1,low,high=>
  (cond (decide (n1≥low)) (some (decide (n1≤high))) (some false))
abbrev aX_.K3:Type:=(List Int)→Option Bool
abbrev aX_.T3:Type:=(List Int)→Int→Int→(List Int)→Option Bool
def aX_.step3 (n:Nat) (k0:aX_.K3) (back:aX_.T3):aX_.T3:=fun t6 t7 t8 s0=>
 (cond (decide (t8<t7)) (inB t8 t6.length ((aE_ n (t6.getD t8.toNat 0) 1 4).bind fun xr1=>(cond (!xr1) (some false) (back t6 t7 (W (t8+1)) s0)))) (k0 s0))
def aX_.loop3 (n:Nat) (k0:aX_.K3) (N:Nat):aX_.T3:=b4_ (fun _ _ _ _=>none) (aX_.step3 n k0) N
def aX_:Nat→au_→Option Bool
 |0,_=>none
 |n+1,s=>
  (aX_.loop3 n (fun xy2=>((aE_ n (xy2.length:Int) 1 3).bind fun xr3=>(some xr3))) n s.cols (s.cols.length:Int) 0 s.cols)
def cJ_:Nat→Int→Option Bool
 |0,_=>none
 |n+1,n1=>
  ((aE_ n n1 0 100000).bind fun xr1=>(some xr1))
def a5_:Nat→Int→Option Bool
 |0,_=>none
 |n+1,n1=>
  ((aE_ n n1 (-1000000000) 1000000000).bind fun xr1=>(some xr1))
def cg_:Nat→au_→Int→Option Bool
 |0,_,_=>none
 |n+1,s,table=>
  ((aE_ n table 0 (W ((s.cols.length:Int) - 1))).bind fun xr1=>(some xr1))
abbrev bz_.K3:Type:=Int→(List Int)→Int→(List Int)→Option Bool
abbrev bz_.T3:Type:=Int→(List Int)→Int→Int→(List Int)→Int→(List Int)→Option Bool
def bz_.step3 (n:Nat) (k0:bz_.K3) (back:bz_.T3):bz_.T3:=fun table t10 t11 t12 s0 r0 r1=>
 (cond (decide (t12<t11)) (inB t12 t10.length ((a5_ n (t10.getD t12.toNat 0)).bind fun xr1=>(cond (!xr1) (some false) (back table t10 t11 (W (t12+1)) s0 r0 r1)))) (k0 table s0 r0 r1))
def bz_.loop3 (n:Nat) (k0:bz_.K3) (N:Nat):bz_.T3:=b4_ (fun _ _ _ _ _ _ _=>none) (bz_.step3 n k0) N
def bz_:Nat→au_→Int→TRow→Option Bool
 |0,_,_,_=>none
 |n+1,s,table,r=>
  (bz_.loop3 n (fun xy2 xy3 xy4 xy5=>((aX_ n (au_.mk xy3)).bind fun xr6=>(cond xr6 ((cg_ n (au_.mk xy3) xy2).bind fun xr7=>(cond xr7 (inB xy2 xy3.length (cond ((xy5.length:Int) == (xy3.getD xy2.toNat 0)) ((aE_ n xy4 1 999).bind fun xr8=>(some xr8)) (some false))) (some false))) (some false)))) n table r.cells (r.cells.length:Int) 0 s.cols r.id_ r.cells)
abbrev bw_.K3:Type:=Int→(List TRow)→(List Int)→Option Bool
abbrev bw_.T3:Type:=Int→(List TRow)→(List TRow)→Int→Int→(List Int)→Option Bool
def bw_.step3 (n:Nat) (k0:bw_.K3) (back:bw_.T3):bw_.T3:=fun table rows t9 t10 t11 s0=>
 (cond (decide (t11<t10)) (inB t11 t9.length ((bz_ n (au_.mk s0) table (t9.getD t11.toNat TRow.dflt)).bind fun xr1=>(cond (!xr1) (some false) (cond (decide (t11 > 0)) (inB (W (t11 - 1)) rows.length (let xv2:Bool:=(decide (((rows.getD (W (t11 - 1)).toNat TRow.dflt).id_)≥((t9.getD t11.toNat TRow.dflt).id_)));(cond xv2 (some false) (back table rows t9 t10 (W (t11+1)) s0)))) (back table rows t9 t10 (W (t11+1)) s0))))) (k0 table rows s0))
def bw_.loop3 (n:Nat) (k0:bw_.K3) (N:Nat):bw_.T3:=b4_ (fun _ _ _ _ _ _=>none) (bw_.step3 n k0) N
def bw_:Nat→au_→Int→(List TRow)→Option Bool
 |0,_,_,_=>none
 |n+1,s,table,rows=>
  (bw_.loop3 n (fun xy3 xy4 xy5=>((aX_ n (au_.mk xy5)).bind fun xr6=>(cond xr6 ((cg_ n (au_.mk xy5) xy3).bind fun xr7=>(cond xr7 (some (decide ((xy4.length:Int)≤24))) (some false))) (some false)))) n table rows rows (rows.length:Int) 0 s.cols)
abbrev a8_.T6:Type:=(List (List TRow))→Int→Int→(List Int)→Int→(List (List TRow))→Option Bool
def a8_.step6 (n:Nat) (k0:Option Bool) (back:a8_.T6):a8_.T6:=fun t26 t27 t28 s0 s1 s2=>
 (cond (decide (t28<t27)) (inB t28 t26.length ((bw_ n (au_.mk s0) t28 (t26.getD t28.toNat [])).bind fun xr3=>(cond (!xr3) (some false) (back t26 t27 (W (t28+1)) s0 s1 s2)))) k0)
def a8_.loop6 (n:Nat) (k0:Option Bool) (N:Nat):a8_.T6:=b4_ (fun _ _ _ _ _ _=>none) (a8_.step6 n k0) N
def a8_:Nat→an_→Option Bool
 |0,_=>none
 |n+1,s=>
  ((aX_ n s.schema).bind fun xr1=>(cond (!xr1) (some false) ((cJ_ n s.version).bind fun xr2=>(cond (!xr2) (some false) (cond ((s.tables.length:Int) != (s.schema.cols.length:Int)) (some false) (a8_.loop6 n (some true) n s.tables (s.tables.length:Int) 0 s.schema.cols s.version s.tables))))))
def c2_:Nat→au_→ae_→Option Bool
 |0,_,_=>none
 |n+1,s,q=>
  (cond (!q.kids) (cond (q.kidTable == 0) (some (q.kidCol == 0)) (some false)) ((cg_ n s q.kidTable).bind fun xr1=>(cond xr1 (inB q.kidTable s.cols.length ((aE_ n q.kidCol 0 (W ((s.cols.getD q.kidTable.toNat 0) - 1))).bind fun xr2=>(some xr2))) (some false))))
abbrev aB_.K7:Type:=Int→(List Int)→Int→(List aY_)→Int→Bool→Int→(List Int)→Bool→Int→Int→Option Bool
abbrev aB_.T7:Type:=Int→(List aY_)→Int→Int→(List Int)→Int→(List aY_)→Int→Bool→Int→(List Int)→Bool→Int→Int→Option Bool
def aB_.step7 (n:Nat) (k0:aB_.K7) (back:aB_.T7):aB_.T7:=fun t5 t28 t29 t30 t20 t30_1 t31 t32 t33 t34 t35 t36 t37 t38=>
 (cond (decide (t30<t29)) (inB t30 t28.length ((aE_ n ((t28.getD t30.toNat aY_.dflt).col) 0 (W (t5 - 1))).bind fun xr3=>(cond (!xr3) (some false) ((aE_ n ((t28.getD t30.toNat aY_.dflt).op) 1 4).bind fun xr4=>(cond (!xr4) (some false) ((a5_ n ((t28.getD t30.toNat aY_.dflt).v)).bind fun xr5=>(cond (!xr5) (some false) (back t5 t28 t29 (W (t30+1)) t20 t30_1 t31 t32 t33 t34 t35 t36 t37 t38)))))))) (k0 t5 t20 t30_1 t31 t32 t33 t34 t35 t36 t37 t38))
def aB_.loop7 (n:Nat) (k0:aB_.K7) (N:Nat):aB_.T7:=b4_ (fun _ _ _ _ _ _ _ _ _ _ _ _ _ _=>none) (aB_.step7 n k0) N
abbrev aB_.K16:Type:=Int→(List Int)→Int→(List aY_)→Int→Bool→Int→(List Int)→Bool→Int→Int→Option Bool
abbrev aB_.T16:Type:=Int→(List Int)→Int→Int→(List Int)→Int→(List aY_)→Int→Bool→Int→(List Int)→Bool→Int→Int→Option Bool
def aB_.step16 (n:Nat) (k2:aB_.K16) (back:aB_.T16):aB_.T16:=fun t5 t54 t55 t56 t20 t30 t31 t32 t33 t34 t35 t36 t37 t38=>
 (cond (decide (t56<t55)) (inB t56 t54.length ((aE_ n (t54.getD t56.toNat 0) 0 (W (t5 - 1))).bind fun xr17=>(cond (!xr17) (some false) (cond (decide (t56 > 0)) (inB (W (t56 - 1)) t35.length (cond (decide ((t35.getD (W (t56 - 1)).toNat 0)≥(t54.getD t56.toNat 0))) (some false) (back t5 t54 t55 (W (t56+1)) t20 t30 t31 t32 t33 t34 t35 t36 t37 t38))) (back t5 t54 t55 (W (t56+1)) t20 t30 t31 t32 t33 t34 t35 t36 t37 t38))))) (k2 t5 t20 t30 t31 t32 t33 t34 t35 t36 t37 t38))
def aB_.loop16 (n:Nat) (k2:aB_.K16) (N:Nat):aB_.T16:=b4_ (fun _ _ _ _ _ _ _ _ _ _ _ _ _ _=>none) (aB_.step16 n k2) N
def aB_:Nat→au_→ae_→Option Bool
 |0,_,_=>none
 |n+1,o,append=>
  ((aX_ n o).bind fun xr1=>(cond (!xr1) (some false) ((cg_ n o append.table).bind fun xr2=>(cond (!xr2) (some false) (inB append.table o.cols.length (aB_.loop7 n (fun xy6 xy7 xy8 xy9 xy10 xy11 xy12 xy13 xy14 xy15 xy16=>(aB_.loop16 n (fun xy18 xy19 xy20 xy21 xy22 xy23 xy24 xy25 xy26 xy27 xy28=>((aE_ n xy22 0 xy18).bind fun xr29=>(cond xr29 (cond (!xy23) (cond (decide ((xy21.length:Int)≤3)) ((aE_ n xy24 0 24).bind fun xr30=>(cond xr30 ((c2_ n (au_.mk xy19) (ae_.mk xy20 xy21 xy22 xy23 xy24 xy25 xy26 xy27 xy28)).bind fun xr31=>(some xr31)) (some false))) (some false)) (cond (decide ((xy21.length:Int)≤3)) (cond (decide (xy22 > 0)) ((aE_ n xy24 0 24).bind fun xr32=>(cond xr32 ((c2_ n (au_.mk xy19) (ae_.mk xy20 xy21 xy22 xy23 xy24 xy25 xy26 xy27 xy28)).bind fun xr33=>(some xr33)) (some false))) (some false)) (some false))) (cond (decide ((xy21.length:Int)≤3)) (some false) (some false))))) n xy6 xy13 (xy13.length:Int) 0 xy7 xy8 xy9 xy10 xy11 xy12 xy13 xy14 xy15 xy16)) n (o.cols.getD append.table.toNat 0) append.where_ (append.where_.length:Int) 0 o.cols append.table append.where_ append.order append.down append.first append.show_ append.kids append.kidTable append.kidCol))))))
def cs_:Nat→(List Int)→Option (List Int)
 |0,_=>none
 |n+1,l=>
  (cl_ (([]:List Int).length+l.length) 8 (some (([]:List Int)++l)))
def cr_:Nat→ae_→Option ae_
 |0,_=>none
 |n+1,q=>
  (cl_ (([]:List aY_).length+q.where_.length) 24 ((cs_ n q.show_).bind fun xr1=>(some { q with where_:=(([]:List aY_)++q.where_),show_:=xr1 })))
def impl_holds:Nat→aY_→TRow→Option Bool
 |0,_,_=>none
 |n+1,c,r=>
  ((aE_ n c.col 0 (W ((r.cells.length:Int) - 1))).bind fun xr1=>(cond (!xr1) (some false) (inB c.col r.cells.length (cond (c.op == 1) (some ((r.cells.getD c.col.toNat 0) == c.v)) (cond (c.op == 2) (some (decide ((r.cells.getD c.col.toNat 0)<c.v))) (cond (c.op == 3) (some (decide ((r.cells.getD c.col.toNat 0) > c.v))) (cond (c.op == 4) (some ((r.cells.getD c.col.toNat 0) != c.v)) (some false))))))))
abbrev bk_.T3:Type:=(List aY_)→Int→Int→Int→(List Int)→Option Bool
def bk_.step3 (n:Nat) (k0:Option Bool) (back:bk_.T3):bk_.T3:=fun t8 t9 t10 r0 r1=>
 (cond (decide (t10<t9)) (inB t10 t8.length ((impl_holds n (t8.getD t10.toNat aY_.dflt) (TRow.mk r0 r1)).bind fun xr1=>(cond (!xr1) (some false) (back t8 t9 (W (t10+1)) r0 r1)))) k0)
def bk_.loop3 (n:Nat) (k0:Option Bool) (N:Nat):bk_.T3:=b4_ (fun _ _ _ _ _=>none) (bk_.step3 n k0) N
def bk_:Nat→ae_→TRow→Option Bool
 |0,_,_=>none
 |n+1,q,r=>
  (bk_.loop3 n (some true) n q.where_ (q.where_.length:Int) 0 r.id_ r.cells)
def bQ_:Nat→TRow→Option TRow
 |0,_=>none
 |n+1,r=>
  ((cs_ n r.cells).bind fun xr1=>(some (TRow.mk r.id_ xr1)))
def bn_:Nat→TRow→Int→Option Int
 |0,_,_=>none
 |n+1,r,col=>
  ((aE_ n col 0 (W ((r.cells.length:Int) - 1))).bind fun xr1=>(cond (!xr1) (some 0) (inB col r.cells.length (some (r.cells.getD col.toNat 0)))))
def dp_:Nat→ae_→TRow→TRow→Option Bool
 |0,_,_,_=>none
 |n+1,q,a,b=>
  (cond (q.order == 0) (some (decide (a.id_<b.id_))) ((bn_ n a (W (q.order - 1))).bind fun xr1=>((bn_ n b (W (q.order - 1))).bind fun xr2=>(cond (xr1 == xr2) (some (decide (a.id_<b.id_))) (cond q.down (some (decide (xr1 > xr2))) (some (decide (xr1<xr2))))))))
def b2_:Nat→TRow→TRow→Int→(List aY_)→Int→Bool→Int→(List Int)→Bool→Int→Int→Option Int
 |0,_,_,_,_,_,_,_,_,_,_,_=>none
 |n+1,a,b,c,c1,c2,c3,c4,c5,c6,c7,c8=>
  ((dp_ n (ae_.mk c c1 c2 c3 c4 c5 c6 c7 c8) a b).bind fun xr1=>(cond xr1 (some (-1)) (some 1)))
abbrev ab_.K6:Type:=Int→Int→Int→(List aY_)→Int→Bool→Int→(List Int)→Bool→Int→Int→Int→(List TRow)→Option (List TRow)
abbrev ab_.T6:Type:=Int→Int→Int→(List aY_)→Int→Bool→Int→(List Int)→Bool→Int→Int→Int→Int→(List TRow)→Option (List TRow)
def ab_.step6 (n:Nat) (k2:ab_.K6) (back:ab_.T6):ab_.T6:=fun a b cmp00 cmp01 cmp02 cmp03 cmp04 cmp05 cmp06 cmp07 cmp08 i j data=>
 (cond (decide (j > a)) (inB j data.length (inB (W (j - 1)) data.length ((b2_ n (data.getD j.toNat TRow.dflt) (data.getD ((W (j - 1)).toNat) TRow.dflt) cmp00 cmp01 cmp02 cmp03 cmp04 cmp05 cmp06 cmp07 cmp08).bind fun xr1=>(cond (decide (xr1<0)) (inB (W (j - 1)) data.length (inB j data.length (inB j data.length (let xa2:List TRow:=data.set j.toNat (data.getD ((W (j - 1)).toNat) TRow.dflt);(inB (W (j - 1)) xa2.length (let xa3:List TRow:=xa2.set ((W (j - 1)).toNat) (data.getD j.toNat TRow.dflt);(back a b cmp00 cmp01 cmp02 cmp03 cmp04 cmp05 cmp06 cmp07 cmp08 i (W (j - 1)) xa3))))))) (k2 a b cmp00 cmp01 cmp02 cmp03 cmp04 cmp05 cmp06 cmp07 cmp08 i data))))) (k2 a b cmp00 cmp01 cmp02 cmp03 cmp04 cmp05 cmp06 cmp07 cmp08 i data))
def ab_.loop6 (n:Nat) (k2:ab_.K6) (N:Nat):ab_.T6:=b4_ (fun _ _ _ _ _ _ _ _ _ _ _ _ _ _=>none) (ab_.step6 n k2) N
abbrev ab_.K1:Type:=(List TRow)→Option (List TRow)
abbrev ab_.T1:Type:=Int→Int→Int→(List aY_)→Int→Bool→Int→(List Int)→Bool→Int→Int→Int→(List TRow)→Option (List TRow)
def ab_.step1 (n:Nat) (k0:ab_.K1) (back:ab_.T1):ab_.T1:=fun a b cmp00 cmp01 cmp02 cmp03 cmp04 cmp05 cmp06 cmp07 cmp08 i data=>
 (cond (decide (i<b)) (ab_.loop6 n (fun xy4 xy5 xy6 xy7 xy8 xy9 xy10 xy11 xy12 xy13 xy14 xy15 xy16=>(back xy4 xy5 xy6 xy7 xy8 xy9 xy10 xy11 xy12 xy13 xy14 (W (xy15+1)) xy16)) n a b cmp00 cmp01 cmp02 cmp03 cmp04 cmp05 cmp06 cmp07 cmp08 i i data) (k0 data))
def ab_.loop1 (n:Nat) (k0:ab_.K1) (N:Nat):ab_.T1:=b4_ (fun _ _ _ _ _ _ _ _ _ _ _ _ _=>none) (ab_.step1 n k0) N
def ab_:Nat→(List TRow)→Int→Int→Int→(List aY_)→Int→Bool→Int→(List Int)→Bool→Int→Int→Option (List TRow)
 |0,_,_,_,_,_,_,_,_,_,_,_,_=>none
 |n+1,data,a,b,c,c1,c2,c3,c4,c5,c6,c7,c8=>
  (ab_.loop1 n (fun xy17=>(some xy17)) n a b c c1 c2 c3 c4 c5 c6 c7 c8 (W (a+1)) data)
abbrev ad_.K1:Type:=(List TRow)→Option (List TRow)
abbrev ad_.T1:Type:=Int→Int→Int→Int→(List TRow)→Option (List TRow)
def ad_.step1 (n:Nat) (k0:ad_.K1) (back:ad_.T1):ad_.T1:=fun a b n_1 i data=>
 (cond (decide (i<n_1)) (inB (W (b+i)) data.length (inB (W (a+i)) data.length (inB (W (a+i)) data.length (let xa1:List TRow:=data.set ((W (a+i)).toNat) (data.getD ((W (b+i)).toNat) TRow.dflt);(inB (W (b+i)) xa1.length (let xa2:List TRow:=xa1.set ((W (b+i)).toNat) (data.getD ((W (a+i)).toNat) TRow.dflt);(back a b n_1 (W (i+1)) xa2))))))) (k0 data))
def ad_.loop1 (n:Nat) (k0:ad_.K1) (N:Nat):ad_.T1:=b4_ (fun _ _ _ _ _=>none) (ad_.step1 n k0) N
def ad_:Nat→(List TRow)→Int→Int→Int→Int→(List aY_)→Int→Bool→Int→(List Int)→Bool→Int→Int→Option (List TRow)
 |0,_,_,_,_,_,_,_,_,_,_,_,_,_=>none
 |n+1,data,a,b,n1,c,c1,c2,c3,c4,c5,c6,c7,c8=>
  (ad_.loop1 n (fun xy3=>(some xy3)) n a b n1 0 data)
abbrev ag_.K3:Type:=Int→Int→(List aY_)→Int→Bool→Int→(List Int)→Bool→Int→Int→Int→(List TRow)→Option (List TRow)
abbrev ag_.T3:Type:=Int→Int→(List aY_)→Int→Bool→Int→(List Int)→Bool→Int→Int→Int→Int→(List TRow)→Option (List TRow)
def ag_.step3 (n:Nat) (k0:ag_.K3) (back:ag_.T3):ag_.T3:=fun m cmp00 cmp01 cmp02 cmp03 cmp04 cmp05 cmp06 cmp07 cmp08 i j data=>
 (cond (i != j) (cond (decide (i > j)) ((ad_ n data (W (m - i)) m j cmp00 cmp01 cmp02 cmp03 cmp04 cmp05 cmp06 cmp07 cmp08).bind fun xr1=>(cond (Nat.beq xr1.length data.length) (back m cmp00 cmp01 cmp02 cmp03 cmp04 cmp05 cmp06 cmp07 cmp08 (W (i - j)) j xr1) none)) ((ad_ n data (W (m - i)) (W ((W (m+j)) - i)) i cmp00 cmp01 cmp02 cmp03 cmp04 cmp05 cmp06 cmp07 cmp08).bind fun xr2=>(cond (Nat.beq xr2.length data.length) (back m cmp00 cmp01 cmp02 cmp03 cmp04 cmp05 cmp06 cmp07 cmp08 i (W (j - i)) xr2) none))) (k0 m cmp00 cmp01 cmp02 cmp03 cmp04 cmp05 cmp06 cmp07 cmp08 i data))
def ag_.loop3 (n:Nat) (k0:ag_.K3) (N:Nat):ag_.T3:=b4_ (fun _ _ _ _ _ _ _ _ _ _ _ _ _=>none) (ag_.step3 n k0) N
def ag_:Nat→(List TRow)→Int→Int→Int→Int→(List aY_)→Int→Bool→Int→(List Int)→Bool→Int→Int→Option (List TRow)
 |0,_,_,_,_,_,_,_,_,_,_,_,_,_=>none
 |n+1,data,a,m,b,c,c1,c2,c3,c4,c5,c6,c7,c8=>
  (ag_.loop3 n (fun xy3 xy4 xy5 xy6 xy7 xy8 xy9 xy10 xy11 xy12 xy13 xy14=>((ad_ n xy14 (W (xy3 - xy13)) xy3 xy13 xy4 xy5 xy6 xy7 xy8 xy9 xy10 xy11 xy12).bind fun xr15=>(cond (Nat.beq xr15.length xy14.length) (some xr15) none))) n m c c1 c2 c3 c4 c5 c6 c7 c8 (W (m - a)) (W (b - m)) data)
abbrev aa_.K5_1:Type:=Int→Int→(List TRow)→Option (List TRow)
abbrev aa_.T5:Type:=Int→Int→(List aY_)→Int→Bool→Int→(List Int)→Bool→Int→Int→Int→Int→(List TRow)→Option (List TRow)
def aa_.step5 (n:Nat) (slices_symMergeCmpFunc_Row_impl_RowsFor_f1_svvvv_:(List TRow)→Int→Int→Int→Int→(List aY_)→Int→Bool→Int→(List Int)→Bool→Int→Int→Option (List TRow)) (k0:aa_.K5_1) (back:aa_.T5):aa_.T5:=fun append t400 t401 t402 t403 t404 t405 t406 t407 t408 t10 t11 o=>
 (cond (decide (t10<t11)) (let xv1:Int:=(Int.fdiv (IntKind.u64.wrap ((W (t10+t11)))) (2 ^ min (1:Int).toNat (IntKind.bits .u64)));(inB (W (xv1)) o.length (inB append o.length ((b2_ n (o.getD ((W (xv1)).toNat) TRow.dflt) (o.getD append.toNat TRow.dflt) t400 t401 t402 t403 t404 t405 t406 t407 t408).bind fun xr2=>(cond (decide (xr2<0)) (back append t400 t401 t402 t403 t404 t405 t406 t407 t408 (W ((W (xv1))+1)) t11 o) (back append t400 t401 t402 t403 t404 t405 t406 t407 t408 t10 (W (xv1)) o)))))) (k0 append t10 o))
def aa_.loop5 (n:Nat) (slices_symMergeCmpFunc_Row_impl_RowsFor_f1_svvvv_:(List TRow)→Int→Int→Int→Int→(List aY_)→Int→Bool→Int→(List Int)→Bool→Int→Int→Option (List TRow)) (k0:aa_.K5_1) (N:Nat):aa_.T5:=b4_ (fun _ _ _ _ _ _ _ _ _ _ _ _ _=>none) (aa_.step5 n slices_symMergeCmpFunc_Row_impl_RowsFor_f1_svvvv_ k0) N
abbrev aa_.K12_1:Type:=(List TRow)→Option (List TRow)
abbrev aa_.T12:Type:=Int→Int→(List TRow)→Option (List TRow)
def aa_.step12 (n:Nat) (slices_symMergeCmpFunc_Row_impl_RowsFor_f1_svvvv_:(List TRow)→Int→Int→Int→Int→(List aY_)→Int→Bool→Int→(List Int)→Bool→Int→Int→Option (List TRow)) (k2:aa_.K12_1) (back:aa_.T12):aa_.T12:=fun t10 t13 o=>
 (cond (decide (t13<(W (t10 - 1)))) (inB (W (t13+1)) o.length (inB t13 o.length (inB t13 o.length (let xa6:List TRow:=o.set t13.toNat (o.getD ((W (t13+1)).toNat) TRow.dflt);(inB (W (t13+1)) xa6.length (let xa7:List TRow:=xa6.set ((W (t13+1)).toNat) (o.getD t13.toNat TRow.dflt);(back t10 (W (t13+1)) xa7))))))) (k2 o))
def aa_.loop12 (n:Nat) (slices_symMergeCmpFunc_Row_impl_RowsFor_f1_svvvv_:(List TRow)→Int→Int→Int→Int→(List aY_)→Int→Bool→Int→(List Int)→Bool→Int→Int→Option (List TRow)) (k2:aa_.K12_1) (N:Nat):aa_.T12:=b4_ (fun _ _ _=>none) (aa_.step12 n slices_symMergeCmpFunc_Row_impl_RowsFor_f1_svvvv_ k2) N
abbrev aa_.K21_1:Type:=Int→Int→(List TRow)→Option (List TRow)
abbrev aa_.T21:Type:=Int→Int→(List aY_)→Int→Bool→Int→(List Int)→Bool→Int→Int→Int→Int→(List TRow)→Option (List TRow)
def aa_.step21 (n:Nat) (slices_symMergeCmpFunc_Row_impl_RowsFor_f1_svvvv_:(List TRow)→Int→Int→Int→Int→(List aY_)→Int→Bool→Int→(List Int)→Bool→Int→Int→Option (List TRow)) (k4:aa_.K21_1) (back:aa_.T21):aa_.T21:=fun t2 t400 t401 t402 t403 t404 t405 t406 t407 t408 t14 t15 o=>
 (cond (decide (t14<t15)) (let xv9:Int:=(Int.fdiv (IntKind.u64.wrap ((W (t14+t15)))) (2 ^ min (1:Int).toNat (IntKind.bits .u64)));(inB t2 o.length (inB (W (xv9)) o.length ((b2_ n (o.getD t2.toNat TRow.dflt) (o.getD ((W (xv9)).toNat) TRow.dflt) t400 t401 t402 t403 t404 t405 t406 t407 t408).bind fun xr10=>(cond (!(decide (xr10<0))) (back t2 t400 t401 t402 t403 t404 t405 t406 t407 t408 (W ((W (xv9))+1)) t15 o) (back t2 t400 t401 t402 t403 t404 t405 t406 t407 t408 t14 (W (xv9)) o)))))) (k4 t2 t14 o))
def aa_.loop21 (n:Nat) (slices_symMergeCmpFunc_Row_impl_RowsFor_f1_svvvv_:(List TRow)→Int→Int→Int→Int→(List aY_)→Int→Bool→Int→(List Int)→Bool→Int→Int→Option (List TRow)) (k4:aa_.K21_1) (N:Nat):aa_.T21:=b4_ (fun _ _ _ _ _ _ _ _ _ _ _ _ _=>none) (aa_.step21 n slices_symMergeCmpFunc_Row_impl_RowsFor_f1_svvvv_ k4) N
abbrev aa_.K28_1:Type:=(List TRow)→Option (List TRow)
abbrev aa_.T28:Type:=Int→Int→(List TRow)→Option (List TRow)
def aa_.step28 (n:Nat) (slices_symMergeCmpFunc_Row_impl_RowsFor_f1_svvvv_:(List TRow)→Int→Int→Int→Int→(List aY_)→Int→Bool→Int→(List Int)→Bool→Int→Int→Option (List TRow)) (k6:aa_.K28_1) (back:aa_.T28):aa_.T28:=fun t14 t17 o=>
 (cond (decide (t17 > t14)) (inB (W (t17 - 1)) o.length (inB t17 o.length (inB t17 o.length (let xa14:List TRow:=o.set t17.toNat (o.getD ((W (t17 - 1)).toNat) TRow.dflt);(inB (W (t17 - 1)) xa14.length (let xa15:List TRow:=xa14.set ((W (t17 - 1)).toNat) (o.getD t17.toNat TRow.dflt);(back t14 (W (t17 - 1)) xa15))))))) (k6 o))
def aa_.loop28 (n:Nat) (slices_symMergeCmpFunc_Row_impl_RowsFor_f1_svvvv_:(List TRow)→Int→Int→Int→Int→(List aY_)→Int→Bool→Int→(List Int)→Bool→Int→Int→Option (List TRow)) (k6:aa_.K28_1) (N:Nat):aa_.T28:=b4_ (fun _ _ _=>none) (aa_.step28 n slices_symMergeCmpFunc_Row_impl_RowsFor_f1_svvvv_ k6) N
abbrev aa_.K41_1:Type:=Int→Int→Int→Int→(List aY_)→Int→Bool→Int→(List Int)→Bool→Int→Int→Int→Int→Int→(List TRow)→Option (List TRow)
abbrev aa_.T41:Type:=Int→Int→Int→Int→(List aY_)→Int→Bool→Int→(List Int)→Bool→Int→Int→Int→Int→Int→Int→Int→(List TRow)→Option (List TRow)
def aa_.step41 (n:Nat) (slices_symMergeCmpFunc_Row_impl_RowsFor_f1_svvvv_:(List TRow)→Int→Int→Int→Int→(List aY_)→Int→Bool→Int→(List Int)→Bool→Int→Int→Option (List TRow)) (k8:aa_.K41_1) (back:aa_.T41):aa_.T41:=fun append t2 t3 t400 t401 t402 t403 t404 t405 t406 t407 t408 t18 t19 t20 t21 t22 o=>
 (cond (decide (t20<t21)) (let xv18:Int:=(Int.fdiv (IntKind.u64.wrap ((W (t20+t21)))) (2 ^ min (1:Int).toNat (IntKind.bits .u64)));(inB (W (t22 - (W (xv18)))) o.length (inB (W (xv18)) o.length ((b2_ n (o.getD ((W (t22 - (W (xv18)))).toNat) TRow.dflt) (o.getD ((W (xv18)).toNat) TRow.dflt) t400 t401 t402 t403 t404 t405 t406 t407 t408).bind fun xr19=>(cond (!(decide (xr19<0))) (back append t2 t3 t400 t401 t402 t403 t404 t405 t406 t407 t408 t18 t19 (W ((W (xv18))+1)) t21 t22 o) (back append t2 t3 t400 t401 t402 t403 t404 t405 t406 t407 t408 t18 t19 t20 (W (xv18)) t22 o)))))) (k8 append t2 t3 t400 t401 t402 t403 t404 t405 t406 t407 t408 t18 t19 t20 o))
def aa_.loop41 (n:Nat) (slices_symMergeCmpFunc_Row_impl_RowsFor_f1_svvvv_:(List TRow)→Int→Int→Int→Int→(List aY_)→Int→Bool→Int→(List Int)→Bool→Int→Int→Option (List TRow)) (k8:aa_.K41_1) (N:Nat):aa_.T41:=b4_ (fun _ _ _ _ _ _ _ _ _ _ _ _ _ _ _ _ _ _=>none) (aa_.step41 n slices_symMergeCmpFunc_Row_impl_RowsFor_f1_svvvv_ k8) N
def aa_:Nat→(List TRow)→Int→Int→Int→Int→(List aY_)→Int→Bool→Int→(List Int)→Bool→Int→Int→Option (List TRow)
 |0,_,_,_,_,_,_,_,_,_,_,_,_,_=>none
 |n+1,o,append,a2,a3,c,c1,c2,c3,c4,c5,c6,c7,c8=>
  (cond ((W (a2 - append)) == 1) (aa_.loop5 n (aa_ n) (fun xy3 xy4 xy5=>(aa_.loop12 n (aa_ n) (fun xy8=>(some xy8)) n xy4 xy3 xy5)) n append c c1 c2 c3 c4 c5 c6 c7 c8 a2 a3 o) (cond ((W (a3 - a2)) == 1) (aa_.loop21 n (aa_ n) (fun xy11 xy12 xy13=>(aa_.loop28 n (aa_ n) (fun xy16=>(some xy16)) n xy12 xy11 xy13)) n a2 c c1 c2 c3 c4 c5 c6 c7 c8 append a2 o) (let xv17:Int:=(Int.fdiv (IntKind.u64.wrap ((W (append+a3)))) (2 ^ min (1:Int).toNat (IntKind.bits .u64)));(cond (decide (a2 > (W (xv17)))) (aa_.loop41 n (aa_ n) (fun xy20 xy21 xy22 xy23 xy24 xy25 xy26 xy27 xy28 xy29 xy30 xy31 xy32 xy33 xy34 xy35=>(cond (decide (xy34<xy21)) (cond (decide (xy21<(W (xy33 - xy34)))) ((ag_ n xy35 xy34 xy21 (W (xy33 - xy34)) xy23 xy24 xy25 xy26 xy27 xy28 xy29 xy30 xy31).bind fun xr36=>(cond (Nat.beq xr36.length xy35.length) (cond (decide (xy20<xy34)) (cond (decide (xy34<xy32)) ((aa_ n xr36 xy20 xy34 xy32 xy23 xy24 xy25 xy26 xy27 xy28 xy29 xy30 xy31).bind fun xr37=>(cond (Nat.beq xr37.length xr36.length) (cond (decide (xy32<(W (xy33 - xy34)))) (cond (decide ((W (xy33 - xy34))<xy22)) ((aa_ n xr37 xy32 (W (xy33 - xy34)) xy22 xy23 xy24 xy25 xy26 xy27 xy28 xy29 xy30 xy31).bind fun xr38=>(cond (Nat.beq xr38.length xr37.length) (some xr38) none)) (some xr37)) (some xr37)) none)) (cond (decide (xy32<(W (xy33 - xy34)))) (cond (decide ((W (xy33 - xy34))<xy22)) ((aa_ n xr36 xy32 (W (xy33 - xy34)) xy22 xy23 xy24 xy25 xy26 xy27 xy28 xy29 xy30 xy31).bind fun xr39=>(cond (Nat.beq xr39.length xr36.length) (some xr39) none)) (some xr36)) (some xr36))) (cond (decide (xy32<(W (xy33 - xy34)))) (cond (decide ((W (xy33 - xy34))<xy22)) ((aa_ n xr36 xy32 (W (xy33 - xy34)) xy22 xy23 xy24 xy25 xy26 xy27 xy28 xy29 xy30 xy31).bind fun xr40=>(cond (Nat.beq xr40.length xr36.length) (some xr40) none)) (some xr36)) (some xr36))) none)) (cond (decide (xy20<xy34)) (cond (decide (xy34<xy32)) ((aa_ n xy35 xy20 xy34 xy32 xy23 xy24 xy25 xy26 xy27 xy28 xy29 xy30 xy31).bind fun xr41=>(cond (Nat.beq xr41.length xy35.length) (cond (decide (xy32<(W (xy33 - xy34)))) (cond (decide ((W (xy33 - xy34))<xy22)) ((aa_ n xr41 xy32 (W (xy33 - xy34)) xy22 xy23 xy24 xy25 xy26 xy27 xy28 xy29 xy30 xy31).bind fun xr42=>(cond (Nat.beq xr42.length xr41.length) (some xr42) none)) (some xr41)) (some xr41)) none)) (cond (decide (xy32<(W (xy33 - xy34)))) (cond (decide ((W (xy33 - xy34))<xy22)) ((aa_ n xy35 xy32 (W (xy33 - xy34)) xy22 xy23 xy24 xy25 xy26 xy27 xy28 xy29 xy30 xy31).bind fun xr43=>(cond (Nat.beq xr43.length xy35.length) (some xr43) none)) (some xy35)) (some xy35))) (cond (decide (xy32<(W (xy33 - xy34)))) (cond (decide ((W (xy33 - xy34))<xy22)) ((aa_ n xy35 xy32 (W (xy33 - xy34)) xy22 xy23 xy24 xy25 xy26 xy27 xy28 xy29 xy30 xy31).bind fun xr44=>(cond (Nat.beq xr44.length xy35.length) (some xr44) none)) (some xy35)) (some xy35)))) (cond (decide (xy20<xy34)) (cond (decide (xy34<xy32)) ((aa_ n xy35 xy20 xy34 xy32 xy23 xy24 xy25 xy26 xy27 xy28 xy29 xy30 xy31).bind fun xr45=>(cond (Nat.beq xr45.length xy35.length) (cond (decide (xy32<(W (xy33 - xy34)))) (cond (decide ((W (xy33 - xy34))<xy22)) ((aa_ n xr45 xy32 (W (xy33 - xy34)) xy22 xy23 xy24 xy25 xy26 xy27 xy28 xy29 xy30 xy31).bind fun xr46=>(cond (Nat.beq xr46.length xr45.length) (some xr46) none)) (some xr45)) (some xr45)) none)) (cond (decide (xy32<(W (xy33 - xy34)))) (cond (decide ((W (xy33 - xy34))<xy22)) ((aa_ n xy35 xy32 (W (xy33 - xy34)) xy22 xy23 xy24 xy25 xy26 xy27 xy28 xy29 xy30 xy31).bind fun xr47=>(cond (Nat.beq xr47.length xy35.length) (some xr47) none)) (some xy35)) (some xy35))) (cond (decide (xy32<(W (xy33 - xy34)))) (cond (decide ((W (xy33 - xy34))<xy22)) ((aa_ n xy35 xy32 (W (xy33 - xy34)) xy22 xy23 xy24 xy25 xy26 xy27 xy28 xy29 xy30 xy31).bind fun xr48=>(cond (Nat.beq xr48.length xy35.length) (some xr48) none)) (some xy35)) (some xy35))))) n append a2 a3 c c1 c2 c3 c4 c5 c6 c7 c8 (W (xv17)) (W ((W (xv17))+a2)) (W ((W ((W (xv17))+a2)) - a3)) (W (xv17)) (W ((W ((W (xv17))+a2)) - 1)) o) (aa_.loop41 n (aa_ n) (fun xy49 xy50 xy51 xy52 xy53 xy54 xy55 xy56 xy57 xy58 xy59 xy60 xy61 xy62 xy63 xy64=>(cond (decide (xy63<xy50)) (cond (decide (xy50<(W (xy62 - xy63)))) ((ag_ n xy64 xy63 xy50 (W (xy62 - xy63)) xy52 xy53 xy54 xy55 xy56 xy57 xy58 xy59 xy60).bind fun xr65=>(cond (Nat.beq xr65.length xy64.length) (cond (decide (xy49<xy63)) (cond (decide (xy63<xy61)) ((aa_ n xr65 xy49 xy63 xy61 xy52 xy53 xy54 xy55 xy56 xy57 xy58 xy59 xy60).bind fun xr66=>(cond (Nat.beq xr66.length xr65.length) (cond (decide (xy61<(W (xy62 - xy63)))) (cond (decide ((W (xy62 - xy63))<xy51)) ((aa_ n xr66 xy61 (W (xy62 - xy63)) xy51 xy52 xy53 xy54 xy55 xy56 xy57 xy58 xy59 xy60).bind fun xr67=>(cond (Nat.beq xr67.length xr66.length) (some xr67) none)) (some xr66)) (some xr66)) none)) (cond (decide (xy61<(W (xy62 - xy63)))) (cond (decide ((W (xy62 - xy63))<xy51)) ((aa_ n xr65 xy61 (W (xy62 - xy63)) xy51 xy52 xy53 xy54 xy55 xy56 xy57 xy58 xy59 xy60).bind fun xr68=>(cond (Nat.beq xr68.length xr65.length) (some xr68) none)) (some xr65)) (some xr65))) (cond (decide (xy61<(W (xy62 - xy63)))) (cond (decide ((W (xy62 - xy63))<xy51)) ((aa_ n xr65 xy61 (W (xy62 - xy63)) xy51 xy52 xy53 xy54 xy55 xy56 xy57 xy58 xy59 xy60).bind fun xr69=>(cond (Nat.beq xr69.length xr65.length) (some xr69) none)) (some xr65)) (some xr65))) none)) (cond (decide (xy49<xy63)) (cond (decide (xy63<xy61)) ((aa_ n xy64 xy49 xy63 xy61 xy52 xy53 xy54 xy55 xy56 xy57 xy58 xy59 xy60).bind fun xr70=>(cond (Nat.beq xr70.length xy64.length) (cond (decide (xy61<(W (xy62 - xy63)))) (cond (decide ((W (xy62 - xy63))<xy51)) ((aa_ n xr70 xy61 (W (xy62 - xy63)) xy51 xy52 xy53 xy54 xy55 xy56 xy57 xy58 xy59 xy60).bind fun xr71=>(cond (Nat.beq xr71.length xr70.length) (some xr71) none)) (some xr70)) (some xr70)) none)) (cond (decide (xy61<(W (xy62 - xy63)))) (cond (decide ((W (xy62 - xy63))<xy51)) ((aa_ n xy64 xy61 (W (xy62 - xy63)) xy51 xy52 xy53 xy54 xy55 xy56 xy57 xy58 xy59 xy60).bind fun xr72=>(cond (Nat.beq xr72.length xy64.length) (some xr72) none)) (some xy64)) (some xy64))) (cond (decide (xy61<(W (xy62 - xy63)))) (cond (decide ((W (xy62 - xy63))<xy51)) ((aa_ n xy64 xy61 (W (xy62 - xy63)) xy51 xy52 xy53 xy54 xy55 xy56 xy57 xy58 xy59 xy60).bind fun xr73=>(cond (Nat.beq xr73.length xy64.length) (some xr73) none)) (some xy64)) (some xy64)))) (cond (decide (xy49<xy63)) (cond (decide (xy63<xy61)) ((aa_ n xy64 xy49 xy63 xy61 xy52 xy53 xy54 xy55 xy56 xy57 xy58 xy59 xy60).bind fun xr74=>(cond (Nat.beq xr74.length xy64.length) (cond (decide (xy61<(W (xy62 - xy63)))) (cond (decide ((W (xy62 - xy63))<xy51)) ((aa_ n xr74 xy61 (W (xy62 - xy63)) xy51 xy52 xy53 xy54 xy55 xy56 xy57 xy58 xy59 xy60).bind fun xr75=>(cond (Nat.beq xr75.length xr74.length) (some xr75) none)) (some xr74)) (some xr74)) none)) (cond (decide (xy61<(W (xy62 - xy63)))) (cond (decide ((W (xy62 - xy63))<xy51)) ((aa_ n xy64 xy61 (W (xy62 - xy63)) xy51 xy52 xy53 xy54 xy55 xy56 xy57 xy58 xy59 xy60).bind fun xr76=>(cond (Nat.beq xr76.length xy64.length) (some xr76) none)) (some xy64)) (some xy64))) (cond (decide (xy61<(W (xy62 - xy63)))) (cond (decide ((W (xy62 - xy63))<xy51)) ((aa_ n xy64 xy61 (W (xy62 - xy63)) xy51 xy52 xy53 xy54 xy55 xy56 xy57 xy58 xy59 xy60).bind fun xr77=>(cond (Nat.beq xr77.length xy64.length) (some xr77) none)) (some xy64)) (some xy64))))) n append a2 a3 c c1 c2 c3 c4 c5 c6 c7 c8 (W (xv17)) (W ((W (xv17))+a2)) append a2 (W ((W ((W (xv17))+a2)) - 1)) o)))))
abbrev ac_.K3:Type:=Int→Int→(List aY_)→Int→Bool→Int→(List Int)→Bool→Int→Int→Int→Int→(List TRow)→Option (List TRow)
abbrev ac_.T3:Type:=Int→Int→(List aY_)→Int→Bool→Int→(List Int)→Bool→Int→Int→Int→Int→Int→(List TRow)→Option (List TRow)
def ac_.step3 (n:Nat) (k0:ac_.K3) (back:ac_.T3):ac_.T3:=fun n_1 cmp00 cmp01 cmp02 cmp03 cmp04 cmp05 cmp06 cmp07 cmp08 blockSize a b data=>
 (cond (decide (b≤n_1)) ((ab_ n data a b cmp00 cmp01 cmp02 cmp03 cmp04 cmp05 cmp06 cmp07 cmp08).bind fun xr1=>(cond (Nat.beq xr1.length data.length) (back n_1 cmp00 cmp01 cmp02 cmp03 cmp04 cmp05 cmp06 cmp07 cmp08 blockSize b (W (b+blockSize)) xr1) none)) (k0 n_1 cmp00 cmp01 cmp02 cmp03 cmp04 cmp05 cmp06 cmp07 cmp08 blockSize a data))
def ac_.loop3 (n:Nat) (k0:ac_.K3) (N:Nat):ac_.T3:=b4_ (fun _ _ _ _ _ _ _ _ _ _ _ _ _ _=>none) (ac_.step3 n k0) N
abbrev ac_.K14:Type:=Int→Int→(List aY_)→Int→Bool→Int→(List Int)→Bool→Int→Int→Int→Int→(List TRow)→Option (List TRow)
abbrev ac_.T14:Type:=Int→Int→(List aY_)→Int→Bool→Int→(List Int)→Bool→Int→Int→Int→Int→Int→(List TRow)→Option (List TRow)
def ac_.step14 (n:Nat) (k4:ac_.K14) (back:ac_.T14):ac_.T14:=fun n_1 cmp00 cmp01 cmp02 cmp03 cmp04 cmp05 cmp06 cmp07 cmp08 blockSize a b data=>
 (cond (decide (b≤n_1)) ((aa_ n data a (W (a+blockSize)) b cmp00 cmp01 cmp02 cmp03 cmp04 cmp05 cmp06 cmp07 cmp08).bind fun xr16=>(cond (Nat.beq xr16.length data.length) (back n_1 cmp00 cmp01 cmp02 cmp03 cmp04 cmp05 cmp06 cmp07 cmp08 blockSize b (W (b+(W (2*blockSize)))) xr16) none)) (k4 n_1 cmp00 cmp01 cmp02 cmp03 cmp04 cmp05 cmp06 cmp07 cmp08 blockSize a data))
def ac_.loop14 (n:Nat) (k4:ac_.K14) (N:Nat):ac_.T14:=b4_ (fun _ _ _ _ _ _ _ _ _ _ _ _ _ _=>none) (ac_.step14 n k4) N
abbrev ac_.K9:Type:=(List TRow)→Option (List TRow)
abbrev ac_.T9:Type:=Int→Int→(List aY_)→Int→Bool→Int→(List Int)→Bool→Int→Int→Int→(List TRow)→Option (List TRow)
def ac_.step9 (n:Nat) (k2:ac_.K9) (back:ac_.T9):ac_.T9:=fun n_1 cmp00 cmp01 cmp02 cmp03 cmp04 cmp05 cmp06 cmp07 cmp08 blockSize data=>
 (cond (decide (blockSize<n_1)) (ac_.loop14 n (fun xy17 xy18 xy19 xy20 xy21 xy22 xy23 xy24 xy25 xy26 xy27 xy28 xy29=>(cond (decide ((W (xy28+xy27))<xy17)) ((aa_ n xy29 xy28 (W (xy28+xy27)) xy17 xy18 xy19 xy20 xy21 xy22 xy23 xy24 xy25 xy26).bind fun xr30=>(cond (Nat.beq xr30.length xy29.length) (back xy17 xy18 xy19 xy20 xy21 xy22 xy23 xy24 xy25 xy26 (W (xy27*2)) xr30) none)) (back xy17 xy18 xy19 xy20 xy21 xy22 xy23 xy24 xy25 xy26 (W (xy27*2)) xy29))) n n_1 cmp00 cmp01 cmp02 cmp03 cmp04 cmp05 cmp06 cmp07 cmp08 blockSize 0 (W (2*blockSize)) data) (k2 data))
def ac_.loop9 (n:Nat) (k2:ac_.K9) (N:Nat):ac_.T9:=b4_ (fun _ _ _ _ _ _ _ _ _ _ _ _=>none) (ac_.step9 n k2) N
def ac_:Nat→(List TRow)→Int→Int→(List aY_)→Int→Bool→Int→(List Int)→Bool→Int→Int→Option (List TRow)
 |0,_,_,_,_,_,_,_,_,_,_,_=>none
 |n+1,data,n1,c,c1,c2,c3,c4,c5,c6,c7,c8=>
  (ac_.loop3 n (fun xy2 xy3 xy4 xy5 xy6 xy7 xy8 xy9 xy10 xy11 xy12 xy13 xy14=>((ab_ n xy14 xy13 xy2 xy3 xy4 xy5 xy6 xy7 xy8 xy9 xy10 xy11).bind fun xr15=>(cond (Nat.beq xr15.length xy14.length) (ac_.loop9 n (fun xy31=>(some xy31)) n xy2 xy3 xy4 xy5 xy6 xy7 xy8 xy9 xy10 xy11 xy12 xr15) none))) n n1 c c1 c2 c3 c4 c5 c6 c7 c8 20 0 20 data)
def aL_:Nat→(List TRow)→Int→(List aY_)→Int→Bool→Int→(List Int)→Bool→Int→Int→Option (List TRow)
 |0,_,_,_,_,_,_,_,_,_,_=>none
 |n+1,x,c,c1,c2,c3,c4,c5,c6,c7,c8=>
  ((ac_ n x (x.length:Int) c c1 c2 c3 c4 c5 c6 c7 c8).bind fun xr1=>(cond (Nat.beq xr1.length x.length) (some xr1) none))
abbrev ba_.K7:Type:=Int→(List aY_)→Int→Bool→Int→(List Int)→Bool→Int→Int→(List TRow)→Option (List TRow)
abbrev ba_.T7:Type:=(List TRow)→Int→Int→Int→(List aY_)→Int→Bool→Int→(List Int)→Bool→Int→Int→(List TRow)→Option (List TRow)
def ba_.step7 (n:Nat) (k0:ba_.K7) (back:ba_.T7):ba_.T7:=fun t25 t26 t27 q0 q1 q2 q3 q4 q5 q6 q7 q8 rows=>
 (cond (decide (t27<t26)) (inB t27 t25.length ((bk_ n (ae_.mk q0 q1 q2 q3 q4 q5 q6 q7 q8) (t25.getD t27.toNat TRow.dflt)).bind fun xr3=>(cond xr3 ((bQ_ n (t25.getD t27.toNat TRow.dflt)).bind fun xr4=>(cl_ (rows.length+([xr4]:List TRow).length) 32 (back t25 t26 (W (t27+1)) q0 q1 q2 q3 q4 q5 q6 q7 q8 (rows++([xr4]:List TRow))))) (back t25 t26 (W (t27+1)) q0 q1 q2 q3 q4 q5 q6 q7 q8 rows)))) (k0 q0 q1 q2 q3 q4 q5 q6 q7 q8 rows))
def ba_.loop7 (n:Nat) (k0:ba_.K7) (N:Nat):ba_.T7:=b4_ (fun _ _ _ _ _ _ _ _ _ _ _ _ _=>none) (ba_.step7 n k0) N
def ba_:Nat→an_→ae_→Option (List TRow)
 |0,_,_=>none
 |n+1,s,q=>
  ((a8_ n s).bind fun xr1=>(cond (!xr1) (some ([]:List TRow)) ((aB_ n s.schema q).bind fun xr2=>(cond (!xr2) (some ([]:List TRow)) (inB q.table s.tables.length (ba_.loop7 n (fun xy5 xy6 xy7 xy8 xy9 xy10 xy11 xy12 xy13 xy14=>((aL_ n xy14 xy5 xy6 xy7 xy8 xy9 xy10 xy11 xy12 xy13).bind fun xr15=>(cond (Nat.beq xr15.length xy14.length) (some xr15) none))) n (s.tables.getD q.table.toNat []) ((s.tables.getD q.table.toNat []).length:Int) 0 q.table q.where_ q.order q.down q.first q.show_ q.kids q.kidTable q.kidCol ([]:List TRow)))))))
def b7_:Nat→List TKid→Int→List TKid→Option (List TKid)
 |0,_,_,_=>none
 |_+1,s,i,v=>eS_ 16 s i v
def b8_:Nat→List TKid→Int→Int→Option (List TKid)
 |0,_,_,_=>none
 |_+1,s,i,j=>hn_ s i j
abbrev aN_.K4:Type:=Int→Int→Int→(List TKid)→Option (List TKid)
abbrev aN_.T4:Type:=Int→Int→Int→(List TKid)→Option (List TKid)
def aN_.step4 (n:Nat) (k0:aN_.K4) (back:aN_.T4):aN_.T4:=fun append t2 t8 t7=>
 (cond (decide (t8<(t7.length:Int))) (inB t8 t7.length (cond (decide (((t7.getD t8.toNat TKid.dflt).id_)<append)) (back append t2 (W (t8+1)) t7) (k0 append t2 t8 t7))) (k0 append t2 t8 t7))
def aN_.loop4 (n:Nat) (k0:aN_.K4) (N:Nat):aN_.T4:=b4_ (fun _ _ _ _=>none) (aN_.step4 n k0) N
def aN_:Nat→(List TKid)→Int→Int→Option (List TKid)
 |0,_,_,_=>none
 |n+1,o,append,a2=>
  (cl_ (([]:List TKid).length+o.length) 16 (aN_.loop4 n (fun xy1 xy2 xy3 xy4=>(cond (xy3 == (xy4.length:Int)) (cond (decide (xy2≤0)) (some xy4) ((b7_ n xy4 xy3 ([(TKid.mk xy1 xy2)]:List TKid)).bind fun xr5=>(some xr5))) (inB xy3 xy4.length (cond (((xy4.getD xy3.toNat TKid.dflt).id_) != xy1) (cond (decide (xy2≤0)) (some xy4) ((b7_ n xy4 xy3 ([(TKid.mk xy1 xy2)]:List TKid)).bind fun xr6=>(some xr6))) (inB xy3 xy4.length (inB xy3 xy4.length (let xa7:List TKid:=xy4.set xy3.toNat (TKid.mk ((xy4.getD xy3.toNat TKid.dflt).id_) (W (((xy4.getD xy3.toNat TKid.dflt).n_)+xy2)));(inB xy3 xa7.length (cond (decide (((xa7.getD xy3.toNat TKid.dflt).n_)≤0)) ((b8_ n xa7 xy3 (W (xy3+1))).bind fun xr8=>(some xr8)) (some xa7)))))))))) n append a2 0 (([]:List TKid)++o)))
abbrev bo_.K8:Type:=Int→Int→Bool→Int→Bool→Int→Int→Int→Int→Bool→Int→Bool→Int→Int→(List aY_)→(List Int)→(List TRow)→(List TKid)→Option (bd_ × Bool)
abbrev bo_.T8:Type:=(List TRow)→Int→Int→Int→(List aY_)→Int→Bool→Int→(List Int)→Bool→Int→Int→Int→Int→Bool→Int→Bool→Int→Int→Int→Int→Bool→Int→Bool→Int→Int→(List aY_)→(List Int)→(List TRow)→(List TKid)→Option (bd_ × Bool)
def bo_.step8 (n:Nat) (k0:bo_.K8) (back:bo_.T8):bo_.T8:=fun t33 t34 t35 q0 q1 q2 q3 q4 q5 q6 q7 q8 t40 t42 t43 t44 t46 t47 t48 v0 v2 v3 v4 v6 v7 v8 v1 v5 v9 v10=>
 (cond (decide (t35<t34)) (inB t35 t33.length (inB q8 ((t33.getD t35.toNat TRow.dflt).cells).length ((aN_ n v10 (((t33.getD t35.toNat TRow.dflt).cells).getD q8.toNat 0) 1).bind fun xr5=>(back t33 t34 (W (t35+1)) q0 q1 q2 q3 q4 q5 q6 q7 q8 t40 t42 t43 t44 t46 t47 t48 v0 v2 v3 v4 v6 v7 v8 v1 v5 v9 xr5)))) (k0 t40 t42 t43 t44 t46 t47 t48 v0 v2 v3 v4 v6 v7 v8 v1 v5 v9 v10))
def bo_.loop8 (n:Nat) (k0:bo_.K8) (N:Nat):bo_.T8:=b4_ (fun _ _ _ _ _ _ _ _ _ _ _ _ _ _ _ _ _ _ _ _ _ _ _ _ _ _ _ _ _ _=>none) (bo_.step8 n k0) N
def bo_:Nat→an_→ae_→Option (bd_ × Bool)
 |0,_,_=>none
 |n+1,s,q=>
  ((a8_ n s).bind fun xr1=>(cond (!xr1) (some ((bd_.mk (ae_.mk 0 ([]:List aY_) 0 false 0 ([]:List Int) false 0 0) ([]:List TRow) ([]:List TKid)),false)) ((aB_ n s.schema q).bind fun xr2=>(cond (!xr2) (some ((bd_.mk (ae_.mk 0 ([]:List aY_) 0 false 0 ([]:List Int) false 0 0) ([]:List TRow) ([]:List TKid)),false)) ((cr_ n q).bind fun xr3=>((ba_ n s q).bind fun xr4=>(cond q.kids (inB q.kidTable s.tables.length (bo_.loop8 n (fun xy6 xy7 xy8 xy9 xy10 xy11 xy12 xy13 xy14 xy15 xy16 xy17 xy18 xy19 xy20 xy21 xy22 xy23=>(some ((bd_.mk (ae_.mk xy13 xy20 xy14 xy15 xy16 xy21 xy17 xy18 xy19) xy22 xy23),true))) n (s.tables.getD q.kidTable.toNat []) ((s.tables.getD q.kidTable.toNat []).length:Int) 0 q.table q.where_ q.order q.down q.first q.show_ q.kids q.kidTable q.kidCol 0 0 false 0 false 0 0 xr3.table xr3.order xr3.down xr3.first xr3.kids xr3.kidTable xr3.kidCol xr3.where_ xr3.show_ xr4 ([]:List TKid))) (some ((bd_.mk xr3 xr4 ([]:List TKid)),true)))))))))
abbrev aF_.K7:Type:=Int→(List Int)→Int→(List aY_)→Int→Bool→Int→(List Int)→Bool→Int→Int→Option Bool
abbrev aF_.T7:Type:=Int→Int→(List Int)→Int→(List aY_)→Int→Bool→Int→(List Int)→Bool→Int→Int→Option Bool
def aF_.step7 (n:Nat) (k0:aF_.K7) (back:aF_.T7):aF_.T7:=fun t5 t6 t20 t30 t31 t32 t33 t34 t35 t36 t37 t38=>
 (cond (decide (t6<(t31.length:Int))) (inB t6 t31.length ((bO_ n ((t31.getD t6.toNat aY_.dflt).col) 0 (W (t5 - 1))).bind fun xr3=>(cond (!xr3) (some false) ((bO_ n ((t31.getD t6.toNat aY_.dflt).op) 1 4).bind fun xr4=>(cond (!xr4) (some false) ((bO_ n ((t31.getD t6.toNat aY_.dflt).v) (-1000000000) 1000000000).bind fun xr5=>(cond (!xr5) (some false) (back t5 (W (t6+1)) t20 t30 t31 t32 t33 t34 t35 t36 t37 t38)))))))) (k0 t5 t20 t30 t31 t32 t33 t34 t35 t36 t37 t38))
def aF_.loop7 (n:Nat) (k0:aF_.K7) (N:Nat):aF_.T7:=b4_ (fun _ _ _ _ _ _ _ _ _ _ _ _=>none) (aF_.step7 n k0) N
abbrev aF_.K16:Type:=Int→(List Int)→Int→(List aY_)→Int→Bool→Int→(List Int)→Bool→Int→Int→Option Bool
abbrev aF_.T16:Type:=Int→Int→(List Int)→Int→(List aY_)→Int→Bool→Int→(List Int)→Bool→Int→Int→Option Bool
def aF_.step16 (n:Nat) (k2:aF_.K16) (back:aF_.T16):aF_.T16:=fun t5 t8 t20 t30 t31 t32 t33 t34 t35 t36 t37 t38=>
 (cond (decide (t8<(t35.length:Int))) (inB t8 t35.length ((bO_ n (t35.getD t8.toNat 0) 0 (W (t5 - 1))).bind fun xr17=>(cond (!xr17) (some false) (cond (decide (t8 > 0)) (inB (W (t8 - 1)) t35.length (inB t8 t35.length (cond (decide ((t35.getD (W (t8 - 1)).toNat 0)≥(t35.getD t8.toNat 0))) (some false) (back t5 (W (t8+1)) t20 t30 t31 t32 t33 t34 t35 t36 t37 t38)))) (back t5 (W (t8+1)) t20 t30 t31 t32 t33 t34 t35 t36 t37 t38))))) (k2 t5 t20 t30 t31 t32 t33 t34 t35 t36 t37 t38))
def aF_.loop16 (n:Nat) (k2:aF_.K16) (N:Nat):aF_.T16:=b4_ (fun _ _ _ _ _ _ _ _ _ _ _ _=>none) (aF_.step16 n k2) N
def aF_:Nat→au_→ae_→Option Bool
 |0,_,_=>none
 |n+1,o,append=>
  ((aW_ n o).bind fun xr1=>(cond (!xr1) (some false) ((bO_ n append.table 0 (W ((o.cols.length:Int) - 1))).bind fun xr2=>(cond (!xr2) (some false) (cond (decide ((append.where_.length:Int) > 3)) (some false) (inB append.table o.cols.length (aF_.loop7 n (fun xy6 xy7 xy8 xy9 xy10 xy11 xy12 xy13 xy14 xy15 xy16=>(aF_.loop16 n (fun xy18 xy19 xy20 xy21 xy22 xy23 xy24 xy25 xy26 xy27 xy28=>((bO_ n xy22 0 xy18).bind fun xr29=>(cond (!xr29) (some false) ((bO_ n xy24 0 24).bind fun xr30=>(cond (!xr30) (some false) (cond (xy22 == 0) (cond xy23 (some false) (cond (!xy26) (cond (xy27 == 0) (some (xy28 == 0)) (some false)) ((bO_ n xy27 0 (W ((xy19.length:Int) - 1))).bind fun xr31=>(cond xr31 (inB xy27 xy19.length ((bO_ n xy28 0 (W ((xy19.getD xy27.toNat 0) - 1))).bind fun xr32=>(some xr32))) (some false))))) (cond (!xy26) (cond (xy27 == 0) (some (xy28 == 0)) (some false)) ((bO_ n xy27 0 (W ((xy19.length:Int) - 1))).bind fun xr33=>(cond xr33 (inB xy27 xy19.length ((bO_ n xy28 0 (W ((xy19.getD xy27.toNat 0) - 1))).bind fun xr34=>(some xr34))) (some false)))))))))) n xy6 0 xy7 xy8 xy9 xy10 xy11 xy12 xy13 xy14 xy15 xy16)) n (o.cols.getD append.table.toNat 0) 0 o.cols append.table append.where_ append.order append.down append.first append.show_ append.kids append.kidTable append.kidCol)))))))
def ds_:Nat→ae_→Option ae_
 |0,_=>none
 |n+1,q=>
  (cl_ (([]:List aY_).length+q.where_.length) 24 (cl_ (([]:List Int).length+q.show_.length) 8 (some { q with where_:=(([]:List aY_)++q.where_),show_:=(([]:List Int)++q.show_) })))
def c0_:Nat→aY_→TRow→Option Bool
 |0,_,_=>none
 |n+1,x,r=>
  ((bO_ n x.col 0 (W ((r.cells.length:Int) - 1))).bind fun xr1=>(cond (!xr1) (some false) (inB x.col r.cells.length (cond (x.op == 1) (some ((r.cells.getD x.col.toNat 0) == x.v)) (cond (x.op == 2) (some (decide ((r.cells.getD x.col.toNat 0)<x.v))) (cond (x.op == 3) (some (decide ((r.cells.getD x.col.toNat 0) > x.v))) (cond (x.op == 4) (some ((r.cells.getD x.col.toNat 0) != x.v)) (some false))))))))
abbrev br_.T3:Type:=Int→Int→(List aY_)→Int→Bool→Int→(List Int)→Bool→Int→Int→Int→(List Int)→Option Bool
def br_.step3 (n:Nat) (k0:Option Bool) (back:br_.T3):br_.T3:=fun i q0 q1 q2 q3 q4 q5 q6 q7 q8 r0 r1=>
 (cond (decide (i<(q1.length:Int))) (inB i q1.length ((c0_ n (q1.getD i.toNat aY_.dflt) (TRow.mk r0 r1)).bind fun xr1=>(cond (!xr1) (some false) (back (W (i+1)) q0 q1 q2 q3 q4 q5 q6 q7 q8 r0 r1)))) k0)
def br_.loop3 (n:Nat) (k0:Option Bool) (N:Nat):br_.T3:=b4_ (fun _ _ _ _ _ _ _ _ _ _ _ _=>none) (br_.step3 n k0) N
def br_:Nat→ae_→TRow→Option Bool
 |0,_,_=>none
 |n+1,q,r=>
  (br_.loop3 n (some true) n 0 q.table q.where_ q.order q.down q.first q.show_ q.kids q.kidTable q.kidCol r.id_ r.cells)
def dj_:Nat→TRow→Int→Option Int
 |0,_,_=>none
 |n+1,r,col=>
  ((bO_ n col 0 (W ((r.cells.length:Int) - 1))).bind fun xr1=>(cond (!xr1) (some 0) (inB col r.cells.length (some (r.cells.getD col.toNat 0)))))
def dB_:Nat→ae_→TRow→TRow→Option Bool
 |0,_,_,_=>none
 |n+1,q,a,b=>
  (cond (q.order != 0) ((dj_ n a (W (q.order - 1))).bind fun xr1=>((dj_ n b (W (q.order - 1))).bind fun xr2=>(cond (xr1 != xr2) (some (!((decide (xr1<xr2)) == q.down))) (some (decide (a.id_<b.id_)))))) (some (decide (a.id_<b.id_))))
abbrev bt_.K5:Type:=Bool→Int→(List Int)→(List TRow)→Option (List TRow)
abbrev bt_.T5:Type:=(List TRow)→Bool→Int→Int→(List aY_)→Int→Bool→Int→(List Int)→Bool→Int→Int→Int→(List Int)→(List TRow)→Option (List TRow)
def bt_.step5 (n:Nat) (k0:bt_.K5) (back:bt_.T5):bt_.T5:=fun rows put i q0 q1 q2 q3 q4 q5 q6 q7 q8 r0 r1 out_1=>
 (cond (decide (i<(rows.length:Int))) (cond (!put) (inB i rows.length ((dB_ n (ae_.mk q0 q1 q2 q3 q4 q5 q6 q7 q8) (TRow.mk r0 r1) (rows.getD i.toNat TRow.dflt)).bind fun xr1=>(cond xr1 ((bT_ n (TRow.mk r0 r1)).bind fun xr2=>(cl_ (out_1.length+([xr2]:List TRow).length) 32 (inB i rows.length (cl_ ((out_1++([xr2]:List TRow)).length+([(rows.getD i.toNat TRow.dflt)]:List TRow).length) 32 (back rows true (W (i+1)) q0 q1 q2 q3 q4 q5 q6 q7 q8 r0 r1 ((out_1++([xr2]:List TRow))++([(rows.getD i.toNat TRow.dflt)]:List TRow))))))) (inB i rows.length (cl_ (out_1.length+([(rows.getD i.toNat TRow.dflt)]:List TRow).length) 32 (back rows put (W (i+1)) q0 q1 q2 q3 q4 q5 q6 q7 q8 r0 r1 (out_1++([(rows.getD i.toNat TRow.dflt)]:List TRow)))))))) (inB i rows.length (cl_ (out_1.length+([(rows.getD i.toNat TRow.dflt)]:List TRow).length) 32 (back rows put (W (i+1)) q0 q1 q2 q3 q4 q5 q6 q7 q8 r0 r1 (out_1++([(rows.getD i.toNat TRow.dflt)]:List TRow)))))) (k0 put r0 r1 out_1))
def bt_.loop5 (n:Nat) (k0:bt_.K5) (N:Nat):bt_.T5:=b4_ (fun _ _ _ _ _ _ _ _ _ _ _ _ _ _ _=>none) (bt_.step5 n k0) N
def bt_:Nat→ae_→(List TRow)→TRow→Option (List TRow)
 |0,_,_,_=>none
 |n+1,q,rows,r=>
  (bt_.loop5 n (fun xy3 xy4 xy5 xy6=>(cond (!xy3) ((bT_ n (TRow.mk xy4 xy5)).bind fun xr7=>(cl_ (xy6.length+([xr7]:List TRow).length) 32 (some (xy6++([xr7]:List TRow))))) (some xy6))) n rows false 0 q.table q.where_ q.order q.down q.first q.show_ q.kids q.kidTable q.kidCol r.id_ r.cells ([]:List TRow))
abbrev bh_.K8:Type:=(List TRow)→Option (List TRow)
abbrev bh_.T8:Type:=(List TRow)→Int→Int→(List aY_)→Int→Bool→Int→(List Int)→Bool→Int→Int→(List TRow)→Option (List TRow)
def bh_.step8 (n:Nat) (k0:bh_.K8) (back:bh_.T8):bh_.T8:=fun rows i q0 q1 q2 q3 q4 q5 q6 q7 q8 out_1=>
 (cond (decide (i<(rows.length:Int))) (inB i rows.length ((br_ n (ae_.mk q0 q1 q2 q3 q4 q5 q6 q7 q8) (rows.getD i.toNat TRow.dflt)).bind fun xr3=>(cond xr3 (inB i rows.length ((bt_ n (ae_.mk q0 q1 q2 q3 q4 q5 q6 q7 q8) out_1 (rows.getD i.toNat TRow.dflt)).bind fun xr4=>(back rows (W (i+1)) q0 q1 q2 q3 q4 q5 q6 q7 q8 xr4))) (back rows (W (i+1)) q0 q1 q2 q3 q4 q5 q6 q7 q8 out_1)))) (k0 out_1))
def bh_.loop8 (n:Nat) (k0:bh_.K8) (N:Nat):bh_.T8:=b4_ (fun _ _ _ _ _ _ _ _ _ _ _ _=>none) (bh_.step8 n k0) N
def bh_:Nat→an_→ae_→Option (List TRow)
 |0,_,_=>none
 |n+1,s,q=>
  ((be_ n s).bind fun xr1=>(cond (!xr1) (some ([]:List TRow)) ((aF_ n s.schema q).bind fun xr2=>(cond (!xr2) (some ([]:List TRow)) (inB q.table s.tables.length (bh_.loop8 n (fun xy5=>(some xy5)) n (s.tables.getD q.table.toNat []) 0 q.table q.where_ q.order q.down q.first q.show_ q.kids q.kidTable q.kidCol ([]:List TRow)))))))
abbrev bv_.K5:Type:=Int→Int→Bool→(List TKid)→Option (List TKid)
abbrev bv_.T5:Type:=(List TKid)→Int→Int→Bool→Int→(List TKid)→Option (List TKid)
def bv_.step5 (n:Nat) (k0:bv_.K5) (back:bv_.T5):bv_.T5:=fun o append t2 t8 t9 t7=>
 (cond (decide (t9<(o.length:Int))) (inB t9 o.length (cond (!t8) (cond (decide (((o.getD t9.toNat TKid.dflt).id_)≥append)) (cond (((o.getD t9.toNat TKid.dflt).id_) == append) (cond (decide ((W (((o.getD t9.toNat TKid.dflt).n_)+t2)) > 0)) (cl_ (t7.length+([(TKid.mk append (W (((o.getD t9.toNat TKid.dflt).n_)+t2)))]:List TKid).length) 16 (cond (((o.getD t9.toNat TKid.dflt).id_) == append) (back o append t2 true (W (t9+1)) (t7++([(TKid.mk append (W (((o.getD t9.toNat TKid.dflt).n_)+t2)))]:List TKid))) (cl_ ((t7++([(TKid.mk append (W (((o.getD t9.toNat TKid.dflt).n_)+t2)))]:List TKid)).length+([(o.getD t9.toNat TKid.dflt)]:List TKid).length) 16 (back o append t2 true (W (t9+1)) ((t7++([(TKid.mk append (W (((o.getD t9.toNat TKid.dflt).n_)+t2)))]:List TKid))++([(o.getD t9.toNat TKid.dflt)]:List TKid)))))) (cond (((o.getD t9.toNat TKid.dflt).id_) == append) (back o append t2 true (W (t9+1)) t7) (cl_ (t7.length+([(o.getD t9.toNat TKid.dflt)]:List TKid).length) 16 (back o append t2 true (W (t9+1)) (t7++([(o.getD t9.toNat TKid.dflt)]:List TKid)))))) (cond (decide (t2 > 0)) (cl_ (t7.length+([(TKid.mk append t2)]:List TKid).length) 16 (cond (((o.getD t9.toNat TKid.dflt).id_) == append) (back o append t2 true (W (t9+1)) (t7++([(TKid.mk append t2)]:List TKid))) (cl_ ((t7++([(TKid.mk append t2)]:List TKid)).length+([(o.getD t9.toNat TKid.dflt)]:List TKid).length) 16 (back o append t2 true (W (t9+1)) ((t7++([(TKid.mk append t2)]:List TKid))++([(o.getD t9.toNat TKid.dflt)]:List TKid)))))) (cond (((o.getD t9.toNat TKid.dflt).id_) == append) (back o append t2 true (W (t9+1)) t7) (cl_ (t7.length+([(o.getD t9.toNat TKid.dflt)]:List TKid).length) 16 (back o append t2 true (W (t9+1)) (t7++([(o.getD t9.toNat TKid.dflt)]:List TKid))))))) (cl_ (t7.length+([(o.getD t9.toNat TKid.dflt)]:List TKid).length) 16 (back o append t2 t8 (W (t9+1)) (t7++([(o.getD t9.toNat TKid.dflt)]:List TKid))))) (cl_ (t7.length+([(o.getD t9.toNat TKid.dflt)]:List TKid).length) 16 (back o append t2 t8 (W (t9+1)) (t7++([(o.getD t9.toNat TKid.dflt)]:List TKid)))))) (k0 append t2 t8 t7))
def bv_.loop5 (n:Nat) (k0:bv_.K5) (N:Nat):bv_.T5:=b4_ (fun _ _ _ _ _ _=>none) (bv_.step5 n k0) N
def bv_:Nat→(List TKid)→Int→Int→Option (List TKid)
 |0,_,_,_=>none
 |n+1,o,append,a2=>
  (bv_.loop5 n (fun xy1 xy2 xy3 xy4=>(cond (!xy3) (cond (decide (xy2 > 0)) (cl_ (xy4.length+([(TKid.mk xy1 xy2)]:List TKid).length) 16 (some (xy4++([(TKid.mk xy1 xy2)]:List TKid)))) (some xy4)) (some xy4))) n o append a2 false 0 ([]:List TKid))
abbrev bq_.K8:Type:=Int→Int→Bool→Int→Bool→Int→Int→Int→Int→Bool→Int→Bool→Int→Int→(List aY_)→(List Int)→(List TRow)→(List TKid)→Option (bd_ × Bool)
abbrev bq_.T8:Type:=(List TRow)→Int→Int→(List aY_)→Int→Bool→Int→(List Int)→Bool→Int→Int→Int→Int→Bool→Int→Bool→Int→Int→Int→Int→Bool→Int→Bool→Int→Int→(List aY_)→(List Int)→(List TRow)→(List TKid)→Option (bd_ × Bool)
def bq_.step8 (n:Nat) (k0:bq_.K8) (back:bq_.T8):bq_.T8:=fun rows i q0 q1 q2 q3 q4 q5 q6 q7 q8 t40 t42 t43 t44 t46 t47 t48 v0 v2 v3 v4 v6 v7 v8 v1 v5 v9 v10=>
 (cond (decide (i<(rows.length:Int))) (cond q6 (inB i rows.length (inB q8 ((rows.getD i.toNat TRow.dflt).cells).length ((bv_ n v10 (((rows.getD i.toNat TRow.dflt).cells).getD q8.toNat 0) 1).bind fun xr5=>(back rows (W (i+1)) q0 q1 q2 q3 q4 q5 q6 q7 q8 t40 t42 t43 t44 t46 t47 t48 v0 v2 v3 v4 v6 v7 v8 v1 v5 v9 xr5)))) (k0 t40 t42 t43 t44 t46 t47 t48 v0 v2 v3 v4 v6 v7 v8 v1 v5 v9 v10)) (k0 t40 t42 t43 t44 t46 t47 t48 v0 v2 v3 v4 v6 v7 v8 v1 v5 v9 v10))
def bq_.loop8 (n:Nat) (k0:bq_.K8) (N:Nat):bq_.T8:=b4_ (fun _ _ _ _ _ _ _ _ _ _ _ _ _ _ _ _ _ _ _ _ _ _ _ _ _ _ _ _ _=>none) (bq_.step8 n k0) N
def bq_:Nat→an_→ae_→Option (bd_ × Bool)
 |0,_,_=>none
 |n+1,s,q=>
  ((be_ n s).bind fun xr1=>(cond (!xr1) (some ((bd_.mk (ae_.mk 0 ([]:List aY_) 0 false 0 ([]:List Int) false 0 0) ([]:List TRow) ([]:List TKid)),false)) ((aF_ n s.schema q).bind fun xr2=>(cond (!xr2) (some ((bd_.mk (ae_.mk 0 ([]:List aY_) 0 false 0 ([]:List Int) false 0 0) ([]:List TRow) ([]:List TKid)),false)) ((ds_ n q).bind fun xr3=>((bh_ n s q).bind fun xr4=>(inB q.kidTable s.tables.length (bq_.loop8 n (fun xy6 xy7 xy8 xy9 xy10 xy11 xy12 xy13 xy14 xy15 xy16 xy17 xy18 xy19 xy20 xy21 xy22 xy23=>(some ((bd_.mk (ae_.mk xy13 xy20 xy14 xy15 xy16 xy21 xy17 xy18 xy19) xy22 xy23),true))) n (s.tables.getD q.kidTable.toNat []) 0 q.table q.where_ q.order q.down q.first q.show_ q.kids q.kidTable q.kidCol 0 0 false 0 false 0 0 xr3.table xr3.order xr3.down xr3.first xr3.kids xr3.kidTable xr3.kidCol xr3.where_ xr3.show_ xr4 ([]:List TKid)))))))))
abbrev a1_.K4:Type:=(List TRow)→Option (List TRow)
abbrev a1_.T4:Type:=(List TRow)→Int→Int→(List TRow)→Option (List TRow)
def a1_.step4 (n:Nat) (k0:a1_.K4) (back:a1_.T4):a1_.T4:=fun t7 t8 t9 out_1=>
 (cond (decide (t9<t8)) (inB t9 t7.length ((bQ_ n (t7.getD t9.toNat TRow.dflt)).bind fun xr1=>(cl_ (out_1.length+([xr1]:List TRow).length) 32 (back t7 t8 (W (t9+1)) (out_1++([xr1]:List TRow)))))) (k0 out_1))
def a1_.loop4 (n:Nat) (k0:a1_.K4) (N:Nat):a1_.T4:=b4_ (fun _ _ _ _=>none) (a1_.step4 n k0) N
def a1_:Nat→(List TRow)→Option (List TRow)
 |0,_=>none
 |n+1,rows=>
  (a1_.loop4 n (fun xy2=>(some xy2)) n rows (rows.length:Int) 0 ([]:List TRow))
abbrev aR_.K4:Type:=Int→Int→(List Int)→(List (List TRow))→Option an_
abbrev aR_.T4:Type:=(List (List TRow))→Int→Int→Int→Int→(List Int)→(List (List TRow))→Option an_
def aR_.step4 (n:Nat) (k0:aR_.K4) (back:aR_.T4):aR_.T4:=fun t15 t16 t17 t21 out1 out0 out2=>
 (cond (decide (t17<t16)) (inB t17 t15.length ((a1_ n (t15.getD t17.toNat [])).bind fun xr2=>(cl_ (out2.length+([xr2]:List (List TRow)).length) 24 (back t15 t16 (W (t17+1)) t21 out1 out0 (out2++([xr2]:List (List TRow))))))) (k0 t21 out1 out0 out2))
def aR_.loop4 (n:Nat) (k0:aR_.K4) (N:Nat):aR_.T4:=b4_ (fun _ _ _ _ _ _ _=>none) (aR_.step4 n k0) N
def aR_:Nat→an_→Option an_
 |0,_=>none
 |n+1,s=>
  ((cs_ n s.schema.cols).bind fun xr1=>(aR_.loop4 n (fun xy3 xy4 xy5 xy6=>(some (an_.mk (au_.mk xy5) xy4 xy6))) n s.tables (s.tables.length:Int) 0 0 s.version xr1 ([]:List (List TRow))))
def c3_:Nat→an_→Option an_
 |0,_=>none
 |n+1,s=>
  ((a8_ n s).bind fun xr1=>(cond (!xr1) (some (an_.mk (au_.mk ([]:List Int)) 0 ([]:List (List TRow)))) ((aR_ n s).bind fun xr2=>(some xr2))))
def dV_:Nat→au_→TMut→Option Bool
 |0,_,_=>none
 |n+1,s,m=>
  (cond (m.kind == 3) ((aX_ n s).bind fun xr1=>(cond xr1 ((cg_ n s m.table).bind fun xr2=>(cond xr2 ((aE_ n m.row.id_ 1 999).bind fun xr3=>(cond xr3 (some ((m.row.cells.length:Int) == 0)) (some false))) (some false))) (some false))) ((aE_ n m.kind 1 2).bind fun xr4=>(cond xr4 ((bz_ n s m.table m.row).bind fun xr5=>(some xr5)) (some false))))
def cU_:Nat→TRow→Int→Option Bool
 |0,_,_=>none
 |n+1,r,c=>
  (some (r.id_ == c))
abbrev ak_.T3:Type:=(List TRow)→Int→Int→Int→Option Int
def ak_.step3 (n:Nat) (k0:Option Int) (back:ak_.T3):ak_.T3:=fun s f00 t7 t8=>
 (cond (decide (t8<t7)) (inB t8 s.length ((cU_ n (s.getD t8.toNat TRow.dflt) f00).bind fun xr1=>(cond xr1 (some t8) (back s f00 t7 (W (t8+1)))))) k0)
def ak_.loop3 (n:Nat) (k0:Option Int) (N:Nat):ak_.T3:=b4_ (fun _ _ _ _=>none) (ak_.step3 n k0) N
def ak_:Nat→(List TRow)→Int→Option Int
 |0,_,_=>none
 |n+1,s,c=>
  (ak_.loop3 n (some (-1)) n s c (s.length:Int) 0)
def c4_:Nat→(List TRow)→Int→Option Int
 |0,_,_=>none
 |n+1,rows,id1=>
  ((ak_ n rows id1).bind fun xr1=>(some xr1))
def cf_:Nat→List TRow→Int→Int→Option (List TRow)
 |0,_,_,_=>none
 |_+1,s,i,j=>hn_ s i j
def cq_:Nat→(List TRow)→Int→Option (List TRow)
 |0,_,_=>none
 |n+1,rows,id1=>
  ((a1_ n rows).bind fun xr1=>((c4_ n rows id1).bind fun xr2=>(cond (decide (xr2≥0)) ((cf_ n xr1 xr2 (W (xr2+1))).bind fun xr3=>(some xr3)) (some xr1))))
def cL_:Nat→TRow→Int→(List Int)→Option Bool
 |0,_,_,_=>none
 |n+1,x,c,c1=>
  (some (decide (x.id_ > c)))
abbrev ai_.T3:Type:=(List TRow)→Int→(List Int)→Int→Int→Option Int
def ai_.step3 (n:Nat) (k0:Option Int) (back:ai_.T3):ai_.T3:=fun s f00 f01 t7 t8=>
 (cond (decide (t8<t7)) (inB t8 s.length ((cL_ n (s.getD t8.toNat TRow.dflt) f00 f01).bind fun xr1=>(cond xr1 (some t8) (back s f00 f01 t7 (W (t8+1)))))) k0)
def ai_.loop3 (n:Nat) (k0:Option Int) (N:Nat):ai_.T3:=b4_ (fun _ _ _ _ _=>none) (ai_.step3 n k0) N
def ai_:Nat→(List TRow)→Int→(List Int)→Option Int
 |0,_,_,_=>none
 |n+1,s,c,c1=>
  (ai_.loop3 n (some (-1)) n s c c1 (s.length:Int) 0)
def bK_:Nat→List TRow→Int→List TRow→Option (List TRow)
 |0,_,_,_=>none
 |_+1,s,i,v=>eS_ 32 s i v
def cP_:Nat→(List TRow)→TRow→Option (List TRow)
 |0,_,_=>none
 |n+1,rows,r=>
  ((a1_ n rows).bind fun xr1=>((c4_ n rows r.id_).bind fun xr2=>(cond (decide (xr2≥0)) ((bQ_ n r).bind fun xr3=>(inB xr2 xr1.length (let xa4:List TRow:=xr1.set xr2.toNat xr3;(some xa4)))) ((ai_ n rows r.id_ r.cells).bind fun xr5=>(cond (decide (xr5<0)) ((bQ_ n r).bind fun xr6=>((bK_ n xr1 (rows.length:Int) ([xr6]:List TRow)).bind fun xr7=>(some xr7))) ((bQ_ n r).bind fun xr8=>((bK_ n xr1 xr5 ([xr8]:List TRow)).bind fun xr9=>(some xr9))))))))
def dW_:Nat→an_→TMut→Option (an_ × aI_ × Bool)
 |0,_,_=>none
 |n+1,o,append=>
  ((a8_ n o).bind fun xr1=>(cond (!xr1) ((c3_ n o).bind fun xr2=>(some (xr2,(aI_.mk 0 false false (TRow.mk 0 ([]:List Int)) (TRow.mk 0 ([]:List Int))),false))) ((dV_ n o.schema append).bind fun xr3=>(cond (!xr3) ((c3_ n o).bind fun xr4=>(some (xr4,(aI_.mk 0 false false (TRow.mk 0 ([]:List Int)) (TRow.mk 0 ([]:List Int))),false))) (inB append.table o.tables.length ((c4_ n (o.tables.getD append.table.toNat []) append.row.id_).bind fun xr5=>(cond ((decide (xr5≥0)) == (append.kind == 1)) ((aR_ n o).bind fun xr6=>(some (xr6,(aI_.mk 0 false false (TRow.mk 0 ([]:List Int)) (TRow.mk 0 ([]:List Int))),false))) (cond (append.kind == 1) (cond (((o.tables.getD append.table.toNat []).length:Int) == 24) ((aR_ n o).bind fun xr7=>(some (xr7,(aI_.mk 0 false false (TRow.mk 0 ([]:List Int)) (TRow.mk 0 ([]:List Int))),false))) ((aR_ n o).bind fun xr8=>(cond (decide (xr5≥0)) (inB xr5 (o.tables.getD append.table.toNat []).length ((bQ_ n ((o.tables.getD append.table.toNat []).getD xr5.toNat TRow.dflt)).bind fun xr9=>(cond (append.kind == 3) ((cq_ n (o.tables.getD append.table.toNat []) append.row.id_).bind fun xr10=>(inB append.table xr8.tables.length (let xa11:List (List TRow):=xr8.tables.set append.table.toNat xr10;(some ({ xr8 with tables:=xa11 },(aI_.mk append.table true false xr9 (TRow.mk 0 ([]:List Int))),true))))) ((bQ_ n append.row).bind fun xr12=>((cP_ n (o.tables.getD append.table.toNat []) append.row).bind fun xr13=>(inB append.table xr8.tables.length (let xa14:List (List TRow):=xr8.tables.set append.table.toNat xr13;(some ({ xr8 with tables:=xa14 },(aI_.mk append.table true true xr9 xr12),true))))))))) (cond (append.kind == 3) ((cq_ n (o.tables.getD append.table.toNat []) append.row.id_).bind fun xr15=>(inB append.table xr8.tables.length (let xa16:List (List TRow):=xr8.tables.set append.table.toNat xr15;(some ({ xr8 with tables:=xa16 },(aI_.mk append.table false false (TRow.mk 0 ([]:List Int)) (TRow.mk 0 ([]:List Int))),true))))) ((bQ_ n append.row).bind fun xr17=>((cP_ n (o.tables.getD append.table.toNat []) append.row).bind fun xr18=>(inB append.table xr8.tables.length (let xa19:List (List TRow):=xr8.tables.set append.table.toNat xr18;(some ({ xr8 with tables:=xa19 },(aI_.mk append.table false true (TRow.mk 0 ([]:List Int)) xr17),true)))))))))) ((aR_ n o).bind fun xr20=>(cond (decide (xr5≥0)) (inB xr5 (o.tables.getD append.table.toNat []).length ((bQ_ n ((o.tables.getD append.table.toNat []).getD xr5.toNat TRow.dflt)).bind fun xr21=>(cond (append.kind == 3) ((cq_ n (o.tables.getD append.table.toNat []) append.row.id_).bind fun xr22=>(inB append.table xr20.tables.length (let xa23:List (List TRow):=xr20.tables.set append.table.toNat xr22;(some ({ xr20 with tables:=xa23 },(aI_.mk append.table true false xr21 (TRow.mk 0 ([]:List Int))),true))))) ((bQ_ n append.row).bind fun xr24=>((cP_ n (o.tables.getD append.table.toNat []) append.row).bind fun xr25=>(inB append.table xr20.tables.length (let xa26:List (List TRow):=xr20.tables.set append.table.toNat xr25;(some ({ xr20 with tables:=xa26 },(aI_.mk append.table true true xr21 xr24),true))))))))) (cond (append.kind == 3) ((cq_ n (o.tables.getD append.table.toNat []) append.row.id_).bind fun xr27=>(inB append.table xr20.tables.length (let xa28:List (List TRow):=xr20.tables.set append.table.toNat xr27;(some ({ xr20 with tables:=xa28 },(aI_.mk append.table false false (TRow.mk 0 ([]:List Int)) (TRow.mk 0 ([]:List Int))),true))))) ((bQ_ n append.row).bind fun xr29=>((cP_ n (o.tables.getD append.table.toNat []) append.row).bind fun xr30=>(inB append.table xr20.tables.length (let xa31:List (List TRow):=xr20.tables.set append.table.toNat xr30;(some ({ xr20 with tables:=xa31 },(aI_.mk append.table false true (TRow.mk 0 ([]:List Int)) xr29),true)))))))))))))))))
abbrev bl_.K8:Type:=Int→Int→(List aI_)→(List Int)→(List (List TRow))→Option (an_ × (List aI_) × Bool)
abbrev bl_.T8:Type:=(List TMut)→Int→Int→(List Int)→Int→(List (List TRow))→Int→Int→(List aI_)→(List Int)→(List (List TRow))→Option (an_ × (List aI_) × Bool)
def bl_.step8 (n:Nat) (k0:bl_.K8) (back:bl_.T8):bl_.T8:=fun t33 t34 t35 s0 s1 s2 t41 out1 changes out0 out2=>
 (cond (decide (t35<t34)) (inB t35 t33.length ((dW_ n (an_.mk (au_.mk out0) out1 out2) { (t33.getD t35.toNat TMut.dflt) with row:=((t33.getD t35.toNat TMut.dflt).row) }).bind fun xr7=>(cond (!xr7.2.2) ((aR_ n (an_.mk (au_.mk s0) s1 s2)).bind fun xr8=>(some (xr8,([]:List aI_),false))) (cl_ (changes.length+([xr7.2.1]:List aI_).length) 80 (back t33 t34 (W (t35+1)) s0 s1 s2 t41 xr7.1.version (changes++([xr7.2.1]:List aI_)) xr7.1.schema.cols xr7.1.tables))))) (k0 t41 out1 changes out0 out2))
def bl_.loop8 (n:Nat) (k0:bl_.K8) (N:Nat):bl_.T8:=b4_ (fun _ _ _ _ _ _ _ _ _ _ _=>none) (bl_.step8 n k0) N
def bl_:Nat→an_→(List TMut)→Option (an_ × (List aI_) × Bool)
 |0,_,_=>none
 |n+1,s,list=>
  ((a8_ n s).bind fun xr1=>(cond (!xr1) ((c3_ n s).bind fun xr2=>(some (xr2,([]:List aI_),false))) ((aE_ n (list.length:Int) 1 5).bind fun xr3=>(cond (!xr3) ((c3_ n s).bind fun xr4=>(some (xr4,([]:List aI_),false))) (cond (s.version == 100000) ((c3_ n s).bind fun xr5=>(some (xr5,([]:List aI_),false))) ((aR_ n s).bind fun xr6=>(bl_.loop8 n (fun xy9 xy10 xy11 xy12 xy13=>(some ((an_.mk (au_.mk xy12) (W (xy10+1)) xy13),xy11,true))) n list (list.length:Int) 0 s.schema.cols s.version s.tables 0 xr6.version ([]:List aI_) xr6.schema.cols xr6.tables)))))))
abbrev bi_.K12:Type:=(List Int)→Int→(List (List TRow))→Int→Int→(List aI_)→(List Int)→(List (List TRow))→Option (an_ × (List aI_) × Bool)
abbrev bi_.T12:Type:=(List TMut)→Int→(List Int)→Int→(List (List TRow))→Int→(List aI_)→Int→(List aI_)→(List Int)→(List (List TRow))→Option (an_ × (List aI_) × Bool)
def bi_.step12 (n:Nat) (k0:bi_.K12) (back:bi_.T12):bi_.T12:=fun append t10 t20 t21 t22 t41 t7 t81 t9 t80 t82=>
 (cond (decide (t10<(append.length:Int))) (inB t10 append.length ((dA_ n (an_.mk (au_.mk t80) t81 t82) { (append.getD t10.toNat TMut.dflt) with row:=((append.getD t10.toNat TMut.dflt).row) }).bind fun xr6=>(cond (!xr6.2.2) ((bb_ n (an_.mk (au_.mk t20) t21 t22)).bind fun xr7=>(some (xr7,t7,false))) (cl_ (t9.length+([xr6.2.1]:List aI_).length) 80 (back append (W (t10+1)) t20 t21 t22 t41 t7 xr6.1.version (t9++([xr6.2.1]:List aI_)) xr6.1.schema.cols xr6.1.tables))))) (k0 t20 t21 t22 t41 t81 t9 t80 t82))
def bi_.loop12 (n:Nat) (k0:bi_.K12) (N:Nat):bi_.T12:=b4_ (fun _ _ _ _ _ _ _ _ _ _ _=>none) (bi_.step12 n k0) N
def bi_:Nat→an_→(List TMut)→Option (an_ × (List aI_) × Bool)
 |0,_,_=>none
 |n+1,o,append=>
  ((be_ n o).bind fun xr1=>(cond (!xr1) (some ((an_.mk (au_.mk ([]:List Int)) 0 ([]:List (List TRow))),([]:List aI_),false)) ((bO_ n (append.length:Int) 1 5).bind fun xr2=>(cond (!xr2) ((bb_ n o).bind fun xr3=>(some (xr3,([]:List aI_),false))) (cond (o.version == 100000) ((bb_ n o).bind fun xr4=>(some (xr4,([]:List aI_),false))) ((bb_ n o).bind fun xr5=>(bi_.loop12 n (fun xy8 xy9 xy10 xy11 xy12 xy13 xy14 xy15=>(some ((an_.mk (au_.mk xy14) (W (xy9+1)) xy15),xy13,true))) n append 0 o.schema.cols o.version o.tables 0 ([]:List aI_) xr5.version ([]:List aI_) xr5.schema.cols xr5.tables)))))))
def cK_:Nat→bd_→Option bd_
 |0,_=>none
 |n+1,v=>
  ((cr_ n v.q).bind fun xr1=>((a1_ n v.rows).bind fun xr2=>(cl_ (([]:List TKid).length+v.kids.length) 16 (some (bd_.mk xr1 xr2 (([]:List TKid)++v.kids))))))
def cI_:Nat→TRow→Int→(List aY_)→Int→Bool→Int→(List Int)→Bool→Int→Int→Int→(List Int)→Option Bool
 |0,_,_,_,_,_,_,_,_,_,_,_,_=>none
 |n+1,x,c,c1,c2,c3,c4,c5,c6,c7,c8,c9,c10=>
  ((dp_ n (ae_.mk c c1 c2 c3 c4 c5 c6 c7 c8) (TRow.mk c9 c10) x).bind fun xr1=>(some xr1))
abbrev ah_.T3:Type:=(List TRow)→Int→(List aY_)→Int→Bool→Int→(List Int)→Bool→Int→Int→Int→(List Int)→Int→Int→Option Int
def ah_.step3 (n:Nat) (k0:Option Int) (back:ah_.T3):ah_.T3:=fun s f00 f01 f02 f03 f04 f05 f06 f07 f08 f10 f11 t7 t8=>
 (cond (decide (t8<t7)) (inB t8 s.length ((cI_ n (s.getD t8.toNat TRow.dflt) f00 f01 f02 f03 f04 f05 f06 f07 f08 f10 f11).bind fun xr1=>(cond xr1 (some t8) (back s f00 f01 f02 f03 f04 f05 f06 f07 f08 f10 f11 t7 (W (t8+1)))))) k0)
def ah_.loop3 (n:Nat) (k0:Option Int) (N:Nat):ah_.T3:=b4_ (fun _ _ _ _ _ _ _ _ _ _ _ _ _ _=>none) (ah_.step3 n k0) N
def ah_:Nat→(List TRow)→Int→(List aY_)→Int→Bool→Int→(List Int)→Bool→Int→Int→Int→(List Int)→Option Int
 |0,_,_,_,_,_,_,_,_,_,_,_,_=>none
 |n+1,s,c,c1,c2,c3,c4,c5,c6,c7,c8,c9,c10=>
  (ah_.loop3 n (some (-1)) n s c c1 c2 c3 c4 c5 c6 c7 c8 c9 c10 (s.length:Int) 0)
def dk_:Nat→ae_→(List TRow)→TRow→Option (List TRow)
 |0,_,_,_=>none
 |n+1,q,rows,r=>
  ((ah_ n rows q.table q.where_ q.order q.down q.first q.show_ q.kids q.kidTable q.kidCol r.id_ r.cells).bind fun xr1=>(cond (decide (xr1<0)) ((a1_ n rows).bind fun xr2=>((bQ_ n r).bind fun xr3=>((bK_ n xr2 (rows.length:Int) ([xr3]:List TRow)).bind fun xr4=>(some xr4)))) ((a1_ n rows).bind fun xr5=>((bQ_ n r).bind fun xr6=>((bK_ n xr5 xr1 ([xr6]:List TRow)).bind fun xr7=>(some xr7))))))
def ct_:Nat→bd_→aI_→Option bd_
 |0,_,_=>none
 |n+1,o,append=>
  ((cK_ n o).bind fun xr1=>(cond (append.table == o.q.table) (cond append.had ((cq_ n xr1.rows append.old.id_).bind fun xr2=>(cond append.has ((bk_ n o.q append.new).bind fun xr3=>(cond xr3 ((dk_ n o.q xr2 append.new).bind fun xr4=>(cond o.q.kids (cond (append.table == o.q.kidTable) (cond append.had ((bn_ n append.old o.q.kidCol).bind fun xr5=>((aN_ n xr1.kids xr5 (-1)).bind fun xr6=>(cond append.has ((bn_ n append.new o.q.kidCol).bind fun xr7=>((aN_ n xr6 xr7 1).bind fun xr8=>(some (bd_.mk xr1.q xr4 xr8)))) (some (bd_.mk xr1.q xr4 xr6))))) (cond append.has ((bn_ n append.new o.q.kidCol).bind fun xr9=>((aN_ n xr1.kids xr9 1).bind fun xr10=>(some (bd_.mk xr1.q xr4 xr10)))) (some { xr1 with rows:=xr4 }))) (some { xr1 with rows:=xr4 })) (some { xr1 with rows:=xr4 }))) (cond o.q.kids (cond (append.table == o.q.kidTable) (cond append.had ((bn_ n append.old o.q.kidCol).bind fun xr11=>((aN_ n xr1.kids xr11 (-1)).bind fun xr12=>(cond append.has ((bn_ n append.new o.q.kidCol).bind fun xr13=>((aN_ n xr12 xr13 1).bind fun xr14=>(some (bd_.mk xr1.q xr2 xr14)))) (some (bd_.mk xr1.q xr2 xr12))))) (cond append.has ((bn_ n append.new o.q.kidCol).bind fun xr15=>((aN_ n xr1.kids xr15 1).bind fun xr16=>(some (bd_.mk xr1.q xr2 xr16)))) (some { xr1 with rows:=xr2 }))) (some { xr1 with rows:=xr2 })) (some { xr1 with rows:=xr2 })))) (cond o.q.kids (cond (append.table == o.q.kidTable) (cond append.had ((bn_ n append.old o.q.kidCol).bind fun xr17=>((aN_ n xr1.kids xr17 (-1)).bind fun xr18=>(cond append.has ((bn_ n append.new o.q.kidCol).bind fun xr19=>((aN_ n xr18 xr19 1).bind fun xr20=>(some (bd_.mk xr1.q xr2 xr20)))) (some (bd_.mk xr1.q xr2 xr18))))) (cond append.has ((bn_ n append.new o.q.kidCol).bind fun xr21=>((aN_ n xr1.kids xr21 1).bind fun xr22=>(some (bd_.mk xr1.q xr2 xr22)))) (some { xr1 with rows:=xr2 }))) (some { xr1 with rows:=xr2 })) (some { xr1 with rows:=xr2 })))) (cond append.has ((bk_ n o.q append.new).bind fun xr23=>(cond xr23 ((dk_ n o.q xr1.rows append.new).bind fun xr24=>(cond o.q.kids (cond (append.table == o.q.kidTable) (cond append.had ((bn_ n append.old o.q.kidCol).bind fun xr25=>((aN_ n xr1.kids xr25 (-1)).bind fun xr26=>(cond append.has ((bn_ n append.new o.q.kidCol).bind fun xr27=>((aN_ n xr26 xr27 1).bind fun xr28=>(some (bd_.mk xr1.q xr24 xr28)))) (some (bd_.mk xr1.q xr24 xr26))))) (cond append.has ((bn_ n append.new o.q.kidCol).bind fun xr29=>((aN_ n xr1.kids xr29 1).bind fun xr30=>(some (bd_.mk xr1.q xr24 xr30)))) (some { xr1 with rows:=xr24 }))) (some { xr1 with rows:=xr24 })) (some { xr1 with rows:=xr24 }))) (cond o.q.kids (cond (append.table == o.q.kidTable) (cond append.had ((bn_ n append.old o.q.kidCol).bind fun xr31=>((aN_ n xr1.kids xr31 (-1)).bind fun xr32=>(cond append.has ((bn_ n append.new o.q.kidCol).bind fun xr33=>((aN_ n xr32 xr33 1).bind fun xr34=>(some { xr1 with kids:=xr34 }))) (some { xr1 with kids:=xr32 })))) (cond append.has ((bn_ n append.new o.q.kidCol).bind fun xr35=>((aN_ n xr1.kids xr35 1).bind fun xr36=>(some { xr1 with kids:=xr36 }))) (some xr1))) (some xr1)) (some xr1)))) (cond o.q.kids (cond (append.table == o.q.kidTable) (cond append.had ((bn_ n append.old o.q.kidCol).bind fun xr37=>((aN_ n xr1.kids xr37 (-1)).bind fun xr38=>(cond append.has ((bn_ n append.new o.q.kidCol).bind fun xr39=>((aN_ n xr38 xr39 1).bind fun xr40=>(some { xr1 with kids:=xr40 }))) (some { xr1 with kids:=xr38 })))) (cond append.has ((bn_ n append.new o.q.kidCol).bind fun xr41=>((aN_ n xr1.kids xr41 1).bind fun xr42=>(some { xr1 with kids:=xr42 }))) (some xr1))) (some xr1)) (some xr1)))) (cond o.q.kids (cond (append.table == o.q.kidTable) (cond append.had ((bn_ n append.old o.q.kidCol).bind fun xr43=>((aN_ n xr1.kids xr43 (-1)).bind fun xr44=>(cond append.has ((bn_ n append.new o.q.kidCol).bind fun xr45=>((aN_ n xr44 xr45 1).bind fun xr46=>(some { xr1 with kids:=xr46 }))) (some { xr1 with kids:=xr44 })))) (cond append.has ((bn_ n append.new o.q.kidCol).bind fun xr47=>((aN_ n xr1.kids xr47 1).bind fun xr48=>(some { xr1 with kids:=xr48 }))) (some xr1))) (some xr1)) (some xr1))))
abbrev aQ_.K4:Type:=Int→Int→Bool→Int→Bool→Int→Int→Int→Int→Bool→Int→Bool→Int→Int→(List aY_)→(List Int)→(List TRow)→(List TKid)→Option bd_
abbrev aQ_.T4:Type:=(List aI_)→Int→Int→Int→Int→Bool→Int→Bool→Int→Int→Int→Int→Bool→Int→Bool→Int→Int→(List aY_)→(List Int)→(List TRow)→(List TKid)→Option bd_
def aQ_.step4 (n:Nat) (k0:aQ_.K4) (back:aQ_.T4):aQ_.T4:=fun t10 t11 t12 t40 t42 t43 t44 t46 t47 t48 out0 out2 out3 out4 out6 out7 out8 out1 out5 out9 out10=>
 (cond (decide (t12<t11)) (inB t12 t10.length ((ct_ n (bd_.mk (ae_.mk out0 out1 out2 out3 out4 out5 out6 out7 out8) out9 out10) { (t10.getD t12.toNat aI_.dflt) with old:=((t10.getD t12.toNat aI_.dflt).old),new:=((t10.getD t12.toNat aI_.dflt).new) }).bind fun xr2=>(back t10 t11 (W (t12+1)) t40 t42 t43 t44 t46 t47 t48 xr2.q.table xr2.q.order xr2.q.down xr2.q.first xr2.q.kids xr2.q.kidTable xr2.q.kidCol xr2.q.where_ xr2.q.show_ xr2.rows xr2.kids))) (k0 t40 t42 t43 t44 t46 t47 t48 out0 out2 out3 out4 out6 out7 out8 out1 out5 out9 out10))
def aQ_.loop4 (n:Nat) (k0:aQ_.K4) (N:Nat):aQ_.T4:=b4_ (fun _ _ _ _ _ _ _ _ _ _ _ _ _ _ _ _ _ _ _ _ _=>none) (aQ_.step4 n k0) N
def aQ_:Nat→bd_→(List aI_)→Option bd_
 |0,_,_=>none
 |n+1,v,list=>
  ((cK_ n v).bind fun xr1=>(aQ_.loop4 n (fun xy3 xy4 xy5 xy6 xy7 xy8 xy9 xy10 xy11 xy12 xy13 xy14 xy15 xy16 xy17 xy18 xy19 xy20=>(some (bd_.mk (ae_.mk xy10 xy17 xy11 xy12 xy13 xy18 xy14 xy15 xy16) xy19 xy20))) n list (list.length:Int) 0 0 0 false 0 false 0 0 xr1.q.table xr1.q.order xr1.q.down xr1.q.first xr1.q.kids xr1.q.kidTable xr1.q.kidCol xr1.q.where_ xr1.q.show_ xr1.rows xr1.kids))
abbrev aS_.T6:Type:=(List aY_)→(List aY_)→Int→Int→Option Bool
def aS_.step6 (n:Nat) (k0:Option Bool) (back:aS_.T6):aS_.T6:=fun s1 s2 t12 t13=>
 (cond (decide (t13<t12)) (inB t13 s1.length (inB t13 s2.length (let xv1:Bool:=(!(cond (((s1.getD t13.toNat aY_.dflt).col) == ((s2.getD t13.toNat aY_.dflt).col)) (cond (((s1.getD t13.toNat aY_.dflt).op) == ((s2.getD t13.toNat aY_.dflt).op)) (cond (((s1.getD t13.toNat aY_.dflt).v) == ((s2.getD t13.toNat aY_.dflt).v)) true false) false) false));(cond xv1 (some false) (back s1 s2 t12 (W (t13+1))))))) k0)
def aS_.loop6 (n:Nat) (k0:Option Bool) (N:Nat):aS_.T6:=b4_ (fun _ _ _ _=>none) (aS_.step6 n k0) N
def aS_:Nat→(List aY_)→(List aY_)→Option Bool
 |0,_,_=>none
 |n+1,s1,s2=>
  (cond ((s1.length:Int) != (s2.length:Int)) (some false) (aS_.loop6 n (some true) n s1 s2 (s1.length:Int) 0))
abbrev aT_.T6:Type:=(List Int)→(List Int)→Int→Int→Option Bool
def aT_.step6 (n:Nat) (k0:Option Bool) (back:aT_.T6):aT_.T6:=fun s1 s2 t12 t13=>
 (cond (decide (t13<t12)) (inB t13 s1.length (inB t13 s2.length (cond ((s1.getD t13.toNat 0) != (s2.getD t13.toNat 0)) (some false) (back s1 s2 t12 (W (t13+1)))))) k0)
def aT_.loop6 (n:Nat) (k0:Option Bool) (N:Nat):aT_.T6:=b4_ (fun _ _ _ _=>none) (aT_.step6 n k0) N
def aT_:Nat→(List Int)→(List Int)→Option Bool
 |0,_,_=>none
 |n+1,s1,s2=>
  (cond ((s1.length:Int) != (s2.length:Int)) (some false) (aT_.loop6 n (some true) n s1 s2 (s1.length:Int) 0))
def cM_:Nat→ae_→ae_→Option Bool
 |0,_,_=>none
 |n+1,o,append=>
  (cond (o.table == append.table) (cond (o.order == append.order) (cond (o.down == append.down) (cond (o.kids == append.kids) (cond (o.kidTable == append.kidTable) (cond (o.first == append.first) (cond (o.kidCol == append.kidCol) ((aS_ n o.where_ append.where_).bind fun xr1=>(cond xr1 ((aT_ n o.show_ append.show_).bind fun xr2=>(some xr2)) (some false))) (some false)) (some false)) (cond (o.first == append.first) (some false) (some false))) (cond (o.first == append.first) (some false) (some false))) (cond (o.kids == append.kids) (cond (o.kidTable == append.kidTable) (some false) (some false)) (some false))) (cond (o.kids == append.kids) (cond (o.kidTable == append.kidTable) (some false) (some false)) (some false))) (cond (o.kids == append.kids) (cond (o.kidTable == append.kidTable) (some false) (some false)) (some false)))
def di_:Nat→TRow→TRow→Option Bool
 |0,_,_=>none
 |n+1,a,b=>
  (cond (a.id_ == b.id_) ((aT_ n a.cells b.cells).bind fun xr1=>(some xr1)) (some false))
abbrev al_.T6:Type:=(List TRow)→(List TRow)→Int→Int→Option Bool
def al_.step6 (n:Nat) (k0:Option Bool) (back:al_.T6):al_.T6:=fun s2 t15 t16 t17=>
 (cond (decide (t17<t16)) (inB t17 t15.length (inB t17 s2.length ((di_ n (t15.getD t17.toNat TRow.dflt) (s2.getD t17.toNat TRow.dflt)).bind fun xr1=>(cond (!xr1) (some false) (back s2 t15 t16 (W (t17+1))))))) k0)
def al_.loop6 (n:Nat) (k0:Option Bool) (N:Nat):al_.T6:=b4_ (fun _ _ _ _=>none) (al_.step6 n k0) N
def al_:Nat→(List TRow)→(List TRow)→Option Bool
 |0,_,_=>none
 |n+1,s1,s2=>
  (cond ((s1.length:Int) != (s2.length:Int)) (some false) (al_.loop6 n (some true) n s2 s1 (s1.length:Int) 0))
abbrev a0_.T6:Type:=(List TKid)→(List TKid)→Int→Int→Option Bool
def a0_.step6 (n:Nat) (k0:Option Bool) (back:a0_.T6):a0_.T6:=fun s1 s2 t12 t13=>
 (cond (decide (t13<t12)) (inB t13 s1.length (inB t13 s2.length (let xv1:Bool:=(!(cond (((s1.getD t13.toNat TKid.dflt).id_) == ((s2.getD t13.toNat TKid.dflt).id_)) (cond (((s1.getD t13.toNat TKid.dflt).n_) == ((s2.getD t13.toNat TKid.dflt).n_)) true false) false));(cond xv1 (some false) (back s1 s2 t12 (W (t13+1))))))) k0)
def a0_.loop6 (n:Nat) (k0:Option Bool) (N:Nat):a0_.T6:=b4_ (fun _ _ _ _=>none) (a0_.step6 n k0) N
def a0_:Nat→(List TKid)→(List TKid)→Option Bool
 |0,_,_=>none
 |n+1,s1,s2=>
  (cond ((s1.length:Int) != (s2.length:Int)) (some false) (a0_.loop6 n (some true) n s1 s2 (s1.length:Int) 0))
def cT_:Nat→bd_→bd_→Option Bool
 |0,_,_=>none
 |n+1,a,b=>
  ((cM_ n a.q b.q).bind fun xr1=>(cond xr1 ((al_ n a.rows b.rows).bind fun xr2=>(cond xr2 ((a0_ n a.kids b.kids).bind fun xr3=>(some xr3)) (some false))) (some false)))
abbrev aO_.K6:Type:=Int→(List aY_)→Int→Bool→Int→(List Int)→Bool→Int→Int→(List TRow)→(List TKid)→Option Bool
abbrev aO_.T6:Type:=(List TRow)→Int→Int→(List Int)→Int→(List aY_)→Int→Bool→Int→(List Int)→Bool→Int→Int→(List TRow)→(List TKid)→Option Bool
def aO_.step6 (n:Nat) (k0:aO_.K6) (back:aO_.T6):aO_.T6:=fun t33 t34 t35 t20 t30 t31 t32 t33_1 t34_1 t35_1 t36 t37 t38 t39 t310=>
 (cond (decide (t35<t34)) (inB t35 t33.length ((bz_ n (au_.mk t20) t30 (t33.getD t35.toNat TRow.dflt)).bind fun xr2=>(cond (!xr2) (some false) ((bk_ n (ae_.mk t30 t31 t32 t33_1 t34_1 t35_1 t36 t37 t38) (t33.getD t35.toNat TRow.dflt)).bind fun xr3=>(cond (!xr3) (some false) (cond (decide (t35 > 0)) (inB (W (t35 - 1)) t39.length ((dp_ n (ae_.mk t30 t31 t32 t33_1 t34_1 t35_1 t36 t37 t38) (t39.getD (W (t35 - 1)).toNat TRow.dflt) (t33.getD t35.toNat TRow.dflt)).bind fun xr4=>(cond (!xr4) (some false) ((c4_ n t39 ((t33.getD t35.toNat TRow.dflt).id_)).bind fun xr5=>(cond (xr5 != t35) (some false) (back t33 t34 (W (t35+1)) t20 t30 t31 t32 t33_1 t34_1 t35_1 t36 t37 t38 t39 t310)))))) ((c4_ n t39 ((t33.getD t35.toNat TRow.dflt).id_)).bind fun xr6=>(cond (xr6 != t35) (some false) (back t33 t34 (W (t35+1)) t20 t30 t31 t32 t33_1 t34_1 t35_1 t36 t37 t38 t39 t310))))))))) (k0 t30 t31 t32 t33_1 t34_1 t35_1 t36 t37 t38 t39 t310))
def aO_.loop6 (n:Nat) (k0:aO_.K6) (N:Nat):aO_.T6:=b4_ (fun _ _ _ _ _ _ _ _ _ _ _ _ _ _ _=>none) (aO_.step6 n k0) N
abbrev aO_.T15:Type:=(List TKid)→Int→Int→Int→(List aY_)→Int→Bool→Int→(List Int)→Bool→Int→Int→(List TRow)→(List TKid)→Option Bool
def aO_.step15 (n:Nat) (k2:Option Bool) (back:aO_.T15):aO_.T15:=fun t82 t83 t84 t30 t31 t32 t33 t34 t35 t36 t37 t38 t39 t310=>
 (cond (decide (t84<t83)) (inB t84 t82.length ((aE_ n ((t82.getD t84.toNat TKid.dflt).n_) 1 24).bind fun xr18=>(cond (!xr18) (some false) (cond (decide (t84 > 0)) (inB (W (t84 - 1)) t310.length (let xv19:Bool:=(decide (((t310.getD (W (t84 - 1)).toNat TKid.dflt).id_)≥((t82.getD t84.toNat TKid.dflt).id_)));(cond xv19 (some false) (back t82 t83 (W (t84+1)) t30 t31 t32 t33 t34 t35 t36 t37 t38 t39 t310)))) (back t82 t83 (W (t84+1)) t30 t31 t32 t33 t34 t35 t36 t37 t38 t39 t310))))) k2)
def aO_.loop15 (n:Nat) (k2:Option Bool) (N:Nat):aO_.T15:=b4_ (fun _ _ _ _ _ _ _ _ _ _ _ _ _ _=>none) (aO_.step15 n k2) N
def aO_:Nat→au_→bd_→Option Bool
 |0,_,_=>none
 |n+1,o,append=>
  ((aB_ n o append.q).bind fun xr1=>(cond (!xr1) (some false) (cond (decide ((append.rows.length:Int) > 24)) (some false) (cond (decide ((append.kids.length:Int) > 0)) (cond (!append.q.kids) (some false) (aO_.loop6 n (fun xy7 xy8 xy9 xy10 xy11 xy12 xy13 xy14 xy15 xy16 xy17=>(aO_.loop15 n (some true) n xy17 (xy17.length:Int) 0 xy7 xy8 xy9 xy10 xy11 xy12 xy13 xy14 xy15 xy16 xy17)) n append.rows (append.rows.length:Int) 0 o.cols append.q.table append.q.where_ append.q.order append.q.down append.q.first append.q.show_ append.q.kids append.q.kidTable append.q.kidCol append.rows append.kids)) (aO_.loop6 n (fun xy20 xy21 xy22 xy23 xy24 xy25 xy26 xy27 xy28 xy29 xy30=>(aO_.loop15 n (some true) n xy30 (xy30.length:Int) 0 xy20 xy21 xy22 xy23 xy24 xy25 xy26 xy27 xy28 xy29 xy30)) n append.rows (append.rows.length:Int) 0 o.cols append.q.table append.q.where_ append.q.order append.q.down append.q.first append.q.show_ append.q.kids append.q.kidTable append.q.kidCol append.rows append.kids)))))
abbrev bF_.T3:Type:=Int→(List TKid)→Int→Int→Option Int
def bF_.step3 (n:Nat) (k0:Option Int) (back:bF_.T3):bF_.T3:=fun id_1 t8 t9 t10=>
 (cond (decide (t10<t9)) (inB t10 t8.length (cond (((t8.getD t10.toNat TKid.dflt).id_) == id_1) (some ((t8.getD t10.toNat TKid.dflt).n_)) (back id_1 t8 t9 (W (t10+1))))) k0)
def bF_.loop3 (n:Nat) (k0:Option Int) (N:Nat):bF_.T3:=b4_ (fun _ _ _ _=>none) (bF_.step3 n k0) N
def bF_:Nat→bd_→Int→Option Int
 |0,_,_=>none
 |n+1,v,id1=>
  (bF_.loop3 n (some 0) n id1 v.kids (v.kids.length:Int) 0)
abbrev aU_.K4:Type:=(List Int)→Option (List Int)
abbrev aU_.T4:Type:=(List TRow)→Int→Int→Int→(List aY_)→Int→Bool→Int→(List Int)→Bool→Int→Int→(List TRow)→(List TKid)→(List Int)→Option (List Int)
def aU_.step4 (n:Nat) (k0:aU_.K4) (back:aU_.T4):aU_.T4:=fun t8 t9 t10 v0 v1 v2 v3 v4 v5 v6 v7 v8 v9 v10 kids=>
 (cond (decide (t10<t9)) (inB t10 t8.length ((bF_ n (bd_.mk (ae_.mk v0 v1 v2 v3 v4 v5 v6 v7 v8) v9 v10) ((t8.getD t10.toNat TRow.dflt).id_)).bind fun xr1=>(cl_ (kids.length+([xr1]:List Int).length) 8 (back t8 t9 (W (t10+1)) v0 v1 v2 v3 v4 v5 v6 v7 v8 v9 v10 (kids++([xr1]:List Int)))))) (k0 kids))
def aU_.loop4 (n:Nat) (k0:aU_.K4) (N:Nat):aU_.T4:=b4_ (fun _ _ _ _ _ _ _ _ _ _ _ _ _ _ _=>none) (aU_.step4 n k0) N
def aU_:Nat→bd_→Option (List Int)
 |0,_=>none
 |n+1,v=>
  (aU_.loop4 n (fun xy2=>(some xy2)) n v.rows (v.rows.length:Int) 0 v.q.table v.q.where_ v.q.order v.q.down v.q.first v.q.show_ v.q.kids v.q.kidTable v.q.kidCol v.rows v.kids ([]:List Int))
def dg_:Nat→ae_→Int→Option Int
 |0,_,_=>none
 |n+1,q,count=>
  (cond (q.first == 0) (some count) (let xv1:Int:=(cond (decide (count<(cond (decide ((0:Int) > q.first)) 0 q.first))) count (cond (decide ((0:Int) > q.first)) 0 q.first));(some xv1)))
abbrev aZ_.T3:Type:=(List Int)→Int→Int→Int→Option Int
def aZ_.step3 (n:Nat) (k0:Option Int) (back:aZ_.T3):aZ_.T3:=fun s v t7 t8=>
 (cond (decide (t8<t7)) (inB t8 s.length (cond (v == (s.getD t8.toNat 0)) (some t8) (back s v t7 (W (t8+1))))) k0)
def aZ_.loop3 (n:Nat) (k0:Option Int) (N:Nat):aZ_.T3:=b4_ (fun _ _ _ _=>none) (aZ_.step3 n k0) N
def aZ_:Nat→(List Int)→Int→Option Int
 |0,_,_=>none
 |n+1,s,v=>
  (aZ_.loop3 n (some (-1)) n s v (s.length:Int) 0)
def bU_:Nat→(List Int)→Int→Option Bool
 |0,_,_=>none
 |n+1,s,v=>
  ((aZ_ n s v).bind fun xr1=>(some (decide (xr1≥0))))
def strconv_Itoa:Nat→Int→Option Bs
 |0,_=>none
 |_+1,i=>nItoa i
def dt_:Nat→Int→Option Bs
 |0,_=>none
 |n+1,n1=>
  ((strconv_Itoa n n1).bind fun xr1=>(some xr1))
def b9_:Nat→Bs→Option Bool
 |0,_=>none
 |n+1,x=>
  (some (!(x == x)))
def co_:Nat→Bs→Bs→Option Bool
 |0,_,_=>none
 |n+1,x,y=>
  ((b9_ n x).bind fun xr1=>(cond xr1 ((b9_ n y).bind fun xr2=>(cond (!xr2) (some true) (some (Op.bytesLess x y)))) (some (Op.bytesLess x y))))
def bN_:Nat→Bs→Option Bool
 |0,_=>none
 |n+1,x=>
  (some (!(x == x)))
abbrev ar_.K4:Type:=(List Bs)→Bs→Int→Int→Option (Int × Bool)
abbrev ar_.T4:Type:=(List Bs)→Bs→Int→Int→Int→Option (Int × Bool)
def ar_.step4 (n:Nat) (k0:ar_.K4) (back:ar_.T4):ar_.T4:=fun x target n_1 i j=>
 (cond (decide (i<j)) (let xv1:Int:=(Int.fdiv (IntKind.u64.wrap ((W (i+j)))) (2 ^ min (1:Int).toNat (IntKind.bits .u64)));(inB (W (xv1)) x.length ((co_ n (x.getD (W (xv1)).toNat []) target).bind fun xr2=>(cond xr2 (back x target n_1 (W ((W (xv1))+1)) j) (back x target n_1 i (W (xv1))))))) (k0 x target n_1 i))
def ar_.loop4 (n:Nat) (k0:ar_.K4) (N:Nat):ar_.T4:=b4_ (fun _ _ _ _ _=>none) (ar_.step4 n k0) N
def ar_:Nat→(List Bs)→Bs→Option (Int × Bool)
 |0,_,_=>none
 |n+1,x,target=>
  (ar_.loop4 n (fun xy3 xy4 xy5 xy6=>(cond (decide (xy6<xy5)) (inB xy6 xy3.length (cond ((xy3.getD xy6.toNat []) == xy4) (some (xy6,true)) (inB xy6 xy3.length ((bN_ n (xy3.getD xy6.toNat [])).bind fun xr7=>(cond xr7 ((bN_ n xy4).bind fun xr8=>(some (xy6,xr8))) (some (xy6,false))))))) (some (xy6,false)))) n x target (x.length:Int) 0 (x.length:Int))
def b0_:Nat→List Bs→Int→List Bs→Option (List Bs)
 |0,_,_,_=>none
 |_+1,s,i,v=>eS_ 16 s i v
def cb_:Nat→List ax_→Int→List ax_→Option (List ax_)
 |0,_,_,_=>none
 |_+1,s,i,v=>eS_ 80 s i v
abbrev bx_.K4:Type:=Int→Int→Bs→Int→Int→Bs→(List ax_)→(List Bs)→Option ax_
abbrev bx_.T4:Type:=(List Int)→(List Bs)→Int→Int→Int→Int→Bs→Int→Int→Bs→(List ax_)→(List Bs)→Option ax_
def bx_.step4 (n:Nat) (k0:bx_.K4) (back:bx_.T4):bx_.T4:=fun numbers t11 t12 t13 t40 t41 t42 j0 j1 j2 j3 j4=>
 (cond (decide (t13<t12)) (inB t13 t11.length ((ar_ n j4 (t11.getD t13.toNat [])).bind fun xr1=>((b0_ n j4 xr1.1 ([(t11.getD t13.toNat [])]:List Bs)).bind fun xr2=>(inB t13 numbers.length ((cb_ n j3 xr1.1 ([(ax_.mk 2 (numbers.getD t13.toNat 0) [] [] [])]:List ax_)).bind fun xr3=>(back numbers t11 t12 (W (t13+1)) t40 t41 t42 j0 j1 j2 xr3 xr2)))))) (k0 t40 t41 t42 j0 j1 j2 j3 j4))
def bx_.loop4 (n:Nat) (k0:bx_.K4) (N:Nat):bx_.T4:=b4_ (fun _ _ _ _ _ _ _ _ _ _ _ _=>none) (bx_.step4 n k0) N
def bx_:Nat→(List Bs)→(List Int)→Option ax_
 |0,_,_=>none
 |n+1,names,numbers=>
  (bx_.loop4 n (fun xy4 xy5 xy6 xy7 xy8 xy9 xy10 xy11=>(some (ax_.mk xy7 xy8 xy9 xy10 xy11))) n numbers names (names.length:Int) 0 0 0 [] 5 0 [] ([]:List ax_) ([]:List Bs))
abbrev aG_.T3:Type:=Bs→Int→Int→Option Bool
def aG_.step3 (n:Nat) (k0:Bs→Option Bool) (back:aG_.T3):aG_.T3:=fun s t5 t6=>
 (cond (decide (t6<t5)) (inB t6 s.length ((aE_ n (W (((s.getD t6.toNat 0).toNat:Int))) 32 126).bind fun xr1=>(cond (!xr1) (some false) (back s t5 (W (t6+1)))))) (k0 s))
def aG_.loop3 (n:Nat) (k0:Bs→Option Bool) (N:Nat):aG_.T3:=b4_ (fun _ _ _=>none) (aG_.step3 n k0) N
def aG_:Nat→Bs→Option Bool
 |0,_=>none
 |n+1,s=>
  (aG_.loop3 n (fun xy2=>(some (decide ((xy2.length:Int)≤60)))) n s (s.length:Int) 0)
abbrev az_.T3:Type:=(List Bs)→(List Bs)→Int→Int→Option Bool
def az_.step3 (n:Nat) (k0:Option Bool) (back:az_.T3):az_.T3:=fun names t5 t6 t7=>
 (cond (decide (t7<t6)) (inB t7 t5.length ((aG_ n (t5.getD t7.toNat [])).bind fun xr1=>(cond (!xr1) (some false) (cond (decide (t7 > 0)) (inB (W (t7 - 1)) names.length (let xv2:Bool:=(!Op.bytesLess (names.getD (W (t7 - 1)).toNat []) (t5.getD t7.toNat []));(cond xv2 (some false) (back names t5 t6 (W (t7+1)))))) (back names t5 t6 (W (t7+1))))))) k0)
def az_.loop3 (n:Nat) (k0:Option Bool) (N:Nat):az_.T3:=b4_ (fun _ _ _ _=>none) (az_.step3 n k0) N
def az_:Nat→(List Bs)→Option Bool
 |0,_=>none
 |n+1,names=>
  (az_.loop3 n (some true) n names names (names.length:Int) 0)
def dU_:Nat→ax_→Option Bool
 |0,_=>none
 |n+1,o=>
  (cond (decide ((o.list.length:Int) > 0)) (cond (o.kind != 4) (cond (o.kind != 5) (some false) (cond (decide ((o.names.length:Int) > 0)) (cond (o.kind != 5) (some false) (cond (o.n_ != 0) (cond (o.kind != 1) (cond (o.kind != 2) (some false) (cond (!(o.s == [])) (cond (o.kind != 3) (some false) (cond (o.kind == 1) ((aE_ n o.n_ 0 1).bind fun xr1=>(some xr1)) (cond (o.kind == 2) ((a5_ n o.n_).bind fun xr2=>(some xr2)) (cond (o.kind == 3) ((aG_ n o.s).bind fun xr3=>(some xr3)) (cond (o.kind == 5) (cond ((o.names.length:Int) == (o.list.length:Int)) ((az_ n o.names).bind fun xr4=>(some xr4)) (some false)) (cond (o.kind == 0) (some true) (some (o.kind == 4)))))))) (cond (o.kind == 1) ((aE_ n o.n_ 0 1).bind fun xr5=>(some xr5)) (cond (o.kind == 2) ((a5_ n o.n_).bind fun xr6=>(some xr6)) (cond (o.kind == 3) ((aG_ n o.s).bind fun xr7=>(some xr7)) (cond (o.kind == 5) (cond ((o.names.length:Int) == (o.list.length:Int)) ((az_ n o.names).bind fun xr8=>(some xr8)) (some false)) (cond (o.kind == 0) (some true) (some (o.kind == 4))))))))) (cond (!(o.s == [])) (cond (o.kind != 3) (some false) (cond (o.kind == 1) ((aE_ n o.n_ 0 1).bind fun xr9=>(some xr9)) (cond (o.kind == 2) ((a5_ n o.n_).bind fun xr10=>(some xr10)) (cond (o.kind == 3) ((aG_ n o.s).bind fun xr11=>(some xr11)) (cond (o.kind == 5) (cond ((o.names.length:Int) == (o.list.length:Int)) ((az_ n o.names).bind fun xr12=>(some xr12)) (some false)) (cond (o.kind == 0) (some true) (some (o.kind == 4)))))))) (cond (o.kind == 1) ((aE_ n o.n_ 0 1).bind fun xr13=>(some xr13)) (cond (o.kind == 2) ((a5_ n o.n_).bind fun xr14=>(some xr14)) (cond (o.kind == 3) ((aG_ n o.s).bind fun xr15=>(some xr15)) (cond (o.kind == 5) (cond ((o.names.length:Int) == (o.list.length:Int)) ((az_ n o.names).bind fun xr16=>(some xr16)) (some false)) (cond (o.kind == 0) (some true) (some (o.kind == 4))))))))) (cond (!(o.s == [])) (cond (o.kind != 3) (some false) (cond (o.kind == 1) ((aE_ n o.n_ 0 1).bind fun xr17=>(some xr17)) (cond (o.kind == 2) ((a5_ n o.n_).bind fun xr18=>(some xr18)) (cond (o.kind == 3) ((aG_ n o.s).bind fun xr19=>(some xr19)) (cond (o.kind == 5) (cond ((o.names.length:Int) == (o.list.length:Int)) ((az_ n o.names).bind fun xr20=>(some xr20)) (some false)) (cond (o.kind == 0) (some true) (some (o.kind == 4)))))))) (cond (o.kind == 1) ((aE_ n o.n_ 0 1).bind fun xr21=>(some xr21)) (cond (o.kind == 2) ((a5_ n o.n_).bind fun xr22=>(some xr22)) (cond (o.kind == 3) ((aG_ n o.s).bind fun xr23=>(some xr23)) (cond (o.kind == 5) (cond ((o.names.length:Int) == (o.list.length:Int)) ((az_ n o.names).bind fun xr24=>(some xr24)) (some false)) (cond (o.kind == 0) (some true) (some (o.kind == 4)))))))))) (cond (o.n_ != 0) (cond (o.kind != 1) (cond (o.kind != 2) (some false) (cond (!(o.s == [])) (cond (o.kind != 3) (some false) (cond (o.kind == 1) ((aE_ n o.n_ 0 1).bind fun xr25=>(some xr25)) (cond (o.kind == 2) ((a5_ n o.n_).bind fun xr26=>(some xr26)) (cond (o.kind == 3) ((aG_ n o.s).bind fun xr27=>(some xr27)) (cond (o.kind == 5) (cond ((o.names.length:Int) == (o.list.length:Int)) ((az_ n o.names).bind fun xr28=>(some xr28)) (some false)) (cond (o.kind == 0) (some true) (some (o.kind == 4)))))))) (cond (o.kind == 1) ((aE_ n o.n_ 0 1).bind fun xr29=>(some xr29)) (cond (o.kind == 2) ((a5_ n o.n_).bind fun xr30=>(some xr30)) (cond (o.kind == 3) ((aG_ n o.s).bind fun xr31=>(some xr31)) (cond (o.kind == 5) (cond ((o.names.length:Int) == (o.list.length:Int)) ((az_ n o.names).bind fun xr32=>(some xr32)) (some false)) (cond (o.kind == 0) (some true) (some (o.kind == 4))))))))) (cond (!(o.s == [])) (cond (o.kind != 3) (some false) (cond (o.kind == 1) ((aE_ n o.n_ 0 1).bind fun xr33=>(some xr33)) (cond (o.kind == 2) ((a5_ n o.n_).bind fun xr34=>(some xr34)) (cond (o.kind == 3) ((aG_ n o.s).bind fun xr35=>(some xr35)) (cond (o.kind == 5) (cond ((o.names.length:Int) == (o.list.length:Int)) ((az_ n o.names).bind fun xr36=>(some xr36)) (some false)) (cond (o.kind == 0) (some true) (some (o.kind == 4)))))))) (cond (o.kind == 1) ((aE_ n o.n_ 0 1).bind fun xr37=>(some xr37)) (cond (o.kind == 2) ((a5_ n o.n_).bind fun xr38=>(some xr38)) (cond (o.kind == 3) ((aG_ n o.s).bind fun xr39=>(some xr39)) (cond (o.kind == 5) (cond ((o.names.length:Int) == (o.list.length:Int)) ((az_ n o.names).bind fun xr40=>(some xr40)) (some false)) (cond (o.kind == 0) (some true) (some (o.kind == 4))))))))) (cond (!(o.s == [])) (cond (o.kind != 3) (some false) (cond (o.kind == 1) ((aE_ n o.n_ 0 1).bind fun xr41=>(some xr41)) (cond (o.kind == 2) ((a5_ n o.n_).bind fun xr42=>(some xr42)) (cond (o.kind == 3) ((aG_ n o.s).bind fun xr43=>(some xr43)) (cond (o.kind == 5) (cond ((o.names.length:Int) == (o.list.length:Int)) ((az_ n o.names).bind fun xr44=>(some xr44)) (some false)) (cond (o.kind == 0) (some true) (some (o.kind == 4)))))))) (cond (o.kind == 1) ((aE_ n o.n_ 0 1).bind fun xr45=>(some xr45)) (cond (o.kind == 2) ((a5_ n o.n_).bind fun xr46=>(some xr46)) (cond (o.kind == 3) ((aG_ n o.s).bind fun xr47=>(some xr47)) (cond (o.kind == 5) (cond ((o.names.length:Int) == (o.list.length:Int)) ((az_ n o.names).bind fun xr48=>(some xr48)) (some false)) (cond (o.kind == 0) (some true) (some (o.kind == 4))))))))))) (cond (decide ((o.names.length:Int) > 0)) (cond (o.kind != 5) (some false) (cond (o.n_ != 0) (cond (o.kind != 1) (cond (o.kind != 2) (some false) (cond (!(o.s == [])) (cond (o.kind != 3) (some false) (cond (o.kind == 1) ((aE_ n o.n_ 0 1).bind fun xr49=>(some xr49)) (cond (o.kind == 2) ((a5_ n o.n_).bind fun xr50=>(some xr50)) (cond (o.kind == 3) ((aG_ n o.s).bind fun xr51=>(some xr51)) (cond (o.kind == 5) (cond ((o.names.length:Int) == (o.list.length:Int)) ((az_ n o.names).bind fun xr52=>(some xr52)) (some false)) (cond (o.kind == 0) (some true) (some (o.kind == 4)))))))) (cond (o.kind == 1) ((aE_ n o.n_ 0 1).bind fun xr53=>(some xr53)) (cond (o.kind == 2) ((a5_ n o.n_).bind fun xr54=>(some xr54)) (cond (o.kind == 3) ((aG_ n o.s).bind fun xr55=>(some xr55)) (cond (o.kind == 5) (cond ((o.names.length:Int) == (o.list.length:Int)) ((az_ n o.names).bind fun xr56=>(some xr56)) (some false)) (cond (o.kind == 0) (some true) (some (o.kind == 4))))))))) (cond (!(o.s == [])) (cond (o.kind != 3) (some false) (cond (o.kind == 1) ((aE_ n o.n_ 0 1).bind fun xr57=>(some xr57)) (cond (o.kind == 2) ((a5_ n o.n_).bind fun xr58=>(some xr58)) (cond (o.kind == 3) ((aG_ n o.s).bind fun xr59=>(some xr59)) (cond (o.kind == 5) (cond ((o.names.length:Int) == (o.list.length:Int)) ((az_ n o.names).bind fun xr60=>(some xr60)) (some false)) (cond (o.kind == 0) (some true) (some (o.kind == 4)))))))) (cond (o.kind == 1) ((aE_ n o.n_ 0 1).bind fun xr61=>(some xr61)) (cond (o.kind == 2) ((a5_ n o.n_).bind fun xr62=>(some xr62)) (cond (o.kind == 3) ((aG_ n o.s).bind fun xr63=>(some xr63)) (cond (o.kind == 5) (cond ((o.names.length:Int) == (o.list.length:Int)) ((az_ n o.names).bind fun xr64=>(some xr64)) (some false)) (cond (o.kind == 0) (some true) (some (o.kind == 4))))))))) (cond (!(o.s == [])) (cond (o.kind != 3) (some false) (cond (o.kind == 1) ((aE_ n o.n_ 0 1).bind fun xr65=>(some xr65)) (cond (o.kind == 2) ((a5_ n o.n_).bind fun xr66=>(some xr66)) (cond (o.kind == 3) ((aG_ n o.s).bind fun xr67=>(some xr67)) (cond (o.kind == 5) (cond ((o.names.length:Int) == (o.list.length:Int)) ((az_ n o.names).bind fun xr68=>(some xr68)) (some false)) (cond (o.kind == 0) (some true) (some (o.kind == 4)))))))) (cond (o.kind == 1) ((aE_ n o.n_ 0 1).bind fun xr69=>(some xr69)) (cond (o.kind == 2) ((a5_ n o.n_).bind fun xr70=>(some xr70)) (cond (o.kind == 3) ((aG_ n o.s).bind fun xr71=>(some xr71)) (cond (o.kind == 5) (cond ((o.names.length:Int) == (o.list.length:Int)) ((az_ n o.names).bind fun xr72=>(some xr72)) (some false)) (cond (o.kind == 0) (some true) (some (o.kind == 4)))))))))) (cond (o.n_ != 0) (cond (o.kind != 1) (cond (o.kind != 2) (some false) (cond (!(o.s == [])) (cond (o.kind != 3) (some false) (cond (o.kind == 1) ((aE_ n o.n_ 0 1).bind fun xr73=>(some xr73)) (cond (o.kind == 2) ((a5_ n o.n_).bind fun xr74=>(some xr74)) (cond (o.kind == 3) ((aG_ n o.s).bind fun xr75=>(some xr75)) (cond (o.kind == 5) (cond ((o.names.length:Int) == (o.list.length:Int)) ((az_ n o.names).bind fun xr76=>(some xr76)) (some false)) (cond (o.kind == 0) (some true) (some (o.kind == 4)))))))) (cond (o.kind == 1) ((aE_ n o.n_ 0 1).bind fun xr77=>(some xr77)) (cond (o.kind == 2) ((a5_ n o.n_).bind fun xr78=>(some xr78)) (cond (o.kind == 3) ((aG_ n o.s).bind fun xr79=>(some xr79)) (cond (o.kind == 5) (cond ((o.names.length:Int) == (o.list.length:Int)) ((az_ n o.names).bind fun xr80=>(some xr80)) (some false)) (cond (o.kind == 0) (some true) (some (o.kind == 4))))))))) (cond (!(o.s == [])) (cond (o.kind != 3) (some false) (cond (o.kind == 1) ((aE_ n o.n_ 0 1).bind fun xr81=>(some xr81)) (cond (o.kind == 2) ((a5_ n o.n_).bind fun xr82=>(some xr82)) (cond (o.kind == 3) ((aG_ n o.s).bind fun xr83=>(some xr83)) (cond (o.kind == 5) (cond ((o.names.length:Int) == (o.list.length:Int)) ((az_ n o.names).bind fun xr84=>(some xr84)) (some false)) (cond (o.kind == 0) (some true) (some (o.kind == 4)))))))) (cond (o.kind == 1) ((aE_ n o.n_ 0 1).bind fun xr85=>(some xr85)) (cond (o.kind == 2) ((a5_ n o.n_).bind fun xr86=>(some xr86)) (cond (o.kind == 3) ((aG_ n o.s).bind fun xr87=>(some xr87)) (cond (o.kind == 5) (cond ((o.names.length:Int) == (o.list.length:Int)) ((az_ n o.names).bind fun xr88=>(some xr88)) (some false)) (cond (o.kind == 0) (some true) (some (o.kind == 4))))))))) (cond (!(o.s == [])) (cond (o.kind != 3) (some false) (cond (o.kind == 1) ((aE_ n o.n_ 0 1).bind fun xr89=>(some xr89)) (cond (o.kind == 2) ((a5_ n o.n_).bind fun xr90=>(some xr90)) (cond (o.kind == 3) ((aG_ n o.s).bind fun xr91=>(some xr91)) (cond (o.kind == 5) (cond ((o.names.length:Int) == (o.list.length:Int)) ((az_ n o.names).bind fun xr92=>(some xr92)) (some false)) (cond (o.kind == 0) (some true) (some (o.kind == 4)))))))) (cond (o.kind == 1) ((aE_ n o.n_ 0 1).bind fun xr93=>(some xr93)) (cond (o.kind == 2) ((a5_ n o.n_).bind fun xr94=>(some xr94)) (cond (o.kind == 3) ((aG_ n o.s).bind fun xr95=>(some xr95)) (cond (o.kind == 5) (cond ((o.names.length:Int) == (o.list.length:Int)) ((az_ n o.names).bind fun xr96=>(some xr96)) (some false)) (cond (o.kind == 0) (some true) (some (o.kind == 4))))))))))) (cond (decide ((o.names.length:Int) > 0)) (cond (o.kind != 5) (some false) (cond (o.n_ != 0) (cond (o.kind != 1) (cond (o.kind != 2) (some false) (cond (!(o.s == [])) (cond (o.kind != 3) (some false) (cond (o.kind == 1) ((aE_ n o.n_ 0 1).bind fun xr97=>(some xr97)) (cond (o.kind == 2) ((a5_ n o.n_).bind fun xr98=>(some xr98)) (cond (o.kind == 3) ((aG_ n o.s).bind fun xr99=>(some xr99)) (cond (o.kind == 5) (cond ((o.names.length:Int) == (o.list.length:Int)) ((az_ n o.names).bind fun xr100=>(some xr100)) (some false)) (cond (o.kind == 0) (some true) (some (o.kind == 4)))))))) (cond (o.kind == 1) ((aE_ n o.n_ 0 1).bind fun xr101=>(some xr101)) (cond (o.kind == 2) ((a5_ n o.n_).bind fun xr102=>(some xr102)) (cond (o.kind == 3) ((aG_ n o.s).bind fun xr103=>(some xr103)) (cond (o.kind == 5) (cond ((o.names.length:Int) == (o.list.length:Int)) ((az_ n o.names).bind fun xr104=>(some xr104)) (some false)) (cond (o.kind == 0) (some true) (some (o.kind == 4))))))))) (cond (!(o.s == [])) (cond (o.kind != 3) (some false) (cond (o.kind == 1) ((aE_ n o.n_ 0 1).bind fun xr105=>(some xr105)) (cond (o.kind == 2) ((a5_ n o.n_).bind fun xr106=>(some xr106)) (cond (o.kind == 3) ((aG_ n o.s).bind fun xr107=>(some xr107)) (cond (o.kind == 5) (cond ((o.names.length:Int) == (o.list.length:Int)) ((az_ n o.names).bind fun xr108=>(some xr108)) (some false)) (cond (o.kind == 0) (some true) (some (o.kind == 4)))))))) (cond (o.kind == 1) ((aE_ n o.n_ 0 1).bind fun xr109=>(some xr109)) (cond (o.kind == 2) ((a5_ n o.n_).bind fun xr110=>(some xr110)) (cond (o.kind == 3) ((aG_ n o.s).bind fun xr111=>(some xr111)) (cond (o.kind == 5) (cond ((o.names.length:Int) == (o.list.length:Int)) ((az_ n o.names).bind fun xr112=>(some xr112)) (some false)) (cond (o.kind == 0) (some true) (some (o.kind == 4))))))))) (cond (!(o.s == [])) (cond (o.kind != 3) (some false) (cond (o.kind == 1) ((aE_ n o.n_ 0 1).bind fun xr113=>(some xr113)) (cond (o.kind == 2) ((a5_ n o.n_).bind fun xr114=>(some xr114)) (cond (o.kind == 3) ((aG_ n o.s).bind fun xr115=>(some xr115)) (cond (o.kind == 5) (cond ((o.names.length:Int) == (o.list.length:Int)) ((az_ n o.names).bind fun xr116=>(some xr116)) (some false)) (cond (o.kind == 0) (some true) (some (o.kind == 4)))))))) (cond (o.kind == 1) ((aE_ n o.n_ 0 1).bind fun xr117=>(some xr117)) (cond (o.kind == 2) ((a5_ n o.n_).bind fun xr118=>(some xr118)) (cond (o.kind == 3) ((aG_ n o.s).bind fun xr119=>(some xr119)) (cond (o.kind == 5) (cond ((o.names.length:Int) == (o.list.length:Int)) ((az_ n o.names).bind fun xr120=>(some xr120)) (some false)) (cond (o.kind == 0) (some true) (some (o.kind == 4)))))))))) (cond (o.n_ != 0) (cond (o.kind != 1) (cond (o.kind != 2) (some false) (cond (!(o.s == [])) (cond (o.kind != 3) (some false) (cond (o.kind == 1) ((aE_ n o.n_ 0 1).bind fun xr121=>(some xr121)) (cond (o.kind == 2) ((a5_ n o.n_).bind fun xr122=>(some xr122)) (cond (o.kind == 3) ((aG_ n o.s).bind fun xr123=>(some xr123)) (cond (o.kind == 5) (cond ((o.names.length:Int) == (o.list.length:Int)) ((az_ n o.names).bind fun xr124=>(some xr124)) (some false)) (cond (o.kind == 0) (some true) (some (o.kind == 4)))))))) (cond (o.kind == 1) ((aE_ n o.n_ 0 1).bind fun xr125=>(some xr125)) (cond (o.kind == 2) ((a5_ n o.n_).bind fun xr126=>(some xr126)) (cond (o.kind == 3) ((aG_ n o.s).bind fun xr127=>(some xr127)) (cond (o.kind == 5) (cond ((o.names.length:Int) == (o.list.length:Int)) ((az_ n o.names).bind fun xr128=>(some xr128)) (some false)) (cond (o.kind == 0) (some true) (some (o.kind == 4))))))))) (cond (!(o.s == [])) (cond (o.kind != 3) (some false) (cond (o.kind == 1) ((aE_ n o.n_ 0 1).bind fun xr129=>(some xr129)) (cond (o.kind == 2) ((a5_ n o.n_).bind fun xr130=>(some xr130)) (cond (o.kind == 3) ((aG_ n o.s).bind fun xr131=>(some xr131)) (cond (o.kind == 5) (cond ((o.names.length:Int) == (o.list.length:Int)) ((az_ n o.names).bind fun xr132=>(some xr132)) (some false)) (cond (o.kind == 0) (some true) (some (o.kind == 4)))))))) (cond (o.kind == 1) ((aE_ n o.n_ 0 1).bind fun xr133=>(some xr133)) (cond (o.kind == 2) ((a5_ n o.n_).bind fun xr134=>(some xr134)) (cond (o.kind == 3) ((aG_ n o.s).bind fun xr135=>(some xr135)) (cond (o.kind == 5) (cond ((o.names.length:Int) == (o.list.length:Int)) ((az_ n o.names).bind fun xr136=>(some xr136)) (some false)) (cond (o.kind == 0) (some true) (some (o.kind == 4))))))))) (cond (!(o.s == [])) (cond (o.kind != 3) (some false) (cond (o.kind == 1) ((aE_ n o.n_ 0 1).bind fun xr137=>(some xr137)) (cond (o.kind == 2) ((a5_ n o.n_).bind fun xr138=>(some xr138)) (cond (o.kind == 3) ((aG_ n o.s).bind fun xr139=>(some xr139)) (cond (o.kind == 5) (cond ((o.names.length:Int) == (o.list.length:Int)) ((az_ n o.names).bind fun xr140=>(some xr140)) (some false)) (cond (o.kind == 0) (some true) (some (o.kind == 4)))))))) (cond (o.kind == 1) ((aE_ n o.n_ 0 1).bind fun xr141=>(some xr141)) (cond (o.kind == 2) ((a5_ n o.n_).bind fun xr142=>(some xr142)) (cond (o.kind == 3) ((aG_ n o.s).bind fun xr143=>(some xr143)) (cond (o.kind == 5) (cond ((o.names.length:Int) == (o.list.length:Int)) ((az_ n o.names).bind fun xr144=>(some xr144)) (some false)) (cond (o.kind == 0) (some true) (some (o.kind == 4)))))))))))
abbrev bg_.T7:Type:=Int→Int→(List ax_)→Int→Int→Option Int
def bg_.step7 (n:Nat) (impl_sizeIn_:ax_→Int→Option Int) (k0:Int→Option Int) (back:bg_.T7):bg_.T7:=fun deep n_1 t16 t17 t18=>
 (cond (decide (t18<t17)) (inB t18 t16.length ((impl_sizeIn_ (ax_.re (t16.getD t18.toNat ax_.dflt)) (W (deep - 1))).bind fun xr2=>(cond (decide ((W (n_1+xr2)) > 400)) (some 401) (back deep (W (n_1+xr2)) t16 t17 (W (t18+1)))))) (k0 n_1))
def bg_.loop7 (n:Nat) (impl_sizeIn_:ax_→Int→Option Int) (k0:Int→Option Int) (N:Nat):bg_.T7:=b4_ (fun _ _ _ _ _=>none) (bg_.step7 n impl_sizeIn_ k0) N
def bg_:Nat→ax_→Int→Option Int
 |0,_,_=>none
 |n+1,j,deep=>
  (cond (decide (deep<1)) (some 401) ((dU_ n (ax_.re j)).bind fun xr1=>(cond (!xr1) (some 401) (bg_.loop7 n (bg_ n) (fun xy3=>(some xy3)) n deep 1 j.list (j.list.length:Int) 0))))
def c9_:Nat→ax_→Option Bool
 |0,_=>none
 |n+1,j=>
  ((bg_ n (ax_.re j) 6).bind fun xr1=>(some (decide (xr1≤400))))
def cE_:Nat→ax_→Option ax_
 |0,_=>none
 |n+1,j=>
  ((c9_ n (ax_.re j)).bind fun xr1=>(cond (!xr1) (some (ax_.mk 0 0 [] ([]:List ax_) ([]:List Bs))) (some (ax_.re j))))
abbrev bp_.K4:Type:=Int→Int→(List aY_)→Int→Bool→Int→(List Int)→Bool→Int→Int→Int→Int→Bs→(List Bs)→(List Int)→Option ax_
abbrev bp_.T4:Type:=Int→(List Int)→Int→Int→Int→(List aY_)→Int→Bool→Int→(List Int)→Bool→Int→Int→Int→(List Int)→Int→Int→Bs→(List Bs)→(List Int)→Option ax_
def bp_.step4 (n:Nat) (k0:bp_.K4) (back:bp_.T4):bp_.T4:=fun kids t16 t17 t18 q0 q1 q2 q3 q4 q5 q6 q7 q8 r0 r1 t60 t61 t62 names numbers=>
 (cond (decide (t18<t17)) (inB t18 t16.length (j6_ 0 t18 q5.length ((bU_ n ((q5.take t18.toNat).drop 0) (t16.getD t18.toNat 0)).bind fun xr1=>(cond xr1 (back kids t16 t17 (W (t18+1)) q0 q1 q2 q3 q4 q5 q6 q7 q8 r0 r1 t60 t61 t62 names numbers) ((dt_ n (t16.getD t18.toNat 0)).bind fun xr2=>(cond (decide ([99].length+xr2.length≤9223372036854775807)) (cl_ (names.length+([(([99]:Bs)++xr2)]:List Bs).length) 16 ((bn_ n (TRow.mk r0 r1) (t16.getD t18.toNat 0)).bind fun xr3=>(cl_ (numbers.length+([xr3]:List Int).length) 8 (back kids t16 t17 (W (t18+1)) q0 q1 q2 q3 q4 q5 q6 q7 q8 r0 r1 t60 t61 t62 (names++([(([99]:Bs)++xr2)]:List Bs)) (numbers++([xr3]:List Int)))))) none)))))) (k0 kids q0 q1 q2 q3 q4 q5 q6 q7 q8 t60 t61 t62 names numbers))
def bp_.loop4 (n:Nat) (k0:bp_.K4) (N:Nat):bp_.T4:=b4_ (fun _ _ _ _ _ _ _ _ _ _ _ _ _ _ _ _ _ _ _ _=>none) (bp_.step4 n k0) N
def bp_:Nat→ae_→TRow→Int→Option ax_
 |0,_,_,_=>none
 |n+1,q,r,kids=>
  (bp_.loop4 n (fun xy4 xy5 xy6 xy7 xy8 xy9 xy10 xy11 xy12 xy13 xy14 xy15 xy16 xy17 xy18=>(cond xy11 (cl_ (xy17.length+([[107,105,100,115]]:List Bs).length) 16 (cl_ (xy18.length+([xy4]:List Int).length) 8 ((bx_ n (xy17++([[107,105,100,115]]:List Bs)) (xy18++([xy4]:List Int))).bind fun xr19=>((cE_ n (ax_.re xr19)).bind fun xr20=>(some (ax_.re xr20)))))) ((bx_ n xy17 xy18).bind fun xr21=>((cE_ n (ax_.re xr21)).bind fun xr22=>(some (ax_.re xr22)))))) n kids q.show_ (q.show_.length:Int) 0 q.table q.where_ q.order q.down q.first q.show_ q.kids q.kidTable q.kidCol r.id_ r.cells 0 0 [] ([[105,100]]:List Bs) ([r.id_]:List Int))
abbrev bj_.K4:Type:=(List ax_)→Option (List ax_)
abbrev bj_.T4:Type:=(List Int)→(List TRow)→Int→Int→Int→(List aY_)→Int→Bool→Int→(List Int)→Bool→Int→Int→(List ax_)→Option (List ax_)
def bj_.step4 (n:Nat) (k0:bj_.K4) (back:bj_.T4):bj_.T4:=fun kids t17 t18 t19 q0 q1 q2 q3 q4 q5 q6 q7 q8 docs=>
 (cond (decide (t19<t18)) (inB t19 t17.length (cond (decide (t19<(kids.length:Int))) (inB t19 kids.length ((bp_ n (ae_.mk q0 q1 q2 q3 q4 q5 q6 q7 q8) (t17.getD t19.toNat TRow.dflt) (kids.getD t19.toNat 0)).bind fun xr2=>(cl_ (docs.length+([(ax_.re xr2)]:List ax_).length) 80 (back kids t17 t18 (W (t19+1)) q0 q1 q2 q3 q4 q5 q6 q7 q8 (docs++([(ax_.re xr2)]:List ax_)))))) ((bp_ n (ae_.mk q0 q1 q2 q3 q4 q5 q6 q7 q8) (t17.getD t19.toNat TRow.dflt) 0).bind fun xr3=>(cl_ (docs.length+([(ax_.re xr3)]:List ax_).length) 80 (back kids t17 t18 (W (t19+1)) q0 q1 q2 q3 q4 q5 q6 q7 q8 (docs++([(ax_.re xr3)]:List ax_))))))) (k0 docs))
def bj_.loop4 (n:Nat) (k0:bj_.K4) (N:Nat):bj_.T4:=b4_ (fun _ _ _ _ _ _ _ _ _ _ _ _ _ _=>none) (bj_.step4 n k0) N
def bj_:Nat→ae_→(List TRow)→(List Int)→Option (List ax_)
 |0,_,_,_=>none
 |n+1,q,rows,kids=>
  ((dg_ n q (rows.length:Int)).bind fun xr1=>(j6_ 0 xr1 rows.length (bj_.loop4 n (fun xy4=>(some xy4)) n kids ((rows.take xr1.toNat).drop 0) (((rows.take xr1.toNat).drop 0).length:Int) 0 q.table q.where_ q.order q.down q.first q.show_ q.kids q.kidTable q.kidCol ([]:List ax_))))
def cW_:Nat→ax_→Option Bool
 |0,_=>none
 |n+1,j=>
  (some (j.kind == 0))
abbrev aj_.T3:Type:=(List ax_)→Int→Int→Option Int
def aj_.step3 (n:Nat) (k0:Option Int) (back:aj_.T3):aj_.T3:=fun s t7 t8=>
 (cond (decide (t8<t7)) (inB t8 s.length ((cW_ n (ax_.re (s.getD t8.toNat ax_.dflt))).bind fun xr1=>(cond xr1 (some t8) (back s t7 (W (t8+1)))))) k0)
def aj_.loop3 (n:Nat) (k0:Option Int) (N:Nat):aj_.T3:=b4_ (fun _ _ _=>none) (aj_.step3 n k0) N
def aj_:Nat→(List ax_)→Option Int
 |0,_=>none
 |n+1,s=>
  (aj_.loop3 n (some (-1)) n s (s.length:Int) 0)
def a2_:Nat→(List ax_)→Option Bool
 |0,_=>none
 |n+1,s=>
  ((aj_ n s).bind fun xr1=>(some (decide (xr1≥0))))
def do_:Nat→ae_→(List TRow)→(List Int)→Option ax_
 |0,_,_,_=>none
 |n+1,q,rows,kids=>
  ((bj_ n q rows kids).bind fun xr1=>((a2_ n xr1).bind fun xr2=>(cond xr2 (some (ax_.mk 0 0 [] ([]:List ax_) ([]:List Bs))) ((cE_ n (ax_.mk 5 0 [] ([(ax_.mk 2 (rows.length:Int) [] [] []),(ax_.mk 4 0 [] xr1 [])]:List ax_) ([[99,111,117,110,116],[114,111,119,115]]:List Bs))).bind fun xr3=>(some (ax_.re xr3))))))
def dh_:Nat→bd_→Option ax_
 |0,_=>none
 |n+1,v=>
  ((aU_ n v).bind fun xr1=>((do_ n v.q v.rows xr1).bind fun xr2=>(some (ax_.re xr2))))
abbrev bE_.T7:Type:=Int→Int→(List TRow)→Int→Int→Int→(List aY_)→Int→Bool→Int→(List Int)→Bool→Int→Int→Option Int
def bE_.step7 (n:Nat) (k0:Int→Option Int) (back:bE_.T7):bE_.T7:=fun id_1 n_1 t30 t31 t32 q0 q1 q2 q3 q4 q5 q6 q7 q8=>
 (cond (decide (t32<t31)) (inB t32 t30.length (inB q8 ((t30.getD t32.toNat TRow.dflt).cells).length (cond ((((t30.getD t32.toNat TRow.dflt).cells).getD q8.toNat 0) == id_1) (back id_1 (W (n_1+1)) t30 t31 (W (t32+1)) q0 q1 q2 q3 q4 q5 q6 q7 q8) (back id_1 n_1 t30 t31 (W (t32+1)) q0 q1 q2 q3 q4 q5 q6 q7 q8)))) (k0 n_1))
def bE_.loop7 (n:Nat) (k0:Int→Option Int) (N:Nat):bE_.T7:=b4_ (fun _ _ _ _ _ _ _ _ _ _ _ _ _ _=>none) (bE_.step7 n k0) N
def bE_:Nat→an_→ae_→Int→Option Int
 |0,_,_,_=>none
 |n+1,s,q,id1=>
  ((a8_ n s).bind fun xr1=>(cond (!xr1) (some 0) ((aB_ n s.schema q).bind fun xr2=>(cond (!xr2) (some 0) (cond (!q.kids) (some 0) (inB q.kidTable s.tables.length (bE_.loop7 n (fun xy3=>(some xy3)) n id1 0 (s.tables.getD q.kidTable.toNat []) ((s.tables.getD q.kidTable.toNat []).length:Int) 0 q.table q.where_ q.order q.down q.first q.show_ q.kids q.kidTable q.kidCol)))))))
abbrev bS_.K8:Type:=Int→(List aY_)→Int→Bool→Int→(List Int)→Bool→Int→Int→Int→Int→Bs→(List TRow)→(List Int)→Option ax_
abbrev bS_.T8:Type:=Int→Int→(List Int)→Int→(List (List TRow))→Int→(List aY_)→Int→Bool→Int→(List Int)→Bool→Int→Int→Int→Int→Bs→(List TRow)→(List Int)→Option ax_
def bS_.step8 (n:Nat) (k0:bS_.K8) (back:bS_.T8):bS_.T8:=fun t25 t26 s0 s1 s2 q0 q1 q2 q3 q4 q5 q6 q7 q8 t40 t41 t42 rows kids=>
 (cond (decide (t26<t25)) (inB t26 rows.length ((bE_ n (an_.mk (au_.mk s0) s1 s2) (ae_.mk q0 q1 q2 q3 q4 q5 q6 q7 q8) ((rows.getD t26.toNat TRow.dflt).id_)).bind fun xr4=>(cl_ (kids.length+([xr4]:List Int).length) 8 (back t25 (W (t26+1)) s0 s1 s2 q0 q1 q2 q3 q4 q5 q6 q7 q8 t40 t41 t42 rows (kids++([xr4]:List Int)))))) (k0 q0 q1 q2 q3 q4 q5 q6 q7 q8 t40 t41 t42 rows kids))
def bS_.loop8 (n:Nat) (k0:bS_.K8) (N:Nat):bS_.T8:=b4_ (fun _ _ _ _ _ _ _ _ _ _ _ _ _ _ _ _ _ _ _=>none) (bS_.step8 n k0) N
def bS_:Nat→an_→ae_→Option ax_
 |0,_,_=>none
 |n+1,s,q=>
  ((a8_ n s).bind fun xr1=>(cond (!xr1) (some (ax_.mk 0 0 [] ([]:List ax_) ([]:List Bs))) ((aB_ n s.schema q).bind fun xr2=>(cond (!xr2) (some (ax_.mk 0 0 [] ([]:List ax_) ([]:List Bs))) ((ba_ n s q).bind fun xr3=>(bS_.loop8 n (fun xy5 xy6 xy7 xy8 xy9 xy10 xy11 xy12 xy13 xy14 xy15 xy16 xy17 xy18=>((do_ n (ae_.mk xy5 xy6 xy7 xy8 xy9 xy10 xy11 xy12 xy13) xy17 xy18).bind fun xr19=>(some (ax_.re xr19)))) n (xr3.length:Int) 0 s.schema.cols s.version s.tables q.table q.where_ q.order q.down q.first q.show_ q.kids q.kidTable q.kidCol 0 0 [] xr3 ([]:List Int)))))))
abbrev aM_.T6:Type:=(List Bs)→(List Bs)→Int→Int→Option Bool
def aM_.step6 (n:Nat) (k0:Option Bool) (back:aM_.T6):aM_.T6:=fun s1 s2 t12 t13=>
 (cond (decide (t13<t12)) (inB t13 s1.length (inB t13 s2.length (cond (!((s1.getD t13.toNat []) == (s2.getD t13.toNat []))) (some false) (back s1 s2 t12 (W (t13+1)))))) k0)
def aM_.loop6 (n:Nat) (k0:Option Bool) (N:Nat):aM_.T6:=b4_ (fun _ _ _ _=>none) (aM_.step6 n k0) N
def aM_:Nat→(List Bs)→(List Bs)→Option Bool
 |0,_,_=>none
 |n+1,s1,s2=>
  (cond ((s1.length:Int) != (s2.length:Int)) (some false) (aM_.loop6 n (some true) n s1 s2 (s1.length:Int) 0))
abbrev am_.T6:Type:=(List ax_)→(List ax_)→Int→Int→Option Bool
def am_.step6 (n:Nat) (impl_alike_:ax_→ax_→Option Bool) (k0:Option Bool) (back:am_.T6):am_.T6:=fun s2 t15 t16 t17=>
 (cond (decide (t17<t16)) (inB t17 t15.length (inB t17 s2.length ((impl_alike_ (ax_.re (t15.getD t17.toNat ax_.dflt)) (ax_.re (s2.getD t17.toNat ax_.dflt))).bind fun xr1=>(cond (!xr1) (some false) (back s2 t15 t16 (W (t17+1))))))) k0)
def am_.loop6 (n:Nat) (impl_alike_:ax_→ax_→Option Bool) (k0:Option Bool) (N:Nat):am_.T6:=b4_ (fun _ _ _ _=>none) (am_.step6 n impl_alike_ k0) N
mutual
def dd_:Nat→ax_→ax_→Option Bool
 |0,_,_=>none
 |n+1,a,b=>
  (cond (a.kind == b.kind) (cond (a.n_ == b.n_) (cond (a.s == b.s) ((aM_ n a.names b.names).bind fun xr1=>(cond xr1 ((am_ n a.list b.list).bind fun xr2=>(some xr2)) (some false))) (some false)) (some false)) (some false))
def am_:Nat→(List ax_)→(List ax_)→Option Bool
 |0,_,_=>none
 |n+1,s1,s2=>
  (cond ((s1.length:Int) != (s2.length:Int)) (some false) (am_.loop6 n (dd_ n) (some true) n s2 s1 (s1.length:Int) 0))
end
def cV_:Nat→ax_→ax_→Option Bool
 |0,_,_=>none
 |n+1,a,b=>
  ((c9_ n (ax_.re a)).bind fun xr1=>(cond xr1 ((c9_ n (ax_.re b)).bind fun xr2=>(cond xr2 ((dd_ n (ax_.re a) (ax_.re b)).bind fun xr3=>(some xr3)) (some false))) (some false)))
def laws_FnGoesAlong.tail18 (n:Nat) (t40:Int) (t41:List aY_) (t42:Int) (t43:Bool) (t44:Int) (t45:List Int) (t46:Bool) (t47:Int) (t48:Int) (t100:List Int) (t101:Int) (t102:List (List TRow)) (t160:Int) (t162:Int) (t163:Bool) (t164:Int) (t166:Bool) (t167:Int) (t168:Int) (t161:List aY_) (t165:List Int) (t169:List TRow) (t1610:List TKid):Option Bool :=
 ((bo_ n (an_.mk (au_.mk t100) t101 t102) (ae_.mk t40 t41 t42 t43 t44 t45 t46 t47 t48)).bind fun xr8=>(cond xr8.2 ((cT_ n (bd_.mk (ae_.mk t160 t161 t162 t163 t164 t165 t166 t167 t168) t169 t1610) xr8.1).bind fun xr9=>(cond xr9 ((aO_ n (au_.mk t100) (bd_.mk (ae_.mk t160 t161 t162 t163 t164 t165 t166 t167 t168) t169 t1610)).bind fun xr10=>(cond xr10 ((dh_ n (bd_.mk (ae_.mk t160 t161 t162 t163 t164 t165 t166 t167 t168) t169 t1610)).bind fun xr11=>((bS_ n (an_.mk (au_.mk t100) t101 t102) (ae_.mk t40 t41 t42 t43 t44 t45 t46 t47 t48)).bind fun xr12=>((cV_ n (ax_.re xr11) (ax_.re xr12)).bind fun xr13=>(some xr13)))) (some false))) (some false))) (some false)))
def laws_FnGoesAlong.tail10 (n:Nat) (t5:List TMut) (t7:Bool) (t12:Bool) (t30:List Int) (t31:Int) (t32:List (List TRow)) (t40:Int) (t41:List aY_) (t42:Int) (t43:Bool) (t44:Int) (t45:List Int) (t46:Bool) (t47:Int) (t48:Int) (t60:Int) (t62:Int) (t63:Bool) (t64:Int) (t66:Bool) (t67:Int) (t68:Int) (t101:Int) (t11:List aI_) (t61:List aY_) (t65:List Int) (t69:List TRow) (t610:List TKid) (t100:List Int) (t102:List (List TRow)):Option Bool :=
 ((bi_ n (an_.mk (au_.mk t30) t31 t32) t5).bind fun xr6=>(cond (!(t12 == xr6.2.2)) (some false) (cond (!t7) (some true) (cond (!t12) (some true) ((aQ_ n (bd_.mk (ae_.mk t60 t61 t62 t63 t64 t65 t66 t67 t68) t69 t610) t11).bind fun xr7=>(laws_FnGoesAlong.tail18 n t40 t41 t42 t43 t44 t45 t46 t47 t48 t100 t101 t102 xr7.q.table xr7.q.order xr7.q.down xr7.q.first xr7.q.kids xr7.q.kidTable xr7.q.kidCol xr7.q.where_ xr7.q.show_ xr7.rows xr7.kids))))))
def laws_FnGoesAlong.tail4 (n:Nat) (t30:List Int) (t31:Int) (t32:List (List TRow)) (t40:Int) (t41:List aY_) (t42:Int) (t43:Bool) (t44:Int) (t45:List Int) (t46:Bool) (t47:Int) (t48:Int) (t5:List TMut):Option Bool :=
 ((bo_ n (an_.mk (au_.mk t30) t31 t32) (ae_.mk t40 t41 t42 t43 t44 t45 t46 t47 t48)).bind fun xr3=>((bq_ n (an_.mk (au_.mk t30) t31 t32) (ae_.mk t40 t41 t42 t43 t44 t45 t46 t47 t48)).bind fun xr4=>(cond (!(xr3.2 == xr4.2)) (some false) ((bl_ n (an_.mk (au_.mk t30) t31 t32) t5).bind fun xr5=>(laws_FnGoesAlong.tail10 n t5 xr3.2 xr5.2.2 t30 t31 t32 t40 t41 t42 t43 t44 t45 t46 t47 t48 xr3.1.q.table xr3.1.q.order xr3.1.q.down xr3.1.q.first xr3.1.q.kids xr3.1.q.kidTable xr3.1.q.kidCol xr5.1.version xr5.2.1 xr3.1.q.where_ xr3.1.q.show_ xr3.1.rows xr3.1.kids xr5.1.schema.cols xr5.1.tables)))))
def laws_FnGoesAlong:Nat→(List Int)→Option Bool
 |0,_=>none
 |n+1,o=>
  ((eL_ n o).bind fun xr1=>(cond xr1 (some true) ((aA_ n o).bind fun xr2=>(laws_FnGoesAlong.tail4 n xr2.1.schema.cols xr2.1.version xr2.1.tables xr2.2.1.table xr2.2.1.where_ xr2.2.1.order xr2.2.1.down xr2.2.1.first xr2.2.1.show_ xr2.2.1.kids xr2.2.1.kidTable xr2.2.1.kidCol xr2.2.2))))
end Go.Pi
end
section
namespace Go.Pi
def au_.p (m:M):List Pat:=[.sl m .int]
abbrev au_.c:Type:=(List Int) × Unit
def au_.of:au_.c→au_:=fun (x0,_)=>⟨x0⟩
def au_.to (s:au_):au_.c:=(s.cols,())
def TRow.p (m:M):List Pat:=[.i .i64,.sl m .int]
abbrev TRow.c:Type:=Int × (List Int) × Unit
def TRow.of:TRow.c→TRow:=fun (x0,x1,_)=>⟨x0,x1⟩
def TRow.to (s:TRow):TRow.c:=(s.id_,s.cells,())
def an_.p (m:M):List Pat:=[.sl m .int,.i .i64,.sl m .s_iRow]
abbrev an_.c:Type:=(List Int) × Int × (List (List TRow)) × Unit
def an_.of:an_.c→an_:=fun (x0,x1,x2,_)=>⟨⟨x0⟩,x1,x2⟩
def an_.to (s:an_):an_.c:=(s.schema.cols,s.version,s.tables,())
def aY_.p (m:M):List Pat:=[.i .i64,.i .i64,.i .i64]
abbrev aY_.c:Type:=Int × Int × Int × Unit
def aY_.of:aY_.c→aY_:=fun (x0,x1,x2,_)=>⟨x0,x1,x2⟩
def aY_.to (s:aY_):aY_.c:=(s.col,s.op,s.v,())
def ae_.p (m:M):List Pat:=[.i .i64,.sl m .iCond,.i .i64,.b,.i .i64,.sl m .int,.b,.i .i64,.i .i64]
abbrev ae_.c:Type:=Int × (List aY_) × Int × Bool × Int × (List Int) × Bool × Int × Int × Unit
def ae_.of:ae_.c→ae_:=fun (x0,x1,x2,x3,x4,x5,x6,x7,x8,_)=>⟨x0,x1,x2,x3,x4,x5,x6,x7,x8⟩
def ae_.to (s:ae_):ae_.c:=(s.table,s.where_,s.order,s.down,s.first,s.show_,s.kids,s.kidTable,s.kidCol,())
def aw_.p (m:M):List Pat:=[.sl m .u8,.i .i64,.i .i64]
abbrev aw_.c:Type:=(List Int) × Int × Int × Unit
def aw_.of:aw_.c→aw_:=fun (x0,x1,x2,_)=>⟨x0,x1,x2⟩
def aw_.to (s:aw_):aw_.c:=(s.b,s.i,s.h,())
def TMut.p (m:M):List Pat:=[.i .i64,.i .i64,.i .i64,.sl m .int]
abbrev TMut.c:Type:=Int × Int × Int × (List Int) × Unit
def TMut.of:TMut.c→TMut:=fun (x0,x1,x2,x3,_)=>⟨x0,x1,⟨x2,x3⟩⟩
def TMut.to (s:TMut):TMut.c:=(s.kind,s.table,s.row.id_,s.row.cells,())
def aI_.p (m:M):List Pat:=[.i .i64,.b,.b,.i .i64,.sl m .int,.i .i64,.sl m .int]
abbrev aI_.c:Type:=Int × Bool × Bool × Int × (List Int) × Int × (List Int) × Unit
def aI_.of:aI_.c→aI_:=fun (x0,x1,x2,x3,x4,x5,x6,_)=>⟨x0,x1,x2,⟨x3,x4⟩,⟨x5,x6⟩⟩
def aI_.to (s:aI_):aI_.c:=(s.table,s.had,s.has,s.old.id_,s.old.cells,s.new.id_,s.new.cells,())
def TKid.p (m:M):List Pat:=[.i .i64,.i .i64]
abbrev TKid.c:Type:=Int × Int × Unit
def TKid.of:TKid.c→TKid:=fun (x0,x1,_)=>⟨x0,x1⟩
def TKid.to (s:TKid):TKid.c:=(s.id_,s.n_,())
def bd_.p (m:M):List Pat:=[.i .i64,.sl m .iCond,.i .i64,.b,.i .i64,.sl m .int,.b,.i .i64,.i .i64,.sl m .iRow,.sl m .iKid]
abbrev bd_.c:Type:=Int × (List aY_) × Int × Bool × Int × (List Int) × Bool × Int × Int × (List TRow) × (List TKid) × Unit
def bd_.of:bd_.c→bd_:=fun (x0,x1,x2,x3,x4,x5,x6,x7,x8,x9,x10,_)=>⟨⟨x0,x1,x2,x3,x4,x5,x6,x7,x8⟩,x9,x10⟩
def bd_.to (s:bd_):bd_.c:=(s.q.table,s.q.where_,s.q.order,s.q.down,s.q.first,s.q.show_,s.q.kids,s.q.kidTable,s.q.kidCol,s.rows,s.kids,())
def ax_.p (m:M):List Pat:=[.i .i64,.i .i64,.s,.sl m .iJson,.sl m .str]
abbrev ax_.c:Type:=Int × Int × Bs × (List ax_) × (List Bs) × Unit
def ax_.of:ax_.c→ax_:=fun (x0,x1,x2,x3,x4,_)=>⟨x0,x1,x2,x3,x4⟩
def ax_.to (s:ax_):ax_.c:=(s.kind,s.n_,s.s,s.list,s.names,())
def rd0:RD:=⟨Bool,[.b],fun (a0,_)=>a0,fun r=>(r,())⟩
def eL_.e:FE:=mkE rd0 5 6 1 [.sl .v .u8] [.tmp 2] [] [] [] (un1 eL_)
def od0:OD:=⟨[(0,.view .u8),(3,.k),(4,.k)],(aw_.p .v),[.ext]⟩
def od1:OD:=⟨[(0,.view .u8),(3,.k)],[.sl .v .u8,.i .i64],[.ext]⟩
def rd1:RD:=⟨aw_,[.bx (aw_.p .v)],fun (a0,_)=>(aw_.of a0),fun r=>(aw_.to r,())⟩
def bH_.e:FE:=mkE rd1 19 32 1 [.sl .v .u8] [.tmp 2] [] [(4,od0)] [(0,od1)] (un1 bH_)
def rd2:RD:=⟨Int × aw_,[.i .i64,.bx (aw_.p .v)],fun (a0,a1,_)=>(a0,(aw_.of a1)),fun (a0,a1)=>(a0,aw_.to a1,())⟩
def cD_.e:FE:=mkE rd2 68 58 2 [.bx (aw_.p .v)] [.tmp 2] [.pb 1 0] [] [] fun n (a0,_)=>cD_ n (aw_.of a0)
def ay_.e:FE:=mkE rd2 22 37 2 [.bx (aw_.p .v),.i .i64] [.tmp 4] [.pb 1 0] [] [] fun n (a0,a1,_)=>ay_ n (aw_.of a0) a1
def od2:OD:=⟨[(0,.box [.view .u8,.k,.k]),(2,.box [.k]),(3,.box [.own .d .int]),(4,.k)],[.pb 1 0,.pb 2 0,.pb 3 0,.i .i64],[.ext,.box (aw_.p .v),.box [.nils],.box [.rt 4],.arr .d .int 2]⟩
def od3:OD:=⟨[(2,.box [.k]),(3,.box [.own .d .int])],[.pb 2 0,.pb 3 0],[.ext,.box (aw_.p .v),.box [.nils],.box [.rt 4],.arr .d .int 2]⟩
def rd3:RD:=⟨au_ × aw_,[.ag [.sl .d .int],.bx (aw_.p .v)],fun (a0,a1,_)=>((au_.of a0),(aw_.of a1)),fun (a0,a1)=>(au_.to a0,aw_.to a1,())⟩
def aC_.e:FE:=mkE rd3 63 22 2 [.bx (aw_.p .v)] [.cell 2 26] [.pb 1 0] [(4,od2)] [(0,od3)] fun n (a0,_)=>aC_ n (aw_.of a0)
def bO_.e:FE:=mkE rd0 39 15 1 (aY_.p .v) [.tmp 6] [] [] [] (un3 bO_)
def od4:OD:=⟨[(1,.box [.view .int]),(3,.k)],[.pb 1 0,.i .i64],[.ext,.box [.sl .v .int]]⟩
def od5:OD:=⟨[(1,.box [.view .int])],[.pb 1 0],[.ext,.box [.sl .v .int]]⟩
def aW_.e:FE:=mkE rd0 84 22 1 [.ag [.sl .v .int]] [.tmp 2] [] [(3,od4)] [(0,od5)] fun n (a0,_)=>aW_ n (au_.of a0)
def rd4:RD:=⟨au_,[.ag [.sl .d .int]],fun (a0,_)=>(au_.of a0),fun r=>(au_.to r,())⟩
def cG_.e:FE:=mkE rd4 92 8 1 [.ag [.sl .v .int]] [.cell 2 26] [] [] [] fun n (a0,_)=>cG_ n (au_.of a0)
def rd5:RD:=⟨an_ × Bool,[.ag (an_.p .d),.b],fun (a0,a1,_)=>((an_.of a0),a1),fun (a0,a1)=>(an_.to a0,a1,())⟩
def cR_.e:FE:=mkE rd5 62 15 1 [.ag [.sl .v .int]] [.cell 2 29,.tmp 3] [] [] [] fun n (a0,_)=>cR_ n (au_.of a0)
def od6:OD:=⟨[(0,.box [.view .u8,.k,.k]),(1,.k),(4,.box [.k,.k]),(5,.box [.k,.own .d .int]),(6,.k)],[.pb 1 0,.i .i64,.pb 2 0,.pb 3 0,.i .i64],[.ext,.box (aw_.p .v),.box [.i .i64,.nils],.box [.i .i64,.rt 4],.arr .d .int 2]⟩
def od7:OD:=⟨[(4,.box [.k,.k]),(5,.box [.k,.own .d .int])],[.pb 2 0,.pb 3 0],[.ext,.box (aw_.p .v),.box [.i .i64,.nils],.box [.i .i64,.rt 4],.arr .d .int 2]⟩
def rd6:RD:=⟨TRow × aw_,[.ag (TRow.p .d),.bx (aw_.p .v)],fun (a0,a1,_)=>((TRow.of a0),(aw_.of a1)),fun (a0,a1)=>(TRow.to a0,aw_.to a1,())⟩
def aP_.e:FE:=mkE rd6 69 24 2 [.bx (aw_.p .v),.i .i64] [.cell 4 65] [.pb 1 0] [(4,od6)] [(0,od7)] fun n (a0,a1,_)=>aP_ n (aw_.of a0) a1
def od8:OD:=⟨[(0,.view .iRow),(1,.k),(5,.k)],[.sl .v .iRow,.i .i64,.i .i64],[.ext]⟩
def od9:OD:=⟨[],[],[.ext]⟩
def rd7:RD:=⟨Int,[.i .i64],fun (a0,_)=>a0,fun r=>(r,())⟩
def bI_.e:FE:=mkE rd7 120 20 1 [.sl .v .iRow,.i .i64] [.tmp 4] [] [(3,od8)] [(0,od9)] (un2 bI_)
def rd8:RD:=⟨TRow,[.ag (TRow.p .d)],fun (a0,_)=>(TRow.of a0),fun r=>(TRow.to r,())⟩
def bT_.e:FE:=mkE rd8 121 10 1 [.ag (TRow.p .v)] [.cell 2 65] [] [] [] fun n (a0,_)=>bT_ n (TRow.of a0)
def od10:OD:=⟨[(0,.view .iRow),(5,.k),(6,.own .d .iRow),(7,.k)],[.sl .v .iRow,.i .i64,.rt 1,.i .i64],[.ext,.arr .d .iRow 2]⟩
def od11:OD:=⟨[(6,.own .d .iRow)],[.rt 1],[.ext,.arr .d .iRow 2]⟩
def rd9:RD:=⟨(List TRow),[.sl .d .iRow],fun (a0,_)=>a0,fun r=>(r,())⟩
def a7_.e:FE:=mkE rd9 122 30 1 [.sl .v .iRow,.i .i64] [.tmp 4] [] [(5,od10)] [(0,od11)] (un2 a7_)
def od12:OD:=⟨[(3,.box [.k,.view .int]),(5,.own .d .iRow),(6,.k),(7,.k)],[.pb 1 0,.rt 2,.i .i64,.i .i64],[.ext,.box (TRow.p .v),.arr .d .iRow 2]⟩
def od13:OD:=⟨[(3,.box [.k,.view .int]),(5,.own .d .iRow),(6,.k)],[.pb 1 0,.rt 2,.i .i64],[.ext,.box (TRow.p .v),.arr .d .iRow 2]⟩
def jk_:RD:=⟨(List TRow),[.sl .s .iRow],fun (a0,_)=>a0,fun r=>(r,())⟩
def bf_.e:FE:=mkE jk_ 118 55 1 [.sl .v .iRow,.ag (TRow.p .v)] [.tmp 4] [] [(6,od12)] [(0,od13)] fun n (a0,a1,_)=>bf_ n a0 (TRow.of a1)
def od14:OD:=⟨[(0,.box [.view .u8,.k,.k]),(1,.k),(5,.own .s .iRow),(6,.k)],[.pb 1 0,.i .i64,.rt 2,.i .i64],[.ext,.box (aw_.p .v),.arr .s .iRow 2]⟩
def od15:OD:=⟨[(5,.own .s .iRow)],[.rt 2],[.ext,.box (aw_.p .v),.arr .s .iRow 2]⟩
def rd11:RD:=⟨(List TRow) × aw_,[.sl .s .iRow,.bx (aw_.p .v)],fun (a0,a1,_)=>(a0,(aw_.of a1)),fun (a0,a1)=>(a0,aw_.to a1,())⟩
def aK_.e:FE:=mkE rd11 64 20 2 [.bx (aw_.p .v),.i .i64] [.tmp 4] [.pb 1 0] [(4,od14)] [(0,od15)] fun n (a0,a1,_)=>aK_ n (aw_.of a0) a1
def od16:OD:=⟨[(0,.box [.view .u8,.k,.k]),(2,.box [.k,.k,.k]),(3,.box [.own .d .int,.k,.own .s .s_iRow]),(5,.k)],[.pb 1 0,.pb 2 0,.pb 3 0,.i .i64],[.ext,.box (aw_.p .v),.box [.nils,.i .i64,.nils],.box [.rt 4,.i .i64,.rt 5],.arr .d .int 2,.arr .s .s_iRow 2]⟩
def od17:OD:=⟨[(0,.box [.view .u8,.k,.k]),(2,.box [.k,.k,.k]),(3,.box [.own .d .int,.k,.own .s .s_iRow])],[.pb 1 0,.pb 2 0,.pb 3 0],[.ext,.box (aw_.p .v),.box [.nils,.i .i64,.nils],.box [.rt 4,.i .i64,.rt 5],.arr .d .int 2,.arr .s .s_iRow 2]⟩
def rd12:RD:=⟨an_ × aw_,[.ag [.sl .d .int,.i .i64,.sl .s .s_iRow],.bx (aw_.p .v)],fun (a0,a1,_)=>((an_.of a0),(aw_.of a1)),fun (a0,a1)=>(an_.to a0,aw_.to a1,())⟩
def aH_.e:FE:=mkE rd12 20 35 2 [.bx (aw_.p .v)] [.cell 2 29] [.pb 1 0] [(4,od16)] [(0,od17)] fun n (a0,_)=>aH_ n (aw_.of a0)
def ce_.e:FE:=mkE rd7 65 10 1 (TKid.p .v) [.tmp 4] [] [] [] (un2 ce_)
def rd13:RD:=⟨Bool × aw_,[.b,.bx (aw_.p .v)],fun (a0,a1,_)=>(a0,(aw_.of a1)),fun (a0,a1)=>(a0,aw_.to a1,())⟩
def ck_.e:FE:=mkE rd13 66 9 2 [.bx (aw_.p .v),.i .i64] [.tmp 4] [.pb 1 0] [] [] fun n (a0,a1,_)=>ck_ n (aw_.of a0) a1
def bC_.e:FE:=mkE rd2 67 12 2 [.bx (aw_.p .v),.sl .v .int] [.tmp 4] [.pb 1 0] [] [] fun n (a0,a1,_)=>bC_ n (aw_.of a0) a1
def od18:OD:=⟨[(0,.box [.view .u8,.k,.k]),(3,.box [.view .int]),(4,.box [.k,.k,.k,.k,.k,.k,.k,.k,.k]),(5,.box [.k,.own .d .iCond,.k,.k,.k,.k,.k,.k,.k]),(6,.k),(7,.k)],[.pb 1 0,.pb 2 0,.pb 3 0,.pb 4 0,.i .i64,.i .i64],[.ext,.box (aw_.p .v),.box [.sl .v .int],.box [.i .i64,.nils,.i .i64,.b,.i .i64,.nils,.b,.i .i64,.i .i64],.box [.i .i64,.rt 5,.i .i64,.b,.i .i64,.nils,.b,.i .i64,.i .i64],.arr .d .iCond 2]⟩
def od19:OD:=⟨[(0,.box [.view .u8,.k,.k]),(3,.box [.view .int]),(4,.box [.k,.k,.k,.k,.k,.k,.k,.k,.k]),(5,.box [.k,.own .d .iCond,.k,.k,.k,.own .d .int,.k,.k,.k]),(6,.k),(8,.k)],[.pb 1 0,.pb 2 0,.pb 3 0,.pb 4 0,.i .i64,.i .i64],[.ext,.box (aw_.p .v),.box [.sl .v .int],.box [.i .i64,.nils,.i .i64,.b,.i .i64,.nils,.b,.i .i64,.i .i64],.box [.i .i64,.rt 5,.i .i64,.b,.i .i64,.rt 6,.b,.i .i64,.i .i64],.arr .d .iCond 2,.arr .d .int 2]⟩
def od20:OD:=⟨[(0,.box [.view .u8,.k,.k]),(3,.box [.view .int]),(4,.box [.k,.k,.k,.k,.k,.k,.k,.k,.k]),(5,.box [.k,.own .d .iCond,.k,.k,.k,.k,.k,.k,.k]),(6,.k)],[.pb 1 0,.pb 2 0,.pb 3 0,.pb 4 0,.i .i64],[.ext,.box (aw_.p .v),.box [.sl .v .int],.box [.i .i64,.nils,.i .i64,.b,.i .i64,.nils,.b,.i .i64,.i .i64],.box [.i .i64,.rt 5,.i .i64,.b,.i .i64,.nils,.b,.i .i64,.i .i64],.arr .d .iCond 2]⟩
def od21:OD:=⟨[(0,.box [.view .u8,.k,.k]),(3,.box [.view .int]),(4,.box [.k,.k,.k,.k,.k,.k,.k,.k,.k]),(5,.box [.k,.own .d .iCond,.k,.k,.k,.own .d .int,.k,.k,.k])],[.pb 1 0,.pb 2 0,.pb 3 0,.pb 4 0],[.ext,.box (aw_.p .v),.box [.sl .v .int],.box [.i .i64,.nils,.i .i64,.b,.i .i64,.nils,.b,.i .i64,.i .i64],.box [.i .i64,.rt 5,.i .i64,.b,.i .i64,.rt 6,.b,.i .i64,.i .i64],.arr .d .iCond 2,.arr .d .int 2]⟩
def rd14:RD:=⟨ae_ × aw_,[.ag (ae_.p .d),.bx (aw_.p .v)],fun (a0,a1,_)=>((ae_.of a0),(aw_.of a1)),fun (a0,a1)=>(ae_.to a0,aw_.to a1,())⟩
def af_.e:FE:=mkE rd14 21 106 2 [.bx (aw_.p .v),.ag [.sl .v .int]] [.cell 4 32] [.pb 1 0] [(7,od18),(16,od19)] [(0,od20),(2,od21)] fun n (a0,a1,_)=>af_ n (aw_.of a0) (au_.of a1)
def rd15:RD:=⟨TMut × aw_,[.ag (TMut.p .d),.bx (aw_.p .v)],fun (a0,a1,_)=>((TMut.of a0),(aw_.of a1)),fun (a0,a1)=>(TMut.to a0,aw_.to a1,())⟩
def cH_.e:FE:=mkE rd15 23 102 2 [.bx (aw_.p .v),.ag (an_.p .v)] [.cell 4 67] [.pb 1 0] [] [] fun n (a0,a1,_)=>cH_ n (aw_.of a0) (an_.of a1)
def od22:OD:=⟨[(5,.box [.k,.view .int]),(7,.k)],[.pb 1 0,.i .i64],[.ext,.box (TRow.p .v)]⟩
def bJ_.e:FE:=mkE rd0 119 51 1 [.ag [.sl .v .int],.i .i64,.ag (TRow.p .v)] [.tmp 6] [] [(6,od22)] [(0,od9)] fun n (a0,a1,a2,_)=>bJ_ n (au_.of a0) a1 (TRow.of a2)
def od23:OD:=⟨[(1,.k),(2,.view .iRow),(3,.box [.view .int]),(7,.k)],[.i .i64,.sl .v .iRow,.pb 1 0,.i .i64],[.ext,.box [.sl .v .int]]⟩
def od24:OD:=⟨[(1,.k),(2,.view .iRow),(3,.box [.view .int])],[.i .i64,.sl .v .iRow,.pb 1 0],[.ext,.box [.sl .v .int]]⟩
def bu_.e:FE:=mkE rd0 85 55 1 [.ag [.sl .v .int],.i .i64,.sl .v .iRow] [.tmp 6] [] [(3,od23)] [(0,od24)] fun n (a0,a1,a2,_)=>bu_ n (au_.of a0) a1 a2
def od25:OD:=⟨[(1,.box [.view .int,.k,.view .s_iRow]),(3,.k)],[.pb 1 0,.i .i64],[.ext,.box (an_.p .v)]⟩
def be_.e:FE:=mkE rd0 30 41 1 [.ag (an_.p .v)] [.tmp 2] [] [(6,od25)] [(0,od9)] fun n (a0,_)=>be_ n (an_.of a0)
def dR_.e:FE:=mkE rd0 70 43 1 [.ag [.sl .v .int],.ag (TMut.p .v)] [.tmp 4] [] [] [] fun n (a0,a1,_)=>dR_ n (au_.of a0) (TMut.of a1)
def od26:OD:=⟨[(0,.view .iRow),(3,.own .d .iRow),(4,.k)],[.sl .v .iRow,.rt 1,.i .i64],[.ext,.arr .d .iRow 2]⟩
def od27:OD:=⟨[(3,.own .d .iRow)],[.rt 1],[.ext,.arr .d .iRow 2]⟩
def bs_.e:FE:=mkE rd9 93 21 1 [.sl .v .iRow] [.tmp 2] [] [(4,od26)] [(0,od27)] (un1 bs_)
def od28:OD:=⟨[(1,.box [.view .int,.k,.view .s_iRow]),(2,.box [.k,.k,.k]),(3,.box [.own .d .int,.k,.own .d .s_iRow]),(4,.k)],[.pb 1 0,.pb 2 0,.pb 3 0,.i .i64],[.ext,.box (an_.p .v),.box [.nils,.i .i64,.nils],.box [.rt 4,.i .i64,.rt 5],.arr .d .int 2,.arr .d .s_iRow 2]⟩
def od29:OD:=⟨[(2,.box [.k,.k,.k]),(3,.box [.own .d .int,.k,.own .d .s_iRow])],[.pb 1 0,.pb 2 0],[.ext,.box [.nils,.i .i64,.nils],.box [.rt 3,.i .i64,.rt 4],.arr .d .int 2,.arr .d .s_iRow 2]⟩
def rd16:RD:=⟨an_,[.ag (an_.p .d)],fun (a0,_)=>(an_.of a0),fun r=>(an_.to r,())⟩
def bb_.e:FE:=mkE rd16 40 30 1 [.ag (an_.p .v)] [.cell 2 29] [] [(4,od28)] [(0,od29)] fun n (a0,_)=>bb_ n (an_.of a0)
def rd17:RD:=⟨an_ × aI_ × Bool,[.ag [.sl .d .int,.i .i64,.sl .s .s_iRow],.ag (aI_.p .d),.b],fun (a0,a1,a2,_)=>((an_.of a0),(aI_.of a1),a2),fun (a0,a1,a2)=>(an_.to a0,aI_.to a1,a2,())⟩
def ed_.e:FE:=mkE rd17 71 82 3 [.ag [.sl .d .int,.i .i64,.sl .s .s_iRow],.ag (TMut.p .v)] [.cell 4 29,.cell 5 70,.tmp 6] [] [] [] fun n (a0,a1,_)=>ed_ n (an_.of a0) (TMut.of a1)
def dA_.e:FE:=mkE rd17 24 38 1 [.ag (an_.p .v),.ag (TMut.p .v)] [.cell 4 29,.cell 5 70,.tmp 6] [] [] [] fun n (a0,a1,_)=>dA_ n (an_.of a0) (TMut.of a1)
def od30:OD:=⟨[(2,.box [.k,.k,.k]),(3,.box [.k,.k,.k,.k,.k,.k,.k,.k,.k]),(5,.box [.view .u8,.k,.k]),(6,.box [.view .int,.k,.own .s .s_iRow])],[.pb 1 0,.pb 2 0,.pb 3 0,.pb 4 0],[.ext,.box [.nils,.i .i64,.nils],.box [.i .i64,.nils,.i .i64,.b,.i .i64,.nils,.b,.i .i64,.i .i64],.box (aw_.p .v),.box [.sl .v .int,.i .i64,.rt 5],.arr .s .s_iRow 2]⟩
def od31:OD:=⟨[(2,.box [.k,.k,.k]),(3,.box [.k,.k,.k,.k,.k,.k,.k,.k,.k]),(5,.box [.view .u8,.k,.k]),(6,.box [.view .int,.k,.view .s_iRow]),(7,.box [.k,.own .d .iCond,.k,.k,.k,.own .d .int,.k,.k,.k])],[.pb 1 0,.pb 2 0,.pb 3 0,.pb 4 0,.pb 5 0],[.ext,.box [.nils,.i .i64,.nils],.box [.i .i64,.nils,.i .i64,.b,.i .i64,.nils,.b,.i .i64,.i .i64],.box (aw_.p .v),.box (an_.p .v),.box [.i .i64,.rt 6,.i .i64,.b,.i .i64,.rt 7,.b,.i .i64,.i .i64],.arr .d .iCond 2,.arr .d .int 2]⟩
def od32:OD:=⟨[(2,.box [.k,.k,.k]),(3,.box [.k,.k,.k,.k,.k,.k,.k,.k,.k]),(5,.box [.view .u8,.k,.k]),(6,.box [.view .int,.k,.view .s_iRow]),(7,.box [.k,.own .d .iCond,.k,.k,.k,.own .d .int,.k,.k,.k]),(8,.box [.view .int,.k,.view .s_iRow]),(9,.own .s .iMut),(10,.k)],[.pb 1 0,.pb 2 0,.pb 3 0,.pb 4 0,.pb 5 0,.pb 6 0,.rt 7,.i .i64],[.ext,.box [.nils,.i .i64,.nils],.box [.i .i64,.nils,.i .i64,.b,.i .i64,.nils,.b,.i .i64,.i .i64],.box (aw_.p .v),.box (an_.p .v),.box [.i .i64,.rt 8,.i .i64,.b,.i .i64,.rt 9,.b,.i .i64,.i .i64],.box (an_.p .v),.arr .s .iMut 2,.arr .d .iCond 2,.arr .d .int 2]⟩
def od33:OD:=⟨[(2,.box [.k,.k,.k]),(3,.box [.k,.k,.k,.k,.k,.k,.k,.k,.k]),(5,.box [.view .u8,.k,.k]),(6,.box [.view .int,.k,.view .s_iRow]),(7,.box [.k,.own .d .iCond,.k,.k,.k,.own .d .int,.k,.k,.k]),(8,.box [.view .int,.k,.view .s_iRow]),(9,.own .s .iMut),(10,.k),(11,.box [.k,.k,.k,.view .int])],[.pb 1 0,.pb 2 0,.pb 3 0,.pb 4 0,.pb 5 0,.pb 6 0,.rt 7,.i .i64,.pb 8 0],[.ext,.box [.nils,.i .i64,.nils],.box [.i .i64,.nils,.i .i64,.b,.i .i64,.nils,.b,.i .i64,.i .i64],.box (aw_.p .v),.box (an_.p .v),.box [.i .i64,.rt 9,.i .i64,.b,.i .i64,.rt 10,.b,.i .i64,.i .i64],.box (an_.p .v),.arr .s .iMut 2,.box (TMut.p .v),.arr .d .iCond 2,.arr .d .int 2]⟩
def od34:OD:=⟨[(2,.box [.k,.k,.k]),(3,.box [.k,.k,.k,.k,.k,.k,.k,.k,.k]),(6,.box [.view .int,.k,.view .s_iRow]),(7,.box [.k,.own .d .iCond,.k,.k,.k,.own .d .int,.k,.k,.k]),(9,.own .s .iMut)],[.pb 1 0,.pb 2 0,.pb 3 0,.pb 4 0,.rt 5],[.ext,.box [.nils,.i .i64,.nils],.box [.i .i64,.nils,.i .i64,.b,.i .i64,.nils,.b,.i .i64,.i .i64],.box (an_.p .v),.box [.i .i64,.rt 6,.i .i64,.b,.i .i64,.rt 7,.b,.i .i64,.i .i64],.arr .s .iMut 2,.arr .d .iCond 2,.arr .d .int 2]⟩
def rd18:RD:=⟨an_ × ae_ × (List TMut),[.ag (an_.p .v),.ag (ae_.p .d),.sl .s .iMut],fun (a0,a1,a2,_)=>((an_.of a0),(ae_.of a1),a2),fun (a0,a1,a2)=>(an_.to a0,ae_.to a1,a2,())⟩
def aA_.e:FE:=⟨_,⟨6,56,1,[.sl .v .u8],rd18.rp,rd18.toR,rd18.ofR,[.v],[.ag [.v,.v,.v],.ag [.v,.o,.v,.v,.v,.o,.v,.v,.v],.o],[.ag [.view .int,.k,.view .s_iRow],.ag [.k,.own .d .iCond,.k,.k,.k,.own .d .int,.k,.k,.k],.own .s .iMut],[.cell 2 29,.cell 3 32,.tmp 4],[],[(12,od33),(9,od32),(8,od32),(3,od31),(2,od30)],[(9,od32),(12,od32)],[(0,od34)]⟩,fun _=>true,(un1 aA_)⟩
def aE_.e:FE:=mkE rd0 35 15 1 (aY_.p .v) [.tmp 6] [] [] [] (un3 aE_)
def od35:OD:=⟨[(1,.box [.view .int]),(6,.view .int),(7,.k),(8,.k)],[.pb 1 0,.sl .v .int,.i .i64,.i .i64],[.ext,.box [.sl .v .int]]⟩
def aX_.e:FE:=mkE rd0 72 20 1 [.ag [.sl .v .int]] [.tmp 2] [] [(3,od35)] [(0,od5)] fun n (a0,_)=>aX_ n (au_.of a0)
def cJ_.e:FE:=mkE rd0 73 5 1 [.i .i64] [.tmp 2] [] [] [] (un1 cJ_)
def a5_.e:FE:=mkE rd0 76 5 1 [.i .i64] [.tmp 2] [] [] [] (un1 a5_)
def cg_.e:FE:=mkE rd0 75 11 1 [.ag [.sl .v .int],.i .i64] [.tmp 4] [] [] [] fun n (a0,a1,_)=>cg_ n (au_.of a0) a1
def od36:OD:=⟨[(1,.k),(3,.box [.view .int]),(5,.box [.k,.view .int]),(10,.view .int),(11,.k),(12,.k)],[.i .i64,.pb 1 0,.pb 2 0,.sl .v .int,.i .i64,.i .i64],[.ext,.box [.sl .v .int],.box (TRow.p .v)]⟩
def od37:OD:=⟨[(1,.k),(3,.box [.view .int]),(5,.box [.k,.view .int])],[.i .i64,.pb 1 0,.pb 2 0],[.ext,.box [.sl .v .int],.box (TRow.p .v)]⟩
def bz_.e:FE:=mkE rd0 47 43 1 [.ag [.sl .v .int],.i .i64,.ag (TRow.p .v)] [.tmp 6] [] [(3,od36)] [(0,od37)] fun n (a0,a1,a2,_)=>bz_ n (au_.of a0) a1 (TRow.of a2)
def od38:OD:=⟨[(1,.k),(2,.view .iRow),(3,.box [.view .int]),(9,.view .iRow),(10,.k),(11,.k)],[.i .i64,.sl .v .iRow,.pb 1 0,.sl .v .iRow,.i .i64,.i .i64],[.ext,.box [.sl .v .int]]⟩
def bw_.e:FE:=mkE rd0 74 49 1 [.ag [.sl .v .int],.i .i64,.sl .v .iRow] [.tmp 6] [] [(3,od38)] [(0,od24)] fun n (a0,a1,a2,_)=>bw_ n (au_.of a0) a1 a2
def od39:OD:=⟨[(1,.box [.view .int,.k,.view .s_iRow]),(26,.view .s_iRow),(27,.k),(28,.k)],[.pb 1 0,.sl .v .s_iRow,.i .i64,.i .i64],[.ext,.box (an_.p .v)]⟩
def a8_.e:FE:=mkE rd0 25 40 1 [.ag (an_.p .v)] [.tmp 2] [] [(6,od39)] [(0,od9)] fun n (a0,_)=>a8_ n (an_.of a0)
def c2_.e:FE:=mkE rd0 77 32 1 [.ag [.sl .v .int],.ag (ae_.p .v)] [.tmp 4] [] [] [] fun n (a0,a1,_)=>c2_ n (au_.of a0) (ae_.of a1)
def od40:OD:=⟨[(2,.box [.view .int]),(3,.box [.k,.view .iCond,.k,.k,.k,.view .int,.k,.k,.k]),(5,.k),(28,.view .iCond),(29,.k),(30,.k)],[.pb 1 0,.pb 2 0,.i .i64,.sl .v .iCond,.i .i64,.i .i64],[.ext,.box [.sl .v .int],.box (ae_.p .v)]⟩
def od41:OD:=⟨[(2,.box [.view .int]),(3,.box [.k,.view .iCond,.k,.k,.k,.view .int,.k,.k,.k]),(5,.k),(54,.view .int),(55,.k),(56,.k)],[.pb 1 0,.pb 2 0,.i .i64,.sl .v .int,.i .i64,.i .i64],[.ext,.box [.sl .v .int],.box (ae_.p .v)]⟩
def od42:OD:=⟨[(2,.box [.view .int]),(3,.box [.k,.view .iCond,.k,.k,.k,.view .int,.k,.k,.k]),(5,.k)],[.pb 1 0,.pb 2 0,.i .i64],[.ext,.box [.sl .v .int],.box (ae_.p .v)]⟩
def aB_.e:FE:=mkE rd0 26 112 1 [.ag [.sl .v .int],.ag (ae_.p .v)] [.tmp 4] [] [(7,od40),(16,od41)] [(0,od42),(2,od42)] fun n (a0,a1,_)=>aB_ n (au_.of a0) (ae_.of a1)
def rd19:RD:=⟨(List Int),[.sl .d .int],fun (a0,_)=>a0,fun r=>(r,())⟩
def cs_.e:FE:=mkE rd19 78 6 1 [.sl .v .int] [.tmp 2] [] [] [] (un1 cs_)
def rd20:RD:=⟨ae_,[.ag (ae_.p .d)],fun (a0,_)=>(ae_.of a0),fun r=>(ae_.to r,())⟩
def cr_.e:FE:=mkE rd20 27 13 1 [.ag (ae_.p .v)] [.cell 2 32] [] [] [] fun n (a0,_)=>cr_ n (ae_.of a0)
def impl_holds.e:FE:=mkE rd0 98 49 1 [.ag (aY_.p .v),.ag (TRow.p .v)] [.tmp 4] [] [] [] fun n (a0,a1,_)=>impl_holds n (aY_.of a0) (TRow.of a1)
def od43:OD:=⟨[(3,.box [.k,.view .int]),(8,.view .iCond),(9,.k),(10,.k)],[.pb 1 0,.sl .v .iCond,.i .i64,.i .i64],[.ext,.box (TRow.p .v)]⟩
def bk_.e:FE:=mkE rd0 48 19 1 [.ag (ae_.p .v),.ag (TRow.p .v)] [.tmp 4] [] [(3,od43)] [(0,od9)] fun n (a0,a1,_)=>bk_ n (ae_.of a0) (TRow.of a1)
def bQ_.e:FE:=mkE rd8 79 9 1 [.ag (TRow.p .v)] [.cell 2 65] [] [] [] fun n (a0,_)=>bQ_ n (TRow.of a0)
def bn_.e:FE:=mkE rd7 95 17 1 [.ag (TRow.p .v),.i .i64] [.tmp 4] [] [] [] fun n (a0,a1,_)=>bn_ n (TRow.of a0) a1
def dp_.e:FE:=mkE rd0 49 45 1 [.ag (ae_.p .v),.ag (TRow.p .v),.ag (TRow.p .v)] [.tmp 6] [] [] [] fun n (a0,a1,a2,_)=>dp_ n (ae_.of a0) (TRow.of a1) (TRow.of a2)
def b2_.e:FE:=mkE rd7 81 10 1 [.ag (TRow.p .v),.ag (TRow.p .v),.pc (ae_.p .v) 0] [.tmp 5] [] [] [] fun n (a0,a1,(a2,a3,a4,a5,a6,a7,a8,a9,a10,_),_)=>b2_ n (TRow.of a0) (TRow.of a1) a2 a3 a4 a5 a6 a7 a8 a9 a10
def od44:OD:=⟨[(0,.own .s .iRow),(1,.k),(2,.k),(3,.k),(8,.k)],[.rt 1,.i .i64,.i .i64,.clo 81 [.pc (ae_.p .v) 0],.i .i64],[.ext,.arr .s .iRow 2]⟩
def od45:OD:=⟨[(0,.own .s .iRow),(1,.k),(2,.k),(3,.k),(8,.k),(9,.k)],[.rt 1,.i .i64,.i .i64,.clo 81 [.pc (ae_.p .v) 0],.i .i64,.i .i64],[.ext,.arr .s .iRow 2]⟩
def od46:OD:=⟨[],[],[.ext,.arr .s .iRow 2]⟩
def ab_.e:FE:=⟨_,⟨148,53,2,[.sl .s .iRow,.i .i64,.i .i64,.clo 81 [.pc (ae_.p .v) 0]],jk_.rp,jk_.toR,jk_.ofR,[.mu,.v,.v,.v],[.o],[.own .s .iRow],[],[.rt 1],[(6,od45),(1,od44)],[],[(0,od46),(2,od44)]⟩,fun _=>true,fun n (a0,a1,a2,((a3,a4,a5,a6,a7,a8,a9,a10,a11,_),_),_)=>ab_ n a0 a1 a2 a3 a4 a5 a6 a7 a8 a9 a10 a11⟩
def od47:OD:=⟨[(0,.own .s .iRow),(1,.k),(2,.k),(3,.k),(10,.k)],[.rt 1,.i .i64,.i .i64,.i .i64,.i .i64],[.ext,.arr .s .iRow 2]⟩
def ad_.e:FE:=⟨_,⟨179,38,2,[.sl .s .iRow,.i .i64,.i .i64,.i .i64,.clo 81 [.pc (ae_.p .v) 0]],jk_.rp,jk_.toR,jk_.ofR,[.mu,.v,.v,.v,.v],[.o],[.own .s .iRow],[],[.rt 1],[(1,od47)],[],[(0,od46)]⟩,fun _=>true,fun n (a0,a1,a2,a3,((a4,a5,a6,a7,a8,a9,a10,a11,a12,_),_),_)=>ad_ n a0 a1 a2 a3 a4 a5 a6 a7 a8 a9 a10 a11 a12⟩
def od48:OD:=⟨[(0,.own .s .iRow),(2,.k),(4,.k),(10,.k),(11,.k)],[.rt 1,.i .i64,.clo 81 [.pc (ae_.p .v) 0],.i .i64,.i .i64],[.ext,.arr .s .iRow 2]⟩
def od49:OD:=⟨[(0,.own .s .iRow),(2,.k),(4,.k),(10,.k)],[.rt 1,.i .i64,.clo 81 [.pc (ae_.p .v) 0],.i .i64],[.ext,.arr .s .iRow 2]⟩
def ag_.e:FE:=⟨_,⟨167,58,2,[.sl .s .iRow,.i .i64,.i .i64,.i .i64,.clo 81 [.pc (ae_.p .v) 0]],jk_.rp,jk_.toR,jk_.ofR,[.mu,.v,.v,.v,.v],[.o],[.own .s .iRow],[],[.rt 1],[(3,od48)],[],[(0,od49)]⟩,fun _=>true,fun n (a0,a1,a2,a3,((a4,a5,a6,a7,a8,a9,a10,a11,a12,_),_),_)=>ag_ n a0 a1 a2 a3 a4 a5 a6 a7 a8 a9 a10 a11 a12⟩
def od50:OD:=⟨[(0,.own .s .iRow),(1,.k),(4,.k),(10,.k),(11,.k)],[.rt 1,.i .i64,.clo 81 [.pc (ae_.p .v) 0],.i .i64,.i .i64],[.ext,.arr .s .iRow 2]⟩
def od51:OD:=⟨[(0,.own .s .iRow),(10,.k),(13,.k)],[.rt 1,.i .i64,.i .i64],[.ext,.arr .s .iRow 2]⟩
def od52:OD:=⟨[(0,.own .s .iRow),(2,.k),(4,.k),(14,.k),(15,.k)],[.rt 1,.i .i64,.clo 81 [.pc (ae_.p .v) 0],.i .i64,.i .i64],[.ext,.arr .s .iRow 2]⟩
def od53:OD:=⟨[(0,.own .s .iRow),(14,.k),(17,.k)],[.rt 1,.i .i64,.i .i64],[.ext,.arr .s .iRow 2]⟩
def od54:OD:=⟨[(0,.own .s .iRow),(1,.k),(2,.k),(3,.k),(4,.k),(18,.k),(19,.k),(20,.k),(21,.k),(22,.k)],[.rt 1,.i .i64,.i .i64,.i .i64,.clo 81 [.pc (ae_.p .v) 0],.i .i64,.i .i64,.i .i64,.i .i64,.i .i64],[.ext,.arr .s .iRow 2]⟩
def od55:OD:=⟨[(0,.own .s .iRow),(1,.k),(10,.k)],[.rt 1,.i .i64,.i .i64],[.ext,.arr .s .iRow 2]⟩
def od56:OD:=⟨[(0,.own .s .iRow),(2,.k),(14,.k)],[.rt 1,.i .i64,.i .i64],[.ext,.arr .s .iRow 2]⟩
def od57:OD:=⟨[(0,.own .s .iRow),(1,.k),(2,.k),(3,.k),(4,.k),(18,.k),(19,.k),(20,.k)],[.rt 1,.i .i64,.i .i64,.i .i64,.clo 81 [.pc (ae_.p .v) 0],.i .i64,.i .i64,.i .i64],[.ext,.arr .s .iRow 2]⟩
def aa_.e:FE:=⟨_,⟨149,220,2,[.sl .s .iRow,.i .i64,.i .i64,.i .i64,.clo 81 [.pc (ae_.p .v) 0]],jk_.rp,jk_.toR,jk_.ofR,[.mu,.v,.v,.v,.v],[.o],[.own .s .iRow],[],[.rt 1],[(5,od50),(12,od51),(21,od52),(28,od53),(41,od54)],[],[(0,od55),(2,od46),(4,od56),(6,od46),(8,od57)]⟩,fun _=>true,fun n (a0,a1,a2,a3,((a4,a5,a6,a7,a8,a9,a10,a11,a12,_),_),_)=>aa_ n a0 a1 a2 a3 a4 a5 a6 a7 a8 a9 a10 a11 a12⟩
def od58:OD:=⟨[(0,.own .s .iRow),(1,.k),(2,.k),(6,.k),(7,.k),(8,.k)],[.rt 1,.i .i64,.clo 81 [.pc (ae_.p .v) 0],.i .i64,.i .i64,.i .i64],[.ext,.arr .s .iRow 2]⟩
def od59:OD:=⟨[(0,.own .s .iRow),(1,.k),(2,.k),(6,.k)],[.rt 1,.i .i64,.clo 81 [.pc (ae_.p .v) 0],.i .i64],[.ext,.arr .s .iRow 2]⟩
def od60:OD:=⟨[(0,.own .s .iRow),(1,.k),(2,.k),(6,.k),(7,.k)],[.rt 1,.i .i64,.clo 81 [.pc (ae_.p .v) 0],.i .i64,.i .i64],[.ext,.arr .s .iRow 2]⟩
def ac_.e:FE:=⟨_,⟨123,63,2,[.sl .s .iRow,.i .i64,.clo 81 [.pc (ae_.p .v) 0]],jk_.rp,jk_.toR,jk_.ofR,[.mu,.v,.v],[.o],[.own .s .iRow],[],[.rt 1],[(3,od58),(14,od58),(9,od59)],[],[(0,od60),(2,od46),(4,od60)]⟩,fun _=>true,fun n (a0,a1,((a2,a3,a4,a5,a6,a7,a8,a9,a10,_),_),_)=>ac_ n a0 a1 a2 a3 a4 a5 a6 a7 a8 a9 a10⟩
def aL_.e:FE:=⟨_,⟨80,9,2,[.sl .s .iRow,.clo 81 [.pc (ae_.p .v) 0]],jk_.rp,jk_.toR,jk_.ofR,[.mu,.v],[.o],[.own .s .iRow],[],[.rt 1],[],[],[]⟩,fun _=>true,fun n (a0,((a1,a2,a3,a4,a5,a6,a7,a8,a9,_),_),_)=>aL_ n a0 a1 a2 a3 a4 a5 a6 a7 a8 a9⟩
def od61:OD:=⟨[(3,.box [.k,.view .iCond,.k,.k,.k,.view .int,.k,.k,.k]),(5,.own .d .iRow),(25,.view .iRow),(26,.k),(27,.k)],[.pb 1 0,.rt 2,.sl .v .iRow,.i .i64,.i .i64],[.ext,.box (ae_.p .v),.arr .d .iRow 2]⟩
def od62:OD:=⟨[(3,.box [.k,.view .iCond,.k,.k,.k,.view .int,.k,.k,.k]),(5,.own .d .iRow)],[.pb 1 0,.rt 2],[.ext,.box (ae_.p .v),.arr .d .iRow 2]⟩
def ba_.e:FE:=mkE jk_ 28 44 1 [.ag (an_.p .v),.ag (ae_.p .v)] [.tmp 4] [] [(7,od61)] [(0,od62)] fun n (a0,a1,_)=>ba_ n (an_.of a0) (ae_.of a1)
def rd21:RD:=⟨(List TKid),[.sl .d .iKid],fun (a0,_)=>a0,fun r=>(r,())⟩
def b7_.e:FE:=mkE rd21 82 95 1 [.sl .d .iKid,.i .i64,.sl .d .iKid] [.tmp 6] [] [] [] (un3 b7_)
def b8_.e:FE:=mkE rd21 83 33 1 [.sl .d .iKid,.i .i64,.i .i64] [.tmp 6] [] [] [] (un3 b8_)
def od63:OD:=⟨[(1,.k),(2,.k),(7,.own .d .iKid),(8,.k)],[.i .i64,.i .i64,.rt 1,.i .i64],[.ext,.arr .d .iKid 2]⟩
def aN_.e:FE:=mkE rd21 29 71 1 [.sl .v .iKid,.i .i64,.i .i64] [.tmp 6] [] [(4,od63)] [(0,od63)] (un3 aN_)
def od64:OD:=⟨[(3,.box [.k,.view .iCond,.k,.k,.k,.view .int,.k,.k,.k]),(4,.box [.k,.k,.k,.k,.k,.k,.k,.k,.k,.k,.k]),(6,.box [.k,.own .d .iCond,.k,.k,.k,.own .d .int,.k,.k,.k,.own .s .iRow,.own .d .iKid]),(33,.view .iRow),(34,.k),(35,.k)],[.pb 1 0,.pb 2 0,.pb 3 0,.sl .v .iRow,.i .i64,.i .i64],[.ext,.box (ae_.p .v),.box [.i .i64,.nils,.i .i64,.b,.i .i64,.nils,.b,.i .i64,.i .i64,.nils,.nils],.box [.i .i64,.rt 4,.i .i64,.b,.i .i64,.rt 5,.b,.i .i64,.i .i64,.rt 6,.rt 7],.arr .d .iCond 2,.arr .d .int 2,.arr .s .iRow 2,.arr .d .iKid 2]⟩
def od65:OD:=⟨[(4,.box [.k,.k,.k,.k,.k,.k,.k,.k,.k,.k,.k]),(6,.box [.k,.own .d .iCond,.k,.k,.k,.own .d .int,.k,.k,.k,.own .s .iRow,.own .d .iKid])],[.pb 1 0,.pb 2 0],[.ext,.box [.i .i64,.nils,.i .i64,.b,.i .i64,.nils,.b,.i .i64,.i .i64,.nils,.nils],.box [.i .i64,.rt 3,.i .i64,.b,.i .i64,.rt 4,.b,.i .i64,.i .i64,.rt 5,.rt 6],.arr .d .iCond 2,.arr .d .int 2,.arr .s .iRow 2,.arr .d .iKid 2]⟩
def rd22:RD:=⟨bd_ × Bool,[.ag [.i .i64,.sl .d .iCond,.i .i64,.b,.i .i64,.sl .d .int,.b,.i .i64,.i .i64,.sl .s .iRow,.sl .d .iKid],.b],fun (a0,a1,_)=>((bd_.of a0),a1),fun (a0,a1)=>(bd_.to a0,a1,())⟩
def bo_.e:FE:=mkE rd22 7 51 1 [.ag (an_.p .v),.ag (ae_.p .v)] [.cell 4 39,.tmp 5] [] [(8,od64)] [(0,od65)] fun n (a0,a1,_)=>bo_ n (an_.of a0) (ae_.of a1)
def od66:OD:=⟨[(2,.box [.view .int]),(3,.box [.k,.view .iCond,.k,.k,.k,.view .int,.k,.k,.k]),(5,.k),(6,.k)],[.pb 1 0,.pb 2 0,.i .i64,.i .i64],[.ext,.box [.sl .v .int],.box (ae_.p .v)]⟩
def od67:OD:=⟨[(2,.box [.view .int]),(3,.box [.k,.view .iCond,.k,.k,.k,.view .int,.k,.k,.k]),(5,.k),(8,.k)],[.pb 1 0,.pb 2 0,.i .i64,.i .i64],[.ext,.box [.sl .v .int],.box (ae_.p .v)]⟩
def aF_.e:FE:=mkE rd0 31 148 1 [.ag [.sl .v .int],.ag (ae_.p .v)] [.tmp 4] [] [(7,od66),(16,od67)] [(0,od42),(2,od42)] fun n (a0,a1,_)=>aF_ n (au_.of a0) (ae_.of a1)
def ds_.e:FE:=mkE rd20 32 14 1 [.ag (ae_.p .v)] [.cell 2 32] [] [] [] fun n (a0,_)=>ds_ n (ae_.of a0)
def c0_.e:FE:=mkE rd0 126 46 1 [.ag (aY_.p .v),.ag (TRow.p .v)] [.tmp 4] [] [] [] fun n (a0,a1,_)=>c0_ n (aY_.of a0) (TRow.of a1)
def od68:OD:=⟨[(2,.box [.k,.view .iCond,.k,.k,.k,.view .int,.k,.k,.k]),(3,.box [.k,.view .int]),(5,.k)],[.pb 1 0,.pb 2 0,.i .i64],[.ext,.box (ae_.p .v),.box (TRow.p .v)]⟩
def br_.e:FE:=mkE rd0 86 21 1 [.ag (ae_.p .v),.ag (TRow.p .v)] [.tmp 4] [] [(3,od68)] [(0,od9)] fun n (a0,a1,_)=>br_ n (ae_.of a0) (TRow.of a1)
def dj_.e:FE:=mkE rd7 151 17 1 [.ag (TRow.p .v),.i .i64] [.tmp 4] [] [] [] fun n (a0,a1,_)=>dj_ n (TRow.of a0) a1
def dB_.e:FE:=mkE rd0 127 36 1 [.ag (ae_.p .v),.ag (TRow.p .v),.ag (TRow.p .v)] [.tmp 6] [] [] [] fun n (a0,a1,a2,_)=>dB_ n (ae_.of a0) (TRow.of a1) (TRow.of a2)
def od69:OD:=⟨[(1,.view .iRow),(3,.box [.k,.view .iCond,.k,.k,.k,.view .int,.k,.k,.k]),(5,.box [.k,.view .int]),(7,.own .s .iRow),(8,.k),(9,.k)],[.sl .v .iRow,.pb 1 0,.pb 2 0,.rt 3,.b,.i .i64],[.ext,.box (ae_.p .v),.box (TRow.p .v),.arr .s .iRow 2]⟩
def od70:OD:=⟨[(5,.box [.k,.view .int]),(7,.own .s .iRow),(8,.k)],[.pb 1 0,.rt 2,.b],[.ext,.box (TRow.p .v),.arr .s .iRow 2]⟩
def bt_.e:FE:=mkE jk_ 87 48 1 [.ag (ae_.p .v),.sl .v .iRow,.ag (TRow.p .v)] [.tmp 6] [] [(5,od69)] [(0,od70)] fun n (a0,a1,a2,_)=>bt_ n (ae_.of a0) a1 (TRow.of a2)
def od71:OD:=⟨[(3,.box [.k,.view .iCond,.k,.k,.k,.view .int,.k,.k,.k]),(5,.own .s .iRow),(6,.view .iRow),(7,.k)],[.pb 1 0,.rt 2,.sl .v .iRow,.i .i64],[.ext,.box (ae_.p .v),.arr .s .iRow 2]⟩
def od72:OD:=⟨[(5,.own .s .iRow)],[.rt 1],[.ext,.arr .s .iRow 2]⟩
def bh_.e:FE:=mkE jk_ 33 46 1 [.ag (an_.p .v),.ag (ae_.p .v)] [.tmp 4] [] [(8,od71)] [(0,od72)] fun n (a0,a1,_)=>bh_ n (an_.of a0) (ae_.of a1)
def od73:OD:=⟨[(0,.view .iKid),(1,.k),(2,.k),(7,.own .d .iKid),(8,.k),(9,.k)],[.sl .v .iKid,.i .i64,.i .i64,.rt 1,.b,.i .i64],[.ext,.arr .d .iKid 2]⟩
def od74:OD:=⟨[(1,.k),(2,.k),(7,.own .d .iKid),(8,.k)],[.i .i64,.i .i64,.rt 1,.b],[.ext,.arr .d .iKid 2]⟩
def bv_.e:FE:=mkE rd21 34 69 1 [.sl .v .iKid,.i .i64,.i .i64] [.tmp 6] [] [(5,od73)] [(0,od74)] (un3 bv_)
def od75:OD:=⟨[(3,.box [.k,.view .iCond,.k,.k,.k,.view .int,.k,.k,.k]),(4,.box [.k,.k,.k,.k,.k,.k,.k,.k,.k,.k,.k]),(6,.box [.k,.own .d .iCond,.k,.k,.k,.own .d .int,.k,.k,.k,.own .s .iRow,.own .d .iKid]),(7,.view .iRow),(8,.k)],[.pb 1 0,.pb 2 0,.pb 3 0,.sl .v .iRow,.i .i64],[.ext,.box (ae_.p .v),.box [.i .i64,.nils,.i .i64,.b,.i .i64,.nils,.b,.i .i64,.i .i64,.nils,.nils],.box [.i .i64,.rt 4,.i .i64,.b,.i .i64,.rt 5,.b,.i .i64,.i .i64,.rt 6,.rt 7],.arr .d .iCond 2,.arr .d .int 2,.arr .s .iRow 2,.arr .d .iKid 2]⟩
def bq_.e:FE:=mkE rd22 8 56 1 [.ag (an_.p .v),.ag (ae_.p .v)] [.cell 4 39,.tmp 5] [] [(8,od75)] [(0,od65)] fun n (a0,a1,_)=>bq_ n (an_.of a0) (ae_.of a1)
def od76:OD:=⟨[(3,.own .d .iRow),(7,.view .iRow),(8,.k),(9,.k)],[.rt 1,.sl .v .iRow,.i .i64,.i .i64],[.ext,.arr .d .iRow 2]⟩
def a1_.e:FE:=mkE rd9 88 20 1 [.sl .v .iRow] [.tmp 2] [] [(4,od76)] [(0,od27)] (un1 a1_)
def od77:OD:=⟨[(2,.box [.k,.k,.k]),(3,.box [.own .d .int,.k,.own .d .s_iRow]),(15,.view .s_iRow),(16,.k),(17,.k)],[.pb 1 0,.pb 2 0,.sl .v .s_iRow,.i .i64,.i .i64],[.ext,.box [.nils,.i .i64,.nils],.box [.rt 3,.i .i64,.rt 4],.arr .d .int 2,.arr .d .s_iRow 2]⟩
def aR_.e:FE:=mkE rd16 37 30 1 [.ag (an_.p .v)] [.cell 2 29] [] [(4,od77)] [(0,od29)] fun n (a0,_)=>aR_ n (an_.of a0)
def c3_.e:FE:=mkE rd16 36 9 1 [.ag (an_.p .v)] [.cell 2 29] [] [] [] fun n (a0,_)=>c3_ n (an_.of a0)
def dV_.e:FE:=mkE rd0 89 40 1 [.ag [.sl .v .int],.ag (TMut.p .v)] [.tmp 4] [] [] [] fun n (a0,a1,_)=>dV_ n (au_.of a0) (TMut.of a1)
def cU_.e:FE:=mkE rd0 100 8 1 [.ag (TRow.p .v),.pc [.i .i64] 0] [.tmp 3] [] [] [] fun n (a0,(a1,_),_)=>cU_ n (TRow.of a0) a1
def od78:OD:=⟨[(0,.view .iRow),(1,.k),(7,.k),(8,.k)],[.sl .v .iRow,.clo 100 [.pc [.i .i64] 0],.i .i64,.i .i64],[.ext]⟩
def ak_.e:FE:=let e:FE:=mkE rd7 99 19 1 [.sl .v .iRow,.clo 100 [.pc [.i .i64] 0]] [.tmp 4] [] [(3,od78)] [(0,od9)] fun n (a0,((a1,_),_),_)=>ak_ n a0 a1;⟨e.R,e.d,fun avs=>Nat.beq (selClo 1 avs) 100,e.F⟩
def c4_.e:FE:=mkE rd7 50 8 1 [.sl .v .iRow,.i .i64] [.tmp 4] [] [] [] (un2 c4_)
def cf_.e:FE:=mkE rd9 128 33 1 [.sl .d .iRow,.i .i64,.i .i64] [.tmp 6] [] [] [] (un3 cf_)
def cq_.e:FE:=mkE rd9 90 20 1 [.sl .v .iRow,.i .i64] [.tmp 4] [] [] [] (un2 cq_)
def cL_.e:FE:=mkE rd0 129 9 1 [.ag (TRow.p .v),.pc (TRow.p .v) 0] [.tmp 3] [] [] [] fun n (a0,(a1,a2,_),_)=>cL_ n (TRow.of a0) a1 a2
def od79:OD:=⟨[(0,.view .iRow),(1,.k),(7,.k),(8,.k)],[.sl .v .iRow,.clo 129 [.pc (TRow.p .v) 0],.i .i64,.i .i64],[.ext]⟩
def ai_.e:FE:=let e:FE:=mkE rd7 99 19 1 [.sl .v .iRow,.clo 129 [.pc (TRow.p .v) 0]] [.tmp 4] [] [(3,od79)] [(0,od9)] fun n (a0,((a1,a2,_),_),_)=>ai_ n a0 a1 a2;⟨e.R,e.d,fun avs=>Nat.beq (selClo 1 avs) 129,e.F⟩
def bK_.e:FE:=mkE rd9 130 95 1 [.sl .d .iRow,.i .i64,.sl .d .iRow] [.tmp 6] [] [] [] (un3 bK_)
def cP_.e:FE:=mkE rd9 91 34 1 [.sl .v .iRow,.ag (TRow.p .v)] [.tmp 4] [] [] [] fun n (a0,a1,_)=>cP_ n a0 (TRow.of a1)
def rd23:RD:=⟨an_ × aI_ × Bool,[.ag (an_.p .d),.ag (aI_.p .d),.b],fun (a0,a1,a2,_)=>((an_.of a0),(aI_.of a1),a2),fun (a0,a1,a2)=>(an_.to a0,aI_.to a1,a2,())⟩
def dW_.e:FE:=mkE rd23 38 97 1 [.ag (an_.p .v),.ag (TMut.p .v)] [.cell 4 29,.cell 5 70,.tmp 6] [] [] [] fun n (a0,a1,_)=>dW_ n (an_.of a0) (TMut.of a1)
def od80:OD:=⟨[(2,.box [.view .int,.k,.view .s_iRow]),(4,.box [.k,.k,.k]),(7,.box [.own .d .int,.k,.own .d .s_iRow]),(8,.own .d .iChange),(33,.view .iMut),(34,.k),(35,.k)],[.pb 1 0,.pb 2 0,.pb 3 0,.rt 4,.sl .v .iMut,.i .i64,.i .i64],[.ext,.box (an_.p .v),.box [.nils,.i .i64,.nils],.box [.rt 5,.i .i64,.rt 6],.arr .d .iChange 2,.arr .d .int 2,.arr .d .s_iRow 2]⟩
def od81:OD:=⟨[(4,.box [.k,.k,.k]),(7,.box [.own .d .int,.k,.own .d .s_iRow]),(8,.own .d .iChange)],[.pb 1 0,.pb 2 0,.rt 3],[.ext,.box [.nils,.i .i64,.nils],.box [.rt 4,.i .i64,.rt 5],.arr .d .iChange 2,.arr .d .int 2,.arr .d .s_iRow 2]⟩
def rd24:RD:=⟨an_ × (List aI_) × Bool,[.ag (an_.p .d),.sl .d .iChange,.b],fun (a0,a1,a2,_)=>((an_.of a0),a1,a2),fun (a0,a1,a2)=>(an_.to a0,a1,a2,())⟩
def bl_.e:FE:=mkE rd24 9 62 1 [.ag (an_.p .v),.sl .v .iMut] [.cell 4 29,.tmp 5,.tmp 6] [] [(8,od80)] [(0,od81)] fun n (a0,a1,_)=>bl_ n (an_.of a0) a1
def od82:OD:=⟨[(1,.view .iMut),(2,.box [.view .int,.k,.view .s_iRow]),(4,.box [.k,.k,.k]),(7,.own .d .iChange),(8,.box [.own .d .int,.k,.own .s .s_iRow]),(9,.own .d .iChange),(10,.k)],[.sl .v .iMut,.pb 1 0,.pb 2 0,.rt 3,.pb 4 0,.rt 5,.i .i64],[.ext,.box (an_.p .v),.box [.nils,.i .i64,.nils],.arr .d .iChange 2,.box [.rt 6,.i .i64,.rt 7],.arr .d .iChange 2,.arr .d .int 2,.arr .s .s_iRow 2]⟩
def od83:OD:=⟨[(2,.box [.view .int,.k,.view .s_iRow]),(4,.box [.k,.k,.k]),(8,.box [.own .d .int,.k,.own .s .s_iRow]),(9,.own .d .iChange)],[.pb 1 0,.pb 2 0,.pb 3 0,.rt 4],[.ext,.box (an_.p .v),.box [.nils,.i .i64,.nils],.box [.rt 5,.i .i64,.rt 6],.arr .d .iChange 2,.arr .d .int 2,.arr .s .s_iRow 2]⟩
def rd25:RD:=⟨an_ × (List aI_) × Bool,[.ag [.sl .d .int,.i .i64,.sl .s .s_iRow],.sl .d .iChange,.b],fun (a0,a1,a2,_)=>((an_.of a0),a1,a2),fun (a0,a1,a2)=>(an_.to a0,a1,a2,())⟩
def bi_.e:FE:=mkE rd25 10 67 1 [.ag (an_.p .v),.sl .v .iMut] [.cell 4 29,.tmp 5,.tmp 6] [] [(12,od82)] [(0,od83)] fun n (a0,a1,_)=>bi_ n (an_.of a0) a1
def rd26:RD:=⟨bd_,[.ag (bd_.p .d)],fun (a0,_)=>(bd_.of a0),fun r=>(bd_.to r,())⟩
def cK_.e:FE:=mkE rd26 41 14 1 [.ag (bd_.p .v)] [.cell 2 39] [] [] [] fun n (a0,_)=>cK_ n (bd_.of a0)
def cI_.e:FE:=mkE rd0 131 9 1 [.ag (TRow.p .v),.pc (ae_.p .v) 0,.pc (TRow.p .v) 0] [.tmp 4] [] [] [] fun n (a0,(a1,a2,a3,a4,a5,a6,a7,a8,a9,_),(a10,a11,_),_)=>cI_ n (TRow.of a0) a1 a2 a3 a4 a5 a6 a7 a8 a9 a10 a11
def od84:OD:=⟨[(0,.view .iRow),(1,.k),(7,.k),(8,.k)],[.sl .v .iRow,.clo 131 [.pc (ae_.p .v) 0,.pc (TRow.p .v) 0],.i .i64,.i .i64],[.ext]⟩
def ah_.e:FE:=let e:FE:=mkE rd7 99 19 1 [.sl .v .iRow,.clo 131 [.pc (ae_.p .v) 0,.pc (TRow.p .v) 0]] [.tmp 4] [] [(3,od84)] [(0,od9)] fun n (a0,((a1,a2,a3,a4,a5,a6,a7,a8,a9,_),(a10,a11,_),_),_)=>ah_ n a0 a1 a2 a3 a4 a5 a6 a7 a8 a9 a10 a11;⟨e.R,e.d,fun avs=>Nat.beq (selClo 1 avs) 131,e.F⟩
def dk_.e:FE:=mkE rd9 94 22 1 [.ag (ae_.p .v),.sl .v .iRow,.ag (TRow.p .v)] [.tmp 6] [] [] [] fun n (a0,a1,a2,_)=>dk_ n (ae_.of a0) a1 (TRow.of a2)
def ct_.e:FE:=mkE rd26 42 76 1 [.ag (bd_.p .v),.ag (aI_.p .v)] [.cell 4 39] [] [] [] fun n (a0,a1,_)=>ct_ n (bd_.of a0) (aI_.of a1)
def od85:OD:=⟨[(4,.box [.k,.k,.k,.k,.k,.k,.k,.k,.k,.k,.k]),(5,.box [.k,.own .d .iCond,.k,.k,.k,.own .d .int,.k,.k,.k,.own .d .iRow,.own .d .iKid]),(10,.view .iChange),(11,.k),(12,.k)],[.pb 1 0,.pb 2 0,.sl .v .iChange,.i .i64,.i .i64],[.ext,.box [.i .i64,.nils,.i .i64,.b,.i .i64,.nils,.b,.i .i64,.i .i64,.nils,.nils],.box [.i .i64,.rt 3,.i .i64,.b,.i .i64,.rt 4,.b,.i .i64,.i .i64,.rt 5,.rt 6],.arr .d .iCond 2,.arr .d .int 2,.arr .d .iRow 2,.arr .d .iKid 2]⟩
def od86:OD:=⟨[(4,.box [.k,.k,.k,.k,.k,.k,.k,.k,.k,.k,.k]),(5,.box [.k,.own .d .iCond,.k,.k,.k,.own .d .int,.k,.k,.k,.own .d .iRow,.own .d .iKid])],[.pb 1 0,.pb 2 0],[.ext,.box [.i .i64,.nils,.i .i64,.b,.i .i64,.nils,.b,.i .i64,.i .i64,.nils,.nils],.box [.i .i64,.rt 3,.i .i64,.b,.i .i64,.rt 4,.b,.i .i64,.i .i64,.rt 5,.rt 6],.arr .d .iCond 2,.arr .d .int 2,.arr .d .iRow 2,.arr .d .iKid 2]⟩
def aQ_.e:FE:=mkE rd26 11 21 1 [.ag (bd_.p .v),.sl .v .iChange] [.cell 4 39] [] [(4,od85)] [(0,od86)] fun n (a0,a1,_)=>aQ_ n (bd_.of a0) a1
def od87:OD:=⟨[(0,.view .iCond),(1,.view .iCond),(12,.k),(13,.k)],[.sl .v .iCond,.sl .v .iCond,.i .i64,.i .i64],[.ext]⟩
def aS_.e:FE:=mkE rd0 96 26 1 [.sl .v .iCond,.sl .v .iCond] [.tmp 4] [] [(6,od87)] [(0,od9)] (un2 aS_)
def od88:OD:=⟨[(0,.view .int),(1,.view .int),(12,.k),(13,.k)],[.sl .v .int,.sl .v .int,.i .i64,.i .i64],[.ext]⟩
def aT_.e:FE:=mkE rd0 97 26 1 [.sl .v .int,.sl .v .int] [.tmp 4] [] [(6,od88)] [(0,od9)] (un2 aT_)
def cM_.e:FE:=mkE rd0 43 70 1 [.ag (ae_.p .v),.ag (ae_.p .v)] [.tmp 4] [] [] [] fun n (a0,a1,_)=>cM_ n (ae_.of a0) (ae_.of a1)
def di_.e:FE:=mkE rd0 45 17 1 [.ag (TRow.p .v),.ag (TRow.p .v)] [.tmp 4] [] [] [] fun n (a0,a1,_)=>di_ n (TRow.of a0) (TRow.of a1)
def od89:OD:=⟨[(1,.view .iRow),(2,.k),(15,.view .iRow),(16,.k),(17,.k)],[.sl .v .iRow,.clo 45 [],.sl .v .iRow,.i .i64,.i .i64],[.ext]⟩
def al_.e:FE:=mkE rd0 44 32 1 [.sl .v .iRow,.sl .v .iRow,.clo 45 []] [.tmp 6] [] [(6,od89)] [(0,od9)] fun n (a0,a1,_,_)=>al_ n a0 a1
def od90:OD:=⟨[(0,.view .iKid),(1,.view .iKid),(12,.k),(13,.k)],[.sl .v .iKid,.sl .v .iKid,.i .i64,.i .i64],[.ext]⟩
def a0_.e:FE:=mkE rd0 46 26 1 [.sl .v .iKid,.sl .v .iKid] [.tmp 4] [] [(6,od90)] [(0,od9)] (un2 a0_)
def cT_.e:FE:=mkE rd0 12 24 1 [.ag (bd_.p .v),.ag (bd_.p .v)] [.tmp 4] [] [] [] fun n (a0,a1,_)=>cT_ n (bd_.of a0) (bd_.of a1)
def od91:OD:=⟨[(2,.box [.view .int]),(3,.box [.k,.view .iCond,.k,.k,.k,.view .int,.k,.k,.k,.view .iRow,.view .iKid]),(33,.view .iRow),(34,.k),(35,.k)],[.pb 1 0,.pb 2 0,.sl .v .iRow,.i .i64,.i .i64],[.ext,.box [.sl .v .int],.box (bd_.p .v)]⟩
def od92:OD:=⟨[(3,.box [.k,.view .iCond,.k,.k,.k,.view .int,.k,.k,.k,.view .iRow,.view .iKid]),(82,.view .iKid),(83,.k),(84,.k)],[.pb 1 0,.sl .v .iKid,.i .i64,.i .i64],[.ext,.box (bd_.p .v)]⟩
def od93:OD:=⟨[(3,.box [.k,.view .iCond,.k,.k,.k,.view .int,.k,.k,.k,.view .iRow,.view .iKid])],[.pb 1 0],[.ext,.box (bd_.p .v)]⟩
def aO_.e:FE:=mkE rd0 13 110 1 [.ag [.sl .v .int],.ag (bd_.p .v)] [.tmp 4] [] [(6,od91),(15,od92)] [(0,od93),(2,od9)] fun n (a0,a1,_)=>aO_ n (au_.of a0) (bd_.of a1)
def od94:OD:=⟨[(1,.k),(8,.view .iKid),(9,.k),(10,.k)],[.i .i64,.sl .v .iKid,.i .i64,.i .i64],[.ext]⟩
def bF_.e:FE:=mkE rd7 108 21 1 [.ag (bd_.p .v),.i .i64] [.tmp 4] [] [(3,od94)] [(0,od9)] fun n (a0,a1,_)=>bF_ n (bd_.of a0) a1
def od95:OD:=⟨[(1,.box [.k,.view .iCond,.k,.k,.k,.view .int,.k,.k,.k,.view .iRow,.view .iKid]),(3,.own .d .int),(8,.view .iRow),(9,.k),(10,.k)],[.pb 1 0,.rt 2,.sl .v .iRow,.i .i64,.i .i64],[.ext,.box (bd_.p .v),.arr .d .int 2]⟩
def od96:OD:=⟨[(3,.own .d .int)],[.rt 1],[.ext,.arr .d .int 2]⟩
def aU_.e:FE:=mkE rd19 54 23 1 [.ag (bd_.p .v)] [.tmp 2] [] [(4,od95)] [(0,od96)] fun n (a0,_)=>aU_ n (bd_.of a0)
def dg_.e:FE:=mkE rd7 133 14 1 [.ag (ae_.p .v),.i .i64] [.tmp 4] [] [] [] fun n (a0,a1,_)=>dg_ n (ae_.of a0) a1
def od97:OD:=⟨[(0,.view .int),(1,.k),(7,.k),(8,.k)],[.sl .v .int,.i .i64,.i .i64,.i .i64],[.ext]⟩
def aZ_.e:FE:=mkE rd7 157 19 1 [.sl .v .int,.i .i64] [.tmp 4] [] [(3,od97)] [(0,od9)] (un2 aZ_)
def bU_.e:FE:=mkE rd0 136 9 1 [.sl .v .int,.i .i64] [.tmp 4] [] [] [] (un2 bU_)
def rd27:RD:=⟨Bs,[.s],fun (a0,_)=>a0,fun r=>(r,())⟩
def strconv_Itoa.e:FE:=mkE rd27 139 5 1 [.i .i64] [.tmp 2] [] [] [] (un1 strconv_Itoa)
def dt_.e:FE:=mkE rd27 155 5 1 [.i .i64] [.tmp 2] [] [] [] (un1 dt_)
def b9_.e:FE:=mkE rd0 185 6 1 [.s] [.tmp 2] [] [] [] (un1 b9_)
def co_.e:FE:=mkE rd0 172 17 1 [.s,.s] [.tmp 4] [] [] [] (un2 co_)
def bN_.e:FE:=mkE rd0 173 6 1 [.s] [.tmp 2] [] [] [] (un1 bN_)
def od98:OD:=⟨[(0,.view .str),(1,.k),(6,.k),(7,.k),(8,.k)],[.sl .v .str,.s,.i .i64,.i .i64,.i .i64],[.ext]⟩
def od99:OD:=⟨[(0,.view .str),(1,.k),(6,.k),(7,.k)],[.sl .v .str,.s,.i .i64,.i .i64],[.ext]⟩
def rd28:RD:=⟨Int × Bool,[.i .i64,.b],fun (a0,a1,_)=>(a0,a1),fun (a0,a1)=>(a0,a1,())⟩
def ar_.e:FE:=mkE rd28 160 54 1 [.sl .v .str,.s] [.tmp 4,.tmp 5] [] [(4,od98)] [(0,od99)] (un2 ar_)
def rd29:RD:=⟨(List Bs),[.sl .d .str],fun (a0,_)=>a0,fun r=>(r,())⟩
def b0_.e:FE:=mkE rd29 161 95 1 [.sl .d .str,.i .i64,.sl .d .str] [.tmp 6] [] [] [] (un3 b0_)
def rd30:RD:=⟨(List ax_),[.sl .d .iJson],fun (a0,_)=>a0,fun r=>(r,())⟩
def cb_.e:FE:=mkE rd30 162 95 1 [.sl .d .iJson,.i .i64,.sl .d .iJson] [.tmp 6] [] [] [] (un3 cb_)
def od100:OD:=⟨[(1,.view .int),(4,.box [.k,.k,.k,.k,.k]),(5,.box [.k,.k,.k,.own .d .iJson,.own .d .str]),(11,.view .str),(12,.k),(13,.k)],[.sl .v .int,.pb 1 0,.pb 2 0,.sl .v .str,.i .i64,.i .i64],[.ext,.box [.i .i64,.i .i64,.s,.nils,.nils],.box [.i .i64,.i .i64,.s,.rt 3,.rt 4],.arr .d .iJson 2,.arr .d .str 2]⟩
def od101:OD:=⟨[(4,.box [.k,.k,.k,.k,.k]),(5,.box [.k,.k,.k,.own .d .iJson,.own .d .str])],[.pb 1 0,.pb 2 0],[.ext,.box [.i .i64,.i .i64,.s,.nils,.nils],.box [.i .i64,.i .i64,.s,.rt 3,.rt 4],.arr .d .iJson 2,.arr .d .str 2]⟩
def rd31:RD:=⟨ax_,[.ag (ax_.p .d)],fun (a0,_)=>(ax_.of a0),fun r=>(ax_.to r,())⟩
def bx_.e:FE:=mkE rd31 156 45 1 [.sl .v .str,.sl .v .int] [.cell 4 52] [] [(4,od100)] [(0,od101)] (un2 bx_)
def od102:OD:=⟨[(0,.k),(5,.k),(6,.k)],[.s,.i .i64,.i .i64],[.ext]⟩
def od103:OD:=⟨[(0,.k)],[.s],[.ext]⟩
def aG_.e:FE:=mkE rd0 142 19 1 [.s] [.tmp 2] [] [(3,od102)] [(0,od103)] (un1 aG_)
def od104:OD:=⟨[(0,.view .str),(5,.view .str),(6,.k),(7,.k)],[.sl .v .str,.sl .v .str,.i .i64,.i .i64],[.ext]⟩
def az_.e:FE:=mkE rd0 154 29 1 [.sl .v .str] [.tmp 2] [] [(3,od104)] [(0,od9)] (un1 az_)
def dU_.e:FE:=mkE rd0 132 90 1 [.ag (ax_.p .v)] [.tmp 2] [] [] [] fun n (a0,_)=>dU_ n (ax_.of a0)
def od105:OD:=⟨[(1,.k),(5,.k),(16,.view .iJson),(17,.k),(18,.k)],[.i .i64,.i .i64,.sl .v .iJson,.i .i64,.i .i64],[.ext]⟩
def od106:OD:=⟨[(5,.k)],[.i .i64],[.ext]⟩
def bg_.e:FE:=mkE rd7 101 32 1 [.ag (ax_.p .v),.i .i64] [.tmp 4] [] [(7,od105)] [(0,od106)] fun n (a0,a1,_)=>bg_ n (ax_.of a0) a1
def c9_.e:FE:=mkE rd0 51 6 1 [.ag (ax_.p .v)] [.tmp 2] [] [] [] fun n (a0,_)=>c9_ n (ax_.of a0)
def cE_.e:FE:=mkE rd31 107 8 3 [.ag (ax_.p .d)] [.cell 2 52] [] [] [] fun n (a0,_)=>cE_ n (ax_.of a0)
def od107:OD:=⟨[(2,.k),(3,.box [.k,.view .iCond,.k,.k,.k,.view .int,.k,.k,.k]),(4,.box [.k,.view .int]),(6,.box [.k,.k,.k,.k,.k]),(7,.own .d .str),(8,.own .d .int),(16,.view .int),(17,.k),(18,.k)],[.i .i64,.pb 1 0,.pb 2 0,.pb 3 0,.rt 4,.rt 5,.sl .v .int,.i .i64,.i .i64],[.ext,.box (ae_.p .v),.box (TRow.p .v),.box [.i .i64,.i .i64,.s,.nils,.nils],.arr .d .str 2,.arr .d .int 2]⟩
def od108:OD:=⟨[(2,.k),(3,.box [.k,.view .iCond,.k,.k,.k,.view .int,.k,.k,.k]),(6,.box [.k,.k,.k,.k,.k]),(7,.own .d .str),(8,.own .d .int)],[.i .i64,.pb 1 0,.pb 2 0,.rt 3,.rt 4],[.ext,.box (ae_.p .v),.box [.i .i64,.i .i64,.s,.nils,.nils],.arr .d .str 2,.arr .d .int 2]⟩
def bp_.e:FE:=mkE rd31 134 55 1 [.ag (ae_.p .v),.ag (TRow.p .v),.i .i64] [.cell 6 52] [] [(4,od107)] [(0,od108)] fun n (a0,a1,a2,_)=>bp_ n (ae_.of a0) (TRow.of a1) a2
def od109:OD:=⟨[(2,.view .int),(3,.box [.k,.view .iCond,.k,.k,.k,.view .int,.k,.k,.k]),(7,.own .d .iJson),(17,.view .iRow),(18,.k),(19,.k)],[.sl .v .int,.pb 1 0,.rt 2,.sl .v .iRow,.i .i64,.i .i64],[.ext,.box (ae_.p .v),.arr .d .iJson 2]⟩
def od110:OD:=⟨[(7,.own .d .iJson)],[.rt 1],[.ext,.arr .d .iJson 2]⟩
def bj_.e:FE:=mkE rd30 104 41 1 [.ag (ae_.p .v),.sl .v .iRow,.sl .v .int] [.tmp 6] [] [(4,od109)] [(0,od110)] fun n (a0,a1,a2,_)=>bj_ n (ae_.of a0) a1 a2
def cW_.e:FE:=mkE rd0 106 6 1 [.ag (ax_.p .v)] [.tmp 2] [] [] [] fun n (a0,_)=>cW_ n (ax_.of a0)
def od111:OD:=⟨[(0,.view .iJson),(1,.k),(7,.k),(8,.k)],[.sl .v .iJson,.clo 106 [],.i .i64,.i .i64],[.ext]⟩
def aj_.e:FE:=mkE rd7 135 19 1 [.sl .v .iJson,.clo 106 []] [.tmp 4] [] [(3,od111)] [(0,od9)] fun n (a0,_,_)=>aj_ n a0
def a2_.e:FE:=mkE rd0 105 9 1 [.sl .v .iJson,.clo 106 []] [.tmp 4] [] [] [] fun n (a0,_,_)=>a2_ n a0
def do_.e:FE:=mkE rd31 53 26 1 [.ag (ae_.p .v),.sl .v .iRow,.sl .v .int] [.cell 6 52] [] [] [] fun n (a0,a1,a2,_)=>do_ n (ae_.of a0) a1 a2
def dh_.e:FE:=mkE rd31 15 10 1 [.ag (bd_.p .v)] [.cell 2 52] [] [] [] fun n (a0,_)=>dh_ n (bd_.of a0)
def od112:OD:=⟨[(2,.k),(4,.box [.k,.view .iCond,.k,.k,.k,.view .int,.k,.k,.k]),(7,.k),(30,.view .iRow),(31,.k),(32,.k)],[.i .i64,.pb 1 0,.i .i64,.sl .v .iRow,.i .i64,.i .i64],[.ext,.box (ae_.p .v)]⟩
def od113:OD:=⟨[(7,.k)],[.i .i64],[.ext]⟩
def bE_.e:FE:=mkE rd7 55 48 1 [.ag (an_.p .v),.ag (ae_.p .v),.i .i64] [.tmp 6] [] [(7,od112)] [(0,od113)] fun n (a0,a1,a2,_)=>bE_ n (an_.of a0) (ae_.of a1) a2
def od114:OD:=⟨[(2,.box [.view .int,.k,.view .s_iRow]),(3,.box [.k,.view .iCond,.k,.k,.k,.view .int,.k,.k,.k]),(4,.box [.k,.k,.k,.k,.k]),(5,.own .s .iRow),(6,.own .d .int),(24,.own .s .iRow),(25,.k),(26,.k)],[.pb 1 0,.pb 2 0,.pb 3 0,.rt 4,.rt 5,.rt 4,.i .i64,.i .i64],[.ext,.box (an_.p .v),.box (ae_.p .v),.box [.i .i64,.i .i64,.s,.nils,.nils],.arr .s .iRow 2,.arr .d .int 2]⟩
def od115:OD:=⟨[(3,.box [.k,.view .iCond,.k,.k,.k,.view .int,.k,.k,.k]),(4,.box [.k,.k,.k,.k,.k]),(5,.own .s .iRow),(6,.own .d .int)],[.pb 1 0,.pb 2 0,.rt 3,.rt 4],[.ext,.box (ae_.p .v),.box [.i .i64,.i .i64,.s,.nils,.nils],.arr .s .iRow 2,.arr .d .int 2]⟩
def bS_.e:FE:=mkE rd31 16 43 1 [.ag (an_.p .v),.ag (ae_.p .v)] [.cell 4 52] [] [(8,od114)] [(0,od115)] fun n (a0,a1,_)=>bS_ n (an_.of a0) (ae_.of a1)
def od116:OD:=⟨[(0,.view .str),(1,.view .str),(12,.k),(13,.k)],[.sl .v .str,.sl .v .str,.i .i64,.i .i64],[.ext]⟩
def aM_.e:FE:=mkE rd0 102 26 1 [.sl .v .str,.sl .v .str] [.tmp 4] [] [(6,od116)] [(0,od9)] (un2 aM_)
def od117:OD:=⟨[(1,.view .iJson),(2,.k),(15,.view .iJson),(16,.k),(17,.k)],[.sl .v .iJson,.clo 52 [],.sl .v .iJson,.i .i64,.i .i64],[.ext]⟩
def am_.e:FE:=mkE rd0 103 32 1 [.sl .v .iJson,.sl .v .iJson,.clo 52 []] [.tmp 6] [] [(6,od117)] [(0,od9)] fun n (a0,a1,_,_)=>am_ n a0 a1
def dd_.e:FE:=mkE rd0 52 38 1 [.ag (ax_.p .v),.ag (ax_.p .v)] [.tmp 4] [] [] [] fun n (a0,a1,_)=>dd_ n (ax_.of a0) (ax_.of a1)
def cV_.e:FE:=mkE rd0 14 16 1 [.ag (ax_.p .v),.ag (ax_.p .v)] [.tmp 4] [] [] [] fun n (a0,a1,_)=>cV_ n (ax_.of a0) (ax_.of a1)
def od118:OD:=⟨[(3,.box [.view .int,.k,.view .s_iRow]),(4,.box [.k,.view .iCond,.k,.k,.k,.view .int,.k,.k,.k]),(5,.own .s .iMut)],[.pb 1 0,.pb 2 0,.rt 3],[.ext,.box (an_.p .v),.box (ae_.p .v),.arr .s .iMut 2]⟩
def od119:OD:=⟨[(3,.box [.view .int,.k,.view .s_iRow]),(4,.box [.k,.view .iCond,.k,.k,.k,.view .int,.k,.k,.k]),(5,.view .iMut),(6,.box [.k,.own .d .iCond,.k,.k,.k,.own .d .int,.k,.k,.k,.own .s .iRow,.own .d .iKid]),(7,.k),(10,.box [.own .d .int,.k,.own .d .s_iRow]),(11,.own .d .iChange),(12,.k)],[.pb 1 0,.pb 2 0,.sl .v .iMut,.pb 3 0,.b,.pb 4 0,.rt 5,.b],[.ext,.box (an_.p .v),.box (ae_.p .v),.box [.i .i64,.rt 6,.i .i64,.b,.i .i64,.rt 7,.b,.i .i64,.i .i64,.rt 8,.rt 9],.box [.rt 10,.i .i64,.rt 11],.arr .d .iChange 2,.arr .d .iCond 2,.arr .d .int 2,.arr .s .iRow 2,.arr .d .iKid 2,.arr .d .int 2,.arr .d .s_iRow 2]⟩
def od120:OD:=⟨[(4,.box [.k,.view .iCond,.k,.k,.k,.view .int,.k,.k,.k]),(10,.box [.view .int,.k,.view .s_iRow]),(16,.box [.k,.own .d .iCond,.k,.k,.k,.own .d .int,.k,.k,.k,.own .d .iRow,.own .d .iKid])],[.pb 1 0,.pb 2 0,.pb 3 0],[.ext,.box (ae_.p .v),.box (an_.p .v),.box [.i .i64,.rt 4,.i .i64,.b,.i .i64,.rt 5,.b,.i .i64,.i .i64,.rt 6,.rt 7],.arr .d .iCond 2,.arr .d .int 2,.arr .d .iRow 2,.arr .d .iKid 2]⟩
def laws_FnGoesAlong.e:FE:=mkE rd0 3 94 1 [.sl .v .u8] [.tmp 2] [] [(18,od120),(10,od119),(4,od118)] [] (un1 laws_FnGoesAlong)
def ents:List FE:=[laws_FnGoesAlong.e,eL_.e,aA_.e,bo_.e,bq_.e,bl_.e,bi_.e,aQ_.e,cT_.e,aO_.e,cV_.e,dh_.e,bS_.e,bH_.e,aH_.e,af_.e,ay_.e,cH_.e,dA_.e,a8_.e,aB_.e,cr_.e,ba_.e,aN_.e,be_.e,aF_.e,ds_.e,bh_.e,bv_.e,aE_.e,c3_.e,aR_.e,dW_.e,bO_.e,bb_.e,cK_.e,ct_.e,cM_.e,al_.e,di_.e,a0_.e,bz_.e,bk_.e,dp_.e,c4_.e,c9_.e,dd_.e,do_.e,aU_.e,bE_.e,cR_.e,aC_.e,aK_.e,ce_.e,ck_.e,bC_.e,cD_.e,aP_.e,dR_.e,ed_.e,aX_.e,cJ_.e,bw_.e,cg_.e,a5_.e,c2_.e,cs_.e,bQ_.e,aL_.e,b2_.e,b7_.e,b8_.e,aW_.e,bu_.e,br_.e,bt_.e,a1_.e,dV_.e,cq_.e,cP_.e,cG_.e,bs_.e,dk_.e,bn_.e,aS_.e,aT_.e,impl_holds.e,ak_.e,ai_.e,ah_.e,cU_.e,bg_.e,aM_.e,am_.e,bj_.e,a2_.e,cW_.e,cE_.e,bF_.e,bf_.e,bJ_.e,bI_.e,bT_.e,a7_.e,ac_.e,c0_.e,dB_.e,cf_.e,cL_.e,bK_.e,cI_.e,dU_.e,dg_.e,bp_.e,aj_.e,bU_.e,strconv_Itoa.e,aG_.e,ab_.e,aa_.e,dj_.e,az_.e,dt_.e,bx_.e,aZ_.e,ar_.e,b0_.e,cb_.e,ag_.e,co_.e,bN_.e,ad_.e,b9_.e]
def fzL:List Nat:=[6,7,8,10,19,20,21,22,23,24,28,33,63,64,66,67,68,69,71,80,87,118,123,148,149,167,179]
def cx (n nt:Nat):Cx:=⟨nt,tt,sigE ents,KE n ents,fun f=>fzL.any (Nat.beq f)⟩
theorem okk {n:Nat} {e:FE} {fn:Func} (s:Stps e.R e.d.cut) (hfn:E.P.funcs[e.d.fid]?=some fn) (h:e.L (cx n e.d.nt) fn n s=e.Q (cx n e.d.nt) fn (e.F (n+1)) s):e.Oks E (cx n) n:=FE.ok s mixedOk hfn h
end Go.Pi
end
section
namespace Go.Pi
open Go.Proofs
theorem eL_.ok (n:Nat):eL_.e.Oks E (cx n) n:=okk () Tryz.func5 (by kernel_rfl)
theorem bH_.ok (n:Nat):bH_.e.Oks E (cx n) n:=okk (.lp fun κe=>bH_.step4 n (od1.k (κe 0)),()) Tryz.func19 (by kernel_rfl)
theorem cD_.ok (n:Nat):cD_.e.Oks E (cx n) n:=okk () Tryz.func68 (by kernel_rfl)
theorem ay_.ok (n:Nat):ay_.e.Oks E (cx n) n:=okk () Tryz.func22 (by kernel_rfl)
theorem aC_.ok (n:Nat):aC_.e.Oks E (cx n) n:=okk (.lp fun κe=>aC_.step4 n (od3.k (κe 0)),()) Tryz.func63 (by kernel_rfl)
theorem bO_.ok (n:Nat):bO_.e.Oks E (cx n) n:=okk () Tryz.func39 (by kernel_rfl)
theorem aW_.ok (n:Nat):aW_.e.Oks E (cx n) n:=okk (.lp fun κe=>aW_.step3 n (od5.k (κe 0)),()) Tryz.func84 (by kernel_rfl)
theorem cG_.ok (n:Nat):cG_.e.Oks E (cx n) n:=okk () Tryz.func92 (by kernel_rfl)
theorem cR_.ok (n:Nat):cR_.e.Oks E (cx n) n:=okk () Tryz.func62 (by kernel_rfl)
theorem aP_.ok (n:Nat):aP_.e.Oks E (cx n) n:=okk (.lp fun κe=>aP_.step4 n (od7.k (κe 0)),()) Tryz.func69 (by kernel_rfl)
theorem bI_.ok (n:Nat):bI_.e.Oks E (cx n) n:=okk (.lp fun κe=>bI_.step3 n (od9.k (κe 0)),()) Tryz.func120 (by kernel_rfl)
theorem bT_.ok (n:Nat):bT_.e.Oks E (cx n) n:=okk () Tryz.func121 (by kernel_rfl)
theorem a7_.ok (n:Nat):a7_.e.Oks E (cx n) n:=okk (.lp fun κe=>a7_.step5 n (od11.k (κe 0)),()) Tryz.func122 (by kernel_rfl)
theorem bf_.ok (n:Nat):bf_.e.Oks E (cx n) n:=okk (.lp fun κe=>bf_.step6 n (od13.k (κe 0)),()) Tryz.func118 (by kernel_rfl)
theorem aK_.ok (n:Nat):aK_.e.Oks E (cx n) n:=okk (.lp fun κe=>aK_.step4 n (od15.k (κe 0)),()) Tryz.func64 (by kernel_rfl)
theorem aH_.ok (n:Nat):aH_.e.Oks E (cx n) n:=okk (.lp fun κe=>aH_.step4 n (od17.k (κe 0)),()) Tryz.func20 (by kernel_rfl)
theorem ce_.ok (n:Nat):ce_.e.Oks E (cx n) n:=okk () Tryz.func65 (by kernel_rfl)
theorem ck_.ok (n:Nat):ck_.e.Oks E (cx n) n:=okk () Tryz.func66 (by kernel_rfl)
theorem bC_.ok (n:Nat):bC_.e.Oks E (cx n) n:=okk () Tryz.func67 (by kernel_rfl)
theorem af_.ok (n:Nat):af_.e.Oks E (cx n) n:=okk (.lp fun κe=>af_.step7 n (od20.k (κe 0)),.lp fun κe=>af_.step16 n (od21.k (κe 2)),()) Tryz.func21 (by kernel_rfl)
theorem cH_.ok (n:Nat):cH_.e.Oks E (cx n) n:=okk () Tryz.func23 (by kernel_rfl)
theorem bJ_.ok (n:Nat):bJ_.e.Oks E (cx n) n:=okk (.lp fun κe=>bJ_.step6 n (od9.k (κe 0)),()) Tryz.func119 (by kernel_rfl)
theorem bu_.ok (n:Nat):bu_.e.Oks E (cx n) n:=okk (.lp fun κe=>bu_.step3 n (od24.k (κe 0)),()) Tryz.func85 (by kernel_rfl)
theorem be_.ok (n:Nat):be_.e.Oks E (cx n) n:=okk (.lp fun κe=>be_.step6 n (od9.k (κe 0)),()) Tryz.func30 (by kernel_rfl)
theorem dR_.ok (n:Nat):dR_.e.Oks E (cx n) n:=okk () Tryz.func70 (by kernel_rfl)
theorem bs_.ok (n:Nat):bs_.e.Oks E (cx n) n:=okk (.lp fun κe=>bs_.step4 n (od27.k (κe 0)),()) Tryz.func93 (by kernel_rfl)
theorem bb_.ok (n:Nat):bb_.e.Oks E (cx n) n:=okk (.lp fun κe=>bb_.step4 n (od29.k (κe 0)),()) Tryz.func40 (by kernel_rfl)
theorem ed_.ok (n:Nat):ed_.e.Oks E (cx n) n:=okk () Tryz.func71 (by kernel_rfl)
theorem dA_.ok (n:Nat):dA_.e.Oks E (cx n) n:=okk () Tryz.func24 (by kernel_rfl)
theorem aA_.ok (n:Nat):aA_.e.Oks E (cx n) n:=okk (.tl fun κd _=>aA_.tail12 n (od32.k κd),.tl fun κd _=>aA_.tail9 n (od32.k κd),.lp fun κe=>aA_.step8 n (od34.k (κe 0)),.tl fun _ _=>aA_.tail3 n,.tl fun _ _=>aA_.tail2 n,()) Tryz.func6 (by kernel_rfl)
theorem aE_.ok (n:Nat):aE_.e.Oks E (cx n) n:=okk () Tryz.func35 (by kernel_rfl)
theorem aX_.ok (n:Nat):aX_.e.Oks E (cx n) n:=okk (.lp fun κe=>aX_.step3 n (od5.k (κe 0)),()) Tryz.func72 (by kernel_rfl)
theorem cJ_.ok (n:Nat):cJ_.e.Oks E (cx n) n:=okk () Tryz.func73 (by kernel_rfl)
theorem a5_.ok (n:Nat):a5_.e.Oks E (cx n) n:=okk () Tryz.func76 (by kernel_rfl)
theorem cg_.ok (n:Nat):cg_.e.Oks E (cx n) n:=okk () Tryz.func75 (by kernel_rfl)
theorem bz_.ok (n:Nat):bz_.e.Oks E (cx n) n:=okk (.lp fun κe=>bz_.step3 n (od37.k (κe 0)),()) Tryz.func47 (by kernel_rfl)
theorem bw_.ok (n:Nat):bw_.e.Oks E (cx n) n:=okk (.lp fun κe=>bw_.step3 n (od24.k (κe 0)),()) Tryz.func74 (by kernel_rfl)
theorem a8_.ok (n:Nat):a8_.e.Oks E (cx n) n:=okk (.lp fun κe=>a8_.step6 n (od9.k (κe 0)),()) Tryz.func25 (by kernel_rfl)
theorem c2_.ok (n:Nat):c2_.e.Oks E (cx n) n:=okk () Tryz.func77 (by kernel_rfl)
theorem aB_.ok (n:Nat):aB_.e.Oks E (cx n) n:=okk (.lp fun κe=>aB_.step7 n (od42.k (κe 0)),.lp fun κe=>aB_.step16 n (od42.k (κe 2)),()) Tryz.func26 (by kernel_rfl)
theorem cs_.ok (n:Nat):cs_.e.Oks E (cx n) n:=okk () Tryz.func78 (by kernel_rfl)
theorem cr_.ok (n:Nat):cr_.e.Oks E (cx n) n:=okk () Tryz.func27 (by kernel_rfl)
theorem impl_holds.ok (n:Nat):impl_holds.e.Oks E (cx n) n:=okk () Tryz.func98 (by kernel_rfl)
theorem bk_.ok (n:Nat):bk_.e.Oks E (cx n) n:=okk (.lp fun κe=>bk_.step3 n (od9.k (κe 0)),()) Tryz.func48 (by kernel_rfl)
theorem bQ_.ok (n:Nat):bQ_.e.Oks E (cx n) n:=okk () Tryz.func79 (by kernel_rfl)
theorem bn_.ok (n:Nat):bn_.e.Oks E (cx n) n:=okk () Tryz.func95 (by kernel_rfl)
theorem dp_.ok (n:Nat):dp_.e.Oks E (cx n) n:=okk () Tryz.func49 (by kernel_rfl)
theorem b2_.ok (n:Nat):b2_.e.Oks E (cx n) n:=okk () Tryz.func81 (by kernel_rfl)
theorem ab_.ok (n:Nat):ab_.e.Oks E (cx n) n:=okk (.lp fun κe=>ab_.step6 n (od44.k (κe 2)),.lp fun κe=>ab_.step1 n (od46.k (κe 0)),()) Tryz.func148 (by kernel_rfl)
theorem ad_.ok (n:Nat):ad_.e.Oks E (cx n) n:=okk (.lp fun κe=>ad_.step1 n (od46.k (κe 0)),()) Tryz.func179 (by kernel_rfl)
theorem ag_.ok (n:Nat):ag_.e.Oks E (cx n) n:=okk (.lp fun κe=>ag_.step3 n (od49.k (κe 0)),()) Tryz.func167 (by kernel_rfl)
theorem aa_.ok (n:Nat):aa_.e.Oks E (cx n) n:=okk (.lp fun κe=>aa_.step5 n (aa_ n) (od55.k (κe 0)),.lp fun κe=>aa_.step12 n (aa_ n) (od46.k (κe 2)),.lp fun κe=>aa_.step21 n (aa_ n) (od56.k (κe 4)),.lp fun κe=>aa_.step28 n (aa_ n) (od46.k (κe 6)),.lp fun κe=>aa_.step41 n (aa_ n) (od57.k (κe 8)),()) Tryz.func149 (by kernel_rfl)
theorem ac_.ok (n:Nat):ac_.e.Oks E (cx n) n:=okk (.lp fun κe=>ac_.step3 n (od60.k (κe 0)),.lp fun κe=>ac_.step14 n (od60.k (κe 4)),.lp fun κe=>ac_.step9 n (od46.k (κe 2)),()) Tryz.func123 (by kernel_rfl)
theorem aL_.ok (n:Nat):aL_.e.Oks E (cx n) n:=okk () Tryz.func80 (by kernel_rfl)
theorem ba_.ok (n:Nat):ba_.e.Oks E (cx n) n:=okk (.lp fun κe=>ba_.step7 n (od62.k (κe 0)),()) Tryz.func28 (by kernel_rfl)
theorem aN_.ok (n:Nat):aN_.e.Oks E (cx n) n:=okk (.lp fun κe=>aN_.step4 n (od63.k (κe 0)),()) Tryz.func29 (by kernel_rfl)
theorem bo_.ok (n:Nat):bo_.e.Oks E (cx n) n:=okk (.lp fun κe=>bo_.step8 n (od65.k (κe 0)),()) Tryz.func7 (by kernel_rfl)
theorem aF_.ok (n:Nat):aF_.e.Oks E (cx n) n:=okk (.lp fun κe=>aF_.step7 n (od42.k (κe 0)),.lp fun κe=>aF_.step16 n (od42.k (κe 2)),()) Tryz.func31 (by kernel_rfl)
theorem ds_.ok (n:Nat):ds_.e.Oks E (cx n) n:=okk () Tryz.func32 (by kernel_rfl)
theorem c0_.ok (n:Nat):c0_.e.Oks E (cx n) n:=okk () Tryz.func126 (by kernel_rfl)
theorem br_.ok (n:Nat):br_.e.Oks E (cx n) n:=okk (.lp fun κe=>br_.step3 n (od9.k (κe 0)),()) Tryz.func86 (by kernel_rfl)
theorem dj_.ok (n:Nat):dj_.e.Oks E (cx n) n:=okk () Tryz.func151 (by kernel_rfl)
theorem dB_.ok (n:Nat):dB_.e.Oks E (cx n) n:=okk () Tryz.func127 (by kernel_rfl)
theorem bt_.ok (n:Nat):bt_.e.Oks E (cx n) n:=okk (.lp fun κe=>bt_.step5 n (od70.k (κe 0)),()) Tryz.func87 (by kernel_rfl)
theorem bh_.ok (n:Nat):bh_.e.Oks E (cx n) n:=okk (.lp fun κe=>bh_.step8 n (od72.k (κe 0)),()) Tryz.func33 (by kernel_rfl)
theorem bv_.ok (n:Nat):bv_.e.Oks E (cx n) n:=okk (.lp fun κe=>bv_.step5 n (od74.k (κe 0)),()) Tryz.func34 (by kernel_rfl)
theorem bq_.ok (n:Nat):bq_.e.Oks E (cx n) n:=okk (.lp fun κe=>bq_.step8 n (od65.k (κe 0)),()) Tryz.func8 (by kernel_rfl)
theorem a1_.ok (n:Nat):a1_.e.Oks E (cx n) n:=okk (.lp fun κe=>a1_.step4 n (od27.k (κe 0)),()) Tryz.func88 (by kernel_rfl)
theorem aR_.ok (n:Nat):aR_.e.Oks E (cx n) n:=okk (.lp fun κe=>aR_.step4 n (od29.k (κe 0)),()) Tryz.func37 (by kernel_rfl)
theorem c3_.ok (n:Nat):c3_.e.Oks E (cx n) n:=okk () Tryz.func36 (by kernel_rfl)
theorem dV_.ok (n:Nat):dV_.e.Oks E (cx n) n:=okk () Tryz.func89 (by kernel_rfl)
theorem cU_.ok (n:Nat):cU_.e.Oks E (cx n) n:=okk () Tryz.func100 (by kernel_rfl)
theorem ak_.ok (n:Nat):ak_.e.Oks E (cx n) n:=okk (.lp fun κe=>ak_.step3 n (od9.k (κe 0)),()) Tryz.func99 (by kernel_rfl)
theorem c4_.ok (n:Nat):c4_.e.Oks E (cx n) n:=okk () Tryz.func50 (by kernel_rfl)
theorem cq_.ok (n:Nat):cq_.e.Oks E (cx n) n:=okk () Tryz.func90 (by kernel_rfl)
theorem cL_.ok (n:Nat):cL_.e.Oks E (cx n) n:=okk () Tryz.func129 (by kernel_rfl)
theorem ai_.ok (n:Nat):ai_.e.Oks E (cx n) n:=okk (.lp fun κe=>ai_.step3 n (od9.k (κe 0)),()) Tryz.func99 (by kernel_rfl)
theorem cP_.ok (n:Nat):cP_.e.Oks E (cx n) n:=okk () Tryz.func91 (by kernel_rfl)
theorem dW_.ok (n:Nat):dW_.e.Oks E (cx n) n:=okk () Tryz.func38 (by kernel_rfl)
theorem bl_.ok (n:Nat):bl_.e.Oks E (cx n) n:=okk (.lp fun κe=>bl_.step8 n (od81.k (κe 0)),()) Tryz.func9 (by kernel_rfl)
theorem bi_.ok (n:Nat):bi_.e.Oks E (cx n) n:=okk (.lp fun κe=>bi_.step12 n (od83.k (κe 0)),()) Tryz.func10 (by kernel_rfl)
theorem cK_.ok (n:Nat):cK_.e.Oks E (cx n) n:=okk () Tryz.func41 (by kernel_rfl)
theorem cI_.ok (n:Nat):cI_.e.Oks E (cx n) n:=okk () Tryz.func131 (by kernel_rfl)
theorem ah_.ok (n:Nat):ah_.e.Oks E (cx n) n:=okk (.lp fun κe=>ah_.step3 n (od9.k (κe 0)),()) Tryz.func99 (by kernel_rfl)
theorem dk_.ok (n:Nat):dk_.e.Oks E (cx n) n:=okk () Tryz.func94 (by kernel_rfl)
theorem ct_.ok (n:Nat):ct_.e.Oks E (cx n) n:=okk () Tryz.func42 (by kernel_rfl)
theorem aQ_.ok (n:Nat):aQ_.e.Oks E (cx n) n:=okk (.lp fun κe=>aQ_.step4 n (od86.k (κe 0)),()) Tryz.func11 (by kernel_rfl)
theorem aS_.ok (n:Nat):aS_.e.Oks E (cx n) n:=okk (.lp fun κe=>aS_.step6 n (od9.k (κe 0)),()) Tryz.func96 (by kernel_rfl)
theorem aT_.ok (n:Nat):aT_.e.Oks E (cx n) n:=okk (.lp fun κe=>aT_.step6 n (od9.k (κe 0)),()) Tryz.func97 (by kernel_rfl)
theorem cM_.ok (n:Nat):cM_.e.Oks E (cx n) n:=okk () Tryz.func43 (by kernel_rfl)
theorem di_.ok (n:Nat):di_.e.Oks E (cx n) n:=okk () Tryz.func45 (by kernel_rfl)
theorem al_.ok (n:Nat):al_.e.Oks E (cx n) n:=okk (.lp fun κe=>al_.step6 n (od9.k (κe 0)),()) Tryz.func44 (by kernel_rfl)
theorem a0_.ok (n:Nat):a0_.e.Oks E (cx n) n:=okk (.lp fun κe=>a0_.step6 n (od9.k (κe 0)),()) Tryz.func46 (by kernel_rfl)
theorem cT_.ok (n:Nat):cT_.e.Oks E (cx n) n:=okk () Tryz.func12 (by kernel_rfl)
theorem aO_.ok (n:Nat):aO_.e.Oks E (cx n) n:=okk (.lp fun κe=>aO_.step6 n (od93.k (κe 0)),.lp fun κe=>aO_.step15 n (od9.k (κe 2)),()) Tryz.func13 (by kernel_rfl)
theorem bF_.ok (n:Nat):bF_.e.Oks E (cx n) n:=okk (.lp fun κe=>bF_.step3 n (od9.k (κe 0)),()) Tryz.func108 (by kernel_rfl)
theorem aU_.ok (n:Nat):aU_.e.Oks E (cx n) n:=okk (.lp fun κe=>aU_.step4 n (od96.k (κe 0)),()) Tryz.func54 (by kernel_rfl)
theorem dg_.ok (n:Nat):dg_.e.Oks E (cx n) n:=okk () Tryz.func133 (by kernel_rfl)
theorem aZ_.ok (n:Nat):aZ_.e.Oks E (cx n) n:=okk (.lp fun κe=>aZ_.step3 n (od9.k (κe 0)),()) Tryz.func157 (by kernel_rfl)
theorem bU_.ok (n:Nat):bU_.e.Oks E (cx n) n:=okk () Tryz.func136 (by kernel_rfl)
theorem dt_.ok (n:Nat):dt_.e.Oks E (cx n) n:=okk () Tryz.func155 (by kernel_rfl)
theorem b9_.ok (n:Nat):b9_.e.Oks E (cx n) n:=okk () Tryz.func185 (by kernel_rfl)
theorem co_.ok (n:Nat):co_.e.Oks E (cx n) n:=okk () Tryz.func172 (by kernel_rfl)
theorem bN_.ok (n:Nat):bN_.e.Oks E (cx n) n:=okk () Tryz.func173 (by kernel_rfl)
theorem ar_.ok (n:Nat):ar_.e.Oks E (cx n) n:=okk (.lp fun κe=>ar_.step4 n (od99.k (κe 0)),()) Tryz.func160 (by kernel_rfl)
theorem bx_.ok (n:Nat):bx_.e.Oks E (cx n) n:=okk (.lp fun κe=>bx_.step4 n (od101.k (κe 0)),()) Tryz.func156 (by kernel_rfl)
theorem aG_.ok (n:Nat):aG_.e.Oks E (cx n) n:=okk (.lp fun κe=>aG_.step3 n (od103.k (κe 0)),()) Tryz.func142 (by kernel_rfl)
theorem az_.ok (n:Nat):az_.e.Oks E (cx n) n:=okk (.lp fun κe=>az_.step3 n (od9.k (κe 0)),()) Tryz.func154 (by kernel_rfl)
theorem dU_.ok (n:Nat):dU_.e.Oks E (cx n) n:=okk () Tryz.func132 (by kernel_rfl)
theorem bg_.ok (n:Nat):bg_.e.Oks E (cx n) n:=okk (.lp fun κe=>bg_.step7 n (bg_ n) (od106.k (κe 0)),()) Tryz.func101 (by kernel_rfl)
theorem c9_.ok (n:Nat):c9_.e.Oks E (cx n) n:=okk () Tryz.func51 (by kernel_rfl)
theorem cE_.ok (n:Nat):cE_.e.Oks E (cx n) n:=okk () Tryz.func107 (by kernel_rfl)
theorem bp_.ok (n:Nat):bp_.e.Oks E (cx n) n:=okk (.lp fun κe=>bp_.step4 n (od108.k (κe 0)),()) Tryz.func134 (by kernel_rfl)
theorem bj_.ok (n:Nat):bj_.e.Oks E (cx n) n:=okk (.lp fun κe=>bj_.step4 n (od110.k (κe 0)),()) Tryz.func104 (by kernel_rfl)
theorem cW_.ok (n:Nat):cW_.e.Oks E (cx n) n:=okk () Tryz.func106 (by kernel_rfl)
theorem aj_.ok (n:Nat):aj_.e.Oks E (cx n) n:=okk (.lp fun κe=>aj_.step3 n (od9.k (κe 0)),()) Tryz.func135 (by kernel_rfl)
theorem a2_.ok (n:Nat):a2_.e.Oks E (cx n) n:=okk () Tryz.func105 (by kernel_rfl)
theorem do_.ok (n:Nat):do_.e.Oks E (cx n) n:=okk () Tryz.func53 (by kernel_rfl)
theorem dh_.ok (n:Nat):dh_.e.Oks E (cx n) n:=okk () Tryz.func15 (by kernel_rfl)
theorem bE_.ok (n:Nat):bE_.e.Oks E (cx n) n:=okk (.lp fun κe=>bE_.step7 n (od113.k (κe 0)),()) Tryz.func55 (by kernel_rfl)
theorem bS_.ok (n:Nat):bS_.e.Oks E (cx n) n:=okk (.lp fun κe=>bS_.step8 n (od115.k (κe 0)),()) Tryz.func16 (by kernel_rfl)
theorem aM_.ok (n:Nat):aM_.e.Oks E (cx n) n:=okk (.lp fun κe=>aM_.step6 n (od9.k (κe 0)),()) Tryz.func102 (by kernel_rfl)
theorem am_.ok (n:Nat):am_.e.Oks E (cx n) n:=okk (.lp fun κe=>am_.step6 n (dd_ n) (od9.k (κe 0)),()) Tryz.func103 (by kernel_rfl)
theorem dd_.ok (n:Nat):dd_.e.Oks E (cx n) n:=okk () Tryz.func52 (by kernel_rfl)
theorem cV_.ok (n:Nat):cV_.e.Oks E (cx n) n:=okk () Tryz.func14 (by kernel_rfl)
theorem laws_FnGoesAlong.ok (n:Nat):laws_FnGoesAlong.e.Oks E (cx n) n:=okk (.tl fun _ _=>laws_FnGoesAlong.tail18 n,.tl fun _ _=>laws_FnGoesAlong.tail10 n,.tl fun _ _=>laws_FnGoesAlong.tail4 n,()) Tryz.func3 (by kernel_rfl)
end Go.Pi
end
