/- FnTaken: who asked of a drawn store and takes what is due has nothing due then; what was ek_ leads from what was sent to what is true. No condition. Text 4 of 7. -/
import Derived.Test.YtmgcfhlcdhlafabGreatDoorTkC
set_option linter.unusedVariables false
set_option maxRecDepth 100000
section
namespace Go.Pi
def gs_:Nat→(List Int)→Option Bool
 |0,_=>none
 |n+1,fN_=>
  (some (decide ((fN_.length:Int) > 1048576)))
abbrev b9_.K4:Type:=(List Int)→Int→Option al_
abbrev b9_.T4:Type:=(List Int)→Int→Int→Option al_
def b9_.step4 (n:Nat) (k0:b9_.K4) (back:b9_.T4):b9_.T4:=fun fN_ h i=>
 (cond (decide (i<(fN_.length:Int))) (cond (decide (i<4000)) (inB i fN_.length (let xv1:Int:=(IntKind.i64.wrap (BitVec.ofInt (IntKind.bits .i64) (W ((W ((W (h*131))+(W ((fN_.getD i.toNat 0)))))+7)) &&& BitVec.ofInt (IntKind.bits .i64) 1073741823).toNat);(back fN_ xv1 (W (i+1))))) (k0 fN_ h)) (k0 fN_ h))
def b9_.loop4 (n:Nat) (k0:b9_.K4) (N:Nat):b9_.T4:=co_ (fun _ _ _=>none) (b9_.step4 n k0) N
def b9_:Nat→(List Int)→Option al_
 |0,_=>none
 |n+1,fN_=>
  (b9_.loop4 n (fun xy2 xy3=>(some (al_.mk xy2 0 xy3))) n fN_ (W (17333+(fN_.length:Int))) 0)
def di_:Nat→al_→Option (Int × al_)
 |0,_=>none
 |n+1,c=>
  (let xv1:Int:=(Int.fdiv (W ((W (c.h*6364136223846793005))+1442695040888963407)) (2 ^ min (33:Int).toNat (IntKind.bits .i64)));(let xv2:Int:=(Int.fdiv (W ((W (c.h*6364136223846793005))+1442695040888963407)) (2 ^ min (45:Int).toNat (IntKind.bits .i64)));(let xv3:Int:=(IntKind.i64.wrap (BitVec.ofInt (IntKind.bits .i64) xv1 ^^^ BitVec.ofInt (IntKind.bits .i64) xv2).toNat);(let xv4:Int:=(IntKind.i64.wrap (BitVec.ofInt (IntKind.bits .i64) xv3 &&& BitVec.ofInt (IntKind.bits .i64) 255).toNat);(cond (decide (c.i<(c.b.length:Int))) (inB c.i c.b.length (let xv5:Int:=(IntKind.i64.wrap (BitVec.ofInt (IntKind.bits .i64) (W (xv4+(W ((c.b.getD c.i.toNat 0))))) &&& BitVec.ofInt (IntKind.bits .i64) 255).toNat);(some (xv5,(al_.mk c.b (W (c.i+1)) (W ((W (c.h*6364136223846793005))+1442695040888963407))))))) (some (xv4,(al_.mk c.b c.i (W ((W (c.h*6364136223846793005))+1442695040888963407))))))))))
def av_:Nat→al_→Int→Option (Int × al_)
 |0,_,_=>none
 |n+1,c,n1=>
  (cond (decide (n1≤0)) (some (0,c)) (cond (decide (n1≤256)) ((di_ n c).bind fun xr1=>(cond (decide (n1=0)) none (some ((Int.tmod xr1.1 n1),xr1.2)))) ((di_ n c).bind fun xr2=>((di_ n xr2.2).bind fun xr3=>((di_ n xr3.2).bind fun xr4=>((di_ n xr4.2).bind fun xr5=>(let xv6:Int:=(W ((W ((W (xr2.1*16777216))+(W (xr3.1*65536))))+(W (xr4.1*256))));(cond (decide (n1=0)) none (some ((Int.tmod (W (xv6+xr5.1)) n1),xr5.2))))))))))
abbrev ay_.K4:Type:=(List Int)→Int→Int→(List Int)→Option (aI_ × al_)
abbrev ay_.T4:Type:=Int→(List Int)→Int→Int→(List Int)→Option (aI_ × al_)
def ay_.step4 (n:Nat) (k0:ay_.K4) (back:ay_.T4):ay_.T4:=fun i c0 c1 c2 s0=>
 ((av_ n (al_.mk c0 c1 c2) 3).bind fun xr1=>(cond (decide (i<(W (1+xr1.1)))) ((av_ n xr1.2 4).bind fun xr2=>(bv_ (s0.length+([(W (1+xr2.1))]:List Int).length) 8 (back (W (i+1)) xr2.2.b xr2.2.i xr2.2.h (s0++([(W (1+xr2.1))]:List Int))))) (k0 xr1.2.b xr1.2.i xr1.2.h s0)))
def ay_.loop4 (n:Nat) (k0:ay_.K4) (N:Nat):ay_.T4:=co_ (fun _ _ _ _ _=>none) (ay_.step4 n k0) N
def ay_:Nat→al_→Option (aI_ × al_)
 |0,_=>none
 |n+1,c=>
  (ay_.loop4 n (fun xy3 xy4 xy5 xy6=>(some ((aI_.mk xy6),(al_.mk xy3 xy4 xy5)))) n 0 c.b c.i c.h ([]:List Int))
def b4_:Nat→Int→Int→Int→Option Bool
 |0,_,_,_=>none
 |n+1,x,lo,hi=>
  (cond (decide (x≥lo)) (some (decide (x≤hi))) (some false))
abbrev a1_.K3:Type:=(List Int)→Option Bool
abbrev a1_.T3:Type:=Int→(List Int)→Option Bool
def a1_.step3 (n:Nat) (k0:a1_.K3) (back:a1_.T3):a1_.T3:=fun i s0=>
 (cond (decide (i<(s0.length:Int))) (inB i s0.length ((b4_ n (s0.getD i.toNat 0) 1 4).bind fun xr1=>(cond (!xr1) (some false) (back (W (i+1)) s0)))) (k0 s0))
def a1_.loop3 (n:Nat) (k0:a1_.K3) (N:Nat):a1_.T3:=co_ (fun _ _=>none) (a1_.step3 n k0) N
def a1_:Nat→aI_→Option Bool
 |0,_=>none
 |n+1,s=>
  (a1_.loop3 n (fun xy2=>((b4_ n (xy2.length:Int) 1 3).bind fun xr3=>(some xr3))) n 0 s.cols)
def dn_:Nat→aI_→Option aI_
 |0,_=>none
 |n+1,s=>
  (bv_ (([]:List Int).length+s.cols.length) 8 (some (aI_.mk (([]:List Int)++s.cols))))
def dC_:Nat→aI_→Option (ar_ × Bool)
 |0,_=>none
 |n+1,s=>
  ((a1_ n s).bind fun xr1=>(cond (!xr1) (some ((ar_.mk (aI_.mk ([]:List Int)) 0 ([]:List (List TRow))),false)) ((dn_ n s).bind fun xr2=>(cond (decide ((s.cols.length:Int)=(s.cols.length:Int))) (cond (decide (0≤(s.cols.length:Int))) (cond (decide ((s.cols.length:Int)*24≤140737488355328)) (some ((ar_.mk xr2 0 (List.replicate (s.cols.length:Int).toNat [])),true)) none) none) none))))
abbrev aN_.K4:Type:=(List Int)→Int→Int→Int→Int→(List Int)→Option (TRow × al_)
abbrev aN_.T4:Type:=Int→Int→(List Int)→Int→Int→Int→Int→(List Int)→Option (TRow × al_)
def aN_.step4 (n:Nat) (k0:aN_.K4) (back:aN_.T4):aN_.T4:=fun cols i c0 c1 c2 t40 r0 r1=>
 (cond (decide (i<cols)) ((av_ n (al_.mk c0 c1 c2) 6).bind fun xr2=>(bv_ (r1.length+([xr2.1]:List Int).length) 8 (back cols (W (i+1)) xr2.2.b xr2.2.i xr2.2.h t40 r0 (r1++([xr2.1]:List Int))))) (k0 c0 c1 c2 t40 r0 r1))
def aN_.loop4 (n:Nat) (k0:aN_.K4) (N:Nat):aN_.T4:=co_ (fun _ _ _ _ _ _ _ _=>none) (aN_.step4 n k0) N
def aN_:Nat→al_→Int→Option (TRow × al_)
 |0,_,_=>none
 |n+1,c,cols=>
  ((av_ n c 12).bind fun xr1=>(aN_.loop4 n (fun xy3 xy4 xy5 xy6 xy7 xy8=>(some ((TRow.mk xy7 xy8),(al_.mk xy3 xy4 xy5)))) n cols 0 xr1.2.b xr1.2.i xr1.2.h 0 (W (1+xr1.1)) ([]:List Int)))
abbrev ca_.T3:Type:=(List TRow)→Int→Int→Option Int
def ca_.step3 (n:Nat) (k0:Option Int) (back:ca_.T3):ca_.T3:=fun rows id_1 i=>
 (cond (decide (i<(rows.length:Int))) (inB i rows.length (cond (((rows.getD i.toNat TRow.dflt).id_) == id_1) (some i) (back rows id_1 (W (i+1))))) k0)
def ca_.loop3 (n:Nat) (k0:Option Int) (N:Nat):ca_.T3:=co_ (fun _ _ _=>none) (ca_.step3 n k0) N
def ca_:Nat→(List TRow)→Int→Option Int
 |0,_,_=>none
 |n+1,rows,id1=>
  (ca_.loop3 n (some (-1)) n rows id1 0)
def cq_:Nat→TRow→Option TRow
 |0,_=>none
 |n+1,r=>
  (bv_ (([]:List Int).length+r.cells.length) 8 (some (TRow.mk r.id_ (([]:List Int)++r.cells))))
abbrev bc_.K5:Type:=(List TRow)→Option (List TRow)
abbrev bc_.T5:Type:=(List TRow)→Int→Int→(List TRow)→Option (List TRow)
def bc_.step5 (n:Nat) (k0:bc_.K5) (back:bc_.T5):bc_.T5:=fun rows at_1 i out_1=>
 (cond (decide (i<(rows.length:Int))) (cond (i != at_1) (inB i rows.length ((cq_ n (rows.getD i.toNat TRow.dflt)).bind fun xr2=>(bv_ (out_1.length+([xr2]:List TRow).length) 32 (back rows at_1 (W (i+1)) (out_1++([xr2]:List TRow)))))) (back rows at_1 (W (i+1)) out_1)) (k0 out_1))
def bc_.loop5 (n:Nat) (k0:bc_.K5) (N:Nat):bc_.T5:=co_ (fun _ _ _ _=>none) (bc_.step5 n k0) N
def bc_:Nat→(List TRow)→Int→Option (List TRow)
 |0,_,_=>none
 |n+1,rows,id1=>
  ((ca_ n rows id1).bind fun xr1=>(bc_.loop5 n (fun xy3=>(some xy3)) n rows xr1 0 ([]:List TRow)))
abbrev bx_.K6:Type:=Int→Int→(List Int)→(List TRow)→Option (List TRow)
abbrev bx_.T6:Type:=Int→Int→Int→(List Int)→(List TRow)→Option (List TRow)
def bx_.step6 (n:Nat) (k0:bx_.K6) (back:bx_.T6):bx_.T6:=fun at_1 i r0 r1 out_1=>
 (cond (decide (i≥0)) (inB i out_1.length (cond (decide (((out_1.getD i.toNat TRow.dflt).id_) > r0)) (back i (W (i - 1)) r0 r1 out_1) (back at_1 (W (i - 1)) r0 r1 out_1))) (k0 at_1 r0 r1 out_1))
def bx_.loop6 (n:Nat) (k0:bx_.K6) (N:Nat):bx_.T6:=co_ (fun _ _ _ _ _=>none) (bx_.step6 n k0) N
def bx_:Nat→(List TRow)→TRow→Option (List TRow)
 |0,_,_=>none
 |n+1,rows,r=>
  ((bc_ n rows r.id_).bind fun xr1=>((ca_ n rows r.id_).bind fun xr2=>(cond (decide (xr2≥0)) ((ca_ n rows r.id_).bind fun xr3=>(iY_ 0 xr3 xr1.length (bv_ (([]:List TRow).length+((xr1.take xr3.toNat).drop 0).length) 32 ((cq_ n r).bind fun xr4=>(bv_ ((([]:List TRow)++((xr1.take xr3.toNat).drop 0)).length+([xr4]:List TRow).length) 32 (iY_ xr3 (xr1.length:Int) xr1.length (bv_ (((([]:List TRow)++((xr1.take xr3.toNat).drop 0))++([xr4]:List TRow)).length+((xr1.take ((xr1.length:Int).toNat)).drop xr3.toNat).length) 32 (some (((([]:List TRow)++((xr1.take xr3.toNat).drop 0))++([xr4]:List TRow))++((xr1.take ((xr1.length:Int).toNat)).drop xr3.toNat)))))))))) (bx_.loop6 n (fun xy5 xy6 xy7 xy8=>(iY_ 0 xy5 xy8.length (bv_ (([]:List TRow).length+((xy8.take xy5.toNat).drop 0).length) 32 ((cq_ n (TRow.mk xy6 xy7)).bind fun xr9=>(bv_ ((([]:List TRow)++((xy8.take xy5.toNat).drop 0)).length+([xr9]:List TRow).length) 32 (iY_ xy5 (xy8.length:Int) xy8.length (bv_ (((([]:List TRow)++((xy8.take xy5.toNat).drop 0))++([xr9]:List TRow)).length+((xy8.take ((xy8.length:Int).toNat)).drop xy5.toNat).length) 32 (some (((([]:List TRow)++((xy8.take xy5.toNat).drop 0))++([xr9]:List TRow))++((xy8.take ((xy8.length:Int).toNat)).drop xy5.toNat)))))))))) n (xr1.length:Int) (W ((xr1.length:Int) - 1)) r.id_ r.cells xr1))))
abbrev aE_.K4:Type:=(List Int)→Int→Int→(List TRow)→Option ((List TRow) × al_)
abbrev aE_.T4:Type:=Int→Int→(List Int)→Int→Int→(List TRow)→Option ((List TRow) × al_)
def aE_.step4 (n:Nat) (k0:aE_.K4) (back:aE_.T4):aE_.T4:=fun cols i c0 c1 c2 out_1=>
 ((av_ n (al_.mk c0 c1 c2) 9).bind fun xr1=>(cond (decide (i<xr1.1)) ((aN_ n xr1.2 cols).bind fun xr2=>((bx_ n out_1 xr2.1).bind fun xr3=>(back cols (W (i+1)) xr2.2.b xr2.2.i xr2.2.h xr3))) (k0 xr1.2.b xr1.2.i xr1.2.h out_1)))
def aE_.loop4 (n:Nat) (k0:aE_.K4) (N:Nat):aE_.T4:=co_ (fun _ _ _ _ _ _=>none) (aE_.step4 n k0) N
def aE_:Nat→al_→Int→Option ((List TRow) × al_)
 |0,_,_=>none
 |n+1,c,cols=>
  (aE_.loop4 n (fun xy4 xy5 xy6 xy7=>(some (xy7,(al_.mk xy4 xy5 xy6)))) n cols 0 c.b c.i c.h ([]:List TRow))
abbrev az_.K4:Type:=(List Int)→Int→Int→Int→Int→(List Int)→(List (List TRow))→Option (ar_ × al_)
abbrev az_.T4:Type:=Int→(List Int)→Int→Int→Int→Int→(List Int)→(List (List TRow))→Option (ar_ × al_)
def az_.step4 (n:Nat) (k0:az_.K4) (back:az_.T4):az_.T4:=fun t c0 c1 c2 t21 s1 s0 s2=>
 (cond (decide (t<(s2.length:Int))) (inB t s0.length ((aE_ n (al_.mk c0 c1 c2) (s0.getD t.toNat 0)).bind fun xr3=>(inB t s2.length (let xa4:List (List TRow):=s2.set t.toNat xr3.1;(back (W (t+1)) xr3.2.b xr3.2.i xr3.2.h t21 s1 s0 xa4))))) (k0 c0 c1 c2 t21 s1 s0 s2))
def az_.loop4 (n:Nat) (k0:az_.K4) (N:Nat):az_.T4:=co_ (fun _ _ _ _ _ _ _ _=>none) (az_.step4 n k0) N
def az_:Nat→al_→Option (ar_ × al_)
 |0,_=>none
 |n+1,c=>
  ((ay_ n c).bind fun xr1=>((dC_ n xr1.1).bind fun xr2=>(az_.loop4 n (fun xy5 xy6 xy7 xy8 xy9 xy10 xy11=>((av_ n (al_.mk xy5 xy6 xy7) 5).bind fun xr12=>(some ((ar_.mk (aI_.mk xy10) xr12.1 xy11),xr12.2)))) n 0 xr1.2.b xr1.2.i xr1.2.h 0 xr2.1.version xr2.1.schema.cols xr2.1.tables)))
def cz_:Nat→Int→Int→Option Int
 |0,_,_=>none
 |n+1,a,b=>
  (cond (decide (a > b)) (some a) (some b))
def cA_:Nat→al_→Int→Option (Bool × al_)
 |0,_,_=>none
 |n+1,c,n1=>
  ((av_ n c n1).bind fun xr1=>(some ((xr1.1 == 0),xr1.2)))
def bU_:Nat→al_→(List Int)→Option (Int × al_)
 |0,_,_=>none
 |n+1,c,list=>
  ((av_ n c (list.length:Int)).bind fun xr1=>(inB xr1.1 list.length (some ((list.getD xr1.1.toNat 0),xr1.2))))
abbrev ad_.K7:Type:=Int→(List Int)→Int→Int→(List Int)→Int→Int→Bool→Int→Bool→Int→Int→Int→Int→Bool→Int→Bool→Int→Int→(List br_)→Option (ap_ × al_)
abbrev ad_.T7:Type:=Int→Int→(List Int)→Int→Int→(List Int)→Int→Int→Bool→Int→Bool→Int→Int→Int→Int→Bool→Int→Bool→Int→Int→(List br_)→Option (ap_ × al_)
def ad_.step7 (n:Nat) (k0:ad_.K7) (back:ad_.T7):ad_.T7:=fun t6 t7 o0 o1 o2 t30 t40 t42 t43 t44 t46 t47 t48 t50 t52 t53 t54 t56 t57 t58 t51=>
 ((av_ n (al_.mk o0 o1 o2) 3).bind fun xr4=>(cond (decide (t7<xr4.1)) ((av_ n xr4.2 t6).bind fun xr5=>((av_ n xr5.2 4).bind fun xr6=>((av_ n xr6.2 6).bind fun xr7=>(bv_ (t51.length+([(br_.mk xr5.1 (W (1+xr6.1)) xr7.1)]:List br_).length) 24 (back t6 (W (t7+1)) xr7.2.b xr7.2.i xr7.2.h t30 t40 t42 t43 t44 t46 t47 t48 t50 t52 t53 t54 t56 t57 t58 (t51++([(br_.mk xr5.1 (W (1+xr6.1)) xr7.1)]:List br_))))))) (k0 t6 xr4.2.b xr4.2.i xr4.2.h t30 t40 t42 t43 t44 t46 t47 t48 t50 t52 t53 t54 t56 t57 t58 t51)))
def ad_.loop7 (n:Nat) (k0:ad_.K7) (N:Nat):ad_.T7:=co_ (fun _ _ _ _ _ _ _ _ _ _ _ _ _ _ _ _ _ _ _ _ _=>none) (ad_.step7 n k0) N
abbrev ad_.K16:Type:=(List Int)→Int→Int→(List Int)→Int→Int→Bool→Int→Bool→Int→Int→Int→Int→Bool→Int→Bool→Int→Int→(List br_)→(List Int)→Option (ap_ × al_)
abbrev ad_.T16:Type:=Int→Int→(List Int)→Int→Int→(List Int)→Int→Int→Bool→Int→Bool→Int→Int→Int→Int→Bool→Int→Bool→Int→Int→(List br_)→(List Int)→Option (ap_ × al_)
def ad_.step16 (n:Nat) (k2:ad_.K16) (back:ad_.T16):ad_.T16:=fun t6 t8 o0 o1 o2 t30 t40 t42 t43 t44 t46 t47 t48 t50 t52 t53 t54 t56 t57 t58 t51 t55=>
 (cond (decide (t8<t6)) ((cA_ n (al_.mk o0 o1 o2) 2).bind fun xr31=>(cond xr31.1 (bv_ (t55.length+([t8]:List Int).length) 8 (back t6 (W (t8+1)) xr31.2.b xr31.2.i xr31.2.h t30 t40 t42 t43 t44 t46 t47 t48 t50 t52 t53 t54 t56 t57 t58 t51 (t55++([t8]:List Int)))) (back t6 (W (t8+1)) xr31.2.b xr31.2.i xr31.2.h t30 t40 t42 t43 t44 t46 t47 t48 t50 t52 t53 t54 t56 t57 t58 t51 t55))) (k2 o0 o1 o2 t30 t40 t42 t43 t44 t46 t47 t48 t50 t52 t53 t54 t56 t57 t58 t51 t55))
def ad_.loop16 (n:Nat) (k2:ad_.K16) (N:Nat):ad_.T16:=co_ (fun _ _ _ _ _ _ _ _ _ _ _ _ _ _ _ _ _ _ _ _ _ _=>none) (ad_.step16 n k2) N
def ad_:Nat→al_→aI_→Option (ap_ × al_)
 |0,_,_=>none
 |n+1,o,append=>
  ((cz_ n (append.cols.length:Int) 1).bind fun xr1=>((av_ n o xr1).bind fun xr2=>(cond (decide (xr2.1<(append.cols.length:Int))) (inB xr2.1 append.cols.length ((cz_ n (append.cols.getD xr2.1.toNat 0) 1).bind fun xr3=>(ad_.loop7 n (fun xy8 xy9 xy10 xy11 xy12 xy13 xy14 xy15 xy16 xy17 xy18 xy19 xy20 xy21 xy22 xy23 xy24 xy25 xy26 xy27=>((av_ n (al_.mk xy9 xy10 xy11) (W (xy8+1))).bind fun xr28=>(cond (decide (xr28.1 > 0)) ((cA_ n xr28.2 2).bind fun xr29=>((bU_ n xr29.2 ([0,0,1,2,3,5]:List Int)).bind fun xr30=>(ad_.loop16 n (fun xy32 xy33 xy34 xy35 xy36 xy37 xy38 xy39 xy40 xy41 xy42 xy43 xy44 xy45 xy46 xy47 xy48 xy49 xy50 xy51=>((cA_ n (al_.mk xy32 xy33 xy34) 2).bind fun xr52=>(cond xr52.1 ((cz_ n (xy35.length:Int) 1).bind fun xr53=>((av_ n xr52.2 xr53).bind fun xr54=>(cond (decide (xr54.1<(xy35.length:Int))) (inB xr54.1 xy35.length ((cz_ n (xy35.getD xr54.1.toNat 0) 1).bind fun xr55=>((av_ n xr54.2 xr55).bind fun xr56=>(some ((ap_.mk xy43 xy50 xy44 xy45 xy46 xy51 true xr54.1 xr56.1),xr56.2))))) (some ((ap_.mk xy43 xy50 xy44 xy45 xy46 xy51 true xr54.1 xy49),xr54.2))))) (some ((ap_.mk xy43 xy50 xy44 xy45 xy46 xy51 xy47 xy48 xy49),xr52.2))))) n xy8 0 xr30.2.b xr30.2.i xr30.2.h xy12 xy13 xy14 xy15 xy16 xy17 xy18 xy19 xy20 xr28.1 xr29.1 xr30.1 xy24 xy25 xy26 xy27 ([]:List Int)))) ((bU_ n xr28.2 ([0,0,1,2,3,5]:List Int)).bind fun xr57=>(ad_.loop16 n (fun xy58 xy59 xy60 xy61 xy62 xy63 xy64 xy65 xy66 xy67 xy68 xy69 xy70 xy71 xy72 xy73 xy74 xy75 xy76 xy77=>((cA_ n (al_.mk xy58 xy59 xy60) 2).bind fun xr78=>(cond xr78.1 ((cz_ n (xy61.length:Int) 1).bind fun xr79=>((av_ n xr78.2 xr79).bind fun xr80=>(cond (decide (xr80.1<(xy61.length:Int))) (inB xr80.1 xy61.length ((cz_ n (xy61.getD xr80.1.toNat 0) 1).bind fun xr81=>((av_ n xr80.2 xr81).bind fun xr82=>(some ((ap_.mk xy69 xy76 xy70 xy71 xy72 xy77 true xr80.1 xr82.1),xr82.2))))) (some ((ap_.mk xy69 xy76 xy70 xy71 xy72 xy77 true xr80.1 xy75),xr80.2))))) (some ((ap_.mk xy69 xy76 xy70 xy71 xy72 xy77 xy73 xy74 xy75),xr78.2))))) n xy8 0 xr57.2.b xr57.2.i xr57.2.h xy12 xy13 xy14 xy15 xy16 xy17 xy18 xy19 xy20 xr28.1 false xr57.1 xy24 xy25 xy26 xy27 ([]:List Int)))))) n xr3 0 xr2.2.b xr2.2.i xr2.2.h append.cols 0 0 false 0 false 0 0 xr2.1 0 false 0 false 0 0 ([]:List br_)))) (ad_.loop7 n (fun xy83 xy84 xy85 xy86 xy87 xy88 xy89 xy90 xy91 xy92 xy93 xy94 xy95 xy96 xy97 xy98 xy99 xy100 xy101 xy102=>((av_ n (al_.mk xy84 xy85 xy86) (W (xy83+1))).bind fun xr103=>(cond (decide (xr103.1 > 0)) ((cA_ n xr103.2 2).bind fun xr104=>((bU_ n xr104.2 ([0,0,1,2,3,5]:List Int)).bind fun xr105=>(ad_.loop16 n (fun xy106 xy107 xy108 xy109 xy110 xy111 xy112 xy113 xy114 xy115 xy116 xy117 xy118 xy119 xy120 xy121 xy122 xy123 xy124 xy125=>((cA_ n (al_.mk xy106 xy107 xy108) 2).bind fun xr126=>(cond xr126.1 ((cz_ n (xy109.length:Int) 1).bind fun xr127=>((av_ n xr126.2 xr127).bind fun xr128=>(cond (decide (xr128.1<(xy109.length:Int))) (inB xr128.1 xy109.length ((cz_ n (xy109.getD xr128.1.toNat 0) 1).bind fun xr129=>((av_ n xr128.2 xr129).bind fun xr130=>(some ((ap_.mk xy117 xy124 xy118 xy119 xy120 xy125 true xr128.1 xr130.1),xr130.2))))) (some ((ap_.mk xy117 xy124 xy118 xy119 xy120 xy125 true xr128.1 xy123),xr128.2))))) (some ((ap_.mk xy117 xy124 xy118 xy119 xy120 xy125 xy121 xy122 xy123),xr126.2))))) n xy83 0 xr105.2.b xr105.2.i xr105.2.h xy87 xy88 xy89 xy90 xy91 xy92 xy93 xy94 xy95 xr103.1 xr104.1 xr105.1 xy99 xy100 xy101 xy102 ([]:List Int)))) ((bU_ n xr103.2 ([0,0,1,2,3,5]:List Int)).bind fun xr131=>(ad_.loop16 n (fun xy132 xy133 xy134 xy135 xy136 xy137 xy138 xy139 xy140 xy141 xy142 xy143 xy144 xy145 xy146 xy147 xy148 xy149 xy150 xy151=>((cA_ n (al_.mk xy132 xy133 xy134) 2).bind fun xr152=>(cond xr152.1 ((cz_ n (xy135.length:Int) 1).bind fun xr153=>((av_ n xr152.2 xr153).bind fun xr154=>(cond (decide (xr154.1<(xy135.length:Int))) (inB xr154.1 xy135.length ((cz_ n (xy135.getD xr154.1.toNat 0) 1).bind fun xr155=>((av_ n xr154.2 xr155).bind fun xr156=>(some ((ap_.mk xy143 xy150 xy144 xy145 xy146 xy151 true xr154.1 xr156.1),xr156.2))))) (some ((ap_.mk xy143 xy150 xy144 xy145 xy146 xy151 true xr154.1 xy149),xr154.2))))) (some ((ap_.mk xy143 xy150 xy144 xy145 xy146 xy151 xy147 xy148 xy149),xr152.2))))) n xy83 0 xr131.2.b xr131.2.i xr131.2.h xy87 xy88 xy89 xy90 xy91 xy92 xy93 xy94 xy95 xr103.1 false xr131.1 xy99 xy100 xy101 xy102 ([]:List Int)))))) n 1 0 xr2.2.b xr2.2.i xr2.2.h append.cols 0 0 false 0 false 0 0 xr2.1 0 false 0 false 0 0 ([]:List br_)))))
abbrev ce_.T6:Type:=Int→Int→(List Int)→Option Bool
def ce_.step6 (n:Nat) (k0:Option Bool) (back:ce_.T6):ce_.T6:=fun i r0 r1=>
 (cond (decide (i<(r1.length:Int))) (inB i r1.length ((b4_ n (r1.getD i.toNat 0) (-1000000000) 1000000000).bind fun xr4=>(cond (!xr4) (some false) (back (W (i+1)) r0 r1)))) k0)
def ce_.loop6 (n:Nat) (k0:Option Bool) (N:Nat):ce_.T6:=co_ (fun _ _ _=>none) (ce_.step6 n k0) N
def ce_:Nat→aI_→Int→TRow→Option Bool
 |0,_,_,_=>none
 |n+1,s,table,r=>
  ((a1_ n s).bind fun xr1=>(cond (!xr1) (some false) ((b4_ n table 0 (W ((s.cols.length:Int) - 1))).bind fun xr2=>(cond (!xr2) (some false) ((b4_ n r.id_ 1 999).bind fun xr3=>(cond (!xr3) (some false) (inB table s.cols.length (cond ((r.cells.length:Int) != (s.cols.getD table.toNat 0)) (some false) (ce_.loop6 n (some true) n 0 r.id_ r.cells)))))))))
abbrev bR_.K3:Type:=Int→(List TRow)→(List Int)→Option Bool
abbrev bR_.T3:Type:=Int→(List TRow)→Int→(List Int)→Option Bool
def bR_.step3 (n:Nat) (k0:bR_.K3) (back:bR_.T3):bR_.T3:=fun table rows i s0=>
 (cond (decide (i<(rows.length:Int))) (inB i rows.length ((ce_ n (aI_.mk s0) table (rows.getD i.toNat TRow.dflt)).bind fun xr1=>(cond (!xr1) (some false) (cond (decide (i > 0)) (inB (W (i - 1)) rows.length (inB i rows.length (let xv2:Bool:=(decide (((rows.getD (W (i - 1)).toNat TRow.dflt).id_)≥((rows.getD i.toNat TRow.dflt).id_)));(cond xv2 (some false) (back table rows (W (i+1)) s0))))) (back table rows (W (i+1)) s0))))) (k0 table rows s0))
def bR_.loop3 (n:Nat) (k0:bR_.K3) (N:Nat):bR_.T3:=co_ (fun _ _ _ _=>none) (bR_.step3 n k0) N
def bR_:Nat→aI_→Int→(List TRow)→Option Bool
 |0,_,_,_=>none
 |n+1,s,table,rows=>
  (bR_.loop3 n (fun xy3 xy4 xy5=>((a1_ n (aI_.mk xy5)).bind fun xr6=>(cond xr6 ((b4_ n xy3 0 (W ((xy5.length:Int) - 1))).bind fun xr7=>(cond xr7 (some (decide ((xy4.length:Int)≤24))) (some false))) (some false)))) n table rows 0 s.cols)
abbrev bs_.T6:Type:=Int→(List Int)→Int→(List (List TRow))→Option Bool
def bs_.step6 (n:Nat) (k0:Option Bool) (back:bs_.T6):bs_.T6:=fun t s0 s1 s2=>
 (cond (decide (t<(s2.length:Int))) (inB t s2.length ((bR_ n (aI_.mk s0) t (s2.getD t.toNat [])).bind fun xr3=>(cond (!xr3) (some false) (back (W (t+1)) s0 s1 s2)))) k0)
def bs_.loop6 (n:Nat) (k0:Option Bool) (N:Nat):bs_.T6:=co_ (fun _ _ _ _=>none) (bs_.step6 n k0) N
def bs_:Nat→ar_→Option Bool
 |0,_=>none
 |n+1,s=>
  ((a1_ n s.schema).bind fun xr1=>(cond (!xr1) (some false) ((b4_ n s.version 0 100000).bind fun xr2=>(cond (!xr2) (some false) (cond ((s.tables.length:Int) != (s.schema.cols.length:Int)) (some false) (bs_.loop6 n (some true) n 0 s.schema.cols s.version s.tables))))))
abbrev aB_.K7:Type:=Int→(List Int)→Int→(List br_)→Int→Bool→Int→(List Int)→Bool→Int→Int→Option Bool
abbrev aB_.T7:Type:=Int→Int→(List Int)→Int→(List br_)→Int→Bool→Int→(List Int)→Bool→Int→Int→Option Bool
def aB_.step7 (n:Nat) (k0:aB_.K7) (back:aB_.T7):aB_.T7:=fun t5 t6 t20 t30 t31 t32 t33 t34 t35 t36 t37 t38=>
 (cond (decide (t6<(t31.length:Int))) (inB t6 t31.length ((b4_ n ((t31.getD t6.toNat br_.dflt).col) 0 (W (t5 - 1))).bind fun xr3=>(cond (!xr3) (some false) ((b4_ n ((t31.getD t6.toNat br_.dflt).op) 1 4).bind fun xr4=>(cond (!xr4) (some false) ((b4_ n ((t31.getD t6.toNat br_.dflt).v) (-1000000000) 1000000000).bind fun xr5=>(cond (!xr5) (some false) (back t5 (W (t6+1)) t20 t30 t31 t32 t33 t34 t35 t36 t37 t38)))))))) (k0 t5 t20 t30 t31 t32 t33 t34 t35 t36 t37 t38))
def aB_.loop7 (n:Nat) (k0:aB_.K7) (N:Nat):aB_.T7:=co_ (fun _ _ _ _ _ _ _ _ _ _ _ _=>none) (aB_.step7 n k0) N
abbrev aB_.K16:Type:=Int→(List Int)→Int→(List br_)→Int→Bool→Int→(List Int)→Bool→Int→Int→Option Bool
abbrev aB_.T16:Type:=Int→Int→(List Int)→Int→(List br_)→Int→Bool→Int→(List Int)→Bool→Int→Int→Option Bool
def aB_.step16 (n:Nat) (k2:aB_.K16) (back:aB_.T16):aB_.T16:=fun t5 t8 t20 t30 t31 t32 t33 t34 t35 t36 t37 t38=>
 (cond (decide (t8<(t35.length:Int))) (inB t8 t35.length ((b4_ n (t35.getD t8.toNat 0) 0 (W (t5 - 1))).bind fun xr17=>(cond (!xr17) (some false) (cond (decide (t8 > 0)) (inB (W (t8 - 1)) t35.length (inB t8 t35.length (cond (decide ((t35.getD (W (t8 - 1)).toNat 0)≥(t35.getD t8.toNat 0))) (some false) (back t5 (W (t8+1)) t20 t30 t31 t32 t33 t34 t35 t36 t37 t38)))) (back t5 (W (t8+1)) t20 t30 t31 t32 t33 t34 t35 t36 t37 t38))))) (k2 t5 t20 t30 t31 t32 t33 t34 t35 t36 t37 t38))
def aB_.loop16 (n:Nat) (k2:aB_.K16) (N:Nat):aB_.T16:=co_ (fun _ _ _ _ _ _ _ _ _ _ _ _=>none) (aB_.step16 n k2) N
def aB_:Nat→aI_→ap_→Option Bool
 |0,_,_=>none
 |n+1,o,append=>
  ((a1_ n o).bind fun xr1=>(cond (!xr1) (some false) ((b4_ n append.table 0 (W ((o.cols.length:Int) - 1))).bind fun xr2=>(cond (!xr2) (some false) (cond (decide ((append.where_.length:Int) > 3)) (some false) (inB append.table o.cols.length (aB_.loop7 n (fun xy6 xy7 xy8 xy9 xy10 xy11 xy12 xy13 xy14 xy15 xy16=>(aB_.loop16 n (fun xy18 xy19 xy20 xy21 xy22 xy23 xy24 xy25 xy26 xy27 xy28=>((b4_ n xy22 0 xy18).bind fun xr29=>(cond (!xr29) (some false) ((b4_ n xy24 0 24).bind fun xr30=>(cond (!xr30) (some false) (cond (xy22 == 0) (cond xy23 (some false) (cond (!xy26) (cond (xy27 == 0) (some (xy28 == 0)) (some false)) ((b4_ n xy27 0 (W ((xy19.length:Int) - 1))).bind fun xr31=>(cond xr31 (inB xy27 xy19.length ((b4_ n xy28 0 (W ((xy19.getD xy27.toNat 0) - 1))).bind fun xr32=>(some xr32))) (some false))))) (cond (!xy26) (cond (xy27 == 0) (some (xy28 == 0)) (some false)) ((b4_ n xy27 0 (W ((xy19.length:Int) - 1))).bind fun xr33=>(cond xr33 (inB xy27 xy19.length ((b4_ n xy28 0 (W ((xy19.getD xy27.toNat 0) - 1))).bind fun xr34=>(some xr34))) (some false)))))))))) n xy6 0 xy7 xy8 xy9 xy10 xy11 xy12 xy13 xy14 xy15 xy16)) n (o.cols.getD append.table.toNat 0) 0 o.cols append.table append.where_ append.order append.down append.first append.show_ append.kids append.kidTable append.kidCol)))))))
def eg_:Nat→ap_→Option ap_
 |0,_=>none
 |n+1,q=>
  (bv_ (([]:List br_).length+q.where_.length) 24 (bv_ (([]:List Int).length+q.show_.length) 8 (some { q with where_:=(([]:List br_)++q.where_),show_:=(([]:List Int)++q.show_) })))
def dJ_:Nat→br_→TRow→Option Bool
 |0,_,_=>none
 |n+1,x,r=>
  ((b4_ n x.col 0 (W ((r.cells.length:Int) - 1))).bind fun xr1=>(cond (!xr1) (some false) (inB x.col r.cells.length (cond (x.op == 1) (some ((r.cells.getD x.col.toNat 0) == x.v)) (cond (x.op == 2) (some (decide ((r.cells.getD x.col.toNat 0)<x.v))) (cond (x.op == 3) (some (decide ((r.cells.getD x.col.toNat 0) > x.v))) (cond (x.op == 4) (some ((r.cells.getD x.col.toNat 0) != x.v)) (some false))))))))
abbrev bF_.T3:Type:=Int→Int→(List br_)→Int→Bool→Int→(List Int)→Bool→Int→Int→Int→(List Int)→Option Bool
def bF_.step3 (n:Nat) (k0:Option Bool) (back:bF_.T3):bF_.T3:=fun i q0 q1 q2 q3 q4 q5 q6 q7 q8 r0 r1=>
 (cond (decide (i<(q1.length:Int))) (inB i q1.length ((dJ_ n (q1.getD i.toNat br_.dflt) (TRow.mk r0 r1)).bind fun xr1=>(cond (!xr1) (some false) (back (W (i+1)) q0 q1 q2 q3 q4 q5 q6 q7 q8 r0 r1)))) k0)
def bF_.loop3 (n:Nat) (k0:Option Bool) (N:Nat):bF_.T3:=co_ (fun _ _ _ _ _ _ _ _ _ _ _ _=>none) (bF_.step3 n k0) N
def bF_:Nat→ap_→TRow→Option Bool
 |0,_,_=>none
 |n+1,q,r=>
  (bF_.loop3 n (some true) n 0 q.table q.where_ q.order q.down q.first q.show_ q.kids q.kidTable q.kidCol r.id_ r.cells)
def bH_:Nat→TRow→Int→Option Int
 |0,_,_=>none
 |n+1,r,col=>
  ((b4_ n col 0 (W ((r.cells.length:Int) - 1))).bind fun xr1=>(cond (!xr1) (some 0) (inB col r.cells.length (some (r.cells.getD col.toNat 0)))))
def eI_:Nat→ap_→TRow→TRow→Option Bool
 |0,_,_,_=>none
 |n+1,q,a,b=>
  (cond (q.order != 0) ((bH_ n a (W (q.order - 1))).bind fun xr1=>((bH_ n b (W (q.order - 1))).bind fun xr2=>(cond (xr1 != xr2) (some (!((decide (xr1<xr2)) == q.down))) (some (decide (a.id_<b.id_)))))) (some (decide (a.id_<b.id_))))
abbrev bI_.K5:Type:=Bool→Int→(List Int)→(List TRow)→Option (List TRow)
abbrev bI_.T5:Type:=(List TRow)→Bool→Int→Int→(List br_)→Int→Bool→Int→(List Int)→Bool→Int→Int→Int→(List Int)→(List TRow)→Option (List TRow)
def bI_.step5 (n:Nat) (k0:bI_.K5) (back:bI_.T5):bI_.T5:=fun rows put i q0 q1 q2 q3 q4 q5 q6 q7 q8 r0 r1 out_1=>
 (cond (decide (i<(rows.length:Int))) (cond (!put) (inB i rows.length ((eI_ n (ap_.mk q0 q1 q2 q3 q4 q5 q6 q7 q8) (TRow.mk r0 r1) (rows.getD i.toNat TRow.dflt)).bind fun xr1=>(cond xr1 ((cq_ n (TRow.mk r0 r1)).bind fun xr2=>(bv_ (out_1.length+([xr2]:List TRow).length) 32 (inB i rows.length (bv_ ((out_1++([xr2]:List TRow)).length+([(rows.getD i.toNat TRow.dflt)]:List TRow).length) 32 (back rows true (W (i+1)) q0 q1 q2 q3 q4 q5 q6 q7 q8 r0 r1 ((out_1++([xr2]:List TRow))++([(rows.getD i.toNat TRow.dflt)]:List TRow))))))) (inB i rows.length (bv_ (out_1.length+([(rows.getD i.toNat TRow.dflt)]:List TRow).length) 32 (back rows put (W (i+1)) q0 q1 q2 q3 q4 q5 q6 q7 q8 r0 r1 (out_1++([(rows.getD i.toNat TRow.dflt)]:List TRow)))))))) (inB i rows.length (bv_ (out_1.length+([(rows.getD i.toNat TRow.dflt)]:List TRow).length) 32 (back rows put (W (i+1)) q0 q1 q2 q3 q4 q5 q6 q7 q8 r0 r1 (out_1++([(rows.getD i.toNat TRow.dflt)]:List TRow)))))) (k0 put r0 r1 out_1))
def bI_.loop5 (n:Nat) (k0:bI_.K5) (N:Nat):bI_.T5:=co_ (fun _ _ _ _ _ _ _ _ _ _ _ _ _ _ _=>none) (bI_.step5 n k0) N
def bI_:Nat→ap_→(List TRow)→TRow→Option (List TRow)
 |0,_,_,_=>none
 |n+1,q,rows,r=>
  (bI_.loop5 n (fun xy3 xy4 xy5 xy6=>(cond (!xy3) ((cq_ n (TRow.mk xy4 xy5)).bind fun xr7=>(bv_ (xy6.length+([xr7]:List TRow).length) 32 (some (xy6++([xr7]:List TRow))))) (some xy6))) n rows false 0 q.table q.where_ q.order q.down q.first q.show_ q.kids q.kidTable q.kidCol r.id_ r.cells ([]:List TRow))
abbrev bB_.K8:Type:=(List TRow)→Option (List TRow)
abbrev bB_.T8:Type:=(List TRow)→Int→Int→(List br_)→Int→Bool→Int→(List Int)→Bool→Int→Int→(List TRow)→Option (List TRow)
def bB_.step8 (n:Nat) (k0:bB_.K8) (back:bB_.T8):bB_.T8:=fun rows i q0 q1 q2 q3 q4 q5 q6 q7 q8 out_1=>
 (cond (decide (i<(rows.length:Int))) (inB i rows.length ((bF_ n (ap_.mk q0 q1 q2 q3 q4 q5 q6 q7 q8) (rows.getD i.toNat TRow.dflt)).bind fun xr3=>(cond xr3 (inB i rows.length ((bI_ n (ap_.mk q0 q1 q2 q3 q4 q5 q6 q7 q8) out_1 (rows.getD i.toNat TRow.dflt)).bind fun xr4=>(back rows (W (i+1)) q0 q1 q2 q3 q4 q5 q6 q7 q8 xr4))) (back rows (W (i+1)) q0 q1 q2 q3 q4 q5 q6 q7 q8 out_1)))) (k0 out_1))
def bB_.loop8 (n:Nat) (k0:bB_.K8) (N:Nat):bB_.T8:=co_ (fun _ _ _ _ _ _ _ _ _ _ _ _=>none) (bB_.step8 n k0) N
def bB_:Nat→ar_→ap_→Option (List TRow)
 |0,_,_=>none
 |n+1,s,q=>
  ((bs_ n s).bind fun xr1=>(cond (!xr1) (some ([]:List TRow)) ((aB_ n s.schema q).bind fun xr2=>(cond (!xr2) (some ([]:List TRow)) (inB q.table s.tables.length (bB_.loop8 n (fun xy5=>(some xy5)) n (s.tables.getD q.table.toNat []) 0 q.table q.where_ q.order q.down q.first q.show_ q.kids q.kidTable q.kidCol ([]:List TRow)))))))
abbrev aQ_.K5:Type:=Int→Int→Bool→(List TKid)→Option (List TKid)
abbrev aQ_.T5:Type:=(List TKid)→Int→Int→Bool→Int→(List TKid)→Option (List TKid)
def aQ_.step5 (n:Nat) (k0:aQ_.K5) (back:aQ_.T5):aQ_.T5:=fun o append t2 t8 t9 t7=>
 (cond (decide (t9<(o.length:Int))) (inB t9 o.length (cond (!t8) (cond (decide (((o.getD t9.toNat TKid.dflt).id_)≥append)) (cond (((o.getD t9.toNat TKid.dflt).id_) == append) (cond (decide ((W (((o.getD t9.toNat TKid.dflt).n_)+t2)) > 0)) (bv_ (t7.length+([(TKid.mk append (W (((o.getD t9.toNat TKid.dflt).n_)+t2)))]:List TKid).length) 16 (cond (((o.getD t9.toNat TKid.dflt).id_) == append) (back o append t2 true (W (t9+1)) (t7++([(TKid.mk append (W (((o.getD t9.toNat TKid.dflt).n_)+t2)))]:List TKid))) (bv_ ((t7++([(TKid.mk append (W (((o.getD t9.toNat TKid.dflt).n_)+t2)))]:List TKid)).length+([(o.getD t9.toNat TKid.dflt)]:List TKid).length) 16 (back o append t2 true (W (t9+1)) ((t7++([(TKid.mk append (W (((o.getD t9.toNat TKid.dflt).n_)+t2)))]:List TKid))++([(o.getD t9.toNat TKid.dflt)]:List TKid)))))) (cond (((o.getD t9.toNat TKid.dflt).id_) == append) (back o append t2 true (W (t9+1)) t7) (bv_ (t7.length+([(o.getD t9.toNat TKid.dflt)]:List TKid).length) 16 (back o append t2 true (W (t9+1)) (t7++([(o.getD t9.toNat TKid.dflt)]:List TKid)))))) (cond (decide (t2 > 0)) (bv_ (t7.length+([(TKid.mk append t2)]:List TKid).length) 16 (cond (((o.getD t9.toNat TKid.dflt).id_) == append) (back o append t2 true (W (t9+1)) (t7++([(TKid.mk append t2)]:List TKid))) (bv_ ((t7++([(TKid.mk append t2)]:List TKid)).length+([(o.getD t9.toNat TKid.dflt)]:List TKid).length) 16 (back o append t2 true (W (t9+1)) ((t7++([(TKid.mk append t2)]:List TKid))++([(o.getD t9.toNat TKid.dflt)]:List TKid)))))) (cond (((o.getD t9.toNat TKid.dflt).id_) == append) (back o append t2 true (W (t9+1)) t7) (bv_ (t7.length+([(o.getD t9.toNat TKid.dflt)]:List TKid).length) 16 (back o append t2 true (W (t9+1)) (t7++([(o.getD t9.toNat TKid.dflt)]:List TKid))))))) (bv_ (t7.length+([(o.getD t9.toNat TKid.dflt)]:List TKid).length) 16 (back o append t2 t8 (W (t9+1)) (t7++([(o.getD t9.toNat TKid.dflt)]:List TKid))))) (bv_ (t7.length+([(o.getD t9.toNat TKid.dflt)]:List TKid).length) 16 (back o append t2 t8 (W (t9+1)) (t7++([(o.getD t9.toNat TKid.dflt)]:List TKid)))))) (k0 append t2 t8 t7))
def aQ_.loop5 (n:Nat) (k0:aQ_.K5) (N:Nat):aQ_.T5:=co_ (fun _ _ _ _ _ _=>none) (aQ_.step5 n k0) N
def aQ_:Nat→(List TKid)→Int→Int→Option (List TKid)
 |0,_,_,_=>none
 |n+1,o,append,a2=>
  (aQ_.loop5 n (fun xy1 xy2 xy3 xy4=>(cond (!xy3) (cond (decide (xy2 > 0)) (bv_ (xy4.length+([(TKid.mk xy1 xy2)]:List TKid).length) 16 (some (xy4++([(TKid.mk xy1 xy2)]:List TKid)))) (some xy4)) (some xy4))) n o append a2 false 0 ([]:List TKid))
abbrev bM_.K8:Type:=Int→Int→Bool→Int→Bool→Int→Int→Int→Int→Bool→Int→Bool→Int→Int→(List br_)→(List Int)→(List TRow)→(List TKid)→Option (aJ_ × Bool)
abbrev bM_.T8:Type:=(List TRow)→Int→Int→(List br_)→Int→Bool→Int→(List Int)→Bool→Int→Int→Int→Int→Bool→Int→Bool→Int→Int→Int→Int→Bool→Int→Bool→Int→Int→(List br_)→(List Int)→(List TRow)→(List TKid)→Option (aJ_ × Bool)
def bM_.step8 (n:Nat) (k0:bM_.K8) (back:bM_.T8):bM_.T8:=fun rows i q0 q1 q2 q3 q4 q5 q6 q7 q8 t40 t42 t43 t44 t46 t47 t48 v0 v2 v3 v4 v6 v7 v8 v1 v5 v9 v10=>
 (cond (decide (i<(rows.length:Int))) (cond q6 (inB i rows.length (inB q8 ((rows.getD i.toNat TRow.dflt).cells).length ((aQ_ n v10 (((rows.getD i.toNat TRow.dflt).cells).getD q8.toNat 0) 1).bind fun xr5=>(back rows (W (i+1)) q0 q1 q2 q3 q4 q5 q6 q7 q8 t40 t42 t43 t44 t46 t47 t48 v0 v2 v3 v4 v6 v7 v8 v1 v5 v9 xr5)))) (k0 t40 t42 t43 t44 t46 t47 t48 v0 v2 v3 v4 v6 v7 v8 v1 v5 v9 v10)) (k0 t40 t42 t43 t44 t46 t47 t48 v0 v2 v3 v4 v6 v7 v8 v1 v5 v9 v10))
def bM_.loop8 (n:Nat) (k0:bM_.K8) (N:Nat):bM_.T8:=co_ (fun _ _ _ _ _ _ _ _ _ _ _ _ _ _ _ _ _ _ _ _ _ _ _ _ _ _ _ _ _=>none) (bM_.step8 n k0) N
def bM_:Nat→ar_→ap_→Option (aJ_ × Bool)
 |0,_,_=>none
 |n+1,s,q=>
  ((bs_ n s).bind fun xr1=>(cond (!xr1) (some ((aJ_.mk (ap_.mk 0 ([]:List br_) 0 false 0 ([]:List Int) false 0 0) ([]:List TRow) ([]:List TKid)),false)) ((aB_ n s.schema q).bind fun xr2=>(cond (!xr2) (some ((aJ_.mk (ap_.mk 0 ([]:List br_) 0 false 0 ([]:List Int) false 0 0) ([]:List TRow) ([]:List TKid)),false)) ((eg_ n q).bind fun xr3=>((bB_ n s q).bind fun xr4=>(inB q.kidTable s.tables.length (bM_.loop8 n (fun xy6 xy7 xy8 xy9 xy10 xy11 xy12 xy13 xy14 xy15 xy16 xy17 xy18 xy19 xy20 xy21 xy22 xy23=>(some ((aJ_.mk (ap_.mk xy13 xy20 xy14 xy15 xy16 xy21 xy17 xy18 xy19) xy22 xy23),true))) n (s.tables.getD q.kidTable.toNat []) 0 q.table q.where_ q.order q.down q.first q.show_ q.kids q.kidTable q.kidCol 0 0 false 0 false 0 0 xr3.table xr3.order xr3.down xr3.first xr3.kids xr3.kidTable xr3.kidCol xr3.where_ xr3.show_ xr4 ([]:List TKid)))))))))
def d7_:Nat→ar_→ap_→Option (bS_ × Bool)
 |0,_,_=>none
 |n+1,s,q=>
  ((bM_ n s q).bind fun xr1=>(cond (!xr1.2) (some ((bS_.mk (aJ_.mk (ap_.mk 0 ([]:List br_) 0 false 0 ([]:List Int) false 0 0) ([]:List TRow) ([]:List TKid)) 0 (aJ_.mk (ap_.mk 0 ([]:List br_) 0 false 0 ([]:List Int) false 0 0) ([]:List TRow) ([]:List TKid)) 0 false),false)) (some ((bS_.mk xr1.1 s.version (aJ_.mk (ap_.mk 0 ([]:List br_) 0 false 0 ([]:List Int) false 0 0) ([]:List TRow) ([]:List TKid)) 0 false),true))))
abbrev bL_.K4:Type:=(List TRow)→Option (List TRow)
abbrev bL_.T4:Type:=(List TRow)→Int→(List TRow)→Option (List TRow)
def bL_.step4 (n:Nat) (k0:bL_.K4) (back:bL_.T4):bL_.T4:=fun rows i out_1=>
 (cond (decide (i<(rows.length:Int))) (inB i rows.length ((cq_ n (rows.getD i.toNat TRow.dflt)).bind fun xr1=>(bv_ (out_1.length+([xr1]:List TRow).length) 32 (back rows (W (i+1)) (out_1++([xr1]:List TRow)))))) (k0 out_1))
def bL_.loop4 (n:Nat) (k0:bL_.K4) (N:Nat):bL_.T4:=co_ (fun _ _ _=>none) (bL_.step4 n k0) N
def bL_:Nat→(List TRow)→Option (List TRow)
 |0,_=>none
 |n+1,rows=>
  (bL_.loop4 n (fun xy2=>(some xy2)) n rows 0 ([]:List TRow))
def cI_:Nat→aJ_→Option aJ_
 |0,_=>none
 |n+1,v=>
  ((eg_ n v.q).bind fun xr1=>((bL_ n v.rows).bind fun xr2=>(bv_ (([]:List TKid).length+v.kids.length) 16 (some (aJ_.mk xr1 xr2 (([]:List TKid)++v.kids))))))
def dK_:Nat→bS_→Option bS_
 |0,_=>none
 |n+1,x=>
  ((cI_ n x.view).bind fun xr1=>((cI_ n x.last).bind fun xr2=>(some { x with view:=xr1,last:=xr2 })))
abbrev bY_.T3:Type:=Int→Int→Int→(List br_)→Int→Bool→Int→(List Int)→Bool→Int→Int→(List TRow)→(List TKid)→Option Int
def bY_.step3 (n:Nat) (k0:Option Int) (back:bY_.T3):bY_.T3:=fun id_1 i v0 v1 v2 v3 v4 v5 v6 v7 v8 v9 v10=>
 (cond (decide (i<(v10.length:Int))) (inB i v10.length (cond (((v10.getD i.toNat TKid.dflt).id_) == id_1) (inB i v10.length (some ((v10.getD i.toNat TKid.dflt).n_))) (back id_1 (W (i+1)) v0 v1 v2 v3 v4 v5 v6 v7 v8 v9 v10))) k0)
def bY_.loop3 (n:Nat) (k0:Option Int) (N:Nat):bY_.T3:=co_ (fun _ _ _ _ _ _ _ _ _ _ _ _ _=>none) (bY_.step3 n k0) N
def bY_:Nat→aJ_→Int→Option Int
 |0,_,_=>none
 |n+1,v,id1=>
  (bY_.loop3 n (some 0) n id1 0 v.q.table v.q.where_ v.q.order v.q.down v.q.first v.q.show_ v.q.kids v.q.kidTable v.q.kidCol v.rows v.kids)
abbrev a8_.K4:Type:=(List Int)→Option (List Int)
abbrev a8_.T4:Type:=Int→Int→(List br_)→Int→Bool→Int→(List Int)→Bool→Int→Int→(List TRow)→(List TKid)→(List Int)→Option (List Int)
def a8_.step4 (n:Nat) (k0:a8_.K4) (back:a8_.T4):a8_.T4:=fun i v0 v1 v2 v3 v4 v5 v6 v7 v8 v9 v10 out_1=>
 (cond (decide (i<(v9.length:Int))) (inB i v9.length ((bY_ n (aJ_.mk (ap_.mk v0 v1 v2 v3 v4 v5 v6 v7 v8) v9 v10) ((v9.getD i.toNat TRow.dflt).id_)).bind fun xr1=>(bv_ (out_1.length+([xr1]:List Int).length) 8 (back (W (i+1)) v0 v1 v2 v3 v4 v5 v6 v7 v8 v9 v10 (out_1++([xr1]:List Int)))))) (k0 out_1))
def a8_.loop4 (n:Nat) (k0:a8_.K4) (N:Nat):a8_.T4:=co_ (fun _ _ _ _ _ _ _ _ _ _ _ _ _=>none) (a8_.step4 n k0) N
def a8_:Nat→aJ_→Option (List Int)
 |0,_=>none
 |n+1,v=>
  (a8_.loop4 n (fun xy2=>(some xy2)) n 0 v.q.table v.q.where_ v.q.order v.q.down v.q.first v.q.show_ v.q.kids v.q.kidTable v.q.kidCol v.rows v.kids ([]:List Int))
def eW_:Nat→Int→Int→Option Int
 |0,_,_=>none
 |n+1,a,b=>
  (cond (decide (a<b)) (some a) (some b))
def dq_:Nat→ap_→Int→Option Int
 |0,_,_=>none
 |n+1,q,n1=>
  (cond (q.first == 0) (some n1) ((eW_ n n1 q.first).bind fun xr1=>((cz_ n xr1 0).bind fun xr2=>(some xr2))))
abbrev a0_.K7:Type:=Bool→Bs→Option Bs
abbrev a0_.T7:Type:=Int→Bool→Bs→Option Bs
def a0_.step7 (n:Nat) (k0:a0_.K7) (back:a0_.T7):a0_.T7:=fun n_1 below out_1=>
 (cond (n_1 != 0) (cond (decide ((Int.tmod n_1 10)<0)) (let xv1:Bs:=(so_ ([(IntKind.u8.wrap ((W (48+(W (0 - (Int.tmod n_1 10)))))))]:List Int));(cond (decide (xv1.length+out_1.length≤9223372036854775807)) (back (W (Int.tdiv n_1 10)) below (xv1++out_1)) none)) (cond (decide ((so_ ([(IntKind.u8.wrap ((W (48+(Int.tmod n_1 10)))))]:List Int)).length+out_1.length≤9223372036854775807)) (let xv2:Bs:=((so_ ([(IntKind.u8.wrap ((W (48+(Int.tmod n_1 10)))))]:List Int))++out_1);(back (W (Int.tdiv n_1 10)) below xv2)) none)) (k0 below out_1))
def a0_.loop7 (n:Nat) (k0:a0_.K7) (N:Nat):a0_.T7:=co_ (fun _ _ _=>none) (a0_.step7 n k0) N
def a0_:Nat→Int→Option Bs
 |0,_=>none
 |n+1,n1=>
  (cond (n1 == 0) (some [48]) (a0_.loop7 n (fun xy3 xy4=>(cond xy3 (cond (decide ([45].length+xy4.length≤9223372036854775807)) (some (([45]:Bs)++xy4)) none) (some xy4))) n n1 (decide (n1<0)) []))
def cY_:Nat→Int→Option aa_
 |0,_=>none
 |n+1,n1=>
  (some (aa_.mk 2 n1 [] ([]:List aa_) ([]:List Bs)))
abbrev bG_.K5:Type:=Bs→Bool→Int→Int→Bs→(List aa_)→(List Bs)→Int→Int→Bs→Int→Int→Bs→(List aa_)→(List Bs)→Option aa_
abbrev bG_.T5:Type:=Bs→Bool→Int→Int→Int→Bs→(List aa_)→(List Bs)→Int→Int→Bs→(List aa_)→(List Bs)→Int→Int→Bs→Int→Int→Bs→(List aa_)→(List Bs)→Option aa_
def bG_.step5 (n:Nat) (k0:bG_.K5) (back:bG_.T5):bG_.T5:=fun append t8 t9 t30 t31 t32 t33 t34 t50 t51 t52 t53 t54 t60 t61 t62 t70 t71 t72 t73 t74=>
 (cond (decide (t9<(t34.length:Int))) (cond (!t8) (inB t9 t34.length (cond (!Op.bytesLess (t34.getD t9.toNat []) append) (bv_ (t74.length+([append]:List Bs).length) 16 (bv_ (t73.length+([(aa_.mk t50 t51 t52 t53 t54)]:List aa_).length) 80 (inB t9 t34.length (cond (!((t34.getD t9.toNat []) == append)) (inB t9 t34.length (bv_ ((t74++([append]:List Bs)).length+([(t34.getD t9.toNat [])]:List Bs).length) 16 (inB t9 t33.length (bv_ ((t73++([(aa_.mk t50 t51 t52 t53 t54)]:List aa_)).length+([(aa_.re (t33.getD t9.toNat aa_.dflt))]:List aa_).length) 80 (back append true (W (t9+1)) t30 t31 t32 t33 t34 t50 t51 t52 t53 t54 t60 t61 t62 t70 t71 t72 ((t73++([(aa_.mk t50 t51 t52 t53 t54)]:List aa_))++([(aa_.re (t33.getD t9.toNat aa_.dflt))]:List aa_)) ((t74++([append]:List Bs))++([(t34.getD t9.toNat [])]:List Bs))))))) (back append true (W (t9+1)) t30 t31 t32 t33 t34 t50 t51 t52 t53 t54 t60 t61 t62 t70 t71 t72 (t73++([(aa_.mk t50 t51 t52 t53 t54)]:List aa_)) (t74++([append]:List Bs))))))) (inB t9 t34.length (cond (!((t34.getD t9.toNat []) == append)) (inB t9 t34.length (bv_ (t74.length+([(t34.getD t9.toNat [])]:List Bs).length) 16 (inB t9 t33.length (bv_ (t73.length+([(aa_.re (t33.getD t9.toNat aa_.dflt))]:List aa_).length) 80 (back append t8 (W (t9+1)) t30 t31 t32 t33 t34 t50 t51 t52 t53 t54 t60 t61 t62 t70 t71 t72 (t73++([(aa_.re (t33.getD t9.toNat aa_.dflt))]:List aa_)) (t74++([(t34.getD t9.toNat [])]:List Bs))))))) (back append t8 (W (t9+1)) t30 t31 t32 t33 t34 t50 t51 t52 t53 t54 t60 t61 t62 t70 t71 t72 t73 t74))))) (inB t9 t34.length (cond (!((t34.getD t9.toNat []) == append)) (inB t9 t34.length (bv_ (t74.length+([(t34.getD t9.toNat [])]:List Bs).length) 16 (inB t9 t33.length (bv_ (t73.length+([(aa_.re (t33.getD t9.toNat aa_.dflt))]:List aa_).length) 80 (back append t8 (W (t9+1)) t30 t31 t32 t33 t34 t50 t51 t52 t53 t54 t60 t61 t62 t70 t71 t72 (t73++([(aa_.re (t33.getD t9.toNat aa_.dflt))]:List aa_)) (t74++([(t34.getD t9.toNat [])]:List Bs))))))) (back append t8 (W (t9+1)) t30 t31 t32 t33 t34 t50 t51 t52 t53 t54 t60 t61 t62 t70 t71 t72 t73 t74)))) (k0 append t8 t50 t51 t52 t53 t54 t60 t61 t62 t70 t71 t72 t73 t74))
def bG_.loop5 (n:Nat) (k0:bG_.K5) (N:Nat):bG_.T5:=co_ (fun _ _ _ _ _ _ _ _ _ _ _ _ _ _ _ _ _ _ _ _ _=>none) (bG_.step5 n k0) N
def bG_:Nat→aa_→Bs→aa_→Option aa_
 |0,_,_,_=>none
 |n+1,o,append,a2=>
  (bG_.loop5 n (fun xy1 xy2 xy3 xy4 xy5 xy6 xy7 xy8 xy9 xy10 xy11 xy12 xy13 xy14 xy15=>(cond (!xy2) (bv_ (xy15.length+([xy1]:List Bs).length) 16 (bv_ (xy14.length+([(aa_.mk xy3 xy4 xy5 xy6 xy7)]:List aa_).length) 80 (some (aa_.mk xy11 xy12 xy13 (xy14++([(aa_.mk xy3 xy4 xy5 xy6 xy7)]:List aa_)) (xy15++([xy1]:List Bs)))))) (some (aa_.mk xy11 xy12 xy13 xy14 xy15)))) n append false 0 o.kind o.n_ o.s o.list o.names a2.kind a2.n_ a2.s a2.list a2.names 0 0 [] 5 0 [] ([]:List aa_) ([]:List Bs))
abbrev bE_.K4:Type:=Int→Int→(List br_)→Int→Bool→Int→(List Int)→Bool→Int→Int→Int→(List Int)→Int→Int→Bs→Int→Int→Bs→(List aa_)→(List Bs)→Option aa_
abbrev bE_.T4:Type:=Int→Int→Int→(List br_)→Int→Bool→Int→(List Int)→Bool→Int→Int→Int→(List Int)→Int→Int→Bs→Int→Int→Bs→(List aa_)→(List Bs)→Option aa_
def bE_.step4 (n:Nat) (k0:bE_.K4) (back:bE_.T4):bE_.T4:=fun kids i q0 q1 q2 q3 q4 q5 q6 q7 q8 r0 r1 t60 t61 t62 out0 out1 out2 out3 out4=>
 (cond (decide (i<(q5.length:Int))) (inB i q5.length ((a0_ n (q5.getD i.toNat 0)).bind fun xr1=>(cond (decide ([99].length+xr1.length≤9223372036854775807)) (inB i q5.length ((bH_ n (TRow.mk r0 r1) (q5.getD i.toNat 0)).bind fun xr2=>((cY_ n xr2).bind fun xr3=>((bG_ n (aa_.mk out0 out1 out2 out3 out4) (([99]:Bs)++xr1) (aa_.re xr3)).bind fun xr4=>(back kids (W (i+1)) q0 q1 q2 q3 q4 q5 q6 q7 q8 r0 r1 t60 t61 t62 xr4.kind xr4.n_ xr4.s xr4.list xr4.names))))) none))) (k0 kids q0 q1 q2 q3 q4 q5 q6 q7 q8 r0 r1 t60 t61 t62 out0 out1 out2 out3 out4))
def bE_.loop4 (n:Nat) (k0:bE_.K4) (N:Nat):bE_.T4:=co_ (fun _ _ _ _ _ _ _ _ _ _ _ _ _ _ _ _ _ _ _ _ _=>none) (bE_.step4 n k0) N
def bE_:Nat→ap_→TRow→Int→Option aa_
 |0,_,_,_=>none
 |n+1,q,r,kids=>
  (bE_.loop4 n (fun xy5 xy6 xy7 xy8 xy9 xy10 xy11 xy12 xy13 xy14 xy15 xy16 xy17 xy18 xy19 xy20 xy21 xy22 xy23 xy24=>((cY_ n xy15).bind fun xr25=>((bG_ n (aa_.mk xy20 xy21 xy22 xy23 xy24) [105,100] (aa_.re xr25)).bind fun xr26=>(cond xy12 ((cY_ n xy5).bind fun xr27=>((bG_ n (aa_.re xr26) [107,105,100,115] (aa_.re xr27)).bind fun xr28=>(some (aa_.re xr28)))) (some (aa_.re xr26)))))) n kids 0 q.table q.where_ q.order q.down q.first q.show_ q.kids q.kidTable q.kidCol r.id_ r.cells 0 0 [] 5 0 [] ([]:List aa_) ([]:List Bs))
abbrev bV_.T3:Type:=Bs→Int→Option Bool
def bV_.step3 (n:Nat) (k0:Bs→Option Bool) (back:bV_.T3):bV_.T3:=fun s i=>
 (cond (decide (i<(s.length:Int))) (inB i s.length (cond (decide (((s.getD i.toNat 0).toNat:Int)<32)) (some false) (inB i s.length (cond (decide (((s.getD i.toNat 0).toNat:Int) > 126)) (some false) (back s (W (i+1))))))) (k0 s))
def bV_.loop3 (n:Nat) (k0:Bs→Option Bool) (N:Nat):bV_.T3:=co_ (fun _ _=>none) (bV_.step3 n k0) N
def bV_:Nat→Bs→Option Bool
 |0,_=>none
 |n+1,s=>
  (bV_.loop3 n (fun xy1=>(some (decide ((xy1.length:Int)≤60)))) n s 0)
abbrev ae_.K6:Type:=Int→Int→Bs→(List aa_)→(List Bs)→Option Bool
abbrev ae_.T6:Type:=Int→Int→Int→Bs→(List aa_)→(List Bs)→Option Bool
def ae_.step6 (n:Nat) (k0:ae_.K6) (back:ae_.T6):ae_.T6:=fun i j0 j1 j2 j3 j4=>
 (cond (decide (i<(j4.length:Int))) (inB i j4.length ((bV_ n (j4.getD i.toNat [])).bind fun xr1=>(cond (!xr1) (some false) (cond (decide (i > 0)) (inB (W (i - 1)) j4.length (inB i j4.length (cond (!Op.bytesLess (j4.getD (W (i - 1)).toNat []) (j4.getD i.toNat [])) (some false) (back (W (i+1)) j0 j1 j2 j3 j4)))) (back (W (i+1)) j0 j1 j2 j3 j4))))) (k0 j0 j1 j2 j3 j4))
def ae_.loop6 (n:Nat) (k0:ae_.K6) (N:Nat):ae_.T6:=co_ (fun _ _ _ _ _ _=>none) (ae_.step6 n k0) N
def ae_:Nat→aa_→Option Bool
 |0,_=>none
 |n+1,j=>
  (cond (j.kind != 5) (some ((j.names.length:Int) == 0)) (ae_.loop6 n (fun xy2 xy3 xy4 xy5 xy6=>(some ((xy6.length:Int) == (xy5.length:Int)))) n 0 j.kind j.n_ j.s j.list j.names))
abbrev aR_.K23_1:Type:=Int→Int→Int→Int→Bs→(List aa_)→(List Bs)→Option Int
abbrev aR_.T23:Type:=Int→Int→Int→Int→Int→Int→Bs→(List aa_)→(List Bs)→Option Int
def aR_.step23 (n:Nat) (spec_l1Great_:aa_→Int→Option Int) (k1:aR_.K23_1) (back:aR_.T23):aR_.T23:=fun append t5 t6 t7 t20 t21 t22 t23 t24=>
 (cond (decide (t7<(t23.length:Int))) (cond (decide (t6≤400)) (inB t7 t23.length ((spec_l1Great_ (aa_.re (t23.getD t7.toNat aa_.dflt)) (W (append - 1))).bind fun xr52=>(back append t5 (W (t6+xr52)) (W (t7+1)) t20 t21 t22 t23 t24))) (k1 t5 t6 t20 t21 t22 t23 t24)) (k1 t5 t6 t20 t21 t22 t23 t24))
def aR_.loop23 (n:Nat) (spec_l1Great_:aa_→Int→Option Int) (k1:aR_.K23_1) (N:Nat):aR_.T23:=co_ (fun _ _ _ _ _ _ _ _ _=>none) (aR_.step23 n spec_l1Great_ k1) N
def aR_:Nat→aa_→Int→Option Int
 |0,_,_=>none
 |n+1,o,append=>
  (cond (append == 0) (some 401) (cond (o.kind == 0) (cond (o.n_ != 0) (some 401) (cond (o.kind != 3) (cond (!(o.s == [])) (some 401) (cond (o.kind == 3) (cond (o.n_ != 0) (some 401) (cond (decide (o.kind<4)) (cond (decide ((o.list.length:Int) > 0)) (some 401) ((ae_ n (aa_.re o)).bind fun xr1=>(cond (!xr1) (some 401) (some 1)))) ((ae_ n (aa_.re o)).bind fun xr2=>(cond (!xr2) (some 401) (some 1))))) (cond (decide (o.kind≥4)) (cond (o.n_ != 0) (some 401) (cond (decide (o.kind<4)) (cond (decide ((o.list.length:Int) > 0)) (some 401) ((ae_ n (aa_.re o)).bind fun xr3=>(cond (!xr3) (some 401) (some 1)))) ((ae_ n (aa_.re o)).bind fun xr4=>(cond (!xr4) (some 401) (some 1))))) (cond (decide (o.kind<4)) (cond (decide ((o.list.length:Int) > 0)) (some 401) ((ae_ n (aa_.re o)).bind fun xr5=>(cond (!xr5) (some 401) (some 1)))) ((ae_ n (aa_.re o)).bind fun xr6=>(cond (!xr6) (some 401) (some 1))))))) (cond (o.kind == 3) (cond (o.n_ != 0) (some 401) (cond (decide (o.kind<4)) (cond (decide ((o.list.length:Int) > 0)) (some 401) ((ae_ n (aa_.re o)).bind fun xr7=>(cond (!xr7) (some 401) (some 1)))) ((ae_ n (aa_.re o)).bind fun xr8=>(cond (!xr8) (some 401) (some 1))))) (cond (decide (o.kind≥4)) (cond (o.n_ != 0) (some 401) (cond (decide (o.kind<4)) (cond (decide ((o.list.length:Int) > 0)) (some 401) ((ae_ n (aa_.re o)).bind fun xr9=>(cond (!xr9) (some 401) (some 1)))) ((ae_ n (aa_.re o)).bind fun xr10=>(cond (!xr10) (some 401) (some 1))))) (cond (decide (o.kind<4)) (cond (decide ((o.list.length:Int) > 0)) (some 401) ((ae_ n (aa_.re o)).bind fun xr11=>(cond (!xr11) (some 401) (some 1)))) ((ae_ n (aa_.re o)).bind fun xr12=>(cond (!xr12) (some 401) (some 1)))))))) (cond (o.kind == 1) ((b4_ n o.n_ 0 1).bind fun xr13=>(cond (!xr13) (some 401) (cond (o.kind != 3) (cond (!(o.s == [])) (some 401) (cond (o.kind == 3) (cond (o.n_ != 0) (some 401) (cond (decide (o.kind<4)) (cond (decide ((o.list.length:Int) > 0)) (some 401) ((ae_ n (aa_.re o)).bind fun xr14=>(cond (!xr14) (some 401) (some 1)))) ((ae_ n (aa_.re o)).bind fun xr15=>(cond (!xr15) (some 401) (some 1))))) (cond (decide (o.kind≥4)) (cond (o.n_ != 0) (some 401) (cond (decide (o.kind<4)) (cond (decide ((o.list.length:Int) > 0)) (some 401) ((ae_ n (aa_.re o)).bind fun xr16=>(cond (!xr16) (some 401) (some 1)))) ((ae_ n (aa_.re o)).bind fun xr17=>(cond (!xr17) (some 401) (some 1))))) (cond (decide (o.kind<4)) (cond (decide ((o.list.length:Int) > 0)) (some 401) ((ae_ n (aa_.re o)).bind fun xr18=>(cond (!xr18) (some 401) (some 1)))) ((ae_ n (aa_.re o)).bind fun xr19=>(cond (!xr19) (some 401) (some 1))))))) (cond (o.kind == 3) (cond (o.n_ != 0) (some 401) (cond (decide (o.kind<4)) (cond (decide ((o.list.length:Int) > 0)) (some 401) ((ae_ n (aa_.re o)).bind fun xr20=>(cond (!xr20) (some 401) (some 1)))) ((ae_ n (aa_.re o)).bind fun xr21=>(cond (!xr21) (some 401) (some 1))))) (cond (decide (o.kind≥4)) (cond (o.n_ != 0) (some 401) (cond (decide (o.kind<4)) (cond (decide ((o.list.length:Int) > 0)) (some 401) ((ae_ n (aa_.re o)).bind fun xr22=>(cond (!xr22) (some 401) (some 1)))) ((ae_ n (aa_.re o)).bind fun xr23=>(cond (!xr23) (some 401) (some 1))))) (cond (decide (o.kind<4)) (cond (decide ((o.list.length:Int) > 0)) (some 401) ((ae_ n (aa_.re o)).bind fun xr24=>(cond (!xr24) (some 401) (some 1)))) ((ae_ n (aa_.re o)).bind fun xr25=>(cond (!xr25) (some 401) (some 1))))))))) (cond (o.kind == 2) ((b4_ n o.n_ (-1000000000) 1000000000).bind fun xr26=>(cond (!xr26) (some 401) (cond (o.kind != 3) (cond (!(o.s == [])) (some 401) (cond (o.kind == 3) (cond (o.n_ != 0) (some 401) (cond (decide (o.kind<4)) (cond (decide ((o.list.length:Int) > 0)) (some 401) ((ae_ n (aa_.re o)).bind fun xr27=>(cond (!xr27) (some 401) (some 1)))) ((ae_ n (aa_.re o)).bind fun xr28=>(cond (!xr28) (some 401) (some 1))))) (cond (decide (o.kind≥4)) (cond (o.n_ != 0) (some 401) (cond (decide (o.kind<4)) (cond (decide ((o.list.length:Int) > 0)) (some 401) ((ae_ n (aa_.re o)).bind fun xr29=>(cond (!xr29) (some 401) (some 1)))) ((ae_ n (aa_.re o)).bind fun xr30=>(cond (!xr30) (some 401) (some 1))))) (cond (decide (o.kind<4)) (cond (decide ((o.list.length:Int) > 0)) (some 401) ((ae_ n (aa_.re o)).bind fun xr31=>(cond (!xr31) (some 401) (some 1)))) ((ae_ n (aa_.re o)).bind fun xr32=>(cond (!xr32) (some 401) (some 1))))))) (cond (o.kind == 3) (cond (o.n_ != 0) (some 401) (cond (decide (o.kind<4)) (cond (decide ((o.list.length:Int) > 0)) (some 401) ((ae_ n (aa_.re o)).bind fun xr33=>(cond (!xr33) (some 401) (some 1)))) ((ae_ n (aa_.re o)).bind fun xr34=>(cond (!xr34) (some 401) (some 1))))) (cond (decide (o.kind≥4)) (cond (o.n_ != 0) (some 401) (cond (decide (o.kind<4)) (cond (decide ((o.list.length:Int) > 0)) (some 401) ((ae_ n (aa_.re o)).bind fun xr35=>(cond (!xr35) (some 401) (some 1)))) ((ae_ n (aa_.re o)).bind fun xr36=>(cond (!xr36) (some 401) (some 1))))) (cond (decide (o.kind<4)) (cond (decide ((o.list.length:Int) > 0)) (some 401) ((ae_ n (aa_.re o)).bind fun xr37=>(cond (!xr37) (some 401) (some 1)))) ((ae_ n (aa_.re o)).bind fun xr38=>(cond (!xr38) (some 401) (some 1))))))))) (cond (o.kind == 3) ((bV_ n o.s).bind fun xr39=>(cond (!xr39) (some 401) (cond (o.kind != 3) (cond (!(o.s == [])) (some 401) (cond (o.kind == 3) (cond (o.n_ != 0) (some 401) (cond (decide (o.kind<4)) (cond (decide ((o.list.length:Int) > 0)) (some 401) ((ae_ n (aa_.re o)).bind fun xr40=>(cond (!xr40) (some 401) (some 1)))) ((ae_ n (aa_.re o)).bind fun xr41=>(cond (!xr41) (some 401) (some 1))))) (cond (decide (o.kind≥4)) (cond (o.n_ != 0) (some 401) (cond (decide (o.kind<4)) (cond (decide ((o.list.length:Int) > 0)) (some 401) ((ae_ n (aa_.re o)).bind fun xr42=>(cond (!xr42) (some 401) (some 1)))) ((ae_ n (aa_.re o)).bind fun xr43=>(cond (!xr43) (some 401) (some 1))))) (cond (decide (o.kind<4)) (cond (decide ((o.list.length:Int) > 0)) (some 401) ((ae_ n (aa_.re o)).bind fun xr44=>(cond (!xr44) (some 401) (some 1)))) ((ae_ n (aa_.re o)).bind fun xr45=>(cond (!xr45) (some 401) (some 1))))))) (cond (o.kind == 3) (cond (o.n_ != 0) (some 401) (cond (decide (o.kind<4)) (cond (decide ((o.list.length:Int) > 0)) (some 401) ((ae_ n (aa_.re o)).bind fun xr46=>(cond (!xr46) (some 401) (some 1)))) ((ae_ n (aa_.re o)).bind fun xr47=>(cond (!xr47) (some 401) (some 1))))) (cond (decide (o.kind≥4)) (cond (o.n_ != 0) (some 401) (cond (decide (o.kind<4)) (cond (decide ((o.list.length:Int) > 0)) (some 401) ((ae_ n (aa_.re o)).bind fun xr48=>(cond (!xr48) (some 401) (some 1)))) ((ae_ n (aa_.re o)).bind fun xr49=>(cond (!xr49) (some 401) (some 1))))) (cond (decide (o.kind<4)) (cond (decide ((o.list.length:Int) > 0)) (some 401) ((ae_ n (aa_.re o)).bind fun xr50=>(cond (!xr50) (some 401) (some 1)))) ((ae_ n (aa_.re o)).bind fun xr51=>(cond (!xr51) (some 401) (some 1))))))))) (cond (o.kind == 4) (cond (o.kind == 4) (aR_.loop23 n (aR_ n) (fun xy53 xy54 xy55 xy56 xy57 xy58 xy59=>(cond (xy55 != 3) (cond (!(xy57 == [])) (some xy53) (cond (xy55 == 3) (cond (xy56 != 0) (some xy53) (cond (decide (xy55<4)) (cond (decide ((xy58.length:Int) > 0)) (some xy53) ((ae_ n (aa_.mk xy55 xy56 xy57 xy58 xy59)).bind fun xr60=>(cond (!xr60) (some xy53) (some xy54)))) ((ae_ n (aa_.mk xy55 xy56 xy57 xy58 xy59)).bind fun xr61=>(cond (!xr61) (some xy53) (some xy54))))) (cond (decide (xy55≥4)) (cond (xy56 != 0) (some xy53) (cond (decide (xy55<4)) (cond (decide ((xy58.length:Int) > 0)) (some xy53) ((ae_ n (aa_.mk xy55 xy56 xy57 xy58 xy59)).bind fun xr62=>(cond (!xr62) (some xy53) (some xy54)))) ((ae_ n (aa_.mk xy55 xy56 xy57 xy58 xy59)).bind fun xr63=>(cond (!xr63) (some xy53) (some xy54))))) (cond (decide (xy55<4)) (cond (decide ((xy58.length:Int) > 0)) (some xy53) ((ae_ n (aa_.mk xy55 xy56 xy57 xy58 xy59)).bind fun xr64=>(cond (!xr64) (some xy53) (some xy54)))) ((ae_ n (aa_.mk xy55 xy56 xy57 xy58 xy59)).bind fun xr65=>(cond (!xr65) (some xy53) (some xy54))))))) (cond (xy55 == 3) (cond (xy56 != 0) (some xy53) (cond (decide (xy55<4)) (cond (decide ((xy58.length:Int) > 0)) (some xy53) ((ae_ n (aa_.mk xy55 xy56 xy57 xy58 xy59)).bind fun xr66=>(cond (!xr66) (some xy53) (some xy54)))) ((ae_ n (aa_.mk xy55 xy56 xy57 xy58 xy59)).bind fun xr67=>(cond (!xr67) (some xy53) (some xy54))))) (cond (decide (xy55≥4)) (cond (xy56 != 0) (some xy53) (cond (decide (xy55<4)) (cond (decide ((xy58.length:Int) > 0)) (some xy53) ((ae_ n (aa_.mk xy55 xy56 xy57 xy58 xy59)).bind fun xr68=>(cond (!xr68) (some xy53) (some xy54)))) ((ae_ n (aa_.mk xy55 xy56 xy57 xy58 xy59)).bind fun xr69=>(cond (!xr69) (some xy53) (some xy54))))) (cond (decide (xy55<4)) (cond (decide ((xy58.length:Int) > 0)) (some xy53) ((ae_ n (aa_.mk xy55 xy56 xy57 xy58 xy59)).bind fun xr70=>(cond (!xr70) (some xy53) (some xy54)))) ((ae_ n (aa_.mk xy55 xy56 xy57 xy58 xy59)).bind fun xr71=>(cond (!xr71) (some xy53) (some xy54)))))))) n append 401 1 0 o.kind o.n_ o.s o.list o.names) (some 401)) (cond (o.kind == 5) (aR_.loop23 n (aR_ n) (fun xy72 xy73 xy74 xy75 xy76 xy77 xy78=>(cond (xy74 != 3) (cond (!(xy76 == [])) (some xy72) (cond (xy74 == 3) (cond (xy75 != 0) (some xy72) (cond (decide (xy74<4)) (cond (decide ((xy77.length:Int) > 0)) (some xy72) ((ae_ n (aa_.mk xy74 xy75 xy76 xy77 xy78)).bind fun xr79=>(cond (!xr79) (some xy72) (some xy73)))) ((ae_ n (aa_.mk xy74 xy75 xy76 xy77 xy78)).bind fun xr80=>(cond (!xr80) (some xy72) (some xy73))))) (cond (decide (xy74≥4)) (cond (xy75 != 0) (some xy72) (cond (decide (xy74<4)) (cond (decide ((xy77.length:Int) > 0)) (some xy72) ((ae_ n (aa_.mk xy74 xy75 xy76 xy77 xy78)).bind fun xr81=>(cond (!xr81) (some xy72) (some xy73)))) ((ae_ n (aa_.mk xy74 xy75 xy76 xy77 xy78)).bind fun xr82=>(cond (!xr82) (some xy72) (some xy73))))) (cond (decide (xy74<4)) (cond (decide ((xy77.length:Int) > 0)) (some xy72) ((ae_ n (aa_.mk xy74 xy75 xy76 xy77 xy78)).bind fun xr83=>(cond (!xr83) (some xy72) (some xy73)))) ((ae_ n (aa_.mk xy74 xy75 xy76 xy77 xy78)).bind fun xr84=>(cond (!xr84) (some xy72) (some xy73))))))) (cond (xy74 == 3) (cond (xy75 != 0) (some xy72) (cond (decide (xy74<4)) (cond (decide ((xy77.length:Int) > 0)) (some xy72) ((ae_ n (aa_.mk xy74 xy75 xy76 xy77 xy78)).bind fun xr85=>(cond (!xr85) (some xy72) (some xy73)))) ((ae_ n (aa_.mk xy74 xy75 xy76 xy77 xy78)).bind fun xr86=>(cond (!xr86) (some xy72) (some xy73))))) (cond (decide (xy74≥4)) (cond (xy75 != 0) (some xy72) (cond (decide (xy74<4)) (cond (decide ((xy77.length:Int) > 0)) (some xy72) ((ae_ n (aa_.mk xy74 xy75 xy76 xy77 xy78)).bind fun xr87=>(cond (!xr87) (some xy72) (some xy73)))) ((ae_ n (aa_.mk xy74 xy75 xy76 xy77 xy78)).bind fun xr88=>(cond (!xr88) (some xy72) (some xy73))))) (cond (decide (xy74<4)) (cond (decide ((xy77.length:Int) > 0)) (some xy72) ((ae_ n (aa_.mk xy74 xy75 xy76 xy77 xy78)).bind fun xr89=>(cond (!xr89) (some xy72) (some xy73)))) ((ae_ n (aa_.mk xy74 xy75 xy76 xy77 xy78)).bind fun xr90=>(cond (!xr90) (some xy72) (some xy73)))))))) n append 401 1 0 o.kind o.n_ o.s o.list o.names) (some 401))))))))
def cJ_:Nat→aa_→Option Bool
 |0,_=>none
 |n+1,j=>
  ((aR_ n (aa_.re j) 6).bind fun xr1=>(some (decide (xr1≤400))))
def c7_:Nat→aa_→Option aa_
 |0,_=>none
 |n+1,j=>
  ((cJ_ n (aa_.re j)).bind fun xr1=>(cond (!xr1) (some (aa_.mk 0 0 [] [] [])) (some (aa_.re j))))
abbrev cb_.K4:Type:=(List TRow)→Int→Int→Bs→Int→Int→Bs→(List aa_)→Option aa_
abbrev cb_.T4:Type:=(List TRow)→(List Int)→Int→Int→(List br_)→Int→Bool→Int→(List Int)→Bool→Int→Int→Int→Int→Bs→Int→Int→Bs→(List aa_)→Option aa_
def cb_.step4 (n:Nat) (k0:cb_.K4) (back:cb_.T4):cb_.T4:=fun rows kids i q0 q1 q2 q3 q4 q5 q6 q7 q8 t60 t61 t62 list0 list1 list2 list3=>
 ((dq_ n (ap_.mk q0 q1 q2 q3 q4 q5 q6 q7 q8) (rows.length:Int)).bind fun xr1=>(cond (decide (i<xr1)) (cond (decide (i<(kids.length:Int))) (inB i kids.length (inB i rows.length ((bE_ n (ap_.mk q0 q1 q2 q3 q4 q5 q6 q7 q8) (rows.getD i.toNat TRow.dflt) (kids.getD i.toNat 0)).bind fun xr2=>(bv_ (list3.length+([(aa_.re xr2)]:List aa_).length) 80 (back rows kids (W (i+1)) q0 q1 q2 q3 q4 q5 q6 q7 q8 t60 t61 t62 list0 list1 list2 (list3++([(aa_.re xr2)]:List aa_))))))) (inB i rows.length ((bE_ n (ap_.mk q0 q1 q2 q3 q4 q5 q6 q7 q8) (rows.getD i.toNat TRow.dflt) 0).bind fun xr3=>(bv_ (list3.length+([(aa_.re xr3)]:List aa_).length) 80 (back rows kids (W (i+1)) q0 q1 q2 q3 q4 q5 q6 q7 q8 t60 t61 t62 list0 list1 list2 (list3++([(aa_.re xr3)]:List aa_))))))) (k0 rows t60 t61 t62 list0 list1 list2 list3)))
def cb_.loop4 (n:Nat) (k0:cb_.K4) (N:Nat):cb_.T4:=co_ (fun _ _ _ _ _ _ _ _ _ _ _ _ _ _ _ _ _ _ _=>none) (cb_.step4 n k0) N
def cb_:Nat→ap_→(List TRow)→(List Int)→Option aa_
 |0,_,_,_=>none
 |n+1,q,rows,kids=>
  (cb_.loop4 n (fun xy4 xy5 xy6 xy7 xy8 xy9 xy10 xy11=>((cY_ n (xy4.length:Int)).bind fun xr12=>((c7_ n (aa_.mk 5 0 [] ([(aa_.re xr12),(aa_.mk xy8 xy9 xy10 xy11 [])]:List aa_) ([[99,111,117,110,116],[114,111,119,115]]:List Bs))).bind fun xr13=>(some (aa_.re xr13))))) n rows kids 0 q.table q.where_ q.order q.down q.first q.show_ q.kids q.kidTable q.kidCol 0 0 [] 4 0 [] ([]:List aa_))
def dc_:Nat→aJ_→Option aa_
 |0,_=>none
 |n+1,v=>
  ((a8_ n v).bind fun xr1=>((cb_ n v.q v.rows xr1).bind fun xr2=>(some (aa_.re xr2))))
abbrev ax_.K6_1:Type:=Int→Int→Bs→(List aa_)→(List Bs)→Int→Int→Bs→(List aa_)→(List Bs)→Option Bool
abbrev ax_.T6:Type:=Int→Int→Int→Bs→(List aa_)→(List Bs)→Int→Int→Bs→(List aa_)→(List Bs)→Option Bool
def ax_.step6 (n:Nat) (spec_l1Same_:aa_→aa_→Option Bool) (k0:ax_.K6_1) (back:ax_.T6):ax_.T6:=fun t5 t20 t21 t22 t23 t24 t30 t31 t32 t33 t34=>
 (cond (decide (t5<(t23.length:Int))) (inB t5 t23.length (inB t5 t33.length ((spec_l1Same_ (aa_.re (t23.getD t5.toNat aa_.dflt)) (aa_.re (t33.getD t5.toNat aa_.dflt))).bind fun xr1=>(cond (!xr1) (some false) (back (W (t5+1)) t20 t21 t22 t23 t24 t30 t31 t32 t33 t34))))) (k0 t20 t21 t22 t23 t24 t30 t31 t32 t33 t34))
def ax_.loop6 (n:Nat) (spec_l1Same_:aa_→aa_→Option Bool) (k0:ax_.K6_1) (N:Nat):ax_.T6:=co_ (fun _ _ _ _ _ _ _ _ _ _ _=>none) (ax_.step6 n spec_l1Same_ k0) N
abbrev ax_.T14:Type:=Int→Int→Int→Bs→(List aa_)→(List Bs)→Int→Int→Bs→(List aa_)→(List Bs)→Option Bool
def ax_.step14 (n:Nat) (spec_l1Same_:aa_→aa_→Option Bool) (k2:Option Bool) (back:ax_.T14):ax_.T14:=fun t6 t20 t21 t22 t23 t24 t30 t31 t32 t33 t34=>
 (cond (decide (t6<(t24.length:Int))) (inB t6 t24.length (inB t6 t34.length (cond (!((t24.getD t6.toNat []) == (t34.getD t6.toNat []))) (some false) (back (W (t6+1)) t20 t21 t22 t23 t24 t30 t31 t32 t33 t34)))) k2)
def ax_.loop14 (n:Nat) (spec_l1Same_:aa_→aa_→Option Bool) (k2:Option Bool) (N:Nat):ax_.T14:=co_ (fun _ _ _ _ _ _ _ _ _ _ _=>none) (ax_.step14 n spec_l1Same_ k2) N
def ax_:Nat→aa_→aa_→Option Bool
 |0,_,_=>none
 |n+1,o,append=>
  (cond (o.kind != append.kind) (some false) (cond (o.n_ != append.n_) (some false) (cond (!(o.s == append.s)) (some false) (cond ((o.list.length:Int) != (append.list.length:Int)) (some false) (cond ((o.names.length:Int) != (append.names.length:Int)) (some false) (ax_.loop6 n (ax_ n) (fun xy2 xy3 xy4 xy5 xy6 xy7 xy8 xy9 xy10 xy11=>(ax_.loop14 n (ax_ n) (some true) n 0 xy2 xy3 xy4 xy5 xy6 xy7 xy8 xy9 xy10 xy11)) n 0 o.kind o.n_ o.s o.list o.names append.kind append.n_ append.s append.list append.names))))))
def dD_:Nat→aa_→aa_→Option Bool
 |0,_,_=>none
 |n+1,a,b=>
  ((cJ_ n (aa_.re a)).bind fun xr1=>(cond xr1 ((cJ_ n (aa_.re b)).bind fun xr2=>(cond xr2 ((ax_ n (aa_.re a) (aa_.re b)).bind fun xr3=>(some xr3)) (some false))) (some false)))
def dL_:Nat→bS_→Option Bool
 |0,_=>none
 |n+1,x=>
  (cond (!x.began) (some true) ((dc_ n x.view).bind fun xr1=>((dc_ n x.last).bind fun xr2=>((dD_ n (aa_.re xr1) (aa_.re xr2)).bind fun xr3=>(some (!xr3))))))
abbrev bA_.K3:Type:=(List br_)→(List br_)→Option Bool
abbrev bA_.T3:Type:=(List br_)→(List br_)→Int→Option Bool
def bA_.step3 (n:Nat) (k0:bA_.K3) (back:bA_.T3):bA_.T3:=fun a b i=>
 (cond (decide (i<(a.length:Int))) (cond (decide (i<(b.length:Int))) (inB i a.length (inB i b.length (let xv1:Bool:=(!(cond (((a.getD i.toNat br_.dflt).col) == ((b.getD i.toNat br_.dflt).col)) (cond (((a.getD i.toNat br_.dflt).op) == ((b.getD i.toNat br_.dflt).op)) (cond (((a.getD i.toNat br_.dflt).v) == ((b.getD i.toNat br_.dflt).v)) true false) false) false));(cond xv1 (some false) (back a b (W (i+1))))))) (k0 a b)) (k0 a b))
def bA_.loop3 (n:Nat) (k0:bA_.K3) (N:Nat):bA_.T3:=co_ (fun _ _ _=>none) (bA_.step3 n k0) N
def bA_:Nat→(List br_)→(List br_)→Option Bool
 |0,_,_=>none
 |n+1,a,b=>
  (bA_.loop3 n (fun xy2 xy3=>(some ((xy2.length:Int) == (xy3.length:Int)))) n a b 0)
abbrev bQ_.K3:Type:=(List Int)→(List Int)→Option Bool
abbrev bQ_.T3:Type:=(List Int)→(List Int)→Int→Option Bool
def bQ_.step3 (n:Nat) (k0:bQ_.K3) (back:bQ_.T3):bQ_.T3:=fun a b i=>
 (cond (decide (i<(a.length:Int))) (cond (decide (i<(b.length:Int))) (inB i a.length (inB i b.length (cond ((a.getD i.toNat 0) != (b.getD i.toNat 0)) (some false) (back a b (W (i+1)))))) (k0 a b)) (k0 a b))
def bQ_.loop3 (n:Nat) (k0:bQ_.K3) (N:Nat):bQ_.T3:=co_ (fun _ _ _=>none) (bQ_.step3 n k0) N
def bQ_:Nat→(List Int)→(List Int)→Option Bool
 |0,_,_=>none
 |n+1,a,b=>
  (bQ_.loop3 n (fun xy1 xy2=>(some ((xy1.length:Int) == (xy2.length:Int)))) n a b 0)
def dr_:Nat→ap_→ap_→Option Bool
 |0,_,_=>none
 |n+1,o,append=>
  (cond (o.table == append.table) ((bA_ n o.where_ append.where_).bind fun xr1=>(cond xr1 (cond (o.order == append.order) (cond (o.down == append.down) (cond (o.first == append.first) ((bQ_ n o.show_ append.show_).bind fun xr2=>(cond xr2 (cond (o.kids == append.kids) (cond (o.kidTable == append.kidTable) (some (o.kidCol == append.kidCol)) (some false)) (some false)) (some false))) (some false)) (some false)) (some false)) (some false))) (some false))
def eX_:Nat→Int→Option aa_
 |0,_=>none
 |n+1,n1=>
  ((cJ_ n (aa_.mk 2 n1 [] [] [])).bind fun xr1=>(cond (!xr1) (some (aa_.mk 0 0 [] ([]:List aa_) ([]:List Bs))) (some (aa_.mk 2 n1 [] ([]:List aa_) ([]:List Bs)))))
def eq_:Nat→ap_→TRow→Int→Option aa_
 |0,_,_,_=>none
 |n+1,q,r,kids=>
  ((bE_ n q r kids).bind fun xr1=>((c7_ n (aa_.re xr1)).bind fun xr2=>(some (aa_.re xr2))))
abbrev bh_.K5:Type:=(List aa_)→(List Int)→Option ((List aa_) × (List Int))
abbrev bh_.T5:Type:=Int→Int→(List br_)→Int→Bool→Int→(List Int)→Bool→Int→Int→(List TRow)→(List TKid)→(List aa_)→(List Int)→Option ((List aa_) × (List Int))
def bh_.step5 (n:Nat) (k0:bh_.K5) (back:bh_.T5):bh_.T5:=fun i v0 v1 v2 v3 v4 v5 v6 v7 v8 v9 v10 list keys=>
 ((dq_ n (ap_.mk v0 v1 v2 v3 v4 v5 v6 v7 v8) (v9.length:Int)).bind fun xr1=>(cond (decide (i<xr1)) (inB i v9.length (inB i v9.length ((bY_ n (aJ_.mk (ap_.mk v0 v1 v2 v3 v4 v5 v6 v7 v8) v9 v10) ((v9.getD i.toNat TRow.dflt).id_)).bind fun xr2=>((eq_ n (ap_.mk v0 v1 v2 v3 v4 v5 v6 v7 v8) (v9.getD i.toNat TRow.dflt) xr2).bind fun xr3=>(bv_ (list.length+([(aa_.re xr3)]:List aa_).length) 80 (inB i v9.length (bv_ (keys.length+([(v9.getD i.toNat TRow.dflt).id_]:List Int).length) 8 (back (W (i+1)) v0 v1 v2 v3 v4 v5 v6 v7 v8 v9 v10 (list++([(aa_.re xr3)]:List aa_)) (keys++([(v9.getD i.toNat TRow.dflt).id_]:List Int)))))))))) (k0 list keys)))
def bh_.loop5 (n:Nat) (k0:bh_.K5) (N:Nat):bh_.T5:=co_ (fun _ _ _ _ _ _ _ _ _ _ _ _ _ _=>none) (bh_.step5 n k0) N
def bh_:Nat→aJ_→Option ((List aa_) × (List Int))
 |0,_=>none
 |n+1,v=>
  (bh_.loop5 n (fun xy4 xy5=>(some (xy4,xy5))) n 0 v.q.table v.q.where_ v.q.order v.q.down v.q.first v.q.show_ v.q.kids v.q.kidTable v.q.kidCol v.rows v.kids ([]:List aa_) ([]:List Int))
abbrev cn_.T3:Type:=(List Int)→Int→Int→Option Int
def cn_.step3 (n:Nat) (k0:Option Int) (back:cn_.T3):cn_.T3:=fun keys key i=>
 (cond (decide (i<(keys.length:Int))) (inB i keys.length (cond ((keys.getD i.toNat 0) == key) (some i) (back keys key (W (i+1))))) k0)
def cn_.loop3 (n:Nat) (k0:Option Int) (N:Nat):cn_.T3:=co_ (fun _ _ _=>none) (cn_.step3 n k0) N
def cn_:Nat→(List Int)→Int→Option Int
 |0,_,_=>none
 |n+1,keys,key=>
  (cn_.loop3 n (some (-1)) n keys key 0)
abbrev aK_.K3:Type:=(List Int)→(List aa_)→Option Bool
abbrev aK_.T3:Type:=(List Int)→(List aa_)→Int→Option Bool
def aK_.step3 (n:Nat) (k0:aK_.K3) (back:aK_.T3):aK_.T3:=fun keys list i=>
 (cond (decide (i<(keys.length:Int))) (iY_ 0 i keys.length (inB i keys.length ((cn_ n ((keys.take i.toNat).drop 0) (keys.getD i.toNat 0)).bind fun xr1=>(cond (decide (xr1≥0)) (some false) (back keys list (W (i+1))))))) (k0 keys list))
def aK_.loop3 (n:Nat) (k0:aK_.K3) (N:Nat):aK_.T3:=co_ (fun _ _ _=>none) (aK_.step3 n k0) N
abbrev aK_.K11:Type:=(List Int)→(List aa_)→Option Bool
abbrev aK_.T11:Type:=(List Int)→(List aa_)→Int→Option Bool
def aK_.step11 (n:Nat) (k2:aK_.K11) (back:aK_.T11):aK_.T11:=fun keys list i=>
 (cond (decide (i<(list.length:Int))) (inB i list.length ((cJ_ n (aa_.re (list.getD i.toNat aa_.dflt))).bind fun xr4=>(cond (!xr4) (some false) (back keys list (W (i+1)))))) (k2 keys list))
def aK_.loop11 (n:Nat) (k2:aK_.K11) (N:Nat):aK_.T11:=co_ (fun _ _ _=>none) (aK_.step11 n k2) N
def aK_:Nat→(List Int)→(List aa_)→Option Bool
 |0,_,_=>none
 |n+1,keys,list=>
  (aK_.loop3 n (fun xy2 xy3=>(aK_.loop11 n (fun xy5 xy6=>(some ((xy5.length:Int) == (xy6.length:Int)))) n xy2 xy3 0)) n keys list 0)
def c4_:Nat→(List Int)→Int→Option (List Int)
 |0,_,_=>none
 |n+1,keys,at1=>
  (iY_ 0 at1 keys.length (bv_ (([]:List Int).length+((keys.take at1.toNat).drop 0).length) 8 (iY_ (W (at1+1)) (keys.length:Int) keys.length (bv_ ((([]:List Int)++((keys.take at1.toNat).drop 0)).length+((keys.take (keys.length:Int).toNat).drop (W (at1+1)).toNat).length) 8 (some ((([]:List Int)++((keys.take at1.toNat).drop 0))++((keys.take (keys.length:Int).toNat).drop (W (at1+1)).toNat)))))))
abbrev bj_.K4_1:Type:=Int→Int→Bs→Int→Int→Bs→(List aa_)→(List Bs)→Option aa_
abbrev bj_.T4:Type:=Int→Int→Int→Bs→(List aa_)→(List Bs)→Int→Int→Bs→Int→Int→Bs→(List aa_)→(List Bs)→Option aa_
def bj_.step4 (n:Nat) (spec_l1Copy_:aa_→Option aa_) (k0:bj_.K4_1) (back:bj_.T4):bj_.T4:=fun i j0 j1 j2 j3 j4 t20 t21 t22 out0 out1 out2 out3 out4=>
 (cond (decide (i<(j3.length:Int))) (inB i j3.length ((spec_l1Copy_ (aa_.re (j3.getD i.toNat aa_.dflt))).bind fun xr1=>(bv_ (out3.length+([(aa_.re xr1)]:List aa_).length) 80 (back (W (i+1)) j0 j1 j2 j3 j4 t20 t21 t22 out0 out1 out2 (out3++([(aa_.re xr1)]:List aa_)) out4)))) (k0 t20 t21 t22 out0 out1 out2 out3 out4))
def bj_.loop4 (n:Nat) (spec_l1Copy_:aa_→Option aa_) (k0:bj_.K4_1) (N:Nat):bj_.T4:=co_ (fun _ _ _ _ _ _ _ _ _ _ _ _ _ _=>none) (bj_.step4 n spec_l1Copy_ k0) N
def bj_:Nat→aa_→Option aa_
 |0,_=>none
 |n+1,j=>
  (bv_ (([]:List Bs).length+j.names.length) 16 (bj_.loop4 n (bj_ n) (fun xy2 xy3 xy4 xy5 xy6 xy7 xy8 xy9=>(some (aa_.mk xy5 xy6 xy7 xy8 xy9))) n 0 j.kind j.n_ j.s j.list j.names 0 0 [] j.kind j.n_ j.s ([]:List aa_) (([]:List Bs)++j.names)))
def dp_:Nat→(List Int)→Int→Int→Option (List Int)
 |0,_,_,_=>none
 |n+1,keys,at1,key=>
  (iY_ 0 at1 keys.length (bv_ (([]:List Int).length+((keys.take at1.toNat).drop 0).length) 8 (bv_ ((([]:List Int)++((keys.take at1.toNat).drop 0)).length+([key]:List Int).length) 8 (iY_ at1 (keys.length:Int) keys.length (bv_ (((([]:List Int)++((keys.take at1.toNat).drop 0))++([key]:List Int)).length+((keys.take (keys.length:Int).toNat).drop at1.toNat).length) 8 (some (((([]:List Int)++((keys.take at1.toNat).drop 0))++([key]:List Int))++((keys.take (keys.length:Int).toNat).drop at1.toNat))))))))
abbrev aF_.K5:Type:=(List aa_)→(List Int)→(List aa_)→(List Int)→(List TOp)→(List Int)→Option (List TOp)
abbrev aF_.T5:Type:=(List aa_)→(List Int)→(List aa_)→(List Int)→Int→(List TOp)→(List Int)→Option (List TOp)
def aF_.step5 (n:Nat) (k0:aF_.K5) (back:aF_.T5):aF_.T5:=fun o append t2 t3 t11 t9 t10=>
 (cond (decide (t11≥0)) (inB t11 append.length ((cn_ n t3 (append.getD t11.toNat 0)).bind fun xr1=>(cond (decide (xr1<0)) ((a0_ n t11).bind fun xr2=>(bv_ (t9.length+([(TOp.mk 2 ([xr2]:List Bs) (aa_.mk 0 0 [] [] []))]:List TOp).length) 112 ((c4_ n t10 t11).bind fun xr3=>(back o append t2 t3 (W (t11 - 1)) (t9++([(TOp.mk 2 ([xr2]:List Bs) (aa_.mk 0 0 [] [] []))]:List TOp)) xr3)))) (back o append t2 t3 (W (t11 - 1)) t9 t10)))) (k0 o append t2 t3 t9 t10))
def aF_.loop5 (n:Nat) (k0:aF_.K5) (N:Nat):aF_.T5:=co_ (fun _ _ _ _ _ _ _=>none) (aF_.step5 n k0) N
abbrev aF_.K13:Type:=(List TOp)→Option (List TOp)
abbrev aF_.T13:Type:=(List aa_)→(List Int)→(List aa_)→(List Int)→Int→(List TOp)→(List Int)→Option (List TOp)
def aF_.step13 (n:Nat) (k2:aF_.K13) (back:aF_.T13):aF_.T13:=fun o append t2 t3 t12 t9 t10=>
 (cond (decide (t12<(t3.length:Int))) ((a0_ n t12).bind fun xr10=>(inB t12 t3.length ((cn_ n t10 (t3.getD t12.toNat 0)).bind fun xr11=>(cond (xr11 == t12) (inB t12 t3.length ((cn_ n append (t3.getD t12.toNat 0)).bind fun xr12=>(inB xr12 o.length (inB t12 t2.length ((ax_ n (aa_.re (o.getD xr12.toNat aa_.dflt)) (aa_.re (t2.getD t12.toNat aa_.dflt))).bind fun xr13=>(cond (!xr13) (inB t12 t2.length ((bj_ n (aa_.re (t2.getD t12.toNat aa_.dflt))).bind fun xr14=>(bv_ (t9.length+([(TOp.mk 3 ([xr10]:List Bs) (aa_.re xr14))]:List TOp).length) 112 (back o append t2 t3 (W (t12+1)) (t9++([(TOp.mk 3 ([xr10]:List Bs) (aa_.re xr14))]:List TOp)) t10)))) (back o append t2 t3 (W (t12+1)) t9 t10))))))) (cond (decide (xr11≥0)) ((a0_ n xr11).bind fun xr15=>(bv_ (t9.length+([(TOp.mk 2 ([xr15]:List Bs) (aa_.mk 0 0 [] [] []))]:List TOp).length) 112 ((c4_ n t10 xr11).bind fun xr16=>(inB t12 t2.length ((bj_ n (aa_.re (t2.getD t12.toNat aa_.dflt))).bind fun xr17=>(bv_ ((t9++([(TOp.mk 2 ([xr15]:List Bs) (aa_.mk 0 0 [] [] []))]:List TOp)).length+([(TOp.mk 1 ([xr10]:List Bs) (aa_.re xr17))]:List TOp).length) 112 (inB t12 t3.length ((dp_ n xr16 t12 (t3.getD t12.toNat 0)).bind fun xr18=>(back o append t2 t3 (W (t12+1)) ((t9++([(TOp.mk 2 ([xr15]:List Bs) (aa_.mk 0 0 [] [] []))]:List TOp))++([(TOp.mk 1 ([xr10]:List Bs) (aa_.re xr17))]:List TOp)) xr18))))))))) (inB t12 t2.length ((bj_ n (aa_.re (t2.getD t12.toNat aa_.dflt))).bind fun xr19=>(bv_ (t9.length+([(TOp.mk 1 ([xr10]:List Bs) (aa_.re xr19))]:List TOp).length) 112 (inB t12 t3.length ((dp_ n t10 t12 (t3.getD t12.toNat 0)).bind fun xr20=>(back o append t2 t3 (W (t12+1)) (t9++([(TOp.mk 1 ([xr10]:List Bs) (aa_.re xr19))]:List TOp)) xr20))))))))))) (k2 t9))
def aF_.loop13 (n:Nat) (k2:aF_.K13) (N:Nat):aF_.T13:=co_ (fun _ _ _ _ _ _ _=>none) (aF_.step13 n k2) N
def aF_:Nat→(List aa_)→(List Int)→(List aa_)→(List Int)→Option (List TOp)
 |0,_,_,_,_=>none
 |n+1,o,append,a2,a3=>
  (bv_ (([]:List Int).length+append.length) 8 (aF_.loop5 n (fun xy4 xy5 xy6 xy7 xy8 xy9=>(aF_.loop13 n (fun xy21=>(some xy21)) n xy4 xy5 xy6 xy7 0 xy8 xy9)) n o append a2 a3 (W ((append.length:Int) - 1)) ([]:List TOp) (([]:List Int)++append)))
def fd_:Nat→(List aa_)→(List Int)→(List aa_)→(List Int)→Option (List TOp)
 |0,_,_,_,_=>none
 |n+1,old,oldKeys,now,nowKeys=>
  ((aK_ n oldKeys old).bind fun xr1=>(cond (!xr1) (some ([]:List TOp)) ((aK_ n nowKeys now).bind fun xr2=>(cond (!xr2) (some ([]:List TOp)) ((aF_ n old oldKeys now nowKeys).bind fun xr3=>(some xr3))))))
abbrev b1_.K4:Type:=(List TOp)→Option (List TOp)
abbrev b1_.T4:Type:=Bs→(List TOp)→Int→(List TOp)→Option (List TOp)
def b1_.step4 (n:Nat) (k0:b1_.K4) (back:b1_.T4):b1_.T4:=fun name list i out_1=>
 (cond (decide (i<(list.length:Int))) (inB i list.length (inB i list.length (bv_ (([name]:List Bs).length+((list.getD i.toNat TOp.dflt).way).length) 16 (inB i list.length ((bj_ n (aa_.re ((list.getD i.toNat TOp.dflt).value))).bind fun xr1=>(bv_ (out_1.length+([(TOp.mk ((list.getD i.toNat TOp.dflt).kind) (([name]:List Bs)++((list.getD i.toNat TOp.dflt).way)) (aa_.re xr1))]:List TOp).length) 112 (back name list (W (i+1)) (out_1++([(TOp.mk ((list.getD i.toNat TOp.dflt).kind) (([name]:List Bs)++((list.getD i.toNat TOp.dflt).way)) (aa_.re xr1))]:List TOp))))))))) (k0 out_1))
def b1_.loop4 (n:Nat) (k0:b1_.K4) (N:Nat):b1_.T4:=co_ (fun _ _ _ _=>none) (b1_.step4 n k0) N
def b1_:Nat→Bs→(List TOp)→Option (List TOp)
 |0,_,_=>none
 |n+1,name,list=>
  (b1_.loop4 n (fun xy2=>(some xy2)) n name list 0 ([]:List TOp))
def c5_:Nat→aJ_→aJ_→Option (List TOp)
 |0,_,_=>none
 |n+1,a,b=>
  ((dr_ n a.q b.q).bind fun xr1=>(cond (!xr1) (some ([]:List TOp)) (cond ((a.rows.length:Int) != (b.rows.length:Int)) ((eX_ n (b.rows.length:Int)).bind fun xr2=>(bv_ (([]:List TOp).length+([(TOp.mk 3 ([[99,111,117,110,116]]:List Bs) (aa_.re xr2))]:List TOp).length) 112 ((bh_ n a).bind fun xr3=>((bh_ n b).bind fun xr4=>((fd_ n xr3.1 xr3.2 xr4.1 xr4.2).bind fun xr5=>((b1_ n [114,111,119,115] xr5).bind fun xr6=>(bv_ ((([]:List TOp)++([(TOp.mk 3 ([[99,111,117,110,116]]:List Bs) (aa_.re xr2))]:List TOp)).length+xr6.length) 112 (some ((([]:List TOp)++([(TOp.mk 3 ([[99,111,117,110,116]]:List Bs) (aa_.re xr2))]:List TOp))++xr6))))))))) ((bh_ n a).bind fun xr7=>((bh_ n b).bind fun xr8=>((fd_ n xr7.1 xr7.2 xr8.1 xr8.2).bind fun xr9=>((b1_ n [114,111,119,115] xr9).bind fun xr10=>(bv_ (([]:List TOp).length+xr10.length) 112 (some (([]:List TOp)++xr10))))))))))
abbrev cl_.K6:Type:=Int→(List Bs)→Int→Int→Bs→(List aa_)→(List Bs)→Option Bool
abbrev cl_.T6:Type:=Int→Int→(List Bs)→Int→Int→Bs→(List aa_)→(List Bs)→Option Bool
def cl_.step6 (n:Nat) (k0:cl_.K6) (back:cl_.T6):cl_.T6:=fun i o0 o1 o2 o3 o4 o5 o6=>
 (cond (decide (i<(o1.length:Int))) (inB i o1.length ((bV_ n (o1.getD i.toNat [])).bind fun xr3=>(cond (!xr3) (some false) (back (W (i+1)) o0 o1 o2 o3 o4 o5 o6)))) (k0 o0 o1 o2 o3 o4 o5 o6))
def cl_.loop6 (n:Nat) (k0:cl_.K6) (N:Nat):cl_.T6:=co_ (fun _ _ _ _ _ _ _ _=>none) (cl_.step6 n k0) N
def cl_:Nat→TOp→Option Bool
 |0,_=>none
 |n+1,o=>
  ((b4_ n o.kind 1 4).bind fun xr1=>(cond (!xr1) (some false) (cond (decide ((o.way.length:Int) > 6)) (some false) ((cJ_ n (aa_.re o.value)).bind fun xr2=>(cond (!xr2) (some false) (cl_.loop6 n (fun xy4 xy5 xy6 xy7 xy8 xy9 xy10=>(cond (xy4 != 2) (some true) ((ax_ n (aa_.mk xy6 xy7 xy8 xy9 xy10) (aa_.mk 0 0 [] [] [])).bind fun xr11=>(some xr11)))) n 0 o.kind o.way o.value.kind o.value.n_ o.value.s o.value.list o.value.names))))))
def d3_:Nat→Unit→Option (List Bs)
 |0,_=>none
 |n+1,_u=>
  (some ([[],[97,100,100],[114,101,109,111,118,101],[114,101,112,108,97,99,101],[116,101,115,116]]:List Bs))
abbrev aD_.K10:Type:=(List Bs)→Int→(List Int)→Option Bs
abbrev aD_.T10:Type:=(List Bs)→Int→Int→(List Int)→Option Bs
def aD_.step10 (n:Nat) (k2:aD_.K10) (back:aD_.T10):aD_.T10:=fun way i k out_1=>
 (inB i way.length (cond (decide (k<((way.getD i.toNat []).length:Int))) (inB i way.length (inB k (way.getD i.toNat []).length (cond ((((way.getD i.toNat []).getD k.toNat 0).toNat:Int) == 126) (bv_ (out_1.length+([126,48]:List Int).length) 1 (back way i (W (k+1)) (out_1++([126,48]:List Int)))) (cond ((((way.getD i.toNat []).getD k.toNat 0).toNat:Int) == 47) (bv_ (out_1.length+([126,49]:List Int).length) 1 (back way i (W (k+1)) (out_1++([126,49]:List Int)))) (inB i way.length (inB k (way.getD i.toNat []).length (bv_ (out_1.length+([(((way.getD i.toNat []).getD k.toNat 0).toNat:Int)]:List Int).length) 1 (back way i (W (k+1)) (out_1++([(((way.getD i.toNat []).getD k.toNat 0).toNat:Int)]:List Int)))))))))) (k2 way i out_1)))
def aD_.loop10 (n:Nat) (k2:aD_.K10) (N:Nat):aD_.T10:=co_ (fun _ _ _ _=>none) (aD_.step10 n k2) N
abbrev aD_.K4:Type:=(List Int)→Option Bs
abbrev aD_.T4:Type:=(List Bs)→Int→(List Int)→Option Bs
def aD_.step4 (n:Nat) (k0:aD_.K4) (back:aD_.T4):aD_.T4:=fun way i out_1=>
 (cond (decide (i<(way.length:Int))) (bv_ (out_1.length+([47]:List Int).length) 1 (aD_.loop10 n (fun xy1 xy2 xy3=>(back xy1 (W (xy2+1)) xy3)) n way i 0 (out_1++([47]:List Int)))) (k0 out_1))
def aD_.loop4 (n:Nat) (k0:aD_.K4) (N:Nat):aD_.T4:=co_ (fun _ _ _=>none) (aD_.step4 n k0) N
def aD_:Nat→(List Bs)→Option Bs
 |0,_=>none
 |n+1,way=>
  (aD_.loop4 n (fun xy4=>(some (so_ xy4))) n way 0 ([]:List Int))
def er_:Nat→TOp→Option aa_
 |0,_=>none
 |n+1,o=>
  ((cl_ n (TOp.mk o.kind o.way (aa_.re o.value))).bind fun xr1=>(cond (!xr1) (some (aa_.mk 0 0 [] ([]:List aa_) ([]:List Bs))) ((d3_ n ()).bind fun xr2=>(inB o.kind xr2.length ((aD_ n o.way).bind fun xr3=>(cond (o.kind != 2) ((bj_ n (aa_.re o.value)).bind fun xr4=>((bG_ n (aa_.mk 5 0 [] ([(aa_.mk 3 0 (xr2.getD o.kind.toNat []) [] []),(aa_.mk 3 0 xr3 [] [])]:List aa_) ([[111,112],[112,97,116,104]]:List Bs)) [118,97,108,117,101] (aa_.re xr4)).bind fun xr5=>((cJ_ n (aa_.re xr5)).bind fun xr6=>(cond (!xr6) (some (aa_.mk 0 0 [] ([]:List aa_) ([]:List Bs))) (some (aa_.re xr5)))))) ((cJ_ n (aa_.mk 5 0 [] ([(aa_.mk 3 0 (xr2.getD o.kind.toNat []) [] []),(aa_.mk 3 0 xr3 [] [])]:List aa_) ([[111,112],[112,97,116,104]]:List Bs))).bind fun xr7=>(cond (!xr7) (some (aa_.mk 0 0 [] ([]:List aa_) ([]:List Bs))) (some (aa_.mk 5 0 [] ([(aa_.mk 3 0 (xr2.getD o.kind.toNat []) [] []),(aa_.mk 3 0 xr3 [] [])]:List aa_) ([[111,112],[112,97,116,104]]:List Bs)))))))))))
abbrev bl_.K4:Type:=(List Int)→Option Bs
abbrev bl_.T4:Type:=Bs→Int→(List Int)→Option Bs
def bl_.step4 (n:Nat) (k0:bl_.K4) (back:bl_.T4):bl_.T4:=fun s i out_1=>
 (cond (decide (i<(s.length:Int))) (inB i s.length (cond (((s.getD i.toNat 0).toNat:Int) == 34) (bv_ (out_1.length+([92]:List Int).length) 1 (inB i s.length (bv_ ((out_1++([92]:List Int)).length+([((s.getD i.toNat 0).toNat:Int)]:List Int).length) 1 (back s (W (i+1)) ((out_1++([92]:List Int))++([((s.getD i.toNat 0).toNat:Int)]:List Int)))))) (inB i s.length (cond (((s.getD i.toNat 0).toNat:Int) == 92) (bv_ (out_1.length+([92]:List Int).length) 1 (inB i s.length (bv_ ((out_1++([92]:List Int)).length+([((s.getD i.toNat 0).toNat:Int)]:List Int).length) 1 (back s (W (i+1)) ((out_1++([92]:List Int))++([((s.getD i.toNat 0).toNat:Int)]:List Int)))))) (inB i s.length (bv_ (out_1.length+([((s.getD i.toNat 0).toNat:Int)]:List Int).length) 1 (back s (W (i+1)) (out_1++([((s.getD i.toNat 0).toNat:Int)]:List Int))))))))) (k0 out_1))
def bl_.loop4 (n:Nat) (k0:bl_.K4) (N:Nat):bl_.T4:=co_ (fun _ _ _=>none) (bl_.step4 n k0) N
def bl_:Nat→Bs→Option Bs
 |0,_=>none
 |n+1,s=>
  (bl_.loop4 n (fun xy1=>(bv_ (xy1.length+([34]:List Int).length) 1 (some (so_ (xy1++([34]:List Int)))))) n s 0 ([34]:List Int))
abbrev aP_.K17_1:Type:=Bs→Int→Int→Bs→(List aa_)→(List Bs)→Option Bs
abbrev aP_.T17:Type:=Bs→Int→Int→Int→Bs→(List aa_)→(List Bs)→Option Bs
def aP_.step17 (n:Nat) (spec_l2Encode_:aa_→Option Bs) (k1:aP_.K17_1) (back:aP_.T17):aP_.T17:=fun out_1 i j0 j1 j2 j3 j4=>
 (cond (decide (i<(j3.length:Int))) (cond (decide (i > 0)) (cond (decide (out_1.length+[44].length≤9223372036854775807)) (cond (j0 == 5) (inB i j4.length ((bl_ n (j4.getD i.toNat [])).bind fun xr3=>(cond (decide ((out_1++[44]).length+xr3.length≤9223372036854775807)) (cond (decide (((out_1++[44])++xr3).length+[58].length≤9223372036854775807)) (inB i j3.length ((spec_l2Encode_ (aa_.re (j3.getD i.toNat aa_.dflt))).bind fun xr4=>(cond (decide ((((out_1++[44])++xr3)++[58]).length+xr4.length≤9223372036854775807)) (back ((((out_1++[44])++xr3)++[58])++xr4) (W (i+1)) j0 j1 j2 j3 j4) none))) none) none))) (inB i j3.length ((spec_l2Encode_ (aa_.re (j3.getD i.toNat aa_.dflt))).bind fun xr5=>(cond (decide ((out_1++[44]).length+xr5.length≤9223372036854775807)) (back ((out_1++[44])++xr5) (W (i+1)) j0 j1 j2 j3 j4) none)))) none) (cond (j0 == 5) (inB i j4.length ((bl_ n (j4.getD i.toNat [])).bind fun xr6=>(cond (decide (out_1.length+xr6.length≤9223372036854775807)) (cond (decide ((out_1++xr6).length+[58].length≤9223372036854775807)) (inB i j3.length ((spec_l2Encode_ (aa_.re (j3.getD i.toNat aa_.dflt))).bind fun xr7=>(cond (decide (((out_1++xr6)++[58]).length+xr7.length≤9223372036854775807)) (back (((out_1++xr6)++[58])++xr7) (W (i+1)) j0 j1 j2 j3 j4) none))) none) none))) (inB i j3.length ((spec_l2Encode_ (aa_.re (j3.getD i.toNat aa_.dflt))).bind fun xr8=>(cond (decide (out_1.length+xr8.length≤9223372036854775807)) (back (out_1++xr8) (W (i+1)) j0 j1 j2 j3 j4) none))))) (k1 out_1 j0 j1 j2 j3 j4))
def aP_.loop17 (n:Nat) (spec_l2Encode_:aa_→Option Bs) (k1:aP_.K17_1) (N:Nat):aP_.T17:=co_ (fun _ _ _ _ _ _ _=>none) (aP_.step17 n spec_l2Encode_ k1) N
def aP_:Nat→aa_→Option Bs
 |0,_=>none
 |n+1,j=>
  (cond (j.kind == 0) (some [110,117,108,108]) (cond (j.kind == 1) (cond (j.n_ == 1) (some [116,114,117,101]) (some [102,97,108,115,101])) (cond (j.kind == 2) ((a0_ n j.n_).bind fun xr1=>(some xr1)) (cond (j.kind == 3) ((bl_ n j.s).bind fun xr2=>(some xr2)) (aP_.loop17 n (aP_ n) (fun xy9 xy10 xy11 xy12 xy13 xy14=>(cond (xy10 == 5) (cond (decide ([123].length+xy9.length≤9223372036854775807)) (cond (decide ((([123]:Bs)++xy9).length+[125].length≤9223372036854775807)) (some ((([123]:Bs)++xy9)++[125])) none) none) (cond (decide ([91].length+xy9.length≤9223372036854775807)) (cond (decide ((([91]:Bs)++xy9).length+[93].length≤9223372036854775807)) (some ((([91]:Bs)++xy9)++[93])) none) none))) n [] 0 j.kind j.n_ j.s j.list j.names)))))
def dU_:Nat→aa_→Option Bs
 |0,_=>none
 |n+1,j=>
  ((cJ_ n (aa_.re j)).bind fun xr1=>(cond (!xr1) (some []) ((aP_ n (aa_.re j)).bind fun xr2=>(cond (decide ((xr2.length:Int) > 6000)) (some []) (some xr2)))))
abbrev a4_.K4:Type:=Int→Int→Bs→(List aa_)→Option Int
abbrev a4_.T4:Type:=(List TOp)→Int→Int→Int→Bs→(List aa_)→Option Int
def a4_.step4 (n:Nat) (k0:a4_.K4) (back:a4_.T4):a4_.T4:=fun list i j0 j1 j2 j3=>
 (cond (decide (i<(list.length:Int))) (inB i list.length ((er_ n { (list.getD i.toNat TOp.dflt) with value:=(aa_.re ((list.getD i.toNat TOp.dflt).value)) }).bind fun xr1=>(cond (xr1.kind == 0) (some (-1)) (bv_ (j3.length+([(aa_.re xr1)]:List aa_).length) 80 (back list (W (i+1)) j0 j1 j2 (j3++([(aa_.re xr1)]:List aa_))))))) (k0 j0 j1 j2 j3))
def a4_.loop4 (n:Nat) (k0:a4_.K4) (N:Nat):a4_.T4:=co_ (fun _ _ _ _ _ _=>none) (a4_.step4 n k0) N
def a4_:Nat→(List TOp)→Option Int
 |0,_=>none
 |n+1,list=>
  (a4_.loop4 n (fun xy2 xy3 xy4 xy5=>((dU_ n (aa_.mk xy2 xy3 xy4 xy5 [])).bind fun xr6=>(cond (xr6 == []) (some (-1)) (some (xr6.length:Int))))) n list 0 4 0 [] ([]:List aa_))
def d6_:Nat→aJ_→aJ_→Option Bool
 |0,_,_=>none
 |n+1,a,b=>
  ((c5_ n a b).bind fun xr1=>((a4_ n xr1).bind fun xr2=>(cond (decide ((xr1.length:Int)≤40)) (cond (decide (xr2≥0)) ((dc_ n b).bind fun xr3=>((dU_ n (aa_.re xr3)).bind fun xr4=>(some (decide (xr2<(xr4.length:Int)))))) (some false)) (some false))))
def c9_:Nat→bS_→Option (bS_ × c0_ × Bool)
 |0,_=>none
 |n+1,x=>
  ((dK_ n x).bind fun xr1=>((dL_ n x).bind fun xr2=>(cond (!xr2) (some (xr1,(c0_.mk 0 0 0 (aa_.mk 0 0 [] [] []) ([]:List TOp)),false)) ((dc_ n x.view).bind fun xr3=>(cond x.began ((d6_ n x.last x.view).bind fun xr4=>(cond xr4 ((c5_ n x.last x.view).bind fun xr5=>((cI_ n x.view).bind fun xr6=>(some ({ xr1 with last:=xr6,lastVersion:=x.version,began:=true },(c0_.mk 2 x.version x.lastVersion (aa_.mk 0 0 [] [] []) xr5),true)))) ((cI_ n x.view).bind fun xr7=>(some ({ xr1 with last:=xr7,lastVersion:=x.version,began:=true },(c0_.mk 1 x.version 0 (aa_.re xr3) ([]:List TOp)),true))))) ((cI_ n x.view).bind fun xr8=>(some ({ xr1 with last:=xr8,lastVersion:=x.version,began:=true },(c0_.mk 1 x.version 0 (aa_.re xr3) ([]:List TOp)),true))))))))
def do_:Nat→al_→ar_→Option (TMut × al_)
 |0,_,_=>none
 |n+1,o,append=>
  ((cz_ n (append.tables.length:Int) 1).bind fun xr1=>((av_ n o xr1).bind fun xr2=>(cond (decide (xr2.1≥(append.tables.length:Int))) (some ((TMut.mk 3 0 (TRow.mk 1 ([]:List Int))),xr2.2)) (cond (decide (xr2.1≥(append.schema.cols.length:Int))) (some ((TMut.mk 3 0 (TRow.mk 1 ([]:List Int))),xr2.2)) ((av_ n xr2.2 3).bind fun xr3=>(inB xr2.1 append.schema.cols.length ((aN_ n xr3.2 (append.schema.cols.getD xr2.1.toNat 0)).bind fun xr4=>(cond ((W (1+xr3.1)) != 1) (inB xr2.1 append.tables.length (cond (decide (((append.tables.getD xr2.1.toNat []).length:Int) > 0)) ((cA_ n xr4.2 9).bind fun xr5=>(cond (!xr5.1) (inB xr2.1 append.tables.length (inB xr2.1 append.tables.length ((av_ n xr5.2 ((append.tables.getD xr2.1.toNat []).length:Int)).bind fun xr6=>(inB xr6.1 (append.tables.getD xr2.1.toNat []).length (cond ((W (1+xr3.1)) == 3) ((av_ n xr6.2 25).bind fun xr7=>(cond (xr7.1 == 0) ((av_ n xr7.2 5).bind fun xr8=>(some ((TMut.mk xr8.1 xr2.1 (TRow.mk (((append.tables.getD xr2.1.toNat []).getD xr6.1.toNat TRow.dflt).id_) ([]:List Int))),xr8.2))) (cond (xr7.1 == 1) ((av_ n xr7.2 5).bind fun xr9=>(some ((TMut.mk (W (1+xr3.1)) (W (xr9.1 - 1)) (TRow.mk (((append.tables.getD xr2.1.toNat []).getD xr6.1.toNat TRow.dflt).id_) ([]:List Int))),xr9.2))) (cond (xr7.1 == 2) ((bU_ n xr7.2 ([0,999,1000]:List Int)).bind fun xr10=>(some ((TMut.mk (W (1+xr3.1)) xr2.1 (TRow.mk xr10.1 ([]:List Int))),xr10.2))) (some ((TMut.mk (W (1+xr3.1)) xr2.1 (TRow.mk (((append.tables.getD xr2.1.toNat []).getD xr6.1.toNat TRow.dflt).id_) ([]:List Int))),xr7.2)))))) ((av_ n xr6.2 25).bind fun xr11=>(cond (xr11.1 == 0) ((av_ n xr11.2 5).bind fun xr12=>(some ((TMut.mk xr12.1 xr2.1 (TRow.mk (((append.tables.getD xr2.1.toNat []).getD xr6.1.toNat TRow.dflt).id_) xr4.1.cells)),xr12.2))) (cond (xr11.1 == 1) ((av_ n xr11.2 5).bind fun xr13=>(some ((TMut.mk (W (1+xr3.1)) (W (xr13.1 - 1)) (TRow.mk (((append.tables.getD xr2.1.toNat []).getD xr6.1.toNat TRow.dflt).id_) xr4.1.cells)),xr13.2))) (cond (xr11.1 == 2) ((bU_ n xr11.2 ([0,999,1000]:List Int)).bind fun xr14=>(some ((TMut.mk (W (1+xr3.1)) xr2.1 (TRow.mk xr14.1 xr4.1.cells)),xr14.2))) (some ((TMut.mk (W (1+xr3.1)) xr2.1 (TRow.mk (((append.tables.getD xr2.1.toNat []).getD xr6.1.toNat TRow.dflt).id_) xr4.1.cells)),xr11.2))))))))))) (cond ((W (1+xr3.1)) == 3) ((av_ n xr5.2 25).bind fun xr15=>(cond (xr15.1 == 0) ((av_ n xr15.2 5).bind fun xr16=>(some ((TMut.mk xr16.1 xr2.1 (TRow.mk xr4.1.id_ ([]:List Int))),xr16.2))) (cond (xr15.1 == 1) ((av_ n xr15.2 5).bind fun xr17=>(some ((TMut.mk (W (1+xr3.1)) (W (xr17.1 - 1)) (TRow.mk xr4.1.id_ ([]:List Int))),xr17.2))) (cond (xr15.1 == 2) ((bU_ n xr15.2 ([0,999,1000]:List Int)).bind fun xr18=>(some ((TMut.mk (W (1+xr3.1)) xr2.1 (TRow.mk xr18.1 ([]:List Int))),xr18.2))) (some ((TMut.mk (W (1+xr3.1)) xr2.1 (TRow.mk xr4.1.id_ ([]:List Int))),xr15.2)))))) ((av_ n xr5.2 25).bind fun xr19=>(cond (xr19.1 == 0) ((av_ n xr19.2 5).bind fun xr20=>(some ((TMut.mk xr20.1 xr2.1 xr4.1),xr20.2))) (cond (xr19.1 == 1) ((av_ n xr19.2 5).bind fun xr21=>(some ((TMut.mk (W (1+xr3.1)) (W (xr21.1 - 1)) xr4.1),xr21.2))) (cond (xr19.1 == 2) ((bU_ n xr19.2 ([0,999,1000]:List Int)).bind fun xr22=>(some ((TMut.mk (W (1+xr3.1)) xr2.1 (TRow.mk xr22.1 xr4.1.cells)),xr22.2))) (some ((TMut.mk (W (1+xr3.1)) xr2.1 xr4.1),xr19.2))))))))) (cond ((W (1+xr3.1)) == 3) ((av_ n xr4.2 25).bind fun xr23=>(cond (xr23.1 == 0) ((av_ n xr23.2 5).bind fun xr24=>(some ((TMut.mk xr24.1 xr2.1 (TRow.mk xr4.1.id_ ([]:List Int))),xr24.2))) (cond (xr23.1 == 1) ((av_ n xr23.2 5).bind fun xr25=>(some ((TMut.mk (W (1+xr3.1)) (W (xr25.1 - 1)) (TRow.mk xr4.1.id_ ([]:List Int))),xr25.2))) (cond (xr23.1 == 2) ((bU_ n xr23.2 ([0,999,1000]:List Int)).bind fun xr26=>(some ((TMut.mk (W (1+xr3.1)) xr2.1 (TRow.mk xr26.1 ([]:List Int))),xr26.2))) (some ((TMut.mk (W (1+xr3.1)) xr2.1 (TRow.mk xr4.1.id_ ([]:List Int))),xr23.2)))))) ((av_ n xr4.2 25).bind fun xr27=>(cond (xr27.1 == 0) ((av_ n xr27.2 5).bind fun xr28=>(some ((TMut.mk xr28.1 xr2.1 xr4.1),xr28.2))) (cond (xr27.1 == 1) ((av_ n xr27.2 5).bind fun xr29=>(some ((TMut.mk (W (1+xr3.1)) (W (xr29.1 - 1)) xr4.1),xr29.2))) (cond (xr27.1 == 2) ((bU_ n xr27.2 ([0,999,1000]:List Int)).bind fun xr30=>(some ((TMut.mk (W (1+xr3.1)) xr2.1 (TRow.mk xr30.1 xr4.1.cells)),xr30.2))) (some ((TMut.mk (W (1+xr3.1)) xr2.1 xr4.1),xr27.2))))))))) (cond ((W (1+xr3.1)) == 3) ((av_ n xr4.2 25).bind fun xr31=>(cond (xr31.1 == 0) ((av_ n xr31.2 5).bind fun xr32=>(some ((TMut.mk xr32.1 xr2.1 (TRow.mk xr4.1.id_ ([]:List Int))),xr32.2))) (cond (xr31.1 == 1) ((av_ n xr31.2 5).bind fun xr33=>(some ((TMut.mk (W (1+xr3.1)) (W (xr33.1 - 1)) (TRow.mk xr4.1.id_ ([]:List Int))),xr33.2))) (cond (xr31.1 == 2) ((bU_ n xr31.2 ([0,999,1000]:List Int)).bind fun xr34=>(some ((TMut.mk (W (1+xr3.1)) xr2.1 (TRow.mk xr34.1 ([]:List Int))),xr34.2))) (some ((TMut.mk (W (1+xr3.1)) xr2.1 (TRow.mk xr4.1.id_ ([]:List Int))),xr31.2)))))) ((av_ n xr4.2 25).bind fun xr35=>(cond (xr35.1 == 0) ((av_ n xr35.2 5).bind fun xr36=>(some ((TMut.mk xr36.1 xr2.1 xr4.1),xr36.2))) (cond (xr35.1 == 1) ((av_ n xr35.2 5).bind fun xr37=>(some ((TMut.mk (W (1+xr3.1)) (W (xr37.1 - 1)) xr4.1),xr37.2))) (cond (xr35.1 == 2) ((bU_ n xr35.2 ([0,999,1000]:List Int)).bind fun xr38=>(some ((TMut.mk (W (1+xr3.1)) xr2.1 (TRow.mk xr38.1 xr4.1.cells)),xr38.2))) (some ((TMut.mk (W (1+xr3.1)) xr2.1 xr4.1),xr35.2)))))))))))))))
def eY_:Nat→aI_→TMut→Option Bool
 |0,_,_=>none
 |n+1,s,m=>
  (cond (m.kind == 3) ((a1_ n s).bind fun xr1=>(cond xr1 ((b4_ n m.table 0 (W ((s.cols.length:Int) - 1))).bind fun xr2=>(cond xr2 ((b4_ n m.row.id_ 1 999).bind fun xr3=>(cond xr3 (some ((m.row.cells.length:Int) == 0)) (some false))) (some false))) (some false))) ((b4_ n m.kind 1 2).bind fun xr4=>(cond xr4 ((ce_ n s m.table m.row).bind fun xr5=>(some xr5)) (some false))))
abbrev bo_.K4:Type:=Int→Int→(List Int)→(List (List TRow))→Option ar_
abbrev bo_.T4:Type:=Int→(List Int)→Int→(List (List TRow))→Int→Int→(List Int)→(List (List TRow))→Option ar_
def bo_.step4 (n:Nat) (k0:bo_.K4) (back:bo_.T4):bo_.T4:=fun t s0 s1 s2 t21 out1 out0 out2=>
 (cond (decide (t<(s2.length:Int))) (inB t s2.length ((bL_ n (s2.getD t.toNat [])).bind fun xr2=>(bv_ (out2.length+([xr2]:List (List TRow)).length) 24 (back (W (t+1)) s0 s1 s2 t21 out1 out0 (out2++([xr2]:List (List TRow))))))) (k0 t21 out1 out0 out2))
def bo_.loop4 (n:Nat) (k0:bo_.K4) (N:Nat):bo_.T4:=co_ (fun _ _ _ _ _ _ _ _=>none) (bo_.step4 n k0) N
def bo_:Nat→ar_→Option ar_
 |0,_=>none
 |n+1,s=>
  ((dn_ n s.schema).bind fun xr1=>(bo_.loop4 n (fun xy3 xy4 xy5 xy6=>(some (ar_.mk (aI_.mk xy5) xy4 xy6))) n 0 s.schema.cols s.version s.tables 0 s.version xr1.cols ([]:List (List TRow))))
def fw_:Nat→ar_→TMut→Option (ar_ × aS_ × Bool)
 |0,_,_=>none
 |n+1,o,append=>
  (inB append.table o.tables.length ((ca_ n (o.tables.getD append.table.toNat []) append.row.id_).bind fun xr1=>(cond (!((decide (xr1≥0)) == (append.kind != 1))) (some (o,(aS_.mk 0 false false (TRow.mk 0 ([]:List Int)) (TRow.mk 0 ([]:List Int))),false)) (cond (append.kind == 1) (cond (((o.tables.getD append.table.toNat []).length:Int) == 24) (some (o,(aS_.mk 0 false false (TRow.mk 0 ([]:List Int)) (TRow.mk 0 ([]:List Int))),false)) (cond (append.kind != 1) (inB xr1 (o.tables.getD append.table.toNat []).length ((cq_ n ((o.tables.getD append.table.toNat []).getD xr1.toNat TRow.dflt)).bind fun xr2=>(cond (append.kind != 3) ((cq_ n append.row).bind fun xr3=>((bx_ n (o.tables.getD append.table.toNat []) append.row).bind fun xr4=>(inB append.table o.tables.length (let xa5:List (List TRow):=o.tables.set append.table.toNat xr4;(some ((ar_.mk o.schema o.version xa5),(aS_.mk append.table (append.kind != 1) (append.kind != 3) xr2 xr3),true)))))) ((bc_ n (o.tables.getD append.table.toNat []) append.row.id_).bind fun xr6=>(inB append.table o.tables.length (let xa7:List (List TRow):=o.tables.set append.table.toNat xr6;(some ((ar_.mk o.schema o.version xa7),(aS_.mk append.table (append.kind != 1) (append.kind != 3) xr2 (TRow.mk 0 ([]:List Int))),true)))))))) (cond (append.kind != 3) ((cq_ n append.row).bind fun xr8=>((bx_ n (o.tables.getD append.table.toNat []) append.row).bind fun xr9=>(inB append.table o.tables.length (let xa10:List (List TRow):=o.tables.set append.table.toNat xr9;(some ((ar_.mk o.schema o.version xa10),(aS_.mk append.table (append.kind != 1) (append.kind != 3) (TRow.mk 0 ([]:List Int)) xr8),true)))))) ((bc_ n (o.tables.getD append.table.toNat []) append.row.id_).bind fun xr11=>(inB append.table o.tables.length (let xa12:List (List TRow):=o.tables.set append.table.toNat xr11;(some ((ar_.mk o.schema o.version xa12),(aS_.mk append.table (append.kind != 1) (append.kind != 3) (TRow.mk 0 ([]:List Int)) (TRow.mk 0 ([]:List Int))),true)))))))) (cond (append.kind != 1) (inB xr1 (o.tables.getD append.table.toNat []).length ((cq_ n ((o.tables.getD append.table.toNat []).getD xr1.toNat TRow.dflt)).bind fun xr13=>(cond (append.kind != 3) ((cq_ n append.row).bind fun xr14=>((bx_ n (o.tables.getD append.table.toNat []) append.row).bind fun xr15=>(inB append.table o.tables.length (let xa16:List (List TRow):=o.tables.set append.table.toNat xr15;(some ((ar_.mk o.schema o.version xa16),(aS_.mk append.table (append.kind != 1) (append.kind != 3) xr13 xr14),true)))))) ((bc_ n (o.tables.getD append.table.toNat []) append.row.id_).bind fun xr17=>(inB append.table o.tables.length (let xa18:List (List TRow):=o.tables.set append.table.toNat xr17;(some ((ar_.mk o.schema o.version xa18),(aS_.mk append.table (append.kind != 1) (append.kind != 3) xr13 (TRow.mk 0 ([]:List Int))),true)))))))) (cond (append.kind != 3) ((cq_ n append.row).bind fun xr19=>((bx_ n (o.tables.getD append.table.toNat []) append.row).bind fun xr20=>(inB append.table o.tables.length (let xa21:List (List TRow):=o.tables.set append.table.toNat xr20;(some ((ar_.mk o.schema o.version xa21),(aS_.mk append.table (append.kind != 1) (append.kind != 3) (TRow.mk 0 ([]:List Int)) xr19),true)))))) ((bc_ n (o.tables.getD append.table.toNat []) append.row.id_).bind fun xr22=>(inB append.table o.tables.length (let xa23:List (List TRow):=o.tables.set append.table.toNat xr22;(some ((ar_.mk o.schema o.version xa23),(aS_.mk append.table (append.kind != 1) (append.kind != 3) (TRow.mk 0 ([]:List Int)) (TRow.mk 0 ([]:List Int))),true)))))))))))
def eH_:Nat→ar_→TMut→Option (ar_ × aS_ × Bool)
 |0,_,_=>none
 |n+1,s,m=>
  ((bs_ n s).bind fun xr1=>(cond (!xr1) (some ((ar_.mk (aI_.mk ([]:List Int)) 0 ([]:List (List TRow))),(aS_.mk 0 false false (TRow.mk 0 ([]:List Int)) (TRow.mk 0 ([]:List Int))),false)) ((eY_ n s.schema m).bind fun xr2=>(cond (!xr2) ((bo_ n s).bind fun xr3=>(some (xr3,(aS_.mk 0 false false (TRow.mk 0 ([]:List Int)) (TRow.mk 0 ([]:List Int))),false))) ((bo_ n s).bind fun xr4=>((fw_ n xr4 m).bind fun xr5=>(cond (!xr5.2.2) ((bo_ n s).bind fun xr6=>(some (xr6,(aS_.mk 0 false false (TRow.mk 0 ([]:List Int)) (TRow.mk 0 ([]:List Int))),false))) (some (xr5.1,xr5.2.1,true)))))))))
def aC_.tail9 (n:Nat) (kn:Int→(List Int)→Int→Int→(List Int)→Int→(List (List TRow))→(List TMut)→Option ((List TMut) × al_)) (i:Int) (c0:List Int) (c1:Int) (c2:Int) (now0:List Int) (now1:Int) (now2:List (List TRow)) (list:List TMut) (m0:Int) (m1:Int) (m2:Int) (m3:List Int):Option ((List TMut) × al_) :=
 ((eH_ n (ar_.mk (aI_.mk now0) now1 now2) (TMut.mk m0 m1 (TRow.mk m2 m3))).bind fun xr3=>(cond xr3.2.2 (cond xr3.2.2 (bv_ (list.length+([(TMut.mk m0 m1 (TRow.mk m2 m3))]:List TMut).length) 48 (kn i c0 c1 c2 xr3.1.schema.cols xr3.1.version xr3.1.tables (list++([(TMut.mk m0 m1 (TRow.mk m2 m3))]:List TMut)))) ((cA_ n (al_.mk c0 c1 c2) 9).bind fun xr4=>(cond xr4.1 (bv_ (list.length+([(TMut.mk m0 m1 (TRow.mk m2 m3))]:List TMut).length) 48 (kn i xr4.2.b xr4.2.i xr4.2.h xr3.1.schema.cols xr3.1.version xr3.1.tables (list++([(TMut.mk m0 m1 (TRow.mk m2 m3))]:List TMut)))) (kn i xr4.2.b xr4.2.i xr4.2.h xr3.1.schema.cols xr3.1.version xr3.1.tables list)))) (cond xr3.2.2 (bv_ (list.length+([(TMut.mk m0 m1 (TRow.mk m2 m3))]:List TMut).length) 48 (kn i c0 c1 c2 now0 now1 now2 (list++([(TMut.mk m0 m1 (TRow.mk m2 m3))]:List TMut)))) ((cA_ n (al_.mk c0 c1 c2) 9).bind fun xr5=>(cond xr5.1 (bv_ (list.length+([(TMut.mk m0 m1 (TRow.mk m2 m3))]:List TMut).length) 48 (kn i xr5.2.b xr5.2.i xr5.2.h now0 now1 now2 (list++([(TMut.mk m0 m1 (TRow.mk m2 m3))]:List TMut)))) (kn i xr5.2.b xr5.2.i xr5.2.h now0 now1 now2 list))))))
abbrev aC_.K5:Type:=(List Int)→Int→Int→(List TMut)→Option ((List TMut) × al_)
abbrev aC_.T5:Type:=Int→(List Int)→Int→Int→(List Int)→Int→(List (List TRow))→(List TMut)→Option ((List TMut) × al_)
def aC_.step5 (n:Nat) (k0:aC_.K5) (back:aC_.T5):aC_.T5:=fun i c0 c1 c2 now0 now1 now2 list=>
 ((av_ n (al_.mk c0 c1 c2) 3).bind fun xr1=>(cond (decide (i<(W (1+xr1.1)))) ((do_ n xr1.2 (ar_.mk (aI_.mk now0) now1 now2)).bind fun xr2=>(aC_.tail9 n (fun xy6 xy7 xy8 xy9 xy10 xy11 xy12 xy13=>(back (W (xy6+1)) xy7 xy8 xy9 xy10 xy11 xy12 xy13)) i xr2.2.b xr2.2.i xr2.2.h now0 now1 now2 list xr2.1.kind xr2.1.table xr2.1.row.id_ xr2.1.row.cells)) (k0 xr1.2.b xr1.2.i xr1.2.h list)))
def aC_.loop5 (n:Nat) (k0:aC_.K5) (N:Nat):aC_.T5:=co_ (fun _ _ _ _ _ _ _ _=>none) (aC_.step5 n k0) N
def aC_:Nat→al_→ar_→Option ((List TMut) × al_)
 |0,_,_=>none
 |n+1,c,s=>
  (aC_.loop5 n (fun xy14 xy15 xy16 xy17=>(some (xy17,(al_.mk xy14 xy15 xy16)))) n 0 c.b c.i c.h s.schema.cols s.version s.tables ([]:List TMut))
abbrev bt_.K12:Type:=(List Int)→Int→(List (List TRow))→Int→Int→(List aS_)→(List Int)→(List (List TRow))→Option (ar_ × (List aS_) × Bool)
abbrev bt_.T12:Type:=(List TMut)→Int→(List Int)→Int→(List (List TRow))→Int→(List aS_)→Int→(List aS_)→(List Int)→(List (List TRow))→Option (ar_ × (List aS_) × Bool)
def bt_.step12 (n:Nat) (k0:bt_.K12) (back:bt_.T12):bt_.T12:=fun append t10 t20 t21 t22 t41 t7 t81 t9 t80 t82=>
 (cond (decide (t10<(append.length:Int))) (inB t10 append.length ((eH_ n (ar_.mk (aI_.mk t80) t81 t82) { (append.getD t10.toNat TMut.dflt) with row:=((append.getD t10.toNat TMut.dflt).row) }).bind fun xr6=>(cond (!xr6.2.2) ((bo_ n (ar_.mk (aI_.mk t20) t21 t22)).bind fun xr7=>(some (xr7,t7,false))) (bv_ (t9.length+([xr6.2.1]:List aS_).length) 80 (back append (W (t10+1)) t20 t21 t22 t41 t7 xr6.1.version (t9++([xr6.2.1]:List aS_)) xr6.1.schema.cols xr6.1.tables))))) (k0 t20 t21 t22 t41 t81 t9 t80 t82))
def bt_.loop12 (n:Nat) (k0:bt_.K12) (N:Nat):bt_.T12:=co_ (fun _ _ _ _ _ _ _ _ _ _ _=>none) (bt_.step12 n k0) N
def bt_:Nat→ar_→(List TMut)→Option (ar_ × (List aS_) × Bool)
 |0,_,_=>none
 |n+1,o,append=>
  ((bs_ n o).bind fun xr1=>(cond (!xr1) (some ((ar_.mk (aI_.mk ([]:List Int)) 0 ([]:List (List TRow))),([]:List aS_),false)) ((b4_ n (append.length:Int) 1 5).bind fun xr2=>(cond (!xr2) ((bo_ n o).bind fun xr3=>(some (xr3,([]:List aS_),false))) (cond (o.version == 100000) ((bo_ n o).bind fun xr4=>(some (xr4,([]:List aS_),false))) ((bo_ n o).bind fun xr5=>(bt_.loop12 n (fun xy8 xy9 xy10 xy11 xy12 xy13 xy14 xy15=>(some ((ar_.mk (aI_.mk xy14) (W (xy9+1)) xy15),xy13,true))) n append 0 o.schema.cols o.version o.tables 0 ([]:List aS_) xr5.version ([]:List aS_) xr5.schema.cols xr5.tables)))))))
def c8_:Nat→aJ_→aS_→Option aJ_
 |0,_,_=>none
 |n+1,o,append=>
  ((cI_ n o).bind fun xr1=>(cond (append.table == o.q.table) (cond append.had ((bc_ n xr1.rows append.old.id_).bind fun xr2=>(cond append.has ((bF_ n o.q append.new).bind fun xr3=>(cond xr3 ((bI_ n o.q xr2 append.new).bind fun xr4=>(cond o.q.kids (cond (append.table == o.q.kidTable) (cond append.had ((bH_ n append.old o.q.kidCol).bind fun xr5=>((aQ_ n xr1.kids xr5 (-1)).bind fun xr6=>(cond append.has ((bH_ n append.new o.q.kidCol).bind fun xr7=>((aQ_ n xr6 xr7 1).bind fun xr8=>(some (aJ_.mk xr1.q xr4 xr8)))) (some (aJ_.mk xr1.q xr4 xr6))))) (cond append.has ((bH_ n append.new o.q.kidCol).bind fun xr9=>((aQ_ n xr1.kids xr9 1).bind fun xr10=>(some (aJ_.mk xr1.q xr4 xr10)))) (some { xr1 with rows:=xr4 }))) (some { xr1 with rows:=xr4 })) (some { xr1 with rows:=xr4 }))) (cond o.q.kids (cond (append.table == o.q.kidTable) (cond append.had ((bH_ n append.old o.q.kidCol).bind fun xr11=>((aQ_ n xr1.kids xr11 (-1)).bind fun xr12=>(cond append.has ((bH_ n append.new o.q.kidCol).bind fun xr13=>((aQ_ n xr12 xr13 1).bind fun xr14=>(some (aJ_.mk xr1.q xr2 xr14)))) (some (aJ_.mk xr1.q xr2 xr12))))) (cond append.has ((bH_ n append.new o.q.kidCol).bind fun xr15=>((aQ_ n xr1.kids xr15 1).bind fun xr16=>(some (aJ_.mk xr1.q xr2 xr16)))) (some { xr1 with rows:=xr2 }))) (some { xr1 with rows:=xr2 })) (some { xr1 with rows:=xr2 })))) (cond o.q.kids (cond (append.table == o.q.kidTable) (cond append.had ((bH_ n append.old o.q.kidCol).bind fun xr17=>((aQ_ n xr1.kids xr17 (-1)).bind fun xr18=>(cond append.has ((bH_ n append.new o.q.kidCol).bind fun xr19=>((aQ_ n xr18 xr19 1).bind fun xr20=>(some (aJ_.mk xr1.q xr2 xr20)))) (some (aJ_.mk xr1.q xr2 xr18))))) (cond append.has ((bH_ n append.new o.q.kidCol).bind fun xr21=>((aQ_ n xr1.kids xr21 1).bind fun xr22=>(some (aJ_.mk xr1.q xr2 xr22)))) (some { xr1 with rows:=xr2 }))) (some { xr1 with rows:=xr2 })) (some { xr1 with rows:=xr2 })))) (cond append.has ((bF_ n o.q append.new).bind fun xr23=>(cond xr23 ((bI_ n o.q xr1.rows append.new).bind fun xr24=>(cond o.q.kids (cond (append.table == o.q.kidTable) (cond append.had ((bH_ n append.old o.q.kidCol).bind fun xr25=>((aQ_ n xr1.kids xr25 (-1)).bind fun xr26=>(cond append.has ((bH_ n append.new o.q.kidCol).bind fun xr27=>((aQ_ n xr26 xr27 1).bind fun xr28=>(some (aJ_.mk xr1.q xr24 xr28)))) (some (aJ_.mk xr1.q xr24 xr26))))) (cond append.has ((bH_ n append.new o.q.kidCol).bind fun xr29=>((aQ_ n xr1.kids xr29 1).bind fun xr30=>(some (aJ_.mk xr1.q xr24 xr30)))) (some { xr1 with rows:=xr24 }))) (some { xr1 with rows:=xr24 })) (some { xr1 with rows:=xr24 }))) (cond o.q.kids (cond (append.table == o.q.kidTable) (cond append.had ((bH_ n append.old o.q.kidCol).bind fun xr31=>((aQ_ n xr1.kids xr31 (-1)).bind fun xr32=>(cond append.has ((bH_ n append.new o.q.kidCol).bind fun xr33=>((aQ_ n xr32 xr33 1).bind fun xr34=>(some { xr1 with kids:=xr34 }))) (some { xr1 with kids:=xr32 })))) (cond append.has ((bH_ n append.new o.q.kidCol).bind fun xr35=>((aQ_ n xr1.kids xr35 1).bind fun xr36=>(some { xr1 with kids:=xr36 }))) (some xr1))) (some xr1)) (some xr1)))) (cond o.q.kids (cond (append.table == o.q.kidTable) (cond append.had ((bH_ n append.old o.q.kidCol).bind fun xr37=>((aQ_ n xr1.kids xr37 (-1)).bind fun xr38=>(cond append.has ((bH_ n append.new o.q.kidCol).bind fun xr39=>((aQ_ n xr38 xr39 1).bind fun xr40=>(some { xr1 with kids:=xr40 }))) (some { xr1 with kids:=xr38 })))) (cond append.has ((bH_ n append.new o.q.kidCol).bind fun xr41=>((aQ_ n xr1.kids xr41 1).bind fun xr42=>(some { xr1 with kids:=xr42 }))) (some xr1))) (some xr1)) (some xr1)))) (cond o.q.kids (cond (append.table == o.q.kidTable) (cond append.had ((bH_ n append.old o.q.kidCol).bind fun xr43=>((aQ_ n xr1.kids xr43 (-1)).bind fun xr44=>(cond append.has ((bH_ n append.new o.q.kidCol).bind fun xr45=>((aQ_ n xr44 xr45 1).bind fun xr46=>(some { xr1 with kids:=xr46 }))) (some { xr1 with kids:=xr44 })))) (cond append.has ((bH_ n append.new o.q.kidCol).bind fun xr47=>((aQ_ n xr1.kids xr47 1).bind fun xr48=>(some { xr1 with kids:=xr48 }))) (some xr1))) (some xr1)) (some xr1))))
abbrev aT_.K4:Type:=Int→Int→Bool→Int→Bool→Int→Int→Int→Int→Bool→Int→Bool→Int→Int→(List br_)→(List Int)→(List TRow)→(List TKid)→Option aJ_
abbrev aT_.T4:Type:=(List aS_)→Int→Int→Int→Bool→Int→Bool→Int→Int→Int→Int→Bool→Int→Bool→Int→Int→(List br_)→(List Int)→(List TRow)→(List TKid)→Option aJ_
def aT_.step4 (n:Nat) (k0:aT_.K4) (back:aT_.T4):aT_.T4:=fun list i t40 t42 t43 t44 t46 t47 t48 out0 out2 out3 out4 out6 out7 out8 out1 out5 out9 out10=>
 (cond (decide (i<(list.length:Int))) (inB i list.length ((c8_ n (aJ_.mk (ap_.mk out0 out1 out2 out3 out4 out5 out6 out7 out8) out9 out10) { (list.getD i.toNat aS_.dflt) with old:=((list.getD i.toNat aS_.dflt).old),new:=((list.getD i.toNat aS_.dflt).new) }).bind fun xr2=>(back list (W (i+1)) t40 t42 t43 t44 t46 t47 t48 xr2.q.table xr2.q.order xr2.q.down xr2.q.first xr2.q.kids xr2.q.kidTable xr2.q.kidCol xr2.q.where_ xr2.q.show_ xr2.rows xr2.kids))) (k0 t40 t42 t43 t44 t46 t47 t48 out0 out2 out3 out4 out6 out7 out8 out1 out5 out9 out10))
def aT_.loop4 (n:Nat) (k0:aT_.K4) (N:Nat):aT_.T4:=co_ (fun _ _ _ _ _ _ _ _ _ _ _ _ _ _ _ _ _ _ _ _=>none) (aT_.step4 n k0) N
def aT_:Nat→aJ_→(List aS_)→Option aJ_
 |0,_,_=>none
 |n+1,v,list=>
  ((cI_ n v).bind fun xr1=>(aT_.loop4 n (fun xy3 xy4 xy5 xy6 xy7 xy8 xy9 xy10 xy11 xy12 xy13 xy14 xy15 xy16 xy17 xy18 xy19 xy20=>(some (aJ_.mk (ap_.mk xy10 xy17 xy11 xy12 xy13 xy18 xy14 xy15 xy16) xy19 xy20))) n list 0 0 0 false 0 false 0 0 xr1.q.table xr1.q.order xr1.q.down xr1.q.first xr1.q.kids xr1.q.kidTable xr1.q.kidCol xr1.q.where_ xr1.q.show_ xr1.rows xr1.kids))
def dT_:Nat→bS_→(List aS_)→Option bS_
 |0,_,_=>none
 |n+1,x,list=>
  ((dK_ n x).bind fun xr1=>((aT_ n x.view list).bind fun xr2=>(some { xr1 with view:=xr2,version:=(W (x.version+1)) })))
def au_.tail10 (n:Nat) (kn:Int→(List Int)→Int→Int→Int→Int→Int→Bool→Int→Bool→Int→Int→Int→Int→Int→Bool→Int→Bool→Int→Int→Int→Bool→(List Int)→Int→(List (List TRow))→Int→(List br_)→Int→Bool→Int→(List Int)→Bool→Int→Int→(List TRow)→(List TKid)→Int→Int→(List br_)→Int→Bool→Int→(List Int)→Bool→Int→Int→(List TRow)→(List TKid)→Int→Bool→Option (ar_ × bS_ × al_)) (i:Int) (t29:Bool) (c0:List Int) (c1:Int) (c2:Int) (t21:Int) (t30:Int) (t32:Int) (t33:Bool) (t34:Int) (t36:Bool) (t37:Int) (t38:Int) (t311:Int) (t312:Int) (t314:Int) (t315:Bool) (t316:Int) (t318:Bool) (t319:Int) (t320:Int) (t323:Int) (t324:Bool) (s0:List Int) (s1:Int) (s2:List (List TRow)) (x0:Int) (x1:List br_) (x2:Int) (x3:Bool) (x4:Int) (x5:List Int) (x6:Bool) (x7:Int) (x8:Int) (x9:List TRow) (x10:List TKid) (x11:Int) (x12:Int) (x13:List br_) (x14:Int) (x15:Bool) (x16:Int) (x17:List Int) (x18:Bool) (x19:Int) (x20:Int) (x21:List TRow) (x22:List TKid) (x23:Int) (x24:Bool):Option (ar_ × bS_ × al_) :=
 (cond t29 ((c9_ n (bS_.mk (aJ_.mk (ap_.mk x0 x1 x2 x3 x4 x5 x6 x7 x8) x9 x10) x11 (aJ_.mk (ap_.mk x12 x13 x14 x15 x16 x17 x18 x19 x20) x21 x22) x23 x24)).bind fun xr6=>(kn i c0 c1 c2 t21 t30 t32 t33 t34 t36 t37 t38 t311 t312 t314 t315 t316 t318 t319 t320 t323 t324 s0 s1 s2 xr6.1.view.q.table xr6.1.view.q.where_ xr6.1.view.q.order xr6.1.view.q.down xr6.1.view.q.first xr6.1.view.q.show_ xr6.1.view.q.kids xr6.1.view.q.kidTable xr6.1.view.q.kidCol xr6.1.view.rows xr6.1.view.kids xr6.1.version xr6.1.last.q.table xr6.1.last.q.where_ xr6.1.last.q.order xr6.1.last.q.down xr6.1.last.q.first xr6.1.last.q.show_ xr6.1.last.q.kids xr6.1.last.q.kidTable xr6.1.last.q.kidCol xr6.1.last.rows xr6.1.last.kids xr6.1.lastVersion xr6.1.began)) (kn i c0 c1 c2 t21 t30 t32 t33 t34 t36 t37 t38 t311 t312 t314 t315 t316 t318 t319 t320 t323 t324 s0 s1 s2 x0 x1 x2 x3 x4 x5 x6 x7 x8 x9 x10 x11 x12 x13 x14 x15 x16 x17 x18 x19 x20 x21 x22 x23 x24))
abbrev au_.K5:Type:=(List Int)→Int→Int→Int→Int→Int→Bool→Int→Bool→Int→Int→Int→Int→Int→Bool→Int→Bool→Int→Int→Int→Bool→(List Int)→Int→(List (List TRow))→Int→(List br_)→Int→Bool→Int→(List Int)→Bool→Int→Int→(List TRow)→(List TKid)→Int→Int→(List br_)→Int→Bool→Int→(List Int)→Bool→Int→Int→(List TRow)→(List TKid)→Int→Bool→Option (ar_ × bS_ × al_)
abbrev au_.T5:Type:=Int→(List Int)→Int→Int→Int→Int→Int→Bool→Int→Bool→Int→Int→Int→Int→Int→Bool→Int→Bool→Int→Int→Int→Bool→(List Int)→Int→(List (List TRow))→Int→(List br_)→Int→Bool→Int→(List Int)→Bool→Int→Int→(List TRow)→(List TKid)→Int→Int→(List br_)→Int→Bool→Int→(List Int)→Bool→Int→Int→(List TRow)→(List TKid)→Int→Bool→Option (ar_ × bS_ × al_)
def au_.step5 (n:Nat) (k0:au_.K5) (back:au_.T5):au_.T5:=fun i c0 c1 c2 t21 t30 t32 t33 t34 t36 t37 t38 t311 t312 t314 t315 t316 t318 t319 t320 t323 t324 s0 s1 s2 x0 x1 x2 x3 x4 x5 x6 x7 x8 x9 x10 x11 x12 x13 x14 x15 x16 x17 x18 x19 x20 x21 x22 x23 x24=>
 ((av_ n (al_.mk c0 c1 c2) 6).bind fun xr4=>(cond (decide (i<xr4.1)) ((cA_ n xr4.2 2).bind fun xr5=>(au_.tail10 n (fun xy7 xy8 xy9 xy10 xy11 xy12 xy13 xy14 xy15 xy16 xy17 xy18 xy19 xy20 xy21 xy22 xy23 xy24 xy25 xy26 xy27 xy28 xy29 xy30 xy31 xy32 xy33 xy34 xy35 xy36 xy37 xy38 xy39 xy40 xy41 xy42 xy43 xy44 xy45 xy46 xy47 xy48 xy49 xy50 xy51 xy52 xy53 xy54 xy55 xy56=>((aC_ n (al_.mk xy8 xy9 xy10) (ar_.mk (aI_.mk xy29) xy30 xy31)).bind fun xr57=>((bt_ n (ar_.mk (aI_.mk xy29) xy30 xy31) xr57.1).bind fun xr58=>(cond xr58.2.2 ((dT_ n (bS_.mk (aJ_.mk (ap_.mk xy32 xy33 xy34 xy35 xy36 xy37 xy38 xy39 xy40) xy41 xy42) xy43 (aJ_.mk (ap_.mk xy44 xy45 xy46 xy47 xy48 xy49 xy50 xy51 xy52) xy53 xy54) xy55 xy56) xr58.2.1).bind fun xr59=>(back (W (xy7+1)) xr57.2.b xr57.2.i xr57.2.h xy11 xy12 xy13 xy14 xy15 xy16 xy17 xy18 xy19 xy20 xy21 xy22 xy23 xy24 xy25 xy26 xy27 xy28 xr58.1.schema.cols xr58.1.version xr58.1.tables xr59.view.q.table xr59.view.q.where_ xr59.view.q.order xr59.view.q.down xr59.view.q.first xr59.view.q.show_ xr59.view.q.kids xr59.view.q.kidTable xr59.view.q.kidCol xr59.view.rows xr59.view.kids xr59.version xr59.last.q.table xr59.last.q.where_ xr59.last.q.order xr59.last.q.down xr59.last.q.first xr59.last.q.show_ xr59.last.q.kids xr59.last.q.kidTable xr59.last.q.kidCol xr59.last.rows xr59.last.kids xr59.lastVersion xr59.began)) (back (W (xy7+1)) xr57.2.b xr57.2.i xr57.2.h xy11 xy12 xy13 xy14 xy15 xy16 xy17 xy18 xy19 xy20 xy21 xy22 xy23 xy24 xy25 xy26 xy27 xy28 xy29 xy30 xy31 xy32 xy33 xy34 xy35 xy36 xy37 xy38 xy39 xy40 xy41 xy42 xy43 xy44 xy45 xy46 xy47 xy48 xy49 xy50 xy51 xy52 xy53 xy54 xy55 xy56))))) i xr5.1 xr5.2.b xr5.2.i xr5.2.h t21 t30 t32 t33 t34 t36 t37 t38 t311 t312 t314 t315 t316 t318 t319 t320 t323 t324 s0 s1 s2 x0 x1 x2 x3 x4 x5 x6 x7 x8 x9 x10 x11 x12 x13 x14 x15 x16 x17 x18 x19 x20 x21 x22 x23 x24)) (k0 xr4.2.b xr4.2.i xr4.2.h t21 t30 t32 t33 t34 t36 t37 t38 t311 t312 t314 t315 t316 t318 t319 t320 t323 t324 s0 s1 s2 x0 x1 x2 x3 x4 x5 x6 x7 x8 x9 x10 x11 x12 x13 x14 x15 x16 x17 x18 x19 x20 x21 x22 x23 x24)))
def au_.loop5 (n:Nat) (k0:au_.K5) (N:Nat):au_.T5:=co_ (fun _ _ _ _ _ _ _ _ _ _ _ _ _ _ _ _ _ _ _ _ _ _ _ _ _ _ _ _ _ _ _ _ _ _ _ _ _ _ _ _ _ _ _ _ _ _ _ _ _ _=>none) (au_.step5 n k0) N
def au_.tail1 (n:Nat) (c0:List Int) (c1:Int) (c2:Int) (t21:Int) (t30:Int) (t32:Int) (t33:Bool) (t34:Int) (t36:Bool) (t37:Int) (t38:Int) (t311:Int) (t312:Int) (t314:Int) (t315:Bool) (t316:Int) (t318:Bool) (t319:Int) (t320:Int) (t323:Int) (t324:Bool) (s0:List Int) (s1:Int) (s2:List (List TRow)):Option (ar_ × bS_ × al_) :=
 ((ad_ n (al_.mk c0 c1 c2) (aI_.mk s0)).bind fun xr2=>((d7_ n (ar_.mk (aI_.mk s0) s1 s2) xr2.1).bind fun xr3=>(au_.loop5 n (fun xy60 xy61 xy62 xy63 xy64 xy65 xy66 xy67 xy68 xy69 xy70 xy71 xy72 xy73 xy74 xy75 xy76 xy77 xy78 xy79 xy80 xy81 xy82 xy83 xy84 xy85 xy86 xy87 xy88 xy89 xy90 xy91 xy92 xy93 xy94 xy95 xy96 xy97 xy98 xy99 xy100 xy101 xy102 xy103 xy104 xy105 xy106 xy107 xy108=>(some ((ar_.mk (aI_.mk xy81) xy82 xy83),(bS_.mk (aJ_.mk (ap_.mk xy84 xy85 xy86 xy87 xy88 xy89 xy90 xy91 xy92) xy93 xy94) xy95 (aJ_.mk (ap_.mk xy96 xy97 xy98 xy99 xy100 xy101 xy102 xy103 xy104) xy105 xy106) xy107 xy108),(al_.mk xy60 xy61 xy62)))) n 0 xr2.2.b xr2.2.i xr2.2.h t21 t30 t32 t33 t34 t36 t37 t38 t311 t312 t314 t315 t316 t318 t319 t320 t323 t324 s0 s1 s2 xr3.1.view.q.table xr3.1.view.q.where_ xr3.1.view.q.order xr3.1.view.q.down xr3.1.view.q.first xr3.1.view.q.show_ xr3.1.view.q.kids xr3.1.view.q.kidTable xr3.1.view.q.kidCol xr3.1.view.rows xr3.1.view.kids xr3.1.version xr3.1.last.q.table xr3.1.last.q.where_ xr3.1.last.q.order xr3.1.last.q.down xr3.1.last.q.first xr3.1.last.q.show_ xr3.1.last.q.kids xr3.1.last.q.kidTable xr3.1.last.q.kidCol xr3.1.last.rows xr3.1.last.kids xr3.1.lastVersion xr3.1.began)))
def au_:Nat→al_→Option (ar_ × bS_ × al_)
 |0,_=>none
 |n+1,c=>
  ((az_ n c).bind fun xr1=>(au_.tail1 n xr1.2.b xr1.2.i xr1.2.h 0 0 0 false 0 false 0 0 0 0 0 false 0 false 0 0 0 false xr1.1.schema.cols xr1.1.version xr1.1.tables))
def bW_.tail1 (n:Nat) (c0:List Int) (c1:Int) (c2:Int) (t21:Int) (t30:Int) (t32:Int) (t33:Bool) (t34:Int) (t36:Bool) (t37:Int) (t38:Int) (s0:List Int) (s1:Int) (s2:List (List TRow)):Option (ar_ × aJ_ × al_) :=
 ((ad_ n (al_.mk c0 c1 c2) (aI_.mk s0)).bind fun xr2=>((bM_ n (ar_.mk (aI_.mk s0) s1 s2) xr2.1).bind fun xr3=>(some ((ar_.mk (aI_.mk s0) s1 s2),xr3.1,xr2.2))))
def bW_:Nat→al_→Option (ar_ × aJ_ × al_)
 |0,_=>none
 |n+1,c=>
  ((az_ n c).bind fun xr1=>(bW_.tail1 n xr1.2.b xr1.2.i xr1.2.h 0 0 0 false 0 false 0 0 xr1.1.schema.cols xr1.1.version xr1.1.tables))
def d5_:Nat→al_→Option (ar_ × bS_ × al_)
 |0,_=>none
 |n+1,c=>
  ((au_ n c).bind fun xr1=>((av_ n xr1.2.2 15).bind fun xr2=>(cond (xr2.1 == 0) ((bU_ n xr2.2 ([(-1),0,100001]:List Int)).bind fun xr3=>(some (xr1.1,{ xr1.2.1 with version:=xr3.1 },xr3.2))) (cond (xr2.1 == 1) (some (xr1.1,{ xr1.2.1 with began:=(!xr1.2.1.began) },xr2.2)) (cond (xr2.1 == 2) ((av_ n xr2.2 9).bind fun xr4=>(some (xr1.1,{ xr1.2.1 with lastVersion:=(W (xr4.1 - 1)) },xr4.2))) (cond (xr2.1 == 3) ((bW_ n xr2.2).bind fun xr5=>(some (xr1.1,{ xr1.2.1 with last:=xr5.2.1 },xr5.2.2))) (some (xr1.1,xr1.2.1,xr2.2))))))))
def cO_:Nat→(List Int)→Option bS_
 |0,_=>none
 |n+1,fN_=>
  ((b9_ n fN_).bind fun xr1=>((d5_ n xr1).bind fun xr2=>(some xr2.2.1)))
def du_:Nat→(List Int)→Option (List Int)
 |0,_=>none
 |n+1,l=>
  (bv_ (([]:List Int).length+l.length) 8 (some (([]:List Int)++l)))
def dt_:Nat→ap_→Option ap_
 |0,_=>none
 |n+1,q=>
  (bv_ (([]:List br_).length+q.where_.length) 24 ((du_ n q.show_).bind fun xr1=>(some { q with where_:=(([]:List br_)++q.where_),show_:=xr1 })))
def eb_:Nat→TRow→Option TRow
 |0,_=>none
 |n+1,r=>
  ((du_ n r.cells).bind fun xr1=>(some (TRow.mk r.id_ xr1)))
abbrev be_.K4:Type:=(List TRow)→Option (List TRow)
abbrev be_.T4:Type:=(List TRow)→Int→Int→(List TRow)→Option (List TRow)
def be_.step4 (n:Nat) (k0:be_.K4) (back:be_.T4):be_.T4:=fun t7 t8 t9 out_1=>
 (cond (decide (t9<t8)) (inB t9 t7.length ((eb_ n (t7.getD t9.toNat TRow.dflt)).bind fun xr1=>(bv_ (out_1.length+([xr1]:List TRow).length) 32 (back t7 t8 (W (t9+1)) (out_1++([xr1]:List TRow)))))) (k0 out_1))
def be_.loop4 (n:Nat) (k0:be_.K4) (N:Nat):be_.T4:=co_ (fun _ _ _ _=>none) (be_.step4 n k0) N
def be_:Nat→(List TRow)→Option (List TRow)
 |0,_=>none
 |n+1,rows=>
  (be_.loop4 n (fun xy2=>(some xy2)) n rows (rows.length:Int) 0 ([]:List TRow))
def cP_:Nat→aJ_→Option aJ_
 |0,_=>none
 |n+1,v=>
  ((dt_ n v.q).bind fun xr1=>((be_ n v.rows).bind fun xr2=>(bv_ (([]:List TKid).length+v.kids.length) 16 (some (aJ_.mk xr1 xr2 (([]:List TKid)++v.kids))))))
def dF_:Nat→bS_→Option bS_
 |0,_=>none
 |n+1,x=>
  ((cP_ n x.view).bind fun xr1=>((cP_ n x.last).bind fun xr2=>(some { x with view:=xr1,last:=xr2 })))
abbrev b3_.T3:Type:=Int→(List TKid)→Int→Int→Option Int
def b3_.step3 (n:Nat) (k0:Option Int) (back:b3_.T3):b3_.T3:=fun id_1 t8 t9 t10=>
 (cond (decide (t10<t9)) (inB t10 t8.length (cond (((t8.getD t10.toNat TKid.dflt).id_) == id_1) (some ((t8.getD t10.toNat TKid.dflt).n_)) (back id_1 t8 t9 (W (t10+1))))) k0)
def b3_.loop3 (n:Nat) (k0:Option Int) (N:Nat):b3_.T3:=co_ (fun _ _ _ _=>none) (b3_.step3 n k0) N
def b3_:Nat→aJ_→Int→Option Int
 |0,_,_=>none
 |n+1,v,id1=>
  (b3_.loop3 n (some 0) n id1 v.kids (v.kids.length:Int) 0)
abbrev aW_.K4:Type:=(List Int)→Option (List Int)
abbrev aW_.T4:Type:=(List TRow)→Int→Int→Int→(List br_)→Int→Bool→Int→(List Int)→Bool→Int→Int→(List TRow)→(List TKid)→(List Int)→Option (List Int)
def aW_.step4 (n:Nat) (k0:aW_.K4) (back:aW_.T4):aW_.T4:=fun t8 t9 t10 v0 v1 v2 v3 v4 v5 v6 v7 v8 v9 v10 kids=>
 (cond (decide (t10<t9)) (inB t10 t8.length ((b3_ n (aJ_.mk (ap_.mk v0 v1 v2 v3 v4 v5 v6 v7 v8) v9 v10) ((t8.getD t10.toNat TRow.dflt).id_)).bind fun xr1=>(bv_ (kids.length+([xr1]:List Int).length) 8 (back t8 t9 (W (t10+1)) v0 v1 v2 v3 v4 v5 v6 v7 v8 v9 v10 (kids++([xr1]:List Int)))))) (k0 kids))
def aW_.loop4 (n:Nat) (k0:aW_.K4) (N:Nat):aW_.T4:=co_ (fun _ _ _ _ _ _ _ _ _ _ _ _ _ _ _=>none) (aW_.step4 n k0) N
def aW_:Nat→aJ_→Option (List Int)
 |0,_=>none
 |n+1,v=>
  (aW_.loop4 n (fun xy2=>(some xy2)) n v.rows (v.rows.length:Int) 0 v.q.table v.q.where_ v.q.order v.q.down v.q.first v.q.show_ v.q.kids v.q.kidTable v.q.kidCol v.rows v.kids ([]:List Int))
def ea_:Nat→ap_→Int→Option Int
 |0,_,_=>none
 |n+1,q,count=>
  (cond (q.first == 0) (some count) (let xv1:Int:=(cond (decide (count<(cond (decide ((0:Int) > q.first)) 0 q.first))) count (cond (decide ((0:Int) > q.first)) 0 q.first));(some xv1)))
abbrev a2_.T3:Type:=(List Int)→Int→Int→Int→Option Int
def a2_.step3 (n:Nat) (k0:Option Int) (back:a2_.T3):a2_.T3:=fun s v t7 t8=>
 (cond (decide (t8<t7)) (inB t8 s.length (cond (v == (s.getD t8.toNat 0)) (some t8) (back s v t7 (W (t8+1))))) k0)
def a2_.loop3 (n:Nat) (k0:Option Int) (N:Nat):a2_.T3:=co_ (fun _ _ _ _=>none) (a2_.step3 n k0) N
def a2_:Nat→(List Int)→Int→Option Int
 |0,_,_=>none
 |n+1,s,v=>
  (a2_.loop3 n (some (-1)) n s v (s.length:Int) 0)
def ch_:Nat→(List Int)→Int→Option Bool
 |0,_,_=>none
 |n+1,s,v=>
  ((a2_ n s v).bind fun xr1=>(some (decide (xr1≥0))))
def strconv_Itoa:Nat→Int→Option Bs
 |0,_=>none
 |_+1,i=>nItoa i
def es_:Nat→Int→Option Bs
 |0,_=>none
 |n+1,n1=>
  ((strconv_Itoa n n1).bind fun xr1=>(some xr1))
def aL_:Nat→Int→Int→Int→Option Bool
 |0,_,_,_=>none
 |n+1,n1,low,high=>
  (cond (decide (n1≥low)) (some (decide (n1≤high))) (some false))
def eu_:Nat→TRow→Int→Option Int
 |0,_,_=>none
 |n+1,r,col=>
  ((aL_ n col 0 (W ((r.cells.length:Int) - 1))).bind fun xr1=>(cond (!xr1) (some 0) (inB col r.cells.length (some (r.cells.getD col.toNat 0)))))
def cC_:Nat→Bs→Option Bool
 |0,_=>none
 |n+1,x=>
  (some (!(x == x)))
def cX_:Nat→Bs→Bs→Option Bool
 |0,_,_=>none
 |n+1,x,y=>
  ((cC_ n x).bind fun xr1=>(cond xr1 ((cC_ n y).bind fun xr2=>(cond (!xr2) (some true) (some (Op.bytesLess x y)))) (some (Op.bytesLess x y))))
def cg_:Nat→Bs→Option Bool
 |0,_=>none
 |n+1,x=>
  (some (!(x == x)))
abbrev am_.K4:Type:=(List Bs)→Bs→Int→Int→Option (Int × Bool)
abbrev am_.T4:Type:=(List Bs)→Bs→Int→Int→Int→Option (Int × Bool)
def am_.step4 (n:Nat) (k0:am_.K4) (back:am_.T4):am_.T4:=fun x target n_1 i j=>
 (cond (decide (i<j)) (let xv1:Int:=(Int.fdiv (IntKind.u64.wrap ((W (i+j)))) (2 ^ min (1:Int).toNat (IntKind.bits .u64)));(inB (W (xv1)) x.length ((cX_ n (x.getD (W (xv1)).toNat []) target).bind fun xr2=>(cond xr2 (back x target n_1 (W ((W (xv1))+1)) j) (back x target n_1 i (W (xv1))))))) (k0 x target n_1 i))
def am_.loop4 (n:Nat) (k0:am_.K4) (N:Nat):am_.T4:=co_ (fun _ _ _ _ _=>none) (am_.step4 n k0) N
def am_:Nat→(List Bs)→Bs→Option (Int × Bool)
 |0,_,_=>none
 |n+1,x,target=>
  (am_.loop4 n (fun xy3 xy4 xy5 xy6=>(cond (decide (xy6<xy5)) (inB xy6 xy3.length (cond ((xy3.getD xy6.toNat []) == xy4) (some (xy6,true)) (inB xy6 xy3.length ((cg_ n (xy3.getD xy6.toNat [])).bind fun xr7=>(cond xr7 ((cg_ n xy4).bind fun xr8=>(some (xy6,xr8))) (some (xy6,false))))))) (some (xy6,false)))) n x target (x.length:Int) 0 (x.length:Int))
def b5_:Nat→List Bs→Int→List Bs→Option (List Bs)
 |0,_,_,_=>none
 |_+1,s,i,v=>g6_ 16 s i v
def b0_:Nat→List aa_→Int→List aa_→Option (List aa_)
 |0,_,_,_=>none
 |_+1,s,i,v=>g6_ 80 s i v
abbrev bT_.K4:Type:=Int→Int→Bs→Int→Int→Bs→(List aa_)→(List Bs)→Option aa_
abbrev bT_.T4:Type:=(List Int)→(List Bs)→Int→Int→Int→Int→Bs→Int→Int→Bs→(List aa_)→(List Bs)→Option aa_
def bT_.step4 (n:Nat) (k0:bT_.K4) (back:bT_.T4):bT_.T4:=fun numbers t11 t12 t13 t40 t41 t42 j0 j1 j2 j3 j4=>
 (cond (decide (t13<t12)) (inB t13 t11.length ((am_ n j4 (t11.getD t13.toNat [])).bind fun xr1=>((b5_ n j4 xr1.1 ([(t11.getD t13.toNat [])]:List Bs)).bind fun xr2=>(inB t13 numbers.length ((b0_ n j3 xr1.1 ([(aa_.mk 2 (numbers.getD t13.toNat 0) [] [] [])]:List aa_)).bind fun xr3=>(back numbers t11 t12 (W (t13+1)) t40 t41 t42 j0 j1 j2 xr3 xr2)))))) (k0 t40 t41 t42 j0 j1 j2 j3 j4))
def bT_.loop4 (n:Nat) (k0:bT_.K4) (N:Nat):bT_.T4:=co_ (fun _ _ _ _ _ _ _ _ _ _ _ _=>none) (bT_.step4 n k0) N
def bT_:Nat→(List Bs)→(List Int)→Option aa_
 |0,_,_=>none
 |n+1,names,numbers=>
  (bT_.loop4 n (fun xy4 xy5 xy6 xy7 xy8 xy9 xy10 xy11=>(some (aa_.mk xy7 xy8 xy9 xy10 xy11))) n numbers names (names.length:Int) 0 0 0 [] 5 0 [] ([]:List aa_) ([]:List Bs))
def bd_:Nat→Int→Option Bool
 |0,_=>none
 |n+1,n1=>
  ((aL_ n n1 (-1000000000) 1000000000).bind fun xr1=>(some xr1))
abbrev aA_.T3:Type:=Bs→Int→Int→Option Bool
def aA_.step3 (n:Nat) (k0:Bs→Option Bool) (back:aA_.T3):aA_.T3:=fun s t5 t6=>
 (cond (decide (t6<t5)) (inB t6 s.length ((aL_ n (W (((s.getD t6.toNat 0).toNat:Int))) 32 126).bind fun xr1=>(cond (!xr1) (some false) (back s t5 (W (t6+1)))))) (k0 s))
def aA_.loop3 (n:Nat) (k0:Bs→Option Bool) (N:Nat):aA_.T3:=co_ (fun _ _ _=>none) (aA_.step3 n k0) N
def aA_:Nat→Bs→Option Bool
 |0,_=>none
 |n+1,s=>
  (aA_.loop3 n (fun xy2=>(some (decide ((xy2.length:Int)≤60)))) n s (s.length:Int) 0)
abbrev aw_.T3:Type:=(List Bs)→(List Bs)→Int→Int→Option Bool
def aw_.step3 (n:Nat) (k0:Option Bool) (back:aw_.T3):aw_.T3:=fun names t5 t6 t7=>
 (cond (decide (t7<t6)) (inB t7 t5.length ((aA_ n (t5.getD t7.toNat [])).bind fun xr1=>(cond (!xr1) (some false) (cond (decide (t7 > 0)) (inB (W (t7 - 1)) names.length (let xv2:Bool:=(!Op.bytesLess (names.getD (W (t7 - 1)).toNat []) (t5.getD t7.toNat []));(cond xv2 (some false) (back names t5 t6 (W (t7+1)))))) (back names t5 t6 (W (t7+1))))))) k0)
def aw_.loop3 (n:Nat) (k0:Option Bool) (N:Nat):aw_.T3:=co_ (fun _ _ _ _=>none) (aw_.step3 n k0) N
def aw_:Nat→(List Bs)→Option Bool
 |0,_=>none
 |n+1,names=>
  (aw_.loop3 n (some true) n names names (names.length:Int) 0)
def e2_:Nat→aa_→Option Bool
 |0,_=>none
 |n+1,o=>
  (cond (decide ((o.list.length:Int) > 0)) (cond (o.kind != 4) (cond (o.kind != 5) (some false) (cond (decide ((o.names.length:Int) > 0)) (cond (o.kind != 5) (some false) (cond (o.n_ != 0) (cond (o.kind != 1) (cond (o.kind != 2) (some false) (cond (!(o.s == [])) (cond (o.kind != 3) (some false) (cond (o.kind == 1) ((aL_ n o.n_ 0 1).bind fun xr1=>(some xr1)) (cond (o.kind == 2) ((bd_ n o.n_).bind fun xr2=>(some xr2)) (cond (o.kind == 3) ((aA_ n o.s).bind fun xr3=>(some xr3)) (cond (o.kind == 5) (cond ((o.names.length:Int) == (o.list.length:Int)) ((aw_ n o.names).bind fun xr4=>(some xr4)) (some false)) (cond (o.kind == 0) (some true) (some (o.kind == 4)))))))) (cond (o.kind == 1) ((aL_ n o.n_ 0 1).bind fun xr5=>(some xr5)) (cond (o.kind == 2) ((bd_ n o.n_).bind fun xr6=>(some xr6)) (cond (o.kind == 3) ((aA_ n o.s).bind fun xr7=>(some xr7)) (cond (o.kind == 5) (cond ((o.names.length:Int) == (o.list.length:Int)) ((aw_ n o.names).bind fun xr8=>(some xr8)) (some false)) (cond (o.kind == 0) (some true) (some (o.kind == 4))))))))) (cond (!(o.s == [])) (cond (o.kind != 3) (some false) (cond (o.kind == 1) ((aL_ n o.n_ 0 1).bind fun xr9=>(some xr9)) (cond (o.kind == 2) ((bd_ n o.n_).bind fun xr10=>(some xr10)) (cond (o.kind == 3) ((aA_ n o.s).bind fun xr11=>(some xr11)) (cond (o.kind == 5) (cond ((o.names.length:Int) == (o.list.length:Int)) ((aw_ n o.names).bind fun xr12=>(some xr12)) (some false)) (cond (o.kind == 0) (some true) (some (o.kind == 4)))))))) (cond (o.kind == 1) ((aL_ n o.n_ 0 1).bind fun xr13=>(some xr13)) (cond (o.kind == 2) ((bd_ n o.n_).bind fun xr14=>(some xr14)) (cond (o.kind == 3) ((aA_ n o.s).bind fun xr15=>(some xr15)) (cond (o.kind == 5) (cond ((o.names.length:Int) == (o.list.length:Int)) ((aw_ n o.names).bind fun xr16=>(some xr16)) (some false)) (cond (o.kind == 0) (some true) (some (o.kind == 4))))))))) (cond (!(o.s == [])) (cond (o.kind != 3) (some false) (cond (o.kind == 1) ((aL_ n o.n_ 0 1).bind fun xr17=>(some xr17)) (cond (o.kind == 2) ((bd_ n o.n_).bind fun xr18=>(some xr18)) (cond (o.kind == 3) ((aA_ n o.s).bind fun xr19=>(some xr19)) (cond (o.kind == 5) (cond ((o.names.length:Int) == (o.list.length:Int)) ((aw_ n o.names).bind fun xr20=>(some xr20)) (some false)) (cond (o.kind == 0) (some true) (some (o.kind == 4)))))))) (cond (o.kind == 1) ((aL_ n o.n_ 0 1).bind fun xr21=>(some xr21)) (cond (o.kind == 2) ((bd_ n o.n_).bind fun xr22=>(some xr22)) (cond (o.kind == 3) ((aA_ n o.s).bind fun xr23=>(some xr23)) (cond (o.kind == 5) (cond ((o.names.length:Int) == (o.list.length:Int)) ((aw_ n o.names).bind fun xr24=>(some xr24)) (some false)) (cond (o.kind == 0) (some true) (some (o.kind == 4)))))))))) (cond (o.n_ != 0) (cond (o.kind != 1) (cond (o.kind != 2) (some false) (cond (!(o.s == [])) (cond (o.kind != 3) (some false) (cond (o.kind == 1) ((aL_ n o.n_ 0 1).bind fun xr25=>(some xr25)) (cond (o.kind == 2) ((bd_ n o.n_).bind fun xr26=>(some xr26)) (cond (o.kind == 3) ((aA_ n o.s).bind fun xr27=>(some xr27)) (cond (o.kind == 5) (cond ((o.names.length:Int) == (o.list.length:Int)) ((aw_ n o.names).bind fun xr28=>(some xr28)) (some false)) (cond (o.kind == 0) (some true) (some (o.kind == 4)))))))) (cond (o.kind == 1) ((aL_ n o.n_ 0 1).bind fun xr29=>(some xr29)) (cond (o.kind == 2) ((bd_ n o.n_).bind fun xr30=>(some xr30)) (cond (o.kind == 3) ((aA_ n o.s).bind fun xr31=>(some xr31)) (cond (o.kind == 5) (cond ((o.names.length:Int) == (o.list.length:Int)) ((aw_ n o.names).bind fun xr32=>(some xr32)) (some false)) (cond (o.kind == 0) (some true) (some (o.kind == 4))))))))) (cond (!(o.s == [])) (cond (o.kind != 3) (some false) (cond (o.kind == 1) ((aL_ n o.n_ 0 1).bind fun xr33=>(some xr33)) (cond (o.kind == 2) ((bd_ n o.n_).bind fun xr34=>(some xr34)) (cond (o.kind == 3) ((aA_ n o.s).bind fun xr35=>(some xr35)) (cond (o.kind == 5) (cond ((o.names.length:Int) == (o.list.length:Int)) ((aw_ n o.names).bind fun xr36=>(some xr36)) (some false)) (cond (o.kind == 0) (some true) (some (o.kind == 4)))))))) (cond (o.kind == 1) ((aL_ n o.n_ 0 1).bind fun xr37=>(some xr37)) (cond (o.kind == 2) ((bd_ n o.n_).bind fun xr38=>(some xr38)) (cond (o.kind == 3) ((aA_ n o.s).bind fun xr39=>(some xr39)) (cond (o.kind == 5) (cond ((o.names.length:Int) == (o.list.length:Int)) ((aw_ n o.names).bind fun xr40=>(some xr40)) (some false)) (cond (o.kind == 0) (some true) (some (o.kind == 4))))))))) (cond (!(o.s == [])) (cond (o.kind != 3) (some false) (cond (o.kind == 1) ((aL_ n o.n_ 0 1).bind fun xr41=>(some xr41)) (cond (o.kind == 2) ((bd_ n o.n_).bind fun xr42=>(some xr42)) (cond (o.kind == 3) ((aA_ n o.s).bind fun xr43=>(some xr43)) (cond (o.kind == 5) (cond ((o.names.length:Int) == (o.list.length:Int)) ((aw_ n o.names).bind fun xr44=>(some xr44)) (some false)) (cond (o.kind == 0) (some true) (some (o.kind == 4)))))))) (cond (o.kind == 1) ((aL_ n o.n_ 0 1).bind fun xr45=>(some xr45)) (cond (o.kind == 2) ((bd_ n o.n_).bind fun xr46=>(some xr46)) (cond (o.kind == 3) ((aA_ n o.s).bind fun xr47=>(some xr47)) (cond (o.kind == 5) (cond ((o.names.length:Int) == (o.list.length:Int)) ((aw_ n o.names).bind fun xr48=>(some xr48)) (some false)) (cond (o.kind == 0) (some true) (some (o.kind == 4))))))))))) (cond (decide ((o.names.length:Int) > 0)) (cond (o.kind != 5) (some false) (cond (o.n_ != 0) (cond (o.kind != 1) (cond (o.kind != 2) (some false) (cond (!(o.s == [])) (cond (o.kind != 3) (some false) (cond (o.kind == 1) ((aL_ n o.n_ 0 1).bind fun xr49=>(some xr49)) (cond (o.kind == 2) ((bd_ n o.n_).bind fun xr50=>(some xr50)) (cond (o.kind == 3) ((aA_ n o.s).bind fun xr51=>(some xr51)) (cond (o.kind == 5) (cond ((o.names.length:Int) == (o.list.length:Int)) ((aw_ n o.names).bind fun xr52=>(some xr52)) (some false)) (cond (o.kind == 0) (some true) (some (o.kind == 4)))))))) (cond (o.kind == 1) ((aL_ n o.n_ 0 1).bind fun xr53=>(some xr53)) (cond (o.kind == 2) ((bd_ n o.n_).bind fun xr54=>(some xr54)) (cond (o.kind == 3) ((aA_ n o.s).bind fun xr55=>(some xr55)) (cond (o.kind == 5) (cond ((o.names.length:Int) == (o.list.length:Int)) ((aw_ n o.names).bind fun xr56=>(some xr56)) (some false)) (cond (o.kind == 0) (some true) (some (o.kind == 4))))))))) (cond (!(o.s == [])) (cond (o.kind != 3) (some false) (cond (o.kind == 1) ((aL_ n o.n_ 0 1).bind fun xr57=>(some xr57)) (cond (o.kind == 2) ((bd_ n o.n_).bind fun xr58=>(some xr58)) (cond (o.kind == 3) ((aA_ n o.s).bind fun xr59=>(some xr59)) (cond (o.kind == 5) (cond ((o.names.length:Int) == (o.list.length:Int)) ((aw_ n o.names).bind fun xr60=>(some xr60)) (some false)) (cond (o.kind == 0) (some true) (some (o.kind == 4)))))))) (cond (o.kind == 1) ((aL_ n o.n_ 0 1).bind fun xr61=>(some xr61)) (cond (o.kind == 2) ((bd_ n o.n_).bind fun xr62=>(some xr62)) (cond (o.kind == 3) ((aA_ n o.s).bind fun xr63=>(some xr63)) (cond (o.kind == 5) (cond ((o.names.length:Int) == (o.list.length:Int)) ((aw_ n o.names).bind fun xr64=>(some xr64)) (some false)) (cond (o.kind == 0) (some true) (some (o.kind == 4))))))))) (cond (!(o.s == [])) (cond (o.kind != 3) (some false) (cond (o.kind == 1) ((aL_ n o.n_ 0 1).bind fun xr65=>(some xr65)) (cond (o.kind == 2) ((bd_ n o.n_).bind fun xr66=>(some xr66)) (cond (o.kind == 3) ((aA_ n o.s).bind fun xr67=>(some xr67)) (cond (o.kind == 5) (cond ((o.names.length:Int) == (o.list.length:Int)) ((aw_ n o.names).bind fun xr68=>(some xr68)) (some false)) (cond (o.kind == 0) (some true) (some (o.kind == 4)))))))) (cond (o.kind == 1) ((aL_ n o.n_ 0 1).bind fun xr69=>(some xr69)) (cond (o.kind == 2) ((bd_ n o.n_).bind fun xr70=>(some xr70)) (cond (o.kind == 3) ((aA_ n o.s).bind fun xr71=>(some xr71)) (cond (o.kind == 5) (cond ((o.names.length:Int) == (o.list.length:Int)) ((aw_ n o.names).bind fun xr72=>(some xr72)) (some false)) (cond (o.kind == 0) (some true) (some (o.kind == 4)))))))))) (cond (o.n_ != 0) (cond (o.kind != 1) (cond (o.kind != 2) (some false) (cond (!(o.s == [])) (cond (o.kind != 3) (some false) (cond (o.kind == 1) ((aL_ n o.n_ 0 1).bind fun xr73=>(some xr73)) (cond (o.kind == 2) ((bd_ n o.n_).bind fun xr74=>(some xr74)) (cond (o.kind == 3) ((aA_ n o.s).bind fun xr75=>(some xr75)) (cond (o.kind == 5) (cond ((o.names.length:Int) == (o.list.length:Int)) ((aw_ n o.names).bind fun xr76=>(some xr76)) (some false)) (cond (o.kind == 0) (some true) (some (o.kind == 4)))))))) (cond (o.kind == 1) ((aL_ n o.n_ 0 1).bind fun xr77=>(some xr77)) (cond (o.kind == 2) ((bd_ n o.n_).bind fun xr78=>(some xr78)) (cond (o.kind == 3) ((aA_ n o.s).bind fun xr79=>(some xr79)) (cond (o.kind == 5) (cond ((o.names.length:Int) == (o.list.length:Int)) ((aw_ n o.names).bind fun xr80=>(some xr80)) (some false)) (cond (o.kind == 0) (some true) (some (o.kind == 4))))))))) (cond (!(o.s == [])) (cond (o.kind != 3) (some false) (cond (o.kind == 1) ((aL_ n o.n_ 0 1).bind fun xr81=>(some xr81)) (cond (o.kind == 2) ((bd_ n o.n_).bind fun xr82=>(some xr82)) (cond (o.kind == 3) ((aA_ n o.s).bind fun xr83=>(some xr83)) (cond (o.kind == 5) (cond ((o.names.length:Int) == (o.list.length:Int)) ((aw_ n o.names).bind fun xr84=>(some xr84)) (some false)) (cond (o.kind == 0) (some true) (some (o.kind == 4)))))))) (cond (o.kind == 1) ((aL_ n o.n_ 0 1).bind fun xr85=>(some xr85)) (cond (o.kind == 2) ((bd_ n o.n_).bind fun xr86=>(some xr86)) (cond (o.kind == 3) ((aA_ n o.s).bind fun xr87=>(some xr87)) (cond (o.kind == 5) (cond ((o.names.length:Int) == (o.list.length:Int)) ((aw_ n o.names).bind fun xr88=>(some xr88)) (some false)) (cond (o.kind == 0) (some true) (some (o.kind == 4))))))))) (cond (!(o.s == [])) (cond (o.kind != 3) (some false) (cond (o.kind == 1) ((aL_ n o.n_ 0 1).bind fun xr89=>(some xr89)) (cond (o.kind == 2) ((bd_ n o.n_).bind fun xr90=>(some xr90)) (cond (o.kind == 3) ((aA_ n o.s).bind fun xr91=>(some xr91)) (cond (o.kind == 5) (cond ((o.names.length:Int) == (o.list.length:Int)) ((aw_ n o.names).bind fun xr92=>(some xr92)) (some false)) (cond (o.kind == 0) (some true) (some (o.kind == 4)))))))) (cond (o.kind == 1) ((aL_ n o.n_ 0 1).bind fun xr93=>(some xr93)) (cond (o.kind == 2) ((bd_ n o.n_).bind fun xr94=>(some xr94)) (cond (o.kind == 3) ((aA_ n o.s).bind fun xr95=>(some xr95)) (cond (o.kind == 5) (cond ((o.names.length:Int) == (o.list.length:Int)) ((aw_ n o.names).bind fun xr96=>(some xr96)) (some false)) (cond (o.kind == 0) (some true) (some (o.kind == 4))))))))))) (cond (decide ((o.names.length:Int) > 0)) (cond (o.kind != 5) (some false) (cond (o.n_ != 0) (cond (o.kind != 1) (cond (o.kind != 2) (some false) (cond (!(o.s == [])) (cond (o.kind != 3) (some false) (cond (o.kind == 1) ((aL_ n o.n_ 0 1).bind fun xr97=>(some xr97)) (cond (o.kind == 2) ((bd_ n o.n_).bind fun xr98=>(some xr98)) (cond (o.kind == 3) ((aA_ n o.s).bind fun xr99=>(some xr99)) (cond (o.kind == 5) (cond ((o.names.length:Int) == (o.list.length:Int)) ((aw_ n o.names).bind fun xr100=>(some xr100)) (some false)) (cond (o.kind == 0) (some true) (some (o.kind == 4)))))))) (cond (o.kind == 1) ((aL_ n o.n_ 0 1).bind fun xr101=>(some xr101)) (cond (o.kind == 2) ((bd_ n o.n_).bind fun xr102=>(some xr102)) (cond (o.kind == 3) ((aA_ n o.s).bind fun xr103=>(some xr103)) (cond (o.kind == 5) (cond ((o.names.length:Int) == (o.list.length:Int)) ((aw_ n o.names).bind fun xr104=>(some xr104)) (some false)) (cond (o.kind == 0) (some true) (some (o.kind == 4))))))))) (cond (!(o.s == [])) (cond (o.kind != 3) (some false) (cond (o.kind == 1) ((aL_ n o.n_ 0 1).bind fun xr105=>(some xr105)) (cond (o.kind == 2) ((bd_ n o.n_).bind fun xr106=>(some xr106)) (cond (o.kind == 3) ((aA_ n o.s).bind fun xr107=>(some xr107)) (cond (o.kind == 5) (cond ((o.names.length:Int) == (o.list.length:Int)) ((aw_ n o.names).bind fun xr108=>(some xr108)) (some false)) (cond (o.kind == 0) (some true) (some (o.kind == 4)))))))) (cond (o.kind == 1) ((aL_ n o.n_ 0 1).bind fun xr109=>(some xr109)) (cond (o.kind == 2) ((bd_ n o.n_).bind fun xr110=>(some xr110)) (cond (o.kind == 3) ((aA_ n o.s).bind fun xr111=>(some xr111)) (cond (o.kind == 5) (cond ((o.names.length:Int) == (o.list.length:Int)) ((aw_ n o.names).bind fun xr112=>(some xr112)) (some false)) (cond (o.kind == 0) (some true) (some (o.kind == 4))))))))) (cond (!(o.s == [])) (cond (o.kind != 3) (some false) (cond (o.kind == 1) ((aL_ n o.n_ 0 1).bind fun xr113=>(some xr113)) (cond (o.kind == 2) ((bd_ n o.n_).bind fun xr114=>(some xr114)) (cond (o.kind == 3) ((aA_ n o.s).bind fun xr115=>(some xr115)) (cond (o.kind == 5) (cond ((o.names.length:Int) == (o.list.length:Int)) ((aw_ n o.names).bind fun xr116=>(some xr116)) (some false)) (cond (o.kind == 0) (some true) (some (o.kind == 4)))))))) (cond (o.kind == 1) ((aL_ n o.n_ 0 1).bind fun xr117=>(some xr117)) (cond (o.kind == 2) ((bd_ n o.n_).bind fun xr118=>(some xr118)) (cond (o.kind == 3) ((aA_ n o.s).bind fun xr119=>(some xr119)) (cond (o.kind == 5) (cond ((o.names.length:Int) == (o.list.length:Int)) ((aw_ n o.names).bind fun xr120=>(some xr120)) (some false)) (cond (o.kind == 0) (some true) (some (o.kind == 4)))))))))) (cond (o.n_ != 0) (cond (o.kind != 1) (cond (o.kind != 2) (some false) (cond (!(o.s == [])) (cond (o.kind != 3) (some false) (cond (o.kind == 1) ((aL_ n o.n_ 0 1).bind fun xr121=>(some xr121)) (cond (o.kind == 2) ((bd_ n o.n_).bind fun xr122=>(some xr122)) (cond (o.kind == 3) ((aA_ n o.s).bind fun xr123=>(some xr123)) (cond (o.kind == 5) (cond ((o.names.length:Int) == (o.list.length:Int)) ((aw_ n o.names).bind fun xr124=>(some xr124)) (some false)) (cond (o.kind == 0) (some true) (some (o.kind == 4)))))))) (cond (o.kind == 1) ((aL_ n o.n_ 0 1).bind fun xr125=>(some xr125)) (cond (o.kind == 2) ((bd_ n o.n_).bind fun xr126=>(some xr126)) (cond (o.kind == 3) ((aA_ n o.s).bind fun xr127=>(some xr127)) (cond (o.kind == 5) (cond ((o.names.length:Int) == (o.list.length:Int)) ((aw_ n o.names).bind fun xr128=>(some xr128)) (some false)) (cond (o.kind == 0) (some true) (some (o.kind == 4))))))))) (cond (!(o.s == [])) (cond (o.kind != 3) (some false) (cond (o.kind == 1) ((aL_ n o.n_ 0 1).bind fun xr129=>(some xr129)) (cond (o.kind == 2) ((bd_ n o.n_).bind fun xr130=>(some xr130)) (cond (o.kind == 3) ((aA_ n o.s).bind fun xr131=>(some xr131)) (cond (o.kind == 5) (cond ((o.names.length:Int) == (o.list.length:Int)) ((aw_ n o.names).bind fun xr132=>(some xr132)) (some false)) (cond (o.kind == 0) (some true) (some (o.kind == 4)))))))) (cond (o.kind == 1) ((aL_ n o.n_ 0 1).bind fun xr133=>(some xr133)) (cond (o.kind == 2) ((bd_ n o.n_).bind fun xr134=>(some xr134)) (cond (o.kind == 3) ((aA_ n o.s).bind fun xr135=>(some xr135)) (cond (o.kind == 5) (cond ((o.names.length:Int) == (o.list.length:Int)) ((aw_ n o.names).bind fun xr136=>(some xr136)) (some false)) (cond (o.kind == 0) (some true) (some (o.kind == 4))))))))) (cond (!(o.s == [])) (cond (o.kind != 3) (some false) (cond (o.kind == 1) ((aL_ n o.n_ 0 1).bind fun xr137=>(some xr137)) (cond (o.kind == 2) ((bd_ n o.n_).bind fun xr138=>(some xr138)) (cond (o.kind == 3) ((aA_ n o.s).bind fun xr139=>(some xr139)) (cond (o.kind == 5) (cond ((o.names.length:Int) == (o.list.length:Int)) ((aw_ n o.names).bind fun xr140=>(some xr140)) (some false)) (cond (o.kind == 0) (some true) (some (o.kind == 4)))))))) (cond (o.kind == 1) ((aL_ n o.n_ 0 1).bind fun xr141=>(some xr141)) (cond (o.kind == 2) ((bd_ n o.n_).bind fun xr142=>(some xr142)) (cond (o.kind == 3) ((aA_ n o.s).bind fun xr143=>(some xr143)) (cond (o.kind == 5) (cond ((o.names.length:Int) == (o.list.length:Int)) ((aw_ n o.names).bind fun xr144=>(some xr144)) (some false)) (cond (o.kind == 0) (some true) (some (o.kind == 4)))))))))))
abbrev bz_.T7:Type:=Int→Int→(List aa_)→Int→Int→Option Int
def bz_.step7 (n:Nat) (impl_sizeIn_:aa_→Int→Option Int) (k0:Int→Option Int) (back:bz_.T7):bz_.T7:=fun deep n_1 t16 t17 t18=>
 (cond (decide (t18<t17)) (inB t18 t16.length ((impl_sizeIn_ (aa_.re (t16.getD t18.toNat aa_.dflt)) (W (deep - 1))).bind fun xr2=>(cond (decide ((W (n_1+xr2)) > 400)) (some 401) (back deep (W (n_1+xr2)) t16 t17 (W (t18+1)))))) (k0 n_1))
def bz_.loop7 (n:Nat) (impl_sizeIn_:aa_→Int→Option Int) (k0:Int→Option Int) (N:Nat):bz_.T7:=co_ (fun _ _ _ _ _=>none) (bz_.step7 n impl_sizeIn_ k0) N
def bz_:Nat→aa_→Int→Option Int
 |0,_,_=>none
 |n+1,j,deep=>
  (cond (decide (deep<1)) (some 401) ((e2_ n (aa_.re j)).bind fun xr1=>(cond (!xr1) (some 401) (bz_.loop7 n (bz_ n) (fun xy3=>(some xy3)) n deep 1 j.list (j.list.length:Int) 0))))
def cD_:Nat→aa_→Option Bool
 |0,_=>none
 |n+1,j=>
  ((bz_ n (aa_.re j) 6).bind fun xr1=>(some (decide (xr1≤400))))
def cT_:Nat→aa_→Option aa_
 |0,_=>none
 |n+1,j=>
  ((cD_ n (aa_.re j)).bind fun xr1=>(cond (!xr1) (some (aa_.mk 0 0 [] ([]:List aa_) ([]:List Bs))) (some (aa_.re j))))
abbrev bJ_.K4:Type:=Int→Int→(List br_)→Int→Bool→Int→(List Int)→Bool→Int→Int→Int→Int→Bs→(List Bs)→(List Int)→Option aa_
abbrev bJ_.T4:Type:=Int→(List Int)→Int→Int→Int→(List br_)→Int→Bool→Int→(List Int)→Bool→Int→Int→Int→(List Int)→Int→Int→Bs→(List Bs)→(List Int)→Option aa_
def bJ_.step4 (n:Nat) (k0:bJ_.K4) (back:bJ_.T4):bJ_.T4:=fun kids t16 t17 t18 q0 q1 q2 q3 q4 q5 q6 q7 q8 r0 r1 t60 t61 t62 names numbers=>
 (cond (decide (t18<t17)) (inB t18 t16.length (iY_ 0 t18 q5.length ((ch_ n ((q5.take t18.toNat).drop 0) (t16.getD t18.toNat 0)).bind fun xr1=>(cond xr1 (back kids t16 t17 (W (t18+1)) q0 q1 q2 q3 q4 q5 q6 q7 q8 r0 r1 t60 t61 t62 names numbers) ((es_ n (t16.getD t18.toNat 0)).bind fun xr2=>(cond (decide ([99].length+xr2.length≤9223372036854775807)) (bv_ (names.length+([(([99]:Bs)++xr2)]:List Bs).length) 16 ((eu_ n (TRow.mk r0 r1) (t16.getD t18.toNat 0)).bind fun xr3=>(bv_ (numbers.length+([xr3]:List Int).length) 8 (back kids t16 t17 (W (t18+1)) q0 q1 q2 q3 q4 q5 q6 q7 q8 r0 r1 t60 t61 t62 (names++([(([99]:Bs)++xr2)]:List Bs)) (numbers++([xr3]:List Int)))))) none)))))) (k0 kids q0 q1 q2 q3 q4 q5 q6 q7 q8 t60 t61 t62 names numbers))
def bJ_.loop4 (n:Nat) (k0:bJ_.K4) (N:Nat):bJ_.T4:=co_ (fun _ _ _ _ _ _ _ _ _ _ _ _ _ _ _ _ _ _ _ _=>none) (bJ_.step4 n k0) N
def bJ_:Nat→ap_→TRow→Int→Option aa_
 |0,_,_,_=>none
 |n+1,q,r,kids=>
  (bJ_.loop4 n (fun xy4 xy5 xy6 xy7 xy8 xy9 xy10 xy11 xy12 xy13 xy14 xy15 xy16 xy17 xy18=>(cond xy11 (bv_ (xy17.length+([[107,105,100,115]]:List Bs).length) 16 (bv_ (xy18.length+([xy4]:List Int).length) 8 ((bT_ n (xy17++([[107,105,100,115]]:List Bs)) (xy18++([xy4]:List Int))).bind fun xr19=>((cT_ n (aa_.re xr19)).bind fun xr20=>(some (aa_.re xr20)))))) ((bT_ n xy17 xy18).bind fun xr21=>((cT_ n (aa_.re xr21)).bind fun xr22=>(some (aa_.re xr22)))))) n kids q.show_ (q.show_.length:Int) 0 q.table q.where_ q.order q.down q.first q.show_ q.kids q.kidTable q.kidCol r.id_ r.cells 0 0 [] ([[105,100]]:List Bs) ([r.id_]:List Int))
abbrev bm_.K4:Type:=(List aa_)→Option (List aa_)
abbrev bm_.T4:Type:=(List Int)→(List TRow)→Int→Int→Int→(List br_)→Int→Bool→Int→(List Int)→Bool→Int→Int→(List aa_)→Option (List aa_)
def bm_.step4 (n:Nat) (k0:bm_.K4) (back:bm_.T4):bm_.T4:=fun kids t17 t18 t19 q0 q1 q2 q3 q4 q5 q6 q7 q8 docs=>
 (cond (decide (t19<t18)) (inB t19 t17.length (cond (decide (t19<(kids.length:Int))) (inB t19 kids.length ((bJ_ n (ap_.mk q0 q1 q2 q3 q4 q5 q6 q7 q8) (t17.getD t19.toNat TRow.dflt) (kids.getD t19.toNat 0)).bind fun xr2=>(bv_ (docs.length+([(aa_.re xr2)]:List aa_).length) 80 (back kids t17 t18 (W (t19+1)) q0 q1 q2 q3 q4 q5 q6 q7 q8 (docs++([(aa_.re xr2)]:List aa_)))))) ((bJ_ n (ap_.mk q0 q1 q2 q3 q4 q5 q6 q7 q8) (t17.getD t19.toNat TRow.dflt) 0).bind fun xr3=>(bv_ (docs.length+([(aa_.re xr3)]:List aa_).length) 80 (back kids t17 t18 (W (t19+1)) q0 q1 q2 q3 q4 q5 q6 q7 q8 (docs++([(aa_.re xr3)]:List aa_))))))) (k0 docs))
def bm_.loop4 (n:Nat) (k0:bm_.K4) (N:Nat):bm_.T4:=co_ (fun _ _ _ _ _ _ _ _ _ _ _ _ _ _=>none) (bm_.step4 n k0) N
def bm_:Nat→ap_→(List TRow)→(List Int)→Option (List aa_)
 |0,_,_,_=>none
 |n+1,q,rows,kids=>
  ((ea_ n q (rows.length:Int)).bind fun xr1=>(iY_ 0 xr1 rows.length (bm_.loop4 n (fun xy4=>(some xy4)) n kids ((rows.take xr1.toNat).drop 0) (((rows.take xr1.toNat).drop 0).length:Int) 0 q.table q.where_ q.order q.down q.first q.show_ q.kids q.kidTable q.kidCol ([]:List aa_))))
def dH_:Nat→aa_→Option Bool
 |0,_=>none
 |n+1,j=>
  (some (j.kind == 0))
abbrev ag_.T3:Type:=(List aa_)→Int→Int→Option Int
def ag_.step3 (n:Nat) (k0:Option Int) (back:ag_.T3):ag_.T3:=fun s t7 t8=>
 (cond (decide (t8<t7)) (inB t8 s.length ((dH_ n (aa_.re (s.getD t8.toNat aa_.dflt))).bind fun xr1=>(cond xr1 (some t8) (back s t7 (W (t8+1)))))) k0)
def ag_.loop3 (n:Nat) (k0:Option Int) (N:Nat):ag_.T3:=co_ (fun _ _ _=>none) (ag_.step3 n k0) N
def ag_:Nat→(List aa_)→Option Int
 |0,_=>none
 |n+1,s=>
  (ag_.loop3 n (some (-1)) n s (s.length:Int) 0)
def a5_:Nat→(List aa_)→Option Bool
 |0,_=>none
 |n+1,s=>
  ((ag_ n s).bind fun xr1=>(some (decide (xr1≥0))))
def e5_:Nat→ap_→(List TRow)→(List Int)→Option aa_
 |0,_,_,_=>none
 |n+1,q,rows,kids=>
  ((bm_ n q rows kids).bind fun xr1=>((a5_ n xr1).bind fun xr2=>(cond xr2 (some (aa_.mk 0 0 [] ([]:List aa_) ([]:List Bs))) ((cT_ n (aa_.mk 5 0 [] ([(aa_.mk 2 (rows.length:Int) [] [] []),(aa_.mk 4 0 [] xr1 [])]:List aa_) ([[99,111,117,110,116],[114,111,119,115]]:List Bs))).bind fun xr3=>(some (aa_.re xr3))))))
def cL_:Nat→aJ_→Option aa_
 |0,_=>none
 |n+1,v=>
  ((aW_ n v).bind fun xr1=>((e5_ n v.q v.rows xr1).bind fun xr2=>(some (aa_.re xr2))))
abbrev aH_.T6:Type:=(List Bs)→(List Bs)→Int→Int→Option Bool
def aH_.step6 (n:Nat) (k0:Option Bool) (back:aH_.T6):aH_.T6:=fun s1 s2 t12 t13=>
 (cond (decide (t13<t12)) (inB t13 s1.length (inB t13 s2.length (cond (!((s1.getD t13.toNat []) == (s2.getD t13.toNat []))) (some false) (back s1 s2 t12 (W (t13+1)))))) k0)
def aH_.loop6 (n:Nat) (k0:Option Bool) (N:Nat):aH_.T6:=co_ (fun _ _ _ _=>none) (aH_.step6 n k0) N
def aH_:Nat→(List Bs)→(List Bs)→Option Bool
 |0,_,_=>none
 |n+1,s1,s2=>
  (cond ((s1.length:Int) != (s2.length:Int)) (some false) (aH_.loop6 n (some true) n s1 s2 (s1.length:Int) 0))
abbrev aj_.T6:Type:=(List aa_)→(List aa_)→Int→Int→Option Bool
def aj_.step6 (n:Nat) (impl_alike_:aa_→aa_→Option Bool) (k0:Option Bool) (back:aj_.T6):aj_.T6:=fun s2 t15 t16 t17=>
 (cond (decide (t17<t16)) (inB t17 t15.length (inB t17 s2.length ((impl_alike_ (aa_.re (t15.getD t17.toNat aa_.dflt)) (aa_.re (s2.getD t17.toNat aa_.dflt))).bind fun xr1=>(cond (!xr1) (some false) (back s2 t15 t16 (W (t17+1))))))) k0)
def aj_.loop6 (n:Nat) (impl_alike_:aa_→aa_→Option Bool) (k0:Option Bool) (N:Nat):aj_.T6:=co_ (fun _ _ _ _=>none) (aj_.step6 n impl_alike_ k0) N
mutual
def dm_:Nat→aa_→aa_→Option Bool
 |0,_,_=>none
 |n+1,a,b=>
  (cond (a.kind == b.kind) (cond (a.n_ == b.n_) (cond (a.s == b.s) ((aH_ n a.names b.names).bind fun xr1=>(cond xr1 ((aj_ n a.list b.list).bind fun xr2=>(some xr2)) (some false))) (some false)) (some false)) (some false))
def aj_:Nat→(List aa_)→(List aa_)→Option Bool
 |0,_,_=>none
 |n+1,s1,s2=>
  (cond ((s1.length:Int) != (s2.length:Int)) (some false) (aj_.loop6 n (dm_ n) (some true) n s2 s1 (s1.length:Int) 0))
end
def da_:Nat→aa_→aa_→Option Bool
 |0,_,_=>none
 |n+1,a,b=>
  ((cD_ n (aa_.re a)).bind fun xr1=>(cond xr1 ((cD_ n (aa_.re b)).bind fun xr2=>(cond xr2 ((dm_ n (aa_.re a) (aa_.re b)).bind fun xr3=>(some xr3)) (some false))) (some false)))
def df_:Nat→bS_→Option Bool
 |0,_=>none
 |n+1,x=>
  (cond (!x.began) (some true) ((cL_ n x.view).bind fun xr1=>((cL_ n x.last).bind fun xr2=>((da_ n (aa_.re xr1) (aa_.re xr2)).bind fun xr3=>(some (!xr3))))))
abbrev aV_.T6:Type:=(List br_)→(List br_)→Int→Int→Option Bool
def aV_.step6 (n:Nat) (k0:Option Bool) (back:aV_.T6):aV_.T6:=fun s1 s2 t12 t13=>
 (cond (decide (t13<t12)) (inB t13 s1.length (inB t13 s2.length (let xv1:Bool:=(!(cond (((s1.getD t13.toNat br_.dflt).col) == ((s2.getD t13.toNat br_.dflt).col)) (cond (((s1.getD t13.toNat br_.dflt).op) == ((s2.getD t13.toNat br_.dflt).op)) (cond (((s1.getD t13.toNat br_.dflt).v) == ((s2.getD t13.toNat br_.dflt).v)) true false) false) false));(cond xv1 (some false) (back s1 s2 t12 (W (t13+1))))))) k0)
def aV_.loop6 (n:Nat) (k0:Option Bool) (N:Nat):aV_.T6:=co_ (fun _ _ _ _=>none) (aV_.step6 n k0) N
def aV_:Nat→(List br_)→(List br_)→Option Bool
 |0,_,_=>none
 |n+1,s1,s2=>
  (cond ((s1.length:Int) != (s2.length:Int)) (some false) (aV_.loop6 n (some true) n s1 s2 (s1.length:Int) 0))
abbrev aY_.T6:Type:=(List Int)→(List Int)→Int→Int→Option Bool
def aY_.step6 (n:Nat) (k0:Option Bool) (back:aY_.T6):aY_.T6:=fun s1 s2 t12 t13=>
 (cond (decide (t13<t12)) (inB t13 s1.length (inB t13 s2.length (cond ((s1.getD t13.toNat 0) != (s2.getD t13.toNat 0)) (some false) (back s1 s2 t12 (W (t13+1)))))) k0)
def aY_.loop6 (n:Nat) (k0:Option Bool) (N:Nat):aY_.T6:=co_ (fun _ _ _ _=>none) (aY_.step6 n k0) N
def aY_:Nat→(List Int)→(List Int)→Option Bool
 |0,_,_=>none
 |n+1,s1,s2=>
  (cond ((s1.length:Int) != (s2.length:Int)) (some false) (aY_.loop6 n (some true) n s1 s2 (s1.length:Int) 0))
def cU_:Nat→ap_→ap_→Option Bool
 |0,_,_=>none
 |n+1,o,append=>
  (cond (o.table == append.table) (cond (o.order == append.order) (cond (o.down == append.down) (cond (o.kids == append.kids) (cond (o.kidTable == append.kidTable) (cond (o.first == append.first) (cond (o.kidCol == append.kidCol) ((aV_ n o.where_ append.where_).bind fun xr1=>(cond xr1 ((aY_ n o.show_ append.show_).bind fun xr2=>(some xr2)) (some false))) (some false)) (some false)) (cond (o.first == append.first) (some false) (some false))) (cond (o.first == append.first) (some false) (some false))) (cond (o.kids == append.kids) (cond (o.kidTable == append.kidTable) (some false) (some false)) (some false))) (cond (o.kids == append.kids) (cond (o.kidTable == append.kidTable) (some false) (some false)) (some false))) (cond (o.kids == append.kids) (cond (o.kidTable == append.kidTable) (some false) (some false)) (some false)))
def e4_:Nat→Int→Option aa_
 |0,_=>none
 |n+1,n1=>
  ((cT_ n (aa_.mk 2 n1 [] [] [])).bind fun xr1=>(some (aa_.re xr1)))
abbrev bX_.K5:Type:=(List aa_)→(List Int)→Option ((List aa_) × (List Int))
abbrev bX_.T5:Type:=(List TRow)→Int→Int→(List aa_)→(List Int)→Option ((List aa_) × (List Int))
def bX_.step5 (n:Nat) (k0:bX_.K5) (back:bX_.T5):bX_.T5:=fun t20 t21 t22 docs ids=>
 (cond (decide (t22<t21)) (inB t22 t20.length (bv_ (ids.length+([(t20.getD t22.toNat TRow.dflt).id_]:List Int).length) 8 (back t20 t21 (W (t22+1)) docs (ids++([(t20.getD t22.toNat TRow.dflt).id_]:List Int))))) (k0 docs ids))
def bX_.loop5 (n:Nat) (k0:bX_.K5) (N:Nat):bX_.T5:=co_ (fun _ _ _ _ _=>none) (bX_.step5 n k0) N
def bX_:Nat→aJ_→Option ((List aa_) × (List Int))
 |0,_=>none
 |n+1,v=>
  ((aW_ n v).bind fun xr1=>((bm_ n v.q v.rows xr1).bind fun xr2=>(iY_ 0 (xr2.length:Int) v.rows.length (bX_.loop5 n (fun xy3 xy4=>(some (xy3,xy4))) n ((v.rows.take (xr2.length:Int).toNat).drop 0) (((v.rows.take (xr2.length:Int).toNat).drop 0).length:Int) 0 xr2 ([]:List Int)))))
abbrev bu_.K7:Type:=(List ao_)→Option ((List ao_) × Bool)
abbrev bu_.T7:Type:=(List Int)→(List aa_)→Int→Int→(List ao_)→Option ((List ao_) × Bool)
def bu_.step7 (n:Nat) (k0:bu_.K7) (back:bu_.T7):bu_.T7:=fun keys t15 t16 t17 out_1=>
 (cond (decide (t17<t16)) (inB t17 t15.length ((cD_ n (aa_.re (t15.getD t17.toNat aa_.dflt))).bind fun xr1=>(cond (!xr1) (some (([]:List ao_),false)) (iY_ 0 t17 keys.length (inB t17 keys.length ((ch_ n ((keys.take t17.toNat).drop 0) (keys.getD t17.toNat 0)).bind fun xr2=>(cond xr2 (some (([]:List ao_),false)) (inB t17 keys.length (bv_ (out_1.length+([(ao_.mk (keys.getD t17.toNat 0) (aa_.re (t15.getD t17.toNat aa_.dflt)))]:List ao_).length) 88 (back keys t15 t16 (W (t17+1)) (out_1++([(ao_.mk (keys.getD t17.toNat 0) (aa_.re (t15.getD t17.toNat aa_.dflt)))]:List ao_)))))))))))) (k0 out_1))
def bu_.loop7 (n:Nat) (k0:bu_.K7) (N:Nat):bu_.T7:=co_ (fun _ _ _ _ _=>none) (bu_.step7 n k0) N
def bu_:Nat→(List aa_)→(List Int)→Option ((List ao_) × Bool)
 |0,_,_=>none
 |n+1,list,keys=>
  (cond ((list.length:Int) != (keys.length:Int)) (some (([]:List ao_),false)) (bu_.loop7 n (fun xy3=>(some (xy3,true))) n keys list (list.length:Int) 0 ([]:List ao_)))
def dE_:Nat→ao_→Int→Option Bool
 |0,_,_=>none
 |n+1,x,c=>
  (some (x.key == c))
abbrev af_.T3:Type:=(List ao_)→Int→Int→Int→Option Int
def af_.step3 (n:Nat) (k0:Option Int) (back:af_.T3):af_.T3:=fun s f00 t7 t8=>
 (cond (decide (t8<t7)) (inB t8 s.length ((dE_ n (ao_.mk ((s.getD t8.toNat ao_.dflt).key) (aa_.re ((s.getD t8.toNat ao_.dflt).value))) f00).bind fun xr1=>(cond xr1 (some t8) (back s f00 t7 (W (t8+1)))))) k0)
def af_.loop3 (n:Nat) (k0:Option Int) (N:Nat):af_.T3:=co_ (fun _ _ _ _=>none) (af_.step3 n k0) N
def af_:Nat→(List ao_)→Int→Option Int
 |0,_,_=>none
 |n+1,s,c=>
  (af_.loop3 n (some (-1)) n s c (s.length:Int) 0)
def eJ_:Nat→(List ao_)→Int→Option Int
 |0,_,_=>none
 |n+1,list,key=>
  ((af_ n list key).bind fun xr1=>(some xr1))
def dS_:Nat→Int→Option (List Bs)
 |0,_=>none
 |n+1,n1=>
  ((strconv_Itoa n n1).bind fun xr1=>(some ([xr1]:List Bs)))
def b7_:Nat→List ao_→Int→Int→Option (List ao_)
 |0,_,_,_=>none
 |_+1,s,i,j=>ij_ s i j
def cN_:Nat→(List Bs)→Option (List Bs)
 |0,_=>none
 |n+1,l=>
  (bv_ (([]:List Bs).length+l.length) 16 (some (([]:List Bs)++l)))
abbrev aM_.K4_1:Type:=Int→Int→Bs→Int→Int→Bs→(List aa_)→(List Bs)→Option aa_
abbrev aM_.T4:Type:=(List aa_)→Int→Int→Int→Int→Bs→Int→Int→Bs→(List aa_)→(List Bs)→Option aa_
def aM_.step4 (n:Nat) (impl_copyJson_:aa_→Option aa_) (k0:aM_.K4_1) (back:aM_.T4):aM_.T4:=fun t17 t18 t19 t20 t21 t22 out0 out1 out2 out3 out4=>
 (cond (decide (t19<t18)) (inB t19 t17.length ((impl_copyJson_ (aa_.re (t17.getD t19.toNat aa_.dflt))).bind fun xr2=>(bv_ (out3.length+([(aa_.re xr2)]:List aa_).length) 80 (back t17 t18 (W (t19+1)) t20 t21 t22 out0 out1 out2 (out3++([(aa_.re xr2)]:List aa_)) out4)))) (k0 t20 t21 t22 out0 out1 out2 out3 out4))
def aM_.loop4 (n:Nat) (impl_copyJson_:aa_→Option aa_) (k0:aM_.K4_1) (N:Nat):aM_.T4:=co_ (fun _ _ _ _ _ _ _ _ _ _ _=>none) (aM_.step4 n impl_copyJson_ k0) N
def aM_:Nat→aa_→Option aa_
 |0,_=>none
 |n+1,j=>
  ((cN_ n j.names).bind fun xr1=>(aM_.loop4 n (aM_ n) (fun xy3 xy4 xy5 xy6 xy7 xy8 xy9 xy10=>(some (aa_.mk xy6 xy7 xy8 xy9 xy10))) n j.list (j.list.length:Int) 0 0 0 [] j.kind j.n_ j.s ([]:List aa_) xr1))
def b6_:Nat→List ao_→Int→List ao_→Option (List ao_)
 |0,_,_,_=>none
 |_+1,s,i,v=>g6_ 88 s i v
abbrev a7_.K9:Type:=(List ao_)→(List ao_)→(List TOp)→Option (List TOp)
abbrev a7_.T9:Type:=Int→(List ao_)→(List ao_)→(List TOp)→Option (List TOp)
def a7_.step9 (n:Nat) (k0:a7_.K9) (back:a7_.T9):a7_.T9:=fun t14 t9 t11 t13=>
 (cond (decide (t14≥0)) (inB t14 t9.length ((eJ_ n t11 ((t9.getD t14.toNat ao_.dflt).key)).bind fun xr3=>(cond (decide (xr3<0)) ((dS_ n t14).bind fun xr4=>(bv_ (t13.length+([(TOp.mk 2 xr4 (aa_.mk 0 0 [] [] []))]:List TOp).length) 112 ((b7_ n t9 t14 (W (t14+1))).bind fun xr5=>(back (W (t14 - 1)) xr5 t11 (t13++([(TOp.mk 2 xr4 (aa_.mk 0 0 [] [] []))]:List TOp)))))) (back (W (t14 - 1)) t9 t11 t13)))) (k0 t9 t11 t13))
def a7_.loop9 (n:Nat) (k0:a7_.K9) (N:Nat):a7_.T9:=co_ (fun _ _ _ _=>none) (a7_.step9 n k0) N
abbrev a7_.K17:Type:=(List TOp)→Option (List TOp)
abbrev a7_.T17:Type:=Int→Int→(List ao_)→(List TOp)→(List ao_)→Option (List TOp)
def a7_.step17 (n:Nat) (k2:a7_.K17) (back:a7_.T17):a7_.T17:=fun t65 t66 t9 t13 t64=>
 (cond (decide (t66<t65)) (inB t66 t64.length ((eJ_ n t9 ((t64.getD t66.toNat ao_.dflt).key)).bind fun xr9=>(cond (xr9 == t66) (inB t66 t9.length ((dm_ n (aa_.re ((t9.getD t66.toNat ao_.dflt).value)) (aa_.re ((t64.getD t66.toNat ao_.dflt).value))).bind fun xr10=>(cond (!xr10) ((dS_ n t66).bind fun xr11=>((aM_ n (aa_.re ((t64.getD t66.toNat ao_.dflt).value))).bind fun xr12=>(bv_ (t13.length+([(TOp.mk 3 xr11 (aa_.re xr12))]:List TOp).length) 112 (back t65 (W (t66+1)) t9 (t13++([(TOp.mk 3 xr11 (aa_.re xr12))]:List TOp)) t64)))) (back t65 (W (t66+1)) t9 t13 t64)))) (cond (decide (xr9 > t66)) ((dS_ n xr9).bind fun xr13=>(bv_ (t13.length+([(TOp.mk 2 xr13 (aa_.mk 0 0 [] [] []))]:List TOp).length) 112 ((b7_ n t9 xr9 (W (xr9+1))).bind fun xr14=>((dS_ n t66).bind fun xr15=>((aM_ n (aa_.re ((t64.getD t66.toNat ao_.dflt).value))).bind fun xr16=>(bv_ ((t13++([(TOp.mk 2 xr13 (aa_.mk 0 0 [] [] []))]:List TOp)).length+([(TOp.mk 1 xr15 (aa_.re xr16))]:List TOp).length) 112 ((b6_ n xr14 t66 ([(ao_.mk ((t64.getD t66.toNat ao_.dflt).key) (aa_.re ((t64.getD t66.toNat ao_.dflt).value)))]:List ao_)).bind fun xr17=>(back t65 (W (t66+1)) xr17 ((t13++([(TOp.mk 2 xr13 (aa_.mk 0 0 [] [] []))]:List TOp))++([(TOp.mk 1 xr15 (aa_.re xr16))]:List TOp)) t64)))))))) ((dS_ n t66).bind fun xr18=>((aM_ n (aa_.re ((t64.getD t66.toNat ao_.dflt).value))).bind fun xr19=>(bv_ (t13.length+([(TOp.mk 1 xr18 (aa_.re xr19))]:List TOp).length) 112 ((b6_ n t9 t66 ([(ao_.mk ((t64.getD t66.toNat ao_.dflt).key) (aa_.re ((t64.getD t66.toNat ao_.dflt).value)))]:List ao_)).bind fun xr20=>(back t65 (W (t66+1)) xr20 (t13++([(TOp.mk 1 xr18 (aa_.re xr19))]:List TOp)) t64))))))))) (k2 t13))
def a7_.loop17 (n:Nat) (k2:a7_.K17) (N:Nat):a7_.T17:=co_ (fun _ _ _ _ _=>none) (a7_.step17 n k2) N
def a7_:Nat→(List aa_)→(List Int)→(List aa_)→(List Int)→Option (List TOp)
 |0,_,_,_,_=>none
 |n+1,o,append,a2,a3=>
  ((bu_ n o append).bind fun xr1=>((bu_ n a2 a3).bind fun xr2=>(cond (!xr1.2) (some ([]:List TOp)) (cond (!xr2.2) (some ([]:List TOp)) (a7_.loop9 n (fun xy6 xy7 xy8=>(a7_.loop17 n (fun xy21=>(some xy21)) n (xy7.length:Int) 0 xy6 xy8 xy7)) n (W ((xr1.1.length:Int) - 1)) xr1.1 xr2.1 ([]:List TOp))))))
def et_:Nat→TOp→Option TOp
 |0,_=>none
 |n+1,o=>
  ((cN_ n o.way).bind fun xr1=>((aM_ n (aa_.re o.value)).bind fun xr2=>(some (TOp.mk o.kind xr1 (aa_.re xr2)))))
abbrev b2_.K4:Type:=(List TOp)→Option (List TOp)
abbrev b2_.T4:Type:=Bs→(List TOp)→Int→Int→(List TOp)→Option (List TOp)
def b2_.step4 (n:Nat) (k0:b2_.K4) (back:b2_.T4):b2_.T4:=fun name t9 t10 t11 out_1=>
 (cond (decide (t11<t10)) (inB t11 t9.length ((et_ n { (t9.getD t11.toNat TOp.dflt) with value:=(aa_.re ((t9.getD t11.toNat TOp.dflt).value)) }).bind fun xr1=>(bv_ (([name]:List Bs).length+xr1.way.length) 16 (bv_ (out_1.length+([(TOp.mk xr1.kind (([name]:List Bs)++xr1.way) (aa_.re xr1.value))]:List TOp).length) 112 (back name t9 t10 (W (t11+1)) (out_1++([(TOp.mk xr1.kind (([name]:List Bs)++xr1.way) (aa_.re xr1.value))]:List TOp))))))) (k0 out_1))
def b2_.loop4 (n:Nat) (k0:b2_.K4) (N:Nat):b2_.T4:=co_ (fun _ _ _ _ _=>none) (b2_.step4 n k0) N
def b2_:Nat→Bs→(List TOp)→Option (List TOp)
 |0,_,_=>none
 |n+1,name,list=>
  (b2_.loop4 n (fun xy2=>(some xy2)) n name list (list.length:Int) 0 ([]:List TOp))
def c6_:Nat→aJ_→aJ_→Option (List TOp)
 |0,_,_=>none
 |n+1,a,b=>
  ((cU_ n a.q b.q).bind fun xr1=>(cond (!xr1) (some ([]:List TOp)) (cond ((a.rows.length:Int) != (b.rows.length:Int)) ((e4_ n (b.rows.length:Int)).bind fun xr2=>(bv_ (([]:List TOp).length+([(TOp.mk 3 ([[99,111,117,110,116]]:List Bs) (aa_.re xr2))]:List TOp).length) 112 ((bX_ n a).bind fun xr3=>((bX_ n b).bind fun xr4=>((a7_ n xr3.1 xr3.2 xr4.1 xr4.2).bind fun xr5=>((b2_ n [114,111,119,115] xr5).bind fun xr6=>(bv_ ((([]:List TOp)++([(TOp.mk 3 ([[99,111,117,110,116]]:List Bs) (aa_.re xr2))]:List TOp)).length+xr6.length) 112 (some ((([]:List TOp)++([(TOp.mk 3 ([[99,111,117,110,116]]:List Bs) (aa_.re xr2))]:List TOp))++xr6))))))))) ((bX_ n a).bind fun xr7=>((bX_ n b).bind fun xr8=>((a7_ n xr7.1 xr7.2 xr8.1 xr8.2).bind fun xr9=>((b2_ n [114,111,119,115] xr9).bind fun xr10=>(bv_ (([]:List TOp).length+xr10.length) 112 (some (([]:List TOp)++xr10))))))))))
def eh_:Nat→aa_→Option Bool
 |0,_=>none
 |n+1,j=>
  (cond (j.kind == 0) (cond (j.n_ == 0) (cond (j.s == []) (cond ((j.list.length:Int) == 0) (some ((j.names.length:Int) == 0)) (some false)) (some false)) (some false)) (some false))
abbrev cm_.K3:Type:=Int→(List Bs)→Int→Int→Bs→(List aa_)→(List Bs)→Option Bool
abbrev cm_.T3:Type:=(List Bs)→Int→Int→Int→(List Bs)→Int→Int→Bs→(List aa_)→(List Bs)→Option Bool
def cm_.step3 (n:Nat) (k0:cm_.K3) (back:cm_.T3):cm_.T3:=fun t6 t7 t8 o0 o1 o2 o3 o4 o5 o6=>
 (cond (decide (t8<t7)) (inB t8 t6.length ((aA_ n (t6.getD t8.toNat [])).bind fun xr1=>(cond (!xr1) (some false) (back t6 t7 (W (t8+1)) o0 o1 o2 o3 o4 o5 o6)))) (k0 o0 o1 o2 o3 o4 o5 o6))
def cm_.loop3 (n:Nat) (k0:cm_.K3) (N:Nat):cm_.T3:=co_ (fun _ _ _ _ _ _ _ _ _ _=>none) (cm_.step3 n k0) N
def cm_:Nat→TOp→Option Bool
 |0,_=>none
 |n+1,o=>
  (cm_.loop3 n (fun xy2 xy3 xy4 xy5 xy6 xy7 xy8=>((aL_ n xy2 1 4).bind fun xr9=>(cond xr9 (cond (decide ((xy3.length:Int)≤6)) ((cD_ n (aa_.mk xy4 xy5 xy6 xy7 xy8)).bind fun xr10=>(cond xr10 (cond (xy2 != 2) (some true) ((eh_ n (aa_.mk xy4 xy5 xy6 xy7 xy8)).bind fun xr11=>(some xr11))) (some false))) (some false)) (some false)))) n o.way (o.way.length:Int) 0 o.kind o.way o.value.kind o.value.n_ o.value.s o.value.list o.value.names)
def d9_:Nat→Unit→Option (List Bs)
 |0,_=>none
 |n+1,_u=>
  (some ([[97,100,100],[114,101,109,111,118,101],[114,101,112,108,97,99,101],[116,101,115,116]]:List Bs))
def strings_ReplaceAll:Nat→Bs→Bs→Bs→Option Bs
 |0,_,_,_=>none
 |_+1,s,a,b=>hw_ s a b
abbrev bP_.T4:Type:=Bs→(List Bs)→Int→Int→Option Bs
def bP_.step4 (n:Nat) (k0:Bs→Option Bs) (back:bP_.T4):bP_.T4:=fun out_1 t6 t7 t8=>
 (cond (decide (t8<t7)) (inB t8 t6.length ((strings_ReplaceAll n (t6.getD t8.toNat []) [126] [126,48]).bind fun xr1=>((strings_ReplaceAll n xr1 [47] [126,49]).bind fun xr2=>(cond (decide ([47].length+xr2.length≤9223372036854775807)) (cond (decide (out_1.length+(([47]:Bs)++xr2).length≤9223372036854775807)) (back (out_1++(([47]:Bs)++xr2)) t6 t7 (W (t8+1))) none) none)))) (k0 out_1))
def bP_.loop4 (n:Nat) (k0:Bs→Option Bs) (N:Nat):bP_.T4:=co_ (fun _ _ _ _=>none) (bP_.step4 n k0) N
def bP_:Nat→(List Bs)→Option Bs
 |0,_=>none
 |n+1,way=>
  (bP_.loop4 n (fun xy3=>(some xy3)) n [] way (way.length:Int) 0)
def ev_:Nat→TOp→Option aa_
 |0,_=>none
 |n+1,o=>
  ((cm_ n (TOp.mk o.kind o.way (aa_.re o.value))).bind fun xr1=>(cond (!xr1) (some (aa_.mk 0 0 [] ([]:List aa_) ([]:List Bs))) ((d9_ n ()).bind fun xr2=>(inB (W (o.kind - 1)) xr2.length ((bP_ n o.way).bind fun xr3=>(cond (o.kind != 2) (bv_ (([[111,112],[112,97,116,104]]:List Bs).length+([[118,97,108,117,101]]:List Bs).length) 16 ((aM_ n (aa_.re o.value)).bind fun xr4=>(bv_ (([(aa_.mk 3 0 (xr2.getD ((W (o.kind - 1)).toNat) []) [] []),(aa_.mk 3 0 xr3 [] [])]:List aa_).length+([(aa_.re xr4)]:List aa_).length) 80 ((cT_ n (aa_.mk 5 0 [] (([(aa_.mk 3 0 (xr2.getD ((W (o.kind - 1)).toNat) []) [] []),(aa_.mk 3 0 xr3 [] [])]:List aa_)++([(aa_.re xr4)]:List aa_)) (([[111,112],[112,97,116,104]]:List Bs)++([[118,97,108,117,101]]:List Bs)))).bind fun xr5=>(some (aa_.re xr5)))))) ((cT_ n (aa_.mk 5 0 [] ([(aa_.mk 3 0 (xr2.getD ((W (o.kind - 1)).toNat) []) [] []),(aa_.mk 3 0 xr3 [] [])]:List aa_) ([[111,112],[112,97,116,104]]:List Bs))).bind fun xr6=>(some (aa_.re xr6)))))))))
abbrev bn_.K4:Type:=Int→Int→Bs→Int→Int→Bs→(List aa_)→Option (aa_ × Bool)
abbrev bn_.T4:Type:=(List TOp)→Int→Int→Int→Int→Bs→Int→Int→Bs→(List aa_)→Option (aa_ × Bool)
def bn_.step4 (n:Nat) (k0:bn_.K4) (back:bn_.T4):bn_.T4:=fun t9 t10 t11 t20 t21 t22 j0 j1 j2 j3=>
 (cond (decide (t11<t10)) (inB t11 t9.length ((ev_ n { (t9.getD t11.toNat TOp.dflt) with value:=(aa_.re ((t9.getD t11.toNat TOp.dflt).value)) }).bind fun xr1=>(cond (xr1.kind == 0) (some ((aa_.mk 0 0 [] ([]:List aa_) ([]:List Bs)),false)) (bv_ (j3.length+([(aa_.re xr1)]:List aa_).length) 80 (back t9 t10 (W (t11+1)) t20 t21 t22 j0 j1 j2 (j3++([(aa_.re xr1)]:List aa_))))))) (k0 t20 t21 t22 j0 j1 j2 j3))
def bn_.loop4 (n:Nat) (k0:bn_.K4) (N:Nat):bn_.T4:=co_ (fun _ _ _ _ _ _ _ _ _ _=>none) (bn_.step4 n k0) N
def bn_:Nat→(List TOp)→Option (aa_ × Bool)
 |0,_=>none
 |n+1,list=>
  (bn_.loop4 n (fun xy2 xy3 xy4 xy5 xy6 xy7 xy8=>(some ((aa_.mk xy5 xy6 xy7 xy8 ([]:List Bs)),true))) n list (list.length:Int) 0 0 0 [] 4 0 [] ([]:List aa_))
abbrev bN_.K4:Type:=(List Int)→Option Bs
abbrev bN_.T4:Type:=Bs→Int→Int→(List Int)→Option Bs
def bN_.step4 (n:Nat) (k0:bN_.K4) (back:bN_.T4):bN_.T4:=fun s t7 t8 out_1=>
 (cond (decide (t8<t7)) (inB t8 s.length (cond (((s.getD t8.toNat 0).toNat:Int) == 34) (bv_ (out_1.length+([92]:List Int).length) 1 (inB t8 s.length (bv_ ((out_1++([92]:List Int)).length+([((s.getD t8.toNat 0).toNat:Int)]:List Int).length) 1 (back s t7 (W (t8+1)) ((out_1++([92]:List Int))++([((s.getD t8.toNat 0).toNat:Int)]:List Int)))))) (inB t8 s.length (cond (((s.getD t8.toNat 0).toNat:Int) == 92) (bv_ (out_1.length+([92]:List Int).length) 1 (inB t8 s.length (bv_ ((out_1++([92]:List Int)).length+([((s.getD t8.toNat 0).toNat:Int)]:List Int).length) 1 (back s t7 (W (t8+1)) ((out_1++([92]:List Int))++([((s.getD t8.toNat 0).toNat:Int)]:List Int)))))) (inB t8 s.length (bv_ (out_1.length+([((s.getD t8.toNat 0).toNat:Int)]:List Int).length) 1 (back s t7 (W (t8+1)) (out_1++([((s.getD t8.toNat 0).toNat:Int)]:List Int))))))))) (k0 out_1))
def bN_.loop4 (n:Nat) (k0:bN_.K4) (N:Nat):bN_.T4:=co_ (fun _ _ _ _=>none) (bN_.step4 n k0) N
def bN_:Nat→Bs→Option Bs
 |0,_=>none
 |n+1,s=>
  (bN_.loop4 n (fun xy1=>(bv_ (xy1.length+([34]:List Int).length) 1 (some (so_ (xy1++([34]:List Int)))))) n s (s.length:Int) 0 ([34]:List Int))
def strings_Join:Nat→List Bs→Bs→Option Bs
 |0,_,_=>none
 |_+1,l,s=>nJoin l s
abbrev a6_.K4_1:Type:=Int→Int→Bs→(List aa_)→(List Bs)→(List Bs)→Option Bs
abbrev a6_.T4:Type:=(List aa_)→Int→Int→Int→Int→Bs→(List aa_)→(List Bs)→(List Bs)→Option Bs
def a6_.step4 (n:Nat) (impl_written_:aa_→Option Bs) (k0:a6_.K4_1) (back:a6_.T4):a6_.T4:=fun t9 t10 t11 append0 append1 append2 append3 append4 t3=>
 (cond (decide (t11<t10)) (inB t11 t9.length ((impl_written_ (aa_.re (t9.getD t11.toNat aa_.dflt))).bind fun xr1=>(cond (append0 == 5) (inB t11 append4.length ((bN_ n (append4.getD t11.toNat [])).bind fun xr2=>(cond (decide (xr2.length+[58].length≤9223372036854775807)) (cond (decide ((xr2++[58]).length+xr1.length≤9223372036854775807)) (bv_ (t3.length+([((xr2++[58])++xr1)]:List Bs).length) 16 (back t9 t10 (W (t11+1)) append0 append1 append2 append3 append4 (t3++([((xr2++[58])++xr1)]:List Bs)))) none) none))) (bv_ (t3.length+([xr1]:List Bs).length) 16 (back t9 t10 (W (t11+1)) append0 append1 append2 append3 append4 (t3++([xr1]:List Bs))))))) (k0 append0 append1 append2 append3 append4 t3))
def a6_.loop4 (n:Nat) (impl_written_:aa_→Option Bs) (k0:a6_.K4_1) (N:Nat):a6_.T4:=co_ (fun _ _ _ _ _ _ _ _ _=>none) (a6_.step4 n impl_written_ k0) N
def a6_:Nat→aa_→Option Bs
 |0,_=>none
 |n+1,o=>
  (a6_.loop4 n (a6_ n) (fun xy3 xy4 xy5 xy6 xy7 xy8=>(cond (xy3 == 0) (some [110,117,108,108]) (cond (xy3 == 1) (inB xy4 ([[102,97,108,115,101],[116,114,117,101]]:List Bs).length (let xv9:Bs:=(([[102,97,108,115,101],[116,114,117,101]]:List Bs).getD xy4.toNat []);(some xv9))) (cond (xy3 == 2) ((strconv_Itoa n xy4).bind fun xr10=>(some xr10)) (cond (xy3 == 3) ((bN_ n xy5).bind fun xr11=>(some xr11)) (cond (xy3 == 4) ((strings_Join n xy8 [44]).bind fun xr12=>(cond (decide ([91].length+xr12.length≤9223372036854775807)) (cond (decide ((([91]:Bs)++xr12).length+[93].length≤9223372036854775807)) (some ((([91]:Bs)++xr12)++[93])) none) none)) ((strings_Join n xy8 [44]).bind fun xr13=>(cond (decide ([123].length+xr13.length≤9223372036854775807)) (cond (decide ((([123]:Bs)++xr13).length+[125].length≤9223372036854775807)) (some ((([123]:Bs)++xr13)++[125])) none) none)))))))) n o.list (o.list.length:Int) 0 o.kind o.n_ o.s o.list o.names ([]:List Bs))
def ei_:Nat→aa_→Option Bs
 |0,_=>none
 |n+1,j=>
  ((cD_ n (aa_.re j)).bind fun xr1=>(cond (!xr1) (some []) ((a6_ n (aa_.re j)).bind fun xr2=>(cond (decide ((xr2.length:Int) > 6000)) (some []) (some xr2)))))
def dw_:Nat→(List TOp)→Option Int
 |0,_=>none
 |n+1,list=>
  ((bn_ n list).bind fun xr1=>((ei_ n (aa_.re xr1.1)).bind fun xr2=>(cond (!xr1.2) (some (-1)) (cond (xr2 == []) (some (-1)) (some (xr2.length:Int))))))
def ed_:Nat→aJ_→aJ_→Option Bool
 |0,_,_=>none
 |n+1,a,b=>
  ((c6_ n a b).bind fun xr1=>((dw_ n xr1).bind fun xr2=>(cond (decide ((xr1.length:Int)≤40)) (cond (decide (xr2≥0)) ((cL_ n b).bind fun xr3=>((ei_ n (aa_.re xr3)).bind fun xr4=>(some (decide (xr2<(xr4.length:Int)))))) (some false)) (some false))))
def dG_:Nat→bS_→Option (bS_ × c0_ × Bool)
 |0,_=>none
 |n+1,x=>
  ((dF_ n x).bind fun xr1=>((df_ n x).bind fun xr2=>(cond (!xr2) (some (xr1,(c0_.mk 0 0 0 (aa_.mk 0 0 [] ([]:List aa_) ([]:List Bs)) ([]:List TOp)),false)) ((cL_ n x.view).bind fun xr3=>(cond x.began ((ed_ n x.last x.view).bind fun xr4=>(cond xr4 ((c6_ n x.last x.view).bind fun xr5=>((cP_ n x.view).bind fun xr6=>(some ({ xr1 with last:=xr6,lastVersion:=x.version,began:=true },(c0_.mk 2 x.version x.lastVersion (aa_.mk 0 0 [] ([]:List aa_) ([]:List Bs)) xr5),true)))) ((cP_ n x.view).bind fun xr7=>(some ({ xr1 with last:=xr7,lastVersion:=x.version,began:=true },(c0_.mk 1 x.version 0 (aa_.re xr3) ([]:List TOp)),true))))) ((cP_ n x.view).bind fun xr8=>(some ({ xr1 with last:=xr8,lastVersion:=x.version,began:=true },(c0_.mk 1 x.version 0 (aa_.re xr3) ([]:List TOp)),true))))))))
def ee_:Nat→TRow→TRow→Option Bool
 |0,_,_=>none
 |n+1,a,b=>
  (cond (a.id_ == b.id_) ((aY_ n a.cells b.cells).bind fun xr1=>(some xr1)) (some false))
abbrev ah_.T6:Type:=(List TRow)→(List TRow)→Int→Int→Option Bool
def ah_.step6 (n:Nat) (k0:Option Bool) (back:ah_.T6):ah_.T6:=fun s2 t15 t16 t17=>
 (cond (decide (t17<t16)) (inB t17 t15.length (inB t17 s2.length ((ee_ n (t15.getD t17.toNat TRow.dflt) (s2.getD t17.toNat TRow.dflt)).bind fun xr1=>(cond (!xr1) (some false) (back s2 t15 t16 (W (t17+1))))))) k0)
def ah_.loop6 (n:Nat) (k0:Option Bool) (N:Nat):ah_.T6:=co_ (fun _ _ _ _=>none) (ah_.step6 n k0) N
def ah_:Nat→(List TRow)→(List TRow)→Option Bool
 |0,_,_=>none
 |n+1,s1,s2=>
  (cond ((s1.length:Int) != (s2.length:Int)) (some false) (ah_.loop6 n (some true) n s2 s1 (s1.length:Int) 0))
abbrev a3_.T6:Type:=(List TKid)→(List TKid)→Int→Int→Option Bool
def a3_.step6 (n:Nat) (k0:Option Bool) (back:a3_.T6):a3_.T6:=fun s1 s2 t12 t13=>
 (cond (decide (t13<t12)) (inB t13 s1.length (inB t13 s2.length (let xv1:Bool:=(!(cond (((s1.getD t13.toNat TKid.dflt).id_) == ((s2.getD t13.toNat TKid.dflt).id_)) (cond (((s1.getD t13.toNat TKid.dflt).n_) == ((s2.getD t13.toNat TKid.dflt).n_)) true false) false));(cond xv1 (some false) (back s1 s2 t12 (W (t13+1))))))) k0)
def a3_.loop6 (n:Nat) (k0:Option Bool) (N:Nat):a3_.T6:=co_ (fun _ _ _ _=>none) (a3_.step6 n k0) N
def a3_:Nat→(List TKid)→(List TKid)→Option Bool
 |0,_,_=>none
 |n+1,s1,s2=>
  (cond ((s1.length:Int) != (s2.length:Int)) (some false) (a3_.loop6 n (some true) n s1 s2 (s1.length:Int) 0))
def dv_:Nat→aJ_→aJ_→Option Bool
 |0,_,_=>none
 |n+1,a,b=>
  ((cU_ n a.q b.q).bind fun xr1=>(cond xr1 ((ah_ n a.rows b.rows).bind fun xr2=>(cond xr2 ((a3_ n a.kids b.kids).bind fun xr3=>(some xr3)) (some false))) (some false)))
def e1_:Nat→aa_→TOp→Option (aa_ × Bool)
 |0,_,_=>none
 |n+1,j,o=>
  (cond (o.kind == 1) (cond (o.kind == 1) ((aM_ n (aa_.re o.value)).bind fun xr1=>(some ((aa_.re xr1),true))) (cond (o.kind == 4) ((dm_ n (aa_.re j) (aa_.re o.value)).bind fun xr2=>(some ((aa_.re j),xr2))) (some ((aa_.mk 0 0 [] ([]:List aa_) ([]:List Bs)),false)))) (cond (o.kind == 3) ((aM_ n (aa_.re o.value)).bind fun xr3=>(some ((aa_.re xr3),true))) (cond (o.kind == 4) ((dm_ n (aa_.re j) (aa_.re o.value)).bind fun xr4=>(some ((aa_.re j),xr4))) (some ((aa_.mk 0 0 [] ([]:List aa_) ([]:List Bs)),false)))))
def d2_:Nat→Bs→Option (Int × Bool)
 |0,_=>none
 |_+1,s=>nAtoi s
def dP_:Nat→Bs→Option Int
 |0,_=>none
 |n+1,s=>
  ((d2_ n s).bind fun xr1=>(cond (!xr1.2) (some (-1)) ((aL_ n xr1.1 0 999).bind fun xr2=>(cond (!xr2) (some (-1)) ((strconv_Itoa n xr1.1).bind fun xr3=>(cond (!(xr3 == s)) (some (-1)) (some xr1.1)))))))
def ec_:Nat→aa_→Bs→aa_→Option (aa_ × Bool)
 |0,_,_,_=>none
 |n+1,o,append,a2=>
  (cond (o.kind == 5) ((am_ n o.names append).bind fun xr1=>(cond xr1.2 (inB xr1.1 o.list.length (let xa2:List aa_:=o.list.set xr1.1.toNat (aa_.re a2);(some ((aa_.mk o.kind o.n_ o.s xa2 o.names),true)))) ((b5_ n o.names xr1.1 ([append]:List Bs)).bind fun xr3=>((b0_ n o.list xr1.1 ([(aa_.re a2)]:List aa_)).bind fun xr4=>(some ((aa_.mk o.kind o.n_ o.s xr4 xr3),true)))))) (cond (o.kind == 4) ((dP_ n append).bind fun xr5=>(cond (append == [45]) ((aL_ n (o.list.length:Int) 0 (o.list.length:Int)).bind fun xr6=>(cond (!xr6) (some ((aa_.mk 0 0 [] ([]:List aa_) ([]:List Bs)),false)) ((b0_ n o.list (o.list.length:Int) ([(aa_.re a2)]:List aa_)).bind fun xr7=>(some ((aa_.mk o.kind o.n_ o.s xr7 o.names),true))))) ((aL_ n xr5 0 (o.list.length:Int)).bind fun xr8=>(cond (!xr8) (some ((aa_.mk 0 0 [] ([]:List aa_) ([]:List Bs)),false)) ((b0_ n o.list xr5 ([(aa_.re a2)]:List aa_)).bind fun xr9=>(some ((aa_.mk o.kind o.n_ o.s xr9 o.names),true))))))) (some ((aa_.mk 0 0 [] ([]:List aa_) ([]:List Bs)),false))))
abbrev aG_.T3:Type:=(List Bs)→Bs→Int→Int→Option Int
def aG_.step3 (n:Nat) (k0:Option Int) (back:aG_.T3):aG_.T3:=fun s v t7 t8=>
 (cond (decide (t8<t7)) (inB t8 s.length (cond (v == (s.getD t8.toNat [])) (some t8) (back s v t7 (W (t8+1))))) k0)
def aG_.loop3 (n:Nat) (k0:Option Int) (N:Nat):aG_.T3:=co_ (fun _ _ _ _=>none) (aG_.step3 n k0) N
def aG_:Nat→(List Bs)→Bs→Option Int
 |0,_,_=>none
 |n+1,s,v=>
  (aG_.loop3 n (some (-1)) n s v (s.length:Int) 0)
def dO_:Nat→aa_→Bs→Option Int
 |0,_,_=>none
 |n+1,j,text=>
  (cond (j.kind == 5) ((aG_ n j.names text).bind fun xr1=>(cond (decide (xr1≥(j.list.length:Int))) (some (-1)) (some xr1))) (cond (j.kind == 4) ((dP_ n text).bind fun xr2=>(cond (decide (xr2≥(j.list.length:Int))) (some (-1)) (some xr2))) (cond (decide ((-1:Int)≥(j.list.length:Int))) (some (-1)) (some (-1)))))
def cE_:Nat→List aa_→Int→Int→Option (List aa_)
 |0,_,_,_=>none
 |_+1,s,i,j=>ij_ s i j
def cw_:Nat→List Bs→Int→Int→Option (List Bs)
 |0,_,_,_=>none
 |_+1,s,i,j=>ij_ s i j
def ds_:Nat→aa_→Int→Option aa_
 |0,_,_=>none
 |n+1,j,at1=>
  ((cE_ n j.list at1 (W (at1+1))).bind fun xr1=>(cond (j.kind == 5) ((cw_ n j.names at1 (W (at1+1))).bind fun xr2=>(some (aa_.mk j.kind j.n_ j.s xr1 xr2))) (some (aa_.mk j.kind j.n_ j.s xr1 j.names))))
def cK_:Nat→aa_→(List Bs)→TOp→Option (aa_ × Bool)
 |0,_,_,_=>none
 |n+1,o,append,a2=>
  (cond ((append.length:Int) == 0) ((e1_ n (aa_.re o) (TOp.mk a2.kind a2.way (aa_.re a2.value))).bind fun xr1=>(some ((aa_.re xr1.1),xr1.2))) (cond ((append.length:Int) == 1) (cond (a2.kind == 1) (inB 0 append.length ((aM_ n (aa_.re a2.value)).bind fun xr2=>((ec_ n (aa_.re o) (append.getD 0 []) (aa_.re xr2)).bind fun xr3=>(some ((aa_.re xr3.1),xr3.2))))) (inB 0 append.length ((dO_ n (aa_.re o) (append.getD 0 [])).bind fun xr4=>(cond (decide (xr4<0)) (some ((aa_.mk 0 0 [] ([]:List aa_) ([]:List Bs)),false)) (cond ((append.length:Int) == 1) (cond (a2.kind == 2) ((ds_ n (aa_.re o) xr4).bind fun xr5=>(some ((aa_.re xr5),true))) (inB xr4 o.list.length (iY_ 1 (append.length:Int) append.length (cond (Nat.beq xr4.toNat xr4.toNat) (cond (Nat.beq xr4.toNat xr4.toNat) ((cK_ n (aa_.re (o.list.getD xr4.toNat aa_.dflt)) ((append.take (append.length:Int).toNat).drop 1) (TOp.mk a2.kind a2.way (aa_.re a2.value))).bind fun xr6=>(cond (!xr6.2) (some ((aa_.mk 0 0 [] ([]:List aa_) ([]:List Bs)),false)) (inB xr4 o.list.length (cond (Nat.beq xr4.toNat xr4.toNat) (let xa7:List aa_:=o.list.set xr4.toNat (aa_.re xr6.1);(some ((aa_.mk o.kind o.n_ o.s xa7 o.names),true))) none)))) none) none)))) (inB xr4 o.list.length (iY_ 1 (append.length:Int) append.length (cond (Nat.beq xr4.toNat xr4.toNat) (cond (Nat.beq xr4.toNat xr4.toNat) ((cK_ n (aa_.re (o.list.getD xr4.toNat aa_.dflt)) ((append.take (append.length:Int).toNat).drop 1) (TOp.mk a2.kind a2.way (aa_.re a2.value))).bind fun xr8=>(cond (!xr8.2) (some ((aa_.mk 0 0 [] ([]:List aa_) ([]:List Bs)),false)) (inB xr4 o.list.length (cond (Nat.beq xr4.toNat xr4.toNat) (let xa9:List aa_:=o.list.set xr4.toNat (aa_.re xr8.1);(some ((aa_.mk o.kind o.n_ o.s xa9 o.names),true))) none)))) none) none)))))))) (inB 0 append.length ((dO_ n (aa_.re o) (append.getD 0 [])).bind fun xr10=>(cond (decide (xr10<0)) (some ((aa_.mk 0 0 [] ([]:List aa_) ([]:List Bs)),false)) (cond ((append.length:Int) == 1) (cond (a2.kind == 2) ((ds_ n (aa_.re o) xr10).bind fun xr11=>(some ((aa_.re xr11),true))) (inB xr10 o.list.length (iY_ 1 (append.length:Int) append.length (cond (Nat.beq xr10.toNat xr10.toNat) (cond (Nat.beq xr10.toNat xr10.toNat) ((cK_ n (aa_.re (o.list.getD xr10.toNat aa_.dflt)) ((append.take (append.length:Int).toNat).drop 1) (TOp.mk a2.kind a2.way (aa_.re a2.value))).bind fun xr12=>(cond (!xr12.2) (some ((aa_.mk 0 0 [] ([]:List aa_) ([]:List Bs)),false)) (inB xr10 o.list.length (cond (Nat.beq xr10.toNat xr10.toNat) (let xa13:List aa_:=o.list.set xr10.toNat (aa_.re xr12.1);(some ((aa_.mk o.kind o.n_ o.s xa13 o.names),true))) none)))) none) none)))) (inB xr10 o.list.length (iY_ 1 (append.length:Int) append.length (cond (Nat.beq xr10.toNat xr10.toNat) (cond (Nat.beq xr10.toNat xr10.toNat) ((cK_ n (aa_.re (o.list.getD xr10.toNat aa_.dflt)) ((append.take (append.length:Int).toNat).drop 1) (TOp.mk a2.kind a2.way (aa_.re a2.value))).bind fun xr14=>(cond (!xr14.2) (some ((aa_.mk 0 0 [] ([]:List aa_) ([]:List Bs)),false)) (inB xr10 o.list.length (cond (Nat.beq xr10.toNat xr10.toNat) (let xa15:List aa_:=o.list.set xr10.toNat (aa_.re xr14.1);(some ((aa_.mk o.kind o.n_ o.s xa15 o.names),true))) none)))) none) none)))))))))
def e3_:Nat→aa_→TOp→Option (aa_ × Bool)
 |0,_,_=>none
 |n+1,j,o=>
  ((cD_ n (aa_.re j)).bind fun xr1=>(cond (!xr1) (some ((aa_.mk 0 0 [] ([]:List aa_) ([]:List Bs)),false)) ((cm_ n (TOp.mk o.kind o.way (aa_.re o.value))).bind fun xr2=>(cond (!xr2) (some ((aa_.mk 0 0 [] ([]:List aa_) ([]:List Bs)),false)) ((aM_ n (aa_.re j)).bind fun xr3=>((cK_ n (aa_.re xr3) o.way (TOp.mk o.kind o.way (aa_.re o.value))).bind fun xr4=>(cond (!xr4.2) (some ((aa_.mk 0 0 [] ([]:List aa_) ([]:List Bs)),false)) ((cD_ n (aa_.re xr4.1)).bind fun xr5=>(cond (!xr5) (some ((aa_.mk 0 0 [] ([]:List aa_) ([]:List Bs)),false)) (some ((aa_.re xr4.1),true)))))))))))
abbrev bf_.K7:Type:=Int→Int→Bs→Int→Int→Bs→(List aa_)→(List Bs)→Option (aa_ × Bool)
abbrev bf_.T7:Type:=(List TOp)→Int→Int→Int→Int→Bs→Int→Int→Bs→(List aa_)→(List Bs)→Option (aa_ × Bool)
def bf_.step7 (n:Nat) (k0:bf_.K7) (back:bf_.T7):bf_.T7:=fun t22 t23 t24 t40 t41 t42 out0 out1 out2 out3 out4=>
 (cond (decide (t24<t23)) (inB t24 t22.length ((e3_ n (aa_.mk out0 out1 out2 out3 out4) { (t22.getD t24.toNat TOp.dflt) with value:=(aa_.re ((t22.getD t24.toNat TOp.dflt).value)) }).bind fun xr3=>(cond (!xr3.2) (some ((aa_.mk 0 0 [] ([]:List aa_) ([]:List Bs)),false)) (back t22 t23 (W (t24+1)) t40 t41 t42 xr3.1.kind xr3.1.n_ xr3.1.s xr3.1.list xr3.1.names)))) (k0 t40 t41 t42 out0 out1 out2 out3 out4))
def bf_.loop7 (n:Nat) (k0:bf_.K7) (N:Nat):bf_.T7:=co_ (fun _ _ _ _ _ _ _ _ _ _ _=>none) (bf_.step7 n k0) N
def bf_:Nat→aa_→(List TOp)→Option (aa_ × Bool)
 |0,_,_=>none
 |n+1,j,list=>
  ((cD_ n (aa_.re j)).bind fun xr1=>(cond (!xr1) (some ((aa_.mk 0 0 [] ([]:List aa_) ([]:List Bs)),false)) (cond (decide ((list.length:Int) > 40)) (some ((aa_.mk 0 0 [] ([]:List aa_) ([]:List Bs)),false)) ((aM_ n (aa_.re j)).bind fun xr2=>(bf_.loop7 n (fun xy4 xy5 xy6 xy7 xy8 xy9 xy10 xy11=>(some ((aa_.mk xy7 xy8 xy9 xy10 xy11),true))) n list (list.length:Int) 0 0 0 [] xr2.kind xr2.n_ xr2.s xr2.list xr2.names)))))
def laws_FnTaken:Nat→(List Int)→Option Bool
 |0,_=>none
 |n+1,o=>
  ((gs_ n o).bind fun xr1=>(cond xr1 (some true) ((cO_ n o).bind fun xr2=>((dG_ n xr2).bind fun xr3=>((c9_ n xr2).bind fun xr4=>(cond (!(xr3.2.2 == xr4.2.2)) (some false) (cond (xr3.2.1.kind != xr4.2.1.kind) (some false) (cond (xr3.2.1.version != xr4.2.1.version) (some false) (cond (xr3.2.1.base != xr4.2.1.base) (some false) ((df_ n xr2).bind fun xr5=>((dL_ n xr2).bind fun xr6=>(cond (!(xr5 == xr6)) (some false) ((df_ n xr2).bind fun xr7=>(cond (!(xr3.2.2 == xr7)) (some false) (cond (!xr3.2.2) (cond (xr3.2.1.kind == 0) ((dv_ n xr3.1.view xr2.view).bind fun xr8=>(some xr8)) (some false)) ((df_ n xr3.1).bind fun xr9=>(cond xr9 (some false) (cond (!xr3.1.began) (some false) (cond (xr3.1.lastVersion != xr2.version) (some false) ((dv_ n xr3.1.last xr2.view).bind fun xr10=>(cond (!xr10) (some false) (cond (xr3.2.1.kind == 1) ((cL_ n xr2.view).bind fun xr11=>((da_ n (aa_.re xr3.2.1.doc) (aa_.re xr11)).bind fun xr12=>(cond xr12 (some true) (some (xr3.2.1.doc.kind == 0))))) ((cL_ n xr2.last).bind fun xr13=>((bf_ n (aa_.re xr13) xr3.2.1.ops).bind fun xr14=>(cond (xr3.2.1.base == xr2.lastVersion) ((cU_ n xr2.last.q xr2.view.q).bind fun xr15=>(cond (!xr15) (some true) (cond (!xr14.2) (some true) ((cL_ n xr2.view).bind fun xr16=>((da_ n (aa_.re xr14.1) (aa_.re xr16)).bind fun xr17=>(cond xr17 (some true) (some ((xr2.last.rows.length:Int) != (xr2.view.rows.length:Int))))))))) (some false))))))))))))))))))))))))))
end Go.Pi
end
