/- FnEvents: a drawn event is read from its text as it was; a text that is read is that of the event. No condition. Text 4 of 7. -/
import Derived.Test.YtmgcfhlcdhlafaaGreatDoorEvC
set_option linter.unusedVariables false
set_option maxRecDepth 100000
section
namespace Go.Pi
def f8_:Nat→(List Int)→Option Bool
 |0,_=>none
 |n+1,eX_=>
  (some (decide ((eX_.length:Int) > 1048576)))
abbrev cb_.K4:Type:=(List Int)→Int→Option af_
abbrev cb_.T4:Type:=(List Int)→Int→Int→Option af_
def cb_.step4 (n:Nat) (k0:cb_.K4) (back:cb_.T4):cb_.T4:=fun eX_ h i=>
 (cond (decide (i<(eX_.length:Int))) (cond (decide (i<4000)) (inB i eX_.length (let xv1:Int:=(IntKind.i64.wrap (BitVec.ofInt (IntKind.bits .i64) (W ((W ((W (h*131))+(W ((eX_.getD i.toNat 0)))))+7)) &&& BitVec.ofInt (IntKind.bits .i64) 1073741823).toNat);(back eX_ xv1 (W (i+1))))) (k0 eX_ h)) (k0 eX_ h))
def cb_.loop4 (n:Nat) (k0:cb_.K4) (N:Nat):cb_.T4:=ct_ (fun _ _ _=>none) (cb_.step4 n k0) N
def cb_:Nat→(List Int)→Option af_
 |0,_=>none
 |n+1,eX_=>
  (cb_.loop4 n (fun xy2 xy3=>(some (af_.mk xy2 0 xy3))) n eX_ (W (17333+(eX_.length:Int))) 0)
def do_:Nat→af_→Option (Int × af_)
 |0,_=>none
 |n+1,c=>
  (let xv1:Int:=(Int.fdiv (W ((W (c.h*6364136223846793005))+1442695040888963407)) (2 ^ min (33:Int).toNat (IntKind.bits .i64)));(let xv2:Int:=(Int.fdiv (W ((W (c.h*6364136223846793005))+1442695040888963407)) (2 ^ min (45:Int).toNat (IntKind.bits .i64)));(let xv3:Int:=(IntKind.i64.wrap (BitVec.ofInt (IntKind.bits .i64) xv1 ^^^ BitVec.ofInt (IntKind.bits .i64) xv2).toNat);(let xv4:Int:=(IntKind.i64.wrap (BitVec.ofInt (IntKind.bits .i64) xv3 &&& BitVec.ofInt (IntKind.bits .i64) 255).toNat);(cond (decide (c.i<(c.b.length:Int))) (inB c.i c.b.length (let xv5:Int:=(IntKind.i64.wrap (BitVec.ofInt (IntKind.bits .i64) (W (xv4+(W ((c.b.getD c.i.toNat 0))))) &&& BitVec.ofInt (IntKind.bits .i64) 255).toNat);(some (xv5,(af_.mk c.b (W (c.i+1)) (W ((W (c.h*6364136223846793005))+1442695040888963407))))))) (some (xv4,(af_.mk c.b c.i (W ((W (c.h*6364136223846793005))+1442695040888963407))))))))))
def ah_:Nat→af_→Int→Option (Int × af_)
 |0,_,_=>none
 |n+1,c,n1=>
  (cond (decide (n1≤0)) (some (0,c)) (cond (decide (n1≤256)) ((do_ n c).bind fun xr1=>(cond (decide (n1=0)) none (some ((Int.tmod xr1.1 n1),xr1.2)))) ((do_ n c).bind fun xr2=>((do_ n xr2.2).bind fun xr3=>((do_ n xr3.2).bind fun xr4=>((do_ n xr4.2).bind fun xr5=>(let xv6:Int:=(W ((W ((W (xr2.1*16777216))+(W (xr3.1*65536))))+(W (xr4.1*256))));(cond (decide (n1=0)) none (some ((Int.tmod (W (xv6+xr5.1)) n1),xr5.2))))))))))
def cm_:Nat→af_→Int→Option (Bool × af_)
 |0,_,_=>none
 |n+1,c,n1=>
  ((ah_ n c n1).bind fun xr1=>(some ((xr1.1 == 0),xr1.2)))
def c5_:Nat→af_→(List Bs)→Option (Bs × af_)
 |0,_,_=>none
 |n+1,c,list=>
  ((ah_ n c (list.length:Int)).bind fun xr1=>(inB xr1.1 list.length (some ((list.getD xr1.1.toNat []),xr1.2))))
def bu_:Nat→af_→(List Int)→Option (Int × af_)
 |0,_,_=>none
 |n+1,c,list=>
  ((ah_ n c (list.length:Int)).bind fun xr1=>(inB xr1.1 list.length (some ((list.getD xr1.1.toNat 0),xr1.2))))
def dc_:Nat→af_→Option (Bs × af_)
 |0,_=>none
 |n+1,c=>
  ((c5_ n c ([[97],[98],[99],[105,100],[110],[114,111,119,115],[],[97,47,98],[126]]:List Bs)).bind fun xr1=>(some (xr1.1,xr1.2)))
abbrev cx_.T3:Type:=Bs→Int→Int→Int→Bs→(List aa_)→(List Bs)→Option Int
def cx_.step3 (n:Nat) (k0:Option Int) (back:cx_.T3):cx_.T3:=fun name i j0 j1 j2 j3 j4=>
 (cond (decide (i<(j4.length:Int))) (inB i j4.length (cond ((j4.getD i.toNat []) == name) (some i) (back name (W (i+1)) j0 j1 j2 j3 j4))) k0)
def cx_.loop3 (n:Nat) (k0:Option Int) (N:Nat):cx_.T3:=ct_ (fun _ _ _ _ _ _ _=>none) (cx_.step3 n k0) N
def cx_:Nat→aa_→Bs→Option Int
 |0,_,_=>none
 |n+1,j,name=>
  (cx_.loop3 n (some (-1)) n name 0 j.kind j.n_ j.s j.list j.names)
abbrev bL_.K5:Type:=Bs→Bool→Int→Int→Bs→(List aa_)→(List Bs)→Int→Int→Bs→Int→Int→Bs→(List aa_)→(List Bs)→Option aa_
abbrev bL_.T5:Type:=Bs→Bool→Int→Int→Int→Bs→(List aa_)→(List Bs)→Int→Int→Bs→(List aa_)→(List Bs)→Int→Int→Bs→Int→Int→Bs→(List aa_)→(List Bs)→Option aa_
def bL_.step5 (n:Nat) (k0:bL_.K5) (back:bL_.T5):bL_.T5:=fun append t8 t9 t30 t31 t32 t33 t34 t50 t51 t52 t53 t54 t60 t61 t62 t70 t71 t72 t73 t74=>
 (cond (decide (t9<(t34.length:Int))) (cond (!t8) (inB t9 t34.length (cond (!Op.bytesLess (t34.getD t9.toNat []) append) (bf_ (t74.length+([append]:List Bs).length) 16 (bf_ (t73.length+([(aa_.mk t50 t51 t52 t53 t54)]:List aa_).length) 80 (inB t9 t34.length (cond (!((t34.getD t9.toNat []) == append)) (inB t9 t34.length (bf_ ((t74++([append]:List Bs)).length+([(t34.getD t9.toNat [])]:List Bs).length) 16 (inB t9 t33.length (bf_ ((t73++([(aa_.mk t50 t51 t52 t53 t54)]:List aa_)).length+([(aa_.re (t33.getD t9.toNat aa_.dflt))]:List aa_).length) 80 (back append true (W (t9+1)) t30 t31 t32 t33 t34 t50 t51 t52 t53 t54 t60 t61 t62 t70 t71 t72 ((t73++([(aa_.mk t50 t51 t52 t53 t54)]:List aa_))++([(aa_.re (t33.getD t9.toNat aa_.dflt))]:List aa_)) ((t74++([append]:List Bs))++([(t34.getD t9.toNat [])]:List Bs))))))) (back append true (W (t9+1)) t30 t31 t32 t33 t34 t50 t51 t52 t53 t54 t60 t61 t62 t70 t71 t72 (t73++([(aa_.mk t50 t51 t52 t53 t54)]:List aa_)) (t74++([append]:List Bs))))))) (inB t9 t34.length (cond (!((t34.getD t9.toNat []) == append)) (inB t9 t34.length (bf_ (t74.length+([(t34.getD t9.toNat [])]:List Bs).length) 16 (inB t9 t33.length (bf_ (t73.length+([(aa_.re (t33.getD t9.toNat aa_.dflt))]:List aa_).length) 80 (back append t8 (W (t9+1)) t30 t31 t32 t33 t34 t50 t51 t52 t53 t54 t60 t61 t62 t70 t71 t72 (t73++([(aa_.re (t33.getD t9.toNat aa_.dflt))]:List aa_)) (t74++([(t34.getD t9.toNat [])]:List Bs))))))) (back append t8 (W (t9+1)) t30 t31 t32 t33 t34 t50 t51 t52 t53 t54 t60 t61 t62 t70 t71 t72 t73 t74))))) (inB t9 t34.length (cond (!((t34.getD t9.toNat []) == append)) (inB t9 t34.length (bf_ (t74.length+([(t34.getD t9.toNat [])]:List Bs).length) 16 (inB t9 t33.length (bf_ (t73.length+([(aa_.re (t33.getD t9.toNat aa_.dflt))]:List aa_).length) 80 (back append t8 (W (t9+1)) t30 t31 t32 t33 t34 t50 t51 t52 t53 t54 t60 t61 t62 t70 t71 t72 (t73++([(aa_.re (t33.getD t9.toNat aa_.dflt))]:List aa_)) (t74++([(t34.getD t9.toNat [])]:List Bs))))))) (back append t8 (W (t9+1)) t30 t31 t32 t33 t34 t50 t51 t52 t53 t54 t60 t61 t62 t70 t71 t72 t73 t74)))) (k0 append t8 t50 t51 t52 t53 t54 t60 t61 t62 t70 t71 t72 t73 t74))
def bL_.loop5 (n:Nat) (k0:bL_.K5) (N:Nat):bL_.T5:=ct_ (fun _ _ _ _ _ _ _ _ _ _ _ _ _ _ _ _ _ _ _ _ _=>none) (bL_.step5 n k0) N
def bL_:Nat→aa_→Bs→aa_→Option aa_
 |0,_,_,_=>none
 |n+1,o,append,a2=>
  (bL_.loop5 n (fun xy1 xy2 xy3 xy4 xy5 xy6 xy7 xy8 xy9 xy10 xy11 xy12 xy13 xy14 xy15=>(cond (!xy2) (bf_ (xy15.length+([xy1]:List Bs).length) 16 (bf_ (xy14.length+([(aa_.mk xy3 xy4 xy5 xy6 xy7)]:List aa_).length) 80 (some (aa_.mk xy11 xy12 xy13 (xy14++([(aa_.mk xy3 xy4 xy5 xy6 xy7)]:List aa_)) (xy15++([xy1]:List Bs)))))) (some (aa_.mk xy11 xy12 xy13 xy14 xy15)))) n append false 0 o.kind o.n_ o.s o.list o.names a2.kind a2.n_ a2.s a2.list a2.names 0 0 [] 5 0 [] ([]:List aa_) ([]:List Bs))
abbrev ac_.K20_1:Type:=(List Int)→Int→Int→Int→Int→Bs→Int→Int→Bs→(List aa_)→Option (aa_ × af_)
abbrev ac_.T20:Type:=Int→Int→(List Int)→Int→Int→Int→Int→Bs→Int→Int→Bs→(List aa_)→Option (aa_ × af_)
def ac_.step20 (n:Nat) (spec_l1DrawRight_:af_→Int→Option (aa_ × af_)) (k1:ac_.K20_1) (back:ac_.T20):ac_.T20:=fun append t7 o0 o1 o2 t40 t41 t42 t60 t61 t62 t63=>
 ((ah_ n (af_.mk o0 o1 o2) 5).bind fun xr6=>(cond (decide (t7<xr6.1)) ((spec_l1DrawRight_ xr6.2 (W (append - 1))).bind fun xr7=>(bf_ (t63.length+([(aa_.re xr7.1)]:List aa_).length) 80 (back append (W (t7+1)) xr7.2.b xr7.2.i xr7.2.h t40 t41 t42 t60 t61 t62 (t63++([(aa_.re xr7.1)]:List aa_))))) (k1 xr6.2.b xr6.2.i xr6.2.h t40 t41 t42 t60 t61 t62 t63)))
def ac_.loop20 (n:Nat) (spec_l1DrawRight_:af_→Int→Option (aa_ × af_)) (k1:ac_.K20_1) (N:Nat):ac_.T20:=ct_ (fun _ _ _ _ _ _ _ _ _ _ _ _=>none) (ac_.step20 n spec_l1DrawRight_ k1) N
abbrev ac_.K28_1:Type:=(List Int)→Int→Int→Int→Int→Bs→Int→Int→Bs→(List aa_)→(List Bs)→Option (aa_ × af_)
abbrev ac_.T28:Type:=Int→Int→(List Int)→Int→Int→Int→Int→Bs→Int→Int→Bs→(List aa_)→(List Bs)→Option (aa_ × af_)
def ac_.step28 (n:Nat) (spec_l1DrawRight_:af_→Int→Option (aa_ × af_)) (k3:ac_.K28_1) (back:ac_.T28):ac_.T28:=fun append t9 o0 o1 o2 t40 t41 t42 t80 t81 t82 t83 t84=>
 ((ah_ n (af_.mk o0 o1 o2) 5).bind fun xr18=>(cond (decide (t9<xr18.1)) ((dc_ n xr18.2).bind fun xr19=>((cx_ n (aa_.mk t80 t81 t82 t83 t84) xr19.1).bind fun xr20=>(cond (decide (xr20<0)) ((spec_l1DrawRight_ xr19.2 (W (append - 1))).bind fun xr21=>((bL_ n (aa_.mk t80 t81 t82 t83 t84) xr19.1 (aa_.re xr21.1)).bind fun xr22=>(back append (W (t9+1)) xr21.2.b xr21.2.i xr21.2.h t40 t41 t42 xr22.kind xr22.n_ xr22.s xr22.list xr22.names))) (back append (W (t9+1)) xr19.2.b xr19.2.i xr19.2.h t40 t41 t42 t80 t81 t82 t83 t84)))) (k3 xr18.2.b xr18.2.i xr18.2.h t40 t41 t42 t80 t81 t82 t83 t84)))
def ac_.loop28 (n:Nat) (spec_l1DrawRight_:af_→Int→Option (aa_ × af_)) (k3:ac_.K28_1) (N:Nat):ac_.T28:=ct_ (fun _ _ _ _ _ _ _ _ _ _ _ _ _=>none) (ac_.step28 n spec_l1DrawRight_ k3) N
def ac_:Nat→af_→Int→Option (aa_ × af_)
 |0,_,_=>none
 |n+1,o,append=>
  ((ah_ n o 8).bind fun xr1=>(cond (decide (append≤1)) ((ah_ n xr1.2 5).bind fun xr2=>(cond (xr2.1 == 0) (some ((aa_.mk 0 0 [] ([]:List aa_) ([]:List Bs)),xr2.2)) (cond (xr2.1 == 1) ((ah_ n xr2.2 2).bind fun xr3=>(some ((aa_.mk 1 xr3.1 [] ([]:List aa_) ([]:List Bs)),xr3.2))) (cond (xr2.1 == 2) ((c5_ n xr2.2 ([[],[120],[97,34,98],[97,92,92,98],[104,101,108,108,111,32,116,104,101,114,101],[126,49]]:List Bs)).bind fun xr4=>(some ((aa_.mk 3 0 xr4.1 ([]:List aa_) ([]:List Bs)),xr4.2))) (cond (xr2.1 == 3) (cond (xr2.1 == 3) ((bu_ n xr2.2 ([0,1,(-5),77,1000000000,(-1000000000)]:List Int)).bind fun xr5=>(some ((aa_.mk 2 xr5.1 [] ([]:List aa_) ([]:List Bs)),xr5.2))) (cond (xr2.1 == 5) (cond (xr2.1 == 5) (ac_.loop20 n (ac_ n) (fun xy8 xy9 xy10 xy11 xy12 xy13 xy14 xy15 xy16 xy17=>(some ((aa_.mk xy14 xy15 xy16 xy17 ([]:List Bs)),(af_.mk xy8 xy9 xy10)))) n append 0 xr2.2.b xr2.2.i xr2.2.h 0 0 [] 4 0 [] ([]:List aa_)) (ac_.loop28 n (ac_ n) (fun xy23 xy24 xy25 xy26 xy27 xy28 xy29 xy30 xy31 xy32 xy33=>(some ((aa_.mk xy29 xy30 xy31 xy32 xy33),(af_.mk xy23 xy24 xy25)))) n append 0 xr2.2.b xr2.2.i xr2.2.h 0 0 [] 5 0 [] ([]:List aa_) ([]:List Bs))) (cond (xr2.1 == 6) (ac_.loop20 n (ac_ n) (fun xy34 xy35 xy36 xy37 xy38 xy39 xy40 xy41 xy42 xy43=>(some ((aa_.mk xy40 xy41 xy42 xy43 ([]:List Bs)),(af_.mk xy34 xy35 xy36)))) n append 0 xr2.2.b xr2.2.i xr2.2.h 0 0 [] 4 0 [] ([]:List aa_)) (ac_.loop28 n (ac_ n) (fun xy44 xy45 xy46 xy47 xy48 xy49 xy50 xy51 xy52 xy53 xy54=>(some ((aa_.mk xy50 xy51 xy52 xy53 xy54),(af_.mk xy44 xy45 xy46)))) n append 0 xr2.2.b xr2.2.i xr2.2.h 0 0 [] 5 0 [] ([]:List aa_) ([]:List Bs))))) (cond (xr2.1 == 4) ((bu_ n xr2.2 ([0,1,(-5),77,1000000000,(-1000000000)]:List Int)).bind fun xr55=>(some ((aa_.mk 2 xr55.1 [] ([]:List aa_) ([]:List Bs)),xr55.2))) (cond (xr2.1 == 5) (cond (xr2.1 == 5) (ac_.loop20 n (ac_ n) (fun xy56 xy57 xy58 xy59 xy60 xy61 xy62 xy63 xy64 xy65=>(some ((aa_.mk xy62 xy63 xy64 xy65 ([]:List Bs)),(af_.mk xy56 xy57 xy58)))) n append 0 xr2.2.b xr2.2.i xr2.2.h 0 0 [] 4 0 [] ([]:List aa_)) (ac_.loop28 n (ac_ n) (fun xy66 xy67 xy68 xy69 xy70 xy71 xy72 xy73 xy74 xy75 xy76=>(some ((aa_.mk xy72 xy73 xy74 xy75 xy76),(af_.mk xy66 xy67 xy68)))) n append 0 xr2.2.b xr2.2.i xr2.2.h 0 0 [] 5 0 [] ([]:List aa_) ([]:List Bs))) (cond (xr2.1 == 6) (ac_.loop20 n (ac_ n) (fun xy77 xy78 xy79 xy80 xy81 xy82 xy83 xy84 xy85 xy86=>(some ((aa_.mk xy83 xy84 xy85 xy86 ([]:List Bs)),(af_.mk xy77 xy78 xy79)))) n append 0 xr2.2.b xr2.2.i xr2.2.h 0 0 [] 4 0 [] ([]:List aa_)) (ac_.loop28 n (ac_ n) (fun xy87 xy88 xy89 xy90 xy91 xy92 xy93 xy94 xy95 xy96 xy97=>(some ((aa_.mk xy93 xy94 xy95 xy96 xy97),(af_.mk xy87 xy88 xy89)))) n append 0 xr2.2.b xr2.2.i xr2.2.h 0 0 [] 5 0 [] ([]:List aa_) ([]:List Bs)))))))))) (cond (xr1.1 == 0) (some ((aa_.mk 0 0 [] ([]:List aa_) ([]:List Bs)),xr1.2)) (cond (xr1.1 == 1) ((ah_ n xr1.2 2).bind fun xr98=>(some ((aa_.mk 1 xr98.1 [] ([]:List aa_) ([]:List Bs)),xr98.2))) (cond (xr1.1 == 2) ((c5_ n xr1.2 ([[],[120],[97,34,98],[97,92,92,98],[104,101,108,108,111,32,116,104,101,114,101],[126,49]]:List Bs)).bind fun xr99=>(some ((aa_.mk 3 0 xr99.1 ([]:List aa_) ([]:List Bs)),xr99.2))) (cond (xr1.1 == 3) (cond (xr1.1 == 3) ((bu_ n xr1.2 ([0,1,(-5),77,1000000000,(-1000000000)]:List Int)).bind fun xr100=>(some ((aa_.mk 2 xr100.1 [] ([]:List aa_) ([]:List Bs)),xr100.2))) (cond (xr1.1 == 5) (cond (xr1.1 == 5) (ac_.loop20 n (ac_ n) (fun xy101 xy102 xy103 xy104 xy105 xy106 xy107 xy108 xy109 xy110=>(some ((aa_.mk xy107 xy108 xy109 xy110 ([]:List Bs)),(af_.mk xy101 xy102 xy103)))) n append 0 xr1.2.b xr1.2.i xr1.2.h 0 0 [] 4 0 [] ([]:List aa_)) (ac_.loop28 n (ac_ n) (fun xy111 xy112 xy113 xy114 xy115 xy116 xy117 xy118 xy119 xy120 xy121=>(some ((aa_.mk xy117 xy118 xy119 xy120 xy121),(af_.mk xy111 xy112 xy113)))) n append 0 xr1.2.b xr1.2.i xr1.2.h 0 0 [] 5 0 [] ([]:List aa_) ([]:List Bs))) (cond (xr1.1 == 6) (ac_.loop20 n (ac_ n) (fun xy122 xy123 xy124 xy125 xy126 xy127 xy128 xy129 xy130 xy131=>(some ((aa_.mk xy128 xy129 xy130 xy131 ([]:List Bs)),(af_.mk xy122 xy123 xy124)))) n append 0 xr1.2.b xr1.2.i xr1.2.h 0 0 [] 4 0 [] ([]:List aa_)) (ac_.loop28 n (ac_ n) (fun xy132 xy133 xy134 xy135 xy136 xy137 xy138 xy139 xy140 xy141 xy142=>(some ((aa_.mk xy138 xy139 xy140 xy141 xy142),(af_.mk xy132 xy133 xy134)))) n append 0 xr1.2.b xr1.2.i xr1.2.h 0 0 [] 5 0 [] ([]:List aa_) ([]:List Bs))))) (cond (xr1.1 == 4) ((bu_ n xr1.2 ([0,1,(-5),77,1000000000,(-1000000000)]:List Int)).bind fun xr143=>(some ((aa_.mk 2 xr143.1 [] ([]:List aa_) ([]:List Bs)),xr143.2))) (cond (xr1.1 == 5) (cond (xr1.1 == 5) (ac_.loop20 n (ac_ n) (fun xy144 xy145 xy146 xy147 xy148 xy149 xy150 xy151 xy152 xy153=>(some ((aa_.mk xy150 xy151 xy152 xy153 ([]:List Bs)),(af_.mk xy144 xy145 xy146)))) n append 0 xr1.2.b xr1.2.i xr1.2.h 0 0 [] 4 0 [] ([]:List aa_)) (ac_.loop28 n (ac_ n) (fun xy154 xy155 xy156 xy157 xy158 xy159 xy160 xy161 xy162 xy163 xy164=>(some ((aa_.mk xy160 xy161 xy162 xy163 xy164),(af_.mk xy154 xy155 xy156)))) n append 0 xr1.2.b xr1.2.i xr1.2.h 0 0 [] 5 0 [] ([]:List aa_) ([]:List Bs))) (cond (xr1.1 == 6) (ac_.loop20 n (ac_ n) (fun xy165 xy166 xy167 xy168 xy169 xy170 xy171 xy172 xy173 xy174=>(some ((aa_.mk xy171 xy172 xy173 xy174 ([]:List Bs)),(af_.mk xy165 xy166 xy167)))) n append 0 xr1.2.b xr1.2.i xr1.2.h 0 0 [] 4 0 [] ([]:List aa_)) (ac_.loop28 n (ac_ n) (fun xy175 xy176 xy177 xy178 xy179 xy180 xy181 xy182 xy183 xy184 xy185=>(some ((aa_.mk xy181 xy182 xy183 xy184 xy185),(af_.mk xy175 xy176 xy177)))) n append 0 xr1.2.b xr1.2.i xr1.2.h 0 0 [] 5 0 [] ([]:List aa_) ([]:List Bs)))))))))))
abbrev aL_.K4:Type:=(List Int)→Int→Int→(List Int)→Option (aY_ × af_)
abbrev aL_.T4:Type:=Int→(List Int)→Int→Int→(List Int)→Option (aY_ × af_)
def aL_.step4 (n:Nat) (k0:aL_.K4) (back:aL_.T4):aL_.T4:=fun i c0 c1 c2 s0=>
 ((ah_ n (af_.mk c0 c1 c2) 3).bind fun xr1=>(cond (decide (i<(W (1+xr1.1)))) ((ah_ n xr1.2 4).bind fun xr2=>(bf_ (s0.length+([(W (1+xr2.1))]:List Int).length) 8 (back (W (i+1)) xr2.2.b xr2.2.i xr2.2.h (s0++([(W (1+xr2.1))]:List Int))))) (k0 xr1.2.b xr1.2.i xr1.2.h s0)))
def aL_.loop4 (n:Nat) (k0:aL_.K4) (N:Nat):aL_.T4:=ct_ (fun _ _ _ _ _=>none) (aL_.step4 n k0) N
def aL_:Nat→af_→Option (aY_ × af_)
 |0,_=>none
 |n+1,c=>
  (aL_.loop4 n (fun xy3 xy4 xy5 xy6=>(some ((aY_.mk xy6),(af_.mk xy3 xy4 xy5)))) n 0 c.b c.i c.h ([]:List Int))
def b4_:Nat→Int→Int→Int→Option Bool
 |0,_,_,_=>none
 |n+1,x,lo,hi=>
  (cond (decide (x≥lo)) (some (decide (x≤hi))) (some false))
abbrev a1_.K3:Type:=(List Int)→Option Bool
abbrev a1_.T3:Type:=Int→(List Int)→Option Bool
def a1_.step3 (n:Nat) (k0:a1_.K3) (back:a1_.T3):a1_.T3:=fun i s0=>
 (cond (decide (i<(s0.length:Int))) (inB i s0.length ((b4_ n (s0.getD i.toNat 0) 1 4).bind fun xr1=>(cond (!xr1) (some false) (back (W (i+1)) s0)))) (k0 s0))
def a1_.loop3 (n:Nat) (k0:a1_.K3) (N:Nat):a1_.T3:=ct_ (fun _ _=>none) (a1_.step3 n k0) N
def a1_:Nat→aY_→Option Bool
 |0,_=>none
 |n+1,s=>
  (a1_.loop3 n (fun xy2=>((b4_ n (xy2.length:Int) 1 3).bind fun xr3=>(some xr3))) n 0 s.cols)
def dr_:Nat→aY_→Option aY_
 |0,_=>none
 |n+1,s=>
  (bf_ (([]:List Int).length+s.cols.length) 8 (some (aY_.mk (([]:List Int)++s.cols))))
def dM_:Nat→aY_→Option (ax_ × Bool)
 |0,_=>none
 |n+1,s=>
  ((a1_ n s).bind fun xr1=>(cond (!xr1) (some ((ax_.mk (aY_.mk ([]:List Int)) 0 ([]:List (List TRow))),false)) ((dr_ n s).bind fun xr2=>(cond (decide ((s.cols.length:Int)=(s.cols.length:Int))) (cond (decide (0≤(s.cols.length:Int))) (cond (decide ((s.cols.length:Int)*24≤140737488355328)) (some ((ax_.mk xr2 0 (List.replicate (s.cols.length:Int).toNat [])),true)) none) none) none))))
abbrev a6_.K4:Type:=(List Int)→Int→Int→Int→Int→(List Int)→Option (TRow × af_)
abbrev a6_.T4:Type:=Int→Int→(List Int)→Int→Int→Int→Int→(List Int)→Option (TRow × af_)
def a6_.step4 (n:Nat) (k0:a6_.K4) (back:a6_.T4):a6_.T4:=fun cols i c0 c1 c2 t40 r0 r1=>
 (cond (decide (i<cols)) ((ah_ n (af_.mk c0 c1 c2) 6).bind fun xr2=>(bf_ (r1.length+([xr2.1]:List Int).length) 8 (back cols (W (i+1)) xr2.2.b xr2.2.i xr2.2.h t40 r0 (r1++([xr2.1]:List Int))))) (k0 c0 c1 c2 t40 r0 r1))
def a6_.loop4 (n:Nat) (k0:a6_.K4) (N:Nat):a6_.T4:=ct_ (fun _ _ _ _ _ _ _ _=>none) (a6_.step4 n k0) N
def a6_:Nat→af_→Int→Option (TRow × af_)
 |0,_,_=>none
 |n+1,c,cols=>
  ((ah_ n c 12).bind fun xr1=>(a6_.loop4 n (fun xy3 xy4 xy5 xy6 xy7 xy8=>(some ((TRow.mk xy7 xy8),(af_.mk xy3 xy4 xy5)))) n cols 0 xr1.2.b xr1.2.i xr1.2.h 0 (W (1+xr1.1)) ([]:List Int)))
abbrev cd_.T3:Type:=(List TRow)→Int→Int→Option Int
def cd_.step3 (n:Nat) (k0:Option Int) (back:cd_.T3):cd_.T3:=fun rows id_1 i=>
 (cond (decide (i<(rows.length:Int))) (inB i rows.length (cond (((rows.getD i.toNat TRow.dflt).id_) == id_1) (some i) (back rows id_1 (W (i+1))))) k0)
def cd_.loop3 (n:Nat) (k0:Option Int) (N:Nat):cd_.T3:=ct_ (fun _ _ _=>none) (cd_.step3 n k0) N
def cd_:Nat→(List TRow)→Int→Option Int
 |0,_,_=>none
 |n+1,rows,id1=>
  (cd_.loop3 n (some (-1)) n rows id1 0)
def cw_:Nat→TRow→Option TRow
 |0,_=>none
 |n+1,r=>
  (bf_ (([]:List Int).length+r.cells.length) 8 (some (TRow.mk r.id_ (([]:List Int)++r.cells))))
abbrev bh_.K5:Type:=(List TRow)→Option (List TRow)
abbrev bh_.T5:Type:=(List TRow)→Int→Int→(List TRow)→Option (List TRow)
def bh_.step5 (n:Nat) (k0:bh_.K5) (back:bh_.T5):bh_.T5:=fun rows at_1 i out_1=>
 (cond (decide (i<(rows.length:Int))) (cond (i != at_1) (inB i rows.length ((cw_ n (rows.getD i.toNat TRow.dflt)).bind fun xr2=>(bf_ (out_1.length+([xr2]:List TRow).length) 32 (back rows at_1 (W (i+1)) (out_1++([xr2]:List TRow)))))) (back rows at_1 (W (i+1)) out_1)) (k0 out_1))
def bh_.loop5 (n:Nat) (k0:bh_.K5) (N:Nat):bh_.T5:=ct_ (fun _ _ _ _=>none) (bh_.step5 n k0) N
def bh_:Nat→(List TRow)→Int→Option (List TRow)
 |0,_,_=>none
 |n+1,rows,id1=>
  ((cd_ n rows id1).bind fun xr1=>(bh_.loop5 n (fun xy3=>(some xy3)) n rows xr1 0 ([]:List TRow)))
abbrev bG_.K6:Type:=Int→Int→(List Int)→(List TRow)→Option (List TRow)
abbrev bG_.T6:Type:=Int→Int→Int→(List Int)→(List TRow)→Option (List TRow)
def bG_.step6 (n:Nat) (k0:bG_.K6) (back:bG_.T6):bG_.T6:=fun at_1 i r0 r1 out_1=>
 (cond (decide (i≥0)) (inB i out_1.length (cond (decide (((out_1.getD i.toNat TRow.dflt).id_) > r0)) (back i (W (i - 1)) r0 r1 out_1) (back at_1 (W (i - 1)) r0 r1 out_1))) (k0 at_1 r0 r1 out_1))
def bG_.loop6 (n:Nat) (k0:bG_.K6) (N:Nat):bG_.T6:=ct_ (fun _ _ _ _ _=>none) (bG_.step6 n k0) N
def bG_:Nat→(List TRow)→TRow→Option (List TRow)
 |0,_,_=>none
 |n+1,rows,r=>
  ((bh_ n rows r.id_).bind fun xr1=>((cd_ n rows r.id_).bind fun xr2=>(cond (decide (xr2≥0)) ((cd_ n rows r.id_).bind fun xr3=>(gO_ 0 xr3 xr1.length (bf_ (([]:List TRow).length+((xr1.take xr3.toNat).drop 0).length) 32 ((cw_ n r).bind fun xr4=>(bf_ ((([]:List TRow)++((xr1.take xr3.toNat).drop 0)).length+([xr4]:List TRow).length) 32 (gO_ xr3 (xr1.length:Int) xr1.length (bf_ (((([]:List TRow)++((xr1.take xr3.toNat).drop 0))++([xr4]:List TRow)).length+((xr1.take ((xr1.length:Int).toNat)).drop xr3.toNat).length) 32 (some (((([]:List TRow)++((xr1.take xr3.toNat).drop 0))++([xr4]:List TRow))++((xr1.take ((xr1.length:Int).toNat)).drop xr3.toNat)))))))))) (bG_.loop6 n (fun xy5 xy6 xy7 xy8=>(gO_ 0 xy5 xy8.length (bf_ (([]:List TRow).length+((xy8.take xy5.toNat).drop 0).length) 32 ((cw_ n (TRow.mk xy6 xy7)).bind fun xr9=>(bf_ ((([]:List TRow)++((xy8.take xy5.toNat).drop 0)).length+([xr9]:List TRow).length) 32 (gO_ xy5 (xy8.length:Int) xy8.length (bf_ (((([]:List TRow)++((xy8.take xy5.toNat).drop 0))++([xr9]:List TRow)).length+((xy8.take ((xy8.length:Int).toNat)).drop xy5.toNat).length) 32 (some (((([]:List TRow)++((xy8.take xy5.toNat).drop 0))++([xr9]:List TRow))++((xy8.take ((xy8.length:Int).toNat)).drop xy5.toNat)))))))))) n (xr1.length:Int) (W ((xr1.length:Int) - 1)) r.id_ r.cells xr1))))
abbrev a0_.K4:Type:=(List Int)→Int→Int→(List TRow)→Option ((List TRow) × af_)
abbrev a0_.T4:Type:=Int→Int→(List Int)→Int→Int→(List TRow)→Option ((List TRow) × af_)
def a0_.step4 (n:Nat) (k0:a0_.K4) (back:a0_.T4):a0_.T4:=fun cols i c0 c1 c2 out_1=>
 ((ah_ n (af_.mk c0 c1 c2) 9).bind fun xr1=>(cond (decide (i<xr1.1)) ((a6_ n xr1.2 cols).bind fun xr2=>((bG_ n out_1 xr2.1).bind fun xr3=>(back cols (W (i+1)) xr2.2.b xr2.2.i xr2.2.h xr3))) (k0 xr1.2.b xr1.2.i xr1.2.h out_1)))
def a0_.loop4 (n:Nat) (k0:a0_.K4) (N:Nat):a0_.T4:=ct_ (fun _ _ _ _ _ _=>none) (a0_.step4 n k0) N
def a0_:Nat→af_→Int→Option ((List TRow) × af_)
 |0,_,_=>none
 |n+1,c,cols=>
  (a0_.loop4 n (fun xy4 xy5 xy6 xy7=>(some (xy7,(af_.mk xy4 xy5 xy6)))) n cols 0 c.b c.i c.h ([]:List TRow))
abbrev aP_.K4:Type:=(List Int)→Int→Int→Int→Int→(List Int)→(List (List TRow))→Option (ax_ × af_)
abbrev aP_.T4:Type:=Int→(List Int)→Int→Int→Int→Int→(List Int)→(List (List TRow))→Option (ax_ × af_)
def aP_.step4 (n:Nat) (k0:aP_.K4) (back:aP_.T4):aP_.T4:=fun t c0 c1 c2 t21 s1 s0 s2=>
 (cond (decide (t<(s2.length:Int))) (inB t s0.length ((a0_ n (af_.mk c0 c1 c2) (s0.getD t.toNat 0)).bind fun xr3=>(inB t s2.length (let xa4:List (List TRow):=s2.set t.toNat xr3.1;(back (W (t+1)) xr3.2.b xr3.2.i xr3.2.h t21 s1 s0 xa4))))) (k0 c0 c1 c2 t21 s1 s0 s2))
def aP_.loop4 (n:Nat) (k0:aP_.K4) (N:Nat):aP_.T4:=ct_ (fun _ _ _ _ _ _ _ _=>none) (aP_.step4 n k0) N
def aP_:Nat→af_→Option (ax_ × af_)
 |0,_=>none
 |n+1,c=>
  ((aL_ n c).bind fun xr1=>((dM_ n xr1.1).bind fun xr2=>(aP_.loop4 n (fun xy5 xy6 xy7 xy8 xy9 xy10 xy11=>((ah_ n (af_.mk xy5 xy6 xy7) 5).bind fun xr12=>(some ((ax_.mk (aY_.mk xy10) xr12.1 xy11),xr12.2)))) n 0 xr1.2.b xr1.2.i xr1.2.h 0 xr2.1.version xr2.1.schema.cols xr2.1.tables)))
def cJ_:Nat→Int→Int→Option Int
 |0,_,_=>none
 |n+1,a,b=>
  (cond (decide (a > b)) (some a) (some b))
abbrev ak_.K7:Type:=Int→(List Int)→Int→Int→(List Int)→Int→Int→Bool→Int→Bool→Int→Int→Int→Int→Bool→Int→Bool→Int→Int→(List b3_)→Option (ay_ × af_)
abbrev ak_.T7:Type:=Int→Int→(List Int)→Int→Int→(List Int)→Int→Int→Bool→Int→Bool→Int→Int→Int→Int→Bool→Int→Bool→Int→Int→(List b3_)→Option (ay_ × af_)
def ak_.step7 (n:Nat) (k0:ak_.K7) (back:ak_.T7):ak_.T7:=fun t6 t7 o0 o1 o2 t30 t40 t42 t43 t44 t46 t47 t48 t50 t52 t53 t54 t56 t57 t58 t51=>
 ((ah_ n (af_.mk o0 o1 o2) 3).bind fun xr4=>(cond (decide (t7<xr4.1)) ((ah_ n xr4.2 t6).bind fun xr5=>((ah_ n xr5.2 4).bind fun xr6=>((ah_ n xr6.2 6).bind fun xr7=>(bf_ (t51.length+([(b3_.mk xr5.1 (W (1+xr6.1)) xr7.1)]:List b3_).length) 24 (back t6 (W (t7+1)) xr7.2.b xr7.2.i xr7.2.h t30 t40 t42 t43 t44 t46 t47 t48 t50 t52 t53 t54 t56 t57 t58 (t51++([(b3_.mk xr5.1 (W (1+xr6.1)) xr7.1)]:List b3_))))))) (k0 t6 xr4.2.b xr4.2.i xr4.2.h t30 t40 t42 t43 t44 t46 t47 t48 t50 t52 t53 t54 t56 t57 t58 t51)))
def ak_.loop7 (n:Nat) (k0:ak_.K7) (N:Nat):ak_.T7:=ct_ (fun _ _ _ _ _ _ _ _ _ _ _ _ _ _ _ _ _ _ _ _ _=>none) (ak_.step7 n k0) N
abbrev ak_.K16:Type:=(List Int)→Int→Int→(List Int)→Int→Int→Bool→Int→Bool→Int→Int→Int→Int→Bool→Int→Bool→Int→Int→(List b3_)→(List Int)→Option (ay_ × af_)
abbrev ak_.T16:Type:=Int→Int→(List Int)→Int→Int→(List Int)→Int→Int→Bool→Int→Bool→Int→Int→Int→Int→Bool→Int→Bool→Int→Int→(List b3_)→(List Int)→Option (ay_ × af_)
def ak_.step16 (n:Nat) (k2:ak_.K16) (back:ak_.T16):ak_.T16:=fun t6 t8 o0 o1 o2 t30 t40 t42 t43 t44 t46 t47 t48 t50 t52 t53 t54 t56 t57 t58 t51 t55=>
 (cond (decide (t8<t6)) ((cm_ n (af_.mk o0 o1 o2) 2).bind fun xr31=>(cond xr31.1 (bf_ (t55.length+([t8]:List Int).length) 8 (back t6 (W (t8+1)) xr31.2.b xr31.2.i xr31.2.h t30 t40 t42 t43 t44 t46 t47 t48 t50 t52 t53 t54 t56 t57 t58 t51 (t55++([t8]:List Int)))) (back t6 (W (t8+1)) xr31.2.b xr31.2.i xr31.2.h t30 t40 t42 t43 t44 t46 t47 t48 t50 t52 t53 t54 t56 t57 t58 t51 t55))) (k2 o0 o1 o2 t30 t40 t42 t43 t44 t46 t47 t48 t50 t52 t53 t54 t56 t57 t58 t51 t55))
def ak_.loop16 (n:Nat) (k2:ak_.K16) (N:Nat):ak_.T16:=ct_ (fun _ _ _ _ _ _ _ _ _ _ _ _ _ _ _ _ _ _ _ _ _ _=>none) (ak_.step16 n k2) N
def ak_:Nat→af_→aY_→Option (ay_ × af_)
 |0,_,_=>none
 |n+1,o,append=>
  ((cJ_ n (append.cols.length:Int) 1).bind fun xr1=>((ah_ n o xr1).bind fun xr2=>(cond (decide (xr2.1<(append.cols.length:Int))) (inB xr2.1 append.cols.length ((cJ_ n (append.cols.getD xr2.1.toNat 0) 1).bind fun xr3=>(ak_.loop7 n (fun xy8 xy9 xy10 xy11 xy12 xy13 xy14 xy15 xy16 xy17 xy18 xy19 xy20 xy21 xy22 xy23 xy24 xy25 xy26 xy27=>((ah_ n (af_.mk xy9 xy10 xy11) (W (xy8+1))).bind fun xr28=>(cond (decide (xr28.1 > 0)) ((cm_ n xr28.2 2).bind fun xr29=>((bu_ n xr29.2 ([0,0,1,2,3,5]:List Int)).bind fun xr30=>(ak_.loop16 n (fun xy32 xy33 xy34 xy35 xy36 xy37 xy38 xy39 xy40 xy41 xy42 xy43 xy44 xy45 xy46 xy47 xy48 xy49 xy50 xy51=>((cm_ n (af_.mk xy32 xy33 xy34) 2).bind fun xr52=>(cond xr52.1 ((cJ_ n (xy35.length:Int) 1).bind fun xr53=>((ah_ n xr52.2 xr53).bind fun xr54=>(cond (decide (xr54.1<(xy35.length:Int))) (inB xr54.1 xy35.length ((cJ_ n (xy35.getD xr54.1.toNat 0) 1).bind fun xr55=>((ah_ n xr54.2 xr55).bind fun xr56=>(some ((ay_.mk xy43 xy50 xy44 xy45 xy46 xy51 true xr54.1 xr56.1),xr56.2))))) (some ((ay_.mk xy43 xy50 xy44 xy45 xy46 xy51 true xr54.1 xy49),xr54.2))))) (some ((ay_.mk xy43 xy50 xy44 xy45 xy46 xy51 xy47 xy48 xy49),xr52.2))))) n xy8 0 xr30.2.b xr30.2.i xr30.2.h xy12 xy13 xy14 xy15 xy16 xy17 xy18 xy19 xy20 xr28.1 xr29.1 xr30.1 xy24 xy25 xy26 xy27 ([]:List Int)))) ((bu_ n xr28.2 ([0,0,1,2,3,5]:List Int)).bind fun xr57=>(ak_.loop16 n (fun xy58 xy59 xy60 xy61 xy62 xy63 xy64 xy65 xy66 xy67 xy68 xy69 xy70 xy71 xy72 xy73 xy74 xy75 xy76 xy77=>((cm_ n (af_.mk xy58 xy59 xy60) 2).bind fun xr78=>(cond xr78.1 ((cJ_ n (xy61.length:Int) 1).bind fun xr79=>((ah_ n xr78.2 xr79).bind fun xr80=>(cond (decide (xr80.1<(xy61.length:Int))) (inB xr80.1 xy61.length ((cJ_ n (xy61.getD xr80.1.toNat 0) 1).bind fun xr81=>((ah_ n xr80.2 xr81).bind fun xr82=>(some ((ay_.mk xy69 xy76 xy70 xy71 xy72 xy77 true xr80.1 xr82.1),xr82.2))))) (some ((ay_.mk xy69 xy76 xy70 xy71 xy72 xy77 true xr80.1 xy75),xr80.2))))) (some ((ay_.mk xy69 xy76 xy70 xy71 xy72 xy77 xy73 xy74 xy75),xr78.2))))) n xy8 0 xr57.2.b xr57.2.i xr57.2.h xy12 xy13 xy14 xy15 xy16 xy17 xy18 xy19 xy20 xr28.1 false xr57.1 xy24 xy25 xy26 xy27 ([]:List Int)))))) n xr3 0 xr2.2.b xr2.2.i xr2.2.h append.cols 0 0 false 0 false 0 0 xr2.1 0 false 0 false 0 0 ([]:List b3_)))) (ak_.loop7 n (fun xy83 xy84 xy85 xy86 xy87 xy88 xy89 xy90 xy91 xy92 xy93 xy94 xy95 xy96 xy97 xy98 xy99 xy100 xy101 xy102=>((ah_ n (af_.mk xy84 xy85 xy86) (W (xy83+1))).bind fun xr103=>(cond (decide (xr103.1 > 0)) ((cm_ n xr103.2 2).bind fun xr104=>((bu_ n xr104.2 ([0,0,1,2,3,5]:List Int)).bind fun xr105=>(ak_.loop16 n (fun xy106 xy107 xy108 xy109 xy110 xy111 xy112 xy113 xy114 xy115 xy116 xy117 xy118 xy119 xy120 xy121 xy122 xy123 xy124 xy125=>((cm_ n (af_.mk xy106 xy107 xy108) 2).bind fun xr126=>(cond xr126.1 ((cJ_ n (xy109.length:Int) 1).bind fun xr127=>((ah_ n xr126.2 xr127).bind fun xr128=>(cond (decide (xr128.1<(xy109.length:Int))) (inB xr128.1 xy109.length ((cJ_ n (xy109.getD xr128.1.toNat 0) 1).bind fun xr129=>((ah_ n xr128.2 xr129).bind fun xr130=>(some ((ay_.mk xy117 xy124 xy118 xy119 xy120 xy125 true xr128.1 xr130.1),xr130.2))))) (some ((ay_.mk xy117 xy124 xy118 xy119 xy120 xy125 true xr128.1 xy123),xr128.2))))) (some ((ay_.mk xy117 xy124 xy118 xy119 xy120 xy125 xy121 xy122 xy123),xr126.2))))) n xy83 0 xr105.2.b xr105.2.i xr105.2.h xy87 xy88 xy89 xy90 xy91 xy92 xy93 xy94 xy95 xr103.1 xr104.1 xr105.1 xy99 xy100 xy101 xy102 ([]:List Int)))) ((bu_ n xr103.2 ([0,0,1,2,3,5]:List Int)).bind fun xr131=>(ak_.loop16 n (fun xy132 xy133 xy134 xy135 xy136 xy137 xy138 xy139 xy140 xy141 xy142 xy143 xy144 xy145 xy146 xy147 xy148 xy149 xy150 xy151=>((cm_ n (af_.mk xy132 xy133 xy134) 2).bind fun xr152=>(cond xr152.1 ((cJ_ n (xy135.length:Int) 1).bind fun xr153=>((ah_ n xr152.2 xr153).bind fun xr154=>(cond (decide (xr154.1<(xy135.length:Int))) (inB xr154.1 xy135.length ((cJ_ n (xy135.getD xr154.1.toNat 0) 1).bind fun xr155=>((ah_ n xr154.2 xr155).bind fun xr156=>(some ((ay_.mk xy143 xy150 xy144 xy145 xy146 xy151 true xr154.1 xr156.1),xr156.2))))) (some ((ay_.mk xy143 xy150 xy144 xy145 xy146 xy151 true xr154.1 xy149),xr154.2))))) (some ((ay_.mk xy143 xy150 xy144 xy145 xy146 xy151 xy147 xy148 xy149),xr152.2))))) n xy83 0 xr131.2.b xr131.2.i xr131.2.h xy87 xy88 xy89 xy90 xy91 xy92 xy93 xy94 xy95 xr103.1 false xr131.1 xy99 xy100 xy101 xy102 ([]:List Int)))))) n 1 0 xr2.2.b xr2.2.i xr2.2.h append.cols 0 0 false 0 false 0 0 xr2.1 0 false 0 false 0 0 ([]:List b3_)))))
abbrev ch_.T6:Type:=Int→Int→(List Int)→Option Bool
def ch_.step6 (n:Nat) (k0:Option Bool) (back:ch_.T6):ch_.T6:=fun i r0 r1=>
 (cond (decide (i<(r1.length:Int))) (inB i r1.length ((b4_ n (r1.getD i.toNat 0) (-1000000000) 1000000000).bind fun xr4=>(cond (!xr4) (some false) (back (W (i+1)) r0 r1)))) k0)
def ch_.loop6 (n:Nat) (k0:Option Bool) (N:Nat):ch_.T6:=ct_ (fun _ _ _=>none) (ch_.step6 n k0) N
def ch_:Nat→aY_→Int→TRow→Option Bool
 |0,_,_,_=>none
 |n+1,s,table,r=>
  ((a1_ n s).bind fun xr1=>(cond (!xr1) (some false) ((b4_ n table 0 (W ((s.cols.length:Int) - 1))).bind fun xr2=>(cond (!xr2) (some false) ((b4_ n r.id_ 1 999).bind fun xr3=>(cond (!xr3) (some false) (inB table s.cols.length (cond ((r.cells.length:Int) != (s.cols.getD table.toNat 0)) (some false) (ch_.loop6 n (some true) n 0 r.id_ r.cells)))))))))
abbrev b1_.K3:Type:=Int→(List TRow)→(List Int)→Option Bool
abbrev b1_.T3:Type:=Int→(List TRow)→Int→(List Int)→Option Bool
def b1_.step3 (n:Nat) (k0:b1_.K3) (back:b1_.T3):b1_.T3:=fun table rows i s0=>
 (cond (decide (i<(rows.length:Int))) (inB i rows.length ((ch_ n (aY_.mk s0) table (rows.getD i.toNat TRow.dflt)).bind fun xr1=>(cond (!xr1) (some false) (cond (decide (i > 0)) (inB (W (i - 1)) rows.length (inB i rows.length (let xv2:Bool:=(decide (((rows.getD (W (i - 1)).toNat TRow.dflt).id_)≥((rows.getD i.toNat TRow.dflt).id_)));(cond xv2 (some false) (back table rows (W (i+1)) s0))))) (back table rows (W (i+1)) s0))))) (k0 table rows s0))
def b1_.loop3 (n:Nat) (k0:b1_.K3) (N:Nat):b1_.T3:=ct_ (fun _ _ _ _=>none) (b1_.step3 n k0) N
def b1_:Nat→aY_→Int→(List TRow)→Option Bool
 |0,_,_,_=>none
 |n+1,s,table,rows=>
  (b1_.loop3 n (fun xy3 xy4 xy5=>((a1_ n (aY_.mk xy5)).bind fun xr6=>(cond xr6 ((b4_ n xy3 0 (W ((xy5.length:Int) - 1))).bind fun xr7=>(cond xr7 (some (decide ((xy4.length:Int)≤24))) (some false))) (some false)))) n table rows 0 s.cols)
abbrev bA_.T6:Type:=Int→(List Int)→Int→(List (List TRow))→Option Bool
def bA_.step6 (n:Nat) (k0:Option Bool) (back:bA_.T6):bA_.T6:=fun t s0 s1 s2=>
 (cond (decide (t<(s2.length:Int))) (inB t s2.length ((b1_ n (aY_.mk s0) t (s2.getD t.toNat [])).bind fun xr3=>(cond (!xr3) (some false) (back (W (t+1)) s0 s1 s2)))) k0)
def bA_.loop6 (n:Nat) (k0:Option Bool) (N:Nat):bA_.T6:=ct_ (fun _ _ _ _=>none) (bA_.step6 n k0) N
def bA_:Nat→ax_→Option Bool
 |0,_=>none
 |n+1,s=>
  ((a1_ n s.schema).bind fun xr1=>(cond (!xr1) (some false) ((b4_ n s.version 0 100000).bind fun xr2=>(cond (!xr2) (some false) (cond ((s.tables.length:Int) != (s.schema.cols.length:Int)) (some false) (bA_.loop6 n (some true) n 0 s.schema.cols s.version s.tables))))))
abbrev aA_.K7:Type:=Int→(List Int)→Int→(List b3_)→Int→Bool→Int→(List Int)→Bool→Int→Int→Option Bool
abbrev aA_.T7:Type:=Int→Int→(List Int)→Int→(List b3_)→Int→Bool→Int→(List Int)→Bool→Int→Int→Option Bool
def aA_.step7 (n:Nat) (k0:aA_.K7) (back:aA_.T7):aA_.T7:=fun t5 t6 t20 t30 t31 t32 t33 t34 t35 t36 t37 t38=>
 (cond (decide (t6<(t31.length:Int))) (inB t6 t31.length ((b4_ n ((t31.getD t6.toNat b3_.dflt).col) 0 (W (t5 - 1))).bind fun xr3=>(cond (!xr3) (some false) ((b4_ n ((t31.getD t6.toNat b3_.dflt).op) 1 4).bind fun xr4=>(cond (!xr4) (some false) ((b4_ n ((t31.getD t6.toNat b3_.dflt).v) (-1000000000) 1000000000).bind fun xr5=>(cond (!xr5) (some false) (back t5 (W (t6+1)) t20 t30 t31 t32 t33 t34 t35 t36 t37 t38)))))))) (k0 t5 t20 t30 t31 t32 t33 t34 t35 t36 t37 t38))
def aA_.loop7 (n:Nat) (k0:aA_.K7) (N:Nat):aA_.T7:=ct_ (fun _ _ _ _ _ _ _ _ _ _ _ _=>none) (aA_.step7 n k0) N
abbrev aA_.K16:Type:=Int→(List Int)→Int→(List b3_)→Int→Bool→Int→(List Int)→Bool→Int→Int→Option Bool
abbrev aA_.T16:Type:=Int→Int→(List Int)→Int→(List b3_)→Int→Bool→Int→(List Int)→Bool→Int→Int→Option Bool
def aA_.step16 (n:Nat) (k2:aA_.K16) (back:aA_.T16):aA_.T16:=fun t5 t8 t20 t30 t31 t32 t33 t34 t35 t36 t37 t38=>
 (cond (decide (t8<(t35.length:Int))) (inB t8 t35.length ((b4_ n (t35.getD t8.toNat 0) 0 (W (t5 - 1))).bind fun xr17=>(cond (!xr17) (some false) (cond (decide (t8 > 0)) (inB (W (t8 - 1)) t35.length (inB t8 t35.length (cond (decide ((t35.getD (W (t8 - 1)).toNat 0)≥(t35.getD t8.toNat 0))) (some false) (back t5 (W (t8+1)) t20 t30 t31 t32 t33 t34 t35 t36 t37 t38)))) (back t5 (W (t8+1)) t20 t30 t31 t32 t33 t34 t35 t36 t37 t38))))) (k2 t5 t20 t30 t31 t32 t33 t34 t35 t36 t37 t38))
def aA_.loop16 (n:Nat) (k2:aA_.K16) (N:Nat):aA_.T16:=ct_ (fun _ _ _ _ _ _ _ _ _ _ _ _=>none) (aA_.step16 n k2) N
def aA_:Nat→aY_→ay_→Option Bool
 |0,_,_=>none
 |n+1,o,append=>
  ((a1_ n o).bind fun xr1=>(cond (!xr1) (some false) ((b4_ n append.table 0 (W ((o.cols.length:Int) - 1))).bind fun xr2=>(cond (!xr2) (some false) (cond (decide ((append.where_.length:Int) > 3)) (some false) (inB append.table o.cols.length (aA_.loop7 n (fun xy6 xy7 xy8 xy9 xy10 xy11 xy12 xy13 xy14 xy15 xy16=>(aA_.loop16 n (fun xy18 xy19 xy20 xy21 xy22 xy23 xy24 xy25 xy26 xy27 xy28=>((b4_ n xy22 0 xy18).bind fun xr29=>(cond (!xr29) (some false) ((b4_ n xy24 0 24).bind fun xr30=>(cond (!xr30) (some false) (cond (xy22 == 0) (cond xy23 (some false) (cond (!xy26) (cond (xy27 == 0) (some (xy28 == 0)) (some false)) ((b4_ n xy27 0 (W ((xy19.length:Int) - 1))).bind fun xr31=>(cond xr31 (inB xy27 xy19.length ((b4_ n xy28 0 (W ((xy19.getD xy27.toNat 0) - 1))).bind fun xr32=>(some xr32))) (some false))))) (cond (!xy26) (cond (xy27 == 0) (some (xy28 == 0)) (some false)) ((b4_ n xy27 0 (W ((xy19.length:Int) - 1))).bind fun xr33=>(cond xr33 (inB xy27 xy19.length ((b4_ n xy28 0 (W ((xy19.getD xy27.toNat 0) - 1))).bind fun xr34=>(some xr34))) (some false)))))))))) n xy6 0 xy7 xy8 xy9 xy10 xy11 xy12 xy13 xy14 xy15 xy16)) n (o.cols.getD append.table.toNat 0) 0 o.cols append.table append.where_ append.order append.down append.first append.show_ append.kids append.kidTable append.kidCol)))))))
def ea_:Nat→ay_→Option ay_
 |0,_=>none
 |n+1,q=>
  (bf_ (([]:List b3_).length+q.where_.length) 24 (bf_ (([]:List Int).length+q.show_.length) 8 (some { q with where_:=(([]:List b3_)++q.where_),show_:=(([]:List Int)++q.show_) })))
def dO_:Nat→b3_→TRow→Option Bool
 |0,_,_=>none
 |n+1,x,r=>
  ((b4_ n x.col 0 (W ((r.cells.length:Int) - 1))).bind fun xr1=>(cond (!xr1) (some false) (inB x.col r.cells.length (cond (x.op == 1) (some ((r.cells.getD x.col.toNat 0) == x.v)) (cond (x.op == 2) (some (decide ((r.cells.getD x.col.toNat 0)<x.v))) (cond (x.op == 3) (some (decide ((r.cells.getD x.col.toNat 0) > x.v))) (cond (x.op == 4) (some ((r.cells.getD x.col.toNat 0) != x.v)) (some false))))))))
abbrev bQ_.T3:Type:=Int→Int→(List b3_)→Int→Bool→Int→(List Int)→Bool→Int→Int→Int→(List Int)→Option Bool
def bQ_.step3 (n:Nat) (k0:Option Bool) (back:bQ_.T3):bQ_.T3:=fun i q0 q1 q2 q3 q4 q5 q6 q7 q8 r0 r1=>
 (cond (decide (i<(q1.length:Int))) (inB i q1.length ((dO_ n (q1.getD i.toNat b3_.dflt) (TRow.mk r0 r1)).bind fun xr1=>(cond (!xr1) (some false) (back (W (i+1)) q0 q1 q2 q3 q4 q5 q6 q7 q8 r0 r1)))) k0)
def bQ_.loop3 (n:Nat) (k0:Option Bool) (N:Nat):bQ_.T3:=ct_ (fun _ _ _ _ _ _ _ _ _ _ _ _=>none) (bQ_.step3 n k0) N
def bQ_:Nat→ay_→TRow→Option Bool
 |0,_,_=>none
 |n+1,q,r=>
  (bQ_.loop3 n (some true) n 0 q.table q.where_ q.order q.down q.first q.show_ q.kids q.kidTable q.kidCol r.id_ r.cells)
def bT_:Nat→TRow→Int→Option Int
 |0,_,_=>none
 |n+1,r,col=>
  ((b4_ n col 0 (W ((r.cells.length:Int) - 1))).bind fun xr1=>(cond (!xr1) (some 0) (inB col r.cells.length (some (r.cells.getD col.toNat 0)))))
def ey_:Nat→ay_→TRow→TRow→Option Bool
 |0,_,_,_=>none
 |n+1,q,a,b=>
  (cond (q.order != 0) ((bT_ n a (W (q.order - 1))).bind fun xr1=>((bT_ n b (W (q.order - 1))).bind fun xr2=>(cond (xr1 != xr2) (some (!((decide (xr1<xr2)) == q.down))) (some (decide (a.id_<b.id_)))))) (some (decide (a.id_<b.id_))))
abbrev bU_.K5:Type:=Bool→Int→(List Int)→(List TRow)→Option (List TRow)
abbrev bU_.T5:Type:=(List TRow)→Bool→Int→Int→(List b3_)→Int→Bool→Int→(List Int)→Bool→Int→Int→Int→(List Int)→(List TRow)→Option (List TRow)
def bU_.step5 (n:Nat) (k0:bU_.K5) (back:bU_.T5):bU_.T5:=fun rows put i q0 q1 q2 q3 q4 q5 q6 q7 q8 r0 r1 out_1=>
 (cond (decide (i<(rows.length:Int))) (cond (!put) (inB i rows.length ((ey_ n (ay_.mk q0 q1 q2 q3 q4 q5 q6 q7 q8) (TRow.mk r0 r1) (rows.getD i.toNat TRow.dflt)).bind fun xr1=>(cond xr1 ((cw_ n (TRow.mk r0 r1)).bind fun xr2=>(bf_ (out_1.length+([xr2]:List TRow).length) 32 (inB i rows.length (bf_ ((out_1++([xr2]:List TRow)).length+([(rows.getD i.toNat TRow.dflt)]:List TRow).length) 32 (back rows true (W (i+1)) q0 q1 q2 q3 q4 q5 q6 q7 q8 r0 r1 ((out_1++([xr2]:List TRow))++([(rows.getD i.toNat TRow.dflt)]:List TRow))))))) (inB i rows.length (bf_ (out_1.length+([(rows.getD i.toNat TRow.dflt)]:List TRow).length) 32 (back rows put (W (i+1)) q0 q1 q2 q3 q4 q5 q6 q7 q8 r0 r1 (out_1++([(rows.getD i.toNat TRow.dflt)]:List TRow)))))))) (inB i rows.length (bf_ (out_1.length+([(rows.getD i.toNat TRow.dflt)]:List TRow).length) 32 (back rows put (W (i+1)) q0 q1 q2 q3 q4 q5 q6 q7 q8 r0 r1 (out_1++([(rows.getD i.toNat TRow.dflt)]:List TRow)))))) (k0 put r0 r1 out_1))
def bU_.loop5 (n:Nat) (k0:bU_.K5) (N:Nat):bU_.T5:=ct_ (fun _ _ _ _ _ _ _ _ _ _ _ _ _ _ _=>none) (bU_.step5 n k0) N
def bU_:Nat→ay_→(List TRow)→TRow→Option (List TRow)
 |0,_,_,_=>none
 |n+1,q,rows,r=>
  (bU_.loop5 n (fun xy3 xy4 xy5 xy6=>(cond (!xy3) ((cw_ n (TRow.mk xy4 xy5)).bind fun xr7=>(bf_ (xy6.length+([xr7]:List TRow).length) 32 (some (xy6++([xr7]:List TRow))))) (some xy6))) n rows false 0 q.table q.where_ q.order q.down q.first q.show_ q.kids q.kidTable q.kidCol r.id_ r.cells ([]:List TRow))
abbrev bK_.K8:Type:=(List TRow)→Option (List TRow)
abbrev bK_.T8:Type:=(List TRow)→Int→Int→(List b3_)→Int→Bool→Int→(List Int)→Bool→Int→Int→(List TRow)→Option (List TRow)
def bK_.step8 (n:Nat) (k0:bK_.K8) (back:bK_.T8):bK_.T8:=fun rows i q0 q1 q2 q3 q4 q5 q6 q7 q8 out_1=>
 (cond (decide (i<(rows.length:Int))) (inB i rows.length ((bQ_ n (ay_.mk q0 q1 q2 q3 q4 q5 q6 q7 q8) (rows.getD i.toNat TRow.dflt)).bind fun xr3=>(cond xr3 (inB i rows.length ((bU_ n (ay_.mk q0 q1 q2 q3 q4 q5 q6 q7 q8) out_1 (rows.getD i.toNat TRow.dflt)).bind fun xr4=>(back rows (W (i+1)) q0 q1 q2 q3 q4 q5 q6 q7 q8 xr4))) (back rows (W (i+1)) q0 q1 q2 q3 q4 q5 q6 q7 q8 out_1)))) (k0 out_1))
def bK_.loop8 (n:Nat) (k0:bK_.K8) (N:Nat):bK_.T8:=ct_ (fun _ _ _ _ _ _ _ _ _ _ _ _=>none) (bK_.step8 n k0) N
def bK_:Nat→ax_→ay_→Option (List TRow)
 |0,_,_=>none
 |n+1,s,q=>
  ((bA_ n s).bind fun xr1=>(cond (!xr1) (some ([]:List TRow)) ((aA_ n s.schema q).bind fun xr2=>(cond (!xr2) (some ([]:List TRow)) (inB q.table s.tables.length (bK_.loop8 n (fun xy5=>(some xy5)) n (s.tables.getD q.table.toNat []) 0 q.table q.where_ q.order q.down q.first q.show_ q.kids q.kidTable q.kidCol ([]:List TRow)))))))
abbrev aQ_.K5:Type:=Int→Int→Bool→(List TKid)→Option (List TKid)
abbrev aQ_.T5:Type:=(List TKid)→Int→Int→Bool→Int→(List TKid)→Option (List TKid)
def aQ_.step5 (n:Nat) (k0:aQ_.K5) (back:aQ_.T5):aQ_.T5:=fun o append t2 t8 t9 t7=>
 (cond (decide (t9<(o.length:Int))) (inB t9 o.length (cond (!t8) (cond (decide (((o.getD t9.toNat TKid.dflt).id_)≥append)) (cond (((o.getD t9.toNat TKid.dflt).id_) == append) (cond (decide ((W (((o.getD t9.toNat TKid.dflt).n_)+t2)) > 0)) (bf_ (t7.length+([(TKid.mk append (W (((o.getD t9.toNat TKid.dflt).n_)+t2)))]:List TKid).length) 16 (cond (((o.getD t9.toNat TKid.dflt).id_) == append) (back o append t2 true (W (t9+1)) (t7++([(TKid.mk append (W (((o.getD t9.toNat TKid.dflt).n_)+t2)))]:List TKid))) (bf_ ((t7++([(TKid.mk append (W (((o.getD t9.toNat TKid.dflt).n_)+t2)))]:List TKid)).length+([(o.getD t9.toNat TKid.dflt)]:List TKid).length) 16 (back o append t2 true (W (t9+1)) ((t7++([(TKid.mk append (W (((o.getD t9.toNat TKid.dflt).n_)+t2)))]:List TKid))++([(o.getD t9.toNat TKid.dflt)]:List TKid)))))) (cond (((o.getD t9.toNat TKid.dflt).id_) == append) (back o append t2 true (W (t9+1)) t7) (bf_ (t7.length+([(o.getD t9.toNat TKid.dflt)]:List TKid).length) 16 (back o append t2 true (W (t9+1)) (t7++([(o.getD t9.toNat TKid.dflt)]:List TKid)))))) (cond (decide (t2 > 0)) (bf_ (t7.length+([(TKid.mk append t2)]:List TKid).length) 16 (cond (((o.getD t9.toNat TKid.dflt).id_) == append) (back o append t2 true (W (t9+1)) (t7++([(TKid.mk append t2)]:List TKid))) (bf_ ((t7++([(TKid.mk append t2)]:List TKid)).length+([(o.getD t9.toNat TKid.dflt)]:List TKid).length) 16 (back o append t2 true (W (t9+1)) ((t7++([(TKid.mk append t2)]:List TKid))++([(o.getD t9.toNat TKid.dflt)]:List TKid)))))) (cond (((o.getD t9.toNat TKid.dflt).id_) == append) (back o append t2 true (W (t9+1)) t7) (bf_ (t7.length+([(o.getD t9.toNat TKid.dflt)]:List TKid).length) 16 (back o append t2 true (W (t9+1)) (t7++([(o.getD t9.toNat TKid.dflt)]:List TKid))))))) (bf_ (t7.length+([(o.getD t9.toNat TKid.dflt)]:List TKid).length) 16 (back o append t2 t8 (W (t9+1)) (t7++([(o.getD t9.toNat TKid.dflt)]:List TKid))))) (bf_ (t7.length+([(o.getD t9.toNat TKid.dflt)]:List TKid).length) 16 (back o append t2 t8 (W (t9+1)) (t7++([(o.getD t9.toNat TKid.dflt)]:List TKid)))))) (k0 append t2 t8 t7))
def aQ_.loop5 (n:Nat) (k0:aQ_.K5) (N:Nat):aQ_.T5:=ct_ (fun _ _ _ _ _ _=>none) (aQ_.step5 n k0) N
def aQ_:Nat→(List TKid)→Int→Int→Option (List TKid)
 |0,_,_,_=>none
 |n+1,o,append,a2=>
  (aQ_.loop5 n (fun xy1 xy2 xy3 xy4=>(cond (!xy3) (cond (decide (xy2 > 0)) (bf_ (xy4.length+([(TKid.mk xy1 xy2)]:List TKid).length) 16 (some (xy4++([(TKid.mk xy1 xy2)]:List TKid)))) (some xy4)) (some xy4))) n o append a2 false 0 ([]:List TKid))
abbrev b0_.K8:Type:=Int→Int→Bool→Int→Bool→Int→Int→Int→Int→Bool→Int→Bool→Int→Int→(List b3_)→(List Int)→(List TRow)→(List TKid)→Option (bn_ × Bool)
abbrev b0_.T8:Type:=(List TRow)→Int→Int→(List b3_)→Int→Bool→Int→(List Int)→Bool→Int→Int→Int→Int→Bool→Int→Bool→Int→Int→Int→Int→Bool→Int→Bool→Int→Int→(List b3_)→(List Int)→(List TRow)→(List TKid)→Option (bn_ × Bool)
def b0_.step8 (n:Nat) (k0:b0_.K8) (back:b0_.T8):b0_.T8:=fun rows i q0 q1 q2 q3 q4 q5 q6 q7 q8 t40 t42 t43 t44 t46 t47 t48 v0 v2 v3 v4 v6 v7 v8 v1 v5 v9 v10=>
 (cond (decide (i<(rows.length:Int))) (cond q6 (inB i rows.length (inB q8 ((rows.getD i.toNat TRow.dflt).cells).length ((aQ_ n v10 (((rows.getD i.toNat TRow.dflt).cells).getD q8.toNat 0) 1).bind fun xr5=>(back rows (W (i+1)) q0 q1 q2 q3 q4 q5 q6 q7 q8 t40 t42 t43 t44 t46 t47 t48 v0 v2 v3 v4 v6 v7 v8 v1 v5 v9 xr5)))) (k0 t40 t42 t43 t44 t46 t47 t48 v0 v2 v3 v4 v6 v7 v8 v1 v5 v9 v10)) (k0 t40 t42 t43 t44 t46 t47 t48 v0 v2 v3 v4 v6 v7 v8 v1 v5 v9 v10))
def b0_.loop8 (n:Nat) (k0:b0_.K8) (N:Nat):b0_.T8:=ct_ (fun _ _ _ _ _ _ _ _ _ _ _ _ _ _ _ _ _ _ _ _ _ _ _ _ _ _ _ _ _=>none) (b0_.step8 n k0) N
def b0_:Nat→ax_→ay_→Option (bn_ × Bool)
 |0,_,_=>none
 |n+1,s,q=>
  ((bA_ n s).bind fun xr1=>(cond (!xr1) (some ((bn_.mk (ay_.mk 0 ([]:List b3_) 0 false 0 ([]:List Int) false 0 0) ([]:List TRow) ([]:List TKid)),false)) ((aA_ n s.schema q).bind fun xr2=>(cond (!xr2) (some ((bn_.mk (ay_.mk 0 ([]:List b3_) 0 false 0 ([]:List Int) false 0 0) ([]:List TRow) ([]:List TKid)),false)) ((ea_ n q).bind fun xr3=>((bK_ n s q).bind fun xr4=>(inB q.kidTable s.tables.length (b0_.loop8 n (fun xy6 xy7 xy8 xy9 xy10 xy11 xy12 xy13 xy14 xy15 xy16 xy17 xy18 xy19 xy20 xy21 xy22 xy23=>(some ((bn_.mk (ay_.mk xy13 xy20 xy14 xy15 xy16 xy21 xy17 xy18 xy19) xy22 xy23),true))) n (s.tables.getD q.kidTable.toNat []) 0 q.table q.where_ q.order q.down q.first q.show_ q.kids q.kidTable q.kidCol 0 0 false 0 false 0 0 xr3.table xr3.order xr3.down xr3.first xr3.kids xr3.kidTable xr3.kidCol xr3.where_ xr3.show_ xr4 ([]:List TKid)))))))))
def d6_:Nat→ax_→ay_→Option (cp_ × Bool)
 |0,_,_=>none
 |n+1,s,q=>
  ((b0_ n s q).bind fun xr1=>(cond (!xr1.2) (some ((cp_.mk (bn_.mk (ay_.mk 0 ([]:List b3_) 0 false 0 ([]:List Int) false 0 0) ([]:List TRow) ([]:List TKid)) 0 (bn_.mk (ay_.mk 0 ([]:List b3_) 0 false 0 ([]:List Int) false 0 0) ([]:List TRow) ([]:List TKid)) 0 false),false)) (some ((cp_.mk xr1.1 s.version (bn_.mk (ay_.mk 0 ([]:List b3_) 0 false 0 ([]:List Int) false 0 0) ([]:List TRow) ([]:List TKid)) 0 false),true))))
abbrev bV_.K4:Type:=(List TRow)→Option (List TRow)
abbrev bV_.T4:Type:=(List TRow)→Int→(List TRow)→Option (List TRow)
def bV_.step4 (n:Nat) (k0:bV_.K4) (back:bV_.T4):bV_.T4:=fun rows i out_1=>
 (cond (decide (i<(rows.length:Int))) (inB i rows.length ((cw_ n (rows.getD i.toNat TRow.dflt)).bind fun xr1=>(bf_ (out_1.length+([xr1]:List TRow).length) 32 (back rows (W (i+1)) (out_1++([xr1]:List TRow)))))) (k0 out_1))
def bV_.loop4 (n:Nat) (k0:bV_.K4) (N:Nat):bV_.T4:=ct_ (fun _ _ _=>none) (bV_.step4 n k0) N
def bV_:Nat→(List TRow)→Option (List TRow)
 |0,_=>none
 |n+1,rows=>
  (bV_.loop4 n (fun xy2=>(some xy2)) n rows 0 ([]:List TRow))
def cY_:Nat→bn_→Option bn_
 |0,_=>none
 |n+1,v=>
  ((ea_ n v.q).bind fun xr1=>((bV_ n v.rows).bind fun xr2=>(bf_ (([]:List TKid).length+v.kids.length) 16 (some (bn_.mk xr1 xr2 (([]:List TKid)++v.kids))))))
def dP_:Nat→cp_→Option cp_
 |0,_=>none
 |n+1,x=>
  ((cY_ n x.view).bind fun xr1=>((cY_ n x.last).bind fun xr2=>(some { x with view:=xr1,last:=xr2 })))
abbrev b5_.T3:Type:=Int→Int→Int→(List b3_)→Int→Bool→Int→(List Int)→Bool→Int→Int→(List TRow)→(List TKid)→Option Int
def b5_.step3 (n:Nat) (k0:Option Int) (back:b5_.T3):b5_.T3:=fun id_1 i v0 v1 v2 v3 v4 v5 v6 v7 v8 v9 v10=>
 (cond (decide (i<(v10.length:Int))) (inB i v10.length (cond (((v10.getD i.toNat TKid.dflt).id_) == id_1) (inB i v10.length (some ((v10.getD i.toNat TKid.dflt).n_))) (back id_1 (W (i+1)) v0 v1 v2 v3 v4 v5 v6 v7 v8 v9 v10))) k0)
def b5_.loop3 (n:Nat) (k0:Option Int) (N:Nat):b5_.T3:=ct_ (fun _ _ _ _ _ _ _ _ _ _ _ _ _=>none) (b5_.step3 n k0) N
def b5_:Nat→bn_→Int→Option Int
 |0,_,_=>none
 |n+1,v,id1=>
  (b5_.loop3 n (some 0) n id1 0 v.q.table v.q.where_ v.q.order v.q.down v.q.first v.q.show_ v.q.kids v.q.kidTable v.q.kidCol v.rows v.kids)
abbrev a9_.K4:Type:=(List Int)→Option (List Int)
abbrev a9_.T4:Type:=Int→Int→(List b3_)→Int→Bool→Int→(List Int)→Bool→Int→Int→(List TRow)→(List TKid)→(List Int)→Option (List Int)
def a9_.step4 (n:Nat) (k0:a9_.K4) (back:a9_.T4):a9_.T4:=fun i v0 v1 v2 v3 v4 v5 v6 v7 v8 v9 v10 out_1=>
 (cond (decide (i<(v9.length:Int))) (inB i v9.length ((b5_ n (bn_.mk (ay_.mk v0 v1 v2 v3 v4 v5 v6 v7 v8) v9 v10) ((v9.getD i.toNat TRow.dflt).id_)).bind fun xr1=>(bf_ (out_1.length+([xr1]:List Int).length) 8 (back (W (i+1)) v0 v1 v2 v3 v4 v5 v6 v7 v8 v9 v10 (out_1++([xr1]:List Int)))))) (k0 out_1))
def a9_.loop4 (n:Nat) (k0:a9_.K4) (N:Nat):a9_.T4:=ct_ (fun _ _ _ _ _ _ _ _ _ _ _ _ _=>none) (a9_.step4 n k0) N
def a9_:Nat→bn_→Option (List Int)
 |0,_=>none
 |n+1,v=>
  (a9_.loop4 n (fun xy2=>(some xy2)) n 0 v.q.table v.q.where_ v.q.order v.q.down v.q.first v.q.show_ v.q.kids v.q.kidTable v.q.kidCol v.rows v.kids ([]:List Int))
def eN_:Nat→Int→Int→Option Int
 |0,_,_=>none
 |n+1,a,b=>
  (cond (decide (a<b)) (some a) (some b))
def du_:Nat→ay_→Int→Option Int
 |0,_,_=>none
 |n+1,q,n1=>
  (cond (q.first == 0) (some n1) ((eN_ n n1 q.first).bind fun xr1=>((cJ_ n xr1 0).bind fun xr2=>(some xr2))))
abbrev aK_.K7:Type:=Bool→Bs→Option Bs
abbrev aK_.T7:Type:=Int→Bool→Bs→Option Bs
def aK_.step7 (n:Nat) (k0:aK_.K7) (back:aK_.T7):aK_.T7:=fun n_1 below out_1=>
 (cond (n_1 != 0) (cond (decide ((Int.tmod n_1 10)<0)) (let xv1:Bs:=(iv_ ([(IntKind.u8.wrap ((W (48+(W (0 - (Int.tmod n_1 10)))))))]:List Int));(cond (decide (xv1.length+out_1.length≤9223372036854775807)) (back (W (Int.tdiv n_1 10)) below (xv1++out_1)) none)) (cond (decide ((iv_ ([(IntKind.u8.wrap ((W (48+(Int.tmod n_1 10)))))]:List Int)).length+out_1.length≤9223372036854775807)) (let xv2:Bs:=((iv_ ([(IntKind.u8.wrap ((W (48+(Int.tmod n_1 10)))))]:List Int))++out_1);(back (W (Int.tdiv n_1 10)) below xv2)) none)) (k0 below out_1))
def aK_.loop7 (n:Nat) (k0:aK_.K7) (N:Nat):aK_.T7:=ct_ (fun _ _ _=>none) (aK_.step7 n k0) N
def aK_:Nat→Int→Option Bs
 |0,_=>none
 |n+1,n1=>
  (cond (n1 == 0) (some [48]) (aK_.loop7 n (fun xy3 xy4=>(cond xy3 (cond (decide ([45].length+xy4.length≤9223372036854775807)) (some (([45]:Bs)++xy4)) none) (some xy4))) n n1 (decide (n1<0)) []))
def c6_:Nat→Int→Option aa_
 |0,_=>none
 |n+1,n1=>
  (some (aa_.mk 2 n1 [] ([]:List aa_) ([]:List Bs)))
abbrev bO_.K4:Type:=Int→Int→(List b3_)→Int→Bool→Int→(List Int)→Bool→Int→Int→Int→(List Int)→Int→Int→Bs→Int→Int→Bs→(List aa_)→(List Bs)→Option aa_
abbrev bO_.T4:Type:=Int→Int→Int→(List b3_)→Int→Bool→Int→(List Int)→Bool→Int→Int→Int→(List Int)→Int→Int→Bs→Int→Int→Bs→(List aa_)→(List Bs)→Option aa_
def bO_.step4 (n:Nat) (k0:bO_.K4) (back:bO_.T4):bO_.T4:=fun kids i q0 q1 q2 q3 q4 q5 q6 q7 q8 r0 r1 t60 t61 t62 out0 out1 out2 out3 out4=>
 (cond (decide (i<(q5.length:Int))) (inB i q5.length ((aK_ n (q5.getD i.toNat 0)).bind fun xr1=>(cond (decide ([99].length+xr1.length≤9223372036854775807)) (inB i q5.length ((bT_ n (TRow.mk r0 r1) (q5.getD i.toNat 0)).bind fun xr2=>((c6_ n xr2).bind fun xr3=>((bL_ n (aa_.mk out0 out1 out2 out3 out4) (([99]:Bs)++xr1) (aa_.re xr3)).bind fun xr4=>(back kids (W (i+1)) q0 q1 q2 q3 q4 q5 q6 q7 q8 r0 r1 t60 t61 t62 xr4.kind xr4.n_ xr4.s xr4.list xr4.names))))) none))) (k0 kids q0 q1 q2 q3 q4 q5 q6 q7 q8 r0 r1 t60 t61 t62 out0 out1 out2 out3 out4))
def bO_.loop4 (n:Nat) (k0:bO_.K4) (N:Nat):bO_.T4:=ct_ (fun _ _ _ _ _ _ _ _ _ _ _ _ _ _ _ _ _ _ _ _ _=>none) (bO_.step4 n k0) N
def bO_:Nat→ay_→TRow→Int→Option aa_
 |0,_,_,_=>none
 |n+1,q,r,kids=>
  (bO_.loop4 n (fun xy5 xy6 xy7 xy8 xy9 xy10 xy11 xy12 xy13 xy14 xy15 xy16 xy17 xy18 xy19 xy20 xy21 xy22 xy23 xy24=>((c6_ n xy15).bind fun xr25=>((bL_ n (aa_.mk xy20 xy21 xy22 xy23 xy24) [105,100] (aa_.re xr25)).bind fun xr26=>(cond xy12 ((c6_ n xy5).bind fun xr27=>((bL_ n (aa_.re xr26) [107,105,100,115] (aa_.re xr27)).bind fun xr28=>(some (aa_.re xr28)))) (some (aa_.re xr26)))))) n kids 0 q.table q.where_ q.order q.down q.first q.show_ q.kids q.kidTable q.kidCol r.id_ r.cells 0 0 [] 5 0 [] ([]:List aa_) ([]:List Bs))
abbrev b2_.T3:Type:=Bs→Int→Option Bool
def b2_.step3 (n:Nat) (k0:Bs→Option Bool) (back:b2_.T3):b2_.T3:=fun s i=>
 (cond (decide (i<(s.length:Int))) (inB i s.length (cond (decide (((s.getD i.toNat 0).toNat:Int)<32)) (some false) (inB i s.length (cond (decide (((s.getD i.toNat 0).toNat:Int) > 126)) (some false) (back s (W (i+1))))))) (k0 s))
def b2_.loop3 (n:Nat) (k0:Bs→Option Bool) (N:Nat):b2_.T3:=ct_ (fun _ _=>none) (b2_.step3 n k0) N
def b2_:Nat→Bs→Option Bool
 |0,_=>none
 |n+1,s=>
  (b2_.loop3 n (fun xy1=>(some (decide ((xy1.length:Int)≤60)))) n s 0)
abbrev ag_.K6:Type:=Int→Int→Bs→(List aa_)→(List Bs)→Option Bool
abbrev ag_.T6:Type:=Int→Int→Int→Bs→(List aa_)→(List Bs)→Option Bool
def ag_.step6 (n:Nat) (k0:ag_.K6) (back:ag_.T6):ag_.T6:=fun i j0 j1 j2 j3 j4=>
 (cond (decide (i<(j4.length:Int))) (inB i j4.length ((b2_ n (j4.getD i.toNat [])).bind fun xr1=>(cond (!xr1) (some false) (cond (decide (i > 0)) (inB (W (i - 1)) j4.length (inB i j4.length (cond (!Op.bytesLess (j4.getD (W (i - 1)).toNat []) (j4.getD i.toNat [])) (some false) (back (W (i+1)) j0 j1 j2 j3 j4)))) (back (W (i+1)) j0 j1 j2 j3 j4))))) (k0 j0 j1 j2 j3 j4))
def ag_.loop6 (n:Nat) (k0:ag_.K6) (N:Nat):ag_.T6:=ct_ (fun _ _ _ _ _ _=>none) (ag_.step6 n k0) N
def ag_:Nat→aa_→Option Bool
 |0,_=>none
 |n+1,j=>
  (cond (j.kind != 5) (some ((j.names.length:Int) == 0)) (ag_.loop6 n (fun xy2 xy3 xy4 xy5 xy6=>(some ((xy6.length:Int) == (xy5.length:Int)))) n 0 j.kind j.n_ j.s j.list j.names))
abbrev aR_.K23_1:Type:=Int→Int→Int→Int→Bs→(List aa_)→(List Bs)→Option Int
abbrev aR_.T23:Type:=Int→Int→Int→Int→Int→Int→Bs→(List aa_)→(List Bs)→Option Int
def aR_.step23 (n:Nat) (spec_l1Great_:aa_→Int→Option Int) (k1:aR_.K23_1) (back:aR_.T23):aR_.T23:=fun append t5 t6 t7 t20 t21 t22 t23 t24=>
 (cond (decide (t7<(t23.length:Int))) (cond (decide (t6≤400)) (inB t7 t23.length ((spec_l1Great_ (aa_.re (t23.getD t7.toNat aa_.dflt)) (W (append - 1))).bind fun xr52=>(back append t5 (W (t6+xr52)) (W (t7+1)) t20 t21 t22 t23 t24))) (k1 t5 t6 t20 t21 t22 t23 t24)) (k1 t5 t6 t20 t21 t22 t23 t24))
def aR_.loop23 (n:Nat) (spec_l1Great_:aa_→Int→Option Int) (k1:aR_.K23_1) (N:Nat):aR_.T23:=ct_ (fun _ _ _ _ _ _ _ _ _=>none) (aR_.step23 n spec_l1Great_ k1) N
def aR_:Nat→aa_→Int→Option Int
 |0,_,_=>none
 |n+1,o,append=>
  (cond (append == 0) (some 401) (cond (o.kind == 0) (cond (o.n_ != 0) (some 401) (cond (o.kind != 3) (cond (!(o.s == [])) (some 401) (cond (o.kind == 3) (cond (o.n_ != 0) (some 401) (cond (decide (o.kind<4)) (cond (decide ((o.list.length:Int) > 0)) (some 401) ((ag_ n (aa_.re o)).bind fun xr1=>(cond (!xr1) (some 401) (some 1)))) ((ag_ n (aa_.re o)).bind fun xr2=>(cond (!xr2) (some 401) (some 1))))) (cond (decide (o.kind≥4)) (cond (o.n_ != 0) (some 401) (cond (decide (o.kind<4)) (cond (decide ((o.list.length:Int) > 0)) (some 401) ((ag_ n (aa_.re o)).bind fun xr3=>(cond (!xr3) (some 401) (some 1)))) ((ag_ n (aa_.re o)).bind fun xr4=>(cond (!xr4) (some 401) (some 1))))) (cond (decide (o.kind<4)) (cond (decide ((o.list.length:Int) > 0)) (some 401) ((ag_ n (aa_.re o)).bind fun xr5=>(cond (!xr5) (some 401) (some 1)))) ((ag_ n (aa_.re o)).bind fun xr6=>(cond (!xr6) (some 401) (some 1))))))) (cond (o.kind == 3) (cond (o.n_ != 0) (some 401) (cond (decide (o.kind<4)) (cond (decide ((o.list.length:Int) > 0)) (some 401) ((ag_ n (aa_.re o)).bind fun xr7=>(cond (!xr7) (some 401) (some 1)))) ((ag_ n (aa_.re o)).bind fun xr8=>(cond (!xr8) (some 401) (some 1))))) (cond (decide (o.kind≥4)) (cond (o.n_ != 0) (some 401) (cond (decide (o.kind<4)) (cond (decide ((o.list.length:Int) > 0)) (some 401) ((ag_ n (aa_.re o)).bind fun xr9=>(cond (!xr9) (some 401) (some 1)))) ((ag_ n (aa_.re o)).bind fun xr10=>(cond (!xr10) (some 401) (some 1))))) (cond (decide (o.kind<4)) (cond (decide ((o.list.length:Int) > 0)) (some 401) ((ag_ n (aa_.re o)).bind fun xr11=>(cond (!xr11) (some 401) (some 1)))) ((ag_ n (aa_.re o)).bind fun xr12=>(cond (!xr12) (some 401) (some 1)))))))) (cond (o.kind == 1) ((b4_ n o.n_ 0 1).bind fun xr13=>(cond (!xr13) (some 401) (cond (o.kind != 3) (cond (!(o.s == [])) (some 401) (cond (o.kind == 3) (cond (o.n_ != 0) (some 401) (cond (decide (o.kind<4)) (cond (decide ((o.list.length:Int) > 0)) (some 401) ((ag_ n (aa_.re o)).bind fun xr14=>(cond (!xr14) (some 401) (some 1)))) ((ag_ n (aa_.re o)).bind fun xr15=>(cond (!xr15) (some 401) (some 1))))) (cond (decide (o.kind≥4)) (cond (o.n_ != 0) (some 401) (cond (decide (o.kind<4)) (cond (decide ((o.list.length:Int) > 0)) (some 401) ((ag_ n (aa_.re o)).bind fun xr16=>(cond (!xr16) (some 401) (some 1)))) ((ag_ n (aa_.re o)).bind fun xr17=>(cond (!xr17) (some 401) (some 1))))) (cond (decide (o.kind<4)) (cond (decide ((o.list.length:Int) > 0)) (some 401) ((ag_ n (aa_.re o)).bind fun xr18=>(cond (!xr18) (some 401) (some 1)))) ((ag_ n (aa_.re o)).bind fun xr19=>(cond (!xr19) (some 401) (some 1))))))) (cond (o.kind == 3) (cond (o.n_ != 0) (some 401) (cond (decide (o.kind<4)) (cond (decide ((o.list.length:Int) > 0)) (some 401) ((ag_ n (aa_.re o)).bind fun xr20=>(cond (!xr20) (some 401) (some 1)))) ((ag_ n (aa_.re o)).bind fun xr21=>(cond (!xr21) (some 401) (some 1))))) (cond (decide (o.kind≥4)) (cond (o.n_ != 0) (some 401) (cond (decide (o.kind<4)) (cond (decide ((o.list.length:Int) > 0)) (some 401) ((ag_ n (aa_.re o)).bind fun xr22=>(cond (!xr22) (some 401) (some 1)))) ((ag_ n (aa_.re o)).bind fun xr23=>(cond (!xr23) (some 401) (some 1))))) (cond (decide (o.kind<4)) (cond (decide ((o.list.length:Int) > 0)) (some 401) ((ag_ n (aa_.re o)).bind fun xr24=>(cond (!xr24) (some 401) (some 1)))) ((ag_ n (aa_.re o)).bind fun xr25=>(cond (!xr25) (some 401) (some 1))))))))) (cond (o.kind == 2) ((b4_ n o.n_ (-1000000000) 1000000000).bind fun xr26=>(cond (!xr26) (some 401) (cond (o.kind != 3) (cond (!(o.s == [])) (some 401) (cond (o.kind == 3) (cond (o.n_ != 0) (some 401) (cond (decide (o.kind<4)) (cond (decide ((o.list.length:Int) > 0)) (some 401) ((ag_ n (aa_.re o)).bind fun xr27=>(cond (!xr27) (some 401) (some 1)))) ((ag_ n (aa_.re o)).bind fun xr28=>(cond (!xr28) (some 401) (some 1))))) (cond (decide (o.kind≥4)) (cond (o.n_ != 0) (some 401) (cond (decide (o.kind<4)) (cond (decide ((o.list.length:Int) > 0)) (some 401) ((ag_ n (aa_.re o)).bind fun xr29=>(cond (!xr29) (some 401) (some 1)))) ((ag_ n (aa_.re o)).bind fun xr30=>(cond (!xr30) (some 401) (some 1))))) (cond (decide (o.kind<4)) (cond (decide ((o.list.length:Int) > 0)) (some 401) ((ag_ n (aa_.re o)).bind fun xr31=>(cond (!xr31) (some 401) (some 1)))) ((ag_ n (aa_.re o)).bind fun xr32=>(cond (!xr32) (some 401) (some 1))))))) (cond (o.kind == 3) (cond (o.n_ != 0) (some 401) (cond (decide (o.kind<4)) (cond (decide ((o.list.length:Int) > 0)) (some 401) ((ag_ n (aa_.re o)).bind fun xr33=>(cond (!xr33) (some 401) (some 1)))) ((ag_ n (aa_.re o)).bind fun xr34=>(cond (!xr34) (some 401) (some 1))))) (cond (decide (o.kind≥4)) (cond (o.n_ != 0) (some 401) (cond (decide (o.kind<4)) (cond (decide ((o.list.length:Int) > 0)) (some 401) ((ag_ n (aa_.re o)).bind fun xr35=>(cond (!xr35) (some 401) (some 1)))) ((ag_ n (aa_.re o)).bind fun xr36=>(cond (!xr36) (some 401) (some 1))))) (cond (decide (o.kind<4)) (cond (decide ((o.list.length:Int) > 0)) (some 401) ((ag_ n (aa_.re o)).bind fun xr37=>(cond (!xr37) (some 401) (some 1)))) ((ag_ n (aa_.re o)).bind fun xr38=>(cond (!xr38) (some 401) (some 1))))))))) (cond (o.kind == 3) ((b2_ n o.s).bind fun xr39=>(cond (!xr39) (some 401) (cond (o.kind != 3) (cond (!(o.s == [])) (some 401) (cond (o.kind == 3) (cond (o.n_ != 0) (some 401) (cond (decide (o.kind<4)) (cond (decide ((o.list.length:Int) > 0)) (some 401) ((ag_ n (aa_.re o)).bind fun xr40=>(cond (!xr40) (some 401) (some 1)))) ((ag_ n (aa_.re o)).bind fun xr41=>(cond (!xr41) (some 401) (some 1))))) (cond (decide (o.kind≥4)) (cond (o.n_ != 0) (some 401) (cond (decide (o.kind<4)) (cond (decide ((o.list.length:Int) > 0)) (some 401) ((ag_ n (aa_.re o)).bind fun xr42=>(cond (!xr42) (some 401) (some 1)))) ((ag_ n (aa_.re o)).bind fun xr43=>(cond (!xr43) (some 401) (some 1))))) (cond (decide (o.kind<4)) (cond (decide ((o.list.length:Int) > 0)) (some 401) ((ag_ n (aa_.re o)).bind fun xr44=>(cond (!xr44) (some 401) (some 1)))) ((ag_ n (aa_.re o)).bind fun xr45=>(cond (!xr45) (some 401) (some 1))))))) (cond (o.kind == 3) (cond (o.n_ != 0) (some 401) (cond (decide (o.kind<4)) (cond (decide ((o.list.length:Int) > 0)) (some 401) ((ag_ n (aa_.re o)).bind fun xr46=>(cond (!xr46) (some 401) (some 1)))) ((ag_ n (aa_.re o)).bind fun xr47=>(cond (!xr47) (some 401) (some 1))))) (cond (decide (o.kind≥4)) (cond (o.n_ != 0) (some 401) (cond (decide (o.kind<4)) (cond (decide ((o.list.length:Int) > 0)) (some 401) ((ag_ n (aa_.re o)).bind fun xr48=>(cond (!xr48) (some 401) (some 1)))) ((ag_ n (aa_.re o)).bind fun xr49=>(cond (!xr49) (some 401) (some 1))))) (cond (decide (o.kind<4)) (cond (decide ((o.list.length:Int) > 0)) (some 401) ((ag_ n (aa_.re o)).bind fun xr50=>(cond (!xr50) (some 401) (some 1)))) ((ag_ n (aa_.re o)).bind fun xr51=>(cond (!xr51) (some 401) (some 1))))))))) (cond (o.kind == 4) (cond (o.kind == 4) (aR_.loop23 n (aR_ n) (fun xy53 xy54 xy55 xy56 xy57 xy58 xy59=>(cond (xy55 != 3) (cond (!(xy57 == [])) (some xy53) (cond (xy55 == 3) (cond (xy56 != 0) (some xy53) (cond (decide (xy55<4)) (cond (decide ((xy58.length:Int) > 0)) (some xy53) ((ag_ n (aa_.mk xy55 xy56 xy57 xy58 xy59)).bind fun xr60=>(cond (!xr60) (some xy53) (some xy54)))) ((ag_ n (aa_.mk xy55 xy56 xy57 xy58 xy59)).bind fun xr61=>(cond (!xr61) (some xy53) (some xy54))))) (cond (decide (xy55≥4)) (cond (xy56 != 0) (some xy53) (cond (decide (xy55<4)) (cond (decide ((xy58.length:Int) > 0)) (some xy53) ((ag_ n (aa_.mk xy55 xy56 xy57 xy58 xy59)).bind fun xr62=>(cond (!xr62) (some xy53) (some xy54)))) ((ag_ n (aa_.mk xy55 xy56 xy57 xy58 xy59)).bind fun xr63=>(cond (!xr63) (some xy53) (some xy54))))) (cond (decide (xy55<4)) (cond (decide ((xy58.length:Int) > 0)) (some xy53) ((ag_ n (aa_.mk xy55 xy56 xy57 xy58 xy59)).bind fun xr64=>(cond (!xr64) (some xy53) (some xy54)))) ((ag_ n (aa_.mk xy55 xy56 xy57 xy58 xy59)).bind fun xr65=>(cond (!xr65) (some xy53) (some xy54))))))) (cond (xy55 == 3) (cond (xy56 != 0) (some xy53) (cond (decide (xy55<4)) (cond (decide ((xy58.length:Int) > 0)) (some xy53) ((ag_ n (aa_.mk xy55 xy56 xy57 xy58 xy59)).bind fun xr66=>(cond (!xr66) (some xy53) (some xy54)))) ((ag_ n (aa_.mk xy55 xy56 xy57 xy58 xy59)).bind fun xr67=>(cond (!xr67) (some xy53) (some xy54))))) (cond (decide (xy55≥4)) (cond (xy56 != 0) (some xy53) (cond (decide (xy55<4)) (cond (decide ((xy58.length:Int) > 0)) (some xy53) ((ag_ n (aa_.mk xy55 xy56 xy57 xy58 xy59)).bind fun xr68=>(cond (!xr68) (some xy53) (some xy54)))) ((ag_ n (aa_.mk xy55 xy56 xy57 xy58 xy59)).bind fun xr69=>(cond (!xr69) (some xy53) (some xy54))))) (cond (decide (xy55<4)) (cond (decide ((xy58.length:Int) > 0)) (some xy53) ((ag_ n (aa_.mk xy55 xy56 xy57 xy58 xy59)).bind fun xr70=>(cond (!xr70) (some xy53) (some xy54)))) ((ag_ n (aa_.mk xy55 xy56 xy57 xy58 xy59)).bind fun xr71=>(cond (!xr71) (some xy53) (some xy54)))))))) n append 401 1 0 o.kind o.n_ o.s o.list o.names) (some 401)) (cond (o.kind == 5) (aR_.loop23 n (aR_ n) (fun xy72 xy73 xy74 xy75 xy76 xy77 xy78=>(cond (xy74 != 3) (cond (!(xy76 == [])) (some xy72) (cond (xy74 == 3) (cond (xy75 != 0) (some xy72) (cond (decide (xy74<4)) (cond (decide ((xy77.length:Int) > 0)) (some xy72) ((ag_ n (aa_.mk xy74 xy75 xy76 xy77 xy78)).bind fun xr79=>(cond (!xr79) (some xy72) (some xy73)))) ((ag_ n (aa_.mk xy74 xy75 xy76 xy77 xy78)).bind fun xr80=>(cond (!xr80) (some xy72) (some xy73))))) (cond (decide (xy74≥4)) (cond (xy75 != 0) (some xy72) (cond (decide (xy74<4)) (cond (decide ((xy77.length:Int) > 0)) (some xy72) ((ag_ n (aa_.mk xy74 xy75 xy76 xy77 xy78)).bind fun xr81=>(cond (!xr81) (some xy72) (some xy73)))) ((ag_ n (aa_.mk xy74 xy75 xy76 xy77 xy78)).bind fun xr82=>(cond (!xr82) (some xy72) (some xy73))))) (cond (decide (xy74<4)) (cond (decide ((xy77.length:Int) > 0)) (some xy72) ((ag_ n (aa_.mk xy74 xy75 xy76 xy77 xy78)).bind fun xr83=>(cond (!xr83) (some xy72) (some xy73)))) ((ag_ n (aa_.mk xy74 xy75 xy76 xy77 xy78)).bind fun xr84=>(cond (!xr84) (some xy72) (some xy73))))))) (cond (xy74 == 3) (cond (xy75 != 0) (some xy72) (cond (decide (xy74<4)) (cond (decide ((xy77.length:Int) > 0)) (some xy72) ((ag_ n (aa_.mk xy74 xy75 xy76 xy77 xy78)).bind fun xr85=>(cond (!xr85) (some xy72) (some xy73)))) ((ag_ n (aa_.mk xy74 xy75 xy76 xy77 xy78)).bind fun xr86=>(cond (!xr86) (some xy72) (some xy73))))) (cond (decide (xy74≥4)) (cond (xy75 != 0) (some xy72) (cond (decide (xy74<4)) (cond (decide ((xy77.length:Int) > 0)) (some xy72) ((ag_ n (aa_.mk xy74 xy75 xy76 xy77 xy78)).bind fun xr87=>(cond (!xr87) (some xy72) (some xy73)))) ((ag_ n (aa_.mk xy74 xy75 xy76 xy77 xy78)).bind fun xr88=>(cond (!xr88) (some xy72) (some xy73))))) (cond (decide (xy74<4)) (cond (decide ((xy77.length:Int) > 0)) (some xy72) ((ag_ n (aa_.mk xy74 xy75 xy76 xy77 xy78)).bind fun xr89=>(cond (!xr89) (some xy72) (some xy73)))) ((ag_ n (aa_.mk xy74 xy75 xy76 xy77 xy78)).bind fun xr90=>(cond (!xr90) (some xy72) (some xy73)))))))) n append 401 1 0 o.kind o.n_ o.s o.list o.names) (some 401))))))))
def cL_:Nat→aa_→Option Bool
 |0,_=>none
 |n+1,j=>
  ((aR_ n (aa_.re j) 6).bind fun xr1=>(some (decide (xr1≤400))))
def dd_:Nat→aa_→Option aa_
 |0,_=>none
 |n+1,j=>
  ((cL_ n (aa_.re j)).bind fun xr1=>(cond (!xr1) (some (aa_.mk 0 0 [] [] [])) (some (aa_.re j))))
abbrev ce_.K4:Type:=(List TRow)→Int→Int→Bs→Int→Int→Bs→(List aa_)→Option aa_
abbrev ce_.T4:Type:=(List TRow)→(List Int)→Int→Int→(List b3_)→Int→Bool→Int→(List Int)→Bool→Int→Int→Int→Int→Bs→Int→Int→Bs→(List aa_)→Option aa_
def ce_.step4 (n:Nat) (k0:ce_.K4) (back:ce_.T4):ce_.T4:=fun rows kids i q0 q1 q2 q3 q4 q5 q6 q7 q8 t60 t61 t62 list0 list1 list2 list3=>
 ((du_ n (ay_.mk q0 q1 q2 q3 q4 q5 q6 q7 q8) (rows.length:Int)).bind fun xr1=>(cond (decide (i<xr1)) (cond (decide (i<(kids.length:Int))) (inB i kids.length (inB i rows.length ((bO_ n (ay_.mk q0 q1 q2 q3 q4 q5 q6 q7 q8) (rows.getD i.toNat TRow.dflt) (kids.getD i.toNat 0)).bind fun xr2=>(bf_ (list3.length+([(aa_.re xr2)]:List aa_).length) 80 (back rows kids (W (i+1)) q0 q1 q2 q3 q4 q5 q6 q7 q8 t60 t61 t62 list0 list1 list2 (list3++([(aa_.re xr2)]:List aa_))))))) (inB i rows.length ((bO_ n (ay_.mk q0 q1 q2 q3 q4 q5 q6 q7 q8) (rows.getD i.toNat TRow.dflt) 0).bind fun xr3=>(bf_ (list3.length+([(aa_.re xr3)]:List aa_).length) 80 (back rows kids (W (i+1)) q0 q1 q2 q3 q4 q5 q6 q7 q8 t60 t61 t62 list0 list1 list2 (list3++([(aa_.re xr3)]:List aa_))))))) (k0 rows t60 t61 t62 list0 list1 list2 list3)))
def ce_.loop4 (n:Nat) (k0:ce_.K4) (N:Nat):ce_.T4:=ct_ (fun _ _ _ _ _ _ _ _ _ _ _ _ _ _ _ _ _ _ _=>none) (ce_.step4 n k0) N
def ce_:Nat→ay_→(List TRow)→(List Int)→Option aa_
 |0,_,_,_=>none
 |n+1,q,rows,kids=>
  (ce_.loop4 n (fun xy4 xy5 xy6 xy7 xy8 xy9 xy10 xy11=>((c6_ n (xy4.length:Int)).bind fun xr12=>((dd_ n (aa_.mk 5 0 [] ([(aa_.re xr12),(aa_.mk xy8 xy9 xy10 xy11 [])]:List aa_) ([[99,111,117,110,116],[114,111,119,115]]:List Bs))).bind fun xr13=>(some (aa_.re xr13))))) n rows kids 0 q.table q.where_ q.order q.down q.first q.show_ q.kids q.kidTable q.kidCol 0 0 [] 4 0 [] ([]:List aa_))
def dk_:Nat→bn_→Option aa_
 |0,_=>none
 |n+1,v=>
  ((a9_ n v).bind fun xr1=>((ce_ n v.q v.rows xr1).bind fun xr2=>(some (aa_.re xr2))))
abbrev aq_.K6_1:Type:=Int→Int→Bs→(List aa_)→(List Bs)→Int→Int→Bs→(List aa_)→(List Bs)→Option Bool
abbrev aq_.T6:Type:=Int→Int→Int→Bs→(List aa_)→(List Bs)→Int→Int→Bs→(List aa_)→(List Bs)→Option Bool
def aq_.step6 (n:Nat) (spec_l1Same_:aa_→aa_→Option Bool) (k0:aq_.K6_1) (back:aq_.T6):aq_.T6:=fun t5 t20 t21 t22 t23 t24 t30 t31 t32 t33 t34=>
 (cond (decide (t5<(t23.length:Int))) (inB t5 t23.length (inB t5 t33.length ((spec_l1Same_ (aa_.re (t23.getD t5.toNat aa_.dflt)) (aa_.re (t33.getD t5.toNat aa_.dflt))).bind fun xr1=>(cond (!xr1) (some false) (back (W (t5+1)) t20 t21 t22 t23 t24 t30 t31 t32 t33 t34))))) (k0 t20 t21 t22 t23 t24 t30 t31 t32 t33 t34))
def aq_.loop6 (n:Nat) (spec_l1Same_:aa_→aa_→Option Bool) (k0:aq_.K6_1) (N:Nat):aq_.T6:=ct_ (fun _ _ _ _ _ _ _ _ _ _ _=>none) (aq_.step6 n spec_l1Same_ k0) N
abbrev aq_.T14:Type:=Int→Int→Int→Bs→(List aa_)→(List Bs)→Int→Int→Bs→(List aa_)→(List Bs)→Option Bool
def aq_.step14 (n:Nat) (spec_l1Same_:aa_→aa_→Option Bool) (k2:Option Bool) (back:aq_.T14):aq_.T14:=fun t6 t20 t21 t22 t23 t24 t30 t31 t32 t33 t34=>
 (cond (decide (t6<(t24.length:Int))) (inB t6 t24.length (inB t6 t34.length (cond (!((t24.getD t6.toNat []) == (t34.getD t6.toNat []))) (some false) (back (W (t6+1)) t20 t21 t22 t23 t24 t30 t31 t32 t33 t34)))) k2)
def aq_.loop14 (n:Nat) (spec_l1Same_:aa_→aa_→Option Bool) (k2:Option Bool) (N:Nat):aq_.T14:=ct_ (fun _ _ _ _ _ _ _ _ _ _ _=>none) (aq_.step14 n spec_l1Same_ k2) N
def aq_:Nat→aa_→aa_→Option Bool
 |0,_,_=>none
 |n+1,o,append=>
  (cond (o.kind != append.kind) (some false) (cond (o.n_ != append.n_) (some false) (cond (!(o.s == append.s)) (some false) (cond ((o.list.length:Int) != (append.list.length:Int)) (some false) (cond ((o.names.length:Int) != (append.names.length:Int)) (some false) (aq_.loop6 n (aq_ n) (fun xy2 xy3 xy4 xy5 xy6 xy7 xy8 xy9 xy10 xy11=>(aq_.loop14 n (aq_ n) (some true) n 0 xy2 xy3 xy4 xy5 xy6 xy7 xy8 xy9 xy10 xy11)) n 0 o.kind o.n_ o.s o.list o.names append.kind append.n_ append.s append.list append.names))))))
def dw_:Nat→aa_→aa_→Option Bool
 |0,_,_=>none
 |n+1,a,b=>
  ((cL_ n (aa_.re a)).bind fun xr1=>(cond xr1 ((cL_ n (aa_.re b)).bind fun xr2=>(cond xr2 ((aq_ n (aa_.re a) (aa_.re b)).bind fun xr3=>(some xr3)) (some false))) (some false)))
def d7_:Nat→cp_→Option Bool
 |0,_=>none
 |n+1,x=>
  (cond (!x.began) (some true) ((dk_ n x.view).bind fun xr1=>((dk_ n x.last).bind fun xr2=>((dw_ n (aa_.re xr1) (aa_.re xr2)).bind fun xr3=>(some (!xr3))))))
abbrev bJ_.K3:Type:=(List b3_)→(List b3_)→Option Bool
abbrev bJ_.T3:Type:=(List b3_)→(List b3_)→Int→Option Bool
def bJ_.step3 (n:Nat) (k0:bJ_.K3) (back:bJ_.T3):bJ_.T3:=fun a b i=>
 (cond (decide (i<(a.length:Int))) (cond (decide (i<(b.length:Int))) (inB i a.length (inB i b.length (let xv1:Bool:=(!(cond (((a.getD i.toNat b3_.dflt).col) == ((b.getD i.toNat b3_.dflt).col)) (cond (((a.getD i.toNat b3_.dflt).op) == ((b.getD i.toNat b3_.dflt).op)) (cond (((a.getD i.toNat b3_.dflt).v) == ((b.getD i.toNat b3_.dflt).v)) true false) false) false));(cond xv1 (some false) (back a b (W (i+1))))))) (k0 a b)) (k0 a b))
def bJ_.loop3 (n:Nat) (k0:bJ_.K3) (N:Nat):bJ_.T3:=ct_ (fun _ _ _=>none) (bJ_.step3 n k0) N
def bJ_:Nat→(List b3_)→(List b3_)→Option Bool
 |0,_,_=>none
 |n+1,a,b=>
  (bJ_.loop3 n (fun xy2 xy3=>(some ((xy2.length:Int) == (xy3.length:Int)))) n a b 0)
abbrev bZ_.K3:Type:=(List Int)→(List Int)→Option Bool
abbrev bZ_.T3:Type:=(List Int)→(List Int)→Int→Option Bool
def bZ_.step3 (n:Nat) (k0:bZ_.K3) (back:bZ_.T3):bZ_.T3:=fun a b i=>
 (cond (decide (i<(a.length:Int))) (cond (decide (i<(b.length:Int))) (inB i a.length (inB i b.length (cond ((a.getD i.toNat 0) != (b.getD i.toNat 0)) (some false) (back a b (W (i+1)))))) (k0 a b)) (k0 a b))
def bZ_.loop3 (n:Nat) (k0:bZ_.K3) (N:Nat):bZ_.T3:=ct_ (fun _ _ _=>none) (bZ_.step3 n k0) N
def bZ_:Nat→(List Int)→(List Int)→Option Bool
 |0,_,_=>none
 |n+1,a,b=>
  (bZ_.loop3 n (fun xy1 xy2=>(some ((xy1.length:Int) == (xy2.length:Int)))) n a b 0)
def dv_:Nat→ay_→ay_→Option Bool
 |0,_,_=>none
 |n+1,o,append=>
  (cond (o.table == append.table) ((bJ_ n o.where_ append.where_).bind fun xr1=>(cond xr1 (cond (o.order == append.order) (cond (o.down == append.down) (cond (o.first == append.first) ((bZ_ n o.show_ append.show_).bind fun xr2=>(cond xr2 (cond (o.kids == append.kids) (cond (o.kidTable == append.kidTable) (some (o.kidCol == append.kidCol)) (some false)) (some false)) (some false))) (some false)) (some false)) (some false)) (some false))) (some false))
def eO_:Nat→Int→Option aa_
 |0,_=>none
 |n+1,n1=>
  ((cL_ n (aa_.mk 2 n1 [] [] [])).bind fun xr1=>(cond (!xr1) (some (aa_.mk 0 0 [] ([]:List aa_) ([]:List Bs))) (some (aa_.mk 2 n1 [] ([]:List aa_) ([]:List Bs)))))
def eq_:Nat→ay_→TRow→Int→Option aa_
 |0,_,_,_=>none
 |n+1,q,r,kids=>
  ((bO_ n q r kids).bind fun xr1=>((dd_ n (aa_.re xr1)).bind fun xr2=>(some (aa_.re xr2))))
abbrev bp_.K5:Type:=(List aa_)→(List Int)→Option ((List aa_) × (List Int))
abbrev bp_.T5:Type:=Int→Int→(List b3_)→Int→Bool→Int→(List Int)→Bool→Int→Int→(List TRow)→(List TKid)→(List aa_)→(List Int)→Option ((List aa_) × (List Int))
def bp_.step5 (n:Nat) (k0:bp_.K5) (back:bp_.T5):bp_.T5:=fun i v0 v1 v2 v3 v4 v5 v6 v7 v8 v9 v10 list keys=>
 ((du_ n (ay_.mk v0 v1 v2 v3 v4 v5 v6 v7 v8) (v9.length:Int)).bind fun xr1=>(cond (decide (i<xr1)) (inB i v9.length (inB i v9.length ((b5_ n (bn_.mk (ay_.mk v0 v1 v2 v3 v4 v5 v6 v7 v8) v9 v10) ((v9.getD i.toNat TRow.dflt).id_)).bind fun xr2=>((eq_ n (ay_.mk v0 v1 v2 v3 v4 v5 v6 v7 v8) (v9.getD i.toNat TRow.dflt) xr2).bind fun xr3=>(bf_ (list.length+([(aa_.re xr3)]:List aa_).length) 80 (inB i v9.length (bf_ (keys.length+([(v9.getD i.toNat TRow.dflt).id_]:List Int).length) 8 (back (W (i+1)) v0 v1 v2 v3 v4 v5 v6 v7 v8 v9 v10 (list++([(aa_.re xr3)]:List aa_)) (keys++([(v9.getD i.toNat TRow.dflt).id_]:List Int)))))))))) (k0 list keys)))
def bp_.loop5 (n:Nat) (k0:bp_.K5) (N:Nat):bp_.T5:=ct_ (fun _ _ _ _ _ _ _ _ _ _ _ _ _ _=>none) (bp_.step5 n k0) N
def bp_:Nat→bn_→Option ((List aa_) × (List Int))
 |0,_=>none
 |n+1,v=>
  (bp_.loop5 n (fun xy4 xy5=>(some (xy4,xy5))) n 0 v.q.table v.q.where_ v.q.order v.q.down v.q.first v.q.show_ v.q.kids v.q.kidTable v.q.kidCol v.rows v.kids ([]:List aa_) ([]:List Int))
abbrev cv_.T3:Type:=(List Int)→Int→Int→Option Int
def cv_.step3 (n:Nat) (k0:Option Int) (back:cv_.T3):cv_.T3:=fun keys key i=>
 (cond (decide (i<(keys.length:Int))) (inB i keys.length (cond ((keys.getD i.toNat 0) == key) (some i) (back keys key (W (i+1))))) k0)
def cv_.loop3 (n:Nat) (k0:Option Int) (N:Nat):cv_.T3:=ct_ (fun _ _ _=>none) (cv_.step3 n k0) N
def cv_:Nat→(List Int)→Int→Option Int
 |0,_,_=>none
 |n+1,keys,key=>
  (cv_.loop3 n (some (-1)) n keys key 0)
abbrev aJ_.K3:Type:=(List Int)→(List aa_)→Option Bool
abbrev aJ_.T3:Type:=(List Int)→(List aa_)→Int→Option Bool
def aJ_.step3 (n:Nat) (k0:aJ_.K3) (back:aJ_.T3):aJ_.T3:=fun keys list i=>
 (cond (decide (i<(keys.length:Int))) (gO_ 0 i keys.length (inB i keys.length ((cv_ n ((keys.take i.toNat).drop 0) (keys.getD i.toNat 0)).bind fun xr1=>(cond (decide (xr1≥0)) (some false) (back keys list (W (i+1))))))) (k0 keys list))
def aJ_.loop3 (n:Nat) (k0:aJ_.K3) (N:Nat):aJ_.T3:=ct_ (fun _ _ _=>none) (aJ_.step3 n k0) N
abbrev aJ_.K11:Type:=(List Int)→(List aa_)→Option Bool
abbrev aJ_.T11:Type:=(List Int)→(List aa_)→Int→Option Bool
def aJ_.step11 (n:Nat) (k2:aJ_.K11) (back:aJ_.T11):aJ_.T11:=fun keys list i=>
 (cond (decide (i<(list.length:Int))) (inB i list.length ((cL_ n (aa_.re (list.getD i.toNat aa_.dflt))).bind fun xr4=>(cond (!xr4) (some false) (back keys list (W (i+1)))))) (k2 keys list))
def aJ_.loop11 (n:Nat) (k2:aJ_.K11) (N:Nat):aJ_.T11:=ct_ (fun _ _ _=>none) (aJ_.step11 n k2) N
def aJ_:Nat→(List Int)→(List aa_)→Option Bool
 |0,_,_=>none
 |n+1,keys,list=>
  (aJ_.loop3 n (fun xy2 xy3=>(aJ_.loop11 n (fun xy5 xy6=>(some ((xy5.length:Int) == (xy6.length:Int)))) n xy2 xy3 0)) n keys list 0)
def c8_:Nat→(List Int)→Int→Option (List Int)
 |0,_,_=>none
 |n+1,keys,at1=>
  (gO_ 0 at1 keys.length (bf_ (([]:List Int).length+((keys.take at1.toNat).drop 0).length) 8 (gO_ (W (at1+1)) (keys.length:Int) keys.length (bf_ ((([]:List Int)++((keys.take at1.toNat).drop 0)).length+((keys.take (keys.length:Int).toNat).drop (W (at1+1)).toNat).length) 8 (some ((([]:List Int)++((keys.take at1.toNat).drop 0))++((keys.take (keys.length:Int).toNat).drop (W (at1+1)).toNat)))))))
abbrev bc_.K4_1:Type:=Int→Int→Bs→Int→Int→Bs→(List aa_)→(List Bs)→Option aa_
abbrev bc_.T4:Type:=Int→Int→Int→Bs→(List aa_)→(List Bs)→Int→Int→Bs→Int→Int→Bs→(List aa_)→(List Bs)→Option aa_
def bc_.step4 (n:Nat) (spec_l1Copy_:aa_→Option aa_) (k0:bc_.K4_1) (back:bc_.T4):bc_.T4:=fun i j0 j1 j2 j3 j4 t20 t21 t22 out0 out1 out2 out3 out4=>
 (cond (decide (i<(j3.length:Int))) (inB i j3.length ((spec_l1Copy_ (aa_.re (j3.getD i.toNat aa_.dflt))).bind fun xr1=>(bf_ (out3.length+([(aa_.re xr1)]:List aa_).length) 80 (back (W (i+1)) j0 j1 j2 j3 j4 t20 t21 t22 out0 out1 out2 (out3++([(aa_.re xr1)]:List aa_)) out4)))) (k0 t20 t21 t22 out0 out1 out2 out3 out4))
def bc_.loop4 (n:Nat) (spec_l1Copy_:aa_→Option aa_) (k0:bc_.K4_1) (N:Nat):bc_.T4:=ct_ (fun _ _ _ _ _ _ _ _ _ _ _ _ _ _=>none) (bc_.step4 n spec_l1Copy_ k0) N
def bc_:Nat→aa_→Option aa_
 |0,_=>none
 |n+1,j=>
  (bf_ (([]:List Bs).length+j.names.length) 16 (bc_.loop4 n (bc_ n) (fun xy2 xy3 xy4 xy5 xy6 xy7 xy8 xy9=>(some (aa_.mk xy5 xy6 xy7 xy8 xy9))) n 0 j.kind j.n_ j.s j.list j.names 0 0 [] j.kind j.n_ j.s ([]:List aa_) (([]:List Bs)++j.names)))
def dt_:Nat→(List Int)→Int→Int→Option (List Int)
 |0,_,_,_=>none
 |n+1,keys,at1,key=>
  (gO_ 0 at1 keys.length (bf_ (([]:List Int).length+((keys.take at1.toNat).drop 0).length) 8 (bf_ ((([]:List Int)++((keys.take at1.toNat).drop 0)).length+([key]:List Int).length) 8 (gO_ at1 (keys.length:Int) keys.length (bf_ (((([]:List Int)++((keys.take at1.toNat).drop 0))++([key]:List Int)).length+((keys.take (keys.length:Int).toNat).drop at1.toNat).length) 8 (some (((([]:List Int)++((keys.take at1.toNat).drop 0))++([key]:List Int))++((keys.take (keys.length:Int).toNat).drop at1.toNat))))))))
abbrev aH_.K5:Type:=(List aa_)→(List Int)→(List aa_)→(List Int)→(List TOp)→(List Int)→Option (List TOp)
abbrev aH_.T5:Type:=(List aa_)→(List Int)→(List aa_)→(List Int)→Int→(List TOp)→(List Int)→Option (List TOp)
def aH_.step5 (n:Nat) (k0:aH_.K5) (back:aH_.T5):aH_.T5:=fun o append t2 t3 t11 t9 t10=>
 (cond (decide (t11≥0)) (inB t11 append.length ((cv_ n t3 (append.getD t11.toNat 0)).bind fun xr1=>(cond (decide (xr1<0)) ((aK_ n t11).bind fun xr2=>(bf_ (t9.length+([(TOp.mk 2 ([xr2]:List Bs) (aa_.mk 0 0 [] [] []))]:List TOp).length) 112 ((c8_ n t10 t11).bind fun xr3=>(back o append t2 t3 (W (t11 - 1)) (t9++([(TOp.mk 2 ([xr2]:List Bs) (aa_.mk 0 0 [] [] []))]:List TOp)) xr3)))) (back o append t2 t3 (W (t11 - 1)) t9 t10)))) (k0 o append t2 t3 t9 t10))
def aH_.loop5 (n:Nat) (k0:aH_.K5) (N:Nat):aH_.T5:=ct_ (fun _ _ _ _ _ _ _=>none) (aH_.step5 n k0) N
abbrev aH_.K13:Type:=(List TOp)→Option (List TOp)
abbrev aH_.T13:Type:=(List aa_)→(List Int)→(List aa_)→(List Int)→Int→(List TOp)→(List Int)→Option (List TOp)
def aH_.step13 (n:Nat) (k2:aH_.K13) (back:aH_.T13):aH_.T13:=fun o append t2 t3 t12 t9 t10=>
 (cond (decide (t12<(t3.length:Int))) ((aK_ n t12).bind fun xr10=>(inB t12 t3.length ((cv_ n t10 (t3.getD t12.toNat 0)).bind fun xr11=>(cond (xr11 == t12) (inB t12 t3.length ((cv_ n append (t3.getD t12.toNat 0)).bind fun xr12=>(inB xr12 o.length (inB t12 t2.length ((aq_ n (aa_.re (o.getD xr12.toNat aa_.dflt)) (aa_.re (t2.getD t12.toNat aa_.dflt))).bind fun xr13=>(cond (!xr13) (inB t12 t2.length ((bc_ n (aa_.re (t2.getD t12.toNat aa_.dflt))).bind fun xr14=>(bf_ (t9.length+([(TOp.mk 3 ([xr10]:List Bs) (aa_.re xr14))]:List TOp).length) 112 (back o append t2 t3 (W (t12+1)) (t9++([(TOp.mk 3 ([xr10]:List Bs) (aa_.re xr14))]:List TOp)) t10)))) (back o append t2 t3 (W (t12+1)) t9 t10))))))) (cond (decide (xr11≥0)) ((aK_ n xr11).bind fun xr15=>(bf_ (t9.length+([(TOp.mk 2 ([xr15]:List Bs) (aa_.mk 0 0 [] [] []))]:List TOp).length) 112 ((c8_ n t10 xr11).bind fun xr16=>(inB t12 t2.length ((bc_ n (aa_.re (t2.getD t12.toNat aa_.dflt))).bind fun xr17=>(bf_ ((t9++([(TOp.mk 2 ([xr15]:List Bs) (aa_.mk 0 0 [] [] []))]:List TOp)).length+([(TOp.mk 1 ([xr10]:List Bs) (aa_.re xr17))]:List TOp).length) 112 (inB t12 t3.length ((dt_ n xr16 t12 (t3.getD t12.toNat 0)).bind fun xr18=>(back o append t2 t3 (W (t12+1)) ((t9++([(TOp.mk 2 ([xr15]:List Bs) (aa_.mk 0 0 [] [] []))]:List TOp))++([(TOp.mk 1 ([xr10]:List Bs) (aa_.re xr17))]:List TOp)) xr18))))))))) (inB t12 t2.length ((bc_ n (aa_.re (t2.getD t12.toNat aa_.dflt))).bind fun xr19=>(bf_ (t9.length+([(TOp.mk 1 ([xr10]:List Bs) (aa_.re xr19))]:List TOp).length) 112 (inB t12 t3.length ((dt_ n t10 t12 (t3.getD t12.toNat 0)).bind fun xr20=>(back o append t2 t3 (W (t12+1)) (t9++([(TOp.mk 1 ([xr10]:List Bs) (aa_.re xr19))]:List TOp)) xr20))))))))))) (k2 t9))
def aH_.loop13 (n:Nat) (k2:aH_.K13) (N:Nat):aH_.T13:=ct_ (fun _ _ _ _ _ _ _=>none) (aH_.step13 n k2) N
def aH_:Nat→(List aa_)→(List Int)→(List aa_)→(List Int)→Option (List TOp)
 |0,_,_,_,_=>none
 |n+1,o,append,a2,a3=>
  (bf_ (([]:List Int).length+append.length) 8 (aH_.loop5 n (fun xy4 xy5 xy6 xy7 xy8 xy9=>(aH_.loop13 n (fun xy21=>(some xy21)) n xy4 xy5 xy6 xy7 0 xy8 xy9)) n o append a2 a3 (W ((append.length:Int) - 1)) ([]:List TOp) (([]:List Int)++append)))
def eZ_:Nat→(List aa_)→(List Int)→(List aa_)→(List Int)→Option (List TOp)
 |0,_,_,_,_=>none
 |n+1,old,oldKeys,now,nowKeys=>
  ((aJ_ n oldKeys old).bind fun xr1=>(cond (!xr1) (some ([]:List TOp)) ((aJ_ n nowKeys now).bind fun xr2=>(cond (!xr2) (some ([]:List TOp)) ((aH_ n old oldKeys now nowKeys).bind fun xr3=>(some xr3))))))
abbrev cc_.K4:Type:=(List TOp)→Option (List TOp)
abbrev cc_.T4:Type:=Bs→(List TOp)→Int→(List TOp)→Option (List TOp)
def cc_.step4 (n:Nat) (k0:cc_.K4) (back:cc_.T4):cc_.T4:=fun name list i out_1=>
 (cond (decide (i<(list.length:Int))) (inB i list.length (inB i list.length (bf_ (([name]:List Bs).length+((list.getD i.toNat TOp.dflt).way).length) 16 (inB i list.length ((bc_ n (aa_.re ((list.getD i.toNat TOp.dflt).value))).bind fun xr1=>(bf_ (out_1.length+([(TOp.mk ((list.getD i.toNat TOp.dflt).kind) (([name]:List Bs)++((list.getD i.toNat TOp.dflt).way)) (aa_.re xr1))]:List TOp).length) 112 (back name list (W (i+1)) (out_1++([(TOp.mk ((list.getD i.toNat TOp.dflt).kind) (([name]:List Bs)++((list.getD i.toNat TOp.dflt).way)) (aa_.re xr1))]:List TOp))))))))) (k0 out_1))
def cc_.loop4 (n:Nat) (k0:cc_.K4) (N:Nat):cc_.T4:=ct_ (fun _ _ _ _=>none) (cc_.step4 n k0) N
def cc_:Nat→Bs→(List TOp)→Option (List TOp)
 |0,_,_=>none
 |n+1,name,list=>
  (cc_.loop4 n (fun xy2=>(some xy2)) n name list 0 ([]:List TOp))
def c9_:Nat→bn_→bn_→Option (List TOp)
 |0,_,_=>none
 |n+1,a,b=>
  ((dv_ n a.q b.q).bind fun xr1=>(cond (!xr1) (some ([]:List TOp)) (cond ((a.rows.length:Int) != (b.rows.length:Int)) ((eO_ n (b.rows.length:Int)).bind fun xr2=>(bf_ (([]:List TOp).length+([(TOp.mk 3 ([[99,111,117,110,116]]:List Bs) (aa_.re xr2))]:List TOp).length) 112 ((bp_ n a).bind fun xr3=>((bp_ n b).bind fun xr4=>((eZ_ n xr3.1 xr3.2 xr4.1 xr4.2).bind fun xr5=>((cc_ n [114,111,119,115] xr5).bind fun xr6=>(bf_ ((([]:List TOp)++([(TOp.mk 3 ([[99,111,117,110,116]]:List Bs) (aa_.re xr2))]:List TOp)).length+xr6.length) 112 (some ((([]:List TOp)++([(TOp.mk 3 ([[99,111,117,110,116]]:List Bs) (aa_.re xr2))]:List TOp))++xr6))))))))) ((bp_ n a).bind fun xr7=>((bp_ n b).bind fun xr8=>((eZ_ n xr7.1 xr7.2 xr8.1 xr8.2).bind fun xr9=>((cc_ n [114,111,119,115] xr9).bind fun xr10=>(bf_ (([]:List TOp).length+xr10.length) 112 (some (([]:List TOp)++xr10))))))))))
abbrev cr_.K6:Type:=Int→(List Bs)→Int→Int→Bs→(List aa_)→(List Bs)→Option Bool
abbrev cr_.T6:Type:=Int→Int→(List Bs)→Int→Int→Bs→(List aa_)→(List Bs)→Option Bool
def cr_.step6 (n:Nat) (k0:cr_.K6) (back:cr_.T6):cr_.T6:=fun i o0 o1 o2 o3 o4 o5 o6=>
 (cond (decide (i<(o1.length:Int))) (inB i o1.length ((b2_ n (o1.getD i.toNat [])).bind fun xr3=>(cond (!xr3) (some false) (back (W (i+1)) o0 o1 o2 o3 o4 o5 o6)))) (k0 o0 o1 o2 o3 o4 o5 o6))
def cr_.loop6 (n:Nat) (k0:cr_.K6) (N:Nat):cr_.T6:=ct_ (fun _ _ _ _ _ _ _ _=>none) (cr_.step6 n k0) N
def cr_:Nat→TOp→Option Bool
 |0,_=>none
 |n+1,o=>
  ((b4_ n o.kind 1 4).bind fun xr1=>(cond (!xr1) (some false) (cond (decide ((o.way.length:Int) > 6)) (some false) ((cL_ n (aa_.re o.value)).bind fun xr2=>(cond (!xr2) (some false) (cr_.loop6 n (fun xy4 xy5 xy6 xy7 xy8 xy9 xy10=>(cond (xy4 != 2) (some true) ((aq_ n (aa_.mk xy6 xy7 xy8 xy9 xy10) (aa_.mk 0 0 [] [] [])).bind fun xr11=>(some xr11)))) n 0 o.kind o.way o.value.kind o.value.n_ o.value.s o.value.list o.value.names))))))
def dj_:Nat→Unit→Option (List Bs)
 |0,_=>none
 |n+1,_u=>
  (some ([[],[97,100,100],[114,101,109,111,118,101],[114,101,112,108,97,99,101],[116,101,115,116]]:List Bs))
abbrev aE_.K10:Type:=(List Bs)→Int→(List Int)→Option Bs
abbrev aE_.T10:Type:=(List Bs)→Int→Int→(List Int)→Option Bs
def aE_.step10 (n:Nat) (k2:aE_.K10) (back:aE_.T10):aE_.T10:=fun way i k out_1=>
 (inB i way.length (cond (decide (k<((way.getD i.toNat []).length:Int))) (inB i way.length (inB k (way.getD i.toNat []).length (cond ((((way.getD i.toNat []).getD k.toNat 0).toNat:Int) == 126) (bf_ (out_1.length+([126,48]:List Int).length) 1 (back way i (W (k+1)) (out_1++([126,48]:List Int)))) (cond ((((way.getD i.toNat []).getD k.toNat 0).toNat:Int) == 47) (bf_ (out_1.length+([126,49]:List Int).length) 1 (back way i (W (k+1)) (out_1++([126,49]:List Int)))) (inB i way.length (inB k (way.getD i.toNat []).length (bf_ (out_1.length+([(((way.getD i.toNat []).getD k.toNat 0).toNat:Int)]:List Int).length) 1 (back way i (W (k+1)) (out_1++([(((way.getD i.toNat []).getD k.toNat 0).toNat:Int)]:List Int)))))))))) (k2 way i out_1)))
def aE_.loop10 (n:Nat) (k2:aE_.K10) (N:Nat):aE_.T10:=ct_ (fun _ _ _ _=>none) (aE_.step10 n k2) N
abbrev aE_.K4:Type:=(List Int)→Option Bs
abbrev aE_.T4:Type:=(List Bs)→Int→(List Int)→Option Bs
def aE_.step4 (n:Nat) (k0:aE_.K4) (back:aE_.T4):aE_.T4:=fun way i out_1=>
 (cond (decide (i<(way.length:Int))) (bf_ (out_1.length+([47]:List Int).length) 1 (aE_.loop10 n (fun xy1 xy2 xy3=>(back xy1 (W (xy2+1)) xy3)) n way i 0 (out_1++([47]:List Int)))) (k0 out_1))
def aE_.loop4 (n:Nat) (k0:aE_.K4) (N:Nat):aE_.T4:=ct_ (fun _ _ _=>none) (aE_.step4 n k0) N
def aE_:Nat→(List Bs)→Option Bs
 |0,_=>none
 |n+1,way=>
  (aE_.loop4 n (fun xy4=>(some (iv_ xy4))) n way 0 ([]:List Int))
def dU_:Nat→TOp→Option aa_
 |0,_=>none
 |n+1,o=>
  ((cr_ n (TOp.mk o.kind o.way (aa_.re o.value))).bind fun xr1=>(cond (!xr1) (some (aa_.mk 0 0 [] ([]:List aa_) ([]:List Bs))) ((dj_ n ()).bind fun xr2=>(inB o.kind xr2.length ((aE_ n o.way).bind fun xr3=>(cond (o.kind != 2) ((bc_ n (aa_.re o.value)).bind fun xr4=>((bL_ n (aa_.mk 5 0 [] ([(aa_.mk 3 0 (xr2.getD o.kind.toNat []) [] []),(aa_.mk 3 0 xr3 [] [])]:List aa_) ([[111,112],[112,97,116,104]]:List Bs)) [118,97,108,117,101] (aa_.re xr4)).bind fun xr5=>((cL_ n (aa_.re xr5)).bind fun xr6=>(cond (!xr6) (some (aa_.mk 0 0 [] ([]:List aa_) ([]:List Bs))) (some (aa_.re xr5)))))) ((cL_ n (aa_.mk 5 0 [] ([(aa_.mk 3 0 (xr2.getD o.kind.toNat []) [] []),(aa_.mk 3 0 xr3 [] [])]:List aa_) ([[111,112],[112,97,116,104]]:List Bs))).bind fun xr7=>(cond (!xr7) (some (aa_.mk 0 0 [] ([]:List aa_) ([]:List Bs))) (some (aa_.mk 5 0 [] ([(aa_.mk 3 0 (xr2.getD o.kind.toNat []) [] []),(aa_.mk 3 0 xr3 [] [])]:List aa_) ([[111,112],[112,97,116,104]]:List Bs)))))))))))
abbrev bt_.K4:Type:=(List Int)→Option Bs
abbrev bt_.T4:Type:=Bs→Int→(List Int)→Option Bs
def bt_.step4 (n:Nat) (k0:bt_.K4) (back:bt_.T4):bt_.T4:=fun s i out_1=>
 (cond (decide (i<(s.length:Int))) (inB i s.length (cond (((s.getD i.toNat 0).toNat:Int) == 34) (bf_ (out_1.length+([92]:List Int).length) 1 (inB i s.length (bf_ ((out_1++([92]:List Int)).length+([((s.getD i.toNat 0).toNat:Int)]:List Int).length) 1 (back s (W (i+1)) ((out_1++([92]:List Int))++([((s.getD i.toNat 0).toNat:Int)]:List Int)))))) (inB i s.length (cond (((s.getD i.toNat 0).toNat:Int) == 92) (bf_ (out_1.length+([92]:List Int).length) 1 (inB i s.length (bf_ ((out_1++([92]:List Int)).length+([((s.getD i.toNat 0).toNat:Int)]:List Int).length) 1 (back s (W (i+1)) ((out_1++([92]:List Int))++([((s.getD i.toNat 0).toNat:Int)]:List Int)))))) (inB i s.length (bf_ (out_1.length+([((s.getD i.toNat 0).toNat:Int)]:List Int).length) 1 (back s (W (i+1)) (out_1++([((s.getD i.toNat 0).toNat:Int)]:List Int))))))))) (k0 out_1))
def bt_.loop4 (n:Nat) (k0:bt_.K4) (N:Nat):bt_.T4:=ct_ (fun _ _ _=>none) (bt_.step4 n k0) N
def bt_:Nat→Bs→Option Bs
 |0,_=>none
 |n+1,s=>
  (bt_.loop4 n (fun xy1=>(bf_ (xy1.length+([34]:List Int).length) 1 (some (iv_ (xy1++([34]:List Int)))))) n s 0 ([34]:List Int))
abbrev aO_.K17_1:Type:=Bs→Int→Int→Bs→(List aa_)→(List Bs)→Option Bs
abbrev aO_.T17:Type:=Bs→Int→Int→Int→Bs→(List aa_)→(List Bs)→Option Bs
def aO_.step17 (n:Nat) (spec_l2Encode_:aa_→Option Bs) (k1:aO_.K17_1) (back:aO_.T17):aO_.T17:=fun out_1 i j0 j1 j2 j3 j4=>
 (cond (decide (i<(j3.length:Int))) (cond (decide (i > 0)) (cond (decide (out_1.length+[44].length≤9223372036854775807)) (cond (j0 == 5) (inB i j4.length ((bt_ n (j4.getD i.toNat [])).bind fun xr3=>(cond (decide ((out_1++[44]).length+xr3.length≤9223372036854775807)) (cond (decide (((out_1++[44])++xr3).length+[58].length≤9223372036854775807)) (inB i j3.length ((spec_l2Encode_ (aa_.re (j3.getD i.toNat aa_.dflt))).bind fun xr4=>(cond (decide ((((out_1++[44])++xr3)++[58]).length+xr4.length≤9223372036854775807)) (back ((((out_1++[44])++xr3)++[58])++xr4) (W (i+1)) j0 j1 j2 j3 j4) none))) none) none))) (inB i j3.length ((spec_l2Encode_ (aa_.re (j3.getD i.toNat aa_.dflt))).bind fun xr5=>(cond (decide ((out_1++[44]).length+xr5.length≤9223372036854775807)) (back ((out_1++[44])++xr5) (W (i+1)) j0 j1 j2 j3 j4) none)))) none) (cond (j0 == 5) (inB i j4.length ((bt_ n (j4.getD i.toNat [])).bind fun xr6=>(cond (decide (out_1.length+xr6.length≤9223372036854775807)) (cond (decide ((out_1++xr6).length+[58].length≤9223372036854775807)) (inB i j3.length ((spec_l2Encode_ (aa_.re (j3.getD i.toNat aa_.dflt))).bind fun xr7=>(cond (decide (((out_1++xr6)++[58]).length+xr7.length≤9223372036854775807)) (back (((out_1++xr6)++[58])++xr7) (W (i+1)) j0 j1 j2 j3 j4) none))) none) none))) (inB i j3.length ((spec_l2Encode_ (aa_.re (j3.getD i.toNat aa_.dflt))).bind fun xr8=>(cond (decide (out_1.length+xr8.length≤9223372036854775807)) (back (out_1++xr8) (W (i+1)) j0 j1 j2 j3 j4) none))))) (k1 out_1 j0 j1 j2 j3 j4))
def aO_.loop17 (n:Nat) (spec_l2Encode_:aa_→Option Bs) (k1:aO_.K17_1) (N:Nat):aO_.T17:=ct_ (fun _ _ _ _ _ _ _=>none) (aO_.step17 n spec_l2Encode_ k1) N
def aO_:Nat→aa_→Option Bs
 |0,_=>none
 |n+1,j=>
  (cond (j.kind == 0) (some [110,117,108,108]) (cond (j.kind == 1) (cond (j.n_ == 1) (some [116,114,117,101]) (some [102,97,108,115,101])) (cond (j.kind == 2) ((aK_ n j.n_).bind fun xr1=>(some xr1)) (cond (j.kind == 3) ((bt_ n j.s).bind fun xr2=>(some xr2)) (aO_.loop17 n (aO_ n) (fun xy9 xy10 xy11 xy12 xy13 xy14=>(cond (xy10 == 5) (cond (decide ([123].length+xy9.length≤9223372036854775807)) (cond (decide ((([123]:Bs)++xy9).length+[125].length≤9223372036854775807)) (some ((([123]:Bs)++xy9)++[125])) none) none) (cond (decide ([91].length+xy9.length≤9223372036854775807)) (cond (decide ((([91]:Bs)++xy9).length+[93].length≤9223372036854775807)) (some ((([91]:Bs)++xy9)++[93])) none) none))) n [] 0 j.kind j.n_ j.s j.list j.names)))))
def cZ_:Nat→aa_→Option Bs
 |0,_=>none
 |n+1,j=>
  ((cL_ n (aa_.re j)).bind fun xr1=>(cond (!xr1) (some []) ((aO_ n (aa_.re j)).bind fun xr2=>(cond (decide ((xr2.length:Int) > 6000)) (some []) (some xr2)))))
abbrev a5_.K4:Type:=Int→Int→Bs→(List aa_)→Option Int
abbrev a5_.T4:Type:=(List TOp)→Int→Int→Int→Bs→(List aa_)→Option Int
def a5_.step4 (n:Nat) (k0:a5_.K4) (back:a5_.T4):a5_.T4:=fun list i j0 j1 j2 j3=>
 (cond (decide (i<(list.length:Int))) (inB i list.length ((dU_ n { (list.getD i.toNat TOp.dflt) with value:=(aa_.re ((list.getD i.toNat TOp.dflt).value)) }).bind fun xr1=>(cond (xr1.kind == 0) (some (-1)) (bf_ (j3.length+([(aa_.re xr1)]:List aa_).length) 80 (back list (W (i+1)) j0 j1 j2 (j3++([(aa_.re xr1)]:List aa_))))))) (k0 j0 j1 j2 j3))
def a5_.loop4 (n:Nat) (k0:a5_.K4) (N:Nat):a5_.T4:=ct_ (fun _ _ _ _ _ _=>none) (a5_.step4 n k0) N
def a5_:Nat→(List TOp)→Option Int
 |0,_=>none
 |n+1,list=>
  (a5_.loop4 n (fun xy2 xy3 xy4 xy5=>((cZ_ n (aa_.mk xy2 xy3 xy4 xy5 [])).bind fun xr6=>(cond (xr6 == []) (some (-1)) (some (xr6.length:Int))))) n list 0 4 0 [] ([]:List aa_))
def d5_:Nat→bn_→bn_→Option Bool
 |0,_,_=>none
 |n+1,a,b=>
  ((c9_ n a b).bind fun xr1=>((a5_ n xr1).bind fun xr2=>(cond (decide ((xr1.length:Int)≤40)) (cond (decide (xr2≥0)) ((dk_ n b).bind fun xr3=>((cZ_ n (aa_.re xr3)).bind fun xr4=>(some (decide (xr2<(xr4.length:Int)))))) (some false)) (some false))))
def df_:Nat→cp_→Option (cp_ × aX_ × Bool)
 |0,_=>none
 |n+1,x=>
  ((dP_ n x).bind fun xr1=>((d7_ n x).bind fun xr2=>(cond (!xr2) (some (xr1,(aX_.mk 0 0 0 (aa_.mk 0 0 [] [] []) ([]:List TOp)),false)) ((dk_ n x.view).bind fun xr3=>(cond x.began ((d5_ n x.last x.view).bind fun xr4=>(cond xr4 ((c9_ n x.last x.view).bind fun xr5=>((cY_ n x.view).bind fun xr6=>(some ({ xr1 with last:=xr6,lastVersion:=x.version,began:=true },(aX_.mk 2 x.version x.lastVersion (aa_.mk 0 0 [] [] []) xr5),true)))) ((cY_ n x.view).bind fun xr7=>(some ({ xr1 with last:=xr7,lastVersion:=x.version,began:=true },(aX_.mk 1 x.version 0 (aa_.re xr3) ([]:List TOp)),true))))) ((cY_ n x.view).bind fun xr8=>(some ({ xr1 with last:=xr8,lastVersion:=x.version,began:=true },(aX_.mk 1 x.version 0 (aa_.re xr3) ([]:List TOp)),true))))))))
def ds_:Nat→af_→ax_→Option (TMut × af_)
 |0,_,_=>none
 |n+1,o,append=>
  ((cJ_ n (append.tables.length:Int) 1).bind fun xr1=>((ah_ n o xr1).bind fun xr2=>(cond (decide (xr2.1≥(append.tables.length:Int))) (some ((TMut.mk 3 0 (TRow.mk 1 ([]:List Int))),xr2.2)) (cond (decide (xr2.1≥(append.schema.cols.length:Int))) (some ((TMut.mk 3 0 (TRow.mk 1 ([]:List Int))),xr2.2)) ((ah_ n xr2.2 3).bind fun xr3=>(inB xr2.1 append.schema.cols.length ((a6_ n xr3.2 (append.schema.cols.getD xr2.1.toNat 0)).bind fun xr4=>(cond ((W (1+xr3.1)) != 1) (inB xr2.1 append.tables.length (cond (decide (((append.tables.getD xr2.1.toNat []).length:Int) > 0)) ((cm_ n xr4.2 9).bind fun xr5=>(cond (!xr5.1) (inB xr2.1 append.tables.length (inB xr2.1 append.tables.length ((ah_ n xr5.2 ((append.tables.getD xr2.1.toNat []).length:Int)).bind fun xr6=>(inB xr6.1 (append.tables.getD xr2.1.toNat []).length (cond ((W (1+xr3.1)) == 3) ((ah_ n xr6.2 25).bind fun xr7=>(cond (xr7.1 == 0) ((ah_ n xr7.2 5).bind fun xr8=>(some ((TMut.mk xr8.1 xr2.1 (TRow.mk (((append.tables.getD xr2.1.toNat []).getD xr6.1.toNat TRow.dflt).id_) ([]:List Int))),xr8.2))) (cond (xr7.1 == 1) ((ah_ n xr7.2 5).bind fun xr9=>(some ((TMut.mk (W (1+xr3.1)) (W (xr9.1 - 1)) (TRow.mk (((append.tables.getD xr2.1.toNat []).getD xr6.1.toNat TRow.dflt).id_) ([]:List Int))),xr9.2))) (cond (xr7.1 == 2) ((bu_ n xr7.2 ([0,999,1000]:List Int)).bind fun xr10=>(some ((TMut.mk (W (1+xr3.1)) xr2.1 (TRow.mk xr10.1 ([]:List Int))),xr10.2))) (some ((TMut.mk (W (1+xr3.1)) xr2.1 (TRow.mk (((append.tables.getD xr2.1.toNat []).getD xr6.1.toNat TRow.dflt).id_) ([]:List Int))),xr7.2)))))) ((ah_ n xr6.2 25).bind fun xr11=>(cond (xr11.1 == 0) ((ah_ n xr11.2 5).bind fun xr12=>(some ((TMut.mk xr12.1 xr2.1 (TRow.mk (((append.tables.getD xr2.1.toNat []).getD xr6.1.toNat TRow.dflt).id_) xr4.1.cells)),xr12.2))) (cond (xr11.1 == 1) ((ah_ n xr11.2 5).bind fun xr13=>(some ((TMut.mk (W (1+xr3.1)) (W (xr13.1 - 1)) (TRow.mk (((append.tables.getD xr2.1.toNat []).getD xr6.1.toNat TRow.dflt).id_) xr4.1.cells)),xr13.2))) (cond (xr11.1 == 2) ((bu_ n xr11.2 ([0,999,1000]:List Int)).bind fun xr14=>(some ((TMut.mk (W (1+xr3.1)) xr2.1 (TRow.mk xr14.1 xr4.1.cells)),xr14.2))) (some ((TMut.mk (W (1+xr3.1)) xr2.1 (TRow.mk (((append.tables.getD xr2.1.toNat []).getD xr6.1.toNat TRow.dflt).id_) xr4.1.cells)),xr11.2))))))))))) (cond ((W (1+xr3.1)) == 3) ((ah_ n xr5.2 25).bind fun xr15=>(cond (xr15.1 == 0) ((ah_ n xr15.2 5).bind fun xr16=>(some ((TMut.mk xr16.1 xr2.1 (TRow.mk xr4.1.id_ ([]:List Int))),xr16.2))) (cond (xr15.1 == 1) ((ah_ n xr15.2 5).bind fun xr17=>(some ((TMut.mk (W (1+xr3.1)) (W (xr17.1 - 1)) (TRow.mk xr4.1.id_ ([]:List Int))),xr17.2))) (cond (xr15.1 == 2) ((bu_ n xr15.2 ([0,999,1000]:List Int)).bind fun xr18=>(some ((TMut.mk (W (1+xr3.1)) xr2.1 (TRow.mk xr18.1 ([]:List Int))),xr18.2))) (some ((TMut.mk (W (1+xr3.1)) xr2.1 (TRow.mk xr4.1.id_ ([]:List Int))),xr15.2)))))) ((ah_ n xr5.2 25).bind fun xr19=>(cond (xr19.1 == 0) ((ah_ n xr19.2 5).bind fun xr20=>(some ((TMut.mk xr20.1 xr2.1 xr4.1),xr20.2))) (cond (xr19.1 == 1) ((ah_ n xr19.2 5).bind fun xr21=>(some ((TMut.mk (W (1+xr3.1)) (W (xr21.1 - 1)) xr4.1),xr21.2))) (cond (xr19.1 == 2) ((bu_ n xr19.2 ([0,999,1000]:List Int)).bind fun xr22=>(some ((TMut.mk (W (1+xr3.1)) xr2.1 (TRow.mk xr22.1 xr4.1.cells)),xr22.2))) (some ((TMut.mk (W (1+xr3.1)) xr2.1 xr4.1),xr19.2))))))))) (cond ((W (1+xr3.1)) == 3) ((ah_ n xr4.2 25).bind fun xr23=>(cond (xr23.1 == 0) ((ah_ n xr23.2 5).bind fun xr24=>(some ((TMut.mk xr24.1 xr2.1 (TRow.mk xr4.1.id_ ([]:List Int))),xr24.2))) (cond (xr23.1 == 1) ((ah_ n xr23.2 5).bind fun xr25=>(some ((TMut.mk (W (1+xr3.1)) (W (xr25.1 - 1)) (TRow.mk xr4.1.id_ ([]:List Int))),xr25.2))) (cond (xr23.1 == 2) ((bu_ n xr23.2 ([0,999,1000]:List Int)).bind fun xr26=>(some ((TMut.mk (W (1+xr3.1)) xr2.1 (TRow.mk xr26.1 ([]:List Int))),xr26.2))) (some ((TMut.mk (W (1+xr3.1)) xr2.1 (TRow.mk xr4.1.id_ ([]:List Int))),xr23.2)))))) ((ah_ n xr4.2 25).bind fun xr27=>(cond (xr27.1 == 0) ((ah_ n xr27.2 5).bind fun xr28=>(some ((TMut.mk xr28.1 xr2.1 xr4.1),xr28.2))) (cond (xr27.1 == 1) ((ah_ n xr27.2 5).bind fun xr29=>(some ((TMut.mk (W (1+xr3.1)) (W (xr29.1 - 1)) xr4.1),xr29.2))) (cond (xr27.1 == 2) ((bu_ n xr27.2 ([0,999,1000]:List Int)).bind fun xr30=>(some ((TMut.mk (W (1+xr3.1)) xr2.1 (TRow.mk xr30.1 xr4.1.cells)),xr30.2))) (some ((TMut.mk (W (1+xr3.1)) xr2.1 xr4.1),xr27.2))))))))) (cond ((W (1+xr3.1)) == 3) ((ah_ n xr4.2 25).bind fun xr31=>(cond (xr31.1 == 0) ((ah_ n xr31.2 5).bind fun xr32=>(some ((TMut.mk xr32.1 xr2.1 (TRow.mk xr4.1.id_ ([]:List Int))),xr32.2))) (cond (xr31.1 == 1) ((ah_ n xr31.2 5).bind fun xr33=>(some ((TMut.mk (W (1+xr3.1)) (W (xr33.1 - 1)) (TRow.mk xr4.1.id_ ([]:List Int))),xr33.2))) (cond (xr31.1 == 2) ((bu_ n xr31.2 ([0,999,1000]:List Int)).bind fun xr34=>(some ((TMut.mk (W (1+xr3.1)) xr2.1 (TRow.mk xr34.1 ([]:List Int))),xr34.2))) (some ((TMut.mk (W (1+xr3.1)) xr2.1 (TRow.mk xr4.1.id_ ([]:List Int))),xr31.2)))))) ((ah_ n xr4.2 25).bind fun xr35=>(cond (xr35.1 == 0) ((ah_ n xr35.2 5).bind fun xr36=>(some ((TMut.mk xr36.1 xr2.1 xr4.1),xr36.2))) (cond (xr35.1 == 1) ((ah_ n xr35.2 5).bind fun xr37=>(some ((TMut.mk (W (1+xr3.1)) (W (xr37.1 - 1)) xr4.1),xr37.2))) (cond (xr35.1 == 2) ((bu_ n xr35.2 ([0,999,1000]:List Int)).bind fun xr38=>(some ((TMut.mk (W (1+xr3.1)) xr2.1 (TRow.mk xr38.1 xr4.1.cells)),xr38.2))) (some ((TMut.mk (W (1+xr3.1)) xr2.1 xr4.1),xr35.2)))))))))))))))
def eP_:Nat→aY_→TMut→Option Bool
 |0,_,_=>none
 |n+1,s,m=>
  (cond (m.kind == 3) ((a1_ n s).bind fun xr1=>(cond xr1 ((b4_ n m.table 0 (W ((s.cols.length:Int) - 1))).bind fun xr2=>(cond xr2 ((b4_ n m.row.id_ 1 999).bind fun xr3=>(cond xr3 (some ((m.row.cells.length:Int) == 0)) (some false))) (some false))) (some false))) ((b4_ n m.kind 1 2).bind fun xr4=>(cond xr4 ((ch_ n s m.table m.row).bind fun xr5=>(some xr5)) (some false))))
abbrev bv_.K4:Type:=Int→Int→(List Int)→(List (List TRow))→Option ax_
abbrev bv_.T4:Type:=Int→(List Int)→Int→(List (List TRow))→Int→Int→(List Int)→(List (List TRow))→Option ax_
def bv_.step4 (n:Nat) (k0:bv_.K4) (back:bv_.T4):bv_.T4:=fun t s0 s1 s2 t21 out1 out0 out2=>
 (cond (decide (t<(s2.length:Int))) (inB t s2.length ((bV_ n (s2.getD t.toNat [])).bind fun xr2=>(bf_ (out2.length+([xr2]:List (List TRow)).length) 24 (back (W (t+1)) s0 s1 s2 t21 out1 out0 (out2++([xr2]:List (List TRow))))))) (k0 t21 out1 out0 out2))
def bv_.loop4 (n:Nat) (k0:bv_.K4) (N:Nat):bv_.T4:=ct_ (fun _ _ _ _ _ _ _ _=>none) (bv_.step4 n k0) N
def bv_:Nat→ax_→Option ax_
 |0,_=>none
 |n+1,s=>
  ((dr_ n s.schema).bind fun xr1=>(bv_.loop4 n (fun xy3 xy4 xy5 xy6=>(some (ax_.mk (aY_.mk xy5) xy4 xy6))) n 0 s.schema.cols s.version s.tables 0 s.version xr1.cols ([]:List (List TRow))))
def fi_:Nat→ax_→TMut→Option (ax_ × aV_ × Bool)
 |0,_,_=>none
 |n+1,o,append=>
  (inB append.table o.tables.length ((cd_ n (o.tables.getD append.table.toNat []) append.row.id_).bind fun xr1=>(cond (!((decide (xr1≥0)) == (append.kind != 1))) (some (o,(aV_.mk 0 false false (TRow.mk 0 ([]:List Int)) (TRow.mk 0 ([]:List Int))),false)) (cond (append.kind == 1) (cond (((o.tables.getD append.table.toNat []).length:Int) == 24) (some (o,(aV_.mk 0 false false (TRow.mk 0 ([]:List Int)) (TRow.mk 0 ([]:List Int))),false)) (cond (append.kind != 1) (inB xr1 (o.tables.getD append.table.toNat []).length ((cw_ n ((o.tables.getD append.table.toNat []).getD xr1.toNat TRow.dflt)).bind fun xr2=>(cond (append.kind != 3) ((cw_ n append.row).bind fun xr3=>((bG_ n (o.tables.getD append.table.toNat []) append.row).bind fun xr4=>(inB append.table o.tables.length (let xa5:List (List TRow):=o.tables.set append.table.toNat xr4;(some ((ax_.mk o.schema o.version xa5),(aV_.mk append.table (append.kind != 1) (append.kind != 3) xr2 xr3),true)))))) ((bh_ n (o.tables.getD append.table.toNat []) append.row.id_).bind fun xr6=>(inB append.table o.tables.length (let xa7:List (List TRow):=o.tables.set append.table.toNat xr6;(some ((ax_.mk o.schema o.version xa7),(aV_.mk append.table (append.kind != 1) (append.kind != 3) xr2 (TRow.mk 0 ([]:List Int))),true)))))))) (cond (append.kind != 3) ((cw_ n append.row).bind fun xr8=>((bG_ n (o.tables.getD append.table.toNat []) append.row).bind fun xr9=>(inB append.table o.tables.length (let xa10:List (List TRow):=o.tables.set append.table.toNat xr9;(some ((ax_.mk o.schema o.version xa10),(aV_.mk append.table (append.kind != 1) (append.kind != 3) (TRow.mk 0 ([]:List Int)) xr8),true)))))) ((bh_ n (o.tables.getD append.table.toNat []) append.row.id_).bind fun xr11=>(inB append.table o.tables.length (let xa12:List (List TRow):=o.tables.set append.table.toNat xr11;(some ((ax_.mk o.schema o.version xa12),(aV_.mk append.table (append.kind != 1) (append.kind != 3) (TRow.mk 0 ([]:List Int)) (TRow.mk 0 ([]:List Int))),true)))))))) (cond (append.kind != 1) (inB xr1 (o.tables.getD append.table.toNat []).length ((cw_ n ((o.tables.getD append.table.toNat []).getD xr1.toNat TRow.dflt)).bind fun xr13=>(cond (append.kind != 3) ((cw_ n append.row).bind fun xr14=>((bG_ n (o.tables.getD append.table.toNat []) append.row).bind fun xr15=>(inB append.table o.tables.length (let xa16:List (List TRow):=o.tables.set append.table.toNat xr15;(some ((ax_.mk o.schema o.version xa16),(aV_.mk append.table (append.kind != 1) (append.kind != 3) xr13 xr14),true)))))) ((bh_ n (o.tables.getD append.table.toNat []) append.row.id_).bind fun xr17=>(inB append.table o.tables.length (let xa18:List (List TRow):=o.tables.set append.table.toNat xr17;(some ((ax_.mk o.schema o.version xa18),(aV_.mk append.table (append.kind != 1) (append.kind != 3) xr13 (TRow.mk 0 ([]:List Int))),true)))))))) (cond (append.kind != 3) ((cw_ n append.row).bind fun xr19=>((bG_ n (o.tables.getD append.table.toNat []) append.row).bind fun xr20=>(inB append.table o.tables.length (let xa21:List (List TRow):=o.tables.set append.table.toNat xr20;(some ((ax_.mk o.schema o.version xa21),(aV_.mk append.table (append.kind != 1) (append.kind != 3) (TRow.mk 0 ([]:List Int)) xr19),true)))))) ((bh_ n (o.tables.getD append.table.toNat []) append.row.id_).bind fun xr22=>(inB append.table o.tables.length (let xa23:List (List TRow):=o.tables.set append.table.toNat xr22;(some ((ax_.mk o.schema o.version xa23),(aV_.mk append.table (append.kind != 1) (append.kind != 3) (TRow.mk 0 ([]:List Int)) (TRow.mk 0 ([]:List Int))),true)))))))))))
def ex_:Nat→ax_→TMut→Option (ax_ × aV_ × Bool)
 |0,_,_=>none
 |n+1,s,m=>
  ((bA_ n s).bind fun xr1=>(cond (!xr1) (some ((ax_.mk (aY_.mk ([]:List Int)) 0 ([]:List (List TRow))),(aV_.mk 0 false false (TRow.mk 0 ([]:List Int)) (TRow.mk 0 ([]:List Int))),false)) ((eP_ n s.schema m).bind fun xr2=>(cond (!xr2) ((bv_ n s).bind fun xr3=>(some (xr3,(aV_.mk 0 false false (TRow.mk 0 ([]:List Int)) (TRow.mk 0 ([]:List Int))),false))) ((bv_ n s).bind fun xr4=>((fi_ n xr4 m).bind fun xr5=>(cond (!xr5.2.2) ((bv_ n s).bind fun xr6=>(some (xr6,(aV_.mk 0 false false (TRow.mk 0 ([]:List Int)) (TRow.mk 0 ([]:List Int))),false))) (some (xr5.1,xr5.2.1,true)))))))))
def aC_.tail9 (n:Nat) (kn:Int→(List Int)→Int→Int→(List Int)→Int→(List (List TRow))→(List TMut)→Option ((List TMut) × af_)) (i:Int) (c0:List Int) (c1:Int) (c2:Int) (now0:List Int) (now1:Int) (now2:List (List TRow)) (list:List TMut) (m0:Int) (m1:Int) (m2:Int) (m3:List Int):Option ((List TMut) × af_) :=
 ((ex_ n (ax_.mk (aY_.mk now0) now1 now2) (TMut.mk m0 m1 (TRow.mk m2 m3))).bind fun xr3=>(cond xr3.2.2 (cond xr3.2.2 (bf_ (list.length+([(TMut.mk m0 m1 (TRow.mk m2 m3))]:List TMut).length) 48 (kn i c0 c1 c2 xr3.1.schema.cols xr3.1.version xr3.1.tables (list++([(TMut.mk m0 m1 (TRow.mk m2 m3))]:List TMut)))) ((cm_ n (af_.mk c0 c1 c2) 9).bind fun xr4=>(cond xr4.1 (bf_ (list.length+([(TMut.mk m0 m1 (TRow.mk m2 m3))]:List TMut).length) 48 (kn i xr4.2.b xr4.2.i xr4.2.h xr3.1.schema.cols xr3.1.version xr3.1.tables (list++([(TMut.mk m0 m1 (TRow.mk m2 m3))]:List TMut)))) (kn i xr4.2.b xr4.2.i xr4.2.h xr3.1.schema.cols xr3.1.version xr3.1.tables list)))) (cond xr3.2.2 (bf_ (list.length+([(TMut.mk m0 m1 (TRow.mk m2 m3))]:List TMut).length) 48 (kn i c0 c1 c2 now0 now1 now2 (list++([(TMut.mk m0 m1 (TRow.mk m2 m3))]:List TMut)))) ((cm_ n (af_.mk c0 c1 c2) 9).bind fun xr5=>(cond xr5.1 (bf_ (list.length+([(TMut.mk m0 m1 (TRow.mk m2 m3))]:List TMut).length) 48 (kn i xr5.2.b xr5.2.i xr5.2.h now0 now1 now2 (list++([(TMut.mk m0 m1 (TRow.mk m2 m3))]:List TMut)))) (kn i xr5.2.b xr5.2.i xr5.2.h now0 now1 now2 list))))))
abbrev aC_.K5:Type:=(List Int)→Int→Int→(List TMut)→Option ((List TMut) × af_)
abbrev aC_.T5:Type:=Int→(List Int)→Int→Int→(List Int)→Int→(List (List TRow))→(List TMut)→Option ((List TMut) × af_)
def aC_.step5 (n:Nat) (k0:aC_.K5) (back:aC_.T5):aC_.T5:=fun i c0 c1 c2 now0 now1 now2 list=>
 ((ah_ n (af_.mk c0 c1 c2) 3).bind fun xr1=>(cond (decide (i<(W (1+xr1.1)))) ((ds_ n xr1.2 (ax_.mk (aY_.mk now0) now1 now2)).bind fun xr2=>(aC_.tail9 n (fun xy6 xy7 xy8 xy9 xy10 xy11 xy12 xy13=>(back (W (xy6+1)) xy7 xy8 xy9 xy10 xy11 xy12 xy13)) i xr2.2.b xr2.2.i xr2.2.h now0 now1 now2 list xr2.1.kind xr2.1.table xr2.1.row.id_ xr2.1.row.cells)) (k0 xr1.2.b xr1.2.i xr1.2.h list)))
def aC_.loop5 (n:Nat) (k0:aC_.K5) (N:Nat):aC_.T5:=ct_ (fun _ _ _ _ _ _ _ _=>none) (aC_.step5 n k0) N
def aC_:Nat→af_→ax_→Option ((List TMut) × af_)
 |0,_,_=>none
 |n+1,c,s=>
  (aC_.loop5 n (fun xy14 xy15 xy16 xy17=>(some (xy17,(af_.mk xy14 xy15 xy16)))) n 0 c.b c.i c.h s.schema.cols s.version s.tables ([]:List TMut))
abbrev bC_.K12:Type:=(List Int)→Int→(List (List TRow))→Int→Int→(List aV_)→(List Int)→(List (List TRow))→Option (ax_ × (List aV_) × Bool)
abbrev bC_.T12:Type:=(List TMut)→Int→(List Int)→Int→(List (List TRow))→Int→(List aV_)→Int→(List aV_)→(List Int)→(List (List TRow))→Option (ax_ × (List aV_) × Bool)
def bC_.step12 (n:Nat) (k0:bC_.K12) (back:bC_.T12):bC_.T12:=fun append t10 t20 t21 t22 t41 t7 t81 t9 t80 t82=>
 (cond (decide (t10<(append.length:Int))) (inB t10 append.length ((ex_ n (ax_.mk (aY_.mk t80) t81 t82) { (append.getD t10.toNat TMut.dflt) with row:=((append.getD t10.toNat TMut.dflt).row) }).bind fun xr6=>(cond (!xr6.2.2) ((bv_ n (ax_.mk (aY_.mk t20) t21 t22)).bind fun xr7=>(some (xr7,t7,false))) (bf_ (t9.length+([xr6.2.1]:List aV_).length) 80 (back append (W (t10+1)) t20 t21 t22 t41 t7 xr6.1.version (t9++([xr6.2.1]:List aV_)) xr6.1.schema.cols xr6.1.tables))))) (k0 t20 t21 t22 t41 t81 t9 t80 t82))
def bC_.loop12 (n:Nat) (k0:bC_.K12) (N:Nat):bC_.T12:=ct_ (fun _ _ _ _ _ _ _ _ _ _ _=>none) (bC_.step12 n k0) N
def bC_:Nat→ax_→(List TMut)→Option (ax_ × (List aV_) × Bool)
 |0,_,_=>none
 |n+1,o,append=>
  ((bA_ n o).bind fun xr1=>(cond (!xr1) (some ((ax_.mk (aY_.mk ([]:List Int)) 0 ([]:List (List TRow))),([]:List aV_),false)) ((b4_ n (append.length:Int) 1 5).bind fun xr2=>(cond (!xr2) ((bv_ n o).bind fun xr3=>(some (xr3,([]:List aV_),false))) (cond (o.version == 100000) ((bv_ n o).bind fun xr4=>(some (xr4,([]:List aV_),false))) ((bv_ n o).bind fun xr5=>(bC_.loop12 n (fun xy8 xy9 xy10 xy11 xy12 xy13 xy14 xy15=>(some ((ax_.mk (aY_.mk xy14) (W (xy9+1)) xy15),xy13,true))) n append 0 o.schema.cols o.version o.tables 0 ([]:List aV_) xr5.version ([]:List aV_) xr5.schema.cols xr5.tables)))))))
def de_:Nat→bn_→aV_→Option bn_
 |0,_,_=>none
 |n+1,o,append=>
  ((cY_ n o).bind fun xr1=>(cond (append.table == o.q.table) (cond append.had ((bh_ n xr1.rows append.old.id_).bind fun xr2=>(cond append.has ((bQ_ n o.q append.new).bind fun xr3=>(cond xr3 ((bU_ n o.q xr2 append.new).bind fun xr4=>(cond o.q.kids (cond (append.table == o.q.kidTable) (cond append.had ((bT_ n append.old o.q.kidCol).bind fun xr5=>((aQ_ n xr1.kids xr5 (-1)).bind fun xr6=>(cond append.has ((bT_ n append.new o.q.kidCol).bind fun xr7=>((aQ_ n xr6 xr7 1).bind fun xr8=>(some (bn_.mk xr1.q xr4 xr8)))) (some (bn_.mk xr1.q xr4 xr6))))) (cond append.has ((bT_ n append.new o.q.kidCol).bind fun xr9=>((aQ_ n xr1.kids xr9 1).bind fun xr10=>(some (bn_.mk xr1.q xr4 xr10)))) (some { xr1 with rows:=xr4 }))) (some { xr1 with rows:=xr4 })) (some { xr1 with rows:=xr4 }))) (cond o.q.kids (cond (append.table == o.q.kidTable) (cond append.had ((bT_ n append.old o.q.kidCol).bind fun xr11=>((aQ_ n xr1.kids xr11 (-1)).bind fun xr12=>(cond append.has ((bT_ n append.new o.q.kidCol).bind fun xr13=>((aQ_ n xr12 xr13 1).bind fun xr14=>(some (bn_.mk xr1.q xr2 xr14)))) (some (bn_.mk xr1.q xr2 xr12))))) (cond append.has ((bT_ n append.new o.q.kidCol).bind fun xr15=>((aQ_ n xr1.kids xr15 1).bind fun xr16=>(some (bn_.mk xr1.q xr2 xr16)))) (some { xr1 with rows:=xr2 }))) (some { xr1 with rows:=xr2 })) (some { xr1 with rows:=xr2 })))) (cond o.q.kids (cond (append.table == o.q.kidTable) (cond append.had ((bT_ n append.old o.q.kidCol).bind fun xr17=>((aQ_ n xr1.kids xr17 (-1)).bind fun xr18=>(cond append.has ((bT_ n append.new o.q.kidCol).bind fun xr19=>((aQ_ n xr18 xr19 1).bind fun xr20=>(some (bn_.mk xr1.q xr2 xr20)))) (some (bn_.mk xr1.q xr2 xr18))))) (cond append.has ((bT_ n append.new o.q.kidCol).bind fun xr21=>((aQ_ n xr1.kids xr21 1).bind fun xr22=>(some (bn_.mk xr1.q xr2 xr22)))) (some { xr1 with rows:=xr2 }))) (some { xr1 with rows:=xr2 })) (some { xr1 with rows:=xr2 })))) (cond append.has ((bQ_ n o.q append.new).bind fun xr23=>(cond xr23 ((bU_ n o.q xr1.rows append.new).bind fun xr24=>(cond o.q.kids (cond (append.table == o.q.kidTable) (cond append.had ((bT_ n append.old o.q.kidCol).bind fun xr25=>((aQ_ n xr1.kids xr25 (-1)).bind fun xr26=>(cond append.has ((bT_ n append.new o.q.kidCol).bind fun xr27=>((aQ_ n xr26 xr27 1).bind fun xr28=>(some (bn_.mk xr1.q xr24 xr28)))) (some (bn_.mk xr1.q xr24 xr26))))) (cond append.has ((bT_ n append.new o.q.kidCol).bind fun xr29=>((aQ_ n xr1.kids xr29 1).bind fun xr30=>(some (bn_.mk xr1.q xr24 xr30)))) (some { xr1 with rows:=xr24 }))) (some { xr1 with rows:=xr24 })) (some { xr1 with rows:=xr24 }))) (cond o.q.kids (cond (append.table == o.q.kidTable) (cond append.had ((bT_ n append.old o.q.kidCol).bind fun xr31=>((aQ_ n xr1.kids xr31 (-1)).bind fun xr32=>(cond append.has ((bT_ n append.new o.q.kidCol).bind fun xr33=>((aQ_ n xr32 xr33 1).bind fun xr34=>(some { xr1 with kids:=xr34 }))) (some { xr1 with kids:=xr32 })))) (cond append.has ((bT_ n append.new o.q.kidCol).bind fun xr35=>((aQ_ n xr1.kids xr35 1).bind fun xr36=>(some { xr1 with kids:=xr36 }))) (some xr1))) (some xr1)) (some xr1)))) (cond o.q.kids (cond (append.table == o.q.kidTable) (cond append.had ((bT_ n append.old o.q.kidCol).bind fun xr37=>((aQ_ n xr1.kids xr37 (-1)).bind fun xr38=>(cond append.has ((bT_ n append.new o.q.kidCol).bind fun xr39=>((aQ_ n xr38 xr39 1).bind fun xr40=>(some { xr1 with kids:=xr40 }))) (some { xr1 with kids:=xr38 })))) (cond append.has ((bT_ n append.new o.q.kidCol).bind fun xr41=>((aQ_ n xr1.kids xr41 1).bind fun xr42=>(some { xr1 with kids:=xr42 }))) (some xr1))) (some xr1)) (some xr1)))) (cond o.q.kids (cond (append.table == o.q.kidTable) (cond append.had ((bT_ n append.old o.q.kidCol).bind fun xr43=>((aQ_ n xr1.kids xr43 (-1)).bind fun xr44=>(cond append.has ((bT_ n append.new o.q.kidCol).bind fun xr45=>((aQ_ n xr44 xr45 1).bind fun xr46=>(some { xr1 with kids:=xr46 }))) (some { xr1 with kids:=xr44 })))) (cond append.has ((bT_ n append.new o.q.kidCol).bind fun xr47=>((aQ_ n xr1.kids xr47 1).bind fun xr48=>(some { xr1 with kids:=xr48 }))) (some xr1))) (some xr1)) (some xr1))))
abbrev aT_.K4:Type:=Int→Int→Bool→Int→Bool→Int→Int→Int→Int→Bool→Int→Bool→Int→Int→(List b3_)→(List Int)→(List TRow)→(List TKid)→Option bn_
abbrev aT_.T4:Type:=(List aV_)→Int→Int→Int→Bool→Int→Bool→Int→Int→Int→Int→Bool→Int→Bool→Int→Int→(List b3_)→(List Int)→(List TRow)→(List TKid)→Option bn_
def aT_.step4 (n:Nat) (k0:aT_.K4) (back:aT_.T4):aT_.T4:=fun list i t40 t42 t43 t44 t46 t47 t48 out0 out2 out3 out4 out6 out7 out8 out1 out5 out9 out10=>
 (cond (decide (i<(list.length:Int))) (inB i list.length ((de_ n (bn_.mk (ay_.mk out0 out1 out2 out3 out4 out5 out6 out7 out8) out9 out10) { (list.getD i.toNat aV_.dflt) with old:=((list.getD i.toNat aV_.dflt).old),new:=((list.getD i.toNat aV_.dflt).new) }).bind fun xr2=>(back list (W (i+1)) t40 t42 t43 t44 t46 t47 t48 xr2.q.table xr2.q.order xr2.q.down xr2.q.first xr2.q.kids xr2.q.kidTable xr2.q.kidCol xr2.q.where_ xr2.q.show_ xr2.rows xr2.kids))) (k0 t40 t42 t43 t44 t46 t47 t48 out0 out2 out3 out4 out6 out7 out8 out1 out5 out9 out10))
def aT_.loop4 (n:Nat) (k0:aT_.K4) (N:Nat):aT_.T4:=ct_ (fun _ _ _ _ _ _ _ _ _ _ _ _ _ _ _ _ _ _ _ _=>none) (aT_.step4 n k0) N
def aT_:Nat→bn_→(List aV_)→Option bn_
 |0,_,_=>none
 |n+1,v,list=>
  ((cY_ n v).bind fun xr1=>(aT_.loop4 n (fun xy3 xy4 xy5 xy6 xy7 xy8 xy9 xy10 xy11 xy12 xy13 xy14 xy15 xy16 xy17 xy18 xy19 xy20=>(some (bn_.mk (ay_.mk xy10 xy17 xy11 xy12 xy13 xy18 xy14 xy15 xy16) xy19 xy20))) n list 0 0 0 false 0 false 0 0 xr1.q.table xr1.q.order xr1.q.down xr1.q.first xr1.q.kids xr1.q.kidTable xr1.q.kidCol xr1.q.where_ xr1.q.show_ xr1.rows xr1.kids))
def dT_:Nat→cp_→(List aV_)→Option cp_
 |0,_,_=>none
 |n+1,x,list=>
  ((dP_ n x).bind fun xr1=>((aT_ n x.view list).bind fun xr2=>(some { xr1 with view:=xr2,version:=(W (x.version+1)) })))
def as_.tail10 (n:Nat) (kn:Int→(List Int)→Int→Int→Int→Int→Int→Bool→Int→Bool→Int→Int→Int→Int→Int→Bool→Int→Bool→Int→Int→Int→Bool→(List Int)→Int→(List (List TRow))→Int→(List b3_)→Int→Bool→Int→(List Int)→Bool→Int→Int→(List TRow)→(List TKid)→Int→Int→(List b3_)→Int→Bool→Int→(List Int)→Bool→Int→Int→(List TRow)→(List TKid)→Int→Bool→Option (ax_ × cp_ × af_)) (i:Int) (t29:Bool) (c0:List Int) (c1:Int) (c2:Int) (t21:Int) (t30:Int) (t32:Int) (t33:Bool) (t34:Int) (t36:Bool) (t37:Int) (t38:Int) (t311:Int) (t312:Int) (t314:Int) (t315:Bool) (t316:Int) (t318:Bool) (t319:Int) (t320:Int) (t323:Int) (t324:Bool) (s0:List Int) (s1:Int) (s2:List (List TRow)) (x0:Int) (x1:List b3_) (x2:Int) (x3:Bool) (x4:Int) (x5:List Int) (x6:Bool) (x7:Int) (x8:Int) (x9:List TRow) (x10:List TKid) (x11:Int) (x12:Int) (x13:List b3_) (x14:Int) (x15:Bool) (x16:Int) (x17:List Int) (x18:Bool) (x19:Int) (x20:Int) (x21:List TRow) (x22:List TKid) (x23:Int) (x24:Bool):Option (ax_ × cp_ × af_) :=
 (cond t29 ((df_ n (cp_.mk (bn_.mk (ay_.mk x0 x1 x2 x3 x4 x5 x6 x7 x8) x9 x10) x11 (bn_.mk (ay_.mk x12 x13 x14 x15 x16 x17 x18 x19 x20) x21 x22) x23 x24)).bind fun xr6=>(kn i c0 c1 c2 t21 t30 t32 t33 t34 t36 t37 t38 t311 t312 t314 t315 t316 t318 t319 t320 t323 t324 s0 s1 s2 xr6.1.view.q.table xr6.1.view.q.where_ xr6.1.view.q.order xr6.1.view.q.down xr6.1.view.q.first xr6.1.view.q.show_ xr6.1.view.q.kids xr6.1.view.q.kidTable xr6.1.view.q.kidCol xr6.1.view.rows xr6.1.view.kids xr6.1.version xr6.1.last.q.table xr6.1.last.q.where_ xr6.1.last.q.order xr6.1.last.q.down xr6.1.last.q.first xr6.1.last.q.show_ xr6.1.last.q.kids xr6.1.last.q.kidTable xr6.1.last.q.kidCol xr6.1.last.rows xr6.1.last.kids xr6.1.lastVersion xr6.1.began)) (kn i c0 c1 c2 t21 t30 t32 t33 t34 t36 t37 t38 t311 t312 t314 t315 t316 t318 t319 t320 t323 t324 s0 s1 s2 x0 x1 x2 x3 x4 x5 x6 x7 x8 x9 x10 x11 x12 x13 x14 x15 x16 x17 x18 x19 x20 x21 x22 x23 x24))
abbrev as_.K5:Type:=(List Int)→Int→Int→Int→Int→Int→Bool→Int→Bool→Int→Int→Int→Int→Int→Bool→Int→Bool→Int→Int→Int→Bool→(List Int)→Int→(List (List TRow))→Int→(List b3_)→Int→Bool→Int→(List Int)→Bool→Int→Int→(List TRow)→(List TKid)→Int→Int→(List b3_)→Int→Bool→Int→(List Int)→Bool→Int→Int→(List TRow)→(List TKid)→Int→Bool→Option (ax_ × cp_ × af_)
abbrev as_.T5:Type:=Int→(List Int)→Int→Int→Int→Int→Int→Bool→Int→Bool→Int→Int→Int→Int→Int→Bool→Int→Bool→Int→Int→Int→Bool→(List Int)→Int→(List (List TRow))→Int→(List b3_)→Int→Bool→Int→(List Int)→Bool→Int→Int→(List TRow)→(List TKid)→Int→Int→(List b3_)→Int→Bool→Int→(List Int)→Bool→Int→Int→(List TRow)→(List TKid)→Int→Bool→Option (ax_ × cp_ × af_)
def as_.step5 (n:Nat) (k0:as_.K5) (back:as_.T5):as_.T5:=fun i c0 c1 c2 t21 t30 t32 t33 t34 t36 t37 t38 t311 t312 t314 t315 t316 t318 t319 t320 t323 t324 s0 s1 s2 x0 x1 x2 x3 x4 x5 x6 x7 x8 x9 x10 x11 x12 x13 x14 x15 x16 x17 x18 x19 x20 x21 x22 x23 x24=>
 ((ah_ n (af_.mk c0 c1 c2) 6).bind fun xr4=>(cond (decide (i<xr4.1)) ((cm_ n xr4.2 2).bind fun xr5=>(as_.tail10 n (fun xy7 xy8 xy9 xy10 xy11 xy12 xy13 xy14 xy15 xy16 xy17 xy18 xy19 xy20 xy21 xy22 xy23 xy24 xy25 xy26 xy27 xy28 xy29 xy30 xy31 xy32 xy33 xy34 xy35 xy36 xy37 xy38 xy39 xy40 xy41 xy42 xy43 xy44 xy45 xy46 xy47 xy48 xy49 xy50 xy51 xy52 xy53 xy54 xy55 xy56=>((aC_ n (af_.mk xy8 xy9 xy10) (ax_.mk (aY_.mk xy29) xy30 xy31)).bind fun xr57=>((bC_ n (ax_.mk (aY_.mk xy29) xy30 xy31) xr57.1).bind fun xr58=>(cond xr58.2.2 ((dT_ n (cp_.mk (bn_.mk (ay_.mk xy32 xy33 xy34 xy35 xy36 xy37 xy38 xy39 xy40) xy41 xy42) xy43 (bn_.mk (ay_.mk xy44 xy45 xy46 xy47 xy48 xy49 xy50 xy51 xy52) xy53 xy54) xy55 xy56) xr58.2.1).bind fun xr59=>(back (W (xy7+1)) xr57.2.b xr57.2.i xr57.2.h xy11 xy12 xy13 xy14 xy15 xy16 xy17 xy18 xy19 xy20 xy21 xy22 xy23 xy24 xy25 xy26 xy27 xy28 xr58.1.schema.cols xr58.1.version xr58.1.tables xr59.view.q.table xr59.view.q.where_ xr59.view.q.order xr59.view.q.down xr59.view.q.first xr59.view.q.show_ xr59.view.q.kids xr59.view.q.kidTable xr59.view.q.kidCol xr59.view.rows xr59.view.kids xr59.version xr59.last.q.table xr59.last.q.where_ xr59.last.q.order xr59.last.q.down xr59.last.q.first xr59.last.q.show_ xr59.last.q.kids xr59.last.q.kidTable xr59.last.q.kidCol xr59.last.rows xr59.last.kids xr59.lastVersion xr59.began)) (back (W (xy7+1)) xr57.2.b xr57.2.i xr57.2.h xy11 xy12 xy13 xy14 xy15 xy16 xy17 xy18 xy19 xy20 xy21 xy22 xy23 xy24 xy25 xy26 xy27 xy28 xy29 xy30 xy31 xy32 xy33 xy34 xy35 xy36 xy37 xy38 xy39 xy40 xy41 xy42 xy43 xy44 xy45 xy46 xy47 xy48 xy49 xy50 xy51 xy52 xy53 xy54 xy55 xy56))))) i xr5.1 xr5.2.b xr5.2.i xr5.2.h t21 t30 t32 t33 t34 t36 t37 t38 t311 t312 t314 t315 t316 t318 t319 t320 t323 t324 s0 s1 s2 x0 x1 x2 x3 x4 x5 x6 x7 x8 x9 x10 x11 x12 x13 x14 x15 x16 x17 x18 x19 x20 x21 x22 x23 x24)) (k0 xr4.2.b xr4.2.i xr4.2.h t21 t30 t32 t33 t34 t36 t37 t38 t311 t312 t314 t315 t316 t318 t319 t320 t323 t324 s0 s1 s2 x0 x1 x2 x3 x4 x5 x6 x7 x8 x9 x10 x11 x12 x13 x14 x15 x16 x17 x18 x19 x20 x21 x22 x23 x24)))
def as_.loop5 (n:Nat) (k0:as_.K5) (N:Nat):as_.T5:=ct_ (fun _ _ _ _ _ _ _ _ _ _ _ _ _ _ _ _ _ _ _ _ _ _ _ _ _ _ _ _ _ _ _ _ _ _ _ _ _ _ _ _ _ _ _ _ _ _ _ _ _ _=>none) (as_.step5 n k0) N
def as_.tail1 (n:Nat) (c0:List Int) (c1:Int) (c2:Int) (t21:Int) (t30:Int) (t32:Int) (t33:Bool) (t34:Int) (t36:Bool) (t37:Int) (t38:Int) (t311:Int) (t312:Int) (t314:Int) (t315:Bool) (t316:Int) (t318:Bool) (t319:Int) (t320:Int) (t323:Int) (t324:Bool) (s0:List Int) (s1:Int) (s2:List (List TRow)):Option (ax_ × cp_ × af_) :=
 ((ak_ n (af_.mk c0 c1 c2) (aY_.mk s0)).bind fun xr2=>((d6_ n (ax_.mk (aY_.mk s0) s1 s2) xr2.1).bind fun xr3=>(as_.loop5 n (fun xy60 xy61 xy62 xy63 xy64 xy65 xy66 xy67 xy68 xy69 xy70 xy71 xy72 xy73 xy74 xy75 xy76 xy77 xy78 xy79 xy80 xy81 xy82 xy83 xy84 xy85 xy86 xy87 xy88 xy89 xy90 xy91 xy92 xy93 xy94 xy95 xy96 xy97 xy98 xy99 xy100 xy101 xy102 xy103 xy104 xy105 xy106 xy107 xy108=>(some ((ax_.mk (aY_.mk xy81) xy82 xy83),(cp_.mk (bn_.mk (ay_.mk xy84 xy85 xy86 xy87 xy88 xy89 xy90 xy91 xy92) xy93 xy94) xy95 (bn_.mk (ay_.mk xy96 xy97 xy98 xy99 xy100 xy101 xy102 xy103 xy104) xy105 xy106) xy107 xy108),(af_.mk xy60 xy61 xy62)))) n 0 xr2.2.b xr2.2.i xr2.2.h t21 t30 t32 t33 t34 t36 t37 t38 t311 t312 t314 t315 t316 t318 t319 t320 t323 t324 s0 s1 s2 xr3.1.view.q.table xr3.1.view.q.where_ xr3.1.view.q.order xr3.1.view.q.down xr3.1.view.q.first xr3.1.view.q.show_ xr3.1.view.q.kids xr3.1.view.q.kidTable xr3.1.view.q.kidCol xr3.1.view.rows xr3.1.view.kids xr3.1.version xr3.1.last.q.table xr3.1.last.q.where_ xr3.1.last.q.order xr3.1.last.q.down xr3.1.last.q.first xr3.1.last.q.show_ xr3.1.last.q.kids xr3.1.last.q.kidTable xr3.1.last.q.kidCol xr3.1.last.rows xr3.1.last.kids xr3.1.lastVersion xr3.1.began)))
def as_:Nat→af_→Option (ax_ × cp_ × af_)
 |0,_=>none
 |n+1,c=>
  ((aP_ n c).bind fun xr1=>(as_.tail1 n xr1.2.b xr1.2.i xr1.2.h 0 0 0 false 0 false 0 0 0 0 0 false 0 false 0 0 0 false xr1.1.schema.cols xr1.1.version xr1.1.tables))
def cQ_:Nat→af_→Option (aX_ × af_)
 |0,_=>none
 |n+1,c=>
  ((cm_ n c 3).bind fun xr1=>(cond xr1.1 ((ah_ n xr1.2 9).bind fun xr2=>((ac_ n xr2.2 4).bind fun xr3=>(some ((aX_.mk 1 xr2.1 0 (aa_.re xr3.1) ([]:List TOp)),xr3.2)))) ((as_ n xr1.2).bind fun xr4=>((df_ n xr4.2.1).bind fun xr5=>(cond (!xr5.2.2) (some ((aX_.mk 1 3 0 (aa_.mk 0 0 [] [] []) ([]:List TOp)),xr4.2.2)) (some ({ xr5.2.1 with doc:=(aa_.re xr5.2.1.doc) },xr4.2.2)))))))
abbrev bz_.K10:Type:=(List Int)→Int→Int→Int→Int→Bs→Int→Int→Bs→(List aa_)→(List Bs)→Option (aa_ × af_)
abbrev bz_.T10:Type:=Int→(List Int)→Int→Int→Int→Int→Bs→Int→Int→Bs→(List aa_)→(List Bs)→Option (aa_ × af_)
def bz_.step10 (n:Nat) (k1:bz_.K10) (back:bz_.T10):bz_.T10:=fun i b0 b1 b2 t20 t21 t22 j0 j1 j2 j3 j4=>
 (cond (decide (i<5)) (back (W (i+1)) b0 b1 b2 t20 t21 t22 4 0 [] ([(aa_.mk j0 j1 j2 j3 j4)]:List aa_) ([]:List Bs)) (k1 b0 b1 b2 t20 t21 t22 j0 j1 j2 j3 j4))
def bz_.loop10 (n:Nat) (k1:bz_.K10) (N:Nat):bz_.T10:=ct_ (fun _ _ _ _ _ _ _ _ _ _ _ _=>none) (bz_.step10 n k1) N
def bz_:Nat→af_→Option (aa_ × af_)
 |0,_=>none
 |n+1,c=>
  ((ac_ n c 4).bind fun xr1=>((ah_ n xr1.2 20).bind fun xr2=>(cond (xr2.1 == 0) ((ah_ n xr2.2 8).bind fun xr3=>(some ((aa_.mk (W (xr3.1 - 1)) xr1.1.n_ xr1.1.s xr1.1.list xr1.1.names),xr3.2))) (cond (xr2.1 == 1) ((bu_ n xr2.2 ([1,2,(-1),1000000001]:List Int)).bind fun xr4=>(some ((aa_.mk xr1.1.kind xr4.1 xr1.1.s xr1.1.list xr1.1.names),xr4.2))) (cond (xr2.1 == 2) ((c5_ n xr2.2 ([[120],[1],[127]]:List Bs)).bind fun xr5=>(some ((aa_.mk xr1.1.kind xr1.1.n_ xr5.1 xr1.1.list xr1.1.names),xr5.2))) (cond (xr2.1 == 3) (bf_ (xr1.1.names.length+([[97]]:List Bs).length) 16 (some ((aa_.mk xr1.1.kind xr1.1.n_ xr1.1.s xr1.1.list (xr1.1.names++([[97]]:List Bs))),xr2.2))) (cond (xr2.1 == 4) (bz_.loop10 n (fun xy6 xy7 xy8 xy9 xy10 xy11 xy12 xy13 xy14 xy15 xy16=>(some ((aa_.mk xy12 xy13 xy14 xy15 xy16),(af_.mk xy6 xy7 xy8)))) n 0 xr2.2.b xr2.2.i xr2.2.h 0 0 [] xr1.1.kind xr1.1.n_ xr1.1.s xr1.1.list xr1.1.names) (cond (xr2.1 == 5) ((ah_ n xr2.2 2).bind fun xr17=>(cond (decide ((W (399+xr17.1))=(W (399+xr17.1)))) (cond (decide (0≤(W (399+xr17.1)))) (cond (decide ((W (399+xr17.1))*80≤140737488355328)) (some ((aa_.mk 4 0 [] (List.replicate (W (399+xr17.1)).toNat aa_.dflt) ([]:List Bs)),xr17.2)) none) none) none)) (some ((aa_.re xr1.1),xr2.2))))))))))
abbrev bl_.K4:Type:=(List Int)→Int→Int→(List Bs)→Option ((List Bs) × af_)
abbrev bl_.T4:Type:=Int→(List Int)→Int→Int→Int→Int→Bs→(List aa_)→(List Bs)→(List Bs)→Option ((List Bs) × af_)
def bl_.step4 (n:Nat) (k0:bl_.K4) (back:bl_.T4):bl_.T4:=fun t6 o0 o1 o2 t30 t31 t32 t33 t34 t5=>
 (cond (decide (t6<5)) (cond (decide ((t33.length:Int) > 0)) ((cm_ n (af_.mk o0 o1 o2) 4).bind fun xr1=>(cond (!xr1.1) ((ah_ n xr1.2 (t33.length:Int)).bind fun xr2=>((aK_ n xr2.1).bind fun xr3=>(cond (t30 == 5) (cond (decide (xr2.1<(t34.length:Int))) (inB xr2.1 t34.length (bf_ (t5.length+([(t34.getD xr2.1.toNat [])]:List Bs).length) 16 (inB xr2.1 t33.length (back (W (t6+1)) xr2.2.b xr2.2.i xr2.2.h ((t33.getD xr2.1.toNat aa_.dflt).kind) ((t33.getD xr2.1.toNat aa_.dflt).n_) ((t33.getD xr2.1.toNat aa_.dflt).s) ((t33.getD xr2.1.toNat aa_.dflt).list) ((t33.getD xr2.1.toNat aa_.dflt).names) (t5++([(t34.getD xr2.1.toNat [])]:List Bs)))))) (bf_ (t5.length+([xr3]:List Bs).length) 16 (inB xr2.1 t33.length (back (W (t6+1)) xr2.2.b xr2.2.i xr2.2.h ((t33.getD xr2.1.toNat aa_.dflt).kind) ((t33.getD xr2.1.toNat aa_.dflt).n_) ((t33.getD xr2.1.toNat aa_.dflt).s) ((t33.getD xr2.1.toNat aa_.dflt).list) ((t33.getD xr2.1.toNat aa_.dflt).names) (t5++([xr3]:List Bs)))))) (bf_ (t5.length+([xr3]:List Bs).length) 16 (inB xr2.1 t33.length (back (W (t6+1)) xr2.2.b xr2.2.i xr2.2.h ((t33.getD xr2.1.toNat aa_.dflt).kind) ((t33.getD xr2.1.toNat aa_.dflt).n_) ((t33.getD xr2.1.toNat aa_.dflt).s) ((t33.getD xr2.1.toNat aa_.dflt).list) ((t33.getD xr2.1.toNat aa_.dflt).names) (t5++([xr3]:List Bs)))))))) (k0 xr1.2.b xr1.2.i xr1.2.h t5))) (k0 o0 o1 o2 t5)) (k0 o0 o1 o2 t5))
def bl_.loop4 (n:Nat) (k0:bl_.K4) (N:Nat):bl_.T4:=ct_ (fun _ _ _ _ _ _ _ _ _ _=>none) (bl_.step4 n k0) N
def bl_:Nat→af_→aa_→Option ((List Bs) × af_)
 |0,_,_=>none
 |n+1,o,append=>
  (bl_.loop4 n (fun xy4 xy5 xy6 xy7=>((cm_ n (af_.mk xy4 xy5 xy6) 5).bind fun xr8=>(cond xr8.1 ((c5_ n xr8.2 ([[97],[48],[49],[45],[114,111,119,115],[48,48],[122,122]]:List Bs)).bind fun xr9=>(bf_ (xy7.length+([xr9.1]:List Bs).length) 16 (some ((xy7++([xr9.1]:List Bs)),xr9.2)))) (some (xy7,xr8.2))))) n 0 o.b o.i o.h append.kind append.n_ append.s append.list append.names ([]:List Bs))
abbrev bB_.K7:Type:=Bs→Int→Option Int
abbrev bB_.T7:Type:=Bs→Int→Int→Option Int
def bB_.step7 (n:Nat) (k0:bB_.K7) (back:bB_.T7):bB_.T7:=fun s x i=>
 (cond (decide (i<(s.length:Int))) (inB i s.length (cond (decide (((s.getD i.toNat 0).toNat:Int)<48)) (some (-1)) (inB i s.length (cond (decide (((s.getD i.toNat 0).toNat:Int) > 57)) (some (-1)) (inB i s.length (back s (W ((W ((W (10*x))+(W (((s.getD i.toNat 0).toNat:Int))))) - 48)) (W (i+1)))))))) (k0 s x))
def bB_.loop7 (n:Nat) (k0:bB_.K7) (N:Nat):bB_.T7:=ct_ (fun _ _ _=>none) (bB_.step7 n k0) N
def bB_:Nat→Bs→Option Int
 |0,_=>none
 |n+1,s=>
  (cond (s == []) (some (-1)) (cond (decide ((s.length:Int) > 3)) (some (-1)) (bB_.loop7 n (fun xy1 xy2=>((aK_ n xy2).bind fun xr3=>(cond (!(xr3 == xy1)) (some (-1)) (some xy2)))) n s 0 0)))
def fj_:Nat→aa_→Bs→Option Int
 |0,_,_=>none
 |n+1,j,s=>
  (cond (j.kind == 5) ((cx_ n (aa_.re j) s).bind fun xr1=>(some xr1)) (cond (j.kind == 4) ((bB_ n s).bind fun xr2=>(cond (decide (xr2<(j.list.length:Int))) (some xr2) (some (-1)))) (some (-1))))
abbrev cM_.K6:Type:=Int→Int→Bs→(List aa_)→(List Bs)→Int→Int→Bs→Option (aa_ × Bool)
abbrev cM_.T6:Type:=(List Bs)→Int→Int→Int→Bs→(List aa_)→(List Bs)→Int→Int→Bs→Option (aa_ × Bool)
def cM_.step6 (n:Nat) (k0:cM_.K6) (back:cM_.T6):cM_.T6:=fun way i j0 j1 j2 j3 j4 t40 t41 t42=>
 (cond (decide (i<(way.length:Int))) (inB i way.length ((fj_ n (aa_.mk j0 j1 j2 j3 j4) (way.getD i.toNat [])).bind fun xr2=>(cond (decide (xr2<0)) (some ((aa_.mk 0 0 [] ([]:List aa_) ([]:List Bs)),false)) (inB xr2 j3.length (back way (W (i+1)) ((j3.getD xr2.toNat aa_.dflt).kind) ((j3.getD xr2.toNat aa_.dflt).n_) ((j3.getD xr2.toNat aa_.dflt).s) ((j3.getD xr2.toNat aa_.dflt).list) ((j3.getD xr2.toNat aa_.dflt).names) t40 t41 t42))))) (k0 j0 j1 j2 j3 j4 t40 t41 t42))
def cM_.loop6 (n:Nat) (k0:cM_.K6) (N:Nat):cM_.T6:=ct_ (fun _ _ _ _ _ _ _ _ _ _=>none) (cM_.step6 n k0) N
def cM_:Nat→aa_→(List Bs)→Option (aa_ × Bool)
 |0,_,_=>none
 |n+1,j,way=>
  ((cL_ n (aa_.re j)).bind fun xr1=>(cond (!xr1) (some ((aa_.mk 0 0 [] ([]:List aa_) ([]:List Bs)),false)) (cM_.loop6 n (fun xy3 xy4 xy5 xy6 xy7 xy8 xy9 xy10=>((bc_ n (aa_.mk xy3 xy4 xy5 xy6 xy7)).bind fun xr11=>(some ((aa_.re xr11),true)))) n way 0 j.kind j.n_ j.s j.list j.names 0 0 [])))
def dL_:Nat→af_→aa_→Option (TOp × af_)
 |0,_,_=>none
 |n+1,c,j=>
  ((ah_ n c 4).bind fun xr1=>((bl_ n xr1.2 (aa_.re j)).bind fun xr2=>(cond ((W (1+xr1.1)) != 2) ((ac_ n xr2.2 2).bind fun xr3=>((cM_ n (aa_.re j) xr2.1).bind fun xr4=>(cond xr4.2 (cond ((W (1+xr1.1)) == 4) ((cm_ n xr3.2 2).bind fun xr5=>(cond xr5.1 ((ah_ n xr5.2 25).bind fun xr6=>(cond (xr6.1 == 0) ((ah_ n xr6.2 6).bind fun xr7=>(some ((TOp.mk xr7.1 xr2.1 (aa_.re xr4.1)),xr7.2))) (cond (xr6.1 == 1) (bf_ (xr2.1.length+([[1]]:List Bs).length) 16 (some ((TOp.mk (W (1+xr1.1)) (xr2.1++([[1]]:List Bs)) (aa_.re xr4.1)),xr6.2))) (cond (xr6.1 == 2) ((bz_ n xr6.2).bind fun xr8=>(some ((TOp.mk (W (1+xr1.1)) xr2.1 (aa_.re xr8.1)),xr8.2))) (cond (xr6.1 == 3) (some ((TOp.mk (W (1+xr1.1)) ([[97],[97],[97],[97],[97],[97],[97]]:List Bs) (aa_.re xr4.1)),xr6.2)) (some ((TOp.mk (W (1+xr1.1)) xr2.1 (aa_.re xr4.1)),xr6.2))))))) ((ah_ n xr5.2 25).bind fun xr9=>(cond (xr9.1 == 0) ((ah_ n xr9.2 6).bind fun xr10=>(some ((TOp.mk xr10.1 xr2.1 (aa_.re xr3.1)),xr10.2))) (cond (xr9.1 == 1) (bf_ (xr2.1.length+([[1]]:List Bs).length) 16 (some ((TOp.mk (W (1+xr1.1)) (xr2.1++([[1]]:List Bs)) (aa_.re xr3.1)),xr9.2))) (cond (xr9.1 == 2) ((bz_ n xr9.2).bind fun xr11=>(some ((TOp.mk (W (1+xr1.1)) xr2.1 (aa_.re xr11.1)),xr11.2))) (cond (xr9.1 == 3) (some ((TOp.mk (W (1+xr1.1)) ([[97],[97],[97],[97],[97],[97],[97]]:List Bs) (aa_.re xr3.1)),xr9.2)) (some ((TOp.mk (W (1+xr1.1)) xr2.1 (aa_.re xr3.1)),xr9.2))))))))) ((ah_ n xr3.2 25).bind fun xr12=>(cond (xr12.1 == 0) ((ah_ n xr12.2 6).bind fun xr13=>(some ((TOp.mk xr13.1 xr2.1 (aa_.re xr3.1)),xr13.2))) (cond (xr12.1 == 1) (bf_ (xr2.1.length+([[1]]:List Bs).length) 16 (some ((TOp.mk (W (1+xr1.1)) (xr2.1++([[1]]:List Bs)) (aa_.re xr3.1)),xr12.2))) (cond (xr12.1 == 2) ((bz_ n xr12.2).bind fun xr14=>(some ((TOp.mk (W (1+xr1.1)) xr2.1 (aa_.re xr14.1)),xr14.2))) (cond (xr12.1 == 3) (some ((TOp.mk (W (1+xr1.1)) ([[97],[97],[97],[97],[97],[97],[97]]:List Bs) (aa_.re xr3.1)),xr12.2)) (some ((TOp.mk (W (1+xr1.1)) xr2.1 (aa_.re xr3.1)),xr12.2)))))))) ((ah_ n xr3.2 25).bind fun xr15=>(cond (xr15.1 == 0) ((ah_ n xr15.2 6).bind fun xr16=>(some ((TOp.mk xr16.1 xr2.1 (aa_.re xr3.1)),xr16.2))) (cond (xr15.1 == 1) (bf_ (xr2.1.length+([[1]]:List Bs).length) 16 (some ((TOp.mk (W (1+xr1.1)) (xr2.1++([[1]]:List Bs)) (aa_.re xr3.1)),xr15.2))) (cond (xr15.1 == 2) ((bz_ n xr15.2).bind fun xr17=>(some ((TOp.mk (W (1+xr1.1)) xr2.1 (aa_.re xr17.1)),xr17.2))) (cond (xr15.1 == 3) (some ((TOp.mk (W (1+xr1.1)) ([[97],[97],[97],[97],[97],[97],[97]]:List Bs) (aa_.re xr3.1)),xr15.2)) (some ((TOp.mk (W (1+xr1.1)) xr2.1 (aa_.re xr3.1)),xr15.2)))))))))) ((ah_ n xr2.2 25).bind fun xr18=>(cond (xr18.1 == 0) ((ah_ n xr18.2 6).bind fun xr19=>(some ((TOp.mk xr19.1 xr2.1 (aa_.mk 0 0 [] ([]:List aa_) ([]:List Bs))),xr19.2))) (cond (xr18.1 == 1) (bf_ (xr2.1.length+([[1]]:List Bs).length) 16 (some ((TOp.mk (W (1+xr1.1)) (xr2.1++([[1]]:List Bs)) (aa_.mk 0 0 [] ([]:List aa_) ([]:List Bs))),xr18.2))) (cond (xr18.1 == 2) ((bz_ n xr18.2).bind fun xr20=>(some ((TOp.mk (W (1+xr1.1)) xr2.1 (aa_.re xr20.1)),xr20.2))) (cond (xr18.1 == 3) (some ((TOp.mk (W (1+xr1.1)) ([[97],[97],[97],[97],[97],[97],[97]]:List Bs) (aa_.mk 0 0 [] ([]:List aa_) ([]:List Bs))),xr18.2)) (some ((TOp.mk (W (1+xr1.1)) xr2.1 (aa_.mk 0 0 [] ([]:List aa_) ([]:List Bs))),xr18.2))))))))))
def d4_:Nat→af_→Option (aX_ × af_)
 |0,_=>none
 |n+1,c=>
  ((cQ_ n c).bind fun xr1=>((ah_ n xr1.2 15).bind fun xr2=>(cond (xr2.1 == 0) ((ah_ n xr2.2 4).bind fun xr3=>(some ({ xr1.1 with kind:=xr3.1,doc:=(aa_.re xr1.1.doc) },xr3.2))) (cond (xr2.1 == 1) ((bu_ n xr2.2 ([(-1),0,100000,100001]:List Int)).bind fun xr4=>(some ({ xr1.1 with version:=xr4.1,doc:=(aa_.re xr1.1.doc) },xr4.2))) (cond (xr2.1 == 2) ((ah_ n xr2.2 9).bind fun xr5=>(some ({ xr1.1 with base:=(W (xr5.1 - 1)),doc:=(aa_.re xr1.1.doc) },xr5.2))) (cond (xr2.1 == 3) ((bz_ n xr2.2).bind fun xr6=>(some ({ xr1.1 with doc:=(aa_.re xr6.1) },xr6.2))) (cond (xr2.1 == 4) ((dL_ n xr2.2 (aa_.mk 0 0 [] [] [])).bind fun xr7=>(bf_ (xr1.1.ops.length+([{ xr7.1 with value:=(aa_.re xr7.1.value) }]:List TOp).length) 112 (some ({ xr1.1 with doc:=(aa_.re xr1.1.doc),ops:=(xr1.1.ops++([{ xr7.1 with value:=(aa_.re xr7.1.value) }]:List TOp)) },xr7.2)))) (some ({ xr1.1 with doc:=(aa_.re xr1.1.doc) },xr2.2)))))))))
def cU_:Nat→(List Int)→Option aX_
 |0,_=>none
 |n+1,eX_=>
  ((cb_ n eX_).bind fun xr1=>((d4_ n xr1).bind fun xr2=>(some { xr2.1 with doc:=(aa_.re xr2.1.doc) })))
def aN_:Nat→Int→Int→Int→Option Bool
 |0,_,_,_=>none
 |n+1,n1,low,high=>
  (cond (decide (n1≥low)) (some (decide (n1≤high))) (some false))
def db_:Nat→Int→Option Bool
 |0,_=>none
 |n+1,n1=>
  ((aN_ n n1 0 100000).bind fun xr1=>(some xr1))
def bm_:Nat→Int→Option Bool
 |0,_=>none
 |n+1,n1=>
  ((aN_ n n1 (-1000000000) 1000000000).bind fun xr1=>(some xr1))
abbrev az_.T3:Type:=Bs→Int→Int→Option Bool
def az_.step3 (n:Nat) (k0:Bs→Option Bool) (back:az_.T3):az_.T3:=fun s t5 t6=>
 (cond (decide (t6<t5)) (inB t6 s.length ((aN_ n (W (((s.getD t6.toNat 0).toNat:Int))) 32 126).bind fun xr1=>(cond (!xr1) (some false) (back s t5 (W (t6+1)))))) (k0 s))
def az_.loop3 (n:Nat) (k0:Bs→Option Bool) (N:Nat):az_.T3:=ct_ (fun _ _ _=>none) (az_.step3 n k0) N
def az_:Nat→Bs→Option Bool
 |0,_=>none
 |n+1,s=>
  (az_.loop3 n (fun xy2=>(some (decide ((xy2.length:Int)≤60)))) n s (s.length:Int) 0)
abbrev au_.T3:Type:=(List Bs)→(List Bs)→Int→Int→Option Bool
def au_.step3 (n:Nat) (k0:Option Bool) (back:au_.T3):au_.T3:=fun names t5 t6 t7=>
 (cond (decide (t7<t6)) (inB t7 t5.length ((az_ n (t5.getD t7.toNat [])).bind fun xr1=>(cond (!xr1) (some false) (cond (decide (t7 > 0)) (inB (W (t7 - 1)) names.length (let xv2:Bool:=(!Op.bytesLess (names.getD (W (t7 - 1)).toNat []) (t5.getD t7.toNat []));(cond xv2 (some false) (back names t5 t6 (W (t7+1)))))) (back names t5 t6 (W (t7+1))))))) k0)
def au_.loop3 (n:Nat) (k0:Option Bool) (N:Nat):au_.T3:=ct_ (fun _ _ _ _=>none) (au_.step3 n k0) N
def au_:Nat→(List Bs)→Option Bool
 |0,_=>none
 |n+1,names=>
  (au_.loop3 n (some true) n names names (names.length:Int) 0)
def eT_:Nat→aa_→Option Bool
 |0,_=>none
 |n+1,o=>
  (cond (decide ((o.list.length:Int) > 0)) (cond (o.kind != 4) (cond (o.kind != 5) (some false) (cond (decide ((o.names.length:Int) > 0)) (cond (o.kind != 5) (some false) (cond (o.n_ != 0) (cond (o.kind != 1) (cond (o.kind != 2) (some false) (cond (!(o.s == [])) (cond (o.kind != 3) (some false) (cond (o.kind == 1) ((aN_ n o.n_ 0 1).bind fun xr1=>(some xr1)) (cond (o.kind == 2) ((bm_ n o.n_).bind fun xr2=>(some xr2)) (cond (o.kind == 3) ((az_ n o.s).bind fun xr3=>(some xr3)) (cond (o.kind == 5) (cond ((o.names.length:Int) == (o.list.length:Int)) ((au_ n o.names).bind fun xr4=>(some xr4)) (some false)) (cond (o.kind == 0) (some true) (some (o.kind == 4)))))))) (cond (o.kind == 1) ((aN_ n o.n_ 0 1).bind fun xr5=>(some xr5)) (cond (o.kind == 2) ((bm_ n o.n_).bind fun xr6=>(some xr6)) (cond (o.kind == 3) ((az_ n o.s).bind fun xr7=>(some xr7)) (cond (o.kind == 5) (cond ((o.names.length:Int) == (o.list.length:Int)) ((au_ n o.names).bind fun xr8=>(some xr8)) (some false)) (cond (o.kind == 0) (some true) (some (o.kind == 4))))))))) (cond (!(o.s == [])) (cond (o.kind != 3) (some false) (cond (o.kind == 1) ((aN_ n o.n_ 0 1).bind fun xr9=>(some xr9)) (cond (o.kind == 2) ((bm_ n o.n_).bind fun xr10=>(some xr10)) (cond (o.kind == 3) ((az_ n o.s).bind fun xr11=>(some xr11)) (cond (o.kind == 5) (cond ((o.names.length:Int) == (o.list.length:Int)) ((au_ n o.names).bind fun xr12=>(some xr12)) (some false)) (cond (o.kind == 0) (some true) (some (o.kind == 4)))))))) (cond (o.kind == 1) ((aN_ n o.n_ 0 1).bind fun xr13=>(some xr13)) (cond (o.kind == 2) ((bm_ n o.n_).bind fun xr14=>(some xr14)) (cond (o.kind == 3) ((az_ n o.s).bind fun xr15=>(some xr15)) (cond (o.kind == 5) (cond ((o.names.length:Int) == (o.list.length:Int)) ((au_ n o.names).bind fun xr16=>(some xr16)) (some false)) (cond (o.kind == 0) (some true) (some (o.kind == 4))))))))) (cond (!(o.s == [])) (cond (o.kind != 3) (some false) (cond (o.kind == 1) ((aN_ n o.n_ 0 1).bind fun xr17=>(some xr17)) (cond (o.kind == 2) ((bm_ n o.n_).bind fun xr18=>(some xr18)) (cond (o.kind == 3) ((az_ n o.s).bind fun xr19=>(some xr19)) (cond (o.kind == 5) (cond ((o.names.length:Int) == (o.list.length:Int)) ((au_ n o.names).bind fun xr20=>(some xr20)) (some false)) (cond (o.kind == 0) (some true) (some (o.kind == 4)))))))) (cond (o.kind == 1) ((aN_ n o.n_ 0 1).bind fun xr21=>(some xr21)) (cond (o.kind == 2) ((bm_ n o.n_).bind fun xr22=>(some xr22)) (cond (o.kind == 3) ((az_ n o.s).bind fun xr23=>(some xr23)) (cond (o.kind == 5) (cond ((o.names.length:Int) == (o.list.length:Int)) ((au_ n o.names).bind fun xr24=>(some xr24)) (some false)) (cond (o.kind == 0) (some true) (some (o.kind == 4)))))))))) (cond (o.n_ != 0) (cond (o.kind != 1) (cond (o.kind != 2) (some false) (cond (!(o.s == [])) (cond (o.kind != 3) (some false) (cond (o.kind == 1) ((aN_ n o.n_ 0 1).bind fun xr25=>(some xr25)) (cond (o.kind == 2) ((bm_ n o.n_).bind fun xr26=>(some xr26)) (cond (o.kind == 3) ((az_ n o.s).bind fun xr27=>(some xr27)) (cond (o.kind == 5) (cond ((o.names.length:Int) == (o.list.length:Int)) ((au_ n o.names).bind fun xr28=>(some xr28)) (some false)) (cond (o.kind == 0) (some true) (some (o.kind == 4)))))))) (cond (o.kind == 1) ((aN_ n o.n_ 0 1).bind fun xr29=>(some xr29)) (cond (o.kind == 2) ((bm_ n o.n_).bind fun xr30=>(some xr30)) (cond (o.kind == 3) ((az_ n o.s).bind fun xr31=>(some xr31)) (cond (o.kind == 5) (cond ((o.names.length:Int) == (o.list.length:Int)) ((au_ n o.names).bind fun xr32=>(some xr32)) (some false)) (cond (o.kind == 0) (some true) (some (o.kind == 4))))))))) (cond (!(o.s == [])) (cond (o.kind != 3) (some false) (cond (o.kind == 1) ((aN_ n o.n_ 0 1).bind fun xr33=>(some xr33)) (cond (o.kind == 2) ((bm_ n o.n_).bind fun xr34=>(some xr34)) (cond (o.kind == 3) ((az_ n o.s).bind fun xr35=>(some xr35)) (cond (o.kind == 5) (cond ((o.names.length:Int) == (o.list.length:Int)) ((au_ n o.names).bind fun xr36=>(some xr36)) (some false)) (cond (o.kind == 0) (some true) (some (o.kind == 4)))))))) (cond (o.kind == 1) ((aN_ n o.n_ 0 1).bind fun xr37=>(some xr37)) (cond (o.kind == 2) ((bm_ n o.n_).bind fun xr38=>(some xr38)) (cond (o.kind == 3) ((az_ n o.s).bind fun xr39=>(some xr39)) (cond (o.kind == 5) (cond ((o.names.length:Int) == (o.list.length:Int)) ((au_ n o.names).bind fun xr40=>(some xr40)) (some false)) (cond (o.kind == 0) (some true) (some (o.kind == 4))))))))) (cond (!(o.s == [])) (cond (o.kind != 3) (some false) (cond (o.kind == 1) ((aN_ n o.n_ 0 1).bind fun xr41=>(some xr41)) (cond (o.kind == 2) ((bm_ n o.n_).bind fun xr42=>(some xr42)) (cond (o.kind == 3) ((az_ n o.s).bind fun xr43=>(some xr43)) (cond (o.kind == 5) (cond ((o.names.length:Int) == (o.list.length:Int)) ((au_ n o.names).bind fun xr44=>(some xr44)) (some false)) (cond (o.kind == 0) (some true) (some (o.kind == 4)))))))) (cond (o.kind == 1) ((aN_ n o.n_ 0 1).bind fun xr45=>(some xr45)) (cond (o.kind == 2) ((bm_ n o.n_).bind fun xr46=>(some xr46)) (cond (o.kind == 3) ((az_ n o.s).bind fun xr47=>(some xr47)) (cond (o.kind == 5) (cond ((o.names.length:Int) == (o.list.length:Int)) ((au_ n o.names).bind fun xr48=>(some xr48)) (some false)) (cond (o.kind == 0) (some true) (some (o.kind == 4))))))))))) (cond (decide ((o.names.length:Int) > 0)) (cond (o.kind != 5) (some false) (cond (o.n_ != 0) (cond (o.kind != 1) (cond (o.kind != 2) (some false) (cond (!(o.s == [])) (cond (o.kind != 3) (some false) (cond (o.kind == 1) ((aN_ n o.n_ 0 1).bind fun xr49=>(some xr49)) (cond (o.kind == 2) ((bm_ n o.n_).bind fun xr50=>(some xr50)) (cond (o.kind == 3) ((az_ n o.s).bind fun xr51=>(some xr51)) (cond (o.kind == 5) (cond ((o.names.length:Int) == (o.list.length:Int)) ((au_ n o.names).bind fun xr52=>(some xr52)) (some false)) (cond (o.kind == 0) (some true) (some (o.kind == 4)))))))) (cond (o.kind == 1) ((aN_ n o.n_ 0 1).bind fun xr53=>(some xr53)) (cond (o.kind == 2) ((bm_ n o.n_).bind fun xr54=>(some xr54)) (cond (o.kind == 3) ((az_ n o.s).bind fun xr55=>(some xr55)) (cond (o.kind == 5) (cond ((o.names.length:Int) == (o.list.length:Int)) ((au_ n o.names).bind fun xr56=>(some xr56)) (some false)) (cond (o.kind == 0) (some true) (some (o.kind == 4))))))))) (cond (!(o.s == [])) (cond (o.kind != 3) (some false) (cond (o.kind == 1) ((aN_ n o.n_ 0 1).bind fun xr57=>(some xr57)) (cond (o.kind == 2) ((bm_ n o.n_).bind fun xr58=>(some xr58)) (cond (o.kind == 3) ((az_ n o.s).bind fun xr59=>(some xr59)) (cond (o.kind == 5) (cond ((o.names.length:Int) == (o.list.length:Int)) ((au_ n o.names).bind fun xr60=>(some xr60)) (some false)) (cond (o.kind == 0) (some true) (some (o.kind == 4)))))))) (cond (o.kind == 1) ((aN_ n o.n_ 0 1).bind fun xr61=>(some xr61)) (cond (o.kind == 2) ((bm_ n o.n_).bind fun xr62=>(some xr62)) (cond (o.kind == 3) ((az_ n o.s).bind fun xr63=>(some xr63)) (cond (o.kind == 5) (cond ((o.names.length:Int) == (o.list.length:Int)) ((au_ n o.names).bind fun xr64=>(some xr64)) (some false)) (cond (o.kind == 0) (some true) (some (o.kind == 4))))))))) (cond (!(o.s == [])) (cond (o.kind != 3) (some false) (cond (o.kind == 1) ((aN_ n o.n_ 0 1).bind fun xr65=>(some xr65)) (cond (o.kind == 2) ((bm_ n o.n_).bind fun xr66=>(some xr66)) (cond (o.kind == 3) ((az_ n o.s).bind fun xr67=>(some xr67)) (cond (o.kind == 5) (cond ((o.names.length:Int) == (o.list.length:Int)) ((au_ n o.names).bind fun xr68=>(some xr68)) (some false)) (cond (o.kind == 0) (some true) (some (o.kind == 4)))))))) (cond (o.kind == 1) ((aN_ n o.n_ 0 1).bind fun xr69=>(some xr69)) (cond (o.kind == 2) ((bm_ n o.n_).bind fun xr70=>(some xr70)) (cond (o.kind == 3) ((az_ n o.s).bind fun xr71=>(some xr71)) (cond (o.kind == 5) (cond ((o.names.length:Int) == (o.list.length:Int)) ((au_ n o.names).bind fun xr72=>(some xr72)) (some false)) (cond (o.kind == 0) (some true) (some (o.kind == 4)))))))))) (cond (o.n_ != 0) (cond (o.kind != 1) (cond (o.kind != 2) (some false) (cond (!(o.s == [])) (cond (o.kind != 3) (some false) (cond (o.kind == 1) ((aN_ n o.n_ 0 1).bind fun xr73=>(some xr73)) (cond (o.kind == 2) ((bm_ n o.n_).bind fun xr74=>(some xr74)) (cond (o.kind == 3) ((az_ n o.s).bind fun xr75=>(some xr75)) (cond (o.kind == 5) (cond ((o.names.length:Int) == (o.list.length:Int)) ((au_ n o.names).bind fun xr76=>(some xr76)) (some false)) (cond (o.kind == 0) (some true) (some (o.kind == 4)))))))) (cond (o.kind == 1) ((aN_ n o.n_ 0 1).bind fun xr77=>(some xr77)) (cond (o.kind == 2) ((bm_ n o.n_).bind fun xr78=>(some xr78)) (cond (o.kind == 3) ((az_ n o.s).bind fun xr79=>(some xr79)) (cond (o.kind == 5) (cond ((o.names.length:Int) == (o.list.length:Int)) ((au_ n o.names).bind fun xr80=>(some xr80)) (some false)) (cond (o.kind == 0) (some true) (some (o.kind == 4))))))))) (cond (!(o.s == [])) (cond (o.kind != 3) (some false) (cond (o.kind == 1) ((aN_ n o.n_ 0 1).bind fun xr81=>(some xr81)) (cond (o.kind == 2) ((bm_ n o.n_).bind fun xr82=>(some xr82)) (cond (o.kind == 3) ((az_ n o.s).bind fun xr83=>(some xr83)) (cond (o.kind == 5) (cond ((o.names.length:Int) == (o.list.length:Int)) ((au_ n o.names).bind fun xr84=>(some xr84)) (some false)) (cond (o.kind == 0) (some true) (some (o.kind == 4)))))))) (cond (o.kind == 1) ((aN_ n o.n_ 0 1).bind fun xr85=>(some xr85)) (cond (o.kind == 2) ((bm_ n o.n_).bind fun xr86=>(some xr86)) (cond (o.kind == 3) ((az_ n o.s).bind fun xr87=>(some xr87)) (cond (o.kind == 5) (cond ((o.names.length:Int) == (o.list.length:Int)) ((au_ n o.names).bind fun xr88=>(some xr88)) (some false)) (cond (o.kind == 0) (some true) (some (o.kind == 4))))))))) (cond (!(o.s == [])) (cond (o.kind != 3) (some false) (cond (o.kind == 1) ((aN_ n o.n_ 0 1).bind fun xr89=>(some xr89)) (cond (o.kind == 2) ((bm_ n o.n_).bind fun xr90=>(some xr90)) (cond (o.kind == 3) ((az_ n o.s).bind fun xr91=>(some xr91)) (cond (o.kind == 5) (cond ((o.names.length:Int) == (o.list.length:Int)) ((au_ n o.names).bind fun xr92=>(some xr92)) (some false)) (cond (o.kind == 0) (some true) (some (o.kind == 4)))))))) (cond (o.kind == 1) ((aN_ n o.n_ 0 1).bind fun xr93=>(some xr93)) (cond (o.kind == 2) ((bm_ n o.n_).bind fun xr94=>(some xr94)) (cond (o.kind == 3) ((az_ n o.s).bind fun xr95=>(some xr95)) (cond (o.kind == 5) (cond ((o.names.length:Int) == (o.list.length:Int)) ((au_ n o.names).bind fun xr96=>(some xr96)) (some false)) (cond (o.kind == 0) (some true) (some (o.kind == 4))))))))))) (cond (decide ((o.names.length:Int) > 0)) (cond (o.kind != 5) (some false) (cond (o.n_ != 0) (cond (o.kind != 1) (cond (o.kind != 2) (some false) (cond (!(o.s == [])) (cond (o.kind != 3) (some false) (cond (o.kind == 1) ((aN_ n o.n_ 0 1).bind fun xr97=>(some xr97)) (cond (o.kind == 2) ((bm_ n o.n_).bind fun xr98=>(some xr98)) (cond (o.kind == 3) ((az_ n o.s).bind fun xr99=>(some xr99)) (cond (o.kind == 5) (cond ((o.names.length:Int) == (o.list.length:Int)) ((au_ n o.names).bind fun xr100=>(some xr100)) (some false)) (cond (o.kind == 0) (some true) (some (o.kind == 4)))))))) (cond (o.kind == 1) ((aN_ n o.n_ 0 1).bind fun xr101=>(some xr101)) (cond (o.kind == 2) ((bm_ n o.n_).bind fun xr102=>(some xr102)) (cond (o.kind == 3) ((az_ n o.s).bind fun xr103=>(some xr103)) (cond (o.kind == 5) (cond ((o.names.length:Int) == (o.list.length:Int)) ((au_ n o.names).bind fun xr104=>(some xr104)) (some false)) (cond (o.kind == 0) (some true) (some (o.kind == 4))))))))) (cond (!(o.s == [])) (cond (o.kind != 3) (some false) (cond (o.kind == 1) ((aN_ n o.n_ 0 1).bind fun xr105=>(some xr105)) (cond (o.kind == 2) ((bm_ n o.n_).bind fun xr106=>(some xr106)) (cond (o.kind == 3) ((az_ n o.s).bind fun xr107=>(some xr107)) (cond (o.kind == 5) (cond ((o.names.length:Int) == (o.list.length:Int)) ((au_ n o.names).bind fun xr108=>(some xr108)) (some false)) (cond (o.kind == 0) (some true) (some (o.kind == 4)))))))) (cond (o.kind == 1) ((aN_ n o.n_ 0 1).bind fun xr109=>(some xr109)) (cond (o.kind == 2) ((bm_ n o.n_).bind fun xr110=>(some xr110)) (cond (o.kind == 3) ((az_ n o.s).bind fun xr111=>(some xr111)) (cond (o.kind == 5) (cond ((o.names.length:Int) == (o.list.length:Int)) ((au_ n o.names).bind fun xr112=>(some xr112)) (some false)) (cond (o.kind == 0) (some true) (some (o.kind == 4))))))))) (cond (!(o.s == [])) (cond (o.kind != 3) (some false) (cond (o.kind == 1) ((aN_ n o.n_ 0 1).bind fun xr113=>(some xr113)) (cond (o.kind == 2) ((bm_ n o.n_).bind fun xr114=>(some xr114)) (cond (o.kind == 3) ((az_ n o.s).bind fun xr115=>(some xr115)) (cond (o.kind == 5) (cond ((o.names.length:Int) == (o.list.length:Int)) ((au_ n o.names).bind fun xr116=>(some xr116)) (some false)) (cond (o.kind == 0) (some true) (some (o.kind == 4)))))))) (cond (o.kind == 1) ((aN_ n o.n_ 0 1).bind fun xr117=>(some xr117)) (cond (o.kind == 2) ((bm_ n o.n_).bind fun xr118=>(some xr118)) (cond (o.kind == 3) ((az_ n o.s).bind fun xr119=>(some xr119)) (cond (o.kind == 5) (cond ((o.names.length:Int) == (o.list.length:Int)) ((au_ n o.names).bind fun xr120=>(some xr120)) (some false)) (cond (o.kind == 0) (some true) (some (o.kind == 4)))))))))) (cond (o.n_ != 0) (cond (o.kind != 1) (cond (o.kind != 2) (some false) (cond (!(o.s == [])) (cond (o.kind != 3) (some false) (cond (o.kind == 1) ((aN_ n o.n_ 0 1).bind fun xr121=>(some xr121)) (cond (o.kind == 2) ((bm_ n o.n_).bind fun xr122=>(some xr122)) (cond (o.kind == 3) ((az_ n o.s).bind fun xr123=>(some xr123)) (cond (o.kind == 5) (cond ((o.names.length:Int) == (o.list.length:Int)) ((au_ n o.names).bind fun xr124=>(some xr124)) (some false)) (cond (o.kind == 0) (some true) (some (o.kind == 4)))))))) (cond (o.kind == 1) ((aN_ n o.n_ 0 1).bind fun xr125=>(some xr125)) (cond (o.kind == 2) ((bm_ n o.n_).bind fun xr126=>(some xr126)) (cond (o.kind == 3) ((az_ n o.s).bind fun xr127=>(some xr127)) (cond (o.kind == 5) (cond ((o.names.length:Int) == (o.list.length:Int)) ((au_ n o.names).bind fun xr128=>(some xr128)) (some false)) (cond (o.kind == 0) (some true) (some (o.kind == 4))))))))) (cond (!(o.s == [])) (cond (o.kind != 3) (some false) (cond (o.kind == 1) ((aN_ n o.n_ 0 1).bind fun xr129=>(some xr129)) (cond (o.kind == 2) ((bm_ n o.n_).bind fun xr130=>(some xr130)) (cond (o.kind == 3) ((az_ n o.s).bind fun xr131=>(some xr131)) (cond (o.kind == 5) (cond ((o.names.length:Int) == (o.list.length:Int)) ((au_ n o.names).bind fun xr132=>(some xr132)) (some false)) (cond (o.kind == 0) (some true) (some (o.kind == 4)))))))) (cond (o.kind == 1) ((aN_ n o.n_ 0 1).bind fun xr133=>(some xr133)) (cond (o.kind == 2) ((bm_ n o.n_).bind fun xr134=>(some xr134)) (cond (o.kind == 3) ((az_ n o.s).bind fun xr135=>(some xr135)) (cond (o.kind == 5) (cond ((o.names.length:Int) == (o.list.length:Int)) ((au_ n o.names).bind fun xr136=>(some xr136)) (some false)) (cond (o.kind == 0) (some true) (some (o.kind == 4))))))))) (cond (!(o.s == [])) (cond (o.kind != 3) (some false) (cond (o.kind == 1) ((aN_ n o.n_ 0 1).bind fun xr137=>(some xr137)) (cond (o.kind == 2) ((bm_ n o.n_).bind fun xr138=>(some xr138)) (cond (o.kind == 3) ((az_ n o.s).bind fun xr139=>(some xr139)) (cond (o.kind == 5) (cond ((o.names.length:Int) == (o.list.length:Int)) ((au_ n o.names).bind fun xr140=>(some xr140)) (some false)) (cond (o.kind == 0) (some true) (some (o.kind == 4)))))))) (cond (o.kind == 1) ((aN_ n o.n_ 0 1).bind fun xr141=>(some xr141)) (cond (o.kind == 2) ((bm_ n o.n_).bind fun xr142=>(some xr142)) (cond (o.kind == 3) ((az_ n o.s).bind fun xr143=>(some xr143)) (cond (o.kind == 5) (cond ((o.names.length:Int) == (o.list.length:Int)) ((au_ n o.names).bind fun xr144=>(some xr144)) (some false)) (cond (o.kind == 0) (some true) (some (o.kind == 4)))))))))))
abbrev bI_.T7:Type:=Int→Int→(List aa_)→Int→Int→Option Int
def bI_.step7 (n:Nat) (impl_sizeIn_:aa_→Int→Option Int) (k0:Int→Option Int) (back:bI_.T7):bI_.T7:=fun deep n_1 t16 t17 t18=>
 (cond (decide (t18<t17)) (inB t18 t16.length ((impl_sizeIn_ (aa_.re (t16.getD t18.toNat aa_.dflt)) (W (deep - 1))).bind fun xr2=>(cond (decide ((W (n_1+xr2)) > 400)) (some 401) (back deep (W (n_1+xr2)) t16 t17 (W (t18+1)))))) (k0 n_1))
def bI_.loop7 (n:Nat) (impl_sizeIn_:aa_→Int→Option Int) (k0:Int→Option Int) (N:Nat):bI_.T7:=ct_ (fun _ _ _ _ _=>none) (bI_.step7 n impl_sizeIn_ k0) N
def bI_:Nat→aa_→Int→Option Int
 |0,_,_=>none
 |n+1,j,deep=>
  (cond (decide (deep<1)) (some 401) ((eT_ n (aa_.re j)).bind fun xr1=>(cond (!xr1) (some 401) (bI_.loop7 n (bI_ n) (fun xy3=>(some xy3)) n deep 1 j.list (j.list.length:Int) 0))))
def c7_:Nat→aa_→Option Bool
 |0,_=>none
 |n+1,j=>
  ((bI_ n (aa_.re j) 6).bind fun xr1=>(some (decide (xr1≤400))))
abbrev bW_.K4:Type:=(List Int)→Option Bs
abbrev bW_.T4:Type:=Bs→Int→Int→(List Int)→Option Bs
def bW_.step4 (n:Nat) (k0:bW_.K4) (back:bW_.T4):bW_.T4:=fun s t7 t8 out_1=>
 (cond (decide (t8<t7)) (inB t8 s.length (cond (((s.getD t8.toNat 0).toNat:Int) == 34) (bf_ (out_1.length+([92]:List Int).length) 1 (inB t8 s.length (bf_ ((out_1++([92]:List Int)).length+([((s.getD t8.toNat 0).toNat:Int)]:List Int).length) 1 (back s t7 (W (t8+1)) ((out_1++([92]:List Int))++([((s.getD t8.toNat 0).toNat:Int)]:List Int)))))) (inB t8 s.length (cond (((s.getD t8.toNat 0).toNat:Int) == 92) (bf_ (out_1.length+([92]:List Int).length) 1 (inB t8 s.length (bf_ ((out_1++([92]:List Int)).length+([((s.getD t8.toNat 0).toNat:Int)]:List Int).length) 1 (back s t7 (W (t8+1)) ((out_1++([92]:List Int))++([((s.getD t8.toNat 0).toNat:Int)]:List Int)))))) (inB t8 s.length (bf_ (out_1.length+([((s.getD t8.toNat 0).toNat:Int)]:List Int).length) 1 (back s t7 (W (t8+1)) (out_1++([((s.getD t8.toNat 0).toNat:Int)]:List Int))))))))) (k0 out_1))
def bW_.loop4 (n:Nat) (k0:bW_.K4) (N:Nat):bW_.T4:=ct_ (fun _ _ _ _=>none) (bW_.step4 n k0) N
def bW_:Nat→Bs→Option Bs
 |0,_=>none
 |n+1,s=>
  (bW_.loop4 n (fun xy1=>(bf_ (xy1.length+([34]:List Int).length) 1 (some (iv_ (xy1++([34]:List Int)))))) n s (s.length:Int) 0 ([34]:List Int))
def strconv_Itoa:Nat→Int→Option Bs
 |0,_=>none
 |_+1,i=>nItoa i
def strings_Join:Nat→List Bs→Bs→Option Bs
 |0,_,_=>none
 |_+1,l,s=>nJoin l s
abbrev a8_.K4_1:Type:=Int→Int→Bs→(List aa_)→(List Bs)→(List Bs)→Option Bs
abbrev a8_.T4:Type:=(List aa_)→Int→Int→Int→Int→Bs→(List aa_)→(List Bs)→(List Bs)→Option Bs
def a8_.step4 (n:Nat) (impl_written_:aa_→Option Bs) (k0:a8_.K4_1) (back:a8_.T4):a8_.T4:=fun t9 t10 t11 append0 append1 append2 append3 append4 t3=>
 (cond (decide (t11<t10)) (inB t11 t9.length ((impl_written_ (aa_.re (t9.getD t11.toNat aa_.dflt))).bind fun xr1=>(cond (append0 == 5) (inB t11 append4.length ((bW_ n (append4.getD t11.toNat [])).bind fun xr2=>(cond (decide (xr2.length+[58].length≤9223372036854775807)) (cond (decide ((xr2++[58]).length+xr1.length≤9223372036854775807)) (bf_ (t3.length+([((xr2++[58])++xr1)]:List Bs).length) 16 (back t9 t10 (W (t11+1)) append0 append1 append2 append3 append4 (t3++([((xr2++[58])++xr1)]:List Bs)))) none) none))) (bf_ (t3.length+([xr1]:List Bs).length) 16 (back t9 t10 (W (t11+1)) append0 append1 append2 append3 append4 (t3++([xr1]:List Bs))))))) (k0 append0 append1 append2 append3 append4 t3))
def a8_.loop4 (n:Nat) (impl_written_:aa_→Option Bs) (k0:a8_.K4_1) (N:Nat):a8_.T4:=ct_ (fun _ _ _ _ _ _ _ _ _=>none) (a8_.step4 n impl_written_ k0) N
def a8_:Nat→aa_→Option Bs
 |0,_=>none
 |n+1,o=>
  (a8_.loop4 n (a8_ n) (fun xy3 xy4 xy5 xy6 xy7 xy8=>(cond (xy3 == 0) (some [110,117,108,108]) (cond (xy3 == 1) (inB xy4 ([[102,97,108,115,101],[116,114,117,101]]:List Bs).length (let xv9:Bs:=(([[102,97,108,115,101],[116,114,117,101]]:List Bs).getD xy4.toNat []);(some xv9))) (cond (xy3 == 2) ((strconv_Itoa n xy4).bind fun xr10=>(some xr10)) (cond (xy3 == 3) ((bW_ n xy5).bind fun xr11=>(some xr11)) (cond (xy3 == 4) ((strings_Join n xy8 [44]).bind fun xr12=>(cond (decide ([91].length+xr12.length≤9223372036854775807)) (cond (decide ((([91]:Bs)++xr12).length+[93].length≤9223372036854775807)) (some ((([91]:Bs)++xr12)++[93])) none) none)) ((strings_Join n xy8 [44]).bind fun xr13=>(cond (decide ([123].length+xr13.length≤9223372036854775807)) (cond (decide ((([123]:Bs)++xr13).length+[125].length≤9223372036854775807)) (some ((([123]:Bs)++xr13)++[125])) none) none)))))))) n o.list (o.list.length:Int) 0 o.kind o.n_ o.s o.list o.names ([]:List Bs))
def dq_:Nat→aa_→Option Bs
 |0,_=>none
 |n+1,j=>
  ((c7_ n (aa_.re j)).bind fun xr1=>(cond (!xr1) (some []) ((a8_ n (aa_.re j)).bind fun xr2=>(cond (decide ((xr2.length:Int) > 6000)) (some []) (some xr2)))))
def dW_:Nat→aa_→Option Bool
 |0,_=>none
 |n+1,j=>
  (cond (j.kind == 0) (cond (j.n_ == 0) (cond (j.s == []) (cond ((j.list.length:Int) == 0) (some ((j.names.length:Int) == 0)) (some false)) (some false)) (some false)) (some false))
abbrev cs_.K3:Type:=Int→(List Bs)→Int→Int→Bs→(List aa_)→(List Bs)→Option Bool
abbrev cs_.T3:Type:=(List Bs)→Int→Int→Int→(List Bs)→Int→Int→Bs→(List aa_)→(List Bs)→Option Bool
def cs_.step3 (n:Nat) (k0:cs_.K3) (back:cs_.T3):cs_.T3:=fun t6 t7 t8 o0 o1 o2 o3 o4 o5 o6=>
 (cond (decide (t8<t7)) (inB t8 t6.length ((az_ n (t6.getD t8.toNat [])).bind fun xr1=>(cond (!xr1) (some false) (back t6 t7 (W (t8+1)) o0 o1 o2 o3 o4 o5 o6)))) (k0 o0 o1 o2 o3 o4 o5 o6))
def cs_.loop3 (n:Nat) (k0:cs_.K3) (N:Nat):cs_.T3:=ct_ (fun _ _ _ _ _ _ _ _ _ _=>none) (cs_.step3 n k0) N
def cs_:Nat→TOp→Option Bool
 |0,_=>none
 |n+1,o=>
  (cs_.loop3 n (fun xy2 xy3 xy4 xy5 xy6 xy7 xy8=>((aN_ n xy2 1 4).bind fun xr9=>(cond xr9 (cond (decide ((xy3.length:Int)≤6)) ((c7_ n (aa_.mk xy4 xy5 xy6 xy7 xy8)).bind fun xr10=>(cond xr10 (cond (xy2 != 2) (some true) ((dW_ n (aa_.mk xy4 xy5 xy6 xy7 xy8)).bind fun xr11=>(some xr11))) (some false))) (some false)) (some false)))) n o.way (o.way.length:Int) 0 o.kind o.way o.value.kind o.value.n_ o.value.s o.value.list o.value.names)
def dl_:Nat→Unit→Option (List Bs)
 |0,_=>none
 |n+1,_u=>
  (some ([[97,100,100],[114,101,109,111,118,101],[114,101,112,108,97,99,101],[116,101,115,116]]:List Bs))
def strings_ReplaceAll:Nat→Bs→Bs→Bs→Option Bs
 |0,_,_,_=>none
 |_+1,s,a,b=>gk_ s a b
abbrev bS_.T4:Type:=Bs→(List Bs)→Int→Int→Option Bs
def bS_.step4 (n:Nat) (k0:Bs→Option Bs) (back:bS_.T4):bS_.T4:=fun out_1 t6 t7 t8=>
 (cond (decide (t8<t7)) (inB t8 t6.length ((strings_ReplaceAll n (t6.getD t8.toNat []) [126] [126,48]).bind fun xr1=>((strings_ReplaceAll n xr1 [47] [126,49]).bind fun xr2=>(cond (decide ([47].length+xr2.length≤9223372036854775807)) (cond (decide (out_1.length+(([47]:Bs)++xr2).length≤9223372036854775807)) (back (out_1++(([47]:Bs)++xr2)) t6 t7 (W (t8+1))) none) none)))) (k0 out_1))
def bS_.loop4 (n:Nat) (k0:Bs→Option Bs) (N:Nat):bS_.T4:=ct_ (fun _ _ _ _=>none) (bS_.step4 n k0) N
def bS_:Nat→(List Bs)→Option Bs
 |0,_=>none
 |n+1,way=>
  (bS_.loop4 n (fun xy3=>(some xy3)) n [] way (way.length:Int) 0)
def dx_:Nat→(List Bs)→Option (List Bs)
 |0,_=>none
 |n+1,l=>
  (bf_ (([]:List Bs).length+l.length) 16 (some (([]:List Bs)++l)))
abbrev a7_.K4_1:Type:=Int→Int→Bs→Int→Int→Bs→(List aa_)→(List Bs)→Option aa_
abbrev a7_.T4:Type:=(List aa_)→Int→Int→Int→Int→Bs→Int→Int→Bs→(List aa_)→(List Bs)→Option aa_
def a7_.step4 (n:Nat) (impl_copyJson_:aa_→Option aa_) (k0:a7_.K4_1) (back:a7_.T4):a7_.T4:=fun t17 t18 t19 t20 t21 t22 out0 out1 out2 out3 out4=>
 (cond (decide (t19<t18)) (inB t19 t17.length ((impl_copyJson_ (aa_.re (t17.getD t19.toNat aa_.dflt))).bind fun xr2=>(bf_ (out3.length+([(aa_.re xr2)]:List aa_).length) 80 (back t17 t18 (W (t19+1)) t20 t21 t22 out0 out1 out2 (out3++([(aa_.re xr2)]:List aa_)) out4)))) (k0 t20 t21 t22 out0 out1 out2 out3 out4))
def a7_.loop4 (n:Nat) (impl_copyJson_:aa_→Option aa_) (k0:a7_.K4_1) (N:Nat):a7_.T4:=ct_ (fun _ _ _ _ _ _ _ _ _ _ _=>none) (a7_.step4 n impl_copyJson_ k0) N
def a7_:Nat→aa_→Option aa_
 |0,_=>none
 |n+1,j=>
  ((dx_ n j.names).bind fun xr1=>(a7_.loop4 n (a7_ n) (fun xy3 xy4 xy5 xy6 xy7 xy8 xy9 xy10=>(some (aa_.mk xy6 xy7 xy8 xy9 xy10))) n j.list (j.list.length:Int) 0 0 0 [] j.kind j.n_ j.s ([]:List aa_) xr1))
def eb_:Nat→aa_→Option aa_
 |0,_=>none
 |n+1,j=>
  ((c7_ n (aa_.re j)).bind fun xr1=>(cond (!xr1) (some (aa_.mk 0 0 [] ([]:List aa_) ([]:List Bs))) (some (aa_.re j))))
def ed_:Nat→TOp→Option aa_
 |0,_=>none
 |n+1,o=>
  ((cs_ n (TOp.mk o.kind o.way (aa_.re o.value))).bind fun xr1=>(cond (!xr1) (some (aa_.mk 0 0 [] ([]:List aa_) ([]:List Bs))) ((dl_ n ()).bind fun xr2=>(inB (W (o.kind - 1)) xr2.length ((bS_ n o.way).bind fun xr3=>(cond (o.kind != 2) (bf_ (([[111,112],[112,97,116,104]]:List Bs).length+([[118,97,108,117,101]]:List Bs).length) 16 ((a7_ n (aa_.re o.value)).bind fun xr4=>(bf_ (([(aa_.mk 3 0 (xr2.getD ((W (o.kind - 1)).toNat) []) [] []),(aa_.mk 3 0 xr3 [] [])]:List aa_).length+([(aa_.re xr4)]:List aa_).length) 80 ((eb_ n (aa_.mk 5 0 [] (([(aa_.mk 3 0 (xr2.getD ((W (o.kind - 1)).toNat) []) [] []),(aa_.mk 3 0 xr3 [] [])]:List aa_)++([(aa_.re xr4)]:List aa_)) (([[111,112],[112,97,116,104]]:List Bs)++([[118,97,108,117,101]]:List Bs)))).bind fun xr5=>(some (aa_.re xr5)))))) ((eb_ n (aa_.mk 5 0 [] ([(aa_.mk 3 0 (xr2.getD ((W (o.kind - 1)).toNat) []) [] []),(aa_.mk 3 0 xr3 [] [])]:List aa_) ([[111,112],[112,97,116,104]]:List Bs))).bind fun xr6=>(some (aa_.re xr6)))))))))
abbrev bq_.K4:Type:=Int→Int→Bs→Int→Int→Bs→(List aa_)→Option (aa_ × Bool)
abbrev bq_.T4:Type:=(List TOp)→Int→Int→Int→Int→Bs→Int→Int→Bs→(List aa_)→Option (aa_ × Bool)
def bq_.step4 (n:Nat) (k0:bq_.K4) (back:bq_.T4):bq_.T4:=fun t9 t10 t11 t20 t21 t22 j0 j1 j2 j3=>
 (cond (decide (t11<t10)) (inB t11 t9.length ((ed_ n { (t9.getD t11.toNat TOp.dflt) with value:=(aa_.re ((t9.getD t11.toNat TOp.dflt).value)) }).bind fun xr1=>(cond (xr1.kind == 0) (some ((aa_.mk 0 0 [] ([]:List aa_) ([]:List Bs)),false)) (bf_ (j3.length+([(aa_.re xr1)]:List aa_).length) 80 (back t9 t10 (W (t11+1)) t20 t21 t22 j0 j1 j2 (j3++([(aa_.re xr1)]:List aa_))))))) (k0 t20 t21 t22 j0 j1 j2 j3))
def bq_.loop4 (n:Nat) (k0:bq_.K4) (N:Nat):bq_.T4:=ct_ (fun _ _ _ _ _ _ _ _ _ _=>none) (bq_.step4 n k0) N
def bq_:Nat→(List TOp)→Option (aa_ × Bool)
 |0,_=>none
 |n+1,list=>
  (bq_.loop4 n (fun xy2 xy3 xy4 xy5 xy6 xy7 xy8=>(some ((aa_.mk xy5 xy6 xy7 xy8 ([]:List Bs)),true))) n list (list.length:Int) 0 0 0 [] 4 0 [] ([]:List aa_))
def dy_:Nat→(List TOp)→Option Int
 |0,_=>none
 |n+1,list=>
  ((bq_ n list).bind fun xr1=>((dq_ n (aa_.re xr1.1)).bind fun xr2=>(cond (!xr1.2) (some (-1)) (cond (xr2 == []) (some (-1)) (some (xr2.length:Int))))))
def cT_:Nat→aX_→Option Bool
 |0,_=>none
 |n+1,e=>
  (cond (e.kind == 1) ((db_ n e.version).bind fun xr1=>(cond xr1 (cond (e.base == 0) ((dq_ n (aa_.re e.doc)).bind fun xr2=>(cond (!(xr2 == [])) (some ((e.ops.length:Int) == 0)) (some false))) (some false)) (some false))) (cond (e.kind == 2) ((db_ n e.version).bind fun xr3=>(cond xr3 ((aN_ n e.base 0 (W (e.version - 1))).bind fun xr4=>(cond xr4 ((dW_ n (aa_.re e.doc)).bind fun xr5=>(cond xr5 (cond (decide ((e.ops.length:Int)≤40)) ((dy_ n e.ops).bind fun xr6=>(some (decide (xr6≥0)))) (some false)) (some false))) (some false))) (some false))) (some false)))
def ec_:Nat→Int→Option Bs
 |0,_=>none
 |n+1,n1=>
  ((strconv_Itoa n n1).bind fun xr1=>(some xr1))
def co_:Nat→aX_→Option Bs
 |0,_=>none
 |n+1,e=>
  ((cT_ n { e with doc:=(aa_.re e.doc) }).bind fun xr1=>(cond (!xr1) (some []) ((ec_ n e.version).bind fun xr2=>(cond (decide ([105,100,58,32].length+xr2.length≤9223372036854775807)) (cond (decide ((([105,100,58,32]:Bs)++xr2).length+[10].length≤9223372036854775807)) (cond (e.kind == 1) (cond (decide ([101,118,101,110,116,58,32,115,110,97,112,10].length+((([105,100,58,32]:Bs)++xr2)++[10]).length≤9223372036854775807)) (let xv3:Bs:=(([101,118,101,110,116,58,32,115,110,97,112,10]:Bs)++((([105,100,58,32]:Bs)++xr2)++[10]));(cond (decide (xv3.length+[100,97,116,97,58,32].length≤9223372036854775807)) ((dq_ n (aa_.re e.doc)).bind fun xr4=>(cond (decide ((xv3++[100,97,116,97,58,32]).length+xr4.length≤9223372036854775807)) (cond (decide (((xv3++[100,97,116,97,58,32])++xr4).length+[10,10].length≤9223372036854775807)) (some (((xv3++[100,97,116,97,58,32])++xr4)++[10,10])) none) none)) none)) none) ((bq_ n e.ops).bind fun xr5=>(cond (decide ([101,118,101,110,116,58,32,112,97,116,99,104,10].length+((([105,100,58,32]:Bs)++xr2)++[10]).length≤9223372036854775807)) (let xv6:Bs:=(([101,118,101,110,116,58,32,112,97,116,99,104,10]:Bs)++((([105,100,58,32]:Bs)++xr2)++[10]));(cond (decide (xv6.length+[98,97,115,101,58,32].length≤9223372036854775807)) ((ec_ n e.base).bind fun xr7=>(cond (decide ((xv6++[98,97,115,101,58,32]).length+xr7.length≤9223372036854775807)) (cond (decide (((xv6++[98,97,115,101,58,32])++xr7).length+[10,100,97,116,97,58,32].length≤9223372036854775807)) (let xv8:Bs:=(((xv6++[98,97,115,101,58,32])++xr7)++[10,100,97,116,97,58,32]);((dq_ n (aa_.re xr5.1)).bind fun xr9=>(cond (decide (xv8.length+xr9.length≤9223372036854775807)) (cond (decide ((xv8++xr9).length+[10,10].length≤9223372036854775807)) (some ((xv8++xr9)++[10,10])) none) none))) none) none)) none)) none))) none) none))))
abbrev bN_.K4:Type:=(List TOp)→Int→Int→Bs→Int→Int→Bs→(List aa_)→Option (aa_ × Bool)
abbrev bN_.T4:Type:=(List TOp)→Int→Int→Int→Bs→Int→Int→Bs→(List aa_)→Option (aa_ × Bool)
def bN_.step4 (n:Nat) (k0:bN_.K4) (back:bN_.T4):bN_.T4:=fun list i t20 t21 t22 j0 j1 j2 j3=>
 (cond (decide (i<(list.length:Int))) (inB i list.length ((dU_ n { (list.getD i.toNat TOp.dflt) with value:=(aa_.re ((list.getD i.toNat TOp.dflt).value)) }).bind fun xr1=>(cond (xr1.kind == 0) (some ((aa_.mk j0 j1 j2 j3 ([]:List Bs)),false)) (bf_ (j3.length+([(aa_.re xr1)]:List aa_).length) 80 (back list (W (i+1)) t20 t21 t22 j0 j1 j2 (j3++([(aa_.re xr1)]:List aa_))))))) (k0 list t20 t21 t22 j0 j1 j2 j3))
def bN_.loop4 (n:Nat) (k0:bN_.K4) (N:Nat):bN_.T4:=ct_ (fun _ _ _ _ _ _ _ _ _=>none) (bN_.step4 n k0) N
def bN_:Nat→(List TOp)→Option (aa_ × Bool)
 |0,_=>none
 |n+1,list=>
  (bN_.loop4 n (fun xy2 xy3 xy4 xy5 xy6 xy7 xy8 xy9=>(cond (decide ((xy2.length:Int)≤40)) ((cZ_ n (aa_.mk xy6 xy7 xy8 xy9 [])).bind fun xr10=>(some ((aa_.mk xy6 xy7 xy8 xy9 ([]:List Bs)),(!(xr10 == []))))) (some ((aa_.mk xy6 xy7 xy8 xy9 ([]:List Bs)),false)))) n list 0 0 0 [] 4 0 [] ([]:List aa_))
def d8_:Nat→aX_→Option Bool
 |0,_=>none
 |n+1,e=>
  ((b4_ n e.version 0 100000).bind fun xr1=>(cond (!xr1) (some false) (cond (e.kind == 1) (cond (e.base == 0) (cond ((e.ops.length:Int) == 0) ((cZ_ n (aa_.re e.doc)).bind fun xr2=>(some (!(xr2 == [])))) (some false)) (some false)) (cond (e.kind == 2) ((bN_ n e.ops).bind fun xr3=>(cond xr3.2 ((b4_ n e.base 0 (W (e.version - 1))).bind fun xr4=>(cond xr4 ((aq_ n (aa_.re e.doc) (aa_.mk 0 0 [] [] [])).bind fun xr5=>(some xr5)) (some false))) (some false))) (some false)))))
def c3_:Nat→aX_→Option Bs
 |0,_=>none
 |n+1,e=>
  ((d8_ n { e with doc:=(aa_.re e.doc) }).bind fun xr1=>(cond (!xr1) (some []) ((aK_ n e.version).bind fun xr2=>(cond (decide ([105,100,58,32].length+xr2.length≤9223372036854775807)) (cond (decide ((([105,100,58,32]:Bs)++xr2).length+[10].length≤9223372036854775807)) (cond (e.kind == 1) (cond (decide ([101,118,101,110,116,58,32,115,110,97,112,10].length+((([105,100,58,32]:Bs)++xr2)++[10]).length≤9223372036854775807)) (let xv3:Bs:=(([101,118,101,110,116,58,32,115,110,97,112,10]:Bs)++((([105,100,58,32]:Bs)++xr2)++[10]));(cond (decide (xv3.length+[100,97,116,97,58,32].length≤9223372036854775807)) ((cZ_ n (aa_.re e.doc)).bind fun xr4=>(cond (decide ((xv3++[100,97,116,97,58,32]).length+xr4.length≤9223372036854775807)) (cond (decide (((xv3++[100,97,116,97,58,32])++xr4).length+[10,10].length≤9223372036854775807)) (some (((xv3++[100,97,116,97,58,32])++xr4)++[10,10])) none) none)) none)) none) ((bN_ n e.ops).bind fun xr5=>(cond (decide ([101,118,101,110,116,58,32,112,97,116,99,104,10].length+((([105,100,58,32]:Bs)++xr2)++[10]).length≤9223372036854775807)) (let xv6:Bs:=(([101,118,101,110,116,58,32,112,97,116,99,104,10]:Bs)++((([105,100,58,32]:Bs)++xr2)++[10]));(cond (decide (xv6.length+[98,97,115,101,58,32].length≤9223372036854775807)) ((aK_ n e.base).bind fun xr7=>(cond (decide ((xv6++[98,97,115,101,58,32]).length+xr7.length≤9223372036854775807)) (cond (decide (((xv6++[98,97,115,101,58,32])++xr7).length+[10,100,97,116,97,58,32].length≤9223372036854775807)) (let xv8:Bs:=(((xv6++[98,97,115,101,58,32])++xr7)++[10,100,97,116,97,58,32]);((cZ_ n (aa_.re xr5.1)).bind fun xr9=>(cond (decide (xv8.length+xr9.length≤9223372036854775807)) (cond (decide ((xv8++xr9).length+[10,10].length≤9223372036854775807)) (some ((xv8++xr9)++[10,10])) none) none))) none) none)) none)) none))) none) none))))
def bi_:Nat→Bs→Bs→Option Bool
 |0,_,_=>none
 |n+1,s,prefix1=>
  (cond (decide ((s.length:Int)≥(prefix1.length:Int))) (gO_ 0 (prefix1.length:Int) s.length (some (((s.take (prefix1.length:Int).toNat).drop 0) == prefix1))) (some false))
def bR_:Nat→Bs→Bs→Option (Bs × Bool)
 |0,_,_=>none
 |n+1,s,prefix1=>
  ((bi_ n s prefix1).bind fun xr1=>(cond (!xr1) (some (s,false)) (gO_ (prefix1.length:Int) (s.length:Int) s.length (some (((s.take (s.length:Int).toNat).drop (prefix1.length:Int).toNat),true)))))
def cP_:Nat→Bs→Bs→Option (Bs × Bool)
 |0,_,_=>none
 |n+1,s,prefix1=>
  ((bR_ n s prefix1).bind fun xr1=>(some (xr1.1,xr1.2)))
def b7_:Nat→Bs→Bs→Option Int
 |0,_,_=>none
 |_+1,s,a=>rO_ s a
def ci_:Nat→Bs→Bs→Option (Bs × Bs × Bool)
 |0,_,_=>none
 |n+1,s,sep=>
  ((b7_ n s sep).bind fun xr1=>(cond (decide (xr1≥0)) (gO_ 0 xr1 s.length (gO_ (W (xr1+(sep.length:Int))) (s.length:Int) s.length (let xv2:Bs:=((s.take (s.length:Int).toNat).drop (W (xr1+(sep.length:Int))).toNat);(some (((s.take xr1.toNat).drop 0),xv2,true))))) (some (s,[],false))))
def ep_:Nat→Bs→Bs→Option (Bs × Bs × Bool)
 |0,_,_=>none
 |n+1,s,sep=>
  ((ci_ n s sep).bind fun xr1=>(some (xr1.1,xr1.2.1,xr1.2.2)))
def bH_:Nat→Bs→Bs→Option Bs
 |0,_,_=>none
 |n+1,s,prefix1=>
  ((bi_ n s prefix1).bind fun xr1=>(cond xr1 (gO_ (prefix1.length:Int) (s.length:Int) s.length (some ((s.take (s.length:Int).toNat).drop (prefix1.length:Int).toNat))) (some s)))
def cH_:Nat→Bs→Bs→Option Bs
 |0,_,_=>none
 |n+1,s,prefix1=>
  ((bH_ n s prefix1).bind fun xr1=>(some xr1))
def dp_:Nat→Bs→Bs→Option (Bs × Bs)
 |0,_,_=>none
 |n+1,text,word=>
  ((ep_ n text [10]).bind fun xr1=>((cH_ n xr1.1 word).bind fun xr2=>(some (xr2,xr1.2.1))))
def cS_:Nat→Bs→Option (Int × Bool)
 |0,_=>none
 |_+1,s=>nAtoi s
def bs_:Nat→aB_→Bs→Option (Bool × aB_)
 |0,_,_=>none
 |n+1,r,text=>
  ((cP_ n r.text text).bind fun xr1=>(cond xr1.2 (some ((!r.bad),(aB_.mk xr1.1 r.bad))) (some (false,(aB_.mk xr1.1 r.bad)))))
def c0_:Nat→Bs→Bs→Option Bool
 |0,_,_=>none
 |n+1,s,prefix1=>
  ((bi_ n s prefix1).bind fun xr1=>(some xr1))
def cl_:Nat→aB_→Bs→Option aB_
 |0,_,_=>none
 |n+1,r,text=>
  ((bs_ n r text).bind fun xr1=>(cond (!xr1.1) (some (aB_.mk xr1.2.text true)) (some xr1.2)))
abbrev aw_.K4:Type:=Bs→Bool→Option (Bs × aB_)
abbrev aw_.T4:Type:=Bs→Bool→(List Int)→Option (Bs × aB_)
def aw_.step4 (n:Nat) (k0:aw_.K4) (back:aw_.T4):aw_.T4:=fun r0 r1 out_1=>
 (cond (!r1) ((bs_ n (aB_.mk r0 r1) [34]).bind fun xr2=>(cond xr2.1 (some ((iv_ out_1),xr2.2)) ((bs_ n xr2.2 [92]).bind fun xr3=>(cond (xr3.2.text == []) (k0 xr3.2.text true) (inB 0 xr3.2.text.length (bf_ (out_1.length+([((xr3.2.text.getD 0 0).toNat:Int)]:List Int).length) 1 (gO_ 1 (xr3.2.text.length:Int) xr3.2.text.length (back ((xr3.2.text.take (xr3.2.text.length:Int).toNat).drop 1) xr3.2.bad (out_1++([((xr3.2.text.getD 0 0).toNat:Int)]:List Int)))))))))) (k0 r0 r1))
def aw_.loop4 (n:Nat) (k0:aw_.K4) (N:Nat):aw_.T4:=ct_ (fun _ _ _=>none) (aw_.step4 n k0) N
def aw_:Nat→aB_→Option (Bs × aB_)
 |0,_=>none
 |n+1,r=>
  ((cl_ n r [34]).bind fun xr1=>(aw_.loop4 n (fun xy4 xy5=>(some ([],(aB_.mk xy4 xy5)))) n xr1.text xr1.bad ([]:List Int)))
abbrev ao_.K3:Type:=Int→Bs→Bool→Int→Int→Bs→Option (aa_ × aB_)
abbrev ao_.T3:Type:=Int→Bs→Bool→Int→Int→Bs→Option (aa_ × aB_)
def ao_.step3 (n:Nat) (k0:ao_.K3) (back:ao_.T3):ao_.T3:=fun n_1 r0 r1 t20 t21 t22=>
 (cond (decide (n_1<(r0.length:Int))) (inB n_1 r0.length ((aN_ n (W (((r0.getD n_1.toNat 0).toNat:Int))) 48 57).bind fun xr1=>(cond xr1 (back (W (n_1+1)) r0 r1 t20 t21 t22) (cond (n_1 == 0) (inB 0 r0.length (cond (((r0.getD 0 0).toNat:Int) == 45) (back (W (n_1+1)) r0 r1 t20 t21 t22) (k0 n_1 r0 r1 t20 t21 t22))) (k0 n_1 r0 r1 t20 t21 t22))))) (k0 n_1 r0 r1 t20 t21 t22))
def ao_.loop3 (n:Nat) (k0:ao_.K3) (N:Nat):ao_.T3:=ct_ (fun _ _ _ _ _ _=>none) (ao_.step3 n k0) N
def ao_:Nat→aB_→Option (aa_ × aB_)
 |0,_=>none
 |n+1,r=>
  (ao_.loop3 n (fun xy2 xy3 xy4 xy5 xy6 xy7=>(gO_ 0 xy2 xy3.length ((cS_ n ((xy3.take xy2.toNat).drop 0)).bind fun xr8=>(cond (!xr8.2) (gO_ xy2 (xy3.length:Int) xy3.length (some ((aa_.mk 2 xr8.1 [] ([]:List aa_) ([]:List Bs)),(aB_.mk ((xy3.take (xy3.length:Int).toNat).drop xy2.toNat) true)))) (gO_ xy2 (xy3.length:Int) xy3.length (some ((aa_.mk 2 xr8.1 [] ([]:List aa_) ([]:List Bs)),(aB_.mk ((xy3.take (xy3.length:Int).toNat).drop xy2.toNat) xy4)))))))) n 0 r.text r.bad 0 0 [])
abbrev an_.K7_1:Type:=Bs→Bs→Bool→Int→Int→Bs→Int→Int→Bs→(List aa_)→(List Bs)→Option (aa_ × aB_)
abbrev an_.T7:Type:=Int→Bs→Int→Bool→Bs→Bool→Int→Int→Bs→Int→Int→Bs→(List aa_)→(List Bs)→Option (aa_ × aB_)
def an_.step7 (n:Nat) (impl_reader_value_:aB_→Int→Option (aa_ × aB_)) (k0:an_.K7_1) (back:an_.T7):an_.T7:=fun kind end_1 deep more r0 r1 t80 t81 t82 j0 j1 j2 j3 j4=>
 (cond more (cond (!r1) (cond (kind == 5) ((aw_ n (aB_.mk r0 r1)).bind fun xr2=>((cl_ n xr2.2 [58]).bind fun xr3=>(bf_ (j4.length+([xr2.1]:List Bs).length) 16 ((impl_reader_value_ xr3 (W (deep - 1))).bind fun xr4=>(bf_ (j3.length+([(aa_.re xr4.1)]:List aa_).length) 80 ((bs_ n xr4.2 [44]).bind fun xr5=>(back kind end_1 deep xr5.1 xr5.2.text xr5.2.bad t80 t81 t82 j0 j1 j2 (j3++([(aa_.re xr4.1)]:List aa_)) (j4++([xr2.1]:List Bs))))))))) ((impl_reader_value_ (aB_.mk r0 r1) (W (deep - 1))).bind fun xr6=>(bf_ (j3.length+([(aa_.re xr6.1)]:List aa_).length) 80 ((bs_ n xr6.2 [44]).bind fun xr7=>(back kind end_1 deep xr7.1 xr7.2.text xr7.2.bad t80 t81 t82 j0 j1 j2 (j3++([(aa_.re xr6.1)]:List aa_)) j4))))) (k0 end_1 r0 r1 t80 t81 t82 j0 j1 j2 j3 j4)) (k0 end_1 r0 r1 t80 t81 t82 j0 j1 j2 j3 j4))
def an_.loop7 (n:Nat) (impl_reader_value_:aB_→Int→Option (aa_ × aB_)) (k0:an_.K7_1) (N:Nat):an_.T7:=ct_ (fun _ _ _ _ _ _ _ _ _ _ _ _ _ _=>none) (an_.step7 n impl_reader_value_ k0) N
mutual
def aZ_:Nat→aB_→Int→Option (aa_ × aB_)
 |0,_,_=>none
 |n+1,r,deep=>
  (cond (decide (deep<1)) (some ((aa_.mk 0 0 [] ([]:List aa_) ([]:List Bs)),(aB_.mk r.text true))) (cond r.bad (some ((aa_.mk 0 0 [] ([]:List aa_) ([]:List Bs)),(aB_.mk r.text true))) ((bs_ n r [110,117,108,108]).bind fun xr1=>(cond xr1.1 (some ((aa_.mk 0 0 [] ([]:List aa_) ([]:List Bs)),xr1.2)) ((bs_ n xr1.2 [102,97,108,115,101]).bind fun xr2=>(cond xr2.1 (some ((aa_.mk 1 0 [] ([]:List aa_) ([]:List Bs)),xr2.2)) ((bs_ n xr2.2 [116,114,117,101]).bind fun xr3=>(cond xr3.1 (some ((aa_.mk 1 1 [] ([]:List aa_) ([]:List Bs)),xr3.2)) ((c0_ n xr3.2.text [34]).bind fun xr4=>(cond xr4 ((aw_ n xr3.2).bind fun xr5=>(some ((aa_.mk 3 0 xr5.1 ([]:List aa_) ([]:List Bs)),xr5.2))) ((bs_ n xr3.2 [91]).bind fun xr6=>(cond xr6.1 ((an_ n xr6.2 4 [93] deep).bind fun xr7=>(some ((aa_.re xr7.1),xr7.2))) ((bs_ n xr6.2 [123]).bind fun xr8=>(cond xr8.1 ((an_ n xr8.2 5 [125] deep).bind fun xr9=>(some ((aa_.re xr9.1),xr9.2))) ((ao_ n xr8.2).bind fun xr10=>(some ((aa_.re xr10.1),xr10.2)))))))))))))))))
def an_:Nat→aB_→Int→Bs→Int→Option (aa_ × aB_)
 |0,_,_,_,_=>none
 |n+1,r,kind,end1,deep=>
  ((bs_ n r end1).bind fun xr1=>(cond xr1.1 (some ((aa_.mk kind 0 [] ([]:List aa_) ([]:List Bs)),xr1.2)) (an_.loop7 n (aZ_ n) (fun xy8 xy9 xy10 xy11 xy12 xy13 xy14 xy15 xy16 xy17 xy18=>((cl_ n (aB_.mk xy9 xy10) xy8).bind fun xr19=>(some ((aa_.mk xy14 xy15 xy16 xy17 xy18),xr19)))) n kind end1 deep true xr1.2.text xr1.2.bad 0 0 [] kind 0 [] ([]:List aa_) ([]:List Bs))))
end
def dI_:Nat→Bs→Option (aa_ × Bool)
 |0,_=>none
 |n+1,s=>
  (cond (decide ((s.length:Int) > 6000)) (some ((aa_.mk 0 0 [] ([]:List aa_) ([]:List Bs)),false)) ((aZ_ n (aB_.mk s false) 6).bind fun xr1=>(cond xr1.2.bad (some ((aa_.mk 0 0 [] ([]:List aa_) ([]:List Bs)),false)) ((dq_ n (aa_.re xr1.1)).bind fun xr2=>(cond (!(xr2 == s)) (some ((aa_.mk 0 0 [] ([]:List aa_) ([]:List Bs)),false)) (some ((aa_.re xr1.1),true)))))))
abbrev aF_.T3:Type:=(List Bs)→Bs→Int→Int→Option Int
def aF_.step3 (n:Nat) (k0:Option Int) (back:aF_.T3):aF_.T3:=fun s v t7 t8=>
 (cond (decide (t8<t7)) (inB t8 s.length (cond (v == (s.getD t8.toNat [])) (some t8) (back s v t7 (W (t8+1))))) k0)
def aF_.loop3 (n:Nat) (k0:Option Int) (N:Nat):aF_.T3:=ct_ (fun _ _ _ _=>none) (aF_.step3 n k0) N
def aF_:Nat→(List Bs)→Bs→Option Int
 |0,_,_=>none
 |n+1,s,v=>
  (aF_.loop3 n (some (-1)) n s v (s.length:Int) 0)
def ej_:Nat→aa_→Bs→Option (aa_ × Bool)
 |0,_,_=>none
 |n+1,j,name=>
  ((aF_ n j.names name).bind fun xr1=>((c7_ n (aa_.re j)).bind fun xr2=>(cond (!xr2) (some ((aa_.mk 0 0 [] ([]:List aa_) ([]:List Bs)),false)) (cond (decide (xr1<0)) (some ((aa_.mk 0 0 [] ([]:List aa_) ([]:List Bs)),false)) (inB xr1 j.list.length ((a7_ n (aa_.re (j.list.getD xr1.toNat aa_.dflt))).bind fun xr3=>(some ((aa_.re xr3),true))))))))
def strings_Split:Nat→Bs→Bs→Option (List Bs)
 |0,_,_=>none
 |_+1,s,a=>rN_ s a
abbrev bD_.K7:Type:=Bs→(List Bs)→Option ((List Bs) × Bool)
abbrev bD_.T7:Type:=Bs→(List Bs)→Int→Int→(List Bs)→Option ((List Bs) × Bool)
def bD_.step7 (n:Nat) (k0:bD_.K7) (back:bD_.T7):bD_.T7:=fun s t13 t14 t15 way=>
 (cond (decide (t15<t14)) (inB t15 t13.length ((strings_ReplaceAll n (t13.getD t15.toNat []) [126,49] [47]).bind fun xr2=>((strings_ReplaceAll n xr2 [126,48] [126]).bind fun xr3=>(bf_ (way.length+([xr3]:List Bs).length) 16 (back s t13 t14 (W (t15+1)) (way++([xr3]:List Bs))))))) (k0 s way))
def bD_.loop7 (n:Nat) (k0:bD_.K7) (N:Nat):bD_.T7:=ct_ (fun _ _ _ _ _=>none) (bD_.step7 n k0) N
def bD_:Nat→Bs→Option ((List Bs) × Bool)
 |0,_=>none
 |n+1,s=>
  (cond (s == []) (some (([]:List Bs),true)) ((strings_Split n s [47]).bind fun xr1=>(gO_ 1 (xr1.length:Int) xr1.length (bD_.loop7 n (fun xy4 xy5=>(cond (decide ((xy5.length:Int) > 6)) (some (([]:List Bs),false)) ((bS_ n xy5).bind fun xr6=>(cond (!(xr6 == xy4)) (some (([]:List Bs),false)) (some (xy5,true)))))) n s ((xr1.take ((xr1.length:Int).toNat)).drop 1) ((((xr1.length:Int).toNat) - 1:Nat):Int) 0 ([]:List Bs)))))
abbrev aI_.T6:Type:=(List Bs)→(List Bs)→Int→Int→Option Bool
def aI_.step6 (n:Nat) (k0:Option Bool) (back:aI_.T6):aI_.T6:=fun s1 s2 t12 t13=>
 (cond (decide (t13<t12)) (inB t13 s1.length (inB t13 s2.length (cond (!((s1.getD t13.toNat []) == (s2.getD t13.toNat []))) (some false) (back s1 s2 t12 (W (t13+1)))))) k0)
def aI_.loop6 (n:Nat) (k0:Option Bool) (N:Nat):aI_.T6:=ct_ (fun _ _ _ _=>none) (aI_.step6 n k0) N
def aI_:Nat→(List Bs)→(List Bs)→Option Bool
 |0,_,_=>none
 |n+1,s1,s2=>
  (cond ((s1.length:Int) != (s2.length:Int)) (some false) (aI_.loop6 n (some true) n s1 s2 (s1.length:Int) 0))
abbrev aj_.T6:Type:=(List aa_)→(List aa_)→Int→Int→Option Bool
def aj_.step6 (n:Nat) (impl_alike_:aa_→aa_→Option Bool) (k0:Option Bool) (back:aj_.T6):aj_.T6:=fun s2 t15 t16 t17=>
 (cond (decide (t17<t16)) (inB t17 t15.length (inB t17 s2.length ((impl_alike_ (aa_.re (t15.getD t17.toNat aa_.dflt)) (aa_.re (s2.getD t17.toNat aa_.dflt))).bind fun xr1=>(cond (!xr1) (some false) (back s2 t15 t16 (W (t17+1))))))) k0)
def aj_.loop6 (n:Nat) (impl_alike_:aa_→aa_→Option Bool) (k0:Option Bool) (N:Nat):aj_.T6:=ct_ (fun _ _ _ _=>none) (aj_.step6 n impl_alike_ k0) N
mutual
def d2_:Nat→aa_→aa_→Option Bool
 |0,_,_=>none
 |n+1,a,b=>
  (cond (a.kind == b.kind) (cond (a.n_ == b.n_) (cond (a.s == b.s) ((aI_ n a.names b.names).bind fun xr1=>(cond xr1 ((aj_ n a.list b.list).bind fun xr2=>(some xr2)) (some false))) (some false)) (some false)) (some false))
def aj_:Nat→(List aa_)→(List aa_)→Option Bool
 |0,_,_=>none
 |n+1,s1,s2=>
  (cond ((s1.length:Int) != (s2.length:Int)) (some false) (aj_.loop6 n (d2_ n) (some true) n s2 s1 (s1.length:Int) 0))
end
def dN_:Nat→aa_→aa_→Option Bool
 |0,_,_=>none
 |n+1,a,b=>
  ((c7_ n (aa_.re a)).bind fun xr1=>(cond xr1 ((c7_ n (aa_.re b)).bind fun xr2=>(cond xr2 ((d2_ n (aa_.re a) (aa_.re b)).bind fun xr3=>(some xr3)) (some false))) (some false)))
def dX_:Nat→aa_→Option (TOp × Bool)
 |0,_=>none
 |n+1,o=>
  ((ej_ n (aa_.re o) [111,112]).bind fun xr1=>((ej_ n (aa_.re o) [112,97,116,104]).bind fun xr2=>((ej_ n (aa_.re o) [118,97,108,117,101]).bind fun xr3=>((bD_ n xr2.1.s).bind fun xr4=>((dl_ n ()).bind fun xr5=>((aF_ n xr5 xr1.1.s).bind fun xr6=>(cond (!xr1.2) (some ((TOp.mk 0 ([]:List Bs) (aa_.mk 0 0 [] ([]:List aa_) ([]:List Bs))),false)) (cond (!xr2.2) (some ((TOp.mk 0 ([]:List Bs) (aa_.mk 0 0 [] ([]:List aa_) ([]:List Bs))),false)) (cond (!xr4.2) (some ((TOp.mk 0 ([]:List Bs) (aa_.mk 0 0 [] ([]:List aa_) ([]:List Bs))),false)) ((cs_ n (TOp.mk (W (1+xr6)) xr4.1 (aa_.re xr3.1))).bind fun xr7=>(cond (!xr7) (some ((TOp.mk 0 ([]:List Bs) (aa_.mk 0 0 [] ([]:List aa_) ([]:List Bs))),false)) ((ed_ n (TOp.mk (W (1+xr6)) xr4.1 (aa_.re xr3.1))).bind fun xr8=>((dN_ n (aa_.re xr8) (aa_.re o)).bind fun xr9=>(cond (!xr9) (some ((TOp.mk 0 ([]:List Bs) (aa_.mk 0 0 [] ([]:List aa_) ([]:List Bs))),false)) (some ((TOp.mk (W (1+xr6)) xr4.1 (aa_.re xr3.1)),true))))))))))))))))
abbrev bY_.K4:Type:=Int→Int→Bs→(List aa_)→(List Bs)→(List TOp)→Option ((List TOp) × Bool)
abbrev bY_.T4:Type:=(List aa_)→Int→Int→Int→Int→Bs→(List aa_)→(List Bs)→(List TOp)→Option ((List TOp) × Bool)
def bY_.step4 (n:Nat) (k0:bY_.K4) (back:bY_.T4):bY_.T4:=fun t11 t12 t13 j0 j1 j2 j3 j4 ops=>
 (cond (decide (t13<t12)) (inB t13 t11.length ((dX_ n (aa_.re (t11.getD t13.toNat aa_.dflt))).bind fun xr1=>(cond (!xr1.2) (some (([]:List TOp),false)) (bf_ (ops.length+([{ xr1.1 with value:=(aa_.re xr1.1.value) }]:List TOp).length) 112 (back t11 t12 (W (t13+1)) j0 j1 j2 j3 j4 (ops++([{ xr1.1 with value:=(aa_.re xr1.1.value) }]:List TOp))))))) (k0 j0 j1 j2 j3 j4 ops))
def bY_.loop4 (n:Nat) (k0:bY_.K4) (N:Nat):bY_.T4:=ct_ (fun _ _ _ _ _ _ _ _ _=>none) (bY_.step4 n k0) N
def bY_:Nat→aa_→Option ((List TOp) × Bool)
 |0,_=>none
 |n+1,j=>
  (bY_.loop4 n (fun xy2 xy3 xy4 xy5 xy6 xy7=>(some (xy7,(xy2 == 4)))) n j.list (j.list.length:Int) 0 j.kind j.n_ j.s j.list j.names ([]:List TOp))
def dm_:Nat→Bs→Option aX_
 |0,_=>none
 |n+1,o=>
  ((cP_ n o [101,118,101,110,116,58,32,115,110,97,112,10]).bind fun xr1=>(cond xr1.2 ((dp_ n xr1.1 [105,100,58,32]).bind fun xr2=>((dp_ n xr2.2 [100,97,116,97,58,32]).bind fun xr3=>((cS_ n xr2.1).bind fun xr4=>((dI_ n xr3.1).bind fun xr5=>(some (aX_.mk 1 xr4.1 0 (aa_.re xr5.1) ([]:List TOp))))))) ((cH_ n o [101,118,101,110,116,58,32,112,97,116,99,104,10]).bind fun xr6=>((dp_ n xr6 [105,100,58,32]).bind fun xr7=>((dp_ n xr7.2 [98,97,115,101,58,32]).bind fun xr8=>((dp_ n xr8.2 [100,97,116,97,58,32]).bind fun xr9=>((cS_ n xr7.1).bind fun xr10=>((cS_ n xr8.1).bind fun xr11=>((dI_ n xr9.1).bind fun xr12=>((bY_ n (aa_.re xr12.1)).bind fun xr13=>(some (aX_.mk 2 xr10.1 xr11.1 (aa_.mk 0 0 [] ([]:List aa_) ([]:List Bs)) xr13.1))))))))))))
def cu_:Nat→Bs→Option (aX_ × Bool)
 |0,_=>none
 |n+1,text=>
  ((dm_ n text).bind fun xr1=>((co_ n { xr1 with doc:=(aa_.re xr1.doc) }).bind fun xr2=>(cond (xr2 == []) (some ((aX_.mk 0 0 0 (aa_.mk 0 0 [] ([]:List aa_) ([]:List Bs)) ([]:List TOp)),false)) (cond (!(xr2 == text)) (some ((aX_.mk 0 0 0 (aa_.mk 0 0 [] ([]:List aa_) ([]:List Bs)) ([]:List TOp)),false)) (some ({ xr1 with doc:=(aa_.re xr1.doc) },true))))))
def cy_:Nat→(List Int)→Option Bs
 |0,_=>none
 |n+1,eX_=>
  ((cb_ n eX_).bind fun xr1=>((cQ_ n xr1).bind fun xr2=>((c3_ n { xr2.1 with doc:=(aa_.re xr2.1.doc) }).bind fun xr3=>((ah_ n xr2.2 (W ((xr3.length:Int)+1))).bind fun xr4=>((ah_ n xr4.2 5).bind fun xr5=>(cond (xr5.1 == 0) (gO_ 0 xr4.1 xr3.length (some ((xr3.take xr4.1.toNat).drop 0))) (cond (xr5.1 == 1) (gO_ 0 xr4.1 xr3.length ((c5_ n xr5.2 ([[32],[48],[10],[120],[105,100,58,32,52,10],[98,97,115,101,58,32,49,10]]:List Bs)).bind fun xr6=>(cond (decide (((xr3.take xr4.1.toNat).drop 0).length+xr6.1.length≤9223372036854775807)) (gO_ xr4.1 (xr3.length:Int) xr3.length (cond (decide ((((xr3.take xr4.1.toNat).drop 0)++xr6.1).length+((xr3.take (xr3.length:Int).toNat).drop xr4.1.toNat).length≤9223372036854775807)) (let xv7:Bs:=((((xr3.take xr4.1.toNat).drop 0)++xr6.1)++((xr3.take (xr3.length:Int).toNat).drop xr4.1.toNat));(some xv7)) none)) none))) (some xr3))))))))
abbrev bj_.K5:Type:=(List Bs)→Option (List Bs)
abbrev bj_.T5:Type:=Bs→Int→Int→(List Bs)→Option (List Bs)
def bj_.step5 (n:Nat) (k0:bj_.K5) (back:bj_.T5):bj_.T5:=fun text from_1 i out_1=>
 (cond (decide (i<(text.length:Int))) (inB i text.length (cond (((text.getD i.toNat 0).toNat:Int) == 10) (gO_ from_1 i text.length (bf_ (out_1.length+([((text.take i.toNat).drop from_1.toNat)]:List Bs).length) 16 (back text (W (i+1)) (W (i+1)) (out_1++([((text.take i.toNat).drop from_1.toNat)]:List Bs))))) (back text from_1 (W (i+1)) out_1))) (k0 out_1))
def bj_.loop5 (n:Nat) (k0:bj_.K5) (N:Nat):bj_.T5:=ct_ (fun _ _ _ _=>none) (bj_.step5 n k0) N
def bj_:Nat→Bs→Option (List Bs)
 |0,_=>none
 |n+1,text=>
  (bj_.loop5 n (fun xy1=>(some xy1)) n text 0 0 ([]:List Bs))
def cI_:Nat→Bs→Bs→Option Bs
 |0,_,_=>none
 |n+1,line,head=>
  (cond (decide ((line.length:Int)<(head.length:Int))) (some []) (gO_ 0 (head.length:Int) line.length (cond (!(((line.take (head.length:Int).toNat).drop 0) == head)) (some []) (gO_ (head.length:Int) (line.length:Int) line.length (some ((line.take (line.length:Int).toNat).drop (head.length:Int).toNat))))))
def cX_:Nat→a4_→Option (Int × a4_)
 |0,_=>none
 |n+1,c=>
  (cond (decide (c.at_≥(c.s.length:Int))) (some (0,c)) (inB c.at_ c.s.length (some (((c.s.getD c.at_.toNat 0).toNat:Int),c))))
abbrev aD_.K7:Type:=Bool→Int→Int→Bs→Int→Bool→Int→Option (Int × a4_)
abbrev aD_.T7:Type:=Bool→Int→Int→Bs→Int→Bool→Int→Option (Int × a4_)
def aD_.step7 (n:Nat) (k0:aD_.K7) (back:aD_.T7):aD_.T7:=fun t3 t4 t5 o0 o1 o2 o3=>
 ((cX_ n (a4_.mk o0 o1 o2 o3)).bind fun xr2=>(cond (decide (xr2.1≥48)) ((cX_ n xr2.2).bind fun xr3=>(cond (decide (xr3.1≤57)) (cond (decide ((W (xr3.2.at_ - t4))<11)) ((cX_ n xr3.2).bind fun xr4=>(back t3 t4 (W ((W ((W (10*t5))+(W (xr4.1)))) - 48)) xr4.2.s (W (xr4.2.at_+1)) xr4.2.ok xr4.2.left)) (k0 t3 t4 t5 xr3.2.s xr3.2.at_ xr3.2.ok xr3.2.left)) (k0 t3 t4 t5 xr3.2.s xr3.2.at_ xr3.2.ok xr3.2.left))) (k0 t3 t4 t5 xr2.2.s xr2.2.at_ xr2.2.ok xr2.2.left)))
def aD_.loop7 (n:Nat) (k0:aD_.K7) (N:Nat):aD_.T7:=ct_ (fun _ _ _ _ _ _ _=>none) (aD_.step7 n k0) N
def aD_:Nat→a4_→Option (Int × a4_)
 |0,_=>none
 |n+1,o=>
  ((cX_ n o).bind fun xr1=>(cond (xr1.1 == 45) (aD_.loop7 n (fun xy5 xy6 xy7 xy8 xy9 xy10 xy11=>(cond (xy9 == xy6) (cond xy5 (some ((W (0 - xy7)),(a4_.mk xy8 xy9 false xy11))) (some (xy7,(a4_.mk xy8 xy9 false xy11)))) (cond xy5 (some ((W (0 - xy7)),(a4_.mk xy8 xy9 xy10 xy11))) (some (xy7,(a4_.mk xy8 xy9 xy10 xy11)))))) n (xr1.1 == 45) (W (xr1.2.at_+1)) 0 xr1.2.s (W (xr1.2.at_+1)) xr1.2.ok xr1.2.left) (aD_.loop7 n (fun xy12 xy13 xy14 xy15 xy16 xy17 xy18=>(cond (xy16 == xy13) (cond xy12 (some ((W (0 - xy14)),(a4_.mk xy15 xy16 false xy18))) (some (xy14,(a4_.mk xy15 xy16 false xy18)))) (cond xy12 (some ((W (0 - xy14)),(a4_.mk xy15 xy16 xy17 xy18))) (some (xy14,(a4_.mk xy15 xy16 xy17 xy18)))))) n (xr1.1 == 45) xr1.2.at_ 0 xr1.2.s xr1.2.at_ xr1.2.ok xr1.2.left)))
def dF_:Nat→Bs→Option (Int × Bool)
 |0,_=>none
 |n+1,s=>
  ((aD_ n (a4_.mk s 0 true 0)).bind fun xr1=>(cond xr1.2.ok ((aK_ n xr1.1).bind fun xr2=>(some (xr1.1,(xr2 == s)))) (some (xr1.1,false))))
def ca_:Nat→a4_→Bs→Option a4_
 |0,_,_=>none
 |n+1,c,what=>
  (cond (decide ((W ((c.s.length:Int) - c.at_))<(what.length:Int))) (some { c with ok:=false }) (gO_ c.at_ (W (c.at_+(what.length:Int))) c.s.length (let xv1:Bool:=(!(((c.s.take (W (c.at_+(what.length:Int))).toNat).drop c.at_.toNat) == what));(cond xv1 (some { c with ok:=false }) (some { c with at_:=(W (c.at_+(what.length:Int))) })))))
abbrev aG_.K4:Type:=Bs→Int→Bool→Int→(List Int)→Option (Bs × a4_)
abbrev aG_.T4:Type:=Bs→Int→Bool→Int→(List Int)→Option (Bs × a4_)
def aG_.step4 (n:Nat) (k0:aG_.K4) (back:aG_.T4):aG_.T4:=fun c0 c1 c2 c3 out_1=>
 (cond c2 ((cX_ n (a4_.mk c0 c1 c2 c3)).bind fun xr2=>(cond (xr2.1 != 34) ((cX_ n xr2.2).bind fun xr3=>(cond (xr3.1 == 92) (cond (decide ((W (xr3.2.at_+1))≥(xr3.2.s.length:Int))) (k0 xr3.2.s (W (xr3.2.at_+1)) false xr3.2.left out_1) (inB (W (xr3.2.at_+1)) xr3.2.s.length (bf_ (out_1.length+([((xr3.2.s.getD (W (xr3.2.at_+1)).toNat 0).toNat:Int)]:List Int).length) 1 (back xr3.2.s (W ((W (xr3.2.at_+1))+1)) xr3.2.ok xr3.2.left (out_1++([((xr3.2.s.getD (W (xr3.2.at_+1)).toNat 0).toNat:Int)]:List Int)))))) (cond (decide (xr3.2.at_≥(xr3.2.s.length:Int))) (k0 xr3.2.s xr3.2.at_ false xr3.2.left out_1) (inB xr3.2.at_ xr3.2.s.length (bf_ (out_1.length+([((xr3.2.s.getD xr3.2.at_.toNat 0).toNat:Int)]:List Int).length) 1 (back xr3.2.s (W (xr3.2.at_+1)) xr3.2.ok xr3.2.left (out_1++([((xr3.2.s.getD xr3.2.at_.toNat 0).toNat:Int)]:List Int)))))))) (k0 xr2.2.s xr2.2.at_ xr2.2.ok xr2.2.left out_1))) (k0 c0 c1 c2 c3 out_1))
def aG_.loop4 (n:Nat) (k0:aG_.K4) (N:Nat):aG_.T4:=ct_ (fun _ _ _ _ _=>none) (aG_.step4 n k0) N
def aG_:Nat→a4_→Option (Bs × a4_)
 |0,_=>none
 |n+1,c=>
  ((ca_ n c [34]).bind fun xr1=>(aG_.loop4 n (fun xy4 xy5 xy6 xy7 xy8=>((ca_ n (a4_.mk xy4 xy5 xy6 xy7) [34]).bind fun xr9=>(some ((iv_ xy8),xr9)))) n xr1.s xr1.at_ xr1.ok xr1.left ([]:List Int)))
abbrev aW_.K8_1:Type:=Bs→Bs→Int→Bool→Int→Int→Int→Bs→Int→Int→Bs→(List aa_)→(List Bs)→Option (aa_ × a4_)
abbrev aW_.T8:Type:=Int→Bs→Bs→Int→Bool→Int→Int→Int→Bs→Int→Int→Bs→(List aa_)→(List Bs)→Option (aa_ × a4_)
def aW_.step8 (n:Nat) (spec_l2Value_:a4_→Int→Option (aa_ × a4_)) (k0:aW_.K8_1) (back:aW_.T8):aW_.T8:=fun depth end_1 c0 c1 c2 c3 t40 t41 t42 out0 out1 out2 out3 out4=>
 (cond c2 ((cX_ n (a4_.mk c0 c1 c2 c3)).bind fun xr2=>(inB 0 end_1.length (cond (xr2.1 != ((end_1.getD 0 0).toNat:Int)) (cond (decide ((out3.length:Int) > 0)) ((ca_ n xr2.2 [44]).bind fun xr3=>(cond (out0 == 5) ((aG_ n xr3).bind fun xr4=>(bf_ (out4.length+([xr4.1]:List Bs).length) 16 ((ca_ n xr4.2 [58]).bind fun xr5=>((spec_l2Value_ xr5 (W (depth - 1))).bind fun xr6=>(bf_ (out3.length+([(aa_.re xr6.1)]:List aa_).length) 80 (back depth end_1 xr6.2.s xr6.2.at_ xr6.2.ok xr6.2.left t40 t41 t42 out0 out1 out2 (out3++([(aa_.re xr6.1)]:List aa_)) (out4++([xr4.1]:List Bs)))))))) ((spec_l2Value_ xr3 (W (depth - 1))).bind fun xr7=>(bf_ (out3.length+([(aa_.re xr7.1)]:List aa_).length) 80 (back depth end_1 xr7.2.s xr7.2.at_ xr7.2.ok xr7.2.left t40 t41 t42 out0 out1 out2 (out3++([(aa_.re xr7.1)]:List aa_)) out4))))) (cond (out0 == 5) ((aG_ n xr2.2).bind fun xr8=>(bf_ (out4.length+([xr8.1]:List Bs).length) 16 ((ca_ n xr8.2 [58]).bind fun xr9=>((spec_l2Value_ xr9 (W (depth - 1))).bind fun xr10=>(bf_ (out3.length+([(aa_.re xr10.1)]:List aa_).length) 80 (back depth end_1 xr10.2.s xr10.2.at_ xr10.2.ok xr10.2.left t40 t41 t42 out0 out1 out2 (out3++([(aa_.re xr10.1)]:List aa_)) (out4++([xr8.1]:List Bs)))))))) ((spec_l2Value_ xr2.2 (W (depth - 1))).bind fun xr11=>(bf_ (out3.length+([(aa_.re xr11.1)]:List aa_).length) 80 (back depth end_1 xr11.2.s xr11.2.at_ xr11.2.ok xr11.2.left t40 t41 t42 out0 out1 out2 (out3++([(aa_.re xr11.1)]:List aa_)) out4))))) (k0 end_1 xr2.2.s xr2.2.at_ xr2.2.ok xr2.2.left t40 t41 t42 out0 out1 out2 out3 out4)))) (k0 end_1 c0 c1 c2 c3 t40 t41 t42 out0 out1 out2 out3 out4))
def aW_.loop8 (n:Nat) (spec_l2Value_:a4_→Int→Option (aa_ × a4_)) (k0:aW_.K8_1) (N:Nat):aW_.T8:=ct_ (fun _ _ _ _ _ _ _ _ _ _ _ _ _ _=>none) (aW_.step8 n spec_l2Value_ k0) N
mutual
def bP_:Nat→a4_→Int→Option (aa_ × a4_)
 |0,_,_=>none
 |n+1,c,depth=>
  (cond (depth == 0) (some ((aa_.mk 0 0 [] ([]:List aa_) ([]:List Bs)),(a4_.mk c.s c.at_ false (W (c.left - 1))))) (cond (decide ((W (c.left - 1))<0)) (some ((aa_.mk 0 0 [] ([]:List aa_) ([]:List Bs)),(a4_.mk c.s c.at_ false (W (c.left - 1))))) (cond (!c.ok) (some ((aa_.mk 0 0 [] ([]:List aa_) ([]:List Bs)),{ c with left:=(W (c.left - 1)) })) ((cX_ n { c with left:=(W (c.left - 1)) }).bind fun xr1=>(cond (xr1.1 == 110) ((ca_ n xr1.2 [110,117,108,108]).bind fun xr2=>(some ((aa_.mk 0 0 [] ([]:List aa_) ([]:List Bs)),xr2))) (cond (xr1.1 == 116) ((ca_ n xr1.2 [116,114,117,101]).bind fun xr3=>(some ((aa_.mk 1 1 [] ([]:List aa_) ([]:List Bs)),xr3))) (cond (xr1.1 == 102) ((ca_ n xr1.2 [102,97,108,115,101]).bind fun xr4=>(some ((aa_.mk 1 0 [] ([]:List aa_) ([]:List Bs)),xr4))) (cond (xr1.1 == 34) ((aG_ n xr1.2).bind fun xr5=>(some ((aa_.mk 3 0 xr5.1 ([]:List aa_) ([]:List Bs)),xr5.2))) (cond (xr1.1 == 91) (cond (xr1.1 == 91) ((aW_ n xr1.2 depth).bind fun xr6=>(some ((aa_.re xr6.1),xr6.2))) ((aD_ n xr1.2).bind fun xr7=>(some ((aa_.mk 2 xr7.1 [] ([]:List aa_) ([]:List Bs)),xr7.2)))) (cond (xr1.1 == 123) ((aW_ n xr1.2 depth).bind fun xr8=>(some ((aa_.re xr8.1),xr8.2))) ((aD_ n xr1.2).bind fun xr9=>(some ((aa_.mk 2 xr9.1 [] ([]:List aa_) ([]:List Bs)),xr9.2)))))))))))))
def aW_:Nat→a4_→Int→Option (aa_ × a4_)
 |0,_,_=>none
 |n+1,c,depth=>
  ((cX_ n c).bind fun xr1=>(cond (xr1.1 == 123) (aW_.loop8 n (bP_ n) (fun xy12 xy13 xy14 xy15 xy16 xy17 xy18 xy19 xy20 xy21 xy22 xy23 xy24=>((ca_ n (a4_.mk xy13 xy14 xy15 xy16) xy12).bind fun xr25=>(some ((aa_.mk xy20 xy21 xy22 xy23 xy24),xr25)))) n depth [125] xr1.2.s (W (xr1.2.at_+1)) xr1.2.ok xr1.2.left 0 0 [] 5 0 [] ([]:List aa_) ([]:List Bs)) (aW_.loop8 n (bP_ n) (fun xy26 xy27 xy28 xy29 xy30 xy31 xy32 xy33 xy34 xy35 xy36 xy37 xy38=>((ca_ n (a4_.mk xy27 xy28 xy29 xy30) xy26).bind fun xr39=>(some ((aa_.mk xy34 xy35 xy36 xy37 xy38),xr39)))) n depth [93] xr1.2.s (W (xr1.2.at_+1)) xr1.2.ok xr1.2.left 0 0 [] 4 0 [] ([]:List aa_) ([]:List Bs))))
end
def dV_:Nat→Bs→Option (aa_ × Bool)
 |0,_=>none
 |n+1,s=>
  (cond (s == []) (some ((aa_.mk 0 0 [] ([]:List aa_) ([]:List Bs)),false)) (cond (decide ((s.length:Int) > 6000)) (some ((aa_.mk 0 0 [] ([]:List aa_) ([]:List Bs)),false)) ((bP_ n (a4_.mk s 0 true 400) 6).bind fun xr1=>(cond (!xr1.2.ok) (some ((aa_.mk 0 0 [] ([]:List aa_) ([]:List Bs)),false)) (cond (xr1.2.at_ != (s.length:Int)) (some ((aa_.mk 0 0 [] ([]:List aa_) ([]:List Bs)),false)) ((cZ_ n (aa_.re xr1.1)).bind fun xr2=>(cond (!(xr2 == s)) (some ((aa_.mk 0 0 [] ([]:List aa_) ([]:List Bs)),false)) (some ((aa_.re xr1.1),true)))))))))
def dS_:Nat→aa_→Bs→Option (aa_ × Bool)
 |0,_,_=>none
 |n+1,j,name=>
  ((cx_ n (aa_.re j) name).bind fun xr1=>((cL_ n (aa_.re j)).bind fun xr2=>(cond (!xr2) (some ((aa_.mk 0 0 [] ([]:List aa_) ([]:List Bs)),false)) (cond (j.kind != 5) (some ((aa_.mk 0 0 [] ([]:List aa_) ([]:List Bs)),false)) (cond (decide (xr1<0)) (some ((aa_.mk 0 0 [] ([]:List aa_) ([]:List Bs)),false)) (inB xr1 j.list.length ((bc_ n (aa_.re (j.list.getD xr1.toNat aa_.dflt))).bind fun xr3=>(some ((aa_.re xr3),true)))))))))
abbrev a3_.K6:Type:=Bs→(List Bs)→(List Bs)→(List Int)→Option ((List Bs) × Bool)
abbrev a3_.T6:Type:=Bs→Int→(List Bs)→(List Bs)→(List Int)→Option ((List Bs) × Bool)
def a3_.step6 (n:Nat) (k0:a3_.K6) (back:a3_.T6):a3_.T6:=fun o t7 t4 t5 t6=>
 (cond (decide (t7<(o.length:Int))) (inB t7 o.length (cond (((o.getD t7.toNat 0).toNat:Int) == 47) (cond (decide (t7 > 0)) (bf_ (t5.length+([(iv_ t6)]:List Bs).length) 16 (back o (W (t7+1)) t4 (t5++([(iv_ t6)]:List Bs)) ([]:List Int))) (back o (W (t7+1)) t4 t5 ([]:List Int))) (cond (t7 == 0) (some (t4,false)) (inB t7 o.length (cond (((o.getD t7.toNat 0).toNat:Int) == 126) (cond ((W (t7+1)) == (o.length:Int)) (some (t4,false)) (inB (W (t7+1)) o.length (cond (((o.getD (W (t7+1)).toNat 0).toNat:Int) != 48) (inB (W (t7+1)) o.length (cond (((o.getD (W (t7+1)).toNat 0).toNat:Int) != 49) (some (t4,false)) (inB (W (t7+1)) o.length (cond (((o.getD (W (t7+1)).toNat 0).toNat:Int) == 48) (bf_ (t6.length+([126]:List Int).length) 1 (back o (W ((W (t7+1))+1)) t4 t5 (t6++([126]:List Int)))) (bf_ (t6.length+([47]:List Int).length) 1 (back o (W ((W (t7+1))+1)) t4 t5 (t6++([47]:List Int)))))))) (inB (W (t7+1)) o.length (cond (((o.getD (W (t7+1)).toNat 0).toNat:Int) == 48) (bf_ (t6.length+([126]:List Int).length) 1 (back o (W ((W (t7+1))+1)) t4 t5 (t6++([126]:List Int)))) (bf_ (t6.length+([47]:List Int).length) 1 (back o (W ((W (t7+1))+1)) t4 t5 (t6++([47]:List Int))))))))) (inB t7 o.length (bf_ (t6.length+([((o.getD t7.toNat 0).toNat:Int)]:List Int).length) 1 (back o (W (t7+1)) t4 t5 (t6++([((o.getD t7.toNat 0).toNat:Int)]:List Int)))))))))) (k0 o t4 t5 t6))
def a3_.loop6 (n:Nat) (k0:a3_.K6) (N:Nat):a3_.T6:=ct_ (fun _ _ _ _ _=>none) (a3_.step6 n k0) N
def a3_:Nat→Bs→Option ((List Bs) × Bool)
 |0,_=>none
 |n+1,o=>
  (a3_.loop6 n (fun xy1 xy2 xy3 xy4=>(cond (!(xy1 == [])) (bf_ (xy3.length+([(iv_ xy4)]:List Bs).length) 16 (cond (decide (((xy3++([(iv_ xy4)]:List Bs)).length:Int) > 6)) (some (xy2,false)) (some ((xy3++([(iv_ xy4)]:List Bs)),true)))) (cond (decide ((xy3.length:Int) > 6)) (some (xy2,false)) (some (xy3,true))))) n o 0 ([]:List Bs) ([]:List Bs) ([]:List Int))
abbrev bd_.K7:Type:=Int→Int→Bs→(List aa_)→(List Bs)→Int→Int→Int→Bs→Int→Int→Int→Bs→Int→Int→Bs→(List aa_)→(List Bs)→Option (TOp × Bool)
abbrev bd_.T7:Type:=Int→Int→Int→Bs→(List aa_)→(List Bs)→Int→Int→Int→Bs→Int→Int→Int→Bs→Int→Int→Bs→Int→Int→Bs→(List Bs)→(List aa_)→(List Bs)→(List aa_)→(List Bs)→Option (TOp × Bool)
def bd_.step7 (n:Nat) (k0:bd_.K7) (back:bd_.T7):bd_.T7:=fun t10 append0 append1 append2 append3 append4 t20 t22 t23 t24 t40 t42 t43 t44 t50 t51 t52 t70 t71 t72 t9 t53 t54 t73 t74=>
 (cond (decide (t10<(t9.length:Int))) (cond (t50 == 3) (inB t10 t9.length (cond (t52 == (t9.getD t10.toNat [])) (back (W (t10+1)) append0 append1 append2 append3 append4 t20 t22 t23 t24 t10 t42 t43 t44 t50 t51 t52 t70 t71 t72 t9 t53 t54 t73 t74) (back (W (t10+1)) append0 append1 append2 append3 append4 t20 t22 t23 t24 t40 t42 t43 t44 t50 t51 t52 t70 t71 t72 t9 t53 t54 t73 t74))) (back (W (t10+1)) append0 append1 append2 append3 append4 t20 t22 t23 t24 t40 t42 t43 t44 t50 t51 t52 t70 t71 t72 t9 t53 t54 t73 t74)) (k0 append0 append1 append2 append3 append4 t20 t22 t23 t24 t40 t42 t43 t44 t70 t71 t72 t73 t74))
def bd_.loop7 (n:Nat) (k0:bd_.K7) (N:Nat):bd_.T7:=ct_ (fun _ _ _ _ _ _ _ _ _ _ _ _ _ _ _ _ _ _ _ _ _ _ _ _ _=>none) (bd_.step7 n k0) N
def bd_.tail15 (n:Nat) (t12:Bool) (append0:Int) (append1:Int) (append2:Bs) (append3:List aa_) (append4:List Bs) (t20:Int) (t22:Int) (t23:Int) (t24:Bs) (t40:Int) (t41:List Bs) (t42:Int) (t43:Int) (t44:Bs) (t45:List aa_) (t46:List Bs):Option (TOp × Bool) :=
 (cond (!t12) (some ((TOp.mk 0 [] (aa_.mk 0 0 [] [] [])),false)) (cond (t40 == 0) (some ((TOp.mk 0 [] (aa_.mk 0 0 [] [] [])),false)) ((dU_ n (TOp.mk t40 t41 (aa_.mk t42 t43 t44 t45 t46))).bind fun xr24=>((dw_ n (aa_.re xr24) (aa_.mk append0 append1 append2 append3 append4)).bind fun xr25=>(cond (!xr25) (some ((TOp.mk 0 [] (aa_.mk 0 0 [] [] [])),false)) (some ((TOp.mk t40 t41 (aa_.mk t42 t43 t44 t45 t46)),true)))))))
def bd_:Nat→aa_→Option (TOp × Bool)
 |0,_=>none
 |n+1,o=>
  ((dS_ n (aa_.re o) [111,112]).bind fun xr1=>((dS_ n (aa_.re o) [112,97,116,104]).bind fun xr2=>((dj_ n ()).bind fun xr3=>(bd_.loop7 n (fun xy4 xy5 xy6 xy7 xy8 xy9 xy10 xy11 xy12 xy13 xy14 xy15 xy16 xy17 xy18 xy19 xy20 xy21=>((a3_ n xy19).bind fun xr22=>((dS_ n (aa_.mk xy4 xy5 xy6 xy7 xy8) [118,97,108,117,101]).bind fun xr23=>(bd_.tail15 n xr22.2 xy4 xy5 xy6 xy7 xy8 xy9 xy10 xy11 xy12 xy13 xr22.1 xr23.1.kind xr23.1.n_ xr23.1.s xr23.1.list xr23.1.names)))) n 1 o.kind o.n_ o.s o.list o.names 0 0 0 [] 0 0 0 [] xr1.1.kind xr1.1.n_ xr1.1.s xr2.1.kind xr2.1.n_ xr2.1.s xr3 xr1.1.list xr1.1.names xr2.1.list xr2.1.names))))
abbrev ad_.K20:Type:=Bs→Int→Int→Int→Int→Int→Int→Bs→Int→Int→Int→Int→Int→Bs→(List Bs)→(List aa_)→(List Bs)→(List TOp)→Option (aX_ × Bool)
abbrev ad_.T20:Type:=Bs→Int→Int→Int→Int→Int→Int→Int→Bs→Int→Int→Int→Int→Int→Bs→(List Bs)→Int→Int→Bs→(List aa_)→(List Bs)→(List TOp)→(List aa_)→(List Bs)→Option (aX_ × Bool)
def ad_.step20 (n:Nat) (k3:ad_.K20) (back:ad_.T20):ad_.T20:=fun o t6 t10 t20 t21 t22 t23 t24 t25 t40 t41 t42 t43 t44 t45 t5 t80 t81 t82 t46 t47 t48 t83 t84=>
 (cond (decide (t10<(t83.length:Int))) (inB t10 t83.length ((bd_ n (aa_.re (t83.getD t10.toNat aa_.dflt))).bind fun xr13=>(cond (!xr13.2) (some ((aX_.mk 0 0 0 (aa_.mk 0 0 [] ([]:List aa_) ([]:List Bs)) ([]:List TOp)),false)) (bf_ (t48.length+([{ xr13.1 with value:=(aa_.re xr13.1.value) }]:List TOp).length) 112 (back o t6 (W (t10+1)) t20 t21 t22 t23 t24 t25 t40 t41 t42 t43 t44 t45 t5 t80 t81 t82 t46 t47 (t48++([{ xr13.1 with value:=(aa_.re xr13.1.value) }]:List TOp)) t83 t84))))) (k3 o t6 t20 t21 t22 t23 t24 t25 t40 t41 t42 t43 t44 t45 t5 t46 t47 t48))
def ad_.loop20 (n:Nat) (k3:ad_.K20) (N:Nat):ad_.T20:=ct_ (fun _ _ _ _ _ _ _ _ _ _ _ _ _ _ _ _ _ _ _ _ _ _ _ _=>none) (ad_.step20 n k3) N
abbrev ad_.K5:Type:=Bs→Int→Int→Int→Int→Int→Bs→Int→Int→Int→Int→Int→Bs→(List aa_)→(List Bs)→(List TOp)→Option (aX_ × Bool)
abbrev ad_.T5:Type:=Bs→Int→Int→Int→Int→Int→Int→Bs→Int→Int→Int→Int→Int→Bs→(List Bs)→(List aa_)→(List Bs)→(List TOp)→Option (aX_ × Bool)
def ad_.step5 (n:Nat) (k0:ad_.K5) (back:ad_.T5):ad_.T5:=fun o t6 t20 t21 t22 t23 t24 t25 t40 t41 t42 t43 t44 t45 t5 t46 t47 t48=>
 (cond (decide (t6<(t5.length:Int))) (cond (decide (t6<6)) (inB t6 t5.length (let xv2:Bool:=((t5.getD t6.toNat []) == [101,118,101,110,116,58,32,115,110,97,112]);(cond xv2 (back o (W (t6+1)) t20 t21 t22 t23 t24 t25 1 t41 t42 t43 t44 t45 t5 t46 t47 t48) (let xv3:Bool:=((t5.getD t6.toNat []) == [101,118,101,110,116,58,32,112,97,116,99,104]);(cond xv3 (back o (W (t6+1)) t20 t21 t22 t23 t24 t25 2 t41 t42 t43 t44 t45 t5 t46 t47 t48) ((cI_ n (t5.getD t6.toNat []) [105,100,58,32]).bind fun xr4=>(cond (!(xr4 == [])) ((cI_ n (t5.getD t6.toNat []) [105,100,58,32]).bind fun xr5=>((dF_ n xr5).bind fun xr6=>(back o (W (t6+1)) t20 t21 t22 t23 t24 t25 t40 xr6.1 t42 t43 t44 t45 t5 t46 t47 t48))) ((cI_ n (t5.getD t6.toNat []) [98,97,115,101,58,32]).bind fun xr7=>(cond (!(xr7 == [])) ((cI_ n (t5.getD t6.toNat []) [98,97,115,101,58,32]).bind fun xr8=>((dF_ n xr8).bind fun xr9=>(back o (W (t6+1)) t20 t21 t22 t23 t24 t25 t40 t41 xr9.1 t43 t44 t45 t5 t46 t47 t48))) ((cI_ n (t5.getD t6.toNat []) [100,97,116,97,58,32]).bind fun xr10=>(cond (!(xr10 == [])) ((cI_ n (t5.getD t6.toNat []) [100,97,116,97,58,32]).bind fun xr11=>((dV_ n xr11).bind fun xr12=>(cond (t40 == 1) (back o (W (t6+1)) t20 t21 t22 t23 t24 t25 t40 t41 t42 xr12.1.kind xr12.1.n_ xr12.1.s t5 xr12.1.list xr12.1.names t48) (ad_.loop20 n (fun xy14 xy15 xy16 xy17 xy18 xy19 xy20 xy21 xy22 xy23 xy24 xy25 xy26 xy27 xy28 xy29 xy30 xy31=>(back xy14 (W (xy15+1)) xy16 xy17 xy18 xy19 xy20 xy21 xy22 xy23 xy24 xy25 xy26 xy27 xy28 xy29 xy30 xy31)) n o t6 0 t20 t21 t22 t23 t24 t25 t40 t41 t42 t43 t44 t45 t5 xr12.1.kind xr12.1.n_ xr12.1.s t46 t47 t48 xr12.1.list xr12.1.names)))) (back o (W (t6+1)) t20 t21 t22 t23 t24 t25 t40 t41 t42 t43 t44 t45 t5 t46 t47 t48)))))))))))) (k0 o t20 t21 t22 t23 t24 t25 t40 t41 t42 t43 t44 t45 t46 t47 t48)) (k0 o t20 t21 t22 t23 t24 t25 t40 t41 t42 t43 t44 t45 t46 t47 t48))
def ad_.loop5 (n:Nat) (k0:ad_.K5) (N:Nat):ad_.T5:=ct_ (fun _ _ _ _ _ _ _ _ _ _ _ _ _ _ _ _ _ _=>none) (ad_.step5 n k0) N
def ad_:Nat→Bs→Option (aX_ × Bool)
 |0,_=>none
 |n+1,o=>
  ((bj_ n o).bind fun xr1=>(ad_.loop5 n (fun xy32 xy33 xy34 xy35 xy36 xy37 xy38 xy39 xy40 xy41 xy42 xy43 xy44 xy45 xy46 xy47=>(cond (xy32 == []) (some ((aX_.mk 0 0 0 (aa_.mk 0 0 [] ([]:List aa_) ([]:List Bs)) ([]:List TOp)),false)) ((c3_ n (aX_.mk xy39 xy40 xy41 (aa_.mk xy42 xy43 xy44 xy45 xy46) xy47)).bind fun xr48=>(cond (!(xr48 == xy32)) (some ((aX_.mk 0 0 0 (aa_.mk 0 0 [] ([]:List aa_) ([]:List Bs)) ([]:List TOp)),false)) (some ((aX_.mk xy39 xy40 xy41 (aa_.mk xy42 xy43 xy44 xy45 xy46) xy47),true)))))) n o 0 0 0 0 0 0 [] 0 0 0 0 0 [] xr1 ([]:List aa_) ([]:List Bs) ([]:List TOp)))
def laws_FnEvents:Nat→(List Int)→Option Bool
 |0,_=>none
 |n+1,o=>
  ((f8_ n o).bind fun xr1=>(cond xr1 (some true) ((cU_ n o).bind fun xr2=>((co_ n { xr2 with doc:=(aa_.re xr2.doc) }).bind fun xr3=>((c3_ n { xr2 with doc:=(aa_.re xr2.doc) }).bind fun xr4=>(cond (!(xr3 == xr4)) (some false) ((cT_ n { xr2 with doc:=(aa_.re xr2.doc) }).bind fun xr5=>(cond (!((!(xr3 == [])) == xr5)) (some false) (cond (!(xr3 == [])) ((cu_ n xr3).bind fun xr6=>(cond (!xr6.2) (some false) (cond (xr6.1.kind != xr2.kind) (some false) (cond (xr6.1.version != xr2.version) (some false) (cond (xr6.1.base != xr2.base) (some false) ((co_ n { xr6.1 with doc:=(aa_.re xr6.1.doc) }).bind fun xr7=>(cond (!(xr7 == xr3)) (some false) ((cy_ n o).bind fun xr8=>((cu_ n xr8).bind fun xr9=>((ad_ n xr8).bind fun xr10=>(cond (xr9.2 == xr10.2) (cond (!xr9.2) (cond (xr9.1.kind == 0) (some true) (cond xr9.2 ((co_ n { xr9.1 with doc:=(aa_.re xr9.1.doc) }).bind fun xr11=>(cond (xr11 == xr8) ((cT_ n { xr9.1 with doc:=(aa_.re xr9.1.doc) }).bind fun xr12=>(some xr12)) (some false))) (some false))) (cond xr9.2 ((co_ n { xr9.1 with doc:=(aa_.re xr9.1.doc) }).bind fun xr13=>(cond (xr13 == xr8) ((cT_ n { xr9.1 with doc:=(aa_.re xr9.1.doc) }).bind fun xr14=>(some xr14)) (some false))) (some false))) (some false)))))))))))) ((cy_ n o).bind fun xr15=>((cu_ n xr15).bind fun xr16=>((ad_ n xr15).bind fun xr17=>(cond (xr16.2 == xr17.2) (cond (!xr16.2) (cond (xr16.1.kind == 0) (some true) (cond xr16.2 ((co_ n { xr16.1 with doc:=(aa_.re xr16.1.doc) }).bind fun xr18=>(cond (xr18 == xr15) ((cT_ n { xr16.1 with doc:=(aa_.re xr16.1.doc) }).bind fun xr19=>(some xr19)) (some false))) (some false))) (cond xr16.2 ((co_ n { xr16.1 with doc:=(aa_.re xr16.1.doc) }).bind fun xr20=>(cond (xr20 == xr15) ((cT_ n { xr16.1 with doc:=(aa_.re xr16.1.doc) }).bind fun xr21=>(some xr21)) (some false))) (some false))) (some false))))))))))))))
end Go.Pi
end
