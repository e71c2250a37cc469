/- The program's ClientOf returns what the reference's returns, for all arguments, and returns memory that it shares with nothing. Text 4 of 7. -/
import Derived.Test.YtccdklkcfjmchaaGreatDoorCoC
set_option linter.unusedVariables false
set_option maxRecDepth 100000
section
namespace Go.Pi
def bd_.step3 (n:Nat) (k0:Option Int) (back:Bs→Int→Option Int) (s:Bs) (i:Int):Option Int :=
 (cond (decide (i<(s.length:Int))) (inB i s.length (cond (((s.getD i.toNat 0).toNat:Int) == 10) (inB (W (i - 1)) s.length (cond (((s.getD (W (i - 1)).toNat 0).toNat:Int) == 10) (some (W (i+1))) (back s (W (i+1))))) (back s (W (i+1))))) k0)
def bd_.loop3 (n:Nat) (k0:Option Int) (N:Nat):Bs→Int→Option Int :=
 dk_ (fun _ _=>none) (fun back=>bd_.step3 n k0 back) N
def bd_:Nat→Bs→Option Int
 |0,_=>none
 |n+1,s=>
  (bd_.loop3 n (some (-1)) n s 1)
def aY_.step5 (n:Nat) (k0:(List Bs)→Option (List Bs)) (back:Bs→Int→Int→(List Bs)→Option (List Bs)) (text:Bs) (from_1:Int) (i:Int) (out_1:List Bs):Option (List Bs) :=
 (cond (decide (i<(text.length:Int))) (inB i text.length (cond (((text.getD i.toNat 0).toNat:Int) == 10) (e9_ from_1 i text.length (cF_ (out_1.length+([((text.take i.toNat).drop from_1.toNat)]:List Bs).length) 16 (back text (W (i+1)) (W (i+1)) (out_1++([((text.take i.toNat).drop from_1.toNat)]:List Bs))))) (back text from_1 (W (i+1)) out_1))) (k0 out_1))
def aY_.loop5 (n:Nat) (k0:(List Bs)→Option (List Bs)) (N:Nat):Bs→Int→Int→(List Bs)→Option (List Bs) :=
 dk_ (fun _ _ _ _=>none) (fun back=>aY_.step5 n k0 back) N
def aY_:Nat→Bs→Option (List Bs)
 |0,_=>none
 |n+1,text=>
  (aY_.loop5 n (fun xy1=>(some xy1)) n text 0 0 ([]:List Bs))
def bJ_:Nat→Bs→Bs→Option Bs
 |0,_,_=>none
 |n+1,line,head=>
  (cond (decide ((line.length:Int)<(head.length:Int))) (some []) (e9_ 0 (head.length:Int) line.length (cond (!(((line.take (head.length:Int).toNat).drop 0) == head)) (some []) (e9_ (head.length:Int) (line.length:Int) line.length (some ((line.take (line.length:Int).toNat).drop (head.length:Int).toNat))))))
def b5_:Nat→bc_→Option (Int × bc_)
 |0,_=>none
 |n+1,c=>
  (cond (decide (c.at_≥(c.s.length:Int))) (some (0,c)) (inB c.at_ c.s.length (some (((c.s.getD c.at_.toNat 0).toNat:Int),c))))
def az_.step7 (n:Nat) (k0:Bool→Int→Int→Bs→Int→Bool→Int→Option (Int × bc_)) (back:Bool→Int→Int→Bs→Int→Bool→Int→Option (Int × bc_)) (t3:Bool) (t4:Int) (t5:Int) (o0:Bs) (o1:Int) (o2:Bool) (o3:Int):Option (Int × bc_) :=
 ((b5_ n (bc_.mk o0 o1 o2 o3)).bind fun xr2=>(cond (decide (xr2.1≥48)) ((b5_ n xr2.2).bind fun xr3=>(cond (decide (xr3.1≤57)) (cond (decide ((W (xr3.2.at_ - t4))<11)) ((b5_ n xr3.2).bind fun xr4=>(back t3 t4 (W ((W ((W (10*t5))+(W (xr4.1)))) - 48)) xr4.2.s (W (xr4.2.at_+1)) xr4.2.ok xr4.2.left)) (k0 t3 t4 t5 xr3.2.s xr3.2.at_ xr3.2.ok xr3.2.left)) (k0 t3 t4 t5 xr3.2.s xr3.2.at_ xr3.2.ok xr3.2.left))) (k0 t3 t4 t5 xr2.2.s xr2.2.at_ xr2.2.ok xr2.2.left)))
def az_.loop7 (n:Nat) (k0:Bool→Int→Int→Bs→Int→Bool→Int→Option (Int × bc_)) (N:Nat):Bool→Int→Int→Bs→Int→Bool→Int→Option (Int × bc_) :=
 dk_ (fun _ _ _ _ _ _ _=>none) (fun back=>az_.step7 n k0 back) N
def az_:Nat→bc_→Option (Int × bc_)
 |0,_=>none
 |n+1,o=>
  ((b5_ n o).bind fun xr1=>(cond (xr1.1 == 45) (az_.loop7 n (fun xy5 xy6 xy7 xy8 xy9 xy10 xy11=>(cond (xy9 == xy6) (cond xy5 (some ((W (0 - xy7)),(bc_.mk xy8 xy9 false xy11))) (some (xy7,(bc_.mk xy8 xy9 false xy11)))) (cond xy5 (some ((W (0 - xy7)),(bc_.mk xy8 xy9 xy10 xy11))) (some (xy7,(bc_.mk xy8 xy9 xy10 xy11)))))) n (xr1.1 == 45) (W (xr1.2.at_+1)) 0 xr1.2.s (W (xr1.2.at_+1)) xr1.2.ok xr1.2.left) (az_.loop7 n (fun xy12 xy13 xy14 xy15 xy16 xy17 xy18=>(cond (xy16 == xy13) (cond xy12 (some ((W (0 - xy14)),(bc_.mk xy15 xy16 false xy18))) (some (xy14,(bc_.mk xy15 xy16 false xy18)))) (cond xy12 (some ((W (0 - xy14)),(bc_.mk xy15 xy16 xy17 xy18))) (some (xy14,(bc_.mk xy15 xy16 xy17 xy18)))))) n (xr1.1 == 45) xr1.2.at_ 0 xr1.2.s xr1.2.at_ xr1.2.ok xr1.2.left)))
def aJ_.step7 (n:Nat) (k0:Bool→Bs→Option Bs) (back:Int→Bool→Bs→Option Bs) (n_1:Int) (below:Bool) (out_1:Bs):Option Bs :=
 (cond (n_1 != 0) (cond (decide ((Int.tmod n_1 10)<0)) (let xv1:Bs:=(fT_ ([(IntKind.u8.wrap ((W (48+(W (0 - (Int.tmod n_1 10)))))))]:List Int));(cond (decide (xv1.length+out_1.length≤9223372036854775807)) (back (W (Int.tdiv n_1 10)) below (xv1++out_1)) none)) (cond (decide ((fT_ ([(IntKind.u8.wrap ((W (48+(Int.tmod n_1 10)))))]:List Int)).length+out_1.length≤9223372036854775807)) (let xv2:Bs:=((fT_ ([(IntKind.u8.wrap ((W (48+(Int.tmod n_1 10)))))]:List Int))++out_1);(back (W (Int.tdiv n_1 10)) below xv2)) none)) (k0 below out_1))
def aJ_.loop7 (n:Nat) (k0:Bool→Bs→Option Bs) (N:Nat):Int→Bool→Bs→Option Bs :=
 dk_ (fun _ _ _=>none) (fun back=>aJ_.step7 n k0 back) N
def aJ_:Nat→Int→Option Bs
 |0,_=>none
 |n+1,n1=>
  (cond (n1 == 0) (some [48]) (aJ_.loop7 n (fun xy3 xy4=>(cond xy3 (cond (decide ([45].length+xy4.length≤9223372036854775807)) (some (([45]:Bs)++xy4)) none) (some xy4))) n n1 (decide (n1<0)) []))
def cw_:Nat→Bs→Option (Int × Bool)
 |0,_=>none
 |n+1,s=>
  ((az_ n (bc_.mk s 0 true 0)).bind fun xr1=>(cond xr1.2.ok ((aJ_ n xr1.1).bind fun xr2=>(some (xr1.1,(xr2 == s)))) (some (xr1.1,false))))
def bB_:Nat→bc_→Bs→Option bc_
 |0,_,_=>none
 |n+1,c,what=>
  (cond (decide ((W ((c.s.length:Int) - c.at_))<(what.length:Int))) (some { c with ok:=false }) (e9_ c.at_ (W (c.at_+(what.length:Int))) c.s.length (let xv1:Bool:=(!(((c.s.take (W (c.at_+(what.length:Int))).toNat).drop c.at_.toNat) == what));(cond xv1 (some { c with ok:=false }) (some { c with at_:=(W (c.at_+(what.length:Int))) })))))
def aA_.step4 (n:Nat) (k0:Bs→Int→Bool→Int→(List Int)→Option (Bs × bc_)) (back:Bs→Int→Bool→Int→(List Int)→Option (Bs × bc_)) (c0:Bs) (c1:Int) (c2:Bool) (c3:Int) (out_1:List Int):Option (Bs × bc_) :=
 (cond c2 ((b5_ n (bc_.mk c0 c1 c2 c3)).bind fun xr2=>(cond (xr2.1 != 34) ((b5_ n xr2.2).bind fun xr3=>(cond (xr3.1 == 92) (cond (decide ((W (xr3.2.at_+1))≥(xr3.2.s.length:Int))) (k0 xr3.2.s (W (xr3.2.at_+1)) false xr3.2.left out_1) (inB (W (xr3.2.at_+1)) xr3.2.s.length (cF_ (out_1.length+([((xr3.2.s.getD (W (xr3.2.at_+1)).toNat 0).toNat:Int)]:List Int).length) 1 (back xr3.2.s (W ((W (xr3.2.at_+1))+1)) xr3.2.ok xr3.2.left (out_1++([((xr3.2.s.getD (W (xr3.2.at_+1)).toNat 0).toNat:Int)]:List Int)))))) (cond (decide (xr3.2.at_≥(xr3.2.s.length:Int))) (k0 xr3.2.s xr3.2.at_ false xr3.2.left out_1) (inB xr3.2.at_ xr3.2.s.length (cF_ (out_1.length+([((xr3.2.s.getD xr3.2.at_.toNat 0).toNat:Int)]:List Int).length) 1 (back xr3.2.s (W (xr3.2.at_+1)) xr3.2.ok xr3.2.left (out_1++([((xr3.2.s.getD xr3.2.at_.toNat 0).toNat:Int)]:List Int)))))))) (k0 xr2.2.s xr2.2.at_ xr2.2.ok xr2.2.left out_1))) (k0 c0 c1 c2 c3 out_1))
def aA_.loop4 (n:Nat) (k0:Bs→Int→Bool→Int→(List Int)→Option (Bs × bc_)) (N:Nat):Bs→Int→Bool→Int→(List Int)→Option (Bs × bc_) :=
 dk_ (fun _ _ _ _ _=>none) (fun back=>aA_.step4 n k0 back) N
def aA_:Nat→bc_→Option (Bs × bc_)
 |0,_=>none
 |n+1,c=>
  ((bB_ n c [34]).bind fun xr1=>(aA_.loop4 n (fun xy4 xy5 xy6 xy7 xy8=>((bB_ n (bc_.mk xy4 xy5 xy6 xy7) [34]).bind fun xr9=>(some ((fT_ xy8),xr9)))) n xr1.s xr1.at_ xr1.ok xr1.left ([]:List Int)))
def aU_.step8 (n:Nat) (spec_l2Value_:bc_→Int→Option (aa_ × bc_)) (k0:Bs→Bs→Int→Bool→Int→Int→Int→Bs→Int→Int→Bs→(List aa_)→(List Bs)→Option (aa_ × bc_)) (back:Int→Bs→Bs→Int→Bool→Int→Int→Int→Bs→Int→Int→Bs→(List aa_)→(List Bs)→Option (aa_ × bc_)) (depth:Int) (end_1:Bs) (c0:Bs) (c1:Int) (c2:Bool) (c3:Int) (t40:Int) (t41:Int) (t42:Bs) (out0:Int) (out1:Int) (out2:Bs) (out3:List aa_) (out4:List Bs):Option (aa_ × bc_) :=
 (cond c2 ((b5_ n (bc_.mk c0 c1 c2 c3)).bind fun xr2=>(inB 0 end_1.length (cond (xr2.1 != ((end_1.getD 0 0).toNat:Int)) (cond (decide ((out3.length:Int) > 0)) ((bB_ n xr2.2 [44]).bind fun xr3=>(cond (out0 == 5) ((aA_ n xr3).bind fun xr4=>(cF_ (out4.length+([xr4.1]:List Bs).length) 16 ((bB_ n xr4.2 [58]).bind fun xr5=>((spec_l2Value_ xr5 (W (depth - 1))).bind fun xr6=>(cF_ (out3.length+([(aa_.re xr6.1)]:List aa_).length) 80 (back depth end_1 xr6.2.s xr6.2.at_ xr6.2.ok xr6.2.left t40 t41 t42 out0 out1 out2 (out3++([(aa_.re xr6.1)]:List aa_)) (out4++([xr4.1]:List Bs)))))))) ((spec_l2Value_ xr3 (W (depth - 1))).bind fun xr7=>(cF_ (out3.length+([(aa_.re xr7.1)]:List aa_).length) 80 (back depth end_1 xr7.2.s xr7.2.at_ xr7.2.ok xr7.2.left t40 t41 t42 out0 out1 out2 (out3++([(aa_.re xr7.1)]:List aa_)) out4))))) (cond (out0 == 5) ((aA_ n xr2.2).bind fun xr8=>(cF_ (out4.length+([xr8.1]:List Bs).length) 16 ((bB_ n xr8.2 [58]).bind fun xr9=>((spec_l2Value_ xr9 (W (depth - 1))).bind fun xr10=>(cF_ (out3.length+([(aa_.re xr10.1)]:List aa_).length) 80 (back depth end_1 xr10.2.s xr10.2.at_ xr10.2.ok xr10.2.left t40 t41 t42 out0 out1 out2 (out3++([(aa_.re xr10.1)]:List aa_)) (out4++([xr8.1]:List Bs)))))))) ((spec_l2Value_ xr2.2 (W (depth - 1))).bind fun xr11=>(cF_ (out3.length+([(aa_.re xr11.1)]:List aa_).length) 80 (back depth end_1 xr11.2.s xr11.2.at_ xr11.2.ok xr11.2.left t40 t41 t42 out0 out1 out2 (out3++([(aa_.re xr11.1)]:List aa_)) out4))))) (k0 end_1 xr2.2.s xr2.2.at_ xr2.2.ok xr2.2.left t40 t41 t42 out0 out1 out2 out3 out4)))) (k0 end_1 c0 c1 c2 c3 t40 t41 t42 out0 out1 out2 out3 out4))
def aU_.loop8 (n:Nat) (spec_l2Value_:bc_→Int→Option (aa_ × bc_)) (k0:Bs→Bs→Int→Bool→Int→Int→Int→Bs→Int→Int→Bs→(List aa_)→(List Bs)→Option (aa_ × bc_)) (N:Nat):Int→Bs→Bs→Int→Bool→Int→Int→Int→Bs→Int→Int→Bs→(List aa_)→(List Bs)→Option (aa_ × bc_) :=
 dk_ (fun _ _ _ _ _ _ _ _ _ _ _ _ _ _=>none) (fun back=>aU_.step8 n spec_l2Value_ k0 back) N
mutual
def bn_:Nat→bc_→Int→Option (aa_ × bc_)
 |0,_,_=>none
 |n+1,c,depth=>
  (cond (depth == 0) (some ((aa_.mk 0 0 [] ([]:List aa_) ([]:List Bs)),(bc_.mk c.s c.at_ false (W (c.left - 1))))) (cond (decide ((W (c.left - 1))<0)) (some ((aa_.mk 0 0 [] ([]:List aa_) ([]:List Bs)),(bc_.mk c.s c.at_ false (W (c.left - 1))))) (cond (!c.ok) (some ((aa_.mk 0 0 [] ([]:List aa_) ([]:List Bs)),{ c with left:=(W (c.left - 1)) })) ((b5_ n { c with left:=(W (c.left - 1)) }).bind fun xr1=>(cond (xr1.1 == 110) ((bB_ n xr1.2 [110,117,108,108]).bind fun xr2=>(some ((aa_.mk 0 0 [] ([]:List aa_) ([]:List Bs)),xr2))) (cond (xr1.1 == 116) ((bB_ n xr1.2 [116,114,117,101]).bind fun xr3=>(some ((aa_.mk 1 1 [] ([]:List aa_) ([]:List Bs)),xr3))) (cond (xr1.1 == 102) ((bB_ n xr1.2 [102,97,108,115,101]).bind fun xr4=>(some ((aa_.mk 1 0 [] ([]:List aa_) ([]:List Bs)),xr4))) (cond (xr1.1 == 34) ((aA_ n xr1.2).bind fun xr5=>(some ((aa_.mk 3 0 xr5.1 ([]:List aa_) ([]:List Bs)),xr5.2))) (cond (xr1.1 == 91) (cond (xr1.1 == 91) ((aU_ n xr1.2 depth).bind fun xr6=>(some ((aa_.re xr6.1),xr6.2))) ((az_ n xr1.2).bind fun xr7=>(some ((aa_.mk 2 xr7.1 [] ([]:List aa_) ([]:List Bs)),xr7.2)))) (cond (xr1.1 == 123) ((aU_ n xr1.2 depth).bind fun xr8=>(some ((aa_.re xr8.1),xr8.2))) ((az_ n xr1.2).bind fun xr9=>(some ((aa_.mk 2 xr9.1 [] ([]:List aa_) ([]:List Bs)),xr9.2)))))))))))))
def aU_:Nat→bc_→Int→Option (aa_ × bc_)
 |0,_,_=>none
 |n+1,c,depth=>
  ((b5_ n c).bind fun xr1=>(cond (xr1.1 == 123) (aU_.loop8 n (bn_ n) (fun xy12 xy13 xy14 xy15 xy16 xy17 xy18 xy19 xy20 xy21 xy22 xy23 xy24=>((bB_ n (bc_.mk xy13 xy14 xy15 xy16) xy12).bind fun xr25=>(some ((aa_.mk xy20 xy21 xy22 xy23 xy24),xr25)))) n depth [125] xr1.2.s (W (xr1.2.at_+1)) xr1.2.ok xr1.2.left 0 0 [] 5 0 [] ([]:List aa_) ([]:List Bs)) (aU_.loop8 n (bn_ n) (fun xy26 xy27 xy28 xy29 xy30 xy31 xy32 xy33 xy34 xy35 xy36 xy37 xy38=>((bB_ n (bc_.mk xy27 xy28 xy29 xy30) xy26).bind fun xr39=>(some ((aa_.mk xy34 xy35 xy36 xy37 xy38),xr39)))) n depth [93] xr1.2.s (W (xr1.2.at_+1)) xr1.2.ok xr1.2.left 0 0 [] 4 0 [] ([]:List aa_) ([]:List Bs))))
end
def bf_.step3 (n:Nat) (k0:Bs→Option Bool) (back:Bs→Int→Option Bool) (s:Bs) (i:Int):Option Bool :=
 (cond (decide (i<(s.length:Int))) (inB i s.length (cond (decide (((s.getD i.toNat 0).toNat:Int)<32)) (some false) (inB i s.length (cond (decide (((s.getD i.toNat 0).toNat:Int) > 126)) (some false) (back s (W (i+1))))))) (k0 s))
def bf_.loop3 (n:Nat) (k0:Bs→Option Bool) (N:Nat):Bs→Int→Option Bool :=
 dk_ (fun _ _=>none) (fun back=>bf_.step3 n k0 back) N
def bf_:Nat→Bs→Option Bool
 |0,_=>none
 |n+1,s=>
  (bf_.loop3 n (fun xy1=>(some (decide ((xy1.length:Int)≤60)))) n s 0)
def af_.step6 (n:Nat) (k0:Int→Int→Bs→(List aa_)→(List Bs)→Option Bool) (back:Int→Int→Int→Bs→(List aa_)→(List Bs)→Option Bool) (i:Int) (j0:Int) (j1:Int) (j2:Bs) (j3:List aa_) (j4:List Bs):Option Bool :=
 (cond (decide (i<(j4.length:Int))) (inB i j4.length ((bf_ n (j4.getD i.toNat [])).bind fun xr1=>(cond (!xr1) (some false) (cond (decide (i > 0)) (inB (W (i - 1)) j4.length (inB i j4.length (cond (!Op.bytesLess (j4.getD (W (i - 1)).toNat []) (j4.getD i.toNat [])) (some false) (back (W (i+1)) j0 j1 j2 j3 j4)))) (back (W (i+1)) j0 j1 j2 j3 j4))))) (k0 j0 j1 j2 j3 j4))
def af_.loop6 (n:Nat) (k0:Int→Int→Bs→(List aa_)→(List Bs)→Option Bool) (N:Nat):Int→Int→Int→Bs→(List aa_)→(List Bs)→Option Bool :=
 dk_ (fun _ _ _ _ _ _=>none) (fun back=>af_.step6 n k0 back) N
def af_:Nat→aa_→Option Bool
 |0,_=>none
 |n+1,j=>
  (cond (j.kind != 5) (some ((j.names.length:Int) == 0)) (af_.loop6 n (fun xy2 xy3 xy4 xy5 xy6=>(some ((xy6.length:Int) == (xy5.length:Int)))) n 0 j.kind j.n_ j.s j.list j.names))
def cT_:Nat→Int→Int→Int→Option Bool
 |0,_,_,_=>none
 |n+1,x,lo,hi=>
  (cond (decide (x≥lo)) (some (decide (x≤hi))) (some false))
def aG_.step23 (n:Nat) (spec_l1Great_:aa_→Int→Option Int) (k1:Int→Int→Int→Int→Bs→(List aa_)→(List Bs)→Option Int) (back:Int→Int→Int→Int→Int→Int→Bs→(List aa_)→(List Bs)→Option Int) (append:Int) (t5:Int) (t6:Int) (t7:Int) (t20:Int) (t21:Int) (t22:Bs) (t23:List aa_) (t24:List Bs):Option Int :=
 (cond (decide (t7<(t23.length:Int))) (cond (decide (t6≤400)) (inB t7 t23.length ((spec_l1Great_ (aa_.re (t23.getD t7.toNat aa_.dflt)) (W (append - 1))).bind fun xr52=>(back append t5 (W (t6+xr52)) (W (t7+1)) t20 t21 t22 t23 t24))) (k1 t5 t6 t20 t21 t22 t23 t24)) (k1 t5 t6 t20 t21 t22 t23 t24))
def aG_.loop23 (n:Nat) (spec_l1Great_:aa_→Int→Option Int) (k1:Int→Int→Int→Int→Bs→(List aa_)→(List Bs)→Option Int) (N:Nat):Int→Int→Int→Int→Int→Int→Bs→(List aa_)→(List Bs)→Option Int :=
 dk_ (fun _ _ _ _ _ _ _ _ _=>none) (fun back=>aG_.step23 n spec_l1Great_ k1 back) N
def aG_:Nat→aa_→Int→Option Int
 |0,_,_=>none
 |n+1,o,append=>
  (cond (append == 0) (some 401) (cond (o.kind == 0) (cond (o.n_ != 0) (some 401) (cond (o.kind != 3) (cond (!(o.s == [])) (some 401) (cond (o.kind == 3) (cond (o.n_ != 0) (some 401) (cond (decide (o.kind<4)) (cond (decide ((o.list.length:Int) > 0)) (some 401) ((af_ n (aa_.re o)).bind fun xr1=>(cond (!xr1) (some 401) (some 1)))) ((af_ n (aa_.re o)).bind fun xr2=>(cond (!xr2) (some 401) (some 1))))) (cond (decide (o.kind≥4)) (cond (o.n_ != 0) (some 401) (cond (decide (o.kind<4)) (cond (decide ((o.list.length:Int) > 0)) (some 401) ((af_ n (aa_.re o)).bind fun xr3=>(cond (!xr3) (some 401) (some 1)))) ((af_ n (aa_.re o)).bind fun xr4=>(cond (!xr4) (some 401) (some 1))))) (cond (decide (o.kind<4)) (cond (decide ((o.list.length:Int) > 0)) (some 401) ((af_ n (aa_.re o)).bind fun xr5=>(cond (!xr5) (some 401) (some 1)))) ((af_ n (aa_.re o)).bind fun xr6=>(cond (!xr6) (some 401) (some 1))))))) (cond (o.kind == 3) (cond (o.n_ != 0) (some 401) (cond (decide (o.kind<4)) (cond (decide ((o.list.length:Int) > 0)) (some 401) ((af_ n (aa_.re o)).bind fun xr7=>(cond (!xr7) (some 401) (some 1)))) ((af_ n (aa_.re o)).bind fun xr8=>(cond (!xr8) (some 401) (some 1))))) (cond (decide (o.kind≥4)) (cond (o.n_ != 0) (some 401) (cond (decide (o.kind<4)) (cond (decide ((o.list.length:Int) > 0)) (some 401) ((af_ n (aa_.re o)).bind fun xr9=>(cond (!xr9) (some 401) (some 1)))) ((af_ n (aa_.re o)).bind fun xr10=>(cond (!xr10) (some 401) (some 1))))) (cond (decide (o.kind<4)) (cond (decide ((o.list.length:Int) > 0)) (some 401) ((af_ n (aa_.re o)).bind fun xr11=>(cond (!xr11) (some 401) (some 1)))) ((af_ n (aa_.re o)).bind fun xr12=>(cond (!xr12) (some 401) (some 1)))))))) (cond (o.kind == 1) ((cT_ n o.n_ 0 1).bind fun xr13=>(cond (!xr13) (some 401) (cond (o.kind != 3) (cond (!(o.s == [])) (some 401) (cond (o.kind == 3) (cond (o.n_ != 0) (some 401) (cond (decide (o.kind<4)) (cond (decide ((o.list.length:Int) > 0)) (some 401) ((af_ n (aa_.re o)).bind fun xr14=>(cond (!xr14) (some 401) (some 1)))) ((af_ n (aa_.re o)).bind fun xr15=>(cond (!xr15) (some 401) (some 1))))) (cond (decide (o.kind≥4)) (cond (o.n_ != 0) (some 401) (cond (decide (o.kind<4)) (cond (decide ((o.list.length:Int) > 0)) (some 401) ((af_ n (aa_.re o)).bind fun xr16=>(cond (!xr16) (some 401) (some 1)))) ((af_ n (aa_.re o)).bind fun xr17=>(cond (!xr17) (some 401) (some 1))))) (cond (decide (o.kind<4)) (cond (decide ((o.list.length:Int) > 0)) (some 401) ((af_ n (aa_.re o)).bind fun xr18=>(cond (!xr18) (some 401) (some 1)))) ((af_ n (aa_.re o)).bind fun xr19=>(cond (!xr19) (some 401) (some 1))))))) (cond (o.kind == 3) (cond (o.n_ != 0) (some 401) (cond (decide (o.kind<4)) (cond (decide ((o.list.length:Int) > 0)) (some 401) ((af_ n (aa_.re o)).bind fun xr20=>(cond (!xr20) (some 401) (some 1)))) ((af_ n (aa_.re o)).bind fun xr21=>(cond (!xr21) (some 401) (some 1))))) (cond (decide (o.kind≥4)) (cond (o.n_ != 0) (some 401) (cond (decide (o.kind<4)) (cond (decide ((o.list.length:Int) > 0)) (some 401) ((af_ n (aa_.re o)).bind fun xr22=>(cond (!xr22) (some 401) (some 1)))) ((af_ n (aa_.re o)).bind fun xr23=>(cond (!xr23) (some 401) (some 1))))) (cond (decide (o.kind<4)) (cond (decide ((o.list.length:Int) > 0)) (some 401) ((af_ n (aa_.re o)).bind fun xr24=>(cond (!xr24) (some 401) (some 1)))) ((af_ n (aa_.re o)).bind fun xr25=>(cond (!xr25) (some 401) (some 1))))))))) (cond (o.kind == 2) ((cT_ n o.n_ (-1000000000) 1000000000).bind fun xr26=>(cond (!xr26) (some 401) (cond (o.kind != 3) (cond (!(o.s == [])) (some 401) (cond (o.kind == 3) (cond (o.n_ != 0) (some 401) (cond (decide (o.kind<4)) (cond (decide ((o.list.length:Int) > 0)) (some 401) ((af_ n (aa_.re o)).bind fun xr27=>(cond (!xr27) (some 401) (some 1)))) ((af_ n (aa_.re o)).bind fun xr28=>(cond (!xr28) (some 401) (some 1))))) (cond (decide (o.kind≥4)) (cond (o.n_ != 0) (some 401) (cond (decide (o.kind<4)) (cond (decide ((o.list.length:Int) > 0)) (some 401) ((af_ n (aa_.re o)).bind fun xr29=>(cond (!xr29) (some 401) (some 1)))) ((af_ n (aa_.re o)).bind fun xr30=>(cond (!xr30) (some 401) (some 1))))) (cond (decide (o.kind<4)) (cond (decide ((o.list.length:Int) > 0)) (some 401) ((af_ n (aa_.re o)).bind fun xr31=>(cond (!xr31) (some 401) (some 1)))) ((af_ n (aa_.re o)).bind fun xr32=>(cond (!xr32) (some 401) (some 1))))))) (cond (o.kind == 3) (cond (o.n_ != 0) (some 401) (cond (decide (o.kind<4)) (cond (decide ((o.list.length:Int) > 0)) (some 401) ((af_ n (aa_.re o)).bind fun xr33=>(cond (!xr33) (some 401) (some 1)))) ((af_ n (aa_.re o)).bind fun xr34=>(cond (!xr34) (some 401) (some 1))))) (cond (decide (o.kind≥4)) (cond (o.n_ != 0) (some 401) (cond (decide (o.kind<4)) (cond (decide ((o.list.length:Int) > 0)) (some 401) ((af_ n (aa_.re o)).bind fun xr35=>(cond (!xr35) (some 401) (some 1)))) ((af_ n (aa_.re o)).bind fun xr36=>(cond (!xr36) (some 401) (some 1))))) (cond (decide (o.kind<4)) (cond (decide ((o.list.length:Int) > 0)) (some 401) ((af_ n (aa_.re o)).bind fun xr37=>(cond (!xr37) (some 401) (some 1)))) ((af_ n (aa_.re o)).bind fun xr38=>(cond (!xr38) (some 401) (some 1))))))))) (cond (o.kind == 3) ((bf_ n o.s).bind fun xr39=>(cond (!xr39) (some 401) (cond (o.kind != 3) (cond (!(o.s == [])) (some 401) (cond (o.kind == 3) (cond (o.n_ != 0) (some 401) (cond (decide (o.kind<4)) (cond (decide ((o.list.length:Int) > 0)) (some 401) ((af_ n (aa_.re o)).bind fun xr40=>(cond (!xr40) (some 401) (some 1)))) ((af_ n (aa_.re o)).bind fun xr41=>(cond (!xr41) (some 401) (some 1))))) (cond (decide (o.kind≥4)) (cond (o.n_ != 0) (some 401) (cond (decide (o.kind<4)) (cond (decide ((o.list.length:Int) > 0)) (some 401) ((af_ n (aa_.re o)).bind fun xr42=>(cond (!xr42) (some 401) (some 1)))) ((af_ n (aa_.re o)).bind fun xr43=>(cond (!xr43) (some 401) (some 1))))) (cond (decide (o.kind<4)) (cond (decide ((o.list.length:Int) > 0)) (some 401) ((af_ n (aa_.re o)).bind fun xr44=>(cond (!xr44) (some 401) (some 1)))) ((af_ n (aa_.re o)).bind fun xr45=>(cond (!xr45) (some 401) (some 1))))))) (cond (o.kind == 3) (cond (o.n_ != 0) (some 401) (cond (decide (o.kind<4)) (cond (decide ((o.list.length:Int) > 0)) (some 401) ((af_ n (aa_.re o)).bind fun xr46=>(cond (!xr46) (some 401) (some 1)))) ((af_ n (aa_.re o)).bind fun xr47=>(cond (!xr47) (some 401) (some 1))))) (cond (decide (o.kind≥4)) (cond (o.n_ != 0) (some 401) (cond (decide (o.kind<4)) (cond (decide ((o.list.length:Int) > 0)) (some 401) ((af_ n (aa_.re o)).bind fun xr48=>(cond (!xr48) (some 401) (some 1)))) ((af_ n (aa_.re o)).bind fun xr49=>(cond (!xr49) (some 401) (some 1))))) (cond (decide (o.kind<4)) (cond (decide ((o.list.length:Int) > 0)) (some 401) ((af_ n (aa_.re o)).bind fun xr50=>(cond (!xr50) (some 401) (some 1)))) ((af_ n (aa_.re o)).bind fun xr51=>(cond (!xr51) (some 401) (some 1))))))))) (cond (o.kind == 4) (cond (o.kind == 4) (aG_.loop23 n (aG_ n) (fun xy53 xy54 xy55 xy56 xy57 xy58 xy59=>(cond (xy55 != 3) (cond (!(xy57 == [])) (some xy53) (cond (xy55 == 3) (cond (xy56 != 0) (some xy53) (cond (decide (xy55<4)) (cond (decide ((xy58.length:Int) > 0)) (some xy53) ((af_ n (aa_.mk xy55 xy56 xy57 xy58 xy59)).bind fun xr60=>(cond (!xr60) (some xy53) (some xy54)))) ((af_ n (aa_.mk xy55 xy56 xy57 xy58 xy59)).bind fun xr61=>(cond (!xr61) (some xy53) (some xy54))))) (cond (decide (xy55≥4)) (cond (xy56 != 0) (some xy53) (cond (decide (xy55<4)) (cond (decide ((xy58.length:Int) > 0)) (some xy53) ((af_ n (aa_.mk xy55 xy56 xy57 xy58 xy59)).bind fun xr62=>(cond (!xr62) (some xy53) (some xy54)))) ((af_ n (aa_.mk xy55 xy56 xy57 xy58 xy59)).bind fun xr63=>(cond (!xr63) (some xy53) (some xy54))))) (cond (decide (xy55<4)) (cond (decide ((xy58.length:Int) > 0)) (some xy53) ((af_ n (aa_.mk xy55 xy56 xy57 xy58 xy59)).bind fun xr64=>(cond (!xr64) (some xy53) (some xy54)))) ((af_ n (aa_.mk xy55 xy56 xy57 xy58 xy59)).bind fun xr65=>(cond (!xr65) (some xy53) (some xy54))))))) (cond (xy55 == 3) (cond (xy56 != 0) (some xy53) (cond (decide (xy55<4)) (cond (decide ((xy58.length:Int) > 0)) (some xy53) ((af_ n (aa_.mk xy55 xy56 xy57 xy58 xy59)).bind fun xr66=>(cond (!xr66) (some xy53) (some xy54)))) ((af_ n (aa_.mk xy55 xy56 xy57 xy58 xy59)).bind fun xr67=>(cond (!xr67) (some xy53) (some xy54))))) (cond (decide (xy55≥4)) (cond (xy56 != 0) (some xy53) (cond (decide (xy55<4)) (cond (decide ((xy58.length:Int) > 0)) (some xy53) ((af_ n (aa_.mk xy55 xy56 xy57 xy58 xy59)).bind fun xr68=>(cond (!xr68) (some xy53) (some xy54)))) ((af_ n (aa_.mk xy55 xy56 xy57 xy58 xy59)).bind fun xr69=>(cond (!xr69) (some xy53) (some xy54))))) (cond (decide (xy55<4)) (cond (decide ((xy58.length:Int) > 0)) (some xy53) ((af_ n (aa_.mk xy55 xy56 xy57 xy58 xy59)).bind fun xr70=>(cond (!xr70) (some xy53) (some xy54)))) ((af_ n (aa_.mk xy55 xy56 xy57 xy58 xy59)).bind fun xr71=>(cond (!xr71) (some xy53) (some xy54)))))))) n append 401 1 0 o.kind o.n_ o.s o.list o.names) (some 401)) (cond (o.kind == 5) (aG_.loop23 n (aG_ n) (fun xy72 xy73 xy74 xy75 xy76 xy77 xy78=>(cond (xy74 != 3) (cond (!(xy76 == [])) (some xy72) (cond (xy74 == 3) (cond (xy75 != 0) (some xy72) (cond (decide (xy74<4)) (cond (decide ((xy77.length:Int) > 0)) (some xy72) ((af_ n (aa_.mk xy74 xy75 xy76 xy77 xy78)).bind fun xr79=>(cond (!xr79) (some xy72) (some xy73)))) ((af_ n (aa_.mk xy74 xy75 xy76 xy77 xy78)).bind fun xr80=>(cond (!xr80) (some xy72) (some xy73))))) (cond (decide (xy74≥4)) (cond (xy75 != 0) (some xy72) (cond (decide (xy74<4)) (cond (decide ((xy77.length:Int) > 0)) (some xy72) ((af_ n (aa_.mk xy74 xy75 xy76 xy77 xy78)).bind fun xr81=>(cond (!xr81) (some xy72) (some xy73)))) ((af_ n (aa_.mk xy74 xy75 xy76 xy77 xy78)).bind fun xr82=>(cond (!xr82) (some xy72) (some xy73))))) (cond (decide (xy74<4)) (cond (decide ((xy77.length:Int) > 0)) (some xy72) ((af_ n (aa_.mk xy74 xy75 xy76 xy77 xy78)).bind fun xr83=>(cond (!xr83) (some xy72) (some xy73)))) ((af_ n (aa_.mk xy74 xy75 xy76 xy77 xy78)).bind fun xr84=>(cond (!xr84) (some xy72) (some xy73))))))) (cond (xy74 == 3) (cond (xy75 != 0) (some xy72) (cond (decide (xy74<4)) (cond (decide ((xy77.length:Int) > 0)) (some xy72) ((af_ n (aa_.mk xy74 xy75 xy76 xy77 xy78)).bind fun xr85=>(cond (!xr85) (some xy72) (some xy73)))) ((af_ n (aa_.mk xy74 xy75 xy76 xy77 xy78)).bind fun xr86=>(cond (!xr86) (some xy72) (some xy73))))) (cond (decide (xy74≥4)) (cond (xy75 != 0) (some xy72) (cond (decide (xy74<4)) (cond (decide ((xy77.length:Int) > 0)) (some xy72) ((af_ n (aa_.mk xy74 xy75 xy76 xy77 xy78)).bind fun xr87=>(cond (!xr87) (some xy72) (some xy73)))) ((af_ n (aa_.mk xy74 xy75 xy76 xy77 xy78)).bind fun xr88=>(cond (!xr88) (some xy72) (some xy73))))) (cond (decide (xy74<4)) (cond (decide ((xy77.length:Int) > 0)) (some xy72) ((af_ n (aa_.mk xy74 xy75 xy76 xy77 xy78)).bind fun xr89=>(cond (!xr89) (some xy72) (some xy73)))) ((af_ n (aa_.mk xy74 xy75 xy76 xy77 xy78)).bind fun xr90=>(cond (!xr90) (some xy72) (some xy73)))))))) n append 401 1 0 o.kind o.n_ o.s o.list o.names) (some 401))))))))
def bZ_:Nat→aa_→Option Bool
 |0,_=>none
 |n+1,j=>
  ((aG_ n (aa_.re j) 6).bind fun xr1=>(some (decide (xr1≤400))))
def a4_.step4 (n:Nat) (k0:(List Int)→Option Bs) (back:Bs→Int→(List Int)→Option Bs) (s:Bs) (i:Int) (out_1:List Int):Option Bs :=
 (cond (decide (i<(s.length:Int))) (inB i s.length (cond (((s.getD i.toNat 0).toNat:Int) == 34) (cF_ (out_1.length+([92]:List Int).length) 1 (inB i s.length (cF_ ((out_1++([92]:List Int)).length+([((s.getD i.toNat 0).toNat:Int)]:List Int).length) 1 (back s (W (i+1)) ((out_1++([92]:List Int))++([((s.getD i.toNat 0).toNat:Int)]:List Int)))))) (inB i s.length (cond (((s.getD i.toNat 0).toNat:Int) == 92) (cF_ (out_1.length+([92]:List Int).length) 1 (inB i s.length (cF_ ((out_1++([92]:List Int)).length+([((s.getD i.toNat 0).toNat:Int)]:List Int).length) 1 (back s (W (i+1)) ((out_1++([92]:List Int))++([((s.getD i.toNat 0).toNat:Int)]:List Int)))))) (inB i s.length (cF_ (out_1.length+([((s.getD i.toNat 0).toNat:Int)]:List Int).length) 1 (back s (W (i+1)) (out_1++([((s.getD i.toNat 0).toNat:Int)]:List Int))))))))) (k0 out_1))
def a4_.loop4 (n:Nat) (k0:(List Int)→Option Bs) (N:Nat):Bs→Int→(List Int)→Option Bs :=
 dk_ (fun _ _ _=>none) (fun back=>a4_.step4 n k0 back) N
def a4_:Nat→Bs→Option Bs
 |0,_=>none
 |n+1,s=>
  (a4_.loop4 n (fun xy1=>(cF_ (xy1.length+([34]:List Int).length) 1 (some (fT_ (xy1++([34]:List Int)))))) n s 0 ([34]:List Int))
def aD_.step17 (n:Nat) (spec_l2Encode_:aa_→Option Bs) (k1:Bs→Int→Int→Bs→(List aa_)→(List Bs)→Option Bs) (back:Bs→Int→Int→Int→Bs→(List aa_)→(List Bs)→Option Bs) (out_1:Bs) (i:Int) (j0:Int) (j1:Int) (j2:Bs) (j3:List aa_) (j4:List Bs):Option Bs :=
 (cond (decide (i<(j3.length:Int))) (cond (decide (i > 0)) (cond (decide (out_1.length+[44].length≤9223372036854775807)) (cond (j0 == 5) (inB i j4.length ((a4_ n (j4.getD i.toNat [])).bind fun xr3=>(cond (decide ((out_1++[44]).length+xr3.length≤9223372036854775807)) (cond (decide (((out_1++[44])++xr3).length+[58].length≤9223372036854775807)) (inB i j3.length ((spec_l2Encode_ (aa_.re (j3.getD i.toNat aa_.dflt))).bind fun xr4=>(cond (decide ((((out_1++[44])++xr3)++[58]).length+xr4.length≤9223372036854775807)) (back ((((out_1++[44])++xr3)++[58])++xr4) (W (i+1)) j0 j1 j2 j3 j4) none))) none) none))) (inB i j3.length ((spec_l2Encode_ (aa_.re (j3.getD i.toNat aa_.dflt))).bind fun xr5=>(cond (decide ((out_1++[44]).length+xr5.length≤9223372036854775807)) (back ((out_1++[44])++xr5) (W (i+1)) j0 j1 j2 j3 j4) none)))) none) (cond (j0 == 5) (inB i j4.length ((a4_ n (j4.getD i.toNat [])).bind fun xr6=>(cond (decide (out_1.length+xr6.length≤9223372036854775807)) (cond (decide ((out_1++xr6).length+[58].length≤9223372036854775807)) (inB i j3.length ((spec_l2Encode_ (aa_.re (j3.getD i.toNat aa_.dflt))).bind fun xr7=>(cond (decide (((out_1++xr6)++[58]).length+xr7.length≤9223372036854775807)) (back (((out_1++xr6)++[58])++xr7) (W (i+1)) j0 j1 j2 j3 j4) none))) none) none))) (inB i j3.length ((spec_l2Encode_ (aa_.re (j3.getD i.toNat aa_.dflt))).bind fun xr8=>(cond (decide (out_1.length+xr8.length≤9223372036854775807)) (back (out_1++xr8) (W (i+1)) j0 j1 j2 j3 j4) none))))) (k1 out_1 j0 j1 j2 j3 j4))
def aD_.loop17 (n:Nat) (spec_l2Encode_:aa_→Option Bs) (k1:Bs→Int→Int→Bs→(List aa_)→(List Bs)→Option Bs) (N:Nat):Bs→Int→Int→Int→Bs→(List aa_)→(List Bs)→Option Bs :=
 dk_ (fun _ _ _ _ _ _ _=>none) (fun back=>aD_.step17 n spec_l2Encode_ k1 back) N
def aD_:Nat→aa_→Option Bs
 |0,_=>none
 |n+1,j=>
  (cond (j.kind == 0) (some [110,117,108,108]) (cond (j.kind == 1) (cond (j.n_ == 1) (some [116,114,117,101]) (some [102,97,108,115,101])) (cond (j.kind == 2) ((aJ_ n j.n_).bind fun xr1=>(some xr1)) (cond (j.kind == 3) ((a4_ n j.s).bind fun xr2=>(some xr2)) (aD_.loop17 n (aD_ n) (fun xy9 xy10 xy11 xy12 xy13 xy14=>(cond (xy10 == 5) (cond (decide ([123].length+xy9.length≤9223372036854775807)) (cond (decide ((([123]:Bs)++xy9).length+[125].length≤9223372036854775807)) (some ((([123]:Bs)++xy9)++[125])) none) none) (cond (decide ([91].length+xy9.length≤9223372036854775807)) (cond (decide ((([91]:Bs)++xy9).length+[93].length≤9223372036854775807)) (some ((([91]:Bs)++xy9)++[93])) none) none))) n [] 0 j.kind j.n_ j.s j.list j.names)))))
def cn_:Nat→aa_→Option Bs
 |0,_=>none
 |n+1,j=>
  ((bZ_ n (aa_.re j)).bind fun xr1=>(cond (!xr1) (some []) ((aD_ n (aa_.re j)).bind fun xr2=>(cond (decide ((xr2.length:Int) > 6000)) (some []) (some xr2)))))
def cE_:Nat→Bs→Option (aa_ × Bool)
 |0,_=>none
 |n+1,s=>
  (cond (s == []) (some ((aa_.mk 0 0 [] ([]:List aa_) ([]:List Bs)),false)) (cond (decide ((s.length:Int) > 6000)) (some ((aa_.mk 0 0 [] ([]:List aa_) ([]:List Bs)),false)) ((bn_ n (bc_.mk s 0 true 400) 6).bind fun xr1=>(cond (!xr1.2.ok) (some ((aa_.mk 0 0 [] ([]:List aa_) ([]:List Bs)),false)) (cond (xr1.2.at_ != (s.length:Int)) (some ((aa_.mk 0 0 [] ([]:List aa_) ([]:List Bs)),false)) ((cn_ n (aa_.re xr1.1)).bind fun xr2=>(cond (!(xr2 == s)) (some ((aa_.mk 0 0 [] ([]:List aa_) ([]:List Bs)),false)) (some ((aa_.re xr1.1),true)))))))))
def bI_.step3 (n:Nat) (k0:Option Int) (back:Bs→Int→Int→Int→Bs→(List aa_)→(List Bs)→Option Int) (name:Bs) (i:Int) (j0:Int) (j1:Int) (j2:Bs) (j3:List aa_) (j4:List Bs):Option Int :=
 (cond (decide (i<(j4.length:Int))) (inB i j4.length (cond ((j4.getD i.toNat []) == name) (some i) (back name (W (i+1)) j0 j1 j2 j3 j4))) k0)
def bI_.loop3 (n:Nat) (k0:Option Int) (N:Nat):Bs→Int→Int→Int→Bs→(List aa_)→(List Bs)→Option Int :=
 dk_ (fun _ _ _ _ _ _ _=>none) (fun back=>bI_.step3 n k0 back) N
def bI_:Nat→aa_→Bs→Option Int
 |0,_,_=>none
 |n+1,j,name=>
  (bI_.loop3 n (some (-1)) n name 0 j.kind j.n_ j.s j.list j.names)
def aH_.step4 (n:Nat) (spec_l1Copy_:aa_→Option aa_) (k0:Int→Int→Bs→Int→Int→Bs→(List aa_)→(List Bs)→Option aa_) (back:Int→Int→Int→Bs→(List aa_)→(List Bs)→Int→Int→Bs→Int→Int→Bs→(List aa_)→(List Bs)→Option aa_) (i:Int) (j0:Int) (j1:Int) (j2:Bs) (j3:List aa_) (j4:List Bs) (t20:Int) (t21:Int) (t22:Bs) (out0:Int) (out1:Int) (out2:Bs) (out3:List aa_) (out4:List Bs):Option aa_ :=
 (cond (decide (i<(j3.length:Int))) (inB i j3.length ((spec_l1Copy_ (aa_.re (j3.getD i.toNat aa_.dflt))).bind fun xr1=>(cF_ (out3.length+([(aa_.re xr1)]:List aa_).length) 80 (back (W (i+1)) j0 j1 j2 j3 j4 t20 t21 t22 out0 out1 out2 (out3++([(aa_.re xr1)]:List aa_)) out4)))) (k0 t20 t21 t22 out0 out1 out2 out3 out4))
def aH_.loop4 (n:Nat) (spec_l1Copy_:aa_→Option aa_) (k0:Int→Int→Bs→Int→Int→Bs→(List aa_)→(List Bs)→Option aa_) (N:Nat):Int→Int→Int→Bs→(List aa_)→(List Bs)→Int→Int→Bs→Int→Int→Bs→(List aa_)→(List Bs)→Option aa_ :=
 dk_ (fun _ _ _ _ _ _ _ _ _ _ _ _ _ _=>none) (fun back=>aH_.step4 n spec_l1Copy_ k0 back) N
def aH_:Nat→aa_→Option aa_
 |0,_=>none
 |n+1,j=>
  (cF_ (([]:List Bs).length+j.names.length) 16 (aH_.loop4 n (aH_ n) (fun xy2 xy3 xy4 xy5 xy6 xy7 xy8 xy9=>(some (aa_.mk xy5 xy6 xy7 xy8 xy9))) n 0 j.kind j.n_ j.s j.list j.names 0 0 [] j.kind j.n_ j.s ([]:List aa_) (([]:List Bs)++j.names)))
def cP_:Nat→aa_→Bs→Option (aa_ × Bool)
 |0,_,_=>none
 |n+1,j,name=>
  ((bI_ n (aa_.re j) name).bind fun xr1=>((bZ_ n (aa_.re j)).bind fun xr2=>(cond (!xr2) (some ((aa_.mk 0 0 [] ([]:List aa_) ([]:List Bs)),false)) (cond (j.kind != 5) (some ((aa_.mk 0 0 [] ([]:List aa_) ([]:List Bs)),false)) (cond (decide (xr1<0)) (some ((aa_.mk 0 0 [] ([]:List aa_) ([]:List Bs)),false)) (inB xr1 j.list.length ((aH_ n (aa_.re (j.list.getD xr1.toNat aa_.dflt))).bind fun xr3=>(some ((aa_.re xr3),true)))))))))
def ce_:Nat→Unit→Option (List Bs)
 |0,_=>none
 |n+1,_u=>
  (some ([[],[97,100,100],[114,101,109,111,118,101],[114,101,112,108,97,99,101],[116,101,115,116]]:List Bs))
def aT_.step6 (n:Nat) (k0:Bs→(List Bs)→(List Bs)→(List Int)→Option ((List Bs) × Bool)) (back:Bs→Int→(List Bs)→(List Bs)→(List Int)→Option ((List Bs) × Bool)) (o:Bs) (t7:Int) (t4:List Bs) (t5:List Bs) (t6:List Int):Option ((List Bs) × Bool) :=
 (cond (decide (t7<(o.length:Int))) (inB t7 o.length (cond (((o.getD t7.toNat 0).toNat:Int) == 47) (cond (decide (t7 > 0)) (cF_ (t5.length+([(fT_ t6)]:List Bs).length) 16 (back o (W (t7+1)) t4 (t5++([(fT_ t6)]:List Bs)) ([]:List Int))) (back o (W (t7+1)) t4 t5 ([]:List Int))) (cond (t7 == 0) (some (t4,false)) (inB t7 o.length (cond (((o.getD t7.toNat 0).toNat:Int) == 126) (cond ((W (t7+1)) == (o.length:Int)) (some (t4,false)) (inB (W (t7+1)) o.length (cond (((o.getD (W (t7+1)).toNat 0).toNat:Int) != 48) (inB (W (t7+1)) o.length (cond (((o.getD (W (t7+1)).toNat 0).toNat:Int) != 49) (some (t4,false)) (inB (W (t7+1)) o.length (cond (((o.getD (W (t7+1)).toNat 0).toNat:Int) == 48) (cF_ (t6.length+([126]:List Int).length) 1 (back o (W ((W (t7+1))+1)) t4 t5 (t6++([126]:List Int)))) (cF_ (t6.length+([47]:List Int).length) 1 (back o (W ((W (t7+1))+1)) t4 t5 (t6++([47]:List Int)))))))) (inB (W (t7+1)) o.length (cond (((o.getD (W (t7+1)).toNat 0).toNat:Int) == 48) (cF_ (t6.length+([126]:List Int).length) 1 (back o (W ((W (t7+1))+1)) t4 t5 (t6++([126]:List Int)))) (cF_ (t6.length+([47]:List Int).length) 1 (back o (W ((W (t7+1))+1)) t4 t5 (t6++([47]:List Int))))))))) (inB t7 o.length (cF_ (t6.length+([((o.getD t7.toNat 0).toNat:Int)]:List Int).length) 1 (back o (W (t7+1)) t4 t5 (t6++([((o.getD t7.toNat 0).toNat:Int)]:List Int)))))))))) (k0 o t4 t5 t6))
def aT_.loop6 (n:Nat) (k0:Bs→(List Bs)→(List Bs)→(List Int)→Option ((List Bs) × Bool)) (N:Nat):Bs→Int→(List Bs)→(List Bs)→(List Int)→Option ((List Bs) × Bool) :=
 dk_ (fun _ _ _ _ _=>none) (fun back=>aT_.step6 n k0 back) N
def aT_:Nat→Bs→Option ((List Bs) × Bool)
 |0,_=>none
 |n+1,o=>
  (aT_.loop6 n (fun xy1 xy2 xy3 xy4=>(cond (!(xy1 == [])) (cF_ (xy3.length+([(fT_ xy4)]:List Bs).length) 16 (cond (decide (((xy3++([(fT_ xy4)]:List Bs)).length:Int) > 6)) (some (xy2,false)) (some ((xy3++([(fT_ xy4)]:List Bs)),true)))) (cond (decide ((xy3.length:Int) > 6)) (some (xy2,false)) (some (xy3,true))))) n o 0 ([]:List Bs) ([]:List Bs) ([]:List Int))
def aj_.step6 (n:Nat) (spec_l1Same_:aa_→aa_→Option Bool) (k0:Int→Int→Bs→(List aa_)→(List Bs)→Int→Int→Bs→(List aa_)→(List Bs)→Option Bool) (back:Int→Int→Int→Bs→(List aa_)→(List Bs)→Int→Int→Bs→(List aa_)→(List Bs)→Option Bool) (t5:Int) (t20:Int) (t21:Int) (t22:Bs) (t23:List aa_) (t24:List Bs) (t30:Int) (t31:Int) (t32:Bs) (t33:List aa_) (t34:List Bs):Option Bool :=
 (cond (decide (t5<(t23.length:Int))) (inB t5 t23.length (inB t5 t33.length ((spec_l1Same_ (aa_.re (t23.getD t5.toNat aa_.dflt)) (aa_.re (t33.getD t5.toNat aa_.dflt))).bind fun xr1=>(cond (!xr1) (some false) (back (W (t5+1)) t20 t21 t22 t23 t24 t30 t31 t32 t33 t34))))) (k0 t20 t21 t22 t23 t24 t30 t31 t32 t33 t34))
def aj_.loop6 (n:Nat) (spec_l1Same_:aa_→aa_→Option Bool) (k0:Int→Int→Bs→(List aa_)→(List Bs)→Int→Int→Bs→(List aa_)→(List Bs)→Option Bool) (N:Nat):Int→Int→Int→Bs→(List aa_)→(List Bs)→Int→Int→Bs→(List aa_)→(List Bs)→Option Bool :=
 dk_ (fun _ _ _ _ _ _ _ _ _ _ _=>none) (fun back=>aj_.step6 n spec_l1Same_ k0 back) N
def aj_.step14 (n:Nat) (spec_l1Same_:aa_→aa_→Option Bool) (k2:Option Bool) (back:Int→Int→Int→Bs→(List aa_)→(List Bs)→Int→Int→Bs→(List aa_)→(List Bs)→Option Bool) (t6:Int) (t20:Int) (t21:Int) (t22:Bs) (t23:List aa_) (t24:List Bs) (t30:Int) (t31:Int) (t32:Bs) (t33:List aa_) (t34:List Bs):Option Bool :=
 (cond (decide (t6<(t24.length:Int))) (inB t6 t24.length (inB t6 t34.length (cond (!((t24.getD t6.toNat []) == (t34.getD t6.toNat []))) (some false) (back (W (t6+1)) t20 t21 t22 t23 t24 t30 t31 t32 t33 t34)))) k2)
def aj_.loop14 (n:Nat) (spec_l1Same_:aa_→aa_→Option Bool) (k2:Option Bool) (N:Nat):Int→Int→Int→Bs→(List aa_)→(List Bs)→Int→Int→Bs→(List aa_)→(List Bs)→Option Bool :=
 dk_ (fun _ _ _ _ _ _ _ _ _ _ _=>none) (fun back=>aj_.step14 n spec_l1Same_ k2 back) N
def aj_:Nat→aa_→aa_→Option Bool
 |0,_,_=>none
 |n+1,o,append=>
  (cond (o.kind != append.kind) (some false) (cond (o.n_ != append.n_) (some false) (cond (!(o.s == append.s)) (some false) (cond ((o.list.length:Int) != (append.list.length:Int)) (some false) (cond ((o.names.length:Int) != (append.names.length:Int)) (some false) (aj_.loop6 n (aj_ n) (fun xy2 xy3 xy4 xy5 xy6 xy7 xy8 xy9 xy10 xy11=>(aj_.loop14 n (aj_ n) (some true) n 0 xy2 xy3 xy4 xy5 xy6 xy7 xy8 xy9 xy10 xy11)) n 0 o.kind o.n_ o.s o.list o.names append.kind append.n_ append.s append.list append.names))))))
def bG_.step6 (n:Nat) (k0:Int→(List Bs)→Int→Int→Bs→(List aa_)→(List Bs)→Option Bool) (back:Int→Int→(List Bs)→Int→Int→Bs→(List aa_)→(List Bs)→Option Bool) (i:Int) (o0:Int) (o1:List Bs) (o2:Int) (o3:Int) (o4:Bs) (o5:List aa_) (o6:List Bs):Option Bool :=
 (cond (decide (i<(o1.length:Int))) (inB i o1.length ((bf_ n (o1.getD i.toNat [])).bind fun xr3=>(cond (!xr3) (some false) (back (W (i+1)) o0 o1 o2 o3 o4 o5 o6)))) (k0 o0 o1 o2 o3 o4 o5 o6))
def bG_.loop6 (n:Nat) (k0:Int→(List Bs)→Int→Int→Bs→(List aa_)→(List Bs)→Option Bool) (N:Nat):Int→Int→(List Bs)→Int→Int→Bs→(List aa_)→(List Bs)→Option Bool :=
 dk_ (fun _ _ _ _ _ _ _ _=>none) (fun back=>bG_.step6 n k0 back) N
def bG_:Nat→TOp→Option Bool
 |0,_=>none
 |n+1,o=>
  ((cT_ n o.kind 1 4).bind fun xr1=>(cond (!xr1) (some false) (cond (decide ((o.way.length:Int) > 6)) (some false) ((bZ_ n (aa_.re o.value)).bind fun xr2=>(cond (!xr2) (some false) (bG_.loop6 n (fun xy4 xy5 xy6 xy7 xy8 xy9 xy10=>(cond (xy4 != 2) (some true) ((aj_ n (aa_.mk xy6 xy7 xy8 xy9 xy10) (aa_.mk 0 0 [] [] [])).bind fun xr11=>(some xr11)))) n 0 o.kind o.way o.value.kind o.value.n_ o.value.s o.value.list o.value.names))))))
def ar_.step10 (n:Nat) (k2:(List Bs)→Int→(List Int)→Option Bs) (back:(List Bs)→Int→Int→(List Int)→Option Bs) (way:List Bs) (i:Int) (k:Int) (out_1:List Int):Option Bs :=
 (inB i way.length (cond (decide (k<((way.getD i.toNat []).length:Int))) (inB i way.length (inB k (way.getD i.toNat []).length (cond ((((way.getD i.toNat []).getD k.toNat 0).toNat:Int) == 126) (cF_ (out_1.length+([126,48]:List Int).length) 1 (back way i (W (k+1)) (out_1++([126,48]:List Int)))) (cond ((((way.getD i.toNat []).getD k.toNat 0).toNat:Int) == 47) (cF_ (out_1.length+([126,49]:List Int).length) 1 (back way i (W (k+1)) (out_1++([126,49]:List Int)))) (inB i way.length (inB k (way.getD i.toNat []).length (cF_ (out_1.length+([(((way.getD i.toNat []).getD k.toNat 0).toNat:Int)]:List Int).length) 1 (back way i (W (k+1)) (out_1++([(((way.getD i.toNat []).getD k.toNat 0).toNat:Int)]:List Int)))))))))) (k2 way i out_1)))
def ar_.loop10 (n:Nat) (k2:(List Bs)→Int→(List Int)→Option Bs) (N:Nat):(List Bs)→Int→Int→(List Int)→Option Bs :=
 dk_ (fun _ _ _ _=>none) (fun back=>ar_.step10 n k2 back) N
def ar_.step4 (n:Nat) (k0:(List Int)→Option Bs) (back:(List Bs)→Int→(List Int)→Option Bs) (way:List Bs) (i:Int) (out_1:List Int):Option Bs :=
 (cond (decide (i<(way.length:Int))) (cF_ (out_1.length+([47]:List Int).length) 1 (ar_.loop10 n (fun xy1 xy2 xy3=>(back xy1 (W (xy2+1)) xy3)) n way i 0 (out_1++([47]:List Int)))) (k0 out_1))
def ar_.loop4 (n:Nat) (k0:(List Int)→Option Bs) (N:Nat):(List Bs)→Int→(List Int)→Option Bs :=
 dk_ (fun _ _ _=>none) (fun back=>ar_.step4 n k0 back) N
def ar_:Nat→(List Bs)→Option Bs
 |0,_=>none
 |n+1,way=>
  (ar_.loop4 n (fun xy4=>(some (fT_ xy4))) n way 0 ([]:List Int))
def bq_.step5 (n:Nat) (k0:Bs→Bool→Int→Int→Bs→(List aa_)→(List Bs)→Int→Int→Bs→Int→Int→Bs→(List aa_)→(List Bs)→Option aa_) (back:Bs→Bool→Int→Int→Int→Bs→(List aa_)→(List Bs)→Int→Int→Bs→(List aa_)→(List Bs)→Int→Int→Bs→Int→Int→Bs→(List aa_)→(List Bs)→Option aa_) (append:Bs) (t8:Bool) (t9:Int) (t30:Int) (t31:Int) (t32:Bs) (t33:List aa_) (t34:List Bs) (t50:Int) (t51:Int) (t52:Bs) (t53:List aa_) (t54:List Bs) (t60:Int) (t61:Int) (t62:Bs) (t70:Int) (t71:Int) (t72:Bs) (t73:List aa_) (t74:List Bs):Option aa_ :=
 (cond (decide (t9<(t34.length:Int))) (cond (!t8) (inB t9 t34.length (cond (!Op.bytesLess (t34.getD t9.toNat []) append) (cF_ (t74.length+([append]:List Bs).length) 16 (cF_ (t73.length+([(aa_.mk t50 t51 t52 t53 t54)]:List aa_).length) 80 (inB t9 t34.length (cond (!((t34.getD t9.toNat []) == append)) (inB t9 t34.length (cF_ ((t74++([append]:List Bs)).length+([(t34.getD t9.toNat [])]:List Bs).length) 16 (inB t9 t33.length (cF_ ((t73++([(aa_.mk t50 t51 t52 t53 t54)]:List aa_)).length+([(aa_.re (t33.getD t9.toNat aa_.dflt))]:List aa_).length) 80 (back append true (W (t9+1)) t30 t31 t32 t33 t34 t50 t51 t52 t53 t54 t60 t61 t62 t70 t71 t72 ((t73++([(aa_.mk t50 t51 t52 t53 t54)]:List aa_))++([(aa_.re (t33.getD t9.toNat aa_.dflt))]:List aa_)) ((t74++([append]:List Bs))++([(t34.getD t9.toNat [])]:List Bs))))))) (back append true (W (t9+1)) t30 t31 t32 t33 t34 t50 t51 t52 t53 t54 t60 t61 t62 t70 t71 t72 (t73++([(aa_.mk t50 t51 t52 t53 t54)]:List aa_)) (t74++([append]:List Bs))))))) (inB t9 t34.length (cond (!((t34.getD t9.toNat []) == append)) (inB t9 t34.length (cF_ (t74.length+([(t34.getD t9.toNat [])]:List Bs).length) 16 (inB t9 t33.length (cF_ (t73.length+([(aa_.re (t33.getD t9.toNat aa_.dflt))]:List aa_).length) 80 (back append t8 (W (t9+1)) t30 t31 t32 t33 t34 t50 t51 t52 t53 t54 t60 t61 t62 t70 t71 t72 (t73++([(aa_.re (t33.getD t9.toNat aa_.dflt))]:List aa_)) (t74++([(t34.getD t9.toNat [])]:List Bs))))))) (back append t8 (W (t9+1)) t30 t31 t32 t33 t34 t50 t51 t52 t53 t54 t60 t61 t62 t70 t71 t72 t73 t74))))) (inB t9 t34.length (cond (!((t34.getD t9.toNat []) == append)) (inB t9 t34.length (cF_ (t74.length+([(t34.getD t9.toNat [])]:List Bs).length) 16 (inB t9 t33.length (cF_ (t73.length+([(aa_.re (t33.getD t9.toNat aa_.dflt))]:List aa_).length) 80 (back append t8 (W (t9+1)) t30 t31 t32 t33 t34 t50 t51 t52 t53 t54 t60 t61 t62 t70 t71 t72 (t73++([(aa_.re (t33.getD t9.toNat aa_.dflt))]:List aa_)) (t74++([(t34.getD t9.toNat [])]:List Bs))))))) (back append t8 (W (t9+1)) t30 t31 t32 t33 t34 t50 t51 t52 t53 t54 t60 t61 t62 t70 t71 t72 t73 t74)))) (k0 append t8 t50 t51 t52 t53 t54 t60 t61 t62 t70 t71 t72 t73 t74))
def bq_.loop5 (n:Nat) (k0:Bs→Bool→Int→Int→Bs→(List aa_)→(List Bs)→Int→Int→Bs→Int→Int→Bs→(List aa_)→(List Bs)→Option aa_) (N:Nat):Bs→Bool→Int→Int→Int→Bs→(List aa_)→(List Bs)→Int→Int→Bs→(List aa_)→(List Bs)→Int→Int→Bs→Int→Int→Bs→(List aa_)→(List Bs)→Option aa_ :=
 dk_ (fun _ _ _ _ _ _ _ _ _ _ _ _ _ _ _ _ _ _ _ _ _=>none) (fun back=>bq_.step5 n k0 back) N
def bq_:Nat→aa_→Bs→aa_→Option aa_
 |0,_,_,_=>none
 |n+1,o,append,a2=>
  (bq_.loop5 n (fun xy1 xy2 xy3 xy4 xy5 xy6 xy7 xy8 xy9 xy10 xy11 xy12 xy13 xy14 xy15=>(cond (!xy2) (cF_ (xy15.length+([xy1]:List Bs).length) 16 (cF_ (xy14.length+([(aa_.mk xy3 xy4 xy5 xy6 xy7)]:List aa_).length) 80 (some (aa_.mk xy11 xy12 xy13 (xy14++([(aa_.mk xy3 xy4 xy5 xy6 xy7)]:List aa_)) (xy15++([xy1]:List Bs)))))) (some (aa_.mk xy11 xy12 xy13 xy14 xy15)))) n append false 0 o.kind o.n_ o.s o.list o.names a2.kind a2.n_ a2.s a2.list a2.names 0 0 [] 5 0 [] ([]:List aa_) ([]:List Bs))
def cJ_:Nat→TOp→Option aa_
 |0,_=>none
 |n+1,o=>
  ((bG_ n (TOp.mk o.kind o.way (aa_.re o.value))).bind fun xr1=>(cond (!xr1) (some (aa_.mk 0 0 [] ([]:List aa_) ([]:List Bs))) ((ce_ n ()).bind fun xr2=>(inB o.kind xr2.length ((ar_ n o.way).bind fun xr3=>(cond (o.kind != 2) ((aH_ n (aa_.re o.value)).bind fun xr4=>((bq_ n (aa_.mk 5 0 [] ([(aa_.mk 3 0 (xr2.getD o.kind.toNat []) [] []),(aa_.mk 3 0 xr3 [] [])]:List aa_) ([[111,112],[112,97,116,104]]:List Bs)) [118,97,108,117,101] (aa_.re xr4)).bind fun xr5=>((bZ_ n (aa_.re xr5)).bind fun xr6=>(cond (!xr6) (some (aa_.mk 0 0 [] ([]:List aa_) ([]:List Bs))) (some (aa_.re xr5)))))) ((bZ_ n (aa_.mk 5 0 [] ([(aa_.mk 3 0 (xr2.getD o.kind.toNat []) [] []),(aa_.mk 3 0 xr3 [] [])]:List aa_) ([[111,112],[112,97,116,104]]:List Bs))).bind fun xr7=>(cond (!xr7) (some (aa_.mk 0 0 [] ([]:List aa_) ([]:List Bs))) (some (aa_.mk 5 0 [] ([(aa_.mk 3 0 (xr2.getD o.kind.toNat []) [] []),(aa_.mk 3 0 xr3 [] [])]:List aa_) ([[111,112],[112,97,116,104]]:List Bs)))))))))))
def ch_:Nat→aa_→aa_→Option Bool
 |0,_,_=>none
 |n+1,a,b=>
  ((bZ_ n (aa_.re a)).bind fun xr1=>(cond xr1 ((bZ_ n (aa_.re b)).bind fun xr2=>(cond xr2 ((aj_ n (aa_.re a) (aa_.re b)).bind fun xr3=>(some xr3)) (some false))) (some false)))
def aO_.step7 (n:Nat) (k0:Int→Int→Bs→(List aa_)→(List Bs)→Int→Int→Int→Bs→Int→Int→Int→Bs→Int→Int→Bs→(List aa_)→(List Bs)→Option (TOp × Bool)) (back:Int→Int→Int→Bs→(List aa_)→(List Bs)→Int→Int→Int→Bs→Int→Int→Int→Bs→Int→Int→Bs→Int→Int→Bs→(List Bs)→(List aa_)→(List Bs)→(List aa_)→(List Bs)→Option (TOp × Bool)) (t10:Int) (append0:Int) (append1:Int) (append2:Bs) (append3:List aa_) (append4:List Bs) (t20:Int) (t22:Int) (t23:Int) (t24:Bs) (t40:Int) (t42:Int) (t43:Int) (t44:Bs) (t50:Int) (t51:Int) (t52:Bs) (t70:Int) (t71:Int) (t72:Bs) (t9:List Bs) (t53:List aa_) (t54:List Bs) (t73:List aa_) (t74:List Bs):Option (TOp × Bool) :=
 (cond (decide (t10<(t9.length:Int))) (cond (t50 == 3) (inB t10 t9.length (cond (t52 == (t9.getD t10.toNat [])) (back (W (t10+1)) append0 append1 append2 append3 append4 t20 t22 t23 t24 t10 t42 t43 t44 t50 t51 t52 t70 t71 t72 t9 t53 t54 t73 t74) (back (W (t10+1)) append0 append1 append2 append3 append4 t20 t22 t23 t24 t40 t42 t43 t44 t50 t51 t52 t70 t71 t72 t9 t53 t54 t73 t74))) (back (W (t10+1)) append0 append1 append2 append3 append4 t20 t22 t23 t24 t40 t42 t43 t44 t50 t51 t52 t70 t71 t72 t9 t53 t54 t73 t74)) (k0 append0 append1 append2 append3 append4 t20 t22 t23 t24 t40 t42 t43 t44 t70 t71 t72 t73 t74))
def aO_.loop7 (n:Nat) (k0:Int→Int→Bs→(List aa_)→(List Bs)→Int→Int→Int→Bs→Int→Int→Int→Bs→Int→Int→Bs→(List aa_)→(List Bs)→Option (TOp × Bool)) (N:Nat):Int→Int→Int→Bs→(List aa_)→(List Bs)→Int→Int→Int→Bs→Int→Int→Int→Bs→Int→Int→Bs→Int→Int→Bs→(List Bs)→(List aa_)→(List Bs)→(List aa_)→(List Bs)→Option (TOp × Bool) :=
 dk_ (fun _ _ _ _ _ _ _ _ _ _ _ _ _ _ _ _ _ _ _ _ _ _ _ _ _=>none) (fun back=>aO_.step7 n k0 back) N
def aO_.tail15 (n:Nat) (t12:Bool) (append0:Int) (append1:Int) (append2:Bs) (append3:List aa_) (append4:List Bs) (t20:Int) (t22:Int) (t23:Int) (t24:Bs) (t40:Int) (t41:List Bs) (t42:Int) (t43:Int) (t44:Bs) (t45:List aa_) (t46:List Bs):Option (TOp × Bool) :=
 (cond (!t12) (some ((TOp.mk 0 [] (aa_.mk 0 0 [] [] [])),false)) (cond (t40 == 0) (some ((TOp.mk 0 [] (aa_.mk 0 0 [] [] [])),false)) ((cJ_ n (TOp.mk t40 t41 (aa_.mk t42 t43 t44 t45 t46))).bind fun xr24=>((ch_ n (aa_.re xr24) (aa_.mk append0 append1 append2 append3 append4)).bind fun xr25=>(cond (!xr25) (some ((TOp.mk 0 [] (aa_.mk 0 0 [] [] [])),false)) (some ((TOp.mk t40 t41 (aa_.mk t42 t43 t44 t45 t46)),true)))))))
def aO_:Nat→aa_→Option (TOp × Bool)
 |0,_=>none
 |n+1,o=>
  ((cP_ n (aa_.re o) [111,112]).bind fun xr1=>((cP_ n (aa_.re o) [112,97,116,104]).bind fun xr2=>((ce_ n ()).bind fun xr3=>(aO_.loop7 n (fun xy4 xy5 xy6 xy7 xy8 xy9 xy10 xy11 xy12 xy13 xy14 xy15 xy16 xy17 xy18 xy19 xy20 xy21=>((aT_ n xy19).bind fun xr22=>((cP_ n (aa_.mk xy4 xy5 xy6 xy7 xy8) [118,97,108,117,101]).bind fun xr23=>(aO_.tail15 n xr22.2 xy4 xy5 xy6 xy7 xy8 xy9 xy10 xy11 xy12 xy13 xr22.1 xr23.1.kind xr23.1.n_ xr23.1.s xr23.1.list xr23.1.names)))) n 1 o.kind o.n_ o.s o.list o.names 0 0 0 [] 0 0 0 [] xr1.1.kind xr1.1.n_ xr1.1.s xr2.1.kind xr2.1.n_ xr2.1.s xr3 xr1.1.list xr1.1.names xr2.1.list xr2.1.names))))
def be_.step4 (n:Nat) (k0:(List TOp)→Int→Int→Bs→Int→Int→Bs→(List aa_)→Option (aa_ × Bool)) (back:(List TOp)→Int→Int→Int→Bs→Int→Int→Bs→(List aa_)→Option (aa_ × Bool)) (list:List TOp) (i:Int) (t20:Int) (t21:Int) (t22:Bs) (j0:Int) (j1:Int) (j2:Bs) (j3:List aa_):Option (aa_ × Bool) :=
 (cond (decide (i<(list.length:Int))) (inB i list.length ((cJ_ n { (list.getD i.toNat TOp.dflt) with value:=(aa_.re ((list.getD i.toNat TOp.dflt).value)) }).bind fun xr1=>(cond (xr1.kind == 0) (some ((aa_.mk j0 j1 j2 j3 ([]:List Bs)),false)) (cF_ (j3.length+([(aa_.re xr1)]:List aa_).length) 80 (back list (W (i+1)) t20 t21 t22 j0 j1 j2 (j3++([(aa_.re xr1)]:List aa_))))))) (k0 list t20 t21 t22 j0 j1 j2 j3))
def be_.loop4 (n:Nat) (k0:(List TOp)→Int→Int→Bs→Int→Int→Bs→(List aa_)→Option (aa_ × Bool)) (N:Nat):(List TOp)→Int→Int→Int→Bs→Int→Int→Bs→(List aa_)→Option (aa_ × Bool) :=
 dk_ (fun _ _ _ _ _ _ _ _ _=>none) (fun back=>be_.step4 n k0 back) N
def be_:Nat→(List TOp)→Option (aa_ × Bool)
 |0,_=>none
 |n+1,list=>
  (be_.loop4 n (fun xy2 xy3 xy4 xy5 xy6 xy7 xy8 xy9=>(cond (decide ((xy2.length:Int)≤40)) ((cn_ n (aa_.mk xy6 xy7 xy8 xy9 [])).bind fun xr10=>(some ((aa_.mk xy6 xy7 xy8 xy9 ([]:List Bs)),(!(xr10 == []))))) (some ((aa_.mk xy6 xy7 xy8 xy9 ([]:List Bs)),false)))) n list 0 0 0 [] 4 0 [] ([]:List aa_))
def cp_:Nat→aM_→Option Bool
 |0,_=>none
 |n+1,e=>
  ((cT_ n e.version 0 100000).bind fun xr1=>(cond (!xr1) (some false) (cond (e.kind == 1) (cond (e.base == 0) (cond ((e.ops.length:Int) == 0) ((cn_ n (aa_.re e.doc)).bind fun xr2=>(some (!(xr2 == [])))) (some false)) (some false)) (cond (e.kind == 2) ((be_ n e.ops).bind fun xr3=>(cond xr3.2 ((cT_ n e.base 0 (W (e.version - 1))).bind fun xr4=>(cond xr4 ((aj_ n (aa_.re e.doc) (aa_.mk 0 0 [] [] [])).bind fun xr5=>(some xr5)) (some false))) (some false))) (some false)))))
def b1_:Nat→aM_→Option Bs
 |0,_=>none
 |n+1,e=>
  ((cp_ n { e with doc:=(aa_.re e.doc) }).bind fun xr1=>(cond (!xr1) (some []) ((aJ_ n e.version).bind fun xr2=>(cond (decide ([105,100,58,32].length+xr2.length≤9223372036854775807)) (cond (decide ((([105,100,58,32]:Bs)++xr2).length+[10].length≤9223372036854775807)) (cond (e.kind == 1) (cond (decide ([101,118,101,110,116,58,32,115,110,97,112,10].length+((([105,100,58,32]:Bs)++xr2)++[10]).length≤9223372036854775807)) (let xv3:Bs:=(([101,118,101,110,116,58,32,115,110,97,112,10]:Bs)++((([105,100,58,32]:Bs)++xr2)++[10]));(cond (decide (xv3.length+[100,97,116,97,58,32].length≤9223372036854775807)) ((cn_ n (aa_.re e.doc)).bind fun xr4=>(cond (decide ((xv3++[100,97,116,97,58,32]).length+xr4.length≤9223372036854775807)) (cond (decide (((xv3++[100,97,116,97,58,32])++xr4).length+[10,10].length≤9223372036854775807)) (some (((xv3++[100,97,116,97,58,32])++xr4)++[10,10])) none) none)) none)) none) ((be_ n e.ops).bind fun xr5=>(cond (decide ([101,118,101,110,116,58,32,112,97,116,99,104,10].length+((([105,100,58,32]:Bs)++xr2)++[10]).length≤9223372036854775807)) (let xv6:Bs:=(([101,118,101,110,116,58,32,112,97,116,99,104,10]:Bs)++((([105,100,58,32]:Bs)++xr2)++[10]));(cond (decide (xv6.length+[98,97,115,101,58,32].length≤9223372036854775807)) ((aJ_ n e.base).bind fun xr7=>(cond (decide ((xv6++[98,97,115,101,58,32]).length+xr7.length≤9223372036854775807)) (cond (decide (((xv6++[98,97,115,101,58,32])++xr7).length+[10,100,97,116,97,58,32].length≤9223372036854775807)) (let xv8:Bs:=(((xv6++[98,97,115,101,58,32])++xr7)++[10,100,97,116,97,58,32]);((cn_ n (aa_.re xr5.1)).bind fun xr9=>(cond (decide (xv8.length+xr9.length≤9223372036854775807)) (cond (decide ((xv8++xr9).length+[10,10].length≤9223372036854775807)) (some ((xv8++xr9)++[10,10])) none) none))) none) none)) none)) none))) none) none))))
def ac_.step20 (n:Nat) (k3:Bs→Int→Int→Int→Int→Int→Int→Bs→Int→Int→Int→Int→Int→Bs→(List Bs)→(List aa_)→(List Bs)→(List TOp)→Option (aM_ × Bool)) (back:Bs→Int→Int→Int→Int→Int→Int→Int→Bs→Int→Int→Int→Int→Int→Bs→(List Bs)→Int→Int→Bs→(List aa_)→(List Bs)→(List TOp)→(List aa_)→(List Bs)→Option (aM_ × Bool)) (o:Bs) (t6:Int) (t10:Int) (t20:Int) (t21:Int) (t22:Int) (t23:Int) (t24:Int) (t25:Bs) (t40:Int) (t41:Int) (t42:Int) (t43:Int) (t44:Int) (t45:Bs) (t5:List Bs) (t80:Int) (t81:Int) (t82:Bs) (t46:List aa_) (t47:List Bs) (t48:List TOp) (t83:List aa_) (t84:List Bs):Option (aM_ × Bool) :=
 (cond (decide (t10<(t83.length:Int))) (inB t10 t83.length ((aO_ n (aa_.re (t83.getD t10.toNat aa_.dflt))).bind fun xr13=>(cond (!xr13.2) (some ((aM_.mk 0 0 0 (aa_.mk 0 0 [] ([]:List aa_) ([]:List Bs)) ([]:List TOp)),false)) (cF_ (t48.length+([{ xr13.1 with value:=(aa_.re xr13.1.value) }]:List TOp).length) 112 (back o t6 (W (t10+1)) t20 t21 t22 t23 t24 t25 t40 t41 t42 t43 t44 t45 t5 t80 t81 t82 t46 t47 (t48++([{ xr13.1 with value:=(aa_.re xr13.1.value) }]:List TOp)) t83 t84))))) (k3 o t6 t20 t21 t22 t23 t24 t25 t40 t41 t42 t43 t44 t45 t5 t46 t47 t48))
def ac_.loop20 (n:Nat) (k3:Bs→Int→Int→Int→Int→Int→Int→Bs→Int→Int→Int→Int→Int→Bs→(List Bs)→(List aa_)→(List Bs)→(List TOp)→Option (aM_ × Bool)) (N:Nat):Bs→Int→Int→Int→Int→Int→Int→Int→Bs→Int→Int→Int→Int→Int→Bs→(List Bs)→Int→Int→Bs→(List aa_)→(List Bs)→(List TOp)→(List aa_)→(List Bs)→Option (aM_ × Bool) :=
 dk_ (fun _ _ _ _ _ _ _ _ _ _ _ _ _ _ _ _ _ _ _ _ _ _ _ _=>none) (fun back=>ac_.step20 n k3 back) N
def ac_.step5 (n:Nat) (k0:Bs→Int→Int→Int→Int→Int→Bs→Int→Int→Int→Int→Int→Bs→(List aa_)→(List Bs)→(List TOp)→Option (aM_ × Bool)) (back:Bs→Int→Int→Int→Int→Int→Int→Bs→Int→Int→Int→Int→Int→Bs→(List Bs)→(List aa_)→(List Bs)→(List TOp)→Option (aM_ × Bool)) (o:Bs) (t6:Int) (t20:Int) (t21:Int) (t22:Int) (t23:Int) (t24:Int) (t25:Bs) (t40:Int) (t41:Int) (t42:Int) (t43:Int) (t44:Int) (t45:Bs) (t5:List Bs) (t46:List aa_) (t47:List Bs) (t48:List TOp):Option (aM_ × Bool) :=
 (cond (decide (t6<(t5.length:Int))) (cond (decide (t6<6)) (inB t6 t5.length (let xv2:Bool:=((t5.getD t6.toNat []) == [101,118,101,110,116,58,32,115,110,97,112]);(cond xv2 (back o (W (t6+1)) t20 t21 t22 t23 t24 t25 1 t41 t42 t43 t44 t45 t5 t46 t47 t48) (let xv3:Bool:=((t5.getD t6.toNat []) == [101,118,101,110,116,58,32,112,97,116,99,104]);(cond xv3 (back o (W (t6+1)) t20 t21 t22 t23 t24 t25 2 t41 t42 t43 t44 t45 t5 t46 t47 t48) ((bJ_ n (t5.getD t6.toNat []) [105,100,58,32]).bind fun xr4=>(cond (!(xr4 == [])) ((bJ_ n (t5.getD t6.toNat []) [105,100,58,32]).bind fun xr5=>((cw_ n xr5).bind fun xr6=>(back o (W (t6+1)) t20 t21 t22 t23 t24 t25 t40 xr6.1 t42 t43 t44 t45 t5 t46 t47 t48))) ((bJ_ n (t5.getD t6.toNat []) [98,97,115,101,58,32]).bind fun xr7=>(cond (!(xr7 == [])) ((bJ_ n (t5.getD t6.toNat []) [98,97,115,101,58,32]).bind fun xr8=>((cw_ n xr8).bind fun xr9=>(back o (W (t6+1)) t20 t21 t22 t23 t24 t25 t40 t41 xr9.1 t43 t44 t45 t5 t46 t47 t48))) ((bJ_ n (t5.getD t6.toNat []) [100,97,116,97,58,32]).bind fun xr10=>(cond (!(xr10 == [])) ((bJ_ n (t5.getD t6.toNat []) [100,97,116,97,58,32]).bind fun xr11=>((cE_ n xr11).bind fun xr12=>(cond (t40 == 1) (back o (W (t6+1)) t20 t21 t22 t23 t24 t25 t40 t41 t42 xr12.1.kind xr12.1.n_ xr12.1.s t5 xr12.1.list xr12.1.names t48) (ac_.loop20 n (fun xy14 xy15 xy16 xy17 xy18 xy19 xy20 xy21 xy22 xy23 xy24 xy25 xy26 xy27 xy28 xy29 xy30 xy31=>(back xy14 (W (xy15+1)) xy16 xy17 xy18 xy19 xy20 xy21 xy22 xy23 xy24 xy25 xy26 xy27 xy28 xy29 xy30 xy31)) n o t6 0 t20 t21 t22 t23 t24 t25 t40 t41 t42 t43 t44 t45 t5 xr12.1.kind xr12.1.n_ xr12.1.s t46 t47 t48 xr12.1.list xr12.1.names)))) (back o (W (t6+1)) t20 t21 t22 t23 t24 t25 t40 t41 t42 t43 t44 t45 t5 t46 t47 t48)))))))))))) (k0 o t20 t21 t22 t23 t24 t25 t40 t41 t42 t43 t44 t45 t46 t47 t48)) (k0 o t20 t21 t22 t23 t24 t25 t40 t41 t42 t43 t44 t45 t46 t47 t48))
def ac_.loop5 (n:Nat) (k0:Bs→Int→Int→Int→Int→Int→Bs→Int→Int→Int→Int→Int→Bs→(List aa_)→(List Bs)→(List TOp)→Option (aM_ × Bool)) (N:Nat):Bs→Int→Int→Int→Int→Int→Int→Bs→Int→Int→Int→Int→Int→Bs→(List Bs)→(List aa_)→(List Bs)→(List TOp)→Option (aM_ × Bool) :=
 dk_ (fun _ _ _ _ _ _ _ _ _ _ _ _ _ _ _ _ _ _=>none) (fun back=>ac_.step5 n k0 back) N
def ac_:Nat→Bs→Option (aM_ × Bool)
 |0,_=>none
 |n+1,o=>
  ((aY_ n o).bind fun xr1=>(ac_.loop5 n (fun xy32 xy33 xy34 xy35 xy36 xy37 xy38 xy39 xy40 xy41 xy42 xy43 xy44 xy45 xy46 xy47=>(cond (xy32 == []) (some ((aM_.mk 0 0 0 (aa_.mk 0 0 [] ([]:List aa_) ([]:List Bs)) ([]:List TOp)),false)) ((b1_ n (aM_.mk xy39 xy40 xy41 (aa_.mk xy42 xy43 xy44 xy45 xy46) xy47)).bind fun xr48=>(cond (!(xr48 == xy32)) (some ((aM_.mk 0 0 0 (aa_.mk 0 0 [] ([]:List aa_) ([]:List Bs)) ([]:List TOp)),false)) (some ((aM_.mk xy39 xy40 xy41 (aa_.mk xy42 xy43 xy44 xy45 xy46) xy47),true)))))) n o 0 0 0 0 0 0 [] 0 0 0 0 0 [] xr1 ([]:List aa_) ([]:List Bs) ([]:List TOp)))
def by_.step8 (n:Nat) (k0:Bs→Bs→Bool→(List aM_)→Bs→Bool→Option (a1_ × (List aM_))) (back:Bs→Bs→Bool→(List aM_)→Bs→Bool→Option (a1_ × (List aM_))) (wait:Bs) (t40:Bs) (t41:Bool) (out_1:List aM_) (bad0:Bs) (bad1:Bool):Option (a1_ × (List aM_)) :=
 ((bd_ n wait).bind fun xr1=>(cond (decide (xr1<0)) (k0 wait t40 t41 out_1 bad0 bad1) (e9_ 0 xr1 wait.length ((ac_ n ((wait.take xr1.toNat).drop 0)).bind fun xr2=>(cond (!xr2.2) (some ((a1_.mk bad0 bad1),out_1)) (cF_ (out_1.length+([{ xr2.1 with doc:=(aa_.re xr2.1.doc) }]:List aM_).length) 128 (e9_ xr1 (wait.length:Int) wait.length (back ((wait.take (wait.length:Int).toNat).drop xr1.toNat) t40 t41 (out_1++([{ xr2.1 with doc:=(aa_.re xr2.1.doc) }]:List aM_)) bad0 bad1))))))))
def by_.loop8 (n:Nat) (k0:Bs→Bs→Bool→(List aM_)→Bs→Bool→Option (a1_ × (List aM_))) (N:Nat):Bs→Bs→Bool→(List aM_)→Bs→Bool→Option (a1_ × (List aM_)) :=
 dk_ (fun _ _ _ _ _ _=>none) (fun back=>by_.step8 n k0 back) N
def by_:Nat→a1_→Bs→Option (a1_ × (List aM_))
 |0,_,_=>none
 |n+1,s,ly_=>
  (cond s.bad (some ((a1_.mk [] true),([]:List aM_))) (cond (decide (s.wait.length+ly_.length≤9223372036854775807)) (by_.loop8 n (fun xy3 xy4 xy5 xy6 xy7 xy8=>(cond (decide ((xy3.length:Int) > 14000)) (some ((a1_.mk xy7 xy8),xy6)) (some ((a1_.mk xy3 false),xy6)))) n (s.wait++ly_) [] false ([]:List aM_) [] true) none))
def cz_:Nat→aL_→Option aL_
 |0,_=>none
 |n+1,c=>
  ((aH_ n (aa_.re c.doc)).bind fun xr1=>(some { c with doc:=(aa_.re xr1) }))
def cy_:Nat→aa_→TOp→Option (aa_ × Bool)
 |0,_,_=>none
 |n+1,j,o=>
  (cond (o.kind == 2) (some ((aa_.re j),false)) (cond (o.kind == 4) ((aj_ n (aa_.re j) (aa_.re o.value)).bind fun xr1=>(some ((aa_.re j),xr1))) ((aH_ n (aa_.re o.value)).bind fun xr2=>(some ((aa_.re xr2),true)))))
def a5_.step7 (n:Nat) (k0:Bs→Int→Option Int) (back:Bs→Int→Int→Option Int) (s:Bs) (x:Int) (i:Int):Option Int :=
 (cond (decide (i<(s.length:Int))) (inB i s.length (cond (decide (((s.getD i.toNat 0).toNat:Int)<48)) (some (-1)) (inB i s.length (cond (decide (((s.getD i.toNat 0).toNat:Int) > 57)) (some (-1)) (inB i s.length (back s (W ((W ((W (10*x))+(W (((s.getD i.toNat 0).toNat:Int))))) - 48)) (W (i+1)))))))) (k0 s x))
def a5_.loop7 (n:Nat) (k0:Bs→Int→Option Int) (N:Nat):Bs→Int→Int→Option Int :=
 dk_ (fun _ _ _=>none) (fun back=>a5_.step7 n k0 back) N
def a5_:Nat→Bs→Option Int
 |0,_=>none
 |n+1,s=>
  (cond (s == []) (some (-1)) (cond (decide ((s.length:Int) > 3)) (some (-1)) (a5_.loop7 n (fun xy1 xy2=>((aJ_ n xy2).bind fun xr3=>(cond (!(xr3 == xy1)) (some (-1)) (some xy2)))) n s 0 0)))
def dd_:Nat→aa_→Bs→Option Int
 |0,_,_=>none
 |n+1,j,s=>
  (cond (j.kind == 5) ((bI_ n (aa_.re j) s).bind fun xr1=>(some xr1)) (cond (j.kind == 4) ((a5_ n s).bind fun xr2=>(cond (decide (xr2<(j.list.length:Int))) (some xr2) (some (-1)))) (some (-1))))
def cZ_:Nat→aa_→Bs→TOp→Option (aa_ × Bool)
 |0,_,_,_=>none
 |n+1,j,name,o=>
  (cond (j.kind == 5) ((aH_ n (aa_.re o.value)).bind fun xr1=>((bq_ n (aa_.re j) name (aa_.re xr1)).bind fun xr2=>(some ((aa_.re xr2),true)))) ((a5_ n name).bind fun xr3=>(cond (name == [45]) (cond (j.kind != 4) (some ((aa_.re j),false)) ((cT_ n (j.list.length:Int) 0 (j.list.length:Int)).bind fun xr4=>(cond (!xr4) (some ((aa_.re j),false)) (e9_ 0 (j.list.length:Int) j.list.length (cF_ (([]:List aa_).length+((j.list.take ((j.list.length:Int).toNat)).drop 0).length) 80 ((aH_ n (aa_.re o.value)).bind fun xr5=>(cF_ ((([]:List aa_)++((j.list.take ((j.list.length:Int).toNat)).drop 0)).length+([(aa_.re xr5)]:List aa_).length) 80 (e9_ (j.list.length:Int) (j.list.length:Int) j.list.length (cF_ (((([]:List aa_)++((j.list.take ((j.list.length:Int).toNat)).drop 0))++([(aa_.re xr5)]:List aa_)).length+((j.list.take ((j.list.length:Int).toNat)).drop ((j.list.length:Int).toNat)).length) 80 (let xa6:List aa_:=(((([]:List aa_)++((j.list.take ((j.list.length:Int).toNat)).drop 0))++([(aa_.re xr5)]:List aa_))++((j.list.take ((j.list.length:Int).toNat)).drop ((j.list.length:Int).toNat)));(some ((aa_.mk j.kind j.n_ j.s xa6 j.names),true)))))))))))) (cond (j.kind != 4) (some ((aa_.re j),false)) ((cT_ n xr3 0 (j.list.length:Int)).bind fun xr7=>(cond (!xr7) (some ((aa_.re j),false)) (e9_ 0 xr3 j.list.length (cF_ (([]:List aa_).length+((j.list.take xr3.toNat).drop 0).length) 80 ((aH_ n (aa_.re o.value)).bind fun xr8=>(cF_ ((([]:List aa_)++((j.list.take xr3.toNat).drop 0)).length+([(aa_.re xr8)]:List aa_).length) 80 (e9_ xr3 (j.list.length:Int) j.list.length (cF_ (((([]:List aa_)++((j.list.take xr3.toNat).drop 0))++([(aa_.re xr8)]:List aa_)).length+((j.list.take ((j.list.length:Int).toNat)).drop xr3.toNat).length) 80 (let xa9:List aa_:=(((([]:List aa_)++((j.list.take xr3.toNat).drop 0))++([(aa_.re xr8)]:List aa_))++((j.list.take ((j.list.length:Int).toNat)).drop xr3.toNat));(some ((aa_.mk j.kind j.n_ j.s xa9 j.names),true)))))))))))))))
def bD_.tail17 (n:Nat) (kn:Int→Int→Bs→(List Bs)→Int→Int→Bs→(List aa_)→Option (aa_ × Bool)) (t8:Int) (t62:Bool) (t30:Int) (t31:Int) (t32:Bs) (t34:List Bs) (t60:Int) (t61:Int) (t62_1:Bs) (t33:List aa_):Option (aa_ × Bool) :=
 (cond t62 (e9_ 0 t8 t34.length (cF_ (([]:List Bs).length+((t34.take t8.toNat).drop 0).length) 16 (e9_ (W (t8+1)) (t34.length:Int) t34.length (cF_ ((([]:List Bs)++((t34.take t8.toNat).drop 0)).length+((t34.take (t34.length:Int).toNat).drop (W (t8+1)).toNat).length) 16 (kn t30 t31 t32 ((([]:List Bs)++((t34.take t8.toNat).drop 0))++((t34.take (t34.length:Int).toNat).drop (W (t8+1)).toNat)) t60 t61 t62_1 t33))))) (kn t30 t31 t32 t34 t60 t61 t62_1 t33))
def bD_.tail8 (n:Nat) (t8:Int) (a2:List Bs) (t30:Int) (t31:Int) (t32:Bs) (t33:List aa_) (t60:Int) (t61:Int) (t62:Bs):Option (aa_ × Bool) :=
 (e9_ 0 t8 t33.length (cF_ (([]:List aa_).length+((t33.take t8.toNat).drop 0).length) 80 (e9_ (W (t8+1)) (t33.length:Int) t33.length (cF_ ((([]:List aa_)++((t33.take t8.toNat).drop 0)).length+((t33.take (t33.length:Int).toNat).drop (W (t8+1)).toNat).length) 80 (bD_.tail17 n (fun xy6 xy7 xy8 xy9 xy10 xy11 xy12 xy13=>(some ((aa_.mk xy6 xy7 xy8 xy13 xy9),true))) t8 (t30 == 5) t30 t31 t32 a2 t60 t61 t62 ((([]:List aa_)++((t33.take t8.toNat).drop 0))++((t33.take (t33.length:Int).toNat).drop (W (t8+1)).toNat)))))))
def bD_:Nat→aa_→Bs→TOp→Option (aa_ × Bool)
 |0,_,_,_=>none
 |n+1,o,append,a2=>
  ((dd_ n (aa_.re o) append).bind fun xr1=>(cond (a2.kind == 1) ((cZ_ n (aa_.re o) append (TOp.mk a2.kind a2.way (aa_.re a2.value))).bind fun xr2=>(some ((aa_.re xr2.1),xr2.2))) (cond (decide (xr1<0)) (some ((aa_.re o),false)) (cond (a2.kind == 4) (inB xr1 o.list.length ((aj_ n (aa_.re (o.list.getD xr1.toNat aa_.dflt)) (aa_.re a2.value)).bind fun xr3=>(some ((aa_.re o),xr3)))) (cond (a2.kind == 3) ((aH_ n (aa_.re a2.value)).bind fun xr4=>(inB xr1 o.list.length (let xa5:List aa_:=o.list.set xr1.toNat (aa_.re xr4);(some ((aa_.mk o.kind o.n_ o.s xa5 o.names),true))))) (bD_.tail8 n xr1 o.names o.kind o.n_ o.s o.list 0 0 []))))))
def cd_:Nat→aa_→(List Bs)→TOp→Option (aa_ × Bool)
 |0,_,_,_=>none
 |n+1,j,way,o=>
  (cond ((way.length:Int) == 0) ((cy_ n (aa_.re j) (TOp.mk o.kind o.way (aa_.re o.value))).bind fun xr1=>(some ((aa_.re xr1.1),xr1.2))) (cond ((way.length:Int) == 1) (inB 0 way.length ((bD_ n (aa_.re j) (way.getD 0 []) (TOp.mk o.kind o.way (aa_.re o.value))).bind fun xr2=>(some ((aa_.re xr2.1),xr2.2)))) (inB 0 way.length ((dd_ n (aa_.re j) (way.getD 0 [])).bind fun xr3=>(cond (decide (xr3<0)) (some ((aa_.re j),false)) (inB xr3 j.list.length (e9_ 1 (way.length:Int) way.length (cond (Nat.beq xr3.toNat xr3.toNat) (cond (Nat.beq xr3.toNat xr3.toNat) ((cd_ n (aa_.re (j.list.getD xr3.toNat aa_.dflt)) ((way.take (way.length:Int).toNat).drop 1) (TOp.mk o.kind o.way (aa_.re o.value))).bind fun xr4=>(inB xr3 j.list.length (cond (Nat.beq xr3.toNat xr3.toNat) (let xa5:List aa_:=j.list.set xr3.toNat (aa_.re xr4.1);(some ((aa_.mk j.kind j.n_ j.s xa5 j.names),xr4.2))) none))) none) none))))))))
def c0_:Nat→aa_→TOp→Option (aa_ × Bool)
 |0,_,_=>none
 |n+1,j,o=>
  ((bZ_ n (aa_.re j)).bind fun xr1=>(cond (!xr1) (some ((aa_.mk 0 0 [] ([]:List aa_) []),false)) ((bG_ n (TOp.mk o.kind o.way (aa_.re o.value))).bind fun xr2=>(cond (!xr2) (some ((aa_.mk 0 0 [] ([]:List aa_) []),false)) ((aH_ n (aa_.re j)).bind fun xr3=>((cd_ n (aa_.re xr3) o.way (TOp.mk o.kind o.way (aa_.re o.value))).bind fun xr4=>(cond (!xr4.2) (some ((aa_.mk 0 0 [] ([]:List aa_) []),false)) ((bZ_ n (aa_.re xr4.1)).bind fun xr5=>(cond (!xr5) (some ((aa_.mk 0 0 [] ([]:List aa_) []),false)) (some ((aa_.re xr4.1),true)))))))))))
def a0_.step7 (n:Nat) (k0:Int→Int→Bs→Int→Int→Bs→(List Bs)→(List aa_)→Option (aa_ × Bool)) (back:(List TOp)→Int→Int→Int→Bs→Int→Int→Bs→(List Bs)→(List aa_)→Option (aa_ × Bool)) (list:List TOp) (i:Int) (t40:Int) (t41:Int) (t42:Bs) (out0:Int) (out1:Int) (out2:Bs) (out4:List Bs) (out3:List aa_):Option (aa_ × Bool) :=
 (cond (decide (i<(list.length:Int))) (inB i list.length ((c0_ n (aa_.mk out0 out1 out2 out3 out4) { (list.getD i.toNat TOp.dflt) with value:=(aa_.re ((list.getD i.toNat TOp.dflt).value)) }).bind fun xr3=>(cond (!xr3.2) (some ((aa_.mk 0 0 [] ([]:List aa_) []),false)) (back list (W (i+1)) t40 t41 t42 xr3.1.kind xr3.1.n_ xr3.1.s xr3.1.names xr3.1.list)))) (k0 t40 t41 t42 out0 out1 out2 out4 out3))
def a0_.loop7 (n:Nat) (k0:Int→Int→Bs→Int→Int→Bs→(List Bs)→(List aa_)→Option (aa_ × Bool)) (N:Nat):(List TOp)→Int→Int→Int→Bs→Int→Int→Bs→(List Bs)→(List aa_)→Option (aa_ × Bool) :=
 dk_ (fun _ _ _ _ _ _ _ _ _ _=>none) (fun back=>a0_.step7 n k0 back) N
def a0_:Nat→aa_→(List TOp)→Option (aa_ × Bool)
 |0,_,_=>none
 |n+1,j,list=>
  ((bZ_ n (aa_.re j)).bind fun xr1=>(cond (!xr1) (some ((aa_.mk 0 0 [] ([]:List aa_) []),false)) (cond (decide ((list.length:Int) > 40)) (some ((aa_.mk 0 0 [] ([]:List aa_) []),false)) ((aH_ n (aa_.re j)).bind fun xr2=>(a0_.loop7 n (fun xy4 xy5 xy6 xy7 xy8 xy9 xy10 xy11=>(some ((aa_.mk xy7 xy8 xy9 xy11 xy10),true))) n list 0 0 0 [] xr2.kind xr2.n_ xr2.s xr2.names xr2.list)))))
def bS_:Nat→aL_→aM_→Option aL_
 |0,_,_=>none
 |n+1,c,e=>
  ((cz_ n { c with doc:=(aa_.re c.doc) }).bind fun xr1=>(cond c.bad (some { xr1 with doc:=(aa_.re xr1.doc) }) ((cp_ n { e with doc:=(aa_.re e.doc) }).bind fun xr2=>(cond (!xr2) (some { xr1 with doc:=(aa_.re xr1.doc),bad:=true }) (cond (e.kind == 1) (cond c.began (cond (decide (e.version≤c.version)) (some { xr1 with doc:=(aa_.re xr1.doc),bad:=true }) ((aH_ n (aa_.re e.doc)).bind fun xr3=>(some (aL_.mk (aa_.re xr3) e.version true false)))) ((aH_ n (aa_.re e.doc)).bind fun xr4=>(some (aL_.mk (aa_.re xr4) e.version true false)))) ((a0_ n (aa_.re c.doc) e.ops).bind fun xr5=>(cond (!c.began) (some { xr1 with doc:=(aa_.re xr1.doc),bad:=true }) (cond (e.base != c.version) (some { xr1 with doc:=(aa_.re xr1.doc),bad:=true }) (cond (!xr5.2) (some { xr1 with doc:=(aa_.re xr1.doc),bad:=true }) (some (aL_.mk (aa_.re xr5.1) e.version true false)))))))))))
def aP_.step4 (n:Nat) (k0:Int→Int→Bs→Int→Bool→Bool→Int→Int→Bs→(List Bs)→Int→Bool→Bool→(List aa_)→Option aL_) (back:(List aM_)→Int→Int→Int→Bs→Int→Bool→Bool→Int→Int→Bs→(List Bs)→Int→Bool→Bool→(List aa_)→Option aL_) (list:List aM_) (i:Int) (t20:Int) (t21:Int) (t22:Bs) (t25:Int) (t26:Bool) (t27:Bool) (c0:Int) (c1:Int) (c2:Bs) (c4:List Bs) (c5:Int) (c6:Bool) (c7:Bool) (c3:List aa_):Option aL_ :=
 (cond (decide (i<(list.length:Int))) (inB i list.length ((bS_ n (aL_.mk (aa_.mk c0 c1 c2 c3 c4) c5 c6 c7) { (list.getD i.toNat aM_.dflt) with doc:=(aa_.re ((list.getD i.toNat aM_.dflt).doc)) }).bind fun xr1=>(back list (W (i+1)) t20 t21 t22 t25 t26 t27 xr1.doc.kind xr1.doc.n_ xr1.doc.s xr1.doc.names xr1.version xr1.began xr1.bad xr1.doc.list))) (k0 t20 t21 t22 t25 t26 t27 c0 c1 c2 c4 c5 c6 c7 c3))
def aP_.loop4 (n:Nat) (k0:Int→Int→Bs→Int→Bool→Bool→Int→Int→Bs→(List Bs)→Int→Bool→Bool→(List aa_)→Option aL_) (N:Nat):(List aM_)→Int→Int→Int→Bs→Int→Bool→Bool→Int→Int→Bs→(List Bs)→Int→Bool→Bool→(List aa_)→Option aL_ :=
 dk_ (fun _ _ _ _ _ _ _ _ _ _ _ _ _ _ _ _=>none) (fun back=>aP_.step4 n k0 back) N
def aP_:Nat→(List aM_)→Option aL_
 |0,_=>none
 |n+1,list=>
  (aP_.loop4 n (fun xy2 xy3 xy4 xy5 xy6 xy7 xy8 xy9 xy10 xy11 xy12 xy13 xy14 xy15=>(some (aL_.mk (aa_.mk xy8 xy9 xy10 xy15 xy11) xy12 xy13 xy14))) n list 0 0 0 [] 0 false false 0 0 [] [] 0 false false ([]:List aa_))
def ci_:Nat→Bs→Option (aL_ × a1_)
 |0,_=>none
 |n+1,text=>
  ((by_ n (a1_.mk [] false) text).bind fun xr1=>((aP_ n xr1.2).bind fun xr2=>(cond xr2.bad (some ({ xr2 with doc:=(aa_.re xr2.doc),bad:=true },xr1.1)) (some ({ xr2 with doc:=(aa_.re xr2.doc),bad:=xr1.1.bad },xr1.1)))))
def strings_Index:Nat→Bs→Bs→Option Int
 |0,_,_=>none
 |_+1,s,a=>lI_ s a
def aw_:Nat→Bs→Bs→Option Bool
 |0,_,_=>none
 |n+1,s,prefix1=>
  (cond (decide ((s.length:Int)≥(prefix1.length:Int))) (e9_ 0 (prefix1.length:Int) s.length (some (((s.take (prefix1.length:Int).toNat).drop 0) == prefix1))) (some false))
def aF_:Nat→Bs→Bs→Option (Bs × Bool)
 |0,_,_=>none
 |n+1,s,prefix1=>
  ((aw_ n s prefix1).bind fun xr1=>(cond (!xr1) (some (s,false)) (e9_ (prefix1.length:Int) (s.length:Int) s.length (some (((s.take (s.length:Int).toNat).drop (prefix1.length:Int).toNat),true)))))
def bx_:Nat→Bs→Bs→Option (Bs × Bool)
 |0,_,_=>none
 |n+1,s,prefix1=>
  ((aF_ n s prefix1).bind fun xr1=>(some (xr1.1,xr1.2)))
def bb_:Nat→Bs→Bs→Option Int
 |0,_,_=>none
 |_+1,s,a=>ow_ s a
def a3_:Nat→Bs→Bs→Option (Bs × Bs × Bool)
 |0,_,_=>none
 |n+1,s,sep=>
  ((bb_ n s sep).bind fun xr1=>(cond (decide (xr1≥0)) (e9_ 0 xr1 s.length (e9_ (W (xr1+(sep.length:Int))) (s.length:Int) s.length (let xv2:Bs:=((s.take (s.length:Int).toNat).drop (W (xr1+(sep.length:Int))).toNat);(some (((s.take xr1.toNat).drop 0),xv2,true))))) (some (s,[],false))))
def cR_:Nat→Bs→Bs→Option (Bs × Bs × Bool)
 |0,_,_=>none
 |n+1,s,sep=>
  ((a3_ n s sep).bind fun xr1=>(some (xr1.1,xr1.2.1,xr1.2.2)))
def aB_:Nat→Bs→Bs→Option Bs
 |0,_,_=>none
 |n+1,s,prefix1=>
  ((aw_ n s prefix1).bind fun xr1=>(cond xr1 (e9_ (prefix1.length:Int) (s.length:Int) s.length (some ((s.take (s.length:Int).toNat).drop (prefix1.length:Int).toNat))) (some s)))
def bs_:Nat→Bs→Bs→Option Bs
 |0,_,_=>none
 |n+1,s,prefix1=>
  ((aB_ n s prefix1).bind fun xr1=>(some xr1))
def cB_:Nat→Bs→Bs→Option (Bs × Bs)
 |0,_,_=>none
 |n+1,text,word=>
  ((cR_ n text [10]).bind fun xr1=>((bs_ n xr1.1 word).bind fun xr2=>(some (xr2,xr1.2.1))))
def b4_:Nat→Bs→Option (Int × Bool)
 |0,_=>none
 |_+1,s=>nAtoi s
def a9_:Nat→aV_→Bs→Option (Bool × aV_)
 |0,_,_=>none
 |n+1,r,text=>
  ((bx_ n r.text text).bind fun xr1=>(cond xr1.2 (some ((!r.bad),(aV_.mk xr1.1 r.bad))) (some (false,(aV_.mk xr1.1 r.bad)))))
def bF_:Nat→Bs→Bs→Option Bool
 |0,_,_=>none
 |n+1,s,prefix1=>
  ((aw_ n s prefix1).bind fun xr1=>(some xr1))
def bp_:Nat→aV_→Bs→Option aV_
 |0,_,_=>none
 |n+1,r,text=>
  ((a9_ n r text).bind fun xr1=>(cond (!xr1.1) (some (aV_.mk xr1.2.text true)) (some xr1.2)))
def ak_.step4 (n:Nat) (k0:Bs→Bool→Option (Bs × aV_)) (back:Bs→Bool→(List Int)→Option (Bs × aV_)) (r0:Bs) (r1:Bool) (out_1:List Int):Option (Bs × aV_) :=
 (cond (!r1) ((a9_ n (aV_.mk r0 r1) [34]).bind fun xr2=>(cond xr2.1 (some ((fT_ out_1),xr2.2)) ((a9_ n xr2.2 [92]).bind fun xr3=>(cond (xr3.2.text == []) (k0 xr3.2.text true) (inB 0 xr3.2.text.length (cF_ (out_1.length+([((xr3.2.text.getD 0 0).toNat:Int)]:List Int).length) 1 (e9_ 1 (xr3.2.text.length:Int) xr3.2.text.length (back ((xr3.2.text.take (xr3.2.text.length:Int).toNat).drop 1) xr3.2.bad (out_1++([((xr3.2.text.getD 0 0).toNat:Int)]:List Int)))))))))) (k0 r0 r1))
def ak_.loop4 (n:Nat) (k0:Bs→Bool→Option (Bs × aV_)) (N:Nat):Bs→Bool→(List Int)→Option (Bs × aV_) :=
 dk_ (fun _ _ _=>none) (fun back=>ak_.step4 n k0 back) N
def ak_:Nat→aV_→Option (Bs × aV_)
 |0,_=>none
 |n+1,r=>
  ((bp_ n r [34]).bind fun xr1=>(ak_.loop4 n (fun xy4 xy5=>(some ([],(aV_.mk xy4 xy5)))) n xr1.text xr1.bad ([]:List Int)))
def aS_:Nat→Int→Int→Int→Option Bool
 |0,_,_,_=>none
 |n+1,n1,low,high=>
  (cond (decide (n1≥low)) (some (decide (n1≤high))) (some false))
def ah_.step3 (n:Nat) (k0:Int→Bs→Bool→Int→Int→Bs→Option (aa_ × aV_)) (back:Int→Bs→Bool→Int→Int→Bs→Option (aa_ × aV_)) (n_1:Int) (r0:Bs) (r1:Bool) (t20:Int) (t21:Int) (t22:Bs):Option (aa_ × aV_) :=
 (cond (decide (n_1<(r0.length:Int))) (inB n_1 r0.length ((aS_ n (W (((r0.getD n_1.toNat 0).toNat:Int))) 48 57).bind fun xr1=>(cond xr1 (back (W (n_1+1)) r0 r1 t20 t21 t22) (cond (n_1 == 0) (inB 0 r0.length (cond (((r0.getD 0 0).toNat:Int) == 45) (back (W (n_1+1)) r0 r1 t20 t21 t22) (k0 n_1 r0 r1 t20 t21 t22))) (k0 n_1 r0 r1 t20 t21 t22))))) (k0 n_1 r0 r1 t20 t21 t22))
def ah_.loop3 (n:Nat) (k0:Int→Bs→Bool→Int→Int→Bs→Option (aa_ × aV_)) (N:Nat):Int→Bs→Bool→Int→Int→Bs→Option (aa_ × aV_) :=
 dk_ (fun _ _ _ _ _ _=>none) (fun back=>ah_.step3 n k0 back) N
def ah_:Nat→aV_→Option (aa_ × aV_)
 |0,_=>none
 |n+1,r=>
  (ah_.loop3 n (fun xy2 xy3 xy4 xy5 xy6 xy7=>(e9_ 0 xy2 xy3.length ((b4_ n ((xy3.take xy2.toNat).drop 0)).bind fun xr8=>(cond (!xr8.2) (e9_ xy2 (xy3.length:Int) xy3.length (some ((aa_.mk 2 xr8.1 [] ([]:List aa_) ([]:List Bs)),(aV_.mk ((xy3.take (xy3.length:Int).toNat).drop xy2.toNat) true)))) (e9_ xy2 (xy3.length:Int) xy3.length (some ((aa_.mk 2 xr8.1 [] ([]:List aa_) ([]:List Bs)),(aV_.mk ((xy3.take (xy3.length:Int).toNat).drop xy2.toNat) xy4)))))))) n 0 r.text r.bad 0 0 [])
def ag_.step7 (n:Nat) (impl_reader_value_:aV_→Int→Option (aa_ × aV_)) (k0:Bs→Bs→Bool→Int→Int→Bs→Int→Int→Bs→(List aa_)→(List Bs)→Option (aa_ × aV_)) (back:Int→Bs→Int→Bool→Bs→Bool→Int→Int→Bs→Int→Int→Bs→(List aa_)→(List Bs)→Option (aa_ × aV_)) (kind:Int) (end_1:Bs) (deep:Int) (more:Bool) (r0:Bs) (r1:Bool) (t80:Int) (t81:Int) (t82:Bs) (j0:Int) (j1:Int) (j2:Bs) (j3:List aa_) (j4:List Bs):Option (aa_ × aV_) :=
 (cond more (cond (!r1) (cond (kind == 5) ((ak_ n (aV_.mk r0 r1)).bind fun xr2=>((bp_ n xr2.2 [58]).bind fun xr3=>(cF_ (j4.length+([xr2.1]:List Bs).length) 16 ((impl_reader_value_ xr3 (W (deep - 1))).bind fun xr4=>(cF_ (j3.length+([(aa_.re xr4.1)]:List aa_).length) 80 ((a9_ n xr4.2 [44]).bind fun xr5=>(back kind end_1 deep xr5.1 xr5.2.text xr5.2.bad t80 t81 t82 j0 j1 j2 (j3++([(aa_.re xr4.1)]:List aa_)) (j4++([xr2.1]:List Bs))))))))) ((impl_reader_value_ (aV_.mk r0 r1) (W (deep - 1))).bind fun xr6=>(cF_ (j3.length+([(aa_.re xr6.1)]:List aa_).length) 80 ((a9_ n xr6.2 [44]).bind fun xr7=>(back kind end_1 deep xr7.1 xr7.2.text xr7.2.bad t80 t81 t82 j0 j1 j2 (j3++([(aa_.re xr6.1)]:List aa_)) j4))))) (k0 end_1 r0 r1 t80 t81 t82 j0 j1 j2 j3 j4)) (k0 end_1 r0 r1 t80 t81 t82 j0 j1 j2 j3 j4))
def ag_.loop7 (n:Nat) (impl_reader_value_:aV_→Int→Option (aa_ × aV_)) (k0:Bs→Bs→Bool→Int→Int→Bs→Int→Int→Bs→(List aa_)→(List Bs)→Option (aa_ × aV_)) (N:Nat):Int→Bs→Int→Bool→Bs→Bool→Int→Int→Bs→Int→Int→Bs→(List aa_)→(List Bs)→Option (aa_ × aV_) :=
 dk_ (fun _ _ _ _ _ _ _ _ _ _ _ _ _ _=>none) (fun back=>ag_.step7 n impl_reader_value_ k0 back) N
mutual
def aN_:Nat→aV_→Int→Option (aa_ × aV_)
 |0,_,_=>none
 |n+1,r,deep=>
  (cond (decide (deep<1)) (some ((aa_.mk 0 0 [] ([]:List aa_) ([]:List Bs)),(aV_.mk r.text true))) (cond r.bad (some ((aa_.mk 0 0 [] ([]:List aa_) ([]:List Bs)),(aV_.mk r.text true))) ((a9_ n r [110,117,108,108]).bind fun xr1=>(cond xr1.1 (some ((aa_.mk 0 0 [] ([]:List aa_) ([]:List Bs)),xr1.2)) ((a9_ n xr1.2 [102,97,108,115,101]).bind fun xr2=>(cond xr2.1 (some ((aa_.mk 1 0 [] ([]:List aa_) ([]:List Bs)),xr2.2)) ((a9_ n xr2.2 [116,114,117,101]).bind fun xr3=>(cond xr3.1 (some ((aa_.mk 1 1 [] ([]:List aa_) ([]:List Bs)),xr3.2)) ((bF_ n xr3.2.text [34]).bind fun xr4=>(cond xr4 ((ak_ n xr3.2).bind fun xr5=>(some ((aa_.mk 3 0 xr5.1 ([]:List aa_) ([]:List Bs)),xr5.2))) ((a9_ n xr3.2 [91]).bind fun xr6=>(cond xr6.1 ((ag_ n xr6.2 4 [93] deep).bind fun xr7=>(some ((aa_.re xr7.1),xr7.2))) ((a9_ n xr6.2 [123]).bind fun xr8=>(cond xr8.1 ((ag_ n xr8.2 5 [125] deep).bind fun xr9=>(some ((aa_.re xr9.1),xr9.2))) ((ah_ n xr8.2).bind fun xr10=>(some ((aa_.re xr10.1),xr10.2)))))))))))))))))
def ag_:Nat→aV_→Int→Bs→Int→Option (aa_ × aV_)
 |0,_,_,_,_=>none
 |n+1,r,kind,end1,deep=>
  ((a9_ n r end1).bind fun xr1=>(cond xr1.1 (some ((aa_.mk kind 0 [] ([]:List aa_) ([]:List Bs)),xr1.2)) (ag_.loop7 n (aN_ n) (fun xy8 xy9 xy10 xy11 xy12 xy13 xy14 xy15 xy16 xy17 xy18=>((bp_ n (aV_.mk xy9 xy10) xy8).bind fun xr19=>(some ((aa_.mk xy14 xy15 xy16 xy17 xy18),xr19)))) n kind end1 deep true xr1.2.text xr1.2.bad 0 0 [] kind 0 [] ([]:List aa_) ([]:List Bs))))
end
def bk_:Nat→Int→Option Bool
 |0,_=>none
 |n+1,n1=>
  ((aS_ n n1 (-1000000000) 1000000000).bind fun xr1=>(some xr1))
def as_.step3 (n:Nat) (k0:Bs→Option Bool) (back:Bs→Int→Int→Option Bool) (s:Bs) (t5:Int) (t6:Int):Option Bool :=
 (cond (decide (t6<t5)) (inB t6 s.length ((aS_ n (W (((s.getD t6.toNat 0).toNat:Int))) 32 126).bind fun xr1=>(cond (!xr1) (some false) (back s t5 (W (t6+1)))))) (k0 s))
def as_.loop3 (n:Nat) (k0:Bs→Option Bool) (N:Nat):Bs→Int→Int→Option Bool :=
 dk_ (fun _ _ _=>none) (fun back=>as_.step3 n k0 back) N
def as_:Nat→Bs→Option Bool
 |0,_=>none
 |n+1,s=>
  (as_.loop3 n (fun xy2=>(some (decide ((xy2.length:Int)≤60)))) n s (s.length:Int) 0)
def ap_.step3 (n:Nat) (k0:Option Bool) (back:(List Bs)→(List Bs)→Int→Int→Option Bool) (names:List Bs) (t5:List Bs) (t6:Int) (t7:Int):Option Bool :=
 (cond (decide (t7<t6)) (inB t7 t5.length ((as_ n (t5.getD t7.toNat [])).bind fun xr1=>(cond (!xr1) (some false) (cond (decide (t7 > 0)) (inB (W (t7 - 1)) names.length (let xv2:Bool:=(!Op.bytesLess (names.getD (W (t7 - 1)).toNat []) (t5.getD t7.toNat []));(cond xv2 (some false) (back names t5 t6 (W (t7+1)))))) (back names t5 t6 (W (t7+1))))))) k0)
def ap_.loop3 (n:Nat) (k0:Option Bool) (N:Nat):(List Bs)→(List Bs)→Int→Int→Option Bool :=
 dk_ (fun _ _ _ _=>none) (fun back=>ap_.step3 n k0 back) N
def ap_:Nat→(List Bs)→Option Bool
 |0,_=>none
 |n+1,names=>
  (ap_.loop3 n (some true) n names names (names.length:Int) 0)
def c2_:Nat→aa_→Option Bool
 |0,_=>none
 |n+1,o=>
  (cond (decide ((o.list.length:Int) > 0)) (cond (o.kind != 4) (cond (o.kind != 5) (some false) (cond (decide ((o.names.length:Int) > 0)) (cond (o.kind != 5) (some false) (cond (o.n_ != 0) (cond (o.kind != 1) (cond (o.kind != 2) (some false) (cond (!(o.s == [])) (cond (o.kind != 3) (some false) (cond (o.kind == 1) ((aS_ n o.n_ 0 1).bind fun xr1=>(some xr1)) (cond (o.kind == 2) ((bk_ n o.n_).bind fun xr2=>(some xr2)) (cond (o.kind == 3) ((as_ n o.s).bind fun xr3=>(some xr3)) (cond (o.kind == 5) (cond ((o.names.length:Int) == (o.list.length:Int)) ((ap_ n o.names).bind fun xr4=>(some xr4)) (some false)) (cond (o.kind == 0) (some true) (some (o.kind == 4)))))))) (cond (o.kind == 1) ((aS_ n o.n_ 0 1).bind fun xr5=>(some xr5)) (cond (o.kind == 2) ((bk_ n o.n_).bind fun xr6=>(some xr6)) (cond (o.kind == 3) ((as_ n o.s).bind fun xr7=>(some xr7)) (cond (o.kind == 5) (cond ((o.names.length:Int) == (o.list.length:Int)) ((ap_ n o.names).bind fun xr8=>(some xr8)) (some false)) (cond (o.kind == 0) (some true) (some (o.kind == 4))))))))) (cond (!(o.s == [])) (cond (o.kind != 3) (some false) (cond (o.kind == 1) ((aS_ n o.n_ 0 1).bind fun xr9=>(some xr9)) (cond (o.kind == 2) ((bk_ n o.n_).bind fun xr10=>(some xr10)) (cond (o.kind == 3) ((as_ n o.s).bind fun xr11=>(some xr11)) (cond (o.kind == 5) (cond ((o.names.length:Int) == (o.list.length:Int)) ((ap_ n o.names).bind fun xr12=>(some xr12)) (some false)) (cond (o.kind == 0) (some true) (some (o.kind == 4)))))))) (cond (o.kind == 1) ((aS_ n o.n_ 0 1).bind fun xr13=>(some xr13)) (cond (o.kind == 2) ((bk_ n o.n_).bind fun xr14=>(some xr14)) (cond (o.kind == 3) ((as_ n o.s).bind fun xr15=>(some xr15)) (cond (o.kind == 5) (cond ((o.names.length:Int) == (o.list.length:Int)) ((ap_ n o.names).bind fun xr16=>(some xr16)) (some false)) (cond (o.kind == 0) (some true) (some (o.kind == 4))))))))) (cond (!(o.s == [])) (cond (o.kind != 3) (some false) (cond (o.kind == 1) ((aS_ n o.n_ 0 1).bind fun xr17=>(some xr17)) (cond (o.kind == 2) ((bk_ n o.n_).bind fun xr18=>(some xr18)) (cond (o.kind == 3) ((as_ n o.s).bind fun xr19=>(some xr19)) (cond (o.kind == 5) (cond ((o.names.length:Int) == (o.list.length:Int)) ((ap_ n o.names).bind fun xr20=>(some xr20)) (some false)) (cond (o.kind == 0) (some true) (some (o.kind == 4)))))))) (cond (o.kind == 1) ((aS_ n o.n_ 0 1).bind fun xr21=>(some xr21)) (cond (o.kind == 2) ((bk_ n o.n_).bind fun xr22=>(some xr22)) (cond (o.kind == 3) ((as_ n o.s).bind fun xr23=>(some xr23)) (cond (o.kind == 5) (cond ((o.names.length:Int) == (o.list.length:Int)) ((ap_ n o.names).bind fun xr24=>(some xr24)) (some false)) (cond (o.kind == 0) (some true) (some (o.kind == 4)))))))))) (cond (o.n_ != 0) (cond (o.kind != 1) (cond (o.kind != 2) (some false) (cond (!(o.s == [])) (cond (o.kind != 3) (some false) (cond (o.kind == 1) ((aS_ n o.n_ 0 1).bind fun xr25=>(some xr25)) (cond (o.kind == 2) ((bk_ n o.n_).bind fun xr26=>(some xr26)) (cond (o.kind == 3) ((as_ n o.s).bind fun xr27=>(some xr27)) (cond (o.kind == 5) (cond ((o.names.length:Int) == (o.list.length:Int)) ((ap_ n o.names).bind fun xr28=>(some xr28)) (some false)) (cond (o.kind == 0) (some true) (some (o.kind == 4)))))))) (cond (o.kind == 1) ((aS_ n o.n_ 0 1).bind fun xr29=>(some xr29)) (cond (o.kind == 2) ((bk_ n o.n_).bind fun xr30=>(some xr30)) (cond (o.kind == 3) ((as_ n o.s).bind fun xr31=>(some xr31)) (cond (o.kind == 5) (cond ((o.names.length:Int) == (o.list.length:Int)) ((ap_ n o.names).bind fun xr32=>(some xr32)) (some false)) (cond (o.kind == 0) (some true) (some (o.kind == 4))))))))) (cond (!(o.s == [])) (cond (o.kind != 3) (some false) (cond (o.kind == 1) ((aS_ n o.n_ 0 1).bind fun xr33=>(some xr33)) (cond (o.kind == 2) ((bk_ n o.n_).bind fun xr34=>(some xr34)) (cond (o.kind == 3) ((as_ n o.s).bind fun xr35=>(some xr35)) (cond (o.kind == 5) (cond ((o.names.length:Int) == (o.list.length:Int)) ((ap_ n o.names).bind fun xr36=>(some xr36)) (some false)) (cond (o.kind == 0) (some true) (some (o.kind == 4)))))))) (cond (o.kind == 1) ((aS_ n o.n_ 0 1).bind fun xr37=>(some xr37)) (cond (o.kind == 2) ((bk_ n o.n_).bind fun xr38=>(some xr38)) (cond (o.kind == 3) ((as_ n o.s).bind fun xr39=>(some xr39)) (cond (o.kind == 5) (cond ((o.names.length:Int) == (o.list.length:Int)) ((ap_ n o.names).bind fun xr40=>(some xr40)) (some false)) (cond (o.kind == 0) (some true) (some (o.kind == 4))))))))) (cond (!(o.s == [])) (cond (o.kind != 3) (some false) (cond (o.kind == 1) ((aS_ n o.n_ 0 1).bind fun xr41=>(some xr41)) (cond (o.kind == 2) ((bk_ n o.n_).bind fun xr42=>(some xr42)) (cond (o.kind == 3) ((as_ n o.s).bind fun xr43=>(some xr43)) (cond (o.kind == 5) (cond ((o.names.length:Int) == (o.list.length:Int)) ((ap_ n o.names).bind fun xr44=>(some xr44)) (some false)) (cond (o.kind == 0) (some true) (some (o.kind == 4)))))))) (cond (o.kind == 1) ((aS_ n o.n_ 0 1).bind fun xr45=>(some xr45)) (cond (o.kind == 2) ((bk_ n o.n_).bind fun xr46=>(some xr46)) (cond (o.kind == 3) ((as_ n o.s).bind fun xr47=>(some xr47)) (cond (o.kind == 5) (cond ((o.names.length:Int) == (o.list.length:Int)) ((ap_ n o.names).bind fun xr48=>(some xr48)) (some false)) (cond (o.kind == 0) (some true) (some (o.kind == 4))))))))))) (cond (decide ((o.names.length:Int) > 0)) (cond (o.kind != 5) (some false) (cond (o.n_ != 0) (cond (o.kind != 1) (cond (o.kind != 2) (some false) (cond (!(o.s == [])) (cond (o.kind != 3) (some false) (cond (o.kind == 1) ((aS_ n o.n_ 0 1).bind fun xr49=>(some xr49)) (cond (o.kind == 2) ((bk_ n o.n_).bind fun xr50=>(some xr50)) (cond (o.kind == 3) ((as_ n o.s).bind fun xr51=>(some xr51)) (cond (o.kind == 5) (cond ((o.names.length:Int) == (o.list.length:Int)) ((ap_ n o.names).bind fun xr52=>(some xr52)) (some false)) (cond (o.kind == 0) (some true) (some (o.kind == 4)))))))) (cond (o.kind == 1) ((aS_ n o.n_ 0 1).bind fun xr53=>(some xr53)) (cond (o.kind == 2) ((bk_ n o.n_).bind fun xr54=>(some xr54)) (cond (o.kind == 3) ((as_ n o.s).bind fun xr55=>(some xr55)) (cond (o.kind == 5) (cond ((o.names.length:Int) == (o.list.length:Int)) ((ap_ n o.names).bind fun xr56=>(some xr56)) (some false)) (cond (o.kind == 0) (some true) (some (o.kind == 4))))))))) (cond (!(o.s == [])) (cond (o.kind != 3) (some false) (cond (o.kind == 1) ((aS_ n o.n_ 0 1).bind fun xr57=>(some xr57)) (cond (o.kind == 2) ((bk_ n o.n_).bind fun xr58=>(some xr58)) (cond (o.kind == 3) ((as_ n o.s).bind fun xr59=>(some xr59)) (cond (o.kind == 5) (cond ((o.names.length:Int) == (o.list.length:Int)) ((ap_ n o.names).bind fun xr60=>(some xr60)) (some false)) (cond (o.kind == 0) (some true) (some (o.kind == 4)))))))) (cond (o.kind == 1) ((aS_ n o.n_ 0 1).bind fun xr61=>(some xr61)) (cond (o.kind == 2) ((bk_ n o.n_).bind fun xr62=>(some xr62)) (cond (o.kind == 3) ((as_ n o.s).bind fun xr63=>(some xr63)) (cond (o.kind == 5) (cond ((o.names.length:Int) == (o.list.length:Int)) ((ap_ n o.names).bind fun xr64=>(some xr64)) (some false)) (cond (o.kind == 0) (some true) (some (o.kind == 4))))))))) (cond (!(o.s == [])) (cond (o.kind != 3) (some false) (cond (o.kind == 1) ((aS_ n o.n_ 0 1).bind fun xr65=>(some xr65)) (cond (o.kind == 2) ((bk_ n o.n_).bind fun xr66=>(some xr66)) (cond (o.kind == 3) ((as_ n o.s).bind fun xr67=>(some xr67)) (cond (o.kind == 5) (cond ((o.names.length:Int) == (o.list.length:Int)) ((ap_ n o.names).bind fun xr68=>(some xr68)) (some false)) (cond (o.kind == 0) (some true) (some (o.kind == 4)))))))) (cond (o.kind == 1) ((aS_ n o.n_ 0 1).bind fun xr69=>(some xr69)) (cond (o.kind == 2) ((bk_ n o.n_).bind fun xr70=>(some xr70)) (cond (o.kind == 3) ((as_ n o.s).bind fun xr71=>(some xr71)) (cond (o.kind == 5) (cond ((o.names.length:Int) == (o.list.length:Int)) ((ap_ n o.names).bind fun xr72=>(some xr72)) (some false)) (cond (o.kind == 0) (some true) (some (o.kind == 4)))))))))) (cond (o.n_ != 0) (cond (o.kind != 1) (cond (o.kind != 2) (some false) (cond (!(o.s == [])) (cond (o.kind != 3) (some false) (cond (o.kind == 1) ((aS_ n o.n_ 0 1).bind fun xr73=>(some xr73)) (cond (o.kind == 2) ((bk_ n o.n_).bind fun xr74=>(some xr74)) (cond (o.kind == 3) ((as_ n o.s).bind fun xr75=>(some xr75)) (cond (o.kind == 5) (cond ((o.names.length:Int) == (o.list.length:Int)) ((ap_ n o.names).bind fun xr76=>(some xr76)) (some false)) (cond (o.kind == 0) (some true) (some (o.kind == 4)))))))) (cond (o.kind == 1) ((aS_ n o.n_ 0 1).bind fun xr77=>(some xr77)) (cond (o.kind == 2) ((bk_ n o.n_).bind fun xr78=>(some xr78)) (cond (o.kind == 3) ((as_ n o.s).bind fun xr79=>(some xr79)) (cond (o.kind == 5) (cond ((o.names.length:Int) == (o.list.length:Int)) ((ap_ n o.names).bind fun xr80=>(some xr80)) (some false)) (cond (o.kind == 0) (some true) (some (o.kind == 4))))))))) (cond (!(o.s == [])) (cond (o.kind != 3) (some false) (cond (o.kind == 1) ((aS_ n o.n_ 0 1).bind fun xr81=>(some xr81)) (cond (o.kind == 2) ((bk_ n o.n_).bind fun xr82=>(some xr82)) (cond (o.kind == 3) ((as_ n o.s).bind fun xr83=>(some xr83)) (cond (o.kind == 5) (cond ((o.names.length:Int) == (o.list.length:Int)) ((ap_ n o.names).bind fun xr84=>(some xr84)) (some false)) (cond (o.kind == 0) (some true) (some (o.kind == 4)))))))) (cond (o.kind == 1) ((aS_ n o.n_ 0 1).bind fun xr85=>(some xr85)) (cond (o.kind == 2) ((bk_ n o.n_).bind fun xr86=>(some xr86)) (cond (o.kind == 3) ((as_ n o.s).bind fun xr87=>(some xr87)) (cond (o.kind == 5) (cond ((o.names.length:Int) == (o.list.length:Int)) ((ap_ n o.names).bind fun xr88=>(some xr88)) (some false)) (cond (o.kind == 0) (some true) (some (o.kind == 4))))))))) (cond (!(o.s == [])) (cond (o.kind != 3) (some false) (cond (o.kind == 1) ((aS_ n o.n_ 0 1).bind fun xr89=>(some xr89)) (cond (o.kind == 2) ((bk_ n o.n_).bind fun xr90=>(some xr90)) (cond (o.kind == 3) ((as_ n o.s).bind fun xr91=>(some xr91)) (cond (o.kind == 5) (cond ((o.names.length:Int) == (o.list.length:Int)) ((ap_ n o.names).bind fun xr92=>(some xr92)) (some false)) (cond (o.kind == 0) (some true) (some (o.kind == 4)))))))) (cond (o.kind == 1) ((aS_ n o.n_ 0 1).bind fun xr93=>(some xr93)) (cond (o.kind == 2) ((bk_ n o.n_).bind fun xr94=>(some xr94)) (cond (o.kind == 3) ((as_ n o.s).bind fun xr95=>(some xr95)) (cond (o.kind == 5) (cond ((o.names.length:Int) == (o.list.length:Int)) ((ap_ n o.names).bind fun xr96=>(some xr96)) (some false)) (cond (o.kind == 0) (some true) (some (o.kind == 4))))))))))) (cond (decide ((o.names.length:Int) > 0)) (cond (o.kind != 5) (some false) (cond (o.n_ != 0) (cond (o.kind != 1) (cond (o.kind != 2) (some false) (cond (!(o.s == [])) (cond (o.kind != 3) (some false) (cond (o.kind == 1) ((aS_ n o.n_ 0 1).bind fun xr97=>(some xr97)) (cond (o.kind == 2) ((bk_ n o.n_).bind fun xr98=>(some xr98)) (cond (o.kind == 3) ((as_ n o.s).bind fun xr99=>(some xr99)) (cond (o.kind == 5) (cond ((o.names.length:Int) == (o.list.length:Int)) ((ap_ n o.names).bind fun xr100=>(some xr100)) (some false)) (cond (o.kind == 0) (some true) (some (o.kind == 4)))))))) (cond (o.kind == 1) ((aS_ n o.n_ 0 1).bind fun xr101=>(some xr101)) (cond (o.kind == 2) ((bk_ n o.n_).bind fun xr102=>(some xr102)) (cond (o.kind == 3) ((as_ n o.s).bind fun xr103=>(some xr103)) (cond (o.kind == 5) (cond ((o.names.length:Int) == (o.list.length:Int)) ((ap_ n o.names).bind fun xr104=>(some xr104)) (some false)) (cond (o.kind == 0) (some true) (some (o.kind == 4))))))))) (cond (!(o.s == [])) (cond (o.kind != 3) (some false) (cond (o.kind == 1) ((aS_ n o.n_ 0 1).bind fun xr105=>(some xr105)) (cond (o.kind == 2) ((bk_ n o.n_).bind fun xr106=>(some xr106)) (cond (o.kind == 3) ((as_ n o.s).bind fun xr107=>(some xr107)) (cond (o.kind == 5) (cond ((o.names.length:Int) == (o.list.length:Int)) ((ap_ n o.names).bind fun xr108=>(some xr108)) (some false)) (cond (o.kind == 0) (some true) (some (o.kind == 4)))))))) (cond (o.kind == 1) ((aS_ n o.n_ 0 1).bind fun xr109=>(some xr109)) (cond (o.kind == 2) ((bk_ n o.n_).bind fun xr110=>(some xr110)) (cond (o.kind == 3) ((as_ n o.s).bind fun xr111=>(some xr111)) (cond (o.kind == 5) (cond ((o.names.length:Int) == (o.list.length:Int)) ((ap_ n o.names).bind fun xr112=>(some xr112)) (some false)) (cond (o.kind == 0) (some true) (some (o.kind == 4))))))))) (cond (!(o.s == [])) (cond (o.kind != 3) (some false) (cond (o.kind == 1) ((aS_ n o.n_ 0 1).bind fun xr113=>(some xr113)) (cond (o.kind == 2) ((bk_ n o.n_).bind fun xr114=>(some xr114)) (cond (o.kind == 3) ((as_ n o.s).bind fun xr115=>(some xr115)) (cond (o.kind == 5) (cond ((o.names.length:Int) == (o.list.length:Int)) ((ap_ n o.names).bind fun xr116=>(some xr116)) (some false)) (cond (o.kind == 0) (some true) (some (o.kind == 4)))))))) (cond (o.kind == 1) ((aS_ n o.n_ 0 1).bind fun xr117=>(some xr117)) (cond (o.kind == 2) ((bk_ n o.n_).bind fun xr118=>(some xr118)) (cond (o.kind == 3) ((as_ n o.s).bind fun xr119=>(some xr119)) (cond (o.kind == 5) (cond ((o.names.length:Int) == (o.list.length:Int)) ((ap_ n o.names).bind fun xr120=>(some xr120)) (some false)) (cond (o.kind == 0) (some true) (some (o.kind == 4)))))))))) (cond (o.n_ != 0) (cond (o.kind != 1) (cond (o.kind != 2) (some false) (cond (!(o.s == [])) (cond (o.kind != 3) (some false) (cond (o.kind == 1) ((aS_ n o.n_ 0 1).bind fun xr121=>(some xr121)) (cond (o.kind == 2) ((bk_ n o.n_).bind fun xr122=>(some xr122)) (cond (o.kind == 3) ((as_ n o.s).bind fun xr123=>(some xr123)) (cond (o.kind == 5) (cond ((o.names.length:Int) == (o.list.length:Int)) ((ap_ n o.names).bind fun xr124=>(some xr124)) (some false)) (cond (o.kind == 0) (some true) (some (o.kind == 4)))))))) (cond (o.kind == 1) ((aS_ n o.n_ 0 1).bind fun xr125=>(some xr125)) (cond (o.kind == 2) ((bk_ n o.n_).bind fun xr126=>(some xr126)) (cond (o.kind == 3) ((as_ n o.s).bind fun xr127=>(some xr127)) (cond (o.kind == 5) (cond ((o.names.length:Int) == (o.list.length:Int)) ((ap_ n o.names).bind fun xr128=>(some xr128)) (some false)) (cond (o.kind == 0) (some true) (some (o.kind == 4))))))))) (cond (!(o.s == [])) (cond (o.kind != 3) (some false) (cond (o.kind == 1) ((aS_ n o.n_ 0 1).bind fun xr129=>(some xr129)) (cond (o.kind == 2) ((bk_ n o.n_).bind fun xr130=>(some xr130)) (cond (o.kind == 3) ((as_ n o.s).bind fun xr131=>(some xr131)) (cond (o.kind == 5) (cond ((o.names.length:Int) == (o.list.length:Int)) ((ap_ n o.names).bind fun xr132=>(some xr132)) (some false)) (cond (o.kind == 0) (some true) (some (o.kind == 4)))))))) (cond (o.kind == 1) ((aS_ n o.n_ 0 1).bind fun xr133=>(some xr133)) (cond (o.kind == 2) ((bk_ n o.n_).bind fun xr134=>(some xr134)) (cond (o.kind == 3) ((as_ n o.s).bind fun xr135=>(some xr135)) (cond (o.kind == 5) (cond ((o.names.length:Int) == (o.list.length:Int)) ((ap_ n o.names).bind fun xr136=>(some xr136)) (some false)) (cond (o.kind == 0) (some true) (some (o.kind == 4))))))))) (cond (!(o.s == [])) (cond (o.kind != 3) (some false) (cond (o.kind == 1) ((aS_ n o.n_ 0 1).bind fun xr137=>(some xr137)) (cond (o.kind == 2) ((bk_ n o.n_).bind fun xr138=>(some xr138)) (cond (o.kind == 3) ((as_ n o.s).bind fun xr139=>(some xr139)) (cond (o.kind == 5) (cond ((o.names.length:Int) == (o.list.length:Int)) ((ap_ n o.names).bind fun xr140=>(some xr140)) (some false)) (cond (o.kind == 0) (some true) (some (o.kind == 4)))))))) (cond (o.kind == 1) ((aS_ n o.n_ 0 1).bind fun xr141=>(some xr141)) (cond (o.kind == 2) ((bk_ n o.n_).bind fun xr142=>(some xr142)) (cond (o.kind == 3) ((as_ n o.s).bind fun xr143=>(some xr143)) (cond (o.kind == 5) (cond ((o.names.length:Int) == (o.list.length:Int)) ((ap_ n o.names).bind fun xr144=>(some xr144)) (some false)) (cond (o.kind == 0) (some true) (some (o.kind == 4)))))))))))
def a7_.step7 (n:Nat) (impl_sizeIn_:aa_→Int→Option Int) (k0:Int→Option Int) (back:Int→Int→(List aa_)→Int→Int→Option Int) (deep:Int) (n_1:Int) (t16:List aa_) (t17:Int) (t18:Int):Option Int :=
 (cond (decide (t18<t17)) (inB t18 t16.length ((impl_sizeIn_ (aa_.re (t16.getD t18.toNat aa_.dflt)) (W (deep - 1))).bind fun xr2=>(cond (decide ((W (n_1+xr2)) > 400)) (some 401) (back deep (W (n_1+xr2)) t16 t17 (W (t18+1)))))) (k0 n_1))
def a7_.loop7 (n:Nat) (impl_sizeIn_:aa_→Int→Option Int) (k0:Int→Option Int) (N:Nat):Int→Int→(List aa_)→Int→Int→Option Int :=
 dk_ (fun _ _ _ _ _=>none) (fun back=>a7_.step7 n impl_sizeIn_ k0 back) N
def a7_:Nat→aa_→Int→Option Int
 |0,_,_=>none
 |n+1,j,deep=>
  (cond (decide (deep<1)) (some 401) ((c2_ n (aa_.re j)).bind fun xr1=>(cond (!xr1) (some 401) (a7_.loop7 n (a7_ n) (fun xy3=>(some xy3)) n deep 1 j.list (j.list.length:Int) 0))))
def b0_:Nat→aa_→Option Bool
 |0,_=>none
 |n+1,j=>
  ((a7_ n (aa_.re j) 6).bind fun xr1=>(some (decide (xr1≤400))))
def bi_.step4 (n:Nat) (k0:(List Int)→Option Bs) (back:Bs→Int→Int→(List Int)→Option Bs) (s:Bs) (t7:Int) (t8:Int) (out_1:List Int):Option Bs :=
 (cond (decide (t8<t7)) (inB t8 s.length (cond (((s.getD t8.toNat 0).toNat:Int) == 34) (cF_ (out_1.length+([92]:List Int).length) 1 (inB t8 s.length (cF_ ((out_1++([92]:List Int)).length+([((s.getD t8.toNat 0).toNat:Int)]:List Int).length) 1 (back s t7 (W (t8+1)) ((out_1++([92]:List Int))++([((s.getD t8.toNat 0).toNat:Int)]:List Int)))))) (inB t8 s.length (cond (((s.getD t8.toNat 0).toNat:Int) == 92) (cF_ (out_1.length+([92]:List Int).length) 1 (inB t8 s.length (cF_ ((out_1++([92]:List Int)).length+([((s.getD t8.toNat 0).toNat:Int)]:List Int).length) 1 (back s t7 (W (t8+1)) ((out_1++([92]:List Int))++([((s.getD t8.toNat 0).toNat:Int)]:List Int)))))) (inB t8 s.length (cF_ (out_1.length+([((s.getD t8.toNat 0).toNat:Int)]:List Int).length) 1 (back s t7 (W (t8+1)) (out_1++([((s.getD t8.toNat 0).toNat:Int)]:List Int))))))))) (k0 out_1))
def bi_.loop4 (n:Nat) (k0:(List Int)→Option Bs) (N:Nat):Bs→Int→Int→(List Int)→Option Bs :=
 dk_ (fun _ _ _ _=>none) (fun back=>bi_.step4 n k0 back) N
def bi_:Nat→Bs→Option Bs
 |0,_=>none
 |n+1,s=>
  (bi_.loop4 n (fun xy1=>(cF_ (xy1.length+([34]:List Int).length) 1 (some (fT_ (xy1++([34]:List Int)))))) n s (s.length:Int) 0 ([34]:List Int))
def strconv_Itoa:Nat→Int→Option Bs
 |0,_=>none
 |_+1,i=>nItoa i
def strings_Join:Nat→List Bs→Bs→Option Bs
 |0,_,_=>none
 |_+1,l,s=>nJoin l s
def aX_.step4 (n:Nat) (impl_written_:aa_→Option Bs) (k0:Int→Int→Bs→(List aa_)→(List Bs)→(List Bs)→Option Bs) (back:(List aa_)→Int→Int→Int→Int→Bs→(List aa_)→(List Bs)→(List Bs)→Option Bs) (t9:List aa_) (t10:Int) (t11:Int) (append0:Int) (append1:Int) (append2:Bs) (append3:List aa_) (append4:List Bs) (t3:List Bs):Option Bs :=
 (cond (decide (t11<t10)) (inB t11 t9.length ((impl_written_ (aa_.re (t9.getD t11.toNat aa_.dflt))).bind fun xr1=>(cond (append0 == 5) (inB t11 append4.length ((bi_ n (append4.getD t11.toNat [])).bind fun xr2=>(cond (decide (xr2.length+[58].length≤9223372036854775807)) (cond (decide ((xr2++[58]).length+xr1.length≤9223372036854775807)) (cF_ (t3.length+([((xr2++[58])++xr1)]:List Bs).length) 16 (back t9 t10 (W (t11+1)) append0 append1 append2 append3 append4 (t3++([((xr2++[58])++xr1)]:List Bs)))) none) none))) (cF_ (t3.length+([xr1]:List Bs).length) 16 (back t9 t10 (W (t11+1)) append0 append1 append2 append3 append4 (t3++([xr1]:List Bs))))))) (k0 append0 append1 append2 append3 append4 t3))
def aX_.loop4 (n:Nat) (impl_written_:aa_→Option Bs) (k0:Int→Int→Bs→(List aa_)→(List Bs)→(List Bs)→Option Bs) (N:Nat):(List aa_)→Int→Int→Int→Int→Bs→(List aa_)→(List Bs)→(List Bs)→Option Bs :=
 dk_ (fun _ _ _ _ _ _ _ _ _=>none) (fun back=>aX_.step4 n impl_written_ k0 back) N
def aX_:Nat→aa_→Option Bs
 |0,_=>none
 |n+1,o=>
  (aX_.loop4 n (aX_ n) (fun xy3 xy4 xy5 xy6 xy7 xy8=>(cond (xy3 == 0) (some [110,117,108,108]) (cond (xy3 == 1) (inB xy4 ([[102,97,108,115,101],[116,114,117,101]]:List Bs).length (let xv9:Bs:=(([[102,97,108,115,101],[116,114,117,101]]:List Bs).getD xy4.toNat []);(some xv9))) (cond (xy3 == 2) ((strconv_Itoa n xy4).bind fun xr10=>(some xr10)) (cond (xy3 == 3) ((bi_ n xy5).bind fun xr11=>(some xr11)) (cond (xy3 == 4) ((strings_Join n xy8 [44]).bind fun xr12=>(cond (decide ([91].length+xr12.length≤9223372036854775807)) (cond (decide ((([91]:Bs)++xr12).length+[93].length≤9223372036854775807)) (some ((([91]:Bs)++xr12)++[93])) none) none)) ((strings_Join n xy8 [44]).bind fun xr13=>(cond (decide ([123].length+xr13.length≤9223372036854775807)) (cond (decide ((([123]:Bs)++xr13).length+[125].length≤9223372036854775807)) (some ((([123]:Bs)++xr13)++[125])) none) none)))))))) n o.list (o.list.length:Int) 0 o.kind o.n_ o.s o.list o.names ([]:List Bs))
def ct_:Nat→aa_→Option Bs
 |0,_=>none
 |n+1,j=>
  ((b0_ n (aa_.re j)).bind fun xr1=>(cond (!xr1) (some []) ((aX_ n (aa_.re j)).bind fun xr2=>(cond (decide ((xr2.length:Int) > 6000)) (some []) (some xr2)))))
def cx_:Nat→Bs→Option (aa_ × Bool)
 |0,_=>none
 |n+1,s=>
  (cond (decide ((s.length:Int) > 6000)) (some ((aa_.mk 0 0 [] ([]:List aa_) ([]:List Bs)),false)) ((aN_ n (aV_.mk s false) 6).bind fun xr1=>(cond xr1.2.bad (some ((aa_.mk 0 0 [] ([]:List aa_) ([]:List Bs)),false)) ((ct_ n (aa_.re xr1.1)).bind fun xr2=>(cond (!(xr2 == s)) (some ((aa_.mk 0 0 [] ([]:List aa_) ([]:List Bs)),false)) (some ((aa_.re xr1.1),true)))))))
def al_.step3 (n:Nat) (k0:Option Int) (back:(List Bs)→Bs→Int→Int→Option Int) (s:List Bs) (v:Bs) (t7:Int) (t8:Int):Option Int :=
 (cond (decide (t8<t7)) (inB t8 s.length (cond (v == (s.getD t8.toNat [])) (some t8) (back s v t7 (W (t8+1))))) k0)
def al_.loop3 (n:Nat) (k0:Option Int) (N:Nat):(List Bs)→Bs→Int→Int→Option Int :=
 dk_ (fun _ _ _ _=>none) (fun back=>al_.step3 n k0 back) N
def al_:Nat→(List Bs)→Bs→Option Int
 |0,_,_=>none
 |n+1,s,v=>
  (al_.loop3 n (some (-1)) n s v (s.length:Int) 0)
def bW_:Nat→(List Bs)→Option (List Bs)
 |0,_=>none
 |n+1,l=>
  (cF_ (([]:List Bs).length+l.length) 16 (some (([]:List Bs)++l)))
def aq_.step4 (n:Nat) (impl_copyJson_:aa_→Option aa_) (k0:Int→Int→Bs→Int→Int→Bs→(List aa_)→(List Bs)→Option aa_) (back:(List aa_)→Int→Int→Int→Int→Bs→Int→Int→Bs→(List aa_)→(List Bs)→Option aa_) (t17:List aa_) (t18:Int) (t19:Int) (t20:Int) (t21:Int) (t22:Bs) (out0:Int) (out1:Int) (out2:Bs) (out3:List aa_) (out4:List Bs):Option aa_ :=
 (cond (decide (t19<t18)) (inB t19 t17.length ((impl_copyJson_ (aa_.re (t17.getD t19.toNat aa_.dflt))).bind fun xr2=>(cF_ (out3.length+([(aa_.re xr2)]:List aa_).length) 80 (back t17 t18 (W (t19+1)) t20 t21 t22 out0 out1 out2 (out3++([(aa_.re xr2)]:List aa_)) out4)))) (k0 t20 t21 t22 out0 out1 out2 out3 out4))
def aq_.loop4 (n:Nat) (impl_copyJson_:aa_→Option aa_) (k0:Int→Int→Bs→Int→Int→Bs→(List aa_)→(List Bs)→Option aa_) (N:Nat):(List aa_)→Int→Int→Int→Int→Bs→Int→Int→Bs→(List aa_)→(List Bs)→Option aa_ :=
 dk_ (fun _ _ _ _ _ _ _ _ _ _ _=>none) (fun back=>aq_.step4 n impl_copyJson_ k0 back) N
def aq_:Nat→aa_→Option aa_
 |0,_=>none
 |n+1,j=>
  ((bW_ n j.names).bind fun xr1=>(aq_.loop4 n (aq_ n) (fun xy3 xy4 xy5 xy6 xy7 xy8 xy9 xy10=>(some (aa_.mk xy6 xy7 xy8 xy9 xy10))) n j.list (j.list.length:Int) 0 0 0 [] j.kind j.n_ j.s ([]:List aa_) xr1))
def cW_:Nat→aa_→Bs→Option (aa_ × Bool)
 |0,_,_=>none
 |n+1,j,name=>
  ((al_ n j.names name).bind fun xr1=>((b0_ n (aa_.re j)).bind fun xr2=>(cond (!xr2) (some ((aa_.mk 0 0 [] ([]:List aa_) ([]:List Bs)),false)) (cond (decide (xr1<0)) (some ((aa_.mk 0 0 [] ([]:List aa_) ([]:List Bs)),false)) (inB xr1 j.list.length ((aq_ n (aa_.re (j.list.getD xr1.toNat aa_.dflt))).bind fun xr3=>(some ((aa_.re xr3),true))))))))
def strings_Split:Nat→Bs→Bs→Option (List Bs)
 |0,_,_=>none
 |_+1,s,a=>ov_ s a
def strings_ReplaceAll:Nat→Bs→Bs→Bs→Option Bs
 |0,_,_,_=>none
 |_+1,s,a,b=>fe_ s a b
def a6_.step4 (n:Nat) (k0:Bs→Option Bs) (back:Bs→(List Bs)→Int→Int→Option Bs) (out_1:Bs) (t6:List Bs) (t7:Int) (t8:Int):Option Bs :=
 (cond (decide (t8<t7)) (inB t8 t6.length ((strings_ReplaceAll n (t6.getD t8.toNat []) [126] [126,48]).bind fun xr1=>((strings_ReplaceAll n xr1 [47] [126,49]).bind fun xr2=>(cond (decide ([47].length+xr2.length≤9223372036854775807)) (cond (decide (out_1.length+(([47]:Bs)++xr2).length≤9223372036854775807)) (back (out_1++(([47]:Bs)++xr2)) t6 t7 (W (t8+1))) none) none)))) (k0 out_1))
def a6_.loop4 (n:Nat) (k0:Bs→Option Bs) (N:Nat):Bs→(List Bs)→Int→Int→Option Bs :=
 dk_ (fun _ _ _ _=>none) (fun back=>a6_.step4 n k0 back) N
def a6_:Nat→(List Bs)→Option Bs
 |0,_=>none
 |n+1,way=>
  (a6_.loop4 n (fun xy3=>(some xy3)) n [] way (way.length:Int) 0)
def ba_.step7 (n:Nat) (k0:Bs→(List Bs)→Option ((List Bs) × Bool)) (back:Bs→(List Bs)→Int→Int→(List Bs)→Option ((List Bs) × Bool)) (s:Bs) (t13:List Bs) (t14:Int) (t15:Int) (way:List Bs):Option ((List Bs) × Bool) :=
 (cond (decide (t15<t14)) (inB t15 t13.length ((strings_ReplaceAll n (t13.getD t15.toNat []) [126,49] [47]).bind fun xr2=>((strings_ReplaceAll n xr2 [126,48] [126]).bind fun xr3=>(cF_ (way.length+([xr3]:List Bs).length) 16 (back s t13 t14 (W (t15+1)) (way++([xr3]:List Bs))))))) (k0 s way))
def ba_.loop7 (n:Nat) (k0:Bs→(List Bs)→Option ((List Bs) × Bool)) (N:Nat):Bs→(List Bs)→Int→Int→(List Bs)→Option ((List Bs) × Bool) :=
 dk_ (fun _ _ _ _ _=>none) (fun back=>ba_.step7 n k0 back) N
def ba_:Nat→Bs→Option ((List Bs) × Bool)
 |0,_=>none
 |n+1,s=>
  (cond (s == []) (some (([]:List Bs),true)) ((strings_Split n s [47]).bind fun xr1=>(e9_ 1 (xr1.length:Int) xr1.length (ba_.loop7 n (fun xy4 xy5=>(cond (decide ((xy5.length:Int) > 6)) (some (([]:List Bs),false)) ((a6_ n xy5).bind fun xr6=>(cond (!(xr6 == xy4)) (some (([]:List Bs),false)) (some (xy5,true)))))) n s ((xr1.take ((xr1.length:Int).toNat)).drop 1) ((((xr1.length:Int).toNat) - 1:Nat):Int) 0 ([]:List Bs)))))
def cf_:Nat→Unit→Option (List Bs)
 |0,_=>none
 |n+1,_u=>
  (some ([[97,100,100],[114,101,109,111,118,101],[114,101,112,108,97,99,101],[116,101,115,116]]:List Bs))
def cG_:Nat→aa_→Option Bool
 |0,_=>none
 |n+1,j=>
  (cond (j.kind == 0) (cond (j.n_ == 0) (cond (j.s == []) (cond ((j.list.length:Int) == 0) (some ((j.names.length:Int) == 0)) (some false)) (some false)) (some false)) (some false))
def bH_.step3 (n:Nat) (k0:Int→(List Bs)→Int→Int→Bs→(List aa_)→(List Bs)→Option Bool) (back:(List Bs)→Int→Int→Int→(List Bs)→Int→Int→Bs→(List aa_)→(List Bs)→Option Bool) (t6:List Bs) (t7:Int) (t8:Int) (o0:Int) (o1:List Bs) (o2:Int) (o3:Int) (o4:Bs) (o5:List aa_) (o6:List Bs):Option Bool :=
 (cond (decide (t8<t7)) (inB t8 t6.length ((as_ n (t6.getD t8.toNat [])).bind fun xr1=>(cond (!xr1) (some false) (back t6 t7 (W (t8+1)) o0 o1 o2 o3 o4 o5 o6)))) (k0 o0 o1 o2 o3 o4 o5 o6))
def bH_.loop3 (n:Nat) (k0:Int→(List Bs)→Int→Int→Bs→(List aa_)→(List Bs)→Option Bool) (N:Nat):(List Bs)→Int→Int→Int→(List Bs)→Int→Int→Bs→(List aa_)→(List Bs)→Option Bool :=
 dk_ (fun _ _ _ _ _ _ _ _ _ _=>none) (fun back=>bH_.step3 n k0 back) N
def bH_:Nat→TOp→Option Bool
 |0,_=>none
 |n+1,o=>
  (bH_.loop3 n (fun xy2 xy3 xy4 xy5 xy6 xy7 xy8=>((aS_ n xy2 1 4).bind fun xr9=>(cond xr9 (cond (decide ((xy3.length:Int)≤6)) ((b0_ n (aa_.mk xy4 xy5 xy6 xy7 xy8)).bind fun xr10=>(cond xr10 (cond (xy2 != 2) (some true) ((cG_ n (aa_.mk xy4 xy5 xy6 xy7 xy8)).bind fun xr11=>(some xr11))) (some false))) (some false)) (some false)))) n o.way (o.way.length:Int) 0 o.kind o.way o.value.kind o.value.n_ o.value.s o.value.list o.value.names)
def cK_:Nat→aa_→Option aa_
 |0,_=>none
 |n+1,j=>
  ((b0_ n (aa_.re j)).bind fun xr1=>(cond (!xr1) (some (aa_.mk 0 0 [] ([]:List aa_) ([]:List Bs))) (some (aa_.re j))))
def cM_:Nat→TOp→Option aa_
 |0,_=>none
 |n+1,o=>
  ((bH_ n (TOp.mk o.kind o.way (aa_.re o.value))).bind fun xr1=>(cond (!xr1) (some (aa_.mk 0 0 [] ([]:List aa_) ([]:List Bs))) ((cf_ n ()).bind fun xr2=>(inB (W (o.kind - 1)) xr2.length ((a6_ n o.way).bind fun xr3=>(cond (o.kind != 2) (cF_ (([[111,112],[112,97,116,104]]:List Bs).length+([[118,97,108,117,101]]:List Bs).length) 16 ((aq_ n (aa_.re o.value)).bind fun xr4=>(cF_ (([(aa_.mk 3 0 (xr2.getD ((W (o.kind - 1)).toNat) []) [] []),(aa_.mk 3 0 xr3 [] [])]:List aa_).length+([(aa_.re xr4)]:List aa_).length) 80 ((cK_ n (aa_.mk 5 0 [] (([(aa_.mk 3 0 (xr2.getD ((W (o.kind - 1)).toNat) []) [] []),(aa_.mk 3 0 xr3 [] [])]:List aa_)++([(aa_.re xr4)]:List aa_)) (([[111,112],[112,97,116,104]]:List Bs)++([[118,97,108,117,101]]:List Bs)))).bind fun xr5=>(some (aa_.re xr5)))))) ((cK_ n (aa_.mk 5 0 [] ([(aa_.mk 3 0 (xr2.getD ((W (o.kind - 1)).toNat) []) [] []),(aa_.mk 3 0 xr3 [] [])]:List aa_) ([[111,112],[112,97,116,104]]:List Bs))).bind fun xr6=>(some (aa_.re xr6)))))))))
def am_.step6 (n:Nat) (k0:Option Bool) (back:(List Bs)→(List Bs)→Int→Int→Option Bool) (s1:List Bs) (s2:List Bs) (t12:Int) (t13:Int):Option Bool :=
 (cond (decide (t13<t12)) (inB t13 s1.length (inB t13 s2.length (cond (!((s1.getD t13.toNat []) == (s2.getD t13.toNat []))) (some false) (back s1 s2 t12 (W (t13+1)))))) k0)
def am_.loop6 (n:Nat) (k0:Option Bool) (N:Nat):(List Bs)→(List Bs)→Int→Int→Option Bool :=
 dk_ (fun _ _ _ _=>none) (fun back=>am_.step6 n k0 back) N
def am_:Nat→(List Bs)→(List Bs)→Option Bool
 |0,_,_=>none
 |n+1,s1,s2=>
  (cond ((s1.length:Int) != (s2.length:Int)) (some false) (am_.loop6 n (some true) n s1 s2 (s1.length:Int) 0))
def ab_.step6 (n:Nat) (impl_alike_:aa_→aa_→Option Bool) (k0:Option Bool) (back:(List aa_)→(List aa_)→Int→Int→Option Bool) (s2:List aa_) (t15:List aa_) (t16:Int) (t17:Int):Option Bool :=
 (cond (decide (t17<t16)) (inB t17 t15.length (inB t17 s2.length ((impl_alike_ (aa_.re (t15.getD t17.toNat aa_.dflt)) (aa_.re (s2.getD t17.toNat aa_.dflt))).bind fun xr1=>(cond (!xr1) (some false) (back s2 t15 t16 (W (t17+1))))))) k0)
def ab_.loop6 (n:Nat) (impl_alike_:aa_→aa_→Option Bool) (k0:Option Bool) (N:Nat):(List aa_)→(List aa_)→Int→Int→Option Bool :=
 dk_ (fun _ _ _ _=>none) (fun back=>ab_.step6 n impl_alike_ k0 back) N
mutual
def cC_:Nat→aa_→aa_→Option Bool
 |0,_,_=>none
 |n+1,a,b=>
  (cond (a.kind == b.kind) (cond (a.n_ == b.n_) (cond (a.s == b.s) ((am_ n a.names b.names).bind fun xr1=>(cond xr1 ((ab_ n a.list b.list).bind fun xr2=>(some xr2)) (some false))) (some false)) (some false)) (some false))
def ab_:Nat→(List aa_)→(List aa_)→Option Bool
 |0,_,_=>none
 |n+1,s1,s2=>
  (cond ((s1.length:Int) != (s2.length:Int)) (some false) (ab_.loop6 n (cC_ n) (some true) n s2 s1 (s1.length:Int) 0))
end
def cl_:Nat→aa_→aa_→Option Bool
 |0,_,_=>none
 |n+1,a,b=>
  ((b0_ n (aa_.re a)).bind fun xr1=>(cond xr1 ((b0_ n (aa_.re b)).bind fun xr2=>(cond xr2 ((cC_ n (aa_.re a) (aa_.re b)).bind fun xr3=>(some xr3)) (some false))) (some false)))
def cH_:Nat→aa_→Option (TOp × Bool)
 |0,_=>none
 |n+1,o=>
  ((cW_ n (aa_.re o) [111,112]).bind fun xr1=>((cW_ n (aa_.re o) [112,97,116,104]).bind fun xr2=>((cW_ n (aa_.re o) [118,97,108,117,101]).bind fun xr3=>((ba_ n xr2.1.s).bind fun xr4=>((cf_ n ()).bind fun xr5=>((al_ n xr5 xr1.1.s).bind fun xr6=>(cond (!xr1.2) (some ((TOp.mk 0 ([]:List Bs) (aa_.mk 0 0 [] ([]:List aa_) ([]:List Bs))),false)) (cond (!xr2.2) (some ((TOp.mk 0 ([]:List Bs) (aa_.mk 0 0 [] ([]:List aa_) ([]:List Bs))),false)) (cond (!xr4.2) (some ((TOp.mk 0 ([]:List Bs) (aa_.mk 0 0 [] ([]:List aa_) ([]:List Bs))),false)) ((bH_ n (TOp.mk (W (1+xr6)) xr4.1 (aa_.re xr3.1))).bind fun xr7=>(cond (!xr7) (some ((TOp.mk 0 ([]:List Bs) (aa_.mk 0 0 [] ([]:List aa_) ([]:List Bs))),false)) ((cM_ n (TOp.mk (W (1+xr6)) xr4.1 (aa_.re xr3.1))).bind fun xr8=>((cl_ n (aa_.re xr8) (aa_.re o)).bind fun xr9=>(cond (!xr9) (some ((TOp.mk 0 ([]:List Bs) (aa_.mk 0 0 [] ([]:List aa_) ([]:List Bs))),false)) (some ((TOp.mk (W (1+xr6)) xr4.1 (aa_.re xr3.1)),true))))))))))))))))
def bo_.step4 (n:Nat) (k0:Int→Int→Bs→(List aa_)→(List Bs)→(List TOp)→Option ((List TOp) × Bool)) (back:(List aa_)→Int→Int→Int→Int→Bs→(List aa_)→(List Bs)→(List TOp)→Option ((List TOp) × Bool)) (t11:List aa_) (t12:Int) (t13:Int) (j0:Int) (j1:Int) (j2:Bs) (j3:List aa_) (j4:List Bs) (ops:List TOp):Option ((List TOp) × Bool) :=
 (cond (decide (t13<t12)) (inB t13 t11.length ((cH_ n (aa_.re (t11.getD t13.toNat aa_.dflt))).bind fun xr1=>(cond (!xr1.2) (some (([]:List TOp),false)) (cF_ (ops.length+([{ xr1.1 with value:=(aa_.re xr1.1.value) }]:List TOp).length) 112 (back t11 t12 (W (t13+1)) j0 j1 j2 j3 j4 (ops++([{ xr1.1 with value:=(aa_.re xr1.1.value) }]:List TOp))))))) (k0 j0 j1 j2 j3 j4 ops))
def bo_.loop4 (n:Nat) (k0:Int→Int→Bs→(List aa_)→(List Bs)→(List TOp)→Option ((List TOp) × Bool)) (N:Nat):(List aa_)→Int→Int→Int→Int→Bs→(List aa_)→(List Bs)→(List TOp)→Option ((List TOp) × Bool) :=
 dk_ (fun _ _ _ _ _ _ _ _ _=>none) (fun back=>bo_.step4 n k0 back) N
def bo_:Nat→aa_→Option ((List TOp) × Bool)
 |0,_=>none
 |n+1,j=>
  (bo_.loop4 n (fun xy2 xy3 xy4 xy5 xy6 xy7=>(some (xy7,(xy2 == 4)))) n j.list (j.list.length:Int) 0 j.kind j.n_ j.s j.list j.names ([]:List TOp))
def cg_:Nat→Bs→Option aM_
 |0,_=>none
 |n+1,o=>
  ((bx_ n o [101,118,101,110,116,58,32,115,110,97,112,10]).bind fun xr1=>(cond xr1.2 ((cB_ n xr1.1 [105,100,58,32]).bind fun xr2=>((cB_ n xr2.2 [100,97,116,97,58,32]).bind fun xr3=>((b4_ n xr2.1).bind fun xr4=>((cx_ n xr3.1).bind fun xr5=>(some (aM_.mk 1 xr4.1 0 (aa_.re xr5.1) ([]:List TOp))))))) ((bs_ n o [101,118,101,110,116,58,32,112,97,116,99,104,10]).bind fun xr6=>((cB_ n xr6 [105,100,58,32]).bind fun xr7=>((cB_ n xr7.2 [98,97,115,101,58,32]).bind fun xr8=>((cB_ n xr8.2 [100,97,116,97,58,32]).bind fun xr9=>((b4_ n xr7.1).bind fun xr10=>((b4_ n xr8.1).bind fun xr11=>((cx_ n xr9.1).bind fun xr12=>((bo_ n (aa_.re xr12.1)).bind fun xr13=>(some (aM_.mk 2 xr10.1 xr11.1 (aa_.mk 0 0 [] ([]:List aa_) ([]:List Bs)) xr13.1))))))))))))
def bX_:Nat→Int→Option Bool
 |0,_=>none
 |n+1,n1=>
  ((aS_ n n1 0 100000).bind fun xr1=>(some xr1))
def a2_.step4 (n:Nat) (k0:Int→Int→Bs→Int→Int→Bs→(List aa_)→Option (aa_ × Bool)) (back:(List TOp)→Int→Int→Int→Int→Bs→Int→Int→Bs→(List aa_)→Option (aa_ × Bool)) (t9:List TOp) (t10:Int) (t11:Int) (t20:Int) (t21:Int) (t22:Bs) (j0:Int) (j1:Int) (j2:Bs) (j3:List aa_):Option (aa_ × Bool) :=
 (cond (decide (t11<t10)) (inB t11 t9.length ((cM_ n { (t9.getD t11.toNat TOp.dflt) with value:=(aa_.re ((t9.getD t11.toNat TOp.dflt).value)) }).bind fun xr1=>(cond (xr1.kind == 0) (some ((aa_.mk 0 0 [] ([]:List aa_) ([]:List Bs)),false)) (cF_ (j3.length+([(aa_.re xr1)]:List aa_).length) 80 (back t9 t10 (W (t11+1)) t20 t21 t22 j0 j1 j2 (j3++([(aa_.re xr1)]:List aa_))))))) (k0 t20 t21 t22 j0 j1 j2 j3))
def a2_.loop4 (n:Nat) (k0:Int→Int→Bs→Int→Int→Bs→(List aa_)→Option (aa_ × Bool)) (N:Nat):(List TOp)→Int→Int→Int→Int→Bs→Int→Int→Bs→(List aa_)→Option (aa_ × Bool) :=
 dk_ (fun _ _ _ _ _ _ _ _ _ _=>none) (fun back=>a2_.step4 n k0 back) N
def a2_:Nat→(List TOp)→Option (aa_ × Bool)
 |0,_=>none
 |n+1,list=>
  (a2_.loop4 n (fun xy2 xy3 xy4 xy5 xy6 xy7 xy8=>(some ((aa_.mk xy5 xy6 xy7 xy8 ([]:List Bs)),true))) n list (list.length:Int) 0 0 0 [] 4 0 [] ([]:List aa_))
def b2_:Nat→(List TOp)→Option Int
 |0,_=>none
 |n+1,list=>
  ((a2_ n list).bind fun xr1=>((ct_ n (aa_.re xr1.1)).bind fun xr2=>(cond (!xr1.2) (some (-1)) (cond (xr2 == []) (some (-1)) (some (xr2.length:Int))))))
def cs_:Nat→aM_→Option Bool
 |0,_=>none
 |n+1,e=>
  (cond (e.kind == 1) ((bX_ n e.version).bind fun xr1=>(cond xr1 (cond (e.base == 0) ((ct_ n (aa_.re e.doc)).bind fun xr2=>(cond (!(xr2 == [])) (some ((e.ops.length:Int) == 0)) (some false))) (some false)) (some false))) (cond (e.kind == 2) ((bX_ n e.version).bind fun xr3=>(cond xr3 ((aS_ n e.base 0 (W (e.version - 1))).bind fun xr4=>(cond xr4 ((cG_ n (aa_.re e.doc)).bind fun xr5=>(cond xr5 (cond (decide ((e.ops.length:Int)≤40)) ((b2_ n e.ops).bind fun xr6=>(some (decide (xr6≥0)))) (some false)) (some false))) (some false))) (some false))) (some false)))
def cL_:Nat→Int→Option Bs
 |0,_=>none
 |n+1,n1=>
  ((strconv_Itoa n n1).bind fun xr1=>(some xr1))
def b3_:Nat→aM_→Option Bs
 |0,_=>none
 |n+1,e=>
  ((cs_ n { e with doc:=(aa_.re e.doc) }).bind fun xr1=>(cond (!xr1) (some []) ((cL_ n e.version).bind fun xr2=>(cond (decide ([105,100,58,32].length+xr2.length≤9223372036854775807)) (cond (decide ((([105,100,58,32]:Bs)++xr2).length+[10].length≤9223372036854775807)) (cond (e.kind == 1) (cond (decide ([101,118,101,110,116,58,32,115,110,97,112,10].length+((([105,100,58,32]:Bs)++xr2)++[10]).length≤9223372036854775807)) (let xv3:Bs:=(([101,118,101,110,116,58,32,115,110,97,112,10]:Bs)++((([105,100,58,32]:Bs)++xr2)++[10]));(cond (decide (xv3.length+[100,97,116,97,58,32].length≤9223372036854775807)) ((ct_ n (aa_.re e.doc)).bind fun xr4=>(cond (decide ((xv3++[100,97,116,97,58,32]).length+xr4.length≤9223372036854775807)) (cond (decide (((xv3++[100,97,116,97,58,32])++xr4).length+[10,10].length≤9223372036854775807)) (some (((xv3++[100,97,116,97,58,32])++xr4)++[10,10])) none) none)) none)) none) ((a2_ n e.ops).bind fun xr5=>(cond (decide ([101,118,101,110,116,58,32,112,97,116,99,104,10].length+((([105,100,58,32]:Bs)++xr2)++[10]).length≤9223372036854775807)) (let xv6:Bs:=(([101,118,101,110,116,58,32,112,97,116,99,104,10]:Bs)++((([105,100,58,32]:Bs)++xr2)++[10]));(cond (decide (xv6.length+[98,97,115,101,58,32].length≤9223372036854775807)) ((cL_ n e.base).bind fun xr7=>(cond (decide ((xv6++[98,97,115,101,58,32]).length+xr7.length≤9223372036854775807)) (cond (decide (((xv6++[98,97,115,101,58,32])++xr7).length+[10,100,97,116,97,58,32].length≤9223372036854775807)) (let xv8:Bs:=(((xv6++[98,97,115,101,58,32])++xr7)++[10,100,97,116,97,58,32]);((ct_ n (aa_.re xr5.1)).bind fun xr9=>(cond (decide (xv8.length+xr9.length≤9223372036854775807)) (cond (decide ((xv8++xr9).length+[10,10].length≤9223372036854775807)) (some ((xv8++xr9)++[10,10])) none) none))) none) none)) none)) none))) none) none))))
def bP_:Nat→Bs→Option (aM_ × Bool)
 |0,_=>none
 |n+1,text=>
  ((cg_ n text).bind fun xr1=>((b3_ n { xr1 with doc:=(aa_.re xr1.doc) }).bind fun xr2=>(cond (xr2 == []) (some ((aM_.mk 0 0 0 (aa_.mk 0 0 [] ([]:List aa_) ([]:List Bs)) ([]:List TOp)),false)) (cond (!(xr2 == text)) (some ((aM_.mk 0 0 0 (aa_.mk 0 0 [] ([]:List aa_) ([]:List Bs)) ([]:List TOp)),false)) (some ({ xr1 with doc:=(aa_.re xr1.doc) },true))))))
def bt_.step5 (n:Nat) (k0:Bs→Bool→Bs→Bool→(List aM_)→Option (a1_ × (List aM_))) (back:Bs→Bool→Bs→Bool→(List aM_)→Option (a1_ × (List aM_))) (wait:Bs) (bad:Bool) (t40:Bs) (t41:Bool) (events:List aM_):Option (a1_ × (List aM_)) :=
 (cond (!bad) ((strings_Index n wait [10,10]).bind fun xr1=>(cond (decide (xr1<0)) (k0 wait (decide ((wait.length:Int) > 14000)) t40 t41 events) (e9_ 0 (W (xr1+2)) wait.length ((bP_ n ((wait.take (W (xr1+2)).toNat).drop 0)).bind fun xr2=>(cond (!xr2.2) (k0 wait true t40 t41 events) (cF_ (events.length+([{ xr2.1 with doc:=(aa_.re xr2.1.doc) }]:List aM_).length) 128 (e9_ (W (xr1+2)) (wait.length:Int) wait.length (back ((wait.take (wait.length:Int).toNat).drop (W (xr1+2)).toNat) bad t40 t41 (events++([{ xr2.1 with doc:=(aa_.re xr2.1.doc) }]:List aM_)))))))))) (k0 wait bad t40 t41 events))
def bt_.loop5 (n:Nat) (k0:Bs→Bool→Bs→Bool→(List aM_)→Option (a1_ × (List aM_))) (N:Nat):Bs→Bool→Bs→Bool→(List aM_)→Option (a1_ × (List aM_)) :=
 dk_ (fun _ _ _ _ _=>none) (fun back=>bt_.step5 n k0 back) N
def bt_:Nat→a1_→Bs→Option (a1_ × (List aM_))
 |0,_,_=>none
 |n+1,s,ly_=>
  (cond (decide (s.wait.length+ly_.length≤9223372036854775807)) (bt_.loop5 n (fun xy3 xy4 xy5 xy6 xy7=>(cond xy4 (some ((a1_.mk [] true),xy7)) (some ((a1_.mk xy3 false),xy7)))) n (s.wait++ly_) s.bad [] false ([]:List aM_)) none)
def bU_:Nat→aL_→Option aL_
 |0,_=>none
 |n+1,c=>
  ((aq_ n (aa_.re c.doc)).bind fun xr1=>(some { c with doc:=(aa_.re xr1) }))
def c1_:Nat→aa_→TOp→Option (aa_ × Bool)
 |0,_,_=>none
 |n+1,j,o=>
  (cond (o.kind == 1) (cond (o.kind == 1) ((aq_ n (aa_.re o.value)).bind fun xr1=>(some ((aa_.re xr1),true))) (cond (o.kind == 4) ((cC_ n (aa_.re j) (aa_.re o.value)).bind fun xr2=>(some ((aa_.re j),xr2))) (some ((aa_.mk 0 0 [] ([]:List aa_) ([]:List Bs)),false)))) (cond (o.kind == 3) ((aq_ n (aa_.re o.value)).bind fun xr3=>(some ((aa_.re xr3),true))) (cond (o.kind == 4) ((cC_ n (aa_.re j) (aa_.re o.value)).bind fun xr4=>(some ((aa_.re j),xr4))) (some ((aa_.mk 0 0 [] ([]:List aa_) ([]:List Bs)),false)))))
def bz_:Nat→Bs→Option Bool
 |0,_=>none
 |n+1,x=>
  (some (!(x == x)))
def bL_:Nat→Bs→Bs→Option Bool
 |0,_,_=>none
 |n+1,x,y=>
  ((bz_ n x).bind fun xr1=>(cond xr1 ((bz_ n y).bind fun xr2=>(cond (!xr2) (some true) (some (Op.bytesLess x y)))) (some (Op.bytesLess x y))))
def bg_:Nat→Bs→Option Bool
 |0,_=>none
 |n+1,x=>
  (some (!(x == x)))
def ad_.step4 (n:Nat) (k0:(List Bs)→Bs→Int→Int→Option (Int × Bool)) (back:(List Bs)→Bs→Int→Int→Int→Option (Int × Bool)) (x:List Bs) (target:Bs) (n_1:Int) (i:Int) (j:Int):Option (Int × Bool) :=
 (cond (decide (i<j)) (let xv1:Int:=(Int.fdiv (IntKind.u64.wrap ((W (i+j)))) (2 ^ min (1:Int).toNat (IntKind.bits .u64)));(inB (W (xv1)) x.length ((bL_ n (x.getD (W (xv1)).toNat []) target).bind fun xr2=>(cond xr2 (back x target n_1 (W ((W (xv1))+1)) j) (back x target n_1 i (W (xv1))))))) (k0 x target n_1 i))
def ad_.loop4 (n:Nat) (k0:(List Bs)→Bs→Int→Int→Option (Int × Bool)) (N:Nat):(List Bs)→Bs→Int→Int→Int→Option (Int × Bool) :=
 dk_ (fun _ _ _ _ _=>none) (fun back=>ad_.step4 n k0 back) N
def ad_:Nat→(List Bs)→Bs→Option (Int × Bool)
 |0,_,_=>none
 |n+1,x,target=>
  (ad_.loop4 n (fun xy3 xy4 xy5 xy6=>(cond (decide (xy6<xy5)) (inB xy6 xy3.length (cond ((xy3.getD xy6.toNat []) == xy4) (some (xy6,true)) (inB xy6 xy3.length ((bg_ n (xy3.getD xy6.toNat [])).bind fun xr7=>(cond xr7 ((bg_ n xy4).bind fun xr8=>(some (xy6,xr8))) (some (xy6,false))))))) (some (xy6,false)))) n x target (x.length:Int) 0 (x.length:Int))
def bv_:Nat→List Bs→Int→List Bs→Option (List Bs)
 |0,_,_,_=>none
 |_+1,s,i,v=>iB_ 16 s i v
def bA_:Nat→List aa_→Int→List aa_→Option (List aa_)
 |0,_,_,_=>none
 |_+1,s,i,v=>iB_ 80 s i v
def cr_:Nat→Bs→Option Int
 |0,_=>none
 |n+1,s=>
  ((b4_ n s).bind fun xr1=>(cond (!xr1.2) (some (-1)) ((aS_ n xr1.1 0 999).bind fun xr2=>(cond (!xr2) (some (-1)) ((strconv_Itoa n xr1.1).bind fun xr3=>(cond (!(xr3 == s)) (some (-1)) (some xr1.1)))))))
def cA_:Nat→aa_→Bs→aa_→Option (aa_ × Bool)
 |0,_,_,_=>none
 |n+1,o,append,a2=>
  (cond (o.kind == 5) ((ad_ n o.names append).bind fun xr1=>(cond xr1.2 (inB xr1.1 o.list.length (let xa2:List aa_:=o.list.set xr1.1.toNat (aa_.re a2);(some ((aa_.mk o.kind o.n_ o.s xa2 o.names),true)))) ((bv_ n o.names xr1.1 ([append]:List Bs)).bind fun xr3=>((bA_ n o.list xr1.1 ([(aa_.re a2)]:List aa_)).bind fun xr4=>(some ((aa_.mk o.kind o.n_ o.s xr4 xr3),true)))))) (cond (o.kind == 4) ((cr_ n append).bind fun xr5=>(cond (append == [45]) ((aS_ n (o.list.length:Int) 0 (o.list.length:Int)).bind fun xr6=>(cond (!xr6) (some ((aa_.mk 0 0 [] ([]:List aa_) ([]:List Bs)),false)) ((bA_ n o.list (o.list.length:Int) ([(aa_.re a2)]:List aa_)).bind fun xr7=>(some ((aa_.mk o.kind o.n_ o.s xr7 o.names),true))))) ((aS_ n xr5 0 (o.list.length:Int)).bind fun xr8=>(cond (!xr8) (some ((aa_.mk 0 0 [] ([]:List aa_) ([]:List Bs)),false)) ((bA_ n o.list xr5 ([(aa_.re a2)]:List aa_)).bind fun xr9=>(some ((aa_.mk o.kind o.n_ o.s xr9 o.names),true))))))) (some ((aa_.mk 0 0 [] ([]:List aa_) ([]:List Bs)),false))))
def cq_:Nat→aa_→Bs→Option Int
 |0,_,_=>none
 |n+1,j,text=>
  (cond (j.kind == 5) ((al_ n j.names text).bind fun xr1=>(cond (decide (xr1≥(j.list.length:Int))) (some (-1)) (some xr1))) (cond (j.kind == 4) ((cr_ n text).bind fun xr2=>(cond (decide (xr2≥(j.list.length:Int))) (some (-1)) (some xr2))) (cond (decide ((-1:Int)≥(j.list.length:Int))) (some (-1)) (some (-1)))))
def bK_:Nat→List aa_→Int→Int→Option (List aa_)
 |0,_,_,_=>none
 |_+1,s,i,j=>iC_ s i j
def bw_:Nat→List Bs→Int→Int→Option (List Bs)
 |0,_,_,_=>none
 |_+1,s,i,j=>iC_ s i j
def ca_:Nat→aa_→Int→Option aa_
 |0,_,_=>none
 |n+1,j,at1=>
  ((bK_ n j.list at1 (W (at1+1))).bind fun xr1=>(cond (j.kind == 5) ((bw_ n j.names at1 (W (at1+1))).bind fun xr2=>(some (aa_.mk j.kind j.n_ j.s xr1 xr2))) (some (aa_.mk j.kind j.n_ j.s xr1 j.names))))
def bY_:Nat→aa_→(List Bs)→TOp→Option (aa_ × Bool)
 |0,_,_,_=>none
 |n+1,o,append,a2=>
  (cond ((append.length:Int) == 0) ((c1_ n (aa_.re o) (TOp.mk a2.kind a2.way (aa_.re a2.value))).bind fun xr1=>(some ((aa_.re xr1.1),xr1.2))) (cond ((append.length:Int) == 1) (cond (a2.kind == 1) (inB 0 append.length ((aq_ n (aa_.re a2.value)).bind fun xr2=>((cA_ n (aa_.re o) (append.getD 0 []) (aa_.re xr2)).bind fun xr3=>(some ((aa_.re xr3.1),xr3.2))))) (inB 0 append.length ((cq_ n (aa_.re o) (append.getD 0 [])).bind fun xr4=>(cond (decide (xr4<0)) (some ((aa_.mk 0 0 [] ([]:List aa_) ([]:List Bs)),false)) (cond ((append.length:Int) == 1) (cond (a2.kind == 2) ((ca_ n (aa_.re o) xr4).bind fun xr5=>(some ((aa_.re xr5),true))) (inB xr4 o.list.length (e9_ 1 (append.length:Int) append.length (cond (Nat.beq xr4.toNat xr4.toNat) (cond (Nat.beq xr4.toNat xr4.toNat) ((bY_ n (aa_.re (o.list.getD xr4.toNat aa_.dflt)) ((append.take (append.length:Int).toNat).drop 1) (TOp.mk a2.kind a2.way (aa_.re a2.value))).bind fun xr6=>(cond (!xr6.2) (some ((aa_.mk 0 0 [] ([]:List aa_) ([]:List Bs)),false)) (inB xr4 o.list.length (cond (Nat.beq xr4.toNat xr4.toNat) (let xa7:List aa_:=o.list.set xr4.toNat (aa_.re xr6.1);(some ((aa_.mk o.kind o.n_ o.s xa7 o.names),true))) none)))) none) none)))) (inB xr4 o.list.length (e9_ 1 (append.length:Int) append.length (cond (Nat.beq xr4.toNat xr4.toNat) (cond (Nat.beq xr4.toNat xr4.toNat) ((bY_ n (aa_.re (o.list.getD xr4.toNat aa_.dflt)) ((append.take (append.length:Int).toNat).drop 1) (TOp.mk a2.kind a2.way (aa_.re a2.value))).bind fun xr8=>(cond (!xr8.2) (some ((aa_.mk 0 0 [] ([]:List aa_) ([]:List Bs)),false)) (inB xr4 o.list.length (cond (Nat.beq xr4.toNat xr4.toNat) (let xa9:List aa_:=o.list.set xr4.toNat (aa_.re xr8.1);(some ((aa_.mk o.kind o.n_ o.s xa9 o.names),true))) none)))) none) none)))))))) (inB 0 append.length ((cq_ n (aa_.re o) (append.getD 0 [])).bind fun xr10=>(cond (decide (xr10<0)) (some ((aa_.mk 0 0 [] ([]:List aa_) ([]:List Bs)),false)) (cond ((append.length:Int) == 1) (cond (a2.kind == 2) ((ca_ n (aa_.re o) xr10).bind fun xr11=>(some ((aa_.re xr11),true))) (inB xr10 o.list.length (e9_ 1 (append.length:Int) append.length (cond (Nat.beq xr10.toNat xr10.toNat) (cond (Nat.beq xr10.toNat xr10.toNat) ((bY_ n (aa_.re (o.list.getD xr10.toNat aa_.dflt)) ((append.take (append.length:Int).toNat).drop 1) (TOp.mk a2.kind a2.way (aa_.re a2.value))).bind fun xr12=>(cond (!xr12.2) (some ((aa_.mk 0 0 [] ([]:List aa_) ([]:List Bs)),false)) (inB xr10 o.list.length (cond (Nat.beq xr10.toNat xr10.toNat) (let xa13:List aa_:=o.list.set xr10.toNat (aa_.re xr12.1);(some ((aa_.mk o.kind o.n_ o.s xa13 o.names),true))) none)))) none) none)))) (inB xr10 o.list.length (e9_ 1 (append.length:Int) append.length (cond (Nat.beq xr10.toNat xr10.toNat) (cond (Nat.beq xr10.toNat xr10.toNat) ((bY_ n (aa_.re (o.list.getD xr10.toNat aa_.dflt)) ((append.take (append.length:Int).toNat).drop 1) (TOp.mk a2.kind a2.way (aa_.re a2.value))).bind fun xr14=>(cond (!xr14.2) (some ((aa_.mk 0 0 [] ([]:List aa_) ([]:List Bs)),false)) (inB xr10 o.list.length (cond (Nat.beq xr10.toNat xr10.toNat) (let xa15:List aa_:=o.list.set xr10.toNat (aa_.re xr14.1);(some ((aa_.mk o.kind o.n_ o.s xa15 o.names),true))) none)))) none) none)))))))))
def c3_:Nat→aa_→TOp→Option (aa_ × Bool)
 |0,_,_=>none
 |n+1,j,o=>
  ((b0_ n (aa_.re j)).bind fun xr1=>(cond (!xr1) (some ((aa_.mk 0 0 [] ([]:List aa_) ([]:List Bs)),false)) ((bH_ n (TOp.mk o.kind o.way (aa_.re o.value))).bind fun xr2=>(cond (!xr2) (some ((aa_.mk 0 0 [] ([]:List aa_) ([]:List Bs)),false)) ((aq_ n (aa_.re j)).bind fun xr3=>((bY_ n (aa_.re xr3) o.way (TOp.mk o.kind o.way (aa_.re o.value))).bind fun xr4=>(cond (!xr4.2) (some ((aa_.mk 0 0 [] ([]:List aa_) ([]:List Bs)),false)) ((b0_ n (aa_.re xr4.1)).bind fun xr5=>(cond (!xr5) (some ((aa_.mk 0 0 [] ([]:List aa_) ([]:List Bs)),false)) (some ((aa_.re xr4.1),true)))))))))))
def aZ_.step7 (n:Nat) (k0:Int→Int→Bs→Int→Int→Bs→(List aa_)→(List Bs)→Option (aa_ × Bool)) (back:(List TOp)→Int→Int→Int→Int→Bs→Int→Int→Bs→(List aa_)→(List Bs)→Option (aa_ × Bool)) (t22:List TOp) (t23:Int) (t24:Int) (t40:Int) (t41:Int) (t42:Bs) (out0:Int) (out1:Int) (out2:Bs) (out3:List aa_) (out4:List Bs):Option (aa_ × Bool) :=
 (cond (decide (t24<t23)) (inB t24 t22.length ((c3_ n (aa_.mk out0 out1 out2 out3 out4) { (t22.getD t24.toNat TOp.dflt) with value:=(aa_.re ((t22.getD t24.toNat TOp.dflt).value)) }).bind fun xr3=>(cond (!xr3.2) (some ((aa_.mk 0 0 [] ([]:List aa_) ([]:List Bs)),false)) (back t22 t23 (W (t24+1)) t40 t41 t42 xr3.1.kind xr3.1.n_ xr3.1.s xr3.1.list xr3.1.names)))) (k0 t40 t41 t42 out0 out1 out2 out3 out4))
def aZ_.loop7 (n:Nat) (k0:Int→Int→Bs→Int→Int→Bs→(List aa_)→(List Bs)→Option (aa_ × Bool)) (N:Nat):(List TOp)→Int→Int→Int→Int→Bs→Int→Int→Bs→(List aa_)→(List Bs)→Option (aa_ × Bool) :=
 dk_ (fun _ _ _ _ _ _ _ _ _ _ _=>none) (fun back=>aZ_.step7 n k0 back) N
def aZ_:Nat→aa_→(List TOp)→Option (aa_ × Bool)
 |0,_,_=>none
 |n+1,j,list=>
  ((b0_ n (aa_.re j)).bind fun xr1=>(cond (!xr1) (some ((aa_.mk 0 0 [] ([]:List aa_) ([]:List Bs)),false)) (cond (decide ((list.length:Int) > 40)) (some ((aa_.mk 0 0 [] ([]:List aa_) ([]:List Bs)),false)) ((aq_ n (aa_.re j)).bind fun xr2=>(aZ_.loop7 n (fun xy4 xy5 xy6 xy7 xy8 xy9 xy10 xy11=>(some ((aa_.mk xy7 xy8 xy9 xy10 xy11),true))) n list (list.length:Int) 0 0 0 [] xr2.kind xr2.n_ xr2.s xr2.list xr2.names)))))
def bV_:Nat→aL_→aM_→Option aL_
 |0,_,_=>none
 |n+1,o,append=>
  ((bU_ n { o with doc:=(aa_.re o.doc) }).bind fun xr1=>(cond o.bad (some { xr1 with doc:=(aa_.re xr1.doc) }) ((cs_ n { append with doc:=(aa_.re append.doc) }).bind fun xr2=>(cond (!xr2) (some { xr1 with doc:=(aa_.re xr1.doc),bad:=true }) (cond (append.kind == 1) (cond (!o.began) ((aq_ n (aa_.re append.doc)).bind fun xr3=>(some (aL_.mk (aa_.re xr3) append.version true xr1.bad))) (cond (decide (append.version > o.version)) ((aq_ n (aa_.re append.doc)).bind fun xr4=>(some (aL_.mk (aa_.re xr4) append.version true xr1.bad))) (cond (append.kind == 2) (cond o.began (cond (append.base == o.version) ((aZ_ n (aa_.re o.doc) append.ops).bind fun xr5=>(cond xr5.2 (some { xr1 with doc:=(aa_.re xr5.1),version:=append.version }) (some { xr1 with doc:=(aa_.re xr1.doc),bad:=true }))) (some { xr1 with doc:=(aa_.re xr1.doc),bad:=true })) (some { xr1 with doc:=(aa_.re xr1.doc),bad:=true })) (some { xr1 with doc:=(aa_.re xr1.doc),bad:=true })))) (cond (append.kind == 2) (cond o.began (cond (append.base == o.version) ((aZ_ n (aa_.re o.doc) append.ops).bind fun xr6=>(cond xr6.2 (some { xr1 with doc:=(aa_.re xr6.1),version:=append.version }) (some { xr1 with doc:=(aa_.re xr1.doc),bad:=true }))) (some { xr1 with doc:=(aa_.re xr1.doc),bad:=true })) (some { xr1 with doc:=(aa_.re xr1.doc),bad:=true })) (some { xr1 with doc:=(aa_.re xr1.doc),bad:=true })))))))
def aR_.step4 (n:Nat) (k0:Int→Int→Bs→Int→Bool→Bool→Int→Int→Bs→Int→Bool→Bool→(List aa_)→(List Bs)→Option aL_) (back:(List aM_)→Int→Int→Int→Int→Bs→Int→Bool→Bool→Int→Int→Bs→Int→Bool→Bool→(List aa_)→(List Bs)→Option aL_) (t7:List aM_) (t8:Int) (t9:Int) (t20:Int) (t21:Int) (t22:Bs) (t25:Int) (t26:Bool) (t27:Bool) (c0:Int) (c1:Int) (c2:Bs) (c5:Int) (c6:Bool) (c7:Bool) (c3:List aa_) (c4:List Bs):Option aL_ :=
 (cond (decide (t9<t8)) (inB t9 t7.length ((bV_ n (aL_.mk (aa_.mk c0 c1 c2 c3 c4) c5 c6 c7) { (t7.getD t9.toNat aM_.dflt) with doc:=(aa_.re ((t7.getD t9.toNat aM_.dflt).doc)) }).bind fun xr1=>(back t7 t8 (W (t9+1)) t20 t21 t22 t25 t26 t27 xr1.doc.kind xr1.doc.n_ xr1.doc.s xr1.version xr1.began xr1.bad xr1.doc.list xr1.doc.names))) (k0 t20 t21 t22 t25 t26 t27 c0 c1 c2 c5 c6 c7 c3 c4))
def aR_.loop4 (n:Nat) (k0:Int→Int→Bs→Int→Bool→Bool→Int→Int→Bs→Int→Bool→Bool→(List aa_)→(List Bs)→Option aL_) (N:Nat):(List aM_)→Int→Int→Int→Int→Bs→Int→Bool→Bool→Int→Int→Bs→Int→Bool→Bool→(List aa_)→(List Bs)→Option aL_ :=
 dk_ (fun _ _ _ _ _ _ _ _ _ _ _ _ _ _ _ _ _=>none) (fun back=>aR_.step4 n k0 back) N
def aR_:Nat→(List aM_)→Option aL_
 |0,_=>none
 |n+1,list=>
  (aR_.loop4 n (fun xy2 xy3 xy4 xy5 xy6 xy7 xy8 xy9 xy10 xy11 xy12 xy13 xy14 xy15=>(some (aL_.mk (aa_.mk xy8 xy9 xy10 xy14 xy15) xy11 xy12 xy13))) n list (list.length:Int) 0 0 0 [] 0 false false 0 0 [] 0 false false ([]:List aa_) ([]:List Bs))
def cb_:Nat→Bs→Option (aL_ × a1_)
 |0,_=>none
 |n+1,text=>
  ((bt_ n (a1_.mk [] false) text).bind fun xr1=>((aR_ n xr1.2).bind fun xr2=>(cond xr2.bad (some ({ xr2 with doc:=(aa_.re xr2.doc),bad:=true },xr1.1)) (some ({ xr2 with doc:=(aa_.re xr2.doc),bad:=xr1.1.bad },xr1.1)))))
def aQ_.step6 (n:Nat) (k0:Option Bool) (back:(List Bs)→(List Bs)→Int→Option Bool) (a:List Bs) (b:List Bs) (i:Int):Option Bool :=
 (cond (decide (i<(a.length:Int))) (inB i a.length (inB i b.length (cond (!((a.getD i.toNat []) == (b.getD i.toNat []))) (some false) (back a b (W (i+1)))))) k0)
def aQ_.loop6 (n:Nat) (k0:Option Bool) (N:Nat):(List Bs)→(List Bs)→Int→Option Bool :=
 dk_ (fun _ _ _=>none) (fun back=>aQ_.step6 n k0 back) N
def aQ_:Nat→(List Bs)→(List Bs)→Option Bool
 |0,_,_=>none
 |n+1,a,b=>
  (cond ((a.length:Int) != (b.length:Int)) (some false) (aQ_.loop6 n (some true) n a b 0))
def a8_.step6 (n:Nat) (laws_eqJson_:aa_→aa_→Option Bool) (k0:Option Bool) (back:(List aa_)→(List aa_)→Int→Option Bool) (a:List aa_) (b:List aa_) (i:Int):Option Bool :=
 (cond (decide (i<(a.length:Int))) (inB i a.length (inB i b.length ((laws_eqJson_ (aa_.re (a.getD i.toNat aa_.dflt)) (aa_.re (b.getD i.toNat aa_.dflt))).bind fun xr1=>(cond (!xr1) (some false) (back a b (W (i+1))))))) k0)
def a8_.loop6 (n:Nat) (laws_eqJson_:aa_→aa_→Option Bool) (k0:Option Bool) (N:Nat):(List aa_)→(List aa_)→Int→Option Bool :=
 dk_ (fun _ _ _=>none) (fun back=>a8_.step6 n laws_eqJson_ k0 back) N
mutual
def b6_:Nat→aa_→aa_→Option Bool
 |0,_,_=>none
 |n+1,a,b=>
  (cond (a.kind != b.kind) (some false) (cond (a.n_ != b.n_) (some false) (cond (!(a.s == b.s)) (some false) ((a8_ n a.list b.list).bind fun xr1=>(cond (!xr1) (some false) ((aQ_ n a.names b.names).bind fun xr2=>(cond (!xr2) (some false) (some true))))))))
def a8_:Nat→(List aa_)→(List aa_)→Option Bool
 |0,_,_=>none
 |n+1,a,b=>
  (cond ((a.length:Int) != (b.length:Int)) (some false) (a8_.loop6 n (b6_ n) (some true) n a b 0))
end
def b9_:Nat→aL_→aL_→Option Bool
 |0,_,_=>none
 |n+1,a,b=>
  ((b6_ n (aa_.re a.doc) (aa_.re b.doc)).bind fun xr1=>(cond (!xr1) (some false) (cond (a.version != b.version) (some false) (cond (!(a.began == b.began)) (some false) (cond (!(a.bad == b.bad)) (some false) (some true))))))
def b8_:Nat→a1_→a1_→Option Bool
 |0,_,_=>none
 |n+1,a,b=>
  (cond (!(a.wait == b.wait)) (some false) (cond (!(a.bad == b.bad)) (some false) (some true)))
def aK_.step6 (n:Nat) (k0:Bs→Option Bs) (back:Int→Bs→Option Bs) (k:Int) (out_1:Bs):Option Bs :=
 (cond (decide (k > 0)) (cond (decide ((fT_ ([(IntKind.u8.wrap ((W (48+(Int.tmod k 10)))))]:List Int)).length+out_1.length≤9223372036854775807)) (let xv1:Bs:=((fT_ ([(IntKind.u8.wrap ((W (48+(Int.tmod k 10)))))]:List Int))++out_1);(back (W (Int.tdiv k 10)) xv1)) none) (k0 out_1))
def aK_.loop6 (n:Nat) (k0:Bs→Option Bs) (N:Nat):Int→Bs→Option Bs :=
 dk_ (fun _ _=>none) (fun back=>aK_.step6 n k0 back) N
def aK_:Nat→Int→Option Bs
 |0,_=>none
 |n+1,k=>
  (cond (decide (k≤0)) (some [109,48]) (aK_.loop6 n (fun xy2=>(cond (decide ([109].length+xy2.length≤9223372036854775807)) (some (([109]:Bs)++xy2)) none)) n k []))
def au_.step3 (n:Nat) (k0:Int→(List Bs)→Option (Int × (List Bs))) (back:Int→Int→(List Bs)→Option (Int × (List Bs))) (k:Int) (i:Int) (a:List Bs):Option (Int × (List Bs)) :=
 (cond (decide (i<(a.length:Int))) ((aK_ n k).bind fun xr1=>(inB i a.length (let xa2:List Bs:=a.set i.toNat xr1;(back (W (k+1)) (W (i+1)) xa2)))) (k0 k a))
def au_.loop3 (n:Nat) (k0:Int→(List Bs)→Option (Int × (List Bs))) (N:Nat):Int→Int→(List Bs)→Option (Int × (List Bs)) :=
 dk_ (fun _ _ _=>none) (fun back=>au_.step3 n k0 back) N
def au_:Nat→(List Bs)→Int→Option (Int × (List Bs))
 |0,_,_=>none
 |n+1,a,k=>
  (au_.loop3 n (fun xy3 xy4=>(some (xy3,xy4))) n k 0 a)
def ax_.step3 (n:Nat) (laws_markJsonS_:(List aa_)→Int→Option (Int × (List aa_))) (k0:Int→(List aa_)→Option (Int × (List aa_))) (back:Int→Int→(List aa_)→Option (Int × (List aa_))) (k:Int) (i:Int) (a:List aa_):Option (Int × (List aa_)) :=
 (cond (decide (i<(a.length:Int))) (inB i a.length (let xa1:List aa_:=a.set i.toNat (aa_.mk k ((a.getD i.toNat aa_.dflt).n_) ((a.getD i.toNat aa_.dflt).s) ((a.getD i.toNat aa_.dflt).list) ((a.getD i.toNat aa_.dflt).names));(inB i xa1.length (let xa2:List aa_:=xa1.set i.toNat (aa_.mk ((xa1.getD i.toNat aa_.dflt).kind) (W (k+1)) ((xa1.getD i.toNat aa_.dflt).s) ((xa1.getD i.toNat aa_.dflt).list) ((xa1.getD i.toNat aa_.dflt).names));((aK_ n (W ((W (k+1))+1))).bind fun xr3=>(inB i xa2.length (let xa4:List aa_:=xa2.set i.toNat (aa_.mk ((xa2.getD i.toNat aa_.dflt).kind) ((xa2.getD i.toNat aa_.dflt).n_) xr3 ((xa2.getD i.toNat aa_.dflt).list) ((xa2.getD i.toNat aa_.dflt).names));(inB i xa4.length ((laws_markJsonS_ ((xa4.getD i.toNat aa_.dflt).list) (W ((W ((W (k+1))+1))+1))).bind fun xr5=>(cond (Nat.beq xr5.2.length ((xa4.getD i.toNat aa_.dflt).list).length) (let xa6:List aa_:=xa4.set i.toNat (aa_.mk ((xa4.getD i.toNat aa_.dflt).kind) ((xa4.getD i.toNat aa_.dflt).n_) ((xa4.getD i.toNat aa_.dflt).s) xr5.2 ((xa4.getD i.toNat aa_.dflt).names));(inB i xa6.length ((au_ n ((xa6.getD i.toNat aa_.dflt).names) xr5.1).bind fun xr7=>(cond (Nat.beq xr7.2.length ((xa6.getD i.toNat aa_.dflt).names).length) (let xa8:List aa_:=xa6.set i.toNat (aa_.mk ((xa6.getD i.toNat aa_.dflt).kind) ((xa6.getD i.toNat aa_.dflt).n_) ((xa6.getD i.toNat aa_.dflt).s) ((xa6.getD i.toNat aa_.dflt).list) xr7.2);(back xr7.1 (W (i+1)) xa8)) none)))) none)))))))))) (k0 k a))
def ax_.loop3 (n:Nat) (laws_markJsonS_:(List aa_)→Int→Option (Int × (List aa_))) (k0:Int→(List aa_)→Option (Int × (List aa_))) (N:Nat):Int→Int→(List aa_)→Option (Int × (List aa_)) :=
 dk_ (fun _ _ _=>none) (fun back=>ax_.step3 n laws_markJsonS_ k0 back) N
def ax_:Nat→(List aa_)→Int→Option (Int × (List aa_))
 |0,_,_=>none
 |n+1,a,k=>
  (ax_.loop3 n (ax_ n) (fun xy9 xy10=>(some (xy9,xy10))) n k 0 a)
def cj_:Nat→aa_→Int→Option (Int × (List aa_) × (List Bs))
 |0,_,_=>none
 |n+1,a,k=>
  ((ax_ n a.list k).bind fun xr1=>(cond (Nat.beq xr1.2.length a.list.length) ((au_ n a.names xr1.1).bind fun xr2=>(cond (Nat.beq xr2.2.length a.names.length) (some (xr2.1,xr1.2,xr2.2)) none)) none))
def bT_:Nat→aL_→Int→Option (Int × (List aa_) × (List Bs))
 |0,_,_=>none
 |n+1,a,k=>
  ((cj_ n (aa_.re a.doc) k).bind fun xr1=>(cond (Nat.beq xr1.2.1.length a.doc.list.length) (cond (Nat.beq xr1.2.2.length a.doc.names.length) (some (xr1.1,xr1.2.1,xr1.2.2)) none) none))
def av_.step3 (n:Nat) (k0:Int→Option Int) (back:(List Bs)→Int→Int→Option Int) (a:List Bs) (k:Int) (i:Int):Option Int :=
 (cond (decide (i<(a.length:Int))) (inB i a.length ((aK_ n k).bind fun xr1=>(cond (!((a.getD i.toNat []) == xr1)) (some (-1)) (back a (W (k+1)) (W (i+1)))))) (k0 k))
def av_.loop3 (n:Nat) (k0:Int→Option Int) (N:Nat):(List Bs)→Int→Int→Option Int :=
 dk_ (fun _ _ _=>none) (fun back=>av_.step3 n k0 back) N
def av_:Nat→(List Bs)→Int→Option Int
 |0,_,_=>none
 |n+1,a,k=>
  (av_.loop3 n (fun xy2=>(some xy2)) n a k 0)
def ay_.step3 (n:Nat) (laws_heldJsonS_:(List aa_)→Int→Option Int) (k0:Int→Option Int) (back:(List aa_)→Int→Int→Option Int) (a:List aa_) (k:Int) (i:Int):Option Int :=
 (cond (decide (i<(a.length:Int))) (inB i a.length (cond (((a.getD i.toNat aa_.dflt).kind) != k) (some (-1)) (inB i a.length (cond (((a.getD i.toNat aa_.dflt).n_) != (W (k+1))) (some (-1)) (inB i a.length ((aK_ n (W ((W (k+1))+1))).bind fun xr1=>(cond (!(((a.getD i.toNat aa_.dflt).s) == xr1)) (some (-1)) (inB i a.length ((laws_heldJsonS_ ((a.getD i.toNat aa_.dflt).list) (W ((W ((W (k+1))+1))+1))).bind fun xr2=>(cond (decide (xr2<0)) (some (-1)) (inB i a.length ((av_ n ((a.getD i.toNat aa_.dflt).names) xr2).bind fun xr3=>(cond (decide (xr3<0)) (some (-1)) (back a xr3 (W (i+1)))))))))))))))) (k0 k))
def ay_.loop3 (n:Nat) (laws_heldJsonS_:(List aa_)→Int→Option Int) (k0:Int→Option Int) (N:Nat):(List aa_)→Int→Int→Option Int :=
 dk_ (fun _ _ _=>none) (fun back=>ay_.step3 n laws_heldJsonS_ k0 back) N
def ay_:Nat→(List aa_)→Int→Option Int
 |0,_,_=>none
 |n+1,a,k=>
  (ay_.loop3 n (ay_ n) (fun xy4=>(some xy4)) n a k 0)
def ck_:Nat→aa_→Int→Option Int
 |0,_,_=>none
 |n+1,a,k=>
  ((ay_ n a.list k).bind fun xr1=>(cond (decide (xr1<0)) (some (-1)) ((av_ n a.names xr1).bind fun xr2=>(cond (decide (xr2<0)) (some (-1)) (some xr2)))))
def bO_:Nat→aL_→Int→Option Int
 |0,_,_=>none
 |n+1,a,k=>
  ((ck_ n (aa_.re a.doc) k).bind fun xr1=>(cond (decide (xr1<0)) (some (-1)) (some xr1)))
def laws_FnExactClientOf:Nat→Bs→Option Bool
 |0,_=>none
 |n+1,o=>
  (cond (decide ((o.length:Int) > 1048576)) (some true) ((ci_ n o).bind fun xr1=>((cb_ n o).bind fun xr2=>((b9_ n { xr2.1 with doc:=(aa_.re xr2.1.doc) } { xr1.1 with doc:=(aa_.re xr1.1.doc) }).bind fun xr3=>(cond (!xr3) (some false) ((b8_ n xr2.2 xr1.2).bind fun xr4=>(cond (!xr4) (some false) ((bT_ n { xr2.1 with doc:=(aa_.re xr2.1.doc) } 1).bind fun xr5=>(cond (Nat.beq xr5.2.1.length xr2.1.doc.list.length) (cond (Nat.beq xr5.2.2.length xr2.1.doc.names.length) ((bO_ n { xr2.1 with doc:=(aa_.mk xr2.1.doc.kind xr2.1.doc.n_ xr2.1.doc.s xr5.2.1 xr5.2.2) } 1).bind fun xr6=>(cond (decide (xr6<0)) (some false) (cond (xr6 != xr5.1) (some false) ((cb_ n o).bind fun xr7=>((b9_ n { xr7.1 with doc:=(aa_.re xr7.1.doc) } { xr1.1 with doc:=(aa_.re xr1.1.doc) }).bind fun xr8=>(cond (!xr8) (some false) ((b8_ n xr7.2 xr1.2).bind fun xr9=>(cond (!xr9) (some false) ((bO_ n { xr2.1 with doc:=(aa_.mk xr2.1.doc.kind xr2.1.doc.n_ xr2.1.doc.s xr5.2.1 xr5.2.2) } 1).bind fun xr10=>(cond (decide (xr10<0)) (some false) (cond (xr10 != xr5.1) (some false) (some true)))))))))))) none) none)))))))))
end Go.Pi
end
section
namespace Go.Pi
def aa_.p (m:M):List Pat:=[.i .i64,.i .i64,.s,.sl m .iJson,.sl m .str]
abbrev aa_.c:Type:=Int × Int × Bs × (List aa_) × (List Bs) × Unit
def aa_.of:aa_.c→aa_:=fun (x0,x1,x2,x3,x4,_)=>⟨x0,x1,x2,x3,x4⟩
def aa_.to (s:aa_):aa_.c:=(s.kind,s.n_,s.s,s.list,s.names,())
def aL_.p (m:M):List Pat:=[.i .i64,.i .i64,.s,.sl m .iJson,.sl m .str,.i .i64,.b,.b]
abbrev aL_.c:Type:=Int × Int × Bs × (List aa_) × (List Bs) × Int × Bool × Bool × Unit
def aL_.of:aL_.c→aL_:=fun (x0,x1,x2,x3,x4,x5,x6,x7,_)=>⟨⟨x0,x1,x2,x3,x4⟩,x5,x6,x7⟩
def aL_.to (s:aL_):aL_.c:=(s.doc.kind,s.doc.n_,s.doc.s,s.doc.list,s.doc.names,s.version,s.began,s.bad,())
def a1_.p (m:M):List Pat:=[.s,.b]
abbrev a1_.c:Type:=Bs × Bool × Unit
def a1_.of:a1_.c→a1_:=fun (x0,x1,_)=>⟨x0,x1⟩
def a1_.to (s:a1_):a1_.c:=(s.wait,s.bad,())
def TOp.p (m:M):List Pat:=[.i .i64,.sl m .str,.i .i64,.i .i64,.s,.sl m .iJson,.sl m .str]
abbrev TOp.c:Type:=Int × (List Bs) × Int × Int × Bs × (List aa_) × (List Bs) × Unit
def TOp.of:TOp.c→TOp:=fun (x0,x1,x2,x3,x4,x5,x6,_)=>⟨x0,x1,⟨x2,x3,x4,x5,x6⟩⟩
def TOp.to (s:TOp):TOp.c:=(s.kind,s.way,s.value.kind,s.value.n_,s.value.s,s.value.list,s.value.names,())
def aM_.p (m:M):List Pat:=[.i .i64,.i .i64,.i .i64,.i .i64,.i .i64,.s,.sl m .iJson,.sl m .str,.sl m .iOp]
abbrev aM_.c:Type:=Int × Int × Int × Int × Int × Bs × (List aa_) × (List Bs) × (List TOp) × Unit
def aM_.of:aM_.c→aM_:=fun (x0,x1,x2,x3,x4,x5,x6,x7,x8,_)=>⟨x0,x1,x2,⟨x3,x4,x5,x6,x7⟩,x8⟩
def aM_.to (s:aM_):aM_.c:=(s.kind,s.version,s.base,s.doc.kind,s.doc.n_,s.doc.s,s.doc.list,s.doc.names,s.ops,())
def bc_.p (m:M):List Pat:=[.s,.i .i64,.b,.i .i64]
abbrev bc_.c:Type:=Bs × Int × Bool × Int × Unit
def bc_.of:bc_.c→bc_:=fun (x0,x1,x2,x3,_)=>⟨x0,x1,x2,x3⟩
def bc_.to (s:bc_):bc_.c:=(s.s,s.at_,s.ok,s.left,())
def aV_.p (m:M):List Pat:=[.s,.b]
abbrev aV_.c:Type:=Bs × Bool × Unit
def aV_.of:aV_.c→aV_:=fun (x0,x1,_)=>⟨x0,x1⟩
def aV_.to (s:aV_):aV_.c:=(s.text,s.bad,())
def bd_.p3:OD:=⟨[(0,.k),(3,.k)],[.s,.i .i64],[.ext]⟩
def bd_.o0:OD:=⟨[],[],[.ext]⟩
def bd_.d:FD Int:=⟨71,23,1,[.s],[.i .i64],fun (a0,_)=>a0,fun r=>(r,()),[.v],[.v],[.k],[.tmp 2],[],[(3,bd_.p3)],[],[(0,bd_.o0)]⟩
def bd_.F (n:Nat):Pat.Ts bd_.d.ps→Option Int:=fun (a0,_)=>bd_ n a0
def aY_.p5:OD:=⟨[(0,.k),(3,.own .d .str),(4,.k),(5,.k)],[.s,.rt 1,.i .i64,.i .i64],[.ext,.arr .d .str 2]⟩
def aY_.o0:OD:=⟨[(3,.own .d .str)],[.rt 1],[.ext,.arr .d .str 2]⟩
def aY_.d:FD (List Bs):=⟨43,27,1,[.s],[.sl .d .str],fun (a0,_)=>a0,fun r=>(r,()),[.v],[.o],[.own .d .str],[.tmp 2],[],[(5,aY_.p5)],[],[(0,aY_.o0)]⟩
def aY_.F (n:Nat):Pat.Ts aY_.d.ps→Option (List Bs):=fun (a0,_)=>aY_ n a0
def bJ_.d:FD Bs:=⟨44,22,1,[.s,.s],[.s],fun (a0,_)=>a0,fun r=>(r,()),[.v,.v],[.v],[.k],[.tmp 4],[],[],[],[]⟩
def bJ_.F (n:Nat):Pat.Ts bJ_.d.ps→Option Bs:=fun (a0,a1,_)=>bJ_ n a0 a1
def b5_.d:FD (Int × bc_):=⟨112,22,2,[.bx (bc_.p .v)],[.i .u8,.bx (bc_.p .v)],fun (a0,a1,_)=>(a0,(bc_.of a1)),fun (a0,a1)=>(a0,bc_.to a1,()),[.ptr [.v,.v,.v,.v]],[.v,.ptr [.v,.v,.v,.v]],[.k,.box [.k,.k,.k,.k]],[.tmp 2],[.pb 1 0],[],[],[]⟩
def b5_.F (n:Nat):Pat.Ts b5_.d.ps→Option (Int × bc_):=fun (a0,_)=>b5_ n (bc_.of a0)
def az_.p7:OD:=⟨[(0,.box [.k,.k,.k,.k]),(3,.k),(4,.k),(5,.k)],[.pb 1 0,.b,.i .i64,.i .i64],[.ext,.box (bc_.p .v)]⟩
def az_.o0:OD:=⟨[(0,.box [.k,.k,.k,.k]),(3,.k),(4,.k),(5,.k)],[.pb 1 0,.b,.i .i64,.i .i64],[.ext,.box (bc_.p .v)]⟩
def az_.d:FD (Int × bc_):=⟨75,65,2,[.bx (bc_.p .v)],[.i .i64,.bx (bc_.p .v)],fun (a0,a1,_)=>(a0,(bc_.of a1)),fun (a0,a1)=>(a0,bc_.to a1,()),[.ptr [.v,.v,.v,.v]],[.v,.ptr [.v,.v,.v,.v]],[.k,.box [.k,.k,.k,.k]],[.tmp 2],[.pb 1 0],[(7,az_.p7)],[],[(0,az_.o0)]⟩
def az_.F (n:Nat):Pat.Ts az_.d.ps→Option (Int × bc_):=fun (a0,_)=>az_ n (bc_.of a0)
def aJ_.p7:OD:=⟨[(0,.k),(3,.k),(4,.k)],[.i .i64,.b,.s],[.ext]⟩
def aJ_.o0:OD:=⟨[(3,.k),(4,.k)],[.b,.s],[.ext]⟩
def aJ_.d:FD Bs:=⟨76,31,1,[.i .i64],[.s],fun (a0,_)=>a0,fun r=>(r,()),[.v],[.v],[.k],[.tmp 2],[],[(7,aJ_.p7)],[],[(0,aJ_.o0)]⟩
def aJ_.F (n:Nat):Pat.Ts aJ_.d.ps→Option Bs:=fun (a0,_)=>aJ_ n a0
def cw_.d:FD (Int × Bool):=⟨45,22,1,[.s],[.i .i64,.b],fun (a0,a1,_)=>(a0,a1),fun (a0,a1)=>(a0,a1,()),[.v],[.v,.v],[.k,.k],[.tmp 2,.tmp 3],[],[],[],[]⟩
def cw_.F (n:Nat):Pat.Ts cw_.d.ps→Option (Int × Bool):=fun (a0,_)=>cw_ n a0
def bB_.d:FD bc_:=⟨113,50,2,[.bx (bc_.p .v),.s],[.bx (bc_.p .v)],fun (a0,_)=>(bc_.of a0),fun r=>(bc_.to r,()),[.ptr [.v,.v,.v,.v],.v],[.ptr [.v,.v,.v,.v]],[.box [.k,.k,.k,.k]],[],[.pb 1 0],[],[],[]⟩
def bB_.F (n:Nat):Pat.Ts bB_.d.ps→Option bc_:=fun (a0,a1,_)=>bB_ n (bc_.of a0) a1
def aA_.p4:OD:=⟨[(0,.box [.k,.k,.k,.k]),(3,.own .d .u8)],[.pb 1 0,.rt 2],[.ext,.box (bc_.p .v),.arr .d .u8 2]⟩
def aA_.o0:OD:=⟨[(0,.box [.k,.k,.k,.k]),(3,.own .d .u8)],[.pb 1 0,.rt 2],[.ext,.box (bc_.p .v),.arr .d .u8 2]⟩
def aA_.d:FD (Bs × bc_):=⟨114,62,2,[.bx (bc_.p .v)],[.s,.bx (bc_.p .v)],fun (a0,a1,_)=>(a0,(bc_.of a1)),fun (a0,a1)=>(a0,bc_.to a1,()),[.ptr [.v,.v,.v,.v]],[.v,.ptr [.v,.v,.v,.v]],[.k,.box [.k,.k,.k,.k]],[.tmp 2],[.pb 1 0],[(4,aA_.p4)],[],[(0,aA_.o0)]⟩
def aA_.F (n:Nat):Pat.Ts aA_.d.ps→Option (Bs × bc_):=fun (a0,_)=>aA_ n (bc_.of a0)
def aU_.p8:OD:=⟨[(0,.box [.k,.k,.k,.k]),(1,.k),(4,.box [.k,.k,.k,.k,.k]),(5,.box [.k,.k,.k,.own .d .iJson,.own .d .str]),(6,.k)],[.pb 1 0,.i .i64,.pb 2 0,.pb 3 0,.s],[.ext,.box (bc_.p .v),.box [.i .i64,.i .i64,.s,.nils,.nils],.box [.i .i64,.i .i64,.s,.rt 4,.rt 5],.arr .d .iJson 2,.arr .d .str 2]⟩
def aU_.o0:OD:=⟨[(0,.box [.k,.k,.k,.k]),(4,.box [.k,.k,.k,.k,.k]),(5,.box [.k,.k,.k,.own .d .iJson,.own .d .str]),(6,.k)],[.pb 1 0,.pb 2 0,.pb 3 0,.s],[.ext,.box (bc_.p .v),.box [.i .i64,.i .i64,.s,.nils,.nils],.box [.i .i64,.i .i64,.s,.rt 4,.rt 5],.arr .d .iJson 2,.arr .d .str 2]⟩
def aU_.d:FD (aa_ × bc_):=⟨115,61,2,[.bx (bc_.p .v),.i .i64],[.ag (aa_.p .d),.bx (bc_.p .v)],fun (a0,a1,_)=>((aa_.of a0),(bc_.of a1)),fun (a0,a1)=>(aa_.to a0,bc_.to a1,()),[.ptr [.v,.v,.v,.v],.v],[.ag [.v,.v,.v,.o,.o],.ptr [.v,.v,.v,.v]],[.ag [.k,.k,.k,.own .d .iJson,.own .d .str],.box [.k,.k,.k,.k]],[.cell 4 25],[.pb 1 0],[(8,aU_.p8)],[],[(0,aU_.o0)]⟩
def aU_.F (n:Nat):Pat.Ts aU_.d.ps→Option (aa_ × bc_):=fun (a0,a1,_)=>aU_ n (bc_.of a0) a1
def bn_.d:FD (aa_ × bc_):=⟨77,61,2,[.bx (bc_.p .v),.i .i64],[.ag (aa_.p .d),.bx (bc_.p .v)],fun (a0,a1,_)=>((aa_.of a0),(bc_.of a1)),fun (a0,a1)=>(aa_.to a0,bc_.to a1,()),[.ptr [.v,.v,.v,.v],.v],[.ag [.v,.v,.v,.o,.o],.ptr [.v,.v,.v,.v]],[.ag [.k,.k,.k,.own .d .iJson,.own .d .str],.box [.k,.k,.k,.k]],[.cell 4 25],[.pb 1 0],[],[],[]⟩
def bn_.F (n:Nat):Pat.Ts bn_.d.ps→Option (aa_ × bc_):=fun (a0,a1,_)=>bn_ n (bc_.of a0) a1
def bf_.p3:OD:=⟨[(0,.k),(3,.k)],[.s,.i .i64],[.ext]⟩
def bf_.o0:OD:=⟨[(0,.k)],[.s],[.ext]⟩
def bf_.d:FD Bool:=⟨141,23,1,[.s],[.b],fun (a0,_)=>a0,fun r=>(r,()),[.v],[.v],[.k],[.tmp 2],[],[(3,bf_.p3)],[],[(0,bf_.o0)]⟩
def bf_.F (n:Nat):Pat.Ts bf_.d.ps→Option Bool:=fun (a0,_)=>bf_ n a0
def af_.p6:OD:=⟨[(1,.box [.k,.k,.k,.view .iJson,.view .str]),(3,.k)],[.pb 1 0,.i .i64],[.ext,.box (aa_.p .v)]⟩
def af_.o0:OD:=⟨[(1,.box [.k,.k,.k,.view .iJson,.view .str])],[.pb 1 0],[.ext,.box (aa_.p .v)]⟩
def af_.d:FD Bool:=⟨164,50,1,[.ag (aa_.p .v)],[.b],fun (a0,_)=>a0,fun r=>(r,()),[.ag [.v,.v,.v,.v,.v]],[.v],[.k],[.tmp 2],[],[(6,af_.p6)],[],[(0,af_.o0)]⟩
def af_.F (n:Nat):Pat.Ts af_.d.ps→Option Bool:=fun (a0,_)=>af_ n (aa_.of a0)
def cT_.d:FD Bool:=⟨98,15,1,[.i .i64,.i .i64,.i .i64],[.b],fun (a0,_)=>a0,fun r=>(r,()),[.v,.v,.v],[.v],[.k],[.tmp 6],[],[],[],[]⟩
def cT_.F (n:Nat):Pat.Ts cT_.d.ps→Option Bool:=fun (a0,a1,a2,_)=>cT_ n a0 a1 a2
def aG_.p23:OD:=⟨[(1,.k),(2,.box [.k,.k,.k,.view .iJson,.view .str]),(5,.k),(6,.k),(7,.k)],[.i .i64,.pb 1 0,.i .i64,.i .i64,.i .i64],[.ext,.box (aa_.p .v)]⟩
def aG_.o1:OD:=⟨[(2,.box [.k,.k,.k,.view .iJson,.view .str]),(5,.k),(6,.k)],[.pb 1 0,.i .i64,.i .i64],[.ext,.box (aa_.p .v)]⟩
def aG_.d:FD Int:=⟨131,106,1,[.ag (aa_.p .v),.i .i64],[.i .i64],fun (a0,_)=>a0,fun r=>(r,()),[.ag [.v,.v,.v,.v,.v],.v],[.v],[.k],[.tmp 4],[],[(23,aG_.p23)],[],[(1,aG_.o1)]⟩
def aG_.F (n:Nat):Pat.Ts aG_.d.ps→Option Int:=fun (a0,a1,_)=>aG_ n (aa_.of a0) a1
def bZ_.d:FD Bool:=⟨100,6,1,[.ag (aa_.p .v)],[.b],fun (a0,_)=>a0,fun r=>(r,()),[.ag [.v,.v,.v,.v,.v]],[.v],[.k],[.tmp 2],[],[],[],[]⟩
def bZ_.F (n:Nat):Pat.Ts bZ_.d.ps→Option Bool:=fun (a0,_)=>bZ_ n (aa_.of a0)
def a4_.p4:OD:=⟨[(0,.k),(3,.own .d .u8),(4,.k)],[.s,.rt 1,.i .i64],[.ext,.arr .d .u8 2]⟩
def a4_.o0:OD:=⟨[(3,.own .d .u8)],[.rt 1],[.ext,.arr .d .u8 2]⟩
def a4_.d:FD Bs:=⟨140,35,1,[.s],[.s],fun (a0,_)=>a0,fun r=>(r,()),[.v],[.v],[.k],[.tmp 2],[],[(4,a4_.p4)],[],[(0,a4_.o0)]⟩
def a4_.F (n:Nat):Pat.Ts a4_.d.ps→Option Bs:=fun (a0,_)=>a4_ n a0
def aD_.p17:OD:=⟨[(1,.box [.k,.k,.k,.view .iJson,.view .str]),(3,.k),(4,.k)],[.pb 1 0,.s,.i .i64],[.ext,.box (aa_.p .v)]⟩
def aD_.o1:OD:=⟨[(1,.box [.k,.k,.k,.view .iJson,.view .str]),(3,.k)],[.pb 1 0,.s],[.ext,.box (aa_.p .v)]⟩
def aD_.d:FD Bs:=⟨116,64,1,[.ag (aa_.p .v)],[.s],fun (a0,_)=>a0,fun r=>(r,()),[.ag [.v,.v,.v,.v,.v]],[.v],[.k],[.tmp 2],[],[(17,aD_.p17)],[],[(1,aD_.o1)]⟩
def aD_.F (n:Nat):Pat.Ts aD_.d.ps→Option Bs:=fun (a0,_)=>aD_ n (aa_.of a0)
def cn_.d:FD Bs:=⟨78,13,1,[.ag (aa_.p .v)],[.s],fun (a0,_)=>a0,fun r=>(r,()),[.ag [.v,.v,.v,.v,.v]],[.v],[.k],[.tmp 2],[],[],[],[]⟩
def cn_.F (n:Nat):Pat.Ts cn_.d.ps→Option Bs:=fun (a0,_)=>cn_ n (aa_.of a0)
def cE_.d:FD (aa_ × Bool):=⟨46,41,1,[.s],[.ag (aa_.p .d),.b],fun (a0,a1,_)=>((aa_.of a0),a1),fun (a0,a1)=>(aa_.to a0,a1,()),[.v],[.ag [.v,.v,.v,.o,.o],.v],[.ag [.k,.k,.k,.own .d .iJson,.own .d .str],.k],[.cell 2 25,.tmp 3],[],[],[],[]⟩
def cE_.F (n:Nat):Pat.Ts cE_.d.ps→Option (aa_ × Bool):=fun (a0,_)=>cE_ n a0
def bI_.p3:OD:=⟨[(1,.k),(2,.box [.k,.k,.k,.view .iJson,.view .str]),(5,.k)],[.s,.pb 1 0,.i .i64],[.ext,.box (aa_.p .v)]⟩
def bI_.o0:OD:=⟨[],[],[.ext]⟩
def bI_.d:FD Int:=⟨117,21,1,[.ag (aa_.p .v),.s],[.i .i64],fun (a0,_)=>a0,fun r=>(r,()),[.ag [.v,.v,.v,.v,.v],.v],[.v],[.k],[.tmp 4],[],[(3,bI_.p3)],[],[(0,bI_.o0)]⟩
def bI_.F (n:Nat):Pat.Ts bI_.d.ps→Option Int:=fun (a0,a1,_)=>bI_ n (aa_.of a0) a1
def aH_.p4:OD:=⟨[(1,.box [.k,.k,.k,.view .iJson,.view .str]),(2,.box [.k,.k,.k,.k,.k]),(3,.box [.k,.k,.k,.own .d .iJson,.own .d .str]),(4,.k)],[.pb 1 0,.pb 2 0,.pb 3 0,.i .i64],[.ext,.box (aa_.p .v),.box [.i .i64,.i .i64,.s,.nils,.nils],.box [.i .i64,.i .i64,.s,.rt 4,.rt 5],.arr .d .iJson 2,.arr .d .str 2]⟩
def aH_.o0:OD:=⟨[(2,.box [.k,.k,.k,.k,.k]),(3,.box [.k,.k,.k,.own .d .iJson,.own .d .str])],[.pb 1 0,.pb 2 0],[.ext,.box [.i .i64,.i .i64,.s,.nils,.nils],.box [.i .i64,.i .i64,.s,.rt 3,.rt 4],.arr .d .iJson 2,.arr .d .str 2]⟩
def aH_.d:FD aa_:=⟨61,35,1,[.ag (aa_.p .v)],[.ag (aa_.p .d)],fun (a0,_)=>(aa_.of a0),fun r=>(aa_.to r,()),[.ag [.v,.v,.v,.v,.v]],[.ag [.v,.v,.v,.o,.o]],[.ag [.k,.k,.k,.own .d .iJson,.own .d .str]],[.cell 2 25],[],[(4,aH_.p4)],[],[(0,aH_.o0)]⟩
def aH_.F (n:Nat):Pat.Ts aH_.d.ps→Option aa_:=fun (a0,_)=>aH_ n (aa_.of a0)
def cP_.d:FD (aa_ × Bool):=⟨79,29,1,[.ag (aa_.p .v),.s],[.ag (aa_.p .d),.b],fun (a0,a1,_)=>((aa_.of a0),a1),fun (a0,a1)=>(aa_.to a0,a1,()),[.ag [.v,.v,.v,.v,.v],.v],[.ag [.v,.v,.v,.o,.o],.v],[.ag [.k,.k,.k,.own .d .iJson,.own .d .str],.k],[.cell 4 25,.tmp 5],[],[],[],[]⟩
def cP_.F (n:Nat):Pat.Ts cP_.d.ps→Option (aa_ × Bool):=fun (a0,a1,_)=>cP_ n (aa_.of a0) a1
def ce_.d:FD (List Bs):=⟨80,2,1,[],[.sl .d .str],fun (a0,_)=>a0,fun r=>(r,()),[],[.o],[.own .d .str],[.tmp 0],[],[],[],[]⟩
def ce_.F (n:Nat):Pat.Ts ce_.d.ps→Option (List Bs):=fun _=>ce_ n ()
def aT_.p6:OD:=⟨[(0,.k),(4,.own .d .str),(5,.own .d .str),(6,.own .d .u8),(7,.k)],[.s,.rt 1,.rt 2,.rt 3,.i .i64],[.ext,.arr .d .str 2,.arr .d .str 2,.arr .d .u8 2]⟩
def aT_.o0:OD:=⟨[(0,.k),(4,.own .d .str),(5,.own .d .str),(6,.own .d .u8)],[.s,.rt 1,.rt 2,.rt 3],[.ext,.arr .d .str 2,.arr .d .str 2,.arr .d .u8 2]⟩
def aT_.d:FD ((List Bs) × Bool):=⟨81,86,1,[.s],[.sl .d .str,.b],fun (a0,a1,_)=>(a0,a1),fun (a0,a1)=>(a0,a1,()),[.v],[.o,.v],[.own .d .str,.k],[.tmp 2,.tmp 3],[],[(6,aT_.p6)],[],[(0,aT_.o0)]⟩
def aT_.F (n:Nat):Pat.Ts aT_.d.ps→Option ((List Bs) × Bool):=fun (a0,_)=>aT_ n a0
def aj_.p6:OD:=⟨[(2,.box [.k,.k,.k,.view .iJson,.view .str]),(3,.box [.k,.k,.k,.view .iJson,.view .str]),(5,.k)],[.pb 1 0,.pb 2 0,.i .i64],[.ext,.box (aa_.p .v),.box (aa_.p .v)]⟩
def aj_.p14:OD:=⟨[(2,.box [.k,.k,.k,.view .iJson,.view .str]),(3,.box [.k,.k,.k,.view .iJson,.view .str]),(6,.k)],[.pb 1 0,.pb 2 0,.i .i64],[.ext,.box (aa_.p .v),.box (aa_.p .v)]⟩
def aj_.o0:OD:=⟨[(2,.box [.k,.k,.k,.view .iJson,.view .str]),(3,.box [.k,.k,.k,.view .iJson,.view .str])],[.pb 1 0,.pb 2 0],[.ext,.box (aa_.p .v),.box (aa_.p .v)]⟩
def aj_.o2:OD:=⟨[],[],[.ext]⟩
def aj_.d:FD Bool:=⟨99,81,1,[.ag (aa_.p .v),.ag (aa_.p .v)],[.b],fun (a0,_)=>a0,fun r=>(r,()),[.ag [.v,.v,.v,.v,.v],.ag [.v,.v,.v,.v,.v]],[.v],[.k],[.tmp 4],[],[(6,aj_.p6),(14,aj_.p14)],[],[(0,aj_.o0),(2,aj_.o2)]⟩
def aj_.F (n:Nat):Pat.Ts aj_.d.ps→Option Bool:=fun (a0,a1,_)=>aj_ n (aa_.of a0) (aa_.of a1)
def bG_.p6:OD:=⟨[(1,.box [.k,.view .str,.k,.k,.k,.view .iJson,.view .str]),(3,.k)],[.pb 1 0,.i .i64],[.ext,.box (TOp.p .v)]⟩
def bG_.o0:OD:=⟨[(1,.box [.k,.view .str,.k,.k,.k,.view .iJson,.view .str])],[.pb 1 0],[.ext,.box (TOp.p .v)]⟩
def bG_.d:FD Bool:=⟨118,43,1,[.ag (TOp.p .v)],[.b],fun (a0,_)=>a0,fun r=>(r,()),[.ag [.v,.v,.v,.v,.v,.v,.v]],[.v],[.k],[.tmp 2],[],[(6,bG_.p6)],[],[(0,bG_.o0)]⟩
def bG_.F (n:Nat):Pat.Ts bG_.d.ps→Option Bool:=fun (a0,_)=>bG_ n (TOp.of a0)
def ar_.p4:OD:=⟨[(0,.view .str),(3,.own .d .u8),(4,.k)],[.sl .v .str,.rt 1,.i .i64],[.ext,.arr .d .u8 2]⟩
def ar_.p10:OD:=⟨[(0,.view .str),(3,.own .d .u8),(4,.k),(5,.k)],[.sl .v .str,.rt 1,.i .i64,.i .i64],[.ext,.arr .d .u8 2]⟩
def ar_.o0:OD:=⟨[(3,.own .d .u8)],[.rt 1],[.ext,.arr .d .u8 2]⟩
def ar_.o2:OD:=⟨[(0,.view .str),(3,.own .d .u8),(4,.k)],[.sl .v .str,.rt 1,.i .i64],[.ext,.arr .d .u8 2]⟩
def ar_.d:FD Bs:=⟨119,52,1,[.sl .v .str],[.s],fun (a0,_)=>a0,fun r=>(r,()),[.v],[.v],[.k],[.tmp 2],[],[(10,ar_.p10),(4,ar_.p4)],[],[(0,ar_.o0),(2,ar_.o2)]⟩
def ar_.F (n:Nat):Pat.Ts ar_.d.ps→Option Bs:=fun (a0,_)=>ar_ n a0
def bq_.p5:OD:=⟨[(1,.k),(3,.box [.k,.k,.k,.view .iJson,.view .str]),(5,.box [.k,.k,.k,.view .iJson,.view .str]),(6,.box [.k,.k,.k,.k,.k]),(7,.box [.k,.k,.k,.own .s .iJson,.own .d .str]),(8,.k),(9,.k)],[.s,.pb 1 0,.pb 2 0,.pb 3 0,.pb 4 0,.b,.i .i64],[.ext,.box (aa_.p .v),.box (aa_.p .v),.box [.i .i64,.i .i64,.s,.nils,.nils],.box [.i .i64,.i .i64,.s,.rt 5,.rt 6],.arr .s .iJson 2,.arr .d .str 2]⟩
def bq_.o0:OD:=⟨[(1,.k),(5,.box [.k,.k,.k,.view .iJson,.view .str]),(6,.box [.k,.k,.k,.k,.k]),(7,.box [.k,.k,.k,.own .s .iJson,.own .d .str]),(8,.k)],[.s,.pb 1 0,.pb 2 0,.pb 3 0,.b],[.ext,.box (aa_.p .v),.box [.i .i64,.i .i64,.s,.nils,.nils],.box [.i .i64,.i .i64,.s,.rt 4,.rt 5],.arr .s .iJson 2,.arr .d .str 2]⟩
def bq_.d:FD aa_:=⟨120,83,1,[.ag (aa_.p .v),.s,.ag (aa_.p .v)],[.ag [.i .i64,.i .i64,.s,.sl .s .iJson,.sl .d .str]],fun (a0,_)=>(aa_.of a0),fun r=>(aa_.to r,()),[.ag [.v,.v,.v,.v,.v],.v,.ag [.v,.v,.v,.v,.v]],[.ag [.v,.v,.v,.o,.o]],[.ag [.k,.k,.k,.own .s .iJson,.own .d .str]],[.cell 6 25],[],[(5,bq_.p5)],[],[(0,bq_.o0)]⟩
def bq_.F (n:Nat):Pat.Ts bq_.d.ps→Option aa_:=fun (a0,a1,a2,_)=>bq_ n (aa_.of a0) a1 (aa_.of a2)
def cJ_.d:FD aa_:=⟨83,34,1,[.ag (TOp.p .v)],[.ag [.i .i64,.i .i64,.s,.sl .s .iJson,.sl .d .str]],fun (a0,_)=>(aa_.of a0),fun r=>(aa_.to r,()),[.ag [.v,.v,.v,.v,.v,.v,.v]],[.ag [.v,.v,.v,.o,.o]],[.ag [.k,.k,.k,.own .s .iJson,.own .d .str]],[.cell 2 25],[],[],[],[]⟩
def cJ_.F (n:Nat):Pat.Ts cJ_.d.ps→Option aa_:=fun (a0,_)=>cJ_ n (TOp.of a0)
def ch_.d:FD Bool:=⟨82,16,1,[.ag (aa_.p .v),.ag (aa_.p .v)],[.b],fun (a0,_)=>a0,fun r=>(r,()),[.ag [.v,.v,.v,.v,.v],.ag [.v,.v,.v,.v,.v]],[.v],[.k],[.tmp 4],[],[],[],[]⟩
def ch_.F (n:Nat):Pat.Ts ch_.d.ps→Option Bool:=fun (a0,a1,_)=>ch_ n (aa_.of a0) (aa_.of a1)
def aO_.p7:OD:=⟨[(1,.box [.k,.k,.k,.view .iJson,.view .str]),(2,.box [.k,.k,.k,.k,.k,.k,.k]),(4,.box [.k,.k,.k,.k,.k,.k,.k]),(5,.box [.k,.k,.k,.own .d .iJson,.own .d .str]),(7,.box [.k,.k,.k,.own .d .iJson,.own .d .str]),(9,.own .d .str),(10,.k)],[.pb 1 0,.pb 2 0,.pb 3 0,.pb 4 0,.pb 5 0,.rt 6,.i .i64],[.ext,.box (aa_.p .v),.box [.i .i64,.nils,.i .i64,.i .i64,.s,.nils,.nils],.box [.i .i64,.nils,.i .i64,.i .i64,.s,.nils,.nils],.box [.i .i64,.i .i64,.s,.rt 7,.rt 8],.box [.i .i64,.i .i64,.s,.rt 9,.rt 10],.arr .d .str 2,.arr .d .iJson 2,.arr .d .str 2,.arr .d .iJson 2,.arr .d .str 2]⟩
def aO_.p15:OD:=⟨[(1,.box [.k,.k,.k,.view .iJson,.view .str]),(2,.box [.k,.k,.k,.k,.k,.k,.k]),(4,.box [.k,.view .str,.k,.k,.k,.view .iJson,.view .str]),(12,.k)],[.pb 1 0,.pb 2 0,.pb 3 0,.b],[.ext,.box (aa_.p .v),.box [.i .i64,.nils,.i .i64,.i .i64,.s,.nils,.nils],.box (TOp.p .v)]⟩
def aO_.o0:OD:=⟨[(1,.box [.k,.k,.k,.view .iJson,.view .str]),(2,.box [.k,.k,.k,.k,.k,.k,.k]),(4,.box [.k,.k,.k,.k,.k,.k,.k]),(7,.box [.k,.k,.k,.own .d .iJson,.own .d .str])],[.pb 1 0,.pb 2 0,.pb 3 0,.pb 4 0],[.ext,.box (aa_.p .v),.box [.i .i64,.nils,.i .i64,.i .i64,.s,.nils,.nils],.box [.i .i64,.nils,.i .i64,.i .i64,.s,.nils,.nils],.box [.i .i64,.i .i64,.s,.rt 5,.rt 6],.arr .d .iJson 2,.arr .d .str 2]⟩
def aO_.d:FD (TOp × Bool):=⟨47,78,1,[.ag (aa_.p .v)],[.ag (TOp.p .v),.b],fun (a0,a1,_)=>((TOp.of a0),a1),fun (a0,a1)=>(TOp.to a0,a1,()),[.ag [.v,.v,.v,.v,.v]],[.ag [.v,.v,.v,.v,.v,.v,.v],.v],[.ag [.k,.view .str,.k,.k,.k,.view .iJson,.view .str],.k],[.cell 2 83,.tmp 3],[],[(7,aO_.p7),(15,aO_.p15)],[],[(0,aO_.o0)]⟩
def aO_.F (n:Nat):Pat.Ts aO_.d.ps→Option (TOp × Bool):=fun (a0,_)=>aO_ n (aa_.of a0)
def be_.p4:OD:=⟨[(0,.view .iOp),(2,.box [.k,.k,.k,.k,.k]),(4,.box [.k,.k,.k,.own .s .iJson,.k]),(5,.k)],[.sl .v .iOp,.pb 1 0,.pb 2 0,.i .i64],[.ext,.box [.i .i64,.i .i64,.s,.nils,.nils],.box [.i .i64,.i .i64,.s,.rt 3,.nils],.arr .s .iJson 2]⟩
def be_.o0:OD:=⟨[(0,.view .iOp),(2,.box [.k,.k,.k,.k,.k]),(4,.box [.k,.k,.k,.own .s .iJson,.k])],[.sl .v .iOp,.pb 1 0,.pb 2 0],[.ext,.box [.i .i64,.i .i64,.s,.nils,.nils],.box [.i .i64,.i .i64,.s,.rt 3,.nils],.arr .s .iJson 2]⟩
def be_.d:FD (aa_ × Bool):=⟨84,38,1,[.sl .v .iOp],[.ag [.i .i64,.i .i64,.s,.sl .s .iJson,.sl .d .str],.b],fun (a0,a1,_)=>((aa_.of a0),a1),fun (a0,a1)=>(aa_.to a0,a1,()),[.v],[.ag [.v,.v,.v,.o,.o],.v],[.ag [.k,.k,.k,.own .s .iJson,.own .d .str],.k],[.cell 2 25,.tmp 3],[],[(4,be_.p4)],[],[(0,be_.o0)]⟩
def be_.F (n:Nat):Pat.Ts be_.d.ps→Option (aa_ × Bool):=fun (a0,_)=>be_ n a0
def cp_.d:FD Bool:=⟨60,51,1,[.ag (aM_.p .v)],[.b],fun (a0,_)=>a0,fun r=>(r,()),[.ag [.v,.v,.v,.v,.v,.v,.v,.v,.v]],[.v],[.k],[.tmp 2],[],[],[],[]⟩
def cp_.F (n:Nat):Pat.Ts cp_.d.ps→Option Bool:=fun (a0,_)=>cp_ n (aM_.of a0)
def b1_.d:FD Bs:=⟨48,43,1,[.ag (aM_.p .v)],[.s],fun (a0,_)=>a0,fun r=>(r,()),[.ag [.v,.v,.v,.v,.v,.v,.v,.v,.v]],[.v],[.k],[.tmp 2],[],[],[],[]⟩
def b1_.F (n:Nat):Pat.Ts b1_.d.ps→Option Bs:=fun (a0,_)=>b1_ n (aM_.of a0)
def ac_.p5:OD:=⟨[(0,.k),(2,.box [.k,.k,.k,.k,.k,.k,.k,.k,.k]),(4,.box [.k,.k,.k,.k,.k,.k,.own .d .iJson,.own .d .str,.own .s .iOp]),(5,.own .d .str),(6,.k)],[.s,.pb 1 0,.pb 2 0,.rt 3,.i .i64],[.ext,.box [.i .i64,.i .i64,.i .i64,.i .i64,.i .i64,.s,.nils,.nils,.nils],.box [.i .i64,.i .i64,.i .i64,.i .i64,.i .i64,.s,.rt 4,.rt 5,.rt 6],.arr .d .str 2,.arr .d .iJson 2,.arr .d .str 2,.arr .s .iOp 2]⟩
def ac_.p20:OD:=⟨[(0,.k),(2,.box [.k,.k,.k,.k,.k,.k,.k,.k,.k]),(4,.box [.k,.k,.k,.k,.k,.k,.own .d .iJson,.own .d .str,.own .s .iOp]),(5,.own .d .str),(6,.k),(8,.box [.k,.k,.k,.own .s .iJson,.own .d .str]),(10,.k)],[.s,.pb 1 0,.pb 2 0,.rt 3,.i .i64,.pb 4 0,.i .i64],[.ext,.box [.i .i64,.i .i64,.i .i64,.i .i64,.i .i64,.s,.nils,.nils,.nils],.box [.i .i64,.i .i64,.i .i64,.i .i64,.i .i64,.s,.rt 5,.rt 6,.rt 7],.arr .d .str 2,.box [.i .i64,.i .i64,.s,.rt 8,.rt 9],.arr .d .iJson 2,.arr .d .str 2,.arr .s .iOp 2,.arr .s .iJson 2,.arr .d .str 2]⟩
def ac_.o0:OD:=⟨[(0,.k),(2,.box [.k,.k,.k,.k,.k,.k,.k,.k,.k]),(4,.box [.k,.k,.k,.k,.k,.k,.own .d .iJson,.own .d .str,.own .s .iOp])],[.s,.pb 1 0,.pb 2 0],[.ext,.box [.i .i64,.i .i64,.i .i64,.i .i64,.i .i64,.s,.nils,.nils,.nils],.box [.i .i64,.i .i64,.i .i64,.i .i64,.i .i64,.s,.rt 3,.rt 4,.rt 5],.arr .d .iJson 2,.arr .d .str 2,.arr .s .iOp 2]⟩
def ac_.o3:OD:=⟨[(0,.k),(2,.box [.k,.k,.k,.k,.k,.k,.k,.k,.k]),(4,.box [.k,.k,.k,.k,.k,.k,.own .d .iJson,.own .d .str,.own .s .iOp]),(5,.own .d .str),(6,.k)],[.s,.pb 1 0,.pb 2 0,.rt 3,.i .i64],[.ext,.box [.i .i64,.i .i64,.i .i64,.i .i64,.i .i64,.s,.nils,.nils,.nils],.box [.i .i64,.i .i64,.i .i64,.i .i64,.i .i64,.s,.rt 4,.rt 5,.rt 6],.arr .d .str 2,.arr .d .iJson 2,.arr .d .str 2,.arr .s .iOp 2]⟩
def ac_.d:FD (aM_ × Bool):=⟨9,110,1,[.s],[.ag [.i .i64,.i .i64,.i .i64,.i .i64,.i .i64,.s,.sl .d .iJson,.sl .d .str,.sl .s .iOp],.b],fun (a0,a1,_)=>((aM_.of a0),a1),fun (a0,a1)=>(aM_.to a0,a1,()),[.v],[.ag [.v,.v,.v,.v,.v,.v,.o,.o,.o],.v],[.ag [.k,.k,.k,.k,.k,.k,.own .d .iJson,.own .d .str,.own .s .iOp],.k],[.cell 2 28,.tmp 3],[],[(20,ac_.p20),(5,ac_.p5)],[],[(0,ac_.o0),(3,ac_.o3)]⟩
def ac_.F (n:Nat):Pat.Ts ac_.d.ps→Option (aM_ × Bool):=fun (a0,_)=>ac_ n a0
def by_.p8:OD:=⟨[(4,.box [.k,.k]),(6,.own .s .iEvent),(7,.box [.k,.k]),(8,.k)],[.pb 1 0,.rt 2,.pb 3 0,.s],[.ext,.box (a1_.p .v),.arr .s .iEvent 2,.box (a1_.p .v)]⟩
def by_.o0:OD:=⟨[(4,.box [.k,.k]),(6,.own .s .iEvent),(7,.box [.k,.k]),(8,.k)],[.pb 1 0,.rt 2,.pb 3 0,.s],[.ext,.box (a1_.p .v),.arr .s .iEvent 2,.box (a1_.p .v)]⟩
def by_.d:FD (a1_ × (List aM_)):=⟨30,52,1,[.ag (a1_.p .v),.s],[.ag (a1_.p .v),.sl .s .iEvent],fun (a0,a1,_)=>((a1_.of a0),a1),fun (a0,a1)=>(a1_.to a0,a1,()),[.ag [.v,.v],.v],[.ag [.v,.v],.o],[.ag [.k,.k],.own .s .iEvent],[.cell 4 63,.tmp 5],[],[(8,by_.p8)],[],[(0,by_.o0)]⟩
def by_.F (n:Nat):Pat.Ts by_.d.ps→Option (a1_ × (List aM_)):=fun (a0,a1,_)=>by_ n (a1_.of a0) a1
def cz_.d:FD aL_:=⟨59,13,1,[.ag (aL_.p .v)],[.ag (aL_.p .d)],fun (a0,_)=>(aL_.of a0),fun r=>(aL_.to r,()),[.ag [.v,.v,.v,.v,.v,.v,.v,.v]],[.ag [.v,.v,.v,.o,.o,.v,.v,.v]],[.ag [.k,.k,.k,.own .d .iJson,.own .d .str,.k,.k,.k]],[.cell 2 45],[],[],[],[]⟩
def cz_.F (n:Nat):Pat.Ts cz_.d.ps→Option aL_:=fun (a0,_)=>cz_ n (aL_.of a0)
def cy_.d:FD (aa_ × Bool):=⟨165,21,3,[.ag (aa_.p .d),.ag (TOp.p .v)],[.ag (aa_.p .d),.b],fun (a0,a1,_)=>((aa_.of a0),a1),fun (a0,a1)=>(aa_.to a0,a1,()),[.ag [.v,.v,.v,.o,.o],.ag [.v,.v,.v,.v,.v,.v,.v]],[.ag [.v,.v,.v,.o,.o],.v],[.ag [.k,.k,.k,.own .d .iJson,.own .d .str],.k],[.cell 4 25,.tmp 5],[],[],[],[]⟩
def cy_.F (n:Nat):Pat.Ts cy_.d.ps→Option (aa_ × Bool):=fun (a0,a1,_)=>cy_ n (aa_.of a0) (TOp.of a1)
def a5_.p7:OD:=⟨[(0,.k),(3,.k),(4,.k)],[.s,.i .i64,.i .i64],[.ext]⟩
def a5_.o0:OD:=⟨[(0,.k),(3,.k)],[.s,.i .i64],[.ext]⟩
def a5_.d:FD Int:=⟨188,41,1,[.s],[.i .i64],fun (a0,_)=>a0,fun r=>(r,()),[.v],[.v],[.k],[.tmp 2],[],[(7,a5_.p7)],[],[(0,a5_.o0)]⟩
def a5_.F (n:Nat):Pat.Ts a5_.d.ps→Option Int:=fun (a0,_)=>a5_ n a0
def dd_.d:FD Int:=⟨167,23,1,[.ag (aa_.p .v),.s],[.i .i64],fun (a0,_)=>a0,fun r=>(r,()),[.ag [.v,.v,.v,.v,.v],.v],[.v],[.k],[.tmp 4],[],[],[],[]⟩
def dd_.F (n:Nat):Pat.Ts dd_.d.ps→Option Int:=fun (a0,a1,_)=>dd_ n (aa_.of a0) a1
def cZ_.d:FD (aa_ × Bool):=⟨187,58,3,[.ag (aa_.p .d),.s,.ag (TOp.p .v)],[.ag [.i .i64,.i .i64,.s,.sl .s .iJson,.sl .d .str],.b],fun (a0,a1,_)=>((aa_.of a0),a1),fun (a0,a1)=>(aa_.to a0,a1,()),[.ag [.v,.v,.v,.o,.o],.v,.ag [.v,.v,.v,.v,.v,.v,.v]],[.ag [.v,.v,.v,.o,.o],.v],[.ag [.k,.k,.k,.own .s .iJson,.own .d .str],.k],[.cell 6 25,.tmp 7],[],[],[],[]⟩
def cZ_.F (n:Nat):Pat.Ts cZ_.d.ps→Option (aa_ × Bool):=fun (a0,a1,a2,_)=>cZ_ n (aa_.of a0) a1 (TOp.of a2)
def bD_.p8:OD:=⟨[(3,.box [.k,.k,.k,.view .iJson,.own .d .str]),(6,.box [.k,.k,.k,.k,.k]),(8,.k)],[.pb 3 0,.pb 4 0,.i .i64],[.ext,.non,.arr .d .str 2,.box [.i .i64,.i .i64,.s,.sl .v .iJson,.rt 2],.box [.i .i64,.i .i64,.s,.nils,.nils]]⟩
def bD_.p17:OD:=⟨[(3,.box [.k,.k,.k,.own .s .iJson,.view .str]),(6,.box [.k,.k,.k,.k,.k]),(8,.k),(62,.k)],[.pb 3 0,.pb 4 0,.i .i64,.b],[.ext,.non,.non,.box [.i .i64,.i .i64,.s,.rt 5,.sl .v .str],.box [.i .i64,.i .i64,.s,.nils,.nils],.arr .s .iJson 2]⟩
def bD_.n17:OD:=⟨[(3,.box [.k,.k,.k,.own .s .iJson,.view .str]),(6,.box [.k,.k,.k,.k,.k])],[.pb 3 0,.pb 4 0],[.ext,.non,.non,.box [.i .i64,.i .i64,.s,.rt 5,.sl .v .str],.box [.i .i64,.i .i64,.s,.nils,.nils],.arr .s .iJson 2]⟩
def bD_.d:FD (aa_ × Bool):=⟨166,77,3,[.ag (aa_.p .d),.s,.ag (TOp.p .v)],[.ag [.i .i64,.i .i64,.s,.sl .s .iJson,.sl .v .str],.b],fun (a0,a1,_)=>((aa_.of a0),a1),fun (a0,a1)=>(aa_.to a0,a1,()),[.ag [.v,.v,.v,.o,.o],.v,.ag [.v,.v,.v,.v,.v,.v,.v]],[.ag [.v,.v,.v,.o,.v],.v],[.ag [.k,.k,.k,.own .s .iJson,.view .str],.k],[.cell 6 25,.tmp 7],[],[(17,bD_.p17),(8,bD_.p8)],[(17,bD_.n17)],[]⟩
def bD_.F (n:Nat):Pat.Ts bD_.d.ps→Option (aa_ × Bool):=fun (a0,a1,a2,_)=>bD_ n (aa_.of a0) a1 (TOp.of a2)
def cd_.d:FD (aa_ × Bool):=⟨132,57,3,[.ag (aa_.p .d),.sl .v .str,.ag (TOp.p .v)],[.ag [.i .i64,.i .i64,.s,.sl .s .iJson,.sl .v .str],.b],fun (a0,a1,_)=>((aa_.of a0),a1),fun (a0,a1)=>(aa_.to a0,a1,()),[.ag [.v,.v,.v,.o,.o],.v,.ag [.v,.v,.v,.v,.v,.v,.v]],[.ag [.v,.v,.v,.o,.v],.v],[.ag [.k,.k,.k,.own .s .iJson,.view .str],.k],[.cell 6 25,.tmp 7],[],[],[],[]⟩
def cd_.F (n:Nat):Pat.Ts cd_.d.ps→Option (aa_ × Bool):=fun (a0,a1,a2,_)=>cd_ n (aa_.of a0) a1 (TOp.of a2)
def c0_.d:FD (aa_ × Bool):=⟨101,35,1,[.ag (aa_.p .v),.ag (TOp.p .v)],[.ag [.i .i64,.i .i64,.s,.sl .s .iJson,.sl .v .str],.b],fun (a0,a1,_)=>((aa_.of a0),a1),fun (a0,a1)=>(aa_.to a0,a1,()),[.ag [.v,.v,.v,.v,.v],.ag [.v,.v,.v,.v,.v,.v,.v]],[.ag [.v,.v,.v,.o,.v],.v],[.ag [.k,.k,.k,.own .s .iJson,.view .str],.k],[.cell 4 25,.tmp 5],[],[],[],[]⟩
def c0_.F (n:Nat):Pat.Ts c0_.d.ps→Option (aa_ × Bool):=fun (a0,a1,_)=>c0_ n (aa_.of a0) (TOp.of a1)
def a0_.p7:OD:=⟨[(1,.view .iOp),(4,.box [.k,.k,.k,.k,.k]),(6,.box [.k,.k,.k,.own .s .iJson,.view .str]),(7,.k)],[.sl .v .iOp,.pb 1 0,.pb 2 0,.i .i64],[.ext,.box [.i .i64,.i .i64,.s,.nils,.nils],.box [.i .i64,.i .i64,.s,.rt 3,.sl .v .str],.arr .s .iJson 2]⟩
def a0_.o0:OD:=⟨[(4,.box [.k,.k,.k,.k,.k]),(6,.box [.k,.k,.k,.own .s .iJson,.view .str])],[.pb 1 0,.pb 2 0],[.ext,.box [.i .i64,.i .i64,.s,.nils,.nils],.box [.i .i64,.i .i64,.s,.rt 3,.sl .v .str],.arr .s .iJson 2]⟩
def a0_.d:FD (aa_ × Bool):=⟨62,41,1,[.ag (aa_.p .v),.sl .v .iOp],[.ag [.i .i64,.i .i64,.s,.sl .s .iJson,.sl .v .str],.b],fun (a0,a1,_)=>((aa_.of a0),a1),fun (a0,a1)=>(aa_.to a0,a1,()),[.ag [.v,.v,.v,.v,.v],.v],[.ag [.v,.v,.v,.o,.v],.v],[.ag [.k,.k,.k,.own .s .iJson,.view .str],.k],[.cell 4 25,.tmp 5],[],[(7,a0_.p7)],[],[(0,a0_.o0)]⟩
def a0_.F (n:Nat):Pat.Ts a0_.d.ps→Option (aa_ × Bool):=fun (a0,a1,_)=>a0_ n (aa_.of a0) a1
def bS_.d:FD aL_:=⟨16,64,1,[.ag (aL_.p .v),.ag (aM_.p .v)],[.ag [.i .i64,.i .i64,.s,.sl .s .iJson,.sl .v .str,.i .i64,.b,.b]],fun (a0,_)=>(aL_.of a0),fun r=>(aL_.to r,()),[.ag [.v,.v,.v,.v,.v,.v,.v,.v],.ag [.v,.v,.v,.v,.v,.v,.v,.v,.v]],[.ag [.v,.v,.v,.o,.v,.v,.v,.v]],[.ag [.k,.k,.k,.own .s .iJson,.view .str,.k,.k,.k]],[.cell 4 45],[],[],[],[]⟩
def bS_.F (n:Nat):Pat.Ts bS_.d.ps→Option aL_:=fun (a0,a1,_)=>bS_ n (aL_.of a0) (aM_.of a1)
def aP_.p4:OD:=⟨[(0,.view .iEvent),(2,.box [.k,.k,.k,.k,.k,.k,.k,.k]),(3,.box [.k,.k,.k,.own .s .iJson,.view .str,.k,.k,.k]),(4,.k)],[.sl .v .iEvent,.pb 1 0,.pb 2 0,.i .i64],[.ext,.box [.i .i64,.i .i64,.s,.nils,.nils,.i .i64,.b,.b],.box [.i .i64,.i .i64,.s,.rt 3,.sl .v .str,.i .i64,.b,.b],.arr .s .iJson 2]⟩
def aP_.o0:OD:=⟨[(2,.box [.k,.k,.k,.k,.k,.k,.k,.k]),(3,.box [.k,.k,.k,.own .s .iJson,.view .str,.k,.k,.k])],[.pb 1 0,.pb 2 0],[.ext,.box [.i .i64,.i .i64,.s,.nils,.nils,.i .i64,.b,.b],.box [.i .i64,.i .i64,.s,.rt 3,.sl .v .str,.i .i64,.b,.b],.arr .s .iJson 2]⟩
def aP_.d:FD aL_:=⟨24,19,1,[.sl .v .iEvent],[.ag [.i .i64,.i .i64,.s,.sl .s .iJson,.sl .v .str,.i .i64,.b,.b]],fun (a0,_)=>(aL_.of a0),fun r=>(aL_.to r,()),[.v],[.ag [.v,.v,.v,.o,.v,.v,.v,.v]],[.ag [.k,.k,.k,.own .s .iJson,.view .str,.k,.k,.k]],[.cell 2 45],[],[(4,aP_.p4)],[],[(0,aP_.o0)]⟩
def aP_.F (n:Nat):Pat.Ts aP_.d.ps→Option aL_:=fun (a0,_)=>aP_ n a0
def ci_.d:FD (aL_ × a1_):=⟨41,24,1,[.s],[.ag [.i .i64,.i .i64,.s,.sl .s .iJson,.sl .v .str,.i .i64,.b,.b],.ag (a1_.p .v)],fun (a0,a1,_)=>((aL_.of a0),(a1_.of a1)),fun (a0,a1)=>(aL_.to a0,a1_.to a1,()),[.v],[.ag [.v,.v,.v,.o,.v,.v,.v,.v],.ag [.v,.v]],[.ag [.k,.k,.k,.own .s .iJson,.view .str,.k,.k,.k],.ag [.k,.k]],[.cell 2 45,.cell 3 63],[],[],[],[]⟩
def ci_.F (n:Nat):Pat.Ts ci_.d.ps→Option (aL_ × a1_):=fun (a0,_)=>ci_ n a0
def strings_Index.d:FD Int:=⟨72,8,1,[.s,.s],[.i .i64],fun (a0,_)=>a0,fun r=>(r,()),[.v,.v],[],[],[.tmp 4],[],[],[],[]⟩
def strings_Index.F (n:Nat):Pat.Ts strings_Index.d.ps→Option Int:=fun (a0,a1,_)=>strings_Index n a0 a1
def aw_.d:FD Bool:=⟨142,18,1,[.s,.s],[.b],fun (a0,_)=>a0,fun r=>(r,()),[.v,.v],[.v],[.k],[.tmp 4],[],[],[],[]⟩
def aw_.F (n:Nat):Pat.Ts aw_.d.ps→Option Bool:=fun (a0,a1,_)=>aw_ n a0 a1
def aF_.d:FD (Bs × Bool):=⟨121,15,1,[.s,.s],(a1_.p .v),fun (a0,a1,_)=>(a0,a1),fun (a0,a1)=>(a0,a1,()),[.v,.v],[.v,.v],[.k,.k],[.tmp 4,.tmp 5],[],[],[],[]⟩
def aF_.F (n:Nat):Pat.Ts aF_.d.ps→Option (Bs × Bool):=fun (a0,a1,_)=>aF_ n a0 a1
def bx_.d:FD (Bs × Bool):=⟨85,11,1,[.s,.s],(a1_.p .v),fun (a0,a1,_)=>(a0,a1),fun (a0,a1)=>(a0,a1,()),[.v,.v],[.v,.v],[.k,.k],[.tmp 4,.tmp 5],[],[],[],[]⟩
def bx_.F (n:Nat):Pat.Ts bx_.d.ps→Option (Bs × Bool):=fun (a0,a1,_)=>bx_ n a0 a1
def bb_.d:FD Int:=⟨111,143,1,[.s,.s],[.i .i64],fun (a0,_)=>a0,fun r=>(r,()),[.v,.v],[],[],[.tmp 4],[],[],[],[]⟩
def bb_.F (n:Nat):Pat.Ts bb_.d.ps→Option Int:=fun (a0,a1,_)=>bb_ n a0 a1
def a3_.d:FD (Bs × Bs × Bool):=⟨143,23,1,[.s,.s],[.s,.s,.b],fun (a0,a1,a2,_)=>(a0,a1,a2),fun (a0,a1,a2)=>(a0,a1,a2,()),[.v,.v],[.v,.v,.v],[.k,.k,.k],[.tmp 4,.tmp 5,.tmp 6],[],[],[],[]⟩
def a3_.F (n:Nat):Pat.Ts a3_.d.ps→Option (Bs × Bs × Bool):=fun (a0,a1,_)=>a3_ n a0 a1
def cR_.d:FD (Bs × Bs × Bool):=⟨122,13,1,[.s,.s],[.s,.s,.b],fun (a0,a1,a2,_)=>(a0,a1,a2),fun (a0,a1,a2)=>(a0,a1,a2,()),[.v,.v],[.v,.v,.v],[.k,.k,.k],[.tmp 4,.tmp 5,.tmp 6],[],[],[],[]⟩
def cR_.F (n:Nat):Pat.Ts cR_.d.ps→Option (Bs × Bs × Bool):=fun (a0,a1,_)=>cR_ n a0 a1
def aB_.d:FD Bs:=⟨126,13,1,[.s,.s],[.s],fun (a0,_)=>a0,fun r=>(r,()),[.v,.v],[.v],[.k],[.tmp 4],[],[],[],[]⟩
def aB_.F (n:Nat):Pat.Ts aB_.d.ps→Option Bs:=fun (a0,a1,_)=>aB_ n a0 a1
def bs_.d:FD Bs:=⟨89,8,1,[.s,.s],[.s],fun (a0,_)=>a0,fun r=>(r,()),[.v,.v],[.v],[.k],[.tmp 4],[],[],[],[]⟩
def bs_.F (n:Nat):Pat.Ts bs_.d.ps→Option Bs:=fun (a0,a1,_)=>bs_ n a0 a1
def cB_.d:FD (Bs × Bs):=⟨86,19,1,[.s,.s],[.s,.s],fun (a0,a1,_)=>(a0,a1),fun (a0,a1)=>(a0,a1,()),[.v,.v],[.v,.v],[.k,.k],[.tmp 4,.tmp 5],[],[],[],[]⟩
def cB_.F (n:Nat):Pat.Ts cB_.d.ps→Option (Bs × Bs):=fun (a0,a1,_)=>cB_ n a0 a1
def b4_.d:FD (Int × Bool):=⟨87,18,1,[.s],[.i .i64,.er],fun (a0,a1,_)=>(a0,a1),fun (a0,a1)=>(a0,a1,()),[.v],[],[],[.tmp 2,.tmp 3],[],[],[],[]⟩
def b4_.F (n:Nat):Pat.Ts b4_.d.ps→Option (Int × Bool):=fun (a0,_)=>b4_ n a0
def a9_.d:FD (Bool × aV_):=⟨149,28,2,[.bx (a1_.p .v),.s],[.b,.bx (a1_.p .v)],fun (a0,a1,_)=>(a0,(aV_.of a1)),fun (a0,a1)=>(a0,aV_.to a1,()),[.ptr [.v,.v],.v],[.v,.ptr [.v,.v]],[.k,.box [.k,.k]],[.tmp 4],[.pb 1 0],[],[],[]⟩
def a9_.F (n:Nat):Pat.Ts a9_.d.ps→Option (Bool × aV_):=fun (a0,a1,_)=>a9_ n (aV_.of a0) a1
def bF_.d:FD Bool:=⟨150,8,1,[.s,.s],[.b],fun (a0,_)=>a0,fun r=>(r,()),[.v,.v],[.v],[.k],[.tmp 4],[],[],[],[]⟩
def bF_.F (n:Nat):Pat.Ts bF_.d.ps→Option Bool:=fun (a0,a1,_)=>bF_ n a0 a1
def bp_.d:FD aV_:=⟨179,11,2,[.bx (a1_.p .v),.s],[.bx (a1_.p .v)],fun (a0,_)=>(aV_.of a0),fun r=>(aV_.to r,()),[.ptr [.v,.v],.v],[.ptr [.v,.v]],[.box [.k,.k]],[],[.pb 1 0],[],[],[]⟩
def bp_.F (n:Nat):Pat.Ts bp_.d.ps→Option aV_:=fun (a0,a1,_)=>bp_ n (aV_.of a0) a1
def ak_.p4:OD:=⟨[(0,.box [.k,.k]),(3,.own .d .u8)],[.pb 1 0,.rt 2],[.ext,.box (a1_.p .v),.arr .d .u8 2]⟩
def ak_.o0:OD:=⟨[],[],[.ext,.box (a1_.p .v)]⟩
def ak_.d:FD (Bs × aV_):=⟨151,42,2,[.bx (a1_.p .v)],[.s,.bx (a1_.p .v)],fun (a0,a1,_)=>(a0,(aV_.of a1)),fun (a0,a1)=>(a0,aV_.to a1,()),[.ptr [.v,.v]],[.v,.ptr [.v,.v]],[.k,.box [.k,.k]],[.tmp 2],[.pb 1 0],[(4,ak_.p4)],[],[(0,ak_.o0)]⟩
def ak_.F (n:Nat):Pat.Ts ak_.d.ps→Option (Bs × aV_):=fun (a0,_)=>ak_ n (aV_.of a0)
def ag_.p7:OD:=⟨[(0,.box [.k,.k]),(1,.k),(2,.k),(3,.k),(8,.box [.k,.k,.k,.k,.k]),(9,.box [.k,.k,.k,.own .d .iJson,.own .d .str]),(10,.k)],[.pb 1 0,.i .i64,.s,.i .i64,.pb 2 0,.pb 3 0,.b],[.ext,.box (a1_.p .v),.box [.i .i64,.i .i64,.s,.nils,.nils],.box [.i .i64,.i .i64,.s,.rt 4,.rt 5],.arr .d .iJson 2,.arr .d .str 2]⟩
def ag_.o0:OD:=⟨[(0,.box [.k,.k]),(2,.k),(8,.box [.k,.k,.k,.k,.k]),(9,.box [.k,.k,.k,.own .d .iJson,.own .d .str])],[.pb 1 0,.s,.pb 2 0,.pb 3 0],[.ext,.box (a1_.p .v),.box [.i .i64,.i .i64,.s,.nils,.nils],.box [.i .i64,.i .i64,.s,.rt 4,.rt 5],.arr .d .iJson 2,.arr .d .str 2]⟩
def ag_.d:FD (aa_ × aV_):=⟨152,55,2,[.bx (a1_.p .v),.i .i64,.s,.i .i64],[.ag (aa_.p .d),.bx (a1_.p .v)],fun (a0,a1,_)=>((aa_.of a0),(aV_.of a1)),fun (a0,a1)=>(aa_.to a0,aV_.to a1,()),[.ptr [.v,.v],.v,.v,.v],[.ag [.v,.v,.v,.o,.o],.ptr [.v,.v]],[.ag [.k,.k,.k,.own .d .iJson,.own .d .str],.box [.k,.k]],[.cell 8 25],[.pb 1 0],[(7,ag_.p7)],[],[(0,ag_.o0)]⟩
def ag_.F (n:Nat):Pat.Ts ag_.d.ps→Option (aa_ × aV_):=fun (a0,a1,a2,a3,_)=>ag_ n (aV_.of a0) a1 a2 a3
def aS_.d:FD Bool:=⟨105,15,1,[.i .i64,.i .i64,.i .i64],[.b],fun (a0,_)=>a0,fun r=>(r,()),[.v,.v,.v],[.v],[.k],[.tmp 6],[],[],[],[]⟩
def aS_.F (n:Nat):Pat.Ts aS_.d.ps→Option Bool:=fun (a0,a1,a2,_)=>aS_ n a0 a1 a2
def ah_.p3:OD:=⟨[(0,.box [.k,.k]),(2,.box [.k,.k,.k,.k,.k]),(3,.k)],[.pb 1 0,.pb 2 0,.i .i64],[.ext,.box (a1_.p .v),.box [.i .i64,.i .i64,.s,.nils,.nils]]⟩
def ah_.o0:OD:=⟨[(0,.box [.k,.k]),(2,.box [.k,.k,.k,.k,.k]),(3,.k)],[.pb 1 0,.pb 2 0,.i .i64],[.ext,.box (a1_.p .v),.box [.i .i64,.i .i64,.s,.nils,.nils]]⟩
def ah_.d:FD (aa_ × aV_):=⟨153,63,2,[.bx (a1_.p .v)],[.ag (aa_.p .d),.bx (a1_.p .v)],fun (a0,a1,_)=>((aa_.of a0),(aV_.of a1)),fun (a0,a1)=>(aa_.to a0,aV_.to a1,()),[.ptr [.v,.v]],[.ag [.v,.v,.v,.o,.o],.ptr [.v,.v]],[.ag [.k,.k,.k,.own .d .iJson,.own .d .str],.box [.k,.k]],[.cell 2 25],[.pb 1 0],[(3,ah_.p3)],[],[(0,ah_.o0)]⟩
def ah_.F (n:Nat):Pat.Ts ah_.d.ps→Option (aa_ × aV_):=fun (a0,_)=>ah_ n (aV_.of a0)
def aN_.d:FD (aa_ × aV_):=⟨125,54,2,[.bx (a1_.p .v),.i .i64],[.ag (aa_.p .d),.bx (a1_.p .v)],fun (a0,a1,_)=>((aa_.of a0),(aV_.of a1)),fun (a0,a1)=>(aa_.to a0,aV_.to a1,()),[.ptr [.v,.v],.v],[.ag [.v,.v,.v,.o,.o],.ptr [.v,.v]],[.ag [.k,.k,.k,.own .d .iJson,.own .d .str],.box [.k,.k]],[.cell 4 25],[.pb 1 0],[],[],[]⟩
def aN_.F (n:Nat):Pat.Ts aN_.d.ps→Option (aa_ × aV_):=fun (a0,a1,_)=>aN_ n (aV_.of a0) a1
def bk_.d:FD Bool:=⟨189,5,1,[.i .i64],[.b],fun (a0,_)=>a0,fun r=>(r,()),[.v],[.v],[.k],[.tmp 2],[],[],[],[]⟩
def bk_.F (n:Nat):Pat.Ts bk_.d.ps→Option Bool:=fun (a0,_)=>bk_ n a0
def as_.p3:OD:=⟨[(0,.k),(5,.k),(6,.k)],[.s,.i .i64,.i .i64],[.ext]⟩
def as_.o0:OD:=⟨[(0,.k)],[.s],[.ext]⟩
def as_.d:FD Bool:=⟨169,19,1,[.s],[.b],fun (a0,_)=>a0,fun r=>(r,()),[.v],[.v],[.k],[.tmp 2],[],[(3,as_.p3)],[],[(0,as_.o0)]⟩
def as_.F (n:Nat):Pat.Ts as_.d.ps→Option Bool:=fun (a0,_)=>as_ n a0
def ap_.p3:OD:=⟨[(0,.view .str),(5,.view .str),(6,.k),(7,.k)],[.sl .v .str,.sl .v .str,.i .i64,.i .i64],[.ext]⟩
def ap_.o0:OD:=⟨[],[],[.ext]⟩
def ap_.d:FD Bool:=⟨190,29,1,[.sl .v .str],[.b],fun (a0,_)=>a0,fun r=>(r,()),[.v],[.v],[.k],[.tmp 2],[],[(3,ap_.p3)],[],[(0,ap_.o0)]⟩
def ap_.F (n:Nat):Pat.Ts ap_.d.ps→Option Bool:=fun (a0,_)=>ap_ n a0
def c2_.d:FD Bool:=⟨168,90,1,[.ag (aa_.p .v)],[.b],fun (a0,_)=>a0,fun r=>(r,()),[.ag [.v,.v,.v,.v,.v]],[.v],[.k],[.tmp 2],[],[],[],[]⟩
def c2_.F (n:Nat):Pat.Ts c2_.d.ps→Option Bool:=fun (a0,_)=>c2_ n (aa_.of a0)
def a7_.p7:OD:=⟨[(1,.k),(5,.k),(16,.view .iJson),(17,.k),(18,.k)],[.i .i64,.i .i64,.sl .v .iJson,.i .i64,.i .i64],[.ext]⟩
def a7_.o0:OD:=⟨[(5,.k)],[.i .i64],[.ext]⟩
def a7_.d:FD Int:=⟨133,32,1,[.ag (aa_.p .v),.i .i64],[.i .i64],fun (a0,_)=>a0,fun r=>(r,()),[.ag [.v,.v,.v,.v,.v],.v],[.v],[.k],[.tmp 4],[],[(7,a7_.p7)],[],[(0,a7_.o0)]⟩
def a7_.F (n:Nat):Pat.Ts a7_.d.ps→Option Int:=fun (a0,a1,_)=>a7_ n (aa_.of a0) a1
def b0_.d:FD Bool:=⟨109,6,1,[.ag (aa_.p .v)],[.b],fun (a0,_)=>a0,fun r=>(r,()),[.ag [.v,.v,.v,.v,.v]],[.v],[.k],[.tmp 2],[],[],[],[]⟩
def b0_.F (n:Nat):Pat.Ts b0_.d.ps→Option Bool:=fun (a0,_)=>b0_ n (aa_.of a0)
def bi_.p4:OD:=⟨[(0,.k),(3,.own .d .u8),(7,.k),(8,.k)],[.s,.rt 1,.i .i64,.i .i64],[.ext,.arr .d .u8 2]⟩
def bi_.o0:OD:=⟨[(3,.own .d .u8)],[.rt 1],[.ext,.arr .d .u8 2]⟩
def bi_.d:FD Bs:=⟨160,35,1,[.s],[.s],fun (a0,_)=>a0,fun r=>(r,()),[.v],[.v],[.k],[.tmp 2],[],[(4,bi_.p4)],[],[(0,bi_.o0)]⟩
def bi_.F (n:Nat):Pat.Ts bi_.d.ps→Option Bs:=fun (a0,_)=>bi_ n a0
def strconv_Itoa.d:FD Bs:=⟨128,5,1,[.i .i64],[.s],fun (a0,_)=>a0,fun r=>(r,()),[.v],[],[],[.tmp 2],[],[],[],[]⟩
def strconv_Itoa.F (n:Nat):Pat.Ts strconv_Itoa.d.ps→Option Bs:=fun (a0,_)=>strconv_Itoa n a0
def strings_Join.d:FD Bs:=⟨161,75,1,[.sl .v .str,.s],[.s],fun (a0,_)=>a0,fun r=>(r,()),[.v,.v],[],[],[.tmp 4],[],[],[],[]⟩
def strings_Join.F (n:Nat):Pat.Ts strings_Join.d.ps→Option Bs:=fun (a0,a1,_)=>strings_Join n a0 a1
def aX_.p4:OD:=⟨[(1,.box [.k,.k,.k,.view .iJson,.view .str]),(3,.own .d .str),(9,.view .iJson),(10,.k),(11,.k)],[.pb 1 0,.rt 2,.sl .v .iJson,.i .i64,.i .i64],[.ext,.box (aa_.p .v),.arr .d .str 2]⟩
def aX_.o0:OD:=⟨[(1,.box [.k,.k,.k,.view .iJson,.view .str]),(3,.own .d .str)],[.pb 1 0,.rt 2],[.ext,.box (aa_.p .v),.arr .d .str 2]⟩
def aX_.d:FD Bs:=⟨129,66,1,[.ag (aa_.p .v)],[.s],fun (a0,_)=>a0,fun r=>(r,()),[.ag [.v,.v,.v,.v,.v]],[.v],[.k],[.tmp 2],[],[(4,aX_.p4)],[],[(0,aX_.o0)]⟩
def aX_.F (n:Nat):Pat.Ts aX_.d.ps→Option Bs:=fun (a0,_)=>aX_ n (aa_.of a0)
def ct_.d:FD Bs:=⟨92,13,1,[.ag (aa_.p .v)],[.s],fun (a0,_)=>a0,fun r=>(r,()),[.ag [.v,.v,.v,.v,.v]],[.v],[.k],[.tmp 2],[],[],[],[]⟩
def ct_.F (n:Nat):Pat.Ts ct_.d.ps→Option Bs:=fun (a0,_)=>ct_ n (aa_.of a0)
def cx_.d:FD (aa_ × Bool):=⟨88,27,1,[.s],[.ag (aa_.p .d),.b],fun (a0,a1,_)=>((aa_.of a0),a1),fun (a0,a1)=>(aa_.to a0,a1,()),[.v],[.ag [.v,.v,.v,.o,.o],.v],[.ag [.k,.k,.k,.own .d .iJson,.own .d .str],.k],[.cell 2 25,.tmp 3],[],[],[],[]⟩
def cx_.F (n:Nat):Pat.Ts cx_.d.ps→Option (aa_ × Bool):=fun (a0,_)=>cx_ n a0
def al_.p3:OD:=⟨[(0,.view .str),(1,.k),(7,.k),(8,.k)],[.sl .v .str,.s,.i .i64,.i .i64],[.ext]⟩
def al_.o0:OD:=⟨[],[],[.ext]⟩
def al_.d:FD Int:=⟨156,19,1,[.sl .v .str,.s],[.i .i64],fun (a0,_)=>a0,fun r=>(r,()),[.v,.v],[.v],[.k],[.tmp 4],[],[(3,al_.p3)],[],[(0,al_.o0)]⟩
def al_.F (n:Nat):Pat.Ts al_.d.ps→Option Int:=fun (a0,a1,_)=>al_ n a0 a1
def bW_.d:FD (List Bs):=⟨108,6,1,[.sl .v .str],[.sl .d .str],fun (a0,_)=>a0,fun r=>(r,()),[.v],[.o],[.own .d .str],[.tmp 2],[],[],[],[]⟩
def bW_.F (n:Nat):Pat.Ts bW_.d.ps→Option (List Bs):=fun (a0,_)=>bW_ n a0
def aq_.p4:OD:=⟨[(2,.box [.k,.k,.k,.k,.k]),(3,.box [.k,.k,.k,.own .d .iJson,.own .d .str]),(17,.view .iJson),(18,.k),(19,.k)],[.pb 1 0,.pb 2 0,.sl .v .iJson,.i .i64,.i .i64],[.ext,.box [.i .i64,.i .i64,.s,.nils,.nils],.box [.i .i64,.i .i64,.s,.rt 3,.rt 4],.arr .d .iJson 2,.arr .d .str 2]⟩
def aq_.o0:OD:=⟨[(2,.box [.k,.k,.k,.k,.k]),(3,.box [.k,.k,.k,.own .d .iJson,.own .d .str])],[.pb 1 0,.pb 2 0],[.ext,.box [.i .i64,.i .i64,.s,.nils,.nils],.box [.i .i64,.i .i64,.s,.rt 3,.rt 4],.arr .d .iJson 2,.arr .d .str 2]⟩
def aq_.d:FD aa_:=⟨67,32,1,[.ag (aa_.p .v)],[.ag (aa_.p .d)],fun (a0,_)=>(aa_.of a0),fun r=>(aa_.to r,()),[.ag [.v,.v,.v,.v,.v]],[.ag [.v,.v,.v,.o,.o]],[.ag [.k,.k,.k,.own .d .iJson,.own .d .str]],[.cell 2 25],[],[(4,aq_.p4)],[],[(0,aq_.o0)]⟩
def aq_.F (n:Nat):Pat.Ts aq_.d.ps→Option aa_:=fun (a0,_)=>aq_ n (aa_.of a0)
def cW_.d:FD (aa_ × Bool):=⟨154,25,1,[.ag (aa_.p .v),.s],[.ag (aa_.p .d),.b],fun (a0,a1,_)=>((aa_.of a0),a1),fun (a0,a1)=>(aa_.to a0,a1,()),[.ag [.v,.v,.v,.v,.v],.v],[.ag [.v,.v,.v,.o,.o],.v],[.ag [.k,.k,.k,.own .d .iJson,.own .d .str],.k],[.cell 4 25,.tmp 5],[],[],[],[]⟩
def cW_.F (n:Nat):Pat.Ts cW_.d.ps→Option (aa_ × Bool):=fun (a0,a1,_)=>cW_ n (aa_.of a0) a1
def strings_Split.d:FD (List Bs):=⟨180,8,1,[.s,.s],[.sl .d .str],fun (a0,_)=>a0,fun r=>(r,()),[.v,.v],[],[],[.tmp 4],[],[],[],[]⟩
def strings_Split.F (n:Nat):Pat.Ts strings_Split.d.ps→Option (List Bs):=fun (a0,a1,_)=>strings_Split n a0 a1
def strings_ReplaceAll.d:FD Bs:=⟨181,11,1,[.s,.s,.s],[.s],fun (a0,_)=>a0,fun r=>(r,()),[.v,.v,.v],[],[],[.tmp 6],[],[],[],[]⟩
def strings_ReplaceAll.F (n:Nat):Pat.Ts strings_ReplaceAll.d.ps→Option Bs:=fun (a0,a1,a2,_)=>strings_ReplaceAll n a0 a1 a2
def a6_.p4:OD:=⟨[(3,.k),(6,.view .str),(7,.k),(8,.k)],[.s,.sl .v .str,.i .i64,.i .i64],[.ext]⟩
def a6_.o0:OD:=⟨[(3,.k)],[.s],[.ext]⟩
def a6_.d:FD Bs:=⟨162,20,1,[.sl .v .str],[.s],fun (a0,_)=>a0,fun r=>(r,()),[.v],[.v],[.k],[.tmp 2],[],[(4,a6_.p4)],[],[(0,a6_.o0)]⟩
def a6_.F (n:Nat):Pat.Ts a6_.d.ps→Option Bs:=fun (a0,_)=>a6_ n a0
def ba_.p7:OD:=⟨[(0,.k),(4,.own .d .str),(13,.view .str),(14,.k),(15,.k)],[.s,.rt 1,.sl .v .str,.i .i64,.i .i64],[.ext,.arr .d .str 2]⟩
def ba_.o0:OD:=⟨[(0,.k),(4,.own .d .str)],[.s,.rt 1],[.ext,.arr .d .str 2]⟩
def ba_.d:FD ((List Bs) × Bool):=⟨155,36,1,[.s],[.sl .d .str,.b],fun (a0,a1,_)=>(a0,a1),fun (a0,a1)=>(a0,a1,()),[.v],[.o,.v],[.own .d .str,.k],[.tmp 2,.tmp 3],[],[(7,ba_.p7)],[],[(0,ba_.o0)]⟩
def ba_.F (n:Nat):Pat.Ts ba_.d.ps→Option ((List Bs) × Bool):=fun (a0,_)=>ba_ n a0
def cf_.d:FD (List Bs):=⟨157,2,1,[],[.sl .d .str],fun (a0,_)=>a0,fun r=>(r,()),[],[.o],[.own .d .str],[.tmp 0],[],[],[],[]⟩
def cf_.F (n:Nat):Pat.Ts cf_.d.ps→Option (List Bs):=fun _=>cf_ n ()
def cG_.d:FD Bool:=⟨106,28,1,[.ag (aa_.p .v)],[.b],fun (a0,_)=>a0,fun r=>(r,()),[.ag [.v,.v,.v,.v,.v]],[.v],[.k],[.tmp 2],[],[],[],[]⟩
def cG_.F (n:Nat):Pat.Ts cG_.d.ps→Option Bool:=fun (a0,_)=>cG_ n (aa_.of a0)
def bH_.p3:OD:=⟨[(1,.box [.k,.view .str,.k,.k,.k,.view .iJson,.view .str]),(6,.view .str),(7,.k),(8,.k)],[.pb 1 0,.sl .v .str,.i .i64,.i .i64],[.ext,.box (TOp.p .v)]⟩
def bH_.o0:OD:=⟨[(1,.box [.k,.view .str,.k,.k,.k,.view .iJson,.view .str])],[.pb 1 0],[.ext,.box (TOp.p .v)]⟩
def bH_.d:FD Bool:=⟨134,40,1,[.ag (TOp.p .v)],[.b],fun (a0,_)=>a0,fun r=>(r,()),[.ag [.v,.v,.v,.v,.v,.v,.v]],[.v],[.k],[.tmp 2],[],[(3,bH_.p3)],[],[(0,bH_.o0)]⟩
def bH_.F (n:Nat):Pat.Ts bH_.d.ps→Option Bool:=fun (a0,_)=>bH_ n (TOp.of a0)
def cK_.d:FD aa_:=⟨163,8,3,[.ag (aa_.p .d)],[.ag (aa_.p .d)],fun (a0,_)=>(aa_.of a0),fun r=>(aa_.to r,()),[.ag [.v,.v,.v,.o,.o]],[.ag [.v,.v,.v,.o,.o]],[.ag [.k,.k,.k,.own .d .iJson,.own .d .str]],[.cell 2 25],[],[],[],[]⟩
def cK_.F (n:Nat):Pat.Ts cK_.d.ps→Option aa_:=fun (a0,_)=>cK_ n (aa_.of a0)
def cM_.d:FD aa_:=⟨130,41,1,[.ag (TOp.p .v)],[.ag (aa_.p .d)],fun (a0,_)=>(aa_.of a0),fun r=>(aa_.to r,()),[.ag [.v,.v,.v,.v,.v,.v,.v]],[.ag [.v,.v,.v,.o,.o]],[.ag [.k,.k,.k,.own .d .iJson,.own .d .str]],[.cell 2 25],[],[],[],[]⟩
def cM_.F (n:Nat):Pat.Ts cM_.d.ps→Option aa_:=fun (a0,_)=>cM_ n (TOp.of a0)
def am_.p6:OD:=⟨[(0,.view .str),(1,.view .str),(12,.k),(13,.k)],[.sl .v .str,.sl .v .str,.i .i64,.i .i64],[.ext]⟩
def am_.o0:OD:=⟨[],[],[.ext]⟩
def am_.d:FD Bool:=⟨201,26,1,[.sl .v .str,.sl .v .str],[.b],fun (a0,_)=>a0,fun r=>(r,()),[.v,.v],[.v],[.k],[.tmp 4],[],[(6,am_.p6)],[],[(0,am_.o0)]⟩
def am_.F (n:Nat):Pat.Ts am_.d.ps→Option Bool:=fun (a0,a1,_)=>am_ n a0 a1
def ab_.p6:OD:=⟨[(1,.view .iJson),(2,.k),(15,.view .iJson),(16,.k),(17,.k)],[.sl .v .iJson,.clo 182 [],.sl .v .iJson,.i .i64,.i .i64],[.ext]⟩
def ab_.o0:OD:=⟨[],[],[.ext]⟩
def ab_.d:FD Bool:=⟨202,32,1,[.sl .v .iJson,.sl .v .iJson,.clo 182 []],[.b],fun (a0,_)=>a0,fun r=>(r,()),[.v,.v,.v],[.v],[.k],[.tmp 6],[],[(6,ab_.p6)],[],[(0,ab_.o0)]⟩
def ab_.F (n:Nat):Pat.Ts ab_.d.ps→Option Bool:=fun (a0,a1,_,_)=>ab_ n a0 a1
def cC_.d:FD Bool:=⟨182,38,1,[.ag (aa_.p .v),.ag (aa_.p .v)],[.b],fun (a0,_)=>a0,fun r=>(r,()),[.ag [.v,.v,.v,.v,.v],.ag [.v,.v,.v,.v,.v]],[.v],[.k],[.tmp 4],[],[],[],[]⟩
def cC_.F (n:Nat):Pat.Ts cC_.d.ps→Option Bool:=fun (a0,a1,_)=>cC_ n (aa_.of a0) (aa_.of a1)
def cl_.d:FD Bool:=⟨158,16,1,[.ag (aa_.p .v),.ag (aa_.p .v)],[.b],fun (a0,_)=>a0,fun r=>(r,()),[.ag [.v,.v,.v,.v,.v],.ag [.v,.v,.v,.v,.v]],[.v],[.k],[.tmp 4],[],[],[],[]⟩
def cl_.F (n:Nat):Pat.Ts cl_.d.ps→Option Bool:=fun (a0,a1,_)=>cl_ n (aa_.of a0) (aa_.of a1)
def cH_.d:FD (TOp × Bool):=⟨127,66,1,[.ag (aa_.p .v)],[.ag (TOp.p .d),.b],fun (a0,a1,_)=>((TOp.of a0),a1),fun (a0,a1)=>(TOp.to a0,a1,()),[.ag [.v,.v,.v,.v,.v]],[.ag [.v,.o,.v,.v,.v,.o,.o],.v],[.ag [.k,.own .d .str,.k,.k,.k,.own .d .iJson,.own .d .str],.k],[.cell 2 83,.tmp 3],[],[],[],[]⟩
def cH_.F (n:Nat):Pat.Ts cH_.d.ps→Option (TOp × Bool):=fun (a0,_)=>cH_ n (aa_.of a0)
def bo_.p4:OD:=⟨[(1,.box [.k,.k,.k,.view .iJson,.view .str]),(4,.own .d .iOp),(11,.view .iJson),(12,.k),(13,.k)],[.pb 1 0,.rt 2,.sl .v .iJson,.i .i64,.i .i64],[.ext,.box (aa_.p .v),.arr .d .iOp 2]⟩
def bo_.o0:OD:=⟨[(1,.box [.k,.k,.k,.view .iJson,.view .str]),(4,.own .d .iOp)],[.pb 1 0,.rt 2],[.ext,.box (aa_.p .v),.arr .d .iOp 2]⟩
def bo_.d:FD ((List TOp) × Bool):=⟨90,33,1,[.ag (aa_.p .v)],[.sl .d .iOp,.b],fun (a0,a1,_)=>(a0,a1),fun (a0,a1)=>(a0,a1,()),[.ag [.v,.v,.v,.v,.v]],[.o,.v],[.own .d .iOp,.k],[.tmp 2,.tmp 3],[],[(4,bo_.p4)],[],[(0,bo_.o0)]⟩
def bo_.F (n:Nat):Pat.Ts bo_.d.ps→Option ((List TOp) × Bool):=fun (a0,_)=>bo_ n (aa_.of a0)
def cg_.d:FD aM_:=⟨49,96,1,[.s],[.ag (aM_.p .d)],fun (a0,_)=>(aM_.of a0),fun r=>(aM_.to r,()),[.v],[.ag [.v,.v,.v,.v,.v,.v,.o,.o,.o]],[.ag [.k,.k,.k,.k,.k,.k,.own .d .iJson,.own .d .str,.own .d .iOp]],[.cell 2 28],[],[],[],[]⟩
def cg_.F (n:Nat):Pat.Ts cg_.d.ps→Option aM_:=fun (a0,_)=>cg_ n a0
def bX_.d:FD Bool:=⟨104,5,1,[.i .i64],[.b],fun (a0,_)=>a0,fun r=>(r,()),[.v],[.v],[.k],[.tmp 2],[],[],[],[]⟩
def bX_.F (n:Nat):Pat.Ts bX_.d.ps→Option Bool:=fun (a0,_)=>bX_ n a0
def a2_.p4:OD:=⟨[(2,.box [.k,.k,.k,.k,.k]),(4,.box [.k,.k,.k,.own .d .iJson,.k]),(9,.view .iOp),(10,.k),(11,.k)],[.pb 1 0,.pb 2 0,.sl .v .iOp,.i .i64,.i .i64],[.ext,.box [.i .i64,.i .i64,.s,.nils,.nils],.box [.i .i64,.i .i64,.s,.rt 3,.nils],.arr .d .iJson 2]⟩
def a2_.o0:OD:=⟨[(2,.box [.k,.k,.k,.k,.k]),(4,.box [.k,.k,.k,.own .d .iJson,.k])],[.pb 1 0,.pb 2 0],[.ext,.box [.i .i64,.i .i64,.s,.nils,.nils],.box [.i .i64,.i .i64,.s,.rt 3,.nils],.arr .d .iJson 2]⟩
def a2_.d:FD (aa_ × Bool):=⟨93,29,1,[.sl .v .iOp],[.ag (aa_.p .d),.b],fun (a0,a1,_)=>((aa_.of a0),a1),fun (a0,a1)=>(aa_.to a0,a1,()),[.v],[.ag [.v,.v,.v,.o,.o],.v],[.ag [.k,.k,.k,.own .d .iJson,.own .d .str],.k],[.cell 2 25,.tmp 3],[],[(4,a2_.p4)],[],[(0,a2_.o0)]⟩
def a2_.F (n:Nat):Pat.Ts a2_.d.ps→Option (aa_ × Bool):=fun (a0,_)=>a2_ n a0
def b2_.d:FD Int:=⟨107,21,1,[.sl .v .iOp],[.i .i64],fun (a0,_)=>a0,fun r=>(r,()),[.v],[.v],[.k],[.tmp 2],[],[],[],[]⟩
def b2_.F (n:Nat):Pat.Ts b2_.d.ps→Option Int:=fun (a0,_)=>b2_ n a0
def cs_.d:FD Bool:=⟨66,57,1,[.ag (aM_.p .v)],[.b],fun (a0,_)=>a0,fun r=>(r,()),[.ag [.v,.v,.v,.v,.v,.v,.v,.v,.v]],[.v],[.k],[.tmp 2],[],[],[],[]⟩
def cs_.F (n:Nat):Pat.Ts cs_.d.ps→Option Bool:=fun (a0,_)=>cs_ n (aM_.of a0)
def cL_.d:FD Bs:=⟨91,5,1,[.i .i64],[.s],fun (a0,_)=>a0,fun r=>(r,()),[.v],[.v],[.k],[.tmp 2],[],[],[],[]⟩
def cL_.F (n:Nat):Pat.Ts cL_.d.ps→Option Bs:=fun (a0,_)=>cL_ n a0
def b3_.d:FD Bs:=⟨50,43,1,[.ag (aM_.p .v)],[.s],fun (a0,_)=>a0,fun r=>(r,()),[.ag [.v,.v,.v,.v,.v,.v,.v,.v,.v]],[.v],[.k],[.tmp 2],[],[],[],[]⟩
def b3_.F (n:Nat):Pat.Ts b3_.d.ps→Option Bs:=fun (a0,_)=>b3_ n (aM_.of a0)
def bP_.d:FD (aM_ × Bool):=⟨10,19,1,[.s],[.ag (aM_.p .d),.b],fun (a0,a1,_)=>((aM_.of a0),a1),fun (a0,a1)=>(aM_.to a0,a1,()),[.v],[.ag [.v,.v,.v,.v,.v,.v,.o,.o,.o],.v],[.ag [.k,.k,.k,.k,.k,.k,.own .d .iJson,.own .d .str,.own .d .iOp],.k],[.cell 2 28,.tmp 3],[],[],[],[]⟩
def bP_.F (n:Nat):Pat.Ts bP_.d.ps→Option (aM_ × Bool):=fun (a0,_)=>bP_ n a0
def bt_.p5:OD:=⟨[(4,.box [.k,.k]),(6,.own .d .iEvent),(7,.k),(8,.k)],[.pb 1 0,.rt 2,.s,.b],[.ext,.box (a1_.p .v),.arr .d .iEvent 2]⟩
def bt_.o0:OD:=⟨[(4,.box [.k,.k]),(6,.own .d .iEvent),(7,.k),(8,.k)],[.pb 1 0,.rt 2,.s,.b],[.ext,.box (a1_.p .v),.arr .d .iEvent 2]⟩
def bt_.d:FD (a1_ × (List aM_)):=⟨32,52,1,[.ag (a1_.p .v),.s],[.ag (a1_.p .v),.sl .d .iEvent],fun (a0,a1,_)=>((a1_.of a0),a1),fun (a0,a1)=>(a1_.to a0,a1,()),[.ag [.v,.v],.v],[.ag [.v,.v],.o],[.ag [.k,.k],.own .d .iEvent],[.cell 4 63,.tmp 5],[],[(5,bt_.p5)],[],[(0,bt_.o0)]⟩
def bt_.F (n:Nat):Pat.Ts bt_.d.ps→Option (a1_ × (List aM_)):=fun (a0,a1,_)=>bt_ n (a1_.of a0) a1
def bU_.d:FD aL_:=⟨65,8,1,[.ag (aL_.p .v)],[.ag (aL_.p .d)],fun (a0,_)=>(aL_.of a0),fun r=>(aL_.to r,()),[.ag [.v,.v,.v,.v,.v,.v,.v,.v]],[.ag [.v,.v,.v,.o,.o,.v,.v,.v]],[.ag [.k,.k,.k,.own .d .iJson,.own .d .str,.k,.k,.k]],[.cell 2 45],[],[],[],[]⟩
def bU_.F (n:Nat):Pat.Ts bU_.d.ps→Option aL_:=fun (a0,_)=>bU_ n (aL_.of a0)
def c1_.d:FD (aa_ × Bool):=⟨170,22,3,[.ag (aa_.p .d),.ag (TOp.p .v)],[.ag (aa_.p .d),.b],fun (a0,a1,_)=>((aa_.of a0),a1),fun (a0,a1)=>(aa_.to a0,a1,()),[.ag [.v,.v,.v,.o,.o],.ag [.v,.v,.v,.v,.v,.v,.v]],[.ag [.v,.v,.v,.o,.o],.v],[.ag [.k,.k,.k,.own .d .iJson,.own .d .str],.k],[.cell 4 25,.tmp 5],[],[],[],[]⟩
def c1_.F (n:Nat):Pat.Ts c1_.d.ps→Option (aa_ × Bool):=fun (a0,a1,_)=>c1_ n (aa_.of a0) (TOp.of a1)
def bz_.d:FD Bool:=⟨225,6,1,[.s],[.b],fun (a0,_)=>a0,fun r=>(r,()),[.v],[.v],[.k],[.tmp 2],[],[],[],[]⟩
def bz_.F (n:Nat):Pat.Ts bz_.d.ps→Option Bool:=fun (a0,_)=>bz_ n a0
def bL_.d:FD Bool:=⟨209,17,1,[.s,.s],[.b],fun (a0,_)=>a0,fun r=>(r,()),[.v,.v],[.v],[.k],[.tmp 4],[],[],[],[]⟩
def bL_.F (n:Nat):Pat.Ts bL_.d.ps→Option Bool:=fun (a0,a1,_)=>bL_ n a0 a1
def bg_.d:FD Bool:=⟨210,6,1,[.s],[.b],fun (a0,_)=>a0,fun r=>(r,()),[.v],[.v],[.k],[.tmp 2],[],[],[],[]⟩
def bg_.F (n:Nat):Pat.Ts bg_.d.ps→Option Bool:=fun (a0,_)=>bg_ n a0
def ad_.p4:OD:=⟨[(0,.view .str),(1,.k),(6,.k),(7,.k),(8,.k)],[.sl .v .str,.s,.i .i64,.i .i64,.i .i64],[.ext]⟩
def ad_.o0:OD:=⟨[(0,.view .str),(1,.k),(6,.k),(7,.k)],[.sl .v .str,.s,.i .i64,.i .i64],[.ext]⟩
def ad_.d:FD (Int × Bool):=⟨191,54,1,[.sl .v .str,.s],[.i .i64,.b],fun (a0,a1,_)=>(a0,a1),fun (a0,a1)=>(a0,a1,()),[.v,.v],[.v,.v],[.k,.k],[.tmp 4,.tmp 5],[],[(4,ad_.p4)],[],[(0,ad_.o0)]⟩
def ad_.F (n:Nat):Pat.Ts ad_.d.ps→Option (Int × Bool):=fun (a0,a1,_)=>ad_ n a0 a1
def bv_.d:FD (List Bs):=⟨192,95,1,[.sl .d .str,.i .i64,.sl .d .str],[.sl .d .str],fun (a0,_)=>a0,fun r=>(r,()),[.o,.v,.o],[],[],[.tmp 6],[],[],[],[]⟩
def bv_.F (n:Nat):Pat.Ts bv_.d.ps→Option (List Bs):=fun (a0,a1,a2,_)=>bv_ n a0 a1 a2
def bA_.d:FD (List aa_):=⟨193,95,1,[.sl .d .iJson,.i .i64,.sl .d .iJson],[.sl .d .iJson],fun (a0,_)=>a0,fun r=>(r,()),[.o,.v,.o],[],[],[.tmp 6],[],[],[],[]⟩
def bA_.F (n:Nat):Pat.Ts bA_.d.ps→Option (List aa_):=fun (a0,a1,a2,_)=>bA_ n a0 a1 a2
def cr_.d:FD Int:=⟨194,24,1,[.s],[.i .i64],fun (a0,_)=>a0,fun r=>(r,()),[.v],[.v],[.k],[.tmp 2],[],[],[],[]⟩
def cr_.F (n:Nat):Pat.Ts cr_.d.ps→Option Int:=fun (a0,_)=>cr_ n a0
def cA_.d:FD (aa_ × Bool):=⟨171,69,5,[.ag (aa_.p .d),.s,.ag (aa_.p .d)],[.ag (aa_.p .d),.b],fun (a0,a1,_)=>((aa_.of a0),a1),fun (a0,a1)=>(aa_.to a0,a1,()),[.ag [.v,.v,.v,.o,.o],.v,.ag [.v,.v,.v,.o,.o]],[.ag [.v,.v,.v,.o,.o],.v],[.ag [.k,.k,.k,.own .d .iJson,.own .d .str],.k],[.cell 6 25,.tmp 7],[],[],[],[]⟩
def cA_.F (n:Nat):Pat.Ts cA_.d.ps→Option (aa_ × Bool):=fun (a0,a1,a2,_)=>cA_ n (aa_.of a0) a1 (aa_.of a2)
def cq_.d:FD Int:=⟨172,24,1,[.ag (aa_.p .v),.s],[.i .i64],fun (a0,_)=>a0,fun r=>(r,()),[.ag [.v,.v,.v,.v,.v],.v],[.v],[.k],[.tmp 4],[],[],[],[]⟩
def cq_.F (n:Nat):Pat.Ts cq_.d.ps→Option Int:=fun (a0,a1,_)=>cq_ n (aa_.of a0) a1
def bK_.d:FD (List aa_):=⟨195,33,1,[.sl .d .iJson,.i .i64,.i .i64],[.sl .d .iJson],fun (a0,_)=>a0,fun r=>(r,()),[.o,.v,.v],[],[],[.tmp 6],[],[],[],[]⟩
def bK_.F (n:Nat):Pat.Ts bK_.d.ps→Option (List aa_):=fun (a0,a1,a2,_)=>bK_ n a0 a1 a2
def bw_.d:FD (List Bs):=⟨196,33,1,[.sl .d .str,.i .i64,.i .i64],[.sl .d .str],fun (a0,_)=>a0,fun r=>(r,()),[.o,.v,.v],[],[],[.tmp 6],[],[],[],[]⟩
def bw_.F (n:Nat):Pat.Ts bw_.d.ps→Option (List Bs):=fun (a0,a1,a2,_)=>bw_ n a0 a1 a2
def ca_.d:FD aa_:=⟨173,23,3,[.ag (aa_.p .d),.i .i64],[.ag (aa_.p .d)],fun (a0,_)=>(aa_.of a0),fun r=>(aa_.to r,()),[.ag [.v,.v,.v,.o,.o],.v],[.ag [.v,.v,.v,.o,.o]],[.ag [.k,.k,.k,.own .d .iJson,.own .d .str]],[.cell 4 25],[],[],[],[]⟩
def ca_.F (n:Nat):Pat.Ts ca_.d.ps→Option aa_:=fun (a0,a1,_)=>ca_ n (aa_.of a0) a1
def bY_.d:FD (aa_ × Bool):=⟨135,77,3,[.ag (aa_.p .d),.sl .v .str,.ag (TOp.p .v)],[.ag (aa_.p .d),.b],fun (a0,a1,_)=>((aa_.of a0),a1),fun (a0,a1)=>(aa_.to a0,a1,()),[.ag [.v,.v,.v,.o,.o],.v,.ag [.v,.v,.v,.v,.v,.v,.v]],[.ag [.v,.v,.v,.o,.o],.v],[.ag [.k,.k,.k,.own .d .iJson,.own .d .str],.k],[.cell 6 25,.tmp 7],[],[],[],[]⟩
def bY_.F (n:Nat):Pat.Ts bY_.d.ps→Option (aa_ × Bool):=fun (a0,a1,a2,_)=>bY_ n (aa_.of a0) a1 (TOp.of a2)
def c3_.d:FD (aa_ × Bool):=⟨110,35,1,[.ag (aa_.p .v),.ag (TOp.p .v)],[.ag (aa_.p .d),.b],fun (a0,a1,_)=>((aa_.of a0),a1),fun (a0,a1)=>(aa_.to a0,a1,()),[.ag [.v,.v,.v,.v,.v],.ag [.v,.v,.v,.v,.v,.v,.v]],[.ag [.v,.v,.v,.o,.o],.v],[.ag [.k,.k,.k,.own .d .iJson,.own .d .str],.k],[.cell 4 25,.tmp 5],[],[],[],[]⟩
def c3_.F (n:Nat):Pat.Ts c3_.d.ps→Option (aa_ × Bool):=fun (a0,a1,_)=>c3_ n (aa_.of a0) (TOp.of a1)
def aZ_.p7:OD:=⟨[(4,.box [.k,.k,.k,.k,.k]),(6,.box [.k,.k,.k,.own .d .iJson,.own .d .str]),(22,.view .iOp),(23,.k),(24,.k)],[.pb 1 0,.pb 2 0,.sl .v .iOp,.i .i64,.i .i64],[.ext,.box [.i .i64,.i .i64,.s,.nils,.nils],.box [.i .i64,.i .i64,.s,.rt 3,.rt 4],.arr .d .iJson 2,.arr .d .str 2]⟩
def aZ_.o0:OD:=⟨[(4,.box [.k,.k,.k,.k,.k]),(6,.box [.k,.k,.k,.own .d .iJson,.own .d .str])],[.pb 1 0,.pb 2 0],[.ext,.box [.i .i64,.i .i64,.s,.nils,.nils],.box [.i .i64,.i .i64,.s,.rt 3,.rt 4],.arr .d .iJson 2,.arr .d .str 2]⟩
def aZ_.d:FD (aa_ × Bool):=⟨68,40,1,[.ag (aa_.p .v),.sl .v .iOp],[.ag (aa_.p .d),.b],fun (a0,a1,_)=>((aa_.of a0),a1),fun (a0,a1)=>(aa_.to a0,a1,()),[.ag [.v,.v,.v,.v,.v],.v],[.ag [.v,.v,.v,.o,.o],.v],[.ag [.k,.k,.k,.own .d .iJson,.own .d .str],.k],[.cell 4 25,.tmp 5],[],[(7,aZ_.p7)],[],[(0,aZ_.o0)]⟩
def aZ_.F (n:Nat):Pat.Ts aZ_.d.ps→Option (aa_ × Bool):=fun (a0,a1,_)=>aZ_ n (aa_.of a0) a1
def bV_.d:FD aL_:=⟨19,74,1,[.ag (aL_.p .v),.ag (aM_.p .v)],[.ag (aL_.p .d)],fun (a0,_)=>(aL_.of a0),fun r=>(aL_.to r,()),[.ag [.v,.v,.v,.v,.v,.v,.v,.v],.ag [.v,.v,.v,.v,.v,.v,.v,.v,.v]],[.ag [.v,.v,.v,.o,.o,.v,.v,.v]],[.ag [.k,.k,.k,.own .d .iJson,.own .d .str,.k,.k,.k]],[.cell 4 45],[],[],[],[]⟩
def bV_.F (n:Nat):Pat.Ts bV_.d.ps→Option aL_:=fun (a0,a1,_)=>bV_ n (aL_.of a0) (aM_.of a1)
def aR_.p4:OD:=⟨[(2,.box [.k,.k,.k,.k,.k,.k,.k,.k]),(3,.box [.k,.k,.k,.own .d .iJson,.own .d .str,.k,.k,.k]),(7,.view .iEvent),(8,.k),(9,.k)],[.pb 1 0,.pb 2 0,.sl .v .iEvent,.i .i64,.i .i64],[.ext,.box [.i .i64,.i .i64,.s,.nils,.nils,.i .i64,.b,.b],.box [.i .i64,.i .i64,.s,.rt 3,.rt 4,.i .i64,.b,.b],.arr .d .iJson 2,.arr .d .str 2]⟩
def aR_.o0:OD:=⟨[(2,.box [.k,.k,.k,.k,.k,.k,.k,.k]),(3,.box [.k,.k,.k,.own .d .iJson,.own .d .str,.k,.k,.k])],[.pb 1 0,.pb 2 0],[.ext,.box [.i .i64,.i .i64,.s,.nils,.nils,.i .i64,.b,.b],.box [.i .i64,.i .i64,.s,.rt 3,.rt 4,.i .i64,.b,.b],.arr .d .iJson 2,.arr .d .str 2]⟩
def aR_.d:FD aL_:=⟨26,18,1,[.sl .v .iEvent],[.ag (aL_.p .d)],fun (a0,_)=>(aL_.of a0),fun r=>(aL_.to r,()),[.v],[.ag [.v,.v,.v,.o,.o,.v,.v,.v]],[.ag [.k,.k,.k,.own .d .iJson,.own .d .str,.k,.k,.k]],[.cell 2 45],[],[(4,aR_.p4)],[],[(0,aR_.o0)]⟩
def aR_.F (n:Nat):Pat.Ts aR_.d.ps→Option aL_:=fun (a0,_)=>aR_ n a0
def cb_.d:FD (aL_ × a1_):=⟨42,24,1,[.s],[.ag (aL_.p .d),.ag (a1_.p .v)],fun (a0,a1,_)=>((aL_.of a0),(a1_.of a1)),fun (a0,a1)=>(aL_.to a0,a1_.to a1,()),[.v],[.ag [.v,.v,.v,.o,.o,.v,.v,.v],.ag [.v,.v]],[.ag [.k,.k,.k,.own .d .iJson,.own .d .str,.k,.k,.k],.ag [.k,.k]],[.cell 2 45,.cell 3 63],[],[],[],[]⟩
def cb_.F (n:Nat):Pat.Ts cb_.d.ps→Option (aL_ × a1_):=fun (a0,_)=>cb_ n a0
def a8_.p6:OD:=⟨[(0,.view .iJson),(1,.view .iJson),(5,.k)],[.sl .v .iJson,.sl .v .iJson,.i .i64],[.ext]⟩
def a8_.o0:OD:=⟨[],[],[.ext]⟩
def a8_.d:FD Bool:=⟨94,27,1,[.sl .v .iJson,.sl .v .iJson],[.b],fun (a0,_)=>a0,fun r=>(r,()),[.v,.v],[.v],[.k],[.tmp 4],[],[(6,a8_.p6)],[],[(0,a8_.o0)]⟩
def a8_.F (n:Nat):Pat.Ts a8_.d.ps→Option Bool:=fun (a0,a1,_)=>a8_ n a0 a1
def aQ_.p6:OD:=⟨[(0,.view .str),(1,.view .str),(5,.k)],[.sl .v .str,.sl .v .str,.i .i64],[.ext]⟩
def aQ_.o0:OD:=⟨[],[],[.ext]⟩
def aQ_.d:FD Bool:=⟨39,26,1,[.sl .v .str,.sl .v .str],[.b],fun (a0,_)=>a0,fun r=>(r,()),[.v,.v],[.v],[.k],[.tmp 4],[],[(6,aQ_.p6)],[],[(0,aQ_.o0)]⟩
def aQ_.F (n:Nat):Pat.Ts aQ_.d.ps→Option Bool:=fun (a0,a1,_)=>aQ_ n a0 a1
def b6_.d:FD Bool:=⟨51,32,1,[.ag (aa_.p .v),.ag (aa_.p .v)],[.b],fun (a0,_)=>a0,fun r=>(r,()),[.ag [.v,.v,.v,.v,.v],.ag [.v,.v,.v,.v,.v]],[.v],[.k],[.tmp 4],[],[],[],[]⟩
def b6_.F (n:Nat):Pat.Ts b6_.d.ps→Option Bool:=fun (a0,a1,_)=>b6_ n (aa_.of a0) (aa_.of a1)
def b9_.d:FD Bool:=⟨20,26,1,[.ag (aL_.p .v),.ag (aL_.p .v)],[.b],fun (a0,_)=>a0,fun r=>(r,()),[.ag [.v,.v,.v,.v,.v,.v,.v,.v],.ag [.v,.v,.v,.v,.v,.v,.v,.v]],[.v],[.k],[.tmp 4],[],[],[],[]⟩
def b9_.F (n:Nat):Pat.Ts b9_.d.ps→Option Bool:=fun (a0,a1,_)=>b9_ n (aL_.of a0) (aL_.of a1)
def b8_.d:FD Bool:=⟨33,15,1,[.ag (a1_.p .v),.ag (a1_.p .v)],[.b],fun (a0,_)=>a0,fun r=>(r,()),[.ag [.v,.v],.ag [.v,.v]],[.v],[.k],[.tmp 4],[],[],[],[]⟩
def b8_.F (n:Nat):Pat.Ts b8_.d.ps→Option Bool:=fun (a0,a1,_)=>b8_ n (a1_.of a0) (a1_.of a1)
def aK_.p6:OD:=⟨[(0,.k),(3,.k)],[.i .i64,.s],[.ext]⟩
def aK_.o0:OD:=⟨[(3,.k)],[.s],[.ext]⟩
def aK_.d:FD Bs:=⟨69,20,1,[.i .i64],[.s],fun (a0,_)=>a0,fun r=>(r,()),[.v],[.v],[.k],[.tmp 2],[],[(6,aK_.p6)],[],[(0,aK_.o0)]⟩
def aK_.F (n:Nat):Pat.Ts aK_.d.ps→Option Bs:=fun (a0,_)=>aK_ n a0
def au_.p3:OD:=⟨[(0,.own .d .str),(1,.k),(5,.k)],[.rt 1,.i .i64,.i .i64],[.ext,.arr .d .str 2]⟩
def au_.o0:OD:=⟨[(1,.k)],[.i .i64],[.ext,.arr .d .str 2]⟩
def au_.d:FD (Int × (List Bs)):=⟨40,20,2,[.sl .d .str,.i .i64],[.i .i64,.sl .d .str],fun (a0,a1,_)=>(a0,a1),fun (a0,a1)=>(a0,a1,()),[.mu,.v],[.v,.o],[.k,.own .d .str],[.tmp 4],[.rt 1],[(3,au_.p3)],[],[(0,au_.o0)]⟩
def au_.F (n:Nat):Pat.Ts au_.d.ps→Option (Int × (List Bs)):=fun (a0,a1,_)=>au_ n a0 a1
def ax_.p3:OD:=⟨[(0,.own .d .iJson),(1,.k),(5,.k)],[.rt 1,.i .i64,.i .i64],[.ext,.arr .d .iJson 2]⟩
def ax_.o0:OD:=⟨[(1,.k)],[.i .i64],[.ext,.arr .d .iJson 2]⟩
def ax_.d:FD (Int × (List aa_)):=⟨70,49,2,[.sl .d .iJson,.i .i64],[.i .i64,.sl .d .iJson],fun (a0,a1,_)=>(a0,a1),fun (a0,a1)=>(a0,a1,()),[.mu,.v],[.v,.o],[.k,.own .d .iJson],[.tmp 4],[.rt 1],[(3,ax_.p3)],[],[(0,ax_.o0)]⟩
def ax_.F (n:Nat):Pat.Ts ax_.d.ps→Option (Int × (List aa_)):=fun (a0,a1,_)=>ax_ n a0 a1
def cj_.d:FD (Int × (List aa_) × (List Bs)):=⟨53,14,3,[.ag (aa_.p .d),.i .i64],[.i .i64,.sl .d .iJson,.sl .d .str],fun (a0,a1,a2,_)=>(a0,a1,a2),fun (a0,a1,a2)=>(a0,a1,a2,()),[.ag [.v,.v,.v,.mu,.mu],.v],[.v,.o,.o],[.k,.own .d .iJson,.own .d .str],[.tmp 4],[.rt 1,.rt 2],[],[],[]⟩
def cj_.F (n:Nat):Pat.Ts cj_.d.ps→Option (Int × (List aa_) × (List Bs)):=fun (a0,a1,_)=>cj_ n (aa_.of a0) a1
def bT_.d:FD (Int × (List aa_) × (List Bs)):=⟨21,10,3,[.ag (aL_.p .d),.i .i64],[.i .i64,.sl .d .iJson,.sl .d .str],fun (a0,a1,a2,_)=>(a0,a1,a2),fun (a0,a1,a2)=>(a0,a1,a2,()),[.ag [.v,.v,.v,.mu,.mu,.v,.v,.v],.v],[.v,.o,.o],[.k,.own .d .iJson,.own .d .str],[.tmp 4],[.rt 1,.rt 2],[],[],[]⟩
def bT_.F (n:Nat):Pat.Ts bT_.d.ps→Option (Int × (List aa_) × (List Bs)):=fun (a0,a1,_)=>bT_ n (aL_.of a0) a1
def av_.p3:OD:=⟨[(0,.view .str),(1,.k),(5,.k)],[.sl .v .str,.i .i64,.i .i64],[.ext]⟩
def av_.o0:OD:=⟨[(1,.k)],[.i .i64],[.ext]⟩
def av_.d:FD Int:=⟨74,22,1,[.sl .v .str,.i .i64],[.i .i64],fun (a0,_)=>a0,fun r=>(r,()),[.v,.v],[.v],[.k],[.tmp 4],[],[(3,av_.p3)],[],[(0,av_.o0)]⟩
def av_.F (n:Nat):Pat.Ts av_.d.ps→Option Int:=fun (a0,a1,_)=>av_ n a0 a1
def ay_.p3:OD:=⟨[(0,.view .iJson),(1,.k),(5,.k)],[.sl .v .iJson,.i .i64,.i .i64],[.ext]⟩
def ay_.o0:OD:=⟨[(1,.k)],[.i .i64],[.ext]⟩
def ay_.d:FD Int:=⟨73,59,1,[.sl .v .iJson,.i .i64],[.i .i64],fun (a0,_)=>a0,fun r=>(r,()),[.v,.v],[.v],[.k],[.tmp 4],[],[(3,ay_.p3)],[],[(0,ay_.o0)]⟩
def ay_.F (n:Nat):Pat.Ts ay_.d.ps→Option Int:=fun (a0,a1,_)=>ay_ n a0 a1
def ck_.d:FD Int:=⟨55,18,1,[.ag (aa_.p .v),.i .i64],[.i .i64],fun (a0,_)=>a0,fun r=>(r,()),[.ag [.v,.v,.v,.v,.v],.v],[.v],[.k],[.tmp 4],[],[],[],[]⟩
def ck_.F (n:Nat):Pat.Ts ck_.d.ps→Option Int:=fun (a0,a1,_)=>ck_ n (aa_.of a0) a1
def bO_.d:FD Int:=⟨22,12,1,[.ag (aL_.p .v),.i .i64],[.i .i64],fun (a0,_)=>a0,fun r=>(r,()),[.ag [.v,.v,.v,.v,.v,.v,.v,.v],.v],[.v],[.k],[.tmp 4],[],[],[],[]⟩
def bO_.F (n:Nat):Pat.Ts bO_.d.ps→Option Int:=fun (a0,a1,_)=>bO_ n (aL_.of a0) a1
def laws_FnExactClientOf.d:FD Bool:=⟨8,68,1,[.s],[.b],fun (a0,_)=>a0,fun r=>(r,()),[.v],[.v],[.k],[.tmp 2],[],[],[],[]⟩
def laws_FnExactClientOf.F (n:Nat):Pat.Ts laws_FnExactClientOf.d.ps→Option Bool:=fun (a0,_)=>laws_FnExactClientOf n a0
def KL (n:Nat):List (Nat × Hd):=[
 (8,⟨fun _=>laws_FnExactClientOf.d.K (laws_FnExactClientOf.F n)⟩),
 (9,⟨fun _=>ac_.d.K (ac_.F n)⟩),
 (10,⟨fun _=>bP_.d.K (bP_.F n)⟩),
 (16,⟨fun _=>bS_.d.K (bS_.F n)⟩),
 (19,⟨fun _=>bV_.d.K (bV_.F n)⟩),
 (20,⟨fun _=>b9_.d.K (b9_.F n)⟩),
 (21,⟨fun _=>bT_.d.K (bT_.F n)⟩),
 (22,⟨fun _=>bO_.d.K (bO_.F n)⟩),
 (24,⟨fun _=>aP_.d.K (aP_.F n)⟩),
 (26,⟨fun _=>aR_.d.K (aR_.F n)⟩),
 (30,⟨fun _=>by_.d.K (by_.F n)⟩),
 (32,⟨fun _=>bt_.d.K (bt_.F n)⟩),
 (33,⟨fun _=>b8_.d.K (b8_.F n)⟩),
 (39,⟨fun _=>aQ_.d.K (aQ_.F n)⟩),
 (40,⟨fun _=>au_.d.K (au_.F n)⟩),
 (41,⟨fun _=>ci_.d.K (ci_.F n)⟩),
 (42,⟨fun _=>cb_.d.K (cb_.F n)⟩),
 (43,⟨fun _=>aY_.d.K (aY_.F n)⟩),
 (44,⟨fun _=>bJ_.d.K (bJ_.F n)⟩),
 (45,⟨fun _=>cw_.d.K (cw_.F n)⟩),
 (46,⟨fun _=>cE_.d.K (cE_.F n)⟩),
 (47,⟨fun _=>aO_.d.K (aO_.F n)⟩),
 (48,⟨fun _=>b1_.d.K (b1_.F n)⟩),
 (49,⟨fun _=>cg_.d.K (cg_.F n)⟩),
 (50,⟨fun _=>b3_.d.K (b3_.F n)⟩),
 (51,⟨fun _=>b6_.d.K (b6_.F n)⟩),
 (53,⟨fun _=>cj_.d.K (cj_.F n)⟩),
 (55,⟨fun _=>ck_.d.K (ck_.F n)⟩),
 (59,⟨fun _=>cz_.d.K (cz_.F n)⟩),
 (60,⟨fun _=>cp_.d.K (cp_.F n)⟩),
 (61,⟨fun _=>aH_.d.K (aH_.F n)⟩),
 (62,⟨fun _=>a0_.d.K (a0_.F n)⟩),
 (65,⟨fun _=>bU_.d.K (bU_.F n)⟩),
 (66,⟨fun _=>cs_.d.K (cs_.F n)⟩),
 (67,⟨fun _=>aq_.d.K (aq_.F n)⟩),
 (68,⟨fun _=>aZ_.d.K (aZ_.F n)⟩),
 (69,⟨fun _=>aK_.d.K (aK_.F n)⟩),
 (70,⟨fun _=>ax_.d.K (ax_.F n)⟩),
 (71,⟨fun _=>bd_.d.K (bd_.F n)⟩),
 (72,⟨fun _=>strings_Index.d.K (strings_Index.F n)⟩),
 (73,⟨fun _=>ay_.d.K (ay_.F n)⟩),
 (74,⟨fun _=>av_.d.K (av_.F n)⟩),
 (75,⟨fun _=>az_.d.K (az_.F n)⟩),
 (76,⟨fun _=>aJ_.d.K (aJ_.F n)⟩),
 (77,⟨fun _=>bn_.d.K (bn_.F n)⟩),
 (78,⟨fun _=>cn_.d.K (cn_.F n)⟩),
 (79,⟨fun _=>cP_.d.K (cP_.F n)⟩),
 (80,⟨fun _=>ce_.d.K (ce_.F n)⟩),
 (81,⟨fun _=>aT_.d.K (aT_.F n)⟩),
 (82,⟨fun _=>ch_.d.K (ch_.F n)⟩),
 (83,⟨fun _=>cJ_.d.K (cJ_.F n)⟩),
 (84,⟨fun _=>be_.d.K (be_.F n)⟩),
 (85,⟨fun _=>bx_.d.K (bx_.F n)⟩),
 (86,⟨fun _=>cB_.d.K (cB_.F n)⟩),
 (87,⟨fun _=>b4_.d.K (b4_.F n)⟩),
 (88,⟨fun _=>cx_.d.K (cx_.F n)⟩),
 (89,⟨fun _=>bs_.d.K (bs_.F n)⟩),
 (90,⟨fun _=>bo_.d.K (bo_.F n)⟩),
 (91,⟨fun _=>cL_.d.K (cL_.F n)⟩),
 (92,⟨fun _=>ct_.d.K (ct_.F n)⟩),
 (93,⟨fun _=>a2_.d.K (a2_.F n)⟩),
 (94,⟨fun _=>a8_.d.K (a8_.F n)⟩),
 (98,⟨fun _=>cT_.d.K (cT_.F n)⟩),
 (99,⟨fun _=>aj_.d.K (aj_.F n)⟩),
 (100,⟨fun _=>bZ_.d.K (bZ_.F n)⟩),
 (101,⟨fun _=>c0_.d.K (c0_.F n)⟩),
 (104,⟨fun _=>bX_.d.K (bX_.F n)⟩),
 (105,⟨fun _=>aS_.d.K (aS_.F n)⟩),
 (106,⟨fun _=>cG_.d.K (cG_.F n)⟩),
 (107,⟨fun _=>b2_.d.K (b2_.F n)⟩),
 (108,⟨fun _=>bW_.d.K (bW_.F n)⟩),
 (109,⟨fun _=>b0_.d.K (b0_.F n)⟩),
 (110,⟨fun _=>c3_.d.K (c3_.F n)⟩),
 (111,⟨fun _=>bb_.d.K (bb_.F n)⟩),
 (112,⟨fun _=>b5_.d.K (b5_.F n)⟩),
 (113,⟨fun _=>bB_.d.K (bB_.F n)⟩),
 (114,⟨fun _=>aA_.d.K (aA_.F n)⟩),
 (115,⟨fun _=>aU_.d.K (aU_.F n)⟩),
 (116,⟨fun _=>aD_.d.K (aD_.F n)⟩),
 (117,⟨fun _=>bI_.d.K (bI_.F n)⟩),
 (118,⟨fun _=>bG_.d.K (bG_.F n)⟩),
 (119,⟨fun _=>ar_.d.K (ar_.F n)⟩),
 (120,⟨fun _=>bq_.d.K (bq_.F n)⟩),
 (121,⟨fun _=>aF_.d.K (aF_.F n)⟩),
 (122,⟨fun _=>cR_.d.K (cR_.F n)⟩),
 (125,⟨fun _=>aN_.d.K (aN_.F n)⟩),
 (126,⟨fun _=>aB_.d.K (aB_.F n)⟩),
 (127,⟨fun _=>cH_.d.K (cH_.F n)⟩),
 (128,⟨fun _=>strconv_Itoa.d.K (strconv_Itoa.F n)⟩),
 (129,⟨fun _=>aX_.d.K (aX_.F n)⟩),
 (130,⟨fun _=>cM_.d.K (cM_.F n)⟩),
 (131,⟨fun _=>aG_.d.K (aG_.F n)⟩),
 (132,⟨fun _=>cd_.d.K (cd_.F n)⟩),
 (133,⟨fun _=>a7_.d.K (a7_.F n)⟩),
 (134,⟨fun _=>bH_.d.K (bH_.F n)⟩),
 (135,⟨fun _=>bY_.d.K (bY_.F n)⟩),
 (140,⟨fun _=>a4_.d.K (a4_.F n)⟩),
 (141,⟨fun _=>bf_.d.K (bf_.F n)⟩),
 (142,⟨fun _=>aw_.d.K (aw_.F n)⟩),
 (143,⟨fun _=>a3_.d.K (a3_.F n)⟩),
 (149,⟨fun _=>a9_.d.K (a9_.F n)⟩),
 (150,⟨fun _=>bF_.d.K (bF_.F n)⟩),
 (151,⟨fun _=>ak_.d.K (ak_.F n)⟩),
 (152,⟨fun _=>ag_.d.K (ag_.F n)⟩),
 (153,⟨fun _=>ah_.d.K (ah_.F n)⟩),
 (154,⟨fun _=>cW_.d.K (cW_.F n)⟩),
 (155,⟨fun _=>ba_.d.K (ba_.F n)⟩),
 (156,⟨fun _=>al_.d.K (al_.F n)⟩),
 (157,⟨fun _=>cf_.d.K (cf_.F n)⟩),
 (158,⟨fun _=>cl_.d.K (cl_.F n)⟩),
 (160,⟨fun _=>bi_.d.K (bi_.F n)⟩),
 (161,⟨fun _=>strings_Join.d.K (strings_Join.F n)⟩),
 (162,⟨fun _=>a6_.d.K (a6_.F n)⟩),
 (163,⟨fun _=>cK_.d.K (cK_.F n)⟩),
 (164,⟨fun _=>af_.d.K (af_.F n)⟩),
 (165,⟨fun _=>cy_.d.K (cy_.F n)⟩),
 (166,⟨fun _=>bD_.d.K (bD_.F n)⟩),
 (167,⟨fun _=>dd_.d.K (dd_.F n)⟩),
 (168,⟨fun _=>c2_.d.K (c2_.F n)⟩),
 (169,⟨fun _=>as_.d.K (as_.F n)⟩),
 (170,⟨fun _=>c1_.d.K (c1_.F n)⟩),
 (171,⟨fun _=>cA_.d.K (cA_.F n)⟩),
 (172,⟨fun _=>cq_.d.K (cq_.F n)⟩),
 (173,⟨fun _=>ca_.d.K (ca_.F n)⟩),
 (179,⟨fun _=>bp_.d.K (bp_.F n)⟩),
 (180,⟨fun _=>strings_Split.d.K (strings_Split.F n)⟩),
 (181,⟨fun _=>strings_ReplaceAll.d.K (strings_ReplaceAll.F n)⟩),
 (182,⟨fun _=>cC_.d.K (cC_.F n)⟩),
 (187,⟨fun _=>cZ_.d.K (cZ_.F n)⟩),
 (188,⟨fun _=>a5_.d.K (a5_.F n)⟩),
 (189,⟨fun _=>bk_.d.K (bk_.F n)⟩),
 (190,⟨fun _=>ap_.d.K (ap_.F n)⟩),
 (191,⟨fun _=>ad_.d.K (ad_.F n)⟩),
 (192,⟨fun _=>bv_.d.K (bv_.F n)⟩),
 (193,⟨fun _=>bA_.d.K (bA_.F n)⟩),
 (194,⟨fun _=>cr_.d.K (cr_.F n)⟩),
 (195,⟨fun _=>bK_.d.K (bK_.F n)⟩),
 (196,⟨fun _=>bw_.d.K (bw_.F n)⟩),
 (201,⟨fun _=>am_.d.K (am_.F n)⟩),
 (202,⟨fun _=>ab_.d.K (ab_.F n)⟩),
 (209,⟨fun _=>bL_.d.K (bL_.F n)⟩),
 (210,⟨fun _=>bg_.d.K (bg_.F n)⟩),
 (225,⟨fun _=>bz_.d.K (bz_.F n)⟩)]
def sigL:List (Nat × List PS):=[
 (8,laws_FnExactClientOf.d.sig),
 (9,ac_.d.sig),
 (10,bP_.d.sig),
 (16,bS_.d.sig),
 (19,bV_.d.sig),
 (20,b9_.d.sig),
 (21,bT_.d.sig),
 (22,bO_.d.sig),
 (24,aP_.d.sig),
 (26,aR_.d.sig),
 (30,by_.d.sig),
 (32,bt_.d.sig),
 (33,b8_.d.sig),
 (39,aQ_.d.sig),
 (40,au_.d.sig),
 (41,ci_.d.sig),
 (42,cb_.d.sig),
 (43,aY_.d.sig),
 (44,bJ_.d.sig),
 (45,cw_.d.sig),
 (46,cE_.d.sig),
 (47,aO_.d.sig),
 (48,b1_.d.sig),
 (49,cg_.d.sig),
 (50,b3_.d.sig),
 (51,b6_.d.sig),
 (53,cj_.d.sig),
 (55,ck_.d.sig),
 (59,cz_.d.sig),
 (60,cp_.d.sig),
 (61,aH_.d.sig),
 (62,a0_.d.sig),
 (65,bU_.d.sig),
 (66,cs_.d.sig),
 (67,aq_.d.sig),
 (68,aZ_.d.sig),
 (69,aK_.d.sig),
 (70,ax_.d.sig),
 (71,bd_.d.sig),
 (72,strings_Index.d.sig),
 (73,ay_.d.sig),
 (74,av_.d.sig),
 (75,az_.d.sig),
 (76,aJ_.d.sig),
 (77,bn_.d.sig),
 (78,cn_.d.sig),
 (79,cP_.d.sig),
 (80,ce_.d.sig),
 (81,aT_.d.sig),
 (82,ch_.d.sig),
 (83,cJ_.d.sig),
 (84,be_.d.sig),
 (85,bx_.d.sig),
 (86,cB_.d.sig),
 (87,b4_.d.sig),
 (88,cx_.d.sig),
 (89,bs_.d.sig),
 (90,bo_.d.sig),
 (91,cL_.d.sig),
 (92,ct_.d.sig),
 (93,a2_.d.sig),
 (94,a8_.d.sig),
 (98,cT_.d.sig),
 (99,aj_.d.sig),
 (100,bZ_.d.sig),
 (101,c0_.d.sig),
 (104,bX_.d.sig),
 (105,aS_.d.sig),
 (106,cG_.d.sig),
 (107,b2_.d.sig),
 (108,bW_.d.sig),
 (109,b0_.d.sig),
 (110,c3_.d.sig),
 (111,bb_.d.sig),
 (112,b5_.d.sig),
 (113,bB_.d.sig),
 (114,aA_.d.sig),
 (115,aU_.d.sig),
 (116,aD_.d.sig),
 (117,bI_.d.sig),
 (118,bG_.d.sig),
 (119,ar_.d.sig),
 (120,bq_.d.sig),
 (121,aF_.d.sig),
 (122,cR_.d.sig),
 (125,aN_.d.sig),
 (126,aB_.d.sig),
 (127,cH_.d.sig),
 (128,strconv_Itoa.d.sig),
 (129,aX_.d.sig),
 (130,cM_.d.sig),
 (131,aG_.d.sig),
 (132,cd_.d.sig),
 (133,a7_.d.sig),
 (134,bH_.d.sig),
 (135,bY_.d.sig),
 (140,a4_.d.sig),
 (141,bf_.d.sig),
 (142,aw_.d.sig),
 (143,a3_.d.sig),
 (149,a9_.d.sig),
 (150,bF_.d.sig),
 (151,ak_.d.sig),
 (152,ag_.d.sig),
 (153,ah_.d.sig),
 (154,cW_.d.sig),
 (155,ba_.d.sig),
 (156,al_.d.sig),
 (157,cf_.d.sig),
 (158,cl_.d.sig),
 (160,bi_.d.sig),
 (161,strings_Join.d.sig),
 (162,a6_.d.sig),
 (163,cK_.d.sig),
 (164,af_.d.sig),
 (165,cy_.d.sig),
 (166,bD_.d.sig),
 (167,dd_.d.sig),
 (168,c2_.d.sig),
 (169,as_.d.sig),
 (170,c1_.d.sig),
 (171,cA_.d.sig),
 (172,cq_.d.sig),
 (173,ca_.d.sig),
 (179,bp_.d.sig),
 (180,strings_Split.d.sig),
 (181,strings_ReplaceAll.d.sig),
 (182,cC_.d.sig),
 (187,cZ_.d.sig),
 (188,a5_.d.sig),
 (189,bk_.d.sig),
 (190,ap_.d.sig),
 (191,ad_.d.sig),
 (192,bv_.d.sig),
 (193,bA_.d.sig),
 (194,cr_.d.sig),
 (195,bK_.d.sig),
 (196,bw_.d.sig),
 (201,am_.d.sig),
 (202,ab_.d.sig),
 (209,bL_.d.sig),
 (210,bg_.d.sig),
 (225,bz_.d.sig)]
def fzL:List Nat:=[9,16,24,30,41,47,62,83,84,101,120,132,166,187]
def cx (n nt:Nat):Cx:=⟨nt,tt,fun f=>hi_ sigL f,KH (KL n),fun f=>fzL.any (Nat.beq f)⟩
end Go.Pi
end
