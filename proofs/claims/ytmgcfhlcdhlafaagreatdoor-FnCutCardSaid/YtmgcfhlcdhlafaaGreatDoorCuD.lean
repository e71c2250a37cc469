/- FnCut: of a drawn text that is cut into pieces the pieces together are it, each as long as wanted, but at the end. No condition. Text 4 of 8. -/
import Derived.Test.YtmgcfhlcdhlafaaGreatDoorCuC
set_option linter.unusedVariables false
set_option maxRecDepth 100000
namespace Go.Pi
def gh_:Nat->(List Int)->Option Bool
 |0,_=>none
 |n+1,eQ_=>
  (some (decide ((eQ_.length:Int) > 1048576)))
abbrev cd_.K4:Type:=(List Int)->Int->Option af_
abbrev cd_.T4:Type:=(List Int)->Int->Int->Option af_
def cd_.step4 (n:Nat) (k0:cd_.K4) (back:cd_.T4):cd_.T4:=fun eQ_ h i=>
 (cond (decide (i<(eQ_.length:Int))) (cond (decide (i<4000)) (inB i eQ_.length (let C1:Int:=(IntKind.i64.wrap (BitVec.ofInt (IntKind.bits .i64) (W ((W ((W (h*131))+(W ((eQ_.getD i.toNat 0)))))+7)) &&& BitVec.ofInt (IntKind.bits .i64) 1073741823).toNat);(back eQ_ C1 (W (i+1))))) (k0 eQ_ h)) (k0 eQ_ h))
def cd_.loop4 (n:Nat) (k0:cd_.K4) (N:Nat):cd_.T4:=cv_ (fun _ _ _=>none) (cd_.step4 n k0) N
def cd_:Nat->(List Int)->Option af_
 |0,_=>none
 |n+1,eQ_=>
  (cd_.loop4 n (fun B2 B3=>(some (af_.mk B2 0 B3))) n eQ_ (W (17333+(eQ_.length:Int))) 0)
def dt_:Nat->af_->Option (Int × af_)
 |0,_=>none
 |n+1,c=>
  (let C1:Int:=(Int.fdiv (W ((W (c.h*6364136223846793005))+1442695040888963407)) (2 ^ min (33:Int).toNat (IntKind.bits .i64)));(let C2:Int:=(Int.fdiv (W ((W (c.h*6364136223846793005))+1442695040888963407)) (2 ^ min (45:Int).toNat (IntKind.bits .i64)));(let C3:Int:=(IntKind.i64.wrap (BitVec.ofInt (IntKind.bits .i64) C1 ^^^ BitVec.ofInt (IntKind.bits .i64) C2).toNat);(let C4:Int:=(IntKind.i64.wrap (BitVec.ofInt (IntKind.bits .i64) C3 &&& BitVec.ofInt (IntKind.bits .i64) 255).toNat);(cond (decide (c.i<(c.b.length:Int))) (inB c.i c.b.length (let C5:Int:=(IntKind.i64.wrap (BitVec.ofInt (IntKind.bits .i64) (W (C4+(W ((c.b.getD c.i.toNat 0))))) &&& BitVec.ofInt (IntKind.bits .i64) 255).toNat);(some (C5,(af_.mk c.b (W (c.i+1)) (W ((W (c.h*6364136223846793005))+1442695040888963407))))))) (some (C4,(af_.mk c.b c.i (W ((W (c.h*6364136223846793005))+1442695040888963407))))))))))
def ao_:Nat->af_->Int->Option (Int × af_)
 |0,_,_=>none
 |n+1,c,n1=>
  (cond (decide (n1<=0)) (some (0,c)) (cond (decide (n1<=256)) ((dt_ n c).bind fun A1=>(cond (decide (n1=0)) none (some ((Int.tmod A1.1 n1),A1.2)))) ((dt_ n c).bind fun A2=>((dt_ n A2.2).bind fun A3=>((dt_ n A3.2).bind fun A4=>((dt_ n A4.2).bind fun A5=>(let C6:Int:=(W ((W ((W (A2.1*16777216))+(W (A3.1*65536))))+(W (A4.1*256))));(cond (decide (n1=0)) none (some ((Int.tmod (W (C6+A5.1)) n1),A5.2))))))))))
abbrev a4_.K4:Type:=(List Int)->Int->Int->(List Int)->Option ((List Int) × af_)
abbrev a4_.T4:Type:=Int->(List Int)->Int->Int->(List Int)->Option ((List Int) × af_)
def a4_.step4 (n:Nat) (k0:a4_.K4) (back:a4_.T4):a4_.T4:=fun i c0 c1 c2 out_1=>
 ((ao_ n (af_.mk c0 c1 c2) 60).bind fun A1=>(cond (decide (i<A1.1)) ((ao_ n A1.2 5).bind fun A2=>(bk_ (out_1.length+([(IntKind.u8.wrap ((W (97+A2.1))))]:List Int).length) 1 (back (W (i+1)) A2.2.b A2.2.i A2.2.h (out_1++([(IntKind.u8.wrap ((W (97+A2.1))))]:List Int))))) (k0 A1.2.b A1.2.i A1.2.h out_1)))
def a4_.loop4 (n:Nat) (k0:a4_.K4) (N:Nat):a4_.T4:=cv_ (fun _ _ _ _ _=>none) (a4_.step4 n k0) N
def a4_:Nat->af_->Option ((List Int) × af_)
 |0,_=>none
 |n+1,c=>
  (a4_.loop4 n (fun B3 B4 B5 B6=>(some (B6,(af_.mk B3 B4 B5)))) n 0 c.b c.i c.h ([]:List Int))
def bJ_:Nat->af_->(List Int)->Option (Int × af_)
 |0,_,_=>none
 |n+1,c,list=>
  ((ao_ n c (list.length:Int)).bind fun A1=>(inB A1.1 list.length (some ((list.getD A1.1.toNat 0),A1.2))))
abbrev aJ_.K4:Type:=(List Int)->Int->Int->(List Int)->Option ((List Int) × af_)
abbrev aJ_.T4:Type:=Int->(List Int)->Int->Int->(List Int)->Option ((List Int) × af_)
def aJ_.step4 (n:Nat) (k0:aJ_.K4) (back:aJ_.T4):aJ_.T4:=fun i c0 c1 c2 out_1=>
 ((ao_ n (af_.mk c0 c1 c2) 6).bind fun A1=>(cond (decide (i<A1.1)) ((bJ_ n A1.2 ([0,1,2,7,20,60,(-1),300]:List Int)).bind fun A2=>(bk_ (out_1.length+([A2.1]:List Int).length) 8 (back (W (i+1)) A2.2.b A2.2.i A2.2.h (out_1++([A2.1]:List Int))))) (k0 A1.2.b A1.2.i A1.2.h out_1)))
def aJ_.loop4 (n:Nat) (k0:aJ_.K4) (N:Nat):aJ_.T4:=cv_ (fun _ _ _ _ _=>none) (aJ_.step4 n k0) N
def aJ_:Nat->af_->Option ((List Int) × af_)
 |0,_=>none
 |n+1,c=>
  (aJ_.loop4 n (fun B3 B4 B5 B6=>(some (B6,(af_.mk B3 B4 B5)))) n 0 c.b c.i c.h ([]:List Int))
def dk_:Nat->(List Int)->Option (Bs × (List Int))
 |0,_=>none
 |n+1,eQ_=>
  ((cd_ n eQ_).bind fun A1=>((a4_ n A1).bind fun A2=>((aJ_ n A2.2).bind fun A3=>(some ((hS_ A2.1),A3.1)))))
abbrev b8_.K4:Type:=Bs->(List Bs)->Option (List Bs)
abbrev b8_.T4:Type:=Bs->(List Int)->Int->Int->(List Bs)->Option (List Bs)
def b8_.step4 (n:Nat) (k0:b8_.K4) (back:b8_.T4):b8_.T4:=fun text t10 t11 t12 pieces=>
 (cond (decide (t12<t11)) (inB t12 t10.length (let C1:Int:=(cond (decide ((0:Int) > (t10.getD t12.toNat 0))) 0 (t10.getD t12.toNat 0));(f6_ 0 (cond (decide ((text.length:Int)<C1)) (text.length:Int) C1) text.length (let C2:Bs:=((text.take (cond (decide ((text.length:Int)<C1)) (text.length:Int) C1).toNat).drop 0);(bk_ (pieces.length+([C2]:List Bs).length) 16 (f6_ (cond (decide ((text.length:Int)<C1)) (text.length:Int) C1) (text.length:Int) text.length (let C3:Bs:=((text.take (text.length:Int).toNat).drop (cond (decide ((text.length:Int)<C1)) (text.length:Int) C1).toNat);(back C3 t10 t11 (W (t12+1)) (pieces++([C2]:List Bs)))))))))) (k0 text pieces))
def b8_.loop4 (n:Nat) (k0:b8_.K4) (N:Nat):b8_.T4:=cv_ (fun _ _ _ _ _=>none) (b8_.step4 n k0) N
def b8_:Nat->Bs->(List Int)->Option (List Bs)
 |0,_,_=>none
 |n+1,text,sizes=>
  (b8_.loop4 n (fun B4 B5=>(cond (!(B4 == [])) (bk_ (B5.length+([B4]:List Bs).length) 16 (some (B5++([B4]:List Bs)))) (some B5))) n text sizes (sizes.length:Int) 0 ([]:List Bs))
def cL_:Nat->Int->Int->Option Int
 |0,_,_=>none
 |n+1,a,b=>
  (cond (decide (a > b)) (some a) (some b))
def eb_:Nat->Int->Int->Option Int
 |0,_,_=>none
 |n+1,a,b=>
  (cond (decide (a<b)) (some a) (some b))
abbrev bZ_.K5:Type:=Bs->Int->(List Bs)->Option (List Bs)
abbrev bZ_.T5:Type:=Bs->(List Int)->Int->Int->(List Bs)->Option (List Bs)
def bZ_.step5 (n:Nat) (k0:bZ_.K5) (back:bZ_.T5):bZ_.T5:=fun text sizes at_1 i out_1=>
 (cond (decide (i<(sizes.length:Int))) (inB i sizes.length ((cL_ n (sizes.getD i.toNat 0) 0).bind fun A1=>((eb_ n A1 (W ((text.length:Int) - at_1))).bind fun A2=>(f6_ at_1 (W (at_1+A2)) text.length (bk_ (out_1.length+([((text.take (W (at_1+A2)).toNat).drop at_1.toNat)]:List Bs).length) 16 (back text sizes (W (at_1+A2)) (W (i+1)) (out_1++([((text.take (W (at_1+A2)).toNat).drop at_1.toNat)]:List Bs)))))))) (k0 text at_1 out_1))
def bZ_.loop5 (n:Nat) (k0:bZ_.K5) (N:Nat):bZ_.T5:=cv_ (fun _ _ _ _ _=>none) (bZ_.step5 n k0) N
def bZ_:Nat->Bs->(List Int)->Option (List Bs)
 |0,_,_=>none
 |n+1,text,sizes=>
  (bZ_.loop5 n (fun B3 B4 B5=>(cond (decide (B4<(B3.length:Int))) (f6_ B4 (B3.length:Int) B3.length (bk_ (B5.length+([((B3.take (B3.length:Int).toNat).drop B4.toNat)]:List Bs).length) 16 (some (B5++([((B3.take (B3.length:Int).toNat).drop B4.toNat)]:List Bs))))) (some B5))) n text sizes 0 0 ([]:List Bs))
def fq_:Nat->Int->Option Int
 |0,_=>none
 |n+1,x=>
  (cond (decide (x<0)) (some 0) (some x))
def cD_:Nat->af_->Int->Option (Bool × af_)
 |0,_,_=>none
 |n+1,c,n1=>
  ((ao_ n c n1).bind fun A1=>(some ((A1.1 == 0),A1.2)))
def dL_:Nat->af_->(List Bs)->Option (Bs × af_)
 |0,_,_=>none
 |n+1,c,list=>
  ((ao_ n c (list.length:Int)).bind fun A1=>(inB A1.1 list.length (some ((list.getD A1.1.toNat []),A1.2))))
def dg_:Nat->af_->Option (Bs × af_)
 |0,_=>none
 |n+1,c=>
  ((dL_ n c ([[97],[98],[99],[105,100],[110],[114,111,119,115],[],[97,47,98],[126]]:List Bs)).bind fun A1=>(some (A1.1,A1.2)))
abbrev cI_.T3:Type:=Bs->Int->Int->Int->Bs->(List aa_)->(List Bs)->Option Int
def cI_.step3 (n:Nat) (k0:Option Int) (back:cI_.T3):cI_.T3:=fun name i j0 j1 j2 j3 j4=>
 (cond (decide (i<(j4.length:Int))) (inB i j4.length (cond ((j4.getD i.toNat []) == name) (some i) (back name (W (i+1)) j0 j1 j2 j3 j4))) k0)
def cI_.loop3 (n:Nat) (k0:Option Int) (N:Nat):cI_.T3:=cv_ (fun _ _ _ _ _ _ _=>none) (cI_.step3 n k0) N
def cI_:Nat->aa_->Bs->Option Int
 |0,_,_=>none
 |n+1,j,name=>
  (cI_.loop3 n (some (-1)) n name 0 j.kind j.n_ j.s j.list j.names)
abbrev bP_.K5:Type:=Bs->Bool->Int->Int->Bs->(List aa_)->(List Bs)->Int->Int->Bs->Int->Int->Bs->(List aa_)->(List Bs)->Option aa_
abbrev bP_.T5:Type:=Bs->Bool->Int->Int->Int->Bs->(List aa_)->(List Bs)->Int->Int->Bs->(List aa_)->(List Bs)->Int->Int->Bs->Int->Int->Bs->(List aa_)->(List Bs)->Option aa_
def bP_.step5 (n:Nat) (k0:bP_.K5) (back:bP_.T5):bP_.T5:=fun append t8 t9 t30 t31 t32 t33 t34 t50 t51 t52 t53 t54 t60 t61 t62 t70 t71 t72 t73 t74=>
 (cond (decide (t9<(t34.length:Int))) (cond (!t8) (inB t9 t34.length (cond (!Op.bytesLess (t34.getD t9.toNat []) append) (bk_ (t74.length+([append]:List Bs).length) 16 (bk_ (t73.length+([(aa_.mk t50 t51 t52 t53 t54)]:List aa_).length) 80 (inB t9 t34.length (cond (!((t34.getD t9.toNat []) == append)) (inB t9 t34.length (bk_ ((t74++([append]:List Bs)).length+([(t34.getD t9.toNat [])]:List Bs).length) 16 (inB t9 t33.length (bk_ ((t73++([(aa_.mk t50 t51 t52 t53 t54)]:List aa_)).length+([(aa_.re (t33.getD t9.toNat aa_.dflt))]:List aa_).length) 80 (back append true (W (t9+1)) t30 t31 t32 t33 t34 t50 t51 t52 t53 t54 t60 t61 t62 t70 t71 t72 ((t73++([(aa_.mk t50 t51 t52 t53 t54)]:List aa_))++([(aa_.re (t33.getD t9.toNat aa_.dflt))]:List aa_)) ((t74++([append]:List Bs))++([(t34.getD t9.toNat [])]:List Bs))))))) (back append true (W (t9+1)) t30 t31 t32 t33 t34 t50 t51 t52 t53 t54 t60 t61 t62 t70 t71 t72 (t73++([(aa_.mk t50 t51 t52 t53 t54)]:List aa_)) (t74++([append]:List Bs))))))) (inB t9 t34.length (cond (!((t34.getD t9.toNat []) == append)) (inB t9 t34.length (bk_ (t74.length+([(t34.getD t9.toNat [])]:List Bs).length) 16 (inB t9 t33.length (bk_ (t73.length+([(aa_.re (t33.getD t9.toNat aa_.dflt))]:List aa_).length) 80 (back append t8 (W (t9+1)) t30 t31 t32 t33 t34 t50 t51 t52 t53 t54 t60 t61 t62 t70 t71 t72 (t73++([(aa_.re (t33.getD t9.toNat aa_.dflt))]:List aa_)) (t74++([(t34.getD t9.toNat [])]:List Bs))))))) (back append t8 (W (t9+1)) t30 t31 t32 t33 t34 t50 t51 t52 t53 t54 t60 t61 t62 t70 t71 t72 t73 t74))))) (inB t9 t34.length (cond (!((t34.getD t9.toNat []) == append)) (inB t9 t34.length (bk_ (t74.length+([(t34.getD t9.toNat [])]:List Bs).length) 16 (inB t9 t33.length (bk_ (t73.length+([(aa_.re (t33.getD t9.toNat aa_.dflt))]:List aa_).length) 80 (back append t8 (W (t9+1)) t30 t31 t32 t33 t34 t50 t51 t52 t53 t54 t60 t61 t62 t70 t71 t72 (t73++([(aa_.re (t33.getD t9.toNat aa_.dflt))]:List aa_)) (t74++([(t34.getD t9.toNat [])]:List Bs))))))) (back append t8 (W (t9+1)) t30 t31 t32 t33 t34 t50 t51 t52 t53 t54 t60 t61 t62 t70 t71 t72 t73 t74)))) (k0 append t8 t50 t51 t52 t53 t54 t60 t61 t62 t70 t71 t72 t73 t74))
def bP_.loop5 (n:Nat) (k0:bP_.K5) (N:Nat):bP_.T5:=cv_ (fun _ _ _ _ _ _ _ _ _ _ _ _ _ _ _ _ _ _ _ _ _=>none) (bP_.step5 n k0) N
def bP_:Nat->aa_->Bs->aa_->Option aa_
 |0,_,_,_=>none
 |n+1,o,append,a2=>
  (bP_.loop5 n (fun B1 B2 B3 B4 B5 B6 B7 B8 B9 B10 B11 B12 B13 B14 B15=>(cond (!B2) (bk_ (B15.length+([B1]:List Bs).length) 16 (bk_ (B14.length+([(aa_.mk B3 B4 B5 B6 B7)]:List aa_).length) 80 (some (aa_.mk B11 B12 B13 (B14++([(aa_.mk B3 B4 B5 B6 B7)]:List aa_)) (B15++([B1]:List Bs)))))) (some (aa_.mk B11 B12 B13 B14 B15)))) n append false 0 o.kind o.n_ o.s o.list o.names a2.kind a2.n_ a2.s a2.list a2.names 0 0 [] 5 0 [] ([]:List aa_) ([]:List Bs))
abbrev ac_.K20_1:Type:=(List Int)->Int->Int->Int->Int->Bs->Int->Int->Bs->(List aa_)->Option (aa_ × af_)
abbrev ac_.T20:Type:=Int->Int->(List Int)->Int->Int->Int->Int->Bs->Int->Int->Bs->(List aa_)->Option (aa_ × af_)
def ac_.step20 (n:Nat) (spec_l1DrawRight_:af_->Int->Option (aa_ × af_)) (k1:ac_.K20_1) (back:ac_.T20):ac_.T20:=fun append t7 o0 o1 o2 t40 t41 t42 t60 t61 t62 t63=>
 ((ao_ n (af_.mk o0 o1 o2) 5).bind fun A6=>(cond (decide (t7<A6.1)) ((spec_l1DrawRight_ A6.2 (W (append - 1))).bind fun A7=>(bk_ (t63.length+([(aa_.re A7.1)]:List aa_).length) 80 (back append (W (t7+1)) A7.2.b A7.2.i A7.2.h t40 t41 t42 t60 t61 t62 (t63++([(aa_.re A7.1)]:List aa_))))) (k1 A6.2.b A6.2.i A6.2.h t40 t41 t42 t60 t61 t62 t63)))
def ac_.loop20 (n:Nat) (spec_l1DrawRight_:af_->Int->Option (aa_ × af_)) (k1:ac_.K20_1) (N:Nat):ac_.T20:=cv_ (fun _ _ _ _ _ _ _ _ _ _ _ _=>none) (ac_.step20 n spec_l1DrawRight_ k1) N
abbrev ac_.K28_1:Type:=(List Int)->Int->Int->Int->Int->Bs->Int->Int->Bs->(List aa_)->(List Bs)->Option (aa_ × af_)
abbrev ac_.T28:Type:=Int->Int->(List Int)->Int->Int->Int->Int->Bs->Int->Int->Bs->(List aa_)->(List Bs)->Option (aa_ × af_)
def ac_.step28 (n:Nat) (spec_l1DrawRight_:af_->Int->Option (aa_ × af_)) (k3:ac_.K28_1) (back:ac_.T28):ac_.T28:=fun append t9 o0 o1 o2 t40 t41 t42 t80 t81 t82 t83 t84=>
 ((ao_ n (af_.mk o0 o1 o2) 5).bind fun A18=>(cond (decide (t9<A18.1)) ((dg_ n A18.2).bind fun A19=>((cI_ n (aa_.mk t80 t81 t82 t83 t84) A19.1).bind fun A20=>(cond (decide (A20<0)) ((spec_l1DrawRight_ A19.2 (W (append - 1))).bind fun A21=>((bP_ n (aa_.mk t80 t81 t82 t83 t84) A19.1 (aa_.re A21.1)).bind fun A22=>(back append (W (t9+1)) A21.2.b A21.2.i A21.2.h t40 t41 t42 A22.kind A22.n_ A22.s A22.list A22.names))) (back append (W (t9+1)) A19.2.b A19.2.i A19.2.h t40 t41 t42 t80 t81 t82 t83 t84)))) (k3 A18.2.b A18.2.i A18.2.h t40 t41 t42 t80 t81 t82 t83 t84)))
def ac_.loop28 (n:Nat) (spec_l1DrawRight_:af_->Int->Option (aa_ × af_)) (k3:ac_.K28_1) (N:Nat):ac_.T28:=cv_ (fun _ _ _ _ _ _ _ _ _ _ _ _ _=>none) (ac_.step28 n spec_l1DrawRight_ k3) N
def ac_:Nat->af_->Int->Option (aa_ × af_)
 |0,_,_=>none
 |n+1,o,append=>
  ((ao_ n o 8).bind fun A1=>(cond (decide (append<=1)) ((ao_ n A1.2 5).bind fun A2=>(cond (A2.1 == 0) (some ((aa_.mk 0 0 [] ([]:List aa_) ([]:List Bs)),A2.2)) (cond (A2.1 == 1) ((ao_ n A2.2 2).bind fun A3=>(some ((aa_.mk 1 A3.1 [] ([]:List aa_) ([]:List Bs)),A3.2))) (cond (A2.1 == 2) ((dL_ n A2.2 ([[],[120],[97,34,98],[97,92,92,98],[104,101,108,108,111,32,116,104,101,114,101],[126,49]]:List Bs)).bind fun A4=>(some ((aa_.mk 3 0 A4.1 ([]:List aa_) ([]:List Bs)),A4.2))) (cond (A2.1 == 3) (cond (A2.1 == 3) ((bJ_ n A2.2 ([0,1,(-5),77,1000000000,(-1000000000)]:List Int)).bind fun A5=>(some ((aa_.mk 2 A5.1 [] ([]:List aa_) ([]:List Bs)),A5.2))) (cond (A2.1 == 5) (cond (A2.1 == 5) (ac_.loop20 n (ac_ n) (fun B8 B9 B10 B11 B12 B13 B14 B15 B16 B17=>(some ((aa_.mk B14 B15 B16 B17 ([]:List Bs)),(af_.mk B8 B9 B10)))) n append 0 A2.2.b A2.2.i A2.2.h 0 0 [] 4 0 [] ([]:List aa_)) (ac_.loop28 n (ac_ n) (fun B23 B24 B25 B26 B27 B28 B29 B30 B31 B32 B33=>(some ((aa_.mk B29 B30 B31 B32 B33),(af_.mk B23 B24 B25)))) n append 0 A2.2.b A2.2.i A2.2.h 0 0 [] 5 0 [] ([]:List aa_) ([]:List Bs))) (cond (A2.1 == 6) (ac_.loop20 n (ac_ n) (fun B34 B35 B36 B37 B38 B39 B40 B41 B42 B43=>(some ((aa_.mk B40 B41 B42 B43 ([]:List Bs)),(af_.mk B34 B35 B36)))) n append 0 A2.2.b A2.2.i A2.2.h 0 0 [] 4 0 [] ([]:List aa_)) (ac_.loop28 n (ac_ n) (fun B44 B45 B46 B47 B48 B49 B50 B51 B52 B53 B54=>(some ((aa_.mk B50 B51 B52 B53 B54),(af_.mk B44 B45 B46)))) n append 0 A2.2.b A2.2.i A2.2.h 0 0 [] 5 0 [] ([]:List aa_) ([]:List Bs))))) (cond (A2.1 == 4) ((bJ_ n A2.2 ([0,1,(-5),77,1000000000,(-1000000000)]:List Int)).bind fun A55=>(some ((aa_.mk 2 A55.1 [] ([]:List aa_) ([]:List Bs)),A55.2))) (cond (A2.1 == 5) (cond (A2.1 == 5) (ac_.loop20 n (ac_ n) (fun B56 B57 B58 B59 B60 B61 B62 B63 B64 B65=>(some ((aa_.mk B62 B63 B64 B65 ([]:List Bs)),(af_.mk B56 B57 B58)))) n append 0 A2.2.b A2.2.i A2.2.h 0 0 [] 4 0 [] ([]:List aa_)) (ac_.loop28 n (ac_ n) (fun B66 B67 B68 B69 B70 B71 B72 B73 B74 B75 B76=>(some ((aa_.mk B72 B73 B74 B75 B76),(af_.mk B66 B67 B68)))) n append 0 A2.2.b A2.2.i A2.2.h 0 0 [] 5 0 [] ([]:List aa_) ([]:List Bs))) (cond (A2.1 == 6) (ac_.loop20 n (ac_ n) (fun B77 B78 B79 B80 B81 B82 B83 B84 B85 B86=>(some ((aa_.mk B83 B84 B85 B86 ([]:List Bs)),(af_.mk B77 B78 B79)))) n append 0 A2.2.b A2.2.i A2.2.h 0 0 [] 4 0 [] ([]:List aa_)) (ac_.loop28 n (ac_ n) (fun B87 B88 B89 B90 B91 B92 B93 B94 B95 B96 B97=>(some ((aa_.mk B93 B94 B95 B96 B97),(af_.mk B87 B88 B89)))) n append 0 A2.2.b A2.2.i A2.2.h 0 0 [] 5 0 [] ([]:List aa_) ([]:List Bs)))))))))) (cond (A1.1 == 0) (some ((aa_.mk 0 0 [] ([]:List aa_) ([]:List Bs)),A1.2)) (cond (A1.1 == 1) ((ao_ n A1.2 2).bind fun A98=>(some ((aa_.mk 1 A98.1 [] ([]:List aa_) ([]:List Bs)),A98.2))) (cond (A1.1 == 2) ((dL_ n A1.2 ([[],[120],[97,34,98],[97,92,92,98],[104,101,108,108,111,32,116,104,101,114,101],[126,49]]:List Bs)).bind fun A99=>(some ((aa_.mk 3 0 A99.1 ([]:List aa_) ([]:List Bs)),A99.2))) (cond (A1.1 == 3) (cond (A1.1 == 3) ((bJ_ n A1.2 ([0,1,(-5),77,1000000000,(-1000000000)]:List Int)).bind fun A100=>(some ((aa_.mk 2 A100.1 [] ([]:List aa_) ([]:List Bs)),A100.2))) (cond (A1.1 == 5) (cond (A1.1 == 5) (ac_.loop20 n (ac_ n) (fun B101 B102 B103 B104 B105 B106 B107 B108 B109 B110=>(some ((aa_.mk B107 B108 B109 B110 ([]:List Bs)),(af_.mk B101 B102 B103)))) n append 0 A1.2.b A1.2.i A1.2.h 0 0 [] 4 0 [] ([]:List aa_)) (ac_.loop28 n (ac_ n) (fun B111 B112 B113 B114 B115 B116 B117 B118 B119 B120 B121=>(some ((aa_.mk B117 B118 B119 B120 B121),(af_.mk B111 B112 B113)))) n append 0 A1.2.b A1.2.i A1.2.h 0 0 [] 5 0 [] ([]:List aa_) ([]:List Bs))) (cond (A1.1 == 6) (ac_.loop20 n (ac_ n) (fun B122 B123 B124 B125 B126 B127 B128 B129 B130 B131=>(some ((aa_.mk B128 B129 B130 B131 ([]:List Bs)),(af_.mk B122 B123 B124)))) n append 0 A1.2.b A1.2.i A1.2.h 0 0 [] 4 0 [] ([]:List aa_)) (ac_.loop28 n (ac_ n) (fun B132 B133 B134 B135 B136 B137 B138 B139 B140 B141 B142=>(some ((aa_.mk B138 B139 B140 B141 B142),(af_.mk B132 B133 B134)))) n append 0 A1.2.b A1.2.i A1.2.h 0 0 [] 5 0 [] ([]:List aa_) ([]:List Bs))))) (cond (A1.1 == 4) ((bJ_ n A1.2 ([0,1,(-5),77,1000000000,(-1000000000)]:List Int)).bind fun A143=>(some ((aa_.mk 2 A143.1 [] ([]:List aa_) ([]:List Bs)),A143.2))) (cond (A1.1 == 5) (cond (A1.1 == 5) (ac_.loop20 n (ac_ n) (fun B144 B145 B146 B147 B148 B149 B150 B151 B152 B153=>(some ((aa_.mk B150 B151 B152 B153 ([]:List Bs)),(af_.mk B144 B145 B146)))) n append 0 A1.2.b A1.2.i A1.2.h 0 0 [] 4 0 [] ([]:List aa_)) (ac_.loop28 n (ac_ n) (fun B154 B155 B156 B157 B158 B159 B160 B161 B162 B163 B164=>(some ((aa_.mk B160 B161 B162 B163 B164),(af_.mk B154 B155 B156)))) n append 0 A1.2.b A1.2.i A1.2.h 0 0 [] 5 0 [] ([]:List aa_) ([]:List Bs))) (cond (A1.1 == 6) (ac_.loop20 n (ac_ n) (fun B165 B166 B167 B168 B169 B170 B171 B172 B173 B174=>(some ((aa_.mk B171 B172 B173 B174 ([]:List Bs)),(af_.mk B165 B166 B167)))) n append 0 A1.2.b A1.2.i A1.2.h 0 0 [] 4 0 [] ([]:List aa_)) (ac_.loop28 n (ac_ n) (fun B175 B176 B177 B178 B179 B180 B181 B182 B183 B184 B185=>(some ((aa_.mk B181 B182 B183 B184 B185),(af_.mk B175 B176 B177)))) n append 0 A1.2.b A1.2.i A1.2.h 0 0 [] 5 0 [] ([]:List aa_) ([]:List Bs)))))))))))
abbrev aM_.K4:Type:=(List Int)->Int->Int->(List Int)->Option (a1_ × af_)
abbrev aM_.T4:Type:=Int->(List Int)->Int->Int->(List Int)->Option (a1_ × af_)
def aM_.step4 (n:Nat) (k0:aM_.K4) (back:aM_.T4):aM_.T4:=fun i c0 c1 c2 s0=>
 ((ao_ n (af_.mk c0 c1 c2) 3).bind fun A1=>(cond (decide (i<(W (1+A1.1)))) ((ao_ n A1.2 4).bind fun A2=>(bk_ (s0.length+([(W (1+A2.1))]:List Int).length) 8 (back (W (i+1)) A2.2.b A2.2.i A2.2.h (s0++([(W (1+A2.1))]:List Int))))) (k0 A1.2.b A1.2.i A1.2.h s0)))
def aM_.loop4 (n:Nat) (k0:aM_.K4) (N:Nat):aM_.T4:=cv_ (fun _ _ _ _ _=>none) (aM_.step4 n k0) N
def aM_:Nat->af_->Option (a1_ × af_)
 |0,_=>none
 |n+1,c=>
  (aM_.loop4 n (fun B3 B4 B5 B6=>(some ((a1_.mk B6),(af_.mk B3 B4 B5)))) n 0 c.b c.i c.h ([]:List Int))
def cb_:Nat->Int->Int->Int->Option Bool
 |0,_,_,_=>none
 |n+1,x,lo,hi=>
  (cond (decide (x>=lo)) (some (decide (x<=hi))) (some false))
abbrev a5_.K3:Type:=(List Int)->Option Bool
abbrev a5_.T3:Type:=Int->(List Int)->Option Bool
def a5_.step3 (n:Nat) (k0:a5_.K3) (back:a5_.T3):a5_.T3:=fun i s0=>
 (cond (decide (i<(s0.length:Int))) (inB i s0.length ((cb_ n (s0.getD i.toNat 0) 1 4).bind fun A1=>(cond (!A1) (some false) (back (W (i+1)) s0)))) (k0 s0))
def a5_.loop3 (n:Nat) (k0:a5_.K3) (N:Nat):a5_.T3:=cv_ (fun _ _=>none) (a5_.step3 n k0) N
def a5_:Nat->a1_->Option Bool
 |0,_=>none
 |n+1,s=>
  (a5_.loop3 n (fun B2=>((cb_ n (B2.length:Int) 1 3).bind fun A3=>(some A3))) n 0 s.cols)
def dx_:Nat->a1_->Option a1_
 |0,_=>none
 |n+1,s=>
  (bk_ (([]:List Int).length+s.cols.length) 8 (some (a1_.mk (([]:List Int)++s.cols))))
def dU_:Nat->a1_->Option (ax_ × Bool)
 |0,_=>none
 |n+1,s=>
  ((a5_ n s).bind fun A1=>(cond (!A1) (some ((ax_.mk (a1_.mk ([]:List Int)) 0 ([]:List (List TRow))),false)) ((dx_ n s).bind fun A2=>(cond (decide ((s.cols.length:Int)=(s.cols.length:Int))) (cond (decide (0<=(s.cols.length:Int))) (cond (decide ((s.cols.length:Int)*24<=140737488355328)) (some ((ax_.mk A2 0 (List.replicate (s.cols.length:Int).toNat [])),true)) none) none) none))))
abbrev bb_.K4:Type:=(List Int)->Int->Int->Int->Int->(List Int)->Option (TRow × af_)
abbrev bb_.T4:Type:=Int->Int->(List Int)->Int->Int->Int->Int->(List Int)->Option (TRow × af_)
def bb_.step4 (n:Nat) (k0:bb_.K4) (back:bb_.T4):bb_.T4:=fun cols i c0 c1 c2 t40 r0 r1=>
 (cond (decide (i<cols)) ((ao_ n (af_.mk c0 c1 c2) 6).bind fun A2=>(bk_ (r1.length+([A2.1]:List Int).length) 8 (back cols (W (i+1)) A2.2.b A2.2.i A2.2.h t40 r0 (r1++([A2.1]:List Int))))) (k0 c0 c1 c2 t40 r0 r1))
def bb_.loop4 (n:Nat) (k0:bb_.K4) (N:Nat):bb_.T4:=cv_ (fun _ _ _ _ _ _ _ _=>none) (bb_.step4 n k0) N
def bb_:Nat->af_->Int->Option (TRow × af_)
 |0,_,_=>none
 |n+1,c,cols=>
  ((ao_ n c 12).bind fun A1=>(bb_.loop4 n (fun B3 B4 B5 B6 B7 B8=>(some ((TRow.mk B7 B8),(af_.mk B3 B4 B5)))) n cols 0 A1.2.b A1.2.i A1.2.h 0 (W (1+A1.1)) ([]:List Int)))
abbrev cm_.T3:Type:=(List TRow)->Int->Int->Option Int
def cm_.step3 (n:Nat) (k0:Option Int) (back:cm_.T3):cm_.T3:=fun rows id_1 i=>
 (cond (decide (i<(rows.length:Int))) (inB i rows.length (cond (((rows.getD i.toNat TRow.dflt).id_) == id_1) (some i) (back rows id_1 (W (i+1))))) k0)
def cm_.loop3 (n:Nat) (k0:Option Int) (N:Nat):cm_.T3:=cv_ (fun _ _ _=>none) (cm_.step3 n k0) N
def cm_:Nat->(List TRow)->Int->Option Int
 |0,_,_=>none
 |n+1,rows,id1=>
  (cm_.loop3 n (some (-1)) n rows id1 0)
def cC_:Nat->TRow->Option TRow
 |0,_=>none
 |n+1,r=>
  (bk_ (([]:List Int).length+r.cells.length) 8 (some (TRow.mk r.id_ (([]:List Int)++r.cells))))
abbrev bm_.K5:Type:=(List TRow)->Option (List TRow)
abbrev bm_.T5:Type:=(List TRow)->Int->Int->(List TRow)->Option (List TRow)
def bm_.step5 (n:Nat) (k0:bm_.K5) (back:bm_.T5):bm_.T5:=fun rows at_1 i out_1=>
 (cond (decide (i<(rows.length:Int))) (cond (i != at_1) (inB i rows.length ((cC_ n (rows.getD i.toNat TRow.dflt)).bind fun A2=>(bk_ (out_1.length+([A2]:List TRow).length) 32 (back rows at_1 (W (i+1)) (out_1++([A2]:List TRow)))))) (back rows at_1 (W (i+1)) out_1)) (k0 out_1))
def bm_.loop5 (n:Nat) (k0:bm_.K5) (N:Nat):bm_.T5:=cv_ (fun _ _ _ _=>none) (bm_.step5 n k0) N
def bm_:Nat->(List TRow)->Int->Option (List TRow)
 |0,_,_=>none
 |n+1,rows,id1=>
  ((cm_ n rows id1).bind fun A1=>(bm_.loop5 n (fun B3=>(some B3)) n rows A1 0 ([]:List TRow)))
abbrev bK_.K6:Type:=Int->Int->(List Int)->(List TRow)->Option (List TRow)
abbrev bK_.T6:Type:=Int->Int->Int->(List Int)->(List TRow)->Option (List TRow)
def bK_.step6 (n:Nat) (k0:bK_.K6) (back:bK_.T6):bK_.T6:=fun at_1 i r0 r1 out_1=>
 (cond (decide (i>=0)) (inB i out_1.length (cond (decide (((out_1.getD i.toNat TRow.dflt).id_) > r0)) (back i (W (i - 1)) r0 r1 out_1) (back at_1 (W (i - 1)) r0 r1 out_1))) (k0 at_1 r0 r1 out_1))
def bK_.loop6 (n:Nat) (k0:bK_.K6) (N:Nat):bK_.T6:=cv_ (fun _ _ _ _ _=>none) (bK_.step6 n k0) N
def bK_:Nat->(List TRow)->TRow->Option (List TRow)
 |0,_,_=>none
 |n+1,rows,r=>
  ((bm_ n rows r.id_).bind fun A1=>((cm_ n rows r.id_).bind fun A2=>(cond (decide (A2>=0)) ((cm_ n rows r.id_).bind fun A3=>(f6_ 0 A3 A1.length (bk_ (([]:List TRow).length+((A1.take A3.toNat).drop 0).length) 32 ((cC_ n r).bind fun A4=>(bk_ ((([]:List TRow)++((A1.take A3.toNat).drop 0)).length+([A4]:List TRow).length) 32 (f6_ A3 (A1.length:Int) A1.length (bk_ (((([]:List TRow)++((A1.take A3.toNat).drop 0))++([A4]:List TRow)).length+((A1.take ((A1.length:Int).toNat)).drop A3.toNat).length) 32 (some (((([]:List TRow)++((A1.take A3.toNat).drop 0))++([A4]:List TRow))++((A1.take ((A1.length:Int).toNat)).drop A3.toNat)))))))))) (bK_.loop6 n (fun B5 B6 B7 B8=>(f6_ 0 B5 B8.length (bk_ (([]:List TRow).length+((B8.take B5.toNat).drop 0).length) 32 ((cC_ n (TRow.mk B6 B7)).bind fun A9=>(bk_ ((([]:List TRow)++((B8.take B5.toNat).drop 0)).length+([A9]:List TRow).length) 32 (f6_ B5 (B8.length:Int) B8.length (bk_ (((([]:List TRow)++((B8.take B5.toNat).drop 0))++([A9]:List TRow)).length+((B8.take ((B8.length:Int).toNat)).drop B5.toNat).length) 32 (some (((([]:List TRow)++((B8.take B5.toNat).drop 0))++([A9]:List TRow))++((B8.take ((B8.length:Int).toNat)).drop B5.toNat)))))))))) n (A1.length:Int) (W ((A1.length:Int) - 1)) r.id_ r.cells A1))))
abbrev a3_.K4:Type:=(List Int)->Int->Int->(List TRow)->Option ((List TRow) × af_)
abbrev a3_.T4:Type:=Int->Int->(List Int)->Int->Int->(List TRow)->Option ((List TRow) × af_)
def a3_.step4 (n:Nat) (k0:a3_.K4) (back:a3_.T4):a3_.T4:=fun cols i c0 c1 c2 out_1=>
 ((ao_ n (af_.mk c0 c1 c2) 9).bind fun A1=>(cond (decide (i<A1.1)) ((bb_ n A1.2 cols).bind fun A2=>((bK_ n out_1 A2.1).bind fun A3=>(back cols (W (i+1)) A2.2.b A2.2.i A2.2.h A3))) (k0 A1.2.b A1.2.i A1.2.h out_1)))
def a3_.loop4 (n:Nat) (k0:a3_.K4) (N:Nat):a3_.T4:=cv_ (fun _ _ _ _ _ _=>none) (a3_.step4 n k0) N
def a3_:Nat->af_->Int->Option ((List TRow) × af_)
 |0,_,_=>none
 |n+1,c,cols=>
  (a3_.loop4 n (fun B4 B5 B6 B7=>(some (B7,(af_.mk B4 B5 B6)))) n cols 0 c.b c.i c.h ([]:List TRow))
abbrev aQ_.K4:Type:=(List Int)->Int->Int->Int->Int->(List Int)->(List (List TRow))->Option (ax_ × af_)
abbrev aQ_.T4:Type:=Int->(List Int)->Int->Int->Int->Int->(List Int)->(List (List TRow))->Option (ax_ × af_)
def aQ_.step4 (n:Nat) (k0:aQ_.K4) (back:aQ_.T4):aQ_.T4:=fun t c0 c1 c2 t21 s1 s0 s2=>
 (cond (decide (t<(s2.length:Int))) (inB t s0.length ((a3_ n (af_.mk c0 c1 c2) (s0.getD t.toNat 0)).bind fun A3=>(inB t s2.length (let D4:List (List TRow):=s2.set t.toNat A3.1;(back (W (t+1)) A3.2.b A3.2.i A3.2.h t21 s1 s0 D4))))) (k0 c0 c1 c2 t21 s1 s0 s2))
def aQ_.loop4 (n:Nat) (k0:aQ_.K4) (N:Nat):aQ_.T4:=cv_ (fun _ _ _ _ _ _ _ _=>none) (aQ_.step4 n k0) N
def aQ_:Nat->af_->Option (ax_ × af_)
 |0,_=>none
 |n+1,c=>
  ((aM_ n c).bind fun A1=>((dU_ n A1.1).bind fun A2=>(aQ_.loop4 n (fun B5 B6 B7 B8 B9 B10 B11=>((ao_ n (af_.mk B5 B6 B7) 5).bind fun A12=>(some ((ax_.mk (a1_.mk B10) A12.1 B11),A12.2)))) n 0 A1.2.b A1.2.i A1.2.h 0 A2.1.version A2.1.schema.cols A2.1.tables)))
abbrev aj_.K7:Type:=Int->(List Int)->Int->Int->(List Int)->Int->Int->Bool->Int->Bool->Int->Int->Int->Int->Bool->Int->Bool->Int->Int->(List ca_)->Option (ay_ × af_)
abbrev aj_.T7:Type:=Int->Int->(List Int)->Int->Int->(List Int)->Int->Int->Bool->Int->Bool->Int->Int->Int->Int->Bool->Int->Bool->Int->Int->(List ca_)->Option (ay_ × af_)
def aj_.step7 (n:Nat) (k0:aj_.K7) (back:aj_.T7):aj_.T7:=fun t6 t7 o0 o1 o2 t30 t40 t42 t43 t44 t46 t47 t48 t50 t52 t53 t54 t56 t57 t58 t51=>
 ((ao_ n (af_.mk o0 o1 o2) 3).bind fun A4=>(cond (decide (t7<A4.1)) ((ao_ n A4.2 t6).bind fun A5=>((ao_ n A5.2 4).bind fun A6=>((ao_ n A6.2 6).bind fun A7=>(bk_ (t51.length+([(ca_.mk A5.1 (W (1+A6.1)) A7.1)]:List ca_).length) 24 (back t6 (W (t7+1)) A7.2.b A7.2.i A7.2.h t30 t40 t42 t43 t44 t46 t47 t48 t50 t52 t53 t54 t56 t57 t58 (t51++([(ca_.mk A5.1 (W (1+A6.1)) A7.1)]:List ca_))))))) (k0 t6 A4.2.b A4.2.i A4.2.h t30 t40 t42 t43 t44 t46 t47 t48 t50 t52 t53 t54 t56 t57 t58 t51)))
def aj_.loop7 (n:Nat) (k0:aj_.K7) (N:Nat):aj_.T7:=cv_ (fun _ _ _ _ _ _ _ _ _ _ _ _ _ _ _ _ _ _ _ _ _=>none) (aj_.step7 n k0) N
abbrev aj_.K16:Type:=(List Int)->Int->Int->(List Int)->Int->Int->Bool->Int->Bool->Int->Int->Int->Int->Bool->Int->Bool->Int->Int->(List ca_)->(List Int)->Option (ay_ × af_)
abbrev aj_.T16:Type:=Int->Int->(List Int)->Int->Int->(List Int)->Int->Int->Bool->Int->Bool->Int->Int->Int->Int->Bool->Int->Bool->Int->Int->(List ca_)->(List Int)->Option (ay_ × af_)
def aj_.step16 (n:Nat) (k2:aj_.K16) (back:aj_.T16):aj_.T16:=fun t6 t8 o0 o1 o2 t30 t40 t42 t43 t44 t46 t47 t48 t50 t52 t53 t54 t56 t57 t58 t51 t55=>
 (cond (decide (t8<t6)) ((cD_ n (af_.mk o0 o1 o2) 2).bind fun A31=>(cond A31.1 (bk_ (t55.length+([t8]:List Int).length) 8 (back t6 (W (t8+1)) A31.2.b A31.2.i A31.2.h t30 t40 t42 t43 t44 t46 t47 t48 t50 t52 t53 t54 t56 t57 t58 t51 (t55++([t8]:List Int)))) (back t6 (W (t8+1)) A31.2.b A31.2.i A31.2.h t30 t40 t42 t43 t44 t46 t47 t48 t50 t52 t53 t54 t56 t57 t58 t51 t55))) (k2 o0 o1 o2 t30 t40 t42 t43 t44 t46 t47 t48 t50 t52 t53 t54 t56 t57 t58 t51 t55))
def aj_.loop16 (n:Nat) (k2:aj_.K16) (N:Nat):aj_.T16:=cv_ (fun _ _ _ _ _ _ _ _ _ _ _ _ _ _ _ _ _ _ _ _ _ _=>none) (aj_.step16 n k2) N
def aj_:Nat->af_->a1_->Option (ay_ × af_)
 |0,_,_=>none
 |n+1,o,append=>
  ((cL_ n (append.cols.length:Int) 1).bind fun A1=>((ao_ n o A1).bind fun A2=>(cond (decide (A2.1<(append.cols.length:Int))) (inB A2.1 append.cols.length ((cL_ n (append.cols.getD A2.1.toNat 0) 1).bind fun A3=>(aj_.loop7 n (fun B8 B9 B10 B11 B12 B13 B14 B15 B16 B17 B18 B19 B20 B21 B22 B23 B24 B25 B26 B27=>((ao_ n (af_.mk B9 B10 B11) (W (B8+1))).bind fun A28=>(cond (decide (A28.1 > 0)) ((cD_ n A28.2 2).bind fun A29=>((bJ_ n A29.2 ([0,0,1,2,3,5]:List Int)).bind fun A30=>(aj_.loop16 n (fun B32 B33 B34 B35 B36 B37 B38 B39 B40 B41 B42 B43 B44 B45 B46 B47 B48 B49 B50 B51=>((cD_ n (af_.mk B32 B33 B34) 2).bind fun A52=>(cond A52.1 ((cL_ n (B35.length:Int) 1).bind fun A53=>((ao_ n A52.2 A53).bind fun A54=>(cond (decide (A54.1<(B35.length:Int))) (inB A54.1 B35.length ((cL_ n (B35.getD A54.1.toNat 0) 1).bind fun A55=>((ao_ n A54.2 A55).bind fun A56=>(some ((ay_.mk B43 B50 B44 B45 B46 B51 true A54.1 A56.1),A56.2))))) (some ((ay_.mk B43 B50 B44 B45 B46 B51 true A54.1 B49),A54.2))))) (some ((ay_.mk B43 B50 B44 B45 B46 B51 B47 B48 B49),A52.2))))) n B8 0 A30.2.b A30.2.i A30.2.h B12 B13 B14 B15 B16 B17 B18 B19 B20 A28.1 A29.1 A30.1 B24 B25 B26 B27 ([]:List Int)))) ((bJ_ n A28.2 ([0,0,1,2,3,5]:List Int)).bind fun A57=>(aj_.loop16 n (fun B58 B59 B60 B61 B62 B63 B64 B65 B66 B67 B68 B69 B70 B71 B72 B73 B74 B75 B76 B77=>((cD_ n (af_.mk B58 B59 B60) 2).bind fun A78=>(cond A78.1 ((cL_ n (B61.length:Int) 1).bind fun A79=>((ao_ n A78.2 A79).bind fun A80=>(cond (decide (A80.1<(B61.length:Int))) (inB A80.1 B61.length ((cL_ n (B61.getD A80.1.toNat 0) 1).bind fun A81=>((ao_ n A80.2 A81).bind fun A82=>(some ((ay_.mk B69 B76 B70 B71 B72 B77 true A80.1 A82.1),A82.2))))) (some ((ay_.mk B69 B76 B70 B71 B72 B77 true A80.1 B75),A80.2))))) (some ((ay_.mk B69 B76 B70 B71 B72 B77 B73 B74 B75),A78.2))))) n B8 0 A57.2.b A57.2.i A57.2.h B12 B13 B14 B15 B16 B17 B18 B19 B20 A28.1 false A57.1 B24 B25 B26 B27 ([]:List Int)))))) n A3 0 A2.2.b A2.2.i A2.2.h append.cols 0 0 false 0 false 0 0 A2.1 0 false 0 false 0 0 ([]:List ca_)))) (aj_.loop7 n (fun B83 B84 B85 B86 B87 B88 B89 B90 B91 B92 B93 B94 B95 B96 B97 B98 B99 B100 B101 B102=>((ao_ n (af_.mk B84 B85 B86) (W (B83+1))).bind fun A103=>(cond (decide (A103.1 > 0)) ((cD_ n A103.2 2).bind fun A104=>((bJ_ n A104.2 ([0,0,1,2,3,5]:List Int)).bind fun A105=>(aj_.loop16 n (fun B106 B107 B108 B109 B110 B111 B112 B113 B114 B115 B116 B117 B118 B119 B120 B121 B122 B123 B124 B125=>((cD_ n (af_.mk B106 B107 B108) 2).bind fun A126=>(cond A126.1 ((cL_ n (B109.length:Int) 1).bind fun A127=>((ao_ n A126.2 A127).bind fun A128=>(cond (decide (A128.1<(B109.length:Int))) (inB A128.1 B109.length ((cL_ n (B109.getD A128.1.toNat 0) 1).bind fun A129=>((ao_ n A128.2 A129).bind fun A130=>(some ((ay_.mk B117 B124 B118 B119 B120 B125 true A128.1 A130.1),A130.2))))) (some ((ay_.mk B117 B124 B118 B119 B120 B125 true A128.1 B123),A128.2))))) (some ((ay_.mk B117 B124 B118 B119 B120 B125 B121 B122 B123),A126.2))))) n B83 0 A105.2.b A105.2.i A105.2.h B87 B88 B89 B90 B91 B92 B93 B94 B95 A103.1 A104.1 A105.1 B99 B100 B101 B102 ([]:List Int)))) ((bJ_ n A103.2 ([0,0,1,2,3,5]:List Int)).bind fun A131=>(aj_.loop16 n (fun B132 B133 B134 B135 B136 B137 B138 B139 B140 B141 B142 B143 B144 B145 B146 B147 B148 B149 B150 B151=>((cD_ n (af_.mk B132 B133 B134) 2).bind fun A152=>(cond A152.1 ((cL_ n (B135.length:Int) 1).bind fun A153=>((ao_ n A152.2 A153).bind fun A154=>(cond (decide (A154.1<(B135.length:Int))) (inB A154.1 B135.length ((cL_ n (B135.getD A154.1.toNat 0) 1).bind fun A155=>((ao_ n A154.2 A155).bind fun A156=>(some ((ay_.mk B143 B150 B144 B145 B146 B151 true A154.1 A156.1),A156.2))))) (some ((ay_.mk B143 B150 B144 B145 B146 B151 true A154.1 B149),A154.2))))) (some ((ay_.mk B143 B150 B144 B145 B146 B151 B147 B148 B149),A152.2))))) n B83 0 A131.2.b A131.2.i A131.2.h B87 B88 B89 B90 B91 B92 B93 B94 B95 A103.1 false A131.1 B99 B100 B101 B102 ([]:List Int)))))) n 1 0 A2.2.b A2.2.i A2.2.h append.cols 0 0 false 0 false 0 0 A2.1 0 false 0 false 0 0 ([]:List ca_)))))
abbrev cq_.T6:Type:=Int->Int->(List Int)->Option Bool
def cq_.step6 (n:Nat) (k0:Option Bool) (back:cq_.T6):cq_.T6:=fun i r0 r1=>
 (cond (decide (i<(r1.length:Int))) (inB i r1.length ((cb_ n (r1.getD i.toNat 0) (-1000000000) 1000000000).bind fun A4=>(cond (!A4) (some false) (back (W (i+1)) r0 r1)))) k0)
def cq_.loop6 (n:Nat) (k0:Option Bool) (N:Nat):cq_.T6:=cv_ (fun _ _ _=>none) (cq_.step6 n k0) N
def cq_:Nat->a1_->Int->TRow->Option Bool
 |0,_,_,_=>none
 |n+1,s,table,r=>
  ((a5_ n s).bind fun A1=>(cond (!A1) (some false) ((cb_ n table 0 (W ((s.cols.length:Int) - 1))).bind fun A2=>(cond (!A2) (some false) ((cb_ n r.id_ 1 999).bind fun A3=>(cond (!A3) (some false) (inB table s.cols.length (cond ((r.cells.length:Int) != (s.cols.getD table.toNat 0)) (some false) (cq_.loop6 n (some true) n 0 r.id_ r.cells)))))))))
abbrev b7_.K3:Type:=Int->(List TRow)->(List Int)->Option Bool
abbrev b7_.T3:Type:=Int->(List TRow)->Int->(List Int)->Option Bool
def b7_.step3 (n:Nat) (k0:b7_.K3) (back:b7_.T3):b7_.T3:=fun table rows i s0=>
 (cond (decide (i<(rows.length:Int))) (inB i rows.length ((cq_ n (a1_.mk s0) table (rows.getD i.toNat TRow.dflt)).bind fun A1=>(cond (!A1) (some false) (cond (decide (i > 0)) (inB (W (i - 1)) rows.length (inB i rows.length (let C2:Bool:=(decide (((rows.getD (W (i - 1)).toNat TRow.dflt).id_)>=((rows.getD i.toNat TRow.dflt).id_)));(cond C2 (some false) (back table rows (W (i+1)) s0))))) (back table rows (W (i+1)) s0))))) (k0 table rows s0))
def b7_.loop3 (n:Nat) (k0:b7_.K3) (N:Nat):b7_.T3:=cv_ (fun _ _ _ _=>none) (b7_.step3 n k0) N
def b7_:Nat->a1_->Int->(List TRow)->Option Bool
 |0,_,_,_=>none
 |n+1,s,table,rows=>
  (b7_.loop3 n (fun B3 B4 B5=>((a5_ n (a1_.mk B5)).bind fun A6=>(cond A6 ((cb_ n B3 0 (W ((B5.length:Int) - 1))).bind fun A7=>(cond A7 (some (decide ((B4.length:Int)<=24))) (some false))) (some false)))) n table rows 0 s.cols)
abbrev bD_.T6:Type:=Int->(List Int)->Int->(List (List TRow))->Option Bool
def bD_.step6 (n:Nat) (k0:Option Bool) (back:bD_.T6):bD_.T6:=fun t s0 s1 s2=>
 (cond (decide (t<(s2.length:Int))) (inB t s2.length ((b7_ n (a1_.mk s0) t (s2.getD t.toNat [])).bind fun A3=>(cond (!A3) (some false) (back (W (t+1)) s0 s1 s2)))) k0)
def bD_.loop6 (n:Nat) (k0:Option Bool) (N:Nat):bD_.T6:=cv_ (fun _ _ _ _=>none) (bD_.step6 n k0) N
def bD_:Nat->ax_->Option Bool
 |0,_=>none
 |n+1,s=>
  ((a5_ n s.schema).bind fun A1=>(cond (!A1) (some false) ((cb_ n s.version 0 100000).bind fun A2=>(cond (!A2) (some false) (cond ((s.tables.length:Int) != (s.schema.cols.length:Int)) (some false) (bD_.loop6 n (some true) n 0 s.schema.cols s.version s.tables))))))
abbrev aB_.K7:Type:=Int->(List Int)->Int->(List ca_)->Int->Bool->Int->(List Int)->Bool->Int->Int->Option Bool
abbrev aB_.T7:Type:=Int->Int->(List Int)->Int->(List ca_)->Int->Bool->Int->(List Int)->Bool->Int->Int->Option Bool
def aB_.step7 (n:Nat) (k0:aB_.K7) (back:aB_.T7):aB_.T7:=fun t5 t6 t20 t30 t31 t32 t33 t34 t35 t36 t37 t38=>
 (cond (decide (t6<(t31.length:Int))) (inB t6 t31.length ((cb_ n ((t31.getD t6.toNat ca_.dflt).col) 0 (W (t5 - 1))).bind fun A3=>(cond (!A3) (some false) ((cb_ n ((t31.getD t6.toNat ca_.dflt).op) 1 4).bind fun A4=>(cond (!A4) (some false) ((cb_ n ((t31.getD t6.toNat ca_.dflt).v) (-1000000000) 1000000000).bind fun A5=>(cond (!A5) (some false) (back t5 (W (t6+1)) t20 t30 t31 t32 t33 t34 t35 t36 t37 t38)))))))) (k0 t5 t20 t30 t31 t32 t33 t34 t35 t36 t37 t38))
def aB_.loop7 (n:Nat) (k0:aB_.K7) (N:Nat):aB_.T7:=cv_ (fun _ _ _ _ _ _ _ _ _ _ _ _=>none) (aB_.step7 n k0) N
abbrev aB_.K16:Type:=Int->(List Int)->Int->(List ca_)->Int->Bool->Int->(List Int)->Bool->Int->Int->Option Bool
abbrev aB_.T16:Type:=Int->Int->(List Int)->Int->(List ca_)->Int->Bool->Int->(List Int)->Bool->Int->Int->Option Bool
def aB_.step16 (n:Nat) (k2:aB_.K16) (back:aB_.T16):aB_.T16:=fun t5 t8 t20 t30 t31 t32 t33 t34 t35 t36 t37 t38=>
 (cond (decide (t8<(t35.length:Int))) (inB t8 t35.length ((cb_ n (t35.getD t8.toNat 0) 0 (W (t5 - 1))).bind fun A17=>(cond (!A17) (some false) (cond (decide (t8 > 0)) (inB (W (t8 - 1)) t35.length (inB t8 t35.length (cond (decide ((t35.getD (W (t8 - 1)).toNat 0)>=(t35.getD t8.toNat 0))) (some false) (back t5 (W (t8+1)) t20 t30 t31 t32 t33 t34 t35 t36 t37 t38)))) (back t5 (W (t8+1)) t20 t30 t31 t32 t33 t34 t35 t36 t37 t38))))) (k2 t5 t20 t30 t31 t32 t33 t34 t35 t36 t37 t38))
def aB_.loop16 (n:Nat) (k2:aB_.K16) (N:Nat):aB_.T16:=cv_ (fun _ _ _ _ _ _ _ _ _ _ _ _=>none) (aB_.step16 n k2) N
def aB_:Nat->a1_->ay_->Option Bool
 |0,_,_=>none
 |n+1,o,append=>
  ((a5_ n o).bind fun A1=>(cond (!A1) (some false) ((cb_ n append.table 0 (W ((o.cols.length:Int) - 1))).bind fun A2=>(cond (!A2) (some false) (cond (decide ((append.where_.length:Int) > 3)) (some false) (inB append.table o.cols.length (aB_.loop7 n (fun B6 B7 B8 B9 B10 B11 B12 B13 B14 B15 B16=>(aB_.loop16 n (fun B18 B19 B20 B21 B22 B23 B24 B25 B26 B27 B28=>((cb_ n B22 0 B18).bind fun A29=>(cond (!A29) (some false) ((cb_ n B24 0 24).bind fun A30=>(cond (!A30) (some false) (cond (B22 == 0) (cond B23 (some false) (cond (!B26) (cond (B27 == 0) (some (B28 == 0)) (some false)) ((cb_ n B27 0 (W ((B19.length:Int) - 1))).bind fun A31=>(cond A31 (inB B27 B19.length ((cb_ n B28 0 (W ((B19.getD B27.toNat 0) - 1))).bind fun A32=>(some A32))) (some false))))) (cond (!B26) (cond (B27 == 0) (some (B28 == 0)) (some false)) ((cb_ n B27 0 (W ((B19.length:Int) - 1))).bind fun A33=>(cond A33 (inB B27 B19.length ((cb_ n B28 0 (W ((B19.getD B27.toNat 0) - 1))).bind fun A34=>(some A34))) (some false)))))))))) n B6 0 B7 B8 B9 B10 B11 B12 B13 B14 B15 B16)) n (o.cols.getD append.table.toNat 0) 0 o.cols append.table append.where_ append.order append.down append.first append.show_ append.kids append.kidTable append.kidCol)))))))
def el_:Nat->ay_->Option ay_
 |0,_=>none
 |n+1,q=>
  (bk_ (([]:List ca_).length+q.where_.length) 24 (bk_ (([]:List Int).length+q.show_.length) 8 (some { q with where_:=(([]:List ca_)++q.where_),show_:=(([]:List Int)++q.show_) })))
def dW_:Nat->ca_->TRow->Option Bool
 |0,_,_=>none
 |n+1,x,r=>
  ((cb_ n x.col 0 (W ((r.cells.length:Int) - 1))).bind fun A1=>(cond (!A1) (some false) (inB x.col r.cells.length (cond (x.op == 1) (some ((r.cells.getD x.col.toNat 0) == x.v)) (cond (x.op == 2) (some (decide ((r.cells.getD x.col.toNat 0)<x.v))) (cond (x.op == 3) (some (decide ((r.cells.getD x.col.toNat 0) > x.v))) (cond (x.op == 4) (some ((r.cells.getD x.col.toNat 0) != x.v)) (some false))))))))
abbrev bU_.T3:Type:=Int->Int->(List ca_)->Int->Bool->Int->(List Int)->Bool->Int->Int->Int->(List Int)->Option Bool
def bU_.step3 (n:Nat) (k0:Option Bool) (back:bU_.T3):bU_.T3:=fun i q0 q1 q2 q3 q4 q5 q6 q7 q8 r0 r1=>
 (cond (decide (i<(q1.length:Int))) (inB i q1.length ((dW_ n (q1.getD i.toNat ca_.dflt) (TRow.mk r0 r1)).bind fun A1=>(cond (!A1) (some false) (back (W (i+1)) q0 q1 q2 q3 q4 q5 q6 q7 q8 r0 r1)))) k0)
def bU_.loop3 (n:Nat) (k0:Option Bool) (N:Nat):bU_.T3:=cv_ (fun _ _ _ _ _ _ _ _ _ _ _ _=>none) (bU_.step3 n k0) N
def bU_:Nat->ay_->TRow->Option Bool
 |0,_,_=>none
 |n+1,q,r=>
  (bU_.loop3 n (some true) n 0 q.table q.where_ q.order q.down q.first q.show_ q.kids q.kidTable q.kidCol r.id_ r.cells)
def bX_:Nat->TRow->Int->Option Int
 |0,_,_=>none
 |n+1,r,col=>
  ((cb_ n col 0 (W ((r.cells.length:Int) - 1))).bind fun A1=>(cond (!A1) (some 0) (inB col r.cells.length (some (r.cells.getD col.toNat 0)))))
def eI_:Nat->ay_->TRow->TRow->Option Bool
 |0,_,_,_=>none
 |n+1,q,a,b=>
  (cond (q.order != 0) ((bX_ n a (W (q.order - 1))).bind fun A1=>((bX_ n b (W (q.order - 1))).bind fun A2=>(cond (A1 != A2) (some (!((decide (A1<A2)) == q.down))) (some (decide (a.id_<b.id_)))))) (some (decide (a.id_<b.id_))))
abbrev bY_.K5:Type:=Bool->Int->(List Int)->(List TRow)->Option (List TRow)
abbrev bY_.T5:Type:=(List TRow)->Bool->Int->Int->(List ca_)->Int->Bool->Int->(List Int)->Bool->Int->Int->Int->(List Int)->(List TRow)->Option (List TRow)
def bY_.step5 (n:Nat) (k0:bY_.K5) (back:bY_.T5):bY_.T5:=fun rows put i q0 q1 q2 q3 q4 q5 q6 q7 q8 r0 r1 out_1=>
 (cond (decide (i<(rows.length:Int))) (cond (!put) (inB i rows.length ((eI_ n (ay_.mk q0 q1 q2 q3 q4 q5 q6 q7 q8) (TRow.mk r0 r1) (rows.getD i.toNat TRow.dflt)).bind fun A1=>(cond A1 ((cC_ n (TRow.mk r0 r1)).bind fun A2=>(bk_ (out_1.length+([A2]:List TRow).length) 32 (inB i rows.length (bk_ ((out_1++([A2]:List TRow)).length+([(rows.getD i.toNat TRow.dflt)]:List TRow).length) 32 (back rows true (W (i+1)) q0 q1 q2 q3 q4 q5 q6 q7 q8 r0 r1 ((out_1++([A2]:List TRow))++([(rows.getD i.toNat TRow.dflt)]:List TRow))))))) (inB i rows.length (bk_ (out_1.length+([(rows.getD i.toNat TRow.dflt)]:List TRow).length) 32 (back rows put (W (i+1)) q0 q1 q2 q3 q4 q5 q6 q7 q8 r0 r1 (out_1++([(rows.getD i.toNat TRow.dflt)]:List TRow)))))))) (inB i rows.length (bk_ (out_1.length+([(rows.getD i.toNat TRow.dflt)]:List TRow).length) 32 (back rows put (W (i+1)) q0 q1 q2 q3 q4 q5 q6 q7 q8 r0 r1 (out_1++([(rows.getD i.toNat TRow.dflt)]:List TRow)))))) (k0 put r0 r1 out_1))
def bY_.loop5 (n:Nat) (k0:bY_.K5) (N:Nat):bY_.T5:=cv_ (fun _ _ _ _ _ _ _ _ _ _ _ _ _ _ _=>none) (bY_.step5 n k0) N
def bY_:Nat->ay_->(List TRow)->TRow->Option (List TRow)
 |0,_,_,_=>none
 |n+1,q,rows,r=>
  (bY_.loop5 n (fun B3 B4 B5 B6=>(cond (!B3) ((cC_ n (TRow.mk B4 B5)).bind fun A7=>(bk_ (B6.length+([A7]:List TRow).length) 32 (some (B6++([A7]:List TRow))))) (some B6))) n rows false 0 q.table q.where_ q.order q.down q.first q.show_ q.kids q.kidTable q.kidCol r.id_ r.cells ([]:List TRow))
abbrev bO_.K8:Type:=(List TRow)->Option (List TRow)
abbrev bO_.T8:Type:=(List TRow)->Int->Int->(List ca_)->Int->Bool->Int->(List Int)->Bool->Int->Int->(List TRow)->Option (List TRow)
def bO_.step8 (n:Nat) (k0:bO_.K8) (back:bO_.T8):bO_.T8:=fun rows i q0 q1 q2 q3 q4 q5 q6 q7 q8 out_1=>
 (cond (decide (i<(rows.length:Int))) (inB i rows.length ((bU_ n (ay_.mk q0 q1 q2 q3 q4 q5 q6 q7 q8) (rows.getD i.toNat TRow.dflt)).bind fun A3=>(cond A3 (inB i rows.length ((bY_ n (ay_.mk q0 q1 q2 q3 q4 q5 q6 q7 q8) out_1 (rows.getD i.toNat TRow.dflt)).bind fun A4=>(back rows (W (i+1)) q0 q1 q2 q3 q4 q5 q6 q7 q8 A4))) (back rows (W (i+1)) q0 q1 q2 q3 q4 q5 q6 q7 q8 out_1)))) (k0 out_1))
def bO_.loop8 (n:Nat) (k0:bO_.K8) (N:Nat):bO_.T8:=cv_ (fun _ _ _ _ _ _ _ _ _ _ _ _=>none) (bO_.step8 n k0) N
def bO_:Nat->ax_->ay_->Option (List TRow)
 |0,_,_=>none
 |n+1,s,q=>
  ((bD_ n s).bind fun A1=>(cond (!A1) (some ([]:List TRow)) ((aB_ n s.schema q).bind fun A2=>(cond (!A2) (some ([]:List TRow)) (inB q.table s.tables.length (bO_.loop8 n (fun B5=>(some B5)) n (s.tables.getD q.table.toNat []) 0 q.table q.where_ q.order q.down q.first q.show_ q.kids q.kidTable q.kidCol ([]:List TRow)))))))
abbrev aR_.K5:Type:=Int->Int->Bool->(List TKid)->Option (List TKid)
abbrev aR_.T5:Type:=(List TKid)->Int->Int->Bool->Int->(List TKid)->Option (List TKid)
def aR_.step5 (n:Nat) (k0:aR_.K5) (back:aR_.T5):aR_.T5:=fun o append t2 t8 t9 t7=>
 (cond (decide (t9<(o.length:Int))) (inB t9 o.length (cond (!t8) (cond (decide (((o.getD t9.toNat TKid.dflt).id_)>=append)) (cond (((o.getD t9.toNat TKid.dflt).id_) == append) (cond (decide ((W (((o.getD t9.toNat TKid.dflt).n_)+t2)) > 0)) (bk_ (t7.length+([(TKid.mk append (W (((o.getD t9.toNat TKid.dflt).n_)+t2)))]:List TKid).length) 16 (cond (((o.getD t9.toNat TKid.dflt).id_) == append) (back o append t2 true (W (t9+1)) (t7++([(TKid.mk append (W (((o.getD t9.toNat TKid.dflt).n_)+t2)))]:List TKid))) (bk_ ((t7++([(TKid.mk append (W (((o.getD t9.toNat TKid.dflt).n_)+t2)))]:List TKid)).length+([(o.getD t9.toNat TKid.dflt)]:List TKid).length) 16 (back o append t2 true (W (t9+1)) ((t7++([(TKid.mk append (W (((o.getD t9.toNat TKid.dflt).n_)+t2)))]:List TKid))++([(o.getD t9.toNat TKid.dflt)]:List TKid)))))) (cond (((o.getD t9.toNat TKid.dflt).id_) == append) (back o append t2 true (W (t9+1)) t7) (bk_ (t7.length+([(o.getD t9.toNat TKid.dflt)]:List TKid).length) 16 (back o append t2 true (W (t9+1)) (t7++([(o.getD t9.toNat TKid.dflt)]:List TKid)))))) (cond (decide (t2 > 0)) (bk_ (t7.length+([(TKid.mk append t2)]:List TKid).length) 16 (cond (((o.getD t9.toNat TKid.dflt).id_) == append) (back o append t2 true (W (t9+1)) (t7++([(TKid.mk append t2)]:List TKid))) (bk_ ((t7++([(TKid.mk append t2)]:List TKid)).length+([(o.getD t9.toNat TKid.dflt)]:List TKid).length) 16 (back o append t2 true (W (t9+1)) ((t7++([(TKid.mk append t2)]:List TKid))++([(o.getD t9.toNat TKid.dflt)]:List TKid)))))) (cond (((o.getD t9.toNat TKid.dflt).id_) == append) (back o append t2 true (W (t9+1)) t7) (bk_ (t7.length+([(o.getD t9.toNat TKid.dflt)]:List TKid).length) 16 (back o append t2 true (W (t9+1)) (t7++([(o.getD t9.toNat TKid.dflt)]:List TKid))))))) (bk_ (t7.length+([(o.getD t9.toNat TKid.dflt)]:List TKid).length) 16 (back o append t2 t8 (W (t9+1)) (t7++([(o.getD t9.toNat TKid.dflt)]:List TKid))))) (bk_ (t7.length+([(o.getD t9.toNat TKid.dflt)]:List TKid).length) 16 (back o append t2 t8 (W (t9+1)) (t7++([(o.getD t9.toNat TKid.dflt)]:List TKid)))))) (k0 append t2 t8 t7))
def aR_.loop5 (n:Nat) (k0:aR_.K5) (N:Nat):aR_.T5:=cv_ (fun _ _ _ _ _ _=>none) (aR_.step5 n k0) N
def aR_:Nat->(List TKid)->Int->Int->Option (List TKid)
 |0,_,_,_=>none
 |n+1,o,append,a2=>
  (aR_.loop5 n (fun B1 B2 B3 B4=>(cond (!B3) (cond (decide (B2 > 0)) (bk_ (B4.length+([(TKid.mk B1 B2)]:List TKid).length) 16 (some (B4++([(TKid.mk B1 B2)]:List TKid)))) (some B4)) (some B4))) n o append a2 false 0 ([]:List TKid))
abbrev b6_.K8:Type:=Int->Int->Bool->Int->Bool->Int->Int->Int->Int->Bool->Int->Bool->Int->Int->(List ca_)->(List Int)->(List TRow)->(List TKid)->Option (bq_ × Bool)
abbrev b6_.T8:Type:=(List TRow)->Int->Int->(List ca_)->Int->Bool->Int->(List Int)->Bool->Int->Int->Int->Int->Bool->Int->Bool->Int->Int->Int->Int->Bool->Int->Bool->Int->Int->(List ca_)->(List Int)->(List TRow)->(List TKid)->Option (bq_ × Bool)
def b6_.step8 (n:Nat) (k0:b6_.K8) (back:b6_.T8):b6_.T8:=fun rows i q0 q1 q2 q3 q4 q5 q6 q7 q8 t40 t42 t43 t44 t46 t47 t48 v0 v2 v3 v4 v6 v7 v8 v1 v5 v9 v10=>
 (cond (decide (i<(rows.length:Int))) (cond q6 (inB i rows.length (inB q8 ((rows.getD i.toNat TRow.dflt).cells).length ((aR_ n v10 (((rows.getD i.toNat TRow.dflt).cells).getD q8.toNat 0) 1).bind fun A5=>(back rows (W (i+1)) q0 q1 q2 q3 q4 q5 q6 q7 q8 t40 t42 t43 t44 t46 t47 t48 v0 v2 v3 v4 v6 v7 v8 v1 v5 v9 A5)))) (k0 t40 t42 t43 t44 t46 t47 t48 v0 v2 v3 v4 v6 v7 v8 v1 v5 v9 v10)) (k0 t40 t42 t43 t44 t46 t47 t48 v0 v2 v3 v4 v6 v7 v8 v1 v5 v9 v10))
def b6_.loop8 (n:Nat) (k0:b6_.K8) (N:Nat):b6_.T8:=cv_ (fun _ _ _ _ _ _ _ _ _ _ _ _ _ _ _ _ _ _ _ _ _ _ _ _ _ _ _ _ _=>none) (b6_.step8 n k0) N
def b6_:Nat->ax_->ay_->Option (bq_ × Bool)
 |0,_,_=>none
 |n+1,s,q=>
  ((bD_ n s).bind fun A1=>(cond (!A1) (some ((bq_.mk (ay_.mk 0 ([]:List ca_) 0 false 0 ([]:List Int) false 0 0) ([]:List TRow) ([]:List TKid)),false)) ((aB_ n s.schema q).bind fun A2=>(cond (!A2) (some ((bq_.mk (ay_.mk 0 ([]:List ca_) 0 false 0 ([]:List Int) false 0 0) ([]:List TRow) ([]:List TKid)),false)) ((el_ n q).bind fun A3=>((bO_ n s q).bind fun A4=>(inB q.kidTable s.tables.length (b6_.loop8 n (fun B6 B7 B8 B9 B10 B11 B12 B13 B14 B15 B16 B17 B18 B19 B20 B21 B22 B23=>(some ((bq_.mk (ay_.mk B13 B20 B14 B15 B16 B21 B17 B18 B19) B22 B23),true))) n (s.tables.getD q.kidTable.toNat []) 0 q.table q.where_ q.order q.down q.first q.show_ q.kids q.kidTable q.kidCol 0 0 false 0 false 0 0 A3.table A3.order A3.down A3.first A3.kids A3.kidTable A3.kidCol A3.where_ A3.show_ A4 ([]:List TKid)))))))))
def eg_:Nat->ax_->ay_->Option (cw_ × Bool)
 |0,_,_=>none
 |n+1,s,q=>
  ((b6_ n s q).bind fun A1=>(cond (!A1.2) (some ((cw_.mk (bq_.mk (ay_.mk 0 ([]:List ca_) 0 false 0 ([]:List Int) false 0 0) ([]:List TRow) ([]:List TKid)) 0 (bq_.mk (ay_.mk 0 ([]:List ca_) 0 false 0 ([]:List Int) false 0 0) ([]:List TRow) ([]:List TKid)) 0 false),false)) (some ((cw_.mk A1.1 s.version (bq_.mk (ay_.mk 0 ([]:List ca_) 0 false 0 ([]:List Int) false 0 0) ([]:List TRow) ([]:List TKid)) 0 false),true))))
abbrev b0_.K4:Type:=(List TRow)->Option (List TRow)
abbrev b0_.T4:Type:=(List TRow)->Int->(List TRow)->Option (List TRow)
def b0_.step4 (n:Nat) (k0:b0_.K4) (back:b0_.T4):b0_.T4:=fun rows i out_1=>
 (cond (decide (i<(rows.length:Int))) (inB i rows.length ((cC_ n (rows.getD i.toNat TRow.dflt)).bind fun A1=>(bk_ (out_1.length+([A1]:List TRow).length) 32 (back rows (W (i+1)) (out_1++([A1]:List TRow)))))) (k0 out_1))
def b0_.loop4 (n:Nat) (k0:b0_.K4) (N:Nat):b0_.T4:=cv_ (fun _ _ _=>none) (b0_.step4 n k0) N
def b0_:Nat->(List TRow)->Option (List TRow)
 |0,_=>none
 |n+1,rows=>
  (b0_.loop4 n (fun B2=>(some B2)) n rows 0 ([]:List TRow))
def c2_:Nat->bq_->Option bq_
 |0,_=>none
 |n+1,v=>
  ((el_ n v.q).bind fun A1=>((b0_ n v.rows).bind fun A2=>(bk_ (([]:List TKid).length+v.kids.length) 16 (some (bq_.mk A1 A2 (([]:List TKid)++v.kids))))))
def dX_:Nat->cw_->Option cw_
 |0,_=>none
 |n+1,x=>
  ((c2_ n x.view).bind fun A1=>((c2_ n x.last).bind fun A2=>(some { x with view:=A1,last:=A2 })))
abbrev cc_.T3:Type:=Int->Int->Int->(List ca_)->Int->Bool->Int->(List Int)->Bool->Int->Int->(List TRow)->(List TKid)->Option Int
def cc_.step3 (n:Nat) (k0:Option Int) (back:cc_.T3):cc_.T3:=fun id_1 i v0 v1 v2 v3 v4 v5 v6 v7 v8 v9 v10=>
 (cond (decide (i<(v10.length:Int))) (inB i v10.length (cond (((v10.getD i.toNat TKid.dflt).id_) == id_1) (inB i v10.length (some ((v10.getD i.toNat TKid.dflt).n_))) (back id_1 (W (i+1)) v0 v1 v2 v3 v4 v5 v6 v7 v8 v9 v10))) k0)
def cc_.loop3 (n:Nat) (k0:Option Int) (N:Nat):cc_.T3:=cv_ (fun _ _ _ _ _ _ _ _ _ _ _ _ _=>none) (cc_.step3 n k0) N
def cc_:Nat->bq_->Int->Option Int
 |0,_,_=>none
 |n+1,v,id1=>
  (cc_.loop3 n (some 0) n id1 0 v.q.table v.q.where_ v.q.order v.q.down v.q.first v.q.show_ v.q.kids v.q.kidTable v.q.kidCol v.rows v.kids)
abbrev bf_.K4:Type:=(List Int)->Option (List Int)
abbrev bf_.T4:Type:=Int->Int->(List ca_)->Int->Bool->Int->(List Int)->Bool->Int->Int->(List TRow)->(List TKid)->(List Int)->Option (List Int)
def bf_.step4 (n:Nat) (k0:bf_.K4) (back:bf_.T4):bf_.T4:=fun i v0 v1 v2 v3 v4 v5 v6 v7 v8 v9 v10 out_1=>
 (cond (decide (i<(v9.length:Int))) (inB i v9.length ((cc_ n (bq_.mk (ay_.mk v0 v1 v2 v3 v4 v5 v6 v7 v8) v9 v10) ((v9.getD i.toNat TRow.dflt).id_)).bind fun A1=>(bk_ (out_1.length+([A1]:List Int).length) 8 (back (W (i+1)) v0 v1 v2 v3 v4 v5 v6 v7 v8 v9 v10 (out_1++([A1]:List Int)))))) (k0 out_1))
def bf_.loop4 (n:Nat) (k0:bf_.K4) (N:Nat):bf_.T4:=cv_ (fun _ _ _ _ _ _ _ _ _ _ _ _ _=>none) (bf_.step4 n k0) N
def bf_:Nat->bq_->Option (List Int)
 |0,_=>none
 |n+1,v=>
  (bf_.loop4 n (fun B2=>(some B2)) n 0 v.q.table v.q.where_ v.q.order v.q.down v.q.first v.q.show_ v.q.kids v.q.kidTable v.q.kidCol v.rows v.kids ([]:List Int))
def dA_:Nat->ay_->Int->Option Int
 |0,_,_=>none
 |n+1,q,n1=>
  (cond (q.first == 0) (some n1) ((eb_ n n1 q.first).bind fun A1=>((cL_ n A1 0).bind fun A2=>(some A2))))
abbrev aV_.K7:Type:=Bool->Bs->Option Bs
abbrev aV_.T7:Type:=Int->Bool->Bs->Option Bs
def aV_.step7 (n:Nat) (k0:aV_.K7) (back:aV_.T7):aV_.T7:=fun n_1 below out_1=>
 (cond (n_1 != 0) (cond (decide ((Int.tmod n_1 10)<0)) (let C1:Bs:=(hS_ ([(IntKind.u8.wrap ((W (48+(W (0 - (Int.tmod n_1 10)))))))]:List Int));(cond (decide (C1.length+out_1.length<=9223372036854775807)) (back (W (Int.tdiv n_1 10)) below (C1++out_1)) none)) (cond (decide ((hS_ ([(IntKind.u8.wrap ((W (48+(Int.tmod n_1 10)))))]:List Int)).length+out_1.length<=9223372036854775807)) (let C2:Bs:=((hS_ ([(IntKind.u8.wrap ((W (48+(Int.tmod n_1 10)))))]:List Int))++out_1);(back (W (Int.tdiv n_1 10)) below C2)) none)) (k0 below out_1))
def aV_.loop7 (n:Nat) (k0:aV_.K7) (N:Nat):aV_.T7:=cv_ (fun _ _ _=>none) (aV_.step7 n k0) N
def aV_:Nat->Int->Option Bs
 |0,_=>none
 |n+1,n1=>
  (cond (n1 == 0) (some [48]) (aV_.loop7 n (fun B3 B4=>(cond B3 (cond (decide ([45].length+B4.length<=9223372036854775807)) (some (([45]:Bs)++B4)) none) (some B4))) n n1 (decide (n1<0)) []))
def da_:Nat->Int->Option aa_
 |0,_=>none
 |n+1,n1=>
  (some (aa_.mk 2 n1 [] ([]:List aa_) ([]:List Bs)))
abbrev bS_.K4:Type:=Int->Int->(List ca_)->Int->Bool->Int->(List Int)->Bool->Int->Int->Int->(List Int)->Int->Int->Bs->Int->Int->Bs->(List aa_)->(List Bs)->Option aa_
abbrev bS_.T4:Type:=Int->Int->Int->(List ca_)->Int->Bool->Int->(List Int)->Bool->Int->Int->Int->(List Int)->Int->Int->Bs->Int->Int->Bs->(List aa_)->(List Bs)->Option aa_
def bS_.step4 (n:Nat) (k0:bS_.K4) (back:bS_.T4):bS_.T4:=fun kids i q0 q1 q2 q3 q4 q5 q6 q7 q8 r0 r1 t60 t61 t62 out0 out1 out2 out3 out4=>
 (cond (decide (i<(q5.length:Int))) (inB i q5.length ((aV_ n (q5.getD i.toNat 0)).bind fun A1=>(cond (decide ([99].length+A1.length<=9223372036854775807)) (inB i q5.length ((bX_ n (TRow.mk r0 r1) (q5.getD i.toNat 0)).bind fun A2=>((da_ n A2).bind fun A3=>((bP_ n (aa_.mk out0 out1 out2 out3 out4) (([99]:Bs)++A1) (aa_.re A3)).bind fun A4=>(back kids (W (i+1)) q0 q1 q2 q3 q4 q5 q6 q7 q8 r0 r1 t60 t61 t62 A4.kind A4.n_ A4.s A4.list A4.names))))) none))) (k0 kids q0 q1 q2 q3 q4 q5 q6 q7 q8 r0 r1 t60 t61 t62 out0 out1 out2 out3 out4))
def bS_.loop4 (n:Nat) (k0:bS_.K4) (N:Nat):bS_.T4:=cv_ (fun _ _ _ _ _ _ _ _ _ _ _ _ _ _ _ _ _ _ _ _ _=>none) (bS_.step4 n k0) N
def bS_:Nat->ay_->TRow->Int->Option aa_
 |0,_,_,_=>none
 |n+1,q,r,kids=>
  (bS_.loop4 n (fun B5 B6 B7 B8 B9 B10 B11 B12 B13 B14 B15 B16 B17 B18 B19 B20 B21 B22 B23 B24=>((da_ n B15).bind fun A25=>((bP_ n (aa_.mk B20 B21 B22 B23 B24) [105,100] (aa_.re A25)).bind fun A26=>(cond B12 ((da_ n B5).bind fun A27=>((bP_ n (aa_.re A26) [107,105,100,115] (aa_.re A27)).bind fun A28=>(some (aa_.re A28)))) (some (aa_.re A26)))))) n kids 0 q.table q.where_ q.order q.down q.first q.show_ q.kids q.kidTable q.kidCol r.id_ r.cells 0 0 [] 5 0 [] ([]:List aa_) ([]:List Bs))
abbrev b9_.T3:Type:=Bs->Int->Option Bool
def b9_.step3 (n:Nat) (k0:Bs->Option Bool) (back:b9_.T3):b9_.T3:=fun s i=>
 (cond (decide (i<(s.length:Int))) (inB i s.length (cond (decide (((s.getD i.toNat 0).toNat:Int)<32)) (some false) (inB i s.length (cond (decide (((s.getD i.toNat 0).toNat:Int) > 126)) (some false) (back s (W (i+1))))))) (k0 s))
def b9_.loop3 (n:Nat) (k0:Bs->Option Bool) (N:Nat):b9_.T3:=cv_ (fun _ _=>none) (b9_.step3 n k0) N
def b9_:Nat->Bs->Option Bool
 |0,_=>none
 |n+1,s=>
  (b9_.loop3 n (fun B1=>(some (decide ((B1.length:Int)<=60)))) n s 0)
abbrev ag_.K6:Type:=Int->Int->Bs->(List aa_)->(List Bs)->Option Bool
abbrev ag_.T6:Type:=Int->Int->Int->Bs->(List aa_)->(List Bs)->Option Bool
def ag_.step6 (n:Nat) (k0:ag_.K6) (back:ag_.T6):ag_.T6:=fun i j0 j1 j2 j3 j4=>
 (cond (decide (i<(j4.length:Int))) (inB i j4.length ((b9_ n (j4.getD i.toNat [])).bind fun A1=>(cond (!A1) (some false) (cond (decide (i > 0)) (inB (W (i - 1)) j4.length (inB i j4.length (cond (!Op.bytesLess (j4.getD (W (i - 1)).toNat []) (j4.getD i.toNat [])) (some false) (back (W (i+1)) j0 j1 j2 j3 j4)))) (back (W (i+1)) j0 j1 j2 j3 j4))))) (k0 j0 j1 j2 j3 j4))
def ag_.loop6 (n:Nat) (k0:ag_.K6) (N:Nat):ag_.T6:=cv_ (fun _ _ _ _ _ _=>none) (ag_.step6 n k0) N
def ag_:Nat->aa_->Option Bool
 |0,_=>none
 |n+1,j=>
  (cond (j.kind != 5) (some ((j.names.length:Int) == 0)) (ag_.loop6 n (fun B2 B3 B4 B5 B6=>(some ((B6.length:Int) == (B5.length:Int)))) n 0 j.kind j.n_ j.s j.list j.names))
abbrev aS_.K23_1:Type:=Int->Int->Int->Int->Bs->(List aa_)->(List Bs)->Option Int
abbrev aS_.T23:Type:=Int->Int->Int->Int->Int->Int->Bs->(List aa_)->(List Bs)->Option Int
def aS_.step23 (n:Nat) (spec_l1Great_:aa_->Int->Option Int) (k1:aS_.K23_1) (back:aS_.T23):aS_.T23:=fun append t5 t6 t7 t20 t21 t22 t23 t24=>
 (cond (decide (t7<(t23.length:Int))) (cond (decide (t6<=400)) (inB t7 t23.length ((spec_l1Great_ (aa_.re (t23.getD t7.toNat aa_.dflt)) (W (append - 1))).bind fun A52=>(back append t5 (W (t6+A52)) (W (t7+1)) t20 t21 t22 t23 t24))) (k1 t5 t6 t20 t21 t22 t23 t24)) (k1 t5 t6 t20 t21 t22 t23 t24))
def aS_.loop23 (n:Nat) (spec_l1Great_:aa_->Int->Option Int) (k1:aS_.K23_1) (N:Nat):aS_.T23:=cv_ (fun _ _ _ _ _ _ _ _ _=>none) (aS_.step23 n spec_l1Great_ k1) N
def aS_:Nat->aa_->Int->Option Int
 |0,_,_=>none
 |n+1,o,append=>
  (cond (append == 0) (some 401) (cond (o.kind == 0) (cond (o.n_ != 0) (some 401) (cond (o.kind != 3) (cond (!(o.s == [])) (some 401) (cond (o.kind == 3) (cond (o.n_ != 0) (some 401) (cond (decide (o.kind<4)) (cond (decide ((o.list.length:Int) > 0)) (some 401) ((ag_ n (aa_.re o)).bind fun A1=>(cond (!A1) (some 401) (some 1)))) ((ag_ n (aa_.re o)).bind fun A2=>(cond (!A2) (some 401) (some 1))))) (cond (decide (o.kind>=4)) (cond (o.n_ != 0) (some 401) (cond (decide (o.kind<4)) (cond (decide ((o.list.length:Int) > 0)) (some 401) ((ag_ n (aa_.re o)).bind fun A3=>(cond (!A3) (some 401) (some 1)))) ((ag_ n (aa_.re o)).bind fun A4=>(cond (!A4) (some 401) (some 1))))) (cond (decide (o.kind<4)) (cond (decide ((o.list.length:Int) > 0)) (some 401) ((ag_ n (aa_.re o)).bind fun A5=>(cond (!A5) (some 401) (some 1)))) ((ag_ n (aa_.re o)).bind fun A6=>(cond (!A6) (some 401) (some 1))))))) (cond (o.kind == 3) (cond (o.n_ != 0) (some 401) (cond (decide (o.kind<4)) (cond (decide ((o.list.length:Int) > 0)) (some 401) ((ag_ n (aa_.re o)).bind fun A7=>(cond (!A7) (some 401) (some 1)))) ((ag_ n (aa_.re o)).bind fun A8=>(cond (!A8) (some 401) (some 1))))) (cond (decide (o.kind>=4)) (cond (o.n_ != 0) (some 401) (cond (decide (o.kind<4)) (cond (decide ((o.list.length:Int) > 0)) (some 401) ((ag_ n (aa_.re o)).bind fun A9=>(cond (!A9) (some 401) (some 1)))) ((ag_ n (aa_.re o)).bind fun A10=>(cond (!A10) (some 401) (some 1))))) (cond (decide (o.kind<4)) (cond (decide ((o.list.length:Int) > 0)) (some 401) ((ag_ n (aa_.re o)).bind fun A11=>(cond (!A11) (some 401) (some 1)))) ((ag_ n (aa_.re o)).bind fun A12=>(cond (!A12) (some 401) (some 1)))))))) (cond (o.kind == 1) ((cb_ n o.n_ 0 1).bind fun A13=>(cond (!A13) (some 401) (cond (o.kind != 3) (cond (!(o.s == [])) (some 401) (cond (o.kind == 3) (cond (o.n_ != 0) (some 401) (cond (decide (o.kind<4)) (cond (decide ((o.list.length:Int) > 0)) (some 401) ((ag_ n (aa_.re o)).bind fun A14=>(cond (!A14) (some 401) (some 1)))) ((ag_ n (aa_.re o)).bind fun A15=>(cond (!A15) (some 401) (some 1))))) (cond (decide (o.kind>=4)) (cond (o.n_ != 0) (some 401) (cond (decide (o.kind<4)) (cond (decide ((o.list.length:Int) > 0)) (some 401) ((ag_ n (aa_.re o)).bind fun A16=>(cond (!A16) (some 401) (some 1)))) ((ag_ n (aa_.re o)).bind fun A17=>(cond (!A17) (some 401) (some 1))))) (cond (decide (o.kind<4)) (cond (decide ((o.list.length:Int) > 0)) (some 401) ((ag_ n (aa_.re o)).bind fun A18=>(cond (!A18) (some 401) (some 1)))) ((ag_ n (aa_.re o)).bind fun A19=>(cond (!A19) (some 401) (some 1))))))) (cond (o.kind == 3) (cond (o.n_ != 0) (some 401) (cond (decide (o.kind<4)) (cond (decide ((o.list.length:Int) > 0)) (some 401) ((ag_ n (aa_.re o)).bind fun A20=>(cond (!A20) (some 401) (some 1)))) ((ag_ n (aa_.re o)).bind fun A21=>(cond (!A21) (some 401) (some 1))))) (cond (decide (o.kind>=4)) (cond (o.n_ != 0) (some 401) (cond (decide (o.kind<4)) (cond (decide ((o.list.length:Int) > 0)) (some 401) ((ag_ n (aa_.re o)).bind fun A22=>(cond (!A22) (some 401) (some 1)))) ((ag_ n (aa_.re o)).bind fun A23=>(cond (!A23) (some 401) (some 1))))) (cond (decide (o.kind<4)) (cond (decide ((o.list.length:Int) > 0)) (some 401) ((ag_ n (aa_.re o)).bind fun A24=>(cond (!A24) (some 401) (some 1)))) ((ag_ n (aa_.re o)).bind fun A25=>(cond (!A25) (some 401) (some 1))))))))) (cond (o.kind == 2) ((cb_ n o.n_ (-1000000000) 1000000000).bind fun A26=>(cond (!A26) (some 401) (cond (o.kind != 3) (cond (!(o.s == [])) (some 401) (cond (o.kind == 3) (cond (o.n_ != 0) (some 401) (cond (decide (o.kind<4)) (cond (decide ((o.list.length:Int) > 0)) (some 401) ((ag_ n (aa_.re o)).bind fun A27=>(cond (!A27) (some 401) (some 1)))) ((ag_ n (aa_.re o)).bind fun A28=>(cond (!A28) (some 401) (some 1))))) (cond (decide (o.kind>=4)) (cond (o.n_ != 0) (some 401) (cond (decide (o.kind<4)) (cond (decide ((o.list.length:Int) > 0)) (some 401) ((ag_ n (aa_.re o)).bind fun A29=>(cond (!A29) (some 401) (some 1)))) ((ag_ n (aa_.re o)).bind fun A30=>(cond (!A30) (some 401) (some 1))))) (cond (decide (o.kind<4)) (cond (decide ((o.list.length:Int) > 0)) (some 401) ((ag_ n (aa_.re o)).bind fun A31=>(cond (!A31) (some 401) (some 1)))) ((ag_ n (aa_.re o)).bind fun A32=>(cond (!A32) (some 401) (some 1))))))) (cond (o.kind == 3) (cond (o.n_ != 0) (some 401) (cond (decide (o.kind<4)) (cond (decide ((o.list.length:Int) > 0)) (some 401) ((ag_ n (aa_.re o)).bind fun A33=>(cond (!A33) (some 401) (some 1)))) ((ag_ n (aa_.re o)).bind fun A34=>(cond (!A34) (some 401) (some 1))))) (cond (decide (o.kind>=4)) (cond (o.n_ != 0) (some 401) (cond (decide (o.kind<4)) (cond (decide ((o.list.length:Int) > 0)) (some 401) ((ag_ n (aa_.re o)).bind fun A35=>(cond (!A35) (some 401) (some 1)))) ((ag_ n (aa_.re o)).bind fun A36=>(cond (!A36) (some 401) (some 1))))) (cond (decide (o.kind<4)) (cond (decide ((o.list.length:Int) > 0)) (some 401) ((ag_ n (aa_.re o)).bind fun A37=>(cond (!A37) (some 401) (some 1)))) ((ag_ n (aa_.re o)).bind fun A38=>(cond (!A38) (some 401) (some 1))))))))) (cond (o.kind == 3) ((b9_ n o.s).bind fun A39=>(cond (!A39) (some 401) (cond (o.kind != 3) (cond (!(o.s == [])) (some 401) (cond (o.kind == 3) (cond (o.n_ != 0) (some 401) (cond (decide (o.kind<4)) (cond (decide ((o.list.length:Int) > 0)) (some 401) ((ag_ n (aa_.re o)).bind fun A40=>(cond (!A40) (some 401) (some 1)))) ((ag_ n (aa_.re o)).bind fun A41=>(cond (!A41) (some 401) (some 1))))) (cond (decide (o.kind>=4)) (cond (o.n_ != 0) (some 401) (cond (decide (o.kind<4)) (cond (decide ((o.list.length:Int) > 0)) (some 401) ((ag_ n (aa_.re o)).bind fun A42=>(cond (!A42) (some 401) (some 1)))) ((ag_ n (aa_.re o)).bind fun A43=>(cond (!A43) (some 401) (some 1))))) (cond (decide (o.kind<4)) (cond (decide ((o.list.length:Int) > 0)) (some 401) ((ag_ n (aa_.re o)).bind fun A44=>(cond (!A44) (some 401) (some 1)))) ((ag_ n (aa_.re o)).bind fun A45=>(cond (!A45) (some 401) (some 1))))))) (cond (o.kind == 3) (cond (o.n_ != 0) (some 401) (cond (decide (o.kind<4)) (cond (decide ((o.list.length:Int) > 0)) (some 401) ((ag_ n (aa_.re o)).bind fun A46=>(cond (!A46) (some 401) (some 1)))) ((ag_ n (aa_.re o)).bind fun A47=>(cond (!A47) (some 401) (some 1))))) (cond (decide (o.kind>=4)) (cond (o.n_ != 0) (some 401) (cond (decide (o.kind<4)) (cond (decide ((o.list.length:Int) > 0)) (some 401) ((ag_ n (aa_.re o)).bind fun A48=>(cond (!A48) (some 401) (some 1)))) ((ag_ n (aa_.re o)).bind fun A49=>(cond (!A49) (some 401) (some 1))))) (cond (decide (o.kind<4)) (cond (decide ((o.list.length:Int) > 0)) (some 401) ((ag_ n (aa_.re o)).bind fun A50=>(cond (!A50) (some 401) (some 1)))) ((ag_ n (aa_.re o)).bind fun A51=>(cond (!A51) (some 401) (some 1))))))))) (cond (o.kind == 4) (cond (o.kind == 4) (aS_.loop23 n (aS_ n) (fun B53 B54 B55 B56 B57 B58 B59=>(cond (B55 != 3) (cond (!(B57 == [])) (some B53) (cond (B55 == 3) (cond (B56 != 0) (some B53) (cond (decide (B55<4)) (cond (decide ((B58.length:Int) > 0)) (some B53) ((ag_ n (aa_.mk B55 B56 B57 B58 B59)).bind fun A60=>(cond (!A60) (some B53) (some B54)))) ((ag_ n (aa_.mk B55 B56 B57 B58 B59)).bind fun A61=>(cond (!A61) (some B53) (some B54))))) (cond (decide (B55>=4)) (cond (B56 != 0) (some B53) (cond (decide (B55<4)) (cond (decide ((B58.length:Int) > 0)) (some B53) ((ag_ n (aa_.mk B55 B56 B57 B58 B59)).bind fun A62=>(cond (!A62) (some B53) (some B54)))) ((ag_ n (aa_.mk B55 B56 B57 B58 B59)).bind fun A63=>(cond (!A63) (some B53) (some B54))))) (cond (decide (B55<4)) (cond (decide ((B58.length:Int) > 0)) (some B53) ((ag_ n (aa_.mk B55 B56 B57 B58 B59)).bind fun A64=>(cond (!A64) (some B53) (some B54)))) ((ag_ n (aa_.mk B55 B56 B57 B58 B59)).bind fun A65=>(cond (!A65) (some B53) (some B54))))))) (cond (B55 == 3) (cond (B56 != 0) (some B53) (cond (decide (B55<4)) (cond (decide ((B58.length:Int) > 0)) (some B53) ((ag_ n (aa_.mk B55 B56 B57 B58 B59)).bind fun A66=>(cond (!A66) (some B53) (some B54)))) ((ag_ n (aa_.mk B55 B56 B57 B58 B59)).bind fun A67=>(cond (!A67) (some B53) (some B54))))) (cond (decide (B55>=4)) (cond (B56 != 0) (some B53) (cond (decide (B55<4)) (cond (decide ((B58.length:Int) > 0)) (some B53) ((ag_ n (aa_.mk B55 B56 B57 B58 B59)).bind fun A68=>(cond (!A68) (some B53) (some B54)))) ((ag_ n (aa_.mk B55 B56 B57 B58 B59)).bind fun A69=>(cond (!A69) (some B53) (some B54))))) (cond (decide (B55<4)) (cond (decide ((B58.length:Int) > 0)) (some B53) ((ag_ n (aa_.mk B55 B56 B57 B58 B59)).bind fun A70=>(cond (!A70) (some B53) (some B54)))) ((ag_ n (aa_.mk B55 B56 B57 B58 B59)).bind fun A71=>(cond (!A71) (some B53) (some B54)))))))) n append 401 1 0 o.kind o.n_ o.s o.list o.names) (some 401)) (cond (o.kind == 5) (aS_.loop23 n (aS_ n) (fun B72 B73 B74 B75 B76 B77 B78=>(cond (B74 != 3) (cond (!(B76 == [])) (some B72) (cond (B74 == 3) (cond (B75 != 0) (some B72) (cond (decide (B74<4)) (cond (decide ((B77.length:Int) > 0)) (some B72) ((ag_ n (aa_.mk B74 B75 B76 B77 B78)).bind fun A79=>(cond (!A79) (some B72) (some B73)))) ((ag_ n (aa_.mk B74 B75 B76 B77 B78)).bind fun A80=>(cond (!A80) (some B72) (some B73))))) (cond (decide (B74>=4)) (cond (B75 != 0) (some B72) (cond (decide (B74<4)) (cond (decide ((B77.length:Int) > 0)) (some B72) ((ag_ n (aa_.mk B74 B75 B76 B77 B78)).bind fun A81=>(cond (!A81) (some B72) (some B73)))) ((ag_ n (aa_.mk B74 B75 B76 B77 B78)).bind fun A82=>(cond (!A82) (some B72) (some B73))))) (cond (decide (B74<4)) (cond (decide ((B77.length:Int) > 0)) (some B72) ((ag_ n (aa_.mk B74 B75 B76 B77 B78)).bind fun A83=>(cond (!A83) (some B72) (some B73)))) ((ag_ n (aa_.mk B74 B75 B76 B77 B78)).bind fun A84=>(cond (!A84) (some B72) (some B73))))))) (cond (B74 == 3) (cond (B75 != 0) (some B72) (cond (decide (B74<4)) (cond (decide ((B77.length:Int) > 0)) (some B72) ((ag_ n (aa_.mk B74 B75 B76 B77 B78)).bind fun A85=>(cond (!A85) (some B72) (some B73)))) ((ag_ n (aa_.mk B74 B75 B76 B77 B78)).bind fun A86=>(cond (!A86) (some B72) (some B73))))) (cond (decide (B74>=4)) (cond (B75 != 0) (some B72) (cond (decide (B74<4)) (cond (decide ((B77.length:Int) > 0)) (some B72) ((ag_ n (aa_.mk B74 B75 B76 B77 B78)).bind fun A87=>(cond (!A87) (some B72) (some B73)))) ((ag_ n (aa_.mk B74 B75 B76 B77 B78)).bind fun A88=>(cond (!A88) (some B72) (some B73))))) (cond (decide (B74<4)) (cond (decide ((B77.length:Int) > 0)) (some B72) ((ag_ n (aa_.mk B74 B75 B76 B77 B78)).bind fun A89=>(cond (!A89) (some B72) (some B73)))) ((ag_ n (aa_.mk B74 B75 B76 B77 B78)).bind fun A90=>(cond (!A90) (some B72) (some B73)))))))) n append 401 1 0 o.kind o.n_ o.s o.list o.names) (some 401))))))))
def cW_:Nat->aa_->Option Bool
 |0,_=>none
 |n+1,j=>
  ((aS_ n (aa_.re j) 6).bind fun A1=>(some (decide (A1<=400))))
def dh_:Nat->aa_->Option aa_
 |0,_=>none
 |n+1,j=>
  ((cW_ n (aa_.re j)).bind fun A1=>(cond (!A1) (some (aa_.mk 0 0 [] [] [])) (some (aa_.re j))))
abbrev cn_.K4:Type:=(List TRow)->Int->Int->Bs->Int->Int->Bs->(List aa_)->Option aa_
abbrev cn_.T4:Type:=(List TRow)->(List Int)->Int->Int->(List ca_)->Int->Bool->Int->(List Int)->Bool->Int->Int->Int->Int->Bs->Int->Int->Bs->(List aa_)->Option aa_
def cn_.step4 (n:Nat) (k0:cn_.K4) (back:cn_.T4):cn_.T4:=fun rows kids i q0 q1 q2 q3 q4 q5 q6 q7 q8 t60 t61 t62 list0 list1 list2 list3=>
 ((dA_ n (ay_.mk q0 q1 q2 q3 q4 q5 q6 q7 q8) (rows.length:Int)).bind fun A1=>(cond (decide (i<A1)) (cond (decide (i<(kids.length:Int))) (inB i kids.length (inB i rows.length ((bS_ n (ay_.mk q0 q1 q2 q3 q4 q5 q6 q7 q8) (rows.getD i.toNat TRow.dflt) (kids.getD i.toNat 0)).bind fun A2=>(bk_ (list3.length+([(aa_.re A2)]:List aa_).length) 80 (back rows kids (W (i+1)) q0 q1 q2 q3 q4 q5 q6 q7 q8 t60 t61 t62 list0 list1 list2 (list3++([(aa_.re A2)]:List aa_))))))) (inB i rows.length ((bS_ n (ay_.mk q0 q1 q2 q3 q4 q5 q6 q7 q8) (rows.getD i.toNat TRow.dflt) 0).bind fun A3=>(bk_ (list3.length+([(aa_.re A3)]:List aa_).length) 80 (back rows kids (W (i+1)) q0 q1 q2 q3 q4 q5 q6 q7 q8 t60 t61 t62 list0 list1 list2 (list3++([(aa_.re A3)]:List aa_))))))) (k0 rows t60 t61 t62 list0 list1 list2 list3)))
def cn_.loop4 (n:Nat) (k0:cn_.K4) (N:Nat):cn_.T4:=cv_ (fun _ _ _ _ _ _ _ _ _ _ _ _ _ _ _ _ _ _ _=>none) (cn_.step4 n k0) N
def cn_:Nat->ay_->(List TRow)->(List Int)->Option aa_
 |0,_,_,_=>none
 |n+1,q,rows,kids=>
  (cn_.loop4 n (fun B4 B5 B6 B7 B8 B9 B10 B11=>((da_ n (B4.length:Int)).bind fun A12=>((dh_ n (aa_.mk 5 0 [] ([(aa_.re A12),(aa_.mk B8 B9 B10 B11 [])]:List aa_) ([[99,111,117,110,116],[114,111,119,115]]:List Bs))).bind fun A13=>(some (aa_.re A13))))) n rows kids 0 q.table q.where_ q.order q.down q.first q.show_ q.kids q.kidTable q.kidCol 0 0 [] 4 0 [] ([]:List aa_))
def do_:Nat->bq_->Option aa_
 |0,_=>none
 |n+1,v=>
  ((bf_ n v).bind fun A1=>((cn_ n v.q v.rows A1).bind fun A2=>(some (aa_.re A2))))
abbrev aq_.K6_1:Type:=Int->Int->Bs->(List aa_)->(List Bs)->Int->Int->Bs->(List aa_)->(List Bs)->Option Bool
abbrev aq_.T6:Type:=Int->Int->Int->Bs->(List aa_)->(List Bs)->Int->Int->Bs->(List aa_)->(List Bs)->Option Bool
def aq_.step6 (n:Nat) (spec_l1Same_:aa_->aa_->Option Bool) (k0:aq_.K6_1) (back:aq_.T6):aq_.T6:=fun t5 t20 t21 t22 t23 t24 t30 t31 t32 t33 t34=>
 (cond (decide (t5<(t23.length:Int))) (inB t5 t23.length (inB t5 t33.length ((spec_l1Same_ (aa_.re (t23.getD t5.toNat aa_.dflt)) (aa_.re (t33.getD t5.toNat aa_.dflt))).bind fun A1=>(cond (!A1) (some false) (back (W (t5+1)) t20 t21 t22 t23 t24 t30 t31 t32 t33 t34))))) (k0 t20 t21 t22 t23 t24 t30 t31 t32 t33 t34))
def aq_.loop6 (n:Nat) (spec_l1Same_:aa_->aa_->Option Bool) (k0:aq_.K6_1) (N:Nat):aq_.T6:=cv_ (fun _ _ _ _ _ _ _ _ _ _ _=>none) (aq_.step6 n spec_l1Same_ k0) N
abbrev aq_.T14:Type:=Int->Int->Int->Bs->(List aa_)->(List Bs)->Int->Int->Bs->(List aa_)->(List Bs)->Option Bool
def aq_.step14 (n:Nat) (spec_l1Same_:aa_->aa_->Option Bool) (k2:Option Bool) (back:aq_.T14):aq_.T14:=fun t6 t20 t21 t22 t23 t24 t30 t31 t32 t33 t34=>
 (cond (decide (t6<(t24.length:Int))) (inB t6 t24.length (inB t6 t34.length (cond (!((t24.getD t6.toNat []) == (t34.getD t6.toNat []))) (some false) (back (W (t6+1)) t20 t21 t22 t23 t24 t30 t31 t32 t33 t34)))) k2)
def aq_.loop14 (n:Nat) (spec_l1Same_:aa_->aa_->Option Bool) (k2:Option Bool) (N:Nat):aq_.T14:=cv_ (fun _ _ _ _ _ _ _ _ _ _ _=>none) (aq_.step14 n spec_l1Same_ k2) N
def aq_:Nat->aa_->aa_->Option Bool
 |0,_,_=>none
 |n+1,o,append=>
  (cond (o.kind != append.kind) (some false) (cond (o.n_ != append.n_) (some false) (cond (!(o.s == append.s)) (some false) (cond ((o.list.length:Int) != (append.list.length:Int)) (some false) (cond ((o.names.length:Int) != (append.names.length:Int)) (some false) (aq_.loop6 n (aq_ n) (fun B2 B3 B4 B5 B6 B7 B8 B9 B10 B11=>(aq_.loop14 n (aq_ n) (some true) n 0 B2 B3 B4 B5 B6 B7 B8 B9 B10 B11)) n 0 o.kind o.n_ o.s o.list o.names append.kind append.n_ append.s append.list append.names))))))
def dC_:Nat->aa_->aa_->Option Bool
 |0,_,_=>none
 |n+1,a,b=>
  ((cW_ n (aa_.re a)).bind fun A1=>(cond A1 ((cW_ n (aa_.re b)).bind fun A2=>(cond A2 ((aq_ n (aa_.re a) (aa_.re b)).bind fun A3=>(some A3)) (some false))) (some false)))
def eh_:Nat->cw_->Option Bool
 |0,_=>none
 |n+1,x=>
  (cond (!x.began) (some true) ((do_ n x.view).bind fun A1=>((do_ n x.last).bind fun A2=>((dC_ n (aa_.re A1) (aa_.re A2)).bind fun A3=>(some (!A3))))))
abbrev bN_.K3:Type:=(List ca_)->(List ca_)->Option Bool
abbrev bN_.T3:Type:=(List ca_)->(List ca_)->Int->Option Bool
def bN_.step3 (n:Nat) (k0:bN_.K3) (back:bN_.T3):bN_.T3:=fun a b i=>
 (cond (decide (i<(a.length:Int))) (cond (decide (i<(b.length:Int))) (inB i a.length (inB i b.length (let C1:Bool:=(!(cond (((a.getD i.toNat ca_.dflt).col) == ((b.getD i.toNat ca_.dflt).col)) (cond (((a.getD i.toNat ca_.dflt).op) == ((b.getD i.toNat ca_.dflt).op)) (cond (((a.getD i.toNat ca_.dflt).v) == ((b.getD i.toNat ca_.dflt).v)) true false) false) false));(cond C1 (some false) (back a b (W (i+1))))))) (k0 a b)) (k0 a b))
def bN_.loop3 (n:Nat) (k0:bN_.K3) (N:Nat):bN_.T3:=cv_ (fun _ _ _=>none) (bN_.step3 n k0) N
def bN_:Nat->(List ca_)->(List ca_)->Option Bool
 |0,_,_=>none
 |n+1,a,b=>
  (bN_.loop3 n (fun B2 B3=>(some ((B2.length:Int) == (B3.length:Int)))) n a b 0)
abbrev b4_.K3:Type:=(List Int)->(List Int)->Option Bool
abbrev b4_.T3:Type:=(List Int)->(List Int)->Int->Option Bool
def b4_.step3 (n:Nat) (k0:b4_.K3) (back:b4_.T3):b4_.T3:=fun a b i=>
 (cond (decide (i<(a.length:Int))) (cond (decide (i<(b.length:Int))) (inB i a.length (inB i b.length (cond ((a.getD i.toNat 0) != (b.getD i.toNat 0)) (some false) (back a b (W (i+1)))))) (k0 a b)) (k0 a b))
def b4_.loop3 (n:Nat) (k0:b4_.K3) (N:Nat):b4_.T3:=cv_ (fun _ _ _=>none) (b4_.step3 n k0) N
def b4_:Nat->(List Int)->(List Int)->Option Bool
 |0,_,_=>none
 |n+1,a,b=>
  (b4_.loop3 n (fun B1 B2=>(some ((B1.length:Int) == (B2.length:Int)))) n a b 0)
def dB_:Nat->ay_->ay_->Option Bool
 |0,_,_=>none
 |n+1,o,append=>
  (cond (o.table == append.table) ((bN_ n o.where_ append.where_).bind fun A1=>(cond A1 (cond (o.order == append.order) (cond (o.down == append.down) (cond (o.first == append.first) ((b4_ n o.show_ append.show_).bind fun A2=>(cond A2 (cond (o.kids == append.kids) (cond (o.kidTable == append.kidTable) (some (o.kidCol == append.kidCol)) (some false)) (some false)) (some false))) (some false)) (some false)) (some false)) (some false))) (some false))
def eX_:Nat->Int->Option aa_
 |0,_=>none
 |n+1,n1=>
  ((cW_ n (aa_.mk 2 n1 [] [] [])).bind fun A1=>(cond (!A1) (some (aa_.mk 0 0 [] ([]:List aa_) ([]:List Bs))) (some (aa_.mk 2 n1 [] ([]:List aa_) ([]:List Bs)))))
def eC_:Nat->ay_->TRow->Int->Option aa_
 |0,_,_,_=>none
 |n+1,q,r,kids=>
  ((bS_ n q r kids).bind fun A1=>((dh_ n (aa_.re A1)).bind fun A2=>(some (aa_.re A2))))
abbrev bv_.K5:Type:=(List aa_)->(List Int)->Option ((List aa_) × (List Int))
abbrev bv_.T5:Type:=Int->Int->(List ca_)->Int->Bool->Int->(List Int)->Bool->Int->Int->(List TRow)->(List TKid)->(List aa_)->(List Int)->Option ((List aa_) × (List Int))
def bv_.step5 (n:Nat) (k0:bv_.K5) (back:bv_.T5):bv_.T5:=fun i v0 v1 v2 v3 v4 v5 v6 v7 v8 v9 v10 list keys=>
 ((dA_ n (ay_.mk v0 v1 v2 v3 v4 v5 v6 v7 v8) (v9.length:Int)).bind fun A1=>(cond (decide (i<A1)) (inB i v9.length (inB i v9.length ((cc_ n (bq_.mk (ay_.mk v0 v1 v2 v3 v4 v5 v6 v7 v8) v9 v10) ((v9.getD i.toNat TRow.dflt).id_)).bind fun A2=>((eC_ n (ay_.mk v0 v1 v2 v3 v4 v5 v6 v7 v8) (v9.getD i.toNat TRow.dflt) A2).bind fun A3=>(bk_ (list.length+([(aa_.re A3)]:List aa_).length) 80 (inB i v9.length (bk_ (keys.length+([(v9.getD i.toNat TRow.dflt).id_]:List Int).length) 8 (back (W (i+1)) v0 v1 v2 v3 v4 v5 v6 v7 v8 v9 v10 (list++([(aa_.re A3)]:List aa_)) (keys++([(v9.getD i.toNat TRow.dflt).id_]:List Int)))))))))) (k0 list keys)))
def bv_.loop5 (n:Nat) (k0:bv_.K5) (N:Nat):bv_.T5:=cv_ (fun _ _ _ _ _ _ _ _ _ _ _ _ _ _=>none) (bv_.step5 n k0) N
def bv_:Nat->bq_->Option ((List aa_) × (List Int))
 |0,_=>none
 |n+1,v=>
  (bv_.loop5 n (fun B4 B5=>(some (B4,B5))) n 0 v.q.table v.q.where_ v.q.order v.q.down v.q.first v.q.show_ v.q.kids v.q.kidTable v.q.kidCol v.rows v.kids ([]:List aa_) ([]:List Int))
abbrev cB_.T3:Type:=(List Int)->Int->Int->Option Int
def cB_.step3 (n:Nat) (k0:Option Int) (back:cB_.T3):cB_.T3:=fun keys key i=>
 (cond (decide (i<(keys.length:Int))) (inB i keys.length (cond ((keys.getD i.toNat 0) == key) (some i) (back keys key (W (i+1))))) k0)
def cB_.loop3 (n:Nat) (k0:Option Int) (N:Nat):cB_.T3:=cv_ (fun _ _ _=>none) (cB_.step3 n k0) N
def cB_:Nat->(List Int)->Int->Option Int
 |0,_,_=>none
 |n+1,keys,key=>
  (cB_.loop3 n (some (-1)) n keys key 0)
abbrev aL_.K3:Type:=(List Int)->(List aa_)->Option Bool
abbrev aL_.T3:Type:=(List Int)->(List aa_)->Int->Option Bool
def aL_.step3 (n:Nat) (k0:aL_.K3) (back:aL_.T3):aL_.T3:=fun keys list i=>
 (cond (decide (i<(keys.length:Int))) (f6_ 0 i keys.length (inB i keys.length ((cB_ n ((keys.take i.toNat).drop 0) (keys.getD i.toNat 0)).bind fun A1=>(cond (decide (A1>=0)) (some false) (back keys list (W (i+1))))))) (k0 keys list))
def aL_.loop3 (n:Nat) (k0:aL_.K3) (N:Nat):aL_.T3:=cv_ (fun _ _ _=>none) (aL_.step3 n k0) N
abbrev aL_.K11:Type:=(List Int)->(List aa_)->Option Bool
abbrev aL_.T11:Type:=(List Int)->(List aa_)->Int->Option Bool
def aL_.step11 (n:Nat) (k2:aL_.K11) (back:aL_.T11):aL_.T11:=fun keys list i=>
 (cond (decide (i<(list.length:Int))) (inB i list.length ((cW_ n (aa_.re (list.getD i.toNat aa_.dflt))).bind fun A4=>(cond (!A4) (some false) (back keys list (W (i+1)))))) (k2 keys list))
def aL_.loop11 (n:Nat) (k2:aL_.K11) (N:Nat):aL_.T11:=cv_ (fun _ _ _=>none) (aL_.step11 n k2) N
def aL_:Nat->(List Int)->(List aa_)->Option Bool
 |0,_,_=>none
 |n+1,keys,list=>
  (aL_.loop3 n (fun B2 B3=>(aL_.loop11 n (fun B5 B6=>(some ((B5.length:Int) == (B6.length:Int)))) n B2 B3 0)) n keys list 0)
def dc_:Nat->(List Int)->Int->Option (List Int)
 |0,_,_=>none
 |n+1,keys,at1=>
  (f6_ 0 at1 keys.length (bk_ (([]:List Int).length+((keys.take at1.toNat).drop 0).length) 8 (f6_ (W (at1+1)) (keys.length:Int) keys.length (bk_ ((([]:List Int)++((keys.take at1.toNat).drop 0)).length+((keys.take (keys.length:Int).toNat).drop (W (at1+1)).toNat).length) 8 (some ((([]:List Int)++((keys.take at1.toNat).drop 0))++((keys.take (keys.length:Int).toNat).drop (W (at1+1)).toNat)))))))
abbrev br_.K4_1:Type:=Int->Int->Bs->Int->Int->Bs->(List aa_)->(List Bs)->Option aa_
abbrev br_.T4:Type:=Int->Int->Int->Bs->(List aa_)->(List Bs)->Int->Int->Bs->Int->Int->Bs->(List aa_)->(List Bs)->Option aa_
def br_.step4 (n:Nat) (spec_l1Copy_:aa_->Option aa_) (k0:br_.K4_1) (back:br_.T4):br_.T4:=fun i j0 j1 j2 j3 j4 t20 t21 t22 out0 out1 out2 out3 out4=>
 (cond (decide (i<(j3.length:Int))) (inB i j3.length ((spec_l1Copy_ (aa_.re (j3.getD i.toNat aa_.dflt))).bind fun A1=>(bk_ (out3.length+([(aa_.re A1)]:List aa_).length) 80 (back (W (i+1)) j0 j1 j2 j3 j4 t20 t21 t22 out0 out1 out2 (out3++([(aa_.re A1)]:List aa_)) out4)))) (k0 t20 t21 t22 out0 out1 out2 out3 out4))
def br_.loop4 (n:Nat) (spec_l1Copy_:aa_->Option aa_) (k0:br_.K4_1) (N:Nat):br_.T4:=cv_ (fun _ _ _ _ _ _ _ _ _ _ _ _ _ _=>none) (br_.step4 n spec_l1Copy_ k0) N
def br_:Nat->aa_->Option aa_
 |0,_=>none
 |n+1,j=>
  (bk_ (([]:List Bs).length+j.names.length) 16 (br_.loop4 n (br_ n) (fun B2 B3 B4 B5 B6 B7 B8 B9=>(some (aa_.mk B5 B6 B7 B8 B9))) n 0 j.kind j.n_ j.s j.list j.names 0 0 [] j.kind j.n_ j.s ([]:List aa_) (([]:List Bs)++j.names)))
def dz_:Nat->(List Int)->Int->Int->Option (List Int)
 |0,_,_,_=>none
 |n+1,keys,at1,key=>
  (f6_ 0 at1 keys.length (bk_ (([]:List Int).length+((keys.take at1.toNat).drop 0).length) 8 (bk_ ((([]:List Int)++((keys.take at1.toNat).drop 0)).length+([key]:List Int).length) 8 (f6_ at1 (keys.length:Int) keys.length (bk_ (((([]:List Int)++((keys.take at1.toNat).drop 0))++([key]:List Int)).length+((keys.take (keys.length:Int).toNat).drop at1.toNat).length) 8 (some (((([]:List Int)++((keys.take at1.toNat).drop 0))++([key]:List Int))++((keys.take (keys.length:Int).toNat).drop at1.toNat))))))))
abbrev aI_.K5:Type:=(List aa_)->(List Int)->(List aa_)->(List Int)->(List TOp)->(List Int)->Option (List TOp)
abbrev aI_.T5:Type:=(List aa_)->(List Int)->(List aa_)->(List Int)->Int->(List TOp)->(List Int)->Option (List TOp)
def aI_.step5 (n:Nat) (k0:aI_.K5) (back:aI_.T5):aI_.T5:=fun o append t2 t3 t11 t9 t10=>
 (cond (decide (t11>=0)) (inB t11 append.length ((cB_ n t3 (append.getD t11.toNat 0)).bind fun A1=>(cond (decide (A1<0)) ((aV_ n t11).bind fun A2=>(bk_ (t9.length+([(TOp.mk 2 ([A2]:List Bs) (aa_.mk 0 0 [] [] []))]:List TOp).length) 112 ((dc_ n t10 t11).bind fun A3=>(back o append t2 t3 (W (t11 - 1)) (t9++([(TOp.mk 2 ([A2]:List Bs) (aa_.mk 0 0 [] [] []))]:List TOp)) A3)))) (back o append t2 t3 (W (t11 - 1)) t9 t10)))) (k0 o append t2 t3 t9 t10))
def aI_.loop5 (n:Nat) (k0:aI_.K5) (N:Nat):aI_.T5:=cv_ (fun _ _ _ _ _ _ _=>none) (aI_.step5 n k0) N
abbrev aI_.K13:Type:=(List TOp)->Option (List TOp)
abbrev aI_.T13:Type:=(List aa_)->(List Int)->(List aa_)->(List Int)->Int->(List TOp)->(List Int)->Option (List TOp)
def aI_.step13 (n:Nat) (k2:aI_.K13) (back:aI_.T13):aI_.T13:=fun o append t2 t3 t12 t9 t10=>
 (cond (decide (t12<(t3.length:Int))) ((aV_ n t12).bind fun A10=>(inB t12 t3.length ((cB_ n t10 (t3.getD t12.toNat 0)).bind fun A11=>(cond (A11 == t12) (inB t12 t3.length ((cB_ n append (t3.getD t12.toNat 0)).bind fun A12=>(inB A12 o.length (inB t12 t2.length ((aq_ n (aa_.re (o.getD A12.toNat aa_.dflt)) (aa_.re (t2.getD t12.toNat aa_.dflt))).bind fun A13=>(cond (!A13) (inB t12 t2.length ((br_ n (aa_.re (t2.getD t12.toNat aa_.dflt))).bind fun A14=>(bk_ (t9.length+([(TOp.mk 3 ([A10]:List Bs) (aa_.re A14))]:List TOp).length) 112 (back o append t2 t3 (W (t12+1)) (t9++([(TOp.mk 3 ([A10]:List Bs) (aa_.re A14))]:List TOp)) t10)))) (back o append t2 t3 (W (t12+1)) t9 t10))))))) (cond (decide (A11>=0)) ((aV_ n A11).bind fun A15=>(bk_ (t9.length+([(TOp.mk 2 ([A15]:List Bs) (aa_.mk 0 0 [] [] []))]:List TOp).length) 112 ((dc_ n t10 A11).bind fun A16=>(inB t12 t2.length ((br_ n (aa_.re (t2.getD t12.toNat aa_.dflt))).bind fun A17=>(bk_ ((t9++([(TOp.mk 2 ([A15]:List Bs) (aa_.mk 0 0 [] [] []))]:List TOp)).length+([(TOp.mk 1 ([A10]:List Bs) (aa_.re A17))]:List TOp).length) 112 (inB t12 t3.length ((dz_ n A16 t12 (t3.getD t12.toNat 0)).bind fun A18=>(back o append t2 t3 (W (t12+1)) ((t9++([(TOp.mk 2 ([A15]:List Bs) (aa_.mk 0 0 [] [] []))]:List TOp))++([(TOp.mk 1 ([A10]:List Bs) (aa_.re A17))]:List TOp)) A18))))))))) (inB t12 t2.length ((br_ n (aa_.re (t2.getD t12.toNat aa_.dflt))).bind fun A19=>(bk_ (t9.length+([(TOp.mk 1 ([A10]:List Bs) (aa_.re A19))]:List TOp).length) 112 (inB t12 t3.length ((dz_ n t10 t12 (t3.getD t12.toNat 0)).bind fun A20=>(back o append t2 t3 (W (t12+1)) (t9++([(TOp.mk 1 ([A10]:List Bs) (aa_.re A19))]:List TOp)) A20))))))))))) (k2 t9))
def aI_.loop13 (n:Nat) (k2:aI_.K13) (N:Nat):aI_.T13:=cv_ (fun _ _ _ _ _ _ _=>none) (aI_.step13 n k2) N
def aI_:Nat->(List aa_)->(List Int)->(List aa_)->(List Int)->Option (List TOp)
 |0,_,_,_,_=>none
 |n+1,o,append,a2,a3=>
  (bk_ (([]:List Int).length+append.length) 8 (aI_.loop5 n (fun B4 B5 B6 B7 B8 B9=>(aI_.loop13 n (fun B21=>(some B21)) n B4 B5 B6 B7 0 B8 B9)) n o append a2 a3 (W ((append.length:Int) - 1)) ([]:List TOp) (([]:List Int)++append)))
def e5_:Nat->(List aa_)->(List Int)->(List aa_)->(List Int)->Option (List TOp)
 |0,_,_,_,_=>none
 |n+1,old,oldKeys,now,nowKeys=>
  ((aL_ n oldKeys old).bind fun A1=>(cond (!A1) (some ([]:List TOp)) ((aL_ n nowKeys now).bind fun A2=>(cond (!A2) (some ([]:List TOp)) ((aI_ n old oldKeys now nowKeys).bind fun A3=>(some A3))))))
abbrev ck_.K4:Type:=(List TOp)->Option (List TOp)
abbrev ck_.T4:Type:=Bs->(List TOp)->Int->(List TOp)->Option (List TOp)
def ck_.step4 (n:Nat) (k0:ck_.K4) (back:ck_.T4):ck_.T4:=fun name list i out_1=>
 (cond (decide (i<(list.length:Int))) (inB i list.length (inB i list.length (bk_ (([name]:List Bs).length+((list.getD i.toNat TOp.dflt).way).length) 16 (inB i list.length ((br_ n (aa_.re ((list.getD i.toNat TOp.dflt).value))).bind fun A1=>(bk_ (out_1.length+([(TOp.mk ((list.getD i.toNat TOp.dflt).kind) (([name]:List Bs)++((list.getD i.toNat TOp.dflt).way)) (aa_.re A1))]:List TOp).length) 112 (back name list (W (i+1)) (out_1++([(TOp.mk ((list.getD i.toNat TOp.dflt).kind) (([name]:List Bs)++((list.getD i.toNat TOp.dflt).way)) (aa_.re A1))]:List TOp))))))))) (k0 out_1))
def ck_.loop4 (n:Nat) (k0:ck_.K4) (N:Nat):ck_.T4:=cv_ (fun _ _ _ _=>none) (ck_.step4 n k0) N
def ck_:Nat->Bs->(List TOp)->Option (List TOp)
 |0,_,_=>none
 |n+1,name,list=>
  (ck_.loop4 n (fun B2=>(some B2)) n name list 0 ([]:List TOp))
def dd_:Nat->bq_->bq_->Option (List TOp)
 |0,_,_=>none
 |n+1,a,b=>
  ((dB_ n a.q b.q).bind fun A1=>(cond (!A1) (some ([]:List TOp)) (cond ((a.rows.length:Int) != (b.rows.length:Int)) ((eX_ n (b.rows.length:Int)).bind fun A2=>(bk_ (([]:List TOp).length+([(TOp.mk 3 ([[99,111,117,110,116]]:List Bs) (aa_.re A2))]:List TOp).length) 112 ((bv_ n a).bind fun A3=>((bv_ n b).bind fun A4=>((e5_ n A3.1 A3.2 A4.1 A4.2).bind fun A5=>((ck_ n [114,111,119,115] A5).bind fun A6=>(bk_ ((([]:List TOp)++([(TOp.mk 3 ([[99,111,117,110,116]]:List Bs) (aa_.re A2))]:List TOp)).length+A6.length) 112 (some ((([]:List TOp)++([(TOp.mk 3 ([[99,111,117,110,116]]:List Bs) (aa_.re A2))]:List TOp))++A6))))))))) ((bv_ n a).bind fun A7=>((bv_ n b).bind fun A8=>((e5_ n A7.1 A7.2 A8.1 A8.2).bind fun A9=>((ck_ n [114,111,119,115] A9).bind fun A10=>(bk_ (([]:List TOp).length+A10.length) 112 (some (([]:List TOp)++A10))))))))))
abbrev cy_.K6:Type:=Int->(List Bs)->Int->Int->Bs->(List aa_)->(List Bs)->Option Bool
abbrev cy_.T6:Type:=Int->Int->(List Bs)->Int->Int->Bs->(List aa_)->(List Bs)->Option Bool
def cy_.step6 (n:Nat) (k0:cy_.K6) (back:cy_.T6):cy_.T6:=fun i o0 o1 o2 o3 o4 o5 o6=>
 (cond (decide (i<(o1.length:Int))) (inB i o1.length ((b9_ n (o1.getD i.toNat [])).bind fun A3=>(cond (!A3) (some false) (back (W (i+1)) o0 o1 o2 o3 o4 o5 o6)))) (k0 o0 o1 o2 o3 o4 o5 o6))
def cy_.loop6 (n:Nat) (k0:cy_.K6) (N:Nat):cy_.T6:=cv_ (fun _ _ _ _ _ _ _ _=>none) (cy_.step6 n k0) N
def cy_:Nat->TOp->Option Bool
 |0,_=>none
 |n+1,o=>
  ((cb_ n o.kind 1 4).bind fun A1=>(cond (!A1) (some false) (cond (decide ((o.way.length:Int) > 6)) (some false) ((cW_ n (aa_.re o.value)).bind fun A2=>(cond (!A2) (some false) (cy_.loop6 n (fun B4 B5 B6 B7 B8 B9 B10=>(cond (B4 != 2) (some true) ((aq_ n (aa_.mk B6 B7 B8 B9 B10) (aa_.mk 0 0 [] [] [])).bind fun A11=>(some A11)))) n 0 o.kind o.way o.value.kind o.value.n_ o.value.s o.value.list o.value.names))))))
def dn_:Nat->Unit->Option (List Bs)
 |0,_=>none
 |n+1,_u=>
  (some ([[],[97,100,100],[114,101,109,111,118,101],[114,101,112,108,97,99,101],[116,101,115,116]]:List Bs))
abbrev aF_.K10:Type:=(List Bs)->Int->(List Int)->Option Bs
abbrev aF_.T10:Type:=(List Bs)->Int->Int->(List Int)->Option Bs
def aF_.step10 (n:Nat) (k2:aF_.K10) (back:aF_.T10):aF_.T10:=fun way i k out_1=>
 (inB i way.length (cond (decide (k<((way.getD i.toNat []).length:Int))) (inB i way.length (inB k (way.getD i.toNat []).length (cond ((((way.getD i.toNat []).getD k.toNat 0).toNat:Int) == 126) (bk_ (out_1.length+([126,48]:List Int).length) 1 (back way i (W (k+1)) (out_1++([126,48]:List Int)))) (cond ((((way.getD i.toNat []).getD k.toNat 0).toNat:Int) == 47) (bk_ (out_1.length+([126,49]:List Int).length) 1 (back way i (W (k+1)) (out_1++([126,49]:List Int)))) (inB i way.length (inB k (way.getD i.toNat []).length (bk_ (out_1.length+([(((way.getD i.toNat []).getD k.toNat 0).toNat:Int)]:List Int).length) 1 (back way i (W (k+1)) (out_1++([(((way.getD i.toNat []).getD k.toNat 0).toNat:Int)]:List Int)))))))))) (k2 way i out_1)))
def aF_.loop10 (n:Nat) (k2:aF_.K10) (N:Nat):aF_.T10:=cv_ (fun _ _ _ _=>none) (aF_.step10 n k2) N
abbrev aF_.K4:Type:=(List Int)->Option Bs
abbrev aF_.T4:Type:=(List Bs)->Int->(List Int)->Option Bs
def aF_.step4 (n:Nat) (k0:aF_.K4) (back:aF_.T4):aF_.T4:=fun way i out_1=>
 (cond (decide (i<(way.length:Int))) (bk_ (out_1.length+([47]:List Int).length) 1 (aF_.loop10 n (fun B1 B2 B3=>(back B1 (W (B2+1)) B3)) n way i 0 (out_1++([47]:List Int)))) (k0 out_1))
def aF_.loop4 (n:Nat) (k0:aF_.K4) (N:Nat):aF_.T4:=cv_ (fun _ _ _=>none) (aF_.step4 n k0) N
def aF_:Nat->(List Bs)->Option Bs
 |0,_=>none
 |n+1,way=>
  (aF_.loop4 n (fun B4=>(some (hS_ B4))) n way 0 ([]:List Int))
def d3_:Nat->TOp->Option aa_
 |0,_=>none
 |n+1,o=>
  ((cy_ n (TOp.mk o.kind o.way (aa_.re o.value))).bind fun A1=>(cond (!A1) (some (aa_.mk 0 0 [] ([]:List aa_) ([]:List Bs))) ((dn_ n ()).bind fun A2=>(inB o.kind A2.length ((aF_ n o.way).bind fun A3=>(cond (o.kind != 2) ((br_ n (aa_.re o.value)).bind fun A4=>((bP_ n (aa_.mk 5 0 [] ([(aa_.mk 3 0 (A2.getD o.kind.toNat []) [] []),(aa_.mk 3 0 A3 [] [])]:List aa_) ([[111,112],[112,97,116,104]]:List Bs)) [118,97,108,117,101] (aa_.re A4)).bind fun A5=>((cW_ n (aa_.re A5)).bind fun A6=>(cond (!A6) (some (aa_.mk 0 0 [] ([]:List aa_) ([]:List Bs))) (some (aa_.re A5)))))) ((cW_ n (aa_.mk 5 0 [] ([(aa_.mk 3 0 (A2.getD o.kind.toNat []) [] []),(aa_.mk 3 0 A3 [] [])]:List aa_) ([[111,112],[112,97,116,104]]:List Bs))).bind fun A7=>(cond (!A7) (some (aa_.mk 0 0 [] ([]:List aa_) ([]:List Bs))) (some (aa_.mk 5 0 [] ([(aa_.mk 3 0 (A2.getD o.kind.toNat []) [] []),(aa_.mk 3 0 A3 [] [])]:List aa_) ([[111,112],[112,97,116,104]]:List Bs)))))))))))
abbrev bz_.K4:Type:=(List Int)->Option Bs
abbrev bz_.T4:Type:=Bs->Int->(List Int)->Option Bs
def bz_.step4 (n:Nat) (k0:bz_.K4) (back:bz_.T4):bz_.T4:=fun s i out_1=>
 (cond (decide (i<(s.length:Int))) (inB i s.length (cond (((s.getD i.toNat 0).toNat:Int) == 34) (bk_ (out_1.length+([92]:List Int).length) 1 (inB i s.length (bk_ ((out_1++([92]:List Int)).length+([((s.getD i.toNat 0).toNat:Int)]:List Int).length) 1 (back s (W (i+1)) ((out_1++([92]:List Int))++([((s.getD i.toNat 0).toNat:Int)]:List Int)))))) (inB i s.length (cond (((s.getD i.toNat 0).toNat:Int) == 92) (bk_ (out_1.length+([92]:List Int).length) 1 (inB i s.length (bk_ ((out_1++([92]:List Int)).length+([((s.getD i.toNat 0).toNat:Int)]:List Int).length) 1 (back s (W (i+1)) ((out_1++([92]:List Int))++([((s.getD i.toNat 0).toNat:Int)]:List Int)))))) (inB i s.length (bk_ (out_1.length+([((s.getD i.toNat 0).toNat:Int)]:List Int).length) 1 (back s (W (i+1)) (out_1++([((s.getD i.toNat 0).toNat:Int)]:List Int))))))))) (k0 out_1))
def bz_.loop4 (n:Nat) (k0:bz_.K4) (N:Nat):bz_.T4:=cv_ (fun _ _ _=>none) (bz_.step4 n k0) N
def bz_:Nat->Bs->Option Bs
 |0,_=>none
 |n+1,s=>
  (bz_.loop4 n (fun B1=>(bk_ (B1.length+([34]:List Int).length) 1 (some (hS_ (B1++([34]:List Int)))))) n s 0 ([34]:List Int))
abbrev aO_.K17_1:Type:=Bs->Int->Int->Bs->(List aa_)->(List Bs)->Option Bs
abbrev aO_.T17:Type:=Bs->Int->Int->Int->Bs->(List aa_)->(List Bs)->Option Bs
def aO_.step17 (n:Nat) (spec_l2Encode_:aa_->Option Bs) (k1:aO_.K17_1) (back:aO_.T17):aO_.T17:=fun out_1 i j0 j1 j2 j3 j4=>
 (cond (decide (i<(j3.length:Int))) (cond (decide (i > 0)) (cond (decide (out_1.length+[44].length<=9223372036854775807)) (cond (j0 == 5) (inB i j4.length ((bz_ n (j4.getD i.toNat [])).bind fun A3=>(cond (decide ((out_1++[44]).length+A3.length<=9223372036854775807)) (cond (decide (((out_1++[44])++A3).length+[58].length<=9223372036854775807)) (inB i j3.length ((spec_l2Encode_ (aa_.re (j3.getD i.toNat aa_.dflt))).bind fun A4=>(cond (decide ((((out_1++[44])++A3)++[58]).length+A4.length<=9223372036854775807)) (back ((((out_1++[44])++A3)++[58])++A4) (W (i+1)) j0 j1 j2 j3 j4) none))) none) none))) (inB i j3.length ((spec_l2Encode_ (aa_.re (j3.getD i.toNat aa_.dflt))).bind fun A5=>(cond (decide ((out_1++[44]).length+A5.length<=9223372036854775807)) (back ((out_1++[44])++A5) (W (i+1)) j0 j1 j2 j3 j4) none)))) none) (cond (j0 == 5) (inB i j4.length ((bz_ n (j4.getD i.toNat [])).bind fun A6=>(cond (decide (out_1.length+A6.length<=9223372036854775807)) (cond (decide ((out_1++A6).length+[58].length<=9223372036854775807)) (inB i j3.length ((spec_l2Encode_ (aa_.re (j3.getD i.toNat aa_.dflt))).bind fun A7=>(cond (decide (((out_1++A6)++[58]).length+A7.length<=9223372036854775807)) (back (((out_1++A6)++[58])++A7) (W (i+1)) j0 j1 j2 j3 j4) none))) none) none))) (inB i j3.length ((spec_l2Encode_ (aa_.re (j3.getD i.toNat aa_.dflt))).bind fun A8=>(cond (decide (out_1.length+A8.length<=9223372036854775807)) (back (out_1++A8) (W (i+1)) j0 j1 j2 j3 j4) none))))) (k1 out_1 j0 j1 j2 j3 j4))
def aO_.loop17 (n:Nat) (spec_l2Encode_:aa_->Option Bs) (k1:aO_.K17_1) (N:Nat):aO_.T17:=cv_ (fun _ _ _ _ _ _ _=>none) (aO_.step17 n spec_l2Encode_ k1) N
def aO_:Nat->aa_->Option Bs
 |0,_=>none
 |n+1,j=>
  (cond (j.kind == 0) (some [110,117,108,108]) (cond (j.kind == 1) (cond (j.n_ == 1) (some [116,114,117,101]) (some [102,97,108,115,101])) (cond (j.kind == 2) ((aV_ n j.n_).bind fun A1=>(some A1)) (cond (j.kind == 3) ((bz_ n j.s).bind fun A2=>(some A2)) (aO_.loop17 n (aO_ n) (fun B9 B10 B11 B12 B13 B14=>(cond (B10 == 5) (cond (decide ([123].length+B9.length<=9223372036854775807)) (cond (decide ((([123]:Bs)++B9).length+[125].length<=9223372036854775807)) (some ((([123]:Bs)++B9)++[125])) none) none) (cond (decide ([91].length+B9.length<=9223372036854775807)) (cond (decide ((([91]:Bs)++B9).length+[93].length<=9223372036854775807)) (some ((([91]:Bs)++B9)++[93])) none) none))) n [] 0 j.kind j.n_ j.s j.list j.names)))))
def c3_:Nat->aa_->Option Bs
 |0,_=>none
 |n+1,j=>
  ((cW_ n (aa_.re j)).bind fun A1=>(cond (!A1) (some []) ((aO_ n (aa_.re j)).bind fun A2=>(cond (decide ((A2.length:Int) > 6000)) (some []) (some A2)))))
abbrev a9_.K4:Type:=Int->Int->Bs->(List aa_)->Option Int
abbrev a9_.T4:Type:=(List TOp)->Int->Int->Int->Bs->(List aa_)->Option Int
def a9_.step4 (n:Nat) (k0:a9_.K4) (back:a9_.T4):a9_.T4:=fun list i j0 j1 j2 j3=>
 (cond (decide (i<(list.length:Int))) (inB i list.length ((d3_ n { (list.getD i.toNat TOp.dflt) with value:=(aa_.re ((list.getD i.toNat TOp.dflt).value)) }).bind fun A1=>(cond (A1.kind == 0) (some (-1)) (bk_ (j3.length+([(aa_.re A1)]:List aa_).length) 80 (back list (W (i+1)) j0 j1 j2 (j3++([(aa_.re A1)]:List aa_))))))) (k0 j0 j1 j2 j3))
def a9_.loop4 (n:Nat) (k0:a9_.K4) (N:Nat):a9_.T4:=cv_ (fun _ _ _ _ _ _=>none) (a9_.step4 n k0) N
def a9_:Nat->(List TOp)->Option Int
 |0,_=>none
 |n+1,list=>
  (a9_.loop4 n (fun B2 B3 B4 B5=>((c3_ n (aa_.mk B2 B3 B4 B5 [])).bind fun A6=>(cond (A6 == []) (some (-1)) (some (A6.length:Int))))) n list 0 4 0 [] ([]:List aa_))
def ef_:Nat->bq_->bq_->Option Bool
 |0,_,_=>none
 |n+1,a,b=>
  ((dd_ n a b).bind fun A1=>((a9_ n A1).bind fun A2=>(cond (decide ((A1.length:Int)<=40)) (cond (decide (A2>=0)) ((do_ n b).bind fun A3=>((c3_ n (aa_.re A3)).bind fun A4=>(some (decide (A2<(A4.length:Int)))))) (some false)) (some false))))
def dj_:Nat->cw_->Option (cw_ × aC_ × Bool)
 |0,_=>none
 |n+1,x=>
  ((dX_ n x).bind fun A1=>((eh_ n x).bind fun A2=>(cond (!A2) (some (A1,(aC_.mk 0 0 0 (aa_.mk 0 0 [] [] []) ([]:List TOp)),false)) ((do_ n x.view).bind fun A3=>(cond x.began ((ef_ n x.last x.view).bind fun A4=>(cond A4 ((dd_ n x.last x.view).bind fun A5=>((c2_ n x.view).bind fun A6=>(some ({ A1 with last:=A6,lastVersion:=x.version,began:=true },(aC_.mk 2 x.version x.lastVersion (aa_.mk 0 0 [] [] []) A5),true)))) ((c2_ n x.view).bind fun A7=>(some ({ A1 with last:=A7,lastVersion:=x.version,began:=true },(aC_.mk 1 x.version 0 (aa_.re A3) ([]:List TOp)),true))))) ((c2_ n x.view).bind fun A8=>(some ({ A1 with last:=A8,lastVersion:=x.version,began:=true },(aC_.mk 1 x.version 0 (aa_.re A3) ([]:List TOp)),true))))))))
def dy_:Nat->af_->ax_->Option (TMut × af_)
 |0,_,_=>none
 |n+1,o,append=>
  ((cL_ n (append.tables.length:Int) 1).bind fun A1=>((ao_ n o A1).bind fun A2=>(cond (decide (A2.1>=(append.tables.length:Int))) (some ((TMut.mk 3 0 (TRow.mk 1 ([]:List Int))),A2.2)) (cond (decide (A2.1>=(append.schema.cols.length:Int))) (some ((TMut.mk 3 0 (TRow.mk 1 ([]:List Int))),A2.2)) ((ao_ n A2.2 3).bind fun A3=>(inB A2.1 append.schema.cols.length ((bb_ n A3.2 (append.schema.cols.getD A2.1.toNat 0)).bind fun A4=>(cond ((W (1+A3.1)) != 1) (inB A2.1 append.tables.length (cond (decide (((append.tables.getD A2.1.toNat []).length:Int) > 0)) ((cD_ n A4.2 9).bind fun A5=>(cond (!A5.1) (inB A2.1 append.tables.length (inB A2.1 append.tables.length ((ao_ n A5.2 ((append.tables.getD A2.1.toNat []).length:Int)).bind fun A6=>(inB A6.1 (append.tables.getD A2.1.toNat []).length (cond ((W (1+A3.1)) == 3) ((ao_ n A6.2 25).bind fun A7=>(cond (A7.1 == 0) ((ao_ n A7.2 5).bind fun A8=>(some ((TMut.mk A8.1 A2.1 (TRow.mk (((append.tables.getD A2.1.toNat []).getD A6.1.toNat TRow.dflt).id_) ([]:List Int))),A8.2))) (cond (A7.1 == 1) ((ao_ n A7.2 5).bind fun A9=>(some ((TMut.mk (W (1+A3.1)) (W (A9.1 - 1)) (TRow.mk (((append.tables.getD A2.1.toNat []).getD A6.1.toNat TRow.dflt).id_) ([]:List Int))),A9.2))) (cond (A7.1 == 2) ((bJ_ n A7.2 ([0,999,1000]:List Int)).bind fun A10=>(some ((TMut.mk (W (1+A3.1)) A2.1 (TRow.mk A10.1 ([]:List Int))),A10.2))) (some ((TMut.mk (W (1+A3.1)) A2.1 (TRow.mk (((append.tables.getD A2.1.toNat []).getD A6.1.toNat TRow.dflt).id_) ([]:List Int))),A7.2)))))) ((ao_ n A6.2 25).bind fun A11=>(cond (A11.1 == 0) ((ao_ n A11.2 5).bind fun A12=>(some ((TMut.mk A12.1 A2.1 (TRow.mk (((append.tables.getD A2.1.toNat []).getD A6.1.toNat TRow.dflt).id_) A4.1.cells)),A12.2))) (cond (A11.1 == 1) ((ao_ n A11.2 5).bind fun A13=>(some ((TMut.mk (W (1+A3.1)) (W (A13.1 - 1)) (TRow.mk (((append.tables.getD A2.1.toNat []).getD A6.1.toNat TRow.dflt).id_) A4.1.cells)),A13.2))) (cond (A11.1 == 2) ((bJ_ n A11.2 ([0,999,1000]:List Int)).bind fun A14=>(some ((TMut.mk (W (1+A3.1)) A2.1 (TRow.mk A14.1 A4.1.cells)),A14.2))) (some ((TMut.mk (W (1+A3.1)) A2.1 (TRow.mk (((append.tables.getD A2.1.toNat []).getD A6.1.toNat TRow.dflt).id_) A4.1.cells)),A11.2))))))))))) (cond ((W (1+A3.1)) == 3) ((ao_ n A5.2 25).bind fun A15=>(cond (A15.1 == 0) ((ao_ n A15.2 5).bind fun A16=>(some ((TMut.mk A16.1 A2.1 (TRow.mk A4.1.id_ ([]:List Int))),A16.2))) (cond (A15.1 == 1) ((ao_ n A15.2 5).bind fun A17=>(some ((TMut.mk (W (1+A3.1)) (W (A17.1 - 1)) (TRow.mk A4.1.id_ ([]:List Int))),A17.2))) (cond (A15.1 == 2) ((bJ_ n A15.2 ([0,999,1000]:List Int)).bind fun A18=>(some ((TMut.mk (W (1+A3.1)) A2.1 (TRow.mk A18.1 ([]:List Int))),A18.2))) (some ((TMut.mk (W (1+A3.1)) A2.1 (TRow.mk A4.1.id_ ([]:List Int))),A15.2)))))) ((ao_ n A5.2 25).bind fun A19=>(cond (A19.1 == 0) ((ao_ n A19.2 5).bind fun A20=>(some ((TMut.mk A20.1 A2.1 A4.1),A20.2))) (cond (A19.1 == 1) ((ao_ n A19.2 5).bind fun A21=>(some ((TMut.mk (W (1+A3.1)) (W (A21.1 - 1)) A4.1),A21.2))) (cond (A19.1 == 2) ((bJ_ n A19.2 ([0,999,1000]:List Int)).bind fun A22=>(some ((TMut.mk (W (1+A3.1)) A2.1 (TRow.mk A22.1 A4.1.cells)),A22.2))) (some ((TMut.mk (W (1+A3.1)) A2.1 A4.1),A19.2))))))))) (cond ((W (1+A3.1)) == 3) ((ao_ n A4.2 25).bind fun A23=>(cond (A23.1 == 0) ((ao_ n A23.2 5).bind fun A24=>(some ((TMut.mk A24.1 A2.1 (TRow.mk A4.1.id_ ([]:List Int))),A24.2))) (cond (A23.1 == 1) ((ao_ n A23.2 5).bind fun A25=>(some ((TMut.mk (W (1+A3.1)) (W (A25.1 - 1)) (TRow.mk A4.1.id_ ([]:List Int))),A25.2))) (cond (A23.1 == 2) ((bJ_ n A23.2 ([0,999,1000]:List Int)).bind fun A26=>(some ((TMut.mk (W (1+A3.1)) A2.1 (TRow.mk A26.1 ([]:List Int))),A26.2))) (some ((TMut.mk (W (1+A3.1)) A2.1 (TRow.mk A4.1.id_ ([]:List Int))),A23.2)))))) ((ao_ n A4.2 25).bind fun A27=>(cond (A27.1 == 0) ((ao_ n A27.2 5).bind fun A28=>(some ((TMut.mk A28.1 A2.1 A4.1),A28.2))) (cond (A27.1 == 1) ((ao_ n A27.2 5).bind fun A29=>(some ((TMut.mk (W (1+A3.1)) (W (A29.1 - 1)) A4.1),A29.2))) (cond (A27.1 == 2) ((bJ_ n A27.2 ([0,999,1000]:List Int)).bind fun A30=>(some ((TMut.mk (W (1+A3.1)) A2.1 (TRow.mk A30.1 A4.1.cells)),A30.2))) (some ((TMut.mk (W (1+A3.1)) A2.1 A4.1),A27.2))))))))) (cond ((W (1+A3.1)) == 3) ((ao_ n A4.2 25).bind fun A31=>(cond (A31.1 == 0) ((ao_ n A31.2 5).bind fun A32=>(some ((TMut.mk A32.1 A2.1 (TRow.mk A4.1.id_ ([]:List Int))),A32.2))) (cond (A31.1 == 1) ((ao_ n A31.2 5).bind fun A33=>(some ((TMut.mk (W (1+A3.1)) (W (A33.1 - 1)) (TRow.mk A4.1.id_ ([]:List Int))),A33.2))) (cond (A31.1 == 2) ((bJ_ n A31.2 ([0,999,1000]:List Int)).bind fun A34=>(some ((TMut.mk (W (1+A3.1)) A2.1 (TRow.mk A34.1 ([]:List Int))),A34.2))) (some ((TMut.mk (W (1+A3.1)) A2.1 (TRow.mk A4.1.id_ ([]:List Int))),A31.2)))))) ((ao_ n A4.2 25).bind fun A35=>(cond (A35.1 == 0) ((ao_ n A35.2 5).bind fun A36=>(some ((TMut.mk A36.1 A2.1 A4.1),A36.2))) (cond (A35.1 == 1) ((ao_ n A35.2 5).bind fun A37=>(some ((TMut.mk (W (1+A3.1)) (W (A37.1 - 1)) A4.1),A37.2))) (cond (A35.1 == 2) ((bJ_ n A35.2 ([0,999,1000]:List Int)).bind fun A38=>(some ((TMut.mk (W (1+A3.1)) A2.1 (TRow.mk A38.1 A4.1.cells)),A38.2))) (some ((TMut.mk (W (1+A3.1)) A2.1 A4.1),A35.2)))))))))))))))
def eY_:Nat->a1_->TMut->Option Bool
 |0,_,_=>none
 |n+1,s,m=>
  (cond (m.kind == 3) ((a5_ n s).bind fun A1=>(cond A1 ((cb_ n m.table 0 (W ((s.cols.length:Int) - 1))).bind fun A2=>(cond A2 ((cb_ n m.row.id_ 1 999).bind fun A3=>(cond A3 (some ((m.row.cells.length:Int) == 0)) (some false))) (some false))) (some false))) ((cb_ n m.kind 1 2).bind fun A4=>(cond A4 ((cq_ n s m.table m.row).bind fun A5=>(some A5)) (some false))))
abbrev bA_.K4:Type:=Int->Int->(List Int)->(List (List TRow))->Option ax_
abbrev bA_.T4:Type:=Int->(List Int)->Int->(List (List TRow))->Int->Int->(List Int)->(List (List TRow))->Option ax_
def bA_.step4 (n:Nat) (k0:bA_.K4) (back:bA_.T4):bA_.T4:=fun t s0 s1 s2 t21 out1 out0 out2=>
 (cond (decide (t<(s2.length:Int))) (inB t s2.length ((b0_ n (s2.getD t.toNat [])).bind fun A2=>(bk_ (out2.length+([A2]:List (List TRow)).length) 24 (back (W (t+1)) s0 s1 s2 t21 out1 out0 (out2++([A2]:List (List TRow))))))) (k0 t21 out1 out0 out2))
def bA_.loop4 (n:Nat) (k0:bA_.K4) (N:Nat):bA_.T4:=cv_ (fun _ _ _ _ _ _ _ _=>none) (bA_.step4 n k0) N
def bA_:Nat->ax_->Option ax_
 |0,_=>none
 |n+1,s=>
  ((dx_ n s.schema).bind fun A1=>(bA_.loop4 n (fun B3 B4 B5 B6=>(some (ax_.mk (a1_.mk B5) B4 B6))) n 0 s.schema.cols s.version s.tables 0 s.version A1.cols ([]:List (List TRow))))
def fk_:Nat->ax_->TMut->Option (ax_ × aZ_ × Bool)
 |0,_,_=>none
 |n+1,o,append=>
  (inB append.table o.tables.length ((cm_ n (o.tables.getD append.table.toNat []) append.row.id_).bind fun A1=>(cond (!((decide (A1>=0)) == (append.kind != 1))) (some (o,(aZ_.mk 0 false false (TRow.mk 0 ([]:List Int)) (TRow.mk 0 ([]:List Int))),false)) (cond (append.kind == 1) (cond (((o.tables.getD append.table.toNat []).length:Int) == 24) (some (o,(aZ_.mk 0 false false (TRow.mk 0 ([]:List Int)) (TRow.mk 0 ([]:List Int))),false)) (cond (append.kind != 1) (inB A1 (o.tables.getD append.table.toNat []).length ((cC_ n ((o.tables.getD append.table.toNat []).getD A1.toNat TRow.dflt)).bind fun A2=>(cond (append.kind != 3) ((cC_ n append.row).bind fun A3=>((bK_ n (o.tables.getD append.table.toNat []) append.row).bind fun A4=>(inB append.table o.tables.length (let D5:List (List TRow):=o.tables.set append.table.toNat A4;(some ((ax_.mk o.schema o.version D5),(aZ_.mk append.table (append.kind != 1) (append.kind != 3) A2 A3),true)))))) ((bm_ n (o.tables.getD append.table.toNat []) append.row.id_).bind fun A6=>(inB append.table o.tables.length (let D7:List (List TRow):=o.tables.set append.table.toNat A6;(some ((ax_.mk o.schema o.version D7),(aZ_.mk append.table (append.kind != 1) (append.kind != 3) A2 (TRow.mk 0 ([]:List Int))),true)))))))) (cond (append.kind != 3) ((cC_ n append.row).bind fun A8=>((bK_ n (o.tables.getD append.table.toNat []) append.row).bind fun A9=>(inB append.table o.tables.length (let D10:List (List TRow):=o.tables.set append.table.toNat A9;(some ((ax_.mk o.schema o.version D10),(aZ_.mk append.table (append.kind != 1) (append.kind != 3) (TRow.mk 0 ([]:List Int)) A8),true)))))) ((bm_ n (o.tables.getD append.table.toNat []) append.row.id_).bind fun A11=>(inB append.table o.tables.length (let D12:List (List TRow):=o.tables.set append.table.toNat A11;(some ((ax_.mk o.schema o.version D12),(aZ_.mk append.table (append.kind != 1) (append.kind != 3) (TRow.mk 0 ([]:List Int)) (TRow.mk 0 ([]:List Int))),true)))))))) (cond (append.kind != 1) (inB A1 (o.tables.getD append.table.toNat []).length ((cC_ n ((o.tables.getD append.table.toNat []).getD A1.toNat TRow.dflt)).bind fun A13=>(cond (append.kind != 3) ((cC_ n append.row).bind fun A14=>((bK_ n (o.tables.getD append.table.toNat []) append.row).bind fun A15=>(inB append.table o.tables.length (let D16:List (List TRow):=o.tables.set append.table.toNat A15;(some ((ax_.mk o.schema o.version D16),(aZ_.mk append.table (append.kind != 1) (append.kind != 3) A13 A14),true)))))) ((bm_ n (o.tables.getD append.table.toNat []) append.row.id_).bind fun A17=>(inB append.table o.tables.length (let D18:List (List TRow):=o.tables.set append.table.toNat A17;(some ((ax_.mk o.schema o.version D18),(aZ_.mk append.table (append.kind != 1) (append.kind != 3) A13 (TRow.mk 0 ([]:List Int))),true)))))))) (cond (append.kind != 3) ((cC_ n append.row).bind fun A19=>((bK_ n (o.tables.getD append.table.toNat []) append.row).bind fun A20=>(inB append.table o.tables.length (let D21:List (List TRow):=o.tables.set append.table.toNat A20;(some ((ax_.mk o.schema o.version D21),(aZ_.mk append.table (append.kind != 1) (append.kind != 3) (TRow.mk 0 ([]:List Int)) A19),true)))))) ((bm_ n (o.tables.getD append.table.toNat []) append.row.id_).bind fun A22=>(inB append.table o.tables.length (let D23:List (List TRow):=o.tables.set append.table.toNat A22;(some ((ax_.mk o.schema o.version D23),(aZ_.mk append.table (append.kind != 1) (append.kind != 3) (TRow.mk 0 ([]:List Int)) (TRow.mk 0 ([]:List Int))),true)))))))))))
def eH_:Nat->ax_->TMut->Option (ax_ × aZ_ × Bool)
 |0,_,_=>none
 |n+1,s,m=>
  ((bD_ n s).bind fun A1=>(cond (!A1) (some ((ax_.mk (a1_.mk ([]:List Int)) 0 ([]:List (List TRow))),(aZ_.mk 0 false false (TRow.mk 0 ([]:List Int)) (TRow.mk 0 ([]:List Int))),false)) ((eY_ n s.schema m).bind fun A2=>(cond (!A2) ((bA_ n s).bind fun A3=>(some (A3,(aZ_.mk 0 false false (TRow.mk 0 ([]:List Int)) (TRow.mk 0 ([]:List Int))),false))) ((bA_ n s).bind fun A4=>((fk_ n A4 m).bind fun A5=>(cond (!A5.2.2) ((bA_ n s).bind fun A6=>(some (A6,(aZ_.mk 0 false false (TRow.mk 0 ([]:List Int)) (TRow.mk 0 ([]:List Int))),false))) (some (A5.1,A5.2.1,true)))))))))
def aD_.tail9 (n:Nat) (kn:Int->(List Int)->Int->Int->(List Int)->Int->(List (List TRow))->(List TMut)->Option ((List TMut) × af_)) (i:Int) (c0:List Int) (c1:Int) (c2:Int) (now0:List Int) (now1:Int) (now2:List (List TRow)) (list:List TMut) (m0:Int) (m1:Int) (m2:Int) (m3:List Int):Option ((List TMut) × af_) :=
 ((eH_ n (ax_.mk (a1_.mk now0) now1 now2) (TMut.mk m0 m1 (TRow.mk m2 m3))).bind fun A3=>(cond A3.2.2 (cond A3.2.2 (bk_ (list.length+([(TMut.mk m0 m1 (TRow.mk m2 m3))]:List TMut).length) 48 (kn i c0 c1 c2 A3.1.schema.cols A3.1.version A3.1.tables (list++([(TMut.mk m0 m1 (TRow.mk m2 m3))]:List TMut)))) ((cD_ n (af_.mk c0 c1 c2) 9).bind fun A4=>(cond A4.1 (bk_ (list.length+([(TMut.mk m0 m1 (TRow.mk m2 m3))]:List TMut).length) 48 (kn i A4.2.b A4.2.i A4.2.h A3.1.schema.cols A3.1.version A3.1.tables (list++([(TMut.mk m0 m1 (TRow.mk m2 m3))]:List TMut)))) (kn i A4.2.b A4.2.i A4.2.h A3.1.schema.cols A3.1.version A3.1.tables list)))) (cond A3.2.2 (bk_ (list.length+([(TMut.mk m0 m1 (TRow.mk m2 m3))]:List TMut).length) 48 (kn i c0 c1 c2 now0 now1 now2 (list++([(TMut.mk m0 m1 (TRow.mk m2 m3))]:List TMut)))) ((cD_ n (af_.mk c0 c1 c2) 9).bind fun A5=>(cond A5.1 (bk_ (list.length+([(TMut.mk m0 m1 (TRow.mk m2 m3))]:List TMut).length) 48 (kn i A5.2.b A5.2.i A5.2.h now0 now1 now2 (list++([(TMut.mk m0 m1 (TRow.mk m2 m3))]:List TMut)))) (kn i A5.2.b A5.2.i A5.2.h now0 now1 now2 list))))))
abbrev aD_.K5:Type:=(List Int)->Int->Int->(List TMut)->Option ((List TMut) × af_)
abbrev aD_.T5:Type:=Int->(List Int)->Int->Int->(List Int)->Int->(List (List TRow))->(List TMut)->Option ((List TMut) × af_)
def aD_.step5 (n:Nat) (k0:aD_.K5) (back:aD_.T5):aD_.T5:=fun i c0 c1 c2 now0 now1 now2 list=>
 ((ao_ n (af_.mk c0 c1 c2) 3).bind fun A1=>(cond (decide (i<(W (1+A1.1)))) ((dy_ n A1.2 (ax_.mk (a1_.mk now0) now1 now2)).bind fun A2=>(aD_.tail9 n (fun B6 B7 B8 B9 B10 B11 B12 B13=>(back (W (B6+1)) B7 B8 B9 B10 B11 B12 B13)) i A2.2.b A2.2.i A2.2.h now0 now1 now2 list A2.1.kind A2.1.table A2.1.row.id_ A2.1.row.cells)) (k0 A1.2.b A1.2.i A1.2.h list)))
def aD_.loop5 (n:Nat) (k0:aD_.K5) (N:Nat):aD_.T5:=cv_ (fun _ _ _ _ _ _ _ _=>none) (aD_.step5 n k0) N
def aD_:Nat->af_->ax_->Option ((List TMut) × af_)
 |0,_,_=>none
 |n+1,c,s=>
  (aD_.loop5 n (fun B14 B15 B16 B17=>(some (B17,(af_.mk B14 B15 B16)))) n 0 c.b c.i c.h s.schema.cols s.version s.tables ([]:List TMut))
abbrev bF_.K12:Type:=(List Int)->Int->(List (List TRow))->Int->Int->(List aZ_)->(List Int)->(List (List TRow))->Option (ax_ × (List aZ_) × Bool)
abbrev bF_.T12:Type:=(List TMut)->Int->(List Int)->Int->(List (List TRow))->Int->(List aZ_)->Int->(List aZ_)->(List Int)->(List (List TRow))->Option (ax_ × (List aZ_) × Bool)
def bF_.step12 (n:Nat) (k0:bF_.K12) (back:bF_.T12):bF_.T12:=fun append t10 t20 t21 t22 t41 t7 t81 t9 t80 t82=>
 (cond (decide (t10<(append.length:Int))) (inB t10 append.length ((eH_ n (ax_.mk (a1_.mk t80) t81 t82) { (append.getD t10.toNat TMut.dflt) with row:=((append.getD t10.toNat TMut.dflt).row) }).bind fun A6=>(cond (!A6.2.2) ((bA_ n (ax_.mk (a1_.mk t20) t21 t22)).bind fun A7=>(some (A7,t7,false))) (bk_ (t9.length+([A6.2.1]:List aZ_).length) 80 (back append (W (t10+1)) t20 t21 t22 t41 t7 A6.1.version (t9++([A6.2.1]:List aZ_)) A6.1.schema.cols A6.1.tables))))) (k0 t20 t21 t22 t41 t81 t9 t80 t82))
def bF_.loop12 (n:Nat) (k0:bF_.K12) (N:Nat):bF_.T12:=cv_ (fun _ _ _ _ _ _ _ _ _ _ _=>none) (bF_.step12 n k0) N
def bF_:Nat->ax_->(List TMut)->Option (ax_ × (List aZ_) × Bool)
 |0,_,_=>none
 |n+1,o,append=>
  ((bD_ n o).bind fun A1=>(cond (!A1) (some ((ax_.mk (a1_.mk ([]:List Int)) 0 ([]:List (List TRow))),([]:List aZ_),false)) ((cb_ n (append.length:Int) 1 5).bind fun A2=>(cond (!A2) ((bA_ n o).bind fun A3=>(some (A3,([]:List aZ_),false))) (cond (o.version == 100000) ((bA_ n o).bind fun A4=>(some (A4,([]:List aZ_),false))) ((bA_ n o).bind fun A5=>(bF_.loop12 n (fun B8 B9 B10 B11 B12 B13 B14 B15=>(some ((ax_.mk (a1_.mk B14) (W (B9+1)) B15),B13,true))) n append 0 o.schema.cols o.version o.tables 0 ([]:List aZ_) A5.version ([]:List aZ_) A5.schema.cols A5.tables)))))))
def di_:Nat->bq_->aZ_->Option bq_
 |0,_,_=>none
 |n+1,o,append=>
  ((c2_ n o).bind fun A1=>(cond (append.table == o.q.table) (cond append.had ((bm_ n A1.rows append.old.id_).bind fun A2=>(cond append.has ((bU_ n o.q append.new).bind fun A3=>(cond A3 ((bY_ n o.q A2 append.new).bind fun A4=>(cond o.q.kids (cond (append.table == o.q.kidTable) (cond append.had ((bX_ n append.old o.q.kidCol).bind fun A5=>((aR_ n A1.kids A5 (-1)).bind fun A6=>(cond append.has ((bX_ n append.new o.q.kidCol).bind fun A7=>((aR_ n A6 A7 1).bind fun A8=>(some (bq_.mk A1.q A4 A8)))) (some (bq_.mk A1.q A4 A6))))) (cond append.has ((bX_ n append.new o.q.kidCol).bind fun A9=>((aR_ n A1.kids A9 1).bind fun A10=>(some (bq_.mk A1.q A4 A10)))) (some { A1 with rows:=A4 }))) (some { A1 with rows:=A4 })) (some { A1 with rows:=A4 }))) (cond o.q.kids (cond (append.table == o.q.kidTable) (cond append.had ((bX_ n append.old o.q.kidCol).bind fun A11=>((aR_ n A1.kids A11 (-1)).bind fun A12=>(cond append.has ((bX_ n append.new o.q.kidCol).bind fun A13=>((aR_ n A12 A13 1).bind fun A14=>(some (bq_.mk A1.q A2 A14)))) (some (bq_.mk A1.q A2 A12))))) (cond append.has ((bX_ n append.new o.q.kidCol).bind fun A15=>((aR_ n A1.kids A15 1).bind fun A16=>(some (bq_.mk A1.q A2 A16)))) (some { A1 with rows:=A2 }))) (some { A1 with rows:=A2 })) (some { A1 with rows:=A2 })))) (cond o.q.kids (cond (append.table == o.q.kidTable) (cond append.had ((bX_ n append.old o.q.kidCol).bind fun A17=>((aR_ n A1.kids A17 (-1)).bind fun A18=>(cond append.has ((bX_ n append.new o.q.kidCol).bind fun A19=>((aR_ n A18 A19 1).bind fun A20=>(some (bq_.mk A1.q A2 A20)))) (some (bq_.mk A1.q A2 A18))))) (cond append.has ((bX_ n append.new o.q.kidCol).bind fun A21=>((aR_ n A1.kids A21 1).bind fun A22=>(some (bq_.mk A1.q A2 A22)))) (some { A1 with rows:=A2 }))) (some { A1 with rows:=A2 })) (some { A1 with rows:=A2 })))) (cond append.has ((bU_ n o.q append.new).bind fun A23=>(cond A23 ((bY_ n o.q A1.rows append.new).bind fun A24=>(cond o.q.kids (cond (append.table == o.q.kidTable) (cond append.had ((bX_ n append.old o.q.kidCol).bind fun A25=>((aR_ n A1.kids A25 (-1)).bind fun A26=>(cond append.has ((bX_ n append.new o.q.kidCol).bind fun A27=>((aR_ n A26 A27 1).bind fun A28=>(some (bq_.mk A1.q A24 A28)))) (some (bq_.mk A1.q A24 A26))))) (cond append.has ((bX_ n append.new o.q.kidCol).bind fun A29=>((aR_ n A1.kids A29 1).bind fun A30=>(some (bq_.mk A1.q A24 A30)))) (some { A1 with rows:=A24 }))) (some { A1 with rows:=A24 })) (some { A1 with rows:=A24 }))) (cond o.q.kids (cond (append.table == o.q.kidTable) (cond append.had ((bX_ n append.old o.q.kidCol).bind fun A31=>((aR_ n A1.kids A31 (-1)).bind fun A32=>(cond append.has ((bX_ n append.new o.q.kidCol).bind fun A33=>((aR_ n A32 A33 1).bind fun A34=>(some { A1 with kids:=A34 }))) (some { A1 with kids:=A32 })))) (cond append.has ((bX_ n append.new o.q.kidCol).bind fun A35=>((aR_ n A1.kids A35 1).bind fun A36=>(some { A1 with kids:=A36 }))) (some A1))) (some A1)) (some A1)))) (cond o.q.kids (cond (append.table == o.q.kidTable) (cond append.had ((bX_ n append.old o.q.kidCol).bind fun A37=>((aR_ n A1.kids A37 (-1)).bind fun A38=>(cond append.has ((bX_ n append.new o.q.kidCol).bind fun A39=>((aR_ n A38 A39 1).bind fun A40=>(some { A1 with kids:=A40 }))) (some { A1 with kids:=A38 })))) (cond append.has ((bX_ n append.new o.q.kidCol).bind fun A41=>((aR_ n A1.kids A41 1).bind fun A42=>(some { A1 with kids:=A42 }))) (some A1))) (some A1)) (some A1)))) (cond o.q.kids (cond (append.table == o.q.kidTable) (cond append.had ((bX_ n append.old o.q.kidCol).bind fun A43=>((aR_ n A1.kids A43 (-1)).bind fun A44=>(cond append.has ((bX_ n append.new o.q.kidCol).bind fun A45=>((aR_ n A44 A45 1).bind fun A46=>(some { A1 with kids:=A46 }))) (some { A1 with kids:=A44 })))) (cond append.has ((bX_ n append.new o.q.kidCol).bind fun A47=>((aR_ n A1.kids A47 1).bind fun A48=>(some { A1 with kids:=A48 }))) (some A1))) (some A1)) (some A1))))
abbrev aU_.K4:Type:=Int->Int->Bool->Int->Bool->Int->Int->Int->Int->Bool->Int->Bool->Int->Int->(List ca_)->(List Int)->(List TRow)->(List TKid)->Option bq_
abbrev aU_.T4:Type:=(List aZ_)->Int->Int->Int->Bool->Int->Bool->Int->Int->Int->Int->Bool->Int->Bool->Int->Int->(List ca_)->(List Int)->(List TRow)->(List TKid)->Option bq_
def aU_.step4 (n:Nat) (k0:aU_.K4) (back:aU_.T4):aU_.T4:=fun list i t40 t42 t43 t44 t46 t47 t48 out0 out2 out3 out4 out6 out7 out8 out1 out5 out9 out10=>
 (cond (decide (i<(list.length:Int))) (inB i list.length ((di_ n (bq_.mk (ay_.mk out0 out1 out2 out3 out4 out5 out6 out7 out8) out9 out10) { (list.getD i.toNat aZ_.dflt) with old:=((list.getD i.toNat aZ_.dflt).old),new:=((list.getD i.toNat aZ_.dflt).new) }).bind fun A2=>(back list (W (i+1)) t40 t42 t43 t44 t46 t47 t48 A2.q.table A2.q.order A2.q.down A2.q.first A2.q.kids A2.q.kidTable A2.q.kidCol A2.q.where_ A2.q.show_ A2.rows A2.kids))) (k0 t40 t42 t43 t44 t46 t47 t48 out0 out2 out3 out4 out6 out7 out8 out1 out5 out9 out10))
def aU_.loop4 (n:Nat) (k0:aU_.K4) (N:Nat):aU_.T4:=cv_ (fun _ _ _ _ _ _ _ _ _ _ _ _ _ _ _ _ _ _ _ _=>none) (aU_.step4 n k0) N
def aU_:Nat->bq_->(List aZ_)->Option bq_
 |0,_,_=>none
 |n+1,v,list=>
  ((c2_ n v).bind fun A1=>(aU_.loop4 n (fun B3 B4 B5 B6 B7 B8 B9 B10 B11 B12 B13 B14 B15 B16 B17 B18 B19 B20=>(some (bq_.mk (ay_.mk B10 B17 B11 B12 B13 B18 B14 B15 B16) B19 B20))) n list 0 0 0 false 0 false 0 0 A1.q.table A1.q.order A1.q.down A1.q.first A1.q.kids A1.q.kidTable A1.q.kidCol A1.q.where_ A1.q.show_ A1.rows A1.kids))
def d2_:Nat->cw_->(List aZ_)->Option cw_
 |0,_,_=>none
 |n+1,x,list=>
  ((dX_ n x).bind fun A1=>((aU_ n x.view list).bind fun A2=>(some { A1 with view:=A2,version:=(W (x.version+1)) })))
def as_.tail10 (n:Nat) (kn:Int->(List Int)->Int->Int->Int->Int->Int->Bool->Int->Bool->Int->Int->Int->Int->Int->Bool->Int->Bool->Int->Int->Int->Bool->(List Int)->Int->(List (List TRow))->Int->(List ca_)->Int->Bool->Int->(List Int)->Bool->Int->Int->(List TRow)->(List TKid)->Int->Int->(List ca_)->Int->Bool->Int->(List Int)->Bool->Int->Int->(List TRow)->(List TKid)->Int->Bool->Option (ax_ × cw_ × af_)) (i:Int) (t29:Bool) (c0:List Int) (c1:Int) (c2:Int) (t21:Int) (t30:Int) (t32:Int) (t33:Bool) (t34:Int) (t36:Bool) (t37:Int) (t38:Int) (t311:Int) (t312:Int) (t314:Int) (t315:Bool) (t316:Int) (t318:Bool) (t319:Int) (t320:Int) (t323:Int) (t324:Bool) (s0:List Int) (s1:Int) (s2:List (List TRow)) (x0:Int) (x1:List ca_) (x2:Int) (x3:Bool) (x4:Int) (x5:List Int) (x6:Bool) (x7:Int) (x8:Int) (x9:List TRow) (x10:List TKid) (x11:Int) (x12:Int) (x13:List ca_) (x14:Int) (x15:Bool) (x16:Int) (x17:List Int) (x18:Bool) (x19:Int) (x20:Int) (x21:List TRow) (x22:List TKid) (x23:Int) (x24:Bool):Option (ax_ × cw_ × af_) :=
 (cond t29 ((dj_ n (cw_.mk (bq_.mk (ay_.mk x0 x1 x2 x3 x4 x5 x6 x7 x8) x9 x10) x11 (bq_.mk (ay_.mk x12 x13 x14 x15 x16 x17 x18 x19 x20) x21 x22) x23 x24)).bind fun A6=>(kn i c0 c1 c2 t21 t30 t32 t33 t34 t36 t37 t38 t311 t312 t314 t315 t316 t318 t319 t320 t323 t324 s0 s1 s2 A6.1.view.q.table A6.1.view.q.where_ A6.1.view.q.order A6.1.view.q.down A6.1.view.q.first A6.1.view.q.show_ A6.1.view.q.kids A6.1.view.q.kidTable A6.1.view.q.kidCol A6.1.view.rows A6.1.view.kids A6.1.version A6.1.last.q.table A6.1.last.q.where_ A6.1.last.q.order A6.1.last.q.down A6.1.last.q.first A6.1.last.q.show_ A6.1.last.q.kids A6.1.last.q.kidTable A6.1.last.q.kidCol A6.1.last.rows A6.1.last.kids A6.1.lastVersion A6.1.began)) (kn i c0 c1 c2 t21 t30 t32 t33 t34 t36 t37 t38 t311 t312 t314 t315 t316 t318 t319 t320 t323 t324 s0 s1 s2 x0 x1 x2 x3 x4 x5 x6 x7 x8 x9 x10 x11 x12 x13 x14 x15 x16 x17 x18 x19 x20 x21 x22 x23 x24))
abbrev as_.K5:Type:=(List Int)->Int->Int->Int->Int->Int->Bool->Int->Bool->Int->Int->Int->Int->Int->Bool->Int->Bool->Int->Int->Int->Bool->(List Int)->Int->(List (List TRow))->Int->(List ca_)->Int->Bool->Int->(List Int)->Bool->Int->Int->(List TRow)->(List TKid)->Int->Int->(List ca_)->Int->Bool->Int->(List Int)->Bool->Int->Int->(List TRow)->(List TKid)->Int->Bool->Option (ax_ × cw_ × af_)
abbrev as_.T5:Type:=Int->(List Int)->Int->Int->Int->Int->Int->Bool->Int->Bool->Int->Int->Int->Int->Int->Bool->Int->Bool->Int->Int->Int->Bool->(List Int)->Int->(List (List TRow))->Int->(List ca_)->Int->Bool->Int->(List Int)->Bool->Int->Int->(List TRow)->(List TKid)->Int->Int->(List ca_)->Int->Bool->Int->(List Int)->Bool->Int->Int->(List TRow)->(List TKid)->Int->Bool->Option (ax_ × cw_ × af_)
def as_.step5 (n:Nat) (k0:as_.K5) (back:as_.T5):as_.T5:=fun i c0 c1 c2 t21 t30 t32 t33 t34 t36 t37 t38 t311 t312 t314 t315 t316 t318 t319 t320 t323 t324 s0 s1 s2 x0 x1 x2 x3 x4 x5 x6 x7 x8 x9 x10 x11 x12 x13 x14 x15 x16 x17 x18 x19 x20 x21 x22 x23 x24=>
 ((ao_ n (af_.mk c0 c1 c2) 6).bind fun A4=>(cond (decide (i<A4.1)) ((cD_ n A4.2 2).bind fun A5=>(as_.tail10 n (fun B7 B8 B9 B10 B11 B12 B13 B14 B15 B16 B17 B18 B19 B20 B21 B22 B23 B24 B25 B26 B27 B28 B29 B30 B31 B32 B33 B34 B35 B36 B37 B38 B39 B40 B41 B42 B43 B44 B45 B46 B47 B48 B49 B50 B51 B52 B53 B54 B55 B56=>((aD_ n (af_.mk B8 B9 B10) (ax_.mk (a1_.mk B29) B30 B31)).bind fun A57=>((bF_ n (ax_.mk (a1_.mk B29) B30 B31) A57.1).bind fun A58=>(cond A58.2.2 ((d2_ n (cw_.mk (bq_.mk (ay_.mk B32 B33 B34 B35 B36 B37 B38 B39 B40) B41 B42) B43 (bq_.mk (ay_.mk B44 B45 B46 B47 B48 B49 B50 B51 B52) B53 B54) B55 B56) A58.2.1).bind fun A59=>(back (W (B7+1)) A57.2.b A57.2.i A57.2.h B11 B12 B13 B14 B15 B16 B17 B18 B19 B20 B21 B22 B23 B24 B25 B26 B27 B28 A58.1.schema.cols A58.1.version A58.1.tables A59.view.q.table A59.view.q.where_ A59.view.q.order A59.view.q.down A59.view.q.first A59.view.q.show_ A59.view.q.kids A59.view.q.kidTable A59.view.q.kidCol A59.view.rows A59.view.kids A59.version A59.last.q.table A59.last.q.where_ A59.last.q.order A59.last.q.down A59.last.q.first A59.last.q.show_ A59.last.q.kids A59.last.q.kidTable A59.last.q.kidCol A59.last.rows A59.last.kids A59.lastVersion A59.began)) (back (W (B7+1)) A57.2.b A57.2.i A57.2.h B11 B12 B13 B14 B15 B16 B17 B18 B19 B20 B21 B22 B23 B24 B25 B26 B27 B28 B29 B30 B31 B32 B33 B34 B35 B36 B37 B38 B39 B40 B41 B42 B43 B44 B45 B46 B47 B48 B49 B50 B51 B52 B53 B54 B55 B56))))) i A5.1 A5.2.b A5.2.i A5.2.h t21 t30 t32 t33 t34 t36 t37 t38 t311 t312 t314 t315 t316 t318 t319 t320 t323 t324 s0 s1 s2 x0 x1 x2 x3 x4 x5 x6 x7 x8 x9 x10 x11 x12 x13 x14 x15 x16 x17 x18 x19 x20 x21 x22 x23 x24)) (k0 A4.2.b A4.2.i A4.2.h t21 t30 t32 t33 t34 t36 t37 t38 t311 t312 t314 t315 t316 t318 t319 t320 t323 t324 s0 s1 s2 x0 x1 x2 x3 x4 x5 x6 x7 x8 x9 x10 x11 x12 x13 x14 x15 x16 x17 x18 x19 x20 x21 x22 x23 x24)))
def as_.loop5 (n:Nat) (k0:as_.K5) (N:Nat):as_.T5:=cv_ (fun _ _ _ _ _ _ _ _ _ _ _ _ _ _ _ _ _ _ _ _ _ _ _ _ _ _ _ _ _ _ _ _ _ _ _ _ _ _ _ _ _ _ _ _ _ _ _ _ _ _=>none) (as_.step5 n k0) N
def as_.tail1 (n:Nat) (c0:List Int) (c1 c2 t21 t30 t32:Int) (t33:Bool) (t34:Int) (t36:Bool) (t37 t38 t311 t312 t314:Int) (t315:Bool) (t316:Int) (t318:Bool) (t319 t320 t323:Int) (t324:Bool) (s0:List Int) (s1:Int) (s2:List (List TRow)):Option (ax_ × cw_ × af_) :=
 ((aj_ n (af_.mk c0 c1 c2) (a1_.mk s0)).bind fun A2=>((eg_ n (ax_.mk (a1_.mk s0) s1 s2) A2.1).bind fun A3=>(as_.loop5 n (fun B60 B61 B62 B63 B64 B65 B66 B67 B68 B69 B70 B71 B72 B73 B74 B75 B76 B77 B78 B79 B80 B81 B82 B83 B84 B85 B86 B87 B88 B89 B90 B91 B92 B93 B94 B95 B96 B97 B98 B99 B100 B101 B102 B103 B104 B105 B106 B107 B108=>(some ((ax_.mk (a1_.mk B81) B82 B83),(cw_.mk (bq_.mk (ay_.mk B84 B85 B86 B87 B88 B89 B90 B91 B92) B93 B94) B95 (bq_.mk (ay_.mk B96 B97 B98 B99 B100 B101 B102 B103 B104) B105 B106) B107 B108),(af_.mk B60 B61 B62)))) n 0 A2.2.b A2.2.i A2.2.h t21 t30 t32 t33 t34 t36 t37 t38 t311 t312 t314 t315 t316 t318 t319 t320 t323 t324 s0 s1 s2 A3.1.view.q.table A3.1.view.q.where_ A3.1.view.q.order A3.1.view.q.down A3.1.view.q.first A3.1.view.q.show_ A3.1.view.q.kids A3.1.view.q.kidTable A3.1.view.q.kidCol A3.1.view.rows A3.1.view.kids A3.1.version A3.1.last.q.table A3.1.last.q.where_ A3.1.last.q.order A3.1.last.q.down A3.1.last.q.first A3.1.last.q.show_ A3.1.last.q.kids A3.1.last.q.kidTable A3.1.last.q.kidCol A3.1.last.rows A3.1.last.kids A3.1.lastVersion A3.1.began)))
def as_:Nat->af_->Option (ax_ × cw_ × af_)
 |0,_=>none
 |n+1,c=>
  ((aQ_ n c).bind fun A1=>(as_.tail1 n A1.2.b A1.2.i A1.2.h 0 0 0 false 0 false 0 0 0 0 0 false 0 false 0 0 0 false A1.1.schema.cols A1.1.version A1.1.tables))
def c7_:Nat->af_->Option (aC_ × af_)
 |0,_=>none
 |n+1,c=>
  ((cD_ n c 3).bind fun A1=>(cond A1.1 ((ao_ n A1.2 9).bind fun A2=>((ac_ n A2.2 4).bind fun A3=>(some ((aC_.mk 1 A2.1 0 (aa_.re A3.1) ([]:List TOp)),A3.2)))) ((as_ n A1.2).bind fun A4=>((dj_ n A4.2.1).bind fun A5=>(cond (!A5.2.2) (some ((aC_.mk 1 3 0 (aa_.mk 0 0 [] [] []) ([]:List TOp)),A4.2.2)) (some ({ A5.2.1 with doc:=(aa_.re A5.2.1.doc) },A4.2.2)))))))
abbrev bR_.K4:Type:=(List TOp)->Int->Int->Bs->Int->Int->Bs->(List aa_)->Option (aa_ × Bool)
abbrev bR_.T4:Type:=(List TOp)->Int->Int->Int->Bs->Int->Int->Bs->(List aa_)->Option (aa_ × Bool)
def bR_.step4 (n:Nat) (k0:bR_.K4) (back:bR_.T4):bR_.T4:=fun list i t20 t21 t22 j0 j1 j2 j3=>
 (cond (decide (i<(list.length:Int))) (inB i list.length ((d3_ n { (list.getD i.toNat TOp.dflt) with value:=(aa_.re ((list.getD i.toNat TOp.dflt).value)) }).bind fun A1=>(cond (A1.kind == 0) (some ((aa_.mk j0 j1 j2 j3 ([]:List Bs)),false)) (bk_ (j3.length+([(aa_.re A1)]:List aa_).length) 80 (back list (W (i+1)) t20 t21 t22 j0 j1 j2 (j3++([(aa_.re A1)]:List aa_))))))) (k0 list t20 t21 t22 j0 j1 j2 j3))
def bR_.loop4 (n:Nat) (k0:bR_.K4) (N:Nat):bR_.T4:=cv_ (fun _ _ _ _ _ _ _ _ _=>none) (bR_.step4 n k0) N
def bR_:Nat->(List TOp)->Option (aa_ × Bool)
 |0,_=>none
 |n+1,list=>
  (bR_.loop4 n (fun B2 B3 B4 B5 B6 B7 B8 B9=>(cond (decide ((B2.length:Int)<=40)) ((c3_ n (aa_.mk B6 B7 B8 B9 [])).bind fun A10=>(some ((aa_.mk B6 B7 B8 B9 ([]:List Bs)),(!(A10 == []))))) (some ((aa_.mk B6 B7 B8 B9 ([]:List Bs)),false)))) n list 0 0 0 [] 4 0 [] ([]:List aa_))
def ei_:Nat->aC_->Option Bool
 |0,_=>none
 |n+1,e=>
  ((cb_ n e.version 0 100000).bind fun A1=>(cond (!A1) (some false) (cond (e.kind == 1) (cond (e.base == 0) (cond ((e.ops.length:Int) == 0) ((c3_ n (aa_.re e.doc)).bind fun A2=>(some (!(A2 == [])))) (some false)) (some false)) (cond (e.kind == 2) ((bR_ n e.ops).bind fun A3=>(cond A3.2 ((cb_ n e.base 0 (W (e.version - 1))).bind fun A4=>(cond A4 ((aq_ n (aa_.re e.doc) (aa_.mk 0 0 [] [] [])).bind fun A5=>(some A5)) (some false))) (some false))) (some false)))))
def de_:Nat->aC_->Option Bs
 |0,_=>none
 |n+1,e=>
  ((ei_ n { e with doc:=(aa_.re e.doc) }).bind fun A1=>(cond (!A1) (some []) ((aV_ n e.version).bind fun A2=>(cond (decide ([105,100,58,32].length+A2.length<=9223372036854775807)) (cond (decide ((([105,100,58,32]:Bs)++A2).length+[10].length<=9223372036854775807)) (cond (e.kind == 1) (cond (decide ([101,118,101,110,116,58,32,115,110,97,112,10].length+((([105,100,58,32]:Bs)++A2)++[10]).length<=9223372036854775807)) (let C3:Bs:=(([101,118,101,110,116,58,32,115,110,97,112,10]:Bs)++((([105,100,58,32]:Bs)++A2)++[10]));(cond (decide (C3.length+[100,97,116,97,58,32].length<=9223372036854775807)) ((c3_ n (aa_.re e.doc)).bind fun A4=>(cond (decide ((C3++[100,97,116,97,58,32]).length+A4.length<=9223372036854775807)) (cond (decide (((C3++[100,97,116,97,58,32])++A4).length+[10,10].length<=9223372036854775807)) (some (((C3++[100,97,116,97,58,32])++A4)++[10,10])) none) none)) none)) none) ((bR_ n e.ops).bind fun A5=>(cond (decide ([101,118,101,110,116,58,32,112,97,116,99,104,10].length+((([105,100,58,32]:Bs)++A2)++[10]).length<=9223372036854775807)) (let C6:Bs:=(([101,118,101,110,116,58,32,112,97,116,99,104,10]:Bs)++((([105,100,58,32]:Bs)++A2)++[10]));(cond (decide (C6.length+[98,97,115,101,58,32].length<=9223372036854775807)) ((aV_ n e.base).bind fun A7=>(cond (decide ((C6++[98,97,115,101,58,32]).length+A7.length<=9223372036854775807)) (cond (decide (((C6++[98,97,115,101,58,32])++A7).length+[10,100,97,116,97,58,32].length<=9223372036854775807)) (let C8:Bs:=(((C6++[98,97,115,101,58,32])++A7)++[10,100,97,116,97,58,32]);((c3_ n (aa_.re A5.1)).bind fun A9=>(cond (decide (C8.length+A9.length<=9223372036854775807)) (cond (decide ((C8++A9).length+[10,10].length<=9223372036854775807)) (some ((C8++A9)++[10,10])) none) none))) none) none)) none)) none))) none) none))))
abbrev aT_.K4:Type:=Bs->(List Int)->Int->Int->Option (Bs × af_)
abbrev aT_.T4:Type:=Bs->Int->(List Int)->Int->Int->Option (Bs × af_)
def aT_.step4 (n:Nat) (k0:aT_.K4) (back:aT_.T4):aT_.T4:=fun out_1 i c0 c1 c2=>
 ((ao_ n (af_.mk c0 c1 c2) 4).bind fun A1=>(cond (decide (i<A1.1)) ((c7_ n A1.2).bind fun A2=>((de_ n { A2.1 with doc:=(aa_.re A2.1.doc) }).bind fun A3=>(cond (decide (out_1.length+A3.length<=9223372036854775807)) (back (out_1++A3) (W (i+1)) A2.2.b A2.2.i A2.2.h) none))) (k0 out_1 A1.2.b A1.2.i A1.2.h)))
def aT_.loop4 (n:Nat) (k0:aT_.K4) (N:Nat):aT_.T4:=cv_ (fun _ _ _ _ _=>none) (aT_.step4 n k0) N
def aT_:Nat->af_->Option (Bs × af_)
 |0,_=>none
 |n+1,c=>
  (aT_.loop4 n (fun B4 B5 B6 B7=>(some (B4,(af_.mk B5 B6 B7)))) n [] 0 c.b c.i c.h)
abbrev bu_.K11:Type:=Bs->Bs->Bool->Bs->Bool->Option (aw_ × Bs)
abbrev bu_.T11:Type:=Bs->Bs->Bool->(List Int)->Int->Int->Bs->Bool->Option (aw_ × Bs)
def bu_.step11 (n:Nat) (k1:bu_.K11) (back:bu_.T11):bu_.T11:=fun text t20 t21 c0 c1 c2 s0 s1=>
 (cond (decide ((text.length:Int)<9000)) ((cD_ n (af_.mk c0 c1 c2) 3).bind fun A6=>(cond A6.1 (cond (decide (text.length+[48,49,50,51,52,53,54,55,56,57,48,49,50,51,52,53,54,55,56,57,48,49,50,51,52,53,54,55,56,57,48,49,50,51,52,53,54,55,56,57,48,49,50,51,52,53,54,55,56,57,48,49,50,51,52,53,54,55,56,57,48,49,50,51,52,53,54,55,56,57,48,49,50,51,52,53,54,55,56,57,48,49,50,51,52,53,54,55,56,57,48,49,50,51,52,53,54,55,56,57,48,49,50,51,52,53,54,55,56,57,48,49,50,51,52,53,54,55,56,57,48,49,50,51,52,53,54,55,56,57].length<=9223372036854775807)) (let C7:Bs:=(text++[48,49,50,51,52,53,54,55,56,57,48,49,50,51,52,53,54,55,56,57,48,49,50,51,52,53,54,55,56,57,48,49,50,51,52,53,54,55,56,57,48,49,50,51,52,53,54,55,56,57,48,49,50,51,52,53,54,55,56,57,48,49,50,51,52,53,54,55,56,57,48,49,50,51,52,53,54,55,56,57,48,49,50,51,52,53,54,55,56,57,48,49,50,51,52,53,54,55,56,57,48,49,50,51,52,53,54,55,56,57,48,49,50,51,52,53,54,55,56,57,48,49,50,51,52,53,54,55,56,57]);(cond (decide (C7.length+C7.length<=9223372036854775807)) (back (C7++C7) t20 t21 A6.2.b A6.2.i A6.2.h s0 s1) none)) none) (k1 text t20 t21 s0 s1))) (k1 text t20 t21 s0 s1))
def bu_.loop11 (n:Nat) (k1:bu_.K11) (N:Nat):bu_.T11:=cv_ (fun _ _ _ _ _ _ _ _=>none) (bu_.step11 n k1) N
def bu_:Nat->(List Int)->Option (aw_ × Bs)
 |0,_=>none
 |n+1,eQ_=>
  ((cd_ n eQ_).bind fun A1=>((aT_ n A1).bind fun A2=>((ao_ n A2.2 (W ((A2.1.length:Int)+1))).bind fun A3=>(f6_ 0 A3.1 A2.1.length (f6_ A3.1 (A2.1.length:Int) A2.1.length ((ao_ n A3.2 12).bind fun A4=>(cond (A4.1 == 0) (some ((aw_.mk ((A2.1.take A3.1.toNat).drop 0) true),((A2.1.take (A2.1.length:Int).toNat).drop A3.1.toNat))) (cond (A4.1 == 1) ((dL_ n A4.2 ([[120,10,10],[10,10],[101,118,101,110,116,58,32,115,110,97,112,10]]:List Bs)).bind fun A5=>(cond (decide (((A2.1.take (A2.1.length:Int).toNat).drop A3.1.toNat).length+A5.1.length<=9223372036854775807)) (some ((aw_.mk ((A2.1.take A3.1.toNat).drop 0) false),(((A2.1.take (A2.1.length:Int).toNat).drop A3.1.toNat)++A5.1))) none)) (cond (A4.1 == 2) (bu_.loop11 n (fun B8 B9 B10 B11 B12=>(some ((aw_.mk B11 B12),B8))) n ((A2.1.take (A2.1.length:Int).toNat).drop A3.1.toNat) [] false A4.2.b A4.2.i A4.2.h ((A2.1.take A3.1.toNat).drop 0) false) (some ((aw_.mk ((A2.1.take A3.1.toNat).drop 0) false),((A2.1.take (A2.1.length:Int).toNat).drop A3.1.toNat))))))))))))
def c5_:Nat->(List Int)->Option (aw_ × (List Bs))
 |0,_=>none
 |n+1,eQ_=>
  ((bu_ n eQ_).bind fun A1=>((cd_ n eQ_).bind fun A2=>((aJ_ n A2).bind fun A3=>((bZ_ n A1.2 A3.1).bind fun A4=>(some (A1.1,A4))))))
def strings_Index:Nat->Bs->Bs->Option Int
 |0,_,_=>none
 |_+1,s,a=>oG_ s a
def bn_:Nat->Bs->Bs->Option Bool
 |0,_,_=>none
 |n+1,s,prefix1=>
  (cond (decide ((s.length:Int)>=(prefix1.length:Int))) (f6_ 0 (prefix1.length:Int) s.length (some (((s.take (prefix1.length:Int).toNat).drop 0) == prefix1))) (some false))
def bV_:Nat->Bs->Bs->Option (Bs × Bool)
 |0,_,_=>none
 |n+1,s,prefix1=>
  ((bn_ n s prefix1).bind fun A1=>(cond (!A1) (some (s,false)) (f6_ (prefix1.length:Int) (s.length:Int) s.length (some (((s.take (s.length:Int).toNat).drop (prefix1.length:Int).toNat),true)))))
def cS_:Nat->Bs->Bs->Option (Bs × Bool)
 |0,_,_=>none
 |n+1,s,prefix1=>
  ((bV_ n s prefix1).bind fun A1=>(some (A1.1,A1.2)))
def ce_:Nat->Bs->Bs->Option Int
 |0,_,_=>none
 |_+1,s,a=>r7_ s a
def cr_:Nat->Bs->Bs->Option (Bs × Bs × Bool)
 |0,_,_=>none
 |n+1,s,sep=>
  ((ce_ n s sep).bind fun A1=>(cond (decide (A1>=0)) (f6_ 0 A1 s.length (f6_ (W (A1+(sep.length:Int))) (s.length:Int) s.length (let C2:Bs:=((s.take (s.length:Int).toNat).drop (W (A1+(sep.length:Int))).toNat);(some (((s.take A1.toNat).drop 0),C2,true))))) (some (s,[],false))))
def eB_:Nat->Bs->Bs->Option (Bs × Bs × Bool)
 |0,_,_=>none
 |n+1,s,sep=>
  ((cr_ n s sep).bind fun A1=>(some (A1.1,A1.2.1,A1.2.2)))
def bL_:Nat->Bs->Bs->Option Bs
 |0,_,_=>none
 |n+1,s,prefix1=>
  ((bn_ n s prefix1).bind fun A1=>(cond A1 (f6_ (prefix1.length:Int) (s.length:Int) s.length (some ((s.take (s.length:Int).toNat).drop (prefix1.length:Int).toNat))) (some s)))
def cN_:Nat->Bs->Bs->Option Bs
 |0,_,_=>none
 |n+1,s,prefix1=>
  ((bL_ n s prefix1).bind fun A1=>(some A1))
def dv_:Nat->Bs->Bs->Option (Bs × Bs)
 |0,_,_=>none
 |n+1,text,word=>
  ((eB_ n text [10]).bind fun A1=>((cN_ n A1.1 word).bind fun A2=>(some (A2,A1.2.1))))
def cV_:Nat->Bs->Option (Int × Bool)
 |0,_=>none
 |_+1,s=>nAtoi s
def bx_:Nat->aP_->Bs->Option (Bool × aP_)
 |0,_,_=>none
 |n+1,r,text=>
  ((cS_ n r.text text).bind fun A1=>(cond A1.2 (some ((!r.bad),(aP_.mk A1.1 r.bad))) (some (false,(aP_.mk A1.1 r.bad)))))
def c6_:Nat->Bs->Bs->Option Bool
 |0,_,_=>none
 |n+1,s,prefix1=>
  ((bn_ n s prefix1).bind fun A1=>(some A1))
def ct_:Nat->aP_->Bs->Option aP_
 |0,_,_=>none
 |n+1,r,text=>
  ((bx_ n r text).bind fun A1=>(cond (!A1.1) (some (aP_.mk A1.2.text true)) (some A1.2)))
abbrev av_.K4:Type:=Bs->Bool->Option (Bs × aP_)
abbrev av_.T4:Type:=Bs->Bool->(List Int)->Option (Bs × aP_)
def av_.step4 (n:Nat) (k0:av_.K4) (back:av_.T4):av_.T4:=fun r0 r1 out_1=>
 (cond (!r1) ((bx_ n (aP_.mk r0 r1) [34]).bind fun A2=>(cond A2.1 (some ((hS_ out_1),A2.2)) ((bx_ n A2.2 [92]).bind fun A3=>(cond (A3.2.text == []) (k0 A3.2.text true) (inB 0 A3.2.text.length (bk_ (out_1.length+([((A3.2.text.getD 0 0).toNat:Int)]:List Int).length) 1 (f6_ 1 (A3.2.text.length:Int) A3.2.text.length (back ((A3.2.text.take (A3.2.text.length:Int).toNat).drop 1) A3.2.bad (out_1++([((A3.2.text.getD 0 0).toNat:Int)]:List Int)))))))))) (k0 r0 r1))
def av_.loop4 (n:Nat) (k0:av_.K4) (N:Nat):av_.T4:=cv_ (fun _ _ _=>none) (av_.step4 n k0) N
def av_:Nat->aP_->Option (Bs × aP_)
 |0,_=>none
 |n+1,r=>
  ((ct_ n r [34]).bind fun A1=>(av_.loop4 n (fun B4 B5=>(some ([],(aP_.mk B4 B5)))) n A1.text A1.bad ([]:List Int)))
def aN_:Nat->Int->Int->Int->Option Bool
 |0,_,_,_=>none
 |n+1,n1,low,high=>
  (cond (decide (n1>=low)) (some (decide (n1<=high))) (some false))
abbrev ap_.K3:Type:=Int->Bs->Bool->Int->Int->Bs->Option (aa_ × aP_)
abbrev ap_.T3:Type:=Int->Bs->Bool->Int->Int->Bs->Option (aa_ × aP_)
def ap_.step3 (n:Nat) (k0:ap_.K3) (back:ap_.T3):ap_.T3:=fun n_1 r0 r1 t20 t21 t22=>
 (cond (decide (n_1<(r0.length:Int))) (inB n_1 r0.length ((aN_ n (W (((r0.getD n_1.toNat 0).toNat:Int))) 48 57).bind fun A1=>(cond A1 (back (W (n_1+1)) r0 r1 t20 t21 t22) (cond (n_1 == 0) (inB 0 r0.length (cond (((r0.getD 0 0).toNat:Int) == 45) (back (W (n_1+1)) r0 r1 t20 t21 t22) (k0 n_1 r0 r1 t20 t21 t22))) (k0 n_1 r0 r1 t20 t21 t22))))) (k0 n_1 r0 r1 t20 t21 t22))
def ap_.loop3 (n:Nat) (k0:ap_.K3) (N:Nat):ap_.T3:=cv_ (fun _ _ _ _ _ _=>none) (ap_.step3 n k0) N
def ap_:Nat->aP_->Option (aa_ × aP_)
 |0,_=>none
 |n+1,r=>
  (ap_.loop3 n (fun B2 B3 B4 B5 B6 B7=>(f6_ 0 B2 B3.length ((cV_ n ((B3.take B2.toNat).drop 0)).bind fun A8=>(cond (!A8.2) (f6_ B2 (B3.length:Int) B3.length (some ((aa_.mk 2 A8.1 [] ([]:List aa_) ([]:List Bs)),(aP_.mk ((B3.take (B3.length:Int).toNat).drop B2.toNat) true)))) (f6_ B2 (B3.length:Int) B3.length (some ((aa_.mk 2 A8.1 [] ([]:List aa_) ([]:List Bs)),(aP_.mk ((B3.take (B3.length:Int).toNat).drop B2.toNat) B4)))))))) n 0 r.text r.bad 0 0 [])
abbrev an_.K7_1:Type:=Bs->Bs->Bool->Int->Int->Bs->Int->Int->Bs->(List aa_)->(List Bs)->Option (aa_ × aP_)
abbrev an_.T7:Type:=Int->Bs->Int->Bool->Bs->Bool->Int->Int->Bs->Int->Int->Bs->(List aa_)->(List Bs)->Option (aa_ × aP_)
def an_.step7 (n:Nat) (impl_reader_value_:aP_->Int->Option (aa_ × aP_)) (k0:an_.K7_1) (back:an_.T7):an_.T7:=fun kind end_1 deep more r0 r1 t80 t81 t82 j0 j1 j2 j3 j4=>
 (cond more (cond (!r1) (cond (kind == 5) ((av_ n (aP_.mk r0 r1)).bind fun A2=>((ct_ n A2.2 [58]).bind fun A3=>(bk_ (j4.length+([A2.1]:List Bs).length) 16 ((impl_reader_value_ A3 (W (deep - 1))).bind fun A4=>(bk_ (j3.length+([(aa_.re A4.1)]:List aa_).length) 80 ((bx_ n A4.2 [44]).bind fun A5=>(back kind end_1 deep A5.1 A5.2.text A5.2.bad t80 t81 t82 j0 j1 j2 (j3++([(aa_.re A4.1)]:List aa_)) (j4++([A2.1]:List Bs))))))))) ((impl_reader_value_ (aP_.mk r0 r1) (W (deep - 1))).bind fun A6=>(bk_ (j3.length+([(aa_.re A6.1)]:List aa_).length) 80 ((bx_ n A6.2 [44]).bind fun A7=>(back kind end_1 deep A7.1 A7.2.text A7.2.bad t80 t81 t82 j0 j1 j2 (j3++([(aa_.re A6.1)]:List aa_)) j4))))) (k0 end_1 r0 r1 t80 t81 t82 j0 j1 j2 j3 j4)) (k0 end_1 r0 r1 t80 t81 t82 j0 j1 j2 j3 j4))
def an_.loop7 (n:Nat) (impl_reader_value_:aP_->Int->Option (aa_ × aP_)) (k0:an_.K7_1) (N:Nat):an_.T7:=cv_ (fun _ _ _ _ _ _ _ _ _ _ _ _ _ _=>none) (an_.step7 n impl_reader_value_ k0) N
mutual
def a2_:Nat->aP_->Int->Option (aa_ × aP_)
 |0,_,_=>none
 |n+1,r,deep=>
  (cond (decide (deep<1)) (some ((aa_.mk 0 0 [] ([]:List aa_) ([]:List Bs)),(aP_.mk r.text true))) (cond r.bad (some ((aa_.mk 0 0 [] ([]:List aa_) ([]:List Bs)),(aP_.mk r.text true))) ((bx_ n r [110,117,108,108]).bind fun A1=>(cond A1.1 (some ((aa_.mk 0 0 [] ([]:List aa_) ([]:List Bs)),A1.2)) ((bx_ n A1.2 [102,97,108,115,101]).bind fun A2=>(cond A2.1 (some ((aa_.mk 1 0 [] ([]:List aa_) ([]:List Bs)),A2.2)) ((bx_ n A2.2 [116,114,117,101]).bind fun A3=>(cond A3.1 (some ((aa_.mk 1 1 [] ([]:List aa_) ([]:List Bs)),A3.2)) ((c6_ n A3.2.text [34]).bind fun A4=>(cond A4 ((av_ n A3.2).bind fun A5=>(some ((aa_.mk 3 0 A5.1 ([]:List aa_) ([]:List Bs)),A5.2))) ((bx_ n A3.2 [91]).bind fun A6=>(cond A6.1 ((an_ n A6.2 4 [93] deep).bind fun A7=>(some ((aa_.re A7.1),A7.2))) ((bx_ n A6.2 [123]).bind fun A8=>(cond A8.1 ((an_ n A8.2 5 [125] deep).bind fun A9=>(some ((aa_.re A9.1),A9.2))) ((ap_ n A8.2).bind fun A10=>(some ((aa_.re A10.1),A10.2)))))))))))))))))
def an_:Nat->aP_->Int->Bs->Int->Option (aa_ × aP_)
 |0,_,_,_,_=>none
 |n+1,r,kind,end1,deep=>
  ((bx_ n r end1).bind fun A1=>(cond A1.1 (some ((aa_.mk kind 0 [] ([]:List aa_) ([]:List Bs)),A1.2)) (an_.loop7 n (a2_ n) (fun B8 B9 B10 B11 B12 B13 B14 B15 B16 B17 B18=>((ct_ n (aP_.mk B9 B10) B8).bind fun A19=>(some ((aa_.mk B14 B15 B16 B17 B18),A19)))) n kind end1 deep true A1.2.text A1.2.bad 0 0 [] kind 0 [] ([]:List aa_) ([]:List Bs))))
end
def bp_:Nat->Int->Option Bool
 |0,_=>none
 |n+1,n1=>
  ((aN_ n n1 (-1000000000) 1000000000).bind fun A1=>(some A1))
abbrev aA_.T3:Type:=Bs->Int->Int->Option Bool
def aA_.step3 (n:Nat) (k0:Bs->Option Bool) (back:aA_.T3):aA_.T3:=fun s t5 t6=>
 (cond (decide (t6<t5)) (inB t6 s.length ((aN_ n (W (((s.getD t6.toNat 0).toNat:Int))) 32 126).bind fun A1=>(cond (!A1) (some false) (back s t5 (W (t6+1)))))) (k0 s))
def aA_.loop3 (n:Nat) (k0:Bs->Option Bool) (N:Nat):aA_.T3:=cv_ (fun _ _ _=>none) (aA_.step3 n k0) N
def aA_:Nat->Bs->Option Bool
 |0,_=>none
 |n+1,s=>
  (aA_.loop3 n (fun B2=>(some (decide ((B2.length:Int)<=60)))) n s (s.length:Int) 0)
abbrev au_.T3:Type:=(List Bs)->(List Bs)->Int->Int->Option Bool
def au_.step3 (n:Nat) (k0:Option Bool) (back:au_.T3):au_.T3:=fun names t5 t6 t7=>
 (cond (decide (t7<t6)) (inB t7 t5.length ((aA_ n (t5.getD t7.toNat [])).bind fun A1=>(cond (!A1) (some false) (cond (decide (t7 > 0)) (inB (W (t7 - 1)) names.length (let C2:Bool:=(!Op.bytesLess (names.getD (W (t7 - 1)).toNat []) (t5.getD t7.toNat []));(cond C2 (some false) (back names t5 t6 (W (t7+1)))))) (back names t5 t6 (W (t7+1))))))) k0)
def au_.loop3 (n:Nat) (k0:Option Bool) (N:Nat):au_.T3:=cv_ (fun _ _ _ _=>none) (au_.step3 n k0) N
def au_:Nat->(List Bs)->Option Bool
 |0,_=>none
 |n+1,names=>
  (au_.loop3 n (some true) n names names (names.length:Int) 0)
def e0_:Nat->aa_->Option Bool
 |0,_=>none
 |n+1,o=>
  (cond (decide ((o.list.length:Int) > 0)) (cond (o.kind != 4) (cond (o.kind != 5) (some false) (cond (decide ((o.names.length:Int) > 0)) (cond (o.kind != 5) (some false) (cond (o.n_ != 0) (cond (o.kind != 1) (cond (o.kind != 2) (some false) (cond (!(o.s == [])) (cond (o.kind != 3) (some false) (cond (o.kind == 1) ((aN_ n o.n_ 0 1).bind fun A1=>(some A1)) (cond (o.kind == 2) ((bp_ n o.n_).bind fun A2=>(some A2)) (cond (o.kind == 3) ((aA_ n o.s).bind fun A3=>(some A3)) (cond (o.kind == 5) (cond ((o.names.length:Int) == (o.list.length:Int)) ((au_ n o.names).bind fun A4=>(some A4)) (some false)) (cond (o.kind == 0) (some true) (some (o.kind == 4)))))))) (cond (o.kind == 1) ((aN_ n o.n_ 0 1).bind fun A5=>(some A5)) (cond (o.kind == 2) ((bp_ n o.n_).bind fun A6=>(some A6)) (cond (o.kind == 3) ((aA_ n o.s).bind fun A7=>(some A7)) (cond (o.kind == 5) (cond ((o.names.length:Int) == (o.list.length:Int)) ((au_ n o.names).bind fun A8=>(some A8)) (some false)) (cond (o.kind == 0) (some true) (some (o.kind == 4))))))))) (cond (!(o.s == [])) (cond (o.kind != 3) (some false) (cond (o.kind == 1) ((aN_ n o.n_ 0 1).bind fun A9=>(some A9)) (cond (o.kind == 2) ((bp_ n o.n_).bind fun A10=>(some A10)) (cond (o.kind == 3) ((aA_ n o.s).bind fun A11=>(some A11)) (cond (o.kind == 5) (cond ((o.names.length:Int) == (o.list.length:Int)) ((au_ n o.names).bind fun A12=>(some A12)) (some false)) (cond (o.kind == 0) (some true) (some (o.kind == 4)))))))) (cond (o.kind == 1) ((aN_ n o.n_ 0 1).bind fun A13=>(some A13)) (cond (o.kind == 2) ((bp_ n o.n_).bind fun A14=>(some A14)) (cond (o.kind == 3) ((aA_ n o.s).bind fun A15=>(some A15)) (cond (o.kind == 5) (cond ((o.names.length:Int) == (o.list.length:Int)) ((au_ n o.names).bind fun A16=>(some A16)) (some false)) (cond (o.kind == 0) (some true) (some (o.kind == 4))))))))) (cond (!(o.s == [])) (cond (o.kind != 3) (some false) (cond (o.kind == 1) ((aN_ n o.n_ 0 1).bind fun A17=>(some A17)) (cond (o.kind == 2) ((bp_ n o.n_).bind fun A18=>(some A18)) (cond (o.kind == 3) ((aA_ n o.s).bind fun A19=>(some A19)) (cond (o.kind == 5) (cond ((o.names.length:Int) == (o.list.length:Int)) ((au_ n o.names).bind fun A20=>(some A20)) (some false)) (cond (o.kind == 0) (some true) (some (o.kind == 4)))))))) (cond (o.kind == 1) ((aN_ n o.n_ 0 1).bind fun A21=>(some A21)) (cond (o.kind == 2) ((bp_ n o.n_).bind fun A22=>(some A22)) (cond (o.kind == 3) ((aA_ n o.s).bind fun A23=>(some A23)) (cond (o.kind == 5) (cond ((o.names.length:Int) == (o.list.length:Int)) ((au_ n o.names).bind fun A24=>(some A24)) (some false)) (cond (o.kind == 0) (some true) (some (o.kind == 4)))))))))) (cond (o.n_ != 0) (cond (o.kind != 1) (cond (o.kind != 2) (some false) (cond (!(o.s == [])) (cond (o.kind != 3) (some false) (cond (o.kind == 1) ((aN_ n o.n_ 0 1).bind fun A25=>(some A25)) (cond (o.kind == 2) ((bp_ n o.n_).bind fun A26=>(some A26)) (cond (o.kind == 3) ((aA_ n o.s).bind fun A27=>(some A27)) (cond (o.kind == 5) (cond ((o.names.length:Int) == (o.list.length:Int)) ((au_ n o.names).bind fun A28=>(some A28)) (some false)) (cond (o.kind == 0) (some true) (some (o.kind == 4)))))))) (cond (o.kind == 1) ((aN_ n o.n_ 0 1).bind fun A29=>(some A29)) (cond (o.kind == 2) ((bp_ n o.n_).bind fun A30=>(some A30)) (cond (o.kind == 3) ((aA_ n o.s).bind fun A31=>(some A31)) (cond (o.kind == 5) (cond ((o.names.length:Int) == (o.list.length:Int)) ((au_ n o.names).bind fun A32=>(some A32)) (some false)) (cond (o.kind == 0) (some true) (some (o.kind == 4))))))))) (cond (!(o.s == [])) (cond (o.kind != 3) (some false) (cond (o.kind == 1) ((aN_ n o.n_ 0 1).bind fun A33=>(some A33)) (cond (o.kind == 2) ((bp_ n o.n_).bind fun A34=>(some A34)) (cond (o.kind == 3) ((aA_ n o.s).bind fun A35=>(some A35)) (cond (o.kind == 5) (cond ((o.names.length:Int) == (o.list.length:Int)) ((au_ n o.names).bind fun A36=>(some A36)) (some false)) (cond (o.kind == 0) (some true) (some (o.kind == 4)))))))) (cond (o.kind == 1) ((aN_ n o.n_ 0 1).bind fun A37=>(some A37)) (cond (o.kind == 2) ((bp_ n o.n_).bind fun A38=>(some A38)) (cond (o.kind == 3) ((aA_ n o.s).bind fun A39=>(some A39)) (cond (o.kind == 5) (cond ((o.names.length:Int) == (o.list.length:Int)) ((au_ n o.names).bind fun A40=>(some A40)) (some false)) (cond (o.kind == 0) (some true) (some (o.kind == 4))))))))) (cond (!(o.s == [])) (cond (o.kind != 3) (some false) (cond (o.kind == 1) ((aN_ n o.n_ 0 1).bind fun A41=>(some A41)) (cond (o.kind == 2) ((bp_ n o.n_).bind fun A42=>(some A42)) (cond (o.kind == 3) ((aA_ n o.s).bind fun A43=>(some A43)) (cond (o.kind == 5) (cond ((o.names.length:Int) == (o.list.length:Int)) ((au_ n o.names).bind fun A44=>(some A44)) (some false)) (cond (o.kind == 0) (some true) (some (o.kind == 4)))))))) (cond (o.kind == 1) ((aN_ n o.n_ 0 1).bind fun A45=>(some A45)) (cond (o.kind == 2) ((bp_ n o.n_).bind fun A46=>(some A46)) (cond (o.kind == 3) ((aA_ n o.s).bind fun A47=>(some A47)) (cond (o.kind == 5) (cond ((o.names.length:Int) == (o.list.length:Int)) ((au_ n o.names).bind fun A48=>(some A48)) (some false)) (cond (o.kind == 0) (some true) (some (o.kind == 4))))))))))) (cond (decide ((o.names.length:Int) > 0)) (cond (o.kind != 5) (some false) (cond (o.n_ != 0) (cond (o.kind != 1) (cond (o.kind != 2) (some false) (cond (!(o.s == [])) (cond (o.kind != 3) (some false) (cond (o.kind == 1) ((aN_ n o.n_ 0 1).bind fun A49=>(some A49)) (cond (o.kind == 2) ((bp_ n o.n_).bind fun A50=>(some A50)) (cond (o.kind == 3) ((aA_ n o.s).bind fun A51=>(some A51)) (cond (o.kind == 5) (cond ((o.names.length:Int) == (o.list.length:Int)) ((au_ n o.names).bind fun A52=>(some A52)) (some false)) (cond (o.kind == 0) (some true) (some (o.kind == 4)))))))) (cond (o.kind == 1) ((aN_ n o.n_ 0 1).bind fun A53=>(some A53)) (cond (o.kind == 2) ((bp_ n o.n_).bind fun A54=>(some A54)) (cond (o.kind == 3) ((aA_ n o.s).bind fun A55=>(some A55)) (cond (o.kind == 5) (cond ((o.names.length:Int) == (o.list.length:Int)) ((au_ n o.names).bind fun A56=>(some A56)) (some false)) (cond (o.kind == 0) (some true) (some (o.kind == 4))))))))) (cond (!(o.s == [])) (cond (o.kind != 3) (some false) (cond (o.kind == 1) ((aN_ n o.n_ 0 1).bind fun A57=>(some A57)) (cond (o.kind == 2) ((bp_ n o.n_).bind fun A58=>(some A58)) (cond (o.kind == 3) ((aA_ n o.s).bind fun A59=>(some A59)) (cond (o.kind == 5) (cond ((o.names.length:Int) == (o.list.length:Int)) ((au_ n o.names).bind fun A60=>(some A60)) (some false)) (cond (o.kind == 0) (some true) (some (o.kind == 4)))))))) (cond (o.kind == 1) ((aN_ n o.n_ 0 1).bind fun A61=>(some A61)) (cond (o.kind == 2) ((bp_ n o.n_).bind fun A62=>(some A62)) (cond (o.kind == 3) ((aA_ n o.s).bind fun A63=>(some A63)) (cond (o.kind == 5) (cond ((o.names.length:Int) == (o.list.length:Int)) ((au_ n o.names).bind fun A64=>(some A64)) (some false)) (cond (o.kind == 0) (some true) (some (o.kind == 4))))))))) (cond (!(o.s == [])) (cond (o.kind != 3) (some false) (cond (o.kind == 1) ((aN_ n o.n_ 0 1).bind fun A65=>(some A65)) (cond (o.kind == 2) ((bp_ n o.n_).bind fun A66=>(some A66)) (cond (o.kind == 3) ((aA_ n o.s).bind fun A67=>(some A67)) (cond (o.kind == 5) (cond ((o.names.length:Int) == (o.list.length:Int)) ((au_ n o.names).bind fun A68=>(some A68)) (some false)) (cond (o.kind == 0) (some true) (some (o.kind == 4)))))))) (cond (o.kind == 1) ((aN_ n o.n_ 0 1).bind fun A69=>(some A69)) (cond (o.kind == 2) ((bp_ n o.n_).bind fun A70=>(some A70)) (cond (o.kind == 3) ((aA_ n o.s).bind fun A71=>(some A71)) (cond (o.kind == 5) (cond ((o.names.length:Int) == (o.list.length:Int)) ((au_ n o.names).bind fun A72=>(some A72)) (some false)) (cond (o.kind == 0) (some true) (some (o.kind == 4)))))))))) (cond (o.n_ != 0) (cond (o.kind != 1) (cond (o.kind != 2) (some false) (cond (!(o.s == [])) (cond (o.kind != 3) (some false) (cond (o.kind == 1) ((aN_ n o.n_ 0 1).bind fun A73=>(some A73)) (cond (o.kind == 2) ((bp_ n o.n_).bind fun A74=>(some A74)) (cond (o.kind == 3) ((aA_ n o.s).bind fun A75=>(some A75)) (cond (o.kind == 5) (cond ((o.names.length:Int) == (o.list.length:Int)) ((au_ n o.names).bind fun A76=>(some A76)) (some false)) (cond (o.kind == 0) (some true) (some (o.kind == 4)))))))) (cond (o.kind == 1) ((aN_ n o.n_ 0 1).bind fun A77=>(some A77)) (cond (o.kind == 2) ((bp_ n o.n_).bind fun A78=>(some A78)) (cond (o.kind == 3) ((aA_ n o.s).bind fun A79=>(some A79)) (cond (o.kind == 5) (cond ((o.names.length:Int) == (o.list.length:Int)) ((au_ n o.names).bind fun A80=>(some A80)) (some false)) (cond (o.kind == 0) (some true) (some (o.kind == 4))))))))) (cond (!(o.s == [])) (cond (o.kind != 3) (some false) (cond (o.kind == 1) ((aN_ n o.n_ 0 1).bind fun A81=>(some A81)) (cond (o.kind == 2) ((bp_ n o.n_).bind fun A82=>(some A82)) (cond (o.kind == 3) ((aA_ n o.s).bind fun A83=>(some A83)) (cond (o.kind == 5) (cond ((o.names.length:Int) == (o.list.length:Int)) ((au_ n o.names).bind fun A84=>(some A84)) (some false)) (cond (o.kind == 0) (some true) (some (o.kind == 4)))))))) (cond (o.kind == 1) ((aN_ n o.n_ 0 1).bind fun A85=>(some A85)) (cond (o.kind == 2) ((bp_ n o.n_).bind fun A86=>(some A86)) (cond (o.kind == 3) ((aA_ n o.s).bind fun A87=>(some A87)) (cond (o.kind == 5) (cond ((o.names.length:Int) == (o.list.length:Int)) ((au_ n o.names).bind fun A88=>(some A88)) (some false)) (cond (o.kind == 0) (some true) (some (o.kind == 4))))))))) (cond (!(o.s == [])) (cond (o.kind != 3) (some false) (cond (o.kind == 1) ((aN_ n o.n_ 0 1).bind fun A89=>(some A89)) (cond (o.kind == 2) ((bp_ n o.n_).bind fun A90=>(some A90)) (cond (o.kind == 3) ((aA_ n o.s).bind fun A91=>(some A91)) (cond (o.kind == 5) (cond ((o.names.length:Int) == (o.list.length:Int)) ((au_ n o.names).bind fun A92=>(some A92)) (some false)) (cond (o.kind == 0) (some true) (some (o.kind == 4)))))))) (cond (o.kind == 1) ((aN_ n o.n_ 0 1).bind fun A93=>(some A93)) (cond (o.kind == 2) ((bp_ n o.n_).bind fun A94=>(some A94)) (cond (o.kind == 3) ((aA_ n o.s).bind fun A95=>(some A95)) (cond (o.kind == 5) (cond ((o.names.length:Int) == (o.list.length:Int)) ((au_ n o.names).bind fun A96=>(some A96)) (some false)) (cond (o.kind == 0) (some true) (some (o.kind == 4))))))))))) (cond (decide ((o.names.length:Int) > 0)) (cond (o.kind != 5) (some false) (cond (o.n_ != 0) (cond (o.kind != 1) (cond (o.kind != 2) (some false) (cond (!(o.s == [])) (cond (o.kind != 3) (some false) (cond (o.kind == 1) ((aN_ n o.n_ 0 1).bind fun A97=>(some A97)) (cond (o.kind == 2) ((bp_ n o.n_).bind fun A98=>(some A98)) (cond (o.kind == 3) ((aA_ n o.s).bind fun A99=>(some A99)) (cond (o.kind == 5) (cond ((o.names.length:Int) == (o.list.length:Int)) ((au_ n o.names).bind fun A100=>(some A100)) (some false)) (cond (o.kind == 0) (some true) (some (o.kind == 4)))))))) (cond (o.kind == 1) ((aN_ n o.n_ 0 1).bind fun A101=>(some A101)) (cond (o.kind == 2) ((bp_ n o.n_).bind fun A102=>(some A102)) (cond (o.kind == 3) ((aA_ n o.s).bind fun A103=>(some A103)) (cond (o.kind == 5) (cond ((o.names.length:Int) == (o.list.length:Int)) ((au_ n o.names).bind fun A104=>(some A104)) (some false)) (cond (o.kind == 0) (some true) (some (o.kind == 4))))))))) (cond (!(o.s == [])) (cond (o.kind != 3) (some false) (cond (o.kind == 1) ((aN_ n o.n_ 0 1).bind fun A105=>(some A105)) (cond (o.kind == 2) ((bp_ n o.n_).bind fun A106=>(some A106)) (cond (o.kind == 3) ((aA_ n o.s).bind fun A107=>(some A107)) (cond (o.kind == 5) (cond ((o.names.length:Int) == (o.list.length:Int)) ((au_ n o.names).bind fun A108=>(some A108)) (some false)) (cond (o.kind == 0) (some true) (some (o.kind == 4)))))))) (cond (o.kind == 1) ((aN_ n o.n_ 0 1).bind fun A109=>(some A109)) (cond (o.kind == 2) ((bp_ n o.n_).bind fun A110=>(some A110)) (cond (o.kind == 3) ((aA_ n o.s).bind fun A111=>(some A111)) (cond (o.kind == 5) (cond ((o.names.length:Int) == (o.list.length:Int)) ((au_ n o.names).bind fun A112=>(some A112)) (some false)) (cond (o.kind == 0) (some true) (some (o.kind == 4))))))))) (cond (!(o.s == [])) (cond (o.kind != 3) (some false) (cond (o.kind == 1) ((aN_ n o.n_ 0 1).bind fun A113=>(some A113)) (cond (o.kind == 2) ((bp_ n o.n_).bind fun A114=>(some A114)) (cond (o.kind == 3) ((aA_ n o.s).bind fun A115=>(some A115)) (cond (o.kind == 5) (cond ((o.names.length:Int) == (o.list.length:Int)) ((au_ n o.names).bind fun A116=>(some A116)) (some false)) (cond (o.kind == 0) (some true) (some (o.kind == 4)))))))) (cond (o.kind == 1) ((aN_ n o.n_ 0 1).bind fun A117=>(some A117)) (cond (o.kind == 2) ((bp_ n o.n_).bind fun A118=>(some A118)) (cond (o.kind == 3) ((aA_ n o.s).bind fun A119=>(some A119)) (cond (o.kind == 5) (cond ((o.names.length:Int) == (o.list.length:Int)) ((au_ n o.names).bind fun A120=>(some A120)) (some false)) (cond (o.kind == 0) (some true) (some (o.kind == 4)))))))))) (cond (o.n_ != 0) (cond (o.kind != 1) (cond (o.kind != 2) (some false) (cond (!(o.s == [])) (cond (o.kind != 3) (some false) (cond (o.kind == 1) ((aN_ n o.n_ 0 1).bind fun A121=>(some A121)) (cond (o.kind == 2) ((bp_ n o.n_).bind fun A122=>(some A122)) (cond (o.kind == 3) ((aA_ n o.s).bind fun A123=>(some A123)) (cond (o.kind == 5) (cond ((o.names.length:Int) == (o.list.length:Int)) ((au_ n o.names).bind fun A124=>(some A124)) (some false)) (cond (o.kind == 0) (some true) (some (o.kind == 4)))))))) (cond (o.kind == 1) ((aN_ n o.n_ 0 1).bind fun A125=>(some A125)) (cond (o.kind == 2) ((bp_ n o.n_).bind fun A126=>(some A126)) (cond (o.kind == 3) ((aA_ n o.s).bind fun A127=>(some A127)) (cond (o.kind == 5) (cond ((o.names.length:Int) == (o.list.length:Int)) ((au_ n o.names).bind fun A128=>(some A128)) (some false)) (cond (o.kind == 0) (some true) (some (o.kind == 4))))))))) (cond (!(o.s == [])) (cond (o.kind != 3) (some false) (cond (o.kind == 1) ((aN_ n o.n_ 0 1).bind fun A129=>(some A129)) (cond (o.kind == 2) ((bp_ n o.n_).bind fun A130=>(some A130)) (cond (o.kind == 3) ((aA_ n o.s).bind fun A131=>(some A131)) (cond (o.kind == 5) (cond ((o.names.length:Int) == (o.list.length:Int)) ((au_ n o.names).bind fun A132=>(some A132)) (some false)) (cond (o.kind == 0) (some true) (some (o.kind == 4)))))))) (cond (o.kind == 1) ((aN_ n o.n_ 0 1).bind fun A133=>(some A133)) (cond (o.kind == 2) ((bp_ n o.n_).bind fun A134=>(some A134)) (cond (o.kind == 3) ((aA_ n o.s).bind fun A135=>(some A135)) (cond (o.kind == 5) (cond ((o.names.length:Int) == (o.list.length:Int)) ((au_ n o.names).bind fun A136=>(some A136)) (some false)) (cond (o.kind == 0) (some true) (some (o.kind == 4))))))))) (cond (!(o.s == [])) (cond (o.kind != 3) (some false) (cond (o.kind == 1) ((aN_ n o.n_ 0 1).bind fun A137=>(some A137)) (cond (o.kind == 2) ((bp_ n o.n_).bind fun A138=>(some A138)) (cond (o.kind == 3) ((aA_ n o.s).bind fun A139=>(some A139)) (cond (o.kind == 5) (cond ((o.names.length:Int) == (o.list.length:Int)) ((au_ n o.names).bind fun A140=>(some A140)) (some false)) (cond (o.kind == 0) (some true) (some (o.kind == 4)))))))) (cond (o.kind == 1) ((aN_ n o.n_ 0 1).bind fun A141=>(some A141)) (cond (o.kind == 2) ((bp_ n o.n_).bind fun A142=>(some A142)) (cond (o.kind == 3) ((aA_ n o.s).bind fun A143=>(some A143)) (cond (o.kind == 5) (cond ((o.names.length:Int) == (o.list.length:Int)) ((au_ n o.names).bind fun A144=>(some A144)) (some false)) (cond (o.kind == 0) (some true) (some (o.kind == 4)))))))))))
abbrev bM_.T7:Type:=Int->Int->(List aa_)->Int->Int->Option Int
def bM_.step7 (n:Nat) (impl_sizeIn_:aa_->Int->Option Int) (k0:Int->Option Int) (back:bM_.T7):bM_.T7:=fun deep n_1 t16 t17 t18=>
 (cond (decide (t18<t17)) (inB t18 t16.length ((impl_sizeIn_ (aa_.re (t16.getD t18.toNat aa_.dflt)) (W (deep - 1))).bind fun A2=>(cond (decide ((W (n_1+A2)) > 400)) (some 401) (back deep (W (n_1+A2)) t16 t17 (W (t18+1)))))) (k0 n_1))
def bM_.loop7 (n:Nat) (impl_sizeIn_:aa_->Int->Option Int) (k0:Int->Option Int) (N:Nat):bM_.T7:=cv_ (fun _ _ _ _ _=>none) (bM_.step7 n impl_sizeIn_ k0) N
def bM_:Nat->aa_->Int->Option Int
 |0,_,_=>none
 |n+1,j,deep=>
  (cond (decide (deep<1)) (some 401) ((e0_ n (aa_.re j)).bind fun A1=>(cond (!A1) (some 401) (bM_.loop7 n (bM_ n) (fun B3=>(some B3)) n deep 1 j.list (j.list.length:Int) 0))))
def db_:Nat->aa_->Option Bool
 |0,_=>none
 |n+1,j=>
  ((bM_ n (aa_.re j) 6).bind fun A1=>(some (decide (A1<=400))))
abbrev b1_.K4:Type:=(List Int)->Option Bs
abbrev b1_.T4:Type:=Bs->Int->Int->(List Int)->Option Bs
def b1_.step4 (n:Nat) (k0:b1_.K4) (back:b1_.T4):b1_.T4:=fun s t7 t8 out_1=>
 (cond (decide (t8<t7)) (inB t8 s.length (cond (((s.getD t8.toNat 0).toNat:Int) == 34) (bk_ (out_1.length+([92]:List Int).length) 1 (inB t8 s.length (bk_ ((out_1++([92]:List Int)).length+([((s.getD t8.toNat 0).toNat:Int)]:List Int).length) 1 (back s t7 (W (t8+1)) ((out_1++([92]:List Int))++([((s.getD t8.toNat 0).toNat:Int)]:List Int)))))) (inB t8 s.length (cond (((s.getD t8.toNat 0).toNat:Int) == 92) (bk_ (out_1.length+([92]:List Int).length) 1 (inB t8 s.length (bk_ ((out_1++([92]:List Int)).length+([((s.getD t8.toNat 0).toNat:Int)]:List Int).length) 1 (back s t7 (W (t8+1)) ((out_1++([92]:List Int))++([((s.getD t8.toNat 0).toNat:Int)]:List Int)))))) (inB t8 s.length (bk_ (out_1.length+([((s.getD t8.toNat 0).toNat:Int)]:List Int).length) 1 (back s t7 (W (t8+1)) (out_1++([((s.getD t8.toNat 0).toNat:Int)]:List Int))))))))) (k0 out_1))
def b1_.loop4 (n:Nat) (k0:b1_.K4) (N:Nat):b1_.T4:=cv_ (fun _ _ _ _=>none) (b1_.step4 n k0) N
def b1_:Nat->Bs->Option Bs
 |0,_=>none
 |n+1,s=>
  (b1_.loop4 n (fun B1=>(bk_ (B1.length+([34]:List Int).length) 1 (some (hS_ (B1++([34]:List Int)))))) n s (s.length:Int) 0 ([34]:List Int))
def strconv_Itoa:Nat->Int->Option Bs
 |0,_=>none
 |_+1,i=>nItoa i
def strings_Join:Nat->List Bs->Bs->Option Bs
 |0,_,_=>none
 |_+1,l,s=>nJoin l s
abbrev be_.K4_1:Type:=Int->Int->Bs->(List aa_)->(List Bs)->(List Bs)->Option Bs
abbrev be_.T4:Type:=(List aa_)->Int->Int->Int->Int->Bs->(List aa_)->(List Bs)->(List Bs)->Option Bs
def be_.step4 (n:Nat) (impl_written_:aa_->Option Bs) (k0:be_.K4_1) (back:be_.T4):be_.T4:=fun t9 t10 t11 append0 append1 append2 append3 append4 t3=>
 (cond (decide (t11<t10)) (inB t11 t9.length ((impl_written_ (aa_.re (t9.getD t11.toNat aa_.dflt))).bind fun A1=>(cond (append0 == 5) (inB t11 append4.length ((b1_ n (append4.getD t11.toNat [])).bind fun A2=>(cond (decide (A2.length+[58].length<=9223372036854775807)) (cond (decide ((A2++[58]).length+A1.length<=9223372036854775807)) (bk_ (t3.length+([((A2++[58])++A1)]:List Bs).length) 16 (back t9 t10 (W (t11+1)) append0 append1 append2 append3 append4 (t3++([((A2++[58])++A1)]:List Bs)))) none) none))) (bk_ (t3.length+([A1]:List Bs).length) 16 (back t9 t10 (W (t11+1)) append0 append1 append2 append3 append4 (t3++([A1]:List Bs))))))) (k0 append0 append1 append2 append3 append4 t3))
def be_.loop4 (n:Nat) (impl_written_:aa_->Option Bs) (k0:be_.K4_1) (N:Nat):be_.T4:=cv_ (fun _ _ _ _ _ _ _ _ _=>none) (be_.step4 n impl_written_ k0) N
def be_:Nat->aa_->Option Bs
 |0,_=>none
 |n+1,o=>
  (be_.loop4 n (be_ n) (fun B3 B4 B5 B6 B7 B8=>(cond (B3 == 0) (some [110,117,108,108]) (cond (B3 == 1) (inB B4 ([[102,97,108,115,101],[116,114,117,101]]:List Bs).length (let C9:Bs:=(([[102,97,108,115,101],[116,114,117,101]]:List Bs).getD B4.toNat []);(some C9))) (cond (B3 == 2) ((strconv_Itoa n B4).bind fun A10=>(some A10)) (cond (B3 == 3) ((b1_ n B5).bind fun A11=>(some A11)) (cond (B3 == 4) ((strings_Join n B8 [44]).bind fun A12=>(cond (decide ([91].length+A12.length<=9223372036854775807)) (cond (decide ((([91]:Bs)++A12).length+[93].length<=9223372036854775807)) (some ((([91]:Bs)++A12)++[93])) none) none)) ((strings_Join n B8 [44]).bind fun A13=>(cond (decide ([123].length+A13.length<=9223372036854775807)) (cond (decide ((([123]:Bs)++A13).length+[125].length<=9223372036854775807)) (some ((([123]:Bs)++A13)++[125])) none) none)))))))) n o.list (o.list.length:Int) 0 o.kind o.n_ o.s o.list o.names ([]:List Bs))
def dw_:Nat->aa_->Option Bs
 |0,_=>none
 |n+1,j=>
  ((db_ n (aa_.re j)).bind fun A1=>(cond (!A1) (some []) ((be_ n (aa_.re j)).bind fun A2=>(cond (decide ((A2.length:Int) > 6000)) (some []) (some A2)))))
def dO_:Nat->Bs->Option (aa_ × Bool)
 |0,_=>none
 |n+1,s=>
  (cond (decide ((s.length:Int) > 6000)) (some ((aa_.mk 0 0 [] ([]:List aa_) ([]:List Bs)),false)) ((a2_ n (aP_.mk s false) 6).bind fun A1=>(cond A1.2.bad (some ((aa_.mk 0 0 [] ([]:List aa_) ([]:List Bs)),false)) ((dw_ n (aa_.re A1.1)).bind fun A2=>(cond (!(A2 == s)) (some ((aa_.mk 0 0 [] ([]:List aa_) ([]:List Bs)),false)) (some ((aa_.re A1.1),true)))))))
abbrev aG_.T3:Type:=(List Bs)->Bs->Int->Int->Option Int
def aG_.step3 (n:Nat) (k0:Option Int) (back:aG_.T3):aG_.T3:=fun s v t7 t8=>
 (cond (decide (t8<t7)) (inB t8 s.length (cond (v == (s.getD t8.toNat [])) (some t8) (back s v t7 (W (t8+1))))) k0)
def aG_.loop3 (n:Nat) (k0:Option Int) (N:Nat):aG_.T3:=cv_ (fun _ _ _ _=>none) (aG_.step3 n k0) N
def aG_:Nat->(List Bs)->Bs->Option Int
 |0,_,_=>none
 |n+1,s,v=>
  (aG_.loop3 n (some (-1)) n s v (s.length:Int) 0)
def dE_:Nat->(List Bs)->Option (List Bs)
 |0,_=>none
 |n+1,l=>
  (bk_ (([]:List Bs).length+l.length) 16 (some (([]:List Bs)++l)))
abbrev bd_.K4_1:Type:=Int->Int->Bs->Int->Int->Bs->(List aa_)->(List Bs)->Option aa_
abbrev bd_.T4:Type:=(List aa_)->Int->Int->Int->Int->Bs->Int->Int->Bs->(List aa_)->(List Bs)->Option aa_
def bd_.step4 (n:Nat) (impl_copyJson_:aa_->Option aa_) (k0:bd_.K4_1) (back:bd_.T4):bd_.T4:=fun t17 t18 t19 t20 t21 t22 out0 out1 out2 out3 out4=>
 (cond (decide (t19<t18)) (inB t19 t17.length ((impl_copyJson_ (aa_.re (t17.getD t19.toNat aa_.dflt))).bind fun A2=>(bk_ (out3.length+([(aa_.re A2)]:List aa_).length) 80 (back t17 t18 (W (t19+1)) t20 t21 t22 out0 out1 out2 (out3++([(aa_.re A2)]:List aa_)) out4)))) (k0 t20 t21 t22 out0 out1 out2 out3 out4))
def bd_.loop4 (n:Nat) (impl_copyJson_:aa_->Option aa_) (k0:bd_.K4_1) (N:Nat):bd_.T4:=cv_ (fun _ _ _ _ _ _ _ _ _ _ _=>none) (bd_.step4 n impl_copyJson_ k0) N
def bd_:Nat->aa_->Option aa_
 |0,_=>none
 |n+1,j=>
  ((dE_ n j.names).bind fun A1=>(bd_.loop4 n (bd_ n) (fun B3 B4 B5 B6 B7 B8 B9 B10=>(some (aa_.mk B6 B7 B8 B9 B10))) n j.list (j.list.length:Int) 0 0 0 [] j.kind j.n_ j.s ([]:List aa_) A1))
def ew_:Nat->aa_->Bs->Option (aa_ × Bool)
 |0,_,_=>none
 |n+1,j,name=>
  ((aG_ n j.names name).bind fun A1=>((db_ n (aa_.re j)).bind fun A2=>(cond (!A2) (some ((aa_.mk 0 0 [] ([]:List aa_) ([]:List Bs)),false)) (cond (decide (A1<0)) (some ((aa_.mk 0 0 [] ([]:List aa_) ([]:List Bs)),false)) (inB A1 j.list.length ((bd_ n (aa_.re (j.list.getD A1.toNat aa_.dflt))).bind fun A3=>(some ((aa_.re A3),true))))))))
def strings_Split:Nat->Bs->Bs->Option (List Bs)
 |0,_,_=>none
 |_+1,s,a=>r6_ s a
def strings_ReplaceAll:Nat->Bs->Bs->Bs->Option Bs
 |0,_,_,_=>none
 |_+1,s,a,b=>gt_ s a b
abbrev bW_.T4:Type:=Bs->(List Bs)->Int->Int->Option Bs
def bW_.step4 (n:Nat) (k0:Bs->Option Bs) (back:bW_.T4):bW_.T4:=fun out_1 t6 t7 t8=>
 (cond (decide (t8<t7)) (inB t8 t6.length ((strings_ReplaceAll n (t6.getD t8.toNat []) [126] [126,48]).bind fun A1=>((strings_ReplaceAll n A1 [47] [126,49]).bind fun A2=>(cond (decide ([47].length+A2.length<=9223372036854775807)) (cond (decide (out_1.length+(([47]:Bs)++A2).length<=9223372036854775807)) (back (out_1++(([47]:Bs)++A2)) t6 t7 (W (t8+1))) none) none)))) (k0 out_1))
def bW_.loop4 (n:Nat) (k0:Bs->Option Bs) (N:Nat):bW_.T4:=cv_ (fun _ _ _ _=>none) (bW_.step4 n k0) N
def bW_:Nat->(List Bs)->Option Bs
 |0,_=>none
 |n+1,way=>
  (bW_.loop4 n (fun B3=>(some B3)) n [] way (way.length:Int) 0)
abbrev bG_.K7:Type:=Bs->(List Bs)->Option ((List Bs) × Bool)
abbrev bG_.T7:Type:=Bs->(List Bs)->Int->Int->(List Bs)->Option ((List Bs) × Bool)
def bG_.step7 (n:Nat) (k0:bG_.K7) (back:bG_.T7):bG_.T7:=fun s t13 t14 t15 way=>
 (cond (decide (t15<t14)) (inB t15 t13.length ((strings_ReplaceAll n (t13.getD t15.toNat []) [126,49] [47]).bind fun A2=>((strings_ReplaceAll n A2 [126,48] [126]).bind fun A3=>(bk_ (way.length+([A3]:List Bs).length) 16 (back s t13 t14 (W (t15+1)) (way++([A3]:List Bs))))))) (k0 s way))
def bG_.loop7 (n:Nat) (k0:bG_.K7) (N:Nat):bG_.T7:=cv_ (fun _ _ _ _ _=>none) (bG_.step7 n k0) N
def bG_:Nat->Bs->Option ((List Bs) × Bool)
 |0,_=>none
 |n+1,s=>
  (cond (s == []) (some (([]:List Bs),true)) ((strings_Split n s [47]).bind fun A1=>(f6_ 1 (A1.length:Int) A1.length (bG_.loop7 n (fun B4 B5=>(cond (decide ((B5.length:Int) > 6)) (some (([]:List Bs),false)) ((bW_ n B5).bind fun A6=>(cond (!(A6 == B4)) (some (([]:List Bs),false)) (some (B5,true)))))) n s ((A1.take ((A1.length:Int).toNat)).drop 1) ((((A1.length:Int).toNat) - 1:Nat):Int) 0 ([]:List Bs)))))
def dp_:Nat->Unit->Option (List Bs)
 |0,_=>none
 |n+1,_u=>
  (some ([[97,100,100],[114,101,109,111,118,101],[114,101,112,108,97,99,101],[116,101,115,116]]:List Bs))
def d5_:Nat->aa_->Option Bool
 |0,_=>none
 |n+1,j=>
  (cond (j.kind == 0) (cond (j.n_ == 0) (cond (j.s == []) (cond ((j.list.length:Int) == 0) (some ((j.names.length:Int) == 0)) (some false)) (some false)) (some false)) (some false))
abbrev cz_.K3:Type:=Int->(List Bs)->Int->Int->Bs->(List aa_)->(List Bs)->Option Bool
abbrev cz_.T3:Type:=(List Bs)->Int->Int->Int->(List Bs)->Int->Int->Bs->(List aa_)->(List Bs)->Option Bool
def cz_.step3 (n:Nat) (k0:cz_.K3) (back:cz_.T3):cz_.T3:=fun t6 t7 t8 o0 o1 o2 o3 o4 o5 o6=>
 (cond (decide (t8<t7)) (inB t8 t6.length ((aA_ n (t6.getD t8.toNat [])).bind fun A1=>(cond (!A1) (some false) (back t6 t7 (W (t8+1)) o0 o1 o2 o3 o4 o5 o6)))) (k0 o0 o1 o2 o3 o4 o5 o6))
def cz_.loop3 (n:Nat) (k0:cz_.K3) (N:Nat):cz_.T3:=cv_ (fun _ _ _ _ _ _ _ _ _ _=>none) (cz_.step3 n k0) N
def cz_:Nat->TOp->Option Bool
 |0,_=>none
 |n+1,o=>
  (cz_.loop3 n (fun B2 B3 B4 B5 B6 B7 B8=>((aN_ n B2 1 4).bind fun A9=>(cond A9 (cond (decide ((B3.length:Int)<=6)) ((db_ n (aa_.mk B4 B5 B6 B7 B8)).bind fun A10=>(cond A10 (cond (B2 != 2) (some true) ((d5_ n (aa_.mk B4 B5 B6 B7 B8)).bind fun A11=>(some A11))) (some false))) (some false)) (some false)))) n o.way (o.way.length:Int) 0 o.kind o.way o.value.kind o.value.n_ o.value.s o.value.list o.value.names)
def em_:Nat->aa_->Option aa_
 |0,_=>none
 |n+1,j=>
  ((db_ n (aa_.re j)).bind fun A1=>(cond (!A1) (some (aa_.mk 0 0 [] ([]:List aa_) ([]:List Bs))) (some (aa_.re j))))
def eo_:Nat->TOp->Option aa_
 |0,_=>none
 |n+1,o=>
  ((cz_ n (TOp.mk o.kind o.way (aa_.re o.value))).bind fun A1=>(cond (!A1) (some (aa_.mk 0 0 [] ([]:List aa_) ([]:List Bs))) ((dp_ n ()).bind fun A2=>(inB (W (o.kind - 1)) A2.length ((bW_ n o.way).bind fun A3=>(cond (o.kind != 2) (bk_ (([[111,112],[112,97,116,104]]:List Bs).length+([[118,97,108,117,101]]:List Bs).length) 16 ((bd_ n (aa_.re o.value)).bind fun A4=>(bk_ (([(aa_.mk 3 0 (A2.getD ((W (o.kind - 1)).toNat) []) [] []),(aa_.mk 3 0 A3 [] [])]:List aa_).length+([(aa_.re A4)]:List aa_).length) 80 ((em_ n (aa_.mk 5 0 [] (([(aa_.mk 3 0 (A2.getD ((W (o.kind - 1)).toNat) []) [] []),(aa_.mk 3 0 A3 [] [])]:List aa_)++([(aa_.re A4)]:List aa_)) (([[111,112],[112,97,116,104]]:List Bs)++([[118,97,108,117,101]]:List Bs)))).bind fun A5=>(some (aa_.re A5)))))) ((em_ n (aa_.mk 5 0 [] ([(aa_.mk 3 0 (A2.getD ((W (o.kind - 1)).toNat) []) [] []),(aa_.mk 3 0 A3 [] [])]:List aa_) ([[111,112],[112,97,116,104]]:List Bs))).bind fun A6=>(some (aa_.re A6)))))))))
abbrev aK_.T6:Type:=(List Bs)->(List Bs)->Int->Int->Option Bool
def aK_.step6 (n:Nat) (k0:Option Bool) (back:aK_.T6):aK_.T6:=fun s1 s2 t12 t13=>
 (cond (decide (t13<t12)) (inB t13 s1.length (inB t13 s2.length (cond (!((s1.getD t13.toNat []) == (s2.getD t13.toNat []))) (some false) (back s1 s2 t12 (W (t13+1)))))) k0)
def aK_.loop6 (n:Nat) (k0:Option Bool) (N:Nat):aK_.T6:=cv_ (fun _ _ _ _=>none) (aK_.step6 n k0) N
def aK_:Nat->(List Bs)->(List Bs)->Option Bool
 |0,_,_=>none
 |n+1,s1,s2=>
  (cond ((s1.length:Int) != (s2.length:Int)) (some false) (aK_.loop6 n (some true) n s1 s2 (s1.length:Int) 0))
abbrev ai_.T6:Type:=(List aa_)->(List aa_)->Int->Int->Option Bool
def ai_.step6 (n:Nat) (impl_alike_:aa_->aa_->Option Bool) (k0:Option Bool) (back:ai_.T6):ai_.T6:=fun s2 t15 t16 t17=>
 (cond (decide (t17<t16)) (inB t17 t15.length (inB t17 s2.length ((impl_alike_ (aa_.re (t15.getD t17.toNat aa_.dflt)) (aa_.re (s2.getD t17.toNat aa_.dflt))).bind fun A1=>(cond (!A1) (some false) (back s2 t15 t16 (W (t17+1))))))) k0)
def ai_.loop6 (n:Nat) (impl_alike_:aa_->aa_->Option Bool) (k0:Option Bool) (N:Nat):ai_.T6:=cv_ (fun _ _ _ _=>none) (ai_.step6 n impl_alike_ k0) N
mutual
def ed_:Nat->aa_->aa_->Option Bool
 |0,_,_=>none
 |n+1,a,b=>
  (cond (a.kind == b.kind) (cond (a.n_ == b.n_) (cond (a.s == b.s) ((aK_ n a.names b.names).bind fun A1=>(cond A1 ((ai_ n a.list b.list).bind fun A2=>(some A2)) (some false))) (some false)) (some false)) (some false))
def ai_:Nat->(List aa_)->(List aa_)->Option Bool
 |0,_,_=>none
 |n+1,s1,s2=>
  (cond ((s1.length:Int) != (s2.length:Int)) (some false) (ai_.loop6 n (ed_ n) (some true) n s2 s1 (s1.length:Int) 0))
end
def dV_:Nat->aa_->aa_->Option Bool
 |0,_,_=>none
 |n+1,a,b=>
  ((db_ n (aa_.re a)).bind fun A1=>(cond A1 ((db_ n (aa_.re b)).bind fun A2=>(cond A2 ((ed_ n (aa_.re a) (aa_.re b)).bind fun A3=>(some A3)) (some false))) (some false)))
def d6_:Nat->aa_->Option (TOp × Bool)
 |0,_=>none
 |n+1,o=>
  ((ew_ n (aa_.re o) [111,112]).bind fun A1=>((ew_ n (aa_.re o) [112,97,116,104]).bind fun A2=>((ew_ n (aa_.re o) [118,97,108,117,101]).bind fun A3=>((bG_ n A2.1.s).bind fun A4=>((dp_ n ()).bind fun A5=>((aG_ n A5 A1.1.s).bind fun A6=>(cond (!A1.2) (some ((TOp.mk 0 ([]:List Bs) (aa_.mk 0 0 [] ([]:List aa_) ([]:List Bs))),false)) (cond (!A2.2) (some ((TOp.mk 0 ([]:List Bs) (aa_.mk 0 0 [] ([]:List aa_) ([]:List Bs))),false)) (cond (!A4.2) (some ((TOp.mk 0 ([]:List Bs) (aa_.mk 0 0 [] ([]:List aa_) ([]:List Bs))),false)) ((cz_ n (TOp.mk (W (1+A6)) A4.1 (aa_.re A3.1))).bind fun A7=>(cond (!A7) (some ((TOp.mk 0 ([]:List Bs) (aa_.mk 0 0 [] ([]:List aa_) ([]:List Bs))),false)) ((eo_ n (TOp.mk (W (1+A6)) A4.1 (aa_.re A3.1))).bind fun A8=>((dV_ n (aa_.re A8) (aa_.re o)).bind fun A9=>(cond (!A9) (some ((TOp.mk 0 ([]:List Bs) (aa_.mk 0 0 [] ([]:List aa_) ([]:List Bs))),false)) (some ((TOp.mk (W (1+A6)) A4.1 (aa_.re A3.1)),true))))))))))))))))
abbrev b3_.K4:Type:=Int->Int->Bs->(List aa_)->(List Bs)->(List TOp)->Option ((List TOp) × Bool)
abbrev b3_.T4:Type:=(List aa_)->Int->Int->Int->Int->Bs->(List aa_)->(List Bs)->(List TOp)->Option ((List TOp) × Bool)
def b3_.step4 (n:Nat) (k0:b3_.K4) (back:b3_.T4):b3_.T4:=fun t11 t12 t13 j0 j1 j2 j3 j4 ops=>
 (cond (decide (t13<t12)) (inB t13 t11.length ((d6_ n (aa_.re (t11.getD t13.toNat aa_.dflt))).bind fun A1=>(cond (!A1.2) (some (([]:List TOp),false)) (bk_ (ops.length+([{ A1.1 with value:=(aa_.re A1.1.value) }]:List TOp).length) 112 (back t11 t12 (W (t13+1)) j0 j1 j2 j3 j4 (ops++([{ A1.1 with value:=(aa_.re A1.1.value) }]:List TOp))))))) (k0 j0 j1 j2 j3 j4 ops))
def b3_.loop4 (n:Nat) (k0:b3_.K4) (N:Nat):b3_.T4:=cv_ (fun _ _ _ _ _ _ _ _ _=>none) (b3_.step4 n k0) N
def b3_:Nat->aa_->Option ((List TOp) × Bool)
 |0,_=>none
 |n+1,j=>
  (b3_.loop4 n (fun B2 B3 B4 B5 B6 B7=>(some (B7,(B2 == 4)))) n j.list (j.list.length:Int) 0 j.kind j.n_ j.s j.list j.names ([]:List TOp))
def dq_:Nat->Bs->Option aC_
 |0,_=>none
 |n+1,o=>
  ((cS_ n o [101,118,101,110,116,58,32,115,110,97,112,10]).bind fun A1=>(cond A1.2 ((dv_ n A1.1 [105,100,58,32]).bind fun A2=>((dv_ n A2.2 [100,97,116,97,58,32]).bind fun A3=>((cV_ n A2.1).bind fun A4=>((dO_ n A3.1).bind fun A5=>(some (aC_.mk 1 A4.1 0 (aa_.re A5.1) ([]:List TOp))))))) ((cN_ n o [101,118,101,110,116,58,32,112,97,116,99,104,10]).bind fun A6=>((dv_ n A6 [105,100,58,32]).bind fun A7=>((dv_ n A7.2 [98,97,115,101,58,32]).bind fun A8=>((dv_ n A8.2 [100,97,116,97,58,32]).bind fun A9=>((cV_ n A7.1).bind fun A10=>((cV_ n A8.1).bind fun A11=>((dO_ n A9.1).bind fun A12=>((b3_ n (aa_.re A12.1)).bind fun A13=>(some (aC_.mk 2 A10.1 A11.1 (aa_.mk 0 0 [] ([]:List aa_) ([]:List Bs)) A13.1))))))))))))
def df_:Nat->Int->Option Bool
 |0,_=>none
 |n+1,n1=>
  ((aN_ n n1 0 100000).bind fun A1=>(some A1))
abbrev bw_.K4:Type:=Int->Int->Bs->Int->Int->Bs->(List aa_)->Option (aa_ × Bool)
abbrev bw_.T4:Type:=(List TOp)->Int->Int->Int->Int->Bs->Int->Int->Bs->(List aa_)->Option (aa_ × Bool)
def bw_.step4 (n:Nat) (k0:bw_.K4) (back:bw_.T4):bw_.T4:=fun t9 t10 t11 t20 t21 t22 j0 j1 j2 j3=>
 (cond (decide (t11<t10)) (inB t11 t9.length ((eo_ n { (t9.getD t11.toNat TOp.dflt) with value:=(aa_.re ((t9.getD t11.toNat TOp.dflt).value)) }).bind fun A1=>(cond (A1.kind == 0) (some ((aa_.mk 0 0 [] ([]:List aa_) ([]:List Bs)),false)) (bk_ (j3.length+([(aa_.re A1)]:List aa_).length) 80 (back t9 t10 (W (t11+1)) t20 t21 t22 j0 j1 j2 (j3++([(aa_.re A1)]:List aa_))))))) (k0 t20 t21 t22 j0 j1 j2 j3))
def bw_.loop4 (n:Nat) (k0:bw_.K4) (N:Nat):bw_.T4:=cv_ (fun _ _ _ _ _ _ _ _ _ _=>none) (bw_.step4 n k0) N
def bw_:Nat->(List TOp)->Option (aa_ × Bool)
 |0,_=>none
 |n+1,list=>
  (bw_.loop4 n (fun B2 B3 B4 B5 B6 B7 B8=>(some ((aa_.mk B5 B6 B7 B8 ([]:List Bs)),true))) n list (list.length:Int) 0 0 0 [] 4 0 [] ([]:List aa_))
def dF_:Nat->(List TOp)->Option Int
 |0,_=>none
 |n+1,list=>
  ((bw_ n list).bind fun A1=>((dw_ n (aa_.re A1.1)).bind fun A2=>(cond (!A1.2) (some (-1)) (cond (A2 == []) (some (-1)) (some (A2.length:Int))))))
def ek_:Nat->aC_->Option Bool
 |0,_=>none
 |n+1,e=>
  (cond (e.kind == 1) ((df_ n e.version).bind fun A1=>(cond A1 (cond (e.base == 0) ((dw_ n (aa_.re e.doc)).bind fun A2=>(cond (!(A2 == [])) (some ((e.ops.length:Int) == 0)) (some false))) (some false)) (some false))) (cond (e.kind == 2) ((df_ n e.version).bind fun A3=>(cond A3 ((aN_ n e.base 0 (W (e.version - 1))).bind fun A4=>(cond A4 ((d5_ n (aa_.re e.doc)).bind fun A5=>(cond A5 (cond (decide ((e.ops.length:Int)<=40)) ((dF_ n e.ops).bind fun A6=>(some (decide (A6>=0)))) (some false)) (some false))) (some false))) (some false))) (some false)))
def en_:Nat->Int->Option Bs
 |0,_=>none
 |n+1,n1=>
  ((strconv_Itoa n n1).bind fun A1=>(some A1))
def dG_:Nat->aC_->Option Bs
 |0,_=>none
 |n+1,e=>
  ((ek_ n { e with doc:=(aa_.re e.doc) }).bind fun A1=>(cond (!A1) (some []) ((en_ n e.version).bind fun A2=>(cond (decide ([105,100,58,32].length+A2.length<=9223372036854775807)) (cond (decide ((([105,100,58,32]:Bs)++A2).length+[10].length<=9223372036854775807)) (cond (e.kind == 1) (cond (decide ([101,118,101,110,116,58,32,115,110,97,112,10].length+((([105,100,58,32]:Bs)++A2)++[10]).length<=9223372036854775807)) (let C3:Bs:=(([101,118,101,110,116,58,32,115,110,97,112,10]:Bs)++((([105,100,58,32]:Bs)++A2)++[10]));(cond (decide (C3.length+[100,97,116,97,58,32].length<=9223372036854775807)) ((dw_ n (aa_.re e.doc)).bind fun A4=>(cond (decide ((C3++[100,97,116,97,58,32]).length+A4.length<=9223372036854775807)) (cond (decide (((C3++[100,97,116,97,58,32])++A4).length+[10,10].length<=9223372036854775807)) (some (((C3++[100,97,116,97,58,32])++A4)++[10,10])) none) none)) none)) none) ((bw_ n e.ops).bind fun A5=>(cond (decide ([101,118,101,110,116,58,32,112,97,116,99,104,10].length+((([105,100,58,32]:Bs)++A2)++[10]).length<=9223372036854775807)) (let C6:Bs:=(([101,118,101,110,116,58,32,112,97,116,99,104,10]:Bs)++((([105,100,58,32]:Bs)++A2)++[10]));(cond (decide (C6.length+[98,97,115,101,58,32].length<=9223372036854775807)) ((en_ n e.base).bind fun A7=>(cond (decide ((C6++[98,97,115,101,58,32]).length+A7.length<=9223372036854775807)) (cond (decide (((C6++[98,97,115,101,58,32])++A7).length+[10,100,97,116,97,58,32].length<=9223372036854775807)) (let C8:Bs:=(((C6++[98,97,115,101,58,32])++A7)++[10,100,97,116,97,58,32]);((dw_ n (aa_.re A5.1)).bind fun A9=>(cond (decide (C8.length+A9.length<=9223372036854775807)) (cond (decide ((C8++A9).length+[10,10].length<=9223372036854775807)) (some ((C8++A9)++[10,10])) none) none))) none) none)) none)) none))) none) none))))
def cU_:Nat->Bs->Option (aC_ × Bool)
 |0,_=>none
 |n+1,text=>
  ((dq_ n text).bind fun A1=>((dG_ n { A1 with doc:=(aa_.re A1.doc) }).bind fun A2=>(cond (A2 == []) (some ((aC_.mk 0 0 0 (aa_.mk 0 0 [] ([]:List aa_) ([]:List Bs)) ([]:List TOp)),false)) (cond (!(A2 == text)) (some ((aC_.mk 0 0 0 (aa_.mk 0 0 [] ([]:List aa_) ([]:List Bs)) ([]:List TOp)),false)) (some ({ A1 with doc:=(aa_.re A1.doc) },true))))))
abbrev cl_.K5:Type:=Bs->Bool->Bs->Bool->(List aC_)->Option (aw_ × (List aC_))
abbrev cl_.T5:Type:=Bs->Bool->Bs->Bool->(List aC_)->Option (aw_ × (List aC_))
def cl_.step5 (n:Nat) (k0:cl_.K5) (back:cl_.T5):cl_.T5:=fun wait bad t40 t41 events=>
 (cond (!bad) ((strings_Index n wait [10,10]).bind fun A1=>(cond (decide (A1<0)) (k0 wait (decide ((wait.length:Int) > 14000)) t40 t41 events) (f6_ 0 (W (A1+2)) wait.length ((cU_ n ((wait.take (W (A1+2)).toNat).drop 0)).bind fun A2=>(cond (!A2.2) (k0 wait true t40 t41 events) (bk_ (events.length+([{ A2.1 with doc:=(aa_.re A2.1.doc) }]:List aC_).length) 128 (f6_ (W (A1+2)) (wait.length:Int) wait.length (back ((wait.take (wait.length:Int).toNat).drop (W (A1+2)).toNat) bad t40 t41 (events++([{ A2.1 with doc:=(aa_.re A2.1.doc) }]:List aC_)))))))))) (k0 wait bad t40 t41 events))
def cl_.loop5 (n:Nat) (k0:cl_.K5) (N:Nat):cl_.T5:=cv_ (fun _ _ _ _ _=>none) (cl_.step5 n k0) N
def cl_:Nat->aw_->Bs->Option (aw_ × (List aC_))
 |0,_,_=>none
 |n+1,s,oy_=>
  (cond (decide (s.wait.length+oy_.length<=9223372036854775807)) (cl_.loop5 n (fun B3 B4 B5 B6 B7=>(cond B4 (some ((aw_.mk [] true),B7)) (some ((aw_.mk B3 false),B7)))) n (s.wait++oy_) s.bad [] false ([]:List aC_)) none)
abbrev bH_.K4:Type:=Bs->Bool->Bs->Bool->(List aC_)->Option (aw_ × (List aC_))
abbrev bH_.T4:Type:=(List Bs)->Int->Int->Bs->Bool->Bs->Bool->(List aC_)->Option (aw_ × (List aC_))
def bH_.step4 (n:Nat) (k0:bH_.K4) (back:bH_.T4):bH_.T4:=fun t12 t13 t14 s0 s1 t40 t41 all=>
 (cond (decide (t14<t13)) (inB t14 t12.length ((cl_ n (aw_.mk s0 s1) (t12.getD t14.toNat [])).bind fun A1=>(bk_ (all.length+A1.2.length) 128 (back t12 t13 (W (t14+1)) A1.1.wait A1.1.bad t40 t41 (all++A1.2))))) (k0 s0 s1 t40 t41 all))
def bH_.loop4 (n:Nat) (k0:bH_.K4) (N:Nat):bH_.T4:=cv_ (fun _ _ _ _ _ _ _ _=>none) (bH_.step4 n k0) N
def bH_:Nat->aw_->(List Bs)->Option (aw_ × (List aC_))
 |0,_,_=>none
 |n+1,s,pieces=>
  (bH_.loop4 n (fun B2 B3 B4 B5 B6=>(some ((aw_.mk B2 B3),B6))) n pieces (pieces.length:Int) 0 s.wait s.bad [] false ([]:List aC_))
abbrev b5_.T3:Type:=Bs->Int->Option Int
def b5_.step3 (n:Nat) (k0:Option Int) (back:b5_.T3):b5_.T3:=fun s i=>
 (cond (decide (i<(s.length:Int))) (inB i s.length (cond (((s.getD i.toNat 0).toNat:Int) == 10) (inB (W (i - 1)) s.length (cond (((s.getD (W (i - 1)).toNat 0).toNat:Int) == 10) (some (W (i+1))) (back s (W (i+1))))) (back s (W (i+1))))) k0)
def b5_.loop3 (n:Nat) (k0:Option Int) (N:Nat):b5_.T3:=cv_ (fun _ _=>none) (b5_.step3 n k0) N
def b5_:Nat->Bs->Option Int
 |0,_=>none
 |n+1,s=>
  (b5_.loop3 n (some (-1)) n s 1)
abbrev bo_.K5:Type:=(List Bs)->Option (List Bs)
abbrev bo_.T5:Type:=Bs->Int->Int->(List Bs)->Option (List Bs)
def bo_.step5 (n:Nat) (k0:bo_.K5) (back:bo_.T5):bo_.T5:=fun text from_1 i out_1=>
 (cond (decide (i<(text.length:Int))) (inB i text.length (cond (((text.getD i.toNat 0).toNat:Int) == 10) (f6_ from_1 i text.length (bk_ (out_1.length+([((text.take i.toNat).drop from_1.toNat)]:List Bs).length) 16 (back text (W (i+1)) (W (i+1)) (out_1++([((text.take i.toNat).drop from_1.toNat)]:List Bs))))) (back text from_1 (W (i+1)) out_1))) (k0 out_1))
def bo_.loop5 (n:Nat) (k0:bo_.K5) (N:Nat):bo_.T5:=cv_ (fun _ _ _ _=>none) (bo_.step5 n k0) N
def bo_:Nat->Bs->Option (List Bs)
 |0,_=>none
 |n+1,text=>
  (bo_.loop5 n (fun B1=>(some B1)) n text 0 0 ([]:List Bs))
def cO_:Nat->Bs->Bs->Option Bs
 |0,_,_=>none
 |n+1,line,head=>
  (cond (decide ((line.length:Int)<(head.length:Int))) (some []) (f6_ 0 (head.length:Int) line.length (cond (!(((line.take (head.length:Int).toNat).drop 0) == head)) (some []) (f6_ (head.length:Int) (line.length:Int) line.length (some ((line.take (line.length:Int).toNat).drop (head.length:Int).toNat))))))
def c1_:Nat->a7_->Option (Int × a7_)
 |0,_=>none
 |n+1,c=>
  (cond (decide (c.at_>=(c.s.length:Int))) (some (0,c)) (inB c.at_ c.s.length (some (((c.s.getD c.at_.toNat 0).toNat:Int),c))))
abbrev aE_.K7:Type:=Bool->Int->Int->Bs->Int->Bool->Int->Option (Int × a7_)
abbrev aE_.T7:Type:=Bool->Int->Int->Bs->Int->Bool->Int->Option (Int × a7_)
def aE_.step7 (n:Nat) (k0:aE_.K7) (back:aE_.T7):aE_.T7:=fun t3 t4 t5 o0 o1 o2 o3=>
 ((c1_ n (a7_.mk o0 o1 o2 o3)).bind fun A2=>(cond (decide (A2.1>=48)) ((c1_ n A2.2).bind fun A3=>(cond (decide (A3.1<=57)) (cond (decide ((W (A3.2.at_ - t4))<11)) ((c1_ n A3.2).bind fun A4=>(back t3 t4 (W ((W ((W (10*t5))+(W (A4.1)))) - 48)) A4.2.s (W (A4.2.at_+1)) A4.2.ok A4.2.left)) (k0 t3 t4 t5 A3.2.s A3.2.at_ A3.2.ok A3.2.left)) (k0 t3 t4 t5 A3.2.s A3.2.at_ A3.2.ok A3.2.left))) (k0 t3 t4 t5 A2.2.s A2.2.at_ A2.2.ok A2.2.left)))
def aE_.loop7 (n:Nat) (k0:aE_.K7) (N:Nat):aE_.T7:=cv_ (fun _ _ _ _ _ _ _=>none) (aE_.step7 n k0) N
def aE_:Nat->a7_->Option (Int × a7_)
 |0,_=>none
 |n+1,o=>
  ((c1_ n o).bind fun A1=>(cond (A1.1 == 45) (aE_.loop7 n (fun B5 B6 B7 B8 B9 B10 B11=>(cond (B9 == B6) (cond B5 (some ((W (0 - B7)),(a7_.mk B8 B9 false B11))) (some (B7,(a7_.mk B8 B9 false B11)))) (cond B5 (some ((W (0 - B7)),(a7_.mk B8 B9 B10 B11))) (some (B7,(a7_.mk B8 B9 B10 B11)))))) n (A1.1 == 45) (W (A1.2.at_+1)) 0 A1.2.s (W (A1.2.at_+1)) A1.2.ok A1.2.left) (aE_.loop7 n (fun B12 B13 B14 B15 B16 B17 B18=>(cond (B16 == B13) (cond B12 (some ((W (0 - B14)),(a7_.mk B15 B16 false B18))) (some (B14,(a7_.mk B15 B16 false B18)))) (cond B12 (some ((W (0 - B14)),(a7_.mk B15 B16 B17 B18))) (some (B14,(a7_.mk B15 B16 B17 B18)))))) n (A1.1 == 45) A1.2.at_ 0 A1.2.s A1.2.at_ A1.2.ok A1.2.left)))
def dM_:Nat->Bs->Option (Int × Bool)
 |0,_=>none
 |n+1,s=>
  ((aE_ n (a7_.mk s 0 true 0)).bind fun A1=>(cond A1.2.ok ((aV_ n A1.1).bind fun A2=>(some (A1.1,(A2 == s)))) (some (A1.1,false))))
def cj_:Nat->a7_->Bs->Option a7_
 |0,_,_=>none
 |n+1,c,what=>
  (cond (decide ((W ((c.s.length:Int) - c.at_))<(what.length:Int))) (some { c with ok:=false }) (f6_ c.at_ (W (c.at_+(what.length:Int))) c.s.length (let C1:Bool:=(!(((c.s.take (W (c.at_+(what.length:Int))).toNat).drop c.at_.toNat) == what));(cond C1 (some { c with ok:=false }) (some { c with at_:=(W (c.at_+(what.length:Int))) })))))
abbrev aH_.K4:Type:=Bs->Int->Bool->Int->(List Int)->Option (Bs × a7_)
abbrev aH_.T4:Type:=Bs->Int->Bool->Int->(List Int)->Option (Bs × a7_)
def aH_.step4 (n:Nat) (k0:aH_.K4) (back:aH_.T4):aH_.T4:=fun c0 c1 c2 c3 out_1=>
 (cond c2 ((c1_ n (a7_.mk c0 c1 c2 c3)).bind fun A2=>(cond (A2.1 != 34) ((c1_ n A2.2).bind fun A3=>(cond (A3.1 == 92) (cond (decide ((W (A3.2.at_+1))>=(A3.2.s.length:Int))) (k0 A3.2.s (W (A3.2.at_+1)) false A3.2.left out_1) (inB (W (A3.2.at_+1)) A3.2.s.length (bk_ (out_1.length+([((A3.2.s.getD (W (A3.2.at_+1)).toNat 0).toNat:Int)]:List Int).length) 1 (back A3.2.s (W ((W (A3.2.at_+1))+1)) A3.2.ok A3.2.left (out_1++([((A3.2.s.getD (W (A3.2.at_+1)).toNat 0).toNat:Int)]:List Int)))))) (cond (decide (A3.2.at_>=(A3.2.s.length:Int))) (k0 A3.2.s A3.2.at_ false A3.2.left out_1) (inB A3.2.at_ A3.2.s.length (bk_ (out_1.length+([((A3.2.s.getD A3.2.at_.toNat 0).toNat:Int)]:List Int).length) 1 (back A3.2.s (W (A3.2.at_+1)) A3.2.ok A3.2.left (out_1++([((A3.2.s.getD A3.2.at_.toNat 0).toNat:Int)]:List Int)))))))) (k0 A2.2.s A2.2.at_ A2.2.ok A2.2.left out_1))) (k0 c0 c1 c2 c3 out_1))
def aH_.loop4 (n:Nat) (k0:aH_.K4) (N:Nat):aH_.T4:=cv_ (fun _ _ _ _ _=>none) (aH_.step4 n k0) N
def aH_:Nat->a7_->Option (Bs × a7_)
 |0,_=>none
 |n+1,c=>
  ((cj_ n c [34]).bind fun A1=>(aH_.loop4 n (fun B4 B5 B6 B7 B8=>((cj_ n (a7_.mk B4 B5 B6 B7) [34]).bind fun A9=>(some ((hS_ B8),A9)))) n A1.s A1.at_ A1.ok A1.left ([]:List Int)))
abbrev a0_.K8_1:Type:=Bs->Bs->Int->Bool->Int->Int->Int->Bs->Int->Int->Bs->(List aa_)->(List Bs)->Option (aa_ × a7_)
abbrev a0_.T8:Type:=Int->Bs->Bs->Int->Bool->Int->Int->Int->Bs->Int->Int->Bs->(List aa_)->(List Bs)->Option (aa_ × a7_)
def a0_.step8 (n:Nat) (spec_l2Value_:a7_->Int->Option (aa_ × a7_)) (k0:a0_.K8_1) (back:a0_.T8):a0_.T8:=fun depth end_1 c0 c1 c2 c3 t40 t41 t42 out0 out1 out2 out3 out4=>
 (cond c2 ((c1_ n (a7_.mk c0 c1 c2 c3)).bind fun A2=>(inB 0 end_1.length (cond (A2.1 != ((end_1.getD 0 0).toNat:Int)) (cond (decide ((out3.length:Int) > 0)) ((cj_ n A2.2 [44]).bind fun A3=>(cond (out0 == 5) ((aH_ n A3).bind fun A4=>(bk_ (out4.length+([A4.1]:List Bs).length) 16 ((cj_ n A4.2 [58]).bind fun A5=>((spec_l2Value_ A5 (W (depth - 1))).bind fun A6=>(bk_ (out3.length+([(aa_.re A6.1)]:List aa_).length) 80 (back depth end_1 A6.2.s A6.2.at_ A6.2.ok A6.2.left t40 t41 t42 out0 out1 out2 (out3++([(aa_.re A6.1)]:List aa_)) (out4++([A4.1]:List Bs)))))))) ((spec_l2Value_ A3 (W (depth - 1))).bind fun A7=>(bk_ (out3.length+([(aa_.re A7.1)]:List aa_).length) 80 (back depth end_1 A7.2.s A7.2.at_ A7.2.ok A7.2.left t40 t41 t42 out0 out1 out2 (out3++([(aa_.re A7.1)]:List aa_)) out4))))) (cond (out0 == 5) ((aH_ n A2.2).bind fun A8=>(bk_ (out4.length+([A8.1]:List Bs).length) 16 ((cj_ n A8.2 [58]).bind fun A9=>((spec_l2Value_ A9 (W (depth - 1))).bind fun A10=>(bk_ (out3.length+([(aa_.re A10.1)]:List aa_).length) 80 (back depth end_1 A10.2.s A10.2.at_ A10.2.ok A10.2.left t40 t41 t42 out0 out1 out2 (out3++([(aa_.re A10.1)]:List aa_)) (out4++([A8.1]:List Bs)))))))) ((spec_l2Value_ A2.2 (W (depth - 1))).bind fun A11=>(bk_ (out3.length+([(aa_.re A11.1)]:List aa_).length) 80 (back depth end_1 A11.2.s A11.2.at_ A11.2.ok A11.2.left t40 t41 t42 out0 out1 out2 (out3++([(aa_.re A11.1)]:List aa_)) out4))))) (k0 end_1 A2.2.s A2.2.at_ A2.2.ok A2.2.left t40 t41 t42 out0 out1 out2 out3 out4)))) (k0 end_1 c0 c1 c2 c3 t40 t41 t42 out0 out1 out2 out3 out4))
def a0_.loop8 (n:Nat) (spec_l2Value_:a7_->Int->Option (aa_ × a7_)) (k0:a0_.K8_1) (N:Nat):a0_.T8:=cv_ (fun _ _ _ _ _ _ _ _ _ _ _ _ _ _=>none) (a0_.step8 n spec_l2Value_ k0) N
mutual
def bT_:Nat->a7_->Int->Option (aa_ × a7_)
 |0,_,_=>none
 |n+1,c,depth=>
  (cond (depth == 0) (some ((aa_.mk 0 0 [] ([]:List aa_) ([]:List Bs)),(a7_.mk c.s c.at_ false (W (c.left - 1))))) (cond (decide ((W (c.left - 1))<0)) (some ((aa_.mk 0 0 [] ([]:List aa_) ([]:List Bs)),(a7_.mk c.s c.at_ false (W (c.left - 1))))) (cond (!c.ok) (some ((aa_.mk 0 0 [] ([]:List aa_) ([]:List Bs)),{ c with left:=(W (c.left - 1)) })) ((c1_ n { c with left:=(W (c.left - 1)) }).bind fun A1=>(cond (A1.1 == 110) ((cj_ n A1.2 [110,117,108,108]).bind fun A2=>(some ((aa_.mk 0 0 [] ([]:List aa_) ([]:List Bs)),A2))) (cond (A1.1 == 116) ((cj_ n A1.2 [116,114,117,101]).bind fun A3=>(some ((aa_.mk 1 1 [] ([]:List aa_) ([]:List Bs)),A3))) (cond (A1.1 == 102) ((cj_ n A1.2 [102,97,108,115,101]).bind fun A4=>(some ((aa_.mk 1 0 [] ([]:List aa_) ([]:List Bs)),A4))) (cond (A1.1 == 34) ((aH_ n A1.2).bind fun A5=>(some ((aa_.mk 3 0 A5.1 ([]:List aa_) ([]:List Bs)),A5.2))) (cond (A1.1 == 91) (cond (A1.1 == 91) ((a0_ n A1.2 depth).bind fun A6=>(some ((aa_.re A6.1),A6.2))) ((aE_ n A1.2).bind fun A7=>(some ((aa_.mk 2 A7.1 [] ([]:List aa_) ([]:List Bs)),A7.2)))) (cond (A1.1 == 123) ((a0_ n A1.2 depth).bind fun A8=>(some ((aa_.re A8.1),A8.2))) ((aE_ n A1.2).bind fun A9=>(some ((aa_.mk 2 A9.1 [] ([]:List aa_) ([]:List Bs)),A9.2)))))))))))))
def a0_:Nat->a7_->Int->Option (aa_ × a7_)
 |0,_,_=>none
 |n+1,c,depth=>
  ((c1_ n c).bind fun A1=>(cond (A1.1 == 123) (a0_.loop8 n (bT_ n) (fun B12 B13 B14 B15 B16 B17 B18 B19 B20 B21 B22 B23 B24=>((cj_ n (a7_.mk B13 B14 B15 B16) B12).bind fun A25=>(some ((aa_.mk B20 B21 B22 B23 B24),A25)))) n depth [125] A1.2.s (W (A1.2.at_+1)) A1.2.ok A1.2.left 0 0 [] 5 0 [] ([]:List aa_) ([]:List Bs)) (a0_.loop8 n (bT_ n) (fun B26 B27 B28 B29 B30 B31 B32 B33 B34 B35 B36 B37 B38=>((cj_ n (a7_.mk B27 B28 B29 B30) B26).bind fun A39=>(some ((aa_.mk B34 B35 B36 B37 B38),A39)))) n depth [93] A1.2.s (W (A1.2.at_+1)) A1.2.ok A1.2.left 0 0 [] 4 0 [] ([]:List aa_) ([]:List Bs))))
end
def d4_:Nat->Bs->Option (aa_ × Bool)
 |0,_=>none
 |n+1,s=>
  (cond (s == []) (some ((aa_.mk 0 0 [] ([]:List aa_) ([]:List Bs)),false)) (cond (decide ((s.length:Int) > 6000)) (some ((aa_.mk 0 0 [] ([]:List aa_) ([]:List Bs)),false)) ((bT_ n (a7_.mk s 0 true 400) 6).bind fun A1=>(cond (!A1.2.ok) (some ((aa_.mk 0 0 [] ([]:List aa_) ([]:List Bs)),false)) (cond (A1.2.at_ != (s.length:Int)) (some ((aa_.mk 0 0 [] ([]:List aa_) ([]:List Bs)),false)) ((c3_ n (aa_.re A1.1)).bind fun A2=>(cond (!(A2 == s)) (some ((aa_.mk 0 0 [] ([]:List aa_) ([]:List Bs)),false)) (some ((aa_.re A1.1),true)))))))))
def d0_:Nat->aa_->Bs->Option (aa_ × Bool)
 |0,_,_=>none
 |n+1,j,name=>
  ((cI_ n (aa_.re j) name).bind fun A1=>((cW_ n (aa_.re j)).bind fun A2=>(cond (!A2) (some ((aa_.mk 0 0 [] ([]:List aa_) ([]:List Bs)),false)) (cond (j.kind != 5) (some ((aa_.mk 0 0 [] ([]:List aa_) ([]:List Bs)),false)) (cond (decide (A1<0)) (some ((aa_.mk 0 0 [] ([]:List aa_) ([]:List Bs)),false)) (inB A1 j.list.length ((br_ n (aa_.re (j.list.getD A1.toNat aa_.dflt))).bind fun A3=>(some ((aa_.re A3),true)))))))))
abbrev a6_.K6:Type:=Bs->(List Bs)->(List Bs)->(List Int)->Option ((List Bs) × Bool)
abbrev a6_.T6:Type:=Bs->Int->(List Bs)->(List Bs)->(List Int)->Option ((List Bs) × Bool)
def a6_.step6 (n:Nat) (k0:a6_.K6) (back:a6_.T6):a6_.T6:=fun o t7 t4 t5 t6=>
 (cond (decide (t7<(o.length:Int))) (inB t7 o.length (cond (((o.getD t7.toNat 0).toNat:Int) == 47) (cond (decide (t7 > 0)) (bk_ (t5.length+([(hS_ t6)]:List Bs).length) 16 (back o (W (t7+1)) t4 (t5++([(hS_ t6)]:List Bs)) ([]:List Int))) (back o (W (t7+1)) t4 t5 ([]:List Int))) (cond (t7 == 0) (some (t4,false)) (inB t7 o.length (cond (((o.getD t7.toNat 0).toNat:Int) == 126) (cond ((W (t7+1)) == (o.length:Int)) (some (t4,false)) (inB (W (t7+1)) o.length (cond (((o.getD (W (t7+1)).toNat 0).toNat:Int) != 48) (inB (W (t7+1)) o.length (cond (((o.getD (W (t7+1)).toNat 0).toNat:Int) != 49) (some (t4,false)) (inB (W (t7+1)) o.length (cond (((o.getD (W (t7+1)).toNat 0).toNat:Int) == 48) (bk_ (t6.length+([126]:List Int).length) 1 (back o (W ((W (t7+1))+1)) t4 t5 (t6++([126]:List Int)))) (bk_ (t6.length+([47]:List Int).length) 1 (back o (W ((W (t7+1))+1)) t4 t5 (t6++([47]:List Int)))))))) (inB (W (t7+1)) o.length (cond (((o.getD (W (t7+1)).toNat 0).toNat:Int) == 48) (bk_ (t6.length+([126]:List Int).length) 1 (back o (W ((W (t7+1))+1)) t4 t5 (t6++([126]:List Int)))) (bk_ (t6.length+([47]:List Int).length) 1 (back o (W ((W (t7+1))+1)) t4 t5 (t6++([47]:List Int))))))))) (inB t7 o.length (bk_ (t6.length+([((o.getD t7.toNat 0).toNat:Int)]:List Int).length) 1 (back o (W (t7+1)) t4 t5 (t6++([((o.getD t7.toNat 0).toNat:Int)]:List Int)))))))))) (k0 o t4 t5 t6))
def a6_.loop6 (n:Nat) (k0:a6_.K6) (N:Nat):a6_.T6:=cv_ (fun _ _ _ _ _=>none) (a6_.step6 n k0) N
def a6_:Nat->Bs->Option ((List Bs) × Bool)
 |0,_=>none
 |n+1,o=>
  (a6_.loop6 n (fun B1 B2 B3 B4=>(cond (!(B1 == [])) (bk_ (B3.length+([(hS_ B4)]:List Bs).length) 16 (cond (decide (((B3++([(hS_ B4)]:List Bs)).length:Int) > 6)) (some (B2,false)) (some ((B3++([(hS_ B4)]:List Bs)),true)))) (cond (decide ((B3.length:Int) > 6)) (some (B2,false)) (some (B3,true))))) n o 0 ([]:List Bs) ([]:List Bs) ([]:List Int))
abbrev bh_.K7:Type:=Int->Int->Bs->(List aa_)->(List Bs)->Int->Int->Int->Bs->Int->Int->Int->Bs->Int->Int->Bs->(List aa_)->(List Bs)->Option (TOp × Bool)
abbrev bh_.T7:Type:=Int->Int->Int->Bs->(List aa_)->(List Bs)->Int->Int->Int->Bs->Int->Int->Int->Bs->Int->Int->Bs->Int->Int->Bs->(List Bs)->(List aa_)->(List Bs)->(List aa_)->(List Bs)->Option (TOp × Bool)
def bh_.step7 (n:Nat) (k0:bh_.K7) (back:bh_.T7):bh_.T7:=fun t10 append0 append1 append2 append3 append4 t20 t22 t23 t24 t40 t42 t43 t44 t50 t51 t52 t70 t71 t72 t9 t53 t54 t73 t74=>
 (cond (decide (t10<(t9.length:Int))) (cond (t50 == 3) (inB t10 t9.length (cond (t52 == (t9.getD t10.toNat [])) (back (W (t10+1)) append0 append1 append2 append3 append4 t20 t22 t23 t24 t10 t42 t43 t44 t50 t51 t52 t70 t71 t72 t9 t53 t54 t73 t74) (back (W (t10+1)) append0 append1 append2 append3 append4 t20 t22 t23 t24 t40 t42 t43 t44 t50 t51 t52 t70 t71 t72 t9 t53 t54 t73 t74))) (back (W (t10+1)) append0 append1 append2 append3 append4 t20 t22 t23 t24 t40 t42 t43 t44 t50 t51 t52 t70 t71 t72 t9 t53 t54 t73 t74)) (k0 append0 append1 append2 append3 append4 t20 t22 t23 t24 t40 t42 t43 t44 t70 t71 t72 t73 t74))
def bh_.loop7 (n:Nat) (k0:bh_.K7) (N:Nat):bh_.T7:=cv_ (fun _ _ _ _ _ _ _ _ _ _ _ _ _ _ _ _ _ _ _ _ _ _ _ _ _=>none) (bh_.step7 n k0) N
def bh_.tail15 (n:Nat) (t12:Bool) (append0 append1:Int) (append2:Bs) (append3:List aa_) (append4:List Bs) (t20 t22 t23:Int) (t24:Bs) (t40:Int) (t41:List Bs) (t42 t43:Int) (t44:Bs) (t45:List aa_) (t46:List Bs):Option (TOp × Bool) :=
 (cond (!t12) (some ((TOp.mk 0 [] (aa_.mk 0 0 [] [] [])),false)) (cond (t40 == 0) (some ((TOp.mk 0 [] (aa_.mk 0 0 [] [] [])),false)) ((d3_ n (TOp.mk t40 t41 (aa_.mk t42 t43 t44 t45 t46))).bind fun A24=>((dC_ n (aa_.re A24) (aa_.mk append0 append1 append2 append3 append4)).bind fun A25=>(cond (!A25) (some ((TOp.mk 0 [] (aa_.mk 0 0 [] [] [])),false)) (some ((TOp.mk t40 t41 (aa_.mk t42 t43 t44 t45 t46)),true)))))))
def bh_:Nat->aa_->Option (TOp × Bool)
 |0,_=>none
 |n+1,o=>
  ((d0_ n (aa_.re o) [111,112]).bind fun A1=>((d0_ n (aa_.re o) [112,97,116,104]).bind fun A2=>((dn_ n ()).bind fun A3=>(bh_.loop7 n (fun B4 B5 B6 B7 B8 B9 B10 B11 B12 B13 B14 B15 B16 B17 B18 B19 B20 B21=>((a6_ n B19).bind fun A22=>((d0_ n (aa_.mk B4 B5 B6 B7 B8) [118,97,108,117,101]).bind fun A23=>(bh_.tail15 n A22.2 B4 B5 B6 B7 B8 B9 B10 B11 B12 B13 A22.1 A23.1.kind A23.1.n_ A23.1.s A23.1.list A23.1.names)))) n 1 o.kind o.n_ o.s o.list o.names 0 0 0 [] 0 0 0 [] A1.1.kind A1.1.n_ A1.1.s A2.1.kind A2.1.n_ A2.1.s A3 A1.1.list A1.1.names A2.1.list A2.1.names))))
abbrev ad_.K20:Type:=Bs->Int->Int->Int->Int->Int->Int->Bs->Int->Int->Int->Int->Int->Bs->(List Bs)->(List aa_)->(List Bs)->(List TOp)->Option (aC_ × Bool)
abbrev ad_.T20:Type:=Bs->Int->Int->Int->Int->Int->Int->Int->Bs->Int->Int->Int->Int->Int->Bs->(List Bs)->Int->Int->Bs->(List aa_)->(List Bs)->(List TOp)->(List aa_)->(List Bs)->Option (aC_ × Bool)
def ad_.step20 (n:Nat) (k3:ad_.K20) (back:ad_.T20):ad_.T20:=fun o t6 t10 t20 t21 t22 t23 t24 t25 t40 t41 t42 t43 t44 t45 t5 t80 t81 t82 t46 t47 t48 t83 t84=>
 (cond (decide (t10<(t83.length:Int))) (inB t10 t83.length ((bh_ n (aa_.re (t83.getD t10.toNat aa_.dflt))).bind fun A13=>(cond (!A13.2) (some ((aC_.mk 0 0 0 (aa_.mk 0 0 [] ([]:List aa_) ([]:List Bs)) ([]:List TOp)),false)) (bk_ (t48.length+([{ A13.1 with value:=(aa_.re A13.1.value) }]:List TOp).length) 112 (back o t6 (W (t10+1)) t20 t21 t22 t23 t24 t25 t40 t41 t42 t43 t44 t45 t5 t80 t81 t82 t46 t47 (t48++([{ A13.1 with value:=(aa_.re A13.1.value) }]:List TOp)) t83 t84))))) (k3 o t6 t20 t21 t22 t23 t24 t25 t40 t41 t42 t43 t44 t45 t5 t46 t47 t48))
def ad_.loop20 (n:Nat) (k3:ad_.K20) (N:Nat):ad_.T20:=cv_ (fun _ _ _ _ _ _ _ _ _ _ _ _ _ _ _ _ _ _ _ _ _ _ _ _=>none) (ad_.step20 n k3) N
abbrev ad_.K5:Type:=Bs->Int->Int->Int->Int->Int->Bs->Int->Int->Int->Int->Int->Bs->(List aa_)->(List Bs)->(List TOp)->Option (aC_ × Bool)
abbrev ad_.T5:Type:=Bs->Int->Int->Int->Int->Int->Int->Bs->Int->Int->Int->Int->Int->Bs->(List Bs)->(List aa_)->(List Bs)->(List TOp)->Option (aC_ × Bool)
def ad_.step5 (n:Nat) (k0:ad_.K5) (back:ad_.T5):ad_.T5:=fun o t6 t20 t21 t22 t23 t24 t25 t40 t41 t42 t43 t44 t45 t5 t46 t47 t48=>
 (cond (decide (t6<(t5.length:Int))) (cond (decide (t6<6)) (inB t6 t5.length (let C2:Bool:=((t5.getD t6.toNat []) == [101,118,101,110,116,58,32,115,110,97,112]);(cond C2 (back o (W (t6+1)) t20 t21 t22 t23 t24 t25 1 t41 t42 t43 t44 t45 t5 t46 t47 t48) (let C3:Bool:=((t5.getD t6.toNat []) == [101,118,101,110,116,58,32,112,97,116,99,104]);(cond C3 (back o (W (t6+1)) t20 t21 t22 t23 t24 t25 2 t41 t42 t43 t44 t45 t5 t46 t47 t48) ((cO_ n (t5.getD t6.toNat []) [105,100,58,32]).bind fun A4=>(cond (!(A4 == [])) ((cO_ n (t5.getD t6.toNat []) [105,100,58,32]).bind fun A5=>((dM_ n A5).bind fun A6=>(back o (W (t6+1)) t20 t21 t22 t23 t24 t25 t40 A6.1 t42 t43 t44 t45 t5 t46 t47 t48))) ((cO_ n (t5.getD t6.toNat []) [98,97,115,101,58,32]).bind fun A7=>(cond (!(A7 == [])) ((cO_ n (t5.getD t6.toNat []) [98,97,115,101,58,32]).bind fun A8=>((dM_ n A8).bind fun A9=>(back o (W (t6+1)) t20 t21 t22 t23 t24 t25 t40 t41 A9.1 t43 t44 t45 t5 t46 t47 t48))) ((cO_ n (t5.getD t6.toNat []) [100,97,116,97,58,32]).bind fun A10=>(cond (!(A10 == [])) ((cO_ n (t5.getD t6.toNat []) [100,97,116,97,58,32]).bind fun A11=>((d4_ n A11).bind fun A12=>(cond (t40 == 1) (back o (W (t6+1)) t20 t21 t22 t23 t24 t25 t40 t41 t42 A12.1.kind A12.1.n_ A12.1.s t5 A12.1.list A12.1.names t48) (ad_.loop20 n (fun B14 B15 B16 B17 B18 B19 B20 B21 B22 B23 B24 B25 B26 B27 B28 B29 B30 B31=>(back B14 (W (B15+1)) B16 B17 B18 B19 B20 B21 B22 B23 B24 B25 B26 B27 B28 B29 B30 B31)) n o t6 0 t20 t21 t22 t23 t24 t25 t40 t41 t42 t43 t44 t45 t5 A12.1.kind A12.1.n_ A12.1.s t46 t47 t48 A12.1.list A12.1.names)))) (back o (W (t6+1)) t20 t21 t22 t23 t24 t25 t40 t41 t42 t43 t44 t45 t5 t46 t47 t48)))))))))))) (k0 o t20 t21 t22 t23 t24 t25 t40 t41 t42 t43 t44 t45 t46 t47 t48)) (k0 o t20 t21 t22 t23 t24 t25 t40 t41 t42 t43 t44 t45 t46 t47 t48))
def ad_.loop5 (n:Nat) (k0:ad_.K5) (N:Nat):ad_.T5:=cv_ (fun _ _ _ _ _ _ _ _ _ _ _ _ _ _ _ _ _ _=>none) (ad_.step5 n k0) N
def ad_:Nat->Bs->Option (aC_ × Bool)
 |0,_=>none
 |n+1,o=>
  ((bo_ n o).bind fun A1=>(ad_.loop5 n (fun B32 B33 B34 B35 B36 B37 B38 B39 B40 B41 B42 B43 B44 B45 B46 B47=>(cond (B32 == []) (some ((aC_.mk 0 0 0 (aa_.mk 0 0 [] ([]:List aa_) ([]:List Bs)) ([]:List TOp)),false)) ((de_ n (aC_.mk B39 B40 B41 (aa_.mk B42 B43 B44 B45 B46) B47)).bind fun A48=>(cond (!(A48 == B32)) (some ((aC_.mk 0 0 0 (aa_.mk 0 0 [] ([]:List aa_) ([]:List Bs)) ([]:List TOp)),false)) (some ((aC_.mk B39 B40 B41 (aa_.mk B42 B43 B44 B45 B46) B47),true)))))) n o 0 0 0 0 0 0 [] 0 0 0 0 0 [] A1 ([]:List aa_) ([]:List Bs) ([]:List TOp)))
abbrev cu_.K8:Type:=Bs->Bs->Bool->(List aC_)->Bs->Bool->Option (aw_ × (List aC_))
abbrev cu_.T8:Type:=Bs->Bs->Bool->(List aC_)->Bs->Bool->Option (aw_ × (List aC_))
def cu_.step8 (n:Nat) (k0:cu_.K8) (back:cu_.T8):cu_.T8:=fun wait t40 t41 out_1 bad0 bad1=>
 ((b5_ n wait).bind fun A1=>(cond (decide (A1<0)) (k0 wait t40 t41 out_1 bad0 bad1) (f6_ 0 A1 wait.length ((ad_ n ((wait.take A1.toNat).drop 0)).bind fun A2=>(cond (!A2.2) (some ((aw_.mk bad0 bad1),out_1)) (bk_ (out_1.length+([{ A2.1 with doc:=(aa_.re A2.1.doc) }]:List aC_).length) 128 (f6_ A1 (wait.length:Int) wait.length (back ((wait.take (wait.length:Int).toNat).drop A1.toNat) t40 t41 (out_1++([{ A2.1 with doc:=(aa_.re A2.1.doc) }]:List aC_)) bad0 bad1))))))))
def cu_.loop8 (n:Nat) (k0:cu_.K8) (N:Nat):cu_.T8:=cv_ (fun _ _ _ _ _ _=>none) (cu_.step8 n k0) N
def cu_:Nat->aw_->Bs->Option (aw_ × (List aC_))
 |0,_,_=>none
 |n+1,s,oy_=>
  (cond s.bad (some ((aw_.mk [] true),([]:List aC_))) (cond (decide (s.wait.length+oy_.length<=9223372036854775807)) (cu_.loop8 n (fun B3 B4 B5 B6 B7 B8=>(cond (decide ((B3.length:Int) > 14000)) (some ((aw_.mk B7 B8),B6)) (some ((aw_.mk B3 false),B6)))) n (s.wait++oy_) [] false ([]:List aC_) [] true) none))
abbrev bE_.K4:Type:=Bs->Bool->Bs->Bool->(List aC_)->Option (aw_ × (List aC_))
abbrev bE_.T4:Type:=(List Bs)->Int->Bs->Bool->Bs->Bool->(List aC_)->Option (aw_ × (List aC_))
def bE_.step4 (n:Nat) (k0:bE_.K4) (back:bE_.T4):bE_.T4:=fun pieces i s0 s1 t40 t41 out_1=>
 (cond (decide (i<(pieces.length:Int))) (inB i pieces.length ((cu_ n (aw_.mk s0 s1) (pieces.getD i.toNat [])).bind fun A1=>(bk_ (out_1.length+A1.2.length) 128 (back pieces (W (i+1)) A1.1.wait A1.1.bad t40 t41 (out_1++A1.2))))) (k0 s0 s1 t40 t41 out_1))
def bE_.loop4 (n:Nat) (k0:bE_.K4) (N:Nat):bE_.T4:=cv_ (fun _ _ _ _ _ _ _=>none) (bE_.step4 n k0) N
def bE_:Nat->aw_->(List Bs)->Option (aw_ × (List aC_))
 |0,_,_=>none
 |n+1,s,pieces=>
  (bE_.loop4 n (fun B2 B3 B4 B5 B6=>(some ((aw_.mk B2 B3),B6))) n pieces 0 s.wait s.bad [] false ([]:List aC_))
abbrev laws_FnCut.K12:Type:=(List Int)->Bs->Bs->Option Bool
abbrev laws_FnCut.T12:Type:=(List Int)->Bs->Bs->Int->(List Int)->(List Bs)->Option Bool
def laws_FnCut.step12 (n:Nat) (k0:laws_FnCut.K12) (back:laws_FnCut.T12):laws_FnCut.T12:=fun o t3 t6 t7 t4 t5=>
 (cond (decide (t7<(t5.length:Int))) (cond (decide (t7<(t4.length:Int))) (inB t7 t5.length (inB t7 t4.length ((fq_ n (t4.getD t7.toNat 0)).bind fun A5=>(cond (decide (((t5.getD t7.toNat []).length:Int) > A5)) (some false) (inB t7 t5.length (cond (decide (t6.length+(t5.getD t7.toNat []).length<=9223372036854775807)) (back o t3 (t6++(t5.getD t7.toNat [])) (W (t7+1)) t4 t5) none)))))) (inB t7 t5.length (cond (decide (t6.length+(t5.getD t7.toNat []).length<=9223372036854775807)) (back o t3 (t6++(t5.getD t7.toNat [])) (W (t7+1)) t4 t5) none))) (k0 o t3 t6))
def laws_FnCut.loop12 (n:Nat) (k0:laws_FnCut.K12) (N:Nat):laws_FnCut.T12:=cv_ (fun _ _ _ _ _ _=>none) (laws_FnCut.step12 n k0) N
def laws_FnCut:Nat->(List Int)->Option Bool
 |0,_=>none
 |n+1,o=>
  ((gh_ n o).bind fun A1=>(cond A1 (some true) ((dk_ n o).bind fun A2=>((b8_ n A2.1 A2.2).bind fun A3=>((bZ_ n A2.1 A2.2).bind fun A4=>(cond ((A3.length:Int) != (A4.length:Int)) (some false) (laws_FnCut.loop12 n (fun B6 B7 B8=>((c5_ n B6).bind fun A9=>((bH_ n A9.1 A9.2).bind fun A10=>((bE_ n A9.1 A9.2).bind fun A11=>(cond (B8 == B7) (let C12:Bool:=(cond (A10.1.wait == A11.1.wait) (cond (A10.1.bad == A11.1.bad) true false) false);(cond C12 (some ((A10.2.length:Int) == (A11.2.length:Int))) (some false))) (some false)))))) n o A2.1 [] 0 A2.2 A3)))))))
end Go.Pi
