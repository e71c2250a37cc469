/- EventRead of the program returns what EventRead of the reference returns, for all arguments. Text 4 of 6. -/
import Derived.Test.YtccdklkcfjmchaaGreatDoorErC
section
set_option linter.unusedVariables false
set_option maxRecDepth 100000
namespace Go.Pi
def aP_.step5 (n : Nat) (k0 : (List Bs) → Option (List Bs)) (back : Bs → Int → Int → (List Bs) → Option (List Bs)) (text : Bs) (from_1 : Int) (i : Int) (out_1 : List Bs) : Option (List Bs) :=
  (cond (decide (i < (text.length : Int))) (inB i text.length (cond (((text.getD i.toNat 0).toNat : Int) == 10) (gn_ from_1 i text.length (ci_ (out_1.length + ([((text.take i.toNat).drop from_1.toNat)] : List Bs).length) 16 (back text (W (i + 1)) (W (i + 1)) (out_1 ++ ([((text.take i.toNat).drop from_1.toNat)] : List Bs))))) (back text from_1 (W (i + 1)) out_1))) (k0 out_1))
def aP_.loop5 (n : Nat) (k0 : (List Bs) → Option (List Bs)) (N : Nat) : Bs → Int → Int → (List Bs) → Option (List Bs) :=
  cI_ (fun _ _ _ _ => none) (fun back => aP_.step5 n k0 back) N
def aP_ : Nat → Bs → Option (List Bs)
  | 0, _ => none
  | n + 1, text =>
    (aP_.loop5 n (fun xy1 => (some xy1)) n text 0 0 ([] : List Bs))
def bn_ : Nat → Bs → Bs → Option Bs
  | 0, _, _ => none
  | n + 1, line, head =>
    (cond (decide ((line.length : Int) < (head.length : Int))) (some []) (gn_ 0 (head.length : Int) line.length (cond (!(((line.take (head.length : Int).toNat).drop 0) == head)) (some []) (gn_ (head.length : Int) (line.length : Int) line.length (some ((line.take (line.length : Int).toNat).drop (head.length : Int).toNat))))))
def bG_ : Nat → a3_ → Option (Int × a3_)
  | 0, _ => none
  | n + 1, c =>
    (cond (decide (c.at_ ≥ (c.s.length : Int))) (some (0, c)) (inB c.at_ c.s.length (some (((c.s.getD c.at_.toNat 0).toNat : Int), c))))
def ax_.step7 (n : Nat) (k0 : Bool → Int → Int → Bs → Int → Bool → Int → Option (Int × a3_)) (back : Bool → Int → Int → Bs → Int → Bool → Int → Option (Int × a3_)) (t3 : Bool) (t4 : Int) (t5 : Int) (o0 : Bs) (o1 : Int) (o2 : Bool) (o3 : Int) : Option (Int × a3_) :=
  ((bG_ n (a3_.mk o0 o1 o2 o3)).bind fun xr2 => (cond (decide (xr2.1 ≥ 48)) ((bG_ n xr2.2).bind fun xr3 => (cond (decide (xr3.1 ≤ 57)) (cond (decide ((W (xr3.2.at_ - t4)) < 11)) ((bG_ n xr3.2).bind fun xr4 => (back t3 t4 (W ((W ((W (10 * t5)) + (W (xr4.1)))) - 48)) xr4.2.s (W (xr4.2.at_ + 1)) xr4.2.ok xr4.2.left)) (k0 t3 t4 t5 xr3.2.s xr3.2.at_ xr3.2.ok xr3.2.left)) (k0 t3 t4 t5 xr3.2.s xr3.2.at_ xr3.2.ok xr3.2.left))) (k0 t3 t4 t5 xr2.2.s xr2.2.at_ xr2.2.ok xr2.2.left)))
def ax_.loop7 (n : Nat) (k0 : Bool → Int → Int → Bs → Int → Bool → Int → Option (Int × a3_)) (N : Nat) : Bool → Int → Int → Bs → Int → Bool → Int → Option (Int × a3_) :=
  cI_ (fun _ _ _ _ _ _ _ => none) (fun back => ax_.step7 n k0 back) N
def ax_ : Nat → a3_ → Option (Int × a3_)
  | 0, _ => none
  | n + 1, o =>
    ((bG_ n o).bind fun xr1 => (cond (xr1.1 == 45) (ax_.loop7 n (fun xy5 xy6 xy7 xy8 xy9 xy10 xy11 => (cond (xy9 == xy6) (cond xy5 (some ((W (0 - xy7)), (a3_.mk xy8 xy9 false xy11))) (some (xy7, (a3_.mk xy8 xy9 false xy11)))) (cond xy5 (some ((W (0 - xy7)), (a3_.mk xy8 xy9 xy10 xy11))) (some (xy7, (a3_.mk xy8 xy9 xy10 xy11)))))) n (xr1.1 == 45) (W (xr1.2.at_ + 1)) 0 xr1.2.s (W (xr1.2.at_ + 1)) xr1.2.ok xr1.2.left) (ax_.loop7 n (fun xy12 xy13 xy14 xy15 xy16 xy17 xy18 => (cond (xy16 == xy13) (cond xy12 (some ((W (0 - xy14)), (a3_.mk xy15 xy16 false xy18))) (some (xy14, (a3_.mk xy15 xy16 false xy18)))) (cond xy12 (some ((W (0 - xy14)), (a3_.mk xy15 xy16 xy17 xy18))) (some (xy14, (a3_.mk xy15 xy16 xy17 xy18)))))) n (xr1.1 == 45) xr1.2.at_ 0 xr1.2.s xr1.2.at_ xr1.2.ok xr1.2.left)))
def aI_.step7 (n : Nat) (k0 : Bool → Bs → Option Bs) (back : Int → Bool → Bs → Option Bs) (n_1 : Int) (below : Bool) (out_1 : Bs) : Option Bs :=
  (cond (n_1 != 0) (cond (decide ((Int.tmod n_1 10) < 0)) (let xv1 : Bs := (eN_ ([(IntKind.u8.wrap ((W (48 + (W (0 - (Int.tmod n_1 10)))))))] : List Int)); (cond (decide (xv1.length + out_1.length ≤ 9223372036854775807)) (back (W (Int.tdiv n_1 10)) below (xv1 ++ out_1)) none)) (cond (decide ((eN_ ([(IntKind.u8.wrap ((W (48 + (Int.tmod n_1 10)))))] : List Int)).length + out_1.length ≤ 9223372036854775807)) (let xv2 : Bs := ((eN_ ([(IntKind.u8.wrap ((W (48 + (Int.tmod n_1 10)))))] : List Int)) ++ out_1); (back (W (Int.tdiv n_1 10)) below xv2)) none)) (k0 below out_1))
def aI_.loop7 (n : Nat) (k0 : Bool → Bs → Option Bs) (N : Nat) : Int → Bool → Bs → Option Bs :=
  cI_ (fun _ _ _ => none) (fun back => aI_.step7 n k0 back) N
def aI_ : Nat → Int → Option Bs
  | 0, _ => none
  | n + 1, n1 =>
    (cond (n1 == 0) (some [48]) (aI_.loop7 n (fun xy3 xy4 => (cond xy3 (cond (decide ([45].length + xy4.length ≤ 9223372036854775807)) (some (([45] : Bs) ++ xy4)) none) (some xy4))) n n1 (decide (n1 < 0)) []))
def bY_ : Nat → Bs → Option (Int × Bool)
  | 0, _ => none
  | n + 1, s =>
    ((ax_ n (a3_.mk s 0 true 0)).bind fun xr1 => (cond xr1.2.ok ((aI_ n xr1.1).bind fun xr2 => (some (xr1.1, (xr2 == s)))) (some (xr1.1, false))))
def bj_ : Nat → a3_ → Bs → Option a3_
  | 0, _, _ => none
  | n + 1, c, what =>
    (cond (decide ((W ((c.s.length : Int) - c.at_)) < (what.length : Int))) (some { c with ok := false }) (gn_ c.at_ (W (c.at_ + (what.length : Int))) c.s.length (let xv1 : Bool := (!(((c.s.take (W (c.at_ + (what.length : Int))).toNat).drop c.at_.toNat) == what)); (cond xv1 (some { c with ok := false }) (some { c with at_ := (W (c.at_ + (what.length : Int))) })))))
def ay_.step4 (n : Nat) (k0 : Bs → Int → Bool → Int → (List Int) → Option (Bs × a3_)) (back : Bs → Int → Bool → Int → (List Int) → Option (Bs × a3_)) (c0 : Bs) (c1 : Int) (c2 : Bool) (c3 : Int) (out_1 : List Int) : Option (Bs × a3_) :=
  (cond c2 ((bG_ n (a3_.mk c0 c1 c2 c3)).bind fun xr2 => (cond (xr2.1 != 34) ((bG_ n xr2.2).bind fun xr3 => (cond (xr3.1 == 92) (cond (decide ((W (xr3.2.at_ + 1)) ≥ (xr3.2.s.length : Int))) (k0 xr3.2.s (W (xr3.2.at_ + 1)) false xr3.2.left out_1) (inB (W (xr3.2.at_ + 1)) xr3.2.s.length (ci_ (out_1.length + ([((xr3.2.s.getD (W (xr3.2.at_ + 1)).toNat 0).toNat : Int)] : List Int).length) 1 (back xr3.2.s (W ((W (xr3.2.at_ + 1)) + 1)) xr3.2.ok xr3.2.left (out_1 ++ ([((xr3.2.s.getD (W (xr3.2.at_ + 1)).toNat 0).toNat : Int)] : List Int)))))) (cond (decide (xr3.2.at_ ≥ (xr3.2.s.length : Int))) (k0 xr3.2.s xr3.2.at_ false xr3.2.left out_1) (inB xr3.2.at_ xr3.2.s.length (ci_ (out_1.length + ([((xr3.2.s.getD xr3.2.at_.toNat 0).toNat : Int)] : List Int).length) 1 (back xr3.2.s (W (xr3.2.at_ + 1)) xr3.2.ok xr3.2.left (out_1 ++ ([((xr3.2.s.getD xr3.2.at_.toNat 0).toNat : Int)] : List Int)))))))) (k0 xr2.2.s xr2.2.at_ xr2.2.ok xr2.2.left out_1))) (k0 c0 c1 c2 c3 out_1))
def ay_.loop4 (n : Nat) (k0 : Bs → Int → Bool → Int → (List Int) → Option (Bs × a3_)) (N : Nat) : Bs → Int → Bool → Int → (List Int) → Option (Bs × a3_) :=
  cI_ (fun _ _ _ _ _ => none) (fun back => ay_.step4 n k0 back) N
def ay_ : Nat → a3_ → Option (Bs × a3_)
  | 0, _ => none
  | n + 1, c =>
    ((bj_ n c [34]).bind fun xr1 => (ay_.loop4 n (fun xy4 xy5 xy6 xy7 xy8 => ((bj_ n (a3_.mk xy4 xy5 xy6 xy7) [34]).bind fun xr9 => (some ((eN_ xy8), xr9)))) n xr1.s xr1.at_ xr1.ok xr1.left ([] : List Int)))
def aL_.step8 (n : Nat) (spec_l2Value_ : a3_ → Int → Option (aa_ × a3_)) (k0 : Bs → Bs → Int → Bool → Int → Int → Int → Bs → Int → Int → Bs → (List aa_) → (List Bs) → Option (aa_ × a3_)) (back : Int → Bs → Bs → Int → Bool → Int → Int → Int → Bs → Int → Int → Bs → (List aa_) → (List Bs) → Option (aa_ × a3_)) (depth : Int) (end_1 : Bs) (c0 : Bs) (c1 : Int) (c2 : Bool) (c3 : Int) (t40 : Int) (t41 : Int) (t42 : Bs) (out0 : Int) (out1 : Int) (out2 : Bs) (out3 : List aa_) (out4 : List Bs) : Option (aa_ × a3_) :=
  (cond c2 ((bG_ n (a3_.mk c0 c1 c2 c3)).bind fun xr2 => (inB 0 end_1.length (cond (xr2.1 != ((end_1.getD 0 0).toNat : Int)) (cond (decide ((out3.length : Int) > 0)) ((bj_ n xr2.2 [44]).bind fun xr3 => (cond (out0 == 5) ((ay_ n xr3).bind fun xr4 => (ci_ (out4.length + ([xr4.1] : List Bs).length) 16 ((bj_ n xr4.2 [58]).bind fun xr5 => ((spec_l2Value_ xr5 (W (depth - 1))).bind fun xr6 => (ci_ (out3.length + ([(aa_.re xr6.1)] : List aa_).length) 80 (back depth end_1 xr6.2.s xr6.2.at_ xr6.2.ok xr6.2.left t40 t41 t42 out0 out1 out2 (out3 ++ ([(aa_.re xr6.1)] : List aa_)) (out4 ++ ([xr4.1] : List Bs)))))))) ((spec_l2Value_ xr3 (W (depth - 1))).bind fun xr7 => (ci_ (out3.length + ([(aa_.re xr7.1)] : List aa_).length) 80 (back depth end_1 xr7.2.s xr7.2.at_ xr7.2.ok xr7.2.left t40 t41 t42 out0 out1 out2 (out3 ++ ([(aa_.re xr7.1)] : List aa_)) out4))))) (cond (out0 == 5) ((ay_ n xr2.2).bind fun xr8 => (ci_ (out4.length + ([xr8.1] : List Bs).length) 16 ((bj_ n xr8.2 [58]).bind fun xr9 => ((spec_l2Value_ xr9 (W (depth - 1))).bind fun xr10 => (ci_ (out3.length + ([(aa_.re xr10.1)] : List aa_).length) 80 (back depth end_1 xr10.2.s xr10.2.at_ xr10.2.ok xr10.2.left t40 t41 t42 out0 out1 out2 (out3 ++ ([(aa_.re xr10.1)] : List aa_)) (out4 ++ ([xr8.1] : List Bs)))))))) ((spec_l2Value_ xr2.2 (W (depth - 1))).bind fun xr11 => (ci_ (out3.length + ([(aa_.re xr11.1)] : List aa_).length) 80 (back depth end_1 xr11.2.s xr11.2.at_ xr11.2.ok xr11.2.left t40 t41 t42 out0 out1 out2 (out3 ++ ([(aa_.re xr11.1)] : List aa_)) out4))))) (k0 end_1 xr2.2.s xr2.2.at_ xr2.2.ok xr2.2.left t40 t41 t42 out0 out1 out2 out3 out4)))) (k0 end_1 c0 c1 c2 c3 t40 t41 t42 out0 out1 out2 out3 out4))
def aL_.loop8 (n : Nat) (spec_l2Value_ : a3_ → Int → Option (aa_ × a3_)) (k0 : Bs → Bs → Int → Bool → Int → Int → Int → Bs → Int → Int → Bs → (List aa_) → (List Bs) → Option (aa_ × a3_)) (N : Nat) : Int → Bs → Bs → Int → Bool → Int → Int → Int → Bs → Int → Int → Bs → (List aa_) → (List Bs) → Option (aa_ × a3_) :=
  cI_ (fun _ _ _ _ _ _ _ _ _ _ _ _ _ _ => none) (fun back => aL_.step8 n spec_l2Value_ k0 back) N
mutual
def ba_ : Nat → a3_ → Int → Option (aa_ × a3_)
  | 0, _, _ => none
  | n + 1, c, depth =>
    (cond (depth == 0) (some ((aa_.mk 0 0 [] ([] : List aa_) ([] : List Bs)), (a3_.mk c.s c.at_ false (W (c.left - 1))))) (cond (decide ((W (c.left - 1)) < 0)) (some ((aa_.mk 0 0 [] ([] : List aa_) ([] : List Bs)), (a3_.mk c.s c.at_ false (W (c.left - 1))))) (cond (!c.ok) (some ((aa_.mk 0 0 [] ([] : List aa_) ([] : List Bs)), { c with left := (W (c.left - 1)) })) ((bG_ n { c with left := (W (c.left - 1)) }).bind fun xr1 => (cond (xr1.1 == 110) ((bj_ n xr1.2 [110, 117, 108, 108]).bind fun xr2 => (some ((aa_.mk 0 0 [] ([] : List aa_) ([] : List Bs)), xr2))) (cond (xr1.1 == 116) ((bj_ n xr1.2 [116, 114, 117, 101]).bind fun xr3 => (some ((aa_.mk 1 1 [] ([] : List aa_) ([] : List Bs)), xr3))) (cond (xr1.1 == 102) ((bj_ n xr1.2 [102, 97, 108, 115, 101]).bind fun xr4 => (some ((aa_.mk 1 0 [] ([] : List aa_) ([] : List Bs)), xr4))) (cond (xr1.1 == 34) ((ay_ n xr1.2).bind fun xr5 => (some ((aa_.mk 3 0 xr5.1 ([] : List aa_) ([] : List Bs)), xr5.2))) (cond (xr1.1 == 91) (cond (xr1.1 == 91) ((aL_ n xr1.2 depth).bind fun xr6 => (some ((aa_.re xr6.1), xr6.2))) ((ax_ n xr1.2).bind fun xr7 => (some ((aa_.mk 2 xr7.1 [] ([] : List aa_) ([] : List Bs)), xr7.2)))) (cond (xr1.1 == 123) ((aL_ n xr1.2 depth).bind fun xr8 => (some ((aa_.re xr8.1), xr8.2))) ((ax_ n xr1.2).bind fun xr9 => (some ((aa_.mk 2 xr9.1 [] ([] : List aa_) ([] : List Bs)), xr9.2)))))))))))))
def aL_ : Nat → a3_ → Int → Option (aa_ × a3_)
  | 0, _, _ => none
  | n + 1, c, depth =>
    ((bG_ n c).bind fun xr1 => (cond (xr1.1 == 123) (aL_.loop8 n (ba_ n) (fun xy12 xy13 xy14 xy15 xy16 xy17 xy18 xy19 xy20 xy21 xy22 xy23 xy24 => ((bj_ n (a3_.mk xy13 xy14 xy15 xy16) xy12).bind fun xr25 => (some ((aa_.mk xy20 xy21 xy22 xy23 xy24), xr25)))) n depth [125] xr1.2.s (W (xr1.2.at_ + 1)) xr1.2.ok xr1.2.left 0 0 [] 5 0 [] ([] : List aa_) ([] : List Bs)) (aL_.loop8 n (ba_ n) (fun xy26 xy27 xy28 xy29 xy30 xy31 xy32 xy33 xy34 xy35 xy36 xy37 xy38 => ((bj_ n (a3_.mk xy27 xy28 xy29 xy30) xy26).bind fun xr39 => (some ((aa_.mk xy34 xy35 xy36 xy37 xy38), xr39)))) n depth [93] xr1.2.s (W (xr1.2.at_ + 1)) xr1.2.ok xr1.2.left 0 0 [] 4 0 [] ([] : List aa_) ([] : List Bs))))
end
def a6_.step3 (n : Nat) (k0 : Bs → Option Bool) (back : Bs → Int → Option Bool) (s : Bs) (i : Int) : Option Bool :=
  (cond (decide (i < (s.length : Int))) (inB i s.length (cond (decide (((s.getD i.toNat 0).toNat : Int) < 32)) (some false) (inB i s.length (cond (decide (((s.getD i.toNat 0).toNat : Int) > 126)) (some false) (back s (W (i + 1))))))) (k0 s))
def a6_.loop3 (n : Nat) (k0 : Bs → Option Bool) (N : Nat) : Bs → Int → Option Bool :=
  cI_ (fun _ _ => none) (fun back => a6_.step3 n k0 back) N
def a6_ : Nat → Bs → Option Bool
  | 0, _ => none
  | n + 1, s =>
    (a6_.loop3 n (fun xy1 => (some (decide ((xy1.length : Int) ≤ 60)))) n s 0)
def ad_.step6 (n : Nat) (k0 : Int → Int → Bs → (List aa_) → (List Bs) → Option Bool) (back : Int → Int → Int → Bs → (List aa_) → (List Bs) → Option Bool) (i : Int) (j0 : Int) (j1 : Int) (j2 : Bs) (j3 : List aa_) (j4 : List Bs) : Option Bool :=
  (cond (decide (i < (j4.length : Int))) (inB i j4.length ((a6_ n (j4.getD i.toNat [])).bind fun xr1 => (cond (!xr1) (some false) (cond (decide (i > 0)) (inB (W (i - 1)) j4.length (inB i j4.length (cond (!Op.bytesLess (j4.getD (W (i - 1)).toNat []) (j4.getD i.toNat [])) (some false) (back (W (i + 1)) j0 j1 j2 j3 j4)))) (back (W (i + 1)) j0 j1 j2 j3 j4))))) (k0 j0 j1 j2 j3 j4))
def ad_.loop6 (n : Nat) (k0 : Int → Int → Bs → (List aa_) → (List Bs) → Option Bool) (N : Nat) : Int → Int → Int → Bs → (List aa_) → (List Bs) → Option Bool :=
  cI_ (fun _ _ _ _ _ _ => none) (fun back => ad_.step6 n k0 back) N
def ad_ : Nat → aa_ → Option Bool
  | 0, _ => none
  | n + 1, j =>
    (cond (j.kind != 5) (some ((j.names.length : Int) == 0)) (ad_.loop6 n (fun xy2 xy3 xy4 xy5 xy6 => (some ((xy6.length : Int) == (xy5.length : Int)))) n 0 j.kind j.n_ j.s j.list j.names))
def cl_ : Nat → Int → Int → Int → Option Bool
  | 0, _, _, _ => none
  | n + 1, x, lo, hi =>
    (cond (decide (x ≥ lo)) (some (decide (x ≤ hi))) (some false))
def aD_.step23 (n : Nat) (spec_l1Great_ : aa_ → Int → Option Int) (k1 : Int → Int → Int → Int → Bs → (List aa_) → (List Bs) → Option Int) (back : Int → Int → Int → Int → Int → Int → Bs → (List aa_) → (List Bs) → Option Int) (append : Int) (t5 : Int) (t6 : Int) (t7 : Int) (t20 : Int) (t21 : Int) (t22 : Bs) (t23 : List aa_) (t24 : List Bs) : Option Int :=
  (cond (decide (t7 < (t23.length : Int))) (cond (decide (t6 ≤ 400)) (inB t7 t23.length ((spec_l1Great_ (aa_.re (t23.getD t7.toNat aa_.dflt)) (W (append - 1))).bind fun xr52 => (back append t5 (W (t6 + xr52)) (W (t7 + 1)) t20 t21 t22 t23 t24))) (k1 t5 t6 t20 t21 t22 t23 t24)) (k1 t5 t6 t20 t21 t22 t23 t24))
def aD_.loop23 (n : Nat) (spec_l1Great_ : aa_ → Int → Option Int) (k1 : Int → Int → Int → Int → Bs → (List aa_) → (List Bs) → Option Int) (N : Nat) : Int → Int → Int → Int → Int → Int → Bs → (List aa_) → (List Bs) → Option Int :=
  cI_ (fun _ _ _ _ _ _ _ _ _ => none) (fun back => aD_.step23 n spec_l1Great_ k1 back) N
def aD_ : Nat → aa_ → Int → Option Int
  | 0, _, _ => none
  | n + 1, o, append =>
    (cond (append == 0) (some 401) (cond (o.kind == 0) (cond (o.n_ != 0) (some 401) (cond (o.kind != 3) (cond (!(o.s == [])) (some 401) (cond (o.kind == 3) (cond (o.n_ != 0) (some 401) (cond (decide (o.kind < 4)) (cond (decide ((o.list.length : Int) > 0)) (some 401) ((ad_ n (aa_.re o)).bind fun xr1 => (cond (!xr1) (some 401) (some 1)))) ((ad_ n (aa_.re o)).bind fun xr2 => (cond (!xr2) (some 401) (some 1))))) (cond (decide (o.kind ≥ 4)) (cond (o.n_ != 0) (some 401) (cond (decide (o.kind < 4)) (cond (decide ((o.list.length : Int) > 0)) (some 401) ((ad_ n (aa_.re o)).bind fun xr3 => (cond (!xr3) (some 401) (some 1)))) ((ad_ n (aa_.re o)).bind fun xr4 => (cond (!xr4) (some 401) (some 1))))) (cond (decide (o.kind < 4)) (cond (decide ((o.list.length : Int) > 0)) (some 401) ((ad_ n (aa_.re o)).bind fun xr5 => (cond (!xr5) (some 401) (some 1)))) ((ad_ n (aa_.re o)).bind fun xr6 => (cond (!xr6) (some 401) (some 1))))))) (cond (o.kind == 3) (cond (o.n_ != 0) (some 401) (cond (decide (o.kind < 4)) (cond (decide ((o.list.length : Int) > 0)) (some 401) ((ad_ n (aa_.re o)).bind fun xr7 => (cond (!xr7) (some 401) (some 1)))) ((ad_ n (aa_.re o)).bind fun xr8 => (cond (!xr8) (some 401) (some 1))))) (cond (decide (o.kind ≥ 4)) (cond (o.n_ != 0) (some 401) (cond (decide (o.kind < 4)) (cond (decide ((o.list.length : Int) > 0)) (some 401) ((ad_ n (aa_.re o)).bind fun xr9 => (cond (!xr9) (some 401) (some 1)))) ((ad_ n (aa_.re o)).bind fun xr10 => (cond (!xr10) (some 401) (some 1))))) (cond (decide (o.kind < 4)) (cond (decide ((o.list.length : Int) > 0)) (some 401) ((ad_ n (aa_.re o)).bind fun xr11 => (cond (!xr11) (some 401) (some 1)))) ((ad_ n (aa_.re o)).bind fun xr12 => (cond (!xr12) (some 401) (some 1)))))))) (cond (o.kind == 1) ((cl_ n o.n_ 0 1).bind fun xr13 => (cond (!xr13) (some 401) (cond (o.kind != 3) (cond (!(o.s == [])) (some 401) (cond (o.kind == 3) (cond (o.n_ != 0) (some 401) (cond (decide (o.kind < 4)) (cond (decide ((o.list.length : Int) > 0)) (some 401) ((ad_ n (aa_.re o)).bind fun xr14 => (cond (!xr14) (some 401) (some 1)))) ((ad_ n (aa_.re o)).bind fun xr15 => (cond (!xr15) (some 401) (some 1))))) (cond (decide (o.kind ≥ 4)) (cond (o.n_ != 0) (some 401) (cond (decide (o.kind < 4)) (cond (decide ((o.list.length : Int) > 0)) (some 401) ((ad_ n (aa_.re o)).bind fun xr16 => (cond (!xr16) (some 401) (some 1)))) ((ad_ n (aa_.re o)).bind fun xr17 => (cond (!xr17) (some 401) (some 1))))) (cond (decide (o.kind < 4)) (cond (decide ((o.list.length : Int) > 0)) (some 401) ((ad_ n (aa_.re o)).bind fun xr18 => (cond (!xr18) (some 401) (some 1)))) ((ad_ n (aa_.re o)).bind fun xr19 => (cond (!xr19) (some 401) (some 1))))))) (cond (o.kind == 3) (cond (o.n_ != 0) (some 401) (cond (decide (o.kind < 4)) (cond (decide ((o.list.length : Int) > 0)) (some 401) ((ad_ n (aa_.re o)).bind fun xr20 => (cond (!xr20) (some 401) (some 1)))) ((ad_ n (aa_.re o)).bind fun xr21 => (cond (!xr21) (some 401) (some 1))))) (cond (decide (o.kind ≥ 4)) (cond (o.n_ != 0) (some 401) (cond (decide (o.kind < 4)) (cond (decide ((o.list.length : Int) > 0)) (some 401) ((ad_ n (aa_.re o)).bind fun xr22 => (cond (!xr22) (some 401) (some 1)))) ((ad_ n (aa_.re o)).bind fun xr23 => (cond (!xr23) (some 401) (some 1))))) (cond (decide (o.kind < 4)) (cond (decide ((o.list.length : Int) > 0)) (some 401) ((ad_ n (aa_.re o)).bind fun xr24 => (cond (!xr24) (some 401) (some 1)))) ((ad_ n (aa_.re o)).bind fun xr25 => (cond (!xr25) (some 401) (some 1))))))))) (cond (o.kind == 2) ((cl_ n o.n_ (-1000000000) 1000000000).bind fun xr26 => (cond (!xr26) (some 401) (cond (o.kind != 3) (cond (!(o.s == [])) (some 401) (cond (o.kind == 3) (cond (o.n_ != 0) (some 401) (cond (decide (o.kind < 4)) (cond (decide ((o.list.length : Int) > 0)) (some 401) ((ad_ n (aa_.re o)).bind fun xr27 => (cond (!xr27) (some 401) (some 1)))) ((ad_ n (aa_.re o)).bind fun xr28 => (cond (!xr28) (some 401) (some 1))))) (cond (decide (o.kind ≥ 4)) (cond (o.n_ != 0) (some 401) (cond (decide (o.kind < 4)) (cond (decide ((o.list.length : Int) > 0)) (some 401) ((ad_ n (aa_.re o)).bind fun xr29 => (cond (!xr29) (some 401) (some 1)))) ((ad_ n (aa_.re o)).bind fun xr30 => (cond (!xr30) (some 401) (some 1))))) (cond (decide (o.kind < 4)) (cond (decide ((o.list.length : Int) > 0)) (some 401) ((ad_ n (aa_.re o)).bind fun xr31 => (cond (!xr31) (some 401) (some 1)))) ((ad_ n (aa_.re o)).bind fun xr32 => (cond (!xr32) (some 401) (some 1))))))) (cond (o.kind == 3) (cond (o.n_ != 0) (some 401) (cond (decide (o.kind < 4)) (cond (decide ((o.list.length : Int) > 0)) (some 401) ((ad_ n (aa_.re o)).bind fun xr33 => (cond (!xr33) (some 401) (some 1)))) ((ad_ n (aa_.re o)).bind fun xr34 => (cond (!xr34) (some 401) (some 1))))) (cond (decide (o.kind ≥ 4)) (cond (o.n_ != 0) (some 401) (cond (decide (o.kind < 4)) (cond (decide ((o.list.length : Int) > 0)) (some 401) ((ad_ n (aa_.re o)).bind fun xr35 => (cond (!xr35) (some 401) (some 1)))) ((ad_ n (aa_.re o)).bind fun xr36 => (cond (!xr36) (some 401) (some 1))))) (cond (decide (o.kind < 4)) (cond (decide ((o.list.length : Int) > 0)) (some 401) ((ad_ n (aa_.re o)).bind fun xr37 => (cond (!xr37) (some 401) (some 1)))) ((ad_ n (aa_.re o)).bind fun xr38 => (cond (!xr38) (some 401) (some 1))))))))) (cond (o.kind == 3) ((a6_ n o.s).bind fun xr39 => (cond (!xr39) (some 401) (cond (o.kind != 3) (cond (!(o.s == [])) (some 401) (cond (o.kind == 3) (cond (o.n_ != 0) (some 401) (cond (decide (o.kind < 4)) (cond (decide ((o.list.length : Int) > 0)) (some 401) ((ad_ n (aa_.re o)).bind fun xr40 => (cond (!xr40) (some 401) (some 1)))) ((ad_ n (aa_.re o)).bind fun xr41 => (cond (!xr41) (some 401) (some 1))))) (cond (decide (o.kind ≥ 4)) (cond (o.n_ != 0) (some 401) (cond (decide (o.kind < 4)) (cond (decide ((o.list.length : Int) > 0)) (some 401) ((ad_ n (aa_.re o)).bind fun xr42 => (cond (!xr42) (some 401) (some 1)))) ((ad_ n (aa_.re o)).bind fun xr43 => (cond (!xr43) (some 401) (some 1))))) (cond (decide (o.kind < 4)) (cond (decide ((o.list.length : Int) > 0)) (some 401) ((ad_ n (aa_.re o)).bind fun xr44 => (cond (!xr44) (some 401) (some 1)))) ((ad_ n (aa_.re o)).bind fun xr45 => (cond (!xr45) (some 401) (some 1))))))) (cond (o.kind == 3) (cond (o.n_ != 0) (some 401) (cond (decide (o.kind < 4)) (cond (decide ((o.list.length : Int) > 0)) (some 401) ((ad_ n (aa_.re o)).bind fun xr46 => (cond (!xr46) (some 401) (some 1)))) ((ad_ n (aa_.re o)).bind fun xr47 => (cond (!xr47) (some 401) (some 1))))) (cond (decide (o.kind ≥ 4)) (cond (o.n_ != 0) (some 401) (cond (decide (o.kind < 4)) (cond (decide ((o.list.length : Int) > 0)) (some 401) ((ad_ n (aa_.re o)).bind fun xr48 => (cond (!xr48) (some 401) (some 1)))) ((ad_ n (aa_.re o)).bind fun xr49 => (cond (!xr49) (some 401) (some 1))))) (cond (decide (o.kind < 4)) (cond (decide ((o.list.length : Int) > 0)) (some 401) ((ad_ n (aa_.re o)).bind fun xr50 => (cond (!xr50) (some 401) (some 1)))) ((ad_ n (aa_.re o)).bind fun xr51 => (cond (!xr51) (some 401) (some 1))))))))) (cond (o.kind == 4) (cond (o.kind == 4) (aD_.loop23 n (aD_ n) (fun xy53 xy54 xy55 xy56 xy57 xy58 xy59 => (cond (xy55 != 3) (cond (!(xy57 == [])) (some xy53) (cond (xy55 == 3) (cond (xy56 != 0) (some xy53) (cond (decide (xy55 < 4)) (cond (decide ((xy58.length : Int) > 0)) (some xy53) ((ad_ n (aa_.mk xy55 xy56 xy57 xy58 xy59)).bind fun xr60 => (cond (!xr60) (some xy53) (some xy54)))) ((ad_ n (aa_.mk xy55 xy56 xy57 xy58 xy59)).bind fun xr61 => (cond (!xr61) (some xy53) (some xy54))))) (cond (decide (xy55 ≥ 4)) (cond (xy56 != 0) (some xy53) (cond (decide (xy55 < 4)) (cond (decide ((xy58.length : Int) > 0)) (some xy53) ((ad_ n (aa_.mk xy55 xy56 xy57 xy58 xy59)).bind fun xr62 => (cond (!xr62) (some xy53) (some xy54)))) ((ad_ n (aa_.mk xy55 xy56 xy57 xy58 xy59)).bind fun xr63 => (cond (!xr63) (some xy53) (some xy54))))) (cond (decide (xy55 < 4)) (cond (decide ((xy58.length : Int) > 0)) (some xy53) ((ad_ n (aa_.mk xy55 xy56 xy57 xy58 xy59)).bind fun xr64 => (cond (!xr64) (some xy53) (some xy54)))) ((ad_ n (aa_.mk xy55 xy56 xy57 xy58 xy59)).bind fun xr65 => (cond (!xr65) (some xy53) (some xy54))))))) (cond (xy55 == 3) (cond (xy56 != 0) (some xy53) (cond (decide (xy55 < 4)) (cond (decide ((xy58.length : Int) > 0)) (some xy53) ((ad_ n (aa_.mk xy55 xy56 xy57 xy58 xy59)).bind fun xr66 => (cond (!xr66) (some xy53) (some xy54)))) ((ad_ n (aa_.mk xy55 xy56 xy57 xy58 xy59)).bind fun xr67 => (cond (!xr67) (some xy53) (some xy54))))) (cond (decide (xy55 ≥ 4)) (cond (xy56 != 0) (some xy53) (cond (decide (xy55 < 4)) (cond (decide ((xy58.length : Int) > 0)) (some xy53) ((ad_ n (aa_.mk xy55 xy56 xy57 xy58 xy59)).bind fun xr68 => (cond (!xr68) (some xy53) (some xy54)))) ((ad_ n (aa_.mk xy55 xy56 xy57 xy58 xy59)).bind fun xr69 => (cond (!xr69) (some xy53) (some xy54))))) (cond (decide (xy55 < 4)) (cond (decide ((xy58.length : Int) > 0)) (some xy53) ((ad_ n (aa_.mk xy55 xy56 xy57 xy58 xy59)).bind fun xr70 => (cond (!xr70) (some xy53) (some xy54)))) ((ad_ n (aa_.mk xy55 xy56 xy57 xy58 xy59)).bind fun xr71 => (cond (!xr71) (some xy53) (some xy54)))))))) n append 401 1 0 o.kind o.n_ o.s o.list o.names) (some 401)) (cond (o.kind == 5) (aD_.loop23 n (aD_ n) (fun xy72 xy73 xy74 xy75 xy76 xy77 xy78 => (cond (xy74 != 3) (cond (!(xy76 == [])) (some xy72) (cond (xy74 == 3) (cond (xy75 != 0) (some xy72) (cond (decide (xy74 < 4)) (cond (decide ((xy77.length : Int) > 0)) (some xy72) ((ad_ n (aa_.mk xy74 xy75 xy76 xy77 xy78)).bind fun xr79 => (cond (!xr79) (some xy72) (some xy73)))) ((ad_ n (aa_.mk xy74 xy75 xy76 xy77 xy78)).bind fun xr80 => (cond (!xr80) (some xy72) (some xy73))))) (cond (decide (xy74 ≥ 4)) (cond (xy75 != 0) (some xy72) (cond (decide (xy74 < 4)) (cond (decide ((xy77.length : Int) > 0)) (some xy72) ((ad_ n (aa_.mk xy74 xy75 xy76 xy77 xy78)).bind fun xr81 => (cond (!xr81) (some xy72) (some xy73)))) ((ad_ n (aa_.mk xy74 xy75 xy76 xy77 xy78)).bind fun xr82 => (cond (!xr82) (some xy72) (some xy73))))) (cond (decide (xy74 < 4)) (cond (decide ((xy77.length : Int) > 0)) (some xy72) ((ad_ n (aa_.mk xy74 xy75 xy76 xy77 xy78)).bind fun xr83 => (cond (!xr83) (some xy72) (some xy73)))) ((ad_ n (aa_.mk xy74 xy75 xy76 xy77 xy78)).bind fun xr84 => (cond (!xr84) (some xy72) (some xy73))))))) (cond (xy74 == 3) (cond (xy75 != 0) (some xy72) (cond (decide (xy74 < 4)) (cond (decide ((xy77.length : Int) > 0)) (some xy72) ((ad_ n (aa_.mk xy74 xy75 xy76 xy77 xy78)).bind fun xr85 => (cond (!xr85) (some xy72) (some xy73)))) ((ad_ n (aa_.mk xy74 xy75 xy76 xy77 xy78)).bind fun xr86 => (cond (!xr86) (some xy72) (some xy73))))) (cond (decide (xy74 ≥ 4)) (cond (xy75 != 0) (some xy72) (cond (decide (xy74 < 4)) (cond (decide ((xy77.length : Int) > 0)) (some xy72) ((ad_ n (aa_.mk xy74 xy75 xy76 xy77 xy78)).bind fun xr87 => (cond (!xr87) (some xy72) (some xy73)))) ((ad_ n (aa_.mk xy74 xy75 xy76 xy77 xy78)).bind fun xr88 => (cond (!xr88) (some xy72) (some xy73))))) (cond (decide (xy74 < 4)) (cond (decide ((xy77.length : Int) > 0)) (some xy72) ((ad_ n (aa_.mk xy74 xy75 xy76 xy77 xy78)).bind fun xr89 => (cond (!xr89) (some xy72) (some xy73)))) ((ad_ n (aa_.mk xy74 xy75 xy76 xy77 xy78)).bind fun xr90 => (cond (!xr90) (some xy72) (some xy73)))))))) n append 401 1 0 o.kind o.n_ o.s o.list o.names) (some 401))))))))
def bM_ : Nat → aa_ → Option Bool
  | 0, _ => none
  | n + 1, j =>
    ((aD_ n (aa_.re j) 6).bind fun xr1 => (some (decide (xr1 ≤ 400))))
def aU_.step4 (n : Nat) (k0 : (List Int) → Option Bs) (back : Bs → Int → (List Int) → Option Bs) (s : Bs) (i : Int) (out_1 : List Int) : Option Bs :=
  (cond (decide (i < (s.length : Int))) (inB i s.length (cond (((s.getD i.toNat 0).toNat : Int) == 34) (ci_ (out_1.length + ([92] : List Int).length) 1 (inB i s.length (ci_ ((out_1 ++ ([92] : List Int)).length + ([((s.getD i.toNat 0).toNat : Int)] : List Int).length) 1 (back s (W (i + 1)) ((out_1 ++ ([92] : List Int)) ++ ([((s.getD i.toNat 0).toNat : Int)] : List Int)))))) (inB i s.length (cond (((s.getD i.toNat 0).toNat : Int) == 92) (ci_ (out_1.length + ([92] : List Int).length) 1 (inB i s.length (ci_ ((out_1 ++ ([92] : List Int)).length + ([((s.getD i.toNat 0).toNat : Int)] : List Int).length) 1 (back s (W (i + 1)) ((out_1 ++ ([92] : List Int)) ++ ([((s.getD i.toNat 0).toNat : Int)] : List Int)))))) (inB i s.length (ci_ (out_1.length + ([((s.getD i.toNat 0).toNat : Int)] : List Int).length) 1 (back s (W (i + 1)) (out_1 ++ ([((s.getD i.toNat 0).toNat : Int)] : List Int))))))))) (k0 out_1))
def aU_.loop4 (n : Nat) (k0 : (List Int) → Option Bs) (N : Nat) : Bs → Int → (List Int) → Option Bs :=
  cI_ (fun _ _ _ => none) (fun back => aU_.step4 n k0 back) N
def aU_ : Nat → Bs → Option Bs
  | 0, _ => none
  | n + 1, s =>
    (aU_.loop4 n (fun xy1 => (ci_ (xy1.length + ([34] : List Int).length) 1 (some (eN_ (xy1 ++ ([34] : List Int)))))) n s 0 ([34] : List Int))
def aA_.step17 (n : Nat) (spec_l2Encode_ : aa_ → Option Bs) (k1 : Bs → Int → Int → Bs → (List aa_) → (List Bs) → Option Bs) (back : Bs → Int → Int → Int → Bs → (List aa_) → (List Bs) → Option Bs) (out_1 : Bs) (i : Int) (j0 : Int) (j1 : Int) (j2 : Bs) (j3 : List aa_) (j4 : List Bs) : Option Bs :=
  (cond (decide (i < (j3.length : Int))) (cond (decide (i > 0)) (cond (decide (out_1.length + [44].length ≤ 9223372036854775807)) (cond (j0 == 5) (inB i j4.length ((aU_ n (j4.getD i.toNat [])).bind fun xr3 => (cond (decide ((out_1 ++ [44]).length + xr3.length ≤ 9223372036854775807)) (cond (decide (((out_1 ++ [44]) ++ xr3).length + [58].length ≤ 9223372036854775807)) (inB i j3.length ((spec_l2Encode_ (aa_.re (j3.getD i.toNat aa_.dflt))).bind fun xr4 => (cond (decide ((((out_1 ++ [44]) ++ xr3) ++ [58]).length + xr4.length ≤ 9223372036854775807)) (back ((((out_1 ++ [44]) ++ xr3) ++ [58]) ++ xr4) (W (i + 1)) j0 j1 j2 j3 j4) none))) none) none))) (inB i j3.length ((spec_l2Encode_ (aa_.re (j3.getD i.toNat aa_.dflt))).bind fun xr5 => (cond (decide ((out_1 ++ [44]).length + xr5.length ≤ 9223372036854775807)) (back ((out_1 ++ [44]) ++ xr5) (W (i + 1)) j0 j1 j2 j3 j4) none)))) none) (cond (j0 == 5) (inB i j4.length ((aU_ n (j4.getD i.toNat [])).bind fun xr6 => (cond (decide (out_1.length + xr6.length ≤ 9223372036854775807)) (cond (decide ((out_1 ++ xr6).length + [58].length ≤ 9223372036854775807)) (inB i j3.length ((spec_l2Encode_ (aa_.re (j3.getD i.toNat aa_.dflt))).bind fun xr7 => (cond (decide (((out_1 ++ xr6) ++ [58]).length + xr7.length ≤ 9223372036854775807)) (back (((out_1 ++ xr6) ++ [58]) ++ xr7) (W (i + 1)) j0 j1 j2 j3 j4) none))) none) none))) (inB i j3.length ((spec_l2Encode_ (aa_.re (j3.getD i.toNat aa_.dflt))).bind fun xr8 => (cond (decide (out_1.length + xr8.length ≤ 9223372036854775807)) (back (out_1 ++ xr8) (W (i + 1)) j0 j1 j2 j3 j4) none))))) (k1 out_1 j0 j1 j2 j3 j4))
def aA_.loop17 (n : Nat) (spec_l2Encode_ : aa_ → Option Bs) (k1 : Bs → Int → Int → Bs → (List aa_) → (List Bs) → Option Bs) (N : Nat) : Bs → Int → Int → Int → Bs → (List aa_) → (List Bs) → Option Bs :=
  cI_ (fun _ _ _ _ _ _ _ => none) (fun back => aA_.step17 n spec_l2Encode_ k1 back) N
def aA_ : Nat → aa_ → Option Bs
  | 0, _ => none
  | n + 1, j =>
    (cond (j.kind == 0) (some [110, 117, 108, 108]) (cond (j.kind == 1) (cond (j.n_ == 1) (some [116, 114, 117, 101]) (some [102, 97, 108, 115, 101])) (cond (j.kind == 2) ((aI_ n j.n_).bind fun xr1 => (some xr1)) (cond (j.kind == 3) ((aU_ n j.s).bind fun xr2 => (some xr2)) (aA_.loop17 n (aA_ n) (fun xy9 xy10 xy11 xy12 xy13 xy14 => (cond (xy10 == 5) (cond (decide ([123].length + xy9.length ≤ 9223372036854775807)) (cond (decide ((([123] : Bs) ++ xy9).length + [125].length ≤ 9223372036854775807)) (some ((([123] : Bs) ++ xy9) ++ [125])) none) none) (cond (decide ([91].length + xy9.length ≤ 9223372036854775807)) (cond (decide ((([91] : Bs) ++ xy9).length + [93].length ≤ 9223372036854775807)) (some ((([91] : Bs) ++ xy9) ++ [93])) none) none))) n [] 0 j.kind j.n_ j.s j.list j.names)))))
def bU_ : Nat → aa_ → Option Bs
  | 0, _ => none
  | n + 1, j =>
    ((bM_ n (aa_.re j)).bind fun xr1 => (cond (!xr1) (some []) ((aA_ n (aa_.re j)).bind fun xr2 => (cond (decide ((xr2.length : Int) > 6000)) (some []) (some xr2)))))
def b3_ : Nat → Bs → Option (aa_ × Bool)
  | 0, _ => none
  | n + 1, s =>
    (cond (s == []) (some ((aa_.mk 0 0 [] ([] : List aa_) ([] : List Bs)), false)) (cond (decide ((s.length : Int) > 6000)) (some ((aa_.mk 0 0 [] ([] : List aa_) ([] : List Bs)), false)) ((ba_ n (a3_.mk s 0 true 400) 6).bind fun xr1 => (cond (!xr1.2.ok) (some ((aa_.mk 0 0 [] ([] : List aa_) ([] : List Bs)), false)) (cond (xr1.2.at_ != (s.length : Int)) (some ((aa_.mk 0 0 [] ([] : List aa_) ([] : List Bs)), false)) ((bU_ n (aa_.re xr1.1)).bind fun xr2 => (cond (!(xr2 == s)) (some ((aa_.mk 0 0 [] ([] : List aa_) ([] : List Bs)), false)) (some ((aa_.re xr1.1), true)))))))))
def bo_.step3 (n : Nat) (k0 : Option Int) (back : Bs → Int → Int → Int → Bs → (List aa_) → (List Bs) → Option Int) (name : Bs) (i : Int) (j0 : Int) (j1 : Int) (j2 : Bs) (j3 : List aa_) (j4 : List Bs) : Option Int :=
  (cond (decide (i < (j4.length : Int))) (inB i j4.length (cond ((j4.getD i.toNat []) == name) (some i) (back name (W (i + 1)) j0 j1 j2 j3 j4))) k0)
def bo_.loop3 (n : Nat) (k0 : Option Int) (N : Nat) : Bs → Int → Int → Int → Bs → (List aa_) → (List Bs) → Option Int :=
  cI_ (fun _ _ _ _ _ _ _ => none) (fun back => bo_.step3 n k0 back) N
def bo_ : Nat → aa_ → Bs → Option Int
  | 0, _, _ => none
  | n + 1, j, name =>
    (bo_.loop3 n (some (-1)) n name 0 j.kind j.n_ j.s j.list j.names)
def a4_.step4 (n : Nat) (spec_l1Copy_ : aa_ → Option aa_) (k0 : Int → Int → Bs → Int → Int → Bs → (List aa_) → (List Bs) → Option aa_) (back : Int → Int → Int → Bs → (List aa_) → (List Bs) → Int → Int → Bs → Int → Int → Bs → (List aa_) → (List Bs) → Option aa_) (i : Int) (j0 : Int) (j1 : Int) (j2 : Bs) (j3 : List aa_) (j4 : List Bs) (t20 : Int) (t21 : Int) (t22 : Bs) (out0 : Int) (out1 : Int) (out2 : Bs) (out3 : List aa_) (out4 : List Bs) : Option aa_ :=
  (cond (decide (i < (j3.length : Int))) (inB i j3.length ((spec_l1Copy_ (aa_.re (j3.getD i.toNat aa_.dflt))).bind fun xr1 => (ci_ (out3.length + ([(aa_.re xr1)] : List aa_).length) 80 (back (W (i + 1)) j0 j1 j2 j3 j4 t20 t21 t22 out0 out1 out2 (out3 ++ ([(aa_.re xr1)] : List aa_)) out4)))) (k0 t20 t21 t22 out0 out1 out2 out3 out4))
def a4_.loop4 (n : Nat) (spec_l1Copy_ : aa_ → Option aa_) (k0 : Int → Int → Bs → Int → Int → Bs → (List aa_) → (List Bs) → Option aa_) (N : Nat) : Int → Int → Int → Bs → (List aa_) → (List Bs) → Int → Int → Bs → Int → Int → Bs → (List aa_) → (List Bs) → Option aa_ :=
  cI_ (fun _ _ _ _ _ _ _ _ _ _ _ _ _ _ => none) (fun back => a4_.step4 n spec_l1Copy_ k0 back) N
def a4_ : Nat → aa_ → Option aa_
  | 0, _ => none
  | n + 1, j =>
    (ci_ (([] : List Bs).length + j.names.length) 16 (a4_.loop4 n (a4_ n) (fun xy2 xy3 xy4 xy5 xy6 xy7 xy8 xy9 => (some (aa_.mk xy5 xy6 xy7 xy8 xy9))) n 0 j.kind j.n_ j.s j.list j.names 0 0 [] j.kind j.n_ j.s ([] : List aa_) (([] : List Bs) ++ j.names)))
def cc_ : Nat → aa_ → Bs → Option (aa_ × Bool)
  | 0, _, _ => none
  | n + 1, j, name =>
    ((bo_ n (aa_.re j) name).bind fun xr1 => ((bM_ n (aa_.re j)).bind fun xr2 => (cond (!xr2) (some ((aa_.mk 0 0 [] ([] : List aa_) ([] : List Bs)), false)) (cond (j.kind != 5) (some ((aa_.mk 0 0 [] ([] : List aa_) ([] : List Bs)), false)) (cond (decide (xr1 < 0)) (some ((aa_.mk 0 0 [] ([] : List aa_) ([] : List Bs)), false)) (inB xr1 j.list.length ((a4_ n (aa_.re (j.list.getD xr1.toNat aa_.dflt))).bind fun xr3 => (some ((aa_.re xr3), true)))))))))
def bJ_ : Nat → Unit → Option (List Bs)
  | 0, _ => none
  | n + 1, _u =>
    (some ([[], [97, 100, 100], [114, 101, 109, 111, 118, 101], [114, 101, 112, 108, 97, 99, 101], [116, 101, 115, 116]] : List Bs))
def aK_.step6 (n : Nat) (k0 : Bs → (List Bs) → (List Bs) → (List Int) → Option ((List Bs) × Bool)) (back : Bs → Int → (List Bs) → (List Bs) → (List Int) → Option ((List Bs) × Bool)) (o : Bs) (t7 : Int) (t4 : List Bs) (t5 : List Bs) (t6 : List Int) : Option ((List Bs) × Bool) :=
  (cond (decide (t7 < (o.length : Int))) (inB t7 o.length (cond (((o.getD t7.toNat 0).toNat : Int) == 47) (cond (decide (t7 > 0)) (ci_ (t5.length + ([(eN_ t6)] : List Bs).length) 16 (back o (W (t7 + 1)) t4 (t5 ++ ([(eN_ t6)] : List Bs)) ([] : List Int))) (back o (W (t7 + 1)) t4 t5 ([] : List Int))) (cond (t7 == 0) (some (t4, false)) (inB t7 o.length (cond (((o.getD t7.toNat 0).toNat : Int) == 126) (cond ((W (t7 + 1)) == (o.length : Int)) (some (t4, false)) (inB (W (t7 + 1)) o.length (cond (((o.getD (W (t7 + 1)).toNat 0).toNat : Int) != 48) (inB (W (t7 + 1)) o.length (cond (((o.getD (W (t7 + 1)).toNat 0).toNat : Int) != 49) (some (t4, false)) (inB (W (t7 + 1)) o.length (cond (((o.getD (W (t7 + 1)).toNat 0).toNat : Int) == 48) (ci_ (t6.length + ([126] : List Int).length) 1 (back o (W ((W (t7 + 1)) + 1)) t4 t5 (t6 ++ ([126] : List Int)))) (ci_ (t6.length + ([47] : List Int).length) 1 (back o (W ((W (t7 + 1)) + 1)) t4 t5 (t6 ++ ([47] : List Int)))))))) (inB (W (t7 + 1)) o.length (cond (((o.getD (W (t7 + 1)).toNat 0).toNat : Int) == 48) (ci_ (t6.length + ([126] : List Int).length) 1 (back o (W ((W (t7 + 1)) + 1)) t4 t5 (t6 ++ ([126] : List Int)))) (ci_ (t6.length + ([47] : List Int).length) 1 (back o (W ((W (t7 + 1)) + 1)) t4 t5 (t6 ++ ([47] : List Int))))))))) (inB t7 o.length (ci_ (t6.length + ([((o.getD t7.toNat 0).toNat : Int)] : List Int).length) 1 (back o (W (t7 + 1)) t4 t5 (t6 ++ ([((o.getD t7.toNat 0).toNat : Int)] : List Int)))))))))) (k0 o t4 t5 t6))
def aK_.loop6 (n : Nat) (k0 : Bs → (List Bs) → (List Bs) → (List Int) → Option ((List Bs) × Bool)) (N : Nat) : Bs → Int → (List Bs) → (List Bs) → (List Int) → Option ((List Bs) × Bool) :=
  cI_ (fun _ _ _ _ _ => none) (fun back => aK_.step6 n k0 back) N
def aK_ : Nat → Bs → Option ((List Bs) × Bool)
  | 0, _ => none
  | n + 1, o =>
    (aK_.loop6 n (fun xy1 xy2 xy3 xy4 => (cond (!(xy1 == [])) (ci_ (xy3.length + ([(eN_ xy4)] : List Bs).length) 16 (cond (decide (((xy3 ++ ([(eN_ xy4)] : List Bs)).length : Int) > 6)) (some (xy2, false)) (some ((xy3 ++ ([(eN_ xy4)] : List Bs)), true)))) (cond (decide ((xy3.length : Int) > 6)) (some (xy2, false)) (some (xy3, true))))) n o 0 ([] : List Bs) ([] : List Bs) ([] : List Int))
def ah_.step6 (n : Nat) (spec_l1Same_ : aa_ → aa_ → Option Bool) (k0 : Int → Int → Bs → (List aa_) → (List Bs) → Int → Int → Bs → (List aa_) → (List Bs) → Option Bool) (back : Int → Int → Int → Bs → (List aa_) → (List Bs) → Int → Int → Bs → (List aa_) → (List Bs) → Option Bool) (t5 : Int) (t20 : Int) (t21 : Int) (t22 : Bs) (t23 : List aa_) (t24 : List Bs) (t30 : Int) (t31 : Int) (t32 : Bs) (t33 : List aa_) (t34 : List Bs) : Option Bool :=
  (cond (decide (t5 < (t23.length : Int))) (inB t5 t23.length (inB t5 t33.length ((spec_l1Same_ (aa_.re (t23.getD t5.toNat aa_.dflt)) (aa_.re (t33.getD t5.toNat aa_.dflt))).bind fun xr1 => (cond (!xr1) (some false) (back (W (t5 + 1)) t20 t21 t22 t23 t24 t30 t31 t32 t33 t34))))) (k0 t20 t21 t22 t23 t24 t30 t31 t32 t33 t34))
def ah_.loop6 (n : Nat) (spec_l1Same_ : aa_ → aa_ → Option Bool) (k0 : Int → Int → Bs → (List aa_) → (List Bs) → Int → Int → Bs → (List aa_) → (List Bs) → Option Bool) (N : Nat) : Int → Int → Int → Bs → (List aa_) → (List Bs) → Int → Int → Bs → (List aa_) → (List Bs) → Option Bool :=
  cI_ (fun _ _ _ _ _ _ _ _ _ _ _ => none) (fun back => ah_.step6 n spec_l1Same_ k0 back) N
def ah_.step14 (n : Nat) (spec_l1Same_ : aa_ → aa_ → Option Bool) (k2 : Option Bool) (back : Int → Int → Int → Bs → (List aa_) → (List Bs) → Int → Int → Bs → (List aa_) → (List Bs) → Option Bool) (t6 : Int) (t20 : Int) (t21 : Int) (t22 : Bs) (t23 : List aa_) (t24 : List Bs) (t30 : Int) (t31 : Int) (t32 : Bs) (t33 : List aa_) (t34 : List Bs) : Option Bool :=
  (cond (decide (t6 < (t24.length : Int))) (inB t6 t24.length (inB t6 t34.length (cond (!((t24.getD t6.toNat []) == (t34.getD t6.toNat []))) (some false) (back (W (t6 + 1)) t20 t21 t22 t23 t24 t30 t31 t32 t33 t34)))) k2)
def ah_.loop14 (n : Nat) (spec_l1Same_ : aa_ → aa_ → Option Bool) (k2 : Option Bool) (N : Nat) : Int → Int → Int → Bs → (List aa_) → (List Bs) → Int → Int → Bs → (List aa_) → (List Bs) → Option Bool :=
  cI_ (fun _ _ _ _ _ _ _ _ _ _ _ => none) (fun back => ah_.step14 n spec_l1Same_ k2 back) N
def ah_ : Nat → aa_ → aa_ → Option Bool
  | 0, _, _ => none
  | n + 1, o, append =>
    (cond (o.kind != append.kind) (some false) (cond (o.n_ != append.n_) (some false) (cond (!(o.s == append.s)) (some false) (cond ((o.list.length : Int) != (append.list.length : Int)) (some false) (cond ((o.names.length : Int) != (append.names.length : Int)) (some false) (ah_.loop6 n (ah_ n) (fun xy2 xy3 xy4 xy5 xy6 xy7 xy8 xy9 xy10 xy11 => (ah_.loop14 n (ah_ n) (some true) n 0 xy2 xy3 xy4 xy5 xy6 xy7 xy8 xy9 xy10 xy11)) n 0 o.kind o.n_ o.s o.list o.names append.kind append.n_ append.s append.list append.names))))))
def bl_.step6 (n : Nat) (k0 : Int → (List Bs) → Int → Int → Bs → (List aa_) → (List Bs) → Option Bool) (back : Int → Int → (List Bs) → Int → Int → Bs → (List aa_) → (List Bs) → Option Bool) (i : Int) (o0 : Int) (o1 : List Bs) (o2 : Int) (o3 : Int) (o4 : Bs) (o5 : List aa_) (o6 : List Bs) : Option Bool :=
  (cond (decide (i < (o1.length : Int))) (inB i o1.length ((a6_ n (o1.getD i.toNat [])).bind fun xr3 => (cond (!xr3) (some false) (back (W (i + 1)) o0 o1 o2 o3 o4 o5 o6)))) (k0 o0 o1 o2 o3 o4 o5 o6))
def bl_.loop6 (n : Nat) (k0 : Int → (List Bs) → Int → Int → Bs → (List aa_) → (List Bs) → Option Bool) (N : Nat) : Int → Int → (List Bs) → Int → Int → Bs → (List aa_) → (List Bs) → Option Bool :=
  cI_ (fun _ _ _ _ _ _ _ _ => none) (fun back => bl_.step6 n k0 back) N
def bl_ : Nat → TOp → Option Bool
  | 0, _ => none
  | n + 1, o =>
    ((cl_ n o.kind 1 4).bind fun xr1 => (cond (!xr1) (some false) (cond (decide ((o.way.length : Int) > 6)) (some false) ((bM_ n (aa_.re o.value)).bind fun xr2 => (cond (!xr2) (some false) (bl_.loop6 n (fun xy4 xy5 xy6 xy7 xy8 xy9 xy10 => (cond (xy4 != 2) (some true) ((ah_ n (aa_.mk xy6 xy7 xy8 xy9 xy10) (aa_.mk 0 0 [] [] [])).bind fun xr11 => (some xr11)))) n 0 o.kind o.way o.value.kind o.value.n_ o.value.s o.value.list o.value.names))))))
def ar_.step10 (n : Nat) (k2 : (List Bs) → Int → (List Int) → Option Bs) (back : (List Bs) → Int → Int → (List Int) → Option Bs) (way : List Bs) (i : Int) (k : Int) (out_1 : List Int) : Option Bs :=
  (inB i way.length (cond (decide (k < ((way.getD i.toNat []).length : Int))) (inB i way.length (inB k (way.getD i.toNat []).length (cond ((((way.getD i.toNat []).getD k.toNat 0).toNat : Int) == 126) (ci_ (out_1.length + ([126, 48] : List Int).length) 1 (back way i (W (k + 1)) (out_1 ++ ([126, 48] : List Int)))) (cond ((((way.getD i.toNat []).getD k.toNat 0).toNat : Int) == 47) (ci_ (out_1.length + ([126, 49] : List Int).length) 1 (back way i (W (k + 1)) (out_1 ++ ([126, 49] : List Int)))) (inB i way.length (inB k (way.getD i.toNat []).length (ci_ (out_1.length + ([(((way.getD i.toNat []).getD k.toNat 0).toNat : Int)] : List Int).length) 1 (back way i (W (k + 1)) (out_1 ++ ([(((way.getD i.toNat []).getD k.toNat 0).toNat : Int)] : List Int)))))))))) (k2 way i out_1)))
def ar_.loop10 (n : Nat) (k2 : (List Bs) → Int → (List Int) → Option Bs) (N : Nat) : (List Bs) → Int → Int → (List Int) → Option Bs :=
  cI_ (fun _ _ _ _ => none) (fun back => ar_.step10 n k2 back) N
def ar_.step4 (n : Nat) (k0 : (List Int) → Option Bs) (back : (List Bs) → Int → (List Int) → Option Bs) (way : List Bs) (i : Int) (out_1 : List Int) : Option Bs :=
  (cond (decide (i < (way.length : Int))) (ci_ (out_1.length + ([47] : List Int).length) 1 (ar_.loop10 n (fun xy1 xy2 xy3 => (back xy1 (W (xy2 + 1)) xy3)) n way i 0 (out_1 ++ ([47] : List Int)))) (k0 out_1))
def ar_.loop4 (n : Nat) (k0 : (List Int) → Option Bs) (N : Nat) : (List Bs) → Int → (List Int) → Option Bs :=
  cI_ (fun _ _ _ => none) (fun back => ar_.step4 n k0 back) N
def ar_ : Nat → (List Bs) → Option Bs
  | 0, _ => none
  | n + 1, way =>
    (ar_.loop4 n (fun xy4 => (some (eN_ xy4))) n way 0 ([] : List Int))
def bf_.step5 (n : Nat) (k0 : Bs → Bool → Int → Int → Bs → (List aa_) → (List Bs) → Int → Int → Bs → Int → Int → Bs → (List aa_) → (List Bs) → Option aa_) (back : Bs → Bool → Int → Int → Int → Bs → (List aa_) → (List Bs) → Int → Int → Bs → (List aa_) → (List Bs) → Int → Int → Bs → Int → Int → Bs → (List aa_) → (List Bs) → Option aa_) (append : Bs) (t8 : Bool) (t9 : Int) (t30 : Int) (t31 : Int) (t32 : Bs) (t33 : List aa_) (t34 : List Bs) (t50 : Int) (t51 : Int) (t52 : Bs) (t53 : List aa_) (t54 : List Bs) (t60 : Int) (t61 : Int) (t62 : Bs) (t70 : Int) (t71 : Int) (t72 : Bs) (t73 : List aa_) (t74 : List Bs) : Option aa_ :=
  (cond (decide (t9 < (t34.length : Int))) (cond (!t8) (inB t9 t34.length (cond (!Op.bytesLess (t34.getD t9.toNat []) append) (ci_ (t74.length + ([append] : List Bs).length) 16 (ci_ (t73.length + ([(aa_.mk t50 t51 t52 t53 t54)] : List aa_).length) 80 (inB t9 t34.length (cond (!((t34.getD t9.toNat []) == append)) (inB t9 t34.length (ci_ ((t74 ++ ([append] : List Bs)).length + ([(t34.getD t9.toNat [])] : List Bs).length) 16 (inB t9 t33.length (ci_ ((t73 ++ ([(aa_.mk t50 t51 t52 t53 t54)] : List aa_)).length + ([(aa_.re (t33.getD t9.toNat aa_.dflt))] : List aa_).length) 80 (back append true (W (t9 + 1)) t30 t31 t32 t33 t34 t50 t51 t52 t53 t54 t60 t61 t62 t70 t71 t72 ((t73 ++ ([(aa_.mk t50 t51 t52 t53 t54)] : List aa_)) ++ ([(aa_.re (t33.getD t9.toNat aa_.dflt))] : List aa_)) ((t74 ++ ([append] : List Bs)) ++ ([(t34.getD t9.toNat [])] : List Bs))))))) (back append true (W (t9 + 1)) t30 t31 t32 t33 t34 t50 t51 t52 t53 t54 t60 t61 t62 t70 t71 t72 (t73 ++ ([(aa_.mk t50 t51 t52 t53 t54)] : List aa_)) (t74 ++ ([append] : List Bs))))))) (inB t9 t34.length (cond (!((t34.getD t9.toNat []) == append)) (inB t9 t34.length (ci_ (t74.length + ([(t34.getD t9.toNat [])] : List Bs).length) 16 (inB t9 t33.length (ci_ (t73.length + ([(aa_.re (t33.getD t9.toNat aa_.dflt))] : List aa_).length) 80 (back append t8 (W (t9 + 1)) t30 t31 t32 t33 t34 t50 t51 t52 t53 t54 t60 t61 t62 t70 t71 t72 (t73 ++ ([(aa_.re (t33.getD t9.toNat aa_.dflt))] : List aa_)) (t74 ++ ([(t34.getD t9.toNat [])] : List Bs))))))) (back append t8 (W (t9 + 1)) t30 t31 t32 t33 t34 t50 t51 t52 t53 t54 t60 t61 t62 t70 t71 t72 t73 t74))))) (inB t9 t34.length (cond (!((t34.getD t9.toNat []) == append)) (inB t9 t34.length (ci_ (t74.length + ([(t34.getD t9.toNat [])] : List Bs).length) 16 (inB t9 t33.length (ci_ (t73.length + ([(aa_.re (t33.getD t9.toNat aa_.dflt))] : List aa_).length) 80 (back append t8 (W (t9 + 1)) t30 t31 t32 t33 t34 t50 t51 t52 t53 t54 t60 t61 t62 t70 t71 t72 (t73 ++ ([(aa_.re (t33.getD t9.toNat aa_.dflt))] : List aa_)) (t74 ++ ([(t34.getD t9.toNat [])] : List Bs))))))) (back append t8 (W (t9 + 1)) t30 t31 t32 t33 t34 t50 t51 t52 t53 t54 t60 t61 t62 t70 t71 t72 t73 t74)))) (k0 append t8 t50 t51 t52 t53 t54 t60 t61 t62 t70 t71 t72 t73 t74))
def bf_.loop5 (n : Nat) (k0 : Bs → Bool → Int → Int → Bs → (List aa_) → (List Bs) → Int → Int → Bs → Int → Int → Bs → (List aa_) → (List Bs) → Option aa_) (N : Nat) : Bs → Bool → Int → Int → Int → Bs → (List aa_) → (List Bs) → Int → Int → Bs → (List aa_) → (List Bs) → Int → Int → Bs → Int → Int → Bs → (List aa_) → (List Bs) → Option aa_ :=
  cI_ (fun _ _ _ _ _ _ _ _ _ _ _ _ _ _ _ _ _ _ _ _ _ => none) (fun back => bf_.step5 n k0 back) N
def bf_ : Nat → aa_ → Bs → aa_ → Option aa_
  | 0, _, _, _ => none
  | n + 1, o, append, a2 =>
    (bf_.loop5 n (fun xy1 xy2 xy3 xy4 xy5 xy6 xy7 xy8 xy9 xy10 xy11 xy12 xy13 xy14 xy15 => (cond (!xy2) (ci_ (xy15.length + ([xy1] : List Bs).length) 16 (ci_ (xy14.length + ([(aa_.mk xy3 xy4 xy5 xy6 xy7)] : List aa_).length) 80 (some (aa_.mk xy11 xy12 xy13 (xy14 ++ ([(aa_.mk xy3 xy4 xy5 xy6 xy7)] : List aa_)) (xy15 ++ ([xy1] : List Bs)))))) (some (aa_.mk xy11 xy12 xy13 xy14 xy15)))) n append false 0 o.kind o.n_ o.s o.list o.names a2.kind a2.n_ a2.s a2.list a2.names 0 0 [] 5 0 [] ([] : List aa_) ([] : List Bs))
def b8_ : Nat → TOp → Option aa_
  | 0, _ => none
  | n + 1, o =>
    ((bl_ n (TOp.mk o.kind o.way (aa_.re o.value))).bind fun xr1 => (cond (!xr1) (some (aa_.mk 0 0 [] ([] : List aa_) ([] : List Bs))) ((bJ_ n ()).bind fun xr2 => (inB o.kind xr2.length ((ar_ n o.way).bind fun xr3 => (cond (o.kind != 2) ((a4_ n (aa_.re o.value)).bind fun xr4 => ((bf_ n (aa_.mk 5 0 [] ([(aa_.mk 3 0 (xr2.getD o.kind.toNat []) [] []), (aa_.mk 3 0 xr3 [] [])] : List aa_) ([[111, 112], [112, 97, 116, 104]] : List Bs)) [118, 97, 108, 117, 101] (aa_.re xr4)).bind fun xr5 => ((bM_ n (aa_.re xr5)).bind fun xr6 => (cond (!xr6) (some (aa_.mk 0 0 [] ([] : List aa_) ([] : List Bs))) (some (aa_.re xr5)))))) ((bM_ n (aa_.mk 5 0 [] ([(aa_.mk 3 0 (xr2.getD o.kind.toNat []) [] []), (aa_.mk 3 0 xr3 [] [])] : List aa_) ([[111, 112], [112, 97, 116, 104]] : List Bs))).bind fun xr7 => (cond (!xr7) (some (aa_.mk 0 0 [] ([] : List aa_) ([] : List Bs))) (some (aa_.mk 5 0 [] ([(aa_.mk 3 0 (xr2.getD o.kind.toNat []) [] []), (aa_.mk 3 0 xr3 [] [])] : List aa_) ([[111, 112], [112, 97, 116, 104]] : List Bs)))))))))))
def bO_ : Nat → aa_ → aa_ → Option Bool
  | 0, _, _ => none
  | n + 1, a, b =>
    ((bM_ n (aa_.re a)).bind fun xr1 => (cond xr1 ((bM_ n (aa_.re b)).bind fun xr2 => (cond xr2 ((ah_ n (aa_.re a) (aa_.re b)).bind fun xr3 => (some xr3)) (some false))) (some false)))
def aH_.step7 (n : Nat) (k0 : Int → Int → Bs → (List aa_) → (List Bs) → Int → Int → Int → Bs → Int → Int → Int → Bs → Int → Int → Bs → (List aa_) → (List Bs) → Option (TOp × Bool)) (back : Int → Int → Int → Bs → (List aa_) → (List Bs) → Int → Int → Int → Bs → Int → Int → Int → Bs → Int → Int → Bs → Int → Int → Bs → (List Bs) → (List aa_) → (List Bs) → (List aa_) → (List Bs) → Option (TOp × Bool)) (t10 : Int) (append0 : Int) (append1 : Int) (append2 : Bs) (append3 : List aa_) (append4 : List Bs) (t20 : Int) (t22 : Int) (t23 : Int) (t24 : Bs) (t40 : Int) (t42 : Int) (t43 : Int) (t44 : Bs) (t50 : Int) (t51 : Int) (t52 : Bs) (t70 : Int) (t71 : Int) (t72 : Bs) (t9 : List Bs) (t53 : List aa_) (t54 : List Bs) (t73 : List aa_) (t74 : List Bs) : Option (TOp × Bool) :=
  (cond (decide (t10 < (t9.length : Int))) (cond (t50 == 3) (inB t10 t9.length (cond (t52 == (t9.getD t10.toNat [])) (back (W (t10 + 1)) append0 append1 append2 append3 append4 t20 t22 t23 t24 t10 t42 t43 t44 t50 t51 t52 t70 t71 t72 t9 t53 t54 t73 t74) (back (W (t10 + 1)) append0 append1 append2 append3 append4 t20 t22 t23 t24 t40 t42 t43 t44 t50 t51 t52 t70 t71 t72 t9 t53 t54 t73 t74))) (back (W (t10 + 1)) append0 append1 append2 append3 append4 t20 t22 t23 t24 t40 t42 t43 t44 t50 t51 t52 t70 t71 t72 t9 t53 t54 t73 t74)) (k0 append0 append1 append2 append3 append4 t20 t22 t23 t24 t40 t42 t43 t44 t70 t71 t72 t73 t74))
def aH_.loop7 (n : Nat) (k0 : Int → Int → Bs → (List aa_) → (List Bs) → Int → Int → Int → Bs → Int → Int → Int → Bs → Int → Int → Bs → (List aa_) → (List Bs) → Option (TOp × Bool)) (N : Nat) : Int → Int → Int → Bs → (List aa_) → (List Bs) → Int → Int → Int → Bs → Int → Int → Int → Bs → Int → Int → Bs → Int → Int → Bs → (List Bs) → (List aa_) → (List Bs) → (List aa_) → (List Bs) → Option (TOp × Bool) :=
  cI_ (fun _ _ _ _ _ _ _ _ _ _ _ _ _ _ _ _ _ _ _ _ _ _ _ _ _ => none) (fun back => aH_.step7 n k0 back) N
def aH_.tail15 (n : Nat) (t12 : Bool) (append0 : Int) (append1 : Int) (append2 : Bs) (append3 : List aa_) (append4 : List Bs) (t20 : Int) (t22 : Int) (t23 : Int) (t24 : Bs) (t40 : Int) (t41 : List Bs) (t42 : Int) (t43 : Int) (t44 : Bs) (t45 : List aa_) (t46 : List Bs) : Option (TOp × Bool) :=
  (cond (!t12) (some ((TOp.mk 0 [] (aa_.mk 0 0 [] [] [])), false)) (cond (t40 == 0) (some ((TOp.mk 0 [] (aa_.mk 0 0 [] [] [])), false)) ((b8_ n (TOp.mk t40 t41 (aa_.mk t42 t43 t44 t45 t46))).bind fun xr24 => ((bO_ n (aa_.re xr24) (aa_.mk append0 append1 append2 append3 append4)).bind fun xr25 => (cond (!xr25) (some ((TOp.mk 0 [] (aa_.mk 0 0 [] [] [])), false)) (some ((TOp.mk t40 t41 (aa_.mk t42 t43 t44 t45 t46)), true)))))))
def aH_ : Nat → aa_ → Option (TOp × Bool)
  | 0, _ => none
  | n + 1, o =>
    ((cc_ n (aa_.re o) [111, 112]).bind fun xr1 => ((cc_ n (aa_.re o) [112, 97, 116, 104]).bind fun xr2 => ((bJ_ n ()).bind fun xr3 => (aH_.loop7 n (fun xy4 xy5 xy6 xy7 xy8 xy9 xy10 xy11 xy12 xy13 xy14 xy15 xy16 xy17 xy18 xy19 xy20 xy21 => ((aK_ n xy19).bind fun xr22 => ((cc_ n (aa_.mk xy4 xy5 xy6 xy7 xy8) [118, 97, 108, 117, 101]).bind fun xr23 => (aH_.tail15 n xr22.2 xy4 xy5 xy6 xy7 xy8 xy9 xy10 xy11 xy12 xy13 xr22.1 xr23.1.kind xr23.1.n_ xr23.1.s xr23.1.list xr23.1.names)))) n 1 o.kind o.n_ o.s o.list o.names 0 0 0 [] 0 0 0 [] xr1.1.kind xr1.1.n_ xr1.1.s xr2.1.kind xr2.1.n_ xr2.1.s xr3 xr1.1.list xr1.1.names xr2.1.list xr2.1.names))))
def a5_.step4 (n : Nat) (k0 : (List TOp) → Int → Int → Bs → Int → Int → Bs → (List aa_) → Option (aa_ × Bool)) (back : (List TOp) → Int → Int → Int → Bs → Int → Int → Bs → (List aa_) → Option (aa_ × Bool)) (list : List TOp) (i : Int) (t20 : Int) (t21 : Int) (t22 : Bs) (j0 : Int) (j1 : Int) (j2 : Bs) (j3 : List aa_) : Option (aa_ × Bool) :=
  (cond (decide (i < (list.length : Int))) (inB i list.length ((b8_ n { (list.getD i.toNat TOp.dflt) with value := (aa_.re ((list.getD i.toNat TOp.dflt).value)) }).bind fun xr1 => (cond (xr1.kind == 0) (some ((aa_.mk j0 j1 j2 j3 ([] : List Bs)), false)) (ci_ (j3.length + ([(aa_.re xr1)] : List aa_).length) 80 (back list (W (i + 1)) t20 t21 t22 j0 j1 j2 (j3 ++ ([(aa_.re xr1)] : List aa_))))))) (k0 list t20 t21 t22 j0 j1 j2 j3))
def a5_.loop4 (n : Nat) (k0 : (List TOp) → Int → Int → Bs → Int → Int → Bs → (List aa_) → Option (aa_ × Bool)) (N : Nat) : (List TOp) → Int → Int → Int → Bs → Int → Int → Bs → (List aa_) → Option (aa_ × Bool) :=
  cI_ (fun _ _ _ _ _ _ _ _ _ => none) (fun back => a5_.step4 n k0 back) N
def a5_ : Nat → (List TOp) → Option (aa_ × Bool)
  | 0, _ => none
  | n + 1, list =>
    (a5_.loop4 n (fun xy2 xy3 xy4 xy5 xy6 xy7 xy8 xy9 => (cond (decide ((xy2.length : Int) ≤ 40)) ((bU_ n (aa_.mk xy6 xy7 xy8 xy9 [])).bind fun xr10 => (some ((aa_.mk xy6 xy7 xy8 xy9 ([] : List Bs)), (!(xr10 == []))))) (some ((aa_.mk xy6 xy7 xy8 xy9 ([] : List Bs)), false)))) n list 0 0 0 [] 4 0 [] ([] : List aa_))
def b0_ : Nat → bb_ → Option Bool
  | 0, _ => none
  | n + 1, e =>
    ((cl_ n e.version 0 100000).bind fun xr1 => (cond (!xr1) (some false) (cond (e.kind == 1) (cond (e.base == 0) (cond ((e.ops.length : Int) == 0) ((bU_ n (aa_.re e.doc)).bind fun xr2 => (some (!(xr2 == [])))) (some false)) (some false)) (cond (e.kind == 2) ((a5_ n e.ops).bind fun xr3 => (cond xr3.2 ((cl_ n e.base 0 (W (e.version - 1))).bind fun xr4 => (cond xr4 ((ah_ n (aa_.re e.doc) (aa_.mk 0 0 [] [] [])).bind fun xr5 => (some xr5)) (some false))) (some false))) (some false)))))
def bB_ : Nat → bb_ → Option Bs
  | 0, _ => none
  | n + 1, e =>
    ((b0_ n { e with doc := (aa_.re e.doc) }).bind fun xr1 => (cond (!xr1) (some []) ((aI_ n e.version).bind fun xr2 => (cond (decide ([105, 100, 58, 32].length + xr2.length ≤ 9223372036854775807)) (cond (decide ((([105, 100, 58, 32] : Bs) ++ xr2).length + [10].length ≤ 9223372036854775807)) (cond (e.kind == 1) (cond (decide ([101, 118, 101, 110, 116, 58, 32, 115, 110, 97, 112, 10].length + ((([105, 100, 58, 32] : Bs) ++ xr2) ++ [10]).length ≤ 9223372036854775807)) (let xv3 : Bs := (([101, 118, 101, 110, 116, 58, 32, 115, 110, 97, 112, 10] : Bs) ++ ((([105, 100, 58, 32] : Bs) ++ xr2) ++ [10])); (cond (decide (xv3.length + [100, 97, 116, 97, 58, 32].length ≤ 9223372036854775807)) ((bU_ n (aa_.re e.doc)).bind fun xr4 => (cond (decide ((xv3 ++ [100, 97, 116, 97, 58, 32]).length + xr4.length ≤ 9223372036854775807)) (cond (decide (((xv3 ++ [100, 97, 116, 97, 58, 32]) ++ xr4).length + [10, 10].length ≤ 9223372036854775807)) (some (((xv3 ++ [100, 97, 116, 97, 58, 32]) ++ xr4) ++ [10, 10])) none) none)) none)) none) ((a5_ n e.ops).bind fun xr5 => (cond (decide ([101, 118, 101, 110, 116, 58, 32, 112, 97, 116, 99, 104, 10].length + ((([105, 100, 58, 32] : Bs) ++ xr2) ++ [10]).length ≤ 9223372036854775807)) (let xv6 : Bs := (([101, 118, 101, 110, 116, 58, 32, 112, 97, 116, 99, 104, 10] : Bs) ++ ((([105, 100, 58, 32] : Bs) ++ xr2) ++ [10])); (cond (decide (xv6.length + [98, 97, 115, 101, 58, 32].length ≤ 9223372036854775807)) ((aI_ n e.base).bind fun xr7 => (cond (decide ((xv6 ++ [98, 97, 115, 101, 58, 32]).length + xr7.length ≤ 9223372036854775807)) (cond (decide (((xv6 ++ [98, 97, 115, 101, 58, 32]) ++ xr7).length + [10, 100, 97, 116, 97, 58, 32].length ≤ 9223372036854775807)) (let xv8 : Bs := (((xv6 ++ [98, 97, 115, 101, 58, 32]) ++ xr7) ++ [10, 100, 97, 116, 97, 58, 32]); ((bU_ n (aa_.re xr5.1)).bind fun xr9 => (cond (decide (xv8.length + xr9.length ≤ 9223372036854775807)) (cond (decide ((xv8 ++ xr9).length + [10, 10].length ≤ 9223372036854775807)) (some ((xv8 ++ xr9) ++ [10, 10])) none) none))) none) none)) none)) none))) none) none))))
def ac_.step20 (n : Nat) (k3 : Bs → Int → Int → Int → Int → Int → Int → Bs → Int → Int → Int → Int → Int → Bs → (List Bs) → (List aa_) → (List Bs) → (List TOp) → Option (bb_ × Bool)) (back : Bs → Int → Int → Int → Int → Int → Int → Int → Bs → Int → Int → Int → Int → Int → Bs → (List Bs) → Int → Int → Bs → (List aa_) → (List Bs) → (List TOp) → (List aa_) → (List Bs) → Option (bb_ × Bool)) (o : Bs) (t6 : Int) (t10 : Int) (t20 : Int) (t21 : Int) (t22 : Int) (t23 : Int) (t24 : Int) (t25 : Bs) (t40 : Int) (t41 : Int) (t42 : Int) (t43 : Int) (t44 : Int) (t45 : Bs) (t5 : List Bs) (t80 : Int) (t81 : Int) (t82 : Bs) (t46 : List aa_) (t47 : List Bs) (t48 : List TOp) (t83 : List aa_) (t84 : List Bs) : Option (bb_ × Bool) :=
  (cond (decide (t10 < (t83.length : Int))) (inB t10 t83.length ((aH_ n (aa_.re (t83.getD t10.toNat aa_.dflt))).bind fun xr13 => (cond (!xr13.2) (some ((bb_.mk 0 0 0 (aa_.mk 0 0 [] ([] : List aa_) ([] : List Bs)) ([] : List TOp)), false)) (ci_ (t48.length + ([{ xr13.1 with value := (aa_.re xr13.1.value) }] : List TOp).length) 112 (back o t6 (W (t10 + 1)) t20 t21 t22 t23 t24 t25 t40 t41 t42 t43 t44 t45 t5 t80 t81 t82 t46 t47 (t48 ++ ([{ xr13.1 with value := (aa_.re xr13.1.value) }] : List TOp)) t83 t84))))) (k3 o t6 t20 t21 t22 t23 t24 t25 t40 t41 t42 t43 t44 t45 t5 t46 t47 t48))
def ac_.loop20 (n : Nat) (k3 : Bs → Int → Int → Int → Int → Int → Int → Bs → Int → Int → Int → Int → Int → Bs → (List Bs) → (List aa_) → (List Bs) → (List TOp) → Option (bb_ × Bool)) (N : Nat) : Bs → Int → Int → Int → Int → Int → Int → Int → Bs → Int → Int → Int → Int → Int → Bs → (List Bs) → Int → Int → Bs → (List aa_) → (List Bs) → (List TOp) → (List aa_) → (List Bs) → Option (bb_ × Bool) :=
  cI_ (fun _ _ _ _ _ _ _ _ _ _ _ _ _ _ _ _ _ _ _ _ _ _ _ _ => none) (fun back => ac_.step20 n k3 back) N
def ac_.step5 (n : Nat) (k0 : Bs → Int → Int → Int → Int → Int → Bs → Int → Int → Int → Int → Int → Bs → (List aa_) → (List Bs) → (List TOp) → Option (bb_ × Bool)) (back : Bs → Int → Int → Int → Int → Int → Int → Bs → Int → Int → Int → Int → Int → Bs → (List Bs) → (List aa_) → (List Bs) → (List TOp) → Option (bb_ × Bool)) (o : Bs) (t6 : Int) (t20 : Int) (t21 : Int) (t22 : Int) (t23 : Int) (t24 : Int) (t25 : Bs) (t40 : Int) (t41 : Int) (t42 : Int) (t43 : Int) (t44 : Int) (t45 : Bs) (t5 : List Bs) (t46 : List aa_) (t47 : List Bs) (t48 : List TOp) : Option (bb_ × Bool) :=
  (cond (decide (t6 < (t5.length : Int))) (cond (decide (t6 < 6)) (inB t6 t5.length (let xv2 : Bool := ((t5.getD t6.toNat []) == [101, 118, 101, 110, 116, 58, 32, 115, 110, 97, 112]); (cond xv2 (back o (W (t6 + 1)) t20 t21 t22 t23 t24 t25 1 t41 t42 t43 t44 t45 t5 t46 t47 t48) (let xv3 : Bool := ((t5.getD t6.toNat []) == [101, 118, 101, 110, 116, 58, 32, 112, 97, 116, 99, 104]); (cond xv3 (back o (W (t6 + 1)) t20 t21 t22 t23 t24 t25 2 t41 t42 t43 t44 t45 t5 t46 t47 t48) ((bn_ n (t5.getD t6.toNat []) [105, 100, 58, 32]).bind fun xr4 => (cond (!(xr4 == [])) ((bn_ n (t5.getD t6.toNat []) [105, 100, 58, 32]).bind fun xr5 => ((bY_ n xr5).bind fun xr6 => (back o (W (t6 + 1)) t20 t21 t22 t23 t24 t25 t40 xr6.1 t42 t43 t44 t45 t5 t46 t47 t48))) ((bn_ n (t5.getD t6.toNat []) [98, 97, 115, 101, 58, 32]).bind fun xr7 => (cond (!(xr7 == [])) ((bn_ n (t5.getD t6.toNat []) [98, 97, 115, 101, 58, 32]).bind fun xr8 => ((bY_ n xr8).bind fun xr9 => (back o (W (t6 + 1)) t20 t21 t22 t23 t24 t25 t40 t41 xr9.1 t43 t44 t45 t5 t46 t47 t48))) ((bn_ n (t5.getD t6.toNat []) [100, 97, 116, 97, 58, 32]).bind fun xr10 => (cond (!(xr10 == [])) ((bn_ n (t5.getD t6.toNat []) [100, 97, 116, 97, 58, 32]).bind fun xr11 => ((b3_ n xr11).bind fun xr12 => (cond (t40 == 1) (back o (W (t6 + 1)) t20 t21 t22 t23 t24 t25 t40 t41 t42 xr12.1.kind xr12.1.n_ xr12.1.s t5 xr12.1.list xr12.1.names t48) (ac_.loop20 n (fun xy14 xy15 xy16 xy17 xy18 xy19 xy20 xy21 xy22 xy23 xy24 xy25 xy26 xy27 xy28 xy29 xy30 xy31 => (back xy14 (W (xy15 + 1)) xy16 xy17 xy18 xy19 xy20 xy21 xy22 xy23 xy24 xy25 xy26 xy27 xy28 xy29 xy30 xy31)) n o t6 0 t20 t21 t22 t23 t24 t25 t40 t41 t42 t43 t44 t45 t5 xr12.1.kind xr12.1.n_ xr12.1.s t46 t47 t48 xr12.1.list xr12.1.names)))) (back o (W (t6 + 1)) t20 t21 t22 t23 t24 t25 t40 t41 t42 t43 t44 t45 t5 t46 t47 t48)))))))))))) (k0 o t20 t21 t22 t23 t24 t25 t40 t41 t42 t43 t44 t45 t46 t47 t48)) (k0 o t20 t21 t22 t23 t24 t25 t40 t41 t42 t43 t44 t45 t46 t47 t48))
def ac_.loop5 (n : Nat) (k0 : Bs → Int → Int → Int → Int → Int → Bs → Int → Int → Int → Int → Int → Bs → (List aa_) → (List Bs) → (List TOp) → Option (bb_ × Bool)) (N : Nat) : Bs → Int → Int → Int → Int → Int → Int → Bs → Int → Int → Int → Int → Int → Bs → (List Bs) → (List aa_) → (List Bs) → (List TOp) → Option (bb_ × Bool) :=
  cI_ (fun _ _ _ _ _ _ _ _ _ _ _ _ _ _ _ _ _ _ => none) (fun back => ac_.step5 n k0 back) N
def ac_ : Nat → Bs → Option (bb_ × Bool)
  | 0, _ => none
  | n + 1, o =>
    ((aP_ n o).bind fun xr1 => (ac_.loop5 n (fun xy32 xy33 xy34 xy35 xy36 xy37 xy38 xy39 xy40 xy41 xy42 xy43 xy44 xy45 xy46 xy47 => (cond (xy32 == []) (some ((bb_.mk 0 0 0 (aa_.mk 0 0 [] ([] : List aa_) ([] : List Bs)) ([] : List TOp)), false)) ((bB_ n (bb_.mk xy39 xy40 xy41 (aa_.mk xy42 xy43 xy44 xy45 xy46) xy47)).bind fun xr48 => (cond (!(xr48 == xy32)) (some ((bb_.mk 0 0 0 (aa_.mk 0 0 [] ([] : List aa_) ([] : List Bs)) ([] : List TOp)), false)) (some ((bb_.mk xy39 xy40 xy41 (aa_.mk xy42 xy43 xy44 xy45 xy46) xy47), true)))))) n o 0 0 0 0 0 0 [] 0 0 0 0 0 [] xr1 ([] : List aa_) ([] : List Bs) ([] : List TOp)))
def aw_ : Nat → Bs → Bs → Option Bool
  | 0, _, _ => none
  | n + 1, s, prefix1 =>
    (cond (decide ((s.length : Int) ≥ (prefix1.length : Int))) (gn_ 0 (prefix1.length : Int) s.length (some (((s.take (prefix1.length : Int).toNat).drop 0) == prefix1))) (some false))
def aB_ : Nat → Bs → Bs → Option (Bs × Bool)
  | 0, _, _ => none
  | n + 1, s, prefix1 =>
    ((aw_ n s prefix1).bind fun xr1 => (cond (!xr1) (some (s, false)) (gn_ (prefix1.length : Int) (s.length : Int) s.length (some (((s.take (s.length : Int).toNat).drop (prefix1.length : Int).toNat), true)))))
def bi_ : Nat → Bs → Bs → Option (Bs × Bool)
  | 0, _, _ => none
  | n + 1, s, prefix1 =>
    ((aB_ n s prefix1).bind fun xr1 => (some (xr1.1, xr1.2)))
def a2_ : Nat → Bs → Bs → Option Int
  | 0, _, _ => none
  | _ + 1, s, a => mi_ s a
def aT_ : Nat → Bs → Bs → Option (Bs × Bs × Bool)
  | 0, _, _ => none
  | n + 1, s, sep =>
    ((a2_ n s sep).bind fun xr1 => (cond (decide (xr1 ≥ 0)) (gn_ 0 xr1 s.length (gn_ (W (xr1 + (sep.length : Int))) (s.length : Int) s.length (let xv2 : Bs := ((s.take (s.length : Int).toNat).drop (W (xr1 + (sep.length : Int))).toNat); (some (((s.take xr1.toNat).drop 0), xv2, true))))) (some (s, [], false))))
def cg_ : Nat → Bs → Bs → Option (Bs × Bs × Bool)
  | 0, _, _ => none
  | n + 1, s, sep =>
    ((aT_ n s sep).bind fun xr1 => (some (xr1.1, xr1.2.1, xr1.2.2)))
def az_ : Nat → Bs → Bs → Option Bs
  | 0, _, _ => none
  | n + 1, s, prefix1 =>
    ((aw_ n s prefix1).bind fun xr1 => (cond xr1 (gn_ (prefix1.length : Int) (s.length : Int) s.length (some ((s.take (s.length : Int).toNat).drop (prefix1.length : Int).toNat))) (some s)))
def bg_ : Nat → Bs → Bs → Option Bs
  | 0, _, _ => none
  | n + 1, s, prefix1 =>
    ((az_ n s prefix1).bind fun xr1 => (some xr1))
def b2_ : Nat → Bs → Bs → Option (Bs × Bs)
  | 0, _, _ => none
  | n + 1, text, word =>
    ((cg_ n text [10]).bind fun xr1 => ((bg_ n xr1.1 word).bind fun xr2 => (some (xr2, xr1.2.1))))
def bH_ : Nat → Bs → Option (Int × Bool)
  | 0, _ => none
  | _ + 1, s => nAtoi s
def a0_ : Nat → aC_ → Bs → Option (Bool × aC_)
  | 0, _, _ => none
  | n + 1, r, text =>
    ((bi_ n r.text text).bind fun xr1 => (cond xr1.2 (some ((!r.bad), (aC_.mk xr1.1 r.bad))) (some (false, (aC_.mk xr1.1 r.bad)))))
def bk_ : Nat → Bs → Bs → Option Bool
  | 0, _, _ => none
  | n + 1, s, prefix1 =>
    ((aw_ n s prefix1).bind fun xr1 => (some xr1))
def bd_ : Nat → aC_ → Bs → Option aC_
  | 0, _, _ => none
  | n + 1, r, text =>
    ((a0_ n r text).bind fun xr1 => (cond (!xr1.1) (some (aC_.mk xr1.2.text true)) (some xr1.2)))
def ai_.step4 (n : Nat) (k0 : Bs → Bool → Option (Bs × aC_)) (back : Bs → Bool → (List Int) → Option (Bs × aC_)) (r0 : Bs) (r1 : Bool) (out_1 : List Int) : Option (Bs × aC_) :=
  (cond (!r1) ((a0_ n (aC_.mk r0 r1) [34]).bind fun xr2 => (cond xr2.1 (some ((eN_ out_1), xr2.2)) ((a0_ n xr2.2 [92]).bind fun xr3 => (cond (xr3.2.text == []) (k0 xr3.2.text true) (inB 0 xr3.2.text.length (ci_ (out_1.length + ([((xr3.2.text.getD 0 0).toNat : Int)] : List Int).length) 1 (gn_ 1 (xr3.2.text.length : Int) xr3.2.text.length (back ((xr3.2.text.take (xr3.2.text.length : Int).toNat).drop 1) xr3.2.bad (out_1 ++ ([((xr3.2.text.getD 0 0).toNat : Int)] : List Int)))))))))) (k0 r0 r1))
def ai_.loop4 (n : Nat) (k0 : Bs → Bool → Option (Bs × aC_)) (N : Nat) : Bs → Bool → (List Int) → Option (Bs × aC_) :=
  cI_ (fun _ _ _ => none) (fun back => ai_.step4 n k0 back) N
def ai_ : Nat → aC_ → Option (Bs × aC_)
  | 0, _ => none
  | n + 1, r =>
    ((bd_ n r [34]).bind fun xr1 => (ai_.loop4 n (fun xy4 xy5 => (some ([], (aC_.mk xy4 xy5)))) n xr1.text xr1.bad ([] : List Int)))
def aO_ : Nat → Int → Int → Int → Option Bool
  | 0, _, _, _ => none
  | n + 1, n1, low, high =>
    (cond (decide (n1 ≥ low)) (some (decide (n1 ≤ high))) (some false))
def ag_.step3 (n : Nat) (k0 : Int → Bs → Bool → Int → Int → Bs → Option (aa_ × aC_)) (back : Int → Bs → Bool → Int → Int → Bs → Option (aa_ × aC_)) (n_1 : Int) (r0 : Bs) (r1 : Bool) (t20 : Int) (t21 : Int) (t22 : Bs) : Option (aa_ × aC_) :=
  (cond (decide (n_1 < (r0.length : Int))) (inB n_1 r0.length ((aO_ n (W (((r0.getD n_1.toNat 0).toNat : Int))) 48 57).bind fun xr1 => (cond xr1 (back (W (n_1 + 1)) r0 r1 t20 t21 t22) (cond (n_1 == 0) (inB 0 r0.length (cond (((r0.getD 0 0).toNat : Int) == 45) (back (W (n_1 + 1)) r0 r1 t20 t21 t22) (k0 n_1 r0 r1 t20 t21 t22))) (k0 n_1 r0 r1 t20 t21 t22))))) (k0 n_1 r0 r1 t20 t21 t22))
def ag_.loop3 (n : Nat) (k0 : Int → Bs → Bool → Int → Int → Bs → Option (aa_ × aC_)) (N : Nat) : Int → Bs → Bool → Int → Int → Bs → Option (aa_ × aC_) :=
  cI_ (fun _ _ _ _ _ _ => none) (fun back => ag_.step3 n k0 back) N
def ag_ : Nat → aC_ → Option (aa_ × aC_)
  | 0, _ => none
  | n + 1, r =>
    (ag_.loop3 n (fun xy2 xy3 xy4 xy5 xy6 xy7 => (gn_ 0 xy2 xy3.length ((bH_ n ((xy3.take xy2.toNat).drop 0)).bind fun xr8 => (cond (!xr8.2) (gn_ xy2 (xy3.length : Int) xy3.length (some ((aa_.mk 2 xr8.1 [] ([] : List aa_) ([] : List Bs)), (aC_.mk ((xy3.take (xy3.length : Int).toNat).drop xy2.toNat) true)))) (gn_ xy2 (xy3.length : Int) xy3.length (some ((aa_.mk 2 xr8.1 [] ([] : List aa_) ([] : List Bs)), (aC_.mk ((xy3.take (xy3.length : Int).toNat).drop xy2.toNat) xy4)))))))) n 0 r.text r.bad 0 0 [])
def af_.step7 (n : Nat) (impl_reader_value_ : aC_ → Int → Option (aa_ × aC_)) (k0 : Bs → Bs → Bool → Int → Int → Bs → Int → Int → Bs → (List aa_) → (List Bs) → Option (aa_ × aC_)) (back : Int → Bs → Int → Bool → Bs → Bool → Int → Int → Bs → Int → Int → Bs → (List aa_) → (List Bs) → Option (aa_ × aC_)) (kind : Int) (end_1 : Bs) (deep : Int) (more : Bool) (r0 : Bs) (r1 : Bool) (t80 : Int) (t81 : Int) (t82 : Bs) (j0 : Int) (j1 : Int) (j2 : Bs) (j3 : List aa_) (j4 : List Bs) : Option (aa_ × aC_) :=
  (cond more (cond (!r1) (cond (kind == 5) ((ai_ n (aC_.mk r0 r1)).bind fun xr2 => ((bd_ n xr2.2 [58]).bind fun xr3 => (ci_ (j4.length + ([xr2.1] : List Bs).length) 16 ((impl_reader_value_ xr3 (W (deep - 1))).bind fun xr4 => (ci_ (j3.length + ([(aa_.re xr4.1)] : List aa_).length) 80 ((a0_ n xr4.2 [44]).bind fun xr5 => (back kind end_1 deep xr5.1 xr5.2.text xr5.2.bad t80 t81 t82 j0 j1 j2 (j3 ++ ([(aa_.re xr4.1)] : List aa_)) (j4 ++ ([xr2.1] : List Bs))))))))) ((impl_reader_value_ (aC_.mk r0 r1) (W (deep - 1))).bind fun xr6 => (ci_ (j3.length + ([(aa_.re xr6.1)] : List aa_).length) 80 ((a0_ n xr6.2 [44]).bind fun xr7 => (back kind end_1 deep xr7.1 xr7.2.text xr7.2.bad t80 t81 t82 j0 j1 j2 (j3 ++ ([(aa_.re xr6.1)] : List aa_)) j4))))) (k0 end_1 r0 r1 t80 t81 t82 j0 j1 j2 j3 j4)) (k0 end_1 r0 r1 t80 t81 t82 j0 j1 j2 j3 j4))
def af_.loop7 (n : Nat) (impl_reader_value_ : aC_ → Int → Option (aa_ × aC_)) (k0 : Bs → Bs → Bool → Int → Int → Bs → Int → Int → Bs → (List aa_) → (List Bs) → Option (aa_ × aC_)) (N : Nat) : Int → Bs → Int → Bool → Bs → Bool → Int → Int → Bs → Int → Int → Bs → (List aa_) → (List Bs) → Option (aa_ × aC_) :=
  cI_ (fun _ _ _ _ _ _ _ _ _ _ _ _ _ _ => none) (fun back => af_.step7 n impl_reader_value_ k0 back) N
mutual
def aF_ : Nat → aC_ → Int → Option (aa_ × aC_)
  | 0, _, _ => none
  | n + 1, r, deep =>
    (cond (decide (deep < 1)) (some ((aa_.mk 0 0 [] ([] : List aa_) ([] : List Bs)), (aC_.mk r.text true))) (cond r.bad (some ((aa_.mk 0 0 [] ([] : List aa_) ([] : List Bs)), (aC_.mk r.text true))) ((a0_ n r [110, 117, 108, 108]).bind fun xr1 => (cond xr1.1 (some ((aa_.mk 0 0 [] ([] : List aa_) ([] : List Bs)), xr1.2)) ((a0_ n xr1.2 [102, 97, 108, 115, 101]).bind fun xr2 => (cond xr2.1 (some ((aa_.mk 1 0 [] ([] : List aa_) ([] : List Bs)), xr2.2)) ((a0_ n xr2.2 [116, 114, 117, 101]).bind fun xr3 => (cond xr3.1 (some ((aa_.mk 1 1 [] ([] : List aa_) ([] : List Bs)), xr3.2)) ((bk_ n xr3.2.text [34]).bind fun xr4 => (cond xr4 ((ai_ n xr3.2).bind fun xr5 => (some ((aa_.mk 3 0 xr5.1 ([] : List aa_) ([] : List Bs)), xr5.2))) ((a0_ n xr3.2 [91]).bind fun xr6 => (cond xr6.1 ((af_ n xr6.2 4 [93] deep).bind fun xr7 => (some ((aa_.re xr7.1), xr7.2))) ((a0_ n xr6.2 [123]).bind fun xr8 => (cond xr8.1 ((af_ n xr8.2 5 [125] deep).bind fun xr9 => (some ((aa_.re xr9.1), xr9.2))) ((ag_ n xr8.2).bind fun xr10 => (some ((aa_.re xr10.1), xr10.2)))))))))))))))))
def af_ : Nat → aC_ → Int → Bs → Int → Option (aa_ × aC_)
  | 0, _, _, _, _ => none
  | n + 1, r, kind, end1, deep =>
    ((a0_ n r end1).bind fun xr1 => (cond xr1.1 (some ((aa_.mk kind 0 [] ([] : List aa_) ([] : List Bs)), xr1.2)) (af_.loop7 n (aF_ n) (fun xy8 xy9 xy10 xy11 xy12 xy13 xy14 xy15 xy16 xy17 xy18 => ((bd_ n (aC_.mk xy9 xy10) xy8).bind fun xr19 => (some ((aa_.mk xy14 xy15 xy16 xy17 xy18), xr19)))) n kind end1 deep true xr1.2.text xr1.2.bad 0 0 [] kind 0 [] ([] : List aa_) ([] : List Bs))))
end
def a9_ : Nat → Int → Option Bool
  | 0, _ => none
  | n + 1, n1 =>
    ((aO_ n n1 (-1000000000) 1000000000).bind fun xr1 => (some xr1))
def as_.step3 (n : Nat) (k0 : Bs → Option Bool) (back : Bs → Int → Int → Option Bool) (s : Bs) (t5 : Int) (t6 : Int) : Option Bool :=
  (cond (decide (t6 < t5)) (inB t6 s.length ((aO_ n (W (((s.getD t6.toNat 0).toNat : Int))) 32 126).bind fun xr1 => (cond (!xr1) (some false) (back s t5 (W (t6 + 1)))))) (k0 s))
def as_.loop3 (n : Nat) (k0 : Bs → Option Bool) (N : Nat) : Bs → Int → Int → Option Bool :=
  cI_ (fun _ _ _ => none) (fun back => as_.step3 n k0 back) N
def as_ : Nat → Bs → Option Bool
  | 0, _ => none
  | n + 1, s =>
    (as_.loop3 n (fun xy2 => (some (decide ((xy2.length : Int) ≤ 60)))) n s (s.length : Int) 0)
def am_.step3 (n : Nat) (k0 : Option Bool) (back : (List Bs) → (List Bs) → Int → Int → Option Bool) (names : List Bs) (t5 : List Bs) (t6 : Int) (t7 : Int) : Option Bool :=
  (cond (decide (t7 < t6)) (inB t7 t5.length ((as_ n (t5.getD t7.toNat [])).bind fun xr1 => (cond (!xr1) (some false) (cond (decide (t7 > 0)) (inB (W (t7 - 1)) names.length (let xv2 : Bool := (!Op.bytesLess (names.getD (W (t7 - 1)).toNat []) (t5.getD t7.toNat [])); (cond xv2 (some false) (back names t5 t6 (W (t7 + 1)))))) (back names t5 t6 (W (t7 + 1))))))) k0)
def am_.loop3 (n : Nat) (k0 : Option Bool) (N : Nat) : (List Bs) → (List Bs) → Int → Int → Option Bool :=
  cI_ (fun _ _ _ _ => none) (fun back => am_.step3 n k0 back) N
def am_ : Nat → (List Bs) → Option Bool
  | 0, _ => none
  | n + 1, names =>
    (am_.loop3 n (some true) n names names (names.length : Int) 0)
def cn_ : Nat → aa_ → Option Bool
  | 0, _ => none
  | n + 1, o =>
    (cond (decide ((o.list.length : Int) > 0)) (cond (o.kind != 4) (cond (o.kind != 5) (some false) (cond (decide ((o.names.length : Int) > 0)) (cond (o.kind != 5) (some false) (cond (o.n_ != 0) (cond (o.kind != 1) (cond (o.kind != 2) (some false) (cond (!(o.s == [])) (cond (o.kind != 3) (some false) (cond (o.kind == 1) ((aO_ n o.n_ 0 1).bind fun xr1 => (some xr1)) (cond (o.kind == 2) ((a9_ n o.n_).bind fun xr2 => (some xr2)) (cond (o.kind == 3) ((as_ n o.s).bind fun xr3 => (some xr3)) (cond (o.kind == 5) (cond ((o.names.length : Int) == (o.list.length : Int)) ((am_ n o.names).bind fun xr4 => (some xr4)) (some false)) (cond (o.kind == 0) (some true) (some (o.kind == 4)))))))) (cond (o.kind == 1) ((aO_ n o.n_ 0 1).bind fun xr5 => (some xr5)) (cond (o.kind == 2) ((a9_ n o.n_).bind fun xr6 => (some xr6)) (cond (o.kind == 3) ((as_ n o.s).bind fun xr7 => (some xr7)) (cond (o.kind == 5) (cond ((o.names.length : Int) == (o.list.length : Int)) ((am_ n o.names).bind fun xr8 => (some xr8)) (some false)) (cond (o.kind == 0) (some true) (some (o.kind == 4))))))))) (cond (!(o.s == [])) (cond (o.kind != 3) (some false) (cond (o.kind == 1) ((aO_ n o.n_ 0 1).bind fun xr9 => (some xr9)) (cond (o.kind == 2) ((a9_ n o.n_).bind fun xr10 => (some xr10)) (cond (o.kind == 3) ((as_ n o.s).bind fun xr11 => (some xr11)) (cond (o.kind == 5) (cond ((o.names.length : Int) == (o.list.length : Int)) ((am_ n o.names).bind fun xr12 => (some xr12)) (some false)) (cond (o.kind == 0) (some true) (some (o.kind == 4)))))))) (cond (o.kind == 1) ((aO_ n o.n_ 0 1).bind fun xr13 => (some xr13)) (cond (o.kind == 2) ((a9_ n o.n_).bind fun xr14 => (some xr14)) (cond (o.kind == 3) ((as_ n o.s).bind fun xr15 => (some xr15)) (cond (o.kind == 5) (cond ((o.names.length : Int) == (o.list.length : Int)) ((am_ n o.names).bind fun xr16 => (some xr16)) (some false)) (cond (o.kind == 0) (some true) (some (o.kind == 4))))))))) (cond (!(o.s == [])) (cond (o.kind != 3) (some false) (cond (o.kind == 1) ((aO_ n o.n_ 0 1).bind fun xr17 => (some xr17)) (cond (o.kind == 2) ((a9_ n o.n_).bind fun xr18 => (some xr18)) (cond (o.kind == 3) ((as_ n o.s).bind fun xr19 => (some xr19)) (cond (o.kind == 5) (cond ((o.names.length : Int) == (o.list.length : Int)) ((am_ n o.names).bind fun xr20 => (some xr20)) (some false)) (cond (o.kind == 0) (some true) (some (o.kind == 4)))))))) (cond (o.kind == 1) ((aO_ n o.n_ 0 1).bind fun xr21 => (some xr21)) (cond (o.kind == 2) ((a9_ n o.n_).bind fun xr22 => (some xr22)) (cond (o.kind == 3) ((as_ n o.s).bind fun xr23 => (some xr23)) (cond (o.kind == 5) (cond ((o.names.length : Int) == (o.list.length : Int)) ((am_ n o.names).bind fun xr24 => (some xr24)) (some false)) (cond (o.kind == 0) (some true) (some (o.kind == 4)))))))))) (cond (o.n_ != 0) (cond (o.kind != 1) (cond (o.kind != 2) (some false) (cond (!(o.s == [])) (cond (o.kind != 3) (some false) (cond (o.kind == 1) ((aO_ n o.n_ 0 1).bind fun xr25 => (some xr25)) (cond (o.kind == 2) ((a9_ n o.n_).bind fun xr26 => (some xr26)) (cond (o.kind == 3) ((as_ n o.s).bind fun xr27 => (some xr27)) (cond (o.kind == 5) (cond ((o.names.length : Int) == (o.list.length : Int)) ((am_ n o.names).bind fun xr28 => (some xr28)) (some false)) (cond (o.kind == 0) (some true) (some (o.kind == 4)))))))) (cond (o.kind == 1) ((aO_ n o.n_ 0 1).bind fun xr29 => (some xr29)) (cond (o.kind == 2) ((a9_ n o.n_).bind fun xr30 => (some xr30)) (cond (o.kind == 3) ((as_ n o.s).bind fun xr31 => (some xr31)) (cond (o.kind == 5) (cond ((o.names.length : Int) == (o.list.length : Int)) ((am_ n o.names).bind fun xr32 => (some xr32)) (some false)) (cond (o.kind == 0) (some true) (some (o.kind == 4))))))))) (cond (!(o.s == [])) (cond (o.kind != 3) (some false) (cond (o.kind == 1) ((aO_ n o.n_ 0 1).bind fun xr33 => (some xr33)) (cond (o.kind == 2) ((a9_ n o.n_).bind fun xr34 => (some xr34)) (cond (o.kind == 3) ((as_ n o.s).bind fun xr35 => (some xr35)) (cond (o.kind == 5) (cond ((o.names.length : Int) == (o.list.length : Int)) ((am_ n o.names).bind fun xr36 => (some xr36)) (some false)) (cond (o.kind == 0) (some true) (some (o.kind == 4)))))))) (cond (o.kind == 1) ((aO_ n o.n_ 0 1).bind fun xr37 => (some xr37)) (cond (o.kind == 2) ((a9_ n o.n_).bind fun xr38 => (some xr38)) (cond (o.kind == 3) ((as_ n o.s).bind fun xr39 => (some xr39)) (cond (o.kind == 5) (cond ((o.names.length : Int) == (o.list.length : Int)) ((am_ n o.names).bind fun xr40 => (some xr40)) (some false)) (cond (o.kind == 0) (some true) (some (o.kind == 4))))))))) (cond (!(o.s == [])) (cond (o.kind != 3) (some false) (cond (o.kind == 1) ((aO_ n o.n_ 0 1).bind fun xr41 => (some xr41)) (cond (o.kind == 2) ((a9_ n o.n_).bind fun xr42 => (some xr42)) (cond (o.kind == 3) ((as_ n o.s).bind fun xr43 => (some xr43)) (cond (o.kind == 5) (cond ((o.names.length : Int) == (o.list.length : Int)) ((am_ n o.names).bind fun xr44 => (some xr44)) (some false)) (cond (o.kind == 0) (some true) (some (o.kind == 4)))))))) (cond (o.kind == 1) ((aO_ n o.n_ 0 1).bind fun xr45 => (some xr45)) (cond (o.kind == 2) ((a9_ n o.n_).bind fun xr46 => (some xr46)) (cond (o.kind == 3) ((as_ n o.s).bind fun xr47 => (some xr47)) (cond (o.kind == 5) (cond ((o.names.length : Int) == (o.list.length : Int)) ((am_ n o.names).bind fun xr48 => (some xr48)) (some false)) (cond (o.kind == 0) (some true) (some (o.kind == 4))))))))))) (cond (decide ((o.names.length : Int) > 0)) (cond (o.kind != 5) (some false) (cond (o.n_ != 0) (cond (o.kind != 1) (cond (o.kind != 2) (some false) (cond (!(o.s == [])) (cond (o.kind != 3) (some false) (cond (o.kind == 1) ((aO_ n o.n_ 0 1).bind fun xr49 => (some xr49)) (cond (o.kind == 2) ((a9_ n o.n_).bind fun xr50 => (some xr50)) (cond (o.kind == 3) ((as_ n o.s).bind fun xr51 => (some xr51)) (cond (o.kind == 5) (cond ((o.names.length : Int) == (o.list.length : Int)) ((am_ n o.names).bind fun xr52 => (some xr52)) (some false)) (cond (o.kind == 0) (some true) (some (o.kind == 4)))))))) (cond (o.kind == 1) ((aO_ n o.n_ 0 1).bind fun xr53 => (some xr53)) (cond (o.kind == 2) ((a9_ n o.n_).bind fun xr54 => (some xr54)) (cond (o.kind == 3) ((as_ n o.s).bind fun xr55 => (some xr55)) (cond (o.kind == 5) (cond ((o.names.length : Int) == (o.list.length : Int)) ((am_ n o.names).bind fun xr56 => (some xr56)) (some false)) (cond (o.kind == 0) (some true) (some (o.kind == 4))))))))) (cond (!(o.s == [])) (cond (o.kind != 3) (some false) (cond (o.kind == 1) ((aO_ n o.n_ 0 1).bind fun xr57 => (some xr57)) (cond (o.kind == 2) ((a9_ n o.n_).bind fun xr58 => (some xr58)) (cond (o.kind == 3) ((as_ n o.s).bind fun xr59 => (some xr59)) (cond (o.kind == 5) (cond ((o.names.length : Int) == (o.list.length : Int)) ((am_ n o.names).bind fun xr60 => (some xr60)) (some false)) (cond (o.kind == 0) (some true) (some (o.kind == 4)))))))) (cond (o.kind == 1) ((aO_ n o.n_ 0 1).bind fun xr61 => (some xr61)) (cond (o.kind == 2) ((a9_ n o.n_).bind fun xr62 => (some xr62)) (cond (o.kind == 3) ((as_ n o.s).bind fun xr63 => (some xr63)) (cond (o.kind == 5) (cond ((o.names.length : Int) == (o.list.length : Int)) ((am_ n o.names).bind fun xr64 => (some xr64)) (some false)) (cond (o.kind == 0) (some true) (some (o.kind == 4))))))))) (cond (!(o.s == [])) (cond (o.kind != 3) (some false) (cond (o.kind == 1) ((aO_ n o.n_ 0 1).bind fun xr65 => (some xr65)) (cond (o.kind == 2) ((a9_ n o.n_).bind fun xr66 => (some xr66)) (cond (o.kind == 3) ((as_ n o.s).bind fun xr67 => (some xr67)) (cond (o.kind == 5) (cond ((o.names.length : Int) == (o.list.length : Int)) ((am_ n o.names).bind fun xr68 => (some xr68)) (some false)) (cond (o.kind == 0) (some true) (some (o.kind == 4)))))))) (cond (o.kind == 1) ((aO_ n o.n_ 0 1).bind fun xr69 => (some xr69)) (cond (o.kind == 2) ((a9_ n o.n_).bind fun xr70 => (some xr70)) (cond (o.kind == 3) ((as_ n o.s).bind fun xr71 => (some xr71)) (cond (o.kind == 5) (cond ((o.names.length : Int) == (o.list.length : Int)) ((am_ n o.names).bind fun xr72 => (some xr72)) (some false)) (cond (o.kind == 0) (some true) (some (o.kind == 4)))))))))) (cond (o.n_ != 0) (cond (o.kind != 1) (cond (o.kind != 2) (some false) (cond (!(o.s == [])) (cond (o.kind != 3) (some false) (cond (o.kind == 1) ((aO_ n o.n_ 0 1).bind fun xr73 => (some xr73)) (cond (o.kind == 2) ((a9_ n o.n_).bind fun xr74 => (some xr74)) (cond (o.kind == 3) ((as_ n o.s).bind fun xr75 => (some xr75)) (cond (o.kind == 5) (cond ((o.names.length : Int) == (o.list.length : Int)) ((am_ n o.names).bind fun xr76 => (some xr76)) (some false)) (cond (o.kind == 0) (some true) (some (o.kind == 4)))))))) (cond (o.kind == 1) ((aO_ n o.n_ 0 1).bind fun xr77 => (some xr77)) (cond (o.kind == 2) ((a9_ n o.n_).bind fun xr78 => (some xr78)) (cond (o.kind == 3) ((as_ n o.s).bind fun xr79 => (some xr79)) (cond (o.kind == 5) (cond ((o.names.length : Int) == (o.list.length : Int)) ((am_ n o.names).bind fun xr80 => (some xr80)) (some false)) (cond (o.kind == 0) (some true) (some (o.kind == 4))))))))) (cond (!(o.s == [])) (cond (o.kind != 3) (some false) (cond (o.kind == 1) ((aO_ n o.n_ 0 1).bind fun xr81 => (some xr81)) (cond (o.kind == 2) ((a9_ n o.n_).bind fun xr82 => (some xr82)) (cond (o.kind == 3) ((as_ n o.s).bind fun xr83 => (some xr83)) (cond (o.kind == 5) (cond ((o.names.length : Int) == (o.list.length : Int)) ((am_ n o.names).bind fun xr84 => (some xr84)) (some false)) (cond (o.kind == 0) (some true) (some (o.kind == 4)))))))) (cond (o.kind == 1) ((aO_ n o.n_ 0 1).bind fun xr85 => (some xr85)) (cond (o.kind == 2) ((a9_ n o.n_).bind fun xr86 => (some xr86)) (cond (o.kind == 3) ((as_ n o.s).bind fun xr87 => (some xr87)) (cond (o.kind == 5) (cond ((o.names.length : Int) == (o.list.length : Int)) ((am_ n o.names).bind fun xr88 => (some xr88)) (some false)) (cond (o.kind == 0) (some true) (some (o.kind == 4))))))))) (cond (!(o.s == [])) (cond (o.kind != 3) (some false) (cond (o.kind == 1) ((aO_ n o.n_ 0 1).bind fun xr89 => (some xr89)) (cond (o.kind == 2) ((a9_ n o.n_).bind fun xr90 => (some xr90)) (cond (o.kind == 3) ((as_ n o.s).bind fun xr91 => (some xr91)) (cond (o.kind == 5) (cond ((o.names.length : Int) == (o.list.length : Int)) ((am_ n o.names).bind fun xr92 => (some xr92)) (some false)) (cond (o.kind == 0) (some true) (some (o.kind == 4)))))))) (cond (o.kind == 1) ((aO_ n o.n_ 0 1).bind fun xr93 => (some xr93)) (cond (o.kind == 2) ((a9_ n o.n_).bind fun xr94 => (some xr94)) (cond (o.kind == 3) ((as_ n o.s).bind fun xr95 => (some xr95)) (cond (o.kind == 5) (cond ((o.names.length : Int) == (o.list.length : Int)) ((am_ n o.names).bind fun xr96 => (some xr96)) (some false)) (cond (o.kind == 0) (some true) (some (o.kind == 4))))))))))) (cond (decide ((o.names.length : Int) > 0)) (cond (o.kind != 5) (some false) (cond (o.n_ != 0) (cond (o.kind != 1) (cond (o.kind != 2) (some false) (cond (!(o.s == [])) (cond (o.kind != 3) (some false) (cond (o.kind == 1) ((aO_ n o.n_ 0 1).bind fun xr97 => (some xr97)) (cond (o.kind == 2) ((a9_ n o.n_).bind fun xr98 => (some xr98)) (cond (o.kind == 3) ((as_ n o.s).bind fun xr99 => (some xr99)) (cond (o.kind == 5) (cond ((o.names.length : Int) == (o.list.length : Int)) ((am_ n o.names).bind fun xr100 => (some xr100)) (some false)) (cond (o.kind == 0) (some true) (some (o.kind == 4)))))))) (cond (o.kind == 1) ((aO_ n o.n_ 0 1).bind fun xr101 => (some xr101)) (cond (o.kind == 2) ((a9_ n o.n_).bind fun xr102 => (some xr102)) (cond (o.kind == 3) ((as_ n o.s).bind fun xr103 => (some xr103)) (cond (o.kind == 5) (cond ((o.names.length : Int) == (o.list.length : Int)) ((am_ n o.names).bind fun xr104 => (some xr104)) (some false)) (cond (o.kind == 0) (some true) (some (o.kind == 4))))))))) (cond (!(o.s == [])) (cond (o.kind != 3) (some false) (cond (o.kind == 1) ((aO_ n o.n_ 0 1).bind fun xr105 => (some xr105)) (cond (o.kind == 2) ((a9_ n o.n_).bind fun xr106 => (some xr106)) (cond (o.kind == 3) ((as_ n o.s).bind fun xr107 => (some xr107)) (cond (o.kind == 5) (cond ((o.names.length : Int) == (o.list.length : Int)) ((am_ n o.names).bind fun xr108 => (some xr108)) (some false)) (cond (o.kind == 0) (some true) (some (o.kind == 4)))))))) (cond (o.kind == 1) ((aO_ n o.n_ 0 1).bind fun xr109 => (some xr109)) (cond (o.kind == 2) ((a9_ n o.n_).bind fun xr110 => (some xr110)) (cond (o.kind == 3) ((as_ n o.s).bind fun xr111 => (some xr111)) (cond (o.kind == 5) (cond ((o.names.length : Int) == (o.list.length : Int)) ((am_ n o.names).bind fun xr112 => (some xr112)) (some false)) (cond (o.kind == 0) (some true) (some (o.kind == 4))))))))) (cond (!(o.s == [])) (cond (o.kind != 3) (some false) (cond (o.kind == 1) ((aO_ n o.n_ 0 1).bind fun xr113 => (some xr113)) (cond (o.kind == 2) ((a9_ n o.n_).bind fun xr114 => (some xr114)) (cond (o.kind == 3) ((as_ n o.s).bind fun xr115 => (some xr115)) (cond (o.kind == 5) (cond ((o.names.length : Int) == (o.list.length : Int)) ((am_ n o.names).bind fun xr116 => (some xr116)) (some false)) (cond (o.kind == 0) (some true) (some (o.kind == 4)))))))) (cond (o.kind == 1) ((aO_ n o.n_ 0 1).bind fun xr117 => (some xr117)) (cond (o.kind == 2) ((a9_ n o.n_).bind fun xr118 => (some xr118)) (cond (o.kind == 3) ((as_ n o.s).bind fun xr119 => (some xr119)) (cond (o.kind == 5) (cond ((o.names.length : Int) == (o.list.length : Int)) ((am_ n o.names).bind fun xr120 => (some xr120)) (some false)) (cond (o.kind == 0) (some true) (some (o.kind == 4)))))))))) (cond (o.n_ != 0) (cond (o.kind != 1) (cond (o.kind != 2) (some false) (cond (!(o.s == [])) (cond (o.kind != 3) (some false) (cond (o.kind == 1) ((aO_ n o.n_ 0 1).bind fun xr121 => (some xr121)) (cond (o.kind == 2) ((a9_ n o.n_).bind fun xr122 => (some xr122)) (cond (o.kind == 3) ((as_ n o.s).bind fun xr123 => (some xr123)) (cond (o.kind == 5) (cond ((o.names.length : Int) == (o.list.length : Int)) ((am_ n o.names).bind fun xr124 => (some xr124)) (some false)) (cond (o.kind == 0) (some true) (some (o.kind == 4)))))))) (cond (o.kind == 1) ((aO_ n o.n_ 0 1).bind fun xr125 => (some xr125)) (cond (o.kind == 2) ((a9_ n o.n_).bind fun xr126 => (some xr126)) (cond (o.kind == 3) ((as_ n o.s).bind fun xr127 => (some xr127)) (cond (o.kind == 5) (cond ((o.names.length : Int) == (o.list.length : Int)) ((am_ n o.names).bind fun xr128 => (some xr128)) (some false)) (cond (o.kind == 0) (some true) (some (o.kind == 4))))))))) (cond (!(o.s == [])) (cond (o.kind != 3) (some false) (cond (o.kind == 1) ((aO_ n o.n_ 0 1).bind fun xr129 => (some xr129)) (cond (o.kind == 2) ((a9_ n o.n_).bind fun xr130 => (some xr130)) (cond (o.kind == 3) ((as_ n o.s).bind fun xr131 => (some xr131)) (cond (o.kind == 5) (cond ((o.names.length : Int) == (o.list.length : Int)) ((am_ n o.names).bind fun xr132 => (some xr132)) (some false)) (cond (o.kind == 0) (some true) (some (o.kind == 4)))))))) (cond (o.kind == 1) ((aO_ n o.n_ 0 1).bind fun xr133 => (some xr133)) (cond (o.kind == 2) ((a9_ n o.n_).bind fun xr134 => (some xr134)) (cond (o.kind == 3) ((as_ n o.s).bind fun xr135 => (some xr135)) (cond (o.kind == 5) (cond ((o.names.length : Int) == (o.list.length : Int)) ((am_ n o.names).bind fun xr136 => (some xr136)) (some false)) (cond (o.kind == 0) (some true) (some (o.kind == 4))))))))) (cond (!(o.s == [])) (cond (o.kind != 3) (some false) (cond (o.kind == 1) ((aO_ n o.n_ 0 1).bind fun xr137 => (some xr137)) (cond (o.kind == 2) ((a9_ n o.n_).bind fun xr138 => (some xr138)) (cond (o.kind == 3) ((as_ n o.s).bind fun xr139 => (some xr139)) (cond (o.kind == 5) (cond ((o.names.length : Int) == (o.list.length : Int)) ((am_ n o.names).bind fun xr140 => (some xr140)) (some false)) (cond (o.kind == 0) (some true) (some (o.kind == 4)))))))) (cond (o.kind == 1) ((aO_ n o.n_ 0 1).bind fun xr141 => (some xr141)) (cond (o.kind == 2) ((a9_ n o.n_).bind fun xr142 => (some xr142)) (cond (o.kind == 3) ((as_ n o.s).bind fun xr143 => (some xr143)) (cond (o.kind == 5) (cond ((o.names.length : Int) == (o.list.length : Int)) ((am_ n o.names).bind fun xr144 => (some xr144)) (some false)) (cond (o.kind == 0) (some true) (some (o.kind == 4)))))))))))
def aW_.step7 (n : Nat) (impl_sizeIn_ : aa_ → Int → Option Int) (k0 : Int → Option Int) (back : Int → Int → (List aa_) → Int → Int → Option Int) (deep : Int) (n_1 : Int) (t16 : List aa_) (t17 : Int) (t18 : Int) : Option Int :=
  (cond (decide (t18 < t17)) (inB t18 t16.length ((impl_sizeIn_ (aa_.re (t16.getD t18.toNat aa_.dflt)) (W (deep - 1))).bind fun xr2 => (cond (decide ((W (n_1 + xr2)) > 400)) (some 401) (back deep (W (n_1 + xr2)) t16 t17 (W (t18 + 1)))))) (k0 n_1))
def aW_.loop7 (n : Nat) (impl_sizeIn_ : aa_ → Int → Option Int) (k0 : Int → Option Int) (N : Nat) : Int → Int → (List aa_) → Int → Int → Option Int :=
  cI_ (fun _ _ _ _ _ => none) (fun back => aW_.step7 n impl_sizeIn_ k0 back) N
def aW_ : Nat → aa_ → Int → Option Int
  | 0, _, _ => none
  | n + 1, j, deep =>
    (cond (decide (deep < 1)) (some 401) ((cn_ n (aa_.re j)).bind fun xr1 => (cond (!xr1) (some 401) (aW_.loop7 n (aW_ n) (fun xy3 => (some xy3)) n deep 1 j.list (j.list.length : Int) 0))))
def bN_ : Nat → aa_ → Option Bool
  | 0, _ => none
  | n + 1, j =>
    ((aW_ n (aa_.re j) 6).bind fun xr1 => (some (decide (xr1 ≤ 400))))
def a8_.step4 (n : Nat) (k0 : (List Int) → Option Bs) (back : Bs → Int → Int → (List Int) → Option Bs) (s : Bs) (t7 : Int) (t8 : Int) (out_1 : List Int) : Option Bs :=
  (cond (decide (t8 < t7)) (inB t8 s.length (cond (((s.getD t8.toNat 0).toNat : Int) == 34) (ci_ (out_1.length + ([92] : List Int).length) 1 (inB t8 s.length (ci_ ((out_1 ++ ([92] : List Int)).length + ([((s.getD t8.toNat 0).toNat : Int)] : List Int).length) 1 (back s t7 (W (t8 + 1)) ((out_1 ++ ([92] : List Int)) ++ ([((s.getD t8.toNat 0).toNat : Int)] : List Int)))))) (inB t8 s.length (cond (((s.getD t8.toNat 0).toNat : Int) == 92) (ci_ (out_1.length + ([92] : List Int).length) 1 (inB t8 s.length (ci_ ((out_1 ++ ([92] : List Int)).length + ([((s.getD t8.toNat 0).toNat : Int)] : List Int).length) 1 (back s t7 (W (t8 + 1)) ((out_1 ++ ([92] : List Int)) ++ ([((s.getD t8.toNat 0).toNat : Int)] : List Int)))))) (inB t8 s.length (ci_ (out_1.length + ([((s.getD t8.toNat 0).toNat : Int)] : List Int).length) 1 (back s t7 (W (t8 + 1)) (out_1 ++ ([((s.getD t8.toNat 0).toNat : Int)] : List Int))))))))) (k0 out_1))
def a8_.loop4 (n : Nat) (k0 : (List Int) → Option Bs) (N : Nat) : Bs → Int → Int → (List Int) → Option Bs :=
  cI_ (fun _ _ _ _ => none) (fun back => a8_.step4 n k0 back) N
def a8_ : Nat → Bs → Option Bs
  | 0, _ => none
  | n + 1, s =>
    (a8_.loop4 n (fun xy1 => (ci_ (xy1.length + ([34] : List Int).length) 1 (some (eN_ (xy1 ++ ([34] : List Int)))))) n s (s.length : Int) 0 ([34] : List Int))
def strconv_Itoa : Nat → Int → Option Bs
  | 0, _ => none
  | _ + 1, i => nItoa i
def strings_Join : Nat → List Bs → Bs → Option Bs
  | 0, _, _ => none
  | _ + 1, l, s => nJoin l s
def aN_.step4 (n : Nat) (impl_written_ : aa_ → Option Bs) (k0 : Int → Int → Bs → (List aa_) → (List Bs) → (List Bs) → Option Bs) (back : (List aa_) → Int → Int → Int → Int → Bs → (List aa_) → (List Bs) → (List Bs) → Option Bs) (t9 : List aa_) (t10 : Int) (t11 : Int) (append0 : Int) (append1 : Int) (append2 : Bs) (append3 : List aa_) (append4 : List Bs) (t3 : List Bs) : Option Bs :=
  (cond (decide (t11 < t10)) (inB t11 t9.length ((impl_written_ (aa_.re (t9.getD t11.toNat aa_.dflt))).bind fun xr1 => (cond (append0 == 5) (inB t11 append4.length ((a8_ n (append4.getD t11.toNat [])).bind fun xr2 => (cond (decide (xr2.length + [58].length ≤ 9223372036854775807)) (cond (decide ((xr2 ++ [58]).length + xr1.length ≤ 9223372036854775807)) (ci_ (t3.length + ([((xr2 ++ [58]) ++ xr1)] : List Bs).length) 16 (back t9 t10 (W (t11 + 1)) append0 append1 append2 append3 append4 (t3 ++ ([((xr2 ++ [58]) ++ xr1)] : List Bs)))) none) none))) (ci_ (t3.length + ([xr1] : List Bs).length) 16 (back t9 t10 (W (t11 + 1)) append0 append1 append2 append3 append4 (t3 ++ ([xr1] : List Bs))))))) (k0 append0 append1 append2 append3 append4 t3))
def aN_.loop4 (n : Nat) (impl_written_ : aa_ → Option Bs) (k0 : Int → Int → Bs → (List aa_) → (List Bs) → (List Bs) → Option Bs) (N : Nat) : (List aa_) → Int → Int → Int → Int → Bs → (List aa_) → (List Bs) → (List Bs) → Option Bs :=
  cI_ (fun _ _ _ _ _ _ _ _ _ => none) (fun back => aN_.step4 n impl_written_ k0 back) N
def aN_ : Nat → aa_ → Option Bs
  | 0, _ => none
  | n + 1, o =>
    (aN_.loop4 n (aN_ n) (fun xy3 xy4 xy5 xy6 xy7 xy8 => (cond (xy3 == 0) (some [110, 117, 108, 108]) (cond (xy3 == 1) (inB xy4 ([[102, 97, 108, 115, 101], [116, 114, 117, 101]] : List Bs).length (let xv9 : Bs := (([[102, 97, 108, 115, 101], [116, 114, 117, 101]] : List Bs).getD xy4.toNat []); (some xv9))) (cond (xy3 == 2) ((strconv_Itoa n xy4).bind fun xr10 => (some xr10)) (cond (xy3 == 3) ((a8_ n xy5).bind fun xr11 => (some xr11)) (cond (xy3 == 4) ((strings_Join n xy8 [44]).bind fun xr12 => (cond (decide ([91].length + xr12.length ≤ 9223372036854775807)) (cond (decide ((([91] : Bs) ++ xr12).length + [93].length ≤ 9223372036854775807)) (some ((([91] : Bs) ++ xr12) ++ [93])) none) none)) ((strings_Join n xy8 [44]).bind fun xr13 => (cond (decide ([123].length + xr13.length ≤ 9223372036854775807)) (cond (decide ((([123] : Bs) ++ xr13).length + [125].length ≤ 9223372036854775807)) (some ((([123] : Bs) ++ xr13) ++ [125])) none) none)))))))) n o.list (o.list.length : Int) 0 o.kind o.n_ o.s o.list o.names ([] : List Bs))
def bX_ : Nat → aa_ → Option Bs
  | 0, _ => none
  | n + 1, j =>
    ((bN_ n (aa_.re j)).bind fun xr1 => (cond (!xr1) (some []) ((aN_ n (aa_.re j)).bind fun xr2 => (cond (decide ((xr2.length : Int) > 6000)) (some []) (some xr2)))))
def bZ_ : Nat → Bs → Option (aa_ × Bool)
  | 0, _ => none
  | n + 1, s =>
    (cond (decide ((s.length : Int) > 6000)) (some ((aa_.mk 0 0 [] ([] : List aa_) ([] : List Bs)), false)) ((aF_ n (aC_.mk s false) 6).bind fun xr1 => (cond xr1.2.bad (some ((aa_.mk 0 0 [] ([] : List aa_) ([] : List Bs)), false)) ((bX_ n (aa_.re xr1.1)).bind fun xr2 => (cond (!(xr2 == s)) (some ((aa_.mk 0 0 [] ([] : List aa_) ([] : List Bs)), false)) (some ((aa_.re xr1.1), true)))))))
def aj_.step3 (n : Nat) (k0 : Option Int) (back : (List Bs) → Bs → Int → Int → Option Int) (s : List Bs) (v : Bs) (t7 : Int) (t8 : Int) : Option Int :=
  (cond (decide (t8 < t7)) (inB t8 s.length (cond (v == (s.getD t8.toNat [])) (some t8) (back s v t7 (W (t8 + 1))))) k0)
def aj_.loop3 (n : Nat) (k0 : Option Int) (N : Nat) : (List Bs) → Bs → Int → Int → Option Int :=
  cI_ (fun _ _ _ _ => none) (fun back => aj_.step3 n k0 back) N
def aj_ : Nat → (List Bs) → Bs → Option Int
  | 0, _, _ => none
  | n + 1, s, v =>
    (aj_.loop3 n (some (-1)) n s v (s.length : Int) 0)
def bD_ : Nat → (List Bs) → Option (List Bs)
  | 0, _ => none
  | n + 1, l =>
    (ci_ (([] : List Bs).length + l.length) 16 (some (([] : List Bs) ++ l)))
def aJ_.step4 (n : Nat) (impl_copyJson_ : aa_ → Option aa_) (k0 : Int → Int → Bs → Int → Int → Bs → (List aa_) → (List Bs) → Option aa_) (back : (List aa_) → Int → Int → Int → Int → Bs → Int → Int → Bs → (List aa_) → (List Bs) → Option aa_) (t17 : List aa_) (t18 : Int) (t19 : Int) (t20 : Int) (t21 : Int) (t22 : Bs) (out0 : Int) (out1 : Int) (out2 : Bs) (out3 : List aa_) (out4 : List Bs) : Option aa_ :=
  (cond (decide (t19 < t18)) (inB t19 t17.length ((impl_copyJson_ (aa_.re (t17.getD t19.toNat aa_.dflt))).bind fun xr2 => (ci_ (out3.length + ([(aa_.re xr2)] : List aa_).length) 80 (back t17 t18 (W (t19 + 1)) t20 t21 t22 out0 out1 out2 (out3 ++ ([(aa_.re xr2)] : List aa_)) out4)))) (k0 t20 t21 t22 out0 out1 out2 out3 out4))
def aJ_.loop4 (n : Nat) (impl_copyJson_ : aa_ → Option aa_) (k0 : Int → Int → Bs → Int → Int → Bs → (List aa_) → (List Bs) → Option aa_) (N : Nat) : (List aa_) → Int → Int → Int → Int → Bs → Int → Int → Bs → (List aa_) → (List Bs) → Option aa_ :=
  cI_ (fun _ _ _ _ _ _ _ _ _ _ _ => none) (fun back => aJ_.step4 n impl_copyJson_ k0 back) N
def aJ_ : Nat → aa_ → Option aa_
  | 0, _ => none
  | n + 1, j =>
    ((bD_ n j.names).bind fun xr1 => (aJ_.loop4 n (aJ_ n) (fun xy3 xy4 xy5 xy6 xy7 xy8 xy9 xy10 => (some (aa_.mk xy6 xy7 xy8 xy9 xy10))) n j.list (j.list.length : Int) 0 0 0 [] j.kind j.n_ j.s ([] : List aa_) xr1))
def ck_ : Nat → aa_ → Bs → Option (aa_ × Bool)
  | 0, _, _ => none
  | n + 1, j, name =>
    ((aj_ n j.names name).bind fun xr1 => ((bN_ n (aa_.re j)).bind fun xr2 => (cond (!xr2) (some ((aa_.mk 0 0 [] ([] : List aa_) ([] : List Bs)), false)) (cond (decide (xr1 < 0)) (some ((aa_.mk 0 0 [] ([] : List aa_) ([] : List Bs)), false)) (inB xr1 j.list.length ((aJ_ n (aa_.re (j.list.getD xr1.toNat aa_.dflt))).bind fun xr3 => (some ((aa_.re xr3), true))))))))
def strings_Split : Nat → Bs → Bs → Option (List Bs)
  | 0, _, _ => none
  | _ + 1, s, a => mh_ s a
def strings_ReplaceAll : Nat → Bs → Bs → Bs → Option Bs
  | 0, _, _, _ => none
  | _ + 1, s, a, b => ec_ s a b
def aV_.step4 (n : Nat) (k0 : Bs → Option Bs) (back : Bs → (List Bs) → Int → Int → Option Bs) (out_1 : Bs) (t6 : List Bs) (t7 : Int) (t8 : Int) : Option Bs :=
  (cond (decide (t8 < t7)) (inB t8 t6.length ((strings_ReplaceAll n (t6.getD t8.toNat []) [126] [126, 48]).bind fun xr1 => ((strings_ReplaceAll n xr1 [47] [126, 49]).bind fun xr2 => (cond (decide ([47].length + xr2.length ≤ 9223372036854775807)) (cond (decide (out_1.length + (([47] : Bs) ++ xr2).length ≤ 9223372036854775807)) (back (out_1 ++ (([47] : Bs) ++ xr2)) t6 t7 (W (t8 + 1))) none) none)))) (k0 out_1))
def aV_.loop4 (n : Nat) (k0 : Bs → Option Bs) (N : Nat) : Bs → (List Bs) → Int → Int → Option Bs :=
  cI_ (fun _ _ _ _ => none) (fun back => aV_.step4 n k0 back) N
def aV_ : Nat → (List Bs) → Option Bs
  | 0, _ => none
  | n + 1, way =>
    (aV_.loop4 n (fun xy3 => (some xy3)) n [] way (way.length : Int) 0)
def a1_.step7 (n : Nat) (k0 : Bs → (List Bs) → Option ((List Bs) × Bool)) (back : Bs → (List Bs) → Int → Int → (List Bs) → Option ((List Bs) × Bool)) (s : Bs) (t13 : List Bs) (t14 : Int) (t15 : Int) (way : List Bs) : Option ((List Bs) × Bool) :=
  (cond (decide (t15 < t14)) (inB t15 t13.length ((strings_ReplaceAll n (t13.getD t15.toNat []) [126, 49] [47]).bind fun xr2 => ((strings_ReplaceAll n xr2 [126, 48] [126]).bind fun xr3 => (ci_ (way.length + ([xr3] : List Bs).length) 16 (back s t13 t14 (W (t15 + 1)) (way ++ ([xr3] : List Bs))))))) (k0 s way))
def a1_.loop7 (n : Nat) (k0 : Bs → (List Bs) → Option ((List Bs) × Bool)) (N : Nat) : Bs → (List Bs) → Int → Int → (List Bs) → Option ((List Bs) × Bool) :=
  cI_ (fun _ _ _ _ _ => none) (fun back => a1_.step7 n k0 back) N
def a1_ : Nat → Bs → Option ((List Bs) × Bool)
  | 0, _ => none
  | n + 1, s =>
    (cond (s == []) (some (([] : List Bs), true)) ((strings_Split n s [47]).bind fun xr1 => (gn_ 1 (xr1.length : Int) xr1.length (a1_.loop7 n (fun xy4 xy5 => (cond (decide ((xy5.length : Int) > 6)) (some (([] : List Bs), false)) ((aV_ n xy5).bind fun xr6 => (cond (!(xr6 == xy4)) (some (([] : List Bs), false)) (some (xy5, true)))))) n s ((xr1.take ((xr1.length : Int).toNat)).drop 1) ((((xr1.length : Int).toNat) - 1 : Nat) : Int) 0 ([] : List Bs)))))
def bK_ : Nat → Unit → Option (List Bs)
  | 0, _ => none
  | n + 1, _u =>
    (some ([[97, 100, 100], [114, 101, 109, 111, 118, 101], [114, 101, 112, 108, 97, 99, 101], [116, 101, 115, 116]] : List Bs))
def b4_ : Nat → aa_ → Option Bool
  | 0, _ => none
  | n + 1, j =>
    (cond (j.kind == 0) (cond (j.n_ == 0) (cond (j.s == []) (cond ((j.list.length : Int) == 0) (some ((j.names.length : Int) == 0)) (some false)) (some false)) (some false)) (some false))
def bm_.step3 (n : Nat) (k0 : Int → (List Bs) → Int → Int → Bs → (List aa_) → (List Bs) → Option Bool) (back : (List Bs) → Int → Int → Int → (List Bs) → Int → Int → Bs → (List aa_) → (List Bs) → Option Bool) (t6 : List Bs) (t7 : Int) (t8 : Int) (o0 : Int) (o1 : List Bs) (o2 : Int) (o3 : Int) (o4 : Bs) (o5 : List aa_) (o6 : List Bs) : Option Bool :=
  (cond (decide (t8 < t7)) (inB t8 t6.length ((as_ n (t6.getD t8.toNat [])).bind fun xr1 => (cond (!xr1) (some false) (back t6 t7 (W (t8 + 1)) o0 o1 o2 o3 o4 o5 o6)))) (k0 o0 o1 o2 o3 o4 o5 o6))
def bm_.loop3 (n : Nat) (k0 : Int → (List Bs) → Int → Int → Bs → (List aa_) → (List Bs) → Option Bool) (N : Nat) : (List Bs) → Int → Int → Int → (List Bs) → Int → Int → Bs → (List aa_) → (List Bs) → Option Bool :=
  cI_ (fun _ _ _ _ _ _ _ _ _ _ => none) (fun back => bm_.step3 n k0 back) N
def bm_ : Nat → TOp → Option Bool
  | 0, _ => none
  | n + 1, o =>
    (bm_.loop3 n (fun xy2 xy3 xy4 xy5 xy6 xy7 xy8 => ((aO_ n xy2 1 4).bind fun xr9 => (cond xr9 (cond (decide ((xy3.length : Int) ≤ 6)) ((bN_ n (aa_.mk xy4 xy5 xy6 xy7 xy8)).bind fun xr10 => (cond xr10 (cond (xy2 != 2) (some true) ((b4_ n (aa_.mk xy4 xy5 xy6 xy7 xy8)).bind fun xr11 => (some xr11))) (some false))) (some false)) (some false)))) n o.way (o.way.length : Int) 0 o.kind o.way o.value.kind o.value.n_ o.value.s o.value.list o.value.names)
def b9_ : Nat → aa_ → Option aa_
  | 0, _ => none
  | n + 1, j =>
    ((bN_ n (aa_.re j)).bind fun xr1 => (cond (!xr1) (some (aa_.mk 0 0 [] ([] : List aa_) ([] : List Bs))) (some (aa_.re j))))
def cb_ : Nat → TOp → Option aa_
  | 0, _ => none
  | n + 1, o =>
    ((bm_ n (TOp.mk o.kind o.way (aa_.re o.value))).bind fun xr1 => (cond (!xr1) (some (aa_.mk 0 0 [] ([] : List aa_) ([] : List Bs))) ((bK_ n ()).bind fun xr2 => (inB (W (o.kind - 1)) xr2.length ((aV_ n o.way).bind fun xr3 => (cond (o.kind != 2) (ci_ (([[111, 112], [112, 97, 116, 104]] : List Bs).length + ([[118, 97, 108, 117, 101]] : List Bs).length) 16 ((aJ_ n (aa_.re o.value)).bind fun xr4 => (ci_ (([(aa_.mk 3 0 (xr2.getD ((W (o.kind - 1)).toNat) []) [] []), (aa_.mk 3 0 xr3 [] [])] : List aa_).length + ([(aa_.re xr4)] : List aa_).length) 80 ((b9_ n (aa_.mk 5 0 [] (([(aa_.mk 3 0 (xr2.getD ((W (o.kind - 1)).toNat) []) [] []), (aa_.mk 3 0 xr3 [] [])] : List aa_) ++ ([(aa_.re xr4)] : List aa_)) (([[111, 112], [112, 97, 116, 104]] : List Bs) ++ ([[118, 97, 108, 117, 101]] : List Bs)))).bind fun xr5 => (some (aa_.re xr5)))))) ((b9_ n (aa_.mk 5 0 [] ([(aa_.mk 3 0 (xr2.getD ((W (o.kind - 1)).toNat) []) [] []), (aa_.mk 3 0 xr3 [] [])] : List aa_) ([[111, 112], [112, 97, 116, 104]] : List Bs))).bind fun xr6 => (some (aa_.re xr6)))))))))
def ak_.step6 (n : Nat) (k0 : Option Bool) (back : (List Bs) → (List Bs) → Int → Int → Option Bool) (s1 : List Bs) (s2 : List Bs) (t12 : Int) (t13 : Int) : Option Bool :=
  (cond (decide (t13 < t12)) (inB t13 s1.length (inB t13 s2.length (cond (!((s1.getD t13.toNat []) == (s2.getD t13.toNat []))) (some false) (back s1 s2 t12 (W (t13 + 1)))))) k0)
def ak_.loop6 (n : Nat) (k0 : Option Bool) (N : Nat) : (List Bs) → (List Bs) → Int → Int → Option Bool :=
  cI_ (fun _ _ _ _ => none) (fun back => ak_.step6 n k0 back) N
def ak_ : Nat → (List Bs) → (List Bs) → Option Bool
  | 0, _, _ => none
  | n + 1, s1, s2 =>
    (cond ((s1.length : Int) != (s2.length : Int)) (some false) (ak_.loop6 n (some true) n s1 s2 (s1.length : Int) 0))
def ab_.step6 (n : Nat) (impl_alike_ : aa_ → aa_ → Option Bool) (k0 : Option Bool) (back : (List aa_) → (List aa_) → Int → Int → Option Bool) (s2 : List aa_) (t15 : List aa_) (t16 : Int) (t17 : Int) : Option Bool :=
  (cond (decide (t17 < t16)) (inB t17 t15.length (inB t17 s2.length ((impl_alike_ (aa_.re (t15.getD t17.toNat aa_.dflt)) (aa_.re (s2.getD t17.toNat aa_.dflt))).bind fun xr1 => (cond (!xr1) (some false) (back s2 t15 t16 (W (t17 + 1))))))) k0)
def ab_.loop6 (n : Nat) (impl_alike_ : aa_ → aa_ → Option Bool) (k0 : Option Bool) (N : Nat) : (List aa_) → (List aa_) → Int → Int → Option Bool :=
  cI_ (fun _ _ _ _ => none) (fun back => ab_.step6 n impl_alike_ k0 back) N
mutual
def cd_ : Nat → aa_ → aa_ → Option Bool
  | 0, _, _ => none
  | n + 1, a, b =>
    (cond (a.kind == b.kind) (cond (a.n_ == b.n_) (cond (a.s == b.s) ((ak_ n a.names b.names).bind fun xr1 => (cond xr1 ((ab_ n a.list b.list).bind fun xr2 => (some xr2)) (some false))) (some false)) (some false)) (some false))
def ab_ : Nat → (List aa_) → (List aa_) → Option Bool
  | 0, _, _ => none
  | n + 1, s1, s2 =>
    (cond ((s1.length : Int) != (s2.length : Int)) (some false) (ab_.loop6 n (cd_ n) (some true) n s2 s1 (s1.length : Int) 0))
end
def bR_ : Nat → aa_ → aa_ → Option Bool
  | 0, _, _ => none
  | n + 1, a, b =>
    ((bN_ n (aa_.re a)).bind fun xr1 => (cond xr1 ((bN_ n (aa_.re b)).bind fun xr2 => (cond xr2 ((cd_ n (aa_.re a) (aa_.re b)).bind fun xr3 => (some xr3)) (some false))) (some false)))
def b5_ : Nat → aa_ → Option (TOp × Bool)
  | 0, _ => none
  | n + 1, o =>
    ((ck_ n (aa_.re o) [111, 112]).bind fun xr1 => ((ck_ n (aa_.re o) [112, 97, 116, 104]).bind fun xr2 => ((ck_ n (aa_.re o) [118, 97, 108, 117, 101]).bind fun xr3 => ((a1_ n xr2.1.s).bind fun xr4 => ((bK_ n ()).bind fun xr5 => ((aj_ n xr5 xr1.1.s).bind fun xr6 => (cond (!xr1.2) (some ((TOp.mk 0 ([] : List Bs) (aa_.mk 0 0 [] ([] : List aa_) ([] : List Bs))), false)) (cond (!xr2.2) (some ((TOp.mk 0 ([] : List Bs) (aa_.mk 0 0 [] ([] : List aa_) ([] : List Bs))), false)) (cond (!xr4.2) (some ((TOp.mk 0 ([] : List Bs) (aa_.mk 0 0 [] ([] : List aa_) ([] : List Bs))), false)) ((bm_ n (TOp.mk (W (1 + xr6)) xr4.1 (aa_.re xr3.1))).bind fun xr7 => (cond (!xr7) (some ((TOp.mk 0 ([] : List Bs) (aa_.mk 0 0 [] ([] : List aa_) ([] : List Bs))), false)) ((cb_ n (TOp.mk (W (1 + xr6)) xr4.1 (aa_.re xr3.1))).bind fun xr8 => ((bR_ n (aa_.re xr8) (aa_.re o)).bind fun xr9 => (cond (!xr9) (some ((TOp.mk 0 ([] : List Bs) (aa_.mk 0 0 [] ([] : List aa_) ([] : List Bs))), false)) (some ((TOp.mk (W (1 + xr6)) xr4.1 (aa_.re xr3.1)), true))))))))))))))))
def bc_.step4 (n : Nat) (k0 : Int → Int → Bs → (List aa_) → (List Bs) → (List TOp) → Option ((List TOp) × Bool)) (back : (List aa_) → Int → Int → Int → Int → Bs → (List aa_) → (List Bs) → (List TOp) → Option ((List TOp) × Bool)) (t11 : List aa_) (t12 : Int) (t13 : Int) (j0 : Int) (j1 : Int) (j2 : Bs) (j3 : List aa_) (j4 : List Bs) (ops : List TOp) : Option ((List TOp) × Bool) :=
  (cond (decide (t13 < t12)) (inB t13 t11.length ((b5_ n (aa_.re (t11.getD t13.toNat aa_.dflt))).bind fun xr1 => (cond (!xr1.2) (some (([] : List TOp), false)) (ci_ (ops.length + ([{ xr1.1 with value := (aa_.re xr1.1.value) }] : List TOp).length) 112 (back t11 t12 (W (t13 + 1)) j0 j1 j2 j3 j4 (ops ++ ([{ xr1.1 with value := (aa_.re xr1.1.value) }] : List TOp))))))) (k0 j0 j1 j2 j3 j4 ops))
def bc_.loop4 (n : Nat) (k0 : Int → Int → Bs → (List aa_) → (List Bs) → (List TOp) → Option ((List TOp) × Bool)) (N : Nat) : (List aa_) → Int → Int → Int → Int → Bs → (List aa_) → (List Bs) → (List TOp) → Option ((List TOp) × Bool) :=
  cI_ (fun _ _ _ _ _ _ _ _ _ => none) (fun back => bc_.step4 n k0 back) N
def bc_ : Nat → aa_ → Option ((List TOp) × Bool)
  | 0, _ => none
  | n + 1, j =>
    (bc_.loop4 n (fun xy2 xy3 xy4 xy5 xy6 xy7 => (some (xy7, (xy2 == 4)))) n j.list (j.list.length : Int) 0 j.kind j.n_ j.s j.list j.names ([] : List TOp))
def bL_ : Nat → Bs → Option bb_
  | 0, _ => none
  | n + 1, o =>
    ((bi_ n o [101, 118, 101, 110, 116, 58, 32, 115, 110, 97, 112, 10]).bind fun xr1 => (cond xr1.2 ((b2_ n xr1.1 [105, 100, 58, 32]).bind fun xr2 => ((b2_ n xr2.2 [100, 97, 116, 97, 58, 32]).bind fun xr3 => ((bH_ n xr2.1).bind fun xr4 => ((bZ_ n xr3.1).bind fun xr5 => (some (bb_.mk 1 xr4.1 0 (aa_.re xr5.1) ([] : List TOp))))))) ((bg_ n o [101, 118, 101, 110, 116, 58, 32, 112, 97, 116, 99, 104, 10]).bind fun xr6 => ((b2_ n xr6 [105, 100, 58, 32]).bind fun xr7 => ((b2_ n xr7.2 [98, 97, 115, 101, 58, 32]).bind fun xr8 => ((b2_ n xr8.2 [100, 97, 116, 97, 58, 32]).bind fun xr9 => ((bH_ n xr7.1).bind fun xr10 => ((bH_ n xr8.1).bind fun xr11 => ((bZ_ n xr9.1).bind fun xr12 => ((bc_ n (aa_.re xr12.1)).bind fun xr13 => (some (bb_.mk 2 xr10.1 xr11.1 (aa_.mk 0 0 [] ([] : List aa_) ([] : List Bs)) xr13.1))))))))))))
def bz_ : Nat → Int → Option Bool
  | 0, _ => none
  | n + 1, n1 =>
    ((aO_ n n1 0 100000).bind fun xr1 => (some xr1))
def aR_.step4 (n : Nat) (k0 : Int → Int → Bs → Int → Int → Bs → (List aa_) → Option (aa_ × Bool)) (back : (List TOp) → Int → Int → Int → Int → Bs → Int → Int → Bs → (List aa_) → Option (aa_ × Bool)) (t9 : List TOp) (t10 : Int) (t11 : Int) (t20 : Int) (t21 : Int) (t22 : Bs) (j0 : Int) (j1 : Int) (j2 : Bs) (j3 : List aa_) : Option (aa_ × Bool) :=
  (cond (decide (t11 < t10)) (inB t11 t9.length ((cb_ n { (t9.getD t11.toNat TOp.dflt) with value := (aa_.re ((t9.getD t11.toNat TOp.dflt).value)) }).bind fun xr1 => (cond (xr1.kind == 0) (some ((aa_.mk 0 0 [] ([] : List aa_) ([] : List Bs)), false)) (ci_ (j3.length + ([(aa_.re xr1)] : List aa_).length) 80 (back t9 t10 (W (t11 + 1)) t20 t21 t22 j0 j1 j2 (j3 ++ ([(aa_.re xr1)] : List aa_))))))) (k0 t20 t21 t22 j0 j1 j2 j3))
def aR_.loop4 (n : Nat) (k0 : Int → Int → Bs → Int → Int → Bs → (List aa_) → Option (aa_ × Bool)) (N : Nat) : (List TOp) → Int → Int → Int → Int → Bs → Int → Int → Bs → (List aa_) → Option (aa_ × Bool) :=
  cI_ (fun _ _ _ _ _ _ _ _ _ _ => none) (fun back => aR_.step4 n k0 back) N
def aR_ : Nat → (List TOp) → Option (aa_ × Bool)
  | 0, _ => none
  | n + 1, list =>
    (aR_.loop4 n (fun xy2 xy3 xy4 xy5 xy6 xy7 xy8 => (some ((aa_.mk xy5 xy6 xy7 xy8 ([] : List Bs)), true))) n list (list.length : Int) 0 0 0 [] 4 0 [] ([] : List aa_))
def bE_ : Nat → (List TOp) → Option Int
  | 0, _ => none
  | n + 1, list =>
    ((aR_ n list).bind fun xr1 => ((bX_ n (aa_.re xr1.1)).bind fun xr2 => (cond (!xr1.2) (some (-1)) (cond (xr2 == []) (some (-1)) (some (xr2.length : Int))))))
def b1_ : Nat → bb_ → Option Bool
  | 0, _ => none
  | n + 1, e =>
    (cond (e.kind == 1) ((bz_ n e.version).bind fun xr1 => (cond xr1 (cond (e.base == 0) ((bX_ n (aa_.re e.doc)).bind fun xr2 => (cond (!(xr2 == [])) (some ((e.ops.length : Int) == 0)) (some false))) (some false)) (some false))) (cond (e.kind == 2) ((bz_ n e.version).bind fun xr3 => (cond xr3 ((aO_ n e.base 0 (W (e.version - 1))).bind fun xr4 => (cond xr4 ((b4_ n (aa_.re e.doc)).bind fun xr5 => (cond xr5 (cond (decide ((e.ops.length : Int) ≤ 40)) ((bE_ n e.ops).bind fun xr6 => (some (decide (xr6 ≥ 0)))) (some false)) (some false))) (some false))) (some false))) (some false)))
def ca_ : Nat → Int → Option Bs
  | 0, _ => none
  | n + 1, n1 =>
    ((strconv_Itoa n n1).bind fun xr1 => (some xr1))
def bF_ : Nat → bb_ → Option Bs
  | 0, _ => none
  | n + 1, e =>
    ((b1_ n { e with doc := (aa_.re e.doc) }).bind fun xr1 => (cond (!xr1) (some []) ((ca_ n e.version).bind fun xr2 => (cond (decide ([105, 100, 58, 32].length + xr2.length ≤ 9223372036854775807)) (cond (decide ((([105, 100, 58, 32] : Bs) ++ xr2).length + [10].length ≤ 9223372036854775807)) (cond (e.kind == 1) (cond (decide ([101, 118, 101, 110, 116, 58, 32, 115, 110, 97, 112, 10].length + ((([105, 100, 58, 32] : Bs) ++ xr2) ++ [10]).length ≤ 9223372036854775807)) (let xv3 : Bs := (([101, 118, 101, 110, 116, 58, 32, 115, 110, 97, 112, 10] : Bs) ++ ((([105, 100, 58, 32] : Bs) ++ xr2) ++ [10])); (cond (decide (xv3.length + [100, 97, 116, 97, 58, 32].length ≤ 9223372036854775807)) ((bX_ n (aa_.re e.doc)).bind fun xr4 => (cond (decide ((xv3 ++ [100, 97, 116, 97, 58, 32]).length + xr4.length ≤ 9223372036854775807)) (cond (decide (((xv3 ++ [100, 97, 116, 97, 58, 32]) ++ xr4).length + [10, 10].length ≤ 9223372036854775807)) (some (((xv3 ++ [100, 97, 116, 97, 58, 32]) ++ xr4) ++ [10, 10])) none) none)) none)) none) ((aR_ n e.ops).bind fun xr5 => (cond (decide ([101, 118, 101, 110, 116, 58, 32, 112, 97, 116, 99, 104, 10].length + ((([105, 100, 58, 32] : Bs) ++ xr2) ++ [10]).length ≤ 9223372036854775807)) (let xv6 : Bs := (([101, 118, 101, 110, 116, 58, 32, 112, 97, 116, 99, 104, 10] : Bs) ++ ((([105, 100, 58, 32] : Bs) ++ xr2) ++ [10])); (cond (decide (xv6.length + [98, 97, 115, 101, 58, 32].length ≤ 9223372036854775807)) ((ca_ n e.base).bind fun xr7 => (cond (decide ((xv6 ++ [98, 97, 115, 101, 58, 32]).length + xr7.length ≤ 9223372036854775807)) (cond (decide (((xv6 ++ [98, 97, 115, 101, 58, 32]) ++ xr7).length + [10, 100, 97, 116, 97, 58, 32].length ≤ 9223372036854775807)) (let xv8 : Bs := (((xv6 ++ [98, 97, 115, 101, 58, 32]) ++ xr7) ++ [10, 100, 97, 116, 97, 58, 32]); ((bX_ n (aa_.re xr5.1)).bind fun xr9 => (cond (decide (xv8.length + xr9.length ≤ 9223372036854775807)) (cond (decide ((xv8 ++ xr9).length + [10, 10].length ≤ 9223372036854775807)) (some ((xv8 ++ xr9) ++ [10, 10])) none) none))) none) none)) none)) none))) none) none))))
def bq_ : Nat → Bs → Option (bb_ × Bool)
  | 0, _ => none
  | n + 1, text =>
    ((bL_ n text).bind fun xr1 => ((bF_ n { xr1 with doc := (aa_.re xr1.doc) }).bind fun xr2 => (cond (xr2 == []) (some ((bb_.mk 0 0 0 (aa_.mk 0 0 [] ([] : List aa_) ([] : List Bs)) ([] : List TOp)), false)) (cond (!(xr2 == text)) (some ((bb_.mk 0 0 0 (aa_.mk 0 0 [] ([] : List aa_) ([] : List Bs)) ([] : List TOp)), false)) (some ({ xr1 with doc := (aa_.re xr1.doc) }, true))))))
def aG_.step6 (n : Nat) (k0 : Option Bool) (back : (List Bs) → (List Bs) → Int → Option Bool) (a : List Bs) (b : List Bs) (i : Int) : Option Bool :=
  (cond (decide (i < (a.length : Int))) (inB i a.length (inB i b.length (cond (!((a.getD i.toNat []) == (b.getD i.toNat []))) (some false) (back a b (W (i + 1)))))) k0)
def aG_.loop6 (n : Nat) (k0 : Option Bool) (N : Nat) : (List Bs) → (List Bs) → Int → Option Bool :=
  cI_ (fun _ _ _ => none) (fun back => aG_.step6 n k0 back) N
def aG_ : Nat → (List Bs) → (List Bs) → Option Bool
  | 0, _, _ => none
  | n + 1, a, b =>
    (cond ((a.length : Int) != (b.length : Int)) (some false) (aG_.loop6 n (some true) n a b 0))
def aZ_.step6 (n : Nat) (laws_eqJson_ : aa_ → aa_ → Option Bool) (k0 : Option Bool) (back : (List aa_) → (List aa_) → Int → Option Bool) (a : List aa_) (b : List aa_) (i : Int) : Option Bool :=
  (cond (decide (i < (a.length : Int))) (inB i a.length (inB i b.length ((laws_eqJson_ (aa_.re (a.getD i.toNat aa_.dflt)) (aa_.re (b.getD i.toNat aa_.dflt))).bind fun xr1 => (cond (!xr1) (some false) (back a b (W (i + 1))))))) k0)
def aZ_.loop6 (n : Nat) (laws_eqJson_ : aa_ → aa_ → Option Bool) (k0 : Option Bool) (N : Nat) : (List aa_) → (List aa_) → Int → Option Bool :=
  cI_ (fun _ _ _ => none) (fun back => aZ_.step6 n laws_eqJson_ k0 back) N
mutual
def bA_ : Nat → aa_ → aa_ → Option Bool
  | 0, _, _ => none
  | n + 1, a, b =>
    (cond (a.kind != b.kind) (some false) (cond (a.n_ != b.n_) (some false) (cond (!(a.s == b.s)) (some false) ((aZ_ n a.list b.list).bind fun xr1 => (cond (!xr1) (some false) ((aG_ n a.names b.names).bind fun xr2 => (cond (!xr2) (some false) (some true))))))))
def aZ_ : Nat → (List aa_) → (List aa_) → Option Bool
  | 0, _, _ => none
  | n + 1, a, b =>
    (cond ((a.length : Int) != (b.length : Int)) (some false) (aZ_.loop6 n (bA_ n) (some true) n a b 0))
end
def cw_ : Nat → TOp → TOp → Option Bool
  | 0, _, _ => none
  | n + 1, a, b =>
    (cond (a.kind != b.kind) (some false) ((aG_ n a.way b.way).bind fun xr1 => (cond (!xr1) (some false) ((bA_ n (aa_.re a.value) (aa_.re b.value)).bind fun xr2 => (cond (!xr2) (some false) (some true))))))
def bh_.step6 (n : Nat) (k0 : Option Bool) (back : (List TOp) → (List TOp) → Int → Option Bool) (a : List TOp) (b : List TOp) (i : Int) : Option Bool :=
  (cond (decide (i < (a.length : Int))) (inB i a.length (inB i b.length ((cw_ n { (a.getD i.toNat TOp.dflt) with value := (aa_.re ((a.getD i.toNat TOp.dflt).value)) } { (b.getD i.toNat TOp.dflt) with value := (aa_.re ((b.getD i.toNat TOp.dflt).value)) }).bind fun xr1 => (cond (!xr1) (some false) (back a b (W (i + 1))))))) k0)
def bh_.loop6 (n : Nat) (k0 : Option Bool) (N : Nat) : (List TOp) → (List TOp) → Int → Option Bool :=
  cI_ (fun _ _ _ => none) (fun back => bh_.step6 n k0 back) N
def bh_ : Nat → (List TOp) → (List TOp) → Option Bool
  | 0, _, _ => none
  | n + 1, a, b =>
    (cond ((a.length : Int) != (b.length : Int)) (some false) (bh_.loop6 n (some true) n a b 0))
def bW_ : Nat → bb_ → bb_ → Option Bool
  | 0, _, _ => none
  | n + 1, a, b =>
    (cond (a.kind != b.kind) (some false) (cond (a.version != b.version) (some false) (cond (a.base != b.base) (some false) ((bA_ n (aa_.re a.doc) (aa_.re b.doc)).bind fun xr1 => (cond (!xr1) (some false) ((bh_ n a.ops b.ops).bind fun xr2 => (cond (!xr2) (some false) (some true))))))))
def aE_.step6 (n : Nat) (k0 : Bs → Option Bs) (back : Int → Bs → Option Bs) (k : Int) (out_1 : Bs) : Option Bs :=
  (cond (decide (k > 0)) (cond (decide ((eN_ ([(IntKind.u8.wrap ((W (48 + (Int.tmod k 10)))))] : List Int)).length + out_1.length ≤ 9223372036854775807)) (let xv1 : Bs := ((eN_ ([(IntKind.u8.wrap ((W (48 + (Int.tmod k 10)))))] : List Int)) ++ out_1); (back (W (Int.tdiv k 10)) xv1)) none) (k0 out_1))
def aE_.loop6 (n : Nat) (k0 : Bs → Option Bs) (N : Nat) : Int → Bs → Option Bs :=
  cI_ (fun _ _ => none) (fun back => aE_.step6 n k0 back) N
def aE_ : Nat → Int → Option Bs
  | 0, _ => none
  | n + 1, k =>
    (cond (decide (k ≤ 0)) (some [109, 48]) (aE_.loop6 n (fun xy2 => (cond (decide ([109].length + xy2.length ≤ 9223372036854775807)) (some (([109] : Bs) ++ xy2)) none)) n k []))
def ap_.step3 (n : Nat) (k0 : Int → (List Bs) → Option (Int × (List Bs))) (back : Int → Int → (List Bs) → Option (Int × (List Bs))) (k : Int) (i : Int) (a : List Bs) : Option (Int × (List Bs)) :=
  (cond (decide (i < (a.length : Int))) ((aE_ n k).bind fun xr1 => (inB i a.length (let xa2 : List Bs := a.set i.toNat xr1; (back (W (k + 1)) (W (i + 1)) xa2)))) (k0 k a))
def ap_.loop3 (n : Nat) (k0 : Int → (List Bs) → Option (Int × (List Bs))) (N : Nat) : Int → Int → (List Bs) → Option (Int × (List Bs)) :=
  cI_ (fun _ _ _ => none) (fun back => ap_.step3 n k0 back) N
def ap_ : Nat → (List Bs) → Int → Option (Int × (List Bs))
  | 0, _, _ => none
  | n + 1, a, k =>
    (ap_.loop3 n (fun xy3 xy4 => (some (xy3, xy4))) n k 0 a)
def au_.step3 (n : Nat) (laws_markJsonS_ : (List aa_) → Int → Option (Int × (List aa_))) (k0 : Int → (List aa_) → Option (Int × (List aa_))) (back : Int → Int → (List aa_) → Option (Int × (List aa_))) (k : Int) (i : Int) (a : List aa_) : Option (Int × (List aa_)) :=
  (cond (decide (i < (a.length : Int))) (inB i a.length (let xa1 : List aa_ := a.set i.toNat (aa_.mk k ((a.getD i.toNat aa_.dflt).n_) ((a.getD i.toNat aa_.dflt).s) ((a.getD i.toNat aa_.dflt).list) ((a.getD i.toNat aa_.dflt).names)); (inB i xa1.length (let xa2 : List aa_ := xa1.set i.toNat (aa_.mk ((xa1.getD i.toNat aa_.dflt).kind) (W (k + 1)) ((xa1.getD i.toNat aa_.dflt).s) ((xa1.getD i.toNat aa_.dflt).list) ((xa1.getD i.toNat aa_.dflt).names)); ((aE_ n (W ((W (k + 1)) + 1))).bind fun xr3 => (inB i xa2.length (let xa4 : List aa_ := xa2.set i.toNat (aa_.mk ((xa2.getD i.toNat aa_.dflt).kind) ((xa2.getD i.toNat aa_.dflt).n_) xr3 ((xa2.getD i.toNat aa_.dflt).list) ((xa2.getD i.toNat aa_.dflt).names)); (inB i xa4.length ((laws_markJsonS_ ((xa4.getD i.toNat aa_.dflt).list) (W ((W ((W (k + 1)) + 1)) + 1))).bind fun xr5 => (cond (Nat.beq xr5.2.length ((xa4.getD i.toNat aa_.dflt).list).length) (let xa6 : List aa_ := xa4.set i.toNat (aa_.mk ((xa4.getD i.toNat aa_.dflt).kind) ((xa4.getD i.toNat aa_.dflt).n_) ((xa4.getD i.toNat aa_.dflt).s) xr5.2 ((xa4.getD i.toNat aa_.dflt).names)); (inB i xa6.length ((ap_ n ((xa6.getD i.toNat aa_.dflt).names) xr5.1).bind fun xr7 => (cond (Nat.beq xr7.2.length ((xa6.getD i.toNat aa_.dflt).names).length) (let xa8 : List aa_ := xa6.set i.toNat (aa_.mk ((xa6.getD i.toNat aa_.dflt).kind) ((xa6.getD i.toNat aa_.dflt).n_) ((xa6.getD i.toNat aa_.dflt).s) ((xa6.getD i.toNat aa_.dflt).list) xr7.2); (back xr7.1 (W (i + 1)) xa8)) none)))) none)))))))))) (k0 k a))
def au_.loop3 (n : Nat) (laws_markJsonS_ : (List aa_) → Int → Option (Int × (List aa_))) (k0 : Int → (List aa_) → Option (Int × (List aa_))) (N : Nat) : Int → Int → (List aa_) → Option (Int × (List aa_)) :=
  cI_ (fun _ _ _ => none) (fun back => au_.step3 n laws_markJsonS_ k0 back) N
def au_ : Nat → (List aa_) → Int → Option (Int × (List aa_))
  | 0, _, _ => none
  | n + 1, a, k =>
    (au_.loop3 n (au_ n) (fun xy9 xy10 => (some (xy9, xy10))) n k 0 a)
def bP_ : Nat → aa_ → Int → Option (Int × (List aa_) × (List Bs))
  | 0, _, _ => none
  | n + 1, a, k =>
    ((au_ n a.list k).bind fun xr1 => (cond (Nat.beq xr1.2.length a.list.length) ((ap_ n a.names xr1.1).bind fun xr2 => (cond (Nat.beq xr2.2.length a.names.length) (some (xr2.1, xr1.2, xr2.2)) none)) none))
def aX_.step3 (n : Nat) (k0 : Int → (List TOp) → Option (Int × (List TOp))) (back : Int → Int → (List TOp) → Option (Int × (List TOp))) (append : Int) (t5 : Int) (o : List TOp) : Option (Int × (List TOp)) :=
  (cond (decide (t5 < (o.length : Int))) (inB t5 o.length (let xa1 : List TOp := o.set t5.toNat (TOp.mk append ((o.getD t5.toNat TOp.dflt).way) (aa_.re ((o.getD t5.toNat TOp.dflt).value))); (inB t5 xa1.length ((ap_ n ((xa1.getD t5.toNat TOp.dflt).way) (W (append + 1))).bind fun xr2 => (cond (Nat.beq xr2.2.length ((xa1.getD t5.toNat TOp.dflt).way).length) (let xa3 : List TOp := xa1.set t5.toNat (TOp.mk ((xa1.getD t5.toNat TOp.dflt).kind) xr2.2 (aa_.re ((xa1.getD t5.toNat TOp.dflt).value))); (inB t5 xa3.length (let xa4 : List TOp := xa3.set t5.toNat { (xa3.getD t5.toNat TOp.dflt) with value := (aa_.mk xr2.1 (((xa3.getD t5.toNat TOp.dflt).value).n_) (((xa3.getD t5.toNat TOp.dflt).value).s) (((xa3.getD t5.toNat TOp.dflt).value).list) (((xa3.getD t5.toNat TOp.dflt).value).names)) }; (inB t5 xa4.length (let xa5 : List TOp := xa4.set t5.toNat { (xa4.getD t5.toNat TOp.dflt) with value := (aa_.mk (((xa4.getD t5.toNat TOp.dflt).value).kind) (W (xr2.1 + 1)) (((xa4.getD t5.toNat TOp.dflt).value).s) (((xa4.getD t5.toNat TOp.dflt).value).list) (((xa4.getD t5.toNat TOp.dflt).value).names)) }; ((aE_ n (W ((W (xr2.1 + 1)) + 1))).bind fun xr6 => (inB t5 xa5.length (let xa7 : List TOp := xa5.set t5.toNat { (xa5.getD t5.toNat TOp.dflt) with value := (aa_.mk (((xa5.getD t5.toNat TOp.dflt).value).kind) (((xa5.getD t5.toNat TOp.dflt).value).n_) xr6 (((xa5.getD t5.toNat TOp.dflt).value).list) (((xa5.getD t5.toNat TOp.dflt).value).names)) }; (inB t5 xa7.length ((au_ n (((xa7.getD t5.toNat TOp.dflt).value).list) (W ((W ((W (xr2.1 + 1)) + 1)) + 1))).bind fun xr8 => (cond (Nat.beq xr8.2.length (((xa7.getD t5.toNat TOp.dflt).value).list).length) (let xa9 : List TOp := xa7.set t5.toNat { (xa7.getD t5.toNat TOp.dflt) with value := (aa_.mk (((xa7.getD t5.toNat TOp.dflt).value).kind) (((xa7.getD t5.toNat TOp.dflt).value).n_) (((xa7.getD t5.toNat TOp.dflt).value).s) xr8.2 (((xa7.getD t5.toNat TOp.dflt).value).names)) }; (inB t5 xa9.length ((ap_ n (((xa9.getD t5.toNat TOp.dflt).value).names) xr8.1).bind fun xr10 => (cond (Nat.beq xr10.2.length (((xa9.getD t5.toNat TOp.dflt).value).names).length) (let xa11 : List TOp := xa9.set t5.toNat { (xa9.getD t5.toNat TOp.dflt) with value := (aa_.mk (((xa9.getD t5.toNat TOp.dflt).value).kind) (((xa9.getD t5.toNat TOp.dflt).value).n_) (((xa9.getD t5.toNat TOp.dflt).value).s) (((xa9.getD t5.toNat TOp.dflt).value).list) xr10.2) }; (back xr10.1 (W (t5 + 1)) xa11)) none)))) none))))))))))) none))))) (k0 append o))
def aX_.loop3 (n : Nat) (k0 : Int → (List TOp) → Option (Int × (List TOp))) (N : Nat) : Int → Int → (List TOp) → Option (Int × (List TOp)) :=
  cI_ (fun _ _ _ => none) (fun back => aX_.step3 n k0 back) N
def aX_ : Nat → (List TOp) → Int → Option (Int × (List TOp))
  | 0, _, _ => none
  | n + 1, o, append =>
    (aX_.loop3 n (fun xy12 xy13 => (some (xy12, xy13))) n append 0 o)
def bC_ : Nat → bb_ → Int → Option (Int × (List aa_) × (List Bs) × (List TOp))
  | 0, _, _ => none
  | n + 1, a, k =>
    ((bP_ n (aa_.re a.doc) k).bind fun xr1 => (cond (Nat.beq xr1.2.1.length a.doc.list.length) (cond (Nat.beq xr1.2.2.length a.doc.names.length) ((aX_ n a.ops xr1.1).bind fun xr2 => (cond (Nat.beq xr2.2.length a.ops.length) (some (xr2.1, xr1.2.1, xr1.2.2, xr2.2)) none)) none) none))
def aq_.step3 (n : Nat) (k0 : Int → Option Int) (back : (List Bs) → Int → Int → Option Int) (a : List Bs) (k : Int) (i : Int) : Option Int :=
  (cond (decide (i < (a.length : Int))) (inB i a.length ((aE_ n k).bind fun xr1 => (cond (!((a.getD i.toNat []) == xr1)) (some (-1)) (back a (W (k + 1)) (W (i + 1)))))) (k0 k))
def aq_.loop3 (n : Nat) (k0 : Int → Option Int) (N : Nat) : (List Bs) → Int → Int → Option Int :=
  cI_ (fun _ _ _ => none) (fun back => aq_.step3 n k0 back) N
def aq_ : Nat → (List Bs) → Int → Option Int
  | 0, _, _ => none
  | n + 1, a, k =>
    (aq_.loop3 n (fun xy2 => (some xy2)) n a k 0)
def av_.step3 (n : Nat) (laws_heldJsonS_ : (List aa_) → Int → Option Int) (k0 : Int → Option Int) (back : (List aa_) → Int → Int → Option Int) (a : List aa_) (k : Int) (i : Int) : Option Int :=
  (cond (decide (i < (a.length : Int))) (inB i a.length (cond (((a.getD i.toNat aa_.dflt).kind) != k) (some (-1)) (inB i a.length (cond (((a.getD i.toNat aa_.dflt).n_) != (W (k + 1))) (some (-1)) (inB i a.length ((aE_ n (W ((W (k + 1)) + 1))).bind fun xr1 => (cond (!(((a.getD i.toNat aa_.dflt).s) == xr1)) (some (-1)) (inB i a.length ((laws_heldJsonS_ ((a.getD i.toNat aa_.dflt).list) (W ((W ((W (k + 1)) + 1)) + 1))).bind fun xr2 => (cond (decide (xr2 < 0)) (some (-1)) (inB i a.length ((aq_ n ((a.getD i.toNat aa_.dflt).names) xr2).bind fun xr3 => (cond (decide (xr3 < 0)) (some (-1)) (back a xr3 (W (i + 1)))))))))))))))) (k0 k))
def av_.loop3 (n : Nat) (laws_heldJsonS_ : (List aa_) → Int → Option Int) (k0 : Int → Option Int) (N : Nat) : (List aa_) → Int → Int → Option Int :=
  cI_ (fun _ _ _ => none) (fun back => av_.step3 n laws_heldJsonS_ k0 back) N
def av_ : Nat → (List aa_) → Int → Option Int
  | 0, _, _ => none
  | n + 1, a, k =>
    (av_.loop3 n (av_ n) (fun xy4 => (some xy4)) n a k 0)
def bQ_ : Nat → aa_ → Int → Option Int
  | 0, _, _ => none
  | n + 1, a, k =>
    ((av_ n a.list k).bind fun xr1 => (cond (decide (xr1 < 0)) (some (-1)) ((aq_ n a.names xr1).bind fun xr2 => (cond (decide (xr2 < 0)) (some (-1)) (some xr2)))))
def aY_.step3 (n : Nat) (k0 : Int → Option Int) (back : (List TOp) → Int → Int → Option Int) (o : List TOp) (append : Int) (t5 : Int) : Option Int :=
  (cond (decide (t5 < (o.length : Int))) (inB t5 o.length (cond (((o.getD t5.toNat TOp.dflt).kind) != append) (some (-1)) (inB t5 o.length ((aq_ n ((o.getD t5.toNat TOp.dflt).way) (W (append + 1))).bind fun xr1 => (cond (decide (xr1 < 0)) (some (-1)) (inB t5 o.length (cond ((((o.getD t5.toNat TOp.dflt).value).kind) != xr1) (some (-1)) (inB t5 o.length (cond ((((o.getD t5.toNat TOp.dflt).value).n_) != (W (xr1 + 1))) (some (-1)) (inB t5 o.length ((aE_ n (W ((W (xr1 + 1)) + 1))).bind fun xr2 => (cond (!((((o.getD t5.toNat TOp.dflt).value).s) == xr2)) (some (-1)) (inB t5 o.length ((av_ n (((o.getD t5.toNat TOp.dflt).value).list) (W ((W ((W (xr1 + 1)) + 1)) + 1))).bind fun xr3 => (cond (decide (xr3 < 0)) (some (-1)) (inB t5 o.length ((aq_ n (((o.getD t5.toNat TOp.dflt).value).names) xr3).bind fun xr4 => (cond (decide (xr4 < 0)) (some (-1)) (back o xr4 (W (t5 + 1))))))))))))))))))))) (k0 append))
def aY_.loop3 (n : Nat) (k0 : Int → Option Int) (N : Nat) : (List TOp) → Int → Int → Option Int :=
  cI_ (fun _ _ _ => none) (fun back => aY_.step3 n k0 back) N
def aY_ : Nat → (List TOp) → Int → Option Int
  | 0, _, _ => none
  | n + 1, o, append =>
    (aY_.loop3 n (fun xy5 => (some xy5)) n o append 0)
def by_ : Nat → bb_ → Int → Option Int
  | 0, _, _ => none
  | n + 1, a, k =>
    ((bQ_ n (aa_.re a.doc) k).bind fun xr1 => (cond (decide (xr1 < 0)) (some (-1)) ((aY_ n a.ops xr1).bind fun xr2 => (cond (decide (xr2 < 0)) (some (-1)) (some xr2)))))
def laws_FnExactEventRead : Nat → Bs → Option Bool
  | 0, _ => none
  | n + 1, o =>
    (cond (decide ((o.length : Int) > 1048576)) (some true) ((ac_ n o).bind fun xr1 => ((bq_ n o).bind fun xr2 => ((bW_ n { xr2.1 with doc := (aa_.re xr2.1.doc) } { xr1.1 with doc := (aa_.re xr1.1.doc) }).bind fun xr3 => (cond (!xr3) (some false) (cond (!(xr2.2 == xr1.2)) (some false) ((bC_ n { xr2.1 with doc := (aa_.re xr2.1.doc) } 1).bind fun xr4 => (cond (Nat.beq xr4.2.1.length xr2.1.doc.list.length) (cond (Nat.beq xr4.2.2.1.length xr2.1.doc.names.length) (cond (Nat.beq xr4.2.2.2.length xr2.1.ops.length) ((by_ n { xr2.1 with doc := (aa_.mk xr2.1.doc.kind xr2.1.doc.n_ xr2.1.doc.s xr4.2.1 xr4.2.2.1), ops := xr4.2.2.2 } 1).bind fun xr5 => (cond (decide (xr5 < 0)) (some false) (cond (xr5 != xr4.1) (some false) ((bq_ n o).bind fun xr6 => ((bW_ n { xr6.1 with doc := (aa_.re xr6.1.doc) } { xr1.1 with doc := (aa_.re xr1.1.doc) }).bind fun xr7 => (cond (!xr7) (some false) (cond (!(xr6.2 == xr1.2)) (some false) ((by_ n { xr2.1 with doc := (aa_.mk xr2.1.doc.kind xr2.1.doc.n_ xr2.1.doc.s xr4.2.1 xr4.2.2.1), ops := xr4.2.2.2 } 1).bind fun xr8 => (cond (decide (xr8 < 0)) (some false) (cond (xr8 != xr4.1) (some false) (some true))))))))))) none) none) none))))))))
end Go.Pi
end
section
set_option linter.unusedVariables false
set_option maxRecDepth 100000
namespace Go.Pi
def aa_.p (m : M) : List Pat := [.i .i64, .i .i64, .s, .sl m .iJson, .sl m .str]
abbrev aa_.c : Type := Int × Int × Bs × (List aa_) × (List Bs) × Unit
def aa_.of : aa_.c → aa_ := fun (x0, x1, x2, x3, x4, _) => ⟨x0, x1, x2, x3, x4⟩
def aa_.to (s : aa_) : aa_.c := (s.kind, s.n_, s.s, s.list, s.names, ())
def TOp.p (m : M) : List Pat := [.i .i64, .sl m .str, .i .i64, .i .i64, .s, .sl m .iJson, .sl m .str]
abbrev TOp.c : Type := Int × (List Bs) × Int × Int × Bs × (List aa_) × (List Bs) × Unit
def TOp.of : TOp.c → TOp := fun (x0, x1, x2, x3, x4, x5, x6, _) => ⟨x0, x1, ⟨x2, x3, x4, x5, x6⟩⟩
def TOp.to (s : TOp) : TOp.c := (s.kind, s.way, s.value.kind, s.value.n_, s.value.s, s.value.list, s.value.names, ())
def bb_.p (m : M) : List Pat := [.i .i64, .i .i64, .i .i64, .i .i64, .i .i64, .s, .sl m .iJson, .sl m .str, .sl m .iOp]
abbrev bb_.c : Type := Int × Int × Int × Int × Int × Bs × (List aa_) × (List Bs) × (List TOp) × Unit
def bb_.of : bb_.c → bb_ := fun (x0, x1, x2, x3, x4, x5, x6, x7, x8, _) => ⟨x0, x1, x2, ⟨x3, x4, x5, x6, x7⟩, x8⟩
def bb_.to (s : bb_) : bb_.c := (s.kind, s.version, s.base, s.doc.kind, s.doc.n_, s.doc.s, s.doc.list, s.doc.names, s.ops, ())
def a3_.p (m : M) : List Pat := [.s, .i .i64, .b, .i .i64]
abbrev a3_.c : Type := Bs × Int × Bool × Int × Unit
def a3_.of : a3_.c → a3_ := fun (x0, x1, x2, x3, _) => ⟨x0, x1, x2, x3⟩
def a3_.to (s : a3_) : a3_.c := (s.s, s.at_, s.ok, s.left, ())
def aC_.p (m : M) : List Pat := [.s, .b]
abbrev aC_.c : Type := Bs × Bool × Unit
def aC_.of : aC_.c → aC_ := fun (x0, x1, _) => ⟨x0, x1⟩
def aC_.to (s : aC_) : aC_.c := (s.text, s.bad, ())

def aP_.p5 : OD := ⟨[(0, .k), (3, .own .d .str), (4, .k), (5, .k)], [.s, .rt 1, .i .i64, .i .i64], [.ext, .arr .d .str 2]⟩
def aP_.o0 : OD := ⟨[(3, .own .d .str)], [.rt 1], [.ext, .arr .d .str 2]⟩
def aP_.d : FD (List Bs) := ⟨43, 27, 1, [.s], [.sl .d .str], fun (a0, _) => a0, fun r => (r, ()), [.v], [.o], [.own .d .str], [.tmp 2], [], [(5, aP_.p5)], [], [(0, aP_.o0)]⟩
def aP_.F (n : Nat) : Pat.Ts aP_.d.ps → Option (List Bs) := fun (a0, _) => aP_ n a0

def bn_.d : FD Bs := ⟨44, 22, 1, [.s, .s], [.s], fun (a0, _) => a0, fun r => (r, ()), [.v, .v], [.v], [.k], [.tmp 4], [], [], [], []⟩
def bn_.F (n : Nat) : Pat.Ts bn_.d.ps → Option Bs := fun (a0, a1, _) => bn_ n a0 a1

def bG_.d : FD (Int × a3_) := ⟨112, 22, 2, [.bx (a3_.p .v)], [.i .u8, .bx (a3_.p .v)], fun (a0, a1, _) => (a0, (a3_.of a1)), fun (a0, a1) => (a0, a3_.to a1, ()), [.ptr [.v, .v, .v, .v]], [.v, .ptr [.v, .v, .v, .v]], [.k, .box [.k, .k, .k, .k]], [.tmp 2], [.pb 1 0], [], [], []⟩
def bG_.F (n : Nat) : Pat.Ts bG_.d.ps → Option (Int × a3_) := fun (a0, _) => bG_ n (a3_.of a0)

def ax_.p7 : OD := ⟨[(0, .box [.k, .k, .k, .k]), (3, .k), (4, .k), (5, .k)], [.pb 1 0, .b, .i .i64, .i .i64], [.ext, .box (a3_.p .v)]⟩
def ax_.o0 : OD := ⟨[(0, .box [.k, .k, .k, .k]), (3, .k), (4, .k), (5, .k)], [.pb 1 0, .b, .i .i64, .i .i64], [.ext, .box (a3_.p .v)]⟩
def ax_.d : FD (Int × a3_) := ⟨75, 65, 2, [.bx (a3_.p .v)], [.i .i64, .bx (a3_.p .v)], fun (a0, a1, _) => (a0, (a3_.of a1)), fun (a0, a1) => (a0, a3_.to a1, ()), [.ptr [.v, .v, .v, .v]], [.v, .ptr [.v, .v, .v, .v]], [.k, .box [.k, .k, .k, .k]], [.tmp 2], [.pb 1 0], [(7, ax_.p7)], [], [(0, ax_.o0)]⟩
def ax_.F (n : Nat) : Pat.Ts ax_.d.ps → Option (Int × a3_) := fun (a0, _) => ax_ n (a3_.of a0)

def aI_.p7 : OD := ⟨[(0, .k), (3, .k), (4, .k)], [.i .i64, .b, .s], [.ext]⟩
def aI_.o0 : OD := ⟨[(3, .k), (4, .k)], [.b, .s], [.ext]⟩
def aI_.d : FD Bs := ⟨76, 31, 1, [.i .i64], [.s], fun (a0, _) => a0, fun r => (r, ()), [.v], [.v], [.k], [.tmp 2], [], [(7, aI_.p7)], [], [(0, aI_.o0)]⟩
def aI_.F (n : Nat) : Pat.Ts aI_.d.ps → Option Bs := fun (a0, _) => aI_ n a0

def bY_.d : FD (Int × Bool) := ⟨45, 22, 1, [.s], [.i .i64, .b], fun (a0, a1, _) => (a0, a1), fun (a0, a1) => (a0, a1, ()), [.v], [.v, .v], [.k, .k], [.tmp 2, .tmp 3], [], [], [], []⟩
def bY_.F (n : Nat) : Pat.Ts bY_.d.ps → Option (Int × Bool) := fun (a0, _) => bY_ n a0

def bj_.d : FD a3_ := ⟨113, 50, 2, [.bx (a3_.p .v), .s], [.bx (a3_.p .v)], fun (a0, _) => (a3_.of a0), fun r => (a3_.to r, ()), [.ptr [.v, .v, .v, .v], .v], [.ptr [.v, .v, .v, .v]], [.box [.k, .k, .k, .k]], [], [.pb 1 0], [], [], []⟩
def bj_.F (n : Nat) : Pat.Ts bj_.d.ps → Option a3_ := fun (a0, a1, _) => bj_ n (a3_.of a0) a1

def ay_.p4 : OD := ⟨[(0, .box [.k, .k, .k, .k]), (3, .own .d .u8)], [.pb 1 0, .rt 2], [.ext, .box (a3_.p .v), .arr .d .u8 2]⟩
def ay_.o0 : OD := ⟨[(0, .box [.k, .k, .k, .k]), (3, .own .d .u8)], [.pb 1 0, .rt 2], [.ext, .box (a3_.p .v), .arr .d .u8 2]⟩
def ay_.d : FD (Bs × a3_) := ⟨114, 62, 2, [.bx (a3_.p .v)], [.s, .bx (a3_.p .v)], fun (a0, a1, _) => (a0, (a3_.of a1)), fun (a0, a1) => (a0, a3_.to a1, ()), [.ptr [.v, .v, .v, .v]], [.v, .ptr [.v, .v, .v, .v]], [.k, .box [.k, .k, .k, .k]], [.tmp 2], [.pb 1 0], [(4, ay_.p4)], [], [(0, ay_.o0)]⟩
def ay_.F (n : Nat) : Pat.Ts ay_.d.ps → Option (Bs × a3_) := fun (a0, _) => ay_ n (a3_.of a0)

def aL_.p8 : OD := ⟨[(0, .box [.k, .k, .k, .k]), (1, .k), (4, .box [.k, .k, .k, .k, .k]), (5, .box [.k, .k, .k, .own .d .iJson, .own .d .str]), (6, .k)], [.pb 1 0, .i .i64, .pb 2 0, .pb 3 0, .s], [.ext, .box (a3_.p .v), .box [.i .i64, .i .i64, .s, .nils, .nils], .box [.i .i64, .i .i64, .s, .rt 4, .rt 5], .arr .d .iJson 2, .arr .d .str 2]⟩
def aL_.o0 : OD := ⟨[(0, .box [.k, .k, .k, .k]), (4, .box [.k, .k, .k, .k, .k]), (5, .box [.k, .k, .k, .own .d .iJson, .own .d .str]), (6, .k)], [.pb 1 0, .pb 2 0, .pb 3 0, .s], [.ext, .box (a3_.p .v), .box [.i .i64, .i .i64, .s, .nils, .nils], .box [.i .i64, .i .i64, .s, .rt 4, .rt 5], .arr .d .iJson 2, .arr .d .str 2]⟩
def aL_.d : FD (aa_ × a3_) := ⟨115, 61, 2, [.bx (a3_.p .v), .i .i64], [.ag (aa_.p .d), .bx (a3_.p .v)], fun (a0, a1, _) => ((aa_.of a0), (a3_.of a1)), fun (a0, a1) => (aa_.to a0, a3_.to a1, ()), [.ptr [.v, .v, .v, .v], .v], [.ag [.v, .v, .v, .o, .o], .ptr [.v, .v, .v, .v]], [.ag [.k, .k, .k, .own .d .iJson, .own .d .str], .box [.k, .k, .k, .k]], [.cell 4 25], [.pb 1 0], [(8, aL_.p8)], [], [(0, aL_.o0)]⟩
def aL_.F (n : Nat) : Pat.Ts aL_.d.ps → Option (aa_ × a3_) := fun (a0, a1, _) => aL_ n (a3_.of a0) a1

def ba_.d : FD (aa_ × a3_) := ⟨77, 61, 2, [.bx (a3_.p .v), .i .i64], [.ag (aa_.p .d), .bx (a3_.p .v)], fun (a0, a1, _) => ((aa_.of a0), (a3_.of a1)), fun (a0, a1) => (aa_.to a0, a3_.to a1, ()), [.ptr [.v, .v, .v, .v], .v], [.ag [.v, .v, .v, .o, .o], .ptr [.v, .v, .v, .v]], [.ag [.k, .k, .k, .own .d .iJson, .own .d .str], .box [.k, .k, .k, .k]], [.cell 4 25], [.pb 1 0], [], [], []⟩
def ba_.F (n : Nat) : Pat.Ts ba_.d.ps → Option (aa_ × a3_) := fun (a0, a1, _) => ba_ n (a3_.of a0) a1

def a6_.p3 : OD := ⟨[(0, .k), (3, .k)], [.s, .i .i64], [.ext]⟩
def a6_.o0 : OD := ⟨[(0, .k)], [.s], [.ext]⟩
def a6_.d : FD Bool := ⟨141, 23, 1, [.s], [.b], fun (a0, _) => a0, fun r => (r, ()), [.v], [.v], [.k], [.tmp 2], [], [(3, a6_.p3)], [], [(0, a6_.o0)]⟩
def a6_.F (n : Nat) : Pat.Ts a6_.d.ps → Option Bool := fun (a0, _) => a6_ n a0

def ad_.p6 : OD := ⟨[(1, .box [.k, .k, .k, .view .iJson, .view .str]), (3, .k)], [.pb 1 0, .i .i64], [.ext, .box (aa_.p .v)]⟩
def ad_.o0 : OD := ⟨[(1, .box [.k, .k, .k, .view .iJson, .view .str])], [.pb 1 0], [.ext, .box (aa_.p .v)]⟩
def ad_.d : FD Bool := ⟨164, 50, 1, [.ag (aa_.p .v)], [.b], fun (a0, _) => a0, fun r => (r, ()), [.ag [.v, .v, .v, .v, .v]], [.v], [.k], [.tmp 2], [], [(6, ad_.p6)], [], [(0, ad_.o0)]⟩
def ad_.F (n : Nat) : Pat.Ts ad_.d.ps → Option Bool := fun (a0, _) => ad_ n (aa_.of a0)

def cl_.d : FD Bool := ⟨98, 15, 1, [.i .i64, .i .i64, .i .i64], [.b], fun (a0, _) => a0, fun r => (r, ()), [.v, .v, .v], [.v], [.k], [.tmp 6], [], [], [], []⟩
def cl_.F (n : Nat) : Pat.Ts cl_.d.ps → Option Bool := fun (a0, a1, a2, _) => cl_ n a0 a1 a2

def aD_.p23 : OD := ⟨[(1, .k), (2, .box [.k, .k, .k, .view .iJson, .view .str]), (5, .k), (6, .k), (7, .k)], [.i .i64, .pb 1 0, .i .i64, .i .i64, .i .i64], [.ext, .box (aa_.p .v)]⟩
def aD_.o1 : OD := ⟨[(2, .box [.k, .k, .k, .view .iJson, .view .str]), (5, .k), (6, .k)], [.pb 1 0, .i .i64, .i .i64], [.ext, .box (aa_.p .v)]⟩
def aD_.d : FD Int := ⟨131, 106, 1, [.ag (aa_.p .v), .i .i64], [.i .i64], fun (a0, _) => a0, fun r => (r, ()), [.ag [.v, .v, .v, .v, .v], .v], [.v], [.k], [.tmp 4], [], [(23, aD_.p23)], [], [(1, aD_.o1)]⟩
def aD_.F (n : Nat) : Pat.Ts aD_.d.ps → Option Int := fun (a0, a1, _) => aD_ n (aa_.of a0) a1

def bM_.d : FD Bool := ⟨100, 6, 1, [.ag (aa_.p .v)], [.b], fun (a0, _) => a0, fun r => (r, ()), [.ag [.v, .v, .v, .v, .v]], [.v], [.k], [.tmp 2], [], [], [], []⟩
def bM_.F (n : Nat) : Pat.Ts bM_.d.ps → Option Bool := fun (a0, _) => bM_ n (aa_.of a0)

def aU_.p4 : OD := ⟨[(0, .k), (3, .own .d .u8), (4, .k)], [.s, .rt 1, .i .i64], [.ext, .arr .d .u8 2]⟩
def aU_.o0 : OD := ⟨[(3, .own .d .u8)], [.rt 1], [.ext, .arr .d .u8 2]⟩
def aU_.d : FD Bs := ⟨140, 35, 1, [.s], [.s], fun (a0, _) => a0, fun r => (r, ()), [.v], [.v], [.k], [.tmp 2], [], [(4, aU_.p4)], [], [(0, aU_.o0)]⟩
def aU_.F (n : Nat) : Pat.Ts aU_.d.ps → Option Bs := fun (a0, _) => aU_ n a0

def aA_.p17 : OD := ⟨[(1, .box [.k, .k, .k, .view .iJson, .view .str]), (3, .k), (4, .k)], [.pb 1 0, .s, .i .i64], [.ext, .box (aa_.p .v)]⟩
def aA_.o1 : OD := ⟨[(1, .box [.k, .k, .k, .view .iJson, .view .str]), (3, .k)], [.pb 1 0, .s], [.ext, .box (aa_.p .v)]⟩
def aA_.d : FD Bs := ⟨116, 64, 1, [.ag (aa_.p .v)], [.s], fun (a0, _) => a0, fun r => (r, ()), [.ag [.v, .v, .v, .v, .v]], [.v], [.k], [.tmp 2], [], [(17, aA_.p17)], [], [(1, aA_.o1)]⟩
def aA_.F (n : Nat) : Pat.Ts aA_.d.ps → Option Bs := fun (a0, _) => aA_ n (aa_.of a0)

def bU_.d : FD Bs := ⟨78, 13, 1, [.ag (aa_.p .v)], [.s], fun (a0, _) => a0, fun r => (r, ()), [.ag [.v, .v, .v, .v, .v]], [.v], [.k], [.tmp 2], [], [], [], []⟩
def bU_.F (n : Nat) : Pat.Ts bU_.d.ps → Option Bs := fun (a0, _) => bU_ n (aa_.of a0)

def b3_.d : FD (aa_ × Bool) := ⟨46, 41, 1, [.s], [.ag (aa_.p .d), .b], fun (a0, a1, _) => ((aa_.of a0), a1), fun (a0, a1) => (aa_.to a0, a1, ()), [.v], [.ag [.v, .v, .v, .o, .o], .v], [.ag [.k, .k, .k, .own .d .iJson, .own .d .str], .k], [.cell 2 25, .tmp 3], [], [], [], []⟩
def b3_.F (n : Nat) : Pat.Ts b3_.d.ps → Option (aa_ × Bool) := fun (a0, _) => b3_ n a0

def bo_.p3 : OD := ⟨[(1, .k), (2, .box [.k, .k, .k, .view .iJson, .view .str]), (5, .k)], [.s, .pb 1 0, .i .i64], [.ext, .box (aa_.p .v)]⟩
def bo_.o0 : OD := ⟨[], [], [.ext]⟩
def bo_.d : FD Int := ⟨117, 21, 1, [.ag (aa_.p .v), .s], [.i .i64], fun (a0, _) => a0, fun r => (r, ()), [.ag [.v, .v, .v, .v, .v], .v], [.v], [.k], [.tmp 4], [], [(3, bo_.p3)], [], [(0, bo_.o0)]⟩
def bo_.F (n : Nat) : Pat.Ts bo_.d.ps → Option Int := fun (a0, a1, _) => bo_ n (aa_.of a0) a1

def a4_.p4 : OD := ⟨[(1, .box [.k, .k, .k, .view .iJson, .view .str]), (2, .box [.k, .k, .k, .k, .k]), (3, .box [.k, .k, .k, .own .d .iJson, .own .d .str]), (4, .k)], [.pb 1 0, .pb 2 0, .pb 3 0, .i .i64], [.ext, .box (aa_.p .v), .box [.i .i64, .i .i64, .s, .nils, .nils], .box [.i .i64, .i .i64, .s, .rt 4, .rt 5], .arr .d .iJson 2, .arr .d .str 2]⟩
def a4_.o0 : OD := ⟨[(2, .box [.k, .k, .k, .k, .k]), (3, .box [.k, .k, .k, .own .d .iJson, .own .d .str])], [.pb 1 0, .pb 2 0], [.ext, .box [.i .i64, .i .i64, .s, .nils, .nils], .box [.i .i64, .i .i64, .s, .rt 3, .rt 4], .arr .d .iJson 2, .arr .d .str 2]⟩
def a4_.d : FD aa_ := ⟨61, 35, 1, [.ag (aa_.p .v)], [.ag (aa_.p .d)], fun (a0, _) => (aa_.of a0), fun r => (aa_.to r, ()), [.ag [.v, .v, .v, .v, .v]], [.ag [.v, .v, .v, .o, .o]], [.ag [.k, .k, .k, .own .d .iJson, .own .d .str]], [.cell 2 25], [], [(4, a4_.p4)], [], [(0, a4_.o0)]⟩
def a4_.F (n : Nat) : Pat.Ts a4_.d.ps → Option aa_ := fun (a0, _) => a4_ n (aa_.of a0)

def cc_.d : FD (aa_ × Bool) := ⟨79, 29, 1, [.ag (aa_.p .v), .s], [.ag (aa_.p .d), .b], fun (a0, a1, _) => ((aa_.of a0), a1), fun (a0, a1) => (aa_.to a0, a1, ()), [.ag [.v, .v, .v, .v, .v], .v], [.ag [.v, .v, .v, .o, .o], .v], [.ag [.k, .k, .k, .own .d .iJson, .own .d .str], .k], [.cell 4 25, .tmp 5], [], [], [], []⟩
def cc_.F (n : Nat) : Pat.Ts cc_.d.ps → Option (aa_ × Bool) := fun (a0, a1, _) => cc_ n (aa_.of a0) a1

def bJ_.d : FD (List Bs) := ⟨80, 2, 1, [], [.sl .d .str], fun (a0, _) => a0, fun r => (r, ()), [], [.o], [.own .d .str], [.tmp 0], [], [], [], []⟩
def bJ_.F (n : Nat) : Pat.Ts bJ_.d.ps → Option (List Bs) := fun _ => bJ_ n ()

def aK_.p6 : OD := ⟨[(0, .k), (4, .own .d .str), (5, .own .d .str), (6, .own .d .u8), (7, .k)], [.s, .rt 1, .rt 2, .rt 3, .i .i64], [.ext, .arr .d .str 2, .arr .d .str 2, .arr .d .u8 2]⟩
def aK_.o0 : OD := ⟨[(0, .k), (4, .own .d .str), (5, .own .d .str), (6, .own .d .u8)], [.s, .rt 1, .rt 2, .rt 3], [.ext, .arr .d .str 2, .arr .d .str 2, .arr .d .u8 2]⟩
def aK_.d : FD ((List Bs) × Bool) := ⟨81, 86, 1, [.s], [.sl .d .str, .b], fun (a0, a1, _) => (a0, a1), fun (a0, a1) => (a0, a1, ()), [.v], [.o, .v], [.own .d .str, .k], [.tmp 2, .tmp 3], [], [(6, aK_.p6)], [], [(0, aK_.o0)]⟩
def aK_.F (n : Nat) : Pat.Ts aK_.d.ps → Option ((List Bs) × Bool) := fun (a0, _) => aK_ n a0

def ah_.p6 : OD := ⟨[(2, .box [.k, .k, .k, .view .iJson, .view .str]), (3, .box [.k, .k, .k, .view .iJson, .view .str]), (5, .k)], [.pb 1 0, .pb 2 0, .i .i64], [.ext, .box (aa_.p .v), .box (aa_.p .v)]⟩
def ah_.p14 : OD := ⟨[(2, .box [.k, .k, .k, .view .iJson, .view .str]), (3, .box [.k, .k, .k, .view .iJson, .view .str]), (6, .k)], [.pb 1 0, .pb 2 0, .i .i64], [.ext, .box (aa_.p .v), .box (aa_.p .v)]⟩
def ah_.o0 : OD := ⟨[(2, .box [.k, .k, .k, .view .iJson, .view .str]), (3, .box [.k, .k, .k, .view .iJson, .view .str])], [.pb 1 0, .pb 2 0], [.ext, .box (aa_.p .v), .box (aa_.p .v)]⟩
def ah_.o2 : OD := ⟨[], [], [.ext]⟩
def ah_.d : FD Bool := ⟨99, 81, 1, [.ag (aa_.p .v), .ag (aa_.p .v)], [.b], fun (a0, _) => a0, fun r => (r, ()), [.ag [.v, .v, .v, .v, .v], .ag [.v, .v, .v, .v, .v]], [.v], [.k], [.tmp 4], [], [(6, ah_.p6), (14, ah_.p14)], [], [(0, ah_.o0), (2, ah_.o2)]⟩
def ah_.F (n : Nat) : Pat.Ts ah_.d.ps → Option Bool := fun (a0, a1, _) => ah_ n (aa_.of a0) (aa_.of a1)

def bl_.p6 : OD := ⟨[(1, .box [.k, .view .str, .k, .k, .k, .view .iJson, .view .str]), (3, .k)], [.pb 1 0, .i .i64], [.ext, .box (TOp.p .v)]⟩
def bl_.o0 : OD := ⟨[(1, .box [.k, .view .str, .k, .k, .k, .view .iJson, .view .str])], [.pb 1 0], [.ext, .box (TOp.p .v)]⟩
def bl_.d : FD Bool := ⟨118, 43, 1, [.ag (TOp.p .v)], [.b], fun (a0, _) => a0, fun r => (r, ()), [.ag [.v, .v, .v, .v, .v, .v, .v]], [.v], [.k], [.tmp 2], [], [(6, bl_.p6)], [], [(0, bl_.o0)]⟩
def bl_.F (n : Nat) : Pat.Ts bl_.d.ps → Option Bool := fun (a0, _) => bl_ n (TOp.of a0)

def ar_.p4 : OD := ⟨[(0, .view .str), (3, .own .d .u8), (4, .k)], [.sl .v .str, .rt 1, .i .i64], [.ext, .arr .d .u8 2]⟩
def ar_.p10 : OD := ⟨[(0, .view .str), (3, .own .d .u8), (4, .k), (5, .k)], [.sl .v .str, .rt 1, .i .i64, .i .i64], [.ext, .arr .d .u8 2]⟩
def ar_.o0 : OD := ⟨[(3, .own .d .u8)], [.rt 1], [.ext, .arr .d .u8 2]⟩
def ar_.o2 : OD := ⟨[(0, .view .str), (3, .own .d .u8), (4, .k)], [.sl .v .str, .rt 1, .i .i64], [.ext, .arr .d .u8 2]⟩
def ar_.d : FD Bs := ⟨119, 52, 1, [.sl .v .str], [.s], fun (a0, _) => a0, fun r => (r, ()), [.v], [.v], [.k], [.tmp 2], [], [(10, ar_.p10), (4, ar_.p4)], [], [(0, ar_.o0), (2, ar_.o2)]⟩
def ar_.F (n : Nat) : Pat.Ts ar_.d.ps → Option Bs := fun (a0, _) => ar_ n a0

def bf_.p5 : OD := ⟨[(1, .k), (3, .box [.k, .k, .k, .view .iJson, .view .str]), (5, .box [.k, .k, .k, .view .iJson, .view .str]), (6, .box [.k, .k, .k, .k, .k]), (7, .box [.k, .k, .k, .own .s .iJson, .own .d .str]), (8, .k), (9, .k)], [.s, .pb 1 0, .pb 2 0, .pb 3 0, .pb 4 0, .b, .i .i64], [.ext, .box (aa_.p .v), .box (aa_.p .v), .box [.i .i64, .i .i64, .s, .nils, .nils], .box [.i .i64, .i .i64, .s, .rt 5, .rt 6], .arr .s .iJson 2, .arr .d .str 2]⟩
def bf_.o0 : OD := ⟨[(1, .k), (5, .box [.k, .k, .k, .view .iJson, .view .str]), (6, .box [.k, .k, .k, .k, .k]), (7, .box [.k, .k, .k, .own .s .iJson, .own .d .str]), (8, .k)], [.s, .pb 1 0, .pb 2 0, .pb 3 0, .b], [.ext, .box (aa_.p .v), .box [.i .i64, .i .i64, .s, .nils, .nils], .box [.i .i64, .i .i64, .s, .rt 4, .rt 5], .arr .s .iJson 2, .arr .d .str 2]⟩
def bf_.d : FD aa_ := ⟨120, 83, 1, [.ag (aa_.p .v), .s, .ag (aa_.p .v)], [.ag [.i .i64, .i .i64, .s, .sl .s .iJson, .sl .d .str]], fun (a0, _) => (aa_.of a0), fun r => (aa_.to r, ()), [.ag [.v, .v, .v, .v, .v], .v, .ag [.v, .v, .v, .v, .v]], [.ag [.v, .v, .v, .o, .o]], [.ag [.k, .k, .k, .own .s .iJson, .own .d .str]], [.cell 6 25], [], [(5, bf_.p5)], [], [(0, bf_.o0)]⟩
def bf_.F (n : Nat) : Pat.Ts bf_.d.ps → Option aa_ := fun (a0, a1, a2, _) => bf_ n (aa_.of a0) a1 (aa_.of a2)

def b8_.d : FD aa_ := ⟨83, 34, 1, [.ag (TOp.p .v)], [.ag [.i .i64, .i .i64, .s, .sl .s .iJson, .sl .d .str]], fun (a0, _) => (aa_.of a0), fun r => (aa_.to r, ()), [.ag [.v, .v, .v, .v, .v, .v, .v]], [.ag [.v, .v, .v, .o, .o]], [.ag [.k, .k, .k, .own .s .iJson, .own .d .str]], [.cell 2 25], [], [], [], []⟩
def b8_.F (n : Nat) : Pat.Ts b8_.d.ps → Option aa_ := fun (a0, _) => b8_ n (TOp.of a0)

def bO_.d : FD Bool := ⟨82, 16, 1, [.ag (aa_.p .v), .ag (aa_.p .v)], [.b], fun (a0, _) => a0, fun r => (r, ()), [.ag [.v, .v, .v, .v, .v], .ag [.v, .v, .v, .v, .v]], [.v], [.k], [.tmp 4], [], [], [], []⟩
def bO_.F (n : Nat) : Pat.Ts bO_.d.ps → Option Bool := fun (a0, a1, _) => bO_ n (aa_.of a0) (aa_.of a1)

def aH_.p7 : OD := ⟨[(1, .box [.k, .k, .k, .view .iJson, .view .str]), (2, .box [.k, .k, .k, .k, .k, .k, .k]), (4, .box [.k, .k, .k, .k, .k, .k, .k]), (5, .box [.k, .k, .k, .own .d .iJson, .own .d .str]), (7, .box [.k, .k, .k, .own .d .iJson, .own .d .str]), (9, .own .d .str), (10, .k)], [.pb 1 0, .pb 2 0, .pb 3 0, .pb 4 0, .pb 5 0, .rt 6, .i .i64], [.ext, .box (aa_.p .v), .box [.i .i64, .nils, .i .i64, .i .i64, .s, .nils, .nils], .box [.i .i64, .nils, .i .i64, .i .i64, .s, .nils, .nils], .box [.i .i64, .i .i64, .s, .rt 7, .rt 8], .box [.i .i64, .i .i64, .s, .rt 9, .rt 10], .arr .d .str 2, .arr .d .iJson 2, .arr .d .str 2, .arr .d .iJson 2, .arr .d .str 2]⟩
def aH_.p15 : OD := ⟨[(1, .box [.k, .k, .k, .view .iJson, .view .str]), (2, .box [.k, .k, .k, .k, .k, .k, .k]), (4, .box [.k, .view .str, .k, .k, .k, .view .iJson, .view .str]), (12, .k)], [.pb 1 0, .pb 2 0, .pb 3 0, .b], [.ext, .box (aa_.p .v), .box [.i .i64, .nils, .i .i64, .i .i64, .s, .nils, .nils], .box (TOp.p .v)]⟩
def aH_.o0 : OD := ⟨[(1, .box [.k, .k, .k, .view .iJson, .view .str]), (2, .box [.k, .k, .k, .k, .k, .k, .k]), (4, .box [.k, .k, .k, .k, .k, .k, .k]), (7, .box [.k, .k, .k, .own .d .iJson, .own .d .str])], [.pb 1 0, .pb 2 0, .pb 3 0, .pb 4 0], [.ext, .box (aa_.p .v), .box [.i .i64, .nils, .i .i64, .i .i64, .s, .nils, .nils], .box [.i .i64, .nils, .i .i64, .i .i64, .s, .nils, .nils], .box [.i .i64, .i .i64, .s, .rt 5, .rt 6], .arr .d .iJson 2, .arr .d .str 2]⟩
def aH_.d : FD (TOp × Bool) := ⟨47, 78, 1, [.ag (aa_.p .v)], [.ag (TOp.p .v), .b], fun (a0, a1, _) => ((TOp.of a0), a1), fun (a0, a1) => (TOp.to a0, a1, ()), [.ag [.v, .v, .v, .v, .v]], [.ag [.v, .v, .v, .v, .v, .v, .v], .v], [.ag [.k, .view .str, .k, .k, .k, .view .iJson, .view .str], .k], [.cell 2 83, .tmp 3], [], [(7, aH_.p7), (15, aH_.p15)], [], [(0, aH_.o0)]⟩
def aH_.F (n : Nat) : Pat.Ts aH_.d.ps → Option (TOp × Bool) := fun (a0, _) => aH_ n (aa_.of a0)

def a5_.p4 : OD := ⟨[(0, .view .iOp), (2, .box [.k, .k, .k, .k, .k]), (4, .box [.k, .k, .k, .own .s .iJson, .k]), (5, .k)], [.sl .v .iOp, .pb 1 0, .pb 2 0, .i .i64], [.ext, .box [.i .i64, .i .i64, .s, .nils, .nils], .box [.i .i64, .i .i64, .s, .rt 3, .nils], .arr .s .iJson 2]⟩
def a5_.o0 : OD := ⟨[(0, .view .iOp), (2, .box [.k, .k, .k, .k, .k]), (4, .box [.k, .k, .k, .own .s .iJson, .k])], [.sl .v .iOp, .pb 1 0, .pb 2 0], [.ext, .box [.i .i64, .i .i64, .s, .nils, .nils], .box [.i .i64, .i .i64, .s, .rt 3, .nils], .arr .s .iJson 2]⟩
def a5_.d : FD (aa_ × Bool) := ⟨84, 38, 1, [.sl .v .iOp], [.ag [.i .i64, .i .i64, .s, .sl .s .iJson, .sl .d .str], .b], fun (a0, a1, _) => ((aa_.of a0), a1), fun (a0, a1) => (aa_.to a0, a1, ()), [.v], [.ag [.v, .v, .v, .o, .o], .v], [.ag [.k, .k, .k, .own .s .iJson, .own .d .str], .k], [.cell 2 25, .tmp 3], [], [(4, a5_.p4)], [], [(0, a5_.o0)]⟩
def a5_.F (n : Nat) : Pat.Ts a5_.d.ps → Option (aa_ × Bool) := fun (a0, _) => a5_ n a0

def b0_.d : FD Bool := ⟨60, 51, 1, [.ag (bb_.p .v)], [.b], fun (a0, _) => a0, fun r => (r, ()), [.ag [.v, .v, .v, .v, .v, .v, .v, .v, .v]], [.v], [.k], [.tmp 2], [], [], [], []⟩
def b0_.F (n : Nat) : Pat.Ts b0_.d.ps → Option Bool := fun (a0, _) => b0_ n (bb_.of a0)

def bB_.d : FD Bs := ⟨48, 43, 1, [.ag (bb_.p .v)], [.s], fun (a0, _) => a0, fun r => (r, ()), [.ag [.v, .v, .v, .v, .v, .v, .v, .v, .v]], [.v], [.k], [.tmp 2], [], [], [], []⟩
def bB_.F (n : Nat) : Pat.Ts bB_.d.ps → Option Bs := fun (a0, _) => bB_ n (bb_.of a0)

def ac_.p5 : OD := ⟨[(0, .k), (2, .box [.k, .k, .k, .k, .k, .k, .k, .k, .k]), (4, .box [.k, .k, .k, .k, .k, .k, .own .d .iJson, .own .d .str, .own .s .iOp]), (5, .own .d .str), (6, .k)], [.s, .pb 1 0, .pb 2 0, .rt 3, .i .i64], [.ext, .box [.i .i64, .i .i64, .i .i64, .i .i64, .i .i64, .s, .nils, .nils, .nils], .box [.i .i64, .i .i64, .i .i64, .i .i64, .i .i64, .s, .rt 4, .rt 5, .rt 6], .arr .d .str 2, .arr .d .iJson 2, .arr .d .str 2, .arr .s .iOp 2]⟩
def ac_.p20 : OD := ⟨[(0, .k), (2, .box [.k, .k, .k, .k, .k, .k, .k, .k, .k]), (4, .box [.k, .k, .k, .k, .k, .k, .own .d .iJson, .own .d .str, .own .s .iOp]), (5, .own .d .str), (6, .k), (8, .box [.k, .k, .k, .own .s .iJson, .own .d .str]), (10, .k)], [.s, .pb 1 0, .pb 2 0, .rt 3, .i .i64, .pb 4 0, .i .i64], [.ext, .box [.i .i64, .i .i64, .i .i64, .i .i64, .i .i64, .s, .nils, .nils, .nils], .box [.i .i64, .i .i64, .i .i64, .i .i64, .i .i64, .s, .rt 5, .rt 6, .rt 7], .arr .d .str 2, .box [.i .i64, .i .i64, .s, .rt 8, .rt 9], .arr .d .iJson 2, .arr .d .str 2, .arr .s .iOp 2, .arr .s .iJson 2, .arr .d .str 2]⟩
def ac_.o0 : OD := ⟨[(0, .k), (2, .box [.k, .k, .k, .k, .k, .k, .k, .k, .k]), (4, .box [.k, .k, .k, .k, .k, .k, .own .d .iJson, .own .d .str, .own .s .iOp])], [.s, .pb 1 0, .pb 2 0], [.ext, .box [.i .i64, .i .i64, .i .i64, .i .i64, .i .i64, .s, .nils, .nils, .nils], .box [.i .i64, .i .i64, .i .i64, .i .i64, .i .i64, .s, .rt 3, .rt 4, .rt 5], .arr .d .iJson 2, .arr .d .str 2, .arr .s .iOp 2]⟩
def ac_.o3 : OD := ⟨[(0, .k), (2, .box [.k, .k, .k, .k, .k, .k, .k, .k, .k]), (4, .box [.k, .k, .k, .k, .k, .k, .own .d .iJson, .own .d .str, .own .s .iOp]), (5, .own .d .str), (6, .k)], [.s, .pb 1 0, .pb 2 0, .rt 3, .i .i64], [.ext, .box [.i .i64, .i .i64, .i .i64, .i .i64, .i .i64, .s, .nils, .nils, .nils], .box [.i .i64, .i .i64, .i .i64, .i .i64, .i .i64, .s, .rt 4, .rt 5, .rt 6], .arr .d .str 2, .arr .d .iJson 2, .arr .d .str 2, .arr .s .iOp 2]⟩
def ac_.d : FD (bb_ × Bool) := ⟨9, 110, 1, [.s], [.ag [.i .i64, .i .i64, .i .i64, .i .i64, .i .i64, .s, .sl .d .iJson, .sl .d .str, .sl .s .iOp], .b], fun (a0, a1, _) => ((bb_.of a0), a1), fun (a0, a1) => (bb_.to a0, a1, ()), [.v], [.ag [.v, .v, .v, .v, .v, .v, .o, .o, .o], .v], [.ag [.k, .k, .k, .k, .k, .k, .own .d .iJson, .own .d .str, .own .s .iOp], .k], [.cell 2 28, .tmp 3], [], [(20, ac_.p20), (5, ac_.p5)], [], [(0, ac_.o0), (3, ac_.o3)]⟩
def ac_.F (n : Nat) : Pat.Ts ac_.d.ps → Option (bb_ × Bool) := fun (a0, _) => ac_ n a0

def aw_.d : FD Bool := ⟨142, 18, 1, [.s, .s], [.b], fun (a0, _) => a0, fun r => (r, ()), [.v, .v], [.v], [.k], [.tmp 4], [], [], [], []⟩
def aw_.F (n : Nat) : Pat.Ts aw_.d.ps → Option Bool := fun (a0, a1, _) => aw_ n a0 a1

def aB_.d : FD (Bs × Bool) := ⟨121, 15, 1, [.s, .s], (aC_.p .v), fun (a0, a1, _) => (a0, a1), fun (a0, a1) => (a0, a1, ()), [.v, .v], [.v, .v], [.k, .k], [.tmp 4, .tmp 5], [], [], [], []⟩
def aB_.F (n : Nat) : Pat.Ts aB_.d.ps → Option (Bs × Bool) := fun (a0, a1, _) => aB_ n a0 a1

def bi_.d : FD (Bs × Bool) := ⟨85, 11, 1, [.s, .s], (aC_.p .v), fun (a0, a1, _) => (a0, a1), fun (a0, a1) => (a0, a1, ()), [.v, .v], [.v, .v], [.k, .k], [.tmp 4, .tmp 5], [], [], [], []⟩
def bi_.F (n : Nat) : Pat.Ts bi_.d.ps → Option (Bs × Bool) := fun (a0, a1, _) => bi_ n a0 a1

def a2_.d : FD Int := ⟨111, 143, 1, [.s, .s], [.i .i64], fun (a0, _) => a0, fun r => (r, ()), [.v, .v], [], [], [.tmp 4], [], [], [], []⟩
def a2_.F (n : Nat) : Pat.Ts a2_.d.ps → Option Int := fun (a0, a1, _) => a2_ n a0 a1

def aT_.d : FD (Bs × Bs × Bool) := ⟨143, 23, 1, [.s, .s], [.s, .s, .b], fun (a0, a1, a2, _) => (a0, a1, a2), fun (a0, a1, a2) => (a0, a1, a2, ()), [.v, .v], [.v, .v, .v], [.k, .k, .k], [.tmp 4, .tmp 5, .tmp 6], [], [], [], []⟩
def aT_.F (n : Nat) : Pat.Ts aT_.d.ps → Option (Bs × Bs × Bool) := fun (a0, a1, _) => aT_ n a0 a1

def cg_.d : FD (Bs × Bs × Bool) := ⟨122, 13, 1, [.s, .s], [.s, .s, .b], fun (a0, a1, a2, _) => (a0, a1, a2), fun (a0, a1, a2) => (a0, a1, a2, ()), [.v, .v], [.v, .v, .v], [.k, .k, .k], [.tmp 4, .tmp 5, .tmp 6], [], [], [], []⟩
def cg_.F (n : Nat) : Pat.Ts cg_.d.ps → Option (Bs × Bs × Bool) := fun (a0, a1, _) => cg_ n a0 a1

def az_.d : FD Bs := ⟨126, 13, 1, [.s, .s], [.s], fun (a0, _) => a0, fun r => (r, ()), [.v, .v], [.v], [.k], [.tmp 4], [], [], [], []⟩
def az_.F (n : Nat) : Pat.Ts az_.d.ps → Option Bs := fun (a0, a1, _) => az_ n a0 a1

def bg_.d : FD Bs := ⟨89, 8, 1, [.s, .s], [.s], fun (a0, _) => a0, fun r => (r, ()), [.v, .v], [.v], [.k], [.tmp 4], [], [], [], []⟩
def bg_.F (n : Nat) : Pat.Ts bg_.d.ps → Option Bs := fun (a0, a1, _) => bg_ n a0 a1

def b2_.d : FD (Bs × Bs) := ⟨86, 19, 1, [.s, .s], [.s, .s], fun (a0, a1, _) => (a0, a1), fun (a0, a1) => (a0, a1, ()), [.v, .v], [.v, .v], [.k, .k], [.tmp 4, .tmp 5], [], [], [], []⟩
def b2_.F (n : Nat) : Pat.Ts b2_.d.ps → Option (Bs × Bs) := fun (a0, a1, _) => b2_ n a0 a1

def bH_.d : FD (Int × Bool) := ⟨87, 18, 1, [.s], [.i .i64, .er], fun (a0, a1, _) => (a0, a1), fun (a0, a1) => (a0, a1, ()), [.v], [], [], [.tmp 2, .tmp 3], [], [], [], []⟩
def bH_.F (n : Nat) : Pat.Ts bH_.d.ps → Option (Int × Bool) := fun (a0, _) => bH_ n a0

def a0_.d : FD (Bool × aC_) := ⟨149, 28, 2, [.bx (aC_.p .v), .s], [.b, .bx (aC_.p .v)], fun (a0, a1, _) => (a0, (aC_.of a1)), fun (a0, a1) => (a0, aC_.to a1, ()), [.ptr [.v, .v], .v], [.v, .ptr [.v, .v]], [.k, .box [.k, .k]], [.tmp 4], [.pb 1 0], [], [], []⟩
def a0_.F (n : Nat) : Pat.Ts a0_.d.ps → Option (Bool × aC_) := fun (a0, a1, _) => a0_ n (aC_.of a0) a1

def bk_.d : FD Bool := ⟨150, 8, 1, [.s, .s], [.b], fun (a0, _) => a0, fun r => (r, ()), [.v, .v], [.v], [.k], [.tmp 4], [], [], [], []⟩
def bk_.F (n : Nat) : Pat.Ts bk_.d.ps → Option Bool := fun (a0, a1, _) => bk_ n a0 a1

def bd_.d : FD aC_ := ⟨179, 11, 2, [.bx (aC_.p .v), .s], [.bx (aC_.p .v)], fun (a0, _) => (aC_.of a0), fun r => (aC_.to r, ()), [.ptr [.v, .v], .v], [.ptr [.v, .v]], [.box [.k, .k]], [], [.pb 1 0], [], [], []⟩
def bd_.F (n : Nat) : Pat.Ts bd_.d.ps → Option aC_ := fun (a0, a1, _) => bd_ n (aC_.of a0) a1

def ai_.p4 : OD := ⟨[(0, .box [.k, .k]), (3, .own .d .u8)], [.pb 1 0, .rt 2], [.ext, .box (aC_.p .v), .arr .d .u8 2]⟩
def ai_.o0 : OD := ⟨[], [], [.ext, .box (aC_.p .v)]⟩
def ai_.d : FD (Bs × aC_) := ⟨151, 42, 2, [.bx (aC_.p .v)], [.s, .bx (aC_.p .v)], fun (a0, a1, _) => (a0, (aC_.of a1)), fun (a0, a1) => (a0, aC_.to a1, ()), [.ptr [.v, .v]], [.v, .ptr [.v, .v]], [.k, .box [.k, .k]], [.tmp 2], [.pb 1 0], [(4, ai_.p4)], [], [(0, ai_.o0)]⟩
def ai_.F (n : Nat) : Pat.Ts ai_.d.ps → Option (Bs × aC_) := fun (a0, _) => ai_ n (aC_.of a0)

def af_.p7 : OD := ⟨[(0, .box [.k, .k]), (1, .k), (2, .k), (3, .k), (8, .box [.k, .k, .k, .k, .k]), (9, .box [.k, .k, .k, .own .d .iJson, .own .d .str]), (10, .k)], [.pb 1 0, .i .i64, .s, .i .i64, .pb 2 0, .pb 3 0, .b], [.ext, .box (aC_.p .v), .box [.i .i64, .i .i64, .s, .nils, .nils], .box [.i .i64, .i .i64, .s, .rt 4, .rt 5], .arr .d .iJson 2, .arr .d .str 2]⟩
def af_.o0 : OD := ⟨[(0, .box [.k, .k]), (2, .k), (8, .box [.k, .k, .k, .k, .k]), (9, .box [.k, .k, .k, .own .d .iJson, .own .d .str])], [.pb 1 0, .s, .pb 2 0, .pb 3 0], [.ext, .box (aC_.p .v), .box [.i .i64, .i .i64, .s, .nils, .nils], .box [.i .i64, .i .i64, .s, .rt 4, .rt 5], .arr .d .iJson 2, .arr .d .str 2]⟩
def af_.d : FD (aa_ × aC_) := ⟨152, 55, 2, [.bx (aC_.p .v), .i .i64, .s, .i .i64], [.ag (aa_.p .d), .bx (aC_.p .v)], fun (a0, a1, _) => ((aa_.of a0), (aC_.of a1)), fun (a0, a1) => (aa_.to a0, aC_.to a1, ()), [.ptr [.v, .v], .v, .v, .v], [.ag [.v, .v, .v, .o, .o], .ptr [.v, .v]], [.ag [.k, .k, .k, .own .d .iJson, .own .d .str], .box [.k, .k]], [.cell 8 25], [.pb 1 0], [(7, af_.p7)], [], [(0, af_.o0)]⟩
def af_.F (n : Nat) : Pat.Ts af_.d.ps → Option (aa_ × aC_) := fun (a0, a1, a2, a3, _) => af_ n (aC_.of a0) a1 a2 a3

def aO_.d : FD Bool := ⟨105, 15, 1, [.i .i64, .i .i64, .i .i64], [.b], fun (a0, _) => a0, fun r => (r, ()), [.v, .v, .v], [.v], [.k], [.tmp 6], [], [], [], []⟩
def aO_.F (n : Nat) : Pat.Ts aO_.d.ps → Option Bool := fun (a0, a1, a2, _) => aO_ n a0 a1 a2

def ag_.p3 : OD := ⟨[(0, .box [.k, .k]), (2, .box [.k, .k, .k, .k, .k]), (3, .k)], [.pb 1 0, .pb 2 0, .i .i64], [.ext, .box (aC_.p .v), .box [.i .i64, .i .i64, .s, .nils, .nils]]⟩
def ag_.o0 : OD := ⟨[(0, .box [.k, .k]), (2, .box [.k, .k, .k, .k, .k]), (3, .k)], [.pb 1 0, .pb 2 0, .i .i64], [.ext, .box (aC_.p .v), .box [.i .i64, .i .i64, .s, .nils, .nils]]⟩
def ag_.d : FD (aa_ × aC_) := ⟨153, 63, 2, [.bx (aC_.p .v)], [.ag (aa_.p .d), .bx (aC_.p .v)], fun (a0, a1, _) => ((aa_.of a0), (aC_.of a1)), fun (a0, a1) => (aa_.to a0, aC_.to a1, ()), [.ptr [.v, .v]], [.ag [.v, .v, .v, .o, .o], .ptr [.v, .v]], [.ag [.k, .k, .k, .own .d .iJson, .own .d .str], .box [.k, .k]], [.cell 2 25], [.pb 1 0], [(3, ag_.p3)], [], [(0, ag_.o0)]⟩
def ag_.F (n : Nat) : Pat.Ts ag_.d.ps → Option (aa_ × aC_) := fun (a0, _) => ag_ n (aC_.of a0)

def aF_.d : FD (aa_ × aC_) := ⟨125, 54, 2, [.bx (aC_.p .v), .i .i64], [.ag (aa_.p .d), .bx (aC_.p .v)], fun (a0, a1, _) => ((aa_.of a0), (aC_.of a1)), fun (a0, a1) => (aa_.to a0, aC_.to a1, ()), [.ptr [.v, .v], .v], [.ag [.v, .v, .v, .o, .o], .ptr [.v, .v]], [.ag [.k, .k, .k, .own .d .iJson, .own .d .str], .box [.k, .k]], [.cell 4 25], [.pb 1 0], [], [], []⟩
def aF_.F (n : Nat) : Pat.Ts aF_.d.ps → Option (aa_ × aC_) := fun (a0, a1, _) => aF_ n (aC_.of a0) a1

def a9_.d : FD Bool := ⟨189, 5, 1, [.i .i64], [.b], fun (a0, _) => a0, fun r => (r, ()), [.v], [.v], [.k], [.tmp 2], [], [], [], []⟩
def a9_.F (n : Nat) : Pat.Ts a9_.d.ps → Option Bool := fun (a0, _) => a9_ n a0

def as_.p3 : OD := ⟨[(0, .k), (5, .k), (6, .k)], [.s, .i .i64, .i .i64], [.ext]⟩
def as_.o0 : OD := ⟨[(0, .k)], [.s], [.ext]⟩
def as_.d : FD Bool := ⟨169, 19, 1, [.s], [.b], fun (a0, _) => a0, fun r => (r, ()), [.v], [.v], [.k], [.tmp 2], [], [(3, as_.p3)], [], [(0, as_.o0)]⟩
def as_.F (n : Nat) : Pat.Ts as_.d.ps → Option Bool := fun (a0, _) => as_ n a0

def am_.p3 : OD := ⟨[(0, .view .str), (5, .view .str), (6, .k), (7, .k)], [.sl .v .str, .sl .v .str, .i .i64, .i .i64], [.ext]⟩
def am_.o0 : OD := ⟨[], [], [.ext]⟩
def am_.d : FD Bool := ⟨190, 29, 1, [.sl .v .str], [.b], fun (a0, _) => a0, fun r => (r, ()), [.v], [.v], [.k], [.tmp 2], [], [(3, am_.p3)], [], [(0, am_.o0)]⟩
def am_.F (n : Nat) : Pat.Ts am_.d.ps → Option Bool := fun (a0, _) => am_ n a0

def cn_.d : FD Bool := ⟨168, 90, 1, [.ag (aa_.p .v)], [.b], fun (a0, _) => a0, fun r => (r, ()), [.ag [.v, .v, .v, .v, .v]], [.v], [.k], [.tmp 2], [], [], [], []⟩
def cn_.F (n : Nat) : Pat.Ts cn_.d.ps → Option Bool := fun (a0, _) => cn_ n (aa_.of a0)

def aW_.p7 : OD := ⟨[(1, .k), (5, .k), (16, .view .iJson), (17, .k), (18, .k)], [.i .i64, .i .i64, .sl .v .iJson, .i .i64, .i .i64], [.ext]⟩
def aW_.o0 : OD := ⟨[(5, .k)], [.i .i64], [.ext]⟩
def aW_.d : FD Int := ⟨133, 32, 1, [.ag (aa_.p .v), .i .i64], [.i .i64], fun (a0, _) => a0, fun r => (r, ()), [.ag [.v, .v, .v, .v, .v], .v], [.v], [.k], [.tmp 4], [], [(7, aW_.p7)], [], [(0, aW_.o0)]⟩
def aW_.F (n : Nat) : Pat.Ts aW_.d.ps → Option Int := fun (a0, a1, _) => aW_ n (aa_.of a0) a1

def bN_.d : FD Bool := ⟨109, 6, 1, [.ag (aa_.p .v)], [.b], fun (a0, _) => a0, fun r => (r, ()), [.ag [.v, .v, .v, .v, .v]], [.v], [.k], [.tmp 2], [], [], [], []⟩
def bN_.F (n : Nat) : Pat.Ts bN_.d.ps → Option Bool := fun (a0, _) => bN_ n (aa_.of a0)

def a8_.p4 : OD := ⟨[(0, .k), (3, .own .d .u8), (7, .k), (8, .k)], [.s, .rt 1, .i .i64, .i .i64], [.ext, .arr .d .u8 2]⟩
def a8_.o0 : OD := ⟨[(3, .own .d .u8)], [.rt 1], [.ext, .arr .d .u8 2]⟩
def a8_.d : FD Bs := ⟨160, 35, 1, [.s], [.s], fun (a0, _) => a0, fun r => (r, ()), [.v], [.v], [.k], [.tmp 2], [], [(4, a8_.p4)], [], [(0, a8_.o0)]⟩
def a8_.F (n : Nat) : Pat.Ts a8_.d.ps → Option Bs := fun (a0, _) => a8_ n a0

def strconv_Itoa.d : FD Bs := ⟨128, 5, 1, [.i .i64], [.s], fun (a0, _) => a0, fun r => (r, ()), [.v], [], [], [.tmp 2], [], [], [], []⟩
def strconv_Itoa.F (n : Nat) : Pat.Ts strconv_Itoa.d.ps → Option Bs := fun (a0, _) => strconv_Itoa n a0

def strings_Join.d : FD Bs := ⟨161, 75, 1, [.sl .v .str, .s], [.s], fun (a0, _) => a0, fun r => (r, ()), [.v, .v], [], [], [.tmp 4], [], [], [], []⟩
def strings_Join.F (n : Nat) : Pat.Ts strings_Join.d.ps → Option Bs := fun (a0, a1, _) => strings_Join n a0 a1

def aN_.p4 : OD := ⟨[(1, .box [.k, .k, .k, .view .iJson, .view .str]), (3, .own .d .str), (9, .view .iJson), (10, .k), (11, .k)], [.pb 1 0, .rt 2, .sl .v .iJson, .i .i64, .i .i64], [.ext, .box (aa_.p .v), .arr .d .str 2]⟩
def aN_.o0 : OD := ⟨[(1, .box [.k, .k, .k, .view .iJson, .view .str]), (3, .own .d .str)], [.pb 1 0, .rt 2], [.ext, .box (aa_.p .v), .arr .d .str 2]⟩
def aN_.d : FD Bs := ⟨129, 66, 1, [.ag (aa_.p .v)], [.s], fun (a0, _) => a0, fun r => (r, ()), [.ag [.v, .v, .v, .v, .v]], [.v], [.k], [.tmp 2], [], [(4, aN_.p4)], [], [(0, aN_.o0)]⟩
def aN_.F (n : Nat) : Pat.Ts aN_.d.ps → Option Bs := fun (a0, _) => aN_ n (aa_.of a0)

def bX_.d : FD Bs := ⟨92, 13, 1, [.ag (aa_.p .v)], [.s], fun (a0, _) => a0, fun r => (r, ()), [.ag [.v, .v, .v, .v, .v]], [.v], [.k], [.tmp 2], [], [], [], []⟩
def bX_.F (n : Nat) : Pat.Ts bX_.d.ps → Option Bs := fun (a0, _) => bX_ n (aa_.of a0)

def bZ_.d : FD (aa_ × Bool) := ⟨88, 27, 1, [.s], [.ag (aa_.p .d), .b], fun (a0, a1, _) => ((aa_.of a0), a1), fun (a0, a1) => (aa_.to a0, a1, ()), [.v], [.ag [.v, .v, .v, .o, .o], .v], [.ag [.k, .k, .k, .own .d .iJson, .own .d .str], .k], [.cell 2 25, .tmp 3], [], [], [], []⟩
def bZ_.F (n : Nat) : Pat.Ts bZ_.d.ps → Option (aa_ × Bool) := fun (a0, _) => bZ_ n a0

def aj_.p3 : OD := ⟨[(0, .view .str), (1, .k), (7, .k), (8, .k)], [.sl .v .str, .s, .i .i64, .i .i64], [.ext]⟩
def aj_.o0 : OD := ⟨[], [], [.ext]⟩
def aj_.d : FD Int := ⟨156, 19, 1, [.sl .v .str, .s], [.i .i64], fun (a0, _) => a0, fun r => (r, ()), [.v, .v], [.v], [.k], [.tmp 4], [], [(3, aj_.p3)], [], [(0, aj_.o0)]⟩
def aj_.F (n : Nat) : Pat.Ts aj_.d.ps → Option Int := fun (a0, a1, _) => aj_ n a0 a1

def bD_.d : FD (List Bs) := ⟨108, 6, 1, [.sl .v .str], [.sl .d .str], fun (a0, _) => a0, fun r => (r, ()), [.v], [.o], [.own .d .str], [.tmp 2], [], [], [], []⟩
def bD_.F (n : Nat) : Pat.Ts bD_.d.ps → Option (List Bs) := fun (a0, _) => bD_ n a0

def aJ_.p4 : OD := ⟨[(2, .box [.k, .k, .k, .k, .k]), (3, .box [.k, .k, .k, .own .d .iJson, .own .d .str]), (17, .view .iJson), (18, .k), (19, .k)], [.pb 1 0, .pb 2 0, .sl .v .iJson, .i .i64, .i .i64], [.ext, .box [.i .i64, .i .i64, .s, .nils, .nils], .box [.i .i64, .i .i64, .s, .rt 3, .rt 4], .arr .d .iJson 2, .arr .d .str 2]⟩
def aJ_.o0 : OD := ⟨[(2, .box [.k, .k, .k, .k, .k]), (3, .box [.k, .k, .k, .own .d .iJson, .own .d .str])], [.pb 1 0, .pb 2 0], [.ext, .box [.i .i64, .i .i64, .s, .nils, .nils], .box [.i .i64, .i .i64, .s, .rt 3, .rt 4], .arr .d .iJson 2, .arr .d .str 2]⟩
def aJ_.d : FD aa_ := ⟨67, 32, 1, [.ag (aa_.p .v)], [.ag (aa_.p .d)], fun (a0, _) => (aa_.of a0), fun r => (aa_.to r, ()), [.ag [.v, .v, .v, .v, .v]], [.ag [.v, .v, .v, .o, .o]], [.ag [.k, .k, .k, .own .d .iJson, .own .d .str]], [.cell 2 25], [], [(4, aJ_.p4)], [], [(0, aJ_.o0)]⟩
def aJ_.F (n : Nat) : Pat.Ts aJ_.d.ps → Option aa_ := fun (a0, _) => aJ_ n (aa_.of a0)

def ck_.d : FD (aa_ × Bool) := ⟨154, 25, 1, [.ag (aa_.p .v), .s], [.ag (aa_.p .d), .b], fun (a0, a1, _) => ((aa_.of a0), a1), fun (a0, a1) => (aa_.to a0, a1, ()), [.ag [.v, .v, .v, .v, .v], .v], [.ag [.v, .v, .v, .o, .o], .v], [.ag [.k, .k, .k, .own .d .iJson, .own .d .str], .k], [.cell 4 25, .tmp 5], [], [], [], []⟩
def ck_.F (n : Nat) : Pat.Ts ck_.d.ps → Option (aa_ × Bool) := fun (a0, a1, _) => ck_ n (aa_.of a0) a1

def strings_Split.d : FD (List Bs) := ⟨180, 8, 1, [.s, .s], [.sl .d .str], fun (a0, _) => a0, fun r => (r, ()), [.v, .v], [], [], [.tmp 4], [], [], [], []⟩
def strings_Split.F (n : Nat) : Pat.Ts strings_Split.d.ps → Option (List Bs) := fun (a0, a1, _) => strings_Split n a0 a1

def strings_ReplaceAll.d : FD Bs := ⟨181, 11, 1, [.s, .s, .s], [.s], fun (a0, _) => a0, fun r => (r, ()), [.v, .v, .v], [], [], [.tmp 6], [], [], [], []⟩
def strings_ReplaceAll.F (n : Nat) : Pat.Ts strings_ReplaceAll.d.ps → Option Bs := fun (a0, a1, a2, _) => strings_ReplaceAll n a0 a1 a2

def aV_.p4 : OD := ⟨[(3, .k), (6, .view .str), (7, .k), (8, .k)], [.s, .sl .v .str, .i .i64, .i .i64], [.ext]⟩
def aV_.o0 : OD := ⟨[(3, .k)], [.s], [.ext]⟩
def aV_.d : FD Bs := ⟨162, 20, 1, [.sl .v .str], [.s], fun (a0, _) => a0, fun r => (r, ()), [.v], [.v], [.k], [.tmp 2], [], [(4, aV_.p4)], [], [(0, aV_.o0)]⟩
def aV_.F (n : Nat) : Pat.Ts aV_.d.ps → Option Bs := fun (a0, _) => aV_ n a0

def a1_.p7 : OD := ⟨[(0, .k), (4, .own .d .str), (13, .view .str), (14, .k), (15, .k)], [.s, .rt 1, .sl .v .str, .i .i64, .i .i64], [.ext, .arr .d .str 2]⟩
def a1_.o0 : OD := ⟨[(0, .k), (4, .own .d .str)], [.s, .rt 1], [.ext, .arr .d .str 2]⟩
def a1_.d : FD ((List Bs) × Bool) := ⟨155, 36, 1, [.s], [.sl .d .str, .b], fun (a0, a1, _) => (a0, a1), fun (a0, a1) => (a0, a1, ()), [.v], [.o, .v], [.own .d .str, .k], [.tmp 2, .tmp 3], [], [(7, a1_.p7)], [], [(0, a1_.o0)]⟩
def a1_.F (n : Nat) : Pat.Ts a1_.d.ps → Option ((List Bs) × Bool) := fun (a0, _) => a1_ n a0

def bK_.d : FD (List Bs) := ⟨157, 2, 1, [], [.sl .d .str], fun (a0, _) => a0, fun r => (r, ()), [], [.o], [.own .d .str], [.tmp 0], [], [], [], []⟩
def bK_.F (n : Nat) : Pat.Ts bK_.d.ps → Option (List Bs) := fun _ => bK_ n ()

def b4_.d : FD Bool := ⟨106, 28, 1, [.ag (aa_.p .v)], [.b], fun (a0, _) => a0, fun r => (r, ()), [.ag [.v, .v, .v, .v, .v]], [.v], [.k], [.tmp 2], [], [], [], []⟩
def b4_.F (n : Nat) : Pat.Ts b4_.d.ps → Option Bool := fun (a0, _) => b4_ n (aa_.of a0)

def bm_.p3 : OD := ⟨[(1, .box [.k, .view .str, .k, .k, .k, .view .iJson, .view .str]), (6, .view .str), (7, .k), (8, .k)], [.pb 1 0, .sl .v .str, .i .i64, .i .i64], [.ext, .box (TOp.p .v)]⟩
def bm_.o0 : OD := ⟨[(1, .box [.k, .view .str, .k, .k, .k, .view .iJson, .view .str])], [.pb 1 0], [.ext, .box (TOp.p .v)]⟩
def bm_.d : FD Bool := ⟨134, 40, 1, [.ag (TOp.p .v)], [.b], fun (a0, _) => a0, fun r => (r, ()), [.ag [.v, .v, .v, .v, .v, .v, .v]], [.v], [.k], [.tmp 2], [], [(3, bm_.p3)], [], [(0, bm_.o0)]⟩
def bm_.F (n : Nat) : Pat.Ts bm_.d.ps → Option Bool := fun (a0, _) => bm_ n (TOp.of a0)

def b9_.d : FD aa_ := ⟨163, 8, 3, [.ag (aa_.p .d)], [.ag (aa_.p .d)], fun (a0, _) => (aa_.of a0), fun r => (aa_.to r, ()), [.ag [.v, .v, .v, .o, .o]], [.ag [.v, .v, .v, .o, .o]], [.ag [.k, .k, .k, .own .d .iJson, .own .d .str]], [.cell 2 25], [], [], [], []⟩
def b9_.F (n : Nat) : Pat.Ts b9_.d.ps → Option aa_ := fun (a0, _) => b9_ n (aa_.of a0)

def cb_.d : FD aa_ := ⟨130, 41, 1, [.ag (TOp.p .v)], [.ag (aa_.p .d)], fun (a0, _) => (aa_.of a0), fun r => (aa_.to r, ()), [.ag [.v, .v, .v, .v, .v, .v, .v]], [.ag [.v, .v, .v, .o, .o]], [.ag [.k, .k, .k, .own .d .iJson, .own .d .str]], [.cell 2 25], [], [], [], []⟩
def cb_.F (n : Nat) : Pat.Ts cb_.d.ps → Option aa_ := fun (a0, _) => cb_ n (TOp.of a0)

def ak_.p6 : OD := ⟨[(0, .view .str), (1, .view .str), (12, .k), (13, .k)], [.sl .v .str, .sl .v .str, .i .i64, .i .i64], [.ext]⟩
def ak_.o0 : OD := ⟨[], [], [.ext]⟩
def ak_.d : FD Bool := ⟨201, 26, 1, [.sl .v .str, .sl .v .str], [.b], fun (a0, _) => a0, fun r => (r, ()), [.v, .v], [.v], [.k], [.tmp 4], [], [(6, ak_.p6)], [], [(0, ak_.o0)]⟩
def ak_.F (n : Nat) : Pat.Ts ak_.d.ps → Option Bool := fun (a0, a1, _) => ak_ n a0 a1

def ab_.p6 : OD := ⟨[(1, .view .iJson), (2, .k), (15, .view .iJson), (16, .k), (17, .k)], [.sl .v .iJson, .clo 182 [], .sl .v .iJson, .i .i64, .i .i64], [.ext]⟩
def ab_.o0 : OD := ⟨[], [], [.ext]⟩
def ab_.d : FD Bool := ⟨202, 32, 1, [.sl .v .iJson, .sl .v .iJson, .clo 182 []], [.b], fun (a0, _) => a0, fun r => (r, ()), [.v, .v, .v], [.v], [.k], [.tmp 6], [], [(6, ab_.p6)], [], [(0, ab_.o0)]⟩
def ab_.F (n : Nat) : Pat.Ts ab_.d.ps → Option Bool := fun (a0, a1, _, _) => ab_ n a0 a1

def cd_.d : FD Bool := ⟨182, 38, 1, [.ag (aa_.p .v), .ag (aa_.p .v)], [.b], fun (a0, _) => a0, fun r => (r, ()), [.ag [.v, .v, .v, .v, .v], .ag [.v, .v, .v, .v, .v]], [.v], [.k], [.tmp 4], [], [], [], []⟩
def cd_.F (n : Nat) : Pat.Ts cd_.d.ps → Option Bool := fun (a0, a1, _) => cd_ n (aa_.of a0) (aa_.of a1)

def bR_.d : FD Bool := ⟨158, 16, 1, [.ag (aa_.p .v), .ag (aa_.p .v)], [.b], fun (a0, _) => a0, fun r => (r, ()), [.ag [.v, .v, .v, .v, .v], .ag [.v, .v, .v, .v, .v]], [.v], [.k], [.tmp 4], [], [], [], []⟩
def bR_.F (n : Nat) : Pat.Ts bR_.d.ps → Option Bool := fun (a0, a1, _) => bR_ n (aa_.of a0) (aa_.of a1)

def b5_.d : FD (TOp × Bool) := ⟨127, 66, 1, [.ag (aa_.p .v)], [.ag (TOp.p .d), .b], fun (a0, a1, _) => ((TOp.of a0), a1), fun (a0, a1) => (TOp.to a0, a1, ()), [.ag [.v, .v, .v, .v, .v]], [.ag [.v, .o, .v, .v, .v, .o, .o], .v], [.ag [.k, .own .d .str, .k, .k, .k, .own .d .iJson, .own .d .str], .k], [.cell 2 83, .tmp 3], [], [], [], []⟩
def b5_.F (n : Nat) : Pat.Ts b5_.d.ps → Option (TOp × Bool) := fun (a0, _) => b5_ n (aa_.of a0)

def bc_.p4 : OD := ⟨[(1, .box [.k, .k, .k, .view .iJson, .view .str]), (4, .own .d .iOp), (11, .view .iJson), (12, .k), (13, .k)], [.pb 1 0, .rt 2, .sl .v .iJson, .i .i64, .i .i64], [.ext, .box (aa_.p .v), .arr .d .iOp 2]⟩
def bc_.o0 : OD := ⟨[(1, .box [.k, .k, .k, .view .iJson, .view .str]), (4, .own .d .iOp)], [.pb 1 0, .rt 2], [.ext, .box (aa_.p .v), .arr .d .iOp 2]⟩
def bc_.d : FD ((List TOp) × Bool) := ⟨90, 33, 1, [.ag (aa_.p .v)], [.sl .d .iOp, .b], fun (a0, a1, _) => (a0, a1), fun (a0, a1) => (a0, a1, ()), [.ag [.v, .v, .v, .v, .v]], [.o, .v], [.own .d .iOp, .k], [.tmp 2, .tmp 3], [], [(4, bc_.p4)], [], [(0, bc_.o0)]⟩
def bc_.F (n : Nat) : Pat.Ts bc_.d.ps → Option ((List TOp) × Bool) := fun (a0, _) => bc_ n (aa_.of a0)

def bL_.d : FD bb_ := ⟨49, 96, 1, [.s], [.ag (bb_.p .d)], fun (a0, _) => (bb_.of a0), fun r => (bb_.to r, ()), [.v], [.ag [.v, .v, .v, .v, .v, .v, .o, .o, .o]], [.ag [.k, .k, .k, .k, .k, .k, .own .d .iJson, .own .d .str, .own .d .iOp]], [.cell 2 28], [], [], [], []⟩
def bL_.F (n : Nat) : Pat.Ts bL_.d.ps → Option bb_ := fun (a0, _) => bL_ n a0

def bz_.d : FD Bool := ⟨104, 5, 1, [.i .i64], [.b], fun (a0, _) => a0, fun r => (r, ()), [.v], [.v], [.k], [.tmp 2], [], [], [], []⟩
def bz_.F (n : Nat) : Pat.Ts bz_.d.ps → Option Bool := fun (a0, _) => bz_ n a0

def aR_.p4 : OD := ⟨[(2, .box [.k, .k, .k, .k, .k]), (4, .box [.k, .k, .k, .own .d .iJson, .k]), (9, .view .iOp), (10, .k), (11, .k)], [.pb 1 0, .pb 2 0, .sl .v .iOp, .i .i64, .i .i64], [.ext, .box [.i .i64, .i .i64, .s, .nils, .nils], .box [.i .i64, .i .i64, .s, .rt 3, .nils], .arr .d .iJson 2]⟩
def aR_.o0 : OD := ⟨[(2, .box [.k, .k, .k, .k, .k]), (4, .box [.k, .k, .k, .own .d .iJson, .k])], [.pb 1 0, .pb 2 0], [.ext, .box [.i .i64, .i .i64, .s, .nils, .nils], .box [.i .i64, .i .i64, .s, .rt 3, .nils], .arr .d .iJson 2]⟩
def aR_.d : FD (aa_ × Bool) := ⟨93, 29, 1, [.sl .v .iOp], [.ag (aa_.p .d), .b], fun (a0, a1, _) => ((aa_.of a0), a1), fun (a0, a1) => (aa_.to a0, a1, ()), [.v], [.ag [.v, .v, .v, .o, .o], .v], [.ag [.k, .k, .k, .own .d .iJson, .own .d .str], .k], [.cell 2 25, .tmp 3], [], [(4, aR_.p4)], [], [(0, aR_.o0)]⟩
def aR_.F (n : Nat) : Pat.Ts aR_.d.ps → Option (aa_ × Bool) := fun (a0, _) => aR_ n a0

def bE_.d : FD Int := ⟨107, 21, 1, [.sl .v .iOp], [.i .i64], fun (a0, _) => a0, fun r => (r, ()), [.v], [.v], [.k], [.tmp 2], [], [], [], []⟩
def bE_.F (n : Nat) : Pat.Ts bE_.d.ps → Option Int := fun (a0, _) => bE_ n a0

def b1_.d : FD Bool := ⟨66, 57, 1, [.ag (bb_.p .v)], [.b], fun (a0, _) => a0, fun r => (r, ()), [.ag [.v, .v, .v, .v, .v, .v, .v, .v, .v]], [.v], [.k], [.tmp 2], [], [], [], []⟩
def b1_.F (n : Nat) : Pat.Ts b1_.d.ps → Option Bool := fun (a0, _) => b1_ n (bb_.of a0)

def ca_.d : FD Bs := ⟨91, 5, 1, [.i .i64], [.s], fun (a0, _) => a0, fun r => (r, ()), [.v], [.v], [.k], [.tmp 2], [], [], [], []⟩
def ca_.F (n : Nat) : Pat.Ts ca_.d.ps → Option Bs := fun (a0, _) => ca_ n a0

def bF_.d : FD Bs := ⟨50, 43, 1, [.ag (bb_.p .v)], [.s], fun (a0, _) => a0, fun r => (r, ()), [.ag [.v, .v, .v, .v, .v, .v, .v, .v, .v]], [.v], [.k], [.tmp 2], [], [], [], []⟩
def bF_.F (n : Nat) : Pat.Ts bF_.d.ps → Option Bs := fun (a0, _) => bF_ n (bb_.of a0)

def bq_.d : FD (bb_ × Bool) := ⟨10, 19, 1, [.s], [.ag (bb_.p .d), .b], fun (a0, a1, _) => ((bb_.of a0), a1), fun (a0, a1) => (bb_.to a0, a1, ()), [.v], [.ag [.v, .v, .v, .v, .v, .v, .o, .o, .o], .v], [.ag [.k, .k, .k, .k, .k, .k, .own .d .iJson, .own .d .str, .own .d .iOp], .k], [.cell 2 28, .tmp 3], [], [], [], []⟩
def bq_.F (n : Nat) : Pat.Ts bq_.d.ps → Option (bb_ × Bool) := fun (a0, _) => bq_ n a0

def aZ_.p6 : OD := ⟨[(0, .view .iJson), (1, .view .iJson), (5, .k)], [.sl .v .iJson, .sl .v .iJson, .i .i64], [.ext]⟩
def aZ_.o0 : OD := ⟨[], [], [.ext]⟩
def aZ_.d : FD Bool := ⟨94, 27, 1, [.sl .v .iJson, .sl .v .iJson], [.b], fun (a0, _) => a0, fun r => (r, ()), [.v, .v], [.v], [.k], [.tmp 4], [], [(6, aZ_.p6)], [], [(0, aZ_.o0)]⟩
def aZ_.F (n : Nat) : Pat.Ts aZ_.d.ps → Option Bool := fun (a0, a1, _) => aZ_ n a0 a1

def aG_.p6 : OD := ⟨[(0, .view .str), (1, .view .str), (5, .k)], [.sl .v .str, .sl .v .str, .i .i64], [.ext]⟩
def aG_.o0 : OD := ⟨[], [], [.ext]⟩
def aG_.d : FD Bool := ⟨39, 26, 1, [.sl .v .str, .sl .v .str], [.b], fun (a0, _) => a0, fun r => (r, ()), [.v, .v], [.v], [.k], [.tmp 4], [], [(6, aG_.p6)], [], [(0, aG_.o0)]⟩
def aG_.F (n : Nat) : Pat.Ts aG_.d.ps → Option Bool := fun (a0, a1, _) => aG_ n a0 a1

def bA_.d : FD Bool := ⟨51, 32, 1, [.ag (aa_.p .v), .ag (aa_.p .v)], [.b], fun (a0, _) => a0, fun r => (r, ()), [.ag [.v, .v, .v, .v, .v], .ag [.v, .v, .v, .v, .v]], [.v], [.k], [.tmp 4], [], [], [], []⟩
def bA_.F (n : Nat) : Pat.Ts bA_.d.ps → Option Bool := fun (a0, a1, _) => bA_ n (aa_.of a0) (aa_.of a1)

def cw_.d : FD Bool := ⟨95, 22, 1, [.ag (TOp.p .v), .ag (TOp.p .v)], [.b], fun (a0, _) => a0, fun r => (r, ()), [.ag [.v, .v, .v, .v, .v, .v, .v], .ag [.v, .v, .v, .v, .v, .v, .v]], [.v], [.k], [.tmp 4], [], [], [], []⟩
def cw_.F (n : Nat) : Pat.Ts cw_.d.ps → Option Bool := fun (a0, a1, _) => cw_ n (TOp.of a0) (TOp.of a1)

def bh_.p6 : OD := ⟨[(0, .view .iOp), (1, .view .iOp), (5, .k)], [.sl .v .iOp, .sl .v .iOp, .i .i64], [.ext]⟩
def bh_.o0 : OD := ⟨[], [], [.ext]⟩
def bh_.d : FD Bool := ⟨52, 27, 1, [.sl .v .iOp, .sl .v .iOp], [.b], fun (a0, _) => a0, fun r => (r, ()), [.v, .v], [.v], [.k], [.tmp 4], [], [(6, bh_.p6)], [], [(0, bh_.o0)]⟩
def bh_.F (n : Nat) : Pat.Ts bh_.d.ps → Option Bool := fun (a0, a1, _) => bh_ n a0 a1

def bW_.d : FD Bool := ⟨11, 32, 1, [.ag (bb_.p .v), .ag (bb_.p .v)], [.b], fun (a0, _) => a0, fun r => (r, ()), [.ag [.v, .v, .v, .v, .v, .v, .v, .v, .v], .ag [.v, .v, .v, .v, .v, .v, .v, .v, .v]], [.v], [.k], [.tmp 4], [], [], [], []⟩
def bW_.F (n : Nat) : Pat.Ts bW_.d.ps → Option Bool := fun (a0, a1, _) => bW_ n (bb_.of a0) (bb_.of a1)

def aE_.p6 : OD := ⟨[(0, .k), (3, .k)], [.i .i64, .s], [.ext]⟩
def aE_.o0 : OD := ⟨[(3, .k)], [.s], [.ext]⟩
def aE_.d : FD Bs := ⟨69, 20, 1, [.i .i64], [.s], fun (a0, _) => a0, fun r => (r, ()), [.v], [.v], [.k], [.tmp 2], [], [(6, aE_.p6)], [], [(0, aE_.o0)]⟩
def aE_.F (n : Nat) : Pat.Ts aE_.d.ps → Option Bs := fun (a0, _) => aE_ n a0

def ap_.p3 : OD := ⟨[(0, .own .d .str), (1, .k), (5, .k)], [.rt 1, .i .i64, .i .i64], [.ext, .arr .d .str 2]⟩
def ap_.o0 : OD := ⟨[(1, .k)], [.i .i64], [.ext, .arr .d .str 2]⟩
def ap_.d : FD (Int × (List Bs)) := ⟨40, 20, 2, [.sl .d .str, .i .i64], [.i .i64, .sl .d .str], fun (a0, a1, _) => (a0, a1), fun (a0, a1) => (a0, a1, ()), [.mu, .v], [.v, .o], [.k, .own .d .str], [.tmp 4], [.rt 1], [(3, ap_.p3)], [], [(0, ap_.o0)]⟩
def ap_.F (n : Nat) : Pat.Ts ap_.d.ps → Option (Int × (List Bs)) := fun (a0, a1, _) => ap_ n a0 a1

def au_.p3 : OD := ⟨[(0, .own .d .iJson), (1, .k), (5, .k)], [.rt 1, .i .i64, .i .i64], [.ext, .arr .d .iJson 2]⟩
def au_.o0 : OD := ⟨[(1, .k)], [.i .i64], [.ext, .arr .d .iJson 2]⟩
def au_.d : FD (Int × (List aa_)) := ⟨70, 49, 2, [.sl .d .iJson, .i .i64], [.i .i64, .sl .d .iJson], fun (a0, a1, _) => (a0, a1), fun (a0, a1) => (a0, a1, ()), [.mu, .v], [.v, .o], [.k, .own .d .iJson], [.tmp 4], [.rt 1], [(3, au_.p3)], [], [(0, au_.o0)]⟩
def au_.F (n : Nat) : Pat.Ts au_.d.ps → Option (Int × (List aa_)) := fun (a0, a1, _) => au_ n a0 a1

def bP_.d : FD (Int × (List aa_) × (List Bs)) := ⟨53, 14, 3, [.ag (aa_.p .d), .i .i64], [.i .i64, .sl .d .iJson, .sl .d .str], fun (a0, a1, a2, _) => (a0, a1, a2), fun (a0, a1, a2) => (a0, a1, a2, ()), [.ag [.v, .v, .v, .mu, .mu], .v], [.v, .o, .o], [.k, .own .d .iJson, .own .d .str], [.tmp 4], [.rt 1, .rt 2], [], [], []⟩
def bP_.F (n : Nat) : Pat.Ts bP_.d.ps → Option (Int × (List aa_) × (List Bs)) := fun (a0, a1, _) => bP_ n (aa_.of a0) a1

def aX_.p3 : OD := ⟨[(0, .own .d .iOp), (1, .k), (5, .k)], [.rt 1, .i .i64, .i .i64], [.ext, .arr .d .iOp 2]⟩
def aX_.o0 : OD := ⟨[(1, .k)], [.i .i64], [.ext, .arr .d .iOp 2]⟩
def aX_.d : FD (Int × (List TOp)) := ⟨54, 68, 2, [.sl .d .iOp, .i .i64], [.i .i64, .sl .d .iOp], fun (a0, a1, _) => (a0, a1), fun (a0, a1) => (a0, a1, ()), [.mu, .v], [.v, .o], [.k, .own .d .iOp], [.tmp 4], [.rt 1], [(3, aX_.p3)], [], [(0, aX_.o0)]⟩
def aX_.F (n : Nat) : Pat.Ts aX_.d.ps → Option (Int × (List TOp)) := fun (a0, a1, _) => aX_ n a0 a1

def bC_.d : FD (Int × (List aa_) × (List Bs) × (List TOp)) := ⟨12, 14, 4, [.ag (bb_.p .d), .i .i64], [.i .i64, .sl .d .iJson, .sl .d .str, .sl .d .iOp], fun (a0, a1, a2, a3, _) => (a0, a1, a2, a3), fun (a0, a1, a2, a3) => (a0, a1, a2, a3, ()), [.ag [.v, .v, .v, .v, .v, .v, .mu, .mu, .mu], .v], [.v, .o, .o, .o], [.k, .own .d .iJson, .own .d .str, .own .d .iOp], [.tmp 4], [.rt 1, .rt 2, .rt 3], [], [], []⟩
def bC_.F (n : Nat) : Pat.Ts bC_.d.ps → Option (Int × (List aa_) × (List Bs) × (List TOp)) := fun (a0, a1, _) => bC_ n (bb_.of a0) a1

def aq_.p3 : OD := ⟨[(0, .view .str), (1, .k), (5, .k)], [.sl .v .str, .i .i64, .i .i64], [.ext]⟩
def aq_.o0 : OD := ⟨[(1, .k)], [.i .i64], [.ext]⟩
def aq_.d : FD Int := ⟨74, 22, 1, [.sl .v .str, .i .i64], [.i .i64], fun (a0, _) => a0, fun r => (r, ()), [.v, .v], [.v], [.k], [.tmp 4], [], [(3, aq_.p3)], [], [(0, aq_.o0)]⟩
def aq_.F (n : Nat) : Pat.Ts aq_.d.ps → Option Int := fun (a0, a1, _) => aq_ n a0 a1

def av_.p3 : OD := ⟨[(0, .view .iJson), (1, .k), (5, .k)], [.sl .v .iJson, .i .i64, .i .i64], [.ext]⟩
def av_.o0 : OD := ⟨[(1, .k)], [.i .i64], [.ext]⟩
def av_.d : FD Int := ⟨73, 59, 1, [.sl .v .iJson, .i .i64], [.i .i64], fun (a0, _) => a0, fun r => (r, ()), [.v, .v], [.v], [.k], [.tmp 4], [], [(3, av_.p3)], [], [(0, av_.o0)]⟩
def av_.F (n : Nat) : Pat.Ts av_.d.ps → Option Int := fun (a0, a1, _) => av_ n a0 a1

def bQ_.d : FD Int := ⟨55, 18, 1, [.ag (aa_.p .v), .i .i64], [.i .i64], fun (a0, _) => a0, fun r => (r, ()), [.ag [.v, .v, .v, .v, .v], .v], [.v], [.k], [.tmp 4], [], [], [], []⟩
def bQ_.F (n : Nat) : Pat.Ts bQ_.d.ps → Option Int := fun (a0, a1, _) => bQ_ n (aa_.of a0) a1

def aY_.p3 : OD := ⟨[(0, .view .iOp), (1, .k), (5, .k)], [.sl .v .iOp, .i .i64, .i .i64], [.ext]⟩
def aY_.o0 : OD := ⟨[(1, .k)], [.i .i64], [.ext]⟩
def aY_.d : FD Int := ⟨56, 82, 1, [.sl .v .iOp, .i .i64], [.i .i64], fun (a0, _) => a0, fun r => (r, ()), [.v, .v], [.v], [.k], [.tmp 4], [], [(3, aY_.p3)], [], [(0, aY_.o0)]⟩
def aY_.F (n : Nat) : Pat.Ts aY_.d.ps → Option Int := fun (a0, a1, _) => aY_ n a0 a1

def by_.d : FD Int := ⟨13, 18, 1, [.ag (bb_.p .v), .i .i64], [.i .i64], fun (a0, _) => a0, fun r => (r, ()), [.ag [.v, .v, .v, .v, .v, .v, .v, .v, .v], .v], [.v], [.k], [.tmp 4], [], [], [], []⟩
def by_.F (n : Nat) : Pat.Ts by_.d.ps → Option Int := fun (a0, a1, _) => by_ n (bb_.of a0) a1

def laws_FnExactEventRead.d : FD Bool := ⟨3, 66, 1, [.s], [.b], fun (a0, _) => a0, fun r => (r, ()), [.v], [.v], [.k], [.tmp 2], [], [], [], []⟩
def laws_FnExactEventRead.F (n : Nat) : Pat.Ts laws_FnExactEventRead.d.ps → Option Bool := fun (a0, _) => laws_FnExactEventRead n a0

def KL (n : Nat) : List (Nat × Hd) := [
  (3, ⟨fun _ => laws_FnExactEventRead.d.K (laws_FnExactEventRead.F n)⟩),
  (9, ⟨fun _ => ac_.d.K (ac_.F n)⟩),
  (10, ⟨fun _ => bq_.d.K (bq_.F n)⟩),
  (11, ⟨fun _ => bW_.d.K (bW_.F n)⟩),
  (12, ⟨fun _ => bC_.d.K (bC_.F n)⟩),
  (13, ⟨fun _ => by_.d.K (by_.F n)⟩),
  (39, ⟨fun _ => aG_.d.K (aG_.F n)⟩),
  (40, ⟨fun _ => ap_.d.K (ap_.F n)⟩),
  (43, ⟨fun _ => aP_.d.K (aP_.F n)⟩),
  (44, ⟨fun _ => bn_.d.K (bn_.F n)⟩),
  (45, ⟨fun _ => bY_.d.K (bY_.F n)⟩),
  (46, ⟨fun _ => b3_.d.K (b3_.F n)⟩),
  (47, ⟨fun _ => aH_.d.K (aH_.F n)⟩),
  (48, ⟨fun _ => bB_.d.K (bB_.F n)⟩),
  (49, ⟨fun _ => bL_.d.K (bL_.F n)⟩),
  (50, ⟨fun _ => bF_.d.K (bF_.F n)⟩),
  (51, ⟨fun _ => bA_.d.K (bA_.F n)⟩),
  (52, ⟨fun _ => bh_.d.K (bh_.F n)⟩),
  (53, ⟨fun _ => bP_.d.K (bP_.F n)⟩),
  (54, ⟨fun _ => aX_.d.K (aX_.F n)⟩),
  (55, ⟨fun _ => bQ_.d.K (bQ_.F n)⟩),
  (56, ⟨fun _ => aY_.d.K (aY_.F n)⟩),
  (60, ⟨fun _ => b0_.d.K (b0_.F n)⟩),
  (61, ⟨fun _ => a4_.d.K (a4_.F n)⟩),
  (66, ⟨fun _ => b1_.d.K (b1_.F n)⟩),
  (67, ⟨fun _ => aJ_.d.K (aJ_.F n)⟩),
  (69, ⟨fun _ => aE_.d.K (aE_.F n)⟩),
  (70, ⟨fun _ => au_.d.K (au_.F n)⟩),
  (73, ⟨fun _ => av_.d.K (av_.F n)⟩),
  (74, ⟨fun _ => aq_.d.K (aq_.F n)⟩),
  (75, ⟨fun _ => ax_.d.K (ax_.F n)⟩),
  (76, ⟨fun _ => aI_.d.K (aI_.F n)⟩),
  (77, ⟨fun _ => ba_.d.K (ba_.F n)⟩),
  (78, ⟨fun _ => bU_.d.K (bU_.F n)⟩),
  (79, ⟨fun _ => cc_.d.K (cc_.F n)⟩),
  (80, ⟨fun _ => bJ_.d.K (bJ_.F n)⟩),
  (81, ⟨fun _ => aK_.d.K (aK_.F n)⟩),
  (82, ⟨fun _ => bO_.d.K (bO_.F n)⟩),
  (83, ⟨fun _ => b8_.d.K (b8_.F n)⟩),
  (84, ⟨fun _ => a5_.d.K (a5_.F n)⟩),
  (85, ⟨fun _ => bi_.d.K (bi_.F n)⟩),
  (86, ⟨fun _ => b2_.d.K (b2_.F n)⟩),
  (87, ⟨fun _ => bH_.d.K (bH_.F n)⟩),
  (88, ⟨fun _ => bZ_.d.K (bZ_.F n)⟩),
  (89, ⟨fun _ => bg_.d.K (bg_.F n)⟩),
  (90, ⟨fun _ => bc_.d.K (bc_.F n)⟩),
  (91, ⟨fun _ => ca_.d.K (ca_.F n)⟩),
  (92, ⟨fun _ => bX_.d.K (bX_.F n)⟩),
  (93, ⟨fun _ => aR_.d.K (aR_.F n)⟩),
  (94, ⟨fun _ => aZ_.d.K (aZ_.F n)⟩),
  (95, ⟨fun _ => cw_.d.K (cw_.F n)⟩),
  (98, ⟨fun _ => cl_.d.K (cl_.F n)⟩),
  (99, ⟨fun _ => ah_.d.K (ah_.F n)⟩),
  (100, ⟨fun _ => bM_.d.K (bM_.F n)⟩),
  (104, ⟨fun _ => bz_.d.K (bz_.F n)⟩),
  (105, ⟨fun _ => aO_.d.K (aO_.F n)⟩),
  (106, ⟨fun _ => b4_.d.K (b4_.F n)⟩),
  (107, ⟨fun _ => bE_.d.K (bE_.F n)⟩),
  (108, ⟨fun _ => bD_.d.K (bD_.F n)⟩),
  (109, ⟨fun _ => bN_.d.K (bN_.F n)⟩),
  (111, ⟨fun _ => a2_.d.K (a2_.F n)⟩),
  (112, ⟨fun _ => bG_.d.K (bG_.F n)⟩),
  (113, ⟨fun _ => bj_.d.K (bj_.F n)⟩),
  (114, ⟨fun _ => ay_.d.K (ay_.F n)⟩),
  (115, ⟨fun _ => aL_.d.K (aL_.F n)⟩),
  (116, ⟨fun _ => aA_.d.K (aA_.F n)⟩),
  (117, ⟨fun _ => bo_.d.K (bo_.F n)⟩),
  (118, ⟨fun _ => bl_.d.K (bl_.F n)⟩),
  (119, ⟨fun _ => ar_.d.K (ar_.F n)⟩),
  (120, ⟨fun _ => bf_.d.K (bf_.F n)⟩),
  (121, ⟨fun _ => aB_.d.K (aB_.F n)⟩),
  (122, ⟨fun _ => cg_.d.K (cg_.F n)⟩),
  (125, ⟨fun _ => aF_.d.K (aF_.F n)⟩),
  (126, ⟨fun _ => az_.d.K (az_.F n)⟩),
  (127, ⟨fun _ => b5_.d.K (b5_.F n)⟩),
  (128, ⟨fun _ => strconv_Itoa.d.K (strconv_Itoa.F n)⟩),
  (129, ⟨fun _ => aN_.d.K (aN_.F n)⟩),
  (130, ⟨fun _ => cb_.d.K (cb_.F n)⟩),
  (131, ⟨fun _ => aD_.d.K (aD_.F n)⟩),
  (133, ⟨fun _ => aW_.d.K (aW_.F n)⟩),
  (134, ⟨fun _ => bm_.d.K (bm_.F n)⟩),
  (140, ⟨fun _ => aU_.d.K (aU_.F n)⟩),
  (141, ⟨fun _ => a6_.d.K (a6_.F n)⟩),
  (142, ⟨fun _ => aw_.d.K (aw_.F n)⟩),
  (143, ⟨fun _ => aT_.d.K (aT_.F n)⟩),
  (149, ⟨fun _ => a0_.d.K (a0_.F n)⟩),
  (150, ⟨fun _ => bk_.d.K (bk_.F n)⟩),
  (151, ⟨fun _ => ai_.d.K (ai_.F n)⟩),
  (152, ⟨fun _ => af_.d.K (af_.F n)⟩),
  (153, ⟨fun _ => ag_.d.K (ag_.F n)⟩),
  (154, ⟨fun _ => ck_.d.K (ck_.F n)⟩),
  (155, ⟨fun _ => a1_.d.K (a1_.F n)⟩),
  (156, ⟨fun _ => aj_.d.K (aj_.F n)⟩),
  (157, ⟨fun _ => bK_.d.K (bK_.F n)⟩),
  (158, ⟨fun _ => bR_.d.K (bR_.F n)⟩),
  (160, ⟨fun _ => a8_.d.K (a8_.F n)⟩),
  (161, ⟨fun _ => strings_Join.d.K (strings_Join.F n)⟩),
  (162, ⟨fun _ => aV_.d.K (aV_.F n)⟩),
  (163, ⟨fun _ => b9_.d.K (b9_.F n)⟩),
  (164, ⟨fun _ => ad_.d.K (ad_.F n)⟩),
  (168, ⟨fun _ => cn_.d.K (cn_.F n)⟩),
  (169, ⟨fun _ => as_.d.K (as_.F n)⟩),
  (179, ⟨fun _ => bd_.d.K (bd_.F n)⟩),
  (180, ⟨fun _ => strings_Split.d.K (strings_Split.F n)⟩),
  (181, ⟨fun _ => strings_ReplaceAll.d.K (strings_ReplaceAll.F n)⟩),
  (182, ⟨fun _ => cd_.d.K (cd_.F n)⟩),
  (189, ⟨fun _ => a9_.d.K (a9_.F n)⟩),
  (190, ⟨fun _ => am_.d.K (am_.F n)⟩),
  (201, ⟨fun _ => ak_.d.K (ak_.F n)⟩),
  (202, ⟨fun _ => ab_.d.K (ab_.F n)⟩)]
def sigL : List (Nat × List PS) := [
  (3, laws_FnExactEventRead.d.sig),
  (9, ac_.d.sig),
  (10, bq_.d.sig),
  (11, bW_.d.sig),
  (12, bC_.d.sig),
  (13, by_.d.sig),
  (39, aG_.d.sig),
  (40, ap_.d.sig),
  (43, aP_.d.sig),
  (44, bn_.d.sig),
  (45, bY_.d.sig),
  (46, b3_.d.sig),
  (47, aH_.d.sig),
  (48, bB_.d.sig),
  (49, bL_.d.sig),
  (50, bF_.d.sig),
  (51, bA_.d.sig),
  (52, bh_.d.sig),
  (53, bP_.d.sig),
  (54, aX_.d.sig),
  (55, bQ_.d.sig),
  (56, aY_.d.sig),
  (60, b0_.d.sig),
  (61, a4_.d.sig),
  (66, b1_.d.sig),
  (67, aJ_.d.sig),
  (69, aE_.d.sig),
  (70, au_.d.sig),
  (73, av_.d.sig),
  (74, aq_.d.sig),
  (75, ax_.d.sig),
  (76, aI_.d.sig),
  (77, ba_.d.sig),
  (78, bU_.d.sig),
  (79, cc_.d.sig),
  (80, bJ_.d.sig),
  (81, aK_.d.sig),
  (82, bO_.d.sig),
  (83, b8_.d.sig),
  (84, a5_.d.sig),
  (85, bi_.d.sig),
  (86, b2_.d.sig),
  (87, bH_.d.sig),
  (88, bZ_.d.sig),
  (89, bg_.d.sig),
  (90, bc_.d.sig),
  (91, ca_.d.sig),
  (92, bX_.d.sig),
  (93, aR_.d.sig),
  (94, aZ_.d.sig),
  (95, cw_.d.sig),
  (98, cl_.d.sig),
  (99, ah_.d.sig),
  (100, bM_.d.sig),
  (104, bz_.d.sig),
  (105, aO_.d.sig),
  (106, b4_.d.sig),
  (107, bE_.d.sig),
  (108, bD_.d.sig),
  (109, bN_.d.sig),
  (111, a2_.d.sig),
  (112, bG_.d.sig),
  (113, bj_.d.sig),
  (114, ay_.d.sig),
  (115, aL_.d.sig),
  (116, aA_.d.sig),
  (117, bo_.d.sig),
  (118, bl_.d.sig),
  (119, ar_.d.sig),
  (120, bf_.d.sig),
  (121, aB_.d.sig),
  (122, cg_.d.sig),
  (125, aF_.d.sig),
  (126, az_.d.sig),
  (127, b5_.d.sig),
  (128, strconv_Itoa.d.sig),
  (129, aN_.d.sig),
  (130, cb_.d.sig),
  (131, aD_.d.sig),
  (133, aW_.d.sig),
  (134, bm_.d.sig),
  (140, aU_.d.sig),
  (141, a6_.d.sig),
  (142, aw_.d.sig),
  (143, aT_.d.sig),
  (149, a0_.d.sig),
  (150, bk_.d.sig),
  (151, ai_.d.sig),
  (152, af_.d.sig),
  (153, ag_.d.sig),
  (154, ck_.d.sig),
  (155, a1_.d.sig),
  (156, aj_.d.sig),
  (157, bK_.d.sig),
  (158, bR_.d.sig),
  (160, a8_.d.sig),
  (161, strings_Join.d.sig),
  (162, aV_.d.sig),
  (163, b9_.d.sig),
  (164, ad_.d.sig),
  (168, cn_.d.sig),
  (169, as_.d.sig),
  (179, bd_.d.sig),
  (180, strings_Split.d.sig),
  (181, strings_ReplaceAll.d.sig),
  (182, cd_.d.sig),
  (189, a9_.d.sig),
  (190, am_.d.sig),
  (201, ak_.d.sig),
  (202, ab_.d.sig)]
def fzL : List Nat := [9, 47, 83, 84, 120]
def cx (n nt : Nat) : Cx := ⟨nt, tt, fun f => fX_ sigL f, KH (KL n), fun f => fzL.any (Nat.beq f)⟩
end Go.Pi
end
section
set_option linter.unusedVariables false
set_option maxRecDepth 100000
namespace Go.Pi
open Go.Proofs
noncomputable def aP_.fs (n : Nat) : aP_.d.Fs := (fun _ κe => aP_.loop5 n (aP_.o0.k (κe 0)) n, ())
theorem aP_.r5 (n : Nat) : aP_.d.Round (aP_.fs n) (cx n aP_.d.nt) (cm_ Tryz.f43) 5 aP_.p5 (fun κe => aP_.step5 n (aP_.o0.k (κe 0))) := fun κ κe x y => by kernel_rfl
theorem aP_.ok (n : Nat) : CxOk E (cx n aP_.d.nt) → KPar (cx n aP_.d.nt) → aP_.d.Ok E (aP_.F (n + 1)) :=
  FD.ok (fs := aP_.fs n) a7_ Tryz.func43 (by kernel_rfl) (by kernel_rfl) (by kernel_rfl) (by kernel_rfl) (fun _ => by kernel_rfl) (by kernel_rfl) (fun x => by kernel_rfl) (.cons (FD.lp n (aP_.r5 n) (by kernel_rfl) fun _ _ => by kernel_rfl) (.nil))
noncomputable def bn_.fs (n : Nat) : bn_.d.Fs := ()
theorem bn_.ok (n : Nat) : CxOk E (cx n bn_.d.nt) → KPar (cx n bn_.d.nt) → bn_.d.Ok E (bn_.F (n + 1)) :=
  FD.ok (fs := bn_.fs n) a7_ Tryz.func44 (by kernel_rfl) (by kernel_rfl) (by kernel_rfl) (by kernel_rfl) (fun _ => by kernel_rfl) (by kernel_rfl) (fun x => by kernel_rfl) (.nil)
noncomputable def bG_.fs (n : Nat) : bG_.d.Fs := ()
theorem bG_.ok (n : Nat) : CxOk E (cx n bG_.d.nt) → KPar (cx n bG_.d.nt) → bG_.d.Ok E (bG_.F (n + 1)) :=
  FD.ok (fs := bG_.fs n) a7_ Tryz.func112 (by kernel_rfl) (by kernel_rfl) (by kernel_rfl) (by kernel_rfl) (fun _ => by kernel_rfl) (by kernel_rfl) (fun x => by kernel_rfl) (.nil)
noncomputable def ax_.fs (n : Nat) : ax_.d.Fs := (fun _ κe => ax_.loop7 n (ax_.o0.k (κe 0)) n, ())
theorem ax_.r7 (n : Nat) : ax_.d.Round (ax_.fs n) (cx n ax_.d.nt) (cm_ Tryz.f75) 7 ax_.p7 (fun κe => ax_.step7 n (ax_.o0.k (κe 0))) := fun κ κe x y => by kernel_rfl
theorem ax_.ok (n : Nat) : CxOk E (cx n ax_.d.nt) → KPar (cx n ax_.d.nt) → ax_.d.Ok E (ax_.F (n + 1)) :=
  FD.ok (fs := ax_.fs n) a7_ Tryz.func75 (by kernel_rfl) (by kernel_rfl) (by kernel_rfl) (by kernel_rfl) (fun _ => by kernel_rfl) (by kernel_rfl) (fun x => by kernel_rfl) (.cons (FD.lp n (ax_.r7 n) (by kernel_rfl) fun _ _ => by kernel_rfl) (.nil))
noncomputable def aI_.fs (n : Nat) : aI_.d.Fs := (fun _ κe => aI_.loop7 n (aI_.o0.k (κe 0)) n, ())
theorem aI_.r7 (n : Nat) : aI_.d.Round (aI_.fs n) (cx n aI_.d.nt) (cm_ Tryz.f76) 7 aI_.p7 (fun κe => aI_.step7 n (aI_.o0.k (κe 0))) := fun κ κe x y => by kernel_rfl
theorem aI_.ok (n : Nat) : CxOk E (cx n aI_.d.nt) → KPar (cx n aI_.d.nt) → aI_.d.Ok E (aI_.F (n + 1)) :=
  FD.ok (fs := aI_.fs n) a7_ Tryz.func76 (by kernel_rfl) (by kernel_rfl) (by kernel_rfl) (by kernel_rfl) (fun _ => by kernel_rfl) (by kernel_rfl) (fun x => by kernel_rfl) (.cons (FD.lp n (aI_.r7 n) (by kernel_rfl) fun _ _ => by kernel_rfl) (.nil))
noncomputable def bY_.fs (n : Nat) : bY_.d.Fs := ()
theorem bY_.ok (n : Nat) : CxOk E (cx n bY_.d.nt) → KPar (cx n bY_.d.nt) → bY_.d.Ok E (bY_.F (n + 1)) :=
  FD.ok (fs := bY_.fs n) a7_ Tryz.func45 (by kernel_rfl) (by kernel_rfl) (by kernel_rfl) (by kernel_rfl) (fun _ => by kernel_rfl) (by kernel_rfl) (fun x => by kernel_rfl) (.nil)
noncomputable def bj_.fs (n : Nat) : bj_.d.Fs := ()
theorem bj_.ok (n : Nat) : CxOk E (cx n bj_.d.nt) → KPar (cx n bj_.d.nt) → bj_.d.Ok E (bj_.F (n + 1)) :=
  FD.ok (fs := bj_.fs n) a7_ Tryz.func113 (by kernel_rfl) (by kernel_rfl) (by kernel_rfl) (by kernel_rfl) (fun _ => by kernel_rfl) (by kernel_rfl) (fun x => by kernel_rfl) (.nil)
noncomputable def ay_.fs (n : Nat) : ay_.d.Fs := (fun _ κe => ay_.loop4 n (ay_.o0.k (κe 0)) n, ())
theorem ay_.r4 (n : Nat) : ay_.d.Round (ay_.fs n) (cx n ay_.d.nt) (cm_ Tryz.f114) 4 ay_.p4 (fun κe => ay_.step4 n (ay_.o0.k (κe 0))) := fun κ κe x y => by kernel_rfl
theorem ay_.ok (n : Nat) : CxOk E (cx n ay_.d.nt) → KPar (cx n ay_.d.nt) → ay_.d.Ok E (ay_.F (n + 1)) :=
  FD.ok (fs := ay_.fs n) a7_ Tryz.func114 (by kernel_rfl) (by kernel_rfl) (by kernel_rfl) (by kernel_rfl) (fun _ => by kernel_rfl) (by kernel_rfl) (fun x => by kernel_rfl) (.cons (FD.lp n (ay_.r4 n) (by kernel_rfl) fun _ _ => by kernel_rfl) (.nil))
noncomputable def aL_.fs (n : Nat) : aL_.d.Fs := (fun _ κe => aL_.loop8 n (ba_ n) (aL_.o0.k (κe 0)) n, ())
theorem aL_.r8 (n : Nat) : aL_.d.Round (aL_.fs n) (cx n aL_.d.nt) (cm_ Tryz.f115) 8 aL_.p8 (fun κe => aL_.step8 n (ba_ n) (aL_.o0.k (κe 0))) := fun κ κe x y => by kernel_rfl
theorem aL_.ok (n : Nat) : CxOk E (cx n aL_.d.nt) → KPar (cx n aL_.d.nt) → aL_.d.Ok E (aL_.F (n + 1)) :=
  FD.ok (fs := aL_.fs n) a7_ Tryz.func115 (by kernel_rfl) (by kernel_rfl) (by kernel_rfl) (by kernel_rfl) (fun _ => by kernel_rfl) (by kernel_rfl) (fun x => by kernel_rfl) (.cons (FD.lp n (aL_.r8 n) (by kernel_rfl) fun _ _ => by kernel_rfl) (.nil))
noncomputable def ba_.fs (n : Nat) : ba_.d.Fs := ()
theorem ba_.ok (n : Nat) : CxOk E (cx n ba_.d.nt) → KPar (cx n ba_.d.nt) → ba_.d.Ok E (ba_.F (n + 1)) :=
  FD.ok (fs := ba_.fs n) a7_ Tryz.func77 (by kernel_rfl) (by kernel_rfl) (by kernel_rfl) (by kernel_rfl) (fun _ => by kernel_rfl) (by kernel_rfl) (fun x => by kernel_rfl) (.nil)
noncomputable def a6_.fs (n : Nat) : a6_.d.Fs := (fun _ κe => a6_.loop3 n (a6_.o0.k (κe 0)) n, ())
theorem a6_.r3 (n : Nat) : a6_.d.Round (a6_.fs n) (cx n a6_.d.nt) (cm_ Tryz.f141) 3 a6_.p3 (fun κe => a6_.step3 n (a6_.o0.k (κe 0))) := fun κ κe x y => by kernel_rfl
theorem a6_.ok (n : Nat) : CxOk E (cx n a6_.d.nt) → KPar (cx n a6_.d.nt) → a6_.d.Ok E (a6_.F (n + 1)) :=
  FD.ok (fs := a6_.fs n) a7_ Tryz.func141 (by kernel_rfl) (by kernel_rfl) (by kernel_rfl) (by kernel_rfl) (fun _ => by kernel_rfl) (by kernel_rfl) (fun x => by kernel_rfl) (.cons (FD.lp n (a6_.r3 n) (by kernel_rfl) fun _ _ => by kernel_rfl) (.nil))
noncomputable def ad_.fs (n : Nat) : ad_.d.Fs := (fun _ κe => ad_.loop6 n (ad_.o0.k (κe 0)) n, ())
theorem ad_.r6 (n : Nat) : ad_.d.Round (ad_.fs n) (cx n ad_.d.nt) (cm_ Tryz.f164) 6 ad_.p6 (fun κe => ad_.step6 n (ad_.o0.k (κe 0))) := fun κ κe x y => by kernel_rfl
theorem ad_.ok (n : Nat) : CxOk E (cx n ad_.d.nt) → KPar (cx n ad_.d.nt) → ad_.d.Ok E (ad_.F (n + 1)) :=
  FD.ok (fs := ad_.fs n) a7_ Tryz.func164 (by kernel_rfl) (by kernel_rfl) (by kernel_rfl) (by kernel_rfl) (fun _ => by kernel_rfl) (by kernel_rfl) (fun x => by kernel_rfl) (.cons (FD.lp n (ad_.r6 n) (by kernel_rfl) fun _ _ => by kernel_rfl) (.nil))
noncomputable def cl_.fs (n : Nat) : cl_.d.Fs := ()
theorem cl_.ok (n : Nat) : CxOk E (cx n cl_.d.nt) → KPar (cx n cl_.d.nt) → cl_.d.Ok E (cl_.F (n + 1)) :=
  FD.ok (fs := cl_.fs n) a7_ Tryz.func98 (by kernel_rfl) (by kernel_rfl) (by kernel_rfl) (by kernel_rfl) (fun _ => by kernel_rfl) (by kernel_rfl) (fun x => by kernel_rfl) (.nil)
noncomputable def aD_.fs (n : Nat) : aD_.d.Fs := (fun _ κe => aD_.loop23 n (aD_ n) (aD_.o1.k (κe 1)) n, ())
theorem aD_.r23 (n : Nat) : aD_.d.Round (aD_.fs n) (cx n aD_.d.nt) (cm_ Tryz.f131) 23 aD_.p23 (fun κe => aD_.step23 n (aD_ n) (aD_.o1.k (κe 1))) := fun κ κe x y => by kernel_rfl
theorem aD_.ok (n : Nat) : CxOk E (cx n aD_.d.nt) → KPar (cx n aD_.d.nt) → aD_.d.Ok E (aD_.F (n + 1)) :=
  FD.ok (fs := aD_.fs n) a7_ Tryz.func131 (by kernel_rfl) (by kernel_rfl) (by kernel_rfl) (by kernel_rfl) (fun _ => by kernel_rfl) (by kernel_rfl) (fun x => by kernel_rfl) (.cons (FD.lp n (aD_.r23 n) (by kernel_rfl) fun _ _ => by kernel_rfl) (.nil))
noncomputable def bM_.fs (n : Nat) : bM_.d.Fs := ()
theorem bM_.ok (n : Nat) : CxOk E (cx n bM_.d.nt) → KPar (cx n bM_.d.nt) → bM_.d.Ok E (bM_.F (n + 1)) :=
  FD.ok (fs := bM_.fs n) a7_ Tryz.func100 (by kernel_rfl) (by kernel_rfl) (by kernel_rfl) (by kernel_rfl) (fun _ => by kernel_rfl) (by kernel_rfl) (fun x => by kernel_rfl) (.nil)
noncomputable def aU_.fs (n : Nat) : aU_.d.Fs := (fun _ κe => aU_.loop4 n (aU_.o0.k (κe 0)) n, ())
theorem aU_.r4 (n : Nat) : aU_.d.Round (aU_.fs n) (cx n aU_.d.nt) (cm_ Tryz.f140) 4 aU_.p4 (fun κe => aU_.step4 n (aU_.o0.k (κe 0))) := fun κ κe x y => by kernel_rfl
theorem aU_.ok (n : Nat) : CxOk E (cx n aU_.d.nt) → KPar (cx n aU_.d.nt) → aU_.d.Ok E (aU_.F (n + 1)) :=
  FD.ok (fs := aU_.fs n) a7_ Tryz.func140 (by kernel_rfl) (by kernel_rfl) (by kernel_rfl) (by kernel_rfl) (fun _ => by kernel_rfl) (by kernel_rfl) (fun x => by kernel_rfl) (.cons (FD.lp n (aU_.r4 n) (by kernel_rfl) fun _ _ => by kernel_rfl) (.nil))
noncomputable def aA_.fs (n : Nat) : aA_.d.Fs := (fun _ κe => aA_.loop17 n (aA_ n) (aA_.o1.k (κe 1)) n, ())
theorem aA_.r17 (n : Nat) : aA_.d.Round (aA_.fs n) (cx n aA_.d.nt) (cm_ Tryz.f116) 17 aA_.p17 (fun κe => aA_.step17 n (aA_ n) (aA_.o1.k (κe 1))) := fun κ κe x y => by kernel_rfl
theorem aA_.ok (n : Nat) : CxOk E (cx n aA_.d.nt) → KPar (cx n aA_.d.nt) → aA_.d.Ok E (aA_.F (n + 1)) :=
  FD.ok (fs := aA_.fs n) a7_ Tryz.func116 (by kernel_rfl) (by kernel_rfl) (by kernel_rfl) (by kernel_rfl) (fun _ => by kernel_rfl) (by kernel_rfl) (fun x => by kernel_rfl) (.cons (FD.lp n (aA_.r17 n) (by kernel_rfl) fun _ _ => by kernel_rfl) (.nil))
noncomputable def bU_.fs (n : Nat) : bU_.d.Fs := ()
theorem bU_.ok (n : Nat) : CxOk E (cx n bU_.d.nt) → KPar (cx n bU_.d.nt) → bU_.d.Ok E (bU_.F (n + 1)) :=
  FD.ok (fs := bU_.fs n) a7_ Tryz.func78 (by kernel_rfl) (by kernel_rfl) (by kernel_rfl) (by kernel_rfl) (fun _ => by kernel_rfl) (by kernel_rfl) (fun x => by kernel_rfl) (.nil)
noncomputable def b3_.fs (n : Nat) : b3_.d.Fs := ()
theorem b3_.ok (n : Nat) : CxOk E (cx n b3_.d.nt) → KPar (cx n b3_.d.nt) → b3_.d.Ok E (b3_.F (n + 1)) :=
  FD.ok (fs := b3_.fs n) a7_ Tryz.func46 (by kernel_rfl) (by kernel_rfl) (by kernel_rfl) (by kernel_rfl) (fun _ => by kernel_rfl) (by kernel_rfl) (fun x => by kernel_rfl) (.nil)
noncomputable def bo_.fs (n : Nat) : bo_.d.Fs := (fun _ κe => bo_.loop3 n (bo_.o0.k (κe 0)) n, ())
theorem bo_.r3 (n : Nat) : bo_.d.Round (bo_.fs n) (cx n bo_.d.nt) (cm_ Tryz.f117) 3 bo_.p3 (fun κe => bo_.step3 n (bo_.o0.k (κe 0))) := fun κ κe x y => by kernel_rfl
theorem bo_.ok (n : Nat) : CxOk E (cx n bo_.d.nt) → KPar (cx n bo_.d.nt) → bo_.d.Ok E (bo_.F (n + 1)) :=
  FD.ok (fs := bo_.fs n) a7_ Tryz.func117 (by kernel_rfl) (by kernel_rfl) (by kernel_rfl) (by kernel_rfl) (fun _ => by kernel_rfl) (by kernel_rfl) (fun x => by kernel_rfl) (.cons (FD.lp n (bo_.r3 n) (by kernel_rfl) fun _ _ => by kernel_rfl) (.nil))
noncomputable def a4_.fs (n : Nat) : a4_.d.Fs := (fun _ κe => a4_.loop4 n (a4_ n) (a4_.o0.k (κe 0)) n, ())
theorem a4_.r4 (n : Nat) : a4_.d.Round (a4_.fs n) (cx n a4_.d.nt) (cm_ Tryz.f61) 4 a4_.p4 (fun κe => a4_.step4 n (a4_ n) (a4_.o0.k (κe 0))) := fun κ κe x y => by kernel_rfl
theorem a4_.ok (n : Nat) : CxOk E (cx n a4_.d.nt) → KPar (cx n a4_.d.nt) → a4_.d.Ok E (a4_.F (n + 1)) :=
  FD.ok (fs := a4_.fs n) a7_ Tryz.func61 (by kernel_rfl) (by kernel_rfl) (by kernel_rfl) (by kernel_rfl) (fun _ => by kernel_rfl) (by kernel_rfl) (fun x => by kernel_rfl) (.cons (FD.lp n (a4_.r4 n) (by kernel_rfl) fun _ _ => by kernel_rfl) (.nil))
noncomputable def cc_.fs (n : Nat) : cc_.d.Fs := ()
theorem cc_.ok (n : Nat) : CxOk E (cx n cc_.d.nt) → KPar (cx n cc_.d.nt) → cc_.d.Ok E (cc_.F (n + 1)) :=
  FD.ok (fs := cc_.fs n) a7_ Tryz.func79 (by kernel_rfl) (by kernel_rfl) (by kernel_rfl) (by kernel_rfl) (fun _ => by kernel_rfl) (by kernel_rfl) (fun x => by kernel_rfl) (.nil)
noncomputable def bJ_.fs (n : Nat) : bJ_.d.Fs := ()
theorem bJ_.ok (n : Nat) : CxOk E (cx n bJ_.d.nt) → KPar (cx n bJ_.d.nt) → bJ_.d.Ok E (bJ_.F (n + 1)) :=
  FD.ok (fs := bJ_.fs n) a7_ Tryz.func80 (by kernel_rfl) (by kernel_rfl) (by kernel_rfl) (by kernel_rfl) (fun _ => by kernel_rfl) (by kernel_rfl) (fun x => by kernel_rfl) (.nil)
noncomputable def aK_.fs (n : Nat) : aK_.d.Fs := (fun _ κe => aK_.loop6 n (aK_.o0.k (κe 0)) n, ())
theorem aK_.r6 (n : Nat) : aK_.d.Round (aK_.fs n) (cx n aK_.d.nt) (cm_ Tryz.f81) 6 aK_.p6 (fun κe => aK_.step6 n (aK_.o0.k (κe 0))) := fun κ κe x y => by kernel_rfl
theorem aK_.ok (n : Nat) : CxOk E (cx n aK_.d.nt) → KPar (cx n aK_.d.nt) → aK_.d.Ok E (aK_.F (n + 1)) :=
  FD.ok (fs := aK_.fs n) a7_ Tryz.func81 (by kernel_rfl) (by kernel_rfl) (by kernel_rfl) (by kernel_rfl) (fun _ => by kernel_rfl) (by kernel_rfl) (fun x => by kernel_rfl) (.cons (FD.lp n (aK_.r6 n) (by kernel_rfl) fun _ _ => by kernel_rfl) (.nil))
noncomputable def ah_.fs (n : Nat) : ah_.d.Fs := (fun _ κe => ah_.loop6 n (ah_ n) (ah_.o0.k (κe 0)) n, fun _ κe => ah_.loop14 n (ah_ n) (ah_.o2.k (κe 2)) n, ())
theorem ah_.r14 (n : Nat) : ah_.d.Round (ah_.fs n) (cx n ah_.d.nt) (cm_ Tryz.f99) 14 ah_.p14 (fun κe => ah_.step14 n (ah_ n) (ah_.o2.k (κe 2))) := fun κ κe x y => by kernel_rfl
theorem ah_.r6 (n : Nat) : ah_.d.Round (ah_.fs n) (cx n ah_.d.nt) (cm_ Tryz.f99) 6 ah_.p6 (fun κe => ah_.step6 n (ah_ n) (ah_.o0.k (κe 0))) := fun κ κe x y => by kernel_rfl
theorem ah_.ok (n : Nat) : CxOk E (cx n ah_.d.nt) → KPar (cx n ah_.d.nt) → ah_.d.Ok E (ah_.F (n + 1)) :=
  FD.ok (fs := ah_.fs n) a7_ Tryz.func99 (by kernel_rfl) (by kernel_rfl) (by kernel_rfl) (by kernel_rfl) (fun _ => by kernel_rfl) (by kernel_rfl) (fun x => by kernel_rfl) (.cons (FD.lp n (ah_.r6 n) (by kernel_rfl) fun _ _ => by kernel_rfl) (.cons (FD.lp n (ah_.r14 n) (by kernel_rfl) fun _ _ => by kernel_rfl) (.nil)))
noncomputable def bl_.fs (n : Nat) : bl_.d.Fs := (fun _ κe => bl_.loop6 n (bl_.o0.k (κe 0)) n, ())
theorem bl_.r6 (n : Nat) : bl_.d.Round (bl_.fs n) (cx n bl_.d.nt) (cm_ Tryz.f118) 6 bl_.p6 (fun κe => bl_.step6 n (bl_.o0.k (κe 0))) := fun κ κe x y => by kernel_rfl
theorem bl_.ok (n : Nat) : CxOk E (cx n bl_.d.nt) → KPar (cx n bl_.d.nt) → bl_.d.Ok E (bl_.F (n + 1)) :=
  FD.ok (fs := bl_.fs n) a7_ Tryz.func118 (by kernel_rfl) (by kernel_rfl) (by kernel_rfl) (by kernel_rfl) (fun _ => by kernel_rfl) (by kernel_rfl) (fun x => by kernel_rfl) (.cons (FD.lp n (bl_.r6 n) (by kernel_rfl) fun _ _ => by kernel_rfl) (.nil))
noncomputable def ar_.fs (n : Nat) : ar_.d.Fs := (fun _ κe => ar_.loop10 n (ar_.o2.k (κe 2)) n, fun _ κe => ar_.loop4 n (ar_.o0.k (κe 0)) n, ())
theorem ar_.r4 (n : Nat) : ar_.d.Round (ar_.fs n) (cx n ar_.d.nt) (cm_ Tryz.f119) 4 ar_.p4 (fun κe => ar_.step4 n (ar_.o0.k (κe 0))) := fun κ κe x y => by kernel_rfl
theorem ar_.r10 (n : Nat) : ar_.d.Round (ar_.fs n) (cx n ar_.d.nt) (cm_ Tryz.f119) 10 ar_.p10 (fun κe => ar_.step10 n (ar_.o2.k (κe 2))) := fun κ κe x y => by kernel_rfl
theorem ar_.ok (n : Nat) : CxOk E (cx n ar_.d.nt) → KPar (cx n ar_.d.nt) → ar_.d.Ok E (ar_.F (n + 1)) :=
  FD.ok (fs := ar_.fs n) a7_ Tryz.func119 (by kernel_rfl) (by kernel_rfl) (by kernel_rfl) (by kernel_rfl) (fun _ => by kernel_rfl) (by kernel_rfl) (fun x => by kernel_rfl) (.cons (FD.lp n (ar_.r10 n) (by kernel_rfl) fun _ _ => by kernel_rfl) (.cons (FD.lp n (ar_.r4 n) (by kernel_rfl) fun _ _ => by kernel_rfl) (.nil)))
noncomputable def bf_.fs (n : Nat) : bf_.d.Fs := (fun _ κe => bf_.loop5 n (bf_.o0.k (κe 0)) n, ())
theorem bf_.r5 (n : Nat) : bf_.d.Round (bf_.fs n) (cx n bf_.d.nt) (cm_ Tryz.f120) 5 bf_.p5 (fun κe => bf_.step5 n (bf_.o0.k (κe 0))) := fun κ κe x y => by kernel_rfl
theorem bf_.ok (n : Nat) : CxOk E (cx n bf_.d.nt) → KPar (cx n bf_.d.nt) → bf_.d.Ok E (bf_.F (n + 1)) :=
  FD.ok (fs := bf_.fs n) a7_ Tryz.func120 (by kernel_rfl) (by kernel_rfl) (by kernel_rfl) (by kernel_rfl) (fun _ => by kernel_rfl) (by kernel_rfl) (fun x => by kernel_rfl) (.cons (FD.lp n (bf_.r5 n) (by kernel_rfl) fun _ _ => by kernel_rfl) (.nil))
noncomputable def b8_.fs (n : Nat) : b8_.d.Fs := ()
theorem b8_.ok (n : Nat) : CxOk E (cx n b8_.d.nt) → KPar (cx n b8_.d.nt) → b8_.d.Ok E (b8_.F (n + 1)) :=
  FD.ok (fs := b8_.fs n) a7_ Tryz.func83 (by kernel_rfl) (by kernel_rfl) (by kernel_rfl) (by kernel_rfl) (fun _ => by kernel_rfl) (by kernel_rfl) (fun x => by kernel_rfl) (.nil)
noncomputable def bO_.fs (n : Nat) : bO_.d.Fs := ()
theorem bO_.ok (n : Nat) : CxOk E (cx n bO_.d.nt) → KPar (cx n bO_.d.nt) → bO_.d.Ok E (bO_.F (n + 1)) :=
  FD.ok (fs := bO_.fs n) a7_ Tryz.func82 (by kernel_rfl) (by kernel_rfl) (by kernel_rfl) (by kernel_rfl) (fun _ => by kernel_rfl) (by kernel_rfl) (fun x => by kernel_rfl) (.nil)
noncomputable def aH_.fs (n : Nat) : aH_.d.Fs := (fun _ κe => aH_.loop7 n (aH_.o0.k (κe 0)) n, fun _ _ => aH_.tail15 n, ())
theorem aH_.r15 (n : Nat) : aH_.d.Tail (aH_.fs n) (cx n aH_.d.nt) (cm_ Tryz.f47) 15 aH_.p15 (fun κd κe => aH_.tail15 n) := fun κd κe x y => by kernel_rfl
theorem aH_.r7 (n : Nat) : aH_.d.Round (aH_.fs n) (cx n aH_.d.nt) (cm_ Tryz.f47) 7 aH_.p7 (fun κe => aH_.step7 n (aH_.o0.k (κe 0))) := fun κ κe x y => by kernel_rfl
theorem aH_.ok (n : Nat) : CxOk E (cx n aH_.d.nt) → KPar (cx n aH_.d.nt) → aH_.d.Ok E (aH_.F (n + 1)) :=
  FD.ok (fs := aH_.fs n) a7_ Tryz.func47 (by kernel_rfl) (by kernel_rfl) (by kernel_rfl) (by kernel_rfl) (fun _ => by kernel_rfl) (by kernel_rfl) (fun x => by kernel_rfl) (.cons (FD.lp n (aH_.r7 n) (by kernel_rfl) fun _ _ => by kernel_rfl) (.cons (FD.tl (aH_.r15 n) (by kernel_rfl)) (.nil)))
noncomputable def a5_.fs (n : Nat) : a5_.d.Fs := (fun _ κe => a5_.loop4 n (a5_.o0.k (κe 0)) n, ())
theorem a5_.r4 (n : Nat) : a5_.d.Round (a5_.fs n) (cx n a5_.d.nt) (cm_ Tryz.f84) 4 a5_.p4 (fun κe => a5_.step4 n (a5_.o0.k (κe 0))) := fun κ κe x y => by kernel_rfl
theorem a5_.ok (n : Nat) : CxOk E (cx n a5_.d.nt) → KPar (cx n a5_.d.nt) → a5_.d.Ok E (a5_.F (n + 1)) :=
  FD.ok (fs := a5_.fs n) a7_ Tryz.func84 (by kernel_rfl) (by kernel_rfl) (by kernel_rfl) (by kernel_rfl) (fun _ => by kernel_rfl) (by kernel_rfl) (fun x => by kernel_rfl) (.cons (FD.lp n (a5_.r4 n) (by kernel_rfl) fun _ _ => by kernel_rfl) (.nil))
noncomputable def b0_.fs (n : Nat) : b0_.d.Fs := ()
theorem b0_.ok (n : Nat) : CxOk E (cx n b0_.d.nt) → KPar (cx n b0_.d.nt) → b0_.d.Ok E (b0_.F (n + 1)) :=
  FD.ok (fs := b0_.fs n) a7_ Tryz.func60 (by kernel_rfl) (by kernel_rfl) (by kernel_rfl) (by kernel_rfl) (fun _ => by kernel_rfl) (by kernel_rfl) (fun x => by kernel_rfl) (.nil)
noncomputable def bB_.fs (n : Nat) : bB_.d.Fs := ()
theorem bB_.ok (n : Nat) : CxOk E (cx n bB_.d.nt) → KPar (cx n bB_.d.nt) → bB_.d.Ok E (bB_.F (n + 1)) :=
  FD.ok (fs := bB_.fs n) a7_ Tryz.func48 (by kernel_rfl) (by kernel_rfl) (by kernel_rfl) (by kernel_rfl) (fun _ => by kernel_rfl) (by kernel_rfl) (fun x => by kernel_rfl) (.nil)
noncomputable def ac_.fs (n : Nat) : ac_.d.Fs := (fun _ κe => ac_.loop20 n (ac_.o3.k (κe 3)) n, fun _ κe => ac_.loop5 n (ac_.o0.k (κe 0)) n, ())
theorem ac_.r5 (n : Nat) : ac_.d.Round (ac_.fs n) (cx n ac_.d.nt) (cm_ Tryz.f9) 5 ac_.p5 (fun κe => ac_.step5 n (ac_.o0.k (κe 0))) := fun κ κe x y => by kernel_rfl
theorem ac_.r20 (n : Nat) : ac_.d.Round (ac_.fs n) (cx n ac_.d.nt) (cm_ Tryz.f9) 20 ac_.p20 (fun κe => ac_.step20 n (ac_.o3.k (κe 3))) := fun κ κe x y => by kernel_rfl
theorem ac_.ok (n : Nat) : CxOk E (cx n ac_.d.nt) → KPar (cx n ac_.d.nt) → ac_.d.Ok E (ac_.F (n + 1)) :=
  FD.ok (fs := ac_.fs n) a7_ Tryz.func9 (by kernel_rfl) (by kernel_rfl) (by kernel_rfl) (by kernel_rfl) (fun _ => by kernel_rfl) (by kernel_rfl) (fun x => by kernel_rfl) (.cons (FD.lp n (ac_.r20 n) (by kernel_rfl) fun _ _ => by kernel_rfl) (.cons (FD.lp n (ac_.r5 n) (by kernel_rfl) fun _ _ => by kernel_rfl) (.nil)))
noncomputable def aw_.fs (n : Nat) : aw_.d.Fs := ()
theorem aw_.ok (n : Nat) : CxOk E (cx n aw_.d.nt) → KPar (cx n aw_.d.nt) → aw_.d.Ok E (aw_.F (n + 1)) :=
  FD.ok (fs := aw_.fs n) a7_ Tryz.func142 (by kernel_rfl) (by kernel_rfl) (by kernel_rfl) (by kernel_rfl) (fun _ => by kernel_rfl) (by kernel_rfl) (fun x => by kernel_rfl) (.nil)
noncomputable def aB_.fs (n : Nat) : aB_.d.Fs := ()
theorem aB_.ok (n : Nat) : CxOk E (cx n aB_.d.nt) → KPar (cx n aB_.d.nt) → aB_.d.Ok E (aB_.F (n + 1)) :=
  FD.ok (fs := aB_.fs n) a7_ Tryz.func121 (by kernel_rfl) (by kernel_rfl) (by kernel_rfl) (by kernel_rfl) (fun _ => by kernel_rfl) (by kernel_rfl) (fun x => by kernel_rfl) (.nil)
noncomputable def bi_.fs (n : Nat) : bi_.d.Fs := ()
theorem bi_.ok (n : Nat) : CxOk E (cx n bi_.d.nt) → KPar (cx n bi_.d.nt) → bi_.d.Ok E (bi_.F (n + 1)) :=
  FD.ok (fs := bi_.fs n) a7_ Tryz.func85 (by kernel_rfl) (by kernel_rfl) (by kernel_rfl) (by kernel_rfl) (fun _ => by kernel_rfl) (by kernel_rfl) (fun x => by kernel_rfl) (.nil)
noncomputable def aT_.fs (n : Nat) : aT_.d.Fs := ()
theorem aT_.ok (n : Nat) : CxOk E (cx n aT_.d.nt) → KPar (cx n aT_.d.nt) → aT_.d.Ok E (aT_.F (n + 1)) :=
  FD.ok (fs := aT_.fs n) a7_ Tryz.func143 (by kernel_rfl) (by kernel_rfl) (by kernel_rfl) (by kernel_rfl) (fun _ => by kernel_rfl) (by kernel_rfl) (fun x => by kernel_rfl) (.nil)
noncomputable def cg_.fs (n : Nat) : cg_.d.Fs := ()
theorem cg_.ok (n : Nat) : CxOk E (cx n cg_.d.nt) → KPar (cx n cg_.d.nt) → cg_.d.Ok E (cg_.F (n + 1)) :=
  FD.ok (fs := cg_.fs n) a7_ Tryz.func122 (by kernel_rfl) (by kernel_rfl) (by kernel_rfl) (by kernel_rfl) (fun _ => by kernel_rfl) (by kernel_rfl) (fun x => by kernel_rfl) (.nil)
noncomputable def az_.fs (n : Nat) : az_.d.Fs := ()
theorem az_.ok (n : Nat) : CxOk E (cx n az_.d.nt) → KPar (cx n az_.d.nt) → az_.d.Ok E (az_.F (n + 1)) :=
  FD.ok (fs := az_.fs n) a7_ Tryz.func126 (by kernel_rfl) (by kernel_rfl) (by kernel_rfl) (by kernel_rfl) (fun _ => by kernel_rfl) (by kernel_rfl) (fun x => by kernel_rfl) (.nil)
noncomputable def bg_.fs (n : Nat) : bg_.d.Fs := ()
theorem bg_.ok (n : Nat) : CxOk E (cx n bg_.d.nt) → KPar (cx n bg_.d.nt) → bg_.d.Ok E (bg_.F (n + 1)) :=
  FD.ok (fs := bg_.fs n) a7_ Tryz.func89 (by kernel_rfl) (by kernel_rfl) (by kernel_rfl) (by kernel_rfl) (fun _ => by kernel_rfl) (by kernel_rfl) (fun x => by kernel_rfl) (.nil)
noncomputable def b2_.fs (n : Nat) : b2_.d.Fs := ()
theorem b2_.ok (n : Nat) : CxOk E (cx n b2_.d.nt) → KPar (cx n b2_.d.nt) → b2_.d.Ok E (b2_.F (n + 1)) :=
  FD.ok (fs := b2_.fs n) a7_ Tryz.func86 (by kernel_rfl) (by kernel_rfl) (by kernel_rfl) (by kernel_rfl) (fun _ => by kernel_rfl) (by kernel_rfl) (fun x => by kernel_rfl) (.nil)
noncomputable def a0_.fs (n : Nat) : a0_.d.Fs := ()
theorem a0_.ok (n : Nat) : CxOk E (cx n a0_.d.nt) → KPar (cx n a0_.d.nt) → a0_.d.Ok E (a0_.F (n + 1)) :=
  FD.ok (fs := a0_.fs n) a7_ Tryz.func149 (by kernel_rfl) (by kernel_rfl) (by kernel_rfl) (by kernel_rfl) (fun _ => by kernel_rfl) (by kernel_rfl) (fun x => by kernel_rfl) (.nil)
noncomputable def bk_.fs (n : Nat) : bk_.d.Fs := ()
theorem bk_.ok (n : Nat) : CxOk E (cx n bk_.d.nt) → KPar (cx n bk_.d.nt) → bk_.d.Ok E (bk_.F (n + 1)) :=
  FD.ok (fs := bk_.fs n) a7_ Tryz.func150 (by kernel_rfl) (by kernel_rfl) (by kernel_rfl) (by kernel_rfl) (fun _ => by kernel_rfl) (by kernel_rfl) (fun x => by kernel_rfl) (.nil)
noncomputable def bd_.fs (n : Nat) : bd_.d.Fs := ()
theorem bd_.ok (n : Nat) : CxOk E (cx n bd_.d.nt) → KPar (cx n bd_.d.nt) → bd_.d.Ok E (bd_.F (n + 1)) :=
  FD.ok (fs := bd_.fs n) a7_ Tryz.func179 (by kernel_rfl) (by kernel_rfl) (by kernel_rfl) (by kernel_rfl) (fun _ => by kernel_rfl) (by kernel_rfl) (fun x => by kernel_rfl) (.nil)
noncomputable def ai_.fs (n : Nat) : ai_.d.Fs := (fun _ κe => ai_.loop4 n (ai_.o0.k (κe 0)) n, ())
theorem ai_.r4 (n : Nat) : ai_.d.Round (ai_.fs n) (cx n ai_.d.nt) (cm_ Tryz.f151) 4 ai_.p4 (fun κe => ai_.step4 n (ai_.o0.k (κe 0))) := fun κ κe x y => by kernel_rfl
theorem ai_.ok (n : Nat) : CxOk E (cx n ai_.d.nt) → KPar (cx n ai_.d.nt) → ai_.d.Ok E (ai_.F (n + 1)) :=
  FD.ok (fs := ai_.fs n) a7_ Tryz.func151 (by kernel_rfl) (by kernel_rfl) (by kernel_rfl) (by kernel_rfl) (fun _ => by kernel_rfl) (by kernel_rfl) (fun x => by kernel_rfl) (.cons (FD.lp n (ai_.r4 n) (by kernel_rfl) fun _ _ => by kernel_rfl) (.nil))
noncomputable def af_.fs (n : Nat) : af_.d.Fs := (fun _ κe => af_.loop7 n (aF_ n) (af_.o0.k (κe 0)) n, ())
theorem af_.r7 (n : Nat) : af_.d.Round (af_.fs n) (cx n af_.d.nt) (cm_ Tryz.f152) 7 af_.p7 (fun κe => af_.step7 n (aF_ n) (af_.o0.k (κe 0))) := fun κ κe x y => by kernel_rfl
theorem af_.ok (n : Nat) : CxOk E (cx n af_.d.nt) → KPar (cx n af_.d.nt) → af_.d.Ok E (af_.F (n + 1)) :=
  FD.ok (fs := af_.fs n) a7_ Tryz.func152 (by kernel_rfl) (by kernel_rfl) (by kernel_rfl) (by kernel_rfl) (fun _ => by kernel_rfl) (by kernel_rfl) (fun x => by kernel_rfl) (.cons (FD.lp n (af_.r7 n) (by kernel_rfl) fun _ _ => by kernel_rfl) (.nil))
noncomputable def aO_.fs (n : Nat) : aO_.d.Fs := ()
theorem aO_.ok (n : Nat) : CxOk E (cx n aO_.d.nt) → KPar (cx n aO_.d.nt) → aO_.d.Ok E (aO_.F (n + 1)) :=
  FD.ok (fs := aO_.fs n) a7_ Tryz.func105 (by kernel_rfl) (by kernel_rfl) (by kernel_rfl) (by kernel_rfl) (fun _ => by kernel_rfl) (by kernel_rfl) (fun x => by kernel_rfl) (.nil)
noncomputable def ag_.fs (n : Nat) : ag_.d.Fs := (fun _ κe => ag_.loop3 n (ag_.o0.k (κe 0)) n, ())
theorem ag_.r3 (n : Nat) : ag_.d.Round (ag_.fs n) (cx n ag_.d.nt) (cm_ Tryz.f153) 3 ag_.p3 (fun κe => ag_.step3 n (ag_.o0.k (κe 0))) := fun κ κe x y => by kernel_rfl
theorem ag_.ok (n : Nat) : CxOk E (cx n ag_.d.nt) → KPar (cx n ag_.d.nt) → ag_.d.Ok E (ag_.F (n + 1)) :=
  FD.ok (fs := ag_.fs n) a7_ Tryz.func153 (by kernel_rfl) (by kernel_rfl) (by kernel_rfl) (by kernel_rfl) (fun _ => by kernel_rfl) (by kernel_rfl) (fun x => by kernel_rfl) (.cons (FD.lp n (ag_.r3 n) (by kernel_rfl) fun _ _ => by kernel_rfl) (.nil))
noncomputable def aF_.fs (n : Nat) : aF_.d.Fs := ()
theorem aF_.ok (n : Nat) : CxOk E (cx n aF_.d.nt) → KPar (cx n aF_.d.nt) → aF_.d.Ok E (aF_.F (n + 1)) :=
  FD.ok (fs := aF_.fs n) a7_ Tryz.func125 (by kernel_rfl) (by kernel_rfl) (by kernel_rfl) (by kernel_rfl) (fun _ => by kernel_rfl) (by kernel_rfl) (fun x => by kernel_rfl) (.nil)
noncomputable def a9_.fs (n : Nat) : a9_.d.Fs := ()
theorem a9_.ok (n : Nat) : CxOk E (cx n a9_.d.nt) → KPar (cx n a9_.d.nt) → a9_.d.Ok E (a9_.F (n + 1)) :=
  FD.ok (fs := a9_.fs n) a7_ Tryz.func189 (by kernel_rfl) (by kernel_rfl) (by kernel_rfl) (by kernel_rfl) (fun _ => by kernel_rfl) (by kernel_rfl) (fun x => by kernel_rfl) (.nil)
noncomputable def as_.fs (n : Nat) : as_.d.Fs := (fun _ κe => as_.loop3 n (as_.o0.k (κe 0)) n, ())
theorem as_.r3 (n : Nat) : as_.d.Round (as_.fs n) (cx n as_.d.nt) (cm_ Tryz.f169) 3 as_.p3 (fun κe => as_.step3 n (as_.o0.k (κe 0))) := fun κ κe x y => by kernel_rfl
theorem as_.ok (n : Nat) : CxOk E (cx n as_.d.nt) → KPar (cx n as_.d.nt) → as_.d.Ok E (as_.F (n + 1)) :=
  FD.ok (fs := as_.fs n) a7_ Tryz.func169 (by kernel_rfl) (by kernel_rfl) (by kernel_rfl) (by kernel_rfl) (fun _ => by kernel_rfl) (by kernel_rfl) (fun x => by kernel_rfl) (.cons (FD.lp n (as_.r3 n) (by kernel_rfl) fun _ _ => by kernel_rfl) (.nil))
noncomputable def am_.fs (n : Nat) : am_.d.Fs := (fun _ κe => am_.loop3 n (am_.o0.k (κe 0)) n, ())
theorem am_.r3 (n : Nat) : am_.d.Round (am_.fs n) (cx n am_.d.nt) (cm_ Tryz.f190) 3 am_.p3 (fun κe => am_.step3 n (am_.o0.k (κe 0))) := fun κ κe x y => by kernel_rfl
theorem am_.ok (n : Nat) : CxOk E (cx n am_.d.nt) → KPar (cx n am_.d.nt) → am_.d.Ok E (am_.F (n + 1)) :=
  FD.ok (fs := am_.fs n) a7_ Tryz.func190 (by kernel_rfl) (by kernel_rfl) (by kernel_rfl) (by kernel_rfl) (fun _ => by kernel_rfl) (by kernel_rfl) (fun x => by kernel_rfl) (.cons (FD.lp n (am_.r3 n) (by kernel_rfl) fun _ _ => by kernel_rfl) (.nil))
noncomputable def cn_.fs (n : Nat) : cn_.d.Fs := ()
theorem cn_.ok (n : Nat) : CxOk E (cx n cn_.d.nt) → KPar (cx n cn_.d.nt) → cn_.d.Ok E (cn_.F (n + 1)) :=
  FD.ok (fs := cn_.fs n) a7_ Tryz.func168 (by kernel_rfl) (by kernel_rfl) (by kernel_rfl) (by kernel_rfl) (fun _ => by kernel_rfl) (by kernel_rfl) (fun x => by kernel_rfl) (.nil)
noncomputable def aW_.fs (n : Nat) : aW_.d.Fs := (fun _ κe => aW_.loop7 n (aW_ n) (aW_.o0.k (κe 0)) n, ())
theorem aW_.r7 (n : Nat) : aW_.d.Round (aW_.fs n) (cx n aW_.d.nt) (cm_ Tryz.f133) 7 aW_.p7 (fun κe => aW_.step7 n (aW_ n) (aW_.o0.k (κe 0))) := fun κ κe x y => by kernel_rfl
theorem aW_.ok (n : Nat) : CxOk E (cx n aW_.d.nt) → KPar (cx n aW_.d.nt) → aW_.d.Ok E (aW_.F (n + 1)) :=
  FD.ok (fs := aW_.fs n) a7_ Tryz.func133 (by kernel_rfl) (by kernel_rfl) (by kernel_rfl) (by kernel_rfl) (fun _ => by kernel_rfl) (by kernel_rfl) (fun x => by kernel_rfl) (.cons (FD.lp n (aW_.r7 n) (by kernel_rfl) fun _ _ => by kernel_rfl) (.nil))
noncomputable def bN_.fs (n : Nat) : bN_.d.Fs := ()
theorem bN_.ok (n : Nat) : CxOk E (cx n bN_.d.nt) → KPar (cx n bN_.d.nt) → bN_.d.Ok E (bN_.F (n + 1)) :=
  FD.ok (fs := bN_.fs n) a7_ Tryz.func109 (by kernel_rfl) (by kernel_rfl) (by kernel_rfl) (by kernel_rfl) (fun _ => by kernel_rfl) (by kernel_rfl) (fun x => by kernel_rfl) (.nil)
noncomputable def a8_.fs (n : Nat) : a8_.d.Fs := (fun _ κe => a8_.loop4 n (a8_.o0.k (κe 0)) n, ())
theorem a8_.r4 (n : Nat) : a8_.d.Round (a8_.fs n) (cx n a8_.d.nt) (cm_ Tryz.f160) 4 a8_.p4 (fun κe => a8_.step4 n (a8_.o0.k (κe 0))) := fun κ κe x y => by kernel_rfl
theorem a8_.ok (n : Nat) : CxOk E (cx n a8_.d.nt) → KPar (cx n a8_.d.nt) → a8_.d.Ok E (a8_.F (n + 1)) :=
  FD.ok (fs := a8_.fs n) a7_ Tryz.func160 (by kernel_rfl) (by kernel_rfl) (by kernel_rfl) (by kernel_rfl) (fun _ => by kernel_rfl) (by kernel_rfl) (fun x => by kernel_rfl) (.cons (FD.lp n (a8_.r4 n) (by kernel_rfl) fun _ _ => by kernel_rfl) (.nil))
noncomputable def aN_.fs (n : Nat) : aN_.d.Fs := (fun _ κe => aN_.loop4 n (aN_ n) (aN_.o0.k (κe 0)) n, ())
theorem aN_.r4 (n : Nat) : aN_.d.Round (aN_.fs n) (cx n aN_.d.nt) (cm_ Tryz.f129) 4 aN_.p4 (fun κe => aN_.step4 n (aN_ n) (aN_.o0.k (κe 0))) := fun κ κe x y => by kernel_rfl
theorem aN_.ok (n : Nat) : CxOk E (cx n aN_.d.nt) → KPar (cx n aN_.d.nt) → aN_.d.Ok E (aN_.F (n + 1)) :=
  FD.ok (fs := aN_.fs n) a7_ Tryz.func129 (by kernel_rfl) (by kernel_rfl) (by kernel_rfl) (by kernel_rfl) (fun _ => by kernel_rfl) (by kernel_rfl) (fun x => by kernel_rfl) (.cons (FD.lp n (aN_.r4 n) (by kernel_rfl) fun _ _ => by kernel_rfl) (.nil))
noncomputable def bX_.fs (n : Nat) : bX_.d.Fs := ()
theorem bX_.ok (n : Nat) : CxOk E (cx n bX_.d.nt) → KPar (cx n bX_.d.nt) → bX_.d.Ok E (bX_.F (n + 1)) :=
  FD.ok (fs := bX_.fs n) a7_ Tryz.func92 (by kernel_rfl) (by kernel_rfl) (by kernel_rfl) (by kernel_rfl) (fun _ => by kernel_rfl) (by kernel_rfl) (fun x => by kernel_rfl) (.nil)
noncomputable def bZ_.fs (n : Nat) : bZ_.d.Fs := ()
theorem bZ_.ok (n : Nat) : CxOk E (cx n bZ_.d.nt) → KPar (cx n bZ_.d.nt) → bZ_.d.Ok E (bZ_.F (n + 1)) :=
  FD.ok (fs := bZ_.fs n) a7_ Tryz.func88 (by kernel_rfl) (by kernel_rfl) (by kernel_rfl) (by kernel_rfl) (fun _ => by kernel_rfl) (by kernel_rfl) (fun x => by kernel_rfl) (.nil)
noncomputable def aj_.fs (n : Nat) : aj_.d.Fs := (fun _ κe => aj_.loop3 n (aj_.o0.k (κe 0)) n, ())
theorem aj_.r3 (n : Nat) : aj_.d.Round (aj_.fs n) (cx n aj_.d.nt) (cm_ Tryz.f156) 3 aj_.p3 (fun κe => aj_.step3 n (aj_.o0.k (κe 0))) := fun κ κe x y => by kernel_rfl
theorem aj_.ok (n : Nat) : CxOk E (cx n aj_.d.nt) → KPar (cx n aj_.d.nt) → aj_.d.Ok E (aj_.F (n + 1)) :=
  FD.ok (fs := aj_.fs n) a7_ Tryz.func156 (by kernel_rfl) (by kernel_rfl) (by kernel_rfl) (by kernel_rfl) (fun _ => by kernel_rfl) (by kernel_rfl) (fun x => by kernel_rfl) (.cons (FD.lp n (aj_.r3 n) (by kernel_rfl) fun _ _ => by kernel_rfl) (.nil))
noncomputable def bD_.fs (n : Nat) : bD_.d.Fs := ()
theorem bD_.ok (n : Nat) : CxOk E (cx n bD_.d.nt) → KPar (cx n bD_.d.nt) → bD_.d.Ok E (bD_.F (n + 1)) :=
  FD.ok (fs := bD_.fs n) a7_ Tryz.func108 (by kernel_rfl) (by kernel_rfl) (by kernel_rfl) (by kernel_rfl) (fun _ => by kernel_rfl) (by kernel_rfl) (fun x => by kernel_rfl) (.nil)
noncomputable def aJ_.fs (n : Nat) : aJ_.d.Fs := (fun _ κe => aJ_.loop4 n (aJ_ n) (aJ_.o0.k (κe 0)) n, ())
theorem aJ_.r4 (n : Nat) : aJ_.d.Round (aJ_.fs n) (cx n aJ_.d.nt) (cm_ Tryz.f67) 4 aJ_.p4 (fun κe => aJ_.step4 n (aJ_ n) (aJ_.o0.k (κe 0))) := fun κ κe x y => by kernel_rfl
theorem aJ_.ok (n : Nat) : CxOk E (cx n aJ_.d.nt) → KPar (cx n aJ_.d.nt) → aJ_.d.Ok E (aJ_.F (n + 1)) :=
  FD.ok (fs := aJ_.fs n) a7_ Tryz.func67 (by kernel_rfl) (by kernel_rfl) (by kernel_rfl) (by kernel_rfl) (fun _ => by kernel_rfl) (by kernel_rfl) (fun x => by kernel_rfl) (.cons (FD.lp n (aJ_.r4 n) (by kernel_rfl) fun _ _ => by kernel_rfl) (.nil))
noncomputable def ck_.fs (n : Nat) : ck_.d.Fs := ()
theorem ck_.ok (n : Nat) : CxOk E (cx n ck_.d.nt) → KPar (cx n ck_.d.nt) → ck_.d.Ok E (ck_.F (n + 1)) :=
  FD.ok (fs := ck_.fs n) a7_ Tryz.func154 (by kernel_rfl) (by kernel_rfl) (by kernel_rfl) (by kernel_rfl) (fun _ => by kernel_rfl) (by kernel_rfl) (fun x => by kernel_rfl) (.nil)
noncomputable def aV_.fs (n : Nat) : aV_.d.Fs := (fun _ κe => aV_.loop4 n (aV_.o0.k (κe 0)) n, ())
theorem aV_.r4 (n : Nat) : aV_.d.Round (aV_.fs n) (cx n aV_.d.nt) (cm_ Tryz.f162) 4 aV_.p4 (fun κe => aV_.step4 n (aV_.o0.k (κe 0))) := fun κ κe x y => by kernel_rfl
theorem aV_.ok (n : Nat) : CxOk E (cx n aV_.d.nt) → KPar (cx n aV_.d.nt) → aV_.d.Ok E (aV_.F (n + 1)) :=
  FD.ok (fs := aV_.fs n) a7_ Tryz.func162 (by kernel_rfl) (by kernel_rfl) (by kernel_rfl) (by kernel_rfl) (fun _ => by kernel_rfl) (by kernel_rfl) (fun x => by kernel_rfl) (.cons (FD.lp n (aV_.r4 n) (by kernel_rfl) fun _ _ => by kernel_rfl) (.nil))
noncomputable def a1_.fs (n : Nat) : a1_.d.Fs := (fun _ κe => a1_.loop7 n (a1_.o0.k (κe 0)) n, ())
theorem a1_.r7 (n : Nat) : a1_.d.Round (a1_.fs n) (cx n a1_.d.nt) (cm_ Tryz.f155) 7 a1_.p7 (fun κe => a1_.step7 n (a1_.o0.k (κe 0))) := fun κ κe x y => by kernel_rfl
theorem a1_.ok (n : Nat) : CxOk E (cx n a1_.d.nt) → KPar (cx n a1_.d.nt) → a1_.d.Ok E (a1_.F (n + 1)) :=
  FD.ok (fs := a1_.fs n) a7_ Tryz.func155 (by kernel_rfl) (by kernel_rfl) (by kernel_rfl) (by kernel_rfl) (fun _ => by kernel_rfl) (by kernel_rfl) (fun x => by kernel_rfl) (.cons (FD.lp n (a1_.r7 n) (by kernel_rfl) fun _ _ => by kernel_rfl) (.nil))
noncomputable def bK_.fs (n : Nat) : bK_.d.Fs := ()
theorem bK_.ok (n : Nat) : CxOk E (cx n bK_.d.nt) → KPar (cx n bK_.d.nt) → bK_.d.Ok E (bK_.F (n + 1)) :=
  FD.ok (fs := bK_.fs n) a7_ Tryz.func157 (by kernel_rfl) (by kernel_rfl) (by kernel_rfl) (by kernel_rfl) (fun _ => by kernel_rfl) (by kernel_rfl) (fun x => by kernel_rfl) (.nil)
noncomputable def b4_.fs (n : Nat) : b4_.d.Fs := ()
theorem b4_.ok (n : Nat) : CxOk E (cx n b4_.d.nt) → KPar (cx n b4_.d.nt) → b4_.d.Ok E (b4_.F (n + 1)) :=
  FD.ok (fs := b4_.fs n) a7_ Tryz.func106 (by kernel_rfl) (by kernel_rfl) (by kernel_rfl) (by kernel_rfl) (fun _ => by kernel_rfl) (by kernel_rfl) (fun x => by kernel_rfl) (.nil)
noncomputable def bm_.fs (n : Nat) : bm_.d.Fs := (fun _ κe => bm_.loop3 n (bm_.o0.k (κe 0)) n, ())
theorem bm_.r3 (n : Nat) : bm_.d.Round (bm_.fs n) (cx n bm_.d.nt) (cm_ Tryz.f134) 3 bm_.p3 (fun κe => bm_.step3 n (bm_.o0.k (κe 0))) := fun κ κe x y => by kernel_rfl
theorem bm_.ok (n : Nat) : CxOk E (cx n bm_.d.nt) → KPar (cx n bm_.d.nt) → bm_.d.Ok E (bm_.F (n + 1)) :=
  FD.ok (fs := bm_.fs n) a7_ Tryz.func134 (by kernel_rfl) (by kernel_rfl) (by kernel_rfl) (by kernel_rfl) (fun _ => by kernel_rfl) (by kernel_rfl) (fun x => by kernel_rfl) (.cons (FD.lp n (bm_.r3 n) (by kernel_rfl) fun _ _ => by kernel_rfl) (.nil))
noncomputable def b9_.fs (n : Nat) : b9_.d.Fs := ()
theorem b9_.ok (n : Nat) : CxOk E (cx n b9_.d.nt) → KPar (cx n b9_.d.nt) → b9_.d.Ok E (b9_.F (n + 1)) :=
  FD.ok (fs := b9_.fs n) a7_ Tryz.func163 (by kernel_rfl) (by kernel_rfl) (by kernel_rfl) (by kernel_rfl) (fun _ => by kernel_rfl) (by kernel_rfl) (fun x => by kernel_rfl) (.nil)
noncomputable def cb_.fs (n : Nat) : cb_.d.Fs := ()
theorem cb_.ok (n : Nat) : CxOk E (cx n cb_.d.nt) → KPar (cx n cb_.d.nt) → cb_.d.Ok E (cb_.F (n + 1)) :=
  FD.ok (fs := cb_.fs n) a7_ Tryz.func130 (by kernel_rfl) (by kernel_rfl) (by kernel_rfl) (by kernel_rfl) (fun _ => by kernel_rfl) (by kernel_rfl) (fun x => by kernel_rfl) (.nil)
noncomputable def ak_.fs (n : Nat) : ak_.d.Fs := (fun _ κe => ak_.loop6 n (ak_.o0.k (κe 0)) n, ())
theorem ak_.r6 (n : Nat) : ak_.d.Round (ak_.fs n) (cx n ak_.d.nt) (cm_ Tryz.f201) 6 ak_.p6 (fun κe => ak_.step6 n (ak_.o0.k (κe 0))) := fun κ κe x y => by kernel_rfl
theorem ak_.ok (n : Nat) : CxOk E (cx n ak_.d.nt) → KPar (cx n ak_.d.nt) → ak_.d.Ok E (ak_.F (n + 1)) :=
  FD.ok (fs := ak_.fs n) a7_ Tryz.func201 (by kernel_rfl) (by kernel_rfl) (by kernel_rfl) (by kernel_rfl) (fun _ => by kernel_rfl) (by kernel_rfl) (fun x => by kernel_rfl) (.cons (FD.lp n (ak_.r6 n) (by kernel_rfl) fun _ _ => by kernel_rfl) (.nil))
noncomputable def ab_.fs (n : Nat) : ab_.d.Fs := (fun _ κe => ab_.loop6 n (cd_ n) (ab_.o0.k (κe 0)) n, ())
theorem ab_.r6 (n : Nat) : ab_.d.Round (ab_.fs n) (cx n ab_.d.nt) (cm_ Tryz.f202) 6 ab_.p6 (fun κe => ab_.step6 n (cd_ n) (ab_.o0.k (κe 0))) := fun κ κe x y => by kernel_rfl
theorem ab_.ok (n : Nat) : CxOk E (cx n ab_.d.nt) → KPar (cx n ab_.d.nt) → ab_.d.Ok E (ab_.F (n + 1)) :=
  FD.ok (fs := ab_.fs n) a7_ Tryz.func202 (by kernel_rfl) (by kernel_rfl) (by kernel_rfl) (by kernel_rfl) (fun _ => by kernel_rfl) (by kernel_rfl) (fun x => by kernel_rfl) (.cons (FD.lp n (ab_.r6 n) (by kernel_rfl) fun _ _ => by kernel_rfl) (.nil))
noncomputable def cd_.fs (n : Nat) : cd_.d.Fs := ()
theorem cd_.ok (n : Nat) : CxOk E (cx n cd_.d.nt) → KPar (cx n cd_.d.nt) → cd_.d.Ok E (cd_.F (n + 1)) :=
  FD.ok (fs := cd_.fs n) a7_ Tryz.func182 (by kernel_rfl) (by kernel_rfl) (by kernel_rfl) (by kernel_rfl) (fun _ => by kernel_rfl) (by kernel_rfl) (fun x => by kernel_rfl) (.nil)
noncomputable def bR_.fs (n : Nat) : bR_.d.Fs := ()
theorem bR_.ok (n : Nat) : CxOk E (cx n bR_.d.nt) → KPar (cx n bR_.d.nt) → bR_.d.Ok E (bR_.F (n + 1)) :=
  FD.ok (fs := bR_.fs n) a7_ Tryz.func158 (by kernel_rfl) (by kernel_rfl) (by kernel_rfl) (by kernel_rfl) (fun _ => by kernel_rfl) (by kernel_rfl) (fun x => by kernel_rfl) (.nil)
noncomputable def b5_.fs (n : Nat) : b5_.d.Fs := ()
theorem b5_.ok (n : Nat) : CxOk E (cx n b5_.d.nt) → KPar (cx n b5_.d.nt) → b5_.d.Ok E (b5_.F (n + 1)) :=
  FD.ok (fs := b5_.fs n) a7_ Tryz.func127 (by kernel_rfl) (by kernel_rfl) (by kernel_rfl) (by kernel_rfl) (fun _ => by kernel_rfl) (by kernel_rfl) (fun x => by kernel_rfl) (.nil)
noncomputable def bc_.fs (n : Nat) : bc_.d.Fs := (fun _ κe => bc_.loop4 n (bc_.o0.k (κe 0)) n, ())
theorem bc_.r4 (n : Nat) : bc_.d.Round (bc_.fs n) (cx n bc_.d.nt) (cm_ Tryz.f90) 4 bc_.p4 (fun κe => bc_.step4 n (bc_.o0.k (κe 0))) := fun κ κe x y => by kernel_rfl
theorem bc_.ok (n : Nat) : CxOk E (cx n bc_.d.nt) → KPar (cx n bc_.d.nt) → bc_.d.Ok E (bc_.F (n + 1)) :=
  FD.ok (fs := bc_.fs n) a7_ Tryz.func90 (by kernel_rfl) (by kernel_rfl) (by kernel_rfl) (by kernel_rfl) (fun _ => by kernel_rfl) (by kernel_rfl) (fun x => by kernel_rfl) (.cons (FD.lp n (bc_.r4 n) (by kernel_rfl) fun _ _ => by kernel_rfl) (.nil))
noncomputable def bL_.fs (n : Nat) : bL_.d.Fs := ()
theorem bL_.ok (n : Nat) : CxOk E (cx n bL_.d.nt) → KPar (cx n bL_.d.nt) → bL_.d.Ok E (bL_.F (n + 1)) :=
  FD.ok (fs := bL_.fs n) a7_ Tryz.func49 (by kernel_rfl) (by kernel_rfl) (by kernel_rfl) (by kernel_rfl) (fun _ => by kernel_rfl) (by kernel_rfl) (fun x => by kernel_rfl) (.nil)
noncomputable def bz_.fs (n : Nat) : bz_.d.Fs := ()
theorem bz_.ok (n : Nat) : CxOk E (cx n bz_.d.nt) → KPar (cx n bz_.d.nt) → bz_.d.Ok E (bz_.F (n + 1)) :=
  FD.ok (fs := bz_.fs n) a7_ Tryz.func104 (by kernel_rfl) (by kernel_rfl) (by kernel_rfl) (by kernel_rfl) (fun _ => by kernel_rfl) (by kernel_rfl) (fun x => by kernel_rfl) (.nil)
noncomputable def aR_.fs (n : Nat) : aR_.d.Fs := (fun _ κe => aR_.loop4 n (aR_.o0.k (κe 0)) n, ())
theorem aR_.r4 (n : Nat) : aR_.d.Round (aR_.fs n) (cx n aR_.d.nt) (cm_ Tryz.f93) 4 aR_.p4 (fun κe => aR_.step4 n (aR_.o0.k (κe 0))) := fun κ κe x y => by kernel_rfl
theorem aR_.ok (n : Nat) : CxOk E (cx n aR_.d.nt) → KPar (cx n aR_.d.nt) → aR_.d.Ok E (aR_.F (n + 1)) :=
  FD.ok (fs := aR_.fs n) a7_ Tryz.func93 (by kernel_rfl) (by kernel_rfl) (by kernel_rfl) (by kernel_rfl) (fun _ => by kernel_rfl) (by kernel_rfl) (fun x => by kernel_rfl) (.cons (FD.lp n (aR_.r4 n) (by kernel_rfl) fun _ _ => by kernel_rfl) (.nil))
noncomputable def bE_.fs (n : Nat) : bE_.d.Fs := ()
theorem bE_.ok (n : Nat) : CxOk E (cx n bE_.d.nt) → KPar (cx n bE_.d.nt) → bE_.d.Ok E (bE_.F (n + 1)) :=
  FD.ok (fs := bE_.fs n) a7_ Tryz.func107 (by kernel_rfl) (by kernel_rfl) (by kernel_rfl) (by kernel_rfl) (fun _ => by kernel_rfl) (by kernel_rfl) (fun x => by kernel_rfl) (.nil)
noncomputable def b1_.fs (n : Nat) : b1_.d.Fs := ()
theorem b1_.ok (n : Nat) : CxOk E (cx n b1_.d.nt) → KPar (cx n b1_.d.nt) → b1_.d.Ok E (b1_.F (n + 1)) :=
  FD.ok (fs := b1_.fs n) a7_ Tryz.func66 (by kernel_rfl) (by kernel_rfl) (by kernel_rfl) (by kernel_rfl) (fun _ => by kernel_rfl) (by kernel_rfl) (fun x => by kernel_rfl) (.nil)
noncomputable def ca_.fs (n : Nat) : ca_.d.Fs := ()
theorem ca_.ok (n : Nat) : CxOk E (cx n ca_.d.nt) → KPar (cx n ca_.d.nt) → ca_.d.Ok E (ca_.F (n + 1)) :=
  FD.ok (fs := ca_.fs n) a7_ Tryz.func91 (by kernel_rfl) (by kernel_rfl) (by kernel_rfl) (by kernel_rfl) (fun _ => by kernel_rfl) (by kernel_rfl) (fun x => by kernel_rfl) (.nil)
noncomputable def bF_.fs (n : Nat) : bF_.d.Fs := ()
theorem bF_.ok (n : Nat) : CxOk E (cx n bF_.d.nt) → KPar (cx n bF_.d.nt) → bF_.d.Ok E (bF_.F (n + 1)) :=
  FD.ok (fs := bF_.fs n) a7_ Tryz.func50 (by kernel_rfl) (by kernel_rfl) (by kernel_rfl) (by kernel_rfl) (fun _ => by kernel_rfl) (by kernel_rfl) (fun x => by kernel_rfl) (.nil)
noncomputable def bq_.fs (n : Nat) : bq_.d.Fs := ()
theorem bq_.ok (n : Nat) : CxOk E (cx n bq_.d.nt) → KPar (cx n bq_.d.nt) → bq_.d.Ok E (bq_.F (n + 1)) :=
  FD.ok (fs := bq_.fs n) a7_ Tryz.func10 (by kernel_rfl) (by kernel_rfl) (by kernel_rfl) (by kernel_rfl) (fun _ => by kernel_rfl) (by kernel_rfl) (fun x => by kernel_rfl) (.nil)
noncomputable def aZ_.fs (n : Nat) : aZ_.d.Fs := (fun _ κe => aZ_.loop6 n (bA_ n) (aZ_.o0.k (κe 0)) n, ())
theorem aZ_.r6 (n : Nat) : aZ_.d.Round (aZ_.fs n) (cx n aZ_.d.nt) (cm_ Tryz.f94) 6 aZ_.p6 (fun κe => aZ_.step6 n (bA_ n) (aZ_.o0.k (κe 0))) := fun κ κe x y => by kernel_rfl
theorem aZ_.ok (n : Nat) : CxOk E (cx n aZ_.d.nt) → KPar (cx n aZ_.d.nt) → aZ_.d.Ok E (aZ_.F (n + 1)) :=
  FD.ok (fs := aZ_.fs n) a7_ Tryz.func94 (by kernel_rfl) (by kernel_rfl) (by kernel_rfl) (by kernel_rfl) (fun _ => by kernel_rfl) (by kernel_rfl) (fun x => by kernel_rfl) (.cons (FD.lp n (aZ_.r6 n) (by kernel_rfl) fun _ _ => by kernel_rfl) (.nil))
noncomputable def aG_.fs (n : Nat) : aG_.d.Fs := (fun _ κe => aG_.loop6 n (aG_.o0.k (κe 0)) n, ())
theorem aG_.r6 (n : Nat) : aG_.d.Round (aG_.fs n) (cx n aG_.d.nt) (cm_ Tryz.f39) 6 aG_.p6 (fun κe => aG_.step6 n (aG_.o0.k (κe 0))) := fun κ κe x y => by kernel_rfl
theorem aG_.ok (n : Nat) : CxOk E (cx n aG_.d.nt) → KPar (cx n aG_.d.nt) → aG_.d.Ok E (aG_.F (n + 1)) :=
  FD.ok (fs := aG_.fs n) a7_ Tryz.func39 (by kernel_rfl) (by kernel_rfl) (by kernel_rfl) (by kernel_rfl) (fun _ => by kernel_rfl) (by kernel_rfl) (fun x => by kernel_rfl) (.cons (FD.lp n (aG_.r6 n) (by kernel_rfl) fun _ _ => by kernel_rfl) (.nil))
noncomputable def bA_.fs (n : Nat) : bA_.d.Fs := ()
theorem bA_.ok (n : Nat) : CxOk E (cx n bA_.d.nt) → KPar (cx n bA_.d.nt) → bA_.d.Ok E (bA_.F (n + 1)) :=
  FD.ok (fs := bA_.fs n) a7_ Tryz.func51 (by kernel_rfl) (by kernel_rfl) (by kernel_rfl) (by kernel_rfl) (fun _ => by kernel_rfl) (by kernel_rfl) (fun x => by kernel_rfl) (.nil)
noncomputable def cw_.fs (n : Nat) : cw_.d.Fs := ()
theorem cw_.ok (n : Nat) : CxOk E (cx n cw_.d.nt) → KPar (cx n cw_.d.nt) → cw_.d.Ok E (cw_.F (n + 1)) :=
  FD.ok (fs := cw_.fs n) a7_ Tryz.func95 (by kernel_rfl) (by kernel_rfl) (by kernel_rfl) (by kernel_rfl) (fun _ => by kernel_rfl) (by kernel_rfl) (fun x => by kernel_rfl) (.nil)
noncomputable def bh_.fs (n : Nat) : bh_.d.Fs := (fun _ κe => bh_.loop6 n (bh_.o0.k (κe 0)) n, ())
theorem bh_.r6 (n : Nat) : bh_.d.Round (bh_.fs n) (cx n bh_.d.nt) (cm_ Tryz.f52) 6 bh_.p6 (fun κe => bh_.step6 n (bh_.o0.k (κe 0))) := fun κ κe x y => by kernel_rfl
theorem bh_.ok (n : Nat) : CxOk E (cx n bh_.d.nt) → KPar (cx n bh_.d.nt) → bh_.d.Ok E (bh_.F (n + 1)) :=
  FD.ok (fs := bh_.fs n) a7_ Tryz.func52 (by kernel_rfl) (by kernel_rfl) (by kernel_rfl) (by kernel_rfl) (fun _ => by kernel_rfl) (by kernel_rfl) (fun x => by kernel_rfl) (.cons (FD.lp n (bh_.r6 n) (by kernel_rfl) fun _ _ => by kernel_rfl) (.nil))
noncomputable def bW_.fs (n : Nat) : bW_.d.Fs := ()
theorem bW_.ok (n : Nat) : CxOk E (cx n bW_.d.nt) → KPar (cx n bW_.d.nt) → bW_.d.Ok E (bW_.F (n + 1)) :=
  FD.ok (fs := bW_.fs n) a7_ Tryz.func11 (by kernel_rfl) (by kernel_rfl) (by kernel_rfl) (by kernel_rfl) (fun _ => by kernel_rfl) (by kernel_rfl) (fun x => by kernel_rfl) (.nil)
noncomputable def aE_.fs (n : Nat) : aE_.d.Fs := (fun _ κe => aE_.loop6 n (aE_.o0.k (κe 0)) n, ())
theorem aE_.r6 (n : Nat) : aE_.d.Round (aE_.fs n) (cx n aE_.d.nt) (cm_ Tryz.f69) 6 aE_.p6 (fun κe => aE_.step6 n (aE_.o0.k (κe 0))) := fun κ κe x y => by kernel_rfl
theorem aE_.ok (n : Nat) : CxOk E (cx n aE_.d.nt) → KPar (cx n aE_.d.nt) → aE_.d.Ok E (aE_.F (n + 1)) :=
  FD.ok (fs := aE_.fs n) a7_ Tryz.func69 (by kernel_rfl) (by kernel_rfl) (by kernel_rfl) (by kernel_rfl) (fun _ => by kernel_rfl) (by kernel_rfl) (fun x => by kernel_rfl) (.cons (FD.lp n (aE_.r6 n) (by kernel_rfl) fun _ _ => by kernel_rfl) (.nil))
noncomputable def ap_.fs (n : Nat) : ap_.d.Fs := (fun _ κe => ap_.loop3 n (ap_.o0.k (κe 0)) n, ())
theorem ap_.r3 (n : Nat) : ap_.d.Round (ap_.fs n) (cx n ap_.d.nt) (cm_ Tryz.f40) 3 ap_.p3 (fun κe => ap_.step3 n (ap_.o0.k (κe 0))) := fun κ κe x y => by kernel_rfl
theorem ap_.ok (n : Nat) : CxOk E (cx n ap_.d.nt) → KPar (cx n ap_.d.nt) → ap_.d.Ok E (ap_.F (n + 1)) :=
  FD.ok (fs := ap_.fs n) a7_ Tryz.func40 (by kernel_rfl) (by kernel_rfl) (by kernel_rfl) (by kernel_rfl) (fun _ => by kernel_rfl) (by kernel_rfl) (fun x => by kernel_rfl) (.cons (FD.lp n (ap_.r3 n) (by kernel_rfl) fun _ _ => by kernel_rfl) (.nil))
noncomputable def au_.fs (n : Nat) : au_.d.Fs := (fun _ κe => au_.loop3 n (au_ n) (au_.o0.k (κe 0)) n, ())
theorem au_.r3 (n : Nat) : au_.d.Round (au_.fs n) (cx n au_.d.nt) (cm_ Tryz.f70) 3 au_.p3 (fun κe => au_.step3 n (au_ n) (au_.o0.k (κe 0))) := fun κ κe x y => by kernel_rfl
theorem au_.ok (n : Nat) : CxOk E (cx n au_.d.nt) → KPar (cx n au_.d.nt) → au_.d.Ok E (au_.F (n + 1)) :=
  FD.ok (fs := au_.fs n) a7_ Tryz.func70 (by kernel_rfl) (by kernel_rfl) (by kernel_rfl) (by kernel_rfl) (fun _ => by kernel_rfl) (by kernel_rfl) (fun x => by kernel_rfl) (.cons (FD.lp n (au_.r3 n) (by kernel_rfl) fun _ _ => by kernel_rfl) (.nil))
noncomputable def bP_.fs (n : Nat) : bP_.d.Fs := ()
theorem bP_.ok (n : Nat) : CxOk E (cx n bP_.d.nt) → KPar (cx n bP_.d.nt) → bP_.d.Ok E (bP_.F (n + 1)) :=
  FD.ok (fs := bP_.fs n) a7_ Tryz.func53 (by kernel_rfl) (by kernel_rfl) (by kernel_rfl) (by kernel_rfl) (fun _ => by kernel_rfl) (by kernel_rfl) (fun x => by kernel_rfl) (.nil)
noncomputable def aX_.fs (n : Nat) : aX_.d.Fs := (fun _ κe => aX_.loop3 n (aX_.o0.k (κe 0)) n, ())
theorem aX_.r3 (n : Nat) : aX_.d.Round (aX_.fs n) (cx n aX_.d.nt) (cm_ Tryz.f54) 3 aX_.p3 (fun κe => aX_.step3 n (aX_.o0.k (κe 0))) := fun κ κe x y => by kernel_rfl
theorem aX_.ok (n : Nat) : CxOk E (cx n aX_.d.nt) → KPar (cx n aX_.d.nt) → aX_.d.Ok E (aX_.F (n + 1)) :=
  FD.ok (fs := aX_.fs n) a7_ Tryz.func54 (by kernel_rfl) (by kernel_rfl) (by kernel_rfl) (by kernel_rfl) (fun _ => by kernel_rfl) (by kernel_rfl) (fun x => by kernel_rfl) (.cons (FD.lp n (aX_.r3 n) (by kernel_rfl) fun _ _ => by kernel_rfl) (.nil))
end Go.Pi
end
section
set_option linter.unusedVariables false
set_option maxRecDepth 100000
namespace Go.Pi
open Go.Proofs
noncomputable def bC_.fs (n : Nat) : bC_.d.Fs := ()
theorem bC_.ok (n : Nat) : CxOk E (cx n bC_.d.nt) → KPar (cx n bC_.d.nt) → bC_.d.Ok E (bC_.F (n + 1)) :=
  FD.ok (fs := bC_.fs n) a7_ Tryz.func12 (by kernel_rfl) (by kernel_rfl) (by kernel_rfl) (by kernel_rfl) (fun _ => by kernel_rfl) (by kernel_rfl) (fun x => by kernel_rfl) (.nil)
noncomputable def aq_.fs (n : Nat) : aq_.d.Fs := (fun _ κe => aq_.loop3 n (aq_.o0.k (κe 0)) n, ())
theorem aq_.r3 (n : Nat) : aq_.d.Round (aq_.fs n) (cx n aq_.d.nt) (cm_ Tryz.f74) 3 aq_.p3 (fun κe => aq_.step3 n (aq_.o0.k (κe 0))) := fun κ κe x y => by kernel_rfl
theorem aq_.ok (n : Nat) : CxOk E (cx n aq_.d.nt) → KPar (cx n aq_.d.nt) → aq_.d.Ok E (aq_.F (n + 1)) :=
  FD.ok (fs := aq_.fs n) a7_ Tryz.func74 (by kernel_rfl) (by kernel_rfl) (by kernel_rfl) (by kernel_rfl) (fun _ => by kernel_rfl) (by kernel_rfl) (fun x => by kernel_rfl) (.cons (FD.lp n (aq_.r3 n) (by kernel_rfl) fun _ _ => by kernel_rfl) (.nil))
noncomputable def av_.fs (n : Nat) : av_.d.Fs := (fun _ κe => av_.loop3 n (av_ n) (av_.o0.k (κe 0)) n, ())
theorem av_.r3 (n : Nat) : av_.d.Round (av_.fs n) (cx n av_.d.nt) (cm_ Tryz.f73) 3 av_.p3 (fun κe => av_.step3 n (av_ n) (av_.o0.k (κe 0))) := fun κ κe x y => by kernel_rfl
theorem av_.ok (n : Nat) : CxOk E (cx n av_.d.nt) → KPar (cx n av_.d.nt) → av_.d.Ok E (av_.F (n + 1)) :=
  FD.ok (fs := av_.fs n) a7_ Tryz.func73 (by kernel_rfl) (by kernel_rfl) (by kernel_rfl) (by kernel_rfl) (fun _ => by kernel_rfl) (by kernel_rfl) (fun x => by kernel_rfl) (.cons (FD.lp n (av_.r3 n) (by kernel_rfl) fun _ _ => by kernel_rfl) (.nil))
noncomputable def bQ_.fs (n : Nat) : bQ_.d.Fs := ()
theorem bQ_.ok (n : Nat) : CxOk E (cx n bQ_.d.nt) → KPar (cx n bQ_.d.nt) → bQ_.d.Ok E (bQ_.F (n + 1)) :=
  FD.ok (fs := bQ_.fs n) a7_ Tryz.func55 (by kernel_rfl) (by kernel_rfl) (by kernel_rfl) (by kernel_rfl) (fun _ => by kernel_rfl) (by kernel_rfl) (fun x => by kernel_rfl) (.nil)
noncomputable def aY_.fs (n : Nat) : aY_.d.Fs := (fun _ κe => aY_.loop3 n (aY_.o0.k (κe 0)) n, ())
theorem aY_.r3 (n : Nat) : aY_.d.Round (aY_.fs n) (cx n aY_.d.nt) (cm_ Tryz.f56) 3 aY_.p3 (fun κe => aY_.step3 n (aY_.o0.k (κe 0))) := fun κ κe x y => by kernel_rfl
theorem aY_.ok (n : Nat) : CxOk E (cx n aY_.d.nt) → KPar (cx n aY_.d.nt) → aY_.d.Ok E (aY_.F (n + 1)) :=
  FD.ok (fs := aY_.fs n) a7_ Tryz.func56 (by kernel_rfl) (by kernel_rfl) (by kernel_rfl) (by kernel_rfl) (fun _ => by kernel_rfl) (by kernel_rfl) (fun x => by kernel_rfl) (.cons (FD.lp n (aY_.r3 n) (by kernel_rfl) fun _ _ => by kernel_rfl) (.nil))
noncomputable def by_.fs (n : Nat) : by_.d.Fs := ()
theorem by_.ok (n : Nat) : CxOk E (cx n by_.d.nt) → KPar (cx n by_.d.nt) → by_.d.Ok E (by_.F (n + 1)) :=
  FD.ok (fs := by_.fs n) a7_ Tryz.func13 (by kernel_rfl) (by kernel_rfl) (by kernel_rfl) (by kernel_rfl) (fun _ => by kernel_rfl) (by kernel_rfl) (fun x => by kernel_rfl) (.nil)
noncomputable def laws_FnExactEventRead.fs (n : Nat) : laws_FnExactEventRead.d.Fs := ()
theorem laws_FnExactEventRead.ok (n : Nat) : CxOk E (cx n laws_FnExactEventRead.d.nt) → KPar (cx n laws_FnExactEventRead.d.nt) → laws_FnExactEventRead.d.Ok E (laws_FnExactEventRead.F (n + 1)) :=
  FD.ok (fs := laws_FnExactEventRead.fs n) a7_ Tryz.func3 (by kernel_rfl) (by kernel_rfl) (by kernel_rfl) (by kernel_rfl) (fun _ => by kernel_rfl) (by kernel_rfl) (fun x => by kernel_rfl) (.nil)
end Go.Pi
end
