/- The program's ClientTake returns what the reference's returns, for all arguments, leaves its arguments unmodified and returns memory that it shares with nothing. Text 4 of 6. -/
import Derived.Test.YtccdklkcfjmchaaGreatDoorCtC
import Derived.Shelf.RegionOpenPlain
import Derived.WalkKit
import Derived.Deep.RegionLaw
import Derived.Lib.Walk
import Derived.Lib.SliceRun
import Derived.Laws.CopyRow
import Derived.RowKit
import Derived.Lib.Overlaps
import Derived.Lib.AppendZerosOnto
import Derived.Laws.NewBlocks
import Derived.Laws.Externs
set_option linter.unusedVariables false
set_option maxRecDepth 100000
set_option linter.unusedSimpArgs false
section
namespace Go.Pi
def aw_.step7 (n:Nat) (k0:Int→Option Int) (back:(List Bs)→Int→Int→Option Int) (a:List Bs) (left:Int) (i:Int):Option Int :=
 (cond (decide (i<(a.length:Int))) (inB i a.length (cond (decide ((W (left - ((a.getD i.toNat []).length:Int)))<0)) (some (-1)) (back a (W (left - ((a.getD i.toNat []).length:Int))) (W (i+1))))) (k0 left))
def aw_.loop7 (n:Nat) (k0:Int→Option Int) (N:Nat):(List Bs)→Int→Int→Option Int :=
 cD_ (fun _ _ _=>none) (fun back=>aw_.step7 n k0 back) N
def aw_:Nat→(List Bs)→Int→Option Int
 |0,_,_=>none
 |n+1,a,left=>
  (cond (decide ((W (left - (a.length:Int)))<0)) (some (-1)) (aw_.loop7 n (fun xy1=>(some xy1)) n a (W (left - (a.length:Int))) 0))
def aJ_.step7 (n:Nat) (laws_szJson_:aa_→Int→Option Int) (k0:Int→Option Int) (back:(List aa_)→Int→Int→Option Int) (a:List aa_) (left:Int) (i:Int):Option Int :=
 (cond (decide (i<(a.length:Int))) (inB i a.length ((laws_szJson_ (aa_.re (a.getD i.toNat aa_.dflt)) left).bind fun xr1=>(cond (decide (xr1<0)) (some (-1)) (back a xr1 (W (i+1)))))) (k0 left))
def aJ_.loop7 (n:Nat) (laws_szJson_:aa_→Int→Option Int) (k0:Int→Option Int) (N:Nat):(List aa_)→Int→Int→Option Int :=
 cD_ (fun _ _ _=>none) (fun back=>aJ_.step7 n laws_szJson_ k0 back) N
mutual
def bi_:Nat→aa_→Int→Option Int
 |0,_,_=>none
 |n+1,a,left=>
  (cond (decide ((W (left - (a.s.length:Int)))<0)) (some (-1)) ((aJ_ n a.list (W (left - (a.s.length:Int)))).bind fun xr1=>(cond (decide (xr1<0)) (some (-1)) ((aw_ n a.names xr1).bind fun xr2=>(cond (decide (xr2<0)) (some (-1)) (some xr2))))))
def aJ_:Nat→(List aa_)→Int→Option Int
 |0,_,_=>none
 |n+1,a,left=>
  (cond (decide ((W (left - (a.length:Int)))<0)) (some (-1)) (aJ_.loop7 n (bi_ n) (fun xy2=>(some xy2)) n a (W (left - (a.length:Int))) 0))
end
def bF_:Nat→aF_→Int→Option Int
 |0,_,_=>none
 |n+1,a,left=>
  ((bi_ n (aa_.re a.doc) left).bind fun xr1=>(cond (decide (xr1<0)) (some (-1)) (some xr1)))
def ct_:Nat→TOp→Int→Option Int
 |0,_,_=>none
 |n+1,a,left=>
  ((aw_ n a.way left).bind fun xr1=>(cond (decide (xr1<0)) (some (-1)) ((bi_ n (aa_.re a.value) xr1).bind fun xr2=>(cond (decide (xr2<0)) (some (-1)) (some xr2)))))
def a0_.step7 (n:Nat) (k0:Int→Option Int) (back:(List TOp)→Int→Int→Option Int) (a:List TOp) (left:Int) (i:Int):Option Int :=
 (cond (decide (i<(a.length:Int))) (inB i a.length ((ct_ n { (a.getD i.toNat TOp.dflt) with value:=(aa_.re ((a.getD i.toNat TOp.dflt).value)) } left).bind fun xr1=>(cond (decide (xr1<0)) (some (-1)) (back a xr1 (W (i+1)))))) (k0 left))
def a0_.loop7 (n:Nat) (k0:Int→Option Int) (N:Nat):(List TOp)→Int→Int→Option Int :=
 cD_ (fun _ _ _=>none) (fun back=>a0_.step7 n k0 back) N
def a0_:Nat→(List TOp)→Int→Option Int
 |0,_,_=>none
 |n+1,a,left=>
  (cond (decide ((W (left - (a.length:Int)))<0)) (some (-1)) (a0_.loop7 n (fun xy2=>(some xy2)) n a (W (left - (a.length:Int))) 0))
def bQ_:Nat→be_→Int→Option Int
 |0,_,_=>none
 |n+1,a,left=>
  ((bi_ n (aa_.re a.doc) left).bind fun xr1=>(cond (decide (xr1<0)) (some (-1)) ((a0_ n a.ops xr1).bind fun xr2=>(cond (decide (xr2<0)) (some (-1)) (some xr2)))))
def az_.step4 (n:Nat) (k0:(List Bs)→Option (List Bs)) (back:(List Bs)→Int→(List Bs)→Option (List Bs)) (a:List Bs) (i:Int) (out_1:List Bs):Option (List Bs) :=
 (cond (decide (i<(a.length:Int))) (inB i a.length (inB i out_1.length (let xa1:List Bs:=out_1.set i.toNat (a.getD i.toNat []);(back a (W (i+1)) xa1)))) (k0 out_1))
def az_.loop4 (n:Nat) (k0:(List Bs)→Option (List Bs)) (N:Nat):(List Bs)→Int→(List Bs)→Option (List Bs) :=
 cD_ (fun _ _ _=>none) (fun back=>az_.step4 n k0 back) N
def az_:Nat→(List Bs)→Option (List Bs)
 |0,_=>none
 |n+1,a=>
  (cond (decide ((a.length:Int)=(a.length:Int))) (cond (decide (0≤(a.length:Int))) (cond (decide ((a.length:Int)*16≤140737488355328)) (az_.loop4 n (fun xy2=>(some xy2)) n a 0 (List.replicate (a.length:Int).toNat [])) none) none) none)
def aK_.step4 (n:Nat) (laws_toJson_:aa_→Option aa_) (k0:(List aa_)→Option (List aa_)) (back:(List aa_)→Int→(List aa_)→Option (List aa_)) (a:List aa_) (i:Int) (out_1:List aa_):Option (List aa_) :=
 (cond (decide (i<(a.length:Int))) (inB i a.length ((laws_toJson_ (aa_.re (a.getD i.toNat aa_.dflt))).bind fun xr1=>(inB i out_1.length (let xa2:List aa_:=out_1.set i.toNat (aa_.re xr1);(back a (W (i+1)) xa2))))) (k0 out_1))
def aK_.loop4 (n:Nat) (laws_toJson_:aa_→Option aa_) (k0:(List aa_)→Option (List aa_)) (N:Nat):(List aa_)→Int→(List aa_)→Option (List aa_) :=
 cD_ (fun _ _ _=>none) (fun back=>aK_.step4 n laws_toJson_ k0 back) N
mutual
def bn_:Nat→aa_→Option aa_
 |0,_=>none
 |n+1,a=>
  ((aK_ n a.list).bind fun xr1=>((az_ n a.names).bind fun xr2=>(some (aa_.mk a.kind a.n_ a.s xr1 xr2))))
def aK_:Nat→(List aa_)→Option (List aa_)
 |0,_=>none
 |n+1,a=>
  (cond (decide ((a.length:Int)=(a.length:Int))) (cond (decide (0≤(a.length:Int))) (cond (decide ((a.length:Int)*80≤140737488355328)) (aK_.loop4 n (bn_ n) (fun xy3=>(some xy3)) n a 0 (List.replicate (a.length:Int).toNat aa_.dflt)) none) none) none)
end
def bu_:Nat→aF_→Option aF_
 |0,_=>none
 |n+1,a=>
  ((bn_ n (aa_.re a.doc)).bind fun xr1=>(some { a with doc:=(aa_.re xr1) }))
def cs_:Nat→TOp→Option TOp
 |0,_=>none
 |n+1,a=>
  ((az_ n a.way).bind fun xr1=>((bn_ n (aa_.re a.value)).bind fun xr2=>(some (TOp.mk a.kind xr1 (aa_.re xr2)))))
def a2_.step4 (n:Nat) (k0:(List TOp)→Option (List TOp)) (back:(List TOp)→Int→(List TOp)→Option (List TOp)) (a:List TOp) (i:Int) (out_1:List TOp):Option (List TOp) :=
 (cond (decide (i<(a.length:Int))) (inB i a.length ((cs_ n { (a.getD i.toNat TOp.dflt) with value:=(aa_.re ((a.getD i.toNat TOp.dflt).value)) }).bind fun xr1=>(inB i out_1.length (let xa2:List TOp:=out_1.set i.toNat { xr1 with value:=(aa_.re xr1.value) };(back a (W (i+1)) xa2))))) (k0 out_1))
def a2_.loop4 (n:Nat) (k0:(List TOp)→Option (List TOp)) (N:Nat):(List TOp)→Int→(List TOp)→Option (List TOp) :=
 cD_ (fun _ _ _=>none) (fun back=>a2_.step4 n k0 back) N
def a2_:Nat→(List TOp)→Option (List TOp)
 |0,_=>none
 |n+1,a=>
  (cond (decide ((a.length:Int)=(a.length:Int))) (cond (decide (0≤(a.length:Int))) (cond (decide ((a.length:Int)*112≤140737488355328)) (a2_.loop4 n (fun xy3=>(some xy3)) n a 0 (List.replicate (a.length:Int).toNat TOp.dflt)) none) none) none)
def bC_:Nat→be_→Option be_
 |0,_=>none
 |n+1,a=>
  ((bn_ n (aa_.re a.doc)).bind fun xr1=>((a2_ n a.ops).bind fun xr2=>(some { a with doc:=(aa_.re xr1),ops:=xr2 })))
def aA_.step4 (n:Nat) (spec_l1Copy_:aa_→Option aa_) (k0:Int→Int→Bs→Int→Int→Bs→(List aa_)→(List Bs)→Option aa_) (back:Int→Int→Int→Bs→(List aa_)→(List Bs)→Int→Int→Bs→Int→Int→Bs→(List aa_)→(List Bs)→Option aa_) (i:Int) (j0:Int) (j1:Int) (j2:Bs) (j3:List aa_) (j4:List Bs) (t20:Int) (t21:Int) (t22:Bs) (out0:Int) (out1:Int) (out2:Bs) (out3:List aa_) (out4:List Bs):Option aa_ :=
 (cond (decide (i<(j3.length:Int))) (inB i j3.length ((spec_l1Copy_ (aa_.re (j3.getD i.toNat aa_.dflt))).bind fun xr1=>(cv_ (out3.length+([(aa_.re xr1)]:List aa_).length) 80 (back (W (i+1)) j0 j1 j2 j3 j4 t20 t21 t22 out0 out1 out2 (out3++([(aa_.re xr1)]:List aa_)) out4)))) (k0 t20 t21 t22 out0 out1 out2 out3 out4))
def aA_.loop4 (n:Nat) (spec_l1Copy_:aa_→Option aa_) (k0:Int→Int→Bs→Int→Int→Bs→(List aa_)→(List Bs)→Option aa_) (N:Nat):Int→Int→Int→Bs→(List aa_)→(List Bs)→Int→Int→Bs→Int→Int→Bs→(List aa_)→(List Bs)→Option aa_ :=
 cD_ (fun _ _ _ _ _ _ _ _ _ _ _ _ _ _=>none) (fun back=>aA_.step4 n spec_l1Copy_ k0 back) N
def aA_:Nat→aa_→Option aa_
 |0,_=>none
 |n+1,j=>
  (cv_ (([]:List Bs).length+j.names.length) 16 (aA_.loop4 n (aA_ n) (fun xy2 xy3 xy4 xy5 xy6 xy7 xy8 xy9=>(some (aa_.mk xy5 xy6 xy7 xy8 xy9))) n 0 j.kind j.n_ j.s j.list j.names 0 0 [] j.kind j.n_ j.s ([]:List aa_) (([]:List Bs)++j.names)))
def bO_:Nat→aF_→Option aF_
 |0,_=>none
 |n+1,c=>
  ((aA_ n (aa_.re c.doc)).bind fun xr1=>(some { c with doc:=(aa_.re xr1) }))
def cb_:Nat→Int→Int→Int→Option Bool
 |0,_,_,_=>none
 |n+1,x,lo,hi=>
  (cond (decide (x≥lo)) (some (decide (x≤hi))) (some false))
def aT_.step3 (n:Nat) (k0:Bs→Option Bool) (back:Bs→Int→Option Bool) (s:Bs) (i:Int):Option Bool :=
 (cond (decide (i<(s.length:Int))) (inB i s.length (cond (decide (((s.getD i.toNat 0).toNat:Int)<32)) (some false) (inB i s.length (cond (decide (((s.getD i.toNat 0).toNat:Int) > 126)) (some false) (back s (W (i+1))))))) (k0 s))
def aT_.loop3 (n:Nat) (k0:Bs→Option Bool) (N:Nat):Bs→Int→Option Bool :=
 cD_ (fun _ _=>none) (fun back=>aT_.step3 n k0 back) N
def aT_:Nat→Bs→Option Bool
 |0,_=>none
 |n+1,s=>
  (aT_.loop3 n (fun xy1=>(some (decide ((xy1.length:Int)≤60)))) n s 0)
def ad_.step6 (n:Nat) (k0:Int→Int→Bs→(List aa_)→(List Bs)→Option Bool) (back:Int→Int→Int→Bs→(List aa_)→(List Bs)→Option Bool) (i:Int) (j0:Int) (j1:Int) (j2:Bs) (j3:List aa_) (j4:List Bs):Option Bool :=
 (cond (decide (i<(j4.length:Int))) (inB i j4.length ((aT_ n (j4.getD i.toNat [])).bind fun xr1=>(cond (!xr1) (some false) (cond (decide (i > 0)) (inB (W (i - 1)) j4.length (inB i j4.length (cond (!Op.bytesLess (j4.getD (W (i - 1)).toNat []) (j4.getD i.toNat [])) (some false) (back (W (i+1)) j0 j1 j2 j3 j4)))) (back (W (i+1)) j0 j1 j2 j3 j4))))) (k0 j0 j1 j2 j3 j4))
def ad_.loop6 (n:Nat) (k0:Int→Int→Bs→(List aa_)→(List Bs)→Option Bool) (N:Nat):Int→Int→Int→Bs→(List aa_)→(List Bs)→Option Bool :=
 cD_ (fun _ _ _ _ _ _=>none) (fun back=>ad_.step6 n k0 back) N
def ad_:Nat→aa_→Option Bool
 |0,_=>none
 |n+1,j=>
  (cond (j.kind != 5) (some ((j.names.length:Int) == 0)) (ad_.loop6 n (fun xy2 xy3 xy4 xy5 xy6=>(some ((xy6.length:Int) == (xy5.length:Int)))) n 0 j.kind j.n_ j.s j.list j.names))
def ax_.step23 (n:Nat) (spec_l1Great_:aa_→Int→Option Int) (k1:Int→Int→Int→Int→Bs→(List aa_)→(List Bs)→Option Int) (back:Int→Int→Int→Int→Int→Int→Bs→(List aa_)→(List Bs)→Option Int) (append:Int) (t5:Int) (t6:Int) (t7:Int) (t20:Int) (t21:Int) (t22:Bs) (t23:List aa_) (t24:List Bs):Option Int :=
 (cond (decide (t7<(t23.length:Int))) (cond (decide (t6≤400)) (inB t7 t23.length ((spec_l1Great_ (aa_.re (t23.getD t7.toNat aa_.dflt)) (W (append - 1))).bind fun xr52=>(back append t5 (W (t6+xr52)) (W (t7+1)) t20 t21 t22 t23 t24))) (k1 t5 t6 t20 t21 t22 t23 t24)) (k1 t5 t6 t20 t21 t22 t23 t24))
def ax_.loop23 (n:Nat) (spec_l1Great_:aa_→Int→Option Int) (k1:Int→Int→Int→Int→Bs→(List aa_)→(List Bs)→Option Int) (N:Nat):Int→Int→Int→Int→Int→Int→Bs→(List aa_)→(List Bs)→Option Int :=
 cD_ (fun _ _ _ _ _ _ _ _ _=>none) (fun back=>ax_.step23 n spec_l1Great_ k1 back) N
def ax_:Nat→aa_→Int→Option Int
 |0,_,_=>none
 |n+1,o,append=>
  (cond (append == 0) (some 401) (cond (o.kind == 0) (cond (o.n_ != 0) (some 401) (cond (o.kind != 3) (cond (!(o.s == [])) (some 401) (cond (o.kind == 3) (cond (o.n_ != 0) (some 401) (cond (decide (o.kind<4)) (cond (decide ((o.list.length:Int) > 0)) (some 401) ((ad_ n (aa_.re o)).bind fun xr1=>(cond (!xr1) (some 401) (some 1)))) ((ad_ n (aa_.re o)).bind fun xr2=>(cond (!xr2) (some 401) (some 1))))) (cond (decide (o.kind≥4)) (cond (o.n_ != 0) (some 401) (cond (decide (o.kind<4)) (cond (decide ((o.list.length:Int) > 0)) (some 401) ((ad_ n (aa_.re o)).bind fun xr3=>(cond (!xr3) (some 401) (some 1)))) ((ad_ n (aa_.re o)).bind fun xr4=>(cond (!xr4) (some 401) (some 1))))) (cond (decide (o.kind<4)) (cond (decide ((o.list.length:Int) > 0)) (some 401) ((ad_ n (aa_.re o)).bind fun xr5=>(cond (!xr5) (some 401) (some 1)))) ((ad_ n (aa_.re o)).bind fun xr6=>(cond (!xr6) (some 401) (some 1))))))) (cond (o.kind == 3) (cond (o.n_ != 0) (some 401) (cond (decide (o.kind<4)) (cond (decide ((o.list.length:Int) > 0)) (some 401) ((ad_ n (aa_.re o)).bind fun xr7=>(cond (!xr7) (some 401) (some 1)))) ((ad_ n (aa_.re o)).bind fun xr8=>(cond (!xr8) (some 401) (some 1))))) (cond (decide (o.kind≥4)) (cond (o.n_ != 0) (some 401) (cond (decide (o.kind<4)) (cond (decide ((o.list.length:Int) > 0)) (some 401) ((ad_ n (aa_.re o)).bind fun xr9=>(cond (!xr9) (some 401) (some 1)))) ((ad_ n (aa_.re o)).bind fun xr10=>(cond (!xr10) (some 401) (some 1))))) (cond (decide (o.kind<4)) (cond (decide ((o.list.length:Int) > 0)) (some 401) ((ad_ n (aa_.re o)).bind fun xr11=>(cond (!xr11) (some 401) (some 1)))) ((ad_ n (aa_.re o)).bind fun xr12=>(cond (!xr12) (some 401) (some 1)))))))) (cond (o.kind == 1) ((cb_ n o.n_ 0 1).bind fun xr13=>(cond (!xr13) (some 401) (cond (o.kind != 3) (cond (!(o.s == [])) (some 401) (cond (o.kind == 3) (cond (o.n_ != 0) (some 401) (cond (decide (o.kind<4)) (cond (decide ((o.list.length:Int) > 0)) (some 401) ((ad_ n (aa_.re o)).bind fun xr14=>(cond (!xr14) (some 401) (some 1)))) ((ad_ n (aa_.re o)).bind fun xr15=>(cond (!xr15) (some 401) (some 1))))) (cond (decide (o.kind≥4)) (cond (o.n_ != 0) (some 401) (cond (decide (o.kind<4)) (cond (decide ((o.list.length:Int) > 0)) (some 401) ((ad_ n (aa_.re o)).bind fun xr16=>(cond (!xr16) (some 401) (some 1)))) ((ad_ n (aa_.re o)).bind fun xr17=>(cond (!xr17) (some 401) (some 1))))) (cond (decide (o.kind<4)) (cond (decide ((o.list.length:Int) > 0)) (some 401) ((ad_ n (aa_.re o)).bind fun xr18=>(cond (!xr18) (some 401) (some 1)))) ((ad_ n (aa_.re o)).bind fun xr19=>(cond (!xr19) (some 401) (some 1))))))) (cond (o.kind == 3) (cond (o.n_ != 0) (some 401) (cond (decide (o.kind<4)) (cond (decide ((o.list.length:Int) > 0)) (some 401) ((ad_ n (aa_.re o)).bind fun xr20=>(cond (!xr20) (some 401) (some 1)))) ((ad_ n (aa_.re o)).bind fun xr21=>(cond (!xr21) (some 401) (some 1))))) (cond (decide (o.kind≥4)) (cond (o.n_ != 0) (some 401) (cond (decide (o.kind<4)) (cond (decide ((o.list.length:Int) > 0)) (some 401) ((ad_ n (aa_.re o)).bind fun xr22=>(cond (!xr22) (some 401) (some 1)))) ((ad_ n (aa_.re o)).bind fun xr23=>(cond (!xr23) (some 401) (some 1))))) (cond (decide (o.kind<4)) (cond (decide ((o.list.length:Int) > 0)) (some 401) ((ad_ n (aa_.re o)).bind fun xr24=>(cond (!xr24) (some 401) (some 1)))) ((ad_ n (aa_.re o)).bind fun xr25=>(cond (!xr25) (some 401) (some 1))))))))) (cond (o.kind == 2) ((cb_ n o.n_ (-1000000000) 1000000000).bind fun xr26=>(cond (!xr26) (some 401) (cond (o.kind != 3) (cond (!(o.s == [])) (some 401) (cond (o.kind == 3) (cond (o.n_ != 0) (some 401) (cond (decide (o.kind<4)) (cond (decide ((o.list.length:Int) > 0)) (some 401) ((ad_ n (aa_.re o)).bind fun xr27=>(cond (!xr27) (some 401) (some 1)))) ((ad_ n (aa_.re o)).bind fun xr28=>(cond (!xr28) (some 401) (some 1))))) (cond (decide (o.kind≥4)) (cond (o.n_ != 0) (some 401) (cond (decide (o.kind<4)) (cond (decide ((o.list.length:Int) > 0)) (some 401) ((ad_ n (aa_.re o)).bind fun xr29=>(cond (!xr29) (some 401) (some 1)))) ((ad_ n (aa_.re o)).bind fun xr30=>(cond (!xr30) (some 401) (some 1))))) (cond (decide (o.kind<4)) (cond (decide ((o.list.length:Int) > 0)) (some 401) ((ad_ n (aa_.re o)).bind fun xr31=>(cond (!xr31) (some 401) (some 1)))) ((ad_ n (aa_.re o)).bind fun xr32=>(cond (!xr32) (some 401) (some 1))))))) (cond (o.kind == 3) (cond (o.n_ != 0) (some 401) (cond (decide (o.kind<4)) (cond (decide ((o.list.length:Int) > 0)) (some 401) ((ad_ n (aa_.re o)).bind fun xr33=>(cond (!xr33) (some 401) (some 1)))) ((ad_ n (aa_.re o)).bind fun xr34=>(cond (!xr34) (some 401) (some 1))))) (cond (decide (o.kind≥4)) (cond (o.n_ != 0) (some 401) (cond (decide (o.kind<4)) (cond (decide ((o.list.length:Int) > 0)) (some 401) ((ad_ n (aa_.re o)).bind fun xr35=>(cond (!xr35) (some 401) (some 1)))) ((ad_ n (aa_.re o)).bind fun xr36=>(cond (!xr36) (some 401) (some 1))))) (cond (decide (o.kind<4)) (cond (decide ((o.list.length:Int) > 0)) (some 401) ((ad_ n (aa_.re o)).bind fun xr37=>(cond (!xr37) (some 401) (some 1)))) ((ad_ n (aa_.re o)).bind fun xr38=>(cond (!xr38) (some 401) (some 1))))))))) (cond (o.kind == 3) ((aT_ n o.s).bind fun xr39=>(cond (!xr39) (some 401) (cond (o.kind != 3) (cond (!(o.s == [])) (some 401) (cond (o.kind == 3) (cond (o.n_ != 0) (some 401) (cond (decide (o.kind<4)) (cond (decide ((o.list.length:Int) > 0)) (some 401) ((ad_ n (aa_.re o)).bind fun xr40=>(cond (!xr40) (some 401) (some 1)))) ((ad_ n (aa_.re o)).bind fun xr41=>(cond (!xr41) (some 401) (some 1))))) (cond (decide (o.kind≥4)) (cond (o.n_ != 0) (some 401) (cond (decide (o.kind<4)) (cond (decide ((o.list.length:Int) > 0)) (some 401) ((ad_ n (aa_.re o)).bind fun xr42=>(cond (!xr42) (some 401) (some 1)))) ((ad_ n (aa_.re o)).bind fun xr43=>(cond (!xr43) (some 401) (some 1))))) (cond (decide (o.kind<4)) (cond (decide ((o.list.length:Int) > 0)) (some 401) ((ad_ n (aa_.re o)).bind fun xr44=>(cond (!xr44) (some 401) (some 1)))) ((ad_ n (aa_.re o)).bind fun xr45=>(cond (!xr45) (some 401) (some 1))))))) (cond (o.kind == 3) (cond (o.n_ != 0) (some 401) (cond (decide (o.kind<4)) (cond (decide ((o.list.length:Int) > 0)) (some 401) ((ad_ n (aa_.re o)).bind fun xr46=>(cond (!xr46) (some 401) (some 1)))) ((ad_ n (aa_.re o)).bind fun xr47=>(cond (!xr47) (some 401) (some 1))))) (cond (decide (o.kind≥4)) (cond (o.n_ != 0) (some 401) (cond (decide (o.kind<4)) (cond (decide ((o.list.length:Int) > 0)) (some 401) ((ad_ n (aa_.re o)).bind fun xr48=>(cond (!xr48) (some 401) (some 1)))) ((ad_ n (aa_.re o)).bind fun xr49=>(cond (!xr49) (some 401) (some 1))))) (cond (decide (o.kind<4)) (cond (decide ((o.list.length:Int) > 0)) (some 401) ((ad_ n (aa_.re o)).bind fun xr50=>(cond (!xr50) (some 401) (some 1)))) ((ad_ n (aa_.re o)).bind fun xr51=>(cond (!xr51) (some 401) (some 1))))))))) (cond (o.kind == 4) (cond (o.kind == 4) (ax_.loop23 n (ax_ n) (fun xy53 xy54 xy55 xy56 xy57 xy58 xy59=>(cond (xy55 != 3) (cond (!(xy57 == [])) (some xy53) (cond (xy55 == 3) (cond (xy56 != 0) (some xy53) (cond (decide (xy55<4)) (cond (decide ((xy58.length:Int) > 0)) (some xy53) ((ad_ n (aa_.mk xy55 xy56 xy57 xy58 xy59)).bind fun xr60=>(cond (!xr60) (some xy53) (some xy54)))) ((ad_ n (aa_.mk xy55 xy56 xy57 xy58 xy59)).bind fun xr61=>(cond (!xr61) (some xy53) (some xy54))))) (cond (decide (xy55≥4)) (cond (xy56 != 0) (some xy53) (cond (decide (xy55<4)) (cond (decide ((xy58.length:Int) > 0)) (some xy53) ((ad_ n (aa_.mk xy55 xy56 xy57 xy58 xy59)).bind fun xr62=>(cond (!xr62) (some xy53) (some xy54)))) ((ad_ n (aa_.mk xy55 xy56 xy57 xy58 xy59)).bind fun xr63=>(cond (!xr63) (some xy53) (some xy54))))) (cond (decide (xy55<4)) (cond (decide ((xy58.length:Int) > 0)) (some xy53) ((ad_ n (aa_.mk xy55 xy56 xy57 xy58 xy59)).bind fun xr64=>(cond (!xr64) (some xy53) (some xy54)))) ((ad_ n (aa_.mk xy55 xy56 xy57 xy58 xy59)).bind fun xr65=>(cond (!xr65) (some xy53) (some xy54))))))) (cond (xy55 == 3) (cond (xy56 != 0) (some xy53) (cond (decide (xy55<4)) (cond (decide ((xy58.length:Int) > 0)) (some xy53) ((ad_ n (aa_.mk xy55 xy56 xy57 xy58 xy59)).bind fun xr66=>(cond (!xr66) (some xy53) (some xy54)))) ((ad_ n (aa_.mk xy55 xy56 xy57 xy58 xy59)).bind fun xr67=>(cond (!xr67) (some xy53) (some xy54))))) (cond (decide (xy55≥4)) (cond (xy56 != 0) (some xy53) (cond (decide (xy55<4)) (cond (decide ((xy58.length:Int) > 0)) (some xy53) ((ad_ n (aa_.mk xy55 xy56 xy57 xy58 xy59)).bind fun xr68=>(cond (!xr68) (some xy53) (some xy54)))) ((ad_ n (aa_.mk xy55 xy56 xy57 xy58 xy59)).bind fun xr69=>(cond (!xr69) (some xy53) (some xy54))))) (cond (decide (xy55<4)) (cond (decide ((xy58.length:Int) > 0)) (some xy53) ((ad_ n (aa_.mk xy55 xy56 xy57 xy58 xy59)).bind fun xr70=>(cond (!xr70) (some xy53) (some xy54)))) ((ad_ n (aa_.mk xy55 xy56 xy57 xy58 xy59)).bind fun xr71=>(cond (!xr71) (some xy53) (some xy54)))))))) n append 401 1 0 o.kind o.n_ o.s o.list o.names) (some 401)) (cond (o.kind == 5) (ax_.loop23 n (ax_ n) (fun xy72 xy73 xy74 xy75 xy76 xy77 xy78=>(cond (xy74 != 3) (cond (!(xy76 == [])) (some xy72) (cond (xy74 == 3) (cond (xy75 != 0) (some xy72) (cond (decide (xy74<4)) (cond (decide ((xy77.length:Int) > 0)) (some xy72) ((ad_ n (aa_.mk xy74 xy75 xy76 xy77 xy78)).bind fun xr79=>(cond (!xr79) (some xy72) (some xy73)))) ((ad_ n (aa_.mk xy74 xy75 xy76 xy77 xy78)).bind fun xr80=>(cond (!xr80) (some xy72) (some xy73))))) (cond (decide (xy74≥4)) (cond (xy75 != 0) (some xy72) (cond (decide (xy74<4)) (cond (decide ((xy77.length:Int) > 0)) (some xy72) ((ad_ n (aa_.mk xy74 xy75 xy76 xy77 xy78)).bind fun xr81=>(cond (!xr81) (some xy72) (some xy73)))) ((ad_ n (aa_.mk xy74 xy75 xy76 xy77 xy78)).bind fun xr82=>(cond (!xr82) (some xy72) (some xy73))))) (cond (decide (xy74<4)) (cond (decide ((xy77.length:Int) > 0)) (some xy72) ((ad_ n (aa_.mk xy74 xy75 xy76 xy77 xy78)).bind fun xr83=>(cond (!xr83) (some xy72) (some xy73)))) ((ad_ n (aa_.mk xy74 xy75 xy76 xy77 xy78)).bind fun xr84=>(cond (!xr84) (some xy72) (some xy73))))))) (cond (xy74 == 3) (cond (xy75 != 0) (some xy72) (cond (decide (xy74<4)) (cond (decide ((xy77.length:Int) > 0)) (some xy72) ((ad_ n (aa_.mk xy74 xy75 xy76 xy77 xy78)).bind fun xr85=>(cond (!xr85) (some xy72) (some xy73)))) ((ad_ n (aa_.mk xy74 xy75 xy76 xy77 xy78)).bind fun xr86=>(cond (!xr86) (some xy72) (some xy73))))) (cond (decide (xy74≥4)) (cond (xy75 != 0) (some xy72) (cond (decide (xy74<4)) (cond (decide ((xy77.length:Int) > 0)) (some xy72) ((ad_ n (aa_.mk xy74 xy75 xy76 xy77 xy78)).bind fun xr87=>(cond (!xr87) (some xy72) (some xy73)))) ((ad_ n (aa_.mk xy74 xy75 xy76 xy77 xy78)).bind fun xr88=>(cond (!xr88) (some xy72) (some xy73))))) (cond (decide (xy74<4)) (cond (decide ((xy77.length:Int) > 0)) (some xy72) ((ad_ n (aa_.mk xy74 xy75 xy76 xy77 xy78)).bind fun xr89=>(cond (!xr89) (some xy72) (some xy73)))) ((ad_ n (aa_.mk xy74 xy75 xy76 xy77 xy78)).bind fun xr90=>(cond (!xr90) (some xy72) (some xy73)))))))) n append 401 1 0 o.kind o.n_ o.s o.list o.names) (some 401))))))))
def bD_:Nat→aa_→Option Bool
 |0,_=>none
 |n+1,j=>
  ((ax_ n (aa_.re j) 6).bind fun xr1=>(some (decide (xr1≤400))))
def aD_.step7 (n:Nat) (k0:Bool→Bs→Option Bs) (back:Int→Bool→Bs→Option Bs) (n_1:Int) (below:Bool) (out_1:Bs):Option Bs :=
 (cond (n_1 != 0) (cond (decide ((Int.tmod n_1 10)<0)) (let xv1:Bs:=(je_ ([(IntKind.u8.wrap ((W (48+(W (0 - (Int.tmod n_1 10)))))))]:List Int));(cond (decide (xv1.length+out_1.length≤9223372036854775807)) (back (W (Int.tdiv n_1 10)) below (xv1++out_1)) none)) (cond (decide ((je_ ([(IntKind.u8.wrap ((W (48+(Int.tmod n_1 10)))))]:List Int)).length+out_1.length≤9223372036854775807)) (let xv2:Bs:=((je_ ([(IntKind.u8.wrap ((W (48+(Int.tmod n_1 10)))))]:List Int))++out_1);(back (W (Int.tdiv n_1 10)) below xv2)) none)) (k0 below out_1))
def aD_.loop7 (n:Nat) (k0:Bool→Bs→Option Bs) (N:Nat):Int→Bool→Bs→Option Bs :=
 cD_ (fun _ _ _=>none) (fun back=>aD_.step7 n k0 back) N
def aD_:Nat→Int→Option Bs
 |0,_=>none
 |n+1,n1=>
  (cond (n1 == 0) (some [48]) (aD_.loop7 n (fun xy3 xy4=>(cond xy3 (cond (decide ([45].length+xy4.length≤9223372036854775807)) (some (([45]:Bs)++xy4)) none) (some xy4))) n n1 (decide (n1<0)) []))
def aL_.step4 (n:Nat) (k0:(List Int)→Option Bs) (back:Bs→Int→(List Int)→Option Bs) (s:Bs) (i:Int) (out_1:List Int):Option Bs :=
 (cond (decide (i<(s.length:Int))) (inB i s.length (cond (((s.getD i.toNat 0).toNat:Int) == 34) (cv_ (out_1.length+([92]:List Int).length) 1 (inB i s.length (cv_ ((out_1++([92]:List Int)).length+([((s.getD i.toNat 0).toNat:Int)]:List Int).length) 1 (back s (W (i+1)) ((out_1++([92]:List Int))++([((s.getD i.toNat 0).toNat:Int)]:List Int)))))) (inB i s.length (cond (((s.getD i.toNat 0).toNat:Int) == 92) (cv_ (out_1.length+([92]:List Int).length) 1 (inB i s.length (cv_ ((out_1++([92]:List Int)).length+([((s.getD i.toNat 0).toNat:Int)]:List Int).length) 1 (back s (W (i+1)) ((out_1++([92]:List Int))++([((s.getD i.toNat 0).toNat:Int)]:List Int)))))) (inB i s.length (cv_ (out_1.length+([((s.getD i.toNat 0).toNat:Int)]:List Int).length) 1 (back s (W (i+1)) (out_1++([((s.getD i.toNat 0).toNat:Int)]:List Int))))))))) (k0 out_1))
def aL_.loop4 (n:Nat) (k0:(List Int)→Option Bs) (N:Nat):Bs→Int→(List Int)→Option Bs :=
 cD_ (fun _ _ _=>none) (fun back=>aL_.step4 n k0 back) N
def aL_:Nat→Bs→Option Bs
 |0,_=>none
 |n+1,s=>
  (aL_.loop4 n (fun xy1=>(cv_ (xy1.length+([34]:List Int).length) 1 (some (je_ (xy1++([34]:List Int)))))) n s 0 ([34]:List Int))
def av_.step17 (n:Nat) (spec_l2Encode_:aa_→Option Bs) (k1:Bs→Int→Int→Bs→(List aa_)→(List Bs)→Option Bs) (back:Bs→Int→Int→Int→Bs→(List aa_)→(List Bs)→Option Bs) (out_1:Bs) (i:Int) (j0:Int) (j1:Int) (j2:Bs) (j3:List aa_) (j4:List Bs):Option Bs :=
 (cond (decide (i<(j3.length:Int))) (cond (decide (i > 0)) (cond (decide (out_1.length+[44].length≤9223372036854775807)) (cond (j0 == 5) (inB i j4.length ((aL_ n (j4.getD i.toNat [])).bind fun xr3=>(cond (decide ((out_1++[44]).length+xr3.length≤9223372036854775807)) (cond (decide (((out_1++[44])++xr3).length+[58].length≤9223372036854775807)) (inB i j3.length ((spec_l2Encode_ (aa_.re (j3.getD i.toNat aa_.dflt))).bind fun xr4=>(cond (decide ((((out_1++[44])++xr3)++[58]).length+xr4.length≤9223372036854775807)) (back ((((out_1++[44])++xr3)++[58])++xr4) (W (i+1)) j0 j1 j2 j3 j4) none))) none) none))) (inB i j3.length ((spec_l2Encode_ (aa_.re (j3.getD i.toNat aa_.dflt))).bind fun xr5=>(cond (decide ((out_1++[44]).length+xr5.length≤9223372036854775807)) (back ((out_1++[44])++xr5) (W (i+1)) j0 j1 j2 j3 j4) none)))) none) (cond (j0 == 5) (inB i j4.length ((aL_ n (j4.getD i.toNat [])).bind fun xr6=>(cond (decide (out_1.length+xr6.length≤9223372036854775807)) (cond (decide ((out_1++xr6).length+[58].length≤9223372036854775807)) (inB i j3.length ((spec_l2Encode_ (aa_.re (j3.getD i.toNat aa_.dflt))).bind fun xr7=>(cond (decide (((out_1++xr6)++[58]).length+xr7.length≤9223372036854775807)) (back (((out_1++xr6)++[58])++xr7) (W (i+1)) j0 j1 j2 j3 j4) none))) none) none))) (inB i j3.length ((spec_l2Encode_ (aa_.re (j3.getD i.toNat aa_.dflt))).bind fun xr8=>(cond (decide (out_1.length+xr8.length≤9223372036854775807)) (back (out_1++xr8) (W (i+1)) j0 j1 j2 j3 j4) none))))) (k1 out_1 j0 j1 j2 j3 j4))
def av_.loop17 (n:Nat) (spec_l2Encode_:aa_→Option Bs) (k1:Bs→Int→Int→Bs→(List aa_)→(List Bs)→Option Bs) (N:Nat):Bs→Int→Int→Int→Bs→(List aa_)→(List Bs)→Option Bs :=
 cD_ (fun _ _ _ _ _ _ _=>none) (fun back=>av_.step17 n spec_l2Encode_ k1 back) N
def av_:Nat→aa_→Option Bs
 |0,_=>none
 |n+1,j=>
  (cond (j.kind == 0) (some [110,117,108,108]) (cond (j.kind == 1) (cond (j.n_ == 1) (some [116,114,117,101]) (some [102,97,108,115,101])) (cond (j.kind == 2) ((aD_ n j.n_).bind fun xr1=>(some xr1)) (cond (j.kind == 3) ((aL_ n j.s).bind fun xr2=>(some xr2)) (av_.loop17 n (av_ n) (fun xy9 xy10 xy11 xy12 xy13 xy14=>(cond (xy10 == 5) (cond (decide ([123].length+xy9.length≤9223372036854775807)) (cond (decide ((([123]:Bs)++xy9).length+[125].length≤9223372036854775807)) (some ((([123]:Bs)++xy9)++[125])) none) none) (cond (decide ([91].length+xy9.length≤9223372036854775807)) (cond (decide ((([91]:Bs)++xy9).length+[93].length≤9223372036854775807)) (some ((([91]:Bs)++xy9)++[93])) none) none))) n [] 0 j.kind j.n_ j.s j.list j.names)))))
def bW_:Nat→aa_→Option Bs
 |0,_=>none
 |n+1,j=>
  ((bD_ n (aa_.re j)).bind fun xr1=>(cond (!xr1) (some []) ((av_ n (aa_.re j)).bind fun xr2=>(cond (decide ((xr2.length:Int) > 6000)) (some []) (some xr2)))))
def ae_.step6 (n:Nat) (spec_l1Same_:aa_→aa_→Option Bool) (k0:Int→Int→Bs→(List aa_)→(List Bs)→Int→Int→Bs→(List aa_)→(List Bs)→Option Bool) (back:Int→Int→Int→Bs→(List aa_)→(List Bs)→Int→Int→Bs→(List aa_)→(List Bs)→Option Bool) (t5:Int) (t20:Int) (t21:Int) (t22:Bs) (t23:List aa_) (t24:List Bs) (t30:Int) (t31:Int) (t32:Bs) (t33:List aa_) (t34:List Bs):Option Bool :=
 (cond (decide (t5<(t23.length:Int))) (inB t5 t23.length (inB t5 t33.length ((spec_l1Same_ (aa_.re (t23.getD t5.toNat aa_.dflt)) (aa_.re (t33.getD t5.toNat aa_.dflt))).bind fun xr1=>(cond (!xr1) (some false) (back (W (t5+1)) t20 t21 t22 t23 t24 t30 t31 t32 t33 t34))))) (k0 t20 t21 t22 t23 t24 t30 t31 t32 t33 t34))
def ae_.loop6 (n:Nat) (spec_l1Same_:aa_→aa_→Option Bool) (k0:Int→Int→Bs→(List aa_)→(List Bs)→Int→Int→Bs→(List aa_)→(List Bs)→Option Bool) (N:Nat):Int→Int→Int→Bs→(List aa_)→(List Bs)→Int→Int→Bs→(List aa_)→(List Bs)→Option Bool :=
 cD_ (fun _ _ _ _ _ _ _ _ _ _ _=>none) (fun back=>ae_.step6 n spec_l1Same_ k0 back) N
def ae_.step14 (n:Nat) (spec_l1Same_:aa_→aa_→Option Bool) (k2:Option Bool) (back:Int→Int→Int→Bs→(List aa_)→(List Bs)→Int→Int→Bs→(List aa_)→(List Bs)→Option Bool) (t6:Int) (t20:Int) (t21:Int) (t22:Bs) (t23:List aa_) (t24:List Bs) (t30:Int) (t31:Int) (t32:Bs) (t33:List aa_) (t34:List Bs):Option Bool :=
 (cond (decide (t6<(t24.length:Int))) (inB t6 t24.length (inB t6 t34.length (cond (!((t24.getD t6.toNat []) == (t34.getD t6.toNat []))) (some false) (back (W (t6+1)) t20 t21 t22 t23 t24 t30 t31 t32 t33 t34)))) k2)
def ae_.loop14 (n:Nat) (spec_l1Same_:aa_→aa_→Option Bool) (k2:Option Bool) (N:Nat):Int→Int→Int→Bs→(List aa_)→(List Bs)→Int→Int→Bs→(List aa_)→(List Bs)→Option Bool :=
 cD_ (fun _ _ _ _ _ _ _ _ _ _ _=>none) (fun back=>ae_.step14 n spec_l1Same_ k2 back) N
def ae_:Nat→aa_→aa_→Option Bool
 |0,_,_=>none
 |n+1,o,append=>
  (cond (o.kind != append.kind) (some false) (cond (o.n_ != append.n_) (some false) (cond (!(o.s == append.s)) (some false) (cond ((o.list.length:Int) != (append.list.length:Int)) (some false) (cond ((o.names.length:Int) != (append.names.length:Int)) (some false) (ae_.loop6 n (ae_ n) (fun xy2 xy3 xy4 xy5 xy6 xy7 xy8 xy9 xy10 xy11=>(ae_.loop14 n (ae_ n) (some true) n 0 xy2 xy3 xy4 xy5 xy6 xy7 xy8 xy9 xy10 xy11)) n 0 o.kind o.n_ o.s o.list o.names append.kind append.n_ append.s append.list append.names))))))
def bb_.step6 (n:Nat) (k0:Int→(List Bs)→Int→Int→Bs→(List aa_)→(List Bs)→Option Bool) (back:Int→Int→(List Bs)→Int→Int→Bs→(List aa_)→(List Bs)→Option Bool) (i:Int) (o0:Int) (o1:List Bs) (o2:Int) (o3:Int) (o4:Bs) (o5:List aa_) (o6:List Bs):Option Bool :=
 (cond (decide (i<(o1.length:Int))) (inB i o1.length ((aT_ n (o1.getD i.toNat [])).bind fun xr3=>(cond (!xr3) (some false) (back (W (i+1)) o0 o1 o2 o3 o4 o5 o6)))) (k0 o0 o1 o2 o3 o4 o5 o6))
def bb_.loop6 (n:Nat) (k0:Int→(List Bs)→Int→Int→Bs→(List aa_)→(List Bs)→Option Bool) (N:Nat):Int→Int→(List Bs)→Int→Int→Bs→(List aa_)→(List Bs)→Option Bool :=
 cD_ (fun _ _ _ _ _ _ _ _=>none) (fun back=>bb_.step6 n k0 back) N
def bb_:Nat→TOp→Option Bool
 |0,_=>none
 |n+1,o=>
  ((cb_ n o.kind 1 4).bind fun xr1=>(cond (!xr1) (some false) (cond (decide ((o.way.length:Int) > 6)) (some false) ((bD_ n (aa_.re o.value)).bind fun xr2=>(cond (!xr2) (some false) (bb_.loop6 n (fun xy4 xy5 xy6 xy7 xy8 xy9 xy10=>(cond (xy4 != 2) (some true) ((ae_ n (aa_.mk xy6 xy7 xy8 xy9 xy10) (aa_.mk 0 0 [] [] [])).bind fun xr11=>(some xr11)))) n 0 o.kind o.way o.value.kind o.value.n_ o.value.s o.value.list o.value.names))))))
def bN_:Nat→Unit→Option (List Bs)
 |0,_=>none
 |n+1,_u=>
  (some ([[],[97,100,100],[114,101,109,111,118,101],[114,101,112,108,97,99,101],[116,101,115,116]]:List Bs))
def am_.step10 (n:Nat) (k2:(List Bs)→Int→(List Int)→Option Bs) (back:(List Bs)→Int→Int→(List Int)→Option Bs) (way:List Bs) (i:Int) (k:Int) (out_1:List Int):Option Bs :=
 (inB i way.length (cond (decide (k<((way.getD i.toNat []).length:Int))) (inB i way.length (inB k (way.getD i.toNat []).length (cond ((((way.getD i.toNat []).getD k.toNat 0).toNat:Int) == 126) (cv_ (out_1.length+([126,48]:List Int).length) 1 (back way i (W (k+1)) (out_1++([126,48]:List Int)))) (cond ((((way.getD i.toNat []).getD k.toNat 0).toNat:Int) == 47) (cv_ (out_1.length+([126,49]:List Int).length) 1 (back way i (W (k+1)) (out_1++([126,49]:List Int)))) (inB i way.length (inB k (way.getD i.toNat []).length (cv_ (out_1.length+([(((way.getD i.toNat []).getD k.toNat 0).toNat:Int)]:List Int).length) 1 (back way i (W (k+1)) (out_1++([(((way.getD i.toNat []).getD k.toNat 0).toNat:Int)]:List Int)))))))))) (k2 way i out_1)))
def am_.loop10 (n:Nat) (k2:(List Bs)→Int→(List Int)→Option Bs) (N:Nat):(List Bs)→Int→Int→(List Int)→Option Bs :=
 cD_ (fun _ _ _ _=>none) (fun back=>am_.step10 n k2 back) N
def am_.step4 (n:Nat) (k0:(List Int)→Option Bs) (back:(List Bs)→Int→(List Int)→Option Bs) (way:List Bs) (i:Int) (out_1:List Int):Option Bs :=
 (cond (decide (i<(way.length:Int))) (cv_ (out_1.length+([47]:List Int).length) 1 (am_.loop10 n (fun xy1 xy2 xy3=>(back xy1 (W (xy2+1)) xy3)) n way i 0 (out_1++([47]:List Int)))) (k0 out_1))
def am_.loop4 (n:Nat) (k0:(List Int)→Option Bs) (N:Nat):(List Bs)→Int→(List Int)→Option Bs :=
 cD_ (fun _ _ _=>none) (fun back=>am_.step4 n k0 back) N
def am_:Nat→(List Bs)→Option Bs
 |0,_=>none
 |n+1,way=>
  (am_.loop4 n (fun xy4=>(some (je_ xy4))) n way 0 ([]:List Int))
def a1_.step5 (n:Nat) (k0:Bs→Bool→Int→Int→Bs→(List aa_)→(List Bs)→Int→Int→Bs→Int→Int→Bs→(List aa_)→(List Bs)→Option aa_) (back:Bs→Bool→Int→Int→Int→Bs→(List aa_)→(List Bs)→Int→Int→Bs→(List aa_)→(List Bs)→Int→Int→Bs→Int→Int→Bs→(List aa_)→(List Bs)→Option aa_) (append:Bs) (t8:Bool) (t9:Int) (t30:Int) (t31:Int) (t32:Bs) (t33:List aa_) (t34:List Bs) (t50:Int) (t51:Int) (t52:Bs) (t53:List aa_) (t54:List Bs) (t60:Int) (t61:Int) (t62:Bs) (t70:Int) (t71:Int) (t72:Bs) (t73:List aa_) (t74:List Bs):Option aa_ :=
 (cond (decide (t9<(t34.length:Int))) (cond (!t8) (inB t9 t34.length (cond (!Op.bytesLess (t34.getD t9.toNat []) append) (cv_ (t74.length+([append]:List Bs).length) 16 (cv_ (t73.length+([(aa_.mk t50 t51 t52 t53 t54)]:List aa_).length) 80 (inB t9 t34.length (cond (!((t34.getD t9.toNat []) == append)) (inB t9 t34.length (cv_ ((t74++([append]:List Bs)).length+([(t34.getD t9.toNat [])]:List Bs).length) 16 (inB t9 t33.length (cv_ ((t73++([(aa_.mk t50 t51 t52 t53 t54)]:List aa_)).length+([(aa_.re (t33.getD t9.toNat aa_.dflt))]:List aa_).length) 80 (back append true (W (t9+1)) t30 t31 t32 t33 t34 t50 t51 t52 t53 t54 t60 t61 t62 t70 t71 t72 ((t73++([(aa_.mk t50 t51 t52 t53 t54)]:List aa_))++([(aa_.re (t33.getD t9.toNat aa_.dflt))]:List aa_)) ((t74++([append]:List Bs))++([(t34.getD t9.toNat [])]:List Bs))))))) (back append true (W (t9+1)) t30 t31 t32 t33 t34 t50 t51 t52 t53 t54 t60 t61 t62 t70 t71 t72 (t73++([(aa_.mk t50 t51 t52 t53 t54)]:List aa_)) (t74++([append]:List Bs))))))) (inB t9 t34.length (cond (!((t34.getD t9.toNat []) == append)) (inB t9 t34.length (cv_ (t74.length+([(t34.getD t9.toNat [])]:List Bs).length) 16 (inB t9 t33.length (cv_ (t73.length+([(aa_.re (t33.getD t9.toNat aa_.dflt))]:List aa_).length) 80 (back append t8 (W (t9+1)) t30 t31 t32 t33 t34 t50 t51 t52 t53 t54 t60 t61 t62 t70 t71 t72 (t73++([(aa_.re (t33.getD t9.toNat aa_.dflt))]:List aa_)) (t74++([(t34.getD t9.toNat [])]:List Bs))))))) (back append t8 (W (t9+1)) t30 t31 t32 t33 t34 t50 t51 t52 t53 t54 t60 t61 t62 t70 t71 t72 t73 t74))))) (inB t9 t34.length (cond (!((t34.getD t9.toNat []) == append)) (inB t9 t34.length (cv_ (t74.length+([(t34.getD t9.toNat [])]:List Bs).length) 16 (inB t9 t33.length (cv_ (t73.length+([(aa_.re (t33.getD t9.toNat aa_.dflt))]:List aa_).length) 80 (back append t8 (W (t9+1)) t30 t31 t32 t33 t34 t50 t51 t52 t53 t54 t60 t61 t62 t70 t71 t72 (t73++([(aa_.re (t33.getD t9.toNat aa_.dflt))]:List aa_)) (t74++([(t34.getD t9.toNat [])]:List Bs))))))) (back append t8 (W (t9+1)) t30 t31 t32 t33 t34 t50 t51 t52 t53 t54 t60 t61 t62 t70 t71 t72 t73 t74)))) (k0 append t8 t50 t51 t52 t53 t54 t60 t61 t62 t70 t71 t72 t73 t74))
def a1_.loop5 (n:Nat) (k0:Bs→Bool→Int→Int→Bs→(List aa_)→(List Bs)→Int→Int→Bs→Int→Int→Bs→(List aa_)→(List Bs)→Option aa_) (N:Nat):Bs→Bool→Int→Int→Int→Bs→(List aa_)→(List Bs)→Int→Int→Bs→(List aa_)→(List Bs)→Int→Int→Bs→Int→Int→Bs→(List aa_)→(List Bs)→Option aa_ :=
 cD_ (fun _ _ _ _ _ _ _ _ _ _ _ _ _ _ _ _ _ _ _ _ _=>none) (fun back=>a1_.step5 n k0 back) N
def a1_:Nat→aa_→Bs→aa_→Option aa_
 |0,_,_,_=>none
 |n+1,o,append,a2=>
  (a1_.loop5 n (fun xy1 xy2 xy3 xy4 xy5 xy6 xy7 xy8 xy9 xy10 xy11 xy12 xy13 xy14 xy15=>(cond (!xy2) (cv_ (xy15.length+([xy1]:List Bs).length) 16 (cv_ (xy14.length+([(aa_.mk xy3 xy4 xy5 xy6 xy7)]:List aa_).length) 80 (some (aa_.mk xy11 xy12 xy13 (xy14++([(aa_.mk xy3 xy4 xy5 xy6 xy7)]:List aa_)) (xy15++([xy1]:List Bs)))))) (some (aa_.mk xy11 xy12 xy13 xy14 xy15)))) n append false 0 o.kind o.n_ o.s o.list o.names a2.kind a2.n_ a2.s a2.list a2.names 0 0 [] 5 0 [] ([]:List aa_) ([]:List Bs))
def b6_:Nat→TOp→Option aa_
 |0,_=>none
 |n+1,o=>
  ((bb_ n (TOp.mk o.kind o.way (aa_.re o.value))).bind fun xr1=>(cond (!xr1) (some (aa_.mk 0 0 [] ([]:List aa_) ([]:List Bs))) ((bN_ n ()).bind fun xr2=>(inB o.kind xr2.length ((am_ n o.way).bind fun xr3=>(cond (o.kind != 2) ((aA_ n (aa_.re o.value)).bind fun xr4=>((a1_ n (aa_.mk 5 0 [] ([(aa_.mk 3 0 (xr2.getD o.kind.toNat []) [] []),(aa_.mk 3 0 xr3 [] [])]:List aa_) ([[111,112],[112,97,116,104]]:List Bs)) [118,97,108,117,101] (aa_.re xr4)).bind fun xr5=>((bD_ n (aa_.re xr5)).bind fun xr6=>(cond (!xr6) (some (aa_.mk 0 0 [] ([]:List aa_) ([]:List Bs))) (some (aa_.re xr5)))))) ((bD_ n (aa_.mk 5 0 [] ([(aa_.mk 3 0 (xr2.getD o.kind.toNat []) [] []),(aa_.mk 3 0 xr3 [] [])]:List aa_) ([[111,112],[112,97,116,104]]:List Bs))).bind fun xr7=>(cond (!xr7) (some (aa_.mk 0 0 [] ([]:List aa_) ([]:List Bs))) (some (aa_.mk 5 0 [] ([(aa_.mk 3 0 (xr2.getD o.kind.toNat []) [] []),(aa_.mk 3 0 xr3 [] [])]:List aa_) ([[111,112],[112,97,116,104]]:List Bs)))))))))))
def aU_.step4 (n:Nat) (k0:(List TOp)→Int→Int→Bs→Int→Int→Bs→(List aa_)→Option (aa_ × Bool)) (back:(List TOp)→Int→Int→Int→Bs→Int→Int→Bs→(List aa_)→Option (aa_ × Bool)) (list:List TOp) (i:Int) (t20:Int) (t21:Int) (t22:Bs) (j0:Int) (j1:Int) (j2:Bs) (j3:List aa_):Option (aa_ × Bool) :=
 (cond (decide (i<(list.length:Int))) (inB i list.length ((b6_ n { (list.getD i.toNat TOp.dflt) with value:=(aa_.re ((list.getD i.toNat TOp.dflt).value)) }).bind fun xr1=>(cond (xr1.kind == 0) (some ((aa_.mk j0 j1 j2 j3 ([]:List Bs)),false)) (cv_ (j3.length+([(aa_.re xr1)]:List aa_).length) 80 (back list (W (i+1)) t20 t21 t22 j0 j1 j2 (j3++([(aa_.re xr1)]:List aa_))))))) (k0 list t20 t21 t22 j0 j1 j2 j3))
def aU_.loop4 (n:Nat) (k0:(List TOp)→Int→Int→Bs→Int→Int→Bs→(List aa_)→Option (aa_ × Bool)) (N:Nat):(List TOp)→Int→Int→Int→Bs→Int→Int→Bs→(List aa_)→Option (aa_ × Bool) :=
 cD_ (fun _ _ _ _ _ _ _ _ _=>none) (fun back=>aU_.step4 n k0 back) N
def aU_:Nat→(List TOp)→Option (aa_ × Bool)
 |0,_=>none
 |n+1,list=>
  (aU_.loop4 n (fun xy2 xy3 xy4 xy5 xy6 xy7 xy8 xy9=>(cond (decide ((xy2.length:Int)≤40)) ((bW_ n (aa_.mk xy6 xy7 xy8 xy9 [])).bind fun xr10=>(some ((aa_.mk xy6 xy7 xy8 xy9 ([]:List Bs)),(!(xr10 == []))))) (some ((aa_.mk xy6 xy7 xy8 xy9 ([]:List Bs)),false)))) n list 0 0 0 [] 4 0 [] ([]:List aa_))
def bP_:Nat→be_→Option Bool
 |0,_=>none
 |n+1,e=>
  ((cb_ n e.version 0 100000).bind fun xr1=>(cond (!xr1) (some false) (cond (e.kind == 1) (cond (e.base == 0) (cond ((e.ops.length:Int) == 0) ((bW_ n (aa_.re e.doc)).bind fun xr2=>(some (!(xr2 == [])))) (some false)) (some false)) (cond (e.kind == 2) ((aU_ n e.ops).bind fun xr3=>(cond xr3.2 ((cb_ n e.base 0 (W (e.version - 1))).bind fun xr4=>(cond xr4 ((ae_ n (aa_.re e.doc) (aa_.mk 0 0 [] [] [])).bind fun xr5=>(some xr5)) (some false))) (some false))) (some false)))))
def bM_:Nat→aa_→TOp→Option (aa_ × Bool)
 |0,_,_=>none
 |n+1,j,o=>
  (cond (o.kind == 2) (some ((aa_.re j),false)) (cond (o.kind == 4) ((ae_ n (aa_.re j) (aa_.re o.value)).bind fun xr1=>(some ((aa_.re j),xr1))) ((aA_ n (aa_.re o.value)).bind fun xr2=>(some ((aa_.re xr2),true)))))
def bd_.step3 (n:Nat) (k0:Option Int) (back:Bs→Int→Int→Int→Bs→(List aa_)→(List Bs)→Option Int) (name:Bs) (i:Int) (j0:Int) (j1:Int) (j2:Bs) (j3:List aa_) (j4:List Bs):Option Int :=
 (cond (decide (i<(j4.length:Int))) (inB i j4.length (cond ((j4.getD i.toNat []) == name) (some i) (back name (W (i+1)) j0 j1 j2 j3 j4))) k0)
def bd_.loop3 (n:Nat) (k0:Option Int) (N:Nat):Bs→Int→Int→Int→Bs→(List aa_)→(List Bs)→Option Int :=
 cD_ (fun _ _ _ _ _ _ _=>none) (fun back=>bd_.step3 n k0 back) N
def bd_:Nat→aa_→Bs→Option Int
 |0,_,_=>none
 |n+1,j,name=>
  (bd_.loop3 n (some (-1)) n name 0 j.kind j.n_ j.s j.list j.names)
def aM_.step7 (n:Nat) (k0:Bs→Int→Option Int) (back:Bs→Int→Int→Option Int) (s:Bs) (x:Int) (i:Int):Option Int :=
 (cond (decide (i<(s.length:Int))) (inB i s.length (cond (decide (((s.getD i.toNat 0).toNat:Int)<48)) (some (-1)) (inB i s.length (cond (decide (((s.getD i.toNat 0).toNat:Int) > 57)) (some (-1)) (inB i s.length (back s (W ((W ((W (10*x))+(W (((s.getD i.toNat 0).toNat:Int))))) - 48)) (W (i+1)))))))) (k0 s x))
def aM_.loop7 (n:Nat) (k0:Bs→Int→Option Int) (N:Nat):Bs→Int→Int→Option Int :=
 cD_ (fun _ _ _=>none) (fun back=>aM_.step7 n k0 back) N
def aM_:Nat→Bs→Option Int
 |0,_=>none
 |n+1,s=>
  (cond (s == []) (some (-1)) (cond (decide ((s.length:Int) > 3)) (some (-1)) (aM_.loop7 n (fun xy1 xy2=>((aD_ n xy2).bind fun xr3=>(cond (!(xr3 == xy1)) (some (-1)) (some xy2)))) n s 0 0)))
def cq_:Nat→aa_→Bs→Option Int
 |0,_,_=>none
 |n+1,j,s=>
  (cond (j.kind == 5) ((bd_ n (aa_.re j) s).bind fun xr1=>(some xr1)) (cond (j.kind == 4) ((aM_ n s).bind fun xr2=>(cond (decide (xr2<(j.list.length:Int))) (some xr2) (some (-1)))) (some (-1))))
def cg_:Nat→aa_→Bs→TOp→Option (aa_ × Bool)
 |0,_,_,_=>none
 |n+1,j,name,o=>
  (cond (j.kind == 5) ((aA_ n (aa_.re o.value)).bind fun xr1=>((a1_ n (aa_.re j) name (aa_.re xr1)).bind fun xr2=>(some ((aa_.re xr2),true)))) ((aM_ n name).bind fun xr3=>(cond (name == [45]) (cond (j.kind != 4) (some ((aa_.re j),false)) ((cb_ n (j.list.length:Int) 0 (j.list.length:Int)).bind fun xr4=>(cond (!xr4) (some ((aa_.re j),false)) (gs_ 0 (j.list.length:Int) j.list.length (cv_ (([]:List aa_).length+((j.list.take ((j.list.length:Int).toNat)).drop 0).length) 80 ((aA_ n (aa_.re o.value)).bind fun xr5=>(cv_ ((([]:List aa_)++((j.list.take ((j.list.length:Int).toNat)).drop 0)).length+([(aa_.re xr5)]:List aa_).length) 80 (gs_ (j.list.length:Int) (j.list.length:Int) j.list.length (cv_ (((([]:List aa_)++((j.list.take ((j.list.length:Int).toNat)).drop 0))++([(aa_.re xr5)]:List aa_)).length+((j.list.take ((j.list.length:Int).toNat)).drop ((j.list.length:Int).toNat)).length) 80 (let xa6:List aa_:=(((([]:List aa_)++((j.list.take ((j.list.length:Int).toNat)).drop 0))++([(aa_.re xr5)]:List aa_))++((j.list.take ((j.list.length:Int).toNat)).drop ((j.list.length:Int).toNat)));(some ((aa_.mk j.kind j.n_ j.s xa6 j.names),true)))))))))))) (cond (j.kind != 4) (some ((aa_.re j),false)) ((cb_ n xr3 0 (j.list.length:Int)).bind fun xr7=>(cond (!xr7) (some ((aa_.re j),false)) (gs_ 0 xr3 j.list.length (cv_ (([]:List aa_).length+((j.list.take xr3.toNat).drop 0).length) 80 ((aA_ n (aa_.re o.value)).bind fun xr8=>(cv_ ((([]:List aa_)++((j.list.take xr3.toNat).drop 0)).length+([(aa_.re xr8)]:List aa_).length) 80 (gs_ xr3 (j.list.length:Int) j.list.length (cv_ (((([]:List aa_)++((j.list.take xr3.toNat).drop 0))++([(aa_.re xr8)]:List aa_)).length+((j.list.take ((j.list.length:Int).toNat)).drop xr3.toNat).length) 80 (let xa9:List aa_:=(((([]:List aa_)++((j.list.take xr3.toNat).drop 0))++([(aa_.re xr8)]:List aa_))++((j.list.take ((j.list.length:Int).toNat)).drop xr3.toNat));(some ((aa_.mk j.kind j.n_ j.s xa9 j.names),true)))))))))))))))
def ba_.tail17 (n:Nat) (kn:Int→Int→Bs→(List Bs)→Int→Int→Bs→(List aa_)→Option (aa_ × Bool)) (t8:Int) (t62:Bool) (t30:Int) (t31:Int) (t32:Bs) (t34:List Bs) (t60:Int) (t61:Int) (t62_1:Bs) (t33:List aa_):Option (aa_ × Bool) :=
 (cond t62 (gs_ 0 t8 t34.length (cv_ (([]:List Bs).length+((t34.take t8.toNat).drop 0).length) 16 (gs_ (W (t8+1)) (t34.length:Int) t34.length (cv_ ((([]:List Bs)++((t34.take t8.toNat).drop 0)).length+((t34.take (t34.length:Int).toNat).drop (W (t8+1)).toNat).length) 16 (kn t30 t31 t32 ((([]:List Bs)++((t34.take t8.toNat).drop 0))++((t34.take (t34.length:Int).toNat).drop (W (t8+1)).toNat)) t60 t61 t62_1 t33))))) (kn t30 t31 t32 t34 t60 t61 t62_1 t33))
def ba_.tail8 (n:Nat) (t8:Int) (a2:List Bs) (t30:Int) (t31:Int) (t32:Bs) (t33:List aa_) (t60:Int) (t61:Int) (t62:Bs):Option (aa_ × Bool) :=
 (gs_ 0 t8 t33.length (cv_ (([]:List aa_).length+((t33.take t8.toNat).drop 0).length) 80 (gs_ (W (t8+1)) (t33.length:Int) t33.length (cv_ ((([]:List aa_)++((t33.take t8.toNat).drop 0)).length+((t33.take (t33.length:Int).toNat).drop (W (t8+1)).toNat).length) 80 (ba_.tail17 n (fun xy6 xy7 xy8 xy9 xy10 xy11 xy12 xy13=>(some ((aa_.mk xy6 xy7 xy8 xy13 xy9),true))) t8 (t30 == 5) t30 t31 t32 a2 t60 t61 t62 ((([]:List aa_)++((t33.take t8.toNat).drop 0))++((t33.take (t33.length:Int).toNat).drop (W (t8+1)).toNat)))))))
def ba_:Nat→aa_→Bs→TOp→Option (aa_ × Bool)
 |0,_,_,_=>none
 |n+1,o,append,a2=>
  ((cq_ n (aa_.re o) append).bind fun xr1=>(cond (a2.kind == 1) ((cg_ n (aa_.re o) append (TOp.mk a2.kind a2.way (aa_.re a2.value))).bind fun xr2=>(some ((aa_.re xr2.1),xr2.2))) (cond (decide (xr1<0)) (some ((aa_.re o),false)) (cond (a2.kind == 4) (inB xr1 o.list.length ((ae_ n (aa_.re (o.list.getD xr1.toNat aa_.dflt)) (aa_.re a2.value)).bind fun xr3=>(some ((aa_.re o),xr3)))) (cond (a2.kind == 3) ((aA_ n (aa_.re a2.value)).bind fun xr4=>(inB xr1 o.list.length (let xa5:List aa_:=o.list.set xr1.toNat (aa_.re xr4);(some ((aa_.mk o.kind o.n_ o.s xa5 o.names),true))))) (ba_.tail8 n xr1 o.names o.kind o.n_ o.s o.list 0 0 []))))))
def bB_:Nat→aa_→(List Bs)→TOp→Option (aa_ × Bool)
 |0,_,_,_=>none
 |n+1,j,way,o=>
  (cond ((way.length:Int) == 0) ((bM_ n (aa_.re j) (TOp.mk o.kind o.way (aa_.re o.value))).bind fun xr1=>(some ((aa_.re xr1.1),xr1.2))) (cond ((way.length:Int) == 1) (inB 0 way.length ((ba_ n (aa_.re j) (way.getD 0 []) (TOp.mk o.kind o.way (aa_.re o.value))).bind fun xr2=>(some ((aa_.re xr2.1),xr2.2)))) (inB 0 way.length ((cq_ n (aa_.re j) (way.getD 0 [])).bind fun xr3=>(cond (decide (xr3<0)) (some ((aa_.re j),false)) (inB xr3 j.list.length (gs_ 1 (way.length:Int) way.length (cond (Nat.beq xr3.toNat xr3.toNat) (cond (Nat.beq xr3.toNat xr3.toNat) ((bB_ n (aa_.re (j.list.getD xr3.toNat aa_.dflt)) ((way.take (way.length:Int).toNat).drop 1) (TOp.mk o.kind o.way (aa_.re o.value))).bind fun xr4=>(inB xr3 j.list.length (cond (Nat.beq xr3.toNat xr3.toNat) (let xa5:List aa_:=j.list.set xr3.toNat (aa_.re xr4.1);(some ((aa_.mk j.kind j.n_ j.s xa5 j.names),xr4.2))) none))) none) none))))))))
def ch_:Nat→aa_→TOp→Option (aa_ × Bool)
 |0,_,_=>none
 |n+1,j,o=>
  ((bD_ n (aa_.re j)).bind fun xr1=>(cond (!xr1) (some ((aa_.mk 0 0 [] ([]:List aa_) []),false)) ((bb_ n (TOp.mk o.kind o.way (aa_.re o.value))).bind fun xr2=>(cond (!xr2) (some ((aa_.mk 0 0 [] ([]:List aa_) []),false)) ((aA_ n (aa_.re j)).bind fun xr3=>((bB_ n (aa_.re xr3) o.way (TOp.mk o.kind o.way (aa_.re o.value))).bind fun xr4=>(cond (!xr4.2) (some ((aa_.mk 0 0 [] ([]:List aa_) []),false)) ((bD_ n (aa_.re xr4.1)).bind fun xr5=>(cond (!xr5) (some ((aa_.mk 0 0 [] ([]:List aa_) []),false)) (some ((aa_.re xr4.1),true)))))))))))
def aI_.step7 (n:Nat) (k0:Int→Int→Bs→Int→Int→Bs→(List Bs)→(List aa_)→Option (aa_ × Bool)) (back:(List TOp)→Int→Int→Int→Bs→Int→Int→Bs→(List Bs)→(List aa_)→Option (aa_ × Bool)) (list:List TOp) (i:Int) (t40:Int) (t41:Int) (t42:Bs) (out0:Int) (out1:Int) (out2:Bs) (out4:List Bs) (out3:List aa_):Option (aa_ × Bool) :=
 (cond (decide (i<(list.length:Int))) (inB i list.length ((ch_ n (aa_.mk out0 out1 out2 out3 out4) { (list.getD i.toNat TOp.dflt) with value:=(aa_.re ((list.getD i.toNat TOp.dflt).value)) }).bind fun xr3=>(cond (!xr3.2) (some ((aa_.mk 0 0 [] ([]:List aa_) []),false)) (back list (W (i+1)) t40 t41 t42 xr3.1.kind xr3.1.n_ xr3.1.s xr3.1.names xr3.1.list)))) (k0 t40 t41 t42 out0 out1 out2 out4 out3))
def aI_.loop7 (n:Nat) (k0:Int→Int→Bs→Int→Int→Bs→(List Bs)→(List aa_)→Option (aa_ × Bool)) (N:Nat):(List TOp)→Int→Int→Int→Bs→Int→Int→Bs→(List Bs)→(List aa_)→Option (aa_ × Bool) :=
 cD_ (fun _ _ _ _ _ _ _ _ _ _=>none) (fun back=>aI_.step7 n k0 back) N
def aI_:Nat→aa_→(List TOp)→Option (aa_ × Bool)
 |0,_,_=>none
 |n+1,j,list=>
  ((bD_ n (aa_.re j)).bind fun xr1=>(cond (!xr1) (some ((aa_.mk 0 0 [] ([]:List aa_) []),false)) (cond (decide ((list.length:Int) > 40)) (some ((aa_.mk 0 0 [] ([]:List aa_) []),false)) ((aA_ n (aa_.re j)).bind fun xr2=>(aI_.loop7 n (fun xy4 xy5 xy6 xy7 xy8 xy9 xy10 xy11=>(some ((aa_.mk xy7 xy8 xy9 xy11 xy10),true))) n list 0 0 0 [] xr2.kind xr2.n_ xr2.s xr2.names xr2.list)))))
def bo_:Nat→aF_→be_→Option aF_
 |0,_,_=>none
 |n+1,c,e=>
  ((bO_ n { c with doc:=(aa_.re c.doc) }).bind fun xr1=>(cond c.bad (some { xr1 with doc:=(aa_.re xr1.doc) }) ((bP_ n { e with doc:=(aa_.re e.doc) }).bind fun xr2=>(cond (!xr2) (some { xr1 with doc:=(aa_.re xr1.doc),bad:=true }) (cond (e.kind == 1) (cond c.began (cond (decide (e.version≤c.version)) (some { xr1 with doc:=(aa_.re xr1.doc),bad:=true }) ((aA_ n (aa_.re e.doc)).bind fun xr3=>(some (aF_.mk (aa_.re xr3) e.version true false)))) ((aA_ n (aa_.re e.doc)).bind fun xr4=>(some (aF_.mk (aa_.re xr4) e.version true false)))) ((aI_ n (aa_.re c.doc) e.ops).bind fun xr5=>(cond (!c.began) (some { xr1 with doc:=(aa_.re xr1.doc),bad:=true }) (cond (e.base != c.version) (some { xr1 with doc:=(aa_.re xr1.doc),bad:=true }) (cond (!xr5.2) (some { xr1 with doc:=(aa_.re xr1.doc),bad:=true }) (some (aF_.mk (aa_.re xr5.1) e.version true false)))))))))))
def bq_:Nat→(List Bs)→Option (List Bs)
 |0,_=>none
 |n+1,l=>
  (cv_ (([]:List Bs).length+l.length) 16 (some (([]:List Bs)++l)))
def ak_.step4 (n:Nat) (impl_copyJson_:aa_→Option aa_) (k0:Int→Int→Bs→Int→Int→Bs→(List aa_)→(List Bs)→Option aa_) (back:(List aa_)→Int→Int→Int→Int→Bs→Int→Int→Bs→(List aa_)→(List Bs)→Option aa_) (t17:List aa_) (t18:Int) (t19:Int) (t20:Int) (t21:Int) (t22:Bs) (out0:Int) (out1:Int) (out2:Bs) (out3:List aa_) (out4:List Bs):Option aa_ :=
 (cond (decide (t19<t18)) (inB t19 t17.length ((impl_copyJson_ (aa_.re (t17.getD t19.toNat aa_.dflt))).bind fun xr2=>(cv_ (out3.length+([(aa_.re xr2)]:List aa_).length) 80 (back t17 t18 (W (t19+1)) t20 t21 t22 out0 out1 out2 (out3++([(aa_.re xr2)]:List aa_)) out4)))) (k0 t20 t21 t22 out0 out1 out2 out3 out4))
def ak_.loop4 (n:Nat) (impl_copyJson_:aa_→Option aa_) (k0:Int→Int→Bs→Int→Int→Bs→(List aa_)→(List Bs)→Option aa_) (N:Nat):(List aa_)→Int→Int→Int→Int→Bs→Int→Int→Bs→(List aa_)→(List Bs)→Option aa_ :=
 cD_ (fun _ _ _ _ _ _ _ _ _ _ _=>none) (fun back=>ak_.step4 n impl_copyJson_ k0 back) N
def ak_:Nat→aa_→Option aa_
 |0,_=>none
 |n+1,j=>
  ((bq_ n j.names).bind fun xr1=>(ak_.loop4 n (ak_ n) (fun xy3 xy4 xy5 xy6 xy7 xy8 xy9 xy10=>(some (aa_.mk xy6 xy7 xy8 xy9 xy10))) n j.list (j.list.length:Int) 0 0 0 [] j.kind j.n_ j.s ([]:List aa_) xr1))
def bp_:Nat→aF_→Option aF_
 |0,_=>none
 |n+1,c=>
  ((ak_ n (aa_.re c.doc)).bind fun xr1=>(some { c with doc:=(aa_.re xr1) }))
def aE_:Nat→Int→Int→Int→Option Bool
 |0,_,_,_=>none
 |n+1,n1,low,high=>
  (cond (decide (n1≥low)) (some (decide (n1≤high))) (some false))
def bs_:Nat→Int→Option Bool
 |0,_=>none
 |n+1,n1=>
  ((aE_ n n1 0 100000).bind fun xr1=>(some xr1))
def aY_:Nat→Int→Option Bool
 |0,_=>none
 |n+1,n1=>
  ((aE_ n n1 (-1000000000) 1000000000).bind fun xr1=>(some xr1))
def an_.step3 (n:Nat) (k0:Bs→Option Bool) (back:Bs→Int→Int→Option Bool) (s:Bs) (t5:Int) (t6:Int):Option Bool :=
 (cond (decide (t6<t5)) (inB t6 s.length ((aE_ n (W (((s.getD t6.toNat 0).toNat:Int))) 32 126).bind fun xr1=>(cond (!xr1) (some false) (back s t5 (W (t6+1)))))) (k0 s))
def an_.loop3 (n:Nat) (k0:Bs→Option Bool) (N:Nat):Bs→Int→Int→Option Bool :=
 cD_ (fun _ _ _=>none) (fun back=>an_.step3 n k0 back) N
def an_:Nat→Bs→Option Bool
 |0,_=>none
 |n+1,s=>
  (an_.loop3 n (fun xy2=>(some (decide ((xy2.length:Int)≤60)))) n s (s.length:Int) 0)
def aj_.step3 (n:Nat) (k0:Option Bool) (back:(List Bs)→(List Bs)→Int→Int→Option Bool) (names:List Bs) (t5:List Bs) (t6:Int) (t7:Int):Option Bool :=
 (cond (decide (t7<t6)) (inB t7 t5.length ((an_ n (t5.getD t7.toNat [])).bind fun xr1=>(cond (!xr1) (some false) (cond (decide (t7 > 0)) (inB (W (t7 - 1)) names.length (let xv2:Bool:=(!Op.bytesLess (names.getD (W (t7 - 1)).toNat []) (t5.getD t7.toNat []));(cond xv2 (some false) (back names t5 t6 (W (t7+1)))))) (back names t5 t6 (W (t7+1))))))) k0)
def aj_.loop3 (n:Nat) (k0:Option Bool) (N:Nat):(List Bs)→(List Bs)→Int→Int→Option Bool :=
 cD_ (fun _ _ _ _=>none) (fun back=>aj_.step3 n k0 back) N
def aj_:Nat→(List Bs)→Option Bool
 |0,_=>none
 |n+1,names=>
  (aj_.loop3 n (some true) n names names (names.length:Int) 0)
def cj_:Nat→aa_→Option Bool
 |0,_=>none
 |n+1,o=>
  (cond (decide ((o.list.length:Int) > 0)) (cond (o.kind != 4) (cond (o.kind != 5) (some false) (cond (decide ((o.names.length:Int) > 0)) (cond (o.kind != 5) (some false) (cond (o.n_ != 0) (cond (o.kind != 1) (cond (o.kind != 2) (some false) (cond (!(o.s == [])) (cond (o.kind != 3) (some false) (cond (o.kind == 1) ((aE_ n o.n_ 0 1).bind fun xr1=>(some xr1)) (cond (o.kind == 2) ((aY_ n o.n_).bind fun xr2=>(some xr2)) (cond (o.kind == 3) ((an_ n o.s).bind fun xr3=>(some xr3)) (cond (o.kind == 5) (cond ((o.names.length:Int) == (o.list.length:Int)) ((aj_ n o.names).bind fun xr4=>(some xr4)) (some false)) (cond (o.kind == 0) (some true) (some (o.kind == 4)))))))) (cond (o.kind == 1) ((aE_ n o.n_ 0 1).bind fun xr5=>(some xr5)) (cond (o.kind == 2) ((aY_ n o.n_).bind fun xr6=>(some xr6)) (cond (o.kind == 3) ((an_ n o.s).bind fun xr7=>(some xr7)) (cond (o.kind == 5) (cond ((o.names.length:Int) == (o.list.length:Int)) ((aj_ n o.names).bind fun xr8=>(some xr8)) (some false)) (cond (o.kind == 0) (some true) (some (o.kind == 4))))))))) (cond (!(o.s == [])) (cond (o.kind != 3) (some false) (cond (o.kind == 1) ((aE_ n o.n_ 0 1).bind fun xr9=>(some xr9)) (cond (o.kind == 2) ((aY_ n o.n_).bind fun xr10=>(some xr10)) (cond (o.kind == 3) ((an_ n o.s).bind fun xr11=>(some xr11)) (cond (o.kind == 5) (cond ((o.names.length:Int) == (o.list.length:Int)) ((aj_ n o.names).bind fun xr12=>(some xr12)) (some false)) (cond (o.kind == 0) (some true) (some (o.kind == 4)))))))) (cond (o.kind == 1) ((aE_ n o.n_ 0 1).bind fun xr13=>(some xr13)) (cond (o.kind == 2) ((aY_ n o.n_).bind fun xr14=>(some xr14)) (cond (o.kind == 3) ((an_ n o.s).bind fun xr15=>(some xr15)) (cond (o.kind == 5) (cond ((o.names.length:Int) == (o.list.length:Int)) ((aj_ n o.names).bind fun xr16=>(some xr16)) (some false)) (cond (o.kind == 0) (some true) (some (o.kind == 4))))))))) (cond (!(o.s == [])) (cond (o.kind != 3) (some false) (cond (o.kind == 1) ((aE_ n o.n_ 0 1).bind fun xr17=>(some xr17)) (cond (o.kind == 2) ((aY_ n o.n_).bind fun xr18=>(some xr18)) (cond (o.kind == 3) ((an_ n o.s).bind fun xr19=>(some xr19)) (cond (o.kind == 5) (cond ((o.names.length:Int) == (o.list.length:Int)) ((aj_ n o.names).bind fun xr20=>(some xr20)) (some false)) (cond (o.kind == 0) (some true) (some (o.kind == 4)))))))) (cond (o.kind == 1) ((aE_ n o.n_ 0 1).bind fun xr21=>(some xr21)) (cond (o.kind == 2) ((aY_ n o.n_).bind fun xr22=>(some xr22)) (cond (o.kind == 3) ((an_ n o.s).bind fun xr23=>(some xr23)) (cond (o.kind == 5) (cond ((o.names.length:Int) == (o.list.length:Int)) ((aj_ n o.names).bind fun xr24=>(some xr24)) (some false)) (cond (o.kind == 0) (some true) (some (o.kind == 4)))))))))) (cond (o.n_ != 0) (cond (o.kind != 1) (cond (o.kind != 2) (some false) (cond (!(o.s == [])) (cond (o.kind != 3) (some false) (cond (o.kind == 1) ((aE_ n o.n_ 0 1).bind fun xr25=>(some xr25)) (cond (o.kind == 2) ((aY_ n o.n_).bind fun xr26=>(some xr26)) (cond (o.kind == 3) ((an_ n o.s).bind fun xr27=>(some xr27)) (cond (o.kind == 5) (cond ((o.names.length:Int) == (o.list.length:Int)) ((aj_ n o.names).bind fun xr28=>(some xr28)) (some false)) (cond (o.kind == 0) (some true) (some (o.kind == 4)))))))) (cond (o.kind == 1) ((aE_ n o.n_ 0 1).bind fun xr29=>(some xr29)) (cond (o.kind == 2) ((aY_ n o.n_).bind fun xr30=>(some xr30)) (cond (o.kind == 3) ((an_ n o.s).bind fun xr31=>(some xr31)) (cond (o.kind == 5) (cond ((o.names.length:Int) == (o.list.length:Int)) ((aj_ n o.names).bind fun xr32=>(some xr32)) (some false)) (cond (o.kind == 0) (some true) (some (o.kind == 4))))))))) (cond (!(o.s == [])) (cond (o.kind != 3) (some false) (cond (o.kind == 1) ((aE_ n o.n_ 0 1).bind fun xr33=>(some xr33)) (cond (o.kind == 2) ((aY_ n o.n_).bind fun xr34=>(some xr34)) (cond (o.kind == 3) ((an_ n o.s).bind fun xr35=>(some xr35)) (cond (o.kind == 5) (cond ((o.names.length:Int) == (o.list.length:Int)) ((aj_ n o.names).bind fun xr36=>(some xr36)) (some false)) (cond (o.kind == 0) (some true) (some (o.kind == 4)))))))) (cond (o.kind == 1) ((aE_ n o.n_ 0 1).bind fun xr37=>(some xr37)) (cond (o.kind == 2) ((aY_ n o.n_).bind fun xr38=>(some xr38)) (cond (o.kind == 3) ((an_ n o.s).bind fun xr39=>(some xr39)) (cond (o.kind == 5) (cond ((o.names.length:Int) == (o.list.length:Int)) ((aj_ n o.names).bind fun xr40=>(some xr40)) (some false)) (cond (o.kind == 0) (some true) (some (o.kind == 4))))))))) (cond (!(o.s == [])) (cond (o.kind != 3) (some false) (cond (o.kind == 1) ((aE_ n o.n_ 0 1).bind fun xr41=>(some xr41)) (cond (o.kind == 2) ((aY_ n o.n_).bind fun xr42=>(some xr42)) (cond (o.kind == 3) ((an_ n o.s).bind fun xr43=>(some xr43)) (cond (o.kind == 5) (cond ((o.names.length:Int) == (o.list.length:Int)) ((aj_ n o.names).bind fun xr44=>(some xr44)) (some false)) (cond (o.kind == 0) (some true) (some (o.kind == 4)))))))) (cond (o.kind == 1) ((aE_ n o.n_ 0 1).bind fun xr45=>(some xr45)) (cond (o.kind == 2) ((aY_ n o.n_).bind fun xr46=>(some xr46)) (cond (o.kind == 3) ((an_ n o.s).bind fun xr47=>(some xr47)) (cond (o.kind == 5) (cond ((o.names.length:Int) == (o.list.length:Int)) ((aj_ n o.names).bind fun xr48=>(some xr48)) (some false)) (cond (o.kind == 0) (some true) (some (o.kind == 4))))))))))) (cond (decide ((o.names.length:Int) > 0)) (cond (o.kind != 5) (some false) (cond (o.n_ != 0) (cond (o.kind != 1) (cond (o.kind != 2) (some false) (cond (!(o.s == [])) (cond (o.kind != 3) (some false) (cond (o.kind == 1) ((aE_ n o.n_ 0 1).bind fun xr49=>(some xr49)) (cond (o.kind == 2) ((aY_ n o.n_).bind fun xr50=>(some xr50)) (cond (o.kind == 3) ((an_ n o.s).bind fun xr51=>(some xr51)) (cond (o.kind == 5) (cond ((o.names.length:Int) == (o.list.length:Int)) ((aj_ n o.names).bind fun xr52=>(some xr52)) (some false)) (cond (o.kind == 0) (some true) (some (o.kind == 4)))))))) (cond (o.kind == 1) ((aE_ n o.n_ 0 1).bind fun xr53=>(some xr53)) (cond (o.kind == 2) ((aY_ n o.n_).bind fun xr54=>(some xr54)) (cond (o.kind == 3) ((an_ n o.s).bind fun xr55=>(some xr55)) (cond (o.kind == 5) (cond ((o.names.length:Int) == (o.list.length:Int)) ((aj_ n o.names).bind fun xr56=>(some xr56)) (some false)) (cond (o.kind == 0) (some true) (some (o.kind == 4))))))))) (cond (!(o.s == [])) (cond (o.kind != 3) (some false) (cond (o.kind == 1) ((aE_ n o.n_ 0 1).bind fun xr57=>(some xr57)) (cond (o.kind == 2) ((aY_ n o.n_).bind fun xr58=>(some xr58)) (cond (o.kind == 3) ((an_ n o.s).bind fun xr59=>(some xr59)) (cond (o.kind == 5) (cond ((o.names.length:Int) == (o.list.length:Int)) ((aj_ n o.names).bind fun xr60=>(some xr60)) (some false)) (cond (o.kind == 0) (some true) (some (o.kind == 4)))))))) (cond (o.kind == 1) ((aE_ n o.n_ 0 1).bind fun xr61=>(some xr61)) (cond (o.kind == 2) ((aY_ n o.n_).bind fun xr62=>(some xr62)) (cond (o.kind == 3) ((an_ n o.s).bind fun xr63=>(some xr63)) (cond (o.kind == 5) (cond ((o.names.length:Int) == (o.list.length:Int)) ((aj_ n o.names).bind fun xr64=>(some xr64)) (some false)) (cond (o.kind == 0) (some true) (some (o.kind == 4))))))))) (cond (!(o.s == [])) (cond (o.kind != 3) (some false) (cond (o.kind == 1) ((aE_ n o.n_ 0 1).bind fun xr65=>(some xr65)) (cond (o.kind == 2) ((aY_ n o.n_).bind fun xr66=>(some xr66)) (cond (o.kind == 3) ((an_ n o.s).bind fun xr67=>(some xr67)) (cond (o.kind == 5) (cond ((o.names.length:Int) == (o.list.length:Int)) ((aj_ n o.names).bind fun xr68=>(some xr68)) (some false)) (cond (o.kind == 0) (some true) (some (o.kind == 4)))))))) (cond (o.kind == 1) ((aE_ n o.n_ 0 1).bind fun xr69=>(some xr69)) (cond (o.kind == 2) ((aY_ n o.n_).bind fun xr70=>(some xr70)) (cond (o.kind == 3) ((an_ n o.s).bind fun xr71=>(some xr71)) (cond (o.kind == 5) (cond ((o.names.length:Int) == (o.list.length:Int)) ((aj_ n o.names).bind fun xr72=>(some xr72)) (some false)) (cond (o.kind == 0) (some true) (some (o.kind == 4)))))))))) (cond (o.n_ != 0) (cond (o.kind != 1) (cond (o.kind != 2) (some false) (cond (!(o.s == [])) (cond (o.kind != 3) (some false) (cond (o.kind == 1) ((aE_ n o.n_ 0 1).bind fun xr73=>(some xr73)) (cond (o.kind == 2) ((aY_ n o.n_).bind fun xr74=>(some xr74)) (cond (o.kind == 3) ((an_ n o.s).bind fun xr75=>(some xr75)) (cond (o.kind == 5) (cond ((o.names.length:Int) == (o.list.length:Int)) ((aj_ n o.names).bind fun xr76=>(some xr76)) (some false)) (cond (o.kind == 0) (some true) (some (o.kind == 4)))))))) (cond (o.kind == 1) ((aE_ n o.n_ 0 1).bind fun xr77=>(some xr77)) (cond (o.kind == 2) ((aY_ n o.n_).bind fun xr78=>(some xr78)) (cond (o.kind == 3) ((an_ n o.s).bind fun xr79=>(some xr79)) (cond (o.kind == 5) (cond ((o.names.length:Int) == (o.list.length:Int)) ((aj_ n o.names).bind fun xr80=>(some xr80)) (some false)) (cond (o.kind == 0) (some true) (some (o.kind == 4))))))))) (cond (!(o.s == [])) (cond (o.kind != 3) (some false) (cond (o.kind == 1) ((aE_ n o.n_ 0 1).bind fun xr81=>(some xr81)) (cond (o.kind == 2) ((aY_ n o.n_).bind fun xr82=>(some xr82)) (cond (o.kind == 3) ((an_ n o.s).bind fun xr83=>(some xr83)) (cond (o.kind == 5) (cond ((o.names.length:Int) == (o.list.length:Int)) ((aj_ n o.names).bind fun xr84=>(some xr84)) (some false)) (cond (o.kind == 0) (some true) (some (o.kind == 4)))))))) (cond (o.kind == 1) ((aE_ n o.n_ 0 1).bind fun xr85=>(some xr85)) (cond (o.kind == 2) ((aY_ n o.n_).bind fun xr86=>(some xr86)) (cond (o.kind == 3) ((an_ n o.s).bind fun xr87=>(some xr87)) (cond (o.kind == 5) (cond ((o.names.length:Int) == (o.list.length:Int)) ((aj_ n o.names).bind fun xr88=>(some xr88)) (some false)) (cond (o.kind == 0) (some true) (some (o.kind == 4))))))))) (cond (!(o.s == [])) (cond (o.kind != 3) (some false) (cond (o.kind == 1) ((aE_ n o.n_ 0 1).bind fun xr89=>(some xr89)) (cond (o.kind == 2) ((aY_ n o.n_).bind fun xr90=>(some xr90)) (cond (o.kind == 3) ((an_ n o.s).bind fun xr91=>(some xr91)) (cond (o.kind == 5) (cond ((o.names.length:Int) == (o.list.length:Int)) ((aj_ n o.names).bind fun xr92=>(some xr92)) (some false)) (cond (o.kind == 0) (some true) (some (o.kind == 4)))))))) (cond (o.kind == 1) ((aE_ n o.n_ 0 1).bind fun xr93=>(some xr93)) (cond (o.kind == 2) ((aY_ n o.n_).bind fun xr94=>(some xr94)) (cond (o.kind == 3) ((an_ n o.s).bind fun xr95=>(some xr95)) (cond (o.kind == 5) (cond ((o.names.length:Int) == (o.list.length:Int)) ((aj_ n o.names).bind fun xr96=>(some xr96)) (some false)) (cond (o.kind == 0) (some true) (some (o.kind == 4))))))))))) (cond (decide ((o.names.length:Int) > 0)) (cond (o.kind != 5) (some false) (cond (o.n_ != 0) (cond (o.kind != 1) (cond (o.kind != 2) (some false) (cond (!(o.s == [])) (cond (o.kind != 3) (some false) (cond (o.kind == 1) ((aE_ n o.n_ 0 1).bind fun xr97=>(some xr97)) (cond (o.kind == 2) ((aY_ n o.n_).bind fun xr98=>(some xr98)) (cond (o.kind == 3) ((an_ n o.s).bind fun xr99=>(some xr99)) (cond (o.kind == 5) (cond ((o.names.length:Int) == (o.list.length:Int)) ((aj_ n o.names).bind fun xr100=>(some xr100)) (some false)) (cond (o.kind == 0) (some true) (some (o.kind == 4)))))))) (cond (o.kind == 1) ((aE_ n o.n_ 0 1).bind fun xr101=>(some xr101)) (cond (o.kind == 2) ((aY_ n o.n_).bind fun xr102=>(some xr102)) (cond (o.kind == 3) ((an_ n o.s).bind fun xr103=>(some xr103)) (cond (o.kind == 5) (cond ((o.names.length:Int) == (o.list.length:Int)) ((aj_ n o.names).bind fun xr104=>(some xr104)) (some false)) (cond (o.kind == 0) (some true) (some (o.kind == 4))))))))) (cond (!(o.s == [])) (cond (o.kind != 3) (some false) (cond (o.kind == 1) ((aE_ n o.n_ 0 1).bind fun xr105=>(some xr105)) (cond (o.kind == 2) ((aY_ n o.n_).bind fun xr106=>(some xr106)) (cond (o.kind == 3) ((an_ n o.s).bind fun xr107=>(some xr107)) (cond (o.kind == 5) (cond ((o.names.length:Int) == (o.list.length:Int)) ((aj_ n o.names).bind fun xr108=>(some xr108)) (some false)) (cond (o.kind == 0) (some true) (some (o.kind == 4)))))))) (cond (o.kind == 1) ((aE_ n o.n_ 0 1).bind fun xr109=>(some xr109)) (cond (o.kind == 2) ((aY_ n o.n_).bind fun xr110=>(some xr110)) (cond (o.kind == 3) ((an_ n o.s).bind fun xr111=>(some xr111)) (cond (o.kind == 5) (cond ((o.names.length:Int) == (o.list.length:Int)) ((aj_ n o.names).bind fun xr112=>(some xr112)) (some false)) (cond (o.kind == 0) (some true) (some (o.kind == 4))))))))) (cond (!(o.s == [])) (cond (o.kind != 3) (some false) (cond (o.kind == 1) ((aE_ n o.n_ 0 1).bind fun xr113=>(some xr113)) (cond (o.kind == 2) ((aY_ n o.n_).bind fun xr114=>(some xr114)) (cond (o.kind == 3) ((an_ n o.s).bind fun xr115=>(some xr115)) (cond (o.kind == 5) (cond ((o.names.length:Int) == (o.list.length:Int)) ((aj_ n o.names).bind fun xr116=>(some xr116)) (some false)) (cond (o.kind == 0) (some true) (some (o.kind == 4)))))))) (cond (o.kind == 1) ((aE_ n o.n_ 0 1).bind fun xr117=>(some xr117)) (cond (o.kind == 2) ((aY_ n o.n_).bind fun xr118=>(some xr118)) (cond (o.kind == 3) ((an_ n o.s).bind fun xr119=>(some xr119)) (cond (o.kind == 5) (cond ((o.names.length:Int) == (o.list.length:Int)) ((aj_ n o.names).bind fun xr120=>(some xr120)) (some false)) (cond (o.kind == 0) (some true) (some (o.kind == 4)))))))))) (cond (o.n_ != 0) (cond (o.kind != 1) (cond (o.kind != 2) (some false) (cond (!(o.s == [])) (cond (o.kind != 3) (some false) (cond (o.kind == 1) ((aE_ n o.n_ 0 1).bind fun xr121=>(some xr121)) (cond (o.kind == 2) ((aY_ n o.n_).bind fun xr122=>(some xr122)) (cond (o.kind == 3) ((an_ n o.s).bind fun xr123=>(some xr123)) (cond (o.kind == 5) (cond ((o.names.length:Int) == (o.list.length:Int)) ((aj_ n o.names).bind fun xr124=>(some xr124)) (some false)) (cond (o.kind == 0) (some true) (some (o.kind == 4)))))))) (cond (o.kind == 1) ((aE_ n o.n_ 0 1).bind fun xr125=>(some xr125)) (cond (o.kind == 2) ((aY_ n o.n_).bind fun xr126=>(some xr126)) (cond (o.kind == 3) ((an_ n o.s).bind fun xr127=>(some xr127)) (cond (o.kind == 5) (cond ((o.names.length:Int) == (o.list.length:Int)) ((aj_ n o.names).bind fun xr128=>(some xr128)) (some false)) (cond (o.kind == 0) (some true) (some (o.kind == 4))))))))) (cond (!(o.s == [])) (cond (o.kind != 3) (some false) (cond (o.kind == 1) ((aE_ n o.n_ 0 1).bind fun xr129=>(some xr129)) (cond (o.kind == 2) ((aY_ n o.n_).bind fun xr130=>(some xr130)) (cond (o.kind == 3) ((an_ n o.s).bind fun xr131=>(some xr131)) (cond (o.kind == 5) (cond ((o.names.length:Int) == (o.list.length:Int)) ((aj_ n o.names).bind fun xr132=>(some xr132)) (some false)) (cond (o.kind == 0) (some true) (some (o.kind == 4)))))))) (cond (o.kind == 1) ((aE_ n o.n_ 0 1).bind fun xr133=>(some xr133)) (cond (o.kind == 2) ((aY_ n o.n_).bind fun xr134=>(some xr134)) (cond (o.kind == 3) ((an_ n o.s).bind fun xr135=>(some xr135)) (cond (o.kind == 5) (cond ((o.names.length:Int) == (o.list.length:Int)) ((aj_ n o.names).bind fun xr136=>(some xr136)) (some false)) (cond (o.kind == 0) (some true) (some (o.kind == 4))))))))) (cond (!(o.s == [])) (cond (o.kind != 3) (some false) (cond (o.kind == 1) ((aE_ n o.n_ 0 1).bind fun xr137=>(some xr137)) (cond (o.kind == 2) ((aY_ n o.n_).bind fun xr138=>(some xr138)) (cond (o.kind == 3) ((an_ n o.s).bind fun xr139=>(some xr139)) (cond (o.kind == 5) (cond ((o.names.length:Int) == (o.list.length:Int)) ((aj_ n o.names).bind fun xr140=>(some xr140)) (some false)) (cond (o.kind == 0) (some true) (some (o.kind == 4)))))))) (cond (o.kind == 1) ((aE_ n o.n_ 0 1).bind fun xr141=>(some xr141)) (cond (o.kind == 2) ((aY_ n o.n_).bind fun xr142=>(some xr142)) (cond (o.kind == 3) ((an_ n o.s).bind fun xr143=>(some xr143)) (cond (o.kind == 5) (cond ((o.names.length:Int) == (o.list.length:Int)) ((aj_ n o.names).bind fun xr144=>(some xr144)) (some false)) (cond (o.kind == 0) (some true) (some (o.kind == 4)))))))))))
def aO_.step7 (n:Nat) (impl_sizeIn_:aa_→Int→Option Int) (k0:Int→Option Int) (back:Int→Int→(List aa_)→Int→Int→Option Int) (deep:Int) (n_1:Int) (t16:List aa_) (t17:Int) (t18:Int):Option Int :=
 (cond (decide (t18<t17)) (inB t18 t16.length ((impl_sizeIn_ (aa_.re (t16.getD t18.toNat aa_.dflt)) (W (deep - 1))).bind fun xr2=>(cond (decide ((W (n_1+xr2)) > 400)) (some 401) (back deep (W (n_1+xr2)) t16 t17 (W (t18+1)))))) (k0 n_1))
def aO_.loop7 (n:Nat) (impl_sizeIn_:aa_→Int→Option Int) (k0:Int→Option Int) (N:Nat):Int→Int→(List aa_)→Int→Int→Option Int :=
 cD_ (fun _ _ _ _ _=>none) (fun back=>aO_.step7 n impl_sizeIn_ k0 back) N
def aO_:Nat→aa_→Int→Option Int
 |0,_,_=>none
 |n+1,j,deep=>
  (cond (decide (deep<1)) (some 401) ((cj_ n (aa_.re j)).bind fun xr1=>(cond (!xr1) (some 401) (aO_.loop7 n (aO_ n) (fun xy3=>(some xy3)) n deep 1 j.list (j.list.length:Int) 0))))
def bE_:Nat→aa_→Option Bool
 |0,_=>none
 |n+1,j=>
  ((aO_ n (aa_.re j) 6).bind fun xr1=>(some (decide (xr1≤400))))
def aW_.step4 (n:Nat) (k0:(List Int)→Option Bs) (back:Bs→Int→Int→(List Int)→Option Bs) (s:Bs) (t7:Int) (t8:Int) (out_1:List Int):Option Bs :=
 (cond (decide (t8<t7)) (inB t8 s.length (cond (((s.getD t8.toNat 0).toNat:Int) == 34) (cv_ (out_1.length+([92]:List Int).length) 1 (inB t8 s.length (cv_ ((out_1++([92]:List Int)).length+([((s.getD t8.toNat 0).toNat:Int)]:List Int).length) 1 (back s t7 (W (t8+1)) ((out_1++([92]:List Int))++([((s.getD t8.toNat 0).toNat:Int)]:List Int)))))) (inB t8 s.length (cond (((s.getD t8.toNat 0).toNat:Int) == 92) (cv_ (out_1.length+([92]:List Int).length) 1 (inB t8 s.length (cv_ ((out_1++([92]:List Int)).length+([((s.getD t8.toNat 0).toNat:Int)]:List Int).length) 1 (back s t7 (W (t8+1)) ((out_1++([92]:List Int))++([((s.getD t8.toNat 0).toNat:Int)]:List Int)))))) (inB t8 s.length (cv_ (out_1.length+([((s.getD t8.toNat 0).toNat:Int)]:List Int).length) 1 (back s t7 (W (t8+1)) (out_1++([((s.getD t8.toNat 0).toNat:Int)]:List Int))))))))) (k0 out_1))
def aW_.loop4 (n:Nat) (k0:(List Int)→Option Bs) (N:Nat):Bs→Int→Int→(List Int)→Option Bs :=
 cD_ (fun _ _ _ _=>none) (fun back=>aW_.step4 n k0 back) N
def aW_:Nat→Bs→Option Bs
 |0,_=>none
 |n+1,s=>
  (aW_.loop4 n (fun xy1=>(cv_ (xy1.length+([34]:List Int).length) 1 (some (je_ (xy1++([34]:List Int)))))) n s (s.length:Int) 0 ([34]:List Int))
def strconv_Itoa:Nat→Int→Option Bs
 |0,_=>none
 |_+1,i=>nItoa i
def strings_Join:Nat→List Bs→Bs→Option Bs
 |0,_,_=>none
 |_+1,l,s=>nJoin l s
def aG_.step4 (n:Nat) (impl_written_:aa_→Option Bs) (k0:Int→Int→Bs→(List aa_)→(List Bs)→(List Bs)→Option Bs) (back:(List aa_)→Int→Int→Int→Int→Bs→(List aa_)→(List Bs)→(List Bs)→Option Bs) (t9:List aa_) (t10:Int) (t11:Int) (append0:Int) (append1:Int) (append2:Bs) (append3:List aa_) (append4:List Bs) (t3:List Bs):Option Bs :=
 (cond (decide (t11<t10)) (inB t11 t9.length ((impl_written_ (aa_.re (t9.getD t11.toNat aa_.dflt))).bind fun xr1=>(cond (append0 == 5) (inB t11 append4.length ((aW_ n (append4.getD t11.toNat [])).bind fun xr2=>(cond (decide (xr2.length+[58].length≤9223372036854775807)) (cond (decide ((xr2++[58]).length+xr1.length≤9223372036854775807)) (cv_ (t3.length+([((xr2++[58])++xr1)]:List Bs).length) 16 (back t9 t10 (W (t11+1)) append0 append1 append2 append3 append4 (t3++([((xr2++[58])++xr1)]:List Bs)))) none) none))) (cv_ (t3.length+([xr1]:List Bs).length) 16 (back t9 t10 (W (t11+1)) append0 append1 append2 append3 append4 (t3++([xr1]:List Bs))))))) (k0 append0 append1 append2 append3 append4 t3))
def aG_.loop4 (n:Nat) (impl_written_:aa_→Option Bs) (k0:Int→Int→Bs→(List aa_)→(List Bs)→(List Bs)→Option Bs) (N:Nat):(List aa_)→Int→Int→Int→Int→Bs→(List aa_)→(List Bs)→(List Bs)→Option Bs :=
 cD_ (fun _ _ _ _ _ _ _ _ _=>none) (fun back=>aG_.step4 n impl_written_ k0 back) N
def aG_:Nat→aa_→Option Bs
 |0,_=>none
 |n+1,o=>
  (aG_.loop4 n (aG_ n) (fun xy3 xy4 xy5 xy6 xy7 xy8=>(cond (xy3 == 0) (some [110,117,108,108]) (cond (xy3 == 1) (inB xy4 ([[102,97,108,115,101],[116,114,117,101]]:List Bs).length (let xv9:Bs:=(([[102,97,108,115,101],[116,114,117,101]]:List Bs).getD xy4.toNat []);(some xv9))) (cond (xy3 == 2) ((strconv_Itoa n xy4).bind fun xr10=>(some xr10)) (cond (xy3 == 3) ((aW_ n xy5).bind fun xr11=>(some xr11)) (cond (xy3 == 4) ((strings_Join n xy8 [44]).bind fun xr12=>(cond (decide ([91].length+xr12.length≤9223372036854775807)) (cond (decide ((([91]:Bs)++xr12).length+[93].length≤9223372036854775807)) (some ((([91]:Bs)++xr12)++[93])) none) none)) ((strings_Join n xy8 [44]).bind fun xr13=>(cond (decide ([123].length+xr13.length≤9223372036854775807)) (cond (decide ((([123]:Bs)++xr13).length+[125].length≤9223372036854775807)) (some ((([123]:Bs)++xr13)++[125])) none) none)))))))) n o.list (o.list.length:Int) 0 o.kind o.n_ o.s o.list o.names ([]:List Bs))
def b2_:Nat→aa_→Option Bs
 |0,_=>none
 |n+1,j=>
  ((bE_ n (aa_.re j)).bind fun xr1=>(cond (!xr1) (some []) ((aG_ n (aa_.re j)).bind fun xr2=>(cond (decide ((xr2.length:Int) > 6000)) (some []) (some xr2)))))
def bX_:Nat→aa_→Option Bool
 |0,_=>none
 |n+1,j=>
  (cond (j.kind == 0) (cond (j.n_ == 0) (cond (j.s == []) (cond ((j.list.length:Int) == 0) (some ((j.names.length:Int) == 0)) (some false)) (some false)) (some false)) (some false))
def bc_.step3 (n:Nat) (k0:Int→(List Bs)→Int→Int→Bs→(List aa_)→(List Bs)→Option Bool) (back:(List Bs)→Int→Int→Int→(List Bs)→Int→Int→Bs→(List aa_)→(List Bs)→Option Bool) (t6:List Bs) (t7:Int) (t8:Int) (o0:Int) (o1:List Bs) (o2:Int) (o3:Int) (o4:Bs) (o5:List aa_) (o6:List Bs):Option Bool :=
 (cond (decide (t8<t7)) (inB t8 t6.length ((an_ n (t6.getD t8.toNat [])).bind fun xr1=>(cond (!xr1) (some false) (back t6 t7 (W (t8+1)) o0 o1 o2 o3 o4 o5 o6)))) (k0 o0 o1 o2 o3 o4 o5 o6))
def bc_.loop3 (n:Nat) (k0:Int→(List Bs)→Int→Int→Bs→(List aa_)→(List Bs)→Option Bool) (N:Nat):(List Bs)→Int→Int→Int→(List Bs)→Int→Int→Bs→(List aa_)→(List Bs)→Option Bool :=
 cD_ (fun _ _ _ _ _ _ _ _ _ _=>none) (fun back=>bc_.step3 n k0 back) N
def bc_:Nat→TOp→Option Bool
 |0,_=>none
 |n+1,o=>
  (bc_.loop3 n (fun xy2 xy3 xy4 xy5 xy6 xy7 xy8=>((aE_ n xy2 1 4).bind fun xr9=>(cond xr9 (cond (decide ((xy3.length:Int)≤6)) ((bE_ n (aa_.mk xy4 xy5 xy6 xy7 xy8)).bind fun xr10=>(cond xr10 (cond (xy2 != 2) (some true) ((bX_ n (aa_.mk xy4 xy5 xy6 xy7 xy8)).bind fun xr11=>(some xr11))) (some false))) (some false)) (some false)))) n o.way (o.way.length:Int) 0 o.kind o.way o.value.kind o.value.n_ o.value.s o.value.list o.value.names)
def bS_:Nat→Unit→Option (List Bs)
 |0,_=>none
 |n+1,_u=>
  (some ([[97,100,100],[114,101,109,111,118,101],[114,101,112,108,97,99,101],[116,101,115,116]]:List Bs))
def strings_ReplaceAll:Nat→Bs→Bs→Bs→Option Bs
 |0,_,_,_=>none
 |_+1,s,a,b=>ej_ s a b
def aR_.step4 (n:Nat) (k0:Bs→Option Bs) (back:Bs→(List Bs)→Int→Int→Option Bs) (out_1:Bs) (t6:List Bs) (t7:Int) (t8:Int):Option Bs :=
 (cond (decide (t8<t7)) (inB t8 t6.length ((strings_ReplaceAll n (t6.getD t8.toNat []) [126] [126,48]).bind fun xr1=>((strings_ReplaceAll n xr1 [47] [126,49]).bind fun xr2=>(cond (decide ([47].length+xr2.length≤9223372036854775807)) (cond (decide (out_1.length+(([47]:Bs)++xr2).length≤9223372036854775807)) (back (out_1++(([47]:Bs)++xr2)) t6 t7 (W (t8+1))) none) none)))) (k0 out_1))
def aR_.loop4 (n:Nat) (k0:Bs→Option Bs) (N:Nat):Bs→(List Bs)→Int→Int→Option Bs :=
 cD_ (fun _ _ _ _=>none) (fun back=>aR_.step4 n k0 back) N
def aR_:Nat→(List Bs)→Option Bs
 |0,_=>none
 |n+1,way=>
  (aR_.loop4 n (fun xy3=>(some xy3)) n [] way (way.length:Int) 0)
def b1_:Nat→aa_→Option aa_
 |0,_=>none
 |n+1,j=>
  ((bE_ n (aa_.re j)).bind fun xr1=>(cond (!xr1) (some (aa_.mk 0 0 [] ([]:List aa_) ([]:List Bs))) (some (aa_.re j))))
def b7_:Nat→TOp→Option aa_
 |0,_=>none
 |n+1,o=>
  ((bc_ n (TOp.mk o.kind o.way (aa_.re o.value))).bind fun xr1=>(cond (!xr1) (some (aa_.mk 0 0 [] ([]:List aa_) ([]:List Bs))) ((bS_ n ()).bind fun xr2=>(inB (W (o.kind - 1)) xr2.length ((aR_ n o.way).bind fun xr3=>(cond (o.kind != 2) (cv_ (([[111,112],[112,97,116,104]]:List Bs).length+([[118,97,108,117,101]]:List Bs).length) 16 ((ak_ n (aa_.re o.value)).bind fun xr4=>(cv_ (([(aa_.mk 3 0 (xr2.getD ((W (o.kind - 1)).toNat) []) [] []),(aa_.mk 3 0 xr3 [] [])]:List aa_).length+([(aa_.re xr4)]:List aa_).length) 80 ((b1_ n (aa_.mk 5 0 [] (([(aa_.mk 3 0 (xr2.getD ((W (o.kind - 1)).toNat) []) [] []),(aa_.mk 3 0 xr3 [] [])]:List aa_)++([(aa_.re xr4)]:List aa_)) (([[111,112],[112,97,116,104]]:List Bs)++([[118,97,108,117,101]]:List Bs)))).bind fun xr5=>(some (aa_.re xr5)))))) ((b1_ n (aa_.mk 5 0 [] ([(aa_.mk 3 0 (xr2.getD ((W (o.kind - 1)).toNat) []) [] []),(aa_.mk 3 0 xr3 [] [])]:List aa_) ([[111,112],[112,97,116,104]]:List Bs))).bind fun xr6=>(some (aa_.re xr6)))))))))
def aN_.step4 (n:Nat) (k0:Int→Int→Bs→Int→Int→Bs→(List aa_)→Option (aa_ × Bool)) (back:(List TOp)→Int→Int→Int→Int→Bs→Int→Int→Bs→(List aa_)→Option (aa_ × Bool)) (t9:List TOp) (t10:Int) (t11:Int) (t20:Int) (t21:Int) (t22:Bs) (j0:Int) (j1:Int) (j2:Bs) (j3:List aa_):Option (aa_ × Bool) :=
 (cond (decide (t11<t10)) (inB t11 t9.length ((b7_ n { (t9.getD t11.toNat TOp.dflt) with value:=(aa_.re ((t9.getD t11.toNat TOp.dflt).value)) }).bind fun xr1=>(cond (xr1.kind == 0) (some ((aa_.mk 0 0 [] ([]:List aa_) ([]:List Bs)),false)) (cv_ (j3.length+([(aa_.re xr1)]:List aa_).length) 80 (back t9 t10 (W (t11+1)) t20 t21 t22 j0 j1 j2 (j3++([(aa_.re xr1)]:List aa_))))))) (k0 t20 t21 t22 j0 j1 j2 j3))
def aN_.loop4 (n:Nat) (k0:Int→Int→Bs→Int→Int→Bs→(List aa_)→Option (aa_ × Bool)) (N:Nat):(List TOp)→Int→Int→Int→Int→Bs→Int→Int→Bs→(List aa_)→Option (aa_ × Bool) :=
 cD_ (fun _ _ _ _ _ _ _ _ _ _=>none) (fun back=>aN_.step4 n k0 back) N
def aN_:Nat→(List TOp)→Option (aa_ × Bool)
 |0,_=>none
 |n+1,list=>
  (aN_.loop4 n (fun xy2 xy3 xy4 xy5 xy6 xy7 xy8=>(some ((aa_.mk xy5 xy6 xy7 xy8 ([]:List Bs)),true))) n list (list.length:Int) 0 0 0 [] 4 0 [] ([]:List aa_))
def bx_:Nat→(List TOp)→Option Int
 |0,_=>none
 |n+1,list=>
  ((aN_ n list).bind fun xr1=>((b2_ n (aa_.re xr1.1)).bind fun xr2=>(cond (!xr1.2) (some (-1)) (cond (xr2 == []) (some (-1)) (some (xr2.length:Int))))))
def bU_:Nat→be_→Option Bool
 |0,_=>none
 |n+1,e=>
  (cond (e.kind == 1) ((bs_ n e.version).bind fun xr1=>(cond xr1 (cond (e.base == 0) ((b2_ n (aa_.re e.doc)).bind fun xr2=>(cond (!(xr2 == [])) (some ((e.ops.length:Int) == 0)) (some false))) (some false)) (some false))) (cond (e.kind == 2) ((bs_ n e.version).bind fun xr3=>(cond xr3 ((aE_ n e.base 0 (W (e.version - 1))).bind fun xr4=>(cond xr4 ((bX_ n (aa_.re e.doc)).bind fun xr5=>(cond xr5 (cond (decide ((e.ops.length:Int)≤40)) ((bx_ n e.ops).bind fun xr6=>(some (decide (xr6≥0)))) (some false)) (some false))) (some false))) (some false))) (some false)))
def ah_.step6 (n:Nat) (k0:Option Bool) (back:(List Bs)→(List Bs)→Int→Int→Option Bool) (s1:List Bs) (s2:List Bs) (t12:Int) (t13:Int):Option Bool :=
 (cond (decide (t13<t12)) (inB t13 s1.length (inB t13 s2.length (cond (!((s1.getD t13.toNat []) == (s2.getD t13.toNat []))) (some false) (back s1 s2 t12 (W (t13+1)))))) k0)
def ah_.loop6 (n:Nat) (k0:Option Bool) (N:Nat):(List Bs)→(List Bs)→Int→Int→Option Bool :=
 cD_ (fun _ _ _ _=>none) (fun back=>ah_.step6 n k0 back) N
def ah_:Nat→(List Bs)→(List Bs)→Option Bool
 |0,_,_=>none
 |n+1,s1,s2=>
  (cond ((s1.length:Int) != (s2.length:Int)) (some false) (ah_.loop6 n (some true) n s1 s2 (s1.length:Int) 0))
def ab_.step6 (n:Nat) (impl_alike_:aa_→aa_→Option Bool) (k0:Option Bool) (back:(List aa_)→(List aa_)→Int→Int→Option Bool) (s2:List aa_) (t15:List aa_) (t16:Int) (t17:Int):Option Bool :=
 (cond (decide (t17<t16)) (inB t17 t15.length (inB t17 s2.length ((impl_alike_ (aa_.re (t15.getD t17.toNat aa_.dflt)) (aa_.re (s2.getD t17.toNat aa_.dflt))).bind fun xr1=>(cond (!xr1) (some false) (back s2 t15 t16 (W (t17+1))))))) k0)
def ab_.loop6 (n:Nat) (impl_alike_:aa_→aa_→Option Bool) (k0:Option Bool) (N:Nat):(List aa_)→(List aa_)→Int→Int→Option Bool :=
 cD_ (fun _ _ _ _=>none) (fun back=>ab_.step6 n impl_alike_ k0 back) N
mutual
def bY_:Nat→aa_→aa_→Option Bool
 |0,_,_=>none
 |n+1,a,b=>
  (cond (a.kind == b.kind) (cond (a.n_ == b.n_) (cond (a.s == b.s) ((ah_ n a.names b.names).bind fun xr1=>(cond xr1 ((ab_ n a.list b.list).bind fun xr2=>(some xr2)) (some false))) (some false)) (some false)) (some false))
def ab_:Nat→(List aa_)→(List aa_)→Option Bool
 |0,_,_=>none
 |n+1,s1,s2=>
  (cond ((s1.length:Int) != (s2.length:Int)) (some false) (ab_.loop6 n (bY_ n) (some true) n s2 s1 (s1.length:Int) 0))
end
def ci_:Nat→aa_→TOp→Option (aa_ × Bool)
 |0,_,_=>none
 |n+1,j,o=>
  (cond (o.kind == 1) (cond (o.kind == 1) ((ak_ n (aa_.re o.value)).bind fun xr1=>(some ((aa_.re xr1),true))) (cond (o.kind == 4) ((bY_ n (aa_.re j) (aa_.re o.value)).bind fun xr2=>(some ((aa_.re j),xr2))) (some ((aa_.mk 0 0 [] ([]:List aa_) ([]:List Bs)),false)))) (cond (o.kind == 3) ((ak_ n (aa_.re o.value)).bind fun xr3=>(some ((aa_.re xr3),true))) (cond (o.kind == 4) ((bY_ n (aa_.re j) (aa_.re o.value)).bind fun xr4=>(some ((aa_.re j),xr4))) (some ((aa_.mk 0 0 [] ([]:List aa_) ([]:List Bs)),false)))))
def a7_:Nat→Bs→Option Bool
 |0,_=>none
 |n+1,x=>
  (some (!(x == x)))
def bg_:Nat→Bs→Bs→Option Bool
 |0,_,_=>none
 |n+1,x,y=>
  ((a7_ n x).bind fun xr1=>(cond xr1 ((a7_ n y).bind fun xr2=>(cond (!xr2) (some true) (some (Op.bytesLess x y)))) (some (Op.bytesLess x y))))
def aV_:Nat→Bs→Option Bool
 |0,_=>none
 |n+1,x=>
  (some (!(x == x)))
def ac_.step4 (n:Nat) (k0:(List Bs)→Bs→Int→Int→Option (Int × Bool)) (back:(List Bs)→Bs→Int→Int→Int→Option (Int × Bool)) (x:List Bs) (target:Bs) (n_1:Int) (i:Int) (j:Int):Option (Int × Bool) :=
 (cond (decide (i<j)) (let xv1:Int:=(Int.fdiv (IntKind.u64.wrap ((W (i+j)))) (2 ^ min (1:Int).toNat (IntKind.bits .u64)));(inB (W (xv1)) x.length ((bg_ n (x.getD (W (xv1)).toNat []) target).bind fun xr2=>(cond xr2 (back x target n_1 (W ((W (xv1))+1)) j) (back x target n_1 i (W (xv1))))))) (k0 x target n_1 i))
def ac_.loop4 (n:Nat) (k0:(List Bs)→Bs→Int→Int→Option (Int × Bool)) (N:Nat):(List Bs)→Bs→Int→Int→Int→Option (Int × Bool) :=
 cD_ (fun _ _ _ _ _=>none) (fun back=>ac_.step4 n k0 back) N
def ac_:Nat→(List Bs)→Bs→Option (Int × Bool)
 |0,_,_=>none
 |n+1,x,target=>
  (ac_.loop4 n (fun xy3 xy4 xy5 xy6=>(cond (decide (xy6<xy5)) (inB xy6 xy3.length (cond ((xy3.getD xy6.toNat []) == xy4) (some (xy6,true)) (inB xy6 xy3.length ((aV_ n (xy3.getD xy6.toNat [])).bind fun xr7=>(cond xr7 ((aV_ n xy4).bind fun xr8=>(some (xy6,xr8))) (some (xy6,false))))))) (some (xy6,false)))) n x target (x.length:Int) 0 (x.length:Int))
def a5_:Nat→List Bs→Int→List Bs→Option (List Bs)
 |0,_,_,_=>none
 |_+1,s,i,v=>gi_ 16 s i v
def a8_:Nat→List aa_→Int→List aa_→Option (List aa_)
 |0,_,_,_=>none
 |_+1,s,i,v=>gi_ 80 s i v
def ca_:Nat→Bs→Option (Int × Bool)
 |0,_=>none
 |_+1,s=>nAtoi s
def bK_:Nat→Bs→Option Int
 |0,_=>none
 |n+1,s=>
  ((ca_ n s).bind fun xr1=>(cond (!xr1.2) (some (-1)) ((aE_ n xr1.1 0 999).bind fun xr2=>(cond (!xr2) (some (-1)) ((strconv_Itoa n xr1.1).bind fun xr3=>(cond (!(xr3 == s)) (some (-1)) (some xr1.1)))))))
def bT_:Nat→aa_→Bs→aa_→Option (aa_ × Bool)
 |0,_,_,_=>none
 |n+1,o,append,a2=>
  (cond (o.kind == 5) ((ac_ n o.names append).bind fun xr1=>(cond xr1.2 (inB xr1.1 o.list.length (let xa2:List aa_:=o.list.set xr1.1.toNat (aa_.re a2);(some ((aa_.mk o.kind o.n_ o.s xa2 o.names),true)))) ((a5_ n o.names xr1.1 ([append]:List Bs)).bind fun xr3=>((a8_ n o.list xr1.1 ([(aa_.re a2)]:List aa_)).bind fun xr4=>(some ((aa_.mk o.kind o.n_ o.s xr4 xr3),true)))))) (cond (o.kind == 4) ((bK_ n append).bind fun xr5=>(cond (append == [45]) ((aE_ n (o.list.length:Int) 0 (o.list.length:Int)).bind fun xr6=>(cond (!xr6) (some ((aa_.mk 0 0 [] ([]:List aa_) ([]:List Bs)),false)) ((a8_ n o.list (o.list.length:Int) ([(aa_.re a2)]:List aa_)).bind fun xr7=>(some ((aa_.mk o.kind o.n_ o.s xr7 o.names),true))))) ((aE_ n xr5 0 (o.list.length:Int)).bind fun xr8=>(cond (!xr8) (some ((aa_.mk 0 0 [] ([]:List aa_) ([]:List Bs)),false)) ((a8_ n o.list xr5 ([(aa_.re a2)]:List aa_)).bind fun xr9=>(some ((aa_.mk o.kind o.n_ o.s xr9 o.names),true))))))) (some ((aa_.mk 0 0 [] ([]:List aa_) ([]:List Bs)),false))))
def ag_.step3 (n:Nat) (k0:Option Int) (back:(List Bs)→Bs→Int→Int→Option Int) (s:List Bs) (v:Bs) (t7:Int) (t8:Int):Option Int :=
 (cond (decide (t8<t7)) (inB t8 s.length (cond (v == (s.getD t8.toNat [])) (some t8) (back s v t7 (W (t8+1))))) k0)
def ag_.loop3 (n:Nat) (k0:Option Int) (N:Nat):(List Bs)→Bs→Int→Int→Option Int :=
 cD_ (fun _ _ _ _=>none) (fun back=>ag_.step3 n k0 back) N
def ag_:Nat→(List Bs)→Bs→Option Int
 |0,_,_=>none
 |n+1,s,v=>
  (ag_.loop3 n (some (-1)) n s v (s.length:Int) 0)
def bJ_:Nat→aa_→Bs→Option Int
 |0,_,_=>none
 |n+1,j,text=>
  (cond (j.kind == 5) ((ag_ n j.names text).bind fun xr1=>(cond (decide (xr1≥(j.list.length:Int))) (some (-1)) (some xr1))) (cond (j.kind == 4) ((bK_ n text).bind fun xr2=>(cond (decide (xr2≥(j.list.length:Int))) (some (-1)) (some xr2))) (cond (decide ((-1:Int)≥(j.list.length:Int))) (some (-1)) (some (-1)))))
def bf_:Nat→List aa_→Int→Int→Option (List aa_)
 |0,_,_,_=>none
 |_+1,s,i,j=>gj_ s i j
def a6_:Nat→List Bs→Int→Int→Option (List Bs)
 |0,_,_,_=>none
 |_+1,s,i,j=>gj_ s i j
def bz_:Nat→aa_→Int→Option aa_
 |0,_,_=>none
 |n+1,j,at1=>
  ((bf_ n j.list at1 (W (at1+1))).bind fun xr1=>(cond (j.kind == 5) ((a6_ n j.names at1 (W (at1+1))).bind fun xr2=>(some (aa_.mk j.kind j.n_ j.s xr1 xr2))) (some (aa_.mk j.kind j.n_ j.s xr1 j.names))))
def bt_:Nat→aa_→(List Bs)→TOp→Option (aa_ × Bool)
 |0,_,_,_=>none
 |n+1,o,append,a2=>
  (cond ((append.length:Int) == 0) ((ci_ n (aa_.re o) (TOp.mk a2.kind a2.way (aa_.re a2.value))).bind fun xr1=>(some ((aa_.re xr1.1),xr1.2))) (cond ((append.length:Int) == 1) (cond (a2.kind == 1) (inB 0 append.length ((ak_ n (aa_.re a2.value)).bind fun xr2=>((bT_ n (aa_.re o) (append.getD 0 []) (aa_.re xr2)).bind fun xr3=>(some ((aa_.re xr3.1),xr3.2))))) (inB 0 append.length ((bJ_ n (aa_.re o) (append.getD 0 [])).bind fun xr4=>(cond (decide (xr4<0)) (some ((aa_.mk 0 0 [] ([]:List aa_) ([]:List Bs)),false)) (cond ((append.length:Int) == 1) (cond (a2.kind == 2) ((bz_ n (aa_.re o) xr4).bind fun xr5=>(some ((aa_.re xr5),true))) (inB xr4 o.list.length (gs_ 1 (append.length:Int) append.length (cond (Nat.beq xr4.toNat xr4.toNat) (cond (Nat.beq xr4.toNat xr4.toNat) ((bt_ n (aa_.re (o.list.getD xr4.toNat aa_.dflt)) ((append.take (append.length:Int).toNat).drop 1) (TOp.mk a2.kind a2.way (aa_.re a2.value))).bind fun xr6=>(cond (!xr6.2) (some ((aa_.mk 0 0 [] ([]:List aa_) ([]:List Bs)),false)) (inB xr4 o.list.length (cond (Nat.beq xr4.toNat xr4.toNat) (let xa7:List aa_:=o.list.set xr4.toNat (aa_.re xr6.1);(some ((aa_.mk o.kind o.n_ o.s xa7 o.names),true))) none)))) none) none)))) (inB xr4 o.list.length (gs_ 1 (append.length:Int) append.length (cond (Nat.beq xr4.toNat xr4.toNat) (cond (Nat.beq xr4.toNat xr4.toNat) ((bt_ n (aa_.re (o.list.getD xr4.toNat aa_.dflt)) ((append.take (append.length:Int).toNat).drop 1) (TOp.mk a2.kind a2.way (aa_.re a2.value))).bind fun xr8=>(cond (!xr8.2) (some ((aa_.mk 0 0 [] ([]:List aa_) ([]:List Bs)),false)) (inB xr4 o.list.length (cond (Nat.beq xr4.toNat xr4.toNat) (let xa9:List aa_:=o.list.set xr4.toNat (aa_.re xr8.1);(some ((aa_.mk o.kind o.n_ o.s xa9 o.names),true))) none)))) none) none)))))))) (inB 0 append.length ((bJ_ n (aa_.re o) (append.getD 0 [])).bind fun xr10=>(cond (decide (xr10<0)) (some ((aa_.mk 0 0 [] ([]:List aa_) ([]:List Bs)),false)) (cond ((append.length:Int) == 1) (cond (a2.kind == 2) ((bz_ n (aa_.re o) xr10).bind fun xr11=>(some ((aa_.re xr11),true))) (inB xr10 o.list.length (gs_ 1 (append.length:Int) append.length (cond (Nat.beq xr10.toNat xr10.toNat) (cond (Nat.beq xr10.toNat xr10.toNat) ((bt_ n (aa_.re (o.list.getD xr10.toNat aa_.dflt)) ((append.take (append.length:Int).toNat).drop 1) (TOp.mk a2.kind a2.way (aa_.re a2.value))).bind fun xr12=>(cond (!xr12.2) (some ((aa_.mk 0 0 [] ([]:List aa_) ([]:List Bs)),false)) (inB xr10 o.list.length (cond (Nat.beq xr10.toNat xr10.toNat) (let xa13:List aa_:=o.list.set xr10.toNat (aa_.re xr12.1);(some ((aa_.mk o.kind o.n_ o.s xa13 o.names),true))) none)))) none) none)))) (inB xr10 o.list.length (gs_ 1 (append.length:Int) append.length (cond (Nat.beq xr10.toNat xr10.toNat) (cond (Nat.beq xr10.toNat xr10.toNat) ((bt_ n (aa_.re (o.list.getD xr10.toNat aa_.dflt)) ((append.take (append.length:Int).toNat).drop 1) (TOp.mk a2.kind a2.way (aa_.re a2.value))).bind fun xr14=>(cond (!xr14.2) (some ((aa_.mk 0 0 [] ([]:List aa_) ([]:List Bs)),false)) (inB xr10 o.list.length (cond (Nat.beq xr10.toNat xr10.toNat) (let xa15:List aa_:=o.list.set xr10.toNat (aa_.re xr14.1);(some ((aa_.mk o.kind o.n_ o.s xa15 o.names),true))) none)))) none) none)))))))))
def ck_:Nat→aa_→TOp→Option (aa_ × Bool)
 |0,_,_=>none
 |n+1,j,o=>
  ((bE_ n (aa_.re j)).bind fun xr1=>(cond (!xr1) (some ((aa_.mk 0 0 [] ([]:List aa_) ([]:List Bs)),false)) ((bc_ n (TOp.mk o.kind o.way (aa_.re o.value))).bind fun xr2=>(cond (!xr2) (some ((aa_.mk 0 0 [] ([]:List aa_) ([]:List Bs)),false)) ((ak_ n (aa_.re j)).bind fun xr3=>((bt_ n (aa_.re xr3) o.way (TOp.mk o.kind o.way (aa_.re o.value))).bind fun xr4=>(cond (!xr4.2) (some ((aa_.mk 0 0 [] ([]:List aa_) ([]:List Bs)),false)) ((bE_ n (aa_.re xr4.1)).bind fun xr5=>(cond (!xr5) (some ((aa_.mk 0 0 [] ([]:List aa_) ([]:List Bs)),false)) (some ((aa_.re xr4.1),true)))))))))))
def aH_.step7 (n:Nat) (k0:Int→Int→Bs→Int→Int→Bs→(List aa_)→(List Bs)→Option (aa_ × Bool)) (back:(List TOp)→Int→Int→Int→Int→Bs→Int→Int→Bs→(List aa_)→(List Bs)→Option (aa_ × Bool)) (t22:List TOp) (t23:Int) (t24:Int) (t40:Int) (t41:Int) (t42:Bs) (out0:Int) (out1:Int) (out2:Bs) (out3:List aa_) (out4:List Bs):Option (aa_ × Bool) :=
 (cond (decide (t24<t23)) (inB t24 t22.length ((ck_ n (aa_.mk out0 out1 out2 out3 out4) { (t22.getD t24.toNat TOp.dflt) with value:=(aa_.re ((t22.getD t24.toNat TOp.dflt).value)) }).bind fun xr3=>(cond (!xr3.2) (some ((aa_.mk 0 0 [] ([]:List aa_) ([]:List Bs)),false)) (back t22 t23 (W (t24+1)) t40 t41 t42 xr3.1.kind xr3.1.n_ xr3.1.s xr3.1.list xr3.1.names)))) (k0 t40 t41 t42 out0 out1 out2 out3 out4))
def aH_.loop7 (n:Nat) (k0:Int→Int→Bs→Int→Int→Bs→(List aa_)→(List Bs)→Option (aa_ × Bool)) (N:Nat):(List TOp)→Int→Int→Int→Int→Bs→Int→Int→Bs→(List aa_)→(List Bs)→Option (aa_ × Bool) :=
 cD_ (fun _ _ _ _ _ _ _ _ _ _ _=>none) (fun back=>aH_.step7 n k0 back) N
def aH_:Nat→aa_→(List TOp)→Option (aa_ × Bool)
 |0,_,_=>none
 |n+1,j,list=>
  ((bE_ n (aa_.re j)).bind fun xr1=>(cond (!xr1) (some ((aa_.mk 0 0 [] ([]:List aa_) ([]:List Bs)),false)) (cond (decide ((list.length:Int) > 40)) (some ((aa_.mk 0 0 [] ([]:List aa_) ([]:List Bs)),false)) ((ak_ n (aa_.re j)).bind fun xr2=>(aH_.loop7 n (fun xy4 xy5 xy6 xy7 xy8 xy9 xy10 xy11=>(some ((aa_.mk xy7 xy8 xy9 xy10 xy11),true))) n list (list.length:Int) 0 0 0 [] xr2.kind xr2.n_ xr2.s xr2.list xr2.names)))))
def bl_:Nat→aF_→be_→Option aF_
 |0,_,_=>none
 |n+1,o,append=>
  ((bp_ n { o with doc:=(aa_.re o.doc) }).bind fun xr1=>(cond o.bad (some { xr1 with doc:=(aa_.re xr1.doc) }) ((bU_ n { append with doc:=(aa_.re append.doc) }).bind fun xr2=>(cond (!xr2) (some { xr1 with doc:=(aa_.re xr1.doc),bad:=true }) (cond (append.kind == 1) (cond (!o.began) ((ak_ n (aa_.re append.doc)).bind fun xr3=>(some (aF_.mk (aa_.re xr3) append.version true xr1.bad))) (cond (decide (append.version > o.version)) ((ak_ n (aa_.re append.doc)).bind fun xr4=>(some (aF_.mk (aa_.re xr4) append.version true xr1.bad))) (cond (append.kind == 2) (cond o.began (cond (append.base == o.version) ((aH_ n (aa_.re o.doc) append.ops).bind fun xr5=>(cond xr5.2 (some { xr1 with doc:=(aa_.re xr5.1),version:=append.version }) (some { xr1 with doc:=(aa_.re xr1.doc),bad:=true }))) (some { xr1 with doc:=(aa_.re xr1.doc),bad:=true })) (some { xr1 with doc:=(aa_.re xr1.doc),bad:=true })) (some { xr1 with doc:=(aa_.re xr1.doc),bad:=true })))) (cond (append.kind == 2) (cond o.began (cond (append.base == o.version) ((aH_ n (aa_.re o.doc) append.ops).bind fun xr6=>(cond xr6.2 (some { xr1 with doc:=(aa_.re xr6.1),version:=append.version }) (some { xr1 with doc:=(aa_.re xr1.doc),bad:=true }))) (some { xr1 with doc:=(aa_.re xr1.doc),bad:=true })) (some { xr1 with doc:=(aa_.re xr1.doc),bad:=true })) (some { xr1 with doc:=(aa_.re xr1.doc),bad:=true })))))))
def aC_.step6 (n:Nat) (k0:Option Bool) (back:(List Bs)→(List Bs)→Int→Option Bool) (a:List Bs) (b:List Bs) (i:Int):Option Bool :=
 (cond (decide (i<(a.length:Int))) (inB i a.length (inB i b.length (cond (!((a.getD i.toNat []) == (b.getD i.toNat []))) (some false) (back a b (W (i+1)))))) k0)
def aC_.loop6 (n:Nat) (k0:Option Bool) (N:Nat):(List Bs)→(List Bs)→Int→Option Bool :=
 cD_ (fun _ _ _=>none) (fun back=>aC_.step6 n k0 back) N
def aC_:Nat→(List Bs)→(List Bs)→Option Bool
 |0,_,_=>none
 |n+1,a,b=>
  (cond ((a.length:Int) != (b.length:Int)) (some false) (aC_.loop6 n (some true) n a b 0))
def aQ_.step6 (n:Nat) (laws_eqJson_:aa_→aa_→Option Bool) (k0:Option Bool) (back:(List aa_)→(List aa_)→Int→Option Bool) (a:List aa_) (b:List aa_) (i:Int):Option Bool :=
 (cond (decide (i<(a.length:Int))) (inB i a.length (inB i b.length ((laws_eqJson_ (aa_.re (a.getD i.toNat aa_.dflt)) (aa_.re (b.getD i.toNat aa_.dflt))).bind fun xr1=>(cond (!xr1) (some false) (back a b (W (i+1))))))) k0)
def aQ_.loop6 (n:Nat) (laws_eqJson_:aa_→aa_→Option Bool) (k0:Option Bool) (N:Nat):(List aa_)→(List aa_)→Int→Option Bool :=
 cD_ (fun _ _ _=>none) (fun back=>aQ_.step6 n laws_eqJson_ k0 back) N
mutual
def br_:Nat→aa_→aa_→Option Bool
 |0,_,_=>none
 |n+1,a,b=>
  (cond (a.kind != b.kind) (some false) (cond (a.n_ != b.n_) (some false) (cond (!(a.s == b.s)) (some false) ((aQ_ n a.list b.list).bind fun xr1=>(cond (!xr1) (some false) ((aC_ n a.names b.names).bind fun xr2=>(cond (!xr2) (some false) (some true))))))))
def aQ_:Nat→(List aa_)→(List aa_)→Option Bool
 |0,_,_=>none
 |n+1,a,b=>
  (cond ((a.length:Int) != (b.length:Int)) (some false) (aQ_.loop6 n (br_ n) (some true) n a b 0))
end
def bv_:Nat→aF_→aF_→Option Bool
 |0,_,_=>none
 |n+1,a,b=>
  ((br_ n (aa_.re a.doc) (aa_.re b.doc)).bind fun xr1=>(cond (!xr1) (some false) (cond (a.version != b.version) (some false) (cond (!(a.began == b.began)) (some false) (cond (!(a.bad == b.bad)) (some false) (some true))))))
def cu_:Nat→TOp→TOp→Option Bool
 |0,_,_=>none
 |n+1,a,b=>
  (cond (a.kind != b.kind) (some false) ((aC_ n a.way b.way).bind fun xr1=>(cond (!xr1) (some false) ((br_ n (aa_.re a.value) (aa_.re b.value)).bind fun xr2=>(cond (!xr2) (some false) (some true))))))
def a3_.step6 (n:Nat) (k0:Option Bool) (back:(List TOp)→(List TOp)→Int→Option Bool) (a:List TOp) (b:List TOp) (i:Int):Option Bool :=
 (cond (decide (i<(a.length:Int))) (inB i a.length (inB i b.length ((cu_ n { (a.getD i.toNat TOp.dflt) with value:=(aa_.re ((a.getD i.toNat TOp.dflt).value)) } { (b.getD i.toNat TOp.dflt) with value:=(aa_.re ((b.getD i.toNat TOp.dflt).value)) }).bind fun xr1=>(cond (!xr1) (some false) (back a b (W (i+1))))))) k0)
def a3_.loop6 (n:Nat) (k0:Option Bool) (N:Nat):(List TOp)→(List TOp)→Int→Option Bool :=
 cD_ (fun _ _ _=>none) (fun back=>a3_.step6 n k0 back) N
def a3_:Nat→(List TOp)→(List TOp)→Option Bool
 |0,_,_=>none
 |n+1,a,b=>
  (cond ((a.length:Int) != (b.length:Int)) (some false) (a3_.loop6 n (some true) n a b 0))
def bR_:Nat→be_→be_→Option Bool
 |0,_,_=>none
 |n+1,a,b=>
  (cond (a.kind != b.kind) (some false) (cond (a.version != b.version) (some false) (cond (a.base != b.base) (some false) ((br_ n (aa_.re a.doc) (aa_.re b.doc)).bind fun xr1=>(cond (!xr1) (some false) ((a3_ n a.ops b.ops).bind fun xr2=>(cond (!xr2) (some false) (some true))))))))
def aB_.step6 (n:Nat) (k0:Bs→Option Bs) (back:Int→Bs→Option Bs) (k:Int) (out_1:Bs):Option Bs :=
 (cond (decide (k > 0)) (cond (decide ((je_ ([(IntKind.u8.wrap ((W (48+(Int.tmod k 10)))))]:List Int)).length+out_1.length≤9223372036854775807)) (let xv1:Bs:=((je_ ([(IntKind.u8.wrap ((W (48+(Int.tmod k 10)))))]:List Int))++out_1);(back (W (Int.tdiv k 10)) xv1)) none) (k0 out_1))
def aB_.loop6 (n:Nat) (k0:Bs→Option Bs) (N:Nat):Int→Bs→Option Bs :=
 cD_ (fun _ _=>none) (fun back=>aB_.step6 n k0 back) N
def aB_:Nat→Int→Option Bs
 |0,_=>none
 |n+1,k=>
  (cond (decide (k≤0)) (some [109,48]) (aB_.loop6 n (fun xy2=>(cond (decide ([109].length+xy2.length≤9223372036854775807)) (some (([109]:Bs)++xy2)) none)) n k []))
def al_.step3 (n:Nat) (k0:Int→(List Bs)→Option (Int × (List Bs))) (back:Int→Int→(List Bs)→Option (Int × (List Bs))) (k:Int) (i:Int) (a:List Bs):Option (Int × (List Bs)) :=
 (cond (decide (i<(a.length:Int))) ((aB_ n k).bind fun xr1=>(inB i a.length (let xa2:List Bs:=a.set i.toNat xr1;(back (W (k+1)) (W (i+1)) xa2)))) (k0 k a))
def al_.loop3 (n:Nat) (k0:Int→(List Bs)→Option (Int × (List Bs))) (N:Nat):Int→Int→(List Bs)→Option (Int × (List Bs)) :=
 cD_ (fun _ _ _=>none) (fun back=>al_.step3 n k0 back) N
def al_:Nat→(List Bs)→Int→Option (Int × (List Bs))
 |0,_,_=>none
 |n+1,a,k=>
  (al_.loop3 n (fun xy3 xy4=>(some (xy3,xy4))) n k 0 a)
def ap_.step3 (n:Nat) (laws_markJsonS_:(List aa_)→Int→Option (Int × (List aa_))) (k0:Int→(List aa_)→Option (Int × (List aa_))) (back:Int→Int→(List aa_)→Option (Int × (List aa_))) (k:Int) (i:Int) (a:List aa_):Option (Int × (List aa_)) :=
 (cond (decide (i<(a.length:Int))) (inB i a.length (let xa1:List aa_:=a.set i.toNat (aa_.mk k ((a.getD i.toNat aa_.dflt).n_) ((a.getD i.toNat aa_.dflt).s) ((a.getD i.toNat aa_.dflt).list) ((a.getD i.toNat aa_.dflt).names));(inB i xa1.length (let xa2:List aa_:=xa1.set i.toNat (aa_.mk ((xa1.getD i.toNat aa_.dflt).kind) (W (k+1)) ((xa1.getD i.toNat aa_.dflt).s) ((xa1.getD i.toNat aa_.dflt).list) ((xa1.getD i.toNat aa_.dflt).names));((aB_ n (W ((W (k+1))+1))).bind fun xr3=>(inB i xa2.length (let xa4:List aa_:=xa2.set i.toNat (aa_.mk ((xa2.getD i.toNat aa_.dflt).kind) ((xa2.getD i.toNat aa_.dflt).n_) xr3 ((xa2.getD i.toNat aa_.dflt).list) ((xa2.getD i.toNat aa_.dflt).names));(inB i xa4.length ((laws_markJsonS_ ((xa4.getD i.toNat aa_.dflt).list) (W ((W ((W (k+1))+1))+1))).bind fun xr5=>(cond (Nat.beq xr5.2.length ((xa4.getD i.toNat aa_.dflt).list).length) (let xa6:List aa_:=xa4.set i.toNat (aa_.mk ((xa4.getD i.toNat aa_.dflt).kind) ((xa4.getD i.toNat aa_.dflt).n_) ((xa4.getD i.toNat aa_.dflt).s) xr5.2 ((xa4.getD i.toNat aa_.dflt).names));(inB i xa6.length ((al_ n ((xa6.getD i.toNat aa_.dflt).names) xr5.1).bind fun xr7=>(cond (Nat.beq xr7.2.length ((xa6.getD i.toNat aa_.dflt).names).length) (let xa8:List aa_:=xa6.set i.toNat (aa_.mk ((xa6.getD i.toNat aa_.dflt).kind) ((xa6.getD i.toNat aa_.dflt).n_) ((xa6.getD i.toNat aa_.dflt).s) ((xa6.getD i.toNat aa_.dflt).list) xr7.2);(back xr7.1 (W (i+1)) xa8)) none)))) none)))))))))) (k0 k a))
def ap_.loop3 (n:Nat) (laws_markJsonS_:(List aa_)→Int→Option (Int × (List aa_))) (k0:Int→(List aa_)→Option (Int × (List aa_))) (N:Nat):Int→Int→(List aa_)→Option (Int × (List aa_)) :=
 cD_ (fun _ _ _=>none) (fun back=>ap_.step3 n laws_markJsonS_ k0 back) N
def ap_:Nat→(List aa_)→Int→Option (Int × (List aa_))
 |0,_,_=>none
 |n+1,a,k=>
  (ap_.loop3 n (ap_ n) (fun xy9 xy10=>(some (xy9,xy10))) n k 0 a)
def by_:Nat→aa_→Int→Option (Int × (List aa_) × (List Bs))
 |0,_,_=>none
 |n+1,a,k=>
  ((ap_ n a.list k).bind fun xr1=>(cond (Nat.beq xr1.2.length a.list.length) ((al_ n a.names xr1.1).bind fun xr2=>(cond (Nat.beq xr2.2.length a.names.length) (some (xr2.1,xr1.2,xr2.2)) none)) none))
def bj_:Nat→aF_→Int→Option (Int × (List aa_) × (List Bs))
 |0,_,_=>none
 |n+1,a,k=>
  ((by_ n (aa_.re a.doc) k).bind fun xr1=>(cond (Nat.beq xr1.2.1.length a.doc.list.length) (cond (Nat.beq xr1.2.2.length a.doc.names.length) (some (xr1.1,xr1.2.1,xr1.2.2)) none) none))
def aP_.step3 (n:Nat) (k0:Int→(List TOp)→Option (Int × (List TOp))) (back:Int→Int→(List TOp)→Option (Int × (List TOp))) (append:Int) (t5:Int) (o:List TOp):Option (Int × (List TOp)) :=
 (cond (decide (t5<(o.length:Int))) (inB t5 o.length (let xa1:List TOp:=o.set t5.toNat (TOp.mk append ((o.getD t5.toNat TOp.dflt).way) (aa_.re ((o.getD t5.toNat TOp.dflt).value)));(inB t5 xa1.length ((al_ n ((xa1.getD t5.toNat TOp.dflt).way) (W (append+1))).bind fun xr2=>(cond (Nat.beq xr2.2.length ((xa1.getD t5.toNat TOp.dflt).way).length) (let xa3:List TOp:=xa1.set t5.toNat (TOp.mk ((xa1.getD t5.toNat TOp.dflt).kind) xr2.2 (aa_.re ((xa1.getD t5.toNat TOp.dflt).value)));(inB t5 xa3.length (let xa4:List TOp:=xa3.set t5.toNat { (xa3.getD t5.toNat TOp.dflt) with value:=(aa_.mk xr2.1 (((xa3.getD t5.toNat TOp.dflt).value).n_) (((xa3.getD t5.toNat TOp.dflt).value).s) (((xa3.getD t5.toNat TOp.dflt).value).list) (((xa3.getD t5.toNat TOp.dflt).value).names)) };(inB t5 xa4.length (let xa5:List TOp:=xa4.set t5.toNat { (xa4.getD t5.toNat TOp.dflt) with value:=(aa_.mk (((xa4.getD t5.toNat TOp.dflt).value).kind) (W (xr2.1+1)) (((xa4.getD t5.toNat TOp.dflt).value).s) (((xa4.getD t5.toNat TOp.dflt).value).list) (((xa4.getD t5.toNat TOp.dflt).value).names)) };((aB_ n (W ((W (xr2.1+1))+1))).bind fun xr6=>(inB t5 xa5.length (let xa7:List TOp:=xa5.set t5.toNat { (xa5.getD t5.toNat TOp.dflt) with value:=(aa_.mk (((xa5.getD t5.toNat TOp.dflt).value).kind) (((xa5.getD t5.toNat TOp.dflt).value).n_) xr6 (((xa5.getD t5.toNat TOp.dflt).value).list) (((xa5.getD t5.toNat TOp.dflt).value).names)) };(inB t5 xa7.length ((ap_ n (((xa7.getD t5.toNat TOp.dflt).value).list) (W ((W ((W (xr2.1+1))+1))+1))).bind fun xr8=>(cond (Nat.beq xr8.2.length (((xa7.getD t5.toNat TOp.dflt).value).list).length) (let xa9:List TOp:=xa7.set t5.toNat { (xa7.getD t5.toNat TOp.dflt) with value:=(aa_.mk (((xa7.getD t5.toNat TOp.dflt).value).kind) (((xa7.getD t5.toNat TOp.dflt).value).n_) (((xa7.getD t5.toNat TOp.dflt).value).s) xr8.2 (((xa7.getD t5.toNat TOp.dflt).value).names)) };(inB t5 xa9.length ((al_ n (((xa9.getD t5.toNat TOp.dflt).value).names) xr8.1).bind fun xr10=>(cond (Nat.beq xr10.2.length (((xa9.getD t5.toNat TOp.dflt).value).names).length) (let xa11:List TOp:=xa9.set t5.toNat { (xa9.getD t5.toNat TOp.dflt) with value:=(aa_.mk (((xa9.getD t5.toNat TOp.dflt).value).kind) (((xa9.getD t5.toNat TOp.dflt).value).n_) (((xa9.getD t5.toNat TOp.dflt).value).s) (((xa9.getD t5.toNat TOp.dflt).value).list) xr10.2) };(back xr10.1 (W (t5+1)) xa11)) none)))) none))))))))))) none))))) (k0 append o))
def aP_.loop3 (n:Nat) (k0:Int→(List TOp)→Option (Int × (List TOp))) (N:Nat):Int→Int→(List TOp)→Option (Int × (List TOp)) :=
 cD_ (fun _ _ _=>none) (fun back=>aP_.step3 n k0 back) N
def aP_:Nat→(List TOp)→Int→Option (Int × (List TOp))
 |0,_,_=>none
 |n+1,o,append=>
  (aP_.loop3 n (fun xy12 xy13=>(some (xy12,xy13))) n append 0 o)
def bw_:Nat→be_→Int→Option (Int × (List aa_) × (List Bs) × (List TOp))
 |0,_,_=>none
 |n+1,a,k=>
  ((by_ n (aa_.re a.doc) k).bind fun xr1=>(cond (Nat.beq xr1.2.1.length a.doc.list.length) (cond (Nat.beq xr1.2.2.length a.doc.names.length) ((aP_ n a.ops xr1.1).bind fun xr2=>(cond (Nat.beq xr2.2.length a.ops.length) (some (xr2.1,xr1.2.1,xr1.2.2,xr2.2)) none)) none) none))
def ao_.step3 (n:Nat) (k0:Int→Option Int) (back:(List Bs)→Int→Int→Option Int) (a:List Bs) (k:Int) (i:Int):Option Int :=
 (cond (decide (i<(a.length:Int))) (inB i a.length ((aB_ n k).bind fun xr1=>(cond (!((a.getD i.toNat []) == xr1)) (some (-1)) (back a (W (k+1)) (W (i+1)))))) (k0 k))
def ao_.loop3 (n:Nat) (k0:Int→Option Int) (N:Nat):(List Bs)→Int→Int→Option Int :=
 cD_ (fun _ _ _=>none) (fun back=>ao_.step3 n k0 back) N
def ao_:Nat→(List Bs)→Int→Option Int
 |0,_,_=>none
 |n+1,a,k=>
  (ao_.loop3 n (fun xy2=>(some xy2)) n a k 0)
def aq_.step3 (n:Nat) (laws_heldJsonS_:(List aa_)→Int→Option Int) (k0:Int→Option Int) (back:(List aa_)→Int→Int→Option Int) (a:List aa_) (k:Int) (i:Int):Option Int :=
 (cond (decide (i<(a.length:Int))) (inB i a.length (cond (((a.getD i.toNat aa_.dflt).kind) != k) (some (-1)) (inB i a.length (cond (((a.getD i.toNat aa_.dflt).n_) != (W (k+1))) (some (-1)) (inB i a.length ((aB_ n (W ((W (k+1))+1))).bind fun xr1=>(cond (!(((a.getD i.toNat aa_.dflt).s) == xr1)) (some (-1)) (inB i a.length ((laws_heldJsonS_ ((a.getD i.toNat aa_.dflt).list) (W ((W ((W (k+1))+1))+1))).bind fun xr2=>(cond (decide (xr2<0)) (some (-1)) (inB i a.length ((ao_ n ((a.getD i.toNat aa_.dflt).names) xr2).bind fun xr3=>(cond (decide (xr3<0)) (some (-1)) (back a xr3 (W (i+1)))))))))))))))) (k0 k))
def aq_.loop3 (n:Nat) (laws_heldJsonS_:(List aa_)→Int→Option Int) (k0:Int→Option Int) (N:Nat):(List aa_)→Int→Int→Option Int :=
 cD_ (fun _ _ _=>none) (fun back=>aq_.step3 n laws_heldJsonS_ k0 back) N
def aq_:Nat→(List aa_)→Int→Option Int
 |0,_,_=>none
 |n+1,a,k=>
  (aq_.loop3 n (aq_ n) (fun xy4=>(some xy4)) n a k 0)
def bG_:Nat→aa_→Int→Option Int
 |0,_,_=>none
 |n+1,a,k=>
  ((aq_ n a.list k).bind fun xr1=>(cond (decide (xr1<0)) (some (-1)) ((ao_ n a.names xr1).bind fun xr2=>(cond (decide (xr2<0)) (some (-1)) (some xr2)))))
def bk_:Nat→aF_→Int→Option Int
 |0,_,_=>none
 |n+1,a,k=>
  ((bG_ n (aa_.re a.doc) k).bind fun xr1=>(cond (decide (xr1<0)) (some (-1)) (some xr1)))
def laws_FnExactClientTake:Nat→aF_→be_→Option Bool
 |0,_,_=>none
 |n+1,o,append=>
  ((bF_ n { o with doc:=(aa_.re o.doc) } 1048576).bind fun xr1=>(cond (decide (xr1<0)) (some true) ((bQ_ n { append with doc:=(aa_.re append.doc) } xr1).bind fun xr2=>(cond (decide (xr2<0)) (some true) ((bu_ n { o with doc:=(aa_.re o.doc) }).bind fun xr3=>((bC_ n { append with doc:=(aa_.re append.doc) }).bind fun xr4=>((bo_ n { xr3 with doc:=(aa_.re xr3.doc) } { xr4 with doc:=(aa_.re xr4.doc) }).bind fun xr5=>((bu_ n { o with doc:=(aa_.re o.doc) }).bind fun xr6=>((bC_ n { append with doc:=(aa_.re append.doc) }).bind fun xr7=>((bl_ n { xr6 with doc:=(aa_.re xr6.doc) } { xr7 with doc:=(aa_.re xr7.doc) }).bind fun xr8=>((bv_ n { xr8 with doc:=(aa_.re xr8.doc) } { xr5 with doc:=(aa_.re xr5.doc) }).bind fun xr9=>(cond (!xr9) (some false) ((bu_ n { o with doc:=(aa_.re o.doc) }).bind fun xr10=>((bv_ n { xr6 with doc:=(aa_.re xr6.doc) } { xr10 with doc:=(aa_.re xr10.doc) }).bind fun xr11=>(cond (!xr11) (some false) ((bC_ n { append with doc:=(aa_.re append.doc) }).bind fun xr12=>((bR_ n { xr7 with doc:=(aa_.re xr7.doc) } { xr12 with doc:=(aa_.re xr12.doc) }).bind fun xr13=>(cond (!xr13) (some false) ((bj_ n { xr6 with doc:=(aa_.re xr6.doc) } 1).bind fun xr14=>(cond (Nat.beq xr14.2.1.length xr6.doc.list.length) (cond (Nat.beq xr14.2.2.length xr6.doc.names.length) ((bw_ n { xr7 with doc:=(aa_.re xr7.doc) } xr14.1).bind fun xr15=>(cond (Nat.beq xr15.2.1.length xr7.doc.list.length) (cond (Nat.beq xr15.2.2.1.length xr7.doc.names.length) (cond (Nat.beq xr15.2.2.2.length xr7.ops.length) (cond (decide (xr15.1<0)) (some false) ((bv_ n { xr8 with doc:=(aa_.re xr8.doc) } { xr5 with doc:=(aa_.re xr5.doc) }).bind fun xr16=>(cond (!xr16) (some false) ((bj_ n { xr8 with doc:=(aa_.re xr8.doc) } 1).bind fun xr17=>(cond (Nat.beq xr17.2.1.length xr8.doc.list.length) (cond (Nat.beq xr17.2.2.length xr8.doc.names.length) ((bk_ n { xr8 with doc:=(aa_.mk xr8.doc.kind xr8.doc.n_ xr8.doc.s xr17.2.1 xr17.2.2) } 1).bind fun xr18=>(cond (decide (xr18<0)) (some false) (cond (xr18 != xr17.1) (some false) ((bu_ n { o with doc:=(aa_.re o.doc) }).bind fun xr19=>((bC_ n { append with doc:=(aa_.re append.doc) }).bind fun xr20=>((bl_ n { xr19 with doc:=(aa_.re xr19.doc) } { xr20 with doc:=(aa_.re xr20.doc) }).bind fun xr21=>((bv_ n { xr21 with doc:=(aa_.re xr21.doc) } { xr5 with doc:=(aa_.re xr5.doc) }).bind fun xr22=>(cond (!xr22) (some false) ((bk_ n { xr8 with doc:=(aa_.mk xr8.doc.kind xr8.doc.n_ xr8.doc.s xr17.2.1 xr17.2.2) } 1).bind fun xr23=>(cond (decide (xr23<0)) (some false) (cond (xr23 != xr17.1) (some false) (some true)))))))))))) none) none))))) none) none) none)) none) none))))))))))))))))))))
end Go.Pi
end
section
namespace Go.Pi
def aa_.p (m:M):List Pat:=[.i .i64,.i .i64,.s,.sl m .iJson,.sl m .str]
def aa_.q1 (m:M):List Pat:=[.i .i64,.i .i64,.s,.sl m .lJson,.sl m .str]
abbrev aa_.c:Type:=Int × Int × Bs × (List aa_) × (List Bs) × Unit
def aa_.of:aa_.c→aa_:=fun (x0,x1,x2,x3,x4,_)=>⟨x0,x1,x2,x3,x4⟩
def aa_.to (s:aa_):aa_.c:=(s.kind,s.n_,s.s,s.list,s.names,())
def aF_.p (m:M):List Pat:=[.i .i64,.i .i64,.s,.sl m .lJson,.sl m .str,.i .i64,.b,.b]
def aF_.q1 (m:M):List Pat:=[.i .i64,.i .i64,.s,.sl m .iJson,.sl m .str,.i .i64,.b,.b]
abbrev aF_.c:Type:=Int × Int × Bs × (List aa_) × (List Bs) × Int × Bool × Bool × Unit
def aF_.of:aF_.c→aF_:=fun (x0,x1,x2,x3,x4,x5,x6,x7,_)=>⟨⟨x0,x1,x2,x3,x4⟩,x5,x6,x7⟩
def aF_.to (s:aF_):aF_.c:=(s.doc.kind,s.doc.n_,s.doc.s,s.doc.list,s.doc.names,s.version,s.began,s.bad,())
def TOp.p (m:M):List Pat:=[.i .i64,.sl m .str,.i .i64,.i .i64,.s,.sl m .iJson,.sl m .str]
def TOp.q1 (m:M):List Pat:=[.i .i64,.sl m .str,.i .i64,.i .i64,.s,.sl m .lJson,.sl m .str]
abbrev TOp.c:Type:=Int × (List Bs) × Int × Int × Bs × (List aa_) × (List Bs) × Unit
def TOp.of:TOp.c→TOp:=fun (x0,x1,x2,x3,x4,x5,x6,_)=>⟨x0,x1,⟨x2,x3,x4,x5,x6⟩⟩
def TOp.to (s:TOp):TOp.c:=(s.kind,s.way,s.value.kind,s.value.n_,s.value.s,s.value.list,s.value.names,())
def be_.p (m:M):List Pat:=[.i .i64,.i .i64,.i .i64,.i .i64,.i .i64,.s,.sl m .iJson,.sl m .str,.sl m .iOp]
def be_.q1 (m:M):List Pat:=[.i .i64,.i .i64,.i .i64,.i .i64,.i .i64,.s,.sl m .lJson,.sl m .str,.sl m .lOp]
abbrev be_.c:Type:=Int × Int × Int × Int × Int × Bs × (List aa_) × (List Bs) × (List TOp) × Unit
def be_.of:be_.c→be_:=fun (x0,x1,x2,x3,x4,x5,x6,x7,x8,_)=>⟨x0,x1,x2,⟨x3,x4,x5,x6,x7⟩,x8⟩
def be_.to (s:be_):be_.c:=(s.kind,s.version,s.base,s.doc.kind,s.doc.n_,s.doc.s,s.doc.list,s.doc.names,s.ops,())
def aJ_.p7:OD:=⟨[(0,.view .lJson),(1,.k),(5,.k)],[.sl .v .lJson,.i .i64,.i .i64],[.ext]⟩
def aJ_.o0:OD:=⟨[(1,.k)],[.i .i64],[.ext]⟩
def aJ_.d:FD Int:=⟨96,27,1,[.sl .v .lJson,.i .i64],[.i .i64],fun (a0,_)=>a0,fun r=>(r,()),[.v,.v],[.v],[.k],[.tmp 4],[],[(7,aJ_.p7)],[],[(0,aJ_.o0)]⟩
def aJ_.F (n:Nat):Pat.Ts aJ_.d.ps→Option Int:=fun (a0,a1,_)=>aJ_ n a0 a1
def aw_.p7:OD:=⟨[(0,.view .str),(1,.k),(5,.k)],[.sl .v .str,.i .i64,.i .i64],[.ext]⟩
def aw_.o0:OD:=⟨[(1,.k)],[.i .i64],[.ext]⟩
def aw_.d:FD Int:=⟨35,28,1,[.sl .v .str,.i .i64],[.i .i64],fun (a0,_)=>a0,fun r=>(r,()),[.v,.v],[.v],[.k],[.tmp 4],[],[(7,aw_.p7)],[],[(0,aw_.o0)]⟩
def aw_.F (n:Nat):Pat.Ts aw_.d.ps→Option Int:=fun (a0,a1,_)=>aw_ n a0 a1
def bi_.d:FD Int:=⟨57,25,1,[.ag (aa_.q1 .v),.i .i64],[.i .i64],fun (a0,_)=>a0,fun r=>(r,()),[.ag [.v,.v,.v,.v,.v],.v],[.v],[.k],[.tmp 4],[],[],[],[]⟩
def bi_.F (n:Nat):Pat.Ts bi_.d.ps→Option Int:=fun (a0,a1,_)=>bi_ n (aa_.of a0) a1
def bF_.d:FD Int:=⟨14,12,1,[.ag (aF_.p .v),.i .i64],[.i .i64],fun (a0,_)=>a0,fun r=>(r,()),[.ag [.v,.v,.v,.v,.v,.v,.v,.v],.v],[.v],[.k],[.tmp 4],[],[],[],[]⟩
def bF_.F (n:Nat):Pat.Ts bF_.d.ps→Option Int:=fun (a0,a1,_)=>bF_ n (aF_.of a0) a1
def ct_.d:FD Int:=⟨97,18,1,[.ag (TOp.q1 .v),.i .i64],[.i .i64],fun (a0,_)=>a0,fun r=>(r,()),[.ag [.v,.v,.v,.v,.v,.v,.v],.v],[.v],[.k],[.tmp 4],[],[],[],[]⟩
def ct_.F (n:Nat):Pat.Ts ct_.d.ps→Option Int:=fun (a0,a1,_)=>ct_ n (TOp.of a0) a1
def a0_.p7:OD:=⟨[(0,.view .lOp),(1,.k),(5,.k)],[.sl .v .lOp,.i .i64,.i .i64],[.ext]⟩
def a0_.o0:OD:=⟨[(1,.k)],[.i .i64],[.ext]⟩
def a0_.d:FD Int:=⟨58,27,1,[.sl .v .lOp,.i .i64],[.i .i64],fun (a0,_)=>a0,fun r=>(r,()),[.v,.v],[.v],[.k],[.tmp 4],[],[(7,a0_.p7)],[],[(0,a0_.o0)]⟩
def a0_.F (n:Nat):Pat.Ts a0_.d.ps→Option Int:=fun (a0,a1,_)=>a0_ n a0 a1
def bQ_.d:FD Int:=⟨15,18,1,[.ag (be_.q1 .v),.i .i64],[.i .i64],fun (a0,_)=>a0,fun r=>(r,()),[.ag [.v,.v,.v,.v,.v,.v,.v,.v,.v],.v],[.v],[.k],[.tmp 4],[],[],[],[]⟩
def bQ_.F (n:Nat):Pat.Ts bQ_.d.ps→Option Int:=fun (a0,a1,_)=>bQ_ n (be_.of a0) a1
def aK_.p4:OD:=⟨[(0,.view .lJson),(3,.own .d .iJson),(4,.k)],[.sl .v .lJson,.rt 1,.i .i64],[.ext,.arr .d .iJson 2]⟩
def aK_.o0:OD:=⟨[(3,.own .d .iJson)],[.rt 1],[.ext,.arr .d .iJson 2]⟩
def aK_.d:FD (List aa_):=⟨102,23,1,[.sl .v .lJson],[.sl .d .iJson],fun (a0,_)=>a0,fun r=>(r,()),[.v],[.o],[.own .d .iJson],[.tmp 2],[],[(4,aK_.p4)],[],[(0,aK_.o0)]⟩
def aK_.F (n:Nat):Pat.Ts aK_.d.ps→Option (List aa_):=fun (a0,_)=>aK_ n a0
def az_.p4:OD:=⟨[(0,.view .str),(3,.own .d .str),(4,.k)],[.sl .v .str,.rt 1,.i .i64],[.ext,.arr .d .str 2]⟩
def az_.o0:OD:=⟨[(3,.own .d .str)],[.rt 1],[.ext,.arr .d .str 2]⟩
def az_.d:FD (List Bs):=⟨37,22,1,[.sl .v .str],[.sl .d .str],fun (a0,_)=>a0,fun r=>(r,()),[.v],[.o],[.own .d .str],[.tmp 2],[],[(4,az_.p4)],[],[(0,az_.o0)]⟩
def az_.F (n:Nat):Pat.Ts az_.d.ps→Option (List Bs):=fun (a0,_)=>az_ n a0
def bn_.d:FD aa_:=⟨63,22,1,[.ag (aa_.q1 .v)],[.ag (aa_.p .d)],fun (a0,_)=>(aa_.of a0),fun r=>(aa_.to r,()),[.ag [.v,.v,.v,.v,.v]],[.ag [.v,.v,.v,.o,.o]],[.ag [.k,.k,.k,.own .d .iJson,.own .d .str]],[.cell 2 25],[],[],[],[]⟩
def bn_.F (n:Nat):Pat.Ts bn_.d.ps→Option aa_:=fun (a0,_)=>bn_ n (aa_.of a0)
def bu_.d:FD aF_:=⟨17,18,1,[.ag (aF_.p .v)],[.ag (aF_.q1 .d)],fun (a0,_)=>(aF_.of a0),fun r=>(aF_.to r,()),[.ag [.v,.v,.v,.v,.v,.v,.v,.v]],[.ag [.v,.v,.v,.o,.o,.v,.v,.v]],[.ag [.k,.k,.k,.own .d .iJson,.own .d .str,.k,.k,.k]],[.cell 2 45],[],[],[],[]⟩
def bu_.F (n:Nat):Pat.Ts bu_.d.ps→Option aF_:=fun (a0,_)=>bu_ n (aF_.of a0)
def cs_.d:FD TOp:=⟨103,16,1,[.ag (TOp.q1 .v)],[.ag (TOp.p .d)],fun (a0,_)=>(TOp.of a0),fun r=>(TOp.to r,()),[.ag [.v,.v,.v,.v,.v,.v,.v]],[.ag [.v,.o,.v,.v,.v,.o,.o]],[.ag [.k,.own .d .str,.k,.k,.k,.own .d .iJson,.own .d .str]],[.cell 2 83],[],[],[],[]⟩
def cs_.F (n:Nat):Pat.Ts cs_.d.ps→Option TOp:=fun (a0,_)=>cs_ n (TOp.of a0)
def a2_.p4:OD:=⟨[(0,.view .lOp),(3,.own .d .iOp),(4,.k)],[.sl .v .lOp,.rt 1,.i .i64],[.ext,.arr .d .iOp 2]⟩
def a2_.o0:OD:=⟨[(3,.own .d .iOp)],[.rt 1],[.ext,.arr .d .iOp 2]⟩
def a2_.d:FD (List TOp):=⟨64,23,1,[.sl .v .lOp],[.sl .d .iOp],fun (a0,_)=>a0,fun r=>(r,()),[.v],[.o],[.own .d .iOp],[.tmp 2],[],[(4,a2_.p4)],[],[(0,a2_.o0)]⟩
def a2_.F (n:Nat):Pat.Ts a2_.d.ps→Option (List TOp):=fun (a0,_)=>a2_ n a0
def bC_.d:FD be_:=⟨18,22,1,[.ag (be_.q1 .v)],[.ag (be_.p .d)],fun (a0,_)=>(be_.of a0),fun r=>(be_.to r,()),[.ag [.v,.v,.v,.v,.v,.v,.v,.v,.v]],[.ag [.v,.v,.v,.v,.v,.v,.o,.o,.o]],[.ag [.k,.k,.k,.k,.k,.k,.own .d .iJson,.own .d .str,.own .d .iOp]],[.cell 2 28],[],[],[],[]⟩
def bC_.F (n:Nat):Pat.Ts bC_.d.ps→Option be_:=fun (a0,_)=>bC_ n (be_.of a0)
def aA_.p4:OD:=⟨[(1,.box [.k,.k,.k,.view .iJson,.view .str]),(2,.box [.k,.k,.k,.k,.k]),(3,.box [.k,.k,.k,.own .d .iJson,.own .d .str]),(4,.k)],[.pb 1 0,.pb 2 0,.pb 3 0,.i .i64],[.ext,.box (aa_.p .v),.box [.i .i64,.i .i64,.s,.nils,.nils],.box [.i .i64,.i .i64,.s,.rt 4,.rt 5],.arr .d .iJson 2,.arr .d .str 2]⟩
def aA_.o0:OD:=⟨[(2,.box [.k,.k,.k,.k,.k]),(3,.box [.k,.k,.k,.own .d .iJson,.own .d .str])],[.pb 1 0,.pb 2 0],[.ext,.box [.i .i64,.i .i64,.s,.nils,.nils],.box [.i .i64,.i .i64,.s,.rt 3,.rt 4],.arr .d .iJson 2,.arr .d .str 2]⟩
def aA_.d:FD aa_:=⟨61,35,1,[.ag (aa_.p .v)],[.ag (aa_.p .d)],fun (a0,_)=>(aa_.of a0),fun r=>(aa_.to r,()),[.ag [.v,.v,.v,.v,.v]],[.ag [.v,.v,.v,.o,.o]],[.ag [.k,.k,.k,.own .d .iJson,.own .d .str]],[.cell 2 25],[],[(4,aA_.p4)],[],[(0,aA_.o0)]⟩
def aA_.F (n:Nat):Pat.Ts aA_.d.ps→Option aa_:=fun (a0,_)=>aA_ n (aa_.of a0)
def bO_.d:FD aF_:=⟨59,13,1,[.ag (aF_.q1 .v)],[.ag (aF_.q1 .d)],fun (a0,_)=>(aF_.of a0),fun r=>(aF_.to r,()),[.ag [.v,.v,.v,.v,.v,.v,.v,.v]],[.ag [.v,.v,.v,.o,.o,.v,.v,.v]],[.ag [.k,.k,.k,.own .d .iJson,.own .d .str,.k,.k,.k]],[.cell 2 45],[],[],[],[]⟩
def bO_.F (n:Nat):Pat.Ts bO_.d.ps→Option aF_:=fun (a0,_)=>bO_ n (aF_.of a0)
def cb_.d:FD Bool:=⟨98,15,1,[.i .i64,.i .i64,.i .i64],[.b],fun (a0,_)=>a0,fun r=>(r,()),[.v,.v,.v],[.v],[.k],[.tmp 6],[],[],[],[]⟩
def cb_.F (n:Nat):Pat.Ts cb_.d.ps→Option Bool:=fun (a0,a1,a2,_)=>cb_ n a0 a1 a2
def aT_.p3:OD:=⟨[(0,.k),(3,.k)],[.s,.i .i64],[.ext]⟩
def aT_.o0:OD:=⟨[(0,.k)],[.s],[.ext]⟩
def aT_.d:FD Bool:=⟨141,23,1,[.s],[.b],fun (a0,_)=>a0,fun r=>(r,()),[.v],[.v],[.k],[.tmp 2],[],[(3,aT_.p3)],[],[(0,aT_.o0)]⟩
def aT_.F (n:Nat):Pat.Ts aT_.d.ps→Option Bool:=fun (a0,_)=>aT_ n a0
def ad_.p6:OD:=⟨[(1,.box [.k,.k,.k,.view .iJson,.view .str]),(3,.k)],[.pb 1 0,.i .i64],[.ext,.box (aa_.p .v)]⟩
def ad_.o0:OD:=⟨[(1,.box [.k,.k,.k,.view .iJson,.view .str])],[.pb 1 0],[.ext,.box (aa_.p .v)]⟩
def ad_.d:FD Bool:=⟨164,50,1,[.ag (aa_.p .v)],[.b],fun (a0,_)=>a0,fun r=>(r,()),[.ag [.v,.v,.v,.v,.v]],[.v],[.k],[.tmp 2],[],[(6,ad_.p6)],[],[(0,ad_.o0)]⟩
def ad_.F (n:Nat):Pat.Ts ad_.d.ps→Option Bool:=fun (a0,_)=>ad_ n (aa_.of a0)
def ax_.p23:OD:=⟨[(1,.k),(2,.box [.k,.k,.k,.view .iJson,.view .str]),(5,.k),(6,.k),(7,.k)],[.i .i64,.pb 1 0,.i .i64,.i .i64,.i .i64],[.ext,.box (aa_.p .v)]⟩
def ax_.o1:OD:=⟨[(2,.box [.k,.k,.k,.view .iJson,.view .str]),(5,.k),(6,.k)],[.pb 1 0,.i .i64,.i .i64],[.ext,.box (aa_.p .v)]⟩
def ax_.d:FD Int:=⟨131,106,1,[.ag (aa_.p .v),.i .i64],[.i .i64],fun (a0,_)=>a0,fun r=>(r,()),[.ag [.v,.v,.v,.v,.v],.v],[.v],[.k],[.tmp 4],[],[(23,ax_.p23)],[],[(1,ax_.o1)]⟩
def ax_.F (n:Nat):Pat.Ts ax_.d.ps→Option Int:=fun (a0,a1,_)=>ax_ n (aa_.of a0) a1
def bD_.d:FD Bool:=⟨100,6,1,[.ag (aa_.p .v)],[.b],fun (a0,_)=>a0,fun r=>(r,()),[.ag [.v,.v,.v,.v,.v]],[.v],[.k],[.tmp 2],[],[],[],[]⟩
def bD_.F (n:Nat):Pat.Ts bD_.d.ps→Option Bool:=fun (a0,_)=>bD_ n (aa_.of a0)
def aD_.p7:OD:=⟨[(0,.k),(3,.k),(4,.k)],[.i .i64,.b,.s],[.ext]⟩
def aD_.o0:OD:=⟨[(3,.k),(4,.k)],[.b,.s],[.ext]⟩
def aD_.d:FD Bs:=⟨76,31,1,[.i .i64],[.s],fun (a0,_)=>a0,fun r=>(r,()),[.v],[.v],[.k],[.tmp 2],[],[(7,aD_.p7)],[],[(0,aD_.o0)]⟩
def aD_.F (n:Nat):Pat.Ts aD_.d.ps→Option Bs:=fun (a0,_)=>aD_ n a0
def aL_.p4:OD:=⟨[(0,.k),(3,.own .d .u8),(4,.k)],[.s,.rt 1,.i .i64],[.ext,.arr .d .u8 2]⟩
def aL_.o0:OD:=⟨[(3,.own .d .u8)],[.rt 1],[.ext,.arr .d .u8 2]⟩
def aL_.d:FD Bs:=⟨140,35,1,[.s],[.s],fun (a0,_)=>a0,fun r=>(r,()),[.v],[.v],[.k],[.tmp 2],[],[(4,aL_.p4)],[],[(0,aL_.o0)]⟩
def aL_.F (n:Nat):Pat.Ts aL_.d.ps→Option Bs:=fun (a0,_)=>aL_ n a0
def av_.p17:OD:=⟨[(1,.box [.k,.k,.k,.view .iJson,.view .str]),(3,.k),(4,.k)],[.pb 1 0,.s,.i .i64],[.ext,.box (aa_.p .v)]⟩
def av_.o1:OD:=⟨[(1,.box [.k,.k,.k,.view .iJson,.view .str]),(3,.k)],[.pb 1 0,.s],[.ext,.box (aa_.p .v)]⟩
def av_.d:FD Bs:=⟨116,64,1,[.ag (aa_.p .v)],[.s],fun (a0,_)=>a0,fun r=>(r,()),[.ag [.v,.v,.v,.v,.v]],[.v],[.k],[.tmp 2],[],[(17,av_.p17)],[],[(1,av_.o1)]⟩
def av_.F (n:Nat):Pat.Ts av_.d.ps→Option Bs:=fun (a0,_)=>av_ n (aa_.of a0)
def bW_.d:FD Bs:=⟨78,13,1,[.ag (aa_.p .v)],[.s],fun (a0,_)=>a0,fun r=>(r,()),[.ag [.v,.v,.v,.v,.v]],[.v],[.k],[.tmp 2],[],[],[],[]⟩
def bW_.F (n:Nat):Pat.Ts bW_.d.ps→Option Bs:=fun (a0,_)=>bW_ n (aa_.of a0)
def ae_.p6:OD:=⟨[(2,.box [.k,.k,.k,.view .iJson,.view .str]),(3,.box [.k,.k,.k,.view .iJson,.view .str]),(5,.k)],[.pb 1 0,.pb 2 0,.i .i64],[.ext,.box (aa_.p .v),.box (aa_.p .v)]⟩
def ae_.p14:OD:=⟨[(2,.box [.k,.k,.k,.view .iJson,.view .str]),(3,.box [.k,.k,.k,.view .iJson,.view .str]),(6,.k)],[.pb 1 0,.pb 2 0,.i .i64],[.ext,.box (aa_.p .v),.box (aa_.p .v)]⟩
def ae_.o0:OD:=⟨[(2,.box [.k,.k,.k,.view .iJson,.view .str]),(3,.box [.k,.k,.k,.view .iJson,.view .str])],[.pb 1 0,.pb 2 0],[.ext,.box (aa_.p .v),.box (aa_.p .v)]⟩
def ae_.o2:OD:=⟨[],[],[.ext]⟩
def ae_.d:FD Bool:=⟨99,81,1,[.ag (aa_.p .v),.ag (aa_.p .v)],[.b],fun (a0,_)=>a0,fun r=>(r,()),[.ag [.v,.v,.v,.v,.v],.ag [.v,.v,.v,.v,.v]],[.v],[.k],[.tmp 4],[],[(6,ae_.p6),(14,ae_.p14)],[],[(0,ae_.o0),(2,ae_.o2)]⟩
def ae_.F (n:Nat):Pat.Ts ae_.d.ps→Option Bool:=fun (a0,a1,_)=>ae_ n (aa_.of a0) (aa_.of a1)
def bb_.p6:OD:=⟨[(1,.box [.k,.view .str,.k,.k,.k,.view .iJson,.view .str]),(3,.k)],[.pb 1 0,.i .i64],[.ext,.box (TOp.p .v)]⟩
def bb_.o0:OD:=⟨[(1,.box [.k,.view .str,.k,.k,.k,.view .iJson,.view .str])],[.pb 1 0],[.ext,.box (TOp.p .v)]⟩
def bb_.d:FD Bool:=⟨118,43,1,[.ag (TOp.p .v)],[.b],fun (a0,_)=>a0,fun r=>(r,()),[.ag [.v,.v,.v,.v,.v,.v,.v]],[.v],[.k],[.tmp 2],[],[(6,bb_.p6)],[],[(0,bb_.o0)]⟩
def bb_.F (n:Nat):Pat.Ts bb_.d.ps→Option Bool:=fun (a0,_)=>bb_ n (TOp.of a0)
def bN_.d:FD (List Bs):=⟨80,2,1,[],[.sl .d .str],fun (a0,_)=>a0,fun r=>(r,()),[],[.o],[.own .d .str],[.tmp 0],[],[],[],[]⟩
def bN_.F (n:Nat):Pat.Ts bN_.d.ps→Option (List Bs):=fun _=>bN_ n ()
def am_.p4:OD:=⟨[(0,.view .str),(3,.own .d .u8),(4,.k)],[.sl .v .str,.rt 1,.i .i64],[.ext,.arr .d .u8 2]⟩
def am_.p10:OD:=⟨[(0,.view .str),(3,.own .d .u8),(4,.k),(5,.k)],[.sl .v .str,.rt 1,.i .i64,.i .i64],[.ext,.arr .d .u8 2]⟩
def am_.o0:OD:=⟨[(3,.own .d .u8)],[.rt 1],[.ext,.arr .d .u8 2]⟩
def am_.o2:OD:=⟨[(0,.view .str),(3,.own .d .u8),(4,.k)],[.sl .v .str,.rt 1,.i .i64],[.ext,.arr .d .u8 2]⟩
def am_.d:FD Bs:=⟨119,52,1,[.sl .v .str],[.s],fun (a0,_)=>a0,fun r=>(r,()),[.v],[.v],[.k],[.tmp 2],[],[(10,am_.p10),(4,am_.p4)],[],[(0,am_.o0),(2,am_.o2)]⟩
def am_.F (n:Nat):Pat.Ts am_.d.ps→Option Bs:=fun (a0,_)=>am_ n a0
def a1_.p5:OD:=⟨[(1,.k),(3,.box [.k,.k,.k,.view .iJson,.view .str]),(5,.box [.k,.k,.k,.view .iJson,.view .str]),(6,.box [.k,.k,.k,.k,.k]),(7,.box [.k,.k,.k,.own .s .iJson,.own .d .str]),(8,.k),(9,.k)],[.s,.pb 1 0,.pb 2 0,.pb 3 0,.pb 4 0,.b,.i .i64],[.ext,.box (aa_.p .v),.box (aa_.p .v),.box [.i .i64,.i .i64,.s,.nils,.nils],.box [.i .i64,.i .i64,.s,.rt 5,.rt 6],.arr .s .iJson 2,.arr .d .str 2]⟩
def a1_.o0:OD:=⟨[(1,.k),(5,.box [.k,.k,.k,.view .iJson,.view .str]),(6,.box [.k,.k,.k,.k,.k]),(7,.box [.k,.k,.k,.own .s .iJson,.own .d .str]),(8,.k)],[.s,.pb 1 0,.pb 2 0,.pb 3 0,.b],[.ext,.box (aa_.p .v),.box [.i .i64,.i .i64,.s,.nils,.nils],.box [.i .i64,.i .i64,.s,.rt 4,.rt 5],.arr .s .iJson 2,.arr .d .str 2]⟩
def a1_.d:FD aa_:=⟨120,83,1,[.ag (aa_.p .v),.s,.ag (aa_.p .v)],[.ag [.i .i64,.i .i64,.s,.sl .s .iJson,.sl .d .str]],fun (a0,_)=>(aa_.of a0),fun r=>(aa_.to r,()),[.ag [.v,.v,.v,.v,.v],.v,.ag [.v,.v,.v,.v,.v]],[.ag [.v,.v,.v,.o,.o]],[.ag [.k,.k,.k,.own .s .iJson,.own .d .str]],[.cell 6 25],[],[(5,a1_.p5)],[],[(0,a1_.o0)]⟩
def a1_.F (n:Nat):Pat.Ts a1_.d.ps→Option aa_:=fun (a0,a1,a2,_)=>a1_ n (aa_.of a0) a1 (aa_.of a2)
def b6_.d:FD aa_:=⟨83,34,1,[.ag (TOp.p .v)],[.ag [.i .i64,.i .i64,.s,.sl .s .iJson,.sl .d .str]],fun (a0,_)=>(aa_.of a0),fun r=>(aa_.to r,()),[.ag [.v,.v,.v,.v,.v,.v,.v]],[.ag [.v,.v,.v,.o,.o]],[.ag [.k,.k,.k,.own .s .iJson,.own .d .str]],[.cell 2 25],[],[],[],[]⟩
def b6_.F (n:Nat):Pat.Ts b6_.d.ps→Option aa_:=fun (a0,_)=>b6_ n (TOp.of a0)
def aU_.p4:OD:=⟨[(0,.view .iOp),(2,.box [.k,.k,.k,.k,.k]),(4,.box [.k,.k,.k,.own .s .iJson,.k]),(5,.k)],[.sl .v .iOp,.pb 1 0,.pb 2 0,.i .i64],[.ext,.box [.i .i64,.i .i64,.s,.nils,.nils],.box [.i .i64,.i .i64,.s,.rt 3,.nils],.arr .s .iJson 2]⟩
def aU_.o0:OD:=⟨[(0,.view .iOp),(2,.box [.k,.k,.k,.k,.k]),(4,.box [.k,.k,.k,.own .s .iJson,.k])],[.sl .v .iOp,.pb 1 0,.pb 2 0],[.ext,.box [.i .i64,.i .i64,.s,.nils,.nils],.box [.i .i64,.i .i64,.s,.rt 3,.nils],.arr .s .iJson 2]⟩
def aU_.d:FD (aa_ × Bool):=⟨84,38,1,[.sl .v .iOp],[.ag [.i .i64,.i .i64,.s,.sl .s .iJson,.sl .d .str],.b],fun (a0,a1,_)=>((aa_.of a0),a1),fun (a0,a1)=>(aa_.to a0,a1,()),[.v],[.ag [.v,.v,.v,.o,.o],.v],[.ag [.k,.k,.k,.own .s .iJson,.own .d .str],.k],[.cell 2 25,.tmp 3],[],[(4,aU_.p4)],[],[(0,aU_.o0)]⟩
def aU_.F (n:Nat):Pat.Ts aU_.d.ps→Option (aa_ × Bool):=fun (a0,_)=>aU_ n a0
def bP_.d:FD Bool:=⟨60,51,1,[.ag (be_.p .v)],[.b],fun (a0,_)=>a0,fun r=>(r,()),[.ag [.v,.v,.v,.v,.v,.v,.v,.v,.v]],[.v],[.k],[.tmp 2],[],[],[],[]⟩
def bP_.F (n:Nat):Pat.Ts bP_.d.ps→Option Bool:=fun (a0,_)=>bP_ n (be_.of a0)
def bM_.d:FD (aa_ × Bool):=⟨165,21,3,[.ag (aa_.p .d),.ag (TOp.p .v)],[.ag (aa_.p .d),.b],fun (a0,a1,_)=>((aa_.of a0),a1),fun (a0,a1)=>(aa_.to a0,a1,()),[.ag [.v,.v,.v,.o,.o],.ag [.v,.v,.v,.v,.v,.v,.v]],[.ag [.v,.v,.v,.o,.o],.v],[.ag [.k,.k,.k,.own .d .iJson,.own .d .str],.k],[.cell 4 25,.tmp 5],[],[],[],[]⟩
def bM_.F (n:Nat):Pat.Ts bM_.d.ps→Option (aa_ × Bool):=fun (a0,a1,_)=>bM_ n (aa_.of a0) (TOp.of a1)
def bd_.p3:OD:=⟨[(1,.k),(2,.box [.k,.k,.k,.view .iJson,.view .str]),(5,.k)],[.s,.pb 1 0,.i .i64],[.ext,.box (aa_.p .v)]⟩
def bd_.o0:OD:=⟨[],[],[.ext]⟩
def bd_.d:FD Int:=⟨117,21,1,[.ag (aa_.p .v),.s],[.i .i64],fun (a0,_)=>a0,fun r=>(r,()),[.ag [.v,.v,.v,.v,.v],.v],[.v],[.k],[.tmp 4],[],[(3,bd_.p3)],[],[(0,bd_.o0)]⟩
def bd_.F (n:Nat):Pat.Ts bd_.d.ps→Option Int:=fun (a0,a1,_)=>bd_ n (aa_.of a0) a1
def aM_.p7:OD:=⟨[(0,.k),(3,.k),(4,.k)],[.s,.i .i64,.i .i64],[.ext]⟩
def aM_.o0:OD:=⟨[(0,.k),(3,.k)],[.s,.i .i64],[.ext]⟩
def aM_.d:FD Int:=⟨188,41,1,[.s],[.i .i64],fun (a0,_)=>a0,fun r=>(r,()),[.v],[.v],[.k],[.tmp 2],[],[(7,aM_.p7)],[],[(0,aM_.o0)]⟩
def aM_.F (n:Nat):Pat.Ts aM_.d.ps→Option Int:=fun (a0,_)=>aM_ n a0
def cq_.d:FD Int:=⟨167,23,1,[.ag (aa_.p .v),.s],[.i .i64],fun (a0,_)=>a0,fun r=>(r,()),[.ag [.v,.v,.v,.v,.v],.v],[.v],[.k],[.tmp 4],[],[],[],[]⟩
def cq_.F (n:Nat):Pat.Ts cq_.d.ps→Option Int:=fun (a0,a1,_)=>cq_ n (aa_.of a0) a1
def cg_.d:FD (aa_ × Bool):=⟨187,58,3,[.ag (aa_.p .d),.s,.ag (TOp.p .v)],[.ag [.i .i64,.i .i64,.s,.sl .s .iJson,.sl .d .str],.b],fun (a0,a1,_)=>((aa_.of a0),a1),fun (a0,a1)=>(aa_.to a0,a1,()),[.ag [.v,.v,.v,.o,.o],.v,.ag [.v,.v,.v,.v,.v,.v,.v]],[.ag [.v,.v,.v,.o,.o],.v],[.ag [.k,.k,.k,.own .s .iJson,.own .d .str],.k],[.cell 6 25,.tmp 7],[],[],[],[]⟩
def cg_.F (n:Nat):Pat.Ts cg_.d.ps→Option (aa_ × Bool):=fun (a0,a1,a2,_)=>cg_ n (aa_.of a0) a1 (TOp.of a2)
def ba_.p8:OD:=⟨[(3,.box [.k,.k,.k,.view .iJson,.own .d .str]),(6,.box [.k,.k,.k,.k,.k]),(8,.k)],[.pb 3 0,.pb 4 0,.i .i64],[.ext,.non,.arr .d .str 2,.box [.i .i64,.i .i64,.s,.sl .v .iJson,.rt 2],.box [.i .i64,.i .i64,.s,.nils,.nils]]⟩
def ba_.p17:OD:=⟨[(3,.box [.k,.k,.k,.own .s .iJson,.view .str]),(6,.box [.k,.k,.k,.k,.k]),(8,.k),(62,.k)],[.pb 3 0,.pb 4 0,.i .i64,.b],[.ext,.non,.non,.box [.i .i64,.i .i64,.s,.rt 5,.sl .v .str],.box [.i .i64,.i .i64,.s,.nils,.nils],.arr .s .iJson 2]⟩
def ba_.n17:OD:=⟨[(3,.box [.k,.k,.k,.own .s .iJson,.view .str]),(6,.box [.k,.k,.k,.k,.k])],[.pb 3 0,.pb 4 0],[.ext,.non,.non,.box [.i .i64,.i .i64,.s,.rt 5,.sl .v .str],.box [.i .i64,.i .i64,.s,.nils,.nils],.arr .s .iJson 2]⟩
def ba_.d:FD (aa_ × Bool):=⟨166,77,3,[.ag (aa_.p .d),.s,.ag (TOp.p .v)],[.ag [.i .i64,.i .i64,.s,.sl .s .iJson,.sl .v .str],.b],fun (a0,a1,_)=>((aa_.of a0),a1),fun (a0,a1)=>(aa_.to a0,a1,()),[.ag [.v,.v,.v,.o,.o],.v,.ag [.v,.v,.v,.v,.v,.v,.v]],[.ag [.v,.v,.v,.o,.v],.v],[.ag [.k,.k,.k,.own .s .iJson,.view .str],.k],[.cell 6 25,.tmp 7],[],[(17,ba_.p17),(8,ba_.p8)],[(17,ba_.n17)],[]⟩
def ba_.F (n:Nat):Pat.Ts ba_.d.ps→Option (aa_ × Bool):=fun (a0,a1,a2,_)=>ba_ n (aa_.of a0) a1 (TOp.of a2)
def bB_.d:FD (aa_ × Bool):=⟨132,57,3,[.ag (aa_.p .d),.sl .v .str,.ag (TOp.p .v)],[.ag [.i .i64,.i .i64,.s,.sl .s .iJson,.sl .v .str],.b],fun (a0,a1,_)=>((aa_.of a0),a1),fun (a0,a1)=>(aa_.to a0,a1,()),[.ag [.v,.v,.v,.o,.o],.v,.ag [.v,.v,.v,.v,.v,.v,.v]],[.ag [.v,.v,.v,.o,.v],.v],[.ag [.k,.k,.k,.own .s .iJson,.view .str],.k],[.cell 6 25,.tmp 7],[],[],[],[]⟩
def bB_.F (n:Nat):Pat.Ts bB_.d.ps→Option (aa_ × Bool):=fun (a0,a1,a2,_)=>bB_ n (aa_.of a0) a1 (TOp.of a2)
def ch_.d:FD (aa_ × Bool):=⟨101,35,1,[.ag (aa_.p .v),.ag (TOp.p .v)],[.ag [.i .i64,.i .i64,.s,.sl .s .iJson,.sl .v .str],.b],fun (a0,a1,_)=>((aa_.of a0),a1),fun (a0,a1)=>(aa_.to a0,a1,()),[.ag [.v,.v,.v,.v,.v],.ag [.v,.v,.v,.v,.v,.v,.v]],[.ag [.v,.v,.v,.o,.v],.v],[.ag [.k,.k,.k,.own .s .iJson,.view .str],.k],[.cell 4 25,.tmp 5],[],[],[],[]⟩
def ch_.F (n:Nat):Pat.Ts ch_.d.ps→Option (aa_ × Bool):=fun (a0,a1,_)=>ch_ n (aa_.of a0) (TOp.of a1)
def aI_.p7:OD:=⟨[(1,.view .iOp),(4,.box [.k,.k,.k,.k,.k]),(6,.box [.k,.k,.k,.own .s .iJson,.view .str]),(7,.k)],[.sl .v .iOp,.pb 1 0,.pb 2 0,.i .i64],[.ext,.box [.i .i64,.i .i64,.s,.nils,.nils],.box [.i .i64,.i .i64,.s,.rt 3,.sl .v .str],.arr .s .iJson 2]⟩
def aI_.o0:OD:=⟨[(4,.box [.k,.k,.k,.k,.k]),(6,.box [.k,.k,.k,.own .s .iJson,.view .str])],[.pb 1 0,.pb 2 0],[.ext,.box [.i .i64,.i .i64,.s,.nils,.nils],.box [.i .i64,.i .i64,.s,.rt 3,.sl .v .str],.arr .s .iJson 2]⟩
def aI_.d:FD (aa_ × Bool):=⟨62,41,1,[.ag (aa_.p .v),.sl .v .iOp],[.ag [.i .i64,.i .i64,.s,.sl .s .iJson,.sl .v .str],.b],fun (a0,a1,_)=>((aa_.of a0),a1),fun (a0,a1)=>(aa_.to a0,a1,()),[.ag [.v,.v,.v,.v,.v],.v],[.ag [.v,.v,.v,.o,.v],.v],[.ag [.k,.k,.k,.own .s .iJson,.view .str],.k],[.cell 4 25,.tmp 5],[],[(7,aI_.p7)],[],[(0,aI_.o0)]⟩
def aI_.F (n:Nat):Pat.Ts aI_.d.ps→Option (aa_ × Bool):=fun (a0,a1,_)=>aI_ n (aa_.of a0) a1
def bo_.d:FD aF_:=⟨16,64,1,[.ag (aF_.q1 .v),.ag (be_.p .v)],[.ag [.i .i64,.i .i64,.s,.sl .s .iJson,.sl .v .str,.i .i64,.b,.b]],fun (a0,_)=>(aF_.of a0),fun r=>(aF_.to r,()),[.ag [.v,.v,.v,.v,.v,.v,.v,.v],.ag [.v,.v,.v,.v,.v,.v,.v,.v,.v]],[.ag [.v,.v,.v,.o,.v,.v,.v,.v]],[.ag [.k,.k,.k,.own .s .iJson,.view .str,.k,.k,.k]],[.cell 4 45],[],[],[],[]⟩
def bo_.F (n:Nat):Pat.Ts bo_.d.ps→Option aF_:=fun (a0,a1,_)=>bo_ n (aF_.of a0) (be_.of a1)
def bq_.d:FD (List Bs):=⟨108,6,1,[.sl .v .str],[.sl .d .str],fun (a0,_)=>a0,fun r=>(r,()),[.v],[.o],[.own .d .str],[.tmp 2],[],[],[],[]⟩
def bq_.F (n:Nat):Pat.Ts bq_.d.ps→Option (List Bs):=fun (a0,_)=>bq_ n a0
def ak_.p4:OD:=⟨[(2,.box [.k,.k,.k,.k,.k]),(3,.box [.k,.k,.k,.own .d .iJson,.own .d .str]),(17,.view .iJson),(18,.k),(19,.k)],[.pb 1 0,.pb 2 0,.sl .v .iJson,.i .i64,.i .i64],[.ext,.box [.i .i64,.i .i64,.s,.nils,.nils],.box [.i .i64,.i .i64,.s,.rt 3,.rt 4],.arr .d .iJson 2,.arr .d .str 2]⟩
def ak_.o0:OD:=⟨[(2,.box [.k,.k,.k,.k,.k]),(3,.box [.k,.k,.k,.own .d .iJson,.own .d .str])],[.pb 1 0,.pb 2 0],[.ext,.box [.i .i64,.i .i64,.s,.nils,.nils],.box [.i .i64,.i .i64,.s,.rt 3,.rt 4],.arr .d .iJson 2,.arr .d .str 2]⟩
def ak_.d:FD aa_:=⟨67,32,1,[.ag (aa_.p .v)],[.ag (aa_.p .d)],fun (a0,_)=>(aa_.of a0),fun r=>(aa_.to r,()),[.ag [.v,.v,.v,.v,.v]],[.ag [.v,.v,.v,.o,.o]],[.ag [.k,.k,.k,.own .d .iJson,.own .d .str]],[.cell 2 25],[],[(4,ak_.p4)],[],[(0,ak_.o0)]⟩
def ak_.F (n:Nat):Pat.Ts ak_.d.ps→Option aa_:=fun (a0,_)=>ak_ n (aa_.of a0)
def bp_.d:FD aF_:=⟨65,8,1,[.ag (aF_.q1 .v)],[.ag (aF_.q1 .d)],fun (a0,_)=>(aF_.of a0),fun r=>(aF_.to r,()),[.ag [.v,.v,.v,.v,.v,.v,.v,.v]],[.ag [.v,.v,.v,.o,.o,.v,.v,.v]],[.ag [.k,.k,.k,.own .d .iJson,.own .d .str,.k,.k,.k]],[.cell 2 45],[],[],[],[]⟩
def bp_.F (n:Nat):Pat.Ts bp_.d.ps→Option aF_:=fun (a0,_)=>bp_ n (aF_.of a0)
def aE_.d:FD Bool:=⟨105,15,1,[.i .i64,.i .i64,.i .i64],[.b],fun (a0,_)=>a0,fun r=>(r,()),[.v,.v,.v],[.v],[.k],[.tmp 6],[],[],[],[]⟩
def aE_.F (n:Nat):Pat.Ts aE_.d.ps→Option Bool:=fun (a0,a1,a2,_)=>aE_ n a0 a1 a2
def bs_.d:FD Bool:=⟨104,5,1,[.i .i64],[.b],fun (a0,_)=>a0,fun r=>(r,()),[.v],[.v],[.k],[.tmp 2],[],[],[],[]⟩
def bs_.F (n:Nat):Pat.Ts bs_.d.ps→Option Bool:=fun (a0,_)=>bs_ n a0
def aY_.d:FD Bool:=⟨189,5,1,[.i .i64],[.b],fun (a0,_)=>a0,fun r=>(r,()),[.v],[.v],[.k],[.tmp 2],[],[],[],[]⟩
def aY_.F (n:Nat):Pat.Ts aY_.d.ps→Option Bool:=fun (a0,_)=>aY_ n a0
def an_.p3:OD:=⟨[(0,.k),(5,.k),(6,.k)],[.s,.i .i64,.i .i64],[.ext]⟩
def an_.o0:OD:=⟨[(0,.k)],[.s],[.ext]⟩
def an_.d:FD Bool:=⟨169,19,1,[.s],[.b],fun (a0,_)=>a0,fun r=>(r,()),[.v],[.v],[.k],[.tmp 2],[],[(3,an_.p3)],[],[(0,an_.o0)]⟩
def an_.F (n:Nat):Pat.Ts an_.d.ps→Option Bool:=fun (a0,_)=>an_ n a0
def aj_.p3:OD:=⟨[(0,.view .str),(5,.view .str),(6,.k),(7,.k)],[.sl .v .str,.sl .v .str,.i .i64,.i .i64],[.ext]⟩
def aj_.o0:OD:=⟨[],[],[.ext]⟩
def aj_.d:FD Bool:=⟨190,29,1,[.sl .v .str],[.b],fun (a0,_)=>a0,fun r=>(r,()),[.v],[.v],[.k],[.tmp 2],[],[(3,aj_.p3)],[],[(0,aj_.o0)]⟩
def aj_.F (n:Nat):Pat.Ts aj_.d.ps→Option Bool:=fun (a0,_)=>aj_ n a0
def cj_.d:FD Bool:=⟨168,90,1,[.ag (aa_.p .v)],[.b],fun (a0,_)=>a0,fun r=>(r,()),[.ag [.v,.v,.v,.v,.v]],[.v],[.k],[.tmp 2],[],[],[],[]⟩
def cj_.F (n:Nat):Pat.Ts cj_.d.ps→Option Bool:=fun (a0,_)=>cj_ n (aa_.of a0)
def aO_.p7:OD:=⟨[(1,.k),(5,.k),(16,.view .iJson),(17,.k),(18,.k)],[.i .i64,.i .i64,.sl .v .iJson,.i .i64,.i .i64],[.ext]⟩
def aO_.o0:OD:=⟨[(5,.k)],[.i .i64],[.ext]⟩
def aO_.d:FD Int:=⟨133,32,1,[.ag (aa_.p .v),.i .i64],[.i .i64],fun (a0,_)=>a0,fun r=>(r,()),[.ag [.v,.v,.v,.v,.v],.v],[.v],[.k],[.tmp 4],[],[(7,aO_.p7)],[],[(0,aO_.o0)]⟩
def aO_.F (n:Nat):Pat.Ts aO_.d.ps→Option Int:=fun (a0,a1,_)=>aO_ n (aa_.of a0) a1
def bE_.d:FD Bool:=⟨109,6,1,[.ag (aa_.p .v)],[.b],fun (a0,_)=>a0,fun r=>(r,()),[.ag [.v,.v,.v,.v,.v]],[.v],[.k],[.tmp 2],[],[],[],[]⟩
def bE_.F (n:Nat):Pat.Ts bE_.d.ps→Option Bool:=fun (a0,_)=>bE_ n (aa_.of a0)
def aW_.p4:OD:=⟨[(0,.k),(3,.own .d .u8),(7,.k),(8,.k)],[.s,.rt 1,.i .i64,.i .i64],[.ext,.arr .d .u8 2]⟩
def aW_.o0:OD:=⟨[(3,.own .d .u8)],[.rt 1],[.ext,.arr .d .u8 2]⟩
def aW_.d:FD Bs:=⟨160,35,1,[.s],[.s],fun (a0,_)=>a0,fun r=>(r,()),[.v],[.v],[.k],[.tmp 2],[],[(4,aW_.p4)],[],[(0,aW_.o0)]⟩
def aW_.F (n:Nat):Pat.Ts aW_.d.ps→Option Bs:=fun (a0,_)=>aW_ n a0
def strconv_Itoa.d:FD Bs:=⟨128,5,1,[.i .i64],[.s],fun (a0,_)=>a0,fun r=>(r,()),[.v],[],[],[.tmp 2],[],[],[],[]⟩
def strconv_Itoa.F (n:Nat):Pat.Ts strconv_Itoa.d.ps→Option Bs:=fun (a0,_)=>strconv_Itoa n a0
def strings_Join.d:FD Bs:=⟨161,75,1,[.sl .v .str,.s],[.s],fun (a0,_)=>a0,fun r=>(r,()),[.v,.v],[],[],[.tmp 4],[],[],[],[]⟩
def strings_Join.F (n:Nat):Pat.Ts strings_Join.d.ps→Option Bs:=fun (a0,a1,_)=>strings_Join n a0 a1
def aG_.p4:OD:=⟨[(1,.box [.k,.k,.k,.view .iJson,.view .str]),(3,.own .d .str),(9,.view .iJson),(10,.k),(11,.k)],[.pb 1 0,.rt 2,.sl .v .iJson,.i .i64,.i .i64],[.ext,.box (aa_.p .v),.arr .d .str 2]⟩
def aG_.o0:OD:=⟨[(1,.box [.k,.k,.k,.view .iJson,.view .str]),(3,.own .d .str)],[.pb 1 0,.rt 2],[.ext,.box (aa_.p .v),.arr .d .str 2]⟩
def aG_.d:FD Bs:=⟨129,66,1,[.ag (aa_.p .v)],[.s],fun (a0,_)=>a0,fun r=>(r,()),[.ag [.v,.v,.v,.v,.v]],[.v],[.k],[.tmp 2],[],[(4,aG_.p4)],[],[(0,aG_.o0)]⟩
def aG_.F (n:Nat):Pat.Ts aG_.d.ps→Option Bs:=fun (a0,_)=>aG_ n (aa_.of a0)
def b2_.d:FD Bs:=⟨92,13,1,[.ag (aa_.p .v)],[.s],fun (a0,_)=>a0,fun r=>(r,()),[.ag [.v,.v,.v,.v,.v]],[.v],[.k],[.tmp 2],[],[],[],[]⟩
def b2_.F (n:Nat):Pat.Ts b2_.d.ps→Option Bs:=fun (a0,_)=>b2_ n (aa_.of a0)
def bX_.d:FD Bool:=⟨106,28,1,[.ag (aa_.p .v)],[.b],fun (a0,_)=>a0,fun r=>(r,()),[.ag [.v,.v,.v,.v,.v]],[.v],[.k],[.tmp 2],[],[],[],[]⟩
def bX_.F (n:Nat):Pat.Ts bX_.d.ps→Option Bool:=fun (a0,_)=>bX_ n (aa_.of a0)
def bc_.p3:OD:=⟨[(1,.box [.k,.view .str,.k,.k,.k,.view .iJson,.view .str]),(6,.view .str),(7,.k),(8,.k)],[.pb 1 0,.sl .v .str,.i .i64,.i .i64],[.ext,.box (TOp.p .v)]⟩
def bc_.o0:OD:=⟨[(1,.box [.k,.view .str,.k,.k,.k,.view .iJson,.view .str])],[.pb 1 0],[.ext,.box (TOp.p .v)]⟩
def bc_.d:FD Bool:=⟨134,40,1,[.ag (TOp.p .v)],[.b],fun (a0,_)=>a0,fun r=>(r,()),[.ag [.v,.v,.v,.v,.v,.v,.v]],[.v],[.k],[.tmp 2],[],[(3,bc_.p3)],[],[(0,bc_.o0)]⟩
def bc_.F (n:Nat):Pat.Ts bc_.d.ps→Option Bool:=fun (a0,_)=>bc_ n (TOp.of a0)
def bS_.d:FD (List Bs):=⟨157,2,1,[],[.sl .d .str],fun (a0,_)=>a0,fun r=>(r,()),[],[.o],[.own .d .str],[.tmp 0],[],[],[],[]⟩
def bS_.F (n:Nat):Pat.Ts bS_.d.ps→Option (List Bs):=fun _=>bS_ n ()
def strings_ReplaceAll.d:FD Bs:=⟨181,11,1,[.s,.s,.s],[.s],fun (a0,_)=>a0,fun r=>(r,()),[.v,.v,.v],[],[],[.tmp 6],[],[],[],[]⟩
def strings_ReplaceAll.F (n:Nat):Pat.Ts strings_ReplaceAll.d.ps→Option Bs:=fun (a0,a1,a2,_)=>strings_ReplaceAll n a0 a1 a2
def aR_.p4:OD:=⟨[(3,.k),(6,.view .str),(7,.k),(8,.k)],[.s,.sl .v .str,.i .i64,.i .i64],[.ext]⟩
def aR_.o0:OD:=⟨[(3,.k)],[.s],[.ext]⟩
def aR_.d:FD Bs:=⟨162,20,1,[.sl .v .str],[.s],fun (a0,_)=>a0,fun r=>(r,()),[.v],[.v],[.k],[.tmp 2],[],[(4,aR_.p4)],[],[(0,aR_.o0)]⟩
def aR_.F (n:Nat):Pat.Ts aR_.d.ps→Option Bs:=fun (a0,_)=>aR_ n a0
def b1_.d:FD aa_:=⟨163,8,3,[.ag (aa_.p .d)],[.ag (aa_.p .d)],fun (a0,_)=>(aa_.of a0),fun r=>(aa_.to r,()),[.ag [.v,.v,.v,.o,.o]],[.ag [.v,.v,.v,.o,.o]],[.ag [.k,.k,.k,.own .d .iJson,.own .d .str]],[.cell 2 25],[],[],[],[]⟩
def b1_.F (n:Nat):Pat.Ts b1_.d.ps→Option aa_:=fun (a0,_)=>b1_ n (aa_.of a0)
def b7_.d:FD aa_:=⟨130,41,1,[.ag (TOp.p .v)],[.ag (aa_.p .d)],fun (a0,_)=>(aa_.of a0),fun r=>(aa_.to r,()),[.ag [.v,.v,.v,.v,.v,.v,.v]],[.ag [.v,.v,.v,.o,.o]],[.ag [.k,.k,.k,.own .d .iJson,.own .d .str]],[.cell 2 25],[],[],[],[]⟩
def b7_.F (n:Nat):Pat.Ts b7_.d.ps→Option aa_:=fun (a0,_)=>b7_ n (TOp.of a0)
def aN_.p4:OD:=⟨[(2,.box [.k,.k,.k,.k,.k]),(4,.box [.k,.k,.k,.own .d .iJson,.k]),(9,.view .iOp),(10,.k),(11,.k)],[.pb 1 0,.pb 2 0,.sl .v .iOp,.i .i64,.i .i64],[.ext,.box [.i .i64,.i .i64,.s,.nils,.nils],.box [.i .i64,.i .i64,.s,.rt 3,.nils],.arr .d .iJson 2]⟩
def aN_.o0:OD:=⟨[(2,.box [.k,.k,.k,.k,.k]),(4,.box [.k,.k,.k,.own .d .iJson,.k])],[.pb 1 0,.pb 2 0],[.ext,.box [.i .i64,.i .i64,.s,.nils,.nils],.box [.i .i64,.i .i64,.s,.rt 3,.nils],.arr .d .iJson 2]⟩
def aN_.d:FD (aa_ × Bool):=⟨93,29,1,[.sl .v .iOp],[.ag (aa_.p .d),.b],fun (a0,a1,_)=>((aa_.of a0),a1),fun (a0,a1)=>(aa_.to a0,a1,()),[.v],[.ag [.v,.v,.v,.o,.o],.v],[.ag [.k,.k,.k,.own .d .iJson,.own .d .str],.k],[.cell 2 25,.tmp 3],[],[(4,aN_.p4)],[],[(0,aN_.o0)]⟩
def aN_.F (n:Nat):Pat.Ts aN_.d.ps→Option (aa_ × Bool):=fun (a0,_)=>aN_ n a0
def bx_.d:FD Int:=⟨107,21,1,[.sl .v .iOp],[.i .i64],fun (a0,_)=>a0,fun r=>(r,()),[.v],[.v],[.k],[.tmp 2],[],[],[],[]⟩
def bx_.F (n:Nat):Pat.Ts bx_.d.ps→Option Int:=fun (a0,_)=>bx_ n a0
def bU_.d:FD Bool:=⟨66,57,1,[.ag (be_.p .v)],[.b],fun (a0,_)=>a0,fun r=>(r,()),[.ag [.v,.v,.v,.v,.v,.v,.v,.v,.v]],[.v],[.k],[.tmp 2],[],[],[],[]⟩
def bU_.F (n:Nat):Pat.Ts bU_.d.ps→Option Bool:=fun (a0,_)=>bU_ n (be_.of a0)
def ah_.p6:OD:=⟨[(0,.view .str),(1,.view .str),(12,.k),(13,.k)],[.sl .v .str,.sl .v .str,.i .i64,.i .i64],[.ext]⟩
def ah_.o0:OD:=⟨[],[],[.ext]⟩
def ah_.d:FD Bool:=⟨201,26,1,[.sl .v .str,.sl .v .str],[.b],fun (a0,_)=>a0,fun r=>(r,()),[.v,.v],[.v],[.k],[.tmp 4],[],[(6,ah_.p6)],[],[(0,ah_.o0)]⟩
def ah_.F (n:Nat):Pat.Ts ah_.d.ps→Option Bool:=fun (a0,a1,_)=>ah_ n a0 a1
def ab_.p6:OD:=⟨[(1,.view .iJson),(2,.k),(15,.view .iJson),(16,.k),(17,.k)],[.sl .v .iJson,.clo 182 [],.sl .v .iJson,.i .i64,.i .i64],[.ext]⟩
def ab_.o0:OD:=⟨[],[],[.ext]⟩
def ab_.d:FD Bool:=⟨202,32,1,[.sl .v .iJson,.sl .v .iJson,.clo 182 []],[.b],fun (a0,_)=>a0,fun r=>(r,()),[.v,.v,.v],[.v],[.k],[.tmp 6],[],[(6,ab_.p6)],[],[(0,ab_.o0)]⟩
def ab_.F (n:Nat):Pat.Ts ab_.d.ps→Option Bool:=fun (a0,a1,_,_)=>ab_ n a0 a1
def bY_.d:FD Bool:=⟨182,38,1,[.ag (aa_.p .v),.ag (aa_.p .v)],[.b],fun (a0,_)=>a0,fun r=>(r,()),[.ag [.v,.v,.v,.v,.v],.ag [.v,.v,.v,.v,.v]],[.v],[.k],[.tmp 4],[],[],[],[]⟩
def bY_.F (n:Nat):Pat.Ts bY_.d.ps→Option Bool:=fun (a0,a1,_)=>bY_ n (aa_.of a0) (aa_.of a1)
def ci_.d:FD (aa_ × Bool):=⟨170,22,3,[.ag (aa_.p .d),.ag (TOp.p .v)],[.ag (aa_.p .d),.b],fun (a0,a1,_)=>((aa_.of a0),a1),fun (a0,a1)=>(aa_.to a0,a1,()),[.ag [.v,.v,.v,.o,.o],.ag [.v,.v,.v,.v,.v,.v,.v]],[.ag [.v,.v,.v,.o,.o],.v],[.ag [.k,.k,.k,.own .d .iJson,.own .d .str],.k],[.cell 4 25,.tmp 5],[],[],[],[]⟩
def ci_.F (n:Nat):Pat.Ts ci_.d.ps→Option (aa_ × Bool):=fun (a0,a1,_)=>ci_ n (aa_.of a0) (TOp.of a1)
def a7_.d:FD Bool:=⟨225,6,1,[.s],[.b],fun (a0,_)=>a0,fun r=>(r,()),[.v],[.v],[.k],[.tmp 2],[],[],[],[]⟩
def a7_.F (n:Nat):Pat.Ts a7_.d.ps→Option Bool:=fun (a0,_)=>a7_ n a0
def bg_.d:FD Bool:=⟨209,17,1,[.s,.s],[.b],fun (a0,_)=>a0,fun r=>(r,()),[.v,.v],[.v],[.k],[.tmp 4],[],[],[],[]⟩
def bg_.F (n:Nat):Pat.Ts bg_.d.ps→Option Bool:=fun (a0,a1,_)=>bg_ n a0 a1
def aV_.d:FD Bool:=⟨210,6,1,[.s],[.b],fun (a0,_)=>a0,fun r=>(r,()),[.v],[.v],[.k],[.tmp 2],[],[],[],[]⟩
def aV_.F (n:Nat):Pat.Ts aV_.d.ps→Option Bool:=fun (a0,_)=>aV_ n a0
def ac_.p4:OD:=⟨[(0,.view .str),(1,.k),(6,.k),(7,.k),(8,.k)],[.sl .v .str,.s,.i .i64,.i .i64,.i .i64],[.ext]⟩
def ac_.o0:OD:=⟨[(0,.view .str),(1,.k),(6,.k),(7,.k)],[.sl .v .str,.s,.i .i64,.i .i64],[.ext]⟩
def ac_.d:FD (Int × Bool):=⟨191,54,1,[.sl .v .str,.s],[.i .i64,.b],fun (a0,a1,_)=>(a0,a1),fun (a0,a1)=>(a0,a1,()),[.v,.v],[.v,.v],[.k,.k],[.tmp 4,.tmp 5],[],[(4,ac_.p4)],[],[(0,ac_.o0)]⟩
def ac_.F (n:Nat):Pat.Ts ac_.d.ps→Option (Int × Bool):=fun (a0,a1,_)=>ac_ n a0 a1
def a5_.d:FD (List Bs):=⟨192,95,1,[.sl .d .str,.i .i64,.sl .d .str],[.sl .d .str],fun (a0,_)=>a0,fun r=>(r,()),[.o,.v,.o],[],[],[.tmp 6],[],[],[],[]⟩
def a5_.F (n:Nat):Pat.Ts a5_.d.ps→Option (List Bs):=fun (a0,a1,a2,_)=>a5_ n a0 a1 a2
def a8_.d:FD (List aa_):=⟨193,95,1,[.sl .d .iJson,.i .i64,.sl .d .iJson],[.sl .d .iJson],fun (a0,_)=>a0,fun r=>(r,()),[.o,.v,.o],[],[],[.tmp 6],[],[],[],[]⟩
def a8_.F (n:Nat):Pat.Ts a8_.d.ps→Option (List aa_):=fun (a0,a1,a2,_)=>a8_ n a0 a1 a2
def ca_.d:FD (Int × Bool):=⟨87,18,1,[.s],[.i .i64,.er],fun (a0,a1,_)=>(a0,a1),fun (a0,a1)=>(a0,a1,()),[.v],[],[],[.tmp 2,.tmp 3],[],[],[],[]⟩
def ca_.F (n:Nat):Pat.Ts ca_.d.ps→Option (Int × Bool):=fun (a0,_)=>ca_ n a0
def bK_.d:FD Int:=⟨194,24,1,[.s],[.i .i64],fun (a0,_)=>a0,fun r=>(r,()),[.v],[.v],[.k],[.tmp 2],[],[],[],[]⟩
def bK_.F (n:Nat):Pat.Ts bK_.d.ps→Option Int:=fun (a0,_)=>bK_ n a0
def bT_.d:FD (aa_ × Bool):=⟨171,69,5,[.ag (aa_.p .d),.s,.ag (aa_.p .d)],[.ag (aa_.p .d),.b],fun (a0,a1,_)=>((aa_.of a0),a1),fun (a0,a1)=>(aa_.to a0,a1,()),[.ag [.v,.v,.v,.o,.o],.v,.ag [.v,.v,.v,.o,.o]],[.ag [.v,.v,.v,.o,.o],.v],[.ag [.k,.k,.k,.own .d .iJson,.own .d .str],.k],[.cell 6 25,.tmp 7],[],[],[],[]⟩
def bT_.F (n:Nat):Pat.Ts bT_.d.ps→Option (aa_ × Bool):=fun (a0,a1,a2,_)=>bT_ n (aa_.of a0) a1 (aa_.of a2)
def ag_.p3:OD:=⟨[(0,.view .str),(1,.k),(7,.k),(8,.k)],[.sl .v .str,.s,.i .i64,.i .i64],[.ext]⟩
def ag_.o0:OD:=⟨[],[],[.ext]⟩
def ag_.d:FD Int:=⟨156,19,1,[.sl .v .str,.s],[.i .i64],fun (a0,_)=>a0,fun r=>(r,()),[.v,.v],[.v],[.k],[.tmp 4],[],[(3,ag_.p3)],[],[(0,ag_.o0)]⟩
def ag_.F (n:Nat):Pat.Ts ag_.d.ps→Option Int:=fun (a0,a1,_)=>ag_ n a0 a1
def bJ_.d:FD Int:=⟨172,24,1,[.ag (aa_.p .v),.s],[.i .i64],fun (a0,_)=>a0,fun r=>(r,()),[.ag [.v,.v,.v,.v,.v],.v],[.v],[.k],[.tmp 4],[],[],[],[]⟩
def bJ_.F (n:Nat):Pat.Ts bJ_.d.ps→Option Int:=fun (a0,a1,_)=>bJ_ n (aa_.of a0) a1
def bf_.d:FD (List aa_):=⟨195,33,1,[.sl .d .iJson,.i .i64,.i .i64],[.sl .d .iJson],fun (a0,_)=>a0,fun r=>(r,()),[.o,.v,.v],[],[],[.tmp 6],[],[],[],[]⟩
def bf_.F (n:Nat):Pat.Ts bf_.d.ps→Option (List aa_):=fun (a0,a1,a2,_)=>bf_ n a0 a1 a2
def a6_.d:FD (List Bs):=⟨196,33,1,[.sl .d .str,.i .i64,.i .i64],[.sl .d .str],fun (a0,_)=>a0,fun r=>(r,()),[.o,.v,.v],[],[],[.tmp 6],[],[],[],[]⟩
def a6_.F (n:Nat):Pat.Ts a6_.d.ps→Option (List Bs):=fun (a0,a1,a2,_)=>a6_ n a0 a1 a2
def bz_.d:FD aa_:=⟨173,23,3,[.ag (aa_.p .d),.i .i64],[.ag (aa_.p .d)],fun (a0,_)=>(aa_.of a0),fun r=>(aa_.to r,()),[.ag [.v,.v,.v,.o,.o],.v],[.ag [.v,.v,.v,.o,.o]],[.ag [.k,.k,.k,.own .d .iJson,.own .d .str]],[.cell 4 25],[],[],[],[]⟩
def bz_.F (n:Nat):Pat.Ts bz_.d.ps→Option aa_:=fun (a0,a1,_)=>bz_ n (aa_.of a0) a1
def bt_.d:FD (aa_ × Bool):=⟨135,77,3,[.ag (aa_.p .d),.sl .v .str,.ag (TOp.p .v)],[.ag (aa_.p .d),.b],fun (a0,a1,_)=>((aa_.of a0),a1),fun (a0,a1)=>(aa_.to a0,a1,()),[.ag [.v,.v,.v,.o,.o],.v,.ag [.v,.v,.v,.v,.v,.v,.v]],[.ag [.v,.v,.v,.o,.o],.v],[.ag [.k,.k,.k,.own .d .iJson,.own .d .str],.k],[.cell 6 25,.tmp 7],[],[],[],[]⟩
def bt_.F (n:Nat):Pat.Ts bt_.d.ps→Option (aa_ × Bool):=fun (a0,a1,a2,_)=>bt_ n (aa_.of a0) a1 (TOp.of a2)
def ck_.d:FD (aa_ × Bool):=⟨110,35,1,[.ag (aa_.p .v),.ag (TOp.p .v)],[.ag (aa_.p .d),.b],fun (a0,a1,_)=>((aa_.of a0),a1),fun (a0,a1)=>(aa_.to a0,a1,()),[.ag [.v,.v,.v,.v,.v],.ag [.v,.v,.v,.v,.v,.v,.v]],[.ag [.v,.v,.v,.o,.o],.v],[.ag [.k,.k,.k,.own .d .iJson,.own .d .str],.k],[.cell 4 25,.tmp 5],[],[],[],[]⟩
def ck_.F (n:Nat):Pat.Ts ck_.d.ps→Option (aa_ × Bool):=fun (a0,a1,_)=>ck_ n (aa_.of a0) (TOp.of a1)
def aH_.p7:OD:=⟨[(4,.box [.k,.k,.k,.k,.k]),(6,.box [.k,.k,.k,.own .d .iJson,.own .d .str]),(22,.view .iOp),(23,.k),(24,.k)],[.pb 1 0,.pb 2 0,.sl .v .iOp,.i .i64,.i .i64],[.ext,.box [.i .i64,.i .i64,.s,.nils,.nils],.box [.i .i64,.i .i64,.s,.rt 3,.rt 4],.arr .d .iJson 2,.arr .d .str 2]⟩
def aH_.o0:OD:=⟨[(4,.box [.k,.k,.k,.k,.k]),(6,.box [.k,.k,.k,.own .d .iJson,.own .d .str])],[.pb 1 0,.pb 2 0],[.ext,.box [.i .i64,.i .i64,.s,.nils,.nils],.box [.i .i64,.i .i64,.s,.rt 3,.rt 4],.arr .d .iJson 2,.arr .d .str 2]⟩
def aH_.d:FD (aa_ × Bool):=⟨68,40,1,[.ag (aa_.p .v),.sl .v .iOp],[.ag (aa_.p .d),.b],fun (a0,a1,_)=>((aa_.of a0),a1),fun (a0,a1)=>(aa_.to a0,a1,()),[.ag [.v,.v,.v,.v,.v],.v],[.ag [.v,.v,.v,.o,.o],.v],[.ag [.k,.k,.k,.own .d .iJson,.own .d .str],.k],[.cell 4 25,.tmp 5],[],[(7,aH_.p7)],[],[(0,aH_.o0)]⟩
def aH_.F (n:Nat):Pat.Ts aH_.d.ps→Option (aa_ × Bool):=fun (a0,a1,_)=>aH_ n (aa_.of a0) a1
def bl_.d:FD aF_:=⟨19,74,1,[.ag (aF_.q1 .v),.ag (be_.p .v)],[.ag (aF_.q1 .d)],fun (a0,_)=>(aF_.of a0),fun r=>(aF_.to r,()),[.ag [.v,.v,.v,.v,.v,.v,.v,.v],.ag [.v,.v,.v,.v,.v,.v,.v,.v,.v]],[.ag [.v,.v,.v,.o,.o,.v,.v,.v]],[.ag [.k,.k,.k,.own .d .iJson,.own .d .str,.k,.k,.k]],[.cell 4 45],[],[],[],[]⟩
def bl_.F (n:Nat):Pat.Ts bl_.d.ps→Option aF_:=fun (a0,a1,_)=>bl_ n (aF_.of a0) (be_.of a1)
def aQ_.p6:OD:=⟨[(0,.view .iJson),(1,.view .iJson),(5,.k)],[.sl .v .iJson,.sl .v .iJson,.i .i64],[.ext]⟩
def aQ_.o0:OD:=⟨[],[],[.ext]⟩
def aQ_.d:FD Bool:=⟨94,27,1,[.sl .v .iJson,.sl .v .iJson],[.b],fun (a0,_)=>a0,fun r=>(r,()),[.v,.v],[.v],[.k],[.tmp 4],[],[(6,aQ_.p6)],[],[(0,aQ_.o0)]⟩
def aQ_.F (n:Nat):Pat.Ts aQ_.d.ps→Option Bool:=fun (a0,a1,_)=>aQ_ n a0 a1
def aC_.p6:OD:=⟨[(0,.view .str),(1,.view .str),(5,.k)],[.sl .v .str,.sl .v .str,.i .i64],[.ext]⟩
def aC_.o0:OD:=⟨[],[],[.ext]⟩
def aC_.d:FD Bool:=⟨39,26,1,[.sl .v .str,.sl .v .str],[.b],fun (a0,_)=>a0,fun r=>(r,()),[.v,.v],[.v],[.k],[.tmp 4],[],[(6,aC_.p6)],[],[(0,aC_.o0)]⟩
def aC_.F (n:Nat):Pat.Ts aC_.d.ps→Option Bool:=fun (a0,a1,_)=>aC_ n a0 a1
def br_.d:FD Bool:=⟨51,32,1,[.ag (aa_.p .v),.ag (aa_.p .v)],[.b],fun (a0,_)=>a0,fun r=>(r,()),[.ag [.v,.v,.v,.v,.v],.ag [.v,.v,.v,.v,.v]],[.v],[.k],[.tmp 4],[],[],[],[]⟩
def br_.F (n:Nat):Pat.Ts br_.d.ps→Option Bool:=fun (a0,a1,_)=>br_ n (aa_.of a0) (aa_.of a1)
def bv_.d:FD Bool:=⟨20,26,1,[.ag (aF_.q1 .v),.ag (aF_.q1 .v)],[.b],fun (a0,_)=>a0,fun r=>(r,()),[.ag [.v,.v,.v,.v,.v,.v,.v,.v],.ag [.v,.v,.v,.v,.v,.v,.v,.v]],[.v],[.k],[.tmp 4],[],[],[],[]⟩
def bv_.F (n:Nat):Pat.Ts bv_.d.ps→Option Bool:=fun (a0,a1,_)=>bv_ n (aF_.of a0) (aF_.of a1)
def cu_.d:FD Bool:=⟨95,22,1,[.ag (TOp.p .v),.ag (TOp.p .v)],[.b],fun (a0,_)=>a0,fun r=>(r,()),[.ag [.v,.v,.v,.v,.v,.v,.v],.ag [.v,.v,.v,.v,.v,.v,.v]],[.v],[.k],[.tmp 4],[],[],[],[]⟩
def cu_.F (n:Nat):Pat.Ts cu_.d.ps→Option Bool:=fun (a0,a1,_)=>cu_ n (TOp.of a0) (TOp.of a1)
def a3_.p6:OD:=⟨[(0,.view .iOp),(1,.view .iOp),(5,.k)],[.sl .v .iOp,.sl .v .iOp,.i .i64],[.ext]⟩
def a3_.o0:OD:=⟨[],[],[.ext]⟩
def a3_.d:FD Bool:=⟨52,27,1,[.sl .v .iOp,.sl .v .iOp],[.b],fun (a0,_)=>a0,fun r=>(r,()),[.v,.v],[.v],[.k],[.tmp 4],[],[(6,a3_.p6)],[],[(0,a3_.o0)]⟩
def a3_.F (n:Nat):Pat.Ts a3_.d.ps→Option Bool:=fun (a0,a1,_)=>a3_ n a0 a1
def bR_.d:FD Bool:=⟨11,32,1,[.ag (be_.p .v),.ag (be_.p .v)],[.b],fun (a0,_)=>a0,fun r=>(r,()),[.ag [.v,.v,.v,.v,.v,.v,.v,.v,.v],.ag [.v,.v,.v,.v,.v,.v,.v,.v,.v]],[.v],[.k],[.tmp 4],[],[],[],[]⟩
def bR_.F (n:Nat):Pat.Ts bR_.d.ps→Option Bool:=fun (a0,a1,_)=>bR_ n (be_.of a0) (be_.of a1)
def aB_.p6:OD:=⟨[(0,.k),(3,.k)],[.i .i64,.s],[.ext]⟩
def aB_.o0:OD:=⟨[(3,.k)],[.s],[.ext]⟩
def aB_.d:FD Bs:=⟨69,20,1,[.i .i64],[.s],fun (a0,_)=>a0,fun r=>(r,()),[.v],[.v],[.k],[.tmp 2],[],[(6,aB_.p6)],[],[(0,aB_.o0)]⟩
def aB_.F (n:Nat):Pat.Ts aB_.d.ps→Option Bs:=fun (a0,_)=>aB_ n a0
def al_.p3:OD:=⟨[(0,.own .d .str),(1,.k),(5,.k)],[.rt 1,.i .i64,.i .i64],[.ext,.arr .d .str 2]⟩
def al_.o0:OD:=⟨[(1,.k)],[.i .i64],[.ext,.arr .d .str 2]⟩
def al_.d:FD (Int × (List Bs)):=⟨40,20,2,[.sl .d .str,.i .i64],[.i .i64,.sl .d .str],fun (a0,a1,_)=>(a0,a1),fun (a0,a1)=>(a0,a1,()),[.mu,.v],[.v,.o],[.k,.own .d .str],[.tmp 4],[.rt 1],[(3,al_.p3)],[],[(0,al_.o0)]⟩
def al_.F (n:Nat):Pat.Ts al_.d.ps→Option (Int × (List Bs)):=fun (a0,a1,_)=>al_ n a0 a1
def ap_.p3:OD:=⟨[(0,.own .d .iJson),(1,.k),(5,.k)],[.rt 1,.i .i64,.i .i64],[.ext,.arr .d .iJson 2]⟩
def ap_.o0:OD:=⟨[(1,.k)],[.i .i64],[.ext,.arr .d .iJson 2]⟩
def ap_.d:FD (Int × (List aa_)):=⟨70,49,2,[.sl .d .iJson,.i .i64],[.i .i64,.sl .d .iJson],fun (a0,a1,_)=>(a0,a1),fun (a0,a1)=>(a0,a1,()),[.mu,.v],[.v,.o],[.k,.own .d .iJson],[.tmp 4],[.rt 1],[(3,ap_.p3)],[],[(0,ap_.o0)]⟩
def ap_.F (n:Nat):Pat.Ts ap_.d.ps→Option (Int × (List aa_)):=fun (a0,a1,_)=>ap_ n a0 a1
def by_.d:FD (Int × (List aa_) × (List Bs)):=⟨53,14,3,[.ag (aa_.p .d),.i .i64],[.i .i64,.sl .d .iJson,.sl .d .str],fun (a0,a1,a2,_)=>(a0,a1,a2),fun (a0,a1,a2)=>(a0,a1,a2,()),[.ag [.v,.v,.v,.mu,.mu],.v],[.v,.o,.o],[.k,.own .d .iJson,.own .d .str],[.tmp 4],[.rt 1,.rt 2],[],[],[]⟩
def by_.F (n:Nat):Pat.Ts by_.d.ps→Option (Int × (List aa_) × (List Bs)):=fun (a0,a1,_)=>by_ n (aa_.of a0) a1
def bj_.d:FD (Int × (List aa_) × (List Bs)):=⟨21,10,3,[.ag (aF_.q1 .d),.i .i64],[.i .i64,.sl .d .iJson,.sl .d .str],fun (a0,a1,a2,_)=>(a0,a1,a2),fun (a0,a1,a2)=>(a0,a1,a2,()),[.ag [.v,.v,.v,.mu,.mu,.v,.v,.v],.v],[.v,.o,.o],[.k,.own .d .iJson,.own .d .str],[.tmp 4],[.rt 1,.rt 2],[],[],[]⟩
def bj_.F (n:Nat):Pat.Ts bj_.d.ps→Option (Int × (List aa_) × (List Bs)):=fun (a0,a1,_)=>bj_ n (aF_.of a0) a1
def aP_.p3:OD:=⟨[(0,.own .d .iOp),(1,.k),(5,.k)],[.rt 1,.i .i64,.i .i64],[.ext,.arr .d .iOp 2]⟩
def aP_.o0:OD:=⟨[(1,.k)],[.i .i64],[.ext,.arr .d .iOp 2]⟩
def aP_.d:FD (Int × (List TOp)):=⟨54,68,2,[.sl .d .iOp,.i .i64],[.i .i64,.sl .d .iOp],fun (a0,a1,_)=>(a0,a1),fun (a0,a1)=>(a0,a1,()),[.mu,.v],[.v,.o],[.k,.own .d .iOp],[.tmp 4],[.rt 1],[(3,aP_.p3)],[],[(0,aP_.o0)]⟩
def aP_.F (n:Nat):Pat.Ts aP_.d.ps→Option (Int × (List TOp)):=fun (a0,a1,_)=>aP_ n a0 a1
def bw_.d:FD (Int × (List aa_) × (List Bs) × (List TOp)):=⟨12,14,4,[.ag (be_.p .d),.i .i64],[.i .i64,.sl .d .iJson,.sl .d .str,.sl .d .iOp],fun (a0,a1,a2,a3,_)=>(a0,a1,a2,a3),fun (a0,a1,a2,a3)=>(a0,a1,a2,a3,()),[.ag [.v,.v,.v,.v,.v,.v,.mu,.mu,.mu],.v],[.v,.o,.o,.o],[.k,.own .d .iJson,.own .d .str,.own .d .iOp],[.tmp 4],[.rt 1,.rt 2,.rt 3],[],[],[]⟩
def bw_.F (n:Nat):Pat.Ts bw_.d.ps→Option (Int × (List aa_) × (List Bs) × (List TOp)):=fun (a0,a1,_)=>bw_ n (be_.of a0) a1
def ao_.p3:OD:=⟨[(0,.view .str),(1,.k),(5,.k)],[.sl .v .str,.i .i64,.i .i64],[.ext]⟩
def ao_.o0:OD:=⟨[(1,.k)],[.i .i64],[.ext]⟩
def ao_.d:FD Int:=⟨74,22,1,[.sl .v .str,.i .i64],[.i .i64],fun (a0,_)=>a0,fun r=>(r,()),[.v,.v],[.v],[.k],[.tmp 4],[],[(3,ao_.p3)],[],[(0,ao_.o0)]⟩
def ao_.F (n:Nat):Pat.Ts ao_.d.ps→Option Int:=fun (a0,a1,_)=>ao_ n a0 a1
def aq_.p3:OD:=⟨[(0,.view .iJson),(1,.k),(5,.k)],[.sl .v .iJson,.i .i64,.i .i64],[.ext]⟩
def aq_.o0:OD:=⟨[(1,.k)],[.i .i64],[.ext]⟩
def aq_.d:FD Int:=⟨73,59,1,[.sl .v .iJson,.i .i64],[.i .i64],fun (a0,_)=>a0,fun r=>(r,()),[.v,.v],[.v],[.k],[.tmp 4],[],[(3,aq_.p3)],[],[(0,aq_.o0)]⟩
def aq_.F (n:Nat):Pat.Ts aq_.d.ps→Option Int:=fun (a0,a1,_)=>aq_ n a0 a1
def bG_.d:FD Int:=⟨55,18,1,[.ag (aa_.p .v),.i .i64],[.i .i64],fun (a0,_)=>a0,fun r=>(r,()),[.ag [.v,.v,.v,.v,.v],.v],[.v],[.k],[.tmp 4],[],[],[],[]⟩
def bG_.F (n:Nat):Pat.Ts bG_.d.ps→Option Int:=fun (a0,a1,_)=>bG_ n (aa_.of a0) a1
def bk_.d:FD Int:=⟨22,12,1,[.ag (aF_.q1 .v),.i .i64],[.i .i64],fun (a0,_)=>a0,fun r=>(r,()),[.ag [.v,.v,.v,.v,.v,.v,.v,.v],.v],[.v],[.k],[.tmp 4],[],[],[],[]⟩
def bk_.F (n:Nat):Pat.Ts bk_.d.ps→Option Int:=fun (a0,a1,_)=>bk_ n (aF_.of a0) a1
def laws_FnExactClientTake.d:FD Bool:=⟨4,92,1,[.ag (aF_.p .v),.ag (be_.q1 .v)],[.b],fun (a0,_)=>a0,fun r=>(r,()),[.ag [.v,.v,.v,.v,.v,.v,.v,.v],.ag [.v,.v,.v,.v,.v,.v,.v,.v,.v]],[.v],[.k],[.tmp 4],[],[],[],[]⟩
def laws_FnExactClientTake.F (n:Nat):Pat.Ts laws_FnExactClientTake.d.ps→Option Bool:=fun (a0,a1,_)=>laws_FnExactClientTake n (aF_.of a0) (be_.of a1)
def KL (n:Nat):List (Nat × Hd):=[
 (4,⟨fun _=>laws_FnExactClientTake.d.K (laws_FnExactClientTake.F n)⟩),
 (11,⟨fun _=>bR_.d.K (bR_.F n)⟩),
 (12,⟨fun _=>bw_.d.K (bw_.F n)⟩),
 (14,⟨fun _=>bF_.d.K (bF_.F n)⟩),
 (15,⟨fun _=>bQ_.d.K (bQ_.F n)⟩),
 (16,⟨fun _=>bo_.d.K (bo_.F n)⟩),
 (17,⟨fun _=>bu_.d.K (bu_.F n)⟩),
 (18,⟨fun _=>bC_.d.K (bC_.F n)⟩),
 (19,⟨fun _=>bl_.d.K (bl_.F n)⟩),
 (20,⟨fun _=>bv_.d.K (bv_.F n)⟩),
 (21,⟨fun _=>bj_.d.K (bj_.F n)⟩),
 (22,⟨fun _=>bk_.d.K (bk_.F n)⟩),
 (35,⟨fun _=>aw_.d.K (aw_.F n)⟩),
 (37,⟨fun _=>az_.d.K (az_.F n)⟩),
 (39,⟨fun _=>aC_.d.K (aC_.F n)⟩),
 (40,⟨fun _=>al_.d.K (al_.F n)⟩),
 (51,⟨fun _=>br_.d.K (br_.F n)⟩),
 (52,⟨fun _=>a3_.d.K (a3_.F n)⟩),
 (53,⟨fun _=>by_.d.K (by_.F n)⟩),
 (54,⟨fun _=>aP_.d.K (aP_.F n)⟩),
 (55,⟨fun _=>bG_.d.K (bG_.F n)⟩),
 (57,⟨fun _=>bi_.d.K (bi_.F n)⟩),
 (58,⟨fun _=>a0_.d.K (a0_.F n)⟩),
 (59,⟨fun _=>bO_.d.K (bO_.F n)⟩),
 (60,⟨fun _=>bP_.d.K (bP_.F n)⟩),
 (61,⟨fun _=>aA_.d.K (aA_.F n)⟩),
 (62,⟨fun _=>aI_.d.K (aI_.F n)⟩),
 (63,⟨fun _=>bn_.d.K (bn_.F n)⟩),
 (64,⟨fun _=>a2_.d.K (a2_.F n)⟩),
 (65,⟨fun _=>bp_.d.K (bp_.F n)⟩),
 (66,⟨fun _=>bU_.d.K (bU_.F n)⟩),
 (67,⟨fun _=>ak_.d.K (ak_.F n)⟩),
 (68,⟨fun _=>aH_.d.K (aH_.F n)⟩),
 (69,⟨fun _=>aB_.d.K (aB_.F n)⟩),
 (70,⟨fun _=>ap_.d.K (ap_.F n)⟩),
 (73,⟨fun _=>aq_.d.K (aq_.F n)⟩),
 (74,⟨fun _=>ao_.d.K (ao_.F n)⟩),
 (76,⟨fun _=>aD_.d.K (aD_.F n)⟩),
 (78,⟨fun _=>bW_.d.K (bW_.F n)⟩),
 (80,⟨fun _=>bN_.d.K (bN_.F n)⟩),
 (83,⟨fun _=>b6_.d.K (b6_.F n)⟩),
 (84,⟨fun _=>aU_.d.K (aU_.F n)⟩),
 (87,⟨fun _=>ca_.d.K (ca_.F n)⟩),
 (92,⟨fun _=>b2_.d.K (b2_.F n)⟩),
 (93,⟨fun _=>aN_.d.K (aN_.F n)⟩),
 (94,⟨fun _=>aQ_.d.K (aQ_.F n)⟩),
 (95,⟨fun _=>cu_.d.K (cu_.F n)⟩),
 (96,⟨fun _=>aJ_.d.K (aJ_.F n)⟩),
 (97,⟨fun _=>ct_.d.K (ct_.F n)⟩),
 (98,⟨fun _=>cb_.d.K (cb_.F n)⟩),
 (99,⟨fun _=>ae_.d.K (ae_.F n)⟩),
 (100,⟨fun _=>bD_.d.K (bD_.F n)⟩),
 (101,⟨fun _=>ch_.d.K (ch_.F n)⟩),
 (102,⟨fun _=>aK_.d.K (aK_.F n)⟩),
 (103,⟨fun _=>cs_.d.K (cs_.F n)⟩),
 (104,⟨fun _=>bs_.d.K (bs_.F n)⟩),
 (105,⟨fun _=>aE_.d.K (aE_.F n)⟩),
 (106,⟨fun _=>bX_.d.K (bX_.F n)⟩),
 (107,⟨fun _=>bx_.d.K (bx_.F n)⟩),
 (108,⟨fun _=>bq_.d.K (bq_.F n)⟩),
 (109,⟨fun _=>bE_.d.K (bE_.F n)⟩),
 (110,⟨fun _=>ck_.d.K (ck_.F n)⟩),
 (116,⟨fun _=>av_.d.K (av_.F n)⟩),
 (117,⟨fun _=>bd_.d.K (bd_.F n)⟩),
 (118,⟨fun _=>bb_.d.K (bb_.F n)⟩),
 (119,⟨fun _=>am_.d.K (am_.F n)⟩),
 (120,⟨fun _=>a1_.d.K (a1_.F n)⟩),
 (128,⟨fun _=>strconv_Itoa.d.K (strconv_Itoa.F n)⟩),
 (129,⟨fun _=>aG_.d.K (aG_.F n)⟩),
 (130,⟨fun _=>b7_.d.K (b7_.F n)⟩),
 (131,⟨fun _=>ax_.d.K (ax_.F n)⟩),
 (132,⟨fun _=>bB_.d.K (bB_.F n)⟩),
 (133,⟨fun _=>aO_.d.K (aO_.F n)⟩),
 (134,⟨fun _=>bc_.d.K (bc_.F n)⟩),
 (135,⟨fun _=>bt_.d.K (bt_.F n)⟩),
 (140,⟨fun _=>aL_.d.K (aL_.F n)⟩),
 (141,⟨fun _=>aT_.d.K (aT_.F n)⟩),
 (156,⟨fun _=>ag_.d.K (ag_.F n)⟩),
 (157,⟨fun _=>bS_.d.K (bS_.F n)⟩),
 (160,⟨fun _=>aW_.d.K (aW_.F n)⟩),
 (161,⟨fun _=>strings_Join.d.K (strings_Join.F n)⟩),
 (162,⟨fun _=>aR_.d.K (aR_.F n)⟩),
 (163,⟨fun _=>b1_.d.K (b1_.F n)⟩),
 (164,⟨fun _=>ad_.d.K (ad_.F n)⟩),
 (165,⟨fun _=>bM_.d.K (bM_.F n)⟩),
 (166,⟨fun _=>ba_.d.K (ba_.F n)⟩),
 (167,⟨fun _=>cq_.d.K (cq_.F n)⟩),
 (168,⟨fun _=>cj_.d.K (cj_.F n)⟩),
 (169,⟨fun _=>an_.d.K (an_.F n)⟩),
 (170,⟨fun _=>ci_.d.K (ci_.F n)⟩),
 (171,⟨fun _=>bT_.d.K (bT_.F n)⟩),
 (172,⟨fun _=>bJ_.d.K (bJ_.F n)⟩),
 (173,⟨fun _=>bz_.d.K (bz_.F n)⟩),
 (181,⟨fun _=>strings_ReplaceAll.d.K (strings_ReplaceAll.F n)⟩),
 (182,⟨fun _=>bY_.d.K (bY_.F n)⟩),
 (187,⟨fun _=>cg_.d.K (cg_.F n)⟩),
 (188,⟨fun _=>aM_.d.K (aM_.F n)⟩),
 (189,⟨fun _=>aY_.d.K (aY_.F n)⟩),
 (190,⟨fun _=>aj_.d.K (aj_.F n)⟩),
 (191,⟨fun _=>ac_.d.K (ac_.F n)⟩),
 (192,⟨fun _=>a5_.d.K (a5_.F n)⟩),
 (193,⟨fun _=>a8_.d.K (a8_.F n)⟩),
 (194,⟨fun _=>bK_.d.K (bK_.F n)⟩),
 (195,⟨fun _=>bf_.d.K (bf_.F n)⟩),
 (196,⟨fun _=>a6_.d.K (a6_.F n)⟩),
 (201,⟨fun _=>ah_.d.K (ah_.F n)⟩),
 (202,⟨fun _=>ab_.d.K (ab_.F n)⟩),
 (209,⟨fun _=>bg_.d.K (bg_.F n)⟩),
 (210,⟨fun _=>aV_.d.K (aV_.F n)⟩),
 (225,⟨fun _=>a7_.d.K (a7_.F n)⟩)]
def sigL:List (Nat × List PS):=[
 (4,laws_FnExactClientTake.d.sig),
 (11,bR_.d.sig),
 (12,bw_.d.sig),
 (14,bF_.d.sig),
 (15,bQ_.d.sig),
 (16,bo_.d.sig),
 (17,bu_.d.sig),
 (18,bC_.d.sig),
 (19,bl_.d.sig),
 (20,bv_.d.sig),
 (21,bj_.d.sig),
 (22,bk_.d.sig),
 (35,aw_.d.sig),
 (37,az_.d.sig),
 (39,aC_.d.sig),
 (40,al_.d.sig),
 (51,br_.d.sig),
 (52,a3_.d.sig),
 (53,by_.d.sig),
 (54,aP_.d.sig),
 (55,bG_.d.sig),
 (57,bi_.d.sig),
 (58,a0_.d.sig),
 (59,bO_.d.sig),
 (60,bP_.d.sig),
 (61,aA_.d.sig),
 (62,aI_.d.sig),
 (63,bn_.d.sig),
 (64,a2_.d.sig),
 (65,bp_.d.sig),
 (66,bU_.d.sig),
 (67,ak_.d.sig),
 (68,aH_.d.sig),
 (69,aB_.d.sig),
 (70,ap_.d.sig),
 (73,aq_.d.sig),
 (74,ao_.d.sig),
 (76,aD_.d.sig),
 (78,bW_.d.sig),
 (80,bN_.d.sig),
 (83,b6_.d.sig),
 (84,aU_.d.sig),
 (87,ca_.d.sig),
 (92,b2_.d.sig),
 (93,aN_.d.sig),
 (94,aQ_.d.sig),
 (95,cu_.d.sig),
 (96,aJ_.d.sig),
 (97,ct_.d.sig),
 (98,cb_.d.sig),
 (99,ae_.d.sig),
 (100,bD_.d.sig),
 (101,ch_.d.sig),
 (102,aK_.d.sig),
 (103,cs_.d.sig),
 (104,bs_.d.sig),
 (105,aE_.d.sig),
 (106,bX_.d.sig),
 (107,bx_.d.sig),
 (108,bq_.d.sig),
 (109,bE_.d.sig),
 (110,ck_.d.sig),
 (116,av_.d.sig),
 (117,bd_.d.sig),
 (118,bb_.d.sig),
 (119,am_.d.sig),
 (120,a1_.d.sig),
 (128,strconv_Itoa.d.sig),
 (129,aG_.d.sig),
 (130,b7_.d.sig),
 (131,ax_.d.sig),
 (132,bB_.d.sig),
 (133,aO_.d.sig),
 (134,bc_.d.sig),
 (135,bt_.d.sig),
 (140,aL_.d.sig),
 (141,aT_.d.sig),
 (156,ag_.d.sig),
 (157,bS_.d.sig),
 (160,aW_.d.sig),
 (161,strings_Join.d.sig),
 (162,aR_.d.sig),
 (163,b1_.d.sig),
 (164,ad_.d.sig),
 (165,bM_.d.sig),
 (166,ba_.d.sig),
 (167,cq_.d.sig),
 (168,cj_.d.sig),
 (169,an_.d.sig),
 (170,ci_.d.sig),
 (171,bT_.d.sig),
 (172,bJ_.d.sig),
 (173,bz_.d.sig),
 (181,strings_ReplaceAll.d.sig),
 (182,bY_.d.sig),
 (187,cg_.d.sig),
 (188,aM_.d.sig),
 (189,aY_.d.sig),
 (190,aj_.d.sig),
 (191,ac_.d.sig),
 (192,a5_.d.sig),
 (193,a8_.d.sig),
 (194,bK_.d.sig),
 (195,bf_.d.sig),
 (196,a6_.d.sig),
 (201,ah_.d.sig),
 (202,ab_.d.sig),
 (209,bg_.d.sig),
 (210,aV_.d.sig),
 (225,a7_.d.sig)]
def fzL:List Nat:=[16,62,83,84,101,120,132,166,187]
def cx (n nt:Nat):Cx:=⟨nt,tt,fun f=>fk_ sigL f,KH (KL n),fun f=>fzL.any (Nat.beq f)⟩
end Go.Pi
end
section
namespace Go.Pi
open Go.Proofs
noncomputable def aJ_.fs (n:Nat):aJ_.d.Fs:=(fun _ κe=>aJ_.loop7 n (bi_ n) (aJ_.o0.k (κe 0)) n,())
theorem aJ_.r7 (n:Nat):aJ_.d.Round (aJ_.fs n) (cx n aJ_.d.nt) (cm_ Tryz.f96) 7 aJ_.p7 (fun κe=>aJ_.step7 n (bi_ n) (aJ_.o0.k (κe 0))):=fun κ κe x y=>by kernel_rfl
theorem aJ_.ok (n:Nat):CxOk E (cx n aJ_.d.nt)→KPar (cx n aJ_.d.nt)→aJ_.d.Ok E (aJ_.F (n+1)) :=
 FD.ok (fs:=aJ_.fs n) aX_ Tryz.func96 (by kernel_rfl) (by kernel_rfl) (by kernel_rfl) (by kernel_rfl) (fun _=>by kernel_rfl) (by kernel_rfl) (fun x=>by kernel_rfl) (.cons (FD.lp n (aJ_.r7 n) (by kernel_rfl) fun _ _=>by kernel_rfl) (.nil))
noncomputable def aw_.fs (n:Nat):aw_.d.Fs:=(fun _ κe=>aw_.loop7 n (aw_.o0.k (κe 0)) n,())
theorem aw_.r7 (n:Nat):aw_.d.Round (aw_.fs n) (cx n aw_.d.nt) (cm_ Tryz.f35) 7 aw_.p7 (fun κe=>aw_.step7 n (aw_.o0.k (κe 0))):=fun κ κe x y=>by kernel_rfl
theorem aw_.ok (n:Nat):CxOk E (cx n aw_.d.nt)→KPar (cx n aw_.d.nt)→aw_.d.Ok E (aw_.F (n+1)) :=
 FD.ok (fs:=aw_.fs n) aX_ Tryz.func35 (by kernel_rfl) (by kernel_rfl) (by kernel_rfl) (by kernel_rfl) (fun _=>by kernel_rfl) (by kernel_rfl) (fun x=>by kernel_rfl) (.cons (FD.lp n (aw_.r7 n) (by kernel_rfl) fun _ _=>by kernel_rfl) (.nil))
noncomputable def bi_.fs (n:Nat):bi_.d.Fs:=()
theorem bi_.ok (n:Nat):CxOk E (cx n bi_.d.nt)→KPar (cx n bi_.d.nt)→bi_.d.Ok E (bi_.F (n+1)) :=
 FD.ok (fs:=bi_.fs n) aX_ Tryz.func57 (by kernel_rfl) (by kernel_rfl) (by kernel_rfl) (by kernel_rfl) (fun _=>by kernel_rfl) (by kernel_rfl) (fun x=>by kernel_rfl) (.nil)
noncomputable def bF_.fs (n:Nat):bF_.d.Fs:=()
theorem bF_.ok (n:Nat):CxOk E (cx n bF_.d.nt)→KPar (cx n bF_.d.nt)→bF_.d.Ok E (bF_.F (n+1)) :=
 FD.ok (fs:=bF_.fs n) aX_ Tryz.func14 (by kernel_rfl) (by kernel_rfl) (by kernel_rfl) (by kernel_rfl) (fun _=>by kernel_rfl) (by kernel_rfl) (fun x=>by kernel_rfl) (.nil)
noncomputable def ct_.fs (n:Nat):ct_.d.Fs:=()
theorem ct_.ok (n:Nat):CxOk E (cx n ct_.d.nt)→KPar (cx n ct_.d.nt)→ct_.d.Ok E (ct_.F (n+1)) :=
 FD.ok (fs:=ct_.fs n) aX_ Tryz.func97 (by kernel_rfl) (by kernel_rfl) (by kernel_rfl) (by kernel_rfl) (fun _=>by kernel_rfl) (by kernel_rfl) (fun x=>by kernel_rfl) (.nil)
noncomputable def a0_.fs (n:Nat):a0_.d.Fs:=(fun _ κe=>a0_.loop7 n (a0_.o0.k (κe 0)) n,())
theorem a0_.r7 (n:Nat):a0_.d.Round (a0_.fs n) (cx n a0_.d.nt) (cm_ Tryz.f58) 7 a0_.p7 (fun κe=>a0_.step7 n (a0_.o0.k (κe 0))):=fun κ κe x y=>by kernel_rfl
theorem a0_.ok (n:Nat):CxOk E (cx n a0_.d.nt)→KPar (cx n a0_.d.nt)→a0_.d.Ok E (a0_.F (n+1)) :=
 FD.ok (fs:=a0_.fs n) aX_ Tryz.func58 (by kernel_rfl) (by kernel_rfl) (by kernel_rfl) (by kernel_rfl) (fun _=>by kernel_rfl) (by kernel_rfl) (fun x=>by kernel_rfl) (.cons (FD.lp n (a0_.r7 n) (by kernel_rfl) fun _ _=>by kernel_rfl) (.nil))
noncomputable def bQ_.fs (n:Nat):bQ_.d.Fs:=()
theorem bQ_.ok (n:Nat):CxOk E (cx n bQ_.d.nt)→KPar (cx n bQ_.d.nt)→bQ_.d.Ok E (bQ_.F (n+1)) :=
 FD.ok (fs:=bQ_.fs n) aX_ Tryz.func15 (by kernel_rfl) (by kernel_rfl) (by kernel_rfl) (by kernel_rfl) (fun _=>by kernel_rfl) (by kernel_rfl) (fun x=>by kernel_rfl) (.nil)
noncomputable def aK_.fs (n:Nat):aK_.d.Fs:=(fun _ κe=>aK_.loop4 n (bn_ n) (aK_.o0.k (κe 0)) n,())
theorem aK_.r4 (n:Nat):aK_.d.Round (aK_.fs n) (cx n aK_.d.nt) (cm_ Tryz.f102) 4 aK_.p4 (fun κe=>aK_.step4 n (bn_ n) (aK_.o0.k (κe 0))):=fun κ κe x y=>by kernel_rfl
theorem aK_.ok (n:Nat):CxOk E (cx n aK_.d.nt)→KPar (cx n aK_.d.nt)→aK_.d.Ok E (aK_.F (n+1)) :=
 FD.ok (fs:=aK_.fs n) aX_ Tryz.func102 (by kernel_rfl) (by kernel_rfl) (by kernel_rfl) (by kernel_rfl) (fun _=>by kernel_rfl) (by kernel_rfl) (fun x=>by kernel_rfl) (.cons (FD.lp n (aK_.r4 n) (by kernel_rfl) fun _ _=>by kernel_rfl) (.nil))
noncomputable def az_.fs (n:Nat):az_.d.Fs:=(fun _ κe=>az_.loop4 n (az_.o0.k (κe 0)) n,())
theorem az_.r4 (n:Nat):az_.d.Round (az_.fs n) (cx n az_.d.nt) (cm_ Tryz.f37) 4 az_.p4 (fun κe=>az_.step4 n (az_.o0.k (κe 0))):=fun κ κe x y=>by kernel_rfl
theorem az_.ok (n:Nat):CxOk E (cx n az_.d.nt)→KPar (cx n az_.d.nt)→az_.d.Ok E (az_.F (n+1)) :=
 FD.ok (fs:=az_.fs n) aX_ Tryz.func37 (by kernel_rfl) (by kernel_rfl) (by kernel_rfl) (by kernel_rfl) (fun _=>by kernel_rfl) (by kernel_rfl) (fun x=>by kernel_rfl) (.cons (FD.lp n (az_.r4 n) (by kernel_rfl) fun _ _=>by kernel_rfl) (.nil))
noncomputable def bn_.fs (n:Nat):bn_.d.Fs:=()
theorem bn_.ok (n:Nat):CxOk E (cx n bn_.d.nt)→KPar (cx n bn_.d.nt)→bn_.d.Ok E (bn_.F (n+1)) :=
 FD.ok (fs:=bn_.fs n) aX_ Tryz.func63 (by kernel_rfl) (by kernel_rfl) (by kernel_rfl) (by kernel_rfl) (fun _=>by kernel_rfl) (by kernel_rfl) (fun x=>by kernel_rfl) (.nil)
noncomputable def bu_.fs (n:Nat):bu_.d.Fs:=()
theorem bu_.ok (n:Nat):CxOk E (cx n bu_.d.nt)→KPar (cx n bu_.d.nt)→bu_.d.Ok E (bu_.F (n+1)) :=
 FD.ok (fs:=bu_.fs n) aX_ Tryz.func17 (by kernel_rfl) (by kernel_rfl) (by kernel_rfl) (by kernel_rfl) (fun _=>by kernel_rfl) (by kernel_rfl) (fun x=>by kernel_rfl) (.nil)
noncomputable def cs_.fs (n:Nat):cs_.d.Fs:=()
theorem cs_.ok (n:Nat):CxOk E (cx n cs_.d.nt)→KPar (cx n cs_.d.nt)→cs_.d.Ok E (cs_.F (n+1)) :=
 FD.ok (fs:=cs_.fs n) aX_ Tryz.func103 (by kernel_rfl) (by kernel_rfl) (by kernel_rfl) (by kernel_rfl) (fun _=>by kernel_rfl) (by kernel_rfl) (fun x=>by kernel_rfl) (.nil)
noncomputable def a2_.fs (n:Nat):a2_.d.Fs:=(fun _ κe=>a2_.loop4 n (a2_.o0.k (κe 0)) n,())
theorem a2_.r4 (n:Nat):a2_.d.Round (a2_.fs n) (cx n a2_.d.nt) (cm_ Tryz.f64) 4 a2_.p4 (fun κe=>a2_.step4 n (a2_.o0.k (κe 0))):=fun κ κe x y=>by kernel_rfl
theorem a2_.ok (n:Nat):CxOk E (cx n a2_.d.nt)→KPar (cx n a2_.d.nt)→a2_.d.Ok E (a2_.F (n+1)) :=
 FD.ok (fs:=a2_.fs n) aX_ Tryz.func64 (by kernel_rfl) (by kernel_rfl) (by kernel_rfl) (by kernel_rfl) (fun _=>by kernel_rfl) (by kernel_rfl) (fun x=>by kernel_rfl) (.cons (FD.lp n (a2_.r4 n) (by kernel_rfl) fun _ _=>by kernel_rfl) (.nil))
noncomputable def bC_.fs (n:Nat):bC_.d.Fs:=()
theorem bC_.ok (n:Nat):CxOk E (cx n bC_.d.nt)→KPar (cx n bC_.d.nt)→bC_.d.Ok E (bC_.F (n+1)) :=
 FD.ok (fs:=bC_.fs n) aX_ Tryz.func18 (by kernel_rfl) (by kernel_rfl) (by kernel_rfl) (by kernel_rfl) (fun _=>by kernel_rfl) (by kernel_rfl) (fun x=>by kernel_rfl) (.nil)
noncomputable def aA_.fs (n:Nat):aA_.d.Fs:=(fun _ κe=>aA_.loop4 n (aA_ n) (aA_.o0.k (κe 0)) n,())
theorem aA_.r4 (n:Nat):aA_.d.Round (aA_.fs n) (cx n aA_.d.nt) (cm_ Tryz.f61) 4 aA_.p4 (fun κe=>aA_.step4 n (aA_ n) (aA_.o0.k (κe 0))):=fun κ κe x y=>by kernel_rfl
theorem aA_.ok (n:Nat):CxOk E (cx n aA_.d.nt)→KPar (cx n aA_.d.nt)→aA_.d.Ok E (aA_.F (n+1)) :=
 FD.ok (fs:=aA_.fs n) aX_ Tryz.func61 (by kernel_rfl) (by kernel_rfl) (by kernel_rfl) (by kernel_rfl) (fun _=>by kernel_rfl) (by kernel_rfl) (fun x=>by kernel_rfl) (.cons (FD.lp n (aA_.r4 n) (by kernel_rfl) fun _ _=>by kernel_rfl) (.nil))
noncomputable def bO_.fs (n:Nat):bO_.d.Fs:=()
theorem bO_.ok (n:Nat):CxOk E (cx n bO_.d.nt)→KPar (cx n bO_.d.nt)→bO_.d.Ok E (bO_.F (n+1)) :=
 FD.ok (fs:=bO_.fs n) aX_ Tryz.func59 (by kernel_rfl) (by kernel_rfl) (by kernel_rfl) (by kernel_rfl) (fun _=>by kernel_rfl) (by kernel_rfl) (fun x=>by kernel_rfl) (.nil)
noncomputable def cb_.fs (n:Nat):cb_.d.Fs:=()
theorem cb_.ok (n:Nat):CxOk E (cx n cb_.d.nt)→KPar (cx n cb_.d.nt)→cb_.d.Ok E (cb_.F (n+1)) :=
 FD.ok (fs:=cb_.fs n) aX_ Tryz.func98 (by kernel_rfl) (by kernel_rfl) (by kernel_rfl) (by kernel_rfl) (fun _=>by kernel_rfl) (by kernel_rfl) (fun x=>by kernel_rfl) (.nil)
noncomputable def aT_.fs (n:Nat):aT_.d.Fs:=(fun _ κe=>aT_.loop3 n (aT_.o0.k (κe 0)) n,())
theorem aT_.r3 (n:Nat):aT_.d.Round (aT_.fs n) (cx n aT_.d.nt) (cm_ Tryz.f141) 3 aT_.p3 (fun κe=>aT_.step3 n (aT_.o0.k (κe 0))):=fun κ κe x y=>by kernel_rfl
theorem aT_.ok (n:Nat):CxOk E (cx n aT_.d.nt)→KPar (cx n aT_.d.nt)→aT_.d.Ok E (aT_.F (n+1)) :=
 FD.ok (fs:=aT_.fs n) aX_ Tryz.func141 (by kernel_rfl) (by kernel_rfl) (by kernel_rfl) (by kernel_rfl) (fun _=>by kernel_rfl) (by kernel_rfl) (fun x=>by kernel_rfl) (.cons (FD.lp n (aT_.r3 n) (by kernel_rfl) fun _ _=>by kernel_rfl) (.nil))
noncomputable def ad_.fs (n:Nat):ad_.d.Fs:=(fun _ κe=>ad_.loop6 n (ad_.o0.k (κe 0)) n,())
theorem ad_.r6 (n:Nat):ad_.d.Round (ad_.fs n) (cx n ad_.d.nt) (cm_ Tryz.f164) 6 ad_.p6 (fun κe=>ad_.step6 n (ad_.o0.k (κe 0))):=fun κ κe x y=>by kernel_rfl
theorem ad_.ok (n:Nat):CxOk E (cx n ad_.d.nt)→KPar (cx n ad_.d.nt)→ad_.d.Ok E (ad_.F (n+1)) :=
 FD.ok (fs:=ad_.fs n) aX_ Tryz.func164 (by kernel_rfl) (by kernel_rfl) (by kernel_rfl) (by kernel_rfl) (fun _=>by kernel_rfl) (by kernel_rfl) (fun x=>by kernel_rfl) (.cons (FD.lp n (ad_.r6 n) (by kernel_rfl) fun _ _=>by kernel_rfl) (.nil))
noncomputable def ax_.fs (n:Nat):ax_.d.Fs:=(fun _ κe=>ax_.loop23 n (ax_ n) (ax_.o1.k (κe 1)) n,())
theorem ax_.r23 (n:Nat):ax_.d.Round (ax_.fs n) (cx n ax_.d.nt) (cm_ Tryz.f131) 23 ax_.p23 (fun κe=>ax_.step23 n (ax_ n) (ax_.o1.k (κe 1))):=fun κ κe x y=>by kernel_rfl
theorem ax_.ok (n:Nat):CxOk E (cx n ax_.d.nt)→KPar (cx n ax_.d.nt)→ax_.d.Ok E (ax_.F (n+1)) :=
 FD.ok (fs:=ax_.fs n) aX_ Tryz.func131 (by kernel_rfl) (by kernel_rfl) (by kernel_rfl) (by kernel_rfl) (fun _=>by kernel_rfl) (by kernel_rfl) (fun x=>by kernel_rfl) (.cons (FD.lp n (ax_.r23 n) (by kernel_rfl) fun _ _=>by kernel_rfl) (.nil))
noncomputable def bD_.fs (n:Nat):bD_.d.Fs:=()
theorem bD_.ok (n:Nat):CxOk E (cx n bD_.d.nt)→KPar (cx n bD_.d.nt)→bD_.d.Ok E (bD_.F (n+1)) :=
 FD.ok (fs:=bD_.fs n) aX_ Tryz.func100 (by kernel_rfl) (by kernel_rfl) (by kernel_rfl) (by kernel_rfl) (fun _=>by kernel_rfl) (by kernel_rfl) (fun x=>by kernel_rfl) (.nil)
noncomputable def aD_.fs (n:Nat):aD_.d.Fs:=(fun _ κe=>aD_.loop7 n (aD_.o0.k (κe 0)) n,())
theorem aD_.r7 (n:Nat):aD_.d.Round (aD_.fs n) (cx n aD_.d.nt) (cm_ Tryz.f76) 7 aD_.p7 (fun κe=>aD_.step7 n (aD_.o0.k (κe 0))):=fun κ κe x y=>by kernel_rfl
theorem aD_.ok (n:Nat):CxOk E (cx n aD_.d.nt)→KPar (cx n aD_.d.nt)→aD_.d.Ok E (aD_.F (n+1)) :=
 FD.ok (fs:=aD_.fs n) aX_ Tryz.func76 (by kernel_rfl) (by kernel_rfl) (by kernel_rfl) (by kernel_rfl) (fun _=>by kernel_rfl) (by kernel_rfl) (fun x=>by kernel_rfl) (.cons (FD.lp n (aD_.r7 n) (by kernel_rfl) fun _ _=>by kernel_rfl) (.nil))
noncomputable def aL_.fs (n:Nat):aL_.d.Fs:=(fun _ κe=>aL_.loop4 n (aL_.o0.k (κe 0)) n,())
theorem aL_.r4 (n:Nat):aL_.d.Round (aL_.fs n) (cx n aL_.d.nt) (cm_ Tryz.f140) 4 aL_.p4 (fun κe=>aL_.step4 n (aL_.o0.k (κe 0))):=fun κ κe x y=>by kernel_rfl
theorem aL_.ok (n:Nat):CxOk E (cx n aL_.d.nt)→KPar (cx n aL_.d.nt)→aL_.d.Ok E (aL_.F (n+1)) :=
 FD.ok (fs:=aL_.fs n) aX_ Tryz.func140 (by kernel_rfl) (by kernel_rfl) (by kernel_rfl) (by kernel_rfl) (fun _=>by kernel_rfl) (by kernel_rfl) (fun x=>by kernel_rfl) (.cons (FD.lp n (aL_.r4 n) (by kernel_rfl) fun _ _=>by kernel_rfl) (.nil))
noncomputable def av_.fs (n:Nat):av_.d.Fs:=(fun _ κe=>av_.loop17 n (av_ n) (av_.o1.k (κe 1)) n,())
theorem av_.r17 (n:Nat):av_.d.Round (av_.fs n) (cx n av_.d.nt) (cm_ Tryz.f116) 17 av_.p17 (fun κe=>av_.step17 n (av_ n) (av_.o1.k (κe 1))):=fun κ κe x y=>by kernel_rfl
theorem av_.ok (n:Nat):CxOk E (cx n av_.d.nt)→KPar (cx n av_.d.nt)→av_.d.Ok E (av_.F (n+1)) :=
 FD.ok (fs:=av_.fs n) aX_ Tryz.func116 (by kernel_rfl) (by kernel_rfl) (by kernel_rfl) (by kernel_rfl) (fun _=>by kernel_rfl) (by kernel_rfl) (fun x=>by kernel_rfl) (.cons (FD.lp n (av_.r17 n) (by kernel_rfl) fun _ _=>by kernel_rfl) (.nil))
noncomputable def bW_.fs (n:Nat):bW_.d.Fs:=()
theorem bW_.ok (n:Nat):CxOk E (cx n bW_.d.nt)→KPar (cx n bW_.d.nt)→bW_.d.Ok E (bW_.F (n+1)) :=
 FD.ok (fs:=bW_.fs n) aX_ Tryz.func78 (by kernel_rfl) (by kernel_rfl) (by kernel_rfl) (by kernel_rfl) (fun _=>by kernel_rfl) (by kernel_rfl) (fun x=>by kernel_rfl) (.nil)
noncomputable def ae_.fs (n:Nat):ae_.d.Fs:=(fun _ κe=>ae_.loop6 n (ae_ n) (ae_.o0.k (κe 0)) n,fun _ κe=>ae_.loop14 n (ae_ n) (ae_.o2.k (κe 2)) n,())
theorem ae_.r14 (n:Nat):ae_.d.Round (ae_.fs n) (cx n ae_.d.nt) (cm_ Tryz.f99) 14 ae_.p14 (fun κe=>ae_.step14 n (ae_ n) (ae_.o2.k (κe 2))):=fun κ κe x y=>by kernel_rfl
theorem ae_.r6 (n:Nat):ae_.d.Round (ae_.fs n) (cx n ae_.d.nt) (cm_ Tryz.f99) 6 ae_.p6 (fun κe=>ae_.step6 n (ae_ n) (ae_.o0.k (κe 0))):=fun κ κe x y=>by kernel_rfl
theorem ae_.ok (n:Nat):CxOk E (cx n ae_.d.nt)→KPar (cx n ae_.d.nt)→ae_.d.Ok E (ae_.F (n+1)) :=
 FD.ok (fs:=ae_.fs n) aX_ Tryz.func99 (by kernel_rfl) (by kernel_rfl) (by kernel_rfl) (by kernel_rfl) (fun _=>by kernel_rfl) (by kernel_rfl) (fun x=>by kernel_rfl) (.cons (FD.lp n (ae_.r6 n) (by kernel_rfl) fun _ _=>by kernel_rfl) (.cons (FD.lp n (ae_.r14 n) (by kernel_rfl) fun _ _=>by kernel_rfl) (.nil)))
noncomputable def bb_.fs (n:Nat):bb_.d.Fs:=(fun _ κe=>bb_.loop6 n (bb_.o0.k (κe 0)) n,())
theorem bb_.r6 (n:Nat):bb_.d.Round (bb_.fs n) (cx n bb_.d.nt) (cm_ Tryz.f118) 6 bb_.p6 (fun κe=>bb_.step6 n (bb_.o0.k (κe 0))):=fun κ κe x y=>by kernel_rfl
theorem bb_.ok (n:Nat):CxOk E (cx n bb_.d.nt)→KPar (cx n bb_.d.nt)→bb_.d.Ok E (bb_.F (n+1)) :=
 FD.ok (fs:=bb_.fs n) aX_ Tryz.func118 (by kernel_rfl) (by kernel_rfl) (by kernel_rfl) (by kernel_rfl) (fun _=>by kernel_rfl) (by kernel_rfl) (fun x=>by kernel_rfl) (.cons (FD.lp n (bb_.r6 n) (by kernel_rfl) fun _ _=>by kernel_rfl) (.nil))
noncomputable def bN_.fs (n:Nat):bN_.d.Fs:=()
theorem bN_.ok (n:Nat):CxOk E (cx n bN_.d.nt)→KPar (cx n bN_.d.nt)→bN_.d.Ok E (bN_.F (n+1)) :=
 FD.ok (fs:=bN_.fs n) aX_ Tryz.func80 (by kernel_rfl) (by kernel_rfl) (by kernel_rfl) (by kernel_rfl) (fun _=>by kernel_rfl) (by kernel_rfl) (fun x=>by kernel_rfl) (.nil)
noncomputable def am_.fs (n:Nat):am_.d.Fs:=(fun _ κe=>am_.loop10 n (am_.o2.k (κe 2)) n,fun _ κe=>am_.loop4 n (am_.o0.k (κe 0)) n,())
theorem am_.r4 (n:Nat):am_.d.Round (am_.fs n) (cx n am_.d.nt) (cm_ Tryz.f119) 4 am_.p4 (fun κe=>am_.step4 n (am_.o0.k (κe 0))):=fun κ κe x y=>by kernel_rfl
theorem am_.r10 (n:Nat):am_.d.Round (am_.fs n) (cx n am_.d.nt) (cm_ Tryz.f119) 10 am_.p10 (fun κe=>am_.step10 n (am_.o2.k (κe 2))):=fun κ κe x y=>by kernel_rfl
theorem am_.ok (n:Nat):CxOk E (cx n am_.d.nt)→KPar (cx n am_.d.nt)→am_.d.Ok E (am_.F (n+1)) :=
 FD.ok (fs:=am_.fs n) aX_ Tryz.func119 (by kernel_rfl) (by kernel_rfl) (by kernel_rfl) (by kernel_rfl) (fun _=>by kernel_rfl) (by kernel_rfl) (fun x=>by kernel_rfl) (.cons (FD.lp n (am_.r10 n) (by kernel_rfl) fun _ _=>by kernel_rfl) (.cons (FD.lp n (am_.r4 n) (by kernel_rfl) fun _ _=>by kernel_rfl) (.nil)))
noncomputable def a1_.fs (n:Nat):a1_.d.Fs:=(fun _ κe=>a1_.loop5 n (a1_.o0.k (κe 0)) n,())
theorem a1_.r5 (n:Nat):a1_.d.Round (a1_.fs n) (cx n a1_.d.nt) (cm_ Tryz.f120) 5 a1_.p5 (fun κe=>a1_.step5 n (a1_.o0.k (κe 0))):=fun κ κe x y=>by kernel_rfl
theorem a1_.ok (n:Nat):CxOk E (cx n a1_.d.nt)→KPar (cx n a1_.d.nt)→a1_.d.Ok E (a1_.F (n+1)) :=
 FD.ok (fs:=a1_.fs n) aX_ Tryz.func120 (by kernel_rfl) (by kernel_rfl) (by kernel_rfl) (by kernel_rfl) (fun _=>by kernel_rfl) (by kernel_rfl) (fun x=>by kernel_rfl) (.cons (FD.lp n (a1_.r5 n) (by kernel_rfl) fun _ _=>by kernel_rfl) (.nil))
noncomputable def b6_.fs (n:Nat):b6_.d.Fs:=()
theorem b6_.ok (n:Nat):CxOk E (cx n b6_.d.nt)→KPar (cx n b6_.d.nt)→b6_.d.Ok E (b6_.F (n+1)) :=
 FD.ok (fs:=b6_.fs n) aX_ Tryz.func83 (by kernel_rfl) (by kernel_rfl) (by kernel_rfl) (by kernel_rfl) (fun _=>by kernel_rfl) (by kernel_rfl) (fun x=>by kernel_rfl) (.nil)
noncomputable def aU_.fs (n:Nat):aU_.d.Fs:=(fun _ κe=>aU_.loop4 n (aU_.o0.k (κe 0)) n,())
theorem aU_.r4 (n:Nat):aU_.d.Round (aU_.fs n) (cx n aU_.d.nt) (cm_ Tryz.f84) 4 aU_.p4 (fun κe=>aU_.step4 n (aU_.o0.k (κe 0))):=fun κ κe x y=>by kernel_rfl
theorem aU_.ok (n:Nat):CxOk E (cx n aU_.d.nt)→KPar (cx n aU_.d.nt)→aU_.d.Ok E (aU_.F (n+1)) :=
 FD.ok (fs:=aU_.fs n) aX_ Tryz.func84 (by kernel_rfl) (by kernel_rfl) (by kernel_rfl) (by kernel_rfl) (fun _=>by kernel_rfl) (by kernel_rfl) (fun x=>by kernel_rfl) (.cons (FD.lp n (aU_.r4 n) (by kernel_rfl) fun _ _=>by kernel_rfl) (.nil))
noncomputable def bP_.fs (n:Nat):bP_.d.Fs:=()
theorem bP_.ok (n:Nat):CxOk E (cx n bP_.d.nt)→KPar (cx n bP_.d.nt)→bP_.d.Ok E (bP_.F (n+1)) :=
 FD.ok (fs:=bP_.fs n) aX_ Tryz.func60 (by kernel_rfl) (by kernel_rfl) (by kernel_rfl) (by kernel_rfl) (fun _=>by kernel_rfl) (by kernel_rfl) (fun x=>by kernel_rfl) (.nil)
noncomputable def bM_.fs (n:Nat):bM_.d.Fs:=()
theorem bM_.ok (n:Nat):CxOk E (cx n bM_.d.nt)→KPar (cx n bM_.d.nt)→bM_.d.Ok E (bM_.F (n+1)) :=
 FD.ok (fs:=bM_.fs n) aX_ Tryz.func165 (by kernel_rfl) (by kernel_rfl) (by kernel_rfl) (by kernel_rfl) (fun _=>by kernel_rfl) (by kernel_rfl) (fun x=>by kernel_rfl) (.nil)
noncomputable def bd_.fs (n:Nat):bd_.d.Fs:=(fun _ κe=>bd_.loop3 n (bd_.o0.k (κe 0)) n,())
theorem bd_.r3 (n:Nat):bd_.d.Round (bd_.fs n) (cx n bd_.d.nt) (cm_ Tryz.f117) 3 bd_.p3 (fun κe=>bd_.step3 n (bd_.o0.k (κe 0))):=fun κ κe x y=>by kernel_rfl
theorem bd_.ok (n:Nat):CxOk E (cx n bd_.d.nt)→KPar (cx n bd_.d.nt)→bd_.d.Ok E (bd_.F (n+1)) :=
 FD.ok (fs:=bd_.fs n) aX_ Tryz.func117 (by kernel_rfl) (by kernel_rfl) (by kernel_rfl) (by kernel_rfl) (fun _=>by kernel_rfl) (by kernel_rfl) (fun x=>by kernel_rfl) (.cons (FD.lp n (bd_.r3 n) (by kernel_rfl) fun _ _=>by kernel_rfl) (.nil))
noncomputable def aM_.fs (n:Nat):aM_.d.Fs:=(fun _ κe=>aM_.loop7 n (aM_.o0.k (κe 0)) n,())
theorem aM_.r7 (n:Nat):aM_.d.Round (aM_.fs n) (cx n aM_.d.nt) (cm_ Tryz.f188) 7 aM_.p7 (fun κe=>aM_.step7 n (aM_.o0.k (κe 0))):=fun κ κe x y=>by kernel_rfl
theorem aM_.ok (n:Nat):CxOk E (cx n aM_.d.nt)→KPar (cx n aM_.d.nt)→aM_.d.Ok E (aM_.F (n+1)) :=
 FD.ok (fs:=aM_.fs n) aX_ Tryz.func188 (by kernel_rfl) (by kernel_rfl) (by kernel_rfl) (by kernel_rfl) (fun _=>by kernel_rfl) (by kernel_rfl) (fun x=>by kernel_rfl) (.cons (FD.lp n (aM_.r7 n) (by kernel_rfl) fun _ _=>by kernel_rfl) (.nil))
noncomputable def cq_.fs (n:Nat):cq_.d.Fs:=()
theorem cq_.ok (n:Nat):CxOk E (cx n cq_.d.nt)→KPar (cx n cq_.d.nt)→cq_.d.Ok E (cq_.F (n+1)) :=
 FD.ok (fs:=cq_.fs n) aX_ Tryz.func167 (by kernel_rfl) (by kernel_rfl) (by kernel_rfl) (by kernel_rfl) (fun _=>by kernel_rfl) (by kernel_rfl) (fun x=>by kernel_rfl) (.nil)
noncomputable def cg_.fs (n:Nat):cg_.d.Fs:=()
theorem cg_.ok (n:Nat):CxOk E (cx n cg_.d.nt)→KPar (cx n cg_.d.nt)→cg_.d.Ok E (cg_.F (n+1)) :=
 FD.ok (fs:=cg_.fs n) aX_ Tryz.func187 (by kernel_rfl) (by kernel_rfl) (by kernel_rfl) (by kernel_rfl) (fun _=>by kernel_rfl) (by kernel_rfl) (fun x=>by kernel_rfl) (.nil)
noncomputable def ba_.fs (n:Nat):ba_.d.Fs:=(fun κd _=>ba_.tail17 n (ba_.n17.k κd),fun _ _=>ba_.tail8 n,())
theorem ba_.r8 (n:Nat):ba_.d.Tail (ba_.fs n) (cx n ba_.d.nt) (cm_ Tryz.f166) 8 ba_.p8 (fun κd κe=>ba_.tail8 n):=fun κd κe x y=>by kernel_rfl
theorem ba_.r17 (n:Nat):ba_.d.Tail (ba_.fs n) (cx n ba_.d.nt) (cm_ Tryz.f166) 17 ba_.p17 (fun κd κe=>ba_.tail17 n (ba_.n17.k κd)):=fun κd κe x y=>by kernel_rfl
theorem ba_.ok (n:Nat):CxOk E (cx n ba_.d.nt)→KPar (cx n ba_.d.nt)→ba_.d.Ok E (ba_.F (n+1)) :=
 FD.ok (fs:=ba_.fs n) aX_ Tryz.func166 (by kernel_rfl) (by kernel_rfl) (by kernel_rfl) (by kernel_rfl) (fun _=>by kernel_rfl) (by kernel_rfl) (fun x=>by kernel_rfl) (.cons (FD.tl (ba_.r17 n) (by kernel_rfl)) (.cons (FD.tl (ba_.r8 n) (by kernel_rfl)) (.nil)))
noncomputable def bB_.fs (n:Nat):bB_.d.Fs:=()
theorem bB_.ok (n:Nat):CxOk E (cx n bB_.d.nt)→KPar (cx n bB_.d.nt)→bB_.d.Ok E (bB_.F (n+1)) :=
 FD.ok (fs:=bB_.fs n) aX_ Tryz.func132 (by kernel_rfl) (by kernel_rfl) (by kernel_rfl) (by kernel_rfl) (fun _=>by kernel_rfl) (by kernel_rfl) (fun x=>by kernel_rfl) (.nil)
noncomputable def ch_.fs (n:Nat):ch_.d.Fs:=()
theorem ch_.ok (n:Nat):CxOk E (cx n ch_.d.nt)→KPar (cx n ch_.d.nt)→ch_.d.Ok E (ch_.F (n+1)) :=
 FD.ok (fs:=ch_.fs n) aX_ Tryz.func101 (by kernel_rfl) (by kernel_rfl) (by kernel_rfl) (by kernel_rfl) (fun _=>by kernel_rfl) (by kernel_rfl) (fun x=>by kernel_rfl) (.nil)
noncomputable def aI_.fs (n:Nat):aI_.d.Fs:=(fun _ κe=>aI_.loop7 n (aI_.o0.k (κe 0)) n,())
theorem aI_.r7 (n:Nat):aI_.d.Round (aI_.fs n) (cx n aI_.d.nt) (cm_ Tryz.f62) 7 aI_.p7 (fun κe=>aI_.step7 n (aI_.o0.k (κe 0))):=fun κ κe x y=>by kernel_rfl
theorem aI_.ok (n:Nat):CxOk E (cx n aI_.d.nt)→KPar (cx n aI_.d.nt)→aI_.d.Ok E (aI_.F (n+1)) :=
 FD.ok (fs:=aI_.fs n) aX_ Tryz.func62 (by kernel_rfl) (by kernel_rfl) (by kernel_rfl) (by kernel_rfl) (fun _=>by kernel_rfl) (by kernel_rfl) (fun x=>by kernel_rfl) (.cons (FD.lp n (aI_.r7 n) (by kernel_rfl) fun _ _=>by kernel_rfl) (.nil))
noncomputable def bo_.fs (n:Nat):bo_.d.Fs:=()
theorem bo_.ok (n:Nat):CxOk E (cx n bo_.d.nt)→KPar (cx n bo_.d.nt)→bo_.d.Ok E (bo_.F (n+1)) :=
 FD.ok (fs:=bo_.fs n) aX_ Tryz.func16 (by kernel_rfl) (by kernel_rfl) (by kernel_rfl) (by kernel_rfl) (fun _=>by kernel_rfl) (by kernel_rfl) (fun x=>by kernel_rfl) (.nil)
noncomputable def bq_.fs (n:Nat):bq_.d.Fs:=()
theorem bq_.ok (n:Nat):CxOk E (cx n bq_.d.nt)→KPar (cx n bq_.d.nt)→bq_.d.Ok E (bq_.F (n+1)) :=
 FD.ok (fs:=bq_.fs n) aX_ Tryz.func108 (by kernel_rfl) (by kernel_rfl) (by kernel_rfl) (by kernel_rfl) (fun _=>by kernel_rfl) (by kernel_rfl) (fun x=>by kernel_rfl) (.nil)
noncomputable def ak_.fs (n:Nat):ak_.d.Fs:=(fun _ κe=>ak_.loop4 n (ak_ n) (ak_.o0.k (κe 0)) n,())
theorem ak_.r4 (n:Nat):ak_.d.Round (ak_.fs n) (cx n ak_.d.nt) (cm_ Tryz.f67) 4 ak_.p4 (fun κe=>ak_.step4 n (ak_ n) (ak_.o0.k (κe 0))):=fun κ κe x y=>by kernel_rfl
theorem ak_.ok (n:Nat):CxOk E (cx n ak_.d.nt)→KPar (cx n ak_.d.nt)→ak_.d.Ok E (ak_.F (n+1)) :=
 FD.ok (fs:=ak_.fs n) aX_ Tryz.func67 (by kernel_rfl) (by kernel_rfl) (by kernel_rfl) (by kernel_rfl) (fun _=>by kernel_rfl) (by kernel_rfl) (fun x=>by kernel_rfl) (.cons (FD.lp n (ak_.r4 n) (by kernel_rfl) fun _ _=>by kernel_rfl) (.nil))
noncomputable def bp_.fs (n:Nat):bp_.d.Fs:=()
theorem bp_.ok (n:Nat):CxOk E (cx n bp_.d.nt)→KPar (cx n bp_.d.nt)→bp_.d.Ok E (bp_.F (n+1)) :=
 FD.ok (fs:=bp_.fs n) aX_ Tryz.func65 (by kernel_rfl) (by kernel_rfl) (by kernel_rfl) (by kernel_rfl) (fun _=>by kernel_rfl) (by kernel_rfl) (fun x=>by kernel_rfl) (.nil)
noncomputable def aE_.fs (n:Nat):aE_.d.Fs:=()
theorem aE_.ok (n:Nat):CxOk E (cx n aE_.d.nt)→KPar (cx n aE_.d.nt)→aE_.d.Ok E (aE_.F (n+1)) :=
 FD.ok (fs:=aE_.fs n) aX_ Tryz.func105 (by kernel_rfl) (by kernel_rfl) (by kernel_rfl) (by kernel_rfl) (fun _=>by kernel_rfl) (by kernel_rfl) (fun x=>by kernel_rfl) (.nil)
noncomputable def bs_.fs (n:Nat):bs_.d.Fs:=()
theorem bs_.ok (n:Nat):CxOk E (cx n bs_.d.nt)→KPar (cx n bs_.d.nt)→bs_.d.Ok E (bs_.F (n+1)) :=
 FD.ok (fs:=bs_.fs n) aX_ Tryz.func104 (by kernel_rfl) (by kernel_rfl) (by kernel_rfl) (by kernel_rfl) (fun _=>by kernel_rfl) (by kernel_rfl) (fun x=>by kernel_rfl) (.nil)
noncomputable def aY_.fs (n:Nat):aY_.d.Fs:=()
theorem aY_.ok (n:Nat):CxOk E (cx n aY_.d.nt)→KPar (cx n aY_.d.nt)→aY_.d.Ok E (aY_.F (n+1)) :=
 FD.ok (fs:=aY_.fs n) aX_ Tryz.func189 (by kernel_rfl) (by kernel_rfl) (by kernel_rfl) (by kernel_rfl) (fun _=>by kernel_rfl) (by kernel_rfl) (fun x=>by kernel_rfl) (.nil)
noncomputable def an_.fs (n:Nat):an_.d.Fs:=(fun _ κe=>an_.loop3 n (an_.o0.k (κe 0)) n,())
theorem an_.r3 (n:Nat):an_.d.Round (an_.fs n) (cx n an_.d.nt) (cm_ Tryz.f169) 3 an_.p3 (fun κe=>an_.step3 n (an_.o0.k (κe 0))):=fun κ κe x y=>by kernel_rfl
theorem an_.ok (n:Nat):CxOk E (cx n an_.d.nt)→KPar (cx n an_.d.nt)→an_.d.Ok E (an_.F (n+1)) :=
 FD.ok (fs:=an_.fs n) aX_ Tryz.func169 (by kernel_rfl) (by kernel_rfl) (by kernel_rfl) (by kernel_rfl) (fun _=>by kernel_rfl) (by kernel_rfl) (fun x=>by kernel_rfl) (.cons (FD.lp n (an_.r3 n) (by kernel_rfl) fun _ _=>by kernel_rfl) (.nil))
noncomputable def aj_.fs (n:Nat):aj_.d.Fs:=(fun _ κe=>aj_.loop3 n (aj_.o0.k (κe 0)) n,())
theorem aj_.r3 (n:Nat):aj_.d.Round (aj_.fs n) (cx n aj_.d.nt) (cm_ Tryz.f190) 3 aj_.p3 (fun κe=>aj_.step3 n (aj_.o0.k (κe 0))):=fun κ κe x y=>by kernel_rfl
theorem aj_.ok (n:Nat):CxOk E (cx n aj_.d.nt)→KPar (cx n aj_.d.nt)→aj_.d.Ok E (aj_.F (n+1)) :=
 FD.ok (fs:=aj_.fs n) aX_ Tryz.func190 (by kernel_rfl) (by kernel_rfl) (by kernel_rfl) (by kernel_rfl) (fun _=>by kernel_rfl) (by kernel_rfl) (fun x=>by kernel_rfl) (.cons (FD.lp n (aj_.r3 n) (by kernel_rfl) fun _ _=>by kernel_rfl) (.nil))
noncomputable def cj_.fs (n:Nat):cj_.d.Fs:=()
theorem cj_.ok (n:Nat):CxOk E (cx n cj_.d.nt)→KPar (cx n cj_.d.nt)→cj_.d.Ok E (cj_.F (n+1)) :=
 FD.ok (fs:=cj_.fs n) aX_ Tryz.func168 (by kernel_rfl) (by kernel_rfl) (by kernel_rfl) (by kernel_rfl) (fun _=>by kernel_rfl) (by kernel_rfl) (fun x=>by kernel_rfl) (.nil)
noncomputable def aO_.fs (n:Nat):aO_.d.Fs:=(fun _ κe=>aO_.loop7 n (aO_ n) (aO_.o0.k (κe 0)) n,())
theorem aO_.r7 (n:Nat):aO_.d.Round (aO_.fs n) (cx n aO_.d.nt) (cm_ Tryz.f133) 7 aO_.p7 (fun κe=>aO_.step7 n (aO_ n) (aO_.o0.k (κe 0))):=fun κ κe x y=>by kernel_rfl
theorem aO_.ok (n:Nat):CxOk E (cx n aO_.d.nt)→KPar (cx n aO_.d.nt)→aO_.d.Ok E (aO_.F (n+1)) :=
 FD.ok (fs:=aO_.fs n) aX_ Tryz.func133 (by kernel_rfl) (by kernel_rfl) (by kernel_rfl) (by kernel_rfl) (fun _=>by kernel_rfl) (by kernel_rfl) (fun x=>by kernel_rfl) (.cons (FD.lp n (aO_.r7 n) (by kernel_rfl) fun _ _=>by kernel_rfl) (.nil))
noncomputable def bE_.fs (n:Nat):bE_.d.Fs:=()
theorem bE_.ok (n:Nat):CxOk E (cx n bE_.d.nt)→KPar (cx n bE_.d.nt)→bE_.d.Ok E (bE_.F (n+1)) :=
 FD.ok (fs:=bE_.fs n) aX_ Tryz.func109 (by kernel_rfl) (by kernel_rfl) (by kernel_rfl) (by kernel_rfl) (fun _=>by kernel_rfl) (by kernel_rfl) (fun x=>by kernel_rfl) (.nil)
noncomputable def aW_.fs (n:Nat):aW_.d.Fs:=(fun _ κe=>aW_.loop4 n (aW_.o0.k (κe 0)) n,())
theorem aW_.r4 (n:Nat):aW_.d.Round (aW_.fs n) (cx n aW_.d.nt) (cm_ Tryz.f160) 4 aW_.p4 (fun κe=>aW_.step4 n (aW_.o0.k (κe 0))):=fun κ κe x y=>by kernel_rfl
theorem aW_.ok (n:Nat):CxOk E (cx n aW_.d.nt)→KPar (cx n aW_.d.nt)→aW_.d.Ok E (aW_.F (n+1)) :=
 FD.ok (fs:=aW_.fs n) aX_ Tryz.func160 (by kernel_rfl) (by kernel_rfl) (by kernel_rfl) (by kernel_rfl) (fun _=>by kernel_rfl) (by kernel_rfl) (fun x=>by kernel_rfl) (.cons (FD.lp n (aW_.r4 n) (by kernel_rfl) fun _ _=>by kernel_rfl) (.nil))
noncomputable def aG_.fs (n:Nat):aG_.d.Fs:=(fun _ κe=>aG_.loop4 n (aG_ n) (aG_.o0.k (κe 0)) n,())
theorem aG_.r4 (n:Nat):aG_.d.Round (aG_.fs n) (cx n aG_.d.nt) (cm_ Tryz.f129) 4 aG_.p4 (fun κe=>aG_.step4 n (aG_ n) (aG_.o0.k (κe 0))):=fun κ κe x y=>by kernel_rfl
theorem aG_.ok (n:Nat):CxOk E (cx n aG_.d.nt)→KPar (cx n aG_.d.nt)→aG_.d.Ok E (aG_.F (n+1)) :=
 FD.ok (fs:=aG_.fs n) aX_ Tryz.func129 (by kernel_rfl) (by kernel_rfl) (by kernel_rfl) (by kernel_rfl) (fun _=>by kernel_rfl) (by kernel_rfl) (fun x=>by kernel_rfl) (.cons (FD.lp n (aG_.r4 n) (by kernel_rfl) fun _ _=>by kernel_rfl) (.nil))
noncomputable def b2_.fs (n:Nat):b2_.d.Fs:=()
theorem b2_.ok (n:Nat):CxOk E (cx n b2_.d.nt)→KPar (cx n b2_.d.nt)→b2_.d.Ok E (b2_.F (n+1)) :=
 FD.ok (fs:=b2_.fs n) aX_ Tryz.func92 (by kernel_rfl) (by kernel_rfl) (by kernel_rfl) (by kernel_rfl) (fun _=>by kernel_rfl) (by kernel_rfl) (fun x=>by kernel_rfl) (.nil)
noncomputable def bX_.fs (n:Nat):bX_.d.Fs:=()
theorem bX_.ok (n:Nat):CxOk E (cx n bX_.d.nt)→KPar (cx n bX_.d.nt)→bX_.d.Ok E (bX_.F (n+1)) :=
 FD.ok (fs:=bX_.fs n) aX_ Tryz.func106 (by kernel_rfl) (by kernel_rfl) (by kernel_rfl) (by kernel_rfl) (fun _=>by kernel_rfl) (by kernel_rfl) (fun x=>by kernel_rfl) (.nil)
noncomputable def bc_.fs (n:Nat):bc_.d.Fs:=(fun _ κe=>bc_.loop3 n (bc_.o0.k (κe 0)) n,())
theorem bc_.r3 (n:Nat):bc_.d.Round (bc_.fs n) (cx n bc_.d.nt) (cm_ Tryz.f134) 3 bc_.p3 (fun κe=>bc_.step3 n (bc_.o0.k (κe 0))):=fun κ κe x y=>by kernel_rfl
theorem bc_.ok (n:Nat):CxOk E (cx n bc_.d.nt)→KPar (cx n bc_.d.nt)→bc_.d.Ok E (bc_.F (n+1)) :=
 FD.ok (fs:=bc_.fs n) aX_ Tryz.func134 (by kernel_rfl) (by kernel_rfl) (by kernel_rfl) (by kernel_rfl) (fun _=>by kernel_rfl) (by kernel_rfl) (fun x=>by kernel_rfl) (.cons (FD.lp n (bc_.r3 n) (by kernel_rfl) fun _ _=>by kernel_rfl) (.nil))
noncomputable def bS_.fs (n:Nat):bS_.d.Fs:=()
theorem bS_.ok (n:Nat):CxOk E (cx n bS_.d.nt)→KPar (cx n bS_.d.nt)→bS_.d.Ok E (bS_.F (n+1)) :=
 FD.ok (fs:=bS_.fs n) aX_ Tryz.func157 (by kernel_rfl) (by kernel_rfl) (by kernel_rfl) (by kernel_rfl) (fun _=>by kernel_rfl) (by kernel_rfl) (fun x=>by kernel_rfl) (.nil)
noncomputable def aR_.fs (n:Nat):aR_.d.Fs:=(fun _ κe=>aR_.loop4 n (aR_.o0.k (κe 0)) n,())
theorem aR_.r4 (n:Nat):aR_.d.Round (aR_.fs n) (cx n aR_.d.nt) (cm_ Tryz.f162) 4 aR_.p4 (fun κe=>aR_.step4 n (aR_.o0.k (κe 0))):=fun κ κe x y=>by kernel_rfl
theorem aR_.ok (n:Nat):CxOk E (cx n aR_.d.nt)→KPar (cx n aR_.d.nt)→aR_.d.Ok E (aR_.F (n+1)) :=
 FD.ok (fs:=aR_.fs n) aX_ Tryz.func162 (by kernel_rfl) (by kernel_rfl) (by kernel_rfl) (by kernel_rfl) (fun _=>by kernel_rfl) (by kernel_rfl) (fun x=>by kernel_rfl) (.cons (FD.lp n (aR_.r4 n) (by kernel_rfl) fun _ _=>by kernel_rfl) (.nil))
noncomputable def b1_.fs (n:Nat):b1_.d.Fs:=()
theorem b1_.ok (n:Nat):CxOk E (cx n b1_.d.nt)→KPar (cx n b1_.d.nt)→b1_.d.Ok E (b1_.F (n+1)) :=
 FD.ok (fs:=b1_.fs n) aX_ Tryz.func163 (by kernel_rfl) (by kernel_rfl) (by kernel_rfl) (by kernel_rfl) (fun _=>by kernel_rfl) (by kernel_rfl) (fun x=>by kernel_rfl) (.nil)
noncomputable def b7_.fs (n:Nat):b7_.d.Fs:=()
theorem b7_.ok (n:Nat):CxOk E (cx n b7_.d.nt)→KPar (cx n b7_.d.nt)→b7_.d.Ok E (b7_.F (n+1)) :=
 FD.ok (fs:=b7_.fs n) aX_ Tryz.func130 (by kernel_rfl) (by kernel_rfl) (by kernel_rfl) (by kernel_rfl) (fun _=>by kernel_rfl) (by kernel_rfl) (fun x=>by kernel_rfl) (.nil)
noncomputable def aN_.fs (n:Nat):aN_.d.Fs:=(fun _ κe=>aN_.loop4 n (aN_.o0.k (κe 0)) n,())
theorem aN_.r4 (n:Nat):aN_.d.Round (aN_.fs n) (cx n aN_.d.nt) (cm_ Tryz.f93) 4 aN_.p4 (fun κe=>aN_.step4 n (aN_.o0.k (κe 0))):=fun κ κe x y=>by kernel_rfl
theorem aN_.ok (n:Nat):CxOk E (cx n aN_.d.nt)→KPar (cx n aN_.d.nt)→aN_.d.Ok E (aN_.F (n+1)) :=
 FD.ok (fs:=aN_.fs n) aX_ Tryz.func93 (by kernel_rfl) (by kernel_rfl) (by kernel_rfl) (by kernel_rfl) (fun _=>by kernel_rfl) (by kernel_rfl) (fun x=>by kernel_rfl) (.cons (FD.lp n (aN_.r4 n) (by kernel_rfl) fun _ _=>by kernel_rfl) (.nil))
noncomputable def bx_.fs (n:Nat):bx_.d.Fs:=()
theorem bx_.ok (n:Nat):CxOk E (cx n bx_.d.nt)→KPar (cx n bx_.d.nt)→bx_.d.Ok E (bx_.F (n+1)) :=
 FD.ok (fs:=bx_.fs n) aX_ Tryz.func107 (by kernel_rfl) (by kernel_rfl) (by kernel_rfl) (by kernel_rfl) (fun _=>by kernel_rfl) (by kernel_rfl) (fun x=>by kernel_rfl) (.nil)
noncomputable def bU_.fs (n:Nat):bU_.d.Fs:=()
theorem bU_.ok (n:Nat):CxOk E (cx n bU_.d.nt)→KPar (cx n bU_.d.nt)→bU_.d.Ok E (bU_.F (n+1)) :=
 FD.ok (fs:=bU_.fs n) aX_ Tryz.func66 (by kernel_rfl) (by kernel_rfl) (by kernel_rfl) (by kernel_rfl) (fun _=>by kernel_rfl) (by kernel_rfl) (fun x=>by kernel_rfl) (.nil)
noncomputable def ah_.fs (n:Nat):ah_.d.Fs:=(fun _ κe=>ah_.loop6 n (ah_.o0.k (κe 0)) n,())
theorem ah_.r6 (n:Nat):ah_.d.Round (ah_.fs n) (cx n ah_.d.nt) (cm_ Tryz.f201) 6 ah_.p6 (fun κe=>ah_.step6 n (ah_.o0.k (κe 0))):=fun κ κe x y=>by kernel_rfl
theorem ah_.ok (n:Nat):CxOk E (cx n ah_.d.nt)→KPar (cx n ah_.d.nt)→ah_.d.Ok E (ah_.F (n+1)) :=
 FD.ok (fs:=ah_.fs n) aX_ Tryz.func201 (by kernel_rfl) (by kernel_rfl) (by kernel_rfl) (by kernel_rfl) (fun _=>by kernel_rfl) (by kernel_rfl) (fun x=>by kernel_rfl) (.cons (FD.lp n (ah_.r6 n) (by kernel_rfl) fun _ _=>by kernel_rfl) (.nil))
noncomputable def ab_.fs (n:Nat):ab_.d.Fs:=(fun _ κe=>ab_.loop6 n (bY_ n) (ab_.o0.k (κe 0)) n,())
theorem ab_.r6 (n:Nat):ab_.d.Round (ab_.fs n) (cx n ab_.d.nt) (cm_ Tryz.f202) 6 ab_.p6 (fun κe=>ab_.step6 n (bY_ n) (ab_.o0.k (κe 0))):=fun κ κe x y=>by kernel_rfl
theorem ab_.ok (n:Nat):CxOk E (cx n ab_.d.nt)→KPar (cx n ab_.d.nt)→ab_.d.Ok E (ab_.F (n+1)) :=
 FD.ok (fs:=ab_.fs n) aX_ Tryz.func202 (by kernel_rfl) (by kernel_rfl) (by kernel_rfl) (by kernel_rfl) (fun _=>by kernel_rfl) (by kernel_rfl) (fun x=>by kernel_rfl) (.cons (FD.lp n (ab_.r6 n) (by kernel_rfl) fun _ _=>by kernel_rfl) (.nil))
noncomputable def bY_.fs (n:Nat):bY_.d.Fs:=()
theorem bY_.ok (n:Nat):CxOk E (cx n bY_.d.nt)→KPar (cx n bY_.d.nt)→bY_.d.Ok E (bY_.F (n+1)) :=
 FD.ok (fs:=bY_.fs n) aX_ Tryz.func182 (by kernel_rfl) (by kernel_rfl) (by kernel_rfl) (by kernel_rfl) (fun _=>by kernel_rfl) (by kernel_rfl) (fun x=>by kernel_rfl) (.nil)
noncomputable def ci_.fs (n:Nat):ci_.d.Fs:=()
theorem ci_.ok (n:Nat):CxOk E (cx n ci_.d.nt)→KPar (cx n ci_.d.nt)→ci_.d.Ok E (ci_.F (n+1)) :=
 FD.ok (fs:=ci_.fs n) aX_ Tryz.func170 (by kernel_rfl) (by kernel_rfl) (by kernel_rfl) (by kernel_rfl) (fun _=>by kernel_rfl) (by kernel_rfl) (fun x=>by kernel_rfl) (.nil)
noncomputable def a7_.fs (n:Nat):a7_.d.Fs:=()
theorem a7_.ok (n:Nat):CxOk E (cx n a7_.d.nt)→KPar (cx n a7_.d.nt)→a7_.d.Ok E (a7_.F (n+1)) :=
 FD.ok (fs:=a7_.fs n) aX_ Tryz.func225 (by kernel_rfl) (by kernel_rfl) (by kernel_rfl) (by kernel_rfl) (fun _=>by kernel_rfl) (by kernel_rfl) (fun x=>by kernel_rfl) (.nil)
noncomputable def bg_.fs (n:Nat):bg_.d.Fs:=()
theorem bg_.ok (n:Nat):CxOk E (cx n bg_.d.nt)→KPar (cx n bg_.d.nt)→bg_.d.Ok E (bg_.F (n+1)) :=
 FD.ok (fs:=bg_.fs n) aX_ Tryz.func209 (by kernel_rfl) (by kernel_rfl) (by kernel_rfl) (by kernel_rfl) (fun _=>by kernel_rfl) (by kernel_rfl) (fun x=>by kernel_rfl) (.nil)
noncomputable def aV_.fs (n:Nat):aV_.d.Fs:=()
theorem aV_.ok (n:Nat):CxOk E (cx n aV_.d.nt)→KPar (cx n aV_.d.nt)→aV_.d.Ok E (aV_.F (n+1)) :=
 FD.ok (fs:=aV_.fs n) aX_ Tryz.func210 (by kernel_rfl) (by kernel_rfl) (by kernel_rfl) (by kernel_rfl) (fun _=>by kernel_rfl) (by kernel_rfl) (fun x=>by kernel_rfl) (.nil)
noncomputable def ac_.fs (n:Nat):ac_.d.Fs:=(fun _ κe=>ac_.loop4 n (ac_.o0.k (κe 0)) n,())
theorem ac_.r4 (n:Nat):ac_.d.Round (ac_.fs n) (cx n ac_.d.nt) (cm_ Tryz.f191) 4 ac_.p4 (fun κe=>ac_.step4 n (ac_.o0.k (κe 0))):=fun κ κe x y=>by kernel_rfl
theorem ac_.ok (n:Nat):CxOk E (cx n ac_.d.nt)→KPar (cx n ac_.d.nt)→ac_.d.Ok E (ac_.F (n+1)) :=
 FD.ok (fs:=ac_.fs n) aX_ Tryz.func191 (by kernel_rfl) (by kernel_rfl) (by kernel_rfl) (by kernel_rfl) (fun _=>by kernel_rfl) (by kernel_rfl) (fun x=>by kernel_rfl) (.cons (FD.lp n (ac_.r4 n) (by kernel_rfl) fun _ _=>by kernel_rfl) (.nil))
noncomputable def bK_.fs (n:Nat):bK_.d.Fs:=()
theorem bK_.ok (n:Nat):CxOk E (cx n bK_.d.nt)→KPar (cx n bK_.d.nt)→bK_.d.Ok E (bK_.F (n+1)) :=
 FD.ok (fs:=bK_.fs n) aX_ Tryz.func194 (by kernel_rfl) (by kernel_rfl) (by kernel_rfl) (by kernel_rfl) (fun _=>by kernel_rfl) (by kernel_rfl) (fun x=>by kernel_rfl) (.nil)
noncomputable def bT_.fs (n:Nat):bT_.d.Fs:=()
theorem bT_.ok (n:Nat):CxOk E (cx n bT_.d.nt)→KPar (cx n bT_.d.nt)→bT_.d.Ok E (bT_.F (n+1)) :=
 FD.ok (fs:=bT_.fs n) aX_ Tryz.func171 (by kernel_rfl) (by kernel_rfl) (by kernel_rfl) (by kernel_rfl) (fun _=>by kernel_rfl) (by kernel_rfl) (fun x=>by kernel_rfl) (.nil)
noncomputable def ag_.fs (n:Nat):ag_.d.Fs:=(fun _ κe=>ag_.loop3 n (ag_.o0.k (κe 0)) n,())
theorem ag_.r3 (n:Nat):ag_.d.Round (ag_.fs n) (cx n ag_.d.nt) (cm_ Tryz.f156) 3 ag_.p3 (fun κe=>ag_.step3 n (ag_.o0.k (κe 0))):=fun κ κe x y=>by kernel_rfl
theorem ag_.ok (n:Nat):CxOk E (cx n ag_.d.nt)→KPar (cx n ag_.d.nt)→ag_.d.Ok E (ag_.F (n+1)) :=
 FD.ok (fs:=ag_.fs n) aX_ Tryz.func156 (by kernel_rfl) (by kernel_rfl) (by kernel_rfl) (by kernel_rfl) (fun _=>by kernel_rfl) (by kernel_rfl) (fun x=>by kernel_rfl) (.cons (FD.lp n (ag_.r3 n) (by kernel_rfl) fun _ _=>by kernel_rfl) (.nil))
noncomputable def bJ_.fs (n:Nat):bJ_.d.Fs:=()
theorem bJ_.ok (n:Nat):CxOk E (cx n bJ_.d.nt)→KPar (cx n bJ_.d.nt)→bJ_.d.Ok E (bJ_.F (n+1)) :=
 FD.ok (fs:=bJ_.fs n) aX_ Tryz.func172 (by kernel_rfl) (by kernel_rfl) (by kernel_rfl) (by kernel_rfl) (fun _=>by kernel_rfl) (by kernel_rfl) (fun x=>by kernel_rfl) (.nil)
noncomputable def bz_.fs (n:Nat):bz_.d.Fs:=()
theorem bz_.ok (n:Nat):CxOk E (cx n bz_.d.nt)→KPar (cx n bz_.d.nt)→bz_.d.Ok E (bz_.F (n+1)) :=
 FD.ok (fs:=bz_.fs n) aX_ Tryz.func173 (by kernel_rfl) (by kernel_rfl) (by kernel_rfl) (by kernel_rfl) (fun _=>by kernel_rfl) (by kernel_rfl) (fun x=>by kernel_rfl) (.nil)
noncomputable def bt_.fs (n:Nat):bt_.d.Fs:=()
theorem bt_.ok (n:Nat):CxOk E (cx n bt_.d.nt)→KPar (cx n bt_.d.nt)→bt_.d.Ok E (bt_.F (n+1)) :=
 FD.ok (fs:=bt_.fs n) aX_ Tryz.func135 (by kernel_rfl) (by kernel_rfl) (by kernel_rfl) (by kernel_rfl) (fun _=>by kernel_rfl) (by kernel_rfl) (fun x=>by kernel_rfl) (.nil)
noncomputable def ck_.fs (n:Nat):ck_.d.Fs:=()
theorem ck_.ok (n:Nat):CxOk E (cx n ck_.d.nt)→KPar (cx n ck_.d.nt)→ck_.d.Ok E (ck_.F (n+1)) :=
 FD.ok (fs:=ck_.fs n) aX_ Tryz.func110 (by kernel_rfl) (by kernel_rfl) (by kernel_rfl) (by kernel_rfl) (fun _=>by kernel_rfl) (by kernel_rfl) (fun x=>by kernel_rfl) (.nil)
noncomputable def aH_.fs (n:Nat):aH_.d.Fs:=(fun _ κe=>aH_.loop7 n (aH_.o0.k (κe 0)) n,())
theorem aH_.r7 (n:Nat):aH_.d.Round (aH_.fs n) (cx n aH_.d.nt) (cm_ Tryz.f68) 7 aH_.p7 (fun κe=>aH_.step7 n (aH_.o0.k (κe 0))):=fun κ κe x y=>by kernel_rfl
theorem aH_.ok (n:Nat):CxOk E (cx n aH_.d.nt)→KPar (cx n aH_.d.nt)→aH_.d.Ok E (aH_.F (n+1)) :=
 FD.ok (fs:=aH_.fs n) aX_ Tryz.func68 (by kernel_rfl) (by kernel_rfl) (by kernel_rfl) (by kernel_rfl) (fun _=>by kernel_rfl) (by kernel_rfl) (fun x=>by kernel_rfl) (.cons (FD.lp n (aH_.r7 n) (by kernel_rfl) fun _ _=>by kernel_rfl) (.nil))
noncomputable def bl_.fs (n:Nat):bl_.d.Fs:=()
theorem bl_.ok (n:Nat):CxOk E (cx n bl_.d.nt)→KPar (cx n bl_.d.nt)→bl_.d.Ok E (bl_.F (n+1)) :=
 FD.ok (fs:=bl_.fs n) aX_ Tryz.func19 (by kernel_rfl) (by kernel_rfl) (by kernel_rfl) (by kernel_rfl) (fun _=>by kernel_rfl) (by kernel_rfl) (fun x=>by kernel_rfl) (.nil)
noncomputable def aQ_.fs (n:Nat):aQ_.d.Fs:=(fun _ κe=>aQ_.loop6 n (br_ n) (aQ_.o0.k (κe 0)) n,())
theorem aQ_.r6 (n:Nat):aQ_.d.Round (aQ_.fs n) (cx n aQ_.d.nt) (cm_ Tryz.f94) 6 aQ_.p6 (fun κe=>aQ_.step6 n (br_ n) (aQ_.o0.k (κe 0))):=fun κ κe x y=>by kernel_rfl
theorem aQ_.ok (n:Nat):CxOk E (cx n aQ_.d.nt)→KPar (cx n aQ_.d.nt)→aQ_.d.Ok E (aQ_.F (n+1)) :=
 FD.ok (fs:=aQ_.fs n) aX_ Tryz.func94 (by kernel_rfl) (by kernel_rfl) (by kernel_rfl) (by kernel_rfl) (fun _=>by kernel_rfl) (by kernel_rfl) (fun x=>by kernel_rfl) (.cons (FD.lp n (aQ_.r6 n) (by kernel_rfl) fun _ _=>by kernel_rfl) (.nil))
noncomputable def aC_.fs (n:Nat):aC_.d.Fs:=(fun _ κe=>aC_.loop6 n (aC_.o0.k (κe 0)) n,())
theorem aC_.r6 (n:Nat):aC_.d.Round (aC_.fs n) (cx n aC_.d.nt) (cm_ Tryz.f39) 6 aC_.p6 (fun κe=>aC_.step6 n (aC_.o0.k (κe 0))):=fun κ κe x y=>by kernel_rfl
theorem aC_.ok (n:Nat):CxOk E (cx n aC_.d.nt)→KPar (cx n aC_.d.nt)→aC_.d.Ok E (aC_.F (n+1)) :=
 FD.ok (fs:=aC_.fs n) aX_ Tryz.func39 (by kernel_rfl) (by kernel_rfl) (by kernel_rfl) (by kernel_rfl) (fun _=>by kernel_rfl) (by kernel_rfl) (fun x=>by kernel_rfl) (.cons (FD.lp n (aC_.r6 n) (by kernel_rfl) fun _ _=>by kernel_rfl) (.nil))
noncomputable def br_.fs (n:Nat):br_.d.Fs:=()
theorem br_.ok (n:Nat):CxOk E (cx n br_.d.nt)→KPar (cx n br_.d.nt)→br_.d.Ok E (br_.F (n+1)) :=
 FD.ok (fs:=br_.fs n) aX_ Tryz.func51 (by kernel_rfl) (by kernel_rfl) (by kernel_rfl) (by kernel_rfl) (fun _=>by kernel_rfl) (by kernel_rfl) (fun x=>by kernel_rfl) (.nil)
noncomputable def bv_.fs (n:Nat):bv_.d.Fs:=()
theorem bv_.ok (n:Nat):CxOk E (cx n bv_.d.nt)→KPar (cx n bv_.d.nt)→bv_.d.Ok E (bv_.F (n+1)) :=
 FD.ok (fs:=bv_.fs n) aX_ Tryz.func20 (by kernel_rfl) (by kernel_rfl) (by kernel_rfl) (by kernel_rfl) (fun _=>by kernel_rfl) (by kernel_rfl) (fun x=>by kernel_rfl) (.nil)
noncomputable def cu_.fs (n:Nat):cu_.d.Fs:=()
theorem cu_.ok (n:Nat):CxOk E (cx n cu_.d.nt)→KPar (cx n cu_.d.nt)→cu_.d.Ok E (cu_.F (n+1)) :=
 FD.ok (fs:=cu_.fs n) aX_ Tryz.func95 (by kernel_rfl) (by kernel_rfl) (by kernel_rfl) (by kernel_rfl) (fun _=>by kernel_rfl) (by kernel_rfl) (fun x=>by kernel_rfl) (.nil)
noncomputable def a3_.fs (n:Nat):a3_.d.Fs:=(fun _ κe=>a3_.loop6 n (a3_.o0.k (κe 0)) n,())
theorem a3_.r6 (n:Nat):a3_.d.Round (a3_.fs n) (cx n a3_.d.nt) (cm_ Tryz.f52) 6 a3_.p6 (fun κe=>a3_.step6 n (a3_.o0.k (κe 0))):=fun κ κe x y=>by kernel_rfl
theorem a3_.ok (n:Nat):CxOk E (cx n a3_.d.nt)→KPar (cx n a3_.d.nt)→a3_.d.Ok E (a3_.F (n+1)) :=
 FD.ok (fs:=a3_.fs n) aX_ Tryz.func52 (by kernel_rfl) (by kernel_rfl) (by kernel_rfl) (by kernel_rfl) (fun _=>by kernel_rfl) (by kernel_rfl) (fun x=>by kernel_rfl) (.cons (FD.lp n (a3_.r6 n) (by kernel_rfl) fun _ _=>by kernel_rfl) (.nil))
noncomputable def bR_.fs (n:Nat):bR_.d.Fs:=()
theorem bR_.ok (n:Nat):CxOk E (cx n bR_.d.nt)→KPar (cx n bR_.d.nt)→bR_.d.Ok E (bR_.F (n+1)) :=
 FD.ok (fs:=bR_.fs n) aX_ Tryz.func11 (by kernel_rfl) (by kernel_rfl) (by kernel_rfl) (by kernel_rfl) (fun _=>by kernel_rfl) (by kernel_rfl) (fun x=>by kernel_rfl) (.nil)
noncomputable def aB_.fs (n:Nat):aB_.d.Fs:=(fun _ κe=>aB_.loop6 n (aB_.o0.k (κe 0)) n,())
theorem aB_.r6 (n:Nat):aB_.d.Round (aB_.fs n) (cx n aB_.d.nt) (cm_ Tryz.f69) 6 aB_.p6 (fun κe=>aB_.step6 n (aB_.o0.k (κe 0))):=fun κ κe x y=>by kernel_rfl
theorem aB_.ok (n:Nat):CxOk E (cx n aB_.d.nt)→KPar (cx n aB_.d.nt)→aB_.d.Ok E (aB_.F (n+1)) :=
 FD.ok (fs:=aB_.fs n) aX_ Tryz.func69 (by kernel_rfl) (by kernel_rfl) (by kernel_rfl) (by kernel_rfl) (fun _=>by kernel_rfl) (by kernel_rfl) (fun x=>by kernel_rfl) (.cons (FD.lp n (aB_.r6 n) (by kernel_rfl) fun _ _=>by kernel_rfl) (.nil))
noncomputable def al_.fs (n:Nat):al_.d.Fs:=(fun _ κe=>al_.loop3 n (al_.o0.k (κe 0)) n,())
theorem al_.r3 (n:Nat):al_.d.Round (al_.fs n) (cx n al_.d.nt) (cm_ Tryz.f40) 3 al_.p3 (fun κe=>al_.step3 n (al_.o0.k (κe 0))):=fun κ κe x y=>by kernel_rfl
theorem al_.ok (n:Nat):CxOk E (cx n al_.d.nt)→KPar (cx n al_.d.nt)→al_.d.Ok E (al_.F (n+1)) :=
 FD.ok (fs:=al_.fs n) aX_ Tryz.func40 (by kernel_rfl) (by kernel_rfl) (by kernel_rfl) (by kernel_rfl) (fun _=>by kernel_rfl) (by kernel_rfl) (fun x=>by kernel_rfl) (.cons (FD.lp n (al_.r3 n) (by kernel_rfl) fun _ _=>by kernel_rfl) (.nil))
noncomputable def ap_.fs (n:Nat):ap_.d.Fs:=(fun _ κe=>ap_.loop3 n (ap_ n) (ap_.o0.k (κe 0)) n,())
theorem ap_.r3 (n:Nat):ap_.d.Round (ap_.fs n) (cx n ap_.d.nt) (cm_ Tryz.f70) 3 ap_.p3 (fun κe=>ap_.step3 n (ap_ n) (ap_.o0.k (κe 0))):=fun κ κe x y=>by kernel_rfl
theorem ap_.ok (n:Nat):CxOk E (cx n ap_.d.nt)→KPar (cx n ap_.d.nt)→ap_.d.Ok E (ap_.F (n+1)) :=
 FD.ok (fs:=ap_.fs n) aX_ Tryz.func70 (by kernel_rfl) (by kernel_rfl) (by kernel_rfl) (by kernel_rfl) (fun _=>by kernel_rfl) (by kernel_rfl) (fun x=>by kernel_rfl) (.cons (FD.lp n (ap_.r3 n) (by kernel_rfl) fun _ _=>by kernel_rfl) (.nil))
noncomputable def by_.fs (n:Nat):by_.d.Fs:=()
theorem by_.ok (n:Nat):CxOk E (cx n by_.d.nt)→KPar (cx n by_.d.nt)→by_.d.Ok E (by_.F (n+1)) :=
 FD.ok (fs:=by_.fs n) aX_ Tryz.func53 (by kernel_rfl) (by kernel_rfl) (by kernel_rfl) (by kernel_rfl) (fun _=>by kernel_rfl) (by kernel_rfl) (fun x=>by kernel_rfl) (.nil)
noncomputable def bj_.fs (n:Nat):bj_.d.Fs:=()
theorem bj_.ok (n:Nat):CxOk E (cx n bj_.d.nt)→KPar (cx n bj_.d.nt)→bj_.d.Ok E (bj_.F (n+1)) :=
 FD.ok (fs:=bj_.fs n) aX_ Tryz.func21 (by kernel_rfl) (by kernel_rfl) (by kernel_rfl) (by kernel_rfl) (fun _=>by kernel_rfl) (by kernel_rfl) (fun x=>by kernel_rfl) (.nil)
noncomputable def aP_.fs (n:Nat):aP_.d.Fs:=(fun _ κe=>aP_.loop3 n (aP_.o0.k (κe 0)) n,())
theorem aP_.r3 (n:Nat):aP_.d.Round (aP_.fs n) (cx n aP_.d.nt) (cm_ Tryz.f54) 3 aP_.p3 (fun κe=>aP_.step3 n (aP_.o0.k (κe 0))):=fun κ κe x y=>by kernel_rfl
theorem aP_.ok (n:Nat):CxOk E (cx n aP_.d.nt)→KPar (cx n aP_.d.nt)→aP_.d.Ok E (aP_.F (n+1)) :=
 FD.ok (fs:=aP_.fs n) aX_ Tryz.func54 (by kernel_rfl) (by kernel_rfl) (by kernel_rfl) (by kernel_rfl) (fun _=>by kernel_rfl) (by kernel_rfl) (fun x=>by kernel_rfl) (.cons (FD.lp n (aP_.r3 n) (by kernel_rfl) fun _ _=>by kernel_rfl) (.nil))
noncomputable def bw_.fs (n:Nat):bw_.d.Fs:=()
theorem bw_.ok (n:Nat):CxOk E (cx n bw_.d.nt)→KPar (cx n bw_.d.nt)→bw_.d.Ok E (bw_.F (n+1)) :=
 FD.ok (fs:=bw_.fs n) aX_ Tryz.func12 (by kernel_rfl) (by kernel_rfl) (by kernel_rfl) (by kernel_rfl) (fun _=>by kernel_rfl) (by kernel_rfl) (fun x=>by kernel_rfl) (.nil)
noncomputable def ao_.fs (n:Nat):ao_.d.Fs:=(fun _ κe=>ao_.loop3 n (ao_.o0.k (κe 0)) n,())
theorem ao_.r3 (n:Nat):ao_.d.Round (ao_.fs n) (cx n ao_.d.nt) (cm_ Tryz.f74) 3 ao_.p3 (fun κe=>ao_.step3 n (ao_.o0.k (κe 0))):=fun κ κe x y=>by kernel_rfl
theorem ao_.ok (n:Nat):CxOk E (cx n ao_.d.nt)→KPar (cx n ao_.d.nt)→ao_.d.Ok E (ao_.F (n+1)) :=
 FD.ok (fs:=ao_.fs n) aX_ Tryz.func74 (by kernel_rfl) (by kernel_rfl) (by kernel_rfl) (by kernel_rfl) (fun _=>by kernel_rfl) (by kernel_rfl) (fun x=>by kernel_rfl) (.cons (FD.lp n (ao_.r3 n) (by kernel_rfl) fun _ _=>by kernel_rfl) (.nil))
noncomputable def aq_.fs (n:Nat):aq_.d.Fs:=(fun _ κe=>aq_.loop3 n (aq_ n) (aq_.o0.k (κe 0)) n,())
theorem aq_.r3 (n:Nat):aq_.d.Round (aq_.fs n) (cx n aq_.d.nt) (cm_ Tryz.f73) 3 aq_.p3 (fun κe=>aq_.step3 n (aq_ n) (aq_.o0.k (κe 0))):=fun κ κe x y=>by kernel_rfl
theorem aq_.ok (n:Nat):CxOk E (cx n aq_.d.nt)→KPar (cx n aq_.d.nt)→aq_.d.Ok E (aq_.F (n+1)) :=
 FD.ok (fs:=aq_.fs n) aX_ Tryz.func73 (by kernel_rfl) (by kernel_rfl) (by kernel_rfl) (by kernel_rfl) (fun _=>by kernel_rfl) (by kernel_rfl) (fun x=>by kernel_rfl) (.cons (FD.lp n (aq_.r3 n) (by kernel_rfl) fun _ _=>by kernel_rfl) (.nil))
end Go.Pi
end
section
namespace Go.Pi
open Go.Proofs
noncomputable def bG_.fs (n:Nat):bG_.d.Fs:=()
theorem bG_.ok (n:Nat):CxOk E (cx n bG_.d.nt)→KPar (cx n bG_.d.nt)→bG_.d.Ok E (bG_.F (n+1)) :=
 FD.ok (fs:=bG_.fs n) aX_ Tryz.func55 (by kernel_rfl) (by kernel_rfl) (by kernel_rfl) (by kernel_rfl) (fun _=>by kernel_rfl) (by kernel_rfl) (fun x=>by kernel_rfl) (.nil)
noncomputable def bk_.fs (n:Nat):bk_.d.Fs:=()
theorem bk_.ok (n:Nat):CxOk E (cx n bk_.d.nt)→KPar (cx n bk_.d.nt)→bk_.d.Ok E (bk_.F (n+1)) :=
 FD.ok (fs:=bk_.fs n) aX_ Tryz.func22 (by kernel_rfl) (by kernel_rfl) (by kernel_rfl) (by kernel_rfl) (fun _=>by kernel_rfl) (by kernel_rfl) (fun x=>by kernel_rfl) (.nil)
noncomputable def laws_FnExactClientTake.fs (n:Nat):laws_FnExactClientTake.d.Fs:=()
theorem laws_FnExactClientTake.ok (n:Nat):CxOk E (cx n laws_FnExactClientTake.d.nt)→KPar (cx n laws_FnExactClientTake.d.nt)→laws_FnExactClientTake.d.Ok E (laws_FnExactClientTake.F (n+1)) :=
 FD.ok (fs:=laws_FnExactClientTake.fs n) aX_ Tryz.func4 (by kernel_rfl) (by kernel_rfl) (by kernel_rfl) (by kernel_rfl) (fun _=>by kernel_rfl) (by kernel_rfl) (fun x=>by kernel_rfl) (.nil)
end Go.Pi
end
section
namespace Go.Pi
def InsM (P:Program) (f:FuncId) (e:TypeId) (K B:Nat):Prop :=
 ∀ (w:World) (S:Value) (n:Nat) (vals:List Value) (U:Value) (m:Nat) (us:List Value) (i:Nat),w.ownsRow 0 e K S n vals→w.ownsRow 0 e K U m us→(∀ b,b9_ S b≠0→b9_ U b=0)→i≤n →
   (∀ v ∈ vals,v.oneCell'=true)→(∀ v ∈ us,v.oneCell'=true)→(n+m)*B≤140737488355328 →
   Calls P f (List.toArray [S,.int .i64 i,U]) w fun e' w'=>∃ R,e' = .returned R∧w'.ownsRow 0 e K R (n+m) (vals.take (i*K)++us++vals.drop (i*K))∧gu_ w w' (fun b=>b9_ S b≠0) ∧
    ∀ b,b9_ R b≠0→(w.heap.size≤b∨b9_ S b≠0)∧b<w'.heap.size
def DelM (P:Program) (f:FuncId) (e:TypeId) (K:Nat):Prop :=
 ∀ (w:World) (S:Value) (n:Nat) (vals:List Value) (i j:Nat),w.ownsRow 0 e K S n vals→i≤j→j≤n→(∀ v ∈ vals,v.oneCell'=true) →
   Calls P f (List.toArray [S,.int .i64 i,.int .i64 j]) w fun e' w'=>∃ R,e' = .returned R∧w'.ownsRow 0 e K R (n - (j - i)) (vals.take (i*K)++vals.drop (j*K))∧gu_ w w' (fun b=>b9_ S b≠0) ∧
    ∀ b,b9_ R b≠0→(w.heap.size≤b∨b9_ S b≠0)∧b<w'.heap.size
def M.both:M→M→M
 |.d,.d=>.d
 |_,_=>.s
variable [af_]
open af_
variable {E:Env} {w w':World} {F F':Nat→Prop}
theorem RL.own_inv {m t xs v l vs φ} (hm:m ≠ .v) (h:RL E w F (.sl m t xs::l) (v::vs) φ):∃ vals φ₁ φ₂,w.ownsRow 0 (E.eid t) t.width v xs.length vals∧RL E w F (aZ_ m.sub t xs) vals φ₁∧(∀ b,b9_ v b≠0→F b)∧RL E w F l vs φ₂∧∀ b,φ b=b9_ v b+φ₁ b+φ₂ b:=by
 cases h with
 |scal _ _ _ _ _ h=>exact h.elim
 |view=>exact absurd rfl hm
 |own m t xs v vals φ₁ l vs φ₂ φ h1 h2 h3 h4 h5 h6=>exact ⟨vals,φ₁,φ₂,h2,h3,h4,h5,h6⟩
theorem RL.len_inv {a l Vs φ} (h:RL E w F (a::l) Vs φ):∃ v vs,Vs=v::vs:=by
 obtain ⟨v,vs,_,_,h,_⟩:=RL.uncons h
 exact ⟨v,vs,h⟩
theorem k9_ [ai_] {φ:Nat→Nat} (h1:∀ b,φ b≤1) (low:∀ b,φ b≠0→F b∧b<w.heap.size) {S:Value} (hSF:∀ b,b9_ S b≠0→F b) {t:TC} {zs:List (El t)} {vals:List Value} {ψ:Nat→Nat}
  (hz:RL E w F (aZ_ .d t zs) vals ψ) (eφ:∀ b,b9_ S b+ψ b≤φ b) {R:Value} (hR:w'.ownsRow 0 (E.eid t) t.width R zs.length vals) (hg:gu_ w w' (fun b=>b9_ S b≠0))
  (hRb:∀ b,b9_ R b≠0→(w.heap.size≤b∨b9_ S b≠0)∧b<w'.heap.size) :
  ∃ φ',RL E w' (fun b=>(F b∧φ b=0)∨φ' b≠0) [.sl .d t zs] [R] φ'∧(∀ b,φ' b≤1)∧(∀ b,φ' b≠0→φ b≠0∨w.heap.size≤b) ∧
    w'.os=w.os∧w'.tape=w.tape∧w'.output=w.output∧w.heap.size≤w'.heap.size∧∀ b,b<w.heap.size→φ b=0→w'.heap[b]?=w.heap[b]?:=by
 have key:∀ b,b9_ R b≠0→b9_ S b≠0∨w.heap.size≤b:=fun b hb=>(hRb b hb).1.symm
 have elt:∀ b,ψ b≠0→b9_ R b=0∧b9_ S b=0:=fun b hb=>by
  have q1:=eφ b;have q2:=h1 b
  have s0:b9_ S b=0:=by omega
  refine ⟨Classical.byContradiction fun hr => ?_,s0⟩
  rcases key b hr with hs|hs
  · exact hs s0
  · have:=(low b (by omega)).2;omega
 refine ⟨fun b=>b9_ R b+ψ b,?_,fun b => ?_,fun b hb => ?_,hg.os,hg.tape,hg.output,hg.size,fun b hb h0=>hg.heap b hb fun hc=>hc (by have:=eφ b;omega)⟩
 · refine .own .d t zs R vals ψ [] _ (fun _=>0) _ (by decide) hR ?_ (fun b hb=>.inr (by show b9_ R b+_≠0;omega)) (.nil _ fun _=>rfl) (fun b=>rfl)
   refine hz.frame hg.size (fun b hb=>⟨hg.heap b (hz.low b hb).2 fun hc=>hc (elt b hb).2,.inr (by show b9_ R b+ψ b≠0;omega)⟩) fun b hb hn=>⟨hg.heap b hb fun hc=>hn (hSF b hc),fun hc => ?_⟩
   rcases hc with ⟨hf,-⟩|hc
   · exact hn hf
   · have hc:b9_ R b+ψ b≠0:=hc
     by_cases hr0:b9_ R b=0
     · exact hn (hz.low b (by omega)).1
     · rcases key b hr0 with hs|hs
       · exact hn (hSF b hs)
       · omega
 · show b9_ R b+ψ b≤1
   have q1:=eφ b;have q2:=h1 b;have:=iL_ R b
   by_cases h0:ψ b=0
   · omega
   · have:=elt b h0;omega
 · have hb:b9_ R b+ψ b≠0:=hb
   by_cases h0:ψ b=0
   · rcases key b (by omega) with hs|hs
     · exact .inl (by have:=eφ b;omega)
     · exact .inr hs
   · exact .inl (by have:=eφ b;omega)
theorem h9_ [ai_] {φ:Nat→Nat} (h1:∀ b,φ b≤1) (low:∀ b,φ b≠0→F b∧b<w.heap.size) {S:Value} (hSF:∀ b,b9_ S b≠0→F b) {t:TC} {zs:List (El t)} {L:List AV} {vals:List Value} {ψ:Nat→Nat}
  (hz:RL E w F L vals ψ) (hL:L.map AV.asView=aZ_ .v t zs) (eφ:∀ b,b9_ S b+ψ b≤φ b) {R:Value} (hR:w'.ownsRow 0 (E.eid t) t.width R zs.length vals) (hg:gu_ w w' (fun b=>b9_ S b≠0))
  (hRb:∀ b,b9_ R b≠0→(w.heap.size≤b∨b9_ S b≠0)∧b<w'.heap.size) :
  ∃ φ',RL E w' (fun b=>(F b∧φ b=0)∨φ' b≠0) [.sl .s t zs] [R] φ'∧(∀ b,φ' b≤1)∧(∀ b,φ' b≠0→φ b≠0∨w.heap.size≤b) ∧
    w'.os=w.os∧w'.tape=w.tape∧w'.output=w.output∧w.heap.size≤w'.heap.size∧∀ b,b<w.heap.size→φ b=0→w'.heap[b]?=w.heap[b]?:=by
 have key:∀ b,b9_ R b≠0→b9_ S b≠0∨w.heap.size≤b:=fun b hb=>(hRb b hb).1.symm
 have hv:=hz.seen (F':=fun b=>F b∧ψ b=0) (fun b hb hc=>hb hc.2) (fun b _ hn hc=>hn hc.1)
 rw [hL] at hv
 refine ⟨b9_ R,?_,iL_ R,fun b hb => ?_,hg.os,hg.tape,hg.output,hg.size,fun b hb h0=>hg.heap b hb fun hc=>hc (by have:=eφ b;omega)⟩
 · refine .own .s t zs R vals (fun _=>0) [] _ (fun _=>0) _ (by decide) hR ?_ (fun b hb=>.inr hb) (.nil _ fun _=>rfl) (fun b=>rfl)
   refine hv.frame hg.size (fun b hb=>absurd rfl hb) fun b hb hn=>⟨hg.heap b hb fun hc=>hn ⟨hSF b hc,by have:=eφ b;have:=h1 b;omega⟩,fun hc => ?_⟩
   rcases hc with ⟨hf,h0⟩|hc
   · exact hn ⟨hf,by have:=eφ b;omega⟩
   · rcases key b hc with hs|hs
     · exact hn ⟨hSF b hs,by have:=eφ b;have:=h1 b;omega⟩
     · omega
 · rcases key b hb with hs|hs
   · exact .inl (by have:=eφ b;omega)
   · exact .inr hs
theorem RL.int_inv {k n l v vs φ} (h:RL E w F (.i k n::l) (v::vs) φ):v = .int k n∧RL E w F l vs φ:=by
 cases h with
 |scal _ _ _ _ _ h1 h2=>exact ⟨h1,h2⟩
theorem codedD [ai_] {m:M} {t:TC} (zs:List (El t)):∀ a ∈ aZ_ m t zs,∃ m,a.coded m:=fun a ha=>⟨m,cL_ a ha⟩
theorem l6_ [ai_] {f:FuncId} {t:TC} {m1 m2:M} (hm1:m1 ≠ .v) (hm2:m2 ≠ .v) (h:InsM E.P f (E.eid t) t.width t.bytes) {xs ys:List (El t)} {i:Nat} (hi:i≤xs.length) (hb:(xs.length+ys.length)*t.bytes≤140737488355328) :
  c2_ E f [.sl m1 t xs,.i .i64 i,.sl m2 t ys] (.sl (M.both m1 m2) t (xs.take i++ys++xs.drop i)) [] [.o,.v,.o]:=by
 intro w F Vs φ hrl h1 hlow _
 have low:∀ b,φ b≠0→F b∧b<w.heap.size:=hrl.low
 obtain ⟨S,_,rfl⟩:=hrl.len_inv
 replace hrl:=hrl.own_inv hm1
 obtain ⟨vals,φx,φ2,hS,hx,hSF,hrl,e1⟩:=hrl
 obtain ⟨I,_,rfl⟩:=hrl.len_inv
 replace hrl:=hrl.int_inv
 obtain ⟨rfl,hrl⟩:=hrl
 obtain ⟨U,_,rfl⟩:=hrl.len_inv
 replace hrl:=hrl.own_inv hm2
 obtain ⟨us,φy,φ4,hU,hy,hUF,hrl,e3⟩:=hrl
 obtain ⟨rfl,e4⟩:=RL.nil_inv hrl
 have eφ:∀ b,φ b=b9_ S b+φx b+(b9_ U b+φy b):=fun b=>by rw [e1,e3,e4];omega
 refine (h w S xs.length vals U ys.length us i hS hU (fun b hb=>by have:=h1 b;have:=eφ b;omega) hi (hx.one (codedD _)) (hy.one (codedD _)) hb).mono ?_
 rintro e' w' ⟨R,rfl,hR,hg,hRb⟩
 have hx':RL E w F (aZ_ m1.sub t (xs.take i)++aZ_ m1.sub t (xs.drop i)) vals φx:=by rw [←cc_,List.take_append_drop];exact hx
 obtain ⟨va,vb,φa,φb,rfl,ha,hb',e6⟩:=hx'.split
 have hla:va.length=i*t.width:=by rw [←ha.length,cA_,List.length_take,Nat.min_eq_left hi]
 rw [←hla,List.take_left,List.drop_left] at hR
 have hz:RL E w F (aZ_ m1.sub t (xs.take i)++aZ_ m2.sub t ys++aZ_ m1.sub t (xs.drop i)) (va++us++vb) (fun b=>φa b+φy b+φb b) :=
  (ha.append hy (ψ:=fun b=>φa b+φy b) (fun b=>rfl)).append hb' (fun b=>rfl)
 have hl:(xs.take i++ys++xs.drop i).length=xs.length+ys.length:=by simp;omega
 have he:∀ b,b9_ S b+(φa b+φy b+φb b)≤φ b:=fun b=>by have:=eφ b;have:=e6 b;omega
 by_cases hd:m1 = .d∧m2 = .d
 · obtain ⟨rfl,rfl⟩:=hd
   have hz':RL E w F (aZ_ .d t (xs.take i++ys++xs.drop i)) (va++us++vb) (fun b=>φa b+φy b+φb b):=by
    rw [cc_,cc_];exact hz
   obtain ⟨φ',k1,k2⟩:=k9_ (S:=S) (R:=R) h1 low hSF hz' he (by rw [hl];exact hR) hg hRb
   exact ⟨R,φ',rfl,k1,k2⟩
 · have hb2:M.both m1 m2 = .s:=by cases m1<;>cases m2<;>first|rfl|exact absurd rfl hm1|exact absurd rfl hm2|exact absurd ⟨rfl,rfl⟩ hd
   rw [hb2]
   obtain ⟨φ',k1,k2⟩:=h9_ (S:=S) (R:=R) (t:=t) (zs:=xs.take i++ys++xs.drop i) h1 low hSF hz (by rw [List.map_append,List.map_append,dn_,dn_,dn_,cc_,cc_]) he (by rw [hl];exact hR) hg hRb
   exact ⟨R,φ',rfl,k1,k2⟩
theorem mj_ [ai_] {f:FuncId} {t:TC} {m:M} (hm0:m ≠ .v) (h:DelM E.P f (E.eid t) t.width) {xs:List (El t)} {i j:Nat} (hij:i≤j) (hj:j≤xs.length) :
  c2_ E f [.sl m t xs,.i .i64 i,.i .i64 j] (.sl (M.both m m) t (xs.take i++xs.drop j)) [] [.o,.v,.v]:=by
 intro w F Vs φ hrl h1 hlow _
 have low:∀ b,φ b≠0→F b∧b<w.heap.size:=hrl.low
 obtain ⟨S,_,rfl⟩:=hrl.len_inv
 replace hrl:=hrl.own_inv hm0
 obtain ⟨vals,φx,φ2,hS,hx,hSF,hrl,e1⟩:=hrl
 obtain ⟨I,_,rfl⟩:=hrl.len_inv
 replace hrl:=hrl.int_inv
 obtain ⟨rfl,hrl⟩:=hrl
 obtain ⟨J,_,rfl⟩:=hrl.len_inv
 replace hrl:=hrl.int_inv
 obtain ⟨rfl,hrl⟩:=hrl
 obtain ⟨rfl,e4⟩:=RL.nil_inv hrl
 have eφ:∀ b,φ b=b9_ S b+φx b:=fun b=>by rw [e1,e4];omega
 refine (h w S xs.length vals i j hS hij hj (hx.one (codedD _))).mono ?_
 rintro e' w' ⟨R,rfl,hR,hg,hRb⟩
 have hx':RL E w F (aZ_ m.sub t (xs.take i)++(aZ_ m.sub t ((xs.drop i).take (j - i))++aZ_ m.sub t (xs.drop j))) vals φx:=by
  rw [←cc_,←cc_]
  have:xs.drop j=(xs.drop i).drop (j - i):=by rw [List.drop_drop];congr 1;omega
  rw [this,List.take_append_drop,List.take_append_drop];exact hx
 obtain ⟨va,vc,φa,φc,rfl,ha,hc,e6⟩:=hx'.split
 obtain ⟨vm,vb,φm,φb,rfl,hm,hb',e7⟩:=hc.split
 have hla:va.length=i*t.width:=by rw [←ha.length,cA_,List.length_take,Nat.min_eq_left (by omega)]
 have hlm:vm.length=(j - i)*t.width:=by rw [←hm.length,cA_,List.length_take,List.length_drop,Nat.min_eq_left (by omega)]
 have hlj:(va++vm).length=j*t.width:=by rw [List.length_append,hla,hlm,←Nat.add_mul];congr 1;omega
 rw [←hla,List.take_left,←hlj,←List.append_assoc,List.drop_left] at hR
 have hz:RL E w F (aZ_ m.sub t (xs.take i)++aZ_ m.sub t (xs.drop j)) (va++vb) (fun b=>φa b+φb b):=ha.append hb' (fun b=>rfl)
 have hl:(xs.take i++xs.drop j).length=xs.length - (j - i):=by simp;omega
 have he:∀ b,b9_ S b+(φa b+φb b)≤φ b:=fun b=>by have:=eφ b;have:=e6 b;have:=e7 b;omega
 cases m with
 |v=>exact absurd rfl hm0
 |d=>
  have hz':RL E w F (aZ_ .d t (xs.take i++xs.drop j)) (va++vb) (fun b=>φa b+φb b):=by
   rw [cc_];exact hz
  obtain ⟨φ',k1,k2⟩:=k9_ (S:=S) (R:=R) h1 low hSF hz' he (by rw [hl];exact hR) hg hRb
  exact ⟨R,φ',rfl,k1,k2⟩
 |s=>
  obtain ⟨φ',k1,k2⟩:=h9_ (S:=S) (R:=R) (t:=t) (zs:=xs.take i++xs.drop j) h1 low hSF hz (by rw [List.map_append,dn_,dn_,cc_]) he (by rw [hl];exact hR) hg hRb
  exact ⟨R,φ',rfl,k1,k2⟩
theorem nDel_ok [ai_] {f:FuncId} {t:TC} {m:M} (hm0:m ≠ .v) (h:DelM E.P f (E.eid t) t.width) {xs r:List (El t)} {i j:Int} (hr:gj_ xs i j=some r) :
  c2_ E f [.sl m t xs,.i .i64 i,.i .i64 j] (.sl (M.both m m) t r) [] [.o,.v,.v]:=by
 unfold gj_ at hr
 by_cases hc:0≤i∧i≤j∧j≤(xs.length:Int)
 · obtain ⟨h1,h2,h3⟩:=hc
   obtain ⟨i,rfl⟩:=Int.eq_ofNat_of_zero_le h1
   obtain ⟨j,rfl⟩:=Int.eq_ofNat_of_zero_le (Int.le_trans h1 h2)
   simp only [h1,h2,h3,decide_true,Bool.and_true,cond_true,Option.some.injEq] at hr
   subst hr
   exact mj_ hm0 h (by omega) (by omega)
 · have:(decide (0≤i)&&(decide (i≤j)&&decide (j≤(xs.length:Int))))=false:=by
    rw [Bool.eq_false_iff];intro h;simp only [Bool.and_eq_true,decide_eq_true_eq] at h;exact hc h
   rw [this] at hr;cases hr
theorem nIns_ok [ai_] {f:FuncId} {t:TC} {m1 m2:M} (hm1:m1 ≠ .v) (hm2:m2 ≠ .v) (h:InsM E.P f (E.eid t) t.width t.bytes) {xs ys r:List (El t)} {i:Int} (hr:gi_ t.bytes xs i ys=some r) :
  c2_ E f [.sl m1 t xs,.i .i64 i,.sl m2 t ys] (.sl (M.both m1 m2) t r) [] [.o,.v,.o]:=by
 unfold gi_ at hr
 by_cases hc:0≤i∧i≤(xs.length:Int)
 · obtain ⟨h1,h2⟩:=hc
   obtain ⟨i,rfl⟩:=Int.eq_ofNat_of_zero_le h1
   by_cases hb:(xs.length+ys.length)*t.bytes≤140737488355328
   · simp only [h1,h2,hb,decide_true,Bool.and_true,cond_true,Option.some.injEq] at hr
     subst hr
     exact l6_ hm1 hm2 h (by omega) hb
   · simp [h1,h2,hb] at hr
 · have:(decide (0≤i)&&decide (i≤(xs.length:Int)))=false:=by
    rw [Bool.eq_false_iff];intro h;simp only [Bool.and_eq_true,decide_eq_true_eq] at h;exact hc h
   rw [this] at hr;cases hr
end Go.Pi
end
section
namespace Go.Proofs
open Go.Shelf Go.RowKit Go.Lib Go.Pi
section
variable {P:Program}
theorem ev_ {ops:Array Oper} {o:Oper} {a:Act} {w:World} {K:Act→World→Prop} {Q:Exit→Act→World→Prop} {E:Prop}
  (hg:o.guard=none) (d x:Operand) (dT sT:TypeId) (hop:o.op=Op.call { callee:=Callee.builtin Builtin.append,args:=#[d,x],argTypes:=#[dT,sT] })
  (v u:Value) (hd:a.eval d=v) (hx:a.eval x=u) {v':Value} {w':World} (hr:(Builtin.append_ #[dT,sT] o.type #[v,u]).run P w = .ok v' w') (hK:K (a.put o.dst v') w') :
  if Region.wanted o (yielded ops a.tmps)=true then Oper.wp P o a w K Q else E:=by
 have hw:Region.wanted o (yielded ops a.tmps)=true:=by simp [Region.wanted,hg]
 rw [if_pos hw]
 unfold Oper.wp
 simp [execOp,hop,resolve,invoke,builtin,hd,hx,hr,Result.andThen]
 exact hK
theorem lN_ (w:World) {ops:Array Oper} {eH_:List Oper} {o:Oper} {a:Act} {Q:Exit→Act→World→Prop} (hgd:o.guard=none) (d:Operand) (t:TypeId)
  (ho:o.op = .call { callee:=.builtin .clear,args:=#[d],argTypes:=#[t] }) (v:Value) (hd:a.eval d=v) {v':Value} {w':World}
  (hr:(Builtin.clear_ #[t] o.type #[v]).run P w = .ok v' w') (h:wpList P ops Q eH_ (a.put o.dst v') w'):wpList P ops Q (o::eH_) a w :=
 wpList_plain hgd fun _ hK=>by
  unfold Oper.wp execOp
  simp only [ho,resolve,invoke,builtin,Sem.run_bind,Sem.run_pure,Result.andThen_ok,List.map_toArray,List.map_cons,List.map_nil,hd,hr]
  exact hK _ _ h
theorem hh_ (w:World) (t e ty:TypeId) (z:Value) (ht:P.underlying t=some (.slice e)) (hv:∀ w,(zeroValue e).run P w = .ok z w) (g o n c:Nat) (hn:0<n) (cur:Array Value) (T:TypeId) (hg:w.heap[g]?=some (.cells cur T (0,0)))
  (hfit:o+(Builtin.zeroCells z.cells n).toList.length≤cur.size) (h1:∀ v ∈ (Builtin.zeroCells z.cells n).toList,v.oneCell'=true) :
  (Builtin.clear_ #[t] ty #[.slice (some ⟨g,o,none⟩) n c]).run P w = .ok (.tuple #[]) (w.setRow g (cur.toList.take o++(Builtin.zeroCells z.cells n).toList++cur.toList.drop (o+(Builtin.zeroCells z.cells n).toList.length)).toArray):=by
 have hst:=run_storeCells_at P g o T (Builtin.zeroCells z.cells n).toList 0 cur w hg (by simpa using hfit) h1
 obtain ⟨m,rfl⟩:∃ m,n=m+1:=⟨n - 1,by omega⟩
 simp only [Builtin.clear_,run_underlying ht,Sem.run_bind,Result.andThen_ok,hv]
 simp only [List.getElem?_toArray,List.getElem?_cons_zero,Sem.run_bind,run_underlying ht,Result.andThen_ok,hv,hst,Nat.add_zero,Sem.run_pure]
end
theorem eu_ (w:World) {P:Program} {ops:Array Oper} {eH_:List Oper} {o:Oper} {a:Act} {Q:Exit→Act→World→Prop} (hgd:o.guard=none) (d s:Operand) (t t':TypeId)
  (ho:o.op = .call { callee:=.builtin .copy,args:=#[d,s],argTypes:=#[t,t'] }) (v u:Value) (hd:a.eval d=v) (hs:a.eval s=u) {v':Value} {w':World}
  (hr:(Builtin.copy_ #[t,t'] o.type #[v,u]).run P w = .ok v' w') (h:wpList P ops Q eH_ (a.put o.dst v') w'):wpList P ops Q (o::eH_) a w :=
 wpList_plain hgd fun _ hK=>by
  unfold Oper.wp execOp
  simp only [ho,resolve,invoke,builtin,Sem.run_bind,Sem.run_pure,Result.andThen_ok,List.map_toArray,List.map_cons,List.map_nil,hd,hs,hr]
  exact hK _ _ h
theorem dp_ {P:Program} {ops:Array Oper} {o:Oper} {a:Act} {w:World} {K:Act→World→Prop} {Q:Exit→Act→World→Prop} {E:Prop}
  (hg:o.guard=none) (d x:Operand) (dT sT:TypeId) (hop:o.op=Op.call { callee:=Callee.builtin Builtin.copy,args:=#[d,x],argTypes:=#[dT,sT] })
  (v u:Value) (hd:a.eval d=v) (hx:a.eval x=u) {v':Value} {w':World} (hr:(Builtin.copy_ #[dT,sT] o.type #[v,u]).run P w = .ok v' w') (hK:K (a.put o.dst v') w') :
  if Region.wanted o (yielded ops a.tmps)=true then Oper.wp P o a w K Q else E:=by
 have hw:Region.wanted o (yielded ops a.tmps)=true:=by simp [Region.wanted,hg]
 rw [if_pos hw]
 unfold Oper.wp
 simp [execOp,hop,resolve,invoke,builtin,hd,hx,hr,Result.andThen]
 exact hK
theorem cO_ {P:Program} (w:World) (dT sT ty elem:TypeId) (k:Nat) (g o dLen dCap:Nat) (a:Addr) (sLen sCap:Nat) (cur:Array Value) (t:TypeId) (cs:List Value)
  (hu:P.underlying dT=some (.slice elem)) (hs:(P.info? elem).map (·.size)=some k)
  (hg:w.heap[g]?=some (.cells cur t (0,0))) (hn:cs.length=Nat.min sLen dLen*k)
  (hsrc:∀ j v,cs[j]?=some v→w.cell? (a.add j)=some v) (hfit:o+cs.length≤cur.size) (h1:∀ v ∈ cs,v.oneCell'=true) :
  (Builtin.copy_ #[dT,sT] ty #[.slice (some ⟨g,o,none⟩) dLen dCap,.slice (some a) sLen sCap]).run P w =
   .ok (goInt (Nat.min sLen dLen)) (w.setRow g (cur.toList.take o++cs++cur.toList.drop (o+cs.length)).toArray):=by
 have hl:=run_loadCells_list (P:=P) w a cs hsrc
 have hst:=run_storeCells_at P g o t cs 0 cur w hg (by simpa using hfit) h1
 cases hq:P.info? elem with
 |none=>simp [hq] at hs
 |some i=>
  have hi:i.size=k:=by simpa [hq] using hs
  simp [Builtin.copy_,run_underlying hu,Builtin.lenOf,Builtin.firstCells,sizeOf,typeInfo,hq,hi,←hn,hl,hst]
theorem zc_one (cs:Array Value) (h:cs.toList.all Value.oneCell'=true) (n:Nat):∀ v ∈ (Builtin.zeroCells cs n).toList,v.oneCell'=true:=by
 intro v hv
 simp only [Builtin.zeroCells,Array.toList_map,List.mem_map,Array.toList_range,List.mem_range] at hv
 obtain ⟨x,hx,rfl⟩:=hv
 have h0:0<cs.size:=Nat.pos_of_mul_pos_left (by omega:0<n*cs.size)
 have:x % cs.size<cs.size:=Nat.mod_lt _ h0
 rw [getElem!_pos cs _ this]
 exact List.all_eq_true.1 h _ (by simp)
theorem iK_ {w:World} {e:TypeId} {K:Nat} {S:Value} {n:Nat} {vals:List Value} (h:w.ownsRow 0 e K S n vals):∀ b,b9_ S b≠0→b<w.heap.size:=by
 intro b hb
 rcases h.2 with ⟨rfl,_⟩|⟨g,cap,cur,rfl,_,hg,_⟩
 · simp [b9_] at hb
 · have:g=b:=by simp only [b9_] at hb;exact Classical.byContradiction fun h=>hb (if_neg h)
   subst this
   exact (Array.getElem?_eq_some_iff.1 hg).1
theorem f4_ (w:World) (g:Nat) (A:Array Value):w.heap.size≤(w.drew.setRow g A).heap.size:=by
 have:(w.drew.setRow g A).heap.size=w.drew.heap.size:=by simp [World.setRow]
 rw [this];exact Nat.le_refl _
theorem cP_ {w:World} {e:TypeId} {v:Value} {n:Nat} {xs:List Value}:w.ownsRow 0 e 1 v n xs ↔
  (xs.length=n∧(v = .slice none 0 0∧n=0∨∃ g cap cur,v = .slice (some ⟨g,0,none⟩) n cap∧0≤g∧w.heap[g]?=some (.cells cur e (0,0))∧n≤cap∧cap≤maxLen∧cur.size=cap∧cur.toList.take n=xs)):=by
 unfold World.ownsRow
 simp only [Nat.mul_one]
end Go.Proofs
end
