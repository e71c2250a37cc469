/- SessTake of the program returns what SessTake of the reference returns, for all arguments. Text 4 of 8. -/
import Derived.Test.YtinngjbiigjkoaaGreatDoorStC
set_option linter.unusedVariables false
set_option maxRecDepth 100000
section
namespace Go.Pi
def cZ_:Nat→(List aP_)→Int→Option Int
 |0,_,_=>none
 |n+1,a,left=>
  (cond (decide ((W (left - (a.length:Int)))<0)) (some (-1)) (some (W (left - (a.length:Int)))))
def di_:Nat→(List Int)→Int→Option Int
 |0,_,_=>none
 |n+1,a,left=>
  (cond (decide ((W (left - (a.length:Int)))<0)) (some (-1)) (some (W (left - (a.length:Int)))))
def cY_:Nat→aT_→Int→Option Int
 |0,_,_=>none
 |n+1,a,left=>
  ((cZ_ n a.where_ left).bind fun xr1=>(cond (decide (xr1<0)) (some (-1)) ((di_ n a.show_ xr1).bind fun xr2=>(cond (decide (xr2<0)) (some (-1)) (some xr2)))))
def dM_:Nat→TRow→Int→Option Int
 |0,_,_=>none
 |n+1,a,left=>
  ((di_ n a.cells left).bind fun xr1=>(cond (decide (xr1<0)) (some (-1)) (some xr1)))
def bi_.step7 (n:Nat) (k0:Int→Option Int) (back:(List TRow)→Int→Int→Option Int) (a:List TRow) (left:Int) (i:Int):Option Int :=
 (cond (decide (i<(a.length:Int))) (inB i a.length ((dM_ n (a.getD i.toNat TRow.dflt) left).bind fun xr1=>(cond (decide (xr1<0)) (some (-1)) (back a xr1 (W (i+1)))))) (k0 left))
def bi_.loop7 (n:Nat) (k0:Int→Option Int) (N:Nat):(List TRow)→Int→Int→Option Int :=
 dp_ (fun _ _ _=>none) (fun back=>bi_.step7 n k0 back) N
def bi_:Nat→(List TRow)→Int→Option Int
 |0,_,_=>none
 |n+1,a,left=>
  (cond (decide ((W (left - (a.length:Int)))<0)) (some (-1)) (bi_.loop7 n (fun xy2=>(some xy2)) n a (W (left - (a.length:Int))) 0))
def dr_:Nat→(List TKid)→Int→Option Int
 |0,_,_=>none
 |n+1,a,left=>
  (cond (decide ((W (left - (a.length:Int)))<0)) (some (-1)) (some (W (left - (a.length:Int)))))
def dh_:Nat→bB_→Int→Option Int
 |0,_,_=>none
 |n+1,a,left=>
  ((cY_ n a.q left).bind fun xr1=>(cond (decide (xr1<0)) (some (-1)) ((bi_ n a.rows xr1).bind fun xr2=>(cond (decide (xr2<0)) (some (-1)) ((dr_ n a.kids xr2).bind fun xr3=>(cond (decide (xr3<0)) (some (-1)) (some xr3)))))))
def dq_:Nat→bZ_→Int→Option Int
 |0,_,_=>none
 |n+1,a,left=>
  ((dh_ n a.view left).bind fun xr1=>(cond (decide (xr1<0)) (some (-1)) ((dh_ n a.last xr1).bind fun xr2=>(cond (decide (xr2<0)) (some (-1)) (some xr2)))))
def dg_:Nat→aP_→Option aP_
 |0,_=>none
 |n+1,a=>
  (some a)
def a4_.step4 (n:Nat) (k0:(List aP_)→Option (List aP_)) (back:(List aP_)→Int→(List aP_)→Option (List aP_)) (a:List aP_) (i:Int) (out_1:List aP_):Option (List aP_) :=
 (cond (decide (i<(a.length:Int))) (inB i a.length ((dg_ n (a.getD i.toNat aP_.dflt)).bind fun xr1=>(inB i out_1.length (let xa2:List aP_:=out_1.set i.toNat xr1;(back a (W (i+1)) xa2))))) (k0 out_1))
def a4_.loop4 (n:Nat) (k0:(List aP_)→Option (List aP_)) (N:Nat):(List aP_)→Int→(List aP_)→Option (List aP_) :=
 dp_ (fun _ _ _=>none) (fun back=>a4_.step4 n k0 back) N
def a4_:Nat→(List aP_)→Option (List aP_)
 |0,_=>none
 |n+1,a=>
  (cond (decide ((a.length:Int)=(a.length:Int))) (cond (decide (0≤(a.length:Int))) (cond (decide ((a.length:Int)*24≤140737488355328)) (a4_.loop4 n (fun xy3=>(some xy3)) n a 0 (List.replicate (a.length:Int).toNat aP_.dflt)) none) none) none)
def bh_.step4 (n:Nat) (k0:(List Int)→Option (List Int)) (back:(List Int)→Int→(List Int)→Option (List Int)) (a:List Int) (i:Int) (out_1:List Int):Option (List Int) :=
 (cond (decide (i<(a.length:Int))) (inB i a.length (inB i out_1.length (let xa1:List Int:=out_1.set i.toNat (a.getD i.toNat 0);(back a (W (i+1)) xa1)))) (k0 out_1))
def bh_.loop4 (n:Nat) (k0:(List Int)→Option (List Int)) (N:Nat):(List Int)→Int→(List Int)→Option (List Int) :=
 dp_ (fun _ _ _=>none) (fun back=>bh_.step4 n k0 back) N
def bh_:Nat→(List Int)→Option (List Int)
 |0,_=>none
 |n+1,a=>
  (cond (decide ((a.length:Int)=(a.length:Int))) (cond (decide (0≤(a.length:Int))) (cond (decide ((a.length:Int)*8≤140737488355328)) (bh_.loop4 n (fun xy2=>(some xy2)) n a 0 (List.replicate (a.length:Int).toNat 0)) none) none) none)
def cQ_:Nat→aT_→Option aT_
 |0,_=>none
 |n+1,a=>
  ((a4_ n a.where_).bind fun xr1=>((bh_ n a.show_).bind fun xr2=>(some { a with where_:=xr1,show_:=xr2 })))
def dD_:Nat→TRow→Option TRow
 |0,_=>none
 |n+1,a=>
  ((bh_ n a.cells).bind fun xr1=>(some (TRow.mk a.id_ xr1)))
def bk_.step4 (n:Nat) (k0:(List TRow)→Option (List TRow)) (back:(List TRow)→Int→(List TRow)→Option (List TRow)) (a:List TRow) (i:Int) (out_1:List TRow):Option (List TRow) :=
 (cond (decide (i<(a.length:Int))) (inB i a.length ((dD_ n (a.getD i.toNat TRow.dflt)).bind fun xr1=>(inB i out_1.length (let xa2:List TRow:=out_1.set i.toNat xr1;(back a (W (i+1)) xa2))))) (k0 out_1))
def bk_.loop4 (n:Nat) (k0:(List TRow)→Option (List TRow)) (N:Nat):(List TRow)→Int→(List TRow)→Option (List TRow) :=
 dp_ (fun _ _ _=>none) (fun back=>bk_.step4 n k0 back) N
def bk_:Nat→(List TRow)→Option (List TRow)
 |0,_=>none
 |n+1,a=>
  (cond (decide ((a.length:Int)=(a.length:Int))) (cond (decide (0≤(a.length:Int))) (cond (decide ((a.length:Int)*32≤140737488355328)) (bk_.loop4 n (fun xy3=>(some xy3)) n a 0 (List.replicate (a.length:Int).toNat TRow.dflt)) none) none) none)
def dE_:Nat→TKid→Option TKid
 |0,_=>none
 |n+1,a=>
  (some a)
def bl_.step4 (n:Nat) (k0:(List TKid)→Option (List TKid)) (back:(List TKid)→Int→(List TKid)→Option (List TKid)) (a:List TKid) (i:Int) (out_1:List TKid):Option (List TKid) :=
 (cond (decide (i<(a.length:Int))) (inB i a.length ((dE_ n (a.getD i.toNat TKid.dflt)).bind fun xr1=>(inB i out_1.length (let xa2:List TKid:=out_1.set i.toNat xr1;(back a (W (i+1)) xa2))))) (k0 out_1))
def bl_.loop4 (n:Nat) (k0:(List TKid)→Option (List TKid)) (N:Nat):(List TKid)→Int→(List TKid)→Option (List TKid) :=
 dp_ (fun _ _ _=>none) (fun back=>bl_.step4 n k0 back) N
def bl_:Nat→(List TKid)→Option (List TKid)
 |0,_=>none
 |n+1,a=>
  (cond (decide ((a.length:Int)=(a.length:Int))) (cond (decide (0≤(a.length:Int))) (cond (decide ((a.length:Int)*16≤140737488355328)) (bl_.loop4 n (fun xy3=>(some xy3)) n a 0 (List.replicate (a.length:Int).toNat TKid.dflt)) none) none) none)
def c3_:Nat→bB_→Option bB_
 |0,_=>none
 |n+1,a=>
  ((cQ_ n a.q).bind fun xr1=>((bk_ n a.rows).bind fun xr2=>((bl_ n a.kids).bind fun xr3=>(some (bB_.mk xr1 xr2 xr3)))))
def cK_:Nat→bZ_→Option bZ_
 |0,_=>none
 |n+1,a=>
  ((c3_ n a.view).bind fun xr1=>((c3_ n a.last).bind fun xr2=>(some { a with view:=xr1,last:=xr2 })))
def db_:Nat→aT_→Option aT_
 |0,_=>none
 |n+1,q=>
  (cJ_ (([]:List aP_).length+q.where_.length) 24 (cJ_ (([]:List Int).length+q.show_.length) 8 (some { q with where_:=(([]:List aP_)++q.where_),show_:=(([]:List Int)++q.show_) })))
def dd_:Nat→TRow→Option TRow
 |0,_=>none
 |n+1,r=>
  (cJ_ (([]:List Int).length+r.cells.length) 8 (some (TRow.mk r.id_ (([]:List Int)++r.cells))))
def bv_.step4 (n:Nat) (k0:(List TRow)→Option (List TRow)) (back:(List TRow)→Int→(List TRow)→Option (List TRow)) (rows:List TRow) (i:Int) (out_1:List TRow):Option (List TRow) :=
 (cond (decide (i<(rows.length:Int))) (inB i rows.length ((dd_ n (rows.getD i.toNat TRow.dflt)).bind fun xr1=>(cJ_ (out_1.length+([xr1]:List TRow).length) 32 (back rows (W (i+1)) (out_1++([xr1]:List TRow)))))) (k0 out_1))
def bv_.loop4 (n:Nat) (k0:(List TRow)→Option (List TRow)) (N:Nat):(List TRow)→Int→(List TRow)→Option (List TRow) :=
 dp_ (fun _ _ _=>none) (fun back=>bv_.step4 n k0 back) N
def bv_:Nat→(List TRow)→Option (List TRow)
 |0,_=>none
 |n+1,rows=>
  (bv_.loop4 n (fun xy2=>(some xy2)) n rows 0 ([]:List TRow))
def cj_:Nat→bB_→Option bB_
 |0,_=>none
 |n+1,v=>
  ((db_ n v.q).bind fun xr1=>((bv_ n v.rows).bind fun xr2=>(cJ_ (([]:List TKid).length+v.kids.length) 16 (some (bB_.mk xr1 xr2 (([]:List TKid)++v.kids))))))
def cN_:Nat→bZ_→Option bZ_
 |0,_=>none
 |n+1,x=>
  ((cj_ n x.view).bind fun xr1=>((cj_ n x.last).bind fun xr2=>(some { x with view:=xr1,last:=xr2 })))
def bp_.step3 (n:Nat) (k0:Option Int) (back:Int→Int→Int→(List aP_)→Int→Bool→Int→(List Int)→Bool→Int→Int→(List TRow)→(List TKid)→Option Int) (id_1:Int) (i:Int) (v0:Int) (v1:List aP_) (v2:Int) (v3:Bool) (v4:Int) (v5:List Int) (v6:Bool) (v7:Int) (v8:Int) (v9:List TRow) (v10:List TKid):Option Int :=
 (cond (decide (i<(v10.length:Int))) (inB i v10.length (cond (((v10.getD i.toNat TKid.dflt).id_) == id_1) (inB i v10.length (some ((v10.getD i.toNat TKid.dflt).n_))) (back id_1 (W (i+1)) v0 v1 v2 v3 v4 v5 v6 v7 v8 v9 v10))) k0)
def bp_.loop3 (n:Nat) (k0:Option Int) (N:Nat):Int→Int→Int→(List aP_)→Int→Bool→Int→(List Int)→Bool→Int→Int→(List TRow)→(List TKid)→Option Int :=
 dp_ (fun _ _ _ _ _ _ _ _ _ _ _ _ _=>none) (fun back=>bp_.step3 n k0 back) N
def bp_:Nat→bB_→Int→Option Int
 |0,_,_=>none
 |n+1,v,id1=>
  (bp_.loop3 n (some 0) n id1 0 v.q.table v.q.where_ v.q.order v.q.down v.q.first v.q.show_ v.q.kids v.q.kidTable v.q.kidCol v.rows v.kids)
def aO_.step4 (n:Nat) (k0:(List Int)→Option (List Int)) (back:Int→Int→(List aP_)→Int→Bool→Int→(List Int)→Bool→Int→Int→(List TRow)→(List TKid)→(List Int)→Option (List Int)) (i:Int) (v0:Int) (v1:List aP_) (v2:Int) (v3:Bool) (v4:Int) (v5:List Int) (v6:Bool) (v7:Int) (v8:Int) (v9:List TRow) (v10:List TKid) (out_1:List Int):Option (List Int) :=
 (cond (decide (i<(v9.length:Int))) (inB i v9.length ((bp_ n (bB_.mk (aT_.mk v0 v1 v2 v3 v4 v5 v6 v7 v8) v9 v10) ((v9.getD i.toNat TRow.dflt).id_)).bind fun xr1=>(cJ_ (out_1.length+([xr1]:List Int).length) 8 (back (W (i+1)) v0 v1 v2 v3 v4 v5 v6 v7 v8 v9 v10 (out_1++([xr1]:List Int)))))) (k0 out_1))
def aO_.loop4 (n:Nat) (k0:(List Int)→Option (List Int)) (N:Nat):Int→Int→(List aP_)→Int→Bool→Int→(List Int)→Bool→Int→Int→(List TRow)→(List TKid)→(List Int)→Option (List Int) :=
 dp_ (fun _ _ _ _ _ _ _ _ _ _ _ _ _=>none) (fun back=>aO_.step4 n k0 back) N
def aO_:Nat→bB_→Option (List Int)
 |0,_=>none
 |n+1,v=>
  (aO_.loop4 n (fun xy2=>(some xy2)) n 0 v.q.table v.q.where_ v.q.order v.q.down v.q.first v.q.show_ v.q.kids v.q.kidTable v.q.kidCol v.rows v.kids ([]:List Int))
def dA_:Nat→Int→Int→Option Int
 |0,_,_=>none
 |n+1,a,b=>
  (cond (decide (a<b)) (some a) (some b))
def dB_:Nat→Int→Int→Option Int
 |0,_,_=>none
 |n+1,a,b=>
  (cond (decide (a > b)) (some a) (some b))
def cl_:Nat→aT_→Int→Option Int
 |0,_,_=>none
 |n+1,q,n1=>
  (cond (q.first == 0) (some n1) ((dA_ n n1 q.first).bind fun xr1=>((dB_ n xr1 0).bind fun xr2=>(some xr2))))
def aN_.step7 (n:Nat) (k0:Bool→Bs→Option Bs) (back:Int→Bool→Bs→Option Bs) (n_1:Int) (below:Bool) (out_1:Bs):Option Bs :=
 (cond (n_1 != 0) (cond (decide ((Int.tmod n_1 10)<0)) (let xv1:Bs:=(ly_ ([(IntKind.u8.wrap ((W (48+(W (0 - (Int.tmod n_1 10)))))))]:List Int));(cond (decide (xv1.length+out_1.length≤9223372036854775807)) (back (W (Int.tdiv n_1 10)) below (xv1++out_1)) none)) (cond (decide ((ly_ ([(IntKind.u8.wrap ((W (48+(Int.tmod n_1 10)))))]:List Int)).length+out_1.length≤9223372036854775807)) (let xv2:Bs:=((ly_ ([(IntKind.u8.wrap ((W (48+(Int.tmod n_1 10)))))]:List Int))++out_1);(back (W (Int.tdiv n_1 10)) below xv2)) none)) (k0 below out_1))
def aN_.loop7 (n:Nat) (k0:Bool→Bs→Option Bs) (N:Nat):Int→Bool→Bs→Option Bs :=
 dp_ (fun _ _ _=>none) (fun back=>aN_.step7 n k0 back) N
def aN_:Nat→Int→Option Bs
 |0,_=>none
 |n+1,n1=>
  (cond (n1 == 0) (some [48]) (aN_.loop7 n (fun xy3 xy4=>(cond xy3 (cond (decide ([45].length+xy4.length≤9223372036854775807)) (some (([45]:Bs)++xy4)) none) (some xy4))) n n1 (decide (n1<0)) []))
def dy_:Nat→Int→Int→Int→Option Bool
 |0,_,_,_=>none
 |n+1,x,lo,hi=>
  (cond (decide (x≥lo)) (some (decide (x≤hi))) (some false))
def dc_:Nat→TRow→Int→Option Int
 |0,_,_=>none
 |n+1,r,col=>
  ((dy_ n col 0 (W ((r.cells.length:Int) - 1))).bind fun xr1=>(cond (!xr1) (some 0) (inB col r.cells.length (some (r.cells.getD col.toNat 0)))))
def cv_:Nat→Int→Option aa_
 |0,_=>none
 |n+1,n1=>
  (some (aa_.mk 2 n1 [] ([]:List aa_) ([]:List Bs)))
def bz_.step5 (n:Nat) (k0:Bs→Bool→Int→Int→Bs→(List aa_)→(List Bs)→Int→Int→Bs→Int→Int→Bs→(List aa_)→(List Bs)→Option aa_) (back:Bs→Bool→Int→Int→Int→Bs→(List aa_)→(List Bs)→Int→Int→Bs→(List aa_)→(List Bs)→Int→Int→Bs→Int→Int→Bs→(List aa_)→(List Bs)→Option aa_) (append:Bs) (t8:Bool) (t9:Int) (t30:Int) (t31:Int) (t32:Bs) (t33:List aa_) (t34:List Bs) (t50:Int) (t51:Int) (t52:Bs) (t53:List aa_) (t54:List Bs) (t60:Int) (t61:Int) (t62:Bs) (t70:Int) (t71:Int) (t72:Bs) (t73:List aa_) (t74:List Bs):Option aa_ :=
 (cond (decide (t9<(t34.length:Int))) (cond (!t8) (inB t9 t34.length (cond (!Op.bytesLess (t34.getD t9.toNat []) append) (cJ_ (t74.length+([append]:List Bs).length) 16 (cJ_ (t73.length+([(aa_.mk t50 t51 t52 t53 t54)]:List aa_).length) 80 (inB t9 t34.length (cond (!((t34.getD t9.toNat []) == append)) (inB t9 t34.length (cJ_ ((t74++([append]:List Bs)).length+([(t34.getD t9.toNat [])]:List Bs).length) 16 (inB t9 t33.length (cJ_ ((t73++([(aa_.mk t50 t51 t52 t53 t54)]:List aa_)).length+([(aa_.re (t33.getD t9.toNat aa_.dflt))]:List aa_).length) 80 (back append true (W (t9+1)) t30 t31 t32 t33 t34 t50 t51 t52 t53 t54 t60 t61 t62 t70 t71 t72 ((t73++([(aa_.mk t50 t51 t52 t53 t54)]:List aa_))++([(aa_.re (t33.getD t9.toNat aa_.dflt))]:List aa_)) ((t74++([append]:List Bs))++([(t34.getD t9.toNat [])]:List Bs))))))) (back append true (W (t9+1)) t30 t31 t32 t33 t34 t50 t51 t52 t53 t54 t60 t61 t62 t70 t71 t72 (t73++([(aa_.mk t50 t51 t52 t53 t54)]:List aa_)) (t74++([append]:List Bs))))))) (inB t9 t34.length (cond (!((t34.getD t9.toNat []) == append)) (inB t9 t34.length (cJ_ (t74.length+([(t34.getD t9.toNat [])]:List Bs).length) 16 (inB t9 t33.length (cJ_ (t73.length+([(aa_.re (t33.getD t9.toNat aa_.dflt))]:List aa_).length) 80 (back append t8 (W (t9+1)) t30 t31 t32 t33 t34 t50 t51 t52 t53 t54 t60 t61 t62 t70 t71 t72 (t73++([(aa_.re (t33.getD t9.toNat aa_.dflt))]:List aa_)) (t74++([(t34.getD t9.toNat [])]:List Bs))))))) (back append t8 (W (t9+1)) t30 t31 t32 t33 t34 t50 t51 t52 t53 t54 t60 t61 t62 t70 t71 t72 t73 t74))))) (inB t9 t34.length (cond (!((t34.getD t9.toNat []) == append)) (inB t9 t34.length (cJ_ (t74.length+([(t34.getD t9.toNat [])]:List Bs).length) 16 (inB t9 t33.length (cJ_ (t73.length+([(aa_.re (t33.getD t9.toNat aa_.dflt))]:List aa_).length) 80 (back append t8 (W (t9+1)) t30 t31 t32 t33 t34 t50 t51 t52 t53 t54 t60 t61 t62 t70 t71 t72 (t73++([(aa_.re (t33.getD t9.toNat aa_.dflt))]:List aa_)) (t74++([(t34.getD t9.toNat [])]:List Bs))))))) (back append t8 (W (t9+1)) t30 t31 t32 t33 t34 t50 t51 t52 t53 t54 t60 t61 t62 t70 t71 t72 t73 t74)))) (k0 append t8 t50 t51 t52 t53 t54 t60 t61 t62 t70 t71 t72 t73 t74))
def bz_.loop5 (n:Nat) (k0:Bs→Bool→Int→Int→Bs→(List aa_)→(List Bs)→Int→Int→Bs→Int→Int→Bs→(List aa_)→(List Bs)→Option aa_) (N:Nat):Bs→Bool→Int→Int→Int→Bs→(List aa_)→(List Bs)→Int→Int→Bs→(List aa_)→(List Bs)→Int→Int→Bs→Int→Int→Bs→(List aa_)→(List Bs)→Option aa_ :=
 dp_ (fun _ _ _ _ _ _ _ _ _ _ _ _ _ _ _ _ _ _ _ _ _=>none) (fun back=>bz_.step5 n k0 back) N
def bz_:Nat→aa_→Bs→aa_→Option aa_
 |0,_,_,_=>none
 |n+1,o,append,a2=>
  (bz_.loop5 n (fun xy1 xy2 xy3 xy4 xy5 xy6 xy7 xy8 xy9 xy10 xy11 xy12 xy13 xy14 xy15=>(cond (!xy2) (cJ_ (xy15.length+([xy1]:List Bs).length) 16 (cJ_ (xy14.length+([(aa_.mk xy3 xy4 xy5 xy6 xy7)]:List aa_).length) 80 (some (aa_.mk xy11 xy12 xy13 (xy14++([(aa_.mk xy3 xy4 xy5 xy6 xy7)]:List aa_)) (xy15++([xy1]:List Bs)))))) (some (aa_.mk xy11 xy12 xy13 xy14 xy15)))) n append false 0 o.kind o.n_ o.s o.list o.names a2.kind a2.n_ a2.s a2.list a2.names 0 0 [] 5 0 [] ([]:List aa_) ([]:List Bs))
def bg_.step4 (n:Nat) (k0:Int→Int→(List aP_)→Int→Bool→Int→(List Int)→Bool→Int→Int→Int→(List Int)→Int→Int→Bs→Int→Int→Bs→(List aa_)→(List Bs)→Option aa_) (back:Int→Int→Int→(List aP_)→Int→Bool→Int→(List Int)→Bool→Int→Int→Int→(List Int)→Int→Int→Bs→Int→Int→Bs→(List aa_)→(List Bs)→Option aa_) (kids:Int) (i:Int) (q0:Int) (q1:List aP_) (q2:Int) (q3:Bool) (q4:Int) (q5:List Int) (q6:Bool) (q7:Int) (q8:Int) (r0:Int) (r1:List Int) (t60:Int) (t61:Int) (t62:Bs) (out0:Int) (out1:Int) (out2:Bs) (out3:List aa_) (out4:List Bs):Option aa_ :=
 (cond (decide (i<(q5.length:Int))) (inB i q5.length ((aN_ n (q5.getD i.toNat 0)).bind fun xr1=>(cond (decide ([99].length+xr1.length≤9223372036854775807)) (inB i q5.length ((dc_ n (TRow.mk r0 r1) (q5.getD i.toNat 0)).bind fun xr2=>((cv_ n xr2).bind fun xr3=>((bz_ n (aa_.mk out0 out1 out2 out3 out4) (([99]:Bs)++xr1) (aa_.re xr3)).bind fun xr4=>(back kids (W (i+1)) q0 q1 q2 q3 q4 q5 q6 q7 q8 r0 r1 t60 t61 t62 xr4.kind xr4.n_ xr4.s xr4.list xr4.names))))) none))) (k0 kids q0 q1 q2 q3 q4 q5 q6 q7 q8 r0 r1 t60 t61 t62 out0 out1 out2 out3 out4))
def bg_.loop4 (n:Nat) (k0:Int→Int→(List aP_)→Int→Bool→Int→(List Int)→Bool→Int→Int→Int→(List Int)→Int→Int→Bs→Int→Int→Bs→(List aa_)→(List Bs)→Option aa_) (N:Nat):Int→Int→Int→(List aP_)→Int→Bool→Int→(List Int)→Bool→Int→Int→Int→(List Int)→Int→Int→Bs→Int→Int→Bs→(List aa_)→(List Bs)→Option aa_ :=
 dp_ (fun _ _ _ _ _ _ _ _ _ _ _ _ _ _ _ _ _ _ _ _ _=>none) (fun back=>bg_.step4 n k0 back) N
def bg_:Nat→aT_→TRow→Int→Option aa_
 |0,_,_,_=>none
 |n+1,q,r,kids=>
  (bg_.loop4 n (fun xy5 xy6 xy7 xy8 xy9 xy10 xy11 xy12 xy13 xy14 xy15 xy16 xy17 xy18 xy19 xy20 xy21 xy22 xy23 xy24=>((cv_ n xy15).bind fun xr25=>((bz_ n (aa_.mk xy20 xy21 xy22 xy23 xy24) [105,100] (aa_.re xr25)).bind fun xr26=>(cond xy12 ((cv_ n xy5).bind fun xr27=>((bz_ n (aa_.re xr26) [107,105,100,115] (aa_.re xr27)).bind fun xr28=>(some (aa_.re xr28)))) (some (aa_.re xr26)))))) n kids 0 q.table q.where_ q.order q.down q.first q.show_ q.kids q.kidTable q.kidCol r.id_ r.cells 0 0 [] 5 0 [] ([]:List aa_) ([]:List Bs))
def bj_.step3 (n:Nat) (k0:Bs→Option Bool) (back:Bs→Int→Option Bool) (s:Bs) (i:Int):Option Bool :=
 (cond (decide (i<(s.length:Int))) (inB i s.length (cond (decide (((s.getD i.toNat 0).toNat:Int)<32)) (some false) (inB i s.length (cond (decide (((s.getD i.toNat 0).toNat:Int) > 126)) (some false) (back s (W (i+1))))))) (k0 s))
def bj_.loop3 (n:Nat) (k0:Bs→Option Bool) (N:Nat):Bs→Int→Option Bool :=
 dp_ (fun _ _=>none) (fun back=>bj_.step3 n k0 back) N
def bj_:Nat→Bs→Option Bool
 |0,_=>none
 |n+1,s=>
  (bj_.loop3 n (fun xy1=>(some (decide ((xy1.length:Int)≤60)))) n s 0)
def ag_.step6 (n:Nat) (k0:Int→Int→Bs→(List aa_)→(List Bs)→Option Bool) (back:Int→Int→Int→Bs→(List aa_)→(List Bs)→Option Bool) (i:Int) (j0:Int) (j1:Int) (j2:Bs) (j3:List aa_) (j4:List Bs):Option Bool :=
 (cond (decide (i<(j4.length:Int))) (inB i j4.length ((bj_ n (j4.getD i.toNat [])).bind fun xr1=>(cond (!xr1) (some false) (cond (decide (i > 0)) (inB (W (i - 1)) j4.length (inB i j4.length (cond (!Op.bytesLess (j4.getD (W (i - 1)).toNat []) (j4.getD i.toNat [])) (some false) (back (W (i+1)) j0 j1 j2 j3 j4)))) (back (W (i+1)) j0 j1 j2 j3 j4))))) (k0 j0 j1 j2 j3 j4))
def ag_.loop6 (n:Nat) (k0:Int→Int→Bs→(List aa_)→(List Bs)→Option Bool) (N:Nat):Int→Int→Int→Bs→(List aa_)→(List Bs)→Option Bool :=
 dp_ (fun _ _ _ _ _ _=>none) (fun back=>ag_.step6 n k0 back) N
def ag_:Nat→aa_→Option Bool
 |0,_=>none
 |n+1,j=>
  (cond (j.kind != 5) (some ((j.names.length:Int) == 0)) (ag_.loop6 n (fun xy2 xy3 xy4 xy5 xy6=>(some ((xy6.length:Int) == (xy5.length:Int)))) n 0 j.kind j.n_ j.s j.list j.names))
def aG_.step23 (n:Nat) (spec_l1Great_:aa_→Int→Option Int) (k1:Int→Int→Int→Int→Bs→(List aa_)→(List Bs)→Option Int) (back:Int→Int→Int→Int→Int→Int→Bs→(List aa_)→(List Bs)→Option Int) (append:Int) (t5:Int) (t6:Int) (t7:Int) (t20:Int) (t21:Int) (t22:Bs) (t23:List aa_) (t24:List Bs):Option Int :=
 (cond (decide (t7<(t23.length:Int))) (cond (decide (t6≤400)) (inB t7 t23.length ((spec_l1Great_ (aa_.re (t23.getD t7.toNat aa_.dflt)) (W (append - 1))).bind fun xr52=>(back append t5 (W (t6+xr52)) (W (t7+1)) t20 t21 t22 t23 t24))) (k1 t5 t6 t20 t21 t22 t23 t24)) (k1 t5 t6 t20 t21 t22 t23 t24))
def aG_.loop23 (n:Nat) (spec_l1Great_:aa_→Int→Option Int) (k1:Int→Int→Int→Int→Bs→(List aa_)→(List Bs)→Option Int) (N:Nat):Int→Int→Int→Int→Int→Int→Bs→(List aa_)→(List Bs)→Option Int :=
 dp_ (fun _ _ _ _ _ _ _ _ _=>none) (fun back=>aG_.step23 n spec_l1Great_ k1 back) N
def aG_:Nat→aa_→Int→Option Int
 |0,_,_=>none
 |n+1,o,append=>
  (cond (append == 0) (some 401) (cond (o.kind == 0) (cond (o.n_ != 0) (some 401) (cond (o.kind != 3) (cond (!(o.s == [])) (some 401) (cond (o.kind == 3) (cond (o.n_ != 0) (some 401) (cond (decide (o.kind<4)) (cond (decide ((o.list.length:Int) > 0)) (some 401) ((ag_ n (aa_.re o)).bind fun xr1=>(cond (!xr1) (some 401) (some 1)))) ((ag_ n (aa_.re o)).bind fun xr2=>(cond (!xr2) (some 401) (some 1))))) (cond (decide (o.kind≥4)) (cond (o.n_ != 0) (some 401) (cond (decide (o.kind<4)) (cond (decide ((o.list.length:Int) > 0)) (some 401) ((ag_ n (aa_.re o)).bind fun xr3=>(cond (!xr3) (some 401) (some 1)))) ((ag_ n (aa_.re o)).bind fun xr4=>(cond (!xr4) (some 401) (some 1))))) (cond (decide (o.kind<4)) (cond (decide ((o.list.length:Int) > 0)) (some 401) ((ag_ n (aa_.re o)).bind fun xr5=>(cond (!xr5) (some 401) (some 1)))) ((ag_ n (aa_.re o)).bind fun xr6=>(cond (!xr6) (some 401) (some 1))))))) (cond (o.kind == 3) (cond (o.n_ != 0) (some 401) (cond (decide (o.kind<4)) (cond (decide ((o.list.length:Int) > 0)) (some 401) ((ag_ n (aa_.re o)).bind fun xr7=>(cond (!xr7) (some 401) (some 1)))) ((ag_ n (aa_.re o)).bind fun xr8=>(cond (!xr8) (some 401) (some 1))))) (cond (decide (o.kind≥4)) (cond (o.n_ != 0) (some 401) (cond (decide (o.kind<4)) (cond (decide ((o.list.length:Int) > 0)) (some 401) ((ag_ n (aa_.re o)).bind fun xr9=>(cond (!xr9) (some 401) (some 1)))) ((ag_ n (aa_.re o)).bind fun xr10=>(cond (!xr10) (some 401) (some 1))))) (cond (decide (o.kind<4)) (cond (decide ((o.list.length:Int) > 0)) (some 401) ((ag_ n (aa_.re o)).bind fun xr11=>(cond (!xr11) (some 401) (some 1)))) ((ag_ n (aa_.re o)).bind fun xr12=>(cond (!xr12) (some 401) (some 1)))))))) (cond (o.kind == 1) ((dy_ n o.n_ 0 1).bind fun xr13=>(cond (!xr13) (some 401) (cond (o.kind != 3) (cond (!(o.s == [])) (some 401) (cond (o.kind == 3) (cond (o.n_ != 0) (some 401) (cond (decide (o.kind<4)) (cond (decide ((o.list.length:Int) > 0)) (some 401) ((ag_ n (aa_.re o)).bind fun xr14=>(cond (!xr14) (some 401) (some 1)))) ((ag_ n (aa_.re o)).bind fun xr15=>(cond (!xr15) (some 401) (some 1))))) (cond (decide (o.kind≥4)) (cond (o.n_ != 0) (some 401) (cond (decide (o.kind<4)) (cond (decide ((o.list.length:Int) > 0)) (some 401) ((ag_ n (aa_.re o)).bind fun xr16=>(cond (!xr16) (some 401) (some 1)))) ((ag_ n (aa_.re o)).bind fun xr17=>(cond (!xr17) (some 401) (some 1))))) (cond (decide (o.kind<4)) (cond (decide ((o.list.length:Int) > 0)) (some 401) ((ag_ n (aa_.re o)).bind fun xr18=>(cond (!xr18) (some 401) (some 1)))) ((ag_ n (aa_.re o)).bind fun xr19=>(cond (!xr19) (some 401) (some 1))))))) (cond (o.kind == 3) (cond (o.n_ != 0) (some 401) (cond (decide (o.kind<4)) (cond (decide ((o.list.length:Int) > 0)) (some 401) ((ag_ n (aa_.re o)).bind fun xr20=>(cond (!xr20) (some 401) (some 1)))) ((ag_ n (aa_.re o)).bind fun xr21=>(cond (!xr21) (some 401) (some 1))))) (cond (decide (o.kind≥4)) (cond (o.n_ != 0) (some 401) (cond (decide (o.kind<4)) (cond (decide ((o.list.length:Int) > 0)) (some 401) ((ag_ n (aa_.re o)).bind fun xr22=>(cond (!xr22) (some 401) (some 1)))) ((ag_ n (aa_.re o)).bind fun xr23=>(cond (!xr23) (some 401) (some 1))))) (cond (decide (o.kind<4)) (cond (decide ((o.list.length:Int) > 0)) (some 401) ((ag_ n (aa_.re o)).bind fun xr24=>(cond (!xr24) (some 401) (some 1)))) ((ag_ n (aa_.re o)).bind fun xr25=>(cond (!xr25) (some 401) (some 1))))))))) (cond (o.kind == 2) ((dy_ n o.n_ (-1000000000) 1000000000).bind fun xr26=>(cond (!xr26) (some 401) (cond (o.kind != 3) (cond (!(o.s == [])) (some 401) (cond (o.kind == 3) (cond (o.n_ != 0) (some 401) (cond (decide (o.kind<4)) (cond (decide ((o.list.length:Int) > 0)) (some 401) ((ag_ n (aa_.re o)).bind fun xr27=>(cond (!xr27) (some 401) (some 1)))) ((ag_ n (aa_.re o)).bind fun xr28=>(cond (!xr28) (some 401) (some 1))))) (cond (decide (o.kind≥4)) (cond (o.n_ != 0) (some 401) (cond (decide (o.kind<4)) (cond (decide ((o.list.length:Int) > 0)) (some 401) ((ag_ n (aa_.re o)).bind fun xr29=>(cond (!xr29) (some 401) (some 1)))) ((ag_ n (aa_.re o)).bind fun xr30=>(cond (!xr30) (some 401) (some 1))))) (cond (decide (o.kind<4)) (cond (decide ((o.list.length:Int) > 0)) (some 401) ((ag_ n (aa_.re o)).bind fun xr31=>(cond (!xr31) (some 401) (some 1)))) ((ag_ n (aa_.re o)).bind fun xr32=>(cond (!xr32) (some 401) (some 1))))))) (cond (o.kind == 3) (cond (o.n_ != 0) (some 401) (cond (decide (o.kind<4)) (cond (decide ((o.list.length:Int) > 0)) (some 401) ((ag_ n (aa_.re o)).bind fun xr33=>(cond (!xr33) (some 401) (some 1)))) ((ag_ n (aa_.re o)).bind fun xr34=>(cond (!xr34) (some 401) (some 1))))) (cond (decide (o.kind≥4)) (cond (o.n_ != 0) (some 401) (cond (decide (o.kind<4)) (cond (decide ((o.list.length:Int) > 0)) (some 401) ((ag_ n (aa_.re o)).bind fun xr35=>(cond (!xr35) (some 401) (some 1)))) ((ag_ n (aa_.re o)).bind fun xr36=>(cond (!xr36) (some 401) (some 1))))) (cond (decide (o.kind<4)) (cond (decide ((o.list.length:Int) > 0)) (some 401) ((ag_ n (aa_.re o)).bind fun xr37=>(cond (!xr37) (some 401) (some 1)))) ((ag_ n (aa_.re o)).bind fun xr38=>(cond (!xr38) (some 401) (some 1))))))))) (cond (o.kind == 3) ((bj_ n o.s).bind fun xr39=>(cond (!xr39) (some 401) (cond (o.kind != 3) (cond (!(o.s == [])) (some 401) (cond (o.kind == 3) (cond (o.n_ != 0) (some 401) (cond (decide (o.kind<4)) (cond (decide ((o.list.length:Int) > 0)) (some 401) ((ag_ n (aa_.re o)).bind fun xr40=>(cond (!xr40) (some 401) (some 1)))) ((ag_ n (aa_.re o)).bind fun xr41=>(cond (!xr41) (some 401) (some 1))))) (cond (decide (o.kind≥4)) (cond (o.n_ != 0) (some 401) (cond (decide (o.kind<4)) (cond (decide ((o.list.length:Int) > 0)) (some 401) ((ag_ n (aa_.re o)).bind fun xr42=>(cond (!xr42) (some 401) (some 1)))) ((ag_ n (aa_.re o)).bind fun xr43=>(cond (!xr43) (some 401) (some 1))))) (cond (decide (o.kind<4)) (cond (decide ((o.list.length:Int) > 0)) (some 401) ((ag_ n (aa_.re o)).bind fun xr44=>(cond (!xr44) (some 401) (some 1)))) ((ag_ n (aa_.re o)).bind fun xr45=>(cond (!xr45) (some 401) (some 1))))))) (cond (o.kind == 3) (cond (o.n_ != 0) (some 401) (cond (decide (o.kind<4)) (cond (decide ((o.list.length:Int) > 0)) (some 401) ((ag_ n (aa_.re o)).bind fun xr46=>(cond (!xr46) (some 401) (some 1)))) ((ag_ n (aa_.re o)).bind fun xr47=>(cond (!xr47) (some 401) (some 1))))) (cond (decide (o.kind≥4)) (cond (o.n_ != 0) (some 401) (cond (decide (o.kind<4)) (cond (decide ((o.list.length:Int) > 0)) (some 401) ((ag_ n (aa_.re o)).bind fun xr48=>(cond (!xr48) (some 401) (some 1)))) ((ag_ n (aa_.re o)).bind fun xr49=>(cond (!xr49) (some 401) (some 1))))) (cond (decide (o.kind<4)) (cond (decide ((o.list.length:Int) > 0)) (some 401) ((ag_ n (aa_.re o)).bind fun xr50=>(cond (!xr50) (some 401) (some 1)))) ((ag_ n (aa_.re o)).bind fun xr51=>(cond (!xr51) (some 401) (some 1))))))))) (cond (o.kind == 4) (cond (o.kind == 4) (aG_.loop23 n (aG_ n) (fun xy53 xy54 xy55 xy56 xy57 xy58 xy59=>(cond (xy55 != 3) (cond (!(xy57 == [])) (some xy53) (cond (xy55 == 3) (cond (xy56 != 0) (some xy53) (cond (decide (xy55<4)) (cond (decide ((xy58.length:Int) > 0)) (some xy53) ((ag_ n (aa_.mk xy55 xy56 xy57 xy58 xy59)).bind fun xr60=>(cond (!xr60) (some xy53) (some xy54)))) ((ag_ n (aa_.mk xy55 xy56 xy57 xy58 xy59)).bind fun xr61=>(cond (!xr61) (some xy53) (some xy54))))) (cond (decide (xy55≥4)) (cond (xy56 != 0) (some xy53) (cond (decide (xy55<4)) (cond (decide ((xy58.length:Int) > 0)) (some xy53) ((ag_ n (aa_.mk xy55 xy56 xy57 xy58 xy59)).bind fun xr62=>(cond (!xr62) (some xy53) (some xy54)))) ((ag_ n (aa_.mk xy55 xy56 xy57 xy58 xy59)).bind fun xr63=>(cond (!xr63) (some xy53) (some xy54))))) (cond (decide (xy55<4)) (cond (decide ((xy58.length:Int) > 0)) (some xy53) ((ag_ n (aa_.mk xy55 xy56 xy57 xy58 xy59)).bind fun xr64=>(cond (!xr64) (some xy53) (some xy54)))) ((ag_ n (aa_.mk xy55 xy56 xy57 xy58 xy59)).bind fun xr65=>(cond (!xr65) (some xy53) (some xy54))))))) (cond (xy55 == 3) (cond (xy56 != 0) (some xy53) (cond (decide (xy55<4)) (cond (decide ((xy58.length:Int) > 0)) (some xy53) ((ag_ n (aa_.mk xy55 xy56 xy57 xy58 xy59)).bind fun xr66=>(cond (!xr66) (some xy53) (some xy54)))) ((ag_ n (aa_.mk xy55 xy56 xy57 xy58 xy59)).bind fun xr67=>(cond (!xr67) (some xy53) (some xy54))))) (cond (decide (xy55≥4)) (cond (xy56 != 0) (some xy53) (cond (decide (xy55<4)) (cond (decide ((xy58.length:Int) > 0)) (some xy53) ((ag_ n (aa_.mk xy55 xy56 xy57 xy58 xy59)).bind fun xr68=>(cond (!xr68) (some xy53) (some xy54)))) ((ag_ n (aa_.mk xy55 xy56 xy57 xy58 xy59)).bind fun xr69=>(cond (!xr69) (some xy53) (some xy54))))) (cond (decide (xy55<4)) (cond (decide ((xy58.length:Int) > 0)) (some xy53) ((ag_ n (aa_.mk xy55 xy56 xy57 xy58 xy59)).bind fun xr70=>(cond (!xr70) (some xy53) (some xy54)))) ((ag_ n (aa_.mk xy55 xy56 xy57 xy58 xy59)).bind fun xr71=>(cond (!xr71) (some xy53) (some xy54)))))))) n append 401 1 0 o.kind o.n_ o.s o.list o.names) (some 401)) (cond (o.kind == 5) (aG_.loop23 n (aG_ n) (fun xy72 xy73 xy74 xy75 xy76 xy77 xy78=>(cond (xy74 != 3) (cond (!(xy76 == [])) (some xy72) (cond (xy74 == 3) (cond (xy75 != 0) (some xy72) (cond (decide (xy74<4)) (cond (decide ((xy77.length:Int) > 0)) (some xy72) ((ag_ n (aa_.mk xy74 xy75 xy76 xy77 xy78)).bind fun xr79=>(cond (!xr79) (some xy72) (some xy73)))) ((ag_ n (aa_.mk xy74 xy75 xy76 xy77 xy78)).bind fun xr80=>(cond (!xr80) (some xy72) (some xy73))))) (cond (decide (xy74≥4)) (cond (xy75 != 0) (some xy72) (cond (decide (xy74<4)) (cond (decide ((xy77.length:Int) > 0)) (some xy72) ((ag_ n (aa_.mk xy74 xy75 xy76 xy77 xy78)).bind fun xr81=>(cond (!xr81) (some xy72) (some xy73)))) ((ag_ n (aa_.mk xy74 xy75 xy76 xy77 xy78)).bind fun xr82=>(cond (!xr82) (some xy72) (some xy73))))) (cond (decide (xy74<4)) (cond (decide ((xy77.length:Int) > 0)) (some xy72) ((ag_ n (aa_.mk xy74 xy75 xy76 xy77 xy78)).bind fun xr83=>(cond (!xr83) (some xy72) (some xy73)))) ((ag_ n (aa_.mk xy74 xy75 xy76 xy77 xy78)).bind fun xr84=>(cond (!xr84) (some xy72) (some xy73))))))) (cond (xy74 == 3) (cond (xy75 != 0) (some xy72) (cond (decide (xy74<4)) (cond (decide ((xy77.length:Int) > 0)) (some xy72) ((ag_ n (aa_.mk xy74 xy75 xy76 xy77 xy78)).bind fun xr85=>(cond (!xr85) (some xy72) (some xy73)))) ((ag_ n (aa_.mk xy74 xy75 xy76 xy77 xy78)).bind fun xr86=>(cond (!xr86) (some xy72) (some xy73))))) (cond (decide (xy74≥4)) (cond (xy75 != 0) (some xy72) (cond (decide (xy74<4)) (cond (decide ((xy77.length:Int) > 0)) (some xy72) ((ag_ n (aa_.mk xy74 xy75 xy76 xy77 xy78)).bind fun xr87=>(cond (!xr87) (some xy72) (some xy73)))) ((ag_ n (aa_.mk xy74 xy75 xy76 xy77 xy78)).bind fun xr88=>(cond (!xr88) (some xy72) (some xy73))))) (cond (decide (xy74<4)) (cond (decide ((xy77.length:Int) > 0)) (some xy72) ((ag_ n (aa_.mk xy74 xy75 xy76 xy77 xy78)).bind fun xr89=>(cond (!xr89) (some xy72) (some xy73)))) ((ag_ n (aa_.mk xy74 xy75 xy76 xy77 xy78)).bind fun xr90=>(cond (!xr90) (some xy72) (some xy73)))))))) n append 401 1 0 o.kind o.n_ o.s o.list o.names) (some 401))))))))
def ch_:Nat→aa_→Option Bool
 |0,_=>none
 |n+1,j=>
  ((aG_ n (aa_.re j) 6).bind fun xr1=>(some (decide (xr1≤400))))
def cf_:Nat→aa_→Option aa_
 |0,_=>none
 |n+1,j=>
  ((ch_ n (aa_.re j)).bind fun xr1=>(cond (!xr1) (some (aa_.mk 0 0 [] [] [])) (some (aa_.re j))))
def bH_.step4 (n:Nat) (k0:(List TRow)→Int→Int→Bs→Int→Int→Bs→(List aa_)→Option aa_) (back:(List TRow)→(List Int)→Int→Int→(List aP_)→Int→Bool→Int→(List Int)→Bool→Int→Int→Int→Int→Bs→Int→Int→Bs→(List aa_)→Option aa_) (rows:List TRow) (kids:List Int) (i:Int) (q0:Int) (q1:List aP_) (q2:Int) (q3:Bool) (q4:Int) (q5:List Int) (q6:Bool) (q7:Int) (q8:Int) (t60:Int) (t61:Int) (t62:Bs) (list0:Int) (list1:Int) (list2:Bs) (list3:List aa_):Option aa_ :=
 ((cl_ n (aT_.mk q0 q1 q2 q3 q4 q5 q6 q7 q8) (rows.length:Int)).bind fun xr1=>(cond (decide (i<xr1)) (cond (decide (i<(kids.length:Int))) (inB i kids.length (inB i rows.length ((bg_ n (aT_.mk q0 q1 q2 q3 q4 q5 q6 q7 q8) (rows.getD i.toNat TRow.dflt) (kids.getD i.toNat 0)).bind fun xr2=>(cJ_ (list3.length+([(aa_.re xr2)]:List aa_).length) 80 (back rows kids (W (i+1)) q0 q1 q2 q3 q4 q5 q6 q7 q8 t60 t61 t62 list0 list1 list2 (list3++([(aa_.re xr2)]:List aa_))))))) (inB i rows.length ((bg_ n (aT_.mk q0 q1 q2 q3 q4 q5 q6 q7 q8) (rows.getD i.toNat TRow.dflt) 0).bind fun xr3=>(cJ_ (list3.length+([(aa_.re xr3)]:List aa_).length) 80 (back rows kids (W (i+1)) q0 q1 q2 q3 q4 q5 q6 q7 q8 t60 t61 t62 list0 list1 list2 (list3++([(aa_.re xr3)]:List aa_))))))) (k0 rows t60 t61 t62 list0 list1 list2 list3)))
def bH_.loop4 (n:Nat) (k0:(List TRow)→Int→Int→Bs→Int→Int→Bs→(List aa_)→Option aa_) (N:Nat):(List TRow)→(List Int)→Int→Int→(List aP_)→Int→Bool→Int→(List Int)→Bool→Int→Int→Int→Int→Bs→Int→Int→Bs→(List aa_)→Option aa_ :=
 dp_ (fun _ _ _ _ _ _ _ _ _ _ _ _ _ _ _ _ _ _ _=>none) (fun back=>bH_.step4 n k0 back) N
def bH_:Nat→aT_→(List TRow)→(List Int)→Option aa_
 |0,_,_,_=>none
 |n+1,q,rows,kids=>
  (bH_.loop4 n (fun xy4 xy5 xy6 xy7 xy8 xy9 xy10 xy11=>((cv_ n (xy4.length:Int)).bind fun xr12=>((cf_ n (aa_.mk 5 0 [] ([(aa_.re xr12),(aa_.mk xy8 xy9 xy10 xy11 [])]:List aa_) ([[99,111,117,110,116],[114,111,119,115]]:List Bs))).bind fun xr13=>(some (aa_.re xr13))))) n rows kids 0 q.table q.where_ q.order q.down q.first q.show_ q.kids q.kidTable q.kidCol 0 0 [] 4 0 [] ([]:List aa_))
def ct_:Nat→bB_→Option aa_
 |0,_=>none
 |n+1,v=>
  ((aO_ n v).bind fun xr1=>((bH_ n v.q v.rows xr1).bind fun xr2=>(some (aa_.re xr2))))
def al_.step6 (n:Nat) (spec_l1Same_:aa_→aa_→Option Bool) (k0:Int→Int→Bs→(List aa_)→(List Bs)→Int→Int→Bs→(List aa_)→(List Bs)→Option Bool) (back:Int→Int→Int→Bs→(List aa_)→(List Bs)→Int→Int→Bs→(List aa_)→(List Bs)→Option Bool) (t5:Int) (t20:Int) (t21:Int) (t22:Bs) (t23:List aa_) (t24:List Bs) (t30:Int) (t31:Int) (t32:Bs) (t33:List aa_) (t34:List Bs):Option Bool :=
 (cond (decide (t5<(t23.length:Int))) (inB t5 t23.length (inB t5 t33.length ((spec_l1Same_ (aa_.re (t23.getD t5.toNat aa_.dflt)) (aa_.re (t33.getD t5.toNat aa_.dflt))).bind fun xr1=>(cond (!xr1) (some false) (back (W (t5+1)) t20 t21 t22 t23 t24 t30 t31 t32 t33 t34))))) (k0 t20 t21 t22 t23 t24 t30 t31 t32 t33 t34))
def al_.loop6 (n:Nat) (spec_l1Same_:aa_→aa_→Option Bool) (k0:Int→Int→Bs→(List aa_)→(List Bs)→Int→Int→Bs→(List aa_)→(List Bs)→Option Bool) (N:Nat):Int→Int→Int→Bs→(List aa_)→(List Bs)→Int→Int→Bs→(List aa_)→(List Bs)→Option Bool :=
 dp_ (fun _ _ _ _ _ _ _ _ _ _ _=>none) (fun back=>al_.step6 n spec_l1Same_ k0 back) N
def al_.step14 (n:Nat) (spec_l1Same_:aa_→aa_→Option Bool) (k2:Option Bool) (back:Int→Int→Int→Bs→(List aa_)→(List Bs)→Int→Int→Bs→(List aa_)→(List Bs)→Option Bool) (t6:Int) (t20:Int) (t21:Int) (t22:Bs) (t23:List aa_) (t24:List Bs) (t30:Int) (t31:Int) (t32:Bs) (t33:List aa_) (t34:List Bs):Option Bool :=
 (cond (decide (t6<(t24.length:Int))) (inB t6 t24.length (inB t6 t34.length (cond (!((t24.getD t6.toNat []) == (t34.getD t6.toNat []))) (some false) (back (W (t6+1)) t20 t21 t22 t23 t24 t30 t31 t32 t33 t34)))) k2)
def al_.loop14 (n:Nat) (spec_l1Same_:aa_→aa_→Option Bool) (k2:Option Bool) (N:Nat):Int→Int→Int→Bs→(List aa_)→(List Bs)→Int→Int→Bs→(List aa_)→(List Bs)→Option Bool :=
 dp_ (fun _ _ _ _ _ _ _ _ _ _ _=>none) (fun back=>al_.step14 n spec_l1Same_ k2 back) N
def al_:Nat→aa_→aa_→Option Bool
 |0,_,_=>none
 |n+1,o,append=>
  (cond (o.kind != append.kind) (some false) (cond (o.n_ != append.n_) (some false) (cond (!(o.s == append.s)) (some false) (cond ((o.list.length:Int) != (append.list.length:Int)) (some false) (cond ((o.names.length:Int) != (append.names.length:Int)) (some false) (al_.loop6 n (al_ n) (fun xy2 xy3 xy4 xy5 xy6 xy7 xy8 xy9 xy10 xy11=>(al_.loop14 n (al_ n) (some true) n 0 xy2 xy3 xy4 xy5 xy6 xy7 xy8 xy9 xy10 xy11)) n 0 o.kind o.n_ o.s o.list o.names append.kind append.n_ append.s append.list append.names))))))
def cy_:Nat→aa_→aa_→Option Bool
 |0,_,_=>none
 |n+1,a,b=>
  ((ch_ n (aa_.re a)).bind fun xr1=>(cond xr1 ((ch_ n (aa_.re b)).bind fun xr2=>(cond xr2 ((al_ n (aa_.re a) (aa_.re b)).bind fun xr3=>(some xr3)) (some false))) (some false)))
def cP_:Nat→bZ_→Option Bool
 |0,_=>none
 |n+1,x=>
  (cond (!x.began) (some true) ((ct_ n x.view).bind fun xr1=>((ct_ n x.last).bind fun xr2=>((cy_ n (aa_.re xr1) (aa_.re xr2)).bind fun xr3=>(some (!xr3))))))
def bd_.step3 (n:Nat) (k0:(List aP_)→(List aP_)→Option Bool) (back:(List aP_)→(List aP_)→Int→Option Bool) (a:List aP_) (b:List aP_) (i:Int):Option Bool :=
 (cond (decide (i<(a.length:Int))) (cond (decide (i<(b.length:Int))) (inB i a.length (inB i b.length (let xv1:Bool:=(!(cond (((a.getD i.toNat aP_.dflt).col) == ((b.getD i.toNat aP_.dflt).col)) (cond (((a.getD i.toNat aP_.dflt).op) == ((b.getD i.toNat aP_.dflt).op)) (cond (((a.getD i.toNat aP_.dflt).v) == ((b.getD i.toNat aP_.dflt).v)) true false) false) false));(cond xv1 (some false) (back a b (W (i+1))))))) (k0 a b)) (k0 a b))
def bd_.loop3 (n:Nat) (k0:(List aP_)→(List aP_)→Option Bool) (N:Nat):(List aP_)→(List aP_)→Int→Option Bool :=
 dp_ (fun _ _ _=>none) (fun back=>bd_.step3 n k0 back) N
def bd_:Nat→(List aP_)→(List aP_)→Option Bool
 |0,_,_=>none
 |n+1,a,b=>
  (bd_.loop3 n (fun xy2 xy3=>(some ((xy2.length:Int) == (xy3.length:Int)))) n a b 0)
def bu_.step3 (n:Nat) (k0:(List Int)→(List Int)→Option Bool) (back:(List Int)→(List Int)→Int→Option Bool) (a:List Int) (b:List Int) (i:Int):Option Bool :=
 (cond (decide (i<(a.length:Int))) (cond (decide (i<(b.length:Int))) (inB i a.length (inB i b.length (cond ((a.getD i.toNat 0) != (b.getD i.toNat 0)) (some false) (back a b (W (i+1)))))) (k0 a b)) (k0 a b))
def bu_.loop3 (n:Nat) (k0:(List Int)→(List Int)→Option Bool) (N:Nat):(List Int)→(List Int)→Int→Option Bool :=
 dp_ (fun _ _ _=>none) (fun back=>bu_.step3 n k0 back) N
def bu_:Nat→(List Int)→(List Int)→Option Bool
 |0,_,_=>none
 |n+1,a,b=>
  (bu_.loop3 n (fun xy1 xy2=>(some ((xy1.length:Int) == (xy2.length:Int)))) n a b 0)
def b8_:Nat→aT_→aT_→Option Bool
 |0,_,_=>none
 |n+1,o,append=>
  (cond (o.table == append.table) ((bd_ n o.where_ append.where_).bind fun xr1=>(cond xr1 (cond (o.order == append.order) (cond (o.down == append.down) (cond (o.first == append.first) ((bu_ n o.show_ append.show_).bind fun xr2=>(cond xr2 (cond (o.kids == append.kids) (cond (o.kidTable == append.kidTable) (some (o.kidCol == append.kidCol)) (some false)) (some false)) (some false))) (some false)) (some false)) (some false)) (some false))) (some false))
def dC_:Nat→Int→Option aa_
 |0,_=>none
 |n+1,n1=>
  ((ch_ n (aa_.mk 2 n1 [] [] [])).bind fun xr1=>(cond (!xr1) (some (aa_.mk 0 0 [] ([]:List aa_) ([]:List Bs))) (some (aa_.mk 2 n1 [] ([]:List aa_) ([]:List Bs)))))
def de_:Nat→aT_→TRow→Int→Option aa_
 |0,_,_,_=>none
 |n+1,q,r,kids=>
  ((bg_ n q r kids).bind fun xr1=>((cf_ n (aa_.re xr1)).bind fun xr2=>(some (aa_.re xr2))))
def a2_.step5 (n:Nat) (k0:(List aa_)→(List Int)→Option ((List aa_) × (List Int))) (back:Int→Int→(List aP_)→Int→Bool→Int→(List Int)→Bool→Int→Int→(List TRow)→(List TKid)→(List aa_)→(List Int)→Option ((List aa_) × (List Int))) (i:Int) (v0:Int) (v1:List aP_) (v2:Int) (v3:Bool) (v4:Int) (v5:List Int) (v6:Bool) (v7:Int) (v8:Int) (v9:List TRow) (v10:List TKid) (list:List aa_) (keys:List Int):Option ((List aa_) × (List Int)) :=
 ((cl_ n (aT_.mk v0 v1 v2 v3 v4 v5 v6 v7 v8) (v9.length:Int)).bind fun xr1=>(cond (decide (i<xr1)) (inB i v9.length (inB i v9.length ((bp_ n (bB_.mk (aT_.mk v0 v1 v2 v3 v4 v5 v6 v7 v8) v9 v10) ((v9.getD i.toNat TRow.dflt).id_)).bind fun xr2=>((de_ n (aT_.mk v0 v1 v2 v3 v4 v5 v6 v7 v8) (v9.getD i.toNat TRow.dflt) xr2).bind fun xr3=>(cJ_ (list.length+([(aa_.re xr3)]:List aa_).length) 80 (inB i v9.length (cJ_ (keys.length+([(v9.getD i.toNat TRow.dflt).id_]:List Int).length) 8 (back (W (i+1)) v0 v1 v2 v3 v4 v5 v6 v7 v8 v9 v10 (list++([(aa_.re xr3)]:List aa_)) (keys++([(v9.getD i.toNat TRow.dflt).id_]:List Int)))))))))) (k0 list keys)))
def a2_.loop5 (n:Nat) (k0:(List aa_)→(List Int)→Option ((List aa_) × (List Int))) (N:Nat):Int→Int→(List aP_)→Int→Bool→Int→(List Int)→Bool→Int→Int→(List TRow)→(List TKid)→(List aa_)→(List Int)→Option ((List aa_) × (List Int)) :=
 dp_ (fun _ _ _ _ _ _ _ _ _ _ _ _ _ _=>none) (fun back=>a2_.step5 n k0 back) N
def a2_:Nat→bB_→Option ((List aa_) × (List Int))
 |0,_=>none
 |n+1,v=>
  (a2_.loop5 n (fun xy4 xy5=>(some (xy4,xy5))) n 0 v.q.table v.q.where_ v.q.order v.q.down v.q.first v.q.show_ v.q.kids v.q.kidTable v.q.kidCol v.rows v.kids ([]:List aa_) ([]:List Int))
def bM_.step3 (n:Nat) (k0:Option Int) (back:(List Int)→Int→Int→Option Int) (keys:List Int) (key:Int) (i:Int):Option Int :=
 (cond (decide (i<(keys.length:Int))) (inB i keys.length (cond ((keys.getD i.toNat 0) == key) (some i) (back keys key (W (i+1))))) k0)
def bM_.loop3 (n:Nat) (k0:Option Int) (N:Nat):(List Int)→Int→Int→Option Int :=
 dp_ (fun _ _ _=>none) (fun back=>bM_.step3 n k0 back) N
def bM_:Nat→(List Int)→Int→Option Int
 |0,_,_=>none
 |n+1,keys,key=>
  (bM_.loop3 n (some (-1)) n keys key 0)
def aD_.step3 (n:Nat) (k0:(List Int)→(List aa_)→Option Bool) (back:(List Int)→(List aa_)→Int→Option Bool) (keys:List Int) (list:List aa_) (i:Int):Option Bool :=
 (cond (decide (i<(keys.length:Int))) (j8_ 0 i keys.length (inB i keys.length ((bM_ n ((keys.take i.toNat).drop 0) (keys.getD i.toNat 0)).bind fun xr1=>(cond (decide (xr1≥0)) (some false) (back keys list (W (i+1))))))) (k0 keys list))
def aD_.loop3 (n:Nat) (k0:(List Int)→(List aa_)→Option Bool) (N:Nat):(List Int)→(List aa_)→Int→Option Bool :=
 dp_ (fun _ _ _=>none) (fun back=>aD_.step3 n k0 back) N
def aD_.step11 (n:Nat) (k2:(List Int)→(List aa_)→Option Bool) (back:(List Int)→(List aa_)→Int→Option Bool) (keys:List Int) (list:List aa_) (i:Int):Option Bool :=
 (cond (decide (i<(list.length:Int))) (inB i list.length ((ch_ n (aa_.re (list.getD i.toNat aa_.dflt))).bind fun xr4=>(cond (!xr4) (some false) (back keys list (W (i+1)))))) (k2 keys list))
def aD_.loop11 (n:Nat) (k2:(List Int)→(List aa_)→Option Bool) (N:Nat):(List Int)→(List aa_)→Int→Option Bool :=
 dp_ (fun _ _ _=>none) (fun back=>aD_.step11 n k2 back) N
def aD_:Nat→(List Int)→(List aa_)→Option Bool
 |0,_,_=>none
 |n+1,keys,list=>
  (aD_.loop3 n (fun xy2 xy3=>(aD_.loop11 n (fun xy5 xy6=>(some ((xy5.length:Int) == (xy6.length:Int)))) n xy2 xy3 0)) n keys list 0)
def b0_:Nat→(List Int)→Int→Option (List Int)
 |0,_,_=>none
 |n+1,keys,at1=>
  (j8_ 0 at1 keys.length (cJ_ (([]:List Int).length+((keys.take at1.toNat).drop 0).length) 8 (j8_ (W (at1+1)) (keys.length:Int) keys.length (cJ_ ((([]:List Int)++((keys.take at1.toNat).drop 0)).length+((keys.take (keys.length:Int).toNat).drop (W (at1+1)).toNat).length) 8 (some ((([]:List Int)++((keys.take at1.toNat).drop 0))++((keys.take (keys.length:Int).toNat).drop (W (at1+1)).toNat)))))))
def a7_.step4 (n:Nat) (spec_l1Copy_:aa_→Option aa_) (k0:Int→Int→Bs→Int→Int→Bs→(List aa_)→(List Bs)→Option aa_) (back:Int→Int→Int→Bs→(List aa_)→(List Bs)→Int→Int→Bs→Int→Int→Bs→(List aa_)→(List Bs)→Option aa_) (i:Int) (j0:Int) (j1:Int) (j2:Bs) (j3:List aa_) (j4:List Bs) (t20:Int) (t21:Int) (t22:Bs) (out0:Int) (out1:Int) (out2:Bs) (out3:List aa_) (out4:List Bs):Option aa_ :=
 (cond (decide (i<(j3.length:Int))) (inB i j3.length ((spec_l1Copy_ (aa_.re (j3.getD i.toNat aa_.dflt))).bind fun xr1=>(cJ_ (out3.length+([(aa_.re xr1)]:List aa_).length) 80 (back (W (i+1)) j0 j1 j2 j3 j4 t20 t21 t22 out0 out1 out2 (out3++([(aa_.re xr1)]:List aa_)) out4)))) (k0 t20 t21 t22 out0 out1 out2 out3 out4))
def a7_.loop4 (n:Nat) (spec_l1Copy_:aa_→Option aa_) (k0:Int→Int→Bs→Int→Int→Bs→(List aa_)→(List Bs)→Option aa_) (N:Nat):Int→Int→Int→Bs→(List aa_)→(List Bs)→Int→Int→Bs→Int→Int→Bs→(List aa_)→(List Bs)→Option aa_ :=
 dp_ (fun _ _ _ _ _ _ _ _ _ _ _ _ _ _=>none) (fun back=>a7_.step4 n spec_l1Copy_ k0 back) N
def a7_:Nat→aa_→Option aa_
 |0,_=>none
 |n+1,j=>
  (cJ_ (([]:List Bs).length+j.names.length) 16 (a7_.loop4 n (a7_ n) (fun xy2 xy3 xy4 xy5 xy6 xy7 xy8 xy9=>(some (aa_.mk xy5 xy6 xy7 xy8 xy9))) n 0 j.kind j.n_ j.s j.list j.names 0 0 [] j.kind j.n_ j.s ([]:List aa_) (([]:List Bs)++j.names)))
def ck_:Nat→(List Int)→Int→Int→Option (List Int)
 |0,_,_,_=>none
 |n+1,keys,at1,key=>
  (j8_ 0 at1 keys.length (cJ_ (([]:List Int).length+((keys.take at1.toNat).drop 0).length) 8 (cJ_ ((([]:List Int)++((keys.take at1.toNat).drop 0)).length+([key]:List Int).length) 8 (j8_ at1 (keys.length:Int) keys.length (cJ_ (((([]:List Int)++((keys.take at1.toNat).drop 0))++([key]:List Int)).length+((keys.take (keys.length:Int).toNat).drop at1.toNat).length) 8 (some (((([]:List Int)++((keys.take at1.toNat).drop 0))++([key]:List Int))++((keys.take (keys.length:Int).toNat).drop at1.toNat))))))))
def aA_.step5 (n:Nat) (k0:(List aa_)→(List Int)→(List aa_)→(List Int)→(List TOp)→(List Int)→Option (List TOp)) (back:(List aa_)→(List Int)→(List aa_)→(List Int)→Int→(List TOp)→(List Int)→Option (List TOp)) (o:List aa_) (append:List Int) (t2:List aa_) (t3:List Int) (t11:Int) (t9:List TOp) (t10:List Int):Option (List TOp) :=
 (cond (decide (t11≥0)) (inB t11 append.length ((bM_ n t3 (append.getD t11.toNat 0)).bind fun xr1=>(cond (decide (xr1<0)) ((aN_ n t11).bind fun xr2=>(cJ_ (t9.length+([(TOp.mk 2 ([xr2]:List Bs) (aa_.mk 0 0 [] [] []))]:List TOp).length) 112 ((b0_ n t10 t11).bind fun xr3=>(back o append t2 t3 (W (t11 - 1)) (t9++([(TOp.mk 2 ([xr2]:List Bs) (aa_.mk 0 0 [] [] []))]:List TOp)) xr3)))) (back o append t2 t3 (W (t11 - 1)) t9 t10)))) (k0 o append t2 t3 t9 t10))
def aA_.loop5 (n:Nat) (k0:(List aa_)→(List Int)→(List aa_)→(List Int)→(List TOp)→(List Int)→Option (List TOp)) (N:Nat):(List aa_)→(List Int)→(List aa_)→(List Int)→Int→(List TOp)→(List Int)→Option (List TOp) :=
 dp_ (fun _ _ _ _ _ _ _=>none) (fun back=>aA_.step5 n k0 back) N
def aA_.step13 (n:Nat) (k2:(List TOp)→Option (List TOp)) (back:(List aa_)→(List Int)→(List aa_)→(List Int)→Int→(List TOp)→(List Int)→Option (List TOp)) (o:List aa_) (append:List Int) (t2:List aa_) (t3:List Int) (t12:Int) (t9:List TOp) (t10:List Int):Option (List TOp) :=
 (cond (decide (t12<(t3.length:Int))) ((aN_ n t12).bind fun xr10=>(inB t12 t3.length ((bM_ n t10 (t3.getD t12.toNat 0)).bind fun xr11=>(cond (xr11 == t12) (inB t12 t3.length ((bM_ n append (t3.getD t12.toNat 0)).bind fun xr12=>(inB xr12 o.length (inB t12 t2.length ((al_ n (aa_.re (o.getD xr12.toNat aa_.dflt)) (aa_.re (t2.getD t12.toNat aa_.dflt))).bind fun xr13=>(cond (!xr13) (inB t12 t2.length ((a7_ n (aa_.re (t2.getD t12.toNat aa_.dflt))).bind fun xr14=>(cJ_ (t9.length+([(TOp.mk 3 ([xr10]:List Bs) (aa_.re xr14))]:List TOp).length) 112 (back o append t2 t3 (W (t12+1)) (t9++([(TOp.mk 3 ([xr10]:List Bs) (aa_.re xr14))]:List TOp)) t10)))) (back o append t2 t3 (W (t12+1)) t9 t10))))))) (cond (decide (xr11≥0)) ((aN_ n xr11).bind fun xr15=>(cJ_ (t9.length+([(TOp.mk 2 ([xr15]:List Bs) (aa_.mk 0 0 [] [] []))]:List TOp).length) 112 ((b0_ n t10 xr11).bind fun xr16=>(inB t12 t2.length ((a7_ n (aa_.re (t2.getD t12.toNat aa_.dflt))).bind fun xr17=>(cJ_ ((t9++([(TOp.mk 2 ([xr15]:List Bs) (aa_.mk 0 0 [] [] []))]:List TOp)).length+([(TOp.mk 1 ([xr10]:List Bs) (aa_.re xr17))]:List TOp).length) 112 (inB t12 t3.length ((ck_ n xr16 t12 (t3.getD t12.toNat 0)).bind fun xr18=>(back o append t2 t3 (W (t12+1)) ((t9++([(TOp.mk 2 ([xr15]:List Bs) (aa_.mk 0 0 [] [] []))]:List TOp))++([(TOp.mk 1 ([xr10]:List Bs) (aa_.re xr17))]:List TOp)) xr18))))))))) (inB t12 t2.length ((a7_ n (aa_.re (t2.getD t12.toNat aa_.dflt))).bind fun xr19=>(cJ_ (t9.length+([(TOp.mk 1 ([xr10]:List Bs) (aa_.re xr19))]:List TOp).length) 112 (inB t12 t3.length ((ck_ n t10 t12 (t3.getD t12.toNat 0)).bind fun xr20=>(back o append t2 t3 (W (t12+1)) (t9++([(TOp.mk 1 ([xr10]:List Bs) (aa_.re xr19))]:List TOp)) xr20))))))))))) (k2 t9))
def aA_.loop13 (n:Nat) (k2:(List TOp)→Option (List TOp)) (N:Nat):(List aa_)→(List Int)→(List aa_)→(List Int)→Int→(List TOp)→(List Int)→Option (List TOp) :=
 dp_ (fun _ _ _ _ _ _ _=>none) (fun back=>aA_.step13 n k2 back) N
def aA_:Nat→(List aa_)→(List Int)→(List aa_)→(List Int)→Option (List TOp)
 |0,_,_,_,_=>none
 |n+1,o,append,a2,a3=>
  (cJ_ (([]:List Int).length+append.length) 8 (aA_.loop5 n (fun xy4 xy5 xy6 xy7 xy8 xy9=>(aA_.loop13 n (fun xy21=>(some xy21)) n xy4 xy5 xy6 xy7 0 xy8 xy9)) n o append a2 a3 (W ((append.length:Int) - 1)) ([]:List TOp) (([]:List Int)++append)))
def dP_:Nat→(List aa_)→(List Int)→(List aa_)→(List Int)→Option (List TOp)
 |0,_,_,_,_=>none
 |n+1,old,oldKeys,now,nowKeys=>
  ((aD_ n oldKeys old).bind fun xr1=>(cond (!xr1) (some ([]:List TOp)) ((aD_ n nowKeys now).bind fun xr2=>(cond (!xr2) (some ([]:List TOp)) ((aA_ n old oldKeys now nowKeys).bind fun xr3=>(some xr3))))))
def bF_.step4 (n:Nat) (k0:(List TOp)→Option (List TOp)) (back:Bs→(List TOp)→Int→(List TOp)→Option (List TOp)) (name:Bs) (list:List TOp) (i:Int) (out_1:List TOp):Option (List TOp) :=
 (cond (decide (i<(list.length:Int))) (inB i list.length (inB i list.length (cJ_ (([name]:List Bs).length+((list.getD i.toNat TOp.dflt).way).length) 16 (inB i list.length ((a7_ n (aa_.re ((list.getD i.toNat TOp.dflt).value))).bind fun xr1=>(cJ_ (out_1.length+([(TOp.mk ((list.getD i.toNat TOp.dflt).kind) (([name]:List Bs)++((list.getD i.toNat TOp.dflt).way)) (aa_.re xr1))]:List TOp).length) 112 (back name list (W (i+1)) (out_1++([(TOp.mk ((list.getD i.toNat TOp.dflt).kind) (([name]:List Bs)++((list.getD i.toNat TOp.dflt).way)) (aa_.re xr1))]:List TOp))))))))) (k0 out_1))
def bF_.loop4 (n:Nat) (k0:(List TOp)→Option (List TOp)) (N:Nat):Bs→(List TOp)→Int→(List TOp)→Option (List TOp) :=
 dp_ (fun _ _ _ _=>none) (fun back=>bF_.step4 n k0 back) N
def bF_:Nat→Bs→(List TOp)→Option (List TOp)
 |0,_,_=>none
 |n+1,name,list=>
  (bF_.loop4 n (fun xy2=>(some xy2)) n name list 0 ([]:List TOp))
def b1_:Nat→bB_→bB_→Option (List TOp)
 |0,_,_=>none
 |n+1,a,b=>
  ((b8_ n a.q b.q).bind fun xr1=>(cond (!xr1) (some ([]:List TOp)) (cond ((a.rows.length:Int) != (b.rows.length:Int)) ((dC_ n (b.rows.length:Int)).bind fun xr2=>(cJ_ (([]:List TOp).length+([(TOp.mk 3 ([[99,111,117,110,116]]:List Bs) (aa_.re xr2))]:List TOp).length) 112 ((a2_ n a).bind fun xr3=>((a2_ n b).bind fun xr4=>((dP_ n xr3.1 xr3.2 xr4.1 xr4.2).bind fun xr5=>((bF_ n [114,111,119,115] xr5).bind fun xr6=>(cJ_ ((([]:List TOp)++([(TOp.mk 3 ([[99,111,117,110,116]]:List Bs) (aa_.re xr2))]:List TOp)).length+xr6.length) 112 (some ((([]:List TOp)++([(TOp.mk 3 ([[99,111,117,110,116]]:List Bs) (aa_.re xr2))]:List TOp))++xr6))))))))) ((a2_ n a).bind fun xr7=>((a2_ n b).bind fun xr8=>((dP_ n xr7.1 xr7.2 xr8.1 xr8.2).bind fun xr9=>((bF_ n [114,111,119,115] xr9).bind fun xr10=>(cJ_ (([]:List TOp).length+xr10.length) 112 (some (([]:List TOp)++xr10))))))))))
def bN_.step6 (n:Nat) (k0:Int→(List Bs)→Int→Int→Bs→(List aa_)→(List Bs)→Option Bool) (back:Int→Int→(List Bs)→Int→Int→Bs→(List aa_)→(List Bs)→Option Bool) (i:Int) (o0:Int) (o1:List Bs) (o2:Int) (o3:Int) (o4:Bs) (o5:List aa_) (o6:List Bs):Option Bool :=
 (cond (decide (i<(o1.length:Int))) (inB i o1.length ((bj_ n (o1.getD i.toNat [])).bind fun xr3=>(cond (!xr3) (some false) (back (W (i+1)) o0 o1 o2 o3 o4 o5 o6)))) (k0 o0 o1 o2 o3 o4 o5 o6))
def bN_.loop6 (n:Nat) (k0:Int→(List Bs)→Int→Int→Bs→(List aa_)→(List Bs)→Option Bool) (N:Nat):Int→Int→(List Bs)→Int→Int→Bs→(List aa_)→(List Bs)→Option Bool :=
 dp_ (fun _ _ _ _ _ _ _ _=>none) (fun back=>bN_.step6 n k0 back) N
def bN_:Nat→TOp→Option Bool
 |0,_=>none
 |n+1,o=>
  ((dy_ n o.kind 1 4).bind fun xr1=>(cond (!xr1) (some false) (cond (decide ((o.way.length:Int) > 6)) (some false) ((ch_ n (aa_.re o.value)).bind fun xr2=>(cond (!xr2) (some false) (bN_.loop6 n (fun xy4 xy5 xy6 xy7 xy8 xy9 xy10=>(cond (xy4 != 2) (some true) ((al_ n (aa_.mk xy6 xy7 xy8 xy9 xy10) (aa_.mk 0 0 [] [] [])).bind fun xr11=>(some xr11)))) n 0 o.kind o.way o.value.kind o.value.n_ o.value.s o.value.list o.value.names))))))
def cM_:Nat→Unit→Option (List Bs)
 |0,_=>none
 |n+1,_u=>
  (some ([[],[97,100,100],[114,101,109,111,118,101],[114,101,112,108,97,99,101],[116,101,115,116]]:List Bs))
def aw_.step10 (n:Nat) (k2:(List Bs)→Int→(List Int)→Option Bs) (back:(List Bs)→Int→Int→(List Int)→Option Bs) (way:List Bs) (i:Int) (k:Int) (out_1:List Int):Option Bs :=
 (inB i way.length (cond (decide (k<((way.getD i.toNat []).length:Int))) (inB i way.length (inB k (way.getD i.toNat []).length (cond ((((way.getD i.toNat []).getD k.toNat 0).toNat:Int) == 126) (cJ_ (out_1.length+([126,48]:List Int).length) 1 (back way i (W (k+1)) (out_1++([126,48]:List Int)))) (cond ((((way.getD i.toNat []).getD k.toNat 0).toNat:Int) == 47) (cJ_ (out_1.length+([126,49]:List Int).length) 1 (back way i (W (k+1)) (out_1++([126,49]:List Int)))) (inB i way.length (inB k (way.getD i.toNat []).length (cJ_ (out_1.length+([(((way.getD i.toNat []).getD k.toNat 0).toNat:Int)]:List Int).length) 1 (back way i (W (k+1)) (out_1++([(((way.getD i.toNat []).getD k.toNat 0).toNat:Int)]:List Int)))))))))) (k2 way i out_1)))
def aw_.loop10 (n:Nat) (k2:(List Bs)→Int→(List Int)→Option Bs) (N:Nat):(List Bs)→Int→Int→(List Int)→Option Bs :=
 dp_ (fun _ _ _ _=>none) (fun back=>aw_.step10 n k2 back) N
def aw_.step4 (n:Nat) (k0:(List Int)→Option Bs) (back:(List Bs)→Int→(List Int)→Option Bs) (way:List Bs) (i:Int) (out_1:List Int):Option Bs :=
 (cond (decide (i<(way.length:Int))) (cJ_ (out_1.length+([47]:List Int).length) 1 (aw_.loop10 n (fun xy1 xy2 xy3=>(back xy1 (W (xy2+1)) xy3)) n way i 0 (out_1++([47]:List Int)))) (k0 out_1))
def aw_.loop4 (n:Nat) (k0:(List Int)→Option Bs) (N:Nat):(List Bs)→Int→(List Int)→Option Bs :=
 dp_ (fun _ _ _=>none) (fun back=>aw_.step4 n k0 back) N
def aw_:Nat→(List Bs)→Option Bs
 |0,_=>none
 |n+1,way=>
  (aw_.loop4 n (fun xy4=>(some (ly_ xy4))) n way 0 ([]:List Int))
def df_:Nat→TOp→Option aa_
 |0,_=>none
 |n+1,o=>
  ((bN_ n (TOp.mk o.kind o.way (aa_.re o.value))).bind fun xr1=>(cond (!xr1) (some (aa_.mk 0 0 [] ([]:List aa_) ([]:List Bs))) ((cM_ n ()).bind fun xr2=>(inB o.kind xr2.length ((aw_ n o.way).bind fun xr3=>(cond (o.kind != 2) ((a7_ n (aa_.re o.value)).bind fun xr4=>((bz_ n (aa_.mk 5 0 [] ([(aa_.mk 3 0 (xr2.getD o.kind.toNat []) [] []),(aa_.mk 3 0 xr3 [] [])]:List aa_) ([[111,112],[112,97,116,104]]:List Bs)) [118,97,108,117,101] (aa_.re xr4)).bind fun xr5=>((ch_ n (aa_.re xr5)).bind fun xr6=>(cond (!xr6) (some (aa_.mk 0 0 [] ([]:List aa_) ([]:List Bs))) (some (aa_.re xr5)))))) ((ch_ n (aa_.mk 5 0 [] ([(aa_.mk 3 0 (xr2.getD o.kind.toNat []) [] []),(aa_.mk 3 0 xr3 [] [])]:List aa_) ([[111,112],[112,97,116,104]]:List Bs))).bind fun xr7=>(cond (!xr7) (some (aa_.mk 0 0 [] ([]:List aa_) ([]:List Bs))) (some (aa_.mk 5 0 [] ([(aa_.mk 3 0 (xr2.getD o.kind.toNat []) [] []),(aa_.mk 3 0 xr3 [] [])]:List aa_) ([[111,112],[112,97,116,104]]:List Bs)))))))))))
def a3_.step4 (n:Nat) (k0:(List Int)→Option Bs) (back:Bs→Int→(List Int)→Option Bs) (s:Bs) (i:Int) (out_1:List Int):Option Bs :=
 (cond (decide (i<(s.length:Int))) (inB i s.length (cond (((s.getD i.toNat 0).toNat:Int) == 34) (cJ_ (out_1.length+([92]:List Int).length) 1 (inB i s.length (cJ_ ((out_1++([92]:List Int)).length+([((s.getD i.toNat 0).toNat:Int)]:List Int).length) 1 (back s (W (i+1)) ((out_1++([92]:List Int))++([((s.getD i.toNat 0).toNat:Int)]:List Int)))))) (inB i s.length (cond (((s.getD i.toNat 0).toNat:Int) == 92) (cJ_ (out_1.length+([92]:List Int).length) 1 (inB i s.length (cJ_ ((out_1++([92]:List Int)).length+([((s.getD i.toNat 0).toNat:Int)]:List Int).length) 1 (back s (W (i+1)) ((out_1++([92]:List Int))++([((s.getD i.toNat 0).toNat:Int)]:List Int)))))) (inB i s.length (cJ_ (out_1.length+([((s.getD i.toNat 0).toNat:Int)]:List Int).length) 1 (back s (W (i+1)) (out_1++([((s.getD i.toNat 0).toNat:Int)]:List Int))))))))) (k0 out_1))
def a3_.loop4 (n:Nat) (k0:(List Int)→Option Bs) (N:Nat):Bs→Int→(List Int)→Option Bs :=
 dp_ (fun _ _ _=>none) (fun back=>a3_.step4 n k0 back) N
def a3_:Nat→Bs→Option Bs
 |0,_=>none
 |n+1,s=>
  (a3_.loop4 n (fun xy1=>(cJ_ (xy1.length+([34]:List Int).length) 1 (some (ly_ (xy1++([34]:List Int)))))) n s 0 ([34]:List Int))
def aE_.step17 (n:Nat) (spec_l2Encode_:aa_→Option Bs) (k1:Bs→Int→Int→Bs→(List aa_)→(List Bs)→Option Bs) (back:Bs→Int→Int→Int→Bs→(List aa_)→(List Bs)→Option Bs) (out_1:Bs) (i:Int) (j0:Int) (j1:Int) (j2:Bs) (j3:List aa_) (j4:List Bs):Option Bs :=
 (cond (decide (i<(j3.length:Int))) (cond (decide (i > 0)) (cond (decide (out_1.length+[44].length≤9223372036854775807)) (cond (j0 == 5) (inB i j4.length ((a3_ n (j4.getD i.toNat [])).bind fun xr3=>(cond (decide ((out_1++[44]).length+xr3.length≤9223372036854775807)) (cond (decide (((out_1++[44])++xr3).length+[58].length≤9223372036854775807)) (inB i j3.length ((spec_l2Encode_ (aa_.re (j3.getD i.toNat aa_.dflt))).bind fun xr4=>(cond (decide ((((out_1++[44])++xr3)++[58]).length+xr4.length≤9223372036854775807)) (back ((((out_1++[44])++xr3)++[58])++xr4) (W (i+1)) j0 j1 j2 j3 j4) none))) none) none))) (inB i j3.length ((spec_l2Encode_ (aa_.re (j3.getD i.toNat aa_.dflt))).bind fun xr5=>(cond (decide ((out_1++[44]).length+xr5.length≤9223372036854775807)) (back ((out_1++[44])++xr5) (W (i+1)) j0 j1 j2 j3 j4) none)))) none) (cond (j0 == 5) (inB i j4.length ((a3_ n (j4.getD i.toNat [])).bind fun xr6=>(cond (decide (out_1.length+xr6.length≤9223372036854775807)) (cond (decide ((out_1++xr6).length+[58].length≤9223372036854775807)) (inB i j3.length ((spec_l2Encode_ (aa_.re (j3.getD i.toNat aa_.dflt))).bind fun xr7=>(cond (decide (((out_1++xr6)++[58]).length+xr7.length≤9223372036854775807)) (back (((out_1++xr6)++[58])++xr7) (W (i+1)) j0 j1 j2 j3 j4) none))) none) none))) (inB i j3.length ((spec_l2Encode_ (aa_.re (j3.getD i.toNat aa_.dflt))).bind fun xr8=>(cond (decide (out_1.length+xr8.length≤9223372036854775807)) (back (out_1++xr8) (W (i+1)) j0 j1 j2 j3 j4) none))))) (k1 out_1 j0 j1 j2 j3 j4))
def aE_.loop17 (n:Nat) (spec_l2Encode_:aa_→Option Bs) (k1:Bs→Int→Int→Bs→(List aa_)→(List Bs)→Option Bs) (N:Nat):Bs→Int→Int→Int→Bs→(List aa_)→(List Bs)→Option Bs :=
 dp_ (fun _ _ _ _ _ _ _=>none) (fun back=>aE_.step17 n spec_l2Encode_ k1 back) N
def aE_:Nat→aa_→Option Bs
 |0,_=>none
 |n+1,j=>
  (cond (j.kind == 0) (some [110,117,108,108]) (cond (j.kind == 1) (cond (j.n_ == 1) (some [116,114,117,101]) (some [102,97,108,115,101])) (cond (j.kind == 2) ((aN_ n j.n_).bind fun xr1=>(some xr1)) (cond (j.kind == 3) ((a3_ n j.s).bind fun xr2=>(some xr2)) (aE_.loop17 n (aE_ n) (fun xy9 xy10 xy11 xy12 xy13 xy14=>(cond (xy10 == 5) (cond (decide ([123].length+xy9.length≤9223372036854775807)) (cond (decide ((([123]:Bs)++xy9).length+[125].length≤9223372036854775807)) (some ((([123]:Bs)++xy9)++[125])) none) none) (cond (decide ([91].length+xy9.length≤9223372036854775807)) (cond (decide ((([91]:Bs)++xy9).length+[93].length≤9223372036854775807)) (some ((([91]:Bs)++xy9)++[93])) none) none))) n [] 0 j.kind j.n_ j.s j.list j.names)))))
def cX_:Nat→aa_→Option Bs
 |0,_=>none
 |n+1,j=>
  ((ch_ n (aa_.re j)).bind fun xr1=>(cond (!xr1) (some []) ((aE_ n (aa_.re j)).bind fun xr2=>(cond (decide ((xr2.length:Int) > 6000)) (some []) (some xr2)))))
def aJ_.step4 (n:Nat) (k0:Int→Int→Bs→(List aa_)→Option Int) (back:(List TOp)→Int→Int→Int→Bs→(List aa_)→Option Int) (list:List TOp) (i:Int) (j0:Int) (j1:Int) (j2:Bs) (j3:List aa_):Option Int :=
 (cond (decide (i<(list.length:Int))) (inB i list.length ((df_ n { (list.getD i.toNat TOp.dflt) with value:=(aa_.re ((list.getD i.toNat TOp.dflt).value)) }).bind fun xr1=>(cond (xr1.kind == 0) (some (-1)) (cJ_ (j3.length+([(aa_.re xr1)]:List aa_).length) 80 (back list (W (i+1)) j0 j1 j2 (j3++([(aa_.re xr1)]:List aa_))))))) (k0 j0 j1 j2 j3))
def aJ_.loop4 (n:Nat) (k0:Int→Int→Bs→(List aa_)→Option Int) (N:Nat):(List TOp)→Int→Int→Int→Bs→(List aa_)→Option Int :=
 dp_ (fun _ _ _ _ _ _=>none) (fun back=>aJ_.step4 n k0 back) N
def aJ_:Nat→(List TOp)→Option Int
 |0,_=>none
 |n+1,list=>
  (aJ_.loop4 n (fun xy2 xy3 xy4 xy5=>((cX_ n (aa_.mk xy2 xy3 xy4 xy5 [])).bind fun xr6=>(cond (xr6 == []) (some (-1)) (some (xr6.length:Int))))) n list 0 4 0 [] ([]:List aa_))
def cO_:Nat→bB_→bB_→Option Bool
 |0,_,_=>none
 |n+1,a,b=>
  ((b1_ n a b).bind fun xr1=>((aJ_ n xr1).bind fun xr2=>(cond (decide ((xr1.length:Int)≤40)) (cond (decide (xr2≥0)) ((ct_ n b).bind fun xr3=>((cX_ n (aa_.re xr3)).bind fun xr4=>(some (decide (xr2<(xr4.length:Int)))))) (some false)) (some false))))
def cx_:Nat→bZ_→Option (bZ_ × cI_ × Bool)
 |0,_=>none
 |n+1,x=>
  ((cN_ n x).bind fun xr1=>((cP_ n x).bind fun xr2=>(cond (!xr2) (some (xr1,(cI_.mk 0 0 0 (aa_.mk 0 0 [] [] []) ([]:List TOp)),false)) ((ct_ n x.view).bind fun xr3=>(cond x.began ((cO_ n x.last x.view).bind fun xr4=>(cond xr4 ((b1_ n x.last x.view).bind fun xr5=>((cj_ n x.view).bind fun xr6=>(some ({ xr1 with last:=xr6,lastVersion:=x.version,began:=true },(cI_.mk 2 x.version x.lastVersion (aa_.mk 0 0 [] [] []) xr5),true)))) ((cj_ n x.view).bind fun xr7=>(some ({ xr1 with last:=xr7,lastVersion:=x.version,began:=true },(cI_.mk 1 x.version 0 (aa_.re xr3) ([]:List TOp)),true))))) ((cj_ n x.view).bind fun xr8=>(some ({ xr1 with last:=xr8,lastVersion:=x.version,began:=true },(cI_.mk 1 x.version 0 (aa_.re xr3) ([]:List TOp)),true))))))))
def cr_:Nat→(List Int)→Option (List Int)
 |0,_=>none
 |n+1,l=>
  (cJ_ (([]:List Int).length+l.length) 8 (some (([]:List Int)++l)))
def cc_:Nat→aT_→Option aT_
 |0,_=>none
 |n+1,q=>
  (cJ_ (([]:List aP_).length+q.where_.length) 24 ((cr_ n q.show_).bind fun xr1=>(some { q with where_:=(([]:List aP_)++q.where_),show_:=xr1 })))
def cU_:Nat→TRow→Option TRow
 |0,_=>none
 |n+1,r=>
  ((cr_ n r.cells).bind fun xr1=>(some (TRow.mk r.id_ xr1)))
def aZ_.step4 (n:Nat) (k0:(List TRow)→Option (List TRow)) (back:(List TRow)→Int→Int→(List TRow)→Option (List TRow)) (t7:List TRow) (t8:Int) (t9:Int) (out_1:List TRow):Option (List TRow) :=
 (cond (decide (t9<t8)) (inB t9 t7.length ((cU_ n (t7.getD t9.toNat TRow.dflt)).bind fun xr1=>(cJ_ (out_1.length+([xr1]:List TRow).length) 32 (back t7 t8 (W (t9+1)) (out_1++([xr1]:List TRow)))))) (k0 out_1))
def aZ_.loop4 (n:Nat) (k0:(List TRow)→Option (List TRow)) (N:Nat):(List TRow)→Int→Int→(List TRow)→Option (List TRow) :=
 dp_ (fun _ _ _ _=>none) (fun back=>aZ_.step4 n k0 back) N
def aZ_:Nat→(List TRow)→Option (List TRow)
 |0,_=>none
 |n+1,rows=>
  (aZ_.loop4 n (fun xy2=>(some xy2)) n rows (rows.length:Int) 0 ([]:List TRow))
def bY_:Nat→bB_→Option bB_
 |0,_=>none
 |n+1,v=>
  ((cc_ n v.q).bind fun xr1=>((aZ_ n v.rows).bind fun xr2=>(cJ_ (([]:List TKid).length+v.kids.length) 16 (some (bB_.mk xr1 xr2 (([]:List TKid)++v.kids))))))
def cC_:Nat→bZ_→Option bZ_
 |0,_=>none
 |n+1,x=>
  ((bY_ n x.view).bind fun xr1=>((bY_ n x.last).bind fun xr2=>(some { x with view:=xr1,last:=xr2 })))
def by_.step3 (n:Nat) (k0:Option Int) (back:Int→(List TKid)→Int→Int→Option Int) (id_1:Int) (t8:List TKid) (t9:Int) (t10:Int):Option Int :=
 (cond (decide (t10<t9)) (inB t10 t8.length (cond (((t8.getD t10.toNat TKid.dflt).id_) == id_1) (some ((t8.getD t10.toNat TKid.dflt).n_)) (back id_1 t8 t9 (W (t10+1))))) k0)
def by_.loop3 (n:Nat) (k0:Option Int) (N:Nat):Int→(List TKid)→Int→Int→Option Int :=
 dp_ (fun _ _ _ _=>none) (fun back=>by_.step3 n k0 back) N
def by_:Nat→bB_→Int→Option Int
 |0,_,_=>none
 |n+1,v,id1=>
  (by_.loop3 n (some 0) n id1 v.kids (v.kids.length:Int) 0)
def aF_.step4 (n:Nat) (k0:(List Int)→Option (List Int)) (back:(List TRow)→Int→Int→Int→(List aP_)→Int→Bool→Int→(List Int)→Bool→Int→Int→(List TRow)→(List TKid)→(List Int)→Option (List Int)) (t8:List TRow) (t9:Int) (t10:Int) (v0:Int) (v1:List aP_) (v2:Int) (v3:Bool) (v4:Int) (v5:List Int) (v6:Bool) (v7:Int) (v8:Int) (v9:List TRow) (v10:List TKid) (kids:List Int):Option (List Int) :=
 (cond (decide (t10<t9)) (inB t10 t8.length ((by_ n (bB_.mk (aT_.mk v0 v1 v2 v3 v4 v5 v6 v7 v8) v9 v10) ((t8.getD t10.toNat TRow.dflt).id_)).bind fun xr1=>(cJ_ (kids.length+([xr1]:List Int).length) 8 (back t8 t9 (W (t10+1)) v0 v1 v2 v3 v4 v5 v6 v7 v8 v9 v10 (kids++([xr1]:List Int)))))) (k0 kids))
def aF_.loop4 (n:Nat) (k0:(List Int)→Option (List Int)) (N:Nat):(List TRow)→Int→Int→Int→(List aP_)→Int→Bool→Int→(List Int)→Bool→Int→Int→(List TRow)→(List TKid)→(List Int)→Option (List Int) :=
 dp_ (fun _ _ _ _ _ _ _ _ _ _ _ _ _ _ _=>none) (fun back=>aF_.step4 n k0 back) N
def aF_:Nat→bB_→Option (List Int)
 |0,_=>none
 |n+1,v=>
  (aF_.loop4 n (fun xy2=>(some xy2)) n v.rows (v.rows.length:Int) 0 v.q.table v.q.where_ v.q.order v.q.down v.q.first v.q.show_ v.q.kids v.q.kidTable v.q.kidCol v.rows v.kids ([]:List Int))
def cT_:Nat→aT_→Int→Option Int
 |0,_,_=>none
 |n+1,q,count=>
  (cond (q.first == 0) (some count) (let xv1:Int:=(cond (decide (count<(cond (decide ((0:Int) > q.first)) 0 q.first))) count (cond (decide ((0:Int) > q.first)) 0 q.first));(some xv1)))
def aB_.step3 (n:Nat) (k0:Option Int) (back:(List Int)→Int→Int→Int→Option Int) (s:List Int) (v:Int) (t7:Int) (t8:Int):Option Int :=
 (cond (decide (t8<t7)) (inB t8 s.length (cond (v == (s.getD t8.toNat 0)) (some t8) (back s v t7 (W (t8+1))))) k0)
def aB_.loop3 (n:Nat) (k0:Option Int) (N:Nat):(List Int)→Int→Int→Int→Option Int :=
 dp_ (fun _ _ _ _=>none) (fun back=>aB_.step3 n k0 back) N
def aB_:Nat→(List Int)→Int→Option Int
 |0,_,_=>none
 |n+1,s,v=>
  (aB_.loop3 n (some (-1)) n s v (s.length:Int) 0)
def br_:Nat→(List Int)→Int→Option Bool
 |0,_,_=>none
 |n+1,s,v=>
  ((aB_ n s v).bind fun xr1=>(some (decide (xr1≥0))))
def strconv_Itoa:Nat→Int→Option Bs
 |0,_=>none
 |_+1,i=>nItoa i
def dk_:Nat→Int→Option Bs
 |0,_=>none
 |n+1,n1=>
  ((strconv_Itoa n n1).bind fun xr1=>(some xr1))
def aY_:Nat→Int→Int→Int→Option Bool
 |0,_,_,_=>none
 |n+1,n1,low,high=>
  (cond (decide (n1≥low)) (some (decide (n1≤high))) (some false))
def dm_:Nat→TRow→Int→Option Int
 |0,_,_=>none
 |n+1,r,col=>
  ((aY_ n col 0 (W ((r.cells.length:Int) - 1))).bind fun xr1=>(cond (!xr1) (some 0) (inB col r.cells.length (some (r.cells.getD col.toNat 0)))))
def bL_:Nat→Bs→Option Bool
 |0,_=>none
 |n+1,x=>
  (some (!(x == x)))
def bS_:Nat→Bs→Bs→Option Bool
 |0,_,_=>none
 |n+1,x,y=>
  ((bL_ n x).bind fun xr1=>(cond xr1 ((bL_ n y).bind fun xr2=>(cond (!xr2) (some true) (some (Op.bytesLess x y)))) (some (Op.bytesLess x y))))
def bq_:Nat→Bs→Option Bool
 |0,_=>none
 |n+1,x=>
  (some (!(x == x)))
def af_.step4 (n:Nat) (k0:(List Bs)→Bs→Int→Int→Option (Int × Bool)) (back:(List Bs)→Bs→Int→Int→Int→Option (Int × Bool)) (x:List Bs) (target:Bs) (n_1:Int) (i:Int) (j:Int):Option (Int × Bool) :=
 (cond (decide (i<j)) (let xv1:Int:=(Int.fdiv (IntKind.u64.wrap ((W (i+j)))) (2 ^ min (1:Int).toNat (IntKind.bits .u64)));(inB (W (xv1)) x.length ((bS_ n (x.getD (W (xv1)).toNat []) target).bind fun xr2=>(cond xr2 (back x target n_1 (W ((W (xv1))+1)) j) (back x target n_1 i (W (xv1))))))) (k0 x target n_1 i))
def af_.loop4 (n:Nat) (k0:(List Bs)→Bs→Int→Int→Option (Int × Bool)) (N:Nat):(List Bs)→Bs→Int→Int→Int→Option (Int × Bool) :=
 dp_ (fun _ _ _ _ _=>none) (fun back=>af_.step4 n k0 back) N
def af_:Nat→(List Bs)→Bs→Option (Int × Bool)
 |0,_,_=>none
 |n+1,x,target=>
  (af_.loop4 n (fun xy3 xy4 xy5 xy6=>(cond (decide (xy6<xy5)) (inB xy6 xy3.length (cond ((xy3.getD xy6.toNat []) == xy4) (some (xy6,true)) (inB xy6 xy3.length ((bq_ n (xy3.getD xy6.toNat [])).bind fun xr7=>(cond xr7 ((bq_ n xy4).bind fun xr8=>(some (xy6,xr8))) (some (xy6,false))))))) (some (xy6,false)))) n x target (x.length:Int) 0 (x.length:Int))
def bK_:Nat→List Bs→Int→List Bs→Option (List Bs)
 |0,_,_,_=>none
 |_+1,s,i,v=>gz_ 16 s i v
def bR_:Nat→List aa_→Int→List aa_→Option (List aa_)
 |0,_,_,_=>none
 |_+1,s,i,v=>gz_ 80 s i v
def bC_.step4 (n:Nat) (k0:Int→Int→Bs→Int→Int→Bs→(List aa_)→(List Bs)→Option aa_) (back:(List Int)→(List Bs)→Int→Int→Int→Int→Bs→Int→Int→Bs→(List aa_)→(List Bs)→Option aa_) (numbers:List Int) (t11:List Bs) (t12:Int) (t13:Int) (t40:Int) (t41:Int) (t42:Bs) (j0:Int) (j1:Int) (j2:Bs) (j3:List aa_) (j4:List Bs):Option aa_ :=
 (cond (decide (t13<t12)) (inB t13 t11.length ((af_ n j4 (t11.getD t13.toNat [])).bind fun xr1=>((bK_ n j4 xr1.1 ([(t11.getD t13.toNat [])]:List Bs)).bind fun xr2=>(inB t13 numbers.length ((bR_ n j3 xr1.1 ([(aa_.mk 2 (numbers.getD t13.toNat 0) [] [] [])]:List aa_)).bind fun xr3=>(back numbers t11 t12 (W (t13+1)) t40 t41 t42 j0 j1 j2 xr3 xr2)))))) (k0 t40 t41 t42 j0 j1 j2 j3 j4))
def bC_.loop4 (n:Nat) (k0:Int→Int→Bs→Int→Int→Bs→(List aa_)→(List Bs)→Option aa_) (N:Nat):(List Int)→(List Bs)→Int→Int→Int→Int→Bs→Int→Int→Bs→(List aa_)→(List Bs)→Option aa_ :=
 dp_ (fun _ _ _ _ _ _ _ _ _ _ _ _=>none) (fun back=>bC_.step4 n k0 back) N
def bC_:Nat→(List Bs)→(List Int)→Option aa_
 |0,_,_=>none
 |n+1,names,numbers=>
  (bC_.loop4 n (fun xy4 xy5 xy6 xy7 xy8 xy9 xy10 xy11=>(some (aa_.mk xy7 xy8 xy9 xy10 xy11))) n numbers names (names.length:Int) 0 0 0 [] 5 0 [] ([]:List aa_) ([]:List Bs))
def bA_:Nat→Int→Option Bool
 |0,_=>none
 |n+1,n1=>
  ((aY_ n n1 (-1000000000) 1000000000).bind fun xr1=>(some xr1))
def ax_.step3 (n:Nat) (k0:Bs→Option Bool) (back:Bs→Int→Int→Option Bool) (s:Bs) (t5:Int) (t6:Int):Option Bool :=
 (cond (decide (t6<t5)) (inB t6 s.length ((aY_ n (W (((s.getD t6.toNat 0).toNat:Int))) 32 126).bind fun xr1=>(cond (!xr1) (some false) (back s t5 (W (t6+1)))))) (k0 s))
def ax_.loop3 (n:Nat) (k0:Bs→Option Bool) (N:Nat):Bs→Int→Int→Option Bool :=
 dp_ (fun _ _ _=>none) (fun back=>ax_.step3 n k0 back) N
def ax_:Nat→Bs→Option Bool
 |0,_=>none
 |n+1,s=>
  (ax_.loop3 n (fun xy2=>(some (decide ((xy2.length:Int)≤60)))) n s (s.length:Int) 0)
def am_.step3 (n:Nat) (k0:Option Bool) (back:(List Bs)→(List Bs)→Int→Int→Option Bool) (names:List Bs) (t5:List Bs) (t6:Int) (t7:Int):Option Bool :=
 (cond (decide (t7<t6)) (inB t7 t5.length ((ax_ n (t5.getD t7.toNat [])).bind fun xr1=>(cond (!xr1) (some false) (cond (decide (t7 > 0)) (inB (W (t7 - 1)) names.length (let xv2:Bool:=(!Op.bytesLess (names.getD (W (t7 - 1)).toNat []) (t5.getD t7.toNat []));(cond xv2 (some false) (back names t5 t6 (W (t7+1)))))) (back names t5 t6 (W (t7+1))))))) k0)
def am_.loop3 (n:Nat) (k0:Option Bool) (N:Nat):(List Bs)→(List Bs)→Int→Int→Option Bool :=
 dp_ (fun _ _ _ _=>none) (fun back=>am_.step3 n k0 back) N
def am_:Nat→(List Bs)→Option Bool
 |0,_=>none
 |n+1,names=>
  (am_.loop3 n (some true) n names names (names.length:Int) 0)
def dH_:Nat→aa_→Option Bool
 |0,_=>none
 |n+1,o=>
  (cond (decide ((o.list.length:Int) > 0)) (cond (o.kind != 4) (cond (o.kind != 5) (some false) (cond (decide ((o.names.length:Int) > 0)) (cond (o.kind != 5) (some false) (cond (o.n_ != 0) (cond (o.kind != 1) (cond (o.kind != 2) (some false) (cond (!(o.s == [])) (cond (o.kind != 3) (some false) (cond (o.kind == 1) ((aY_ n o.n_ 0 1).bind fun xr1=>(some xr1)) (cond (o.kind == 2) ((bA_ n o.n_).bind fun xr2=>(some xr2)) (cond (o.kind == 3) ((ax_ n o.s).bind fun xr3=>(some xr3)) (cond (o.kind == 5) (cond ((o.names.length:Int) == (o.list.length:Int)) ((am_ n o.names).bind fun xr4=>(some xr4)) (some false)) (cond (o.kind == 0) (some true) (some (o.kind == 4)))))))) (cond (o.kind == 1) ((aY_ n o.n_ 0 1).bind fun xr5=>(some xr5)) (cond (o.kind == 2) ((bA_ n o.n_).bind fun xr6=>(some xr6)) (cond (o.kind == 3) ((ax_ n o.s).bind fun xr7=>(some xr7)) (cond (o.kind == 5) (cond ((o.names.length:Int) == (o.list.length:Int)) ((am_ n o.names).bind fun xr8=>(some xr8)) (some false)) (cond (o.kind == 0) (some true) (some (o.kind == 4))))))))) (cond (!(o.s == [])) (cond (o.kind != 3) (some false) (cond (o.kind == 1) ((aY_ n o.n_ 0 1).bind fun xr9=>(some xr9)) (cond (o.kind == 2) ((bA_ n o.n_).bind fun xr10=>(some xr10)) (cond (o.kind == 3) ((ax_ n o.s).bind fun xr11=>(some xr11)) (cond (o.kind == 5) (cond ((o.names.length:Int) == (o.list.length:Int)) ((am_ n o.names).bind fun xr12=>(some xr12)) (some false)) (cond (o.kind == 0) (some true) (some (o.kind == 4)))))))) (cond (o.kind == 1) ((aY_ n o.n_ 0 1).bind fun xr13=>(some xr13)) (cond (o.kind == 2) ((bA_ n o.n_).bind fun xr14=>(some xr14)) (cond (o.kind == 3) ((ax_ n o.s).bind fun xr15=>(some xr15)) (cond (o.kind == 5) (cond ((o.names.length:Int) == (o.list.length:Int)) ((am_ n o.names).bind fun xr16=>(some xr16)) (some false)) (cond (o.kind == 0) (some true) (some (o.kind == 4))))))))) (cond (!(o.s == [])) (cond (o.kind != 3) (some false) (cond (o.kind == 1) ((aY_ n o.n_ 0 1).bind fun xr17=>(some xr17)) (cond (o.kind == 2) ((bA_ n o.n_).bind fun xr18=>(some xr18)) (cond (o.kind == 3) ((ax_ n o.s).bind fun xr19=>(some xr19)) (cond (o.kind == 5) (cond ((o.names.length:Int) == (o.list.length:Int)) ((am_ n o.names).bind fun xr20=>(some xr20)) (some false)) (cond (o.kind == 0) (some true) (some (o.kind == 4)))))))) (cond (o.kind == 1) ((aY_ n o.n_ 0 1).bind fun xr21=>(some xr21)) (cond (o.kind == 2) ((bA_ n o.n_).bind fun xr22=>(some xr22)) (cond (o.kind == 3) ((ax_ n o.s).bind fun xr23=>(some xr23)) (cond (o.kind == 5) (cond ((o.names.length:Int) == (o.list.length:Int)) ((am_ n o.names).bind fun xr24=>(some xr24)) (some false)) (cond (o.kind == 0) (some true) (some (o.kind == 4)))))))))) (cond (o.n_ != 0) (cond (o.kind != 1) (cond (o.kind != 2) (some false) (cond (!(o.s == [])) (cond (o.kind != 3) (some false) (cond (o.kind == 1) ((aY_ n o.n_ 0 1).bind fun xr25=>(some xr25)) (cond (o.kind == 2) ((bA_ n o.n_).bind fun xr26=>(some xr26)) (cond (o.kind == 3) ((ax_ n o.s).bind fun xr27=>(some xr27)) (cond (o.kind == 5) (cond ((o.names.length:Int) == (o.list.length:Int)) ((am_ n o.names).bind fun xr28=>(some xr28)) (some false)) (cond (o.kind == 0) (some true) (some (o.kind == 4)))))))) (cond (o.kind == 1) ((aY_ n o.n_ 0 1).bind fun xr29=>(some xr29)) (cond (o.kind == 2) ((bA_ n o.n_).bind fun xr30=>(some xr30)) (cond (o.kind == 3) ((ax_ n o.s).bind fun xr31=>(some xr31)) (cond (o.kind == 5) (cond ((o.names.length:Int) == (o.list.length:Int)) ((am_ n o.names).bind fun xr32=>(some xr32)) (some false)) (cond (o.kind == 0) (some true) (some (o.kind == 4))))))))) (cond (!(o.s == [])) (cond (o.kind != 3) (some false) (cond (o.kind == 1) ((aY_ n o.n_ 0 1).bind fun xr33=>(some xr33)) (cond (o.kind == 2) ((bA_ n o.n_).bind fun xr34=>(some xr34)) (cond (o.kind == 3) ((ax_ n o.s).bind fun xr35=>(some xr35)) (cond (o.kind == 5) (cond ((o.names.length:Int) == (o.list.length:Int)) ((am_ n o.names).bind fun xr36=>(some xr36)) (some false)) (cond (o.kind == 0) (some true) (some (o.kind == 4)))))))) (cond (o.kind == 1) ((aY_ n o.n_ 0 1).bind fun xr37=>(some xr37)) (cond (o.kind == 2) ((bA_ n o.n_).bind fun xr38=>(some xr38)) (cond (o.kind == 3) ((ax_ n o.s).bind fun xr39=>(some xr39)) (cond (o.kind == 5) (cond ((o.names.length:Int) == (o.list.length:Int)) ((am_ n o.names).bind fun xr40=>(some xr40)) (some false)) (cond (o.kind == 0) (some true) (some (o.kind == 4))))))))) (cond (!(o.s == [])) (cond (o.kind != 3) (some false) (cond (o.kind == 1) ((aY_ n o.n_ 0 1).bind fun xr41=>(some xr41)) (cond (o.kind == 2) ((bA_ n o.n_).bind fun xr42=>(some xr42)) (cond (o.kind == 3) ((ax_ n o.s).bind fun xr43=>(some xr43)) (cond (o.kind == 5) (cond ((o.names.length:Int) == (o.list.length:Int)) ((am_ n o.names).bind fun xr44=>(some xr44)) (some false)) (cond (o.kind == 0) (some true) (some (o.kind == 4)))))))) (cond (o.kind == 1) ((aY_ n o.n_ 0 1).bind fun xr45=>(some xr45)) (cond (o.kind == 2) ((bA_ n o.n_).bind fun xr46=>(some xr46)) (cond (o.kind == 3) ((ax_ n o.s).bind fun xr47=>(some xr47)) (cond (o.kind == 5) (cond ((o.names.length:Int) == (o.list.length:Int)) ((am_ n o.names).bind fun xr48=>(some xr48)) (some false)) (cond (o.kind == 0) (some true) (some (o.kind == 4))))))))))) (cond (decide ((o.names.length:Int) > 0)) (cond (o.kind != 5) (some false) (cond (o.n_ != 0) (cond (o.kind != 1) (cond (o.kind != 2) (some false) (cond (!(o.s == [])) (cond (o.kind != 3) (some false) (cond (o.kind == 1) ((aY_ n o.n_ 0 1).bind fun xr49=>(some xr49)) (cond (o.kind == 2) ((bA_ n o.n_).bind fun xr50=>(some xr50)) (cond (o.kind == 3) ((ax_ n o.s).bind fun xr51=>(some xr51)) (cond (o.kind == 5) (cond ((o.names.length:Int) == (o.list.length:Int)) ((am_ n o.names).bind fun xr52=>(some xr52)) (some false)) (cond (o.kind == 0) (some true) (some (o.kind == 4)))))))) (cond (o.kind == 1) ((aY_ n o.n_ 0 1).bind fun xr53=>(some xr53)) (cond (o.kind == 2) ((bA_ n o.n_).bind fun xr54=>(some xr54)) (cond (o.kind == 3) ((ax_ n o.s).bind fun xr55=>(some xr55)) (cond (o.kind == 5) (cond ((o.names.length:Int) == (o.list.length:Int)) ((am_ n o.names).bind fun xr56=>(some xr56)) (some false)) (cond (o.kind == 0) (some true) (some (o.kind == 4))))))))) (cond (!(o.s == [])) (cond (o.kind != 3) (some false) (cond (o.kind == 1) ((aY_ n o.n_ 0 1).bind fun xr57=>(some xr57)) (cond (o.kind == 2) ((bA_ n o.n_).bind fun xr58=>(some xr58)) (cond (o.kind == 3) ((ax_ n o.s).bind fun xr59=>(some xr59)) (cond (o.kind == 5) (cond ((o.names.length:Int) == (o.list.length:Int)) ((am_ n o.names).bind fun xr60=>(some xr60)) (some false)) (cond (o.kind == 0) (some true) (some (o.kind == 4)))))))) (cond (o.kind == 1) ((aY_ n o.n_ 0 1).bind fun xr61=>(some xr61)) (cond (o.kind == 2) ((bA_ n o.n_).bind fun xr62=>(some xr62)) (cond (o.kind == 3) ((ax_ n o.s).bind fun xr63=>(some xr63)) (cond (o.kind == 5) (cond ((o.names.length:Int) == (o.list.length:Int)) ((am_ n o.names).bind fun xr64=>(some xr64)) (some false)) (cond (o.kind == 0) (some true) (some (o.kind == 4))))))))) (cond (!(o.s == [])) (cond (o.kind != 3) (some false) (cond (o.kind == 1) ((aY_ n o.n_ 0 1).bind fun xr65=>(some xr65)) (cond (o.kind == 2) ((bA_ n o.n_).bind fun xr66=>(some xr66)) (cond (o.kind == 3) ((ax_ n o.s).bind fun xr67=>(some xr67)) (cond (o.kind == 5) (cond ((o.names.length:Int) == (o.list.length:Int)) ((am_ n o.names).bind fun xr68=>(some xr68)) (some false)) (cond (o.kind == 0) (some true) (some (o.kind == 4)))))))) (cond (o.kind == 1) ((aY_ n o.n_ 0 1).bind fun xr69=>(some xr69)) (cond (o.kind == 2) ((bA_ n o.n_).bind fun xr70=>(some xr70)) (cond (o.kind == 3) ((ax_ n o.s).bind fun xr71=>(some xr71)) (cond (o.kind == 5) (cond ((o.names.length:Int) == (o.list.length:Int)) ((am_ n o.names).bind fun xr72=>(some xr72)) (some false)) (cond (o.kind == 0) (some true) (some (o.kind == 4)))))))))) (cond (o.n_ != 0) (cond (o.kind != 1) (cond (o.kind != 2) (some false) (cond (!(o.s == [])) (cond (o.kind != 3) (some false) (cond (o.kind == 1) ((aY_ n o.n_ 0 1).bind fun xr73=>(some xr73)) (cond (o.kind == 2) ((bA_ n o.n_).bind fun xr74=>(some xr74)) (cond (o.kind == 3) ((ax_ n o.s).bind fun xr75=>(some xr75)) (cond (o.kind == 5) (cond ((o.names.length:Int) == (o.list.length:Int)) ((am_ n o.names).bind fun xr76=>(some xr76)) (some false)) (cond (o.kind == 0) (some true) (some (o.kind == 4)))))))) (cond (o.kind == 1) ((aY_ n o.n_ 0 1).bind fun xr77=>(some xr77)) (cond (o.kind == 2) ((bA_ n o.n_).bind fun xr78=>(some xr78)) (cond (o.kind == 3) ((ax_ n o.s).bind fun xr79=>(some xr79)) (cond (o.kind == 5) (cond ((o.names.length:Int) == (o.list.length:Int)) ((am_ n o.names).bind fun xr80=>(some xr80)) (some false)) (cond (o.kind == 0) (some true) (some (o.kind == 4))))))))) (cond (!(o.s == [])) (cond (o.kind != 3) (some false) (cond (o.kind == 1) ((aY_ n o.n_ 0 1).bind fun xr81=>(some xr81)) (cond (o.kind == 2) ((bA_ n o.n_).bind fun xr82=>(some xr82)) (cond (o.kind == 3) ((ax_ n o.s).bind fun xr83=>(some xr83)) (cond (o.kind == 5) (cond ((o.names.length:Int) == (o.list.length:Int)) ((am_ n o.names).bind fun xr84=>(some xr84)) (some false)) (cond (o.kind == 0) (some true) (some (o.kind == 4)))))))) (cond (o.kind == 1) ((aY_ n o.n_ 0 1).bind fun xr85=>(some xr85)) (cond (o.kind == 2) ((bA_ n o.n_).bind fun xr86=>(some xr86)) (cond (o.kind == 3) ((ax_ n o.s).bind fun xr87=>(some xr87)) (cond (o.kind == 5) (cond ((o.names.length:Int) == (o.list.length:Int)) ((am_ n o.names).bind fun xr88=>(some xr88)) (some false)) (cond (o.kind == 0) (some true) (some (o.kind == 4))))))))) (cond (!(o.s == [])) (cond (o.kind != 3) (some false) (cond (o.kind == 1) ((aY_ n o.n_ 0 1).bind fun xr89=>(some xr89)) (cond (o.kind == 2) ((bA_ n o.n_).bind fun xr90=>(some xr90)) (cond (o.kind == 3) ((ax_ n o.s).bind fun xr91=>(some xr91)) (cond (o.kind == 5) (cond ((o.names.length:Int) == (o.list.length:Int)) ((am_ n o.names).bind fun xr92=>(some xr92)) (some false)) (cond (o.kind == 0) (some true) (some (o.kind == 4)))))))) (cond (o.kind == 1) ((aY_ n o.n_ 0 1).bind fun xr93=>(some xr93)) (cond (o.kind == 2) ((bA_ n o.n_).bind fun xr94=>(some xr94)) (cond (o.kind == 3) ((ax_ n o.s).bind fun xr95=>(some xr95)) (cond (o.kind == 5) (cond ((o.names.length:Int) == (o.list.length:Int)) ((am_ n o.names).bind fun xr96=>(some xr96)) (some false)) (cond (o.kind == 0) (some true) (some (o.kind == 4))))))))))) (cond (decide ((o.names.length:Int) > 0)) (cond (o.kind != 5) (some false) (cond (o.n_ != 0) (cond (o.kind != 1) (cond (o.kind != 2) (some false) (cond (!(o.s == [])) (cond (o.kind != 3) (some false) (cond (o.kind == 1) ((aY_ n o.n_ 0 1).bind fun xr97=>(some xr97)) (cond (o.kind == 2) ((bA_ n o.n_).bind fun xr98=>(some xr98)) (cond (o.kind == 3) ((ax_ n o.s).bind fun xr99=>(some xr99)) (cond (o.kind == 5) (cond ((o.names.length:Int) == (o.list.length:Int)) ((am_ n o.names).bind fun xr100=>(some xr100)) (some false)) (cond (o.kind == 0) (some true) (some (o.kind == 4)))))))) (cond (o.kind == 1) ((aY_ n o.n_ 0 1).bind fun xr101=>(some xr101)) (cond (o.kind == 2) ((bA_ n o.n_).bind fun xr102=>(some xr102)) (cond (o.kind == 3) ((ax_ n o.s).bind fun xr103=>(some xr103)) (cond (o.kind == 5) (cond ((o.names.length:Int) == (o.list.length:Int)) ((am_ n o.names).bind fun xr104=>(some xr104)) (some false)) (cond (o.kind == 0) (some true) (some (o.kind == 4))))))))) (cond (!(o.s == [])) (cond (o.kind != 3) (some false) (cond (o.kind == 1) ((aY_ n o.n_ 0 1).bind fun xr105=>(some xr105)) (cond (o.kind == 2) ((bA_ n o.n_).bind fun xr106=>(some xr106)) (cond (o.kind == 3) ((ax_ n o.s).bind fun xr107=>(some xr107)) (cond (o.kind == 5) (cond ((o.names.length:Int) == (o.list.length:Int)) ((am_ n o.names).bind fun xr108=>(some xr108)) (some false)) (cond (o.kind == 0) (some true) (some (o.kind == 4)))))))) (cond (o.kind == 1) ((aY_ n o.n_ 0 1).bind fun xr109=>(some xr109)) (cond (o.kind == 2) ((bA_ n o.n_).bind fun xr110=>(some xr110)) (cond (o.kind == 3) ((ax_ n o.s).bind fun xr111=>(some xr111)) (cond (o.kind == 5) (cond ((o.names.length:Int) == (o.list.length:Int)) ((am_ n o.names).bind fun xr112=>(some xr112)) (some false)) (cond (o.kind == 0) (some true) (some (o.kind == 4))))))))) (cond (!(o.s == [])) (cond (o.kind != 3) (some false) (cond (o.kind == 1) ((aY_ n o.n_ 0 1).bind fun xr113=>(some xr113)) (cond (o.kind == 2) ((bA_ n o.n_).bind fun xr114=>(some xr114)) (cond (o.kind == 3) ((ax_ n o.s).bind fun xr115=>(some xr115)) (cond (o.kind == 5) (cond ((o.names.length:Int) == (o.list.length:Int)) ((am_ n o.names).bind fun xr116=>(some xr116)) (some false)) (cond (o.kind == 0) (some true) (some (o.kind == 4)))))))) (cond (o.kind == 1) ((aY_ n o.n_ 0 1).bind fun xr117=>(some xr117)) (cond (o.kind == 2) ((bA_ n o.n_).bind fun xr118=>(some xr118)) (cond (o.kind == 3) ((ax_ n o.s).bind fun xr119=>(some xr119)) (cond (o.kind == 5) (cond ((o.names.length:Int) == (o.list.length:Int)) ((am_ n o.names).bind fun xr120=>(some xr120)) (some false)) (cond (o.kind == 0) (some true) (some (o.kind == 4)))))))))) (cond (o.n_ != 0) (cond (o.kind != 1) (cond (o.kind != 2) (some false) (cond (!(o.s == [])) (cond (o.kind != 3) (some false) (cond (o.kind == 1) ((aY_ n o.n_ 0 1).bind fun xr121=>(some xr121)) (cond (o.kind == 2) ((bA_ n o.n_).bind fun xr122=>(some xr122)) (cond (o.kind == 3) ((ax_ n o.s).bind fun xr123=>(some xr123)) (cond (o.kind == 5) (cond ((o.names.length:Int) == (o.list.length:Int)) ((am_ n o.names).bind fun xr124=>(some xr124)) (some false)) (cond (o.kind == 0) (some true) (some (o.kind == 4)))))))) (cond (o.kind == 1) ((aY_ n o.n_ 0 1).bind fun xr125=>(some xr125)) (cond (o.kind == 2) ((bA_ n o.n_).bind fun xr126=>(some xr126)) (cond (o.kind == 3) ((ax_ n o.s).bind fun xr127=>(some xr127)) (cond (o.kind == 5) (cond ((o.names.length:Int) == (o.list.length:Int)) ((am_ n o.names).bind fun xr128=>(some xr128)) (some false)) (cond (o.kind == 0) (some true) (some (o.kind == 4))))))))) (cond (!(o.s == [])) (cond (o.kind != 3) (some false) (cond (o.kind == 1) ((aY_ n o.n_ 0 1).bind fun xr129=>(some xr129)) (cond (o.kind == 2) ((bA_ n o.n_).bind fun xr130=>(some xr130)) (cond (o.kind == 3) ((ax_ n o.s).bind fun xr131=>(some xr131)) (cond (o.kind == 5) (cond ((o.names.length:Int) == (o.list.length:Int)) ((am_ n o.names).bind fun xr132=>(some xr132)) (some false)) (cond (o.kind == 0) (some true) (some (o.kind == 4)))))))) (cond (o.kind == 1) ((aY_ n o.n_ 0 1).bind fun xr133=>(some xr133)) (cond (o.kind == 2) ((bA_ n o.n_).bind fun xr134=>(some xr134)) (cond (o.kind == 3) ((ax_ n o.s).bind fun xr135=>(some xr135)) (cond (o.kind == 5) (cond ((o.names.length:Int) == (o.list.length:Int)) ((am_ n o.names).bind fun xr136=>(some xr136)) (some false)) (cond (o.kind == 0) (some true) (some (o.kind == 4))))))))) (cond (!(o.s == [])) (cond (o.kind != 3) (some false) (cond (o.kind == 1) ((aY_ n o.n_ 0 1).bind fun xr137=>(some xr137)) (cond (o.kind == 2) ((bA_ n o.n_).bind fun xr138=>(some xr138)) (cond (o.kind == 3) ((ax_ n o.s).bind fun xr139=>(some xr139)) (cond (o.kind == 5) (cond ((o.names.length:Int) == (o.list.length:Int)) ((am_ n o.names).bind fun xr140=>(some xr140)) (some false)) (cond (o.kind == 0) (some true) (some (o.kind == 4)))))))) (cond (o.kind == 1) ((aY_ n o.n_ 0 1).bind fun xr141=>(some xr141)) (cond (o.kind == 2) ((bA_ n o.n_).bind fun xr142=>(some xr142)) (cond (o.kind == 3) ((ax_ n o.s).bind fun xr143=>(some xr143)) (cond (o.kind == 5) (cond ((o.names.length:Int) == (o.list.length:Int)) ((am_ n o.names).bind fun xr144=>(some xr144)) (some false)) (cond (o.kind == 0) (some true) (some (o.kind == 4)))))))))))
def a8_.step7 (n:Nat) (impl_sizeIn_:aa_→Int→Option Int) (k0:Int→Option Int) (back:Int→Int→(List aa_)→Int→Int→Option Int) (deep:Int) (n_1:Int) (t16:List aa_) (t17:Int) (t18:Int):Option Int :=
 (cond (decide (t18<t17)) (inB t18 t16.length ((impl_sizeIn_ (aa_.re (t16.getD t18.toNat aa_.dflt)) (W (deep - 1))).bind fun xr2=>(cond (decide ((W (n_1+xr2)) > 400)) (some 401) (back deep (W (n_1+xr2)) t16 t17 (W (t18+1)))))) (k0 n_1))
def a8_.loop7 (n:Nat) (impl_sizeIn_:aa_→Int→Option Int) (k0:Int→Option Int) (N:Nat):Int→Int→(List aa_)→Int→Int→Option Int :=
 dp_ (fun _ _ _ _ _=>none) (fun back=>a8_.step7 n impl_sizeIn_ k0 back) N
def a8_:Nat→aa_→Int→Option Int
 |0,_,_=>none
 |n+1,j,deep=>
  (cond (decide (deep<1)) (some 401) ((dH_ n (aa_.re j)).bind fun xr1=>(cond (!xr1) (some 401) (a8_.loop7 n (a8_ n) (fun xy3=>(some xy3)) n deep 1 j.list (j.list.length:Int) 0))))
def cw_:Nat→aa_→Option Bool
 |0,_=>none
 |n+1,j=>
  ((a8_ n (aa_.re j) 6).bind fun xr1=>(some (decide (xr1≤400))))
def cq_:Nat→aa_→Option aa_
 |0,_=>none
 |n+1,j=>
  ((cw_ n (aa_.re j)).bind fun xr1=>(cond (!xr1) (some (aa_.mk 0 0 [] ([]:List aa_) ([]:List Bs))) (some (aa_.re j))))
def bm_.step4 (n:Nat) (k0:Int→Int→(List aP_)→Int→Bool→Int→(List Int)→Bool→Int→Int→Int→Int→Bs→(List Bs)→(List Int)→Option aa_) (back:Int→(List Int)→Int→Int→Int→(List aP_)→Int→Bool→Int→(List Int)→Bool→Int→Int→Int→(List Int)→Int→Int→Bs→(List Bs)→(List Int)→Option aa_) (kids:Int) (t16:List Int) (t17:Int) (t18:Int) (q0:Int) (q1:List aP_) (q2:Int) (q3:Bool) (q4:Int) (q5:List Int) (q6:Bool) (q7:Int) (q8:Int) (r0:Int) (r1:List Int) (t60:Int) (t61:Int) (t62:Bs) (names:List Bs) (numbers:List Int):Option aa_ :=
 (cond (decide (t18<t17)) (inB t18 t16.length (j8_ 0 t18 q5.length ((br_ n ((q5.take t18.toNat).drop 0) (t16.getD t18.toNat 0)).bind fun xr1=>(cond xr1 (back kids t16 t17 (W (t18+1)) q0 q1 q2 q3 q4 q5 q6 q7 q8 r0 r1 t60 t61 t62 names numbers) ((dk_ n (t16.getD t18.toNat 0)).bind fun xr2=>(cond (decide ([99].length+xr2.length≤9223372036854775807)) (cJ_ (names.length+([(([99]:Bs)++xr2)]:List Bs).length) 16 ((dm_ n (TRow.mk r0 r1) (t16.getD t18.toNat 0)).bind fun xr3=>(cJ_ (numbers.length+([xr3]:List Int).length) 8 (back kids t16 t17 (W (t18+1)) q0 q1 q2 q3 q4 q5 q6 q7 q8 r0 r1 t60 t61 t62 (names++([(([99]:Bs)++xr2)]:List Bs)) (numbers++([xr3]:List Int)))))) none)))))) (k0 kids q0 q1 q2 q3 q4 q5 q6 q7 q8 t60 t61 t62 names numbers))
def bm_.loop4 (n:Nat) (k0:Int→Int→(List aP_)→Int→Bool→Int→(List Int)→Bool→Int→Int→Int→Int→Bs→(List Bs)→(List Int)→Option aa_) (N:Nat):Int→(List Int)→Int→Int→Int→(List aP_)→Int→Bool→Int→(List Int)→Bool→Int→Int→Int→(List Int)→Int→Int→Bs→(List Bs)→(List Int)→Option aa_ :=
 dp_ (fun _ _ _ _ _ _ _ _ _ _ _ _ _ _ _ _ _ _ _ _=>none) (fun back=>bm_.step4 n k0 back) N
def bm_:Nat→aT_→TRow→Int→Option aa_
 |0,_,_,_=>none
 |n+1,q,r,kids=>
  (bm_.loop4 n (fun xy4 xy5 xy6 xy7 xy8 xy9 xy10 xy11 xy12 xy13 xy14 xy15 xy16 xy17 xy18=>(cond xy11 (cJ_ (xy17.length+([[107,105,100,115]]:List Bs).length) 16 (cJ_ (xy18.length+([xy4]:List Int).length) 8 ((bC_ n (xy17++([[107,105,100,115]]:List Bs)) (xy18++([xy4]:List Int))).bind fun xr19=>((cq_ n (aa_.re xr19)).bind fun xr20=>(some (aa_.re xr20)))))) ((bC_ n xy17 xy18).bind fun xr21=>((cq_ n (aa_.re xr21)).bind fun xr22=>(some (aa_.re xr22)))))) n kids q.show_ (q.show_.length:Int) 0 q.table q.where_ q.order q.down q.first q.show_ q.kids q.kidTable q.kidCol r.id_ r.cells 0 0 [] ([[105,100]]:List Bs) ([r.id_]:List Int))
def a5_.step4 (n:Nat) (k0:(List aa_)→Option (List aa_)) (back:(List Int)→(List TRow)→Int→Int→Int→(List aP_)→Int→Bool→Int→(List Int)→Bool→Int→Int→(List aa_)→Option (List aa_)) (kids:List Int) (t17:List TRow) (t18:Int) (t19:Int) (q0:Int) (q1:List aP_) (q2:Int) (q3:Bool) (q4:Int) (q5:List Int) (q6:Bool) (q7:Int) (q8:Int) (docs:List aa_):Option (List aa_) :=
 (cond (decide (t19<t18)) (inB t19 t17.length (cond (decide (t19<(kids.length:Int))) (inB t19 kids.length ((bm_ n (aT_.mk q0 q1 q2 q3 q4 q5 q6 q7 q8) (t17.getD t19.toNat TRow.dflt) (kids.getD t19.toNat 0)).bind fun xr2=>(cJ_ (docs.length+([(aa_.re xr2)]:List aa_).length) 80 (back kids t17 t18 (W (t19+1)) q0 q1 q2 q3 q4 q5 q6 q7 q8 (docs++([(aa_.re xr2)]:List aa_)))))) ((bm_ n (aT_.mk q0 q1 q2 q3 q4 q5 q6 q7 q8) (t17.getD t19.toNat TRow.dflt) 0).bind fun xr3=>(cJ_ (docs.length+([(aa_.re xr3)]:List aa_).length) 80 (back kids t17 t18 (W (t19+1)) q0 q1 q2 q3 q4 q5 q6 q7 q8 (docs++([(aa_.re xr3)]:List aa_))))))) (k0 docs))
def a5_.loop4 (n:Nat) (k0:(List aa_)→Option (List aa_)) (N:Nat):(List Int)→(List TRow)→Int→Int→Int→(List aP_)→Int→Bool→Int→(List Int)→Bool→Int→Int→(List aa_)→Option (List aa_) :=
 dp_ (fun _ _ _ _ _ _ _ _ _ _ _ _ _ _=>none) (fun back=>a5_.step4 n k0 back) N
def a5_:Nat→aT_→(List TRow)→(List Int)→Option (List aa_)
 |0,_,_,_=>none
 |n+1,q,rows,kids=>
  ((cT_ n q (rows.length:Int)).bind fun xr1=>(j8_ 0 xr1 rows.length (a5_.loop4 n (fun xy4=>(some xy4)) n kids ((rows.take xr1.toNat).drop 0) (((rows.take xr1.toNat).drop 0).length:Int) 0 q.table q.where_ q.order q.down q.first q.show_ q.kids q.kidTable q.kidCol ([]:List aa_))))
def cE_:Nat→aa_→Option Bool
 |0,_=>none
 |n+1,j=>
  (some (j.kind == 0))
def ac_.step3 (n:Nat) (k0:Option Int) (back:(List aa_)→Int→Int→Option Int) (s:List aa_) (t7:Int) (t8:Int):Option Int :=
 (cond (decide (t8<t7)) (inB t8 s.length ((cE_ n (aa_.re (s.getD t8.toNat aa_.dflt))).bind fun xr1=>(cond xr1 (some t8) (back s t7 (W (t8+1)))))) k0)
def ac_.loop3 (n:Nat) (k0:Option Int) (N:Nat):(List aa_)→Int→Int→Option Int :=
 dp_ (fun _ _ _=>none) (fun back=>ac_.step3 n k0 back) N
def ac_:Nat→(List aa_)→Option Int
 |0,_=>none
 |n+1,s=>
  (ac_.loop3 n (some (-1)) n s (s.length:Int) 0)
def ak_:Nat→(List aa_)→Option Bool
 |0,_=>none
 |n+1,s=>
  ((ac_ n s).bind fun xr1=>(some (decide (xr1≥0))))
def dJ_:Nat→aT_→(List TRow)→(List Int)→Option aa_
 |0,_,_,_=>none
 |n+1,q,rows,kids=>
  ((a5_ n q rows kids).bind fun xr1=>((ak_ n xr1).bind fun xr2=>(cond xr2 (some (aa_.mk 0 0 [] ([]:List aa_) ([]:List Bs))) ((cq_ n (aa_.mk 5 0 [] ([(aa_.mk 2 (rows.length:Int) [] [] []),(aa_.mk 4 0 [] xr1 [])]:List aa_) ([[99,111,117,110,116],[114,111,119,115]]:List Bs))).bind fun xr3=>(some (aa_.re xr3))))))
def cu_:Nat→bB_→Option aa_
 |0,_=>none
 |n+1,v=>
  ((aF_ n v).bind fun xr1=>((dJ_ n v.q v.rows xr1).bind fun xr2=>(some (aa_.re xr2))))
def aj_.step6 (n:Nat) (k0:Option Bool) (back:(List Bs)→(List Bs)→Int→Int→Option Bool) (s1:List Bs) (s2:List Bs) (t12:Int) (t13:Int):Option Bool :=
 (cond (decide (t13<t12)) (inB t13 s1.length (inB t13 s2.length (cond (!((s1.getD t13.toNat []) == (s2.getD t13.toNat []))) (some false) (back s1 s2 t12 (W (t13+1)))))) k0)
def aj_.loop6 (n:Nat) (k0:Option Bool) (N:Nat):(List Bs)→(List Bs)→Int→Int→Option Bool :=
 dp_ (fun _ _ _ _=>none) (fun back=>aj_.step6 n k0 back) N
def aj_:Nat→(List Bs)→(List Bs)→Option Bool
 |0,_,_=>none
 |n+1,s1,s2=>
  (cond ((s1.length:Int) != (s2.length:Int)) (some false) (aj_.loop6 n (some true) n s1 s2 (s1.length:Int) 0))
def ad_.step6 (n:Nat) (impl_alike_:aa_→aa_→Option Bool) (k0:Option Bool) (back:(List aa_)→(List aa_)→Int→Int→Option Bool) (s2:List aa_) (t15:List aa_) (t16:Int) (t17:Int):Option Bool :=
 (cond (decide (t17<t16)) (inB t17 t15.length (inB t17 s2.length ((impl_alike_ (aa_.re (t15.getD t17.toNat aa_.dflt)) (aa_.re (s2.getD t17.toNat aa_.dflt))).bind fun xr1=>(cond (!xr1) (some false) (back s2 t15 t16 (W (t17+1))))))) k0)
def ad_.loop6 (n:Nat) (impl_alike_:aa_→aa_→Option Bool) (k0:Option Bool) (N:Nat):(List aa_)→(List aa_)→Int→Int→Option Bool :=
 dp_ (fun _ _ _ _=>none) (fun back=>ad_.step6 n impl_alike_ k0 back) N
mutual
def c1_:Nat→aa_→aa_→Option Bool
 |0,_,_=>none
 |n+1,a,b=>
  (cond (a.kind == b.kind) (cond (a.n_ == b.n_) (cond (a.s == b.s) ((aj_ n a.names b.names).bind fun xr1=>(cond xr1 ((ad_ n a.list b.list).bind fun xr2=>(some xr2)) (some false))) (some false)) (some false)) (some false))
def ad_:Nat→(List aa_)→(List aa_)→Option Bool
 |0,_,_=>none
 |n+1,s1,s2=>
  (cond ((s1.length:Int) != (s2.length:Int)) (some false) (ad_.loop6 n (c1_ n) (some true) n s2 s1 (s1.length:Int) 0))
end
def cD_:Nat→aa_→aa_→Option Bool
 |0,_,_=>none
 |n+1,a,b=>
  ((cw_ n (aa_.re a)).bind fun xr1=>(cond xr1 ((cw_ n (aa_.re b)).bind fun xr2=>(cond xr2 ((c1_ n (aa_.re a) (aa_.re b)).bind fun xr3=>(some xr3)) (some false))) (some false)))
def cW_:Nat→bZ_→Option Bool
 |0,_=>none
 |n+1,x=>
  (cond (!x.began) (some true) ((cu_ n x.view).bind fun xr1=>((cu_ n x.last).bind fun xr2=>((cD_ n (aa_.re xr1) (aa_.re xr2)).bind fun xr3=>(some (!xr3))))))
def as_.step6 (n:Nat) (k0:Option Bool) (back:(List aP_)→(List aP_)→Int→Int→Option Bool) (s1:List aP_) (s2:List aP_) (t12:Int) (t13:Int):Option Bool :=
 (cond (decide (t13<t12)) (inB t13 s1.length (inB t13 s2.length (let xv1:Bool:=(!(cond (((s1.getD t13.toNat aP_.dflt).col) == ((s2.getD t13.toNat aP_.dflt).col)) (cond (((s1.getD t13.toNat aP_.dflt).op) == ((s2.getD t13.toNat aP_.dflt).op)) (cond (((s1.getD t13.toNat aP_.dflt).v) == ((s2.getD t13.toNat aP_.dflt).v)) true false) false) false));(cond xv1 (some false) (back s1 s2 t12 (W (t13+1))))))) k0)
def as_.loop6 (n:Nat) (k0:Option Bool) (N:Nat):(List aP_)→(List aP_)→Int→Int→Option Bool :=
 dp_ (fun _ _ _ _=>none) (fun back=>as_.step6 n k0 back) N
def as_:Nat→(List aP_)→(List aP_)→Option Bool
 |0,_,_=>none
 |n+1,s1,s2=>
  (cond ((s1.length:Int) != (s2.length:Int)) (some false) (as_.loop6 n (some true) n s1 s2 (s1.length:Int) 0))
def aC_.step6 (n:Nat) (k0:Option Bool) (back:(List Int)→(List Int)→Int→Int→Option Bool) (s1:List Int) (s2:List Int) (t12:Int) (t13:Int):Option Bool :=
 (cond (decide (t13<t12)) (inB t13 s1.length (inB t13 s2.length (cond ((s1.getD t13.toNat 0) != (s2.getD t13.toNat 0)) (some false) (back s1 s2 t12 (W (t13+1)))))) k0)
def aC_.loop6 (n:Nat) (k0:Option Bool) (N:Nat):(List Int)→(List Int)→Int→Int→Option Bool :=
 dp_ (fun _ _ _ _=>none) (fun back=>aC_.step6 n k0 back) N
def aC_:Nat→(List Int)→(List Int)→Option Bool
 |0,_,_=>none
 |n+1,s1,s2=>
  (cond ((s1.length:Int) != (s2.length:Int)) (some false) (aC_.loop6 n (some true) n s1 s2 (s1.length:Int) 0))
def cd_:Nat→aT_→aT_→Option Bool
 |0,_,_=>none
 |n+1,o,append=>
  (cond (o.table == append.table) (cond (o.order == append.order) (cond (o.down == append.down) (cond (o.kids == append.kids) (cond (o.kidTable == append.kidTable) (cond (o.first == append.first) (cond (o.kidCol == append.kidCol) ((as_ n o.where_ append.where_).bind fun xr1=>(cond xr1 ((aC_ n o.show_ append.show_).bind fun xr2=>(some xr2)) (some false))) (some false)) (some false)) (cond (o.first == append.first) (some false) (some false))) (cond (o.first == append.first) (some false) (some false))) (cond (o.kids == append.kids) (cond (o.kidTable == append.kidTable) (some false) (some false)) (some false))) (cond (o.kids == append.kids) (cond (o.kidTable == append.kidTable) (some false) (some false)) (some false))) (cond (o.kids == append.kids) (cond (o.kidTable == append.kidTable) (some false) (some false)) (some false)))
def dI_:Nat→Int→Option aa_
 |0,_=>none
 |n+1,n1=>
  ((cq_ n (aa_.mk 2 n1 [] [] [])).bind fun xr1=>(some (aa_.re xr1)))
def bD_.step5 (n:Nat) (k0:(List aa_)→(List Int)→Option ((List aa_) × (List Int))) (back:(List TRow)→Int→Int→(List aa_)→(List Int)→Option ((List aa_) × (List Int))) (t20:List TRow) (t21:Int) (t22:Int) (docs:List aa_) (ids:List Int):Option ((List aa_) × (List Int)) :=
 (cond (decide (t22<t21)) (inB t22 t20.length (cJ_ (ids.length+([(t20.getD t22.toNat TRow.dflt).id_]:List Int).length) 8 (back t20 t21 (W (t22+1)) docs (ids++([(t20.getD t22.toNat TRow.dflt).id_]:List Int))))) (k0 docs ids))
def bD_.loop5 (n:Nat) (k0:(List aa_)→(List Int)→Option ((List aa_) × (List Int))) (N:Nat):(List TRow)→Int→Int→(List aa_)→(List Int)→Option ((List aa_) × (List Int)) :=
 dp_ (fun _ _ _ _ _=>none) (fun back=>bD_.step5 n k0 back) N
def bD_:Nat→bB_→Option ((List aa_) × (List Int))
 |0,_=>none
 |n+1,v=>
  ((aF_ n v).bind fun xr1=>((a5_ n v.q v.rows xr1).bind fun xr2=>(j8_ 0 (xr2.length:Int) v.rows.length (bD_.loop5 n (fun xy3 xy4=>(some (xy3,xy4))) n ((v.rows.take (xr2.length:Int).toNat).drop 0) (((v.rows.take (xr2.length:Int).toNat).drop 0).length:Int) 0 xr2 ([]:List Int)))))
def bc_.step7 (n:Nat) (k0:(List au_)→Option ((List au_) × Bool)) (back:(List Int)→(List aa_)→Int→Int→(List au_)→Option ((List au_) × Bool)) (keys:List Int) (t15:List aa_) (t16:Int) (t17:Int) (out_1:List au_):Option ((List au_) × Bool) :=
 (cond (decide (t17<t16)) (inB t17 t15.length ((cw_ n (aa_.re (t15.getD t17.toNat aa_.dflt))).bind fun xr1=>(cond (!xr1) (some (([]:List au_),false)) (j8_ 0 t17 keys.length (inB t17 keys.length ((br_ n ((keys.take t17.toNat).drop 0) (keys.getD t17.toNat 0)).bind fun xr2=>(cond xr2 (some (([]:List au_),false)) (inB t17 keys.length (cJ_ (out_1.length+([(au_.mk (keys.getD t17.toNat 0) (aa_.re (t15.getD t17.toNat aa_.dflt)))]:List au_).length) 88 (back keys t15 t16 (W (t17+1)) (out_1++([(au_.mk (keys.getD t17.toNat 0) (aa_.re (t15.getD t17.toNat aa_.dflt)))]:List au_)))))))))))) (k0 out_1))
def bc_.loop7 (n:Nat) (k0:(List au_)→Option ((List au_) × Bool)) (N:Nat):(List Int)→(List aa_)→Int→Int→(List au_)→Option ((List au_) × Bool) :=
 dp_ (fun _ _ _ _ _=>none) (fun back=>bc_.step7 n k0 back) N
def bc_:Nat→(List aa_)→(List Int)→Option ((List au_) × Bool)
 |0,_,_=>none
 |n+1,list,keys=>
  (cond ((list.length:Int) != (keys.length:Int)) (some (([]:List au_),false)) (bc_.loop7 n (fun xy3=>(some (xy3,true))) n keys list (list.length:Int) 0 ([]:List au_)))
def cB_:Nat→au_→Int→Option Bool
 |0,_,_=>none
 |n+1,x,c=>
  (some (x.key == c))
def ab_.step3 (n:Nat) (k0:Option Int) (back:(List au_)→Int→Int→Int→Option Int) (s:List au_) (f00:Int) (t7:Int) (t8:Int):Option Int :=
 (cond (decide (t8<t7)) (inB t8 s.length ((cB_ n (au_.mk ((s.getD t8.toNat au_.dflt).key) (aa_.re ((s.getD t8.toNat au_.dflt).value))) f00).bind fun xr1=>(cond xr1 (some t8) (back s f00 t7 (W (t8+1)))))) k0)
def ab_.loop3 (n:Nat) (k0:Option Int) (N:Nat):(List au_)→Int→Int→Int→Option Int :=
 dp_ (fun _ _ _ _=>none) (fun back=>ab_.step3 n k0 back) N
def ab_:Nat→(List au_)→Int→Option Int
 |0,_,_=>none
 |n+1,s,c=>
  (ab_.loop3 n (some (-1)) n s c (s.length:Int) 0)
def dw_:Nat→(List au_)→Int→Option Int
 |0,_,_=>none
 |n+1,list,key=>
  ((ab_ n list key).bind fun xr1=>(some xr1))
def c7_:Nat→Int→Option (List Bs)
 |0,_=>none
 |n+1,n1=>
  ((strconv_Itoa n n1).bind fun xr1=>(some ([xr1]:List Bs)))
def bo_:Nat→List au_→Int→Int→Option (List au_)
 |0,_,_,_=>none
 |_+1,s,i,j=>k7_ s i j
def bV_:Nat→(List Bs)→Option (List Bs)
 |0,_=>none
 |n+1,l=>
  (cJ_ (([]:List Bs).length+l.length) 16 (some (([]:List Bs)++l)))
def aI_.step4 (n:Nat) (impl_copyJson_:aa_→Option aa_) (k0:Int→Int→Bs→Int→Int→Bs→(List aa_)→(List Bs)→Option aa_) (back:(List aa_)→Int→Int→Int→Int→Bs→Int→Int→Bs→(List aa_)→(List Bs)→Option aa_) (t17:List aa_) (t18:Int) (t19:Int) (t20:Int) (t21:Int) (t22:Bs) (out0:Int) (out1:Int) (out2:Bs) (out3:List aa_) (out4:List Bs):Option aa_ :=
 (cond (decide (t19<t18)) (inB t19 t17.length ((impl_copyJson_ (aa_.re (t17.getD t19.toNat aa_.dflt))).bind fun xr2=>(cJ_ (out3.length+([(aa_.re xr2)]:List aa_).length) 80 (back t17 t18 (W (t19+1)) t20 t21 t22 out0 out1 out2 (out3++([(aa_.re xr2)]:List aa_)) out4)))) (k0 t20 t21 t22 out0 out1 out2 out3 out4))
def aI_.loop4 (n:Nat) (impl_copyJson_:aa_→Option aa_) (k0:Int→Int→Bs→Int→Int→Bs→(List aa_)→(List Bs)→Option aa_) (N:Nat):(List aa_)→Int→Int→Int→Int→Bs→Int→Int→Bs→(List aa_)→(List Bs)→Option aa_ :=
 dp_ (fun _ _ _ _ _ _ _ _ _ _ _=>none) (fun back=>aI_.step4 n impl_copyJson_ k0 back) N
def aI_:Nat→aa_→Option aa_
 |0,_=>none
 |n+1,j=>
  ((bV_ n j.names).bind fun xr1=>(aI_.loop4 n (aI_ n) (fun xy3 xy4 xy5 xy6 xy7 xy8 xy9 xy10=>(some (aa_.mk xy6 xy7 xy8 xy9 xy10))) n j.list (j.list.length:Int) 0 0 0 [] j.kind j.n_ j.s ([]:List aa_) xr1))
def bn_:Nat→List au_→Int→List au_→Option (List au_)
 |0,_,_,_=>none
 |_+1,s,i,v=>gz_ 88 s i v
def a1_.step9 (n:Nat) (k0:(List au_)→(List au_)→(List TOp)→Option (List TOp)) (back:Int→(List au_)→(List au_)→(List TOp)→Option (List TOp)) (t14:Int) (t9:List au_) (t11:List au_) (t13:List TOp):Option (List TOp) :=
 (cond (decide (t14≥0)) (inB t14 t9.length ((dw_ n t11 ((t9.getD t14.toNat au_.dflt).key)).bind fun xr3=>(cond (decide (xr3<0)) ((c7_ n t14).bind fun xr4=>(cJ_ (t13.length+([(TOp.mk 2 xr4 (aa_.mk 0 0 [] [] []))]:List TOp).length) 112 ((bo_ n t9 t14 (W (t14+1))).bind fun xr5=>(back (W (t14 - 1)) xr5 t11 (t13++([(TOp.mk 2 xr4 (aa_.mk 0 0 [] [] []))]:List TOp)))))) (back (W (t14 - 1)) t9 t11 t13)))) (k0 t9 t11 t13))
def a1_.loop9 (n:Nat) (k0:(List au_)→(List au_)→(List TOp)→Option (List TOp)) (N:Nat):Int→(List au_)→(List au_)→(List TOp)→Option (List TOp) :=
 dp_ (fun _ _ _ _=>none) (fun back=>a1_.step9 n k0 back) N
def a1_.step17 (n:Nat) (k2:(List TOp)→Option (List TOp)) (back:Int→Int→(List au_)→(List TOp)→(List au_)→Option (List TOp)) (t65:Int) (t66:Int) (t9:List au_) (t13:List TOp) (t64:List au_):Option (List TOp) :=
 (cond (decide (t66<t65)) (inB t66 t64.length ((dw_ n t9 ((t64.getD t66.toNat au_.dflt).key)).bind fun xr9=>(cond (xr9 == t66) (inB t66 t9.length ((c1_ n (aa_.re ((t9.getD t66.toNat au_.dflt).value)) (aa_.re ((t64.getD t66.toNat au_.dflt).value))).bind fun xr10=>(cond (!xr10) ((c7_ n t66).bind fun xr11=>((aI_ n (aa_.re ((t64.getD t66.toNat au_.dflt).value))).bind fun xr12=>(cJ_ (t13.length+([(TOp.mk 3 xr11 (aa_.re xr12))]:List TOp).length) 112 (back t65 (W (t66+1)) t9 (t13++([(TOp.mk 3 xr11 (aa_.re xr12))]:List TOp)) t64)))) (back t65 (W (t66+1)) t9 t13 t64)))) (cond (decide (xr9 > t66)) ((c7_ n xr9).bind fun xr13=>(cJ_ (t13.length+([(TOp.mk 2 xr13 (aa_.mk 0 0 [] [] []))]:List TOp).length) 112 ((bo_ n t9 xr9 (W (xr9+1))).bind fun xr14=>((c7_ n t66).bind fun xr15=>((aI_ n (aa_.re ((t64.getD t66.toNat au_.dflt).value))).bind fun xr16=>(cJ_ ((t13++([(TOp.mk 2 xr13 (aa_.mk 0 0 [] [] []))]:List TOp)).length+([(TOp.mk 1 xr15 (aa_.re xr16))]:List TOp).length) 112 ((bn_ n xr14 t66 ([(au_.mk ((t64.getD t66.toNat au_.dflt).key) (aa_.re ((t64.getD t66.toNat au_.dflt).value)))]:List au_)).bind fun xr17=>(back t65 (W (t66+1)) xr17 ((t13++([(TOp.mk 2 xr13 (aa_.mk 0 0 [] [] []))]:List TOp))++([(TOp.mk 1 xr15 (aa_.re xr16))]:List TOp)) t64)))))))) ((c7_ n t66).bind fun xr18=>((aI_ n (aa_.re ((t64.getD t66.toNat au_.dflt).value))).bind fun xr19=>(cJ_ (t13.length+([(TOp.mk 1 xr18 (aa_.re xr19))]:List TOp).length) 112 ((bn_ n t9 t66 ([(au_.mk ((t64.getD t66.toNat au_.dflt).key) (aa_.re ((t64.getD t66.toNat au_.dflt).value)))]:List au_)).bind fun xr20=>(back t65 (W (t66+1)) xr20 (t13++([(TOp.mk 1 xr18 (aa_.re xr19))]:List TOp)) t64))))))))) (k2 t13))
def a1_.loop17 (n:Nat) (k2:(List TOp)→Option (List TOp)) (N:Nat):Int→Int→(List au_)→(List TOp)→(List au_)→Option (List TOp) :=
 dp_ (fun _ _ _ _ _=>none) (fun back=>a1_.step17 n k2 back) N
def a1_:Nat→(List aa_)→(List Int)→(List aa_)→(List Int)→Option (List TOp)
 |0,_,_,_,_=>none
 |n+1,o,append,a2,a3=>
  ((bc_ n o append).bind fun xr1=>((bc_ n a2 a3).bind fun xr2=>(cond (!xr1.2) (some ([]:List TOp)) (cond (!xr2.2) (some ([]:List TOp)) (a1_.loop9 n (fun xy6 xy7 xy8=>(a1_.loop17 n (fun xy21=>(some xy21)) n (xy7.length:Int) 0 xy6 xy8 xy7)) n (W ((xr1.1.length:Int) - 1)) xr1.1 xr2.1 ([]:List TOp))))))
def dl_:Nat→TOp→Option TOp
 |0,_=>none
 |n+1,o=>
  ((bV_ n o.way).bind fun xr1=>((aI_ n (aa_.re o.value)).bind fun xr2=>(some (TOp.mk o.kind xr1 (aa_.re xr2)))))
def bG_.step4 (n:Nat) (k0:(List TOp)→Option (List TOp)) (back:Bs→(List TOp)→Int→Int→(List TOp)→Option (List TOp)) (name:Bs) (t9:List TOp) (t10:Int) (t11:Int) (out_1:List TOp):Option (List TOp) :=
 (cond (decide (t11<t10)) (inB t11 t9.length ((dl_ n { (t9.getD t11.toNat TOp.dflt) with value:=(aa_.re ((t9.getD t11.toNat TOp.dflt).value)) }).bind fun xr1=>(cJ_ (([name]:List Bs).length+xr1.way.length) 16 (cJ_ (out_1.length+([(TOp.mk xr1.kind (([name]:List Bs)++xr1.way) (aa_.re xr1.value))]:List TOp).length) 112 (back name t9 t10 (W (t11+1)) (out_1++([(TOp.mk xr1.kind (([name]:List Bs)++xr1.way) (aa_.re xr1.value))]:List TOp))))))) (k0 out_1))
def bG_.loop4 (n:Nat) (k0:(List TOp)→Option (List TOp)) (N:Nat):Bs→(List TOp)→Int→Int→(List TOp)→Option (List TOp) :=
 dp_ (fun _ _ _ _ _=>none) (fun back=>bG_.step4 n k0 back) N
def bG_:Nat→Bs→(List TOp)→Option (List TOp)
 |0,_,_=>none
 |n+1,name,list=>
  (bG_.loop4 n (fun xy2=>(some xy2)) n name list (list.length:Int) 0 ([]:List TOp))
def b4_:Nat→bB_→bB_→Option (List TOp)
 |0,_,_=>none
 |n+1,a,b=>
  ((cd_ n a.q b.q).bind fun xr1=>(cond (!xr1) (some ([]:List TOp)) (cond ((a.rows.length:Int) != (b.rows.length:Int)) ((dI_ n (b.rows.length:Int)).bind fun xr2=>(cJ_ (([]:List TOp).length+([(TOp.mk 3 ([[99,111,117,110,116]]:List Bs) (aa_.re xr2))]:List TOp).length) 112 ((bD_ n a).bind fun xr3=>((bD_ n b).bind fun xr4=>((a1_ n xr3.1 xr3.2 xr4.1 xr4.2).bind fun xr5=>((bG_ n [114,111,119,115] xr5).bind fun xr6=>(cJ_ ((([]:List TOp)++([(TOp.mk 3 ([[99,111,117,110,116]]:List Bs) (aa_.re xr2))]:List TOp)).length+xr6.length) 112 (some ((([]:List TOp)++([(TOp.mk 3 ([[99,111,117,110,116]]:List Bs) (aa_.re xr2))]:List TOp))++xr6))))))))) ((bD_ n a).bind fun xr7=>((bD_ n b).bind fun xr8=>((a1_ n xr7.1 xr7.2 xr8.1 xr8.2).bind fun xr9=>((bG_ n [114,111,119,115] xr9).bind fun xr10=>(cJ_ (([]:List TOp).length+xr10.length) 112 (some (([]:List TOp)++xr10))))))))))
def c5_:Nat→aa_→Option Bool
 |0,_=>none
 |n+1,j=>
  (cond (j.kind == 0) (cond (j.n_ == 0) (cond (j.s == []) (cond ((j.list.length:Int) == 0) (some ((j.names.length:Int) == 0)) (some false)) (some false)) (some false)) (some false))
def bO_.step3 (n:Nat) (k0:Int→(List Bs)→Int→Int→Bs→(List aa_)→(List Bs)→Option Bool) (back:(List Bs)→Int→Int→Int→(List Bs)→Int→Int→Bs→(List aa_)→(List Bs)→Option Bool) (t6:List Bs) (t7:Int) (t8:Int) (o0:Int) (o1:List Bs) (o2:Int) (o3:Int) (o4:Bs) (o5:List aa_) (o6:List Bs):Option Bool :=
 (cond (decide (t8<t7)) (inB t8 t6.length ((ax_ n (t6.getD t8.toNat [])).bind fun xr1=>(cond (!xr1) (some false) (back t6 t7 (W (t8+1)) o0 o1 o2 o3 o4 o5 o6)))) (k0 o0 o1 o2 o3 o4 o5 o6))
def bO_.loop3 (n:Nat) (k0:Int→(List Bs)→Int→Int→Bs→(List aa_)→(List Bs)→Option Bool) (N:Nat):(List Bs)→Int→Int→Int→(List Bs)→Int→Int→Bs→(List aa_)→(List Bs)→Option Bool :=
 dp_ (fun _ _ _ _ _ _ _ _ _ _=>none) (fun back=>bO_.step3 n k0 back) N
def bO_:Nat→TOp→Option Bool
 |0,_=>none
 |n+1,o=>
  (bO_.loop3 n (fun xy2 xy3 xy4 xy5 xy6 xy7 xy8=>((aY_ n xy2 1 4).bind fun xr9=>(cond xr9 (cond (decide ((xy3.length:Int)≤6)) ((cw_ n (aa_.mk xy4 xy5 xy6 xy7 xy8)).bind fun xr10=>(cond xr10 (cond (xy2 != 2) (some true) ((c5_ n (aa_.mk xy4 xy5 xy6 xy7 xy8)).bind fun xr11=>(some xr11))) (some false))) (some false)) (some false)))) n o.way (o.way.length:Int) 0 o.kind o.way o.value.kind o.value.n_ o.value.s o.value.list o.value.names)
def cS_:Nat→Unit→Option (List Bs)
 |0,_=>none
 |n+1,_u=>
  (some ([[97,100,100],[114,101,109,111,118,101],[114,101,112,108,97,99,101],[116,101,115,116]]:List Bs))
def strings_ReplaceAll:Nat→Bs→Bs→Bs→Option Bs
 |0,_,_,_=>none
 |_+1,s,a,b=>fY_ s a b
def bf_.step4 (n:Nat) (k0:Bs→Option Bs) (back:Bs→(List Bs)→Int→Int→Option Bs) (out_1:Bs) (t6:List Bs) (t7:Int) (t8:Int):Option Bs :=
 (cond (decide (t8<t7)) (inB t8 t6.length ((strings_ReplaceAll n (t6.getD t8.toNat []) [126] [126,48]).bind fun xr1=>((strings_ReplaceAll n xr1 [47] [126,49]).bind fun xr2=>(cond (decide ([47].length+xr2.length≤9223372036854775807)) (cond (decide (out_1.length+(([47]:Bs)++xr2).length≤9223372036854775807)) (back (out_1++(([47]:Bs)++xr2)) t6 t7 (W (t8+1))) none) none)))) (k0 out_1))
def bf_.loop4 (n:Nat) (k0:Bs→Option Bs) (N:Nat):Bs→(List Bs)→Int→Int→Option Bs :=
 dp_ (fun _ _ _ _=>none) (fun back=>bf_.step4 n k0 back) N
def bf_:Nat→(List Bs)→Option Bs
 |0,_=>none
 |n+1,way=>
  (bf_.loop4 n (fun xy3=>(some xy3)) n [] way (way.length:Int) 0)
def dn_:Nat→TOp→Option aa_
 |0,_=>none
 |n+1,o=>
  ((bO_ n (TOp.mk o.kind o.way (aa_.re o.value))).bind fun xr1=>(cond (!xr1) (some (aa_.mk 0 0 [] ([]:List aa_) ([]:List Bs))) ((cS_ n ()).bind fun xr2=>(inB (W (o.kind - 1)) xr2.length ((bf_ n o.way).bind fun xr3=>(cond (o.kind != 2) (cJ_ (([[111,112],[112,97,116,104]]:List Bs).length+([[118,97,108,117,101]]:List Bs).length) 16 ((aI_ n (aa_.re o.value)).bind fun xr4=>(cJ_ (([(aa_.mk 3 0 (xr2.getD ((W (o.kind - 1)).toNat) []) [] []),(aa_.mk 3 0 xr3 [] [])]:List aa_).length+([(aa_.re xr4)]:List aa_).length) 80 ((cq_ n (aa_.mk 5 0 [] (([(aa_.mk 3 0 (xr2.getD ((W (o.kind - 1)).toNat) []) [] []),(aa_.mk 3 0 xr3 [] [])]:List aa_)++([(aa_.re xr4)]:List aa_)) (([[111,112],[112,97,116,104]]:List Bs)++([[118,97,108,117,101]]:List Bs)))).bind fun xr5=>(some (aa_.re xr5)))))) ((cq_ n (aa_.mk 5 0 [] ([(aa_.mk 3 0 (xr2.getD ((W (o.kind - 1)).toNat) []) [] []),(aa_.mk 3 0 xr3 [] [])]:List aa_) ([[111,112],[112,97,116,104]]:List Bs))).bind fun xr6=>(some (aa_.re xr6)))))))))
def a6_.step4 (n:Nat) (k0:Int→Int→Bs→Int→Int→Bs→(List aa_)→Option (aa_ × Bool)) (back:(List TOp)→Int→Int→Int→Int→Bs→Int→Int→Bs→(List aa_)→Option (aa_ × Bool)) (t9:List TOp) (t10:Int) (t11:Int) (t20:Int) (t21:Int) (t22:Bs) (j0:Int) (j1:Int) (j2:Bs) (j3:List aa_):Option (aa_ × Bool) :=
 (cond (decide (t11<t10)) (inB t11 t9.length ((dn_ n { (t9.getD t11.toNat TOp.dflt) with value:=(aa_.re ((t9.getD t11.toNat TOp.dflt).value)) }).bind fun xr1=>(cond (xr1.kind == 0) (some ((aa_.mk 0 0 [] ([]:List aa_) ([]:List Bs)),false)) (cJ_ (j3.length+([(aa_.re xr1)]:List aa_).length) 80 (back t9 t10 (W (t11+1)) t20 t21 t22 j0 j1 j2 (j3++([(aa_.re xr1)]:List aa_))))))) (k0 t20 t21 t22 j0 j1 j2 j3))
def a6_.loop4 (n:Nat) (k0:Int→Int→Bs→Int→Int→Bs→(List aa_)→Option (aa_ × Bool)) (N:Nat):(List TOp)→Int→Int→Int→Int→Bs→Int→Int→Bs→(List aa_)→Option (aa_ × Bool) :=
 dp_ (fun _ _ _ _ _ _ _ _ _ _=>none) (fun back=>a6_.step4 n k0 back) N
def a6_:Nat→(List TOp)→Option (aa_ × Bool)
 |0,_=>none
 |n+1,list=>
  (a6_.loop4 n (fun xy2 xy3 xy4 xy5 xy6 xy7 xy8=>(some ((aa_.mk xy5 xy6 xy7 xy8 ([]:List Bs)),true))) n list (list.length:Int) 0 0 0 [] 4 0 [] ([]:List aa_))
def bt_.step4 (n:Nat) (k0:(List Int)→Option Bs) (back:Bs→Int→Int→(List Int)→Option Bs) (s:Bs) (t7:Int) (t8:Int) (out_1:List Int):Option Bs :=
 (cond (decide (t8<t7)) (inB t8 s.length (cond (((s.getD t8.toNat 0).toNat:Int) == 34) (cJ_ (out_1.length+([92]:List Int).length) 1 (inB t8 s.length (cJ_ ((out_1++([92]:List Int)).length+([((s.getD t8.toNat 0).toNat:Int)]:List Int).length) 1 (back s t7 (W (t8+1)) ((out_1++([92]:List Int))++([((s.getD t8.toNat 0).toNat:Int)]:List Int)))))) (inB t8 s.length (cond (((s.getD t8.toNat 0).toNat:Int) == 92) (cJ_ (out_1.length+([92]:List Int).length) 1 (inB t8 s.length (cJ_ ((out_1++([92]:List Int)).length+([((s.getD t8.toNat 0).toNat:Int)]:List Int).length) 1 (back s t7 (W (t8+1)) ((out_1++([92]:List Int))++([((s.getD t8.toNat 0).toNat:Int)]:List Int)))))) (inB t8 s.length (cJ_ (out_1.length+([((s.getD t8.toNat 0).toNat:Int)]:List Int).length) 1 (back s t7 (W (t8+1)) (out_1++([((s.getD t8.toNat 0).toNat:Int)]:List Int))))))))) (k0 out_1))
def bt_.loop4 (n:Nat) (k0:(List Int)→Option Bs) (N:Nat):Bs→Int→Int→(List Int)→Option Bs :=
 dp_ (fun _ _ _ _=>none) (fun back=>bt_.step4 n k0 back) N
def bt_:Nat→Bs→Option Bs
 |0,_=>none
 |n+1,s=>
  (bt_.loop4 n (fun xy1=>(cJ_ (xy1.length+([34]:List Int).length) 1 (some (ly_ (xy1++([34]:List Int)))))) n s (s.length:Int) 0 ([34]:List Int))
def strings_Join:Nat→List Bs→Bs→Option Bs
 |0,_,_=>none
 |_+1,l,s=>nJoin l s
def aQ_.step4 (n:Nat) (impl_written_:aa_→Option Bs) (k0:Int→Int→Bs→(List aa_)→(List Bs)→(List Bs)→Option Bs) (back:(List aa_)→Int→Int→Int→Int→Bs→(List aa_)→(List Bs)→(List Bs)→Option Bs) (t9:List aa_) (t10:Int) (t11:Int) (append0:Int) (append1:Int) (append2:Bs) (append3:List aa_) (append4:List Bs) (t3:List Bs):Option Bs :=
 (cond (decide (t11<t10)) (inB t11 t9.length ((impl_written_ (aa_.re (t9.getD t11.toNat aa_.dflt))).bind fun xr1=>(cond (append0 == 5) (inB t11 append4.length ((bt_ n (append4.getD t11.toNat [])).bind fun xr2=>(cond (decide (xr2.length+[58].length≤9223372036854775807)) (cond (decide ((xr2++[58]).length+xr1.length≤9223372036854775807)) (cJ_ (t3.length+([((xr2++[58])++xr1)]:List Bs).length) 16 (back t9 t10 (W (t11+1)) append0 append1 append2 append3 append4 (t3++([((xr2++[58])++xr1)]:List Bs)))) none) none))) (cJ_ (t3.length+([xr1]:List Bs).length) 16 (back t9 t10 (W (t11+1)) append0 append1 append2 append3 append4 (t3++([xr1]:List Bs))))))) (k0 append0 append1 append2 append3 append4 t3))
def aQ_.loop4 (n:Nat) (impl_written_:aa_→Option Bs) (k0:Int→Int→Bs→(List aa_)→(List Bs)→(List Bs)→Option Bs) (N:Nat):(List aa_)→Int→Int→Int→Int→Bs→(List aa_)→(List Bs)→(List Bs)→Option Bs :=
 dp_ (fun _ _ _ _ _ _ _ _ _=>none) (fun back=>aQ_.step4 n impl_written_ k0 back) N
def aQ_:Nat→aa_→Option Bs
 |0,_=>none
 |n+1,o=>
  (aQ_.loop4 n (aQ_ n) (fun xy3 xy4 xy5 xy6 xy7 xy8=>(cond (xy3 == 0) (some [110,117,108,108]) (cond (xy3 == 1) (inB xy4 ([[102,97,108,115,101],[116,114,117,101]]:List Bs).length (let xv9:Bs:=(([[102,97,108,115,101],[116,114,117,101]]:List Bs).getD xy4.toNat []);(some xv9))) (cond (xy3 == 2) ((strconv_Itoa n xy4).bind fun xr10=>(some xr10)) (cond (xy3 == 3) ((bt_ n xy5).bind fun xr11=>(some xr11)) (cond (xy3 == 4) ((strings_Join n xy8 [44]).bind fun xr12=>(cond (decide ([91].length+xr12.length≤9223372036854775807)) (cond (decide ((([91]:Bs)++xr12).length+[93].length≤9223372036854775807)) (some ((([91]:Bs)++xr12)++[93])) none) none)) ((strings_Join n xy8 [44]).bind fun xr13=>(cond (decide ([123].length+xr13.length≤9223372036854775807)) (cond (decide ((([123]:Bs)++xr13).length+[125].length≤9223372036854775807)) (some ((([123]:Bs)++xr13)++[125])) none) none)))))))) n o.list (o.list.length:Int) 0 o.kind o.n_ o.s o.list o.names ([]:List Bs))
def c6_:Nat→aa_→Option Bs
 |0,_=>none
 |n+1,j=>
  ((cw_ n (aa_.re j)).bind fun xr1=>(cond (!xr1) (some []) ((aQ_ n (aa_.re j)).bind fun xr2=>(cond (decide ((xr2.length:Int) > 6000)) (some []) (some xr2)))))
def ce_:Nat→(List TOp)→Option Int
 |0,_=>none
 |n+1,list=>
  ((a6_ n list).bind fun xr1=>((c6_ n (aa_.re xr1.1)).bind fun xr2=>(cond (!xr1.2) (some (-1)) (cond (xr2 == []) (some (-1)) (some (xr2.length:Int))))))
def cV_:Nat→bB_→bB_→Option Bool
 |0,_,_=>none
 |n+1,a,b=>
  ((b4_ n a b).bind fun xr1=>((ce_ n xr1).bind fun xr2=>(cond (decide ((xr1.length:Int)≤40)) (cond (decide (xr2≥0)) ((cu_ n b).bind fun xr3=>((c6_ n (aa_.re xr3)).bind fun xr4=>(some (decide (xr2<(xr4.length:Int)))))) (some false)) (some false))))
def cs_:Nat→bZ_→Option (bZ_ × cI_ × Bool)
 |0,_=>none
 |n+1,x=>
  ((cC_ n x).bind fun xr1=>((cW_ n x).bind fun xr2=>(cond (!xr2) (some (xr1,(cI_.mk 0 0 0 (aa_.mk 0 0 [] ([]:List aa_) ([]:List Bs)) ([]:List TOp)),false)) ((cu_ n x.view).bind fun xr3=>(cond x.began ((cV_ n x.last x.view).bind fun xr4=>(cond xr4 ((b4_ n x.last x.view).bind fun xr5=>((bY_ n x.view).bind fun xr6=>(some ({ xr1 with last:=xr6,lastVersion:=x.version,began:=true },(cI_.mk 2 x.version x.lastVersion (aa_.mk 0 0 [] ([]:List aa_) ([]:List Bs)) xr5),true)))) ((bY_ n x.view).bind fun xr7=>(some ({ xr1 with last:=xr7,lastVersion:=x.version,began:=true },(cI_.mk 1 x.version 0 (aa_.re xr3) ([]:List TOp)),true))))) ((bY_ n x.view).bind fun xr8=>(some ({ xr1 with last:=xr8,lastVersion:=x.version,began:=true },(cI_.mk 1 x.version 0 (aa_.re xr3) ([]:List TOp)),true))))))))
def dj_:Nat→aP_→aP_→Option Bool
 |0,_,_=>none
 |n+1,a,b=>
  (cond (a.col != b.col) (some false) (cond (a.op != b.op) (some false) (cond (a.v != b.v) (some false) (some true))))
def be_.step6 (n:Nat) (k0:Option Bool) (back:(List aP_)→(List aP_)→Int→Option Bool) (a:List aP_) (b:List aP_) (i:Int):Option Bool :=
 (cond (decide (i<(a.length:Int))) (inB i a.length (inB i b.length ((dj_ n (a.getD i.toNat aP_.dflt) (b.getD i.toNat aP_.dflt)).bind fun xr1=>(cond (!xr1) (some false) (back a b (W (i+1))))))) k0)
def be_.loop6 (n:Nat) (k0:Option Bool) (N:Nat):(List aP_)→(List aP_)→Int→Option Bool :=
 dp_ (fun _ _ _=>none) (fun back=>be_.step6 n k0 back) N
def be_:Nat→(List aP_)→(List aP_)→Option Bool
 |0,_,_=>none
 |n+1,a,b=>
  (cond ((a.length:Int) != (b.length:Int)) (some false) (be_.loop6 n (some true) n a b 0))
def bs_.step6 (n:Nat) (k0:Option Bool) (back:(List Int)→(List Int)→Int→Option Bool) (a:List Int) (b:List Int) (i:Int):Option Bool :=
 (cond (decide (i<(a.length:Int))) (inB i a.length (inB i b.length (cond ((a.getD i.toNat 0) != (b.getD i.toNat 0)) (some false) (back a b (W (i+1)))))) k0)
def bs_.loop6 (n:Nat) (k0:Option Bool) (N:Nat):(List Int)→(List Int)→Int→Option Bool :=
 dp_ (fun _ _ _=>none) (fun back=>bs_.step6 n k0 back) N
def bs_:Nat→(List Int)→(List Int)→Option Bool
 |0,_,_=>none
 |n+1,a,b=>
  (cond ((a.length:Int) != (b.length:Int)) (some false) (bs_.loop6 n (some true) n a b 0))
def cR_:Nat→aT_→aT_→Option Bool
 |0,_,_=>none
 |n+1,a,b=>
  (cond (a.table != b.table) (some false) ((be_ n a.where_ b.where_).bind fun xr1=>(cond (!xr1) (some false) (cond (a.order != b.order) (some false) (cond (!(a.down == b.down)) (some false) (cond (a.first != b.first) (some false) ((bs_ n a.show_ b.show_).bind fun xr2=>(cond (!xr2) (some false) (cond (!(a.kids == b.kids)) (some false) (cond (a.kidTable != b.kidTable) (some false) (cond (a.kidCol != b.kidCol) (some false) (some true))))))))))))
def dF_:Nat→TRow→TRow→Option Bool
 |0,_,_=>none
 |n+1,a,b=>
  (cond (a.id_ != b.id_) (some false) ((bs_ n a.cells b.cells).bind fun xr1=>(cond (!xr1) (some false) (some true))))
def bw_.step6 (n:Nat) (k0:Option Bool) (back:(List TRow)→(List TRow)→Int→Option Bool) (a:List TRow) (b:List TRow) (i:Int):Option Bool :=
 (cond (decide (i<(a.length:Int))) (inB i a.length (inB i b.length ((dF_ n (a.getD i.toNat TRow.dflt) (b.getD i.toNat TRow.dflt)).bind fun xr1=>(cond (!xr1) (some false) (back a b (W (i+1))))))) k0)
def bw_.loop6 (n:Nat) (k0:Option Bool) (N:Nat):(List TRow)→(List TRow)→Int→Option Bool :=
 dp_ (fun _ _ _=>none) (fun back=>bw_.step6 n k0 back) N
def bw_:Nat→(List TRow)→(List TRow)→Option Bool
 |0,_,_=>none
 |n+1,a,b=>
  (cond ((a.length:Int) != (b.length:Int)) (some false) (bw_.loop6 n (some true) n a b 0))
def dG_:Nat→TKid→TKid→Option Bool
 |0,_,_=>none
 |n+1,a,b=>
  (cond (a.id_ != b.id_) (some false) (cond (a.n_ != b.n_) (some false) (some true)))
def bx_.step6 (n:Nat) (k0:Option Bool) (back:(List TKid)→(List TKid)→Int→Option Bool) (a:List TKid) (b:List TKid) (i:Int):Option Bool :=
 (cond (decide (i<(a.length:Int))) (inB i a.length (inB i b.length ((dG_ n (a.getD i.toNat TKid.dflt) (b.getD i.toNat TKid.dflt)).bind fun xr1=>(cond (!xr1) (some false) (back a b (W (i+1))))))) k0)
def bx_.loop6 (n:Nat) (k0:Option Bool) (N:Nat):(List TKid)→(List TKid)→Int→Option Bool :=
 dp_ (fun _ _ _=>none) (fun back=>bx_.step6 n k0 back) N
def bx_:Nat→(List TKid)→(List TKid)→Option Bool
 |0,_,_=>none
 |n+1,a,b=>
  (cond ((a.length:Int) != (b.length:Int)) (some false) (bx_.loop6 n (some true) n a b 0))
def c4_:Nat→bB_→bB_→Option Bool
 |0,_,_=>none
 |n+1,a,b=>
  ((cR_ n a.q b.q).bind fun xr1=>(cond (!xr1) (some false) ((bw_ n a.rows b.rows).bind fun xr2=>(cond (!xr2) (some false) ((bx_ n a.kids b.kids).bind fun xr3=>(cond (!xr3) (some false) (some true)))))))
def cL_:Nat→bZ_→bZ_→Option Bool
 |0,_,_=>none
 |n+1,a,b=>
  ((c4_ n a.view b.view).bind fun xr1=>(cond (!xr1) (some false) (cond (a.version != b.version) (some false) ((c4_ n a.last b.last).bind fun xr2=>(cond (!xr2) (some false) (cond (a.lastVersion != b.lastVersion) (some false) (cond (!(a.began == b.began)) (some false) (some true))))))))
def aM_.step6 (n:Nat) (k0:Option Bool) (back:(List Bs)→(List Bs)→Int→Option Bool) (a:List Bs) (b:List Bs) (i:Int):Option Bool :=
 (cond (decide (i<(a.length:Int))) (inB i a.length (inB i b.length (cond (!((a.getD i.toNat []) == (b.getD i.toNat []))) (some false) (back a b (W (i+1)))))) k0)
def aM_.loop6 (n:Nat) (k0:Option Bool) (N:Nat):(List Bs)→(List Bs)→Int→Option Bool :=
 dp_ (fun _ _ _=>none) (fun back=>aM_.step6 n k0 back) N
def aM_:Nat→(List Bs)→(List Bs)→Option Bool
 |0,_,_=>none
 |n+1,a,b=>
  (cond ((a.length:Int) != (b.length:Int)) (some false) (aM_.loop6 n (some true) n a b 0))
def bb_.step6 (n:Nat) (laws_eqJson_:aa_→aa_→Option Bool) (k0:Option Bool) (back:(List aa_)→(List aa_)→Int→Option Bool) (a:List aa_) (b:List aa_) (i:Int):Option Bool :=
 (cond (decide (i<(a.length:Int))) (inB i a.length (inB i b.length ((laws_eqJson_ (aa_.re (a.getD i.toNat aa_.dflt)) (aa_.re (b.getD i.toNat aa_.dflt))).bind fun xr1=>(cond (!xr1) (some false) (back a b (W (i+1))))))) k0)
def bb_.loop6 (n:Nat) (laws_eqJson_:aa_→aa_→Option Bool) (k0:Option Bool) (N:Nat):(List aa_)→(List aa_)→Int→Option Bool :=
 dp_ (fun _ _ _=>none) (fun back=>bb_.step6 n laws_eqJson_ k0 back) N
mutual
def b6_:Nat→aa_→aa_→Option Bool
 |0,_,_=>none
 |n+1,a,b=>
  (cond (a.kind != b.kind) (some false) (cond (a.n_ != b.n_) (some false) (cond (!(a.s == b.s)) (some false) ((bb_ n a.list b.list).bind fun xr1=>(cond (!xr1) (some false) ((aM_ n a.names b.names).bind fun xr2=>(cond (!xr2) (some false) (some true))))))))
def bb_:Nat→(List aa_)→(List aa_)→Option Bool
 |0,_,_=>none
 |n+1,a,b=>
  (cond ((a.length:Int) != (b.length:Int)) (some false) (bb_.loop6 n (b6_ n) (some true) n a b 0))
end
def dS_:Nat→TOp→TOp→Option Bool
 |0,_,_=>none
 |n+1,a,b=>
  (cond (a.kind != b.kind) (some false) ((aM_ n a.way b.way).bind fun xr1=>(cond (!xr1) (some false) ((b6_ n (aa_.re a.value) (aa_.re b.value)).bind fun xr2=>(cond (!xr2) (some false) (some true))))))
def bI_.step6 (n:Nat) (k0:Option Bool) (back:(List TOp)→(List TOp)→Int→Option Bool) (a:List TOp) (b:List TOp) (i:Int):Option Bool :=
 (cond (decide (i<(a.length:Int))) (inB i a.length (inB i b.length ((dS_ n { (a.getD i.toNat TOp.dflt) with value:=(aa_.re ((a.getD i.toNat TOp.dflt).value)) } { (b.getD i.toNat TOp.dflt) with value:=(aa_.re ((b.getD i.toNat TOp.dflt).value)) }).bind fun xr1=>(cond (!xr1) (some false) (back a b (W (i+1))))))) k0)
def bI_.loop6 (n:Nat) (k0:Option Bool) (N:Nat):(List TOp)→(List TOp)→Int→Option Bool :=
 dp_ (fun _ _ _=>none) (fun back=>bI_.step6 n k0 back) N
def bI_:Nat→(List TOp)→(List TOp)→Option Bool
 |0,_,_=>none
 |n+1,a,b=>
  (cond ((a.length:Int) != (b.length:Int)) (some false) (bI_.loop6 n (some true) n a b 0))
def cH_:Nat→cI_→cI_→Option Bool
 |0,_,_=>none
 |n+1,a,b=>
  (cond (a.kind != b.kind) (some false) (cond (a.version != b.version) (some false) (cond (a.base != b.base) (some false) ((b6_ n (aa_.re a.doc) (aa_.re b.doc)).bind fun xr1=>(cond (!xr1) (some false) ((bI_ n a.ops b.ops).bind fun xr2=>(cond (!xr2) (some false) (some true))))))))
def aK_.step3 (n:Nat) (k0:Int→(List aP_)→Option (Int × (List aP_))) (back:Int→Int→(List aP_)→Option (Int × (List aP_))) (k:Int) (i:Int) (a:List aP_):Option (Int × (List aP_)) :=
 (cond (decide (i<(a.length:Int))) (inB i a.length (let xa1:List aP_:=a.set i.toNat { (a.getD i.toNat aP_.dflt) with col:=k };(inB i xa1.length (let xa2:List aP_:=xa1.set i.toNat { (xa1.getD i.toNat aP_.dflt) with op:=(W (k+1)) };(inB i xa2.length (let xa3:List aP_:=xa2.set i.toNat { (xa2.getD i.toNat aP_.dflt) with v:=(W ((W (k+1))+1)) };(back (W ((W ((W (k+1))+1))+1)) (W (i+1)) xa3))))))) (k0 k a))
def aK_.loop3 (n:Nat) (k0:Int→(List aP_)→Option (Int × (List aP_))) (N:Nat):Int→Int→(List aP_)→Option (Int × (List aP_)) :=
 dp_ (fun _ _ _=>none) (fun back=>aK_.step3 n k0 back) N
def aK_:Nat→(List aP_)→Int→Option (Int × (List aP_))
 |0,_,_=>none
 |n+1,a,k=>
  (aK_.loop3 n (fun xy4 xy5=>(some (xy4,xy5))) n k 0 a)
def aR_.step3 (n:Nat) (k0:Int→(List Int)→Option (Int × (List Int))) (back:Int→Int→(List Int)→Option (Int × (List Int))) (k:Int) (i:Int) (a:List Int):Option (Int × (List Int)) :=
 (cond (decide (i<(a.length:Int))) (inB i a.length (let xa1:List Int:=a.set i.toNat k;(back (W (k+1)) (W (i+1)) xa1))) (k0 k a))
def aR_.loop3 (n:Nat) (k0:Int→(List Int)→Option (Int × (List Int))) (N:Nat):Int→Int→(List Int)→Option (Int × (List Int)) :=
 dp_ (fun _ _ _=>none) (fun back=>aR_.step3 n k0 back) N
def aR_:Nat→(List Int)→Int→Option (Int × (List Int))
 |0,_,_=>none
 |n+1,a,k=>
  (aR_.loop3 n (fun xy2 xy3=>(some (xy2,xy3))) n k 0 a)
def b9_:Nat→aT_→Int→Option (Int × (List aP_) × (List Int))
 |0,_,_=>none
 |n+1,a,k=>
  ((aK_ n a.where_ k).bind fun xr1=>(cond (Nat.beq xr1.2.length a.where_.length) ((aR_ n a.show_ xr1.1).bind fun xr2=>(cond (Nat.beq xr2.2.length a.show_.length) (some (xr2.1,xr1.2,xr2.2)) none)) none))
def aU_.step3 (n:Nat) (k0:Int→(List TRow)→Option (Int × (List TRow))) (back:Int→Int→(List TRow)→Option (Int × (List TRow))) (k:Int) (i:Int) (a:List TRow):Option (Int × (List TRow)) :=
 (cond (decide (i<(a.length:Int))) (inB i a.length (let xa1:List TRow:=a.set i.toNat (TRow.mk k ((a.getD i.toNat TRow.dflt).cells));(inB i xa1.length ((aR_ n ((xa1.getD i.toNat TRow.dflt).cells) (W (k+1))).bind fun xr2=>(cond (Nat.beq xr2.2.length ((xa1.getD i.toNat TRow.dflt).cells).length) (let xa3:List TRow:=xa1.set i.toNat (TRow.mk ((xa1.getD i.toNat TRow.dflt).id_) xr2.2);(back xr2.1 (W (i+1)) xa3)) none))))) (k0 k a))
def aU_.loop3 (n:Nat) (k0:Int→(List TRow)→Option (Int × (List TRow))) (N:Nat):Int→Int→(List TRow)→Option (Int × (List TRow)) :=
 dp_ (fun _ _ _=>none) (fun back=>aU_.step3 n k0 back) N
def aU_:Nat→(List TRow)→Int→Option (Int × (List TRow))
 |0,_,_=>none
 |n+1,a,k=>
  (aU_.loop3 n (fun xy4 xy5=>(some (xy4,xy5))) n k 0 a)
def aV_.step3 (n:Nat) (k0:Int→(List TKid)→Option (Int × (List TKid))) (back:Int→Int→(List TKid)→Option (Int × (List TKid))) (k:Int) (i:Int) (a:List TKid):Option (Int × (List TKid)) :=
 (cond (decide (i<(a.length:Int))) (inB i a.length (let xa1:List TKid:=a.set i.toNat (TKid.mk k ((a.getD i.toNat TKid.dflt).n_));(inB i xa1.length (let xa2:List TKid:=xa1.set i.toNat (TKid.mk ((xa1.getD i.toNat TKid.dflt).id_) (W (k+1)));(back (W ((W (k+1))+1)) (W (i+1)) xa2))))) (k0 k a))
def aV_.loop3 (n:Nat) (k0:Int→(List TKid)→Option (Int × (List TKid))) (N:Nat):Int→Int→(List TKid)→Option (Int × (List TKid)) :=
 dp_ (fun _ _ _=>none) (fun back=>aV_.step3 n k0 back) N
def aV_:Nat→(List TKid)→Int→Option (Int × (List TKid))
 |0,_,_=>none
 |n+1,a,k=>
  (aV_.loop3 n (fun xy3 xy4=>(some (xy3,xy4))) n k 0 a)
def cm_:Nat→bB_→Int→Option (Int × (List aP_) × (List Int) × (List TRow) × (List TKid))
 |0,_,_=>none
 |n+1,a,k=>
  ((b9_ n a.q k).bind fun xr1=>(cond (Nat.beq xr1.2.1.length a.q.where_.length) (cond (Nat.beq xr1.2.2.length a.q.show_.length) ((aU_ n a.rows xr1.1).bind fun xr2=>(cond (Nat.beq xr2.2.length a.rows.length) ((aV_ n a.kids xr2.1).bind fun xr3=>(cond (Nat.beq xr3.2.length a.kids.length) (some (xr3.1,xr1.2.1,xr1.2.2,xr2.2,xr3.2)) none)) none)) none) none))
def cn_:Nat→bZ_→Int→Option (Int × (List aP_) × (List Int) × (List TRow) × (List TKid) × (List aP_) × (List Int) × (List TRow) × (List TKid))
 |0,_,_=>none
 |n+1,a,k=>
  ((cm_ n a.view k).bind fun xr1=>(cond (Nat.beq xr1.2.1.length a.view.q.where_.length) (cond (Nat.beq xr1.2.2.1.length a.view.q.show_.length) (cond (Nat.beq xr1.2.2.2.1.length a.view.rows.length) (cond (Nat.beq xr1.2.2.2.2.length a.view.kids.length) ((cm_ n a.last xr1.1).bind fun xr2=>(cond (Nat.beq xr2.2.1.length a.last.q.where_.length) (cond (Nat.beq xr2.2.2.1.length a.last.q.show_.length) (cond (Nat.beq xr2.2.2.2.1.length a.last.rows.length) (cond (Nat.beq xr2.2.2.2.2.length a.last.kids.length) (some (xr2.1,xr1.2.1,xr1.2.2.1,xr1.2.2.2.1,xr1.2.2.2.2,xr2.2.1,xr2.2.2.1,xr2.2.2.2.1,xr2.2.2.2.2)) none) none) none) none)) none) none) none) none))
def aH_.step6 (n:Nat) (k0:Bs→Option Bs) (back:Int→Bs→Option Bs) (k:Int) (out_1:Bs):Option Bs :=
 (cond (decide (k > 0)) (cond (decide ((ly_ ([(IntKind.u8.wrap ((W (48+(Int.tmod k 10)))))]:List Int)).length+out_1.length≤9223372036854775807)) (let xv1:Bs:=((ly_ ([(IntKind.u8.wrap ((W (48+(Int.tmod k 10)))))]:List Int))++out_1);(back (W (Int.tdiv k 10)) xv1)) none) (k0 out_1))
def aH_.loop6 (n:Nat) (k0:Bs→Option Bs) (N:Nat):Int→Bs→Option Bs :=
 dp_ (fun _ _=>none) (fun back=>aH_.step6 n k0 back) N
def aH_:Nat→Int→Option Bs
 |0,_=>none
 |n+1,k=>
  (cond (decide (k≤0)) (some [109,48]) (aH_.loop6 n (fun xy2=>(cond (decide ([109].length+xy2.length≤9223372036854775807)) (some (([109]:Bs)++xy2)) none)) n k []))
def aq_.step3 (n:Nat) (k0:Int→(List Bs)→Option (Int × (List Bs))) (back:Int→Int→(List Bs)→Option (Int × (List Bs))) (k:Int) (i:Int) (a:List Bs):Option (Int × (List Bs)) :=
 (cond (decide (i<(a.length:Int))) ((aH_ n k).bind fun xr1=>(inB i a.length (let xa2:List Bs:=a.set i.toNat xr1;(back (W (k+1)) (W (i+1)) xa2)))) (k0 k a))
def aq_.loop3 (n:Nat) (k0:Int→(List Bs)→Option (Int × (List Bs))) (N:Nat):Int→Int→(List Bs)→Option (Int × (List Bs)) :=
 dp_ (fun _ _ _=>none) (fun back=>aq_.step3 n k0 back) N
def aq_:Nat→(List Bs)→Int→Option (Int × (List Bs))
 |0,_,_=>none
 |n+1,a,k=>
  (aq_.loop3 n (fun xy3 xy4=>(some (xy3,xy4))) n k 0 a)
def ay_.step3 (n:Nat) (laws_markJsonS_:(List aa_)→Int→Option (Int × (List aa_))) (k0:Int→(List aa_)→Option (Int × (List aa_))) (back:Int→Int→(List aa_)→Option (Int × (List aa_))) (k:Int) (i:Int) (a:List aa_):Option (Int × (List aa_)) :=
 (cond (decide (i<(a.length:Int))) (inB i a.length (let xa1:List aa_:=a.set i.toNat (aa_.mk k ((a.getD i.toNat aa_.dflt).n_) ((a.getD i.toNat aa_.dflt).s) ((a.getD i.toNat aa_.dflt).list) ((a.getD i.toNat aa_.dflt).names));(inB i xa1.length (let xa2:List aa_:=xa1.set i.toNat (aa_.mk ((xa1.getD i.toNat aa_.dflt).kind) (W (k+1)) ((xa1.getD i.toNat aa_.dflt).s) ((xa1.getD i.toNat aa_.dflt).list) ((xa1.getD i.toNat aa_.dflt).names));((aH_ n (W ((W (k+1))+1))).bind fun xr3=>(inB i xa2.length (let xa4:List aa_:=xa2.set i.toNat (aa_.mk ((xa2.getD i.toNat aa_.dflt).kind) ((xa2.getD i.toNat aa_.dflt).n_) xr3 ((xa2.getD i.toNat aa_.dflt).list) ((xa2.getD i.toNat aa_.dflt).names));(inB i xa4.length ((laws_markJsonS_ ((xa4.getD i.toNat aa_.dflt).list) (W ((W ((W (k+1))+1))+1))).bind fun xr5=>(cond (Nat.beq xr5.2.length ((xa4.getD i.toNat aa_.dflt).list).length) (let xa6:List aa_:=xa4.set i.toNat (aa_.mk ((xa4.getD i.toNat aa_.dflt).kind) ((xa4.getD i.toNat aa_.dflt).n_) ((xa4.getD i.toNat aa_.dflt).s) xr5.2 ((xa4.getD i.toNat aa_.dflt).names));(inB i xa6.length ((aq_ n ((xa6.getD i.toNat aa_.dflt).names) xr5.1).bind fun xr7=>(cond (Nat.beq xr7.2.length ((xa6.getD i.toNat aa_.dflt).names).length) (let xa8:List aa_:=xa6.set i.toNat (aa_.mk ((xa6.getD i.toNat aa_.dflt).kind) ((xa6.getD i.toNat aa_.dflt).n_) ((xa6.getD i.toNat aa_.dflt).s) ((xa6.getD i.toNat aa_.dflt).list) xr7.2);(back xr7.1 (W (i+1)) xa8)) none)))) none)))))))))) (k0 k a))
def ay_.loop3 (n:Nat) (laws_markJsonS_:(List aa_)→Int→Option (Int × (List aa_))) (k0:Int→(List aa_)→Option (Int × (List aa_))) (N:Nat):Int→Int→(List aa_)→Option (Int × (List aa_)) :=
 dp_ (fun _ _ _=>none) (fun back=>ay_.step3 n laws_markJsonS_ k0 back) N
def ay_:Nat→(List aa_)→Int→Option (Int × (List aa_))
 |0,_,_=>none
 |n+1,a,k=>
  (ay_.loop3 n (ay_ n) (fun xy9 xy10=>(some (xy9,xy10))) n k 0 a)
def cz_:Nat→aa_→Int→Option (Int × (List aa_) × (List Bs))
 |0,_,_=>none
 |n+1,a,k=>
  ((ay_ n a.list k).bind fun xr1=>(cond (Nat.beq xr1.2.length a.list.length) ((aq_ n a.names xr1.1).bind fun xr2=>(cond (Nat.beq xr2.2.length a.names.length) (some (xr2.1,xr1.2,xr2.2)) none)) none))
def a9_.step3 (n:Nat) (k0:Int→(List TOp)→Option (Int × (List TOp))) (back:Int→Int→(List TOp)→Option (Int × (List TOp))) (append:Int) (t5:Int) (o:List TOp):Option (Int × (List TOp)) :=
 (cond (decide (t5<(o.length:Int))) (inB t5 o.length (let xa1:List TOp:=o.set t5.toNat (TOp.mk append ((o.getD t5.toNat TOp.dflt).way) (aa_.re ((o.getD t5.toNat TOp.dflt).value)));(inB t5 xa1.length ((aq_ n ((xa1.getD t5.toNat TOp.dflt).way) (W (append+1))).bind fun xr2=>(cond (Nat.beq xr2.2.length ((xa1.getD t5.toNat TOp.dflt).way).length) (let xa3:List TOp:=xa1.set t5.toNat (TOp.mk ((xa1.getD t5.toNat TOp.dflt).kind) xr2.2 (aa_.re ((xa1.getD t5.toNat TOp.dflt).value)));(inB t5 xa3.length (let xa4:List TOp:=xa3.set t5.toNat { (xa3.getD t5.toNat TOp.dflt) with value:=(aa_.mk xr2.1 (((xa3.getD t5.toNat TOp.dflt).value).n_) (((xa3.getD t5.toNat TOp.dflt).value).s) (((xa3.getD t5.toNat TOp.dflt).value).list) (((xa3.getD t5.toNat TOp.dflt).value).names)) };(inB t5 xa4.length (let xa5:List TOp:=xa4.set t5.toNat { (xa4.getD t5.toNat TOp.dflt) with value:=(aa_.mk (((xa4.getD t5.toNat TOp.dflt).value).kind) (W (xr2.1+1)) (((xa4.getD t5.toNat TOp.dflt).value).s) (((xa4.getD t5.toNat TOp.dflt).value).list) (((xa4.getD t5.toNat TOp.dflt).value).names)) };((aH_ n (W ((W (xr2.1+1))+1))).bind fun xr6=>(inB t5 xa5.length (let xa7:List TOp:=xa5.set t5.toNat { (xa5.getD t5.toNat TOp.dflt) with value:=(aa_.mk (((xa5.getD t5.toNat TOp.dflt).value).kind) (((xa5.getD t5.toNat TOp.dflt).value).n_) xr6 (((xa5.getD t5.toNat TOp.dflt).value).list) (((xa5.getD t5.toNat TOp.dflt).value).names)) };(inB t5 xa7.length ((ay_ n (((xa7.getD t5.toNat TOp.dflt).value).list) (W ((W ((W (xr2.1+1))+1))+1))).bind fun xr8=>(cond (Nat.beq xr8.2.length (((xa7.getD t5.toNat TOp.dflt).value).list).length) (let xa9:List TOp:=xa7.set t5.toNat { (xa7.getD t5.toNat TOp.dflt) with value:=(aa_.mk (((xa7.getD t5.toNat TOp.dflt).value).kind) (((xa7.getD t5.toNat TOp.dflt).value).n_) (((xa7.getD t5.toNat TOp.dflt).value).s) xr8.2 (((xa7.getD t5.toNat TOp.dflt).value).names)) };(inB t5 xa9.length ((aq_ n (((xa9.getD t5.toNat TOp.dflt).value).names) xr8.1).bind fun xr10=>(cond (Nat.beq xr10.2.length (((xa9.getD t5.toNat TOp.dflt).value).names).length) (let xa11:List TOp:=xa9.set t5.toNat { (xa9.getD t5.toNat TOp.dflt) with value:=(aa_.mk (((xa9.getD t5.toNat TOp.dflt).value).kind) (((xa9.getD t5.toNat TOp.dflt).value).n_) (((xa9.getD t5.toNat TOp.dflt).value).s) (((xa9.getD t5.toNat TOp.dflt).value).list) xr10.2) };(back xr10.1 (W (t5+1)) xa11)) none)))) none))))))))))) none))))) (k0 append o))
def a9_.loop3 (n:Nat) (k0:Int→(List TOp)→Option (Int × (List TOp))) (N:Nat):Int→Int→(List TOp)→Option (Int × (List TOp)) :=
 dp_ (fun _ _ _=>none) (fun back=>a9_.step3 n k0 back) N
def a9_:Nat→(List TOp)→Int→Option (Int × (List TOp))
 |0,_,_=>none
 |n+1,o,append=>
  (a9_.loop3 n (fun xy12 xy13=>(some (xy12,xy13))) n append 0 o)
def ca_:Nat→cI_→Int→Option (Int × (List aa_) × (List Bs) × (List TOp))
 |0,_,_=>none
 |n+1,a,k=>
  ((cz_ n (aa_.re a.doc) k).bind fun xr1=>(cond (Nat.beq xr1.2.1.length a.doc.list.length) (cond (Nat.beq xr1.2.2.length a.doc.names.length) ((a9_ n a.ops xr1.1).bind fun xr2=>(cond (Nat.beq xr2.2.length a.ops.length) (some (xr2.1,xr1.2.1,xr1.2.2,xr2.2)) none)) none) none))
def aL_.step3 (n:Nat) (k0:Int→Option Int) (back:(List aP_)→Int→Int→Option Int) (a:List aP_) (k:Int) (i:Int):Option Int :=
 (cond (decide (i<(a.length:Int))) (inB i a.length (cond (((a.getD i.toNat aP_.dflt).col) != k) (some (-1)) (inB i a.length (cond (((a.getD i.toNat aP_.dflt).op) != (W (k+1))) (some (-1)) (inB i a.length (cond (((a.getD i.toNat aP_.dflt).v) != (W ((W (k+1))+1))) (some (-1)) (back a (W ((W ((W (k+1))+1))+1)) (W (i+1))))))))) (k0 k))
def aL_.loop3 (n:Nat) (k0:Int→Option Int) (N:Nat):(List aP_)→Int→Int→Option Int :=
 dp_ (fun _ _ _=>none) (fun back=>aL_.step3 n k0 back) N
def aL_:Nat→(List aP_)→Int→Option Int
 |0,_,_=>none
 |n+1,a,k=>
  (aL_.loop3 n (fun xy1=>(some xy1)) n a k 0)
def aS_.step3 (n:Nat) (k0:Int→Option Int) (back:(List Int)→Int→Int→Option Int) (a:List Int) (k:Int) (i:Int):Option Int :=
 (cond (decide (i<(a.length:Int))) (inB i a.length (cond ((a.getD i.toNat 0) != k) (some (-1)) (back a (W (k+1)) (W (i+1))))) (k0 k))
def aS_.loop3 (n:Nat) (k0:Int→Option Int) (N:Nat):(List Int)→Int→Int→Option Int :=
 dp_ (fun _ _ _=>none) (fun back=>aS_.step3 n k0 back) N
def aS_:Nat→(List Int)→Int→Option Int
 |0,_,_=>none
 |n+1,a,k=>
  (aS_.loop3 n (fun xy1=>(some xy1)) n a k 0)
def cb_:Nat→aT_→Int→Option Int
 |0,_,_=>none
 |n+1,a,k=>
  ((aL_ n a.where_ k).bind fun xr1=>(cond (decide (xr1<0)) (some (-1)) ((aS_ n a.show_ xr1).bind fun xr2=>(cond (decide (xr2<0)) (some (-1)) (some xr2)))))
def aW_.step3 (n:Nat) (k0:Int→Option Int) (back:(List TRow)→Int→Int→Option Int) (a:List TRow) (k:Int) (i:Int):Option Int :=
 (cond (decide (i<(a.length:Int))) (inB i a.length (cond (((a.getD i.toNat TRow.dflt).id_) != k) (some (-1)) (inB i a.length ((aS_ n ((a.getD i.toNat TRow.dflt).cells) (W (k+1))).bind fun xr1=>(cond (decide (xr1<0)) (some (-1)) (back a xr1 (W (i+1)))))))) (k0 k))
def aW_.loop3 (n:Nat) (k0:Int→Option Int) (N:Nat):(List TRow)→Int→Int→Option Int :=
 dp_ (fun _ _ _=>none) (fun back=>aW_.step3 n k0 back) N
def aW_:Nat→(List TRow)→Int→Option Int
 |0,_,_=>none
 |n+1,a,k=>
  (aW_.loop3 n (fun xy2=>(some xy2)) n a k 0)
def aX_.step3 (n:Nat) (k0:Int→Option Int) (back:(List TKid)→Int→Int→Option Int) (a:List TKid) (k:Int) (i:Int):Option Int :=
 (cond (decide (i<(a.length:Int))) (inB i a.length (cond (((a.getD i.toNat TKid.dflt).id_) != k) (some (-1)) (inB i a.length (cond (((a.getD i.toNat TKid.dflt).n_) != (W (k+1))) (some (-1)) (back a (W ((W (k+1))+1)) (W (i+1))))))) (k0 k))
def aX_.loop3 (n:Nat) (k0:Int→Option Int) (N:Nat):(List TKid)→Int→Int→Option Int :=
 dp_ (fun _ _ _=>none) (fun back=>aX_.step3 n k0 back) N
def aX_:Nat→(List TKid)→Int→Option Int
 |0,_,_=>none
 |n+1,a,k=>
  (aX_.loop3 n (fun xy1=>(some xy1)) n a k 0)
def co_:Nat→bB_→Int→Option Int
 |0,_,_=>none
 |n+1,a,k=>
  ((cb_ n a.q k).bind fun xr1=>(cond (decide (xr1<0)) (some (-1)) ((aW_ n a.rows xr1).bind fun xr2=>(cond (decide (xr2<0)) (some (-1)) ((aX_ n a.kids xr2).bind fun xr3=>(cond (decide (xr3<0)) (some (-1)) (some xr3)))))))
def cp_:Nat→bZ_→Int→Option Int
 |0,_,_=>none
 |n+1,a,k=>
  ((co_ n a.view k).bind fun xr1=>(cond (decide (xr1<0)) (some (-1)) ((co_ n a.last xr1).bind fun xr2=>(cond (decide (xr2<0)) (some (-1)) (some xr2)))))
def ar_.step3 (n:Nat) (k0:Int→Option Int) (back:(List Bs)→Int→Int→Option Int) (a:List Bs) (k:Int) (i:Int):Option Int :=
 (cond (decide (i<(a.length:Int))) (inB i a.length ((aH_ n k).bind fun xr1=>(cond (!((a.getD i.toNat []) == xr1)) (some (-1)) (back a (W (k+1)) (W (i+1)))))) (k0 k))
def ar_.loop3 (n:Nat) (k0:Int→Option Int) (N:Nat):(List Bs)→Int→Int→Option Int :=
 dp_ (fun _ _ _=>none) (fun back=>ar_.step3 n k0 back) N
def ar_:Nat→(List Bs)→Int→Option Int
 |0,_,_=>none
 |n+1,a,k=>
  (ar_.loop3 n (fun xy2=>(some xy2)) n a k 0)
def az_.step3 (n:Nat) (laws_heldJsonS_:(List aa_)→Int→Option Int) (k0:Int→Option Int) (back:(List aa_)→Int→Int→Option Int) (a:List aa_) (k:Int) (i:Int):Option Int :=
 (cond (decide (i<(a.length:Int))) (inB i a.length (cond (((a.getD i.toNat aa_.dflt).kind) != k) (some (-1)) (inB i a.length (cond (((a.getD i.toNat aa_.dflt).n_) != (W (k+1))) (some (-1)) (inB i a.length ((aH_ n (W ((W (k+1))+1))).bind fun xr1=>(cond (!(((a.getD i.toNat aa_.dflt).s) == xr1)) (some (-1)) (inB i a.length ((laws_heldJsonS_ ((a.getD i.toNat aa_.dflt).list) (W ((W ((W (k+1))+1))+1))).bind fun xr2=>(cond (decide (xr2<0)) (some (-1)) (inB i a.length ((ar_ n ((a.getD i.toNat aa_.dflt).names) xr2).bind fun xr3=>(cond (decide (xr3<0)) (some (-1)) (back a xr3 (W (i+1)))))))))))))))) (k0 k))
def az_.loop3 (n:Nat) (laws_heldJsonS_:(List aa_)→Int→Option Int) (k0:Int→Option Int) (N:Nat):(List aa_)→Int→Int→Option Int :=
 dp_ (fun _ _ _=>none) (fun back=>az_.step3 n laws_heldJsonS_ k0 back) N
def az_:Nat→(List aa_)→Int→Option Int
 |0,_,_=>none
 |n+1,a,k=>
  (az_.loop3 n (az_ n) (fun xy4=>(some xy4)) n a k 0)
def cA_:Nat→aa_→Int→Option Int
 |0,_,_=>none
 |n+1,a,k=>
  ((az_ n a.list k).bind fun xr1=>(cond (decide (xr1<0)) (some (-1)) ((ar_ n a.names xr1).bind fun xr2=>(cond (decide (xr2<0)) (some (-1)) (some xr2)))))
def ba_.step3 (n:Nat) (k0:Int→Option Int) (back:(List TOp)→Int→Int→Option Int) (o:List TOp) (append:Int) (t5:Int):Option Int :=
 (cond (decide (t5<(o.length:Int))) (inB t5 o.length (cond (((o.getD t5.toNat TOp.dflt).kind) != append) (some (-1)) (inB t5 o.length ((ar_ n ((o.getD t5.toNat TOp.dflt).way) (W (append+1))).bind fun xr1=>(cond (decide (xr1<0)) (some (-1)) (inB t5 o.length (cond ((((o.getD t5.toNat TOp.dflt).value).kind) != xr1) (some (-1)) (inB t5 o.length (cond ((((o.getD t5.toNat TOp.dflt).value).n_) != (W (xr1+1))) (some (-1)) (inB t5 o.length ((aH_ n (W ((W (xr1+1))+1))).bind fun xr2=>(cond (!((((o.getD t5.toNat TOp.dflt).value).s) == xr2)) (some (-1)) (inB t5 o.length ((az_ n (((o.getD t5.toNat TOp.dflt).value).list) (W ((W ((W (xr1+1))+1))+1))).bind fun xr3=>(cond (decide (xr3<0)) (some (-1)) (inB t5 o.length ((ar_ n (((o.getD t5.toNat TOp.dflt).value).names) xr3).bind fun xr4=>(cond (decide (xr4<0)) (some (-1)) (back o xr4 (W (t5+1))))))))))))))))))))) (k0 append))
def ba_.loop3 (n:Nat) (k0:Int→Option Int) (N:Nat):(List TOp)→Int→Int→Option Int :=
 dp_ (fun _ _ _=>none) (fun back=>ba_.step3 n k0 back) N
def ba_:Nat→(List TOp)→Int→Option Int
 |0,_,_=>none
 |n+1,o,append=>
  (ba_.loop3 n (fun xy5=>(some xy5)) n o append 0)
def b2_:Nat→cI_→Int→Option Int
 |0,_,_=>none
 |n+1,a,k=>
  ((cA_ n (aa_.re a.doc) k).bind fun xr1=>(cond (decide (xr1<0)) (some (-1)) ((ba_ n a.ops xr1).bind fun xr2=>(cond (decide (xr2<0)) (some (-1)) (some xr2)))))
def laws_FnExactSessTake:Nat→bZ_→Option Bool
 |0,_=>none
 |n+1,o=>
  ((dq_ n o 1048576).bind fun xr1=>(cond (decide (xr1<0)) (some true) ((cK_ n o).bind fun xr2=>((cx_ n xr2).bind fun xr3=>((cK_ n o).bind fun xr4=>((cs_ n xr4).bind fun xr5=>((cL_ n xr5.1 xr3.1).bind fun xr6=>(cond (!xr6) (some false) ((cH_ n { xr5.2.1 with doc:=(aa_.re xr5.2.1.doc) } { xr3.2.1 with doc:=(aa_.re xr3.2.1.doc) }).bind fun xr7=>(cond (!xr7) (some false) (cond (!(xr5.2.2 == xr3.2.2)) (some false) ((cK_ n o).bind fun xr8=>((cL_ n xr4 xr8).bind fun xr9=>(cond (!xr9) (some false) ((cn_ n xr4 1).bind fun xr10=>(cond (Nat.beq xr10.2.1.length xr4.view.q.where_.length) (cond (Nat.beq xr10.2.2.1.length xr4.view.q.show_.length) (cond (Nat.beq xr10.2.2.2.1.length xr4.view.rows.length) (cond (Nat.beq xr10.2.2.2.2.1.length xr4.view.kids.length) (cond (Nat.beq xr10.2.2.2.2.2.1.length xr4.last.q.where_.length) (cond (Nat.beq xr10.2.2.2.2.2.2.1.length xr4.last.q.show_.length) (cond (Nat.beq xr10.2.2.2.2.2.2.2.1.length xr4.last.rows.length) (cond (Nat.beq xr10.2.2.2.2.2.2.2.2.length xr4.last.kids.length) (cond (decide (xr10.1<0)) (some false) ((cL_ n xr5.1 xr3.1).bind fun xr11=>(cond (!xr11) (some false) ((cH_ n { xr5.2.1 with doc:=(aa_.re xr5.2.1.doc) } { xr3.2.1 with doc:=(aa_.re xr3.2.1.doc) }).bind fun xr12=>(cond (!xr12) (some false) (cond (!(xr5.2.2 == xr3.2.2)) (some false) ((cn_ n xr5.1 1).bind fun xr13=>(cond (Nat.beq xr13.2.1.length xr5.1.view.q.where_.length) (cond (Nat.beq xr13.2.2.1.length xr5.1.view.q.show_.length) (cond (Nat.beq xr13.2.2.2.1.length xr5.1.view.rows.length) (cond (Nat.beq xr13.2.2.2.2.1.length xr5.1.view.kids.length) (cond (Nat.beq xr13.2.2.2.2.2.1.length xr5.1.last.q.where_.length) (cond (Nat.beq xr13.2.2.2.2.2.2.1.length xr5.1.last.q.show_.length) (cond (Nat.beq xr13.2.2.2.2.2.2.2.1.length xr5.1.last.rows.length) (cond (Nat.beq xr13.2.2.2.2.2.2.2.2.length xr5.1.last.kids.length) ((ca_ n { xr5.2.1 with doc:=(aa_.re xr5.2.1.doc) } xr13.1).bind fun xr14=>(cond (Nat.beq xr14.2.1.length xr5.2.1.doc.list.length) (cond (Nat.beq xr14.2.2.1.length xr5.2.1.doc.names.length) (cond (Nat.beq xr14.2.2.2.length xr5.2.1.ops.length) ((cp_ n { xr5.1 with view:=(bB_.mk { xr5.1.view.q with where_:=xr13.2.1,show_:=xr13.2.2.1 } xr13.2.2.2.1 xr13.2.2.2.2.1),last:=(bB_.mk { xr5.1.last.q with where_:=xr13.2.2.2.2.2.1,show_:=xr13.2.2.2.2.2.2.1 } xr13.2.2.2.2.2.2.2.1 xr13.2.2.2.2.2.2.2.2) } 1).bind fun xr15=>(cond (decide (xr15<0)) (some false) ((b2_ n { xr5.2.1 with doc:=(aa_.mk xr5.2.1.doc.kind xr5.2.1.doc.n_ xr5.2.1.doc.s xr14.2.1 xr14.2.2.1),ops:=xr14.2.2.2 } xr15).bind fun xr16=>(cond (decide (xr16<0)) (some false) (cond (xr16 != xr14.1) (some false) ((cK_ n o).bind fun xr17=>((cs_ n xr17).bind fun xr18=>((cL_ n xr18.1 xr3.1).bind fun xr19=>(cond (!xr19) (some false) ((cH_ n { xr18.2.1 with doc:=(aa_.re xr18.2.1.doc) } { xr3.2.1 with doc:=(aa_.re xr3.2.1.doc) }).bind fun xr20=>(cond (!xr20) (some false) (cond (!(xr18.2.2 == xr3.2.2)) (some false) ((cp_ n { xr5.1 with view:=(bB_.mk { xr5.1.view.q with where_:=xr13.2.1,show_:=xr13.2.2.1 } xr13.2.2.2.1 xr13.2.2.2.2.1),last:=(bB_.mk { xr5.1.last.q with where_:=xr13.2.2.2.2.2.1,show_:=xr13.2.2.2.2.2.2.1 } xr13.2.2.2.2.2.2.2.1 xr13.2.2.2.2.2.2.2.2) } 1).bind fun xr21=>(cond (decide (xr21<0)) (some false) ((b2_ n { xr5.2.1 with doc:=(aa_.mk xr5.2.1.doc.kind xr5.2.1.doc.n_ xr5.2.1.doc.s xr14.2.1 xr14.2.2.1),ops:=xr14.2.2.2 } xr21).bind fun xr22=>(cond (decide (xr22<0)) (some false) (cond (xr22 != xr14.1) (some false) (some true)))))))))))))))))) none) none) none)) none) none) none) none) none) none) none) none)))))))) none) none) none) none) none) none) none) none))))))))))))))))
end Go.Pi
end
