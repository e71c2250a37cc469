/- FnGoesAlong: a view of a drawn store that goes along with a batch is the view of the store behind it, and its answer what asking anew tells. No condition. Text 6 of 7. -/
import Derived.Test.YtilkdgbncfebkaaGreatDoorGaE
import Derived.Lib.ItoaLen
import Derived.Lib.AtoiAllCases
set_option linter.unusedVariables false
set_option maxRecDepth 100000
set_option linter.unusedSimpArgs false
section
namespace Go.Pi
def ja_ (a b:List TKid):Bool:=decide (a.length=b.length)&&jB_ (fun i=>(cond ((a.getD i TKid.dflt).id_ == (b.getD i TKid.dflt).id_) (cond ((a.getD i TKid.dflt).n_ == (b.getD i TKid.dflt).n_) true false) false)) a.length
def ow_ (a b:TRow):Bool:=(a.id_ == b.id_)&&hg_ a.cells b.cells
def i8_ (a b:List TRow):Bool:=decide (a.length=b.length)&&jB_ (fun i=>ow_ (a.getD i TRow.dflt) (b.getD i TRow.dflt)) a.length
def nJ_ (a b:bd_):Bool:=hD_ a.q b.q&&(i8_ a.rows b.rows&&ja_ a.kids b.kids)
theorem l4_ {a b:List TKid} (ha:a.length≤bG_):Ev (fun n _=>a0_ n a b) (ja_ a b):=by
 refine aJ_ ?_
 simp only [a0_,aD_,ap_]
 refine ⟨fun h => ?_,fun h2 => ?_⟩
 · simp only [bne_iff_ne,ne_eq] at h;have:¬ a.length=b.length:=by omega
   simp [ja_,this]
 · simp only [bne_eq_false_iff_eq] at h2
   have hl:a.length=b.length:=by omega
   refine du_ (dE_ (fun n N i=>a0_.loop6 n (some true) N a b (a.length:Int) (i:Int)) (fun i=>(cond ((a.getD i TKid.dflt).id_ == (b.getD i TKid.dflt).id_) (cond ((a.getD i TKid.dflt).n_ == (b.getD i TKid.dflt).n_) true false) false)) (len:=a.length) (v:=true) (fun i u hi ih => ?_) ?_) (by simp [ja_,hl])
   · have h2:i<b.length:=by omega
     simp only [a0_.turn6,a0_.step6,Int.toNat_natCast,W_up hi ha,aD_,bA_,ap_,cF_ ih,cw_ hi,cp_ hi,cp_ h2]
     clear ih
     generalize (cond ((a.getD i TKid.dflt).id_ == (b.getD i TKid.dflt).id_) (cond ((a.getD i TKid.dflt).n_ == (b.getD i TKid.dflt).n_) true false) false)=c
     cases c<;>simp
   · simp only [a0_.turn6,a0_.step6,bZ_,cond_false,ap_]
theorem iK_ {a b:TRow} (ha:a.cells.length≤bG_):Ev (fun n _=>di_ n a b) (ow_ a b):=by
 refine aJ_ ?_
 simp only [di_,as_ (hQ_ ha),aD_,ap_,ow_]
 generalize hg_ a.cells b.cells=d
 cases d<;>grind
theorem h0_ {a b:List TRow} (ha:e0_ bG_ a):Ev (fun n _=>al_ n a b) (i8_ a b):=by
 refine aJ_ ?_
 simp only [al_,aD_,ap_]
 refine ⟨fun h => ?_,fun h2 => ?_⟩
 · simp only [bne_iff_ne,ne_eq] at h;have:¬ a.length=b.length:=by omega
   simp [i8_,this]
 · simp only [bne_eq_false_iff_eq] at h2
   have hl:a.length=b.length:=by omega
   refine du_ (dE_ (fun n N i=>al_.loop6 n (some true) N b a (a.length:Int) (i:Int)) (fun i=>ow_ (a.getD i TRow.dflt) (b.getD i TRow.dflt)) (len:=a.length) (v:=true) (fun i u hi ih => ?_) ?_) (by simp [i8_,hl])
   · have h2:i<b.length:=by omega
     simp only [al_.turn6,al_.step6,Int.toNat_natCast,W_up hi ha.1,aD_,bA_,as_ (iK_ (dC_ ha i)),ap_,cF_ ih,cw_ hi,cp_ hi,cp_ h2]
     clear ih
     generalize ow_ (a.getD i TRow.dflt) (b.getD i TRow.dflt)=c
     cases c<;>simp
   · simp only [al_.turn6,al_.step6,bZ_,cond_false,ap_]
theorem hV_ {a b:bd_} (ha:kt_ bG_ a):Ev (fun n _=>cT_ n a b) (nJ_ a b):=by
 refine aJ_ ?_
 simp only [cT_,as_ (ht_ ha.1),as_ (h0_ ha.2.1),as_ (l4_ ha.2.2),aD_,ap_,nJ_]
 generalize hD_ a.q b.q=c
 generalize i8_ a.rows b.rows=d
 generalize ja_ a.kids b.kids=e
 cases c<;>cases d<;>cases e<;>simp
end Go.Pi
end
section
namespace Go.Pi
def c5_ (rows:List TRow) (id:Int):Nat:=rows.findIdx (fun x=>decide (x.id_ > id))
def cz_ (rows:List TRow) (r:TRow):List TRow :=
 cond (decide (ca_ rows r.id_≥0)) (rows.set (ca_ rows r.id_).toNat r) (rows.take (c5_ rows r.id_)++[r]++rows.drop (c5_ rows r.id_))
theorem iX_ (rows:List TRow) (id:Int):(∃ p,p<rows.length∧ca_ rows id=(p:Int)∧rows.findIdx (fun r=>r.id_ == id)=p)∨(ca_ rows id = -1∧d9_ rows id=rows):=by
 rw [gj_]
 by_cases h:rows.findIdx (fun r=>r.id_ == id)<rows.length
 · exact .inl ⟨_,h,if_pos h,rfl⟩
 · refine .inr ⟨if_neg h,?_⟩
   unfold d9_
   rw [List.eraseIdx_of_length_le (by omega)]
theorem idx_down (rows:List TRow) (P:TRow→Bool) {j:Nat} (hj:j<rows.length) :
  j+(rows.drop j).findIdx P=cond (P (rows.getD j TRow.dflt)) j (j+1+(rows.drop (j+1)).findIdx P):=by
 rw [dq_ TRow.dflt hj,List.findIdx_cons]
 cases P (rows.getD j TRow.dflt)<;>simp only [cond_true,cond_false]<;>omega
theorem e9_ {rows:List TRow} {r:TRow} (h:e0_ cX_ rows) (hr:r.cells.length≤cX_):Ev (fun n _=>bf_ n rows r) (cz_ rows r):=by
 refine aJ_ ?_
 have hl:=h.1
 simp only [cX_] at hl
 have ht:rows.length≤bG_:=by simp only [bG_];omega
 have e0:∀ r:TRow,TRow.mk r.id_ r.cells=r:=fun _=>rfl
 simp only [bf_,as_ (fN_ (id:=r.id_) h),as_ (fo_ (rows:=rows) (id:=r.id_) ht),aD_]
 rcases iX_ rows r.id_ with ⟨p,hp,e1,e2⟩|⟨e1,e2⟩
 · have hd:d9_ rows r.id_=rows.take p++rows.drop (p+1):=by unfold d9_;rw [e2,List.eraseIdx_eq_take_drop_succ]
   have hdl:(d9_ rows r.id_).length=rows.length - 1:=by rw [hd];simp;omega
   refine ⟨fun _ => ?_,fun h=>by rw [e1] at h;simp at h⟩
   rw [e1]
   simp only [kM_,ch_,e4_ hr,ap_,Int.toNat_natCast,List.length_nil,List.nil_append,List.drop_zero,hdl]
   refine ⟨by omega,by simp;omega,by simp;omega,by omega,by simp;omega,?_⟩
   unfold cz_
   rw [e1,decide_eq_true (by omega),cond_true,Int.toNat_natCast,hd,List.set_eq_take_append_cons_drop,if_pos hp]
   have t1:(rows.take p++rows.drop (p+1)).take p=rows.take p:=by rw [List.take_append_of_le_length (by simp;omega),List.take_take,Nat.min_self]
   have t2:((rows.take p++rows.drop (p+1)).take (rows.length - 1)).drop p=rows.drop (p+1):=by
    rw [List.take_of_length_le (by simp;omega),List.drop_append_of_le_length (by simp;omega),List.drop_eq_nil_of_le (by simp;omega),List.nil_append]
   rw [t1,t2];simp
 · refine ⟨fun h=>by rw [e1] at h;simp at h,fun _ => ?_⟩
   rw [e2]
   have hF:cz_ rows r=rows.take (c5_ rows r.id_)++[r]++rows.drop (c5_ rows r.id_):=by unfold cz_;rw [e1];rfl
   rw [hF]
   obtain ⟨S,hS⟩:∃ S:Nat→Int,S=fun i=>(((rows.length - i)+(rows.drop (rows.length - i)).findIdx (fun x=>decide (x.id_ > r.id_)):Nat):Int):=⟨_,rfl⟩
   have hS0:S 0=(rows.length:Int):=by rw [hS];simp
   have:=g9_ S rows.length (fun n N i (s:Int)=>bf_.loop6 n (fun xy5 xy6 xy7 xy8=>(j6_ 0 xy5 xy8.length (cl_ (([]:List TRow).length+((xy8.take xy5.toNat).drop 0).length) 32 ((bT_ n (TRow.mk xy6 xy7)).bind fun xr9=>(cl_ ((([]:List TRow)++((xy8.take xy5.toNat).drop 0)).length+([xr9]:List TRow).length) 32 (j6_ xy5 (xy8.length:Int) xy8.length (cl_ (((([]:List TRow)++((xy8.take xy5.toNat).drop 0))++([xr9]:List TRow)).length+((xy8.take ((xy8.length:Int).toNat)).drop xy5.toNat).length) 32 (some (((([]:List TRow)++((xy8.take xy5.toNat).drop 0))++([xr9]:List TRow))++((xy8.take ((xy8.length:Int).toNat)).drop xy5.toNat)))))))))) N s (((rows.length - i:Nat):Int) - 1) r.id_ r.cells rows) (rows.take (c5_ rows r.id_)++[r]++rows.drop (c5_ rows r.id_)) (fun i hi F hF => ?_) ?_
   · rw [hS0] at this
     rw [W_dn ht]
     simpa using this
   · obtain ⟨j,hj⟩:∃ j,j=rows.length - i - 1:=⟨_,rfl⟩
     have hji:rows.length - i=j+1:=by omega
     have hji2:rows.length - (i+1)=j:=by omega
     have hjl:j<rows.length:=by omega
     have hstep:=idx_down rows (fun x=>decide (x.id_ > r.id_)) hjl
     have s1:S i=((j+1+(rows.drop (j+1)).findIdx (fun x=>decide (x.id_ > r.id_)):Nat):Int):=by rw [hS];simp only [hji]
     have s2:S (i+1)=((j+(rows.drop j).findIdx (fun x=>decide (x.id_ > r.id_)):Nat):Int):=by rw [hS];simp only [hji2]
     have ei:((rows.length - i:Nat):Int) - 1=(j:Int):=by omega
     have ei2:W ((j:Int) - 1)=((rows.length - (i+1):Nat):Int) - 1:=by rw [W_dn (by omega),hji2]
     rw [s2,hstep] at hF
     rw [ei,s1]
     simp only [bf_.turn6,bf_.step6,aD_,bA_,Int.toNat_natCast,ei2]
     refine ⟨fun _=>⟨by omega,fun hc => ?_,fun hc => ?_⟩,fun h=>by simp at h⟩
     · rw [hc] at hF;exact hF
     · rw [hc] at hF;exact hF
   · have s1:S rows.length=(c5_ rows r.id_:Int):=by rw [hS];simp [c5_]
     have hpl:c5_ rows r.id_≤rows.length:=List.findIdx_le_length
     rw [s1]
     simp only [bf_.turn6,bf_.step6,Nat.sub_self,e0]
     rw [show decide (((0:Nat):Int) - 1≥0)=false from by simp]
     simp only [cond_false,kM_,ch_,e4_ hr,ap_,Int.toNat_natCast,List.length_nil,List.nil_append,List.drop_zero]
     refine ⟨by omega,by simp;omega,by simp;omega,by omega,by simp;omega,?_⟩
     rw [List.take_length]
theorem jw_ {rows:List TRow} {r:TRow} (h:e0_ cX_ rows) (hr:r.cells.length≤cX_):Ev (fun n _=>cP_ n rows r) (cz_ rows r):=by
 refine aJ_ ?_
 have hl:=h.1
 simp only [cX_] at hl
 have ht:rows.length≤bG_:=by simp only [bG_];omega
 have hA:∀ (x:TRow),Ev (fun n _=>cL_ n x r.id_ r.cells) (decide (x.id_ > r.id_)):=fun x=>aJ_ (by simp only [cL_,ap_])
 have hI:Ev (fun n _=>ai_ n rows r.id_ r.cells) (if c5_ rows r.id_<rows.length then ((c5_ rows r.id_:Nat):Int) else -1):=by
  refine aJ_ ?_
  unfold c5_
  rw [←eA_ TRow.dflt]
  simp only [ai_]
  refine gG_ (fun n N i=>ai_.loop3 n (some (-1)) N rows r.id_ r.cells (rows.length:Int) (i:Int)) _ (fun i u hi ih => ?_) ?_
  · simp only [ai_.turn3,ai_.step3,Int.toNat_natCast,W_up hi ht,aD_,bA_,as_ (hA _),ap_,cF_ ih,cw_ hi,cp_ hi]
    clear ih
    grind
  · simp only [ai_.turn3,ai_.step3,bZ_,cond_false,ap_]
 have hp:c5_ rows r.id_≤rows.length:=List.findIdx_le_length
 have hN:∀ i:Nat,i≤rows.length→Ev (fun n _=>bK_ n rows (i:Int) [r]) (rows.take i++[r]++rows.drop i):=fun i hi=>by
  refine aJ_ ?_
  simp only [bK_,eS_,aD_,ap_,ej_,Int.toNat_natCast]
  simp;omega
 simp only [cP_,as_ (eV_ h),as_ (eN_ (rows:=rows) (id:=r.id_) ht),aD_,fi_ hr,bA_,ap_,as_ hI]
 unfold cz_
 rcases iX_ rows r.id_ with ⟨p,hpl,e1,e2⟩|⟨e1,e2⟩
 · rw [e1]
   refine ⟨fun hc=>⟨by omega,?_⟩,fun h=>by simp at h⟩
   rw [hc,cond_true]
 · rw [e1]
   refine ⟨fun h=>by simp at h,fun hc => ?_⟩
   rw [hc,cond_false]
   by_cases hlt:c5_ rows r.id_<rows.length
   · rw [if_pos hlt]
     refine ⟨fun h=>by simp at h;omega,fun _ => ?_⟩
     simp only [as_ (hN _ hp),ap_]
   · have e:c5_ rows r.id_=rows.length:=by omega
     rw [if_neg hlt]
     refine ⟨fun _ => ?_,fun h=>by simp at h⟩
     simp only [as_ (hN rows.length (Nat.le_refl _)),ap_]
     rw [e]
end Go.Pi
end
section
namespace Go.Pi
def oB_ (c:Nat) (x:aI_):Prop:=x.old.cells.length≤c∧x.new.cells.length≤c
theorem d2_ {c n:Nat} (h:n≤c) (hc:c≤cX_):n≤bG_:=by simp only [cX_] at hc;simp only [bG_];omega
theorem e0_.upto {c d:Nat} {r:List TRow} (h:e0_ c r) (hc:c≤d):e0_ d r:=⟨Nat.le_trans h.1 hc,fun x hx=>Nat.le_trans (h.2 x hx) hc⟩
theorem dw_.upto {c d:Nat} {s:an_} (h:dw_ c s) (hc:c≤d):dw_ d s:=⟨Nat.le_trans h.1 hc,Nat.le_trans h.2.1 hc,fun x hx=>(h.2.2 x hx).upto hc⟩
theorem jd_ {c:Nat} {rows:List TRow} {id:Int} (h:e0_ c rows):e0_ c (d9_ rows id):=by
 unfold d9_
 exact ⟨Nat.le_trans (List.length_eraseIdx_le _ _) h.1,fun x hx=>h.2 x (List.mem_of_mem_eraseIdx hx)⟩
theorem i9_ {c:Nat} {rows:List TRow} {r:TRow} (h:e0_ c rows) (hr:r.cells.length≤c):e0_ (c+1) (cz_ rows r):=by
 unfold cz_
 have h1:=h.1
 cases decide (ca_ rows r.id_≥0)<;>simp only [cond_true,cond_false]
 · refine ⟨by simp;omega,fun x hx => ?_⟩
   rcases List.mem_append.1 hx with hx|hx
   · rcases List.mem_append.1 hx with hx|hx
     · exact Nat.le_succ_of_le (h.2 x (List.mem_of_mem_take hx))
     · rw [List.mem_singleton.1 hx];omega
   · exact Nat.le_succ_of_le (h.2 x (List.mem_of_mem_drop hx))
 · refine ⟨by simp;omega,fun x hx => ?_⟩
   rcases List.mem_or_eq_of_mem_set hx with hx|rfl
   · exact Nat.le_succ_of_le (h.2 x hx)
   · omega
end Go.Pi
end
section
namespace Go.Pi
def au_.size (s:au_):Nat:=(hk_ szI) s.cols
def au_.len (s:au_):Prop:=(mk_ lenI) s.cols
def TRow.size (s:TRow):Nat:=(hk_ szI) s.cells
def TRow.len (s:TRow):Prop:=(mk_ lenI) s.cells
def an_.size (s:an_):Nat:=au_.size s.schema+(hk_ (hk_ TRow.size)) s.tables
def an_.len (s:an_):Prop:=au_.len s.schema∧(mk_ (mk_ TRow.len)) s.tables
def aY_.size (s:aY_):Nat:=0
def aY_.len (s:aY_):Prop:=True
def ae_.size (s:ae_):Nat:=(hk_ aY_.size) s.where_+(hk_ szI) s.show_
def ae_.len (s:ae_):Prop:=(mk_ aY_.len) s.where_∧(mk_ lenI) s.show_
def aw_.size (s:aw_):Nat:=(hk_ szI) s.b
def aw_.len (s:aw_):Prop:=(mk_ lenI) s.b
def TMut.size (s:TMut):Nat:=TRow.size s.row
def TMut.len (s:TMut):Prop:=TRow.len s.row
def aI_.size (s:aI_):Nat:=TRow.size s.old+TRow.size s.new
def aI_.len (s:aI_):Prop:=TRow.len s.old∧TRow.len s.new
def TKid.size (s:TKid):Nat:=0
def TKid.len (s:TKid):Prop:=True
def bd_.size (s:bd_):Nat:=ae_.size s.q+(hk_ TRow.size) s.rows+(hk_ TKid.size) s.kids
def bd_.len (s:bd_):Prop:=ae_.len s.q∧(mk_ TRow.len) s.rows∧(mk_ TKid.len) s.kids
mutual
def ax_.size:ax_→Nat
 |⟨_,_,s,l,ns⟩=>s.length+((l.length+ax_.sizes l)+hk_ szB ns)
def ax_.sizes:List ax_→Nat
 |[]=>0
 |x::l=>ax_.size x+ax_.sizes l
end
mutual
def ax_.len:ax_→Prop
 |⟨_,_,s,l,ns⟩=>s.length≤bG_∧(l.length≤bG_∧ax_.lens l)∧mk_ lenB ns
def ax_.lens:List ax_→Prop
 |[]=>True
 |x::l=>ax_.len x∧ax_.lens l
end
theorem ax_.sizes_eq:∀ l:List ax_,ax_.sizes l=ic_ ax_.size l
 |[]=>by simp only [ax_.sizes,ic_]
 |x::l=>by simp only [ax_.sizes,ic_,ax_.sizes_eq l]
theorem ax_.lens_iff:∀ l:List ax_,ax_.lens l↔∀ x ∈ l,ax_.len x
 |[]=>by simp [ax_.lens]
 |x::l=>by simp [ax_.lens,ax_.lens_iff l]
theorem ax_.size_eq (j:ax_):ax_.size j=j.s.length+(hk_ ax_.size j.list+hk_ szB j.names):=by
 cases j;simp only [ax_.size,ax_.sizes_eq,hk_]
theorem ax_.len_iff (j:ax_):ax_.len j↔j.s.length≤bG_∧mk_ ax_.len j.list∧mk_ lenB j.names:=by
 cases j;simp only [ax_.len,ax_.lens_iff,mk_]
theorem ax_.re_eq (j:ax_):ax_.re j=j:=by cases j;rfl
theorem ax_.dec {x:ax_} {a:List ax_} (h:x ∈ a):SizeOf.sizeOf x.list<SizeOf.sizeOf a:=by
 have h1:=List.sizeOf_lt_of_mem h
 have h2:SizeOf.sizeOf x.list<SizeOf.sizeOf x:=by cases x;simp;omega
 omega
end Go.Pi
end
section
namespace Go.Pi
def ef_ (s:au_):an_:=⟨s,0,List.replicate s.cols.length []⟩
theorem lenSt_new {c:Nat} {s:au_} (hs:s.cols.length≤c):dw_ c (ef_ s):=by
 refine ⟨hs,?_,fun x hx => ?_⟩
 · simp only [ef_,List.length_replicate];exact hs
 · simp only [ef_] at hx
   rw [List.eq_of_mem_replicate hx]
   exact ⟨Nat.zero_le _,fun x hx=>by cases hx⟩
def zStore:an_:=⟨⟨[]⟩,0,[]⟩
def FNew (s:au_):an_ × Bool:=cond (cy_ s) (ef_ s,true) (zStore,false)
theorem fF_ {s:au_} (hs:s.cols.length≤cap):Ev (fun n _=>cR_ n s) (FNew s):=by
 refine aJ_ ?_
 simp only [cap] at hs
 simp only [cR_,dI_ (show s.cols.length≤bG_ by simp only [bG_];omega),jR_ (show s.cols.length≤cX_ by simp only [cX_];omega),aD_,ap_,ej_,FNew,ef_,zStore,Int.toNat_natCast]
 repeat' (first|apply And.intro|intro _)
 all_goals (try simp_all)
 all_goals (try omega)
end Go.Pi
end
section
namespace Go.Pi
theorem Wn {x:Int} (h1 : -1000000000000≤x) (h2:x≤1000000000000):W x=x:=W_id (by omega) (by omega)
theorem df_ {a b:Int}:Ev (fun n _=>ce_ n a b) (max a b):=by
 refine aJ_ ?_
 simp only [ce_,aD_,ap_]
 exact ⟨fun h=>by have:=of_decide_eq_true h;omega,fun h=>by have:=of_decide_eq_false h;omega⟩
theorem hU_ {c:aw_} (hc:DwOk c):Ans (fun n _=>aC_ n c) fun r=>r.1.cols.length≤3∧(∀ x ∈ r.1.cols,x≤4)∧DwOk r.2:=by
 have key:∀ (m i:Nat) (c:aw_) (o:List Int),i+m=3→DwOk c→o.length=i→(∀ x ∈ o,x≤4) →
   Ans (fun n N=>aC_.loop4 n (fun xy3 xy4 xy5 xy6=>(some ((au_.mk xy6),(aw_.mk xy3 xy4 xy5)))) N (i:Int) c.b c.i c.h o) fun r=>r.1.cols.length≤3∧(∀ x ∈ r.1.cols,x≤4)∧DwOk r.2:=by
  intro m
  induction m with
  |zero=>
   intro i c o hi hc ho hx
   refine bY_ ?_
   simp only [aC_.turn4,aC_.step4,b5_]
   refine a4_ (a9_ hc) fun r hr => ?_
   have h1:=hr.lo;have h2:=hr.hi
   rw [Wn (by omega) (by omega),decide_eq_false (by omega)]
   simp only [cond_false,b5_,b3_]
   exact ⟨by omega,hx,hr.cur⟩
  |succ m ih=>
   intro i c o hi hc ho hx
   refine bY_ ?_
   simp only [aC_.turn4,aC_.step4,b5_]
   refine a4_ (a9_ hc) fun r hr => ?_
   simp only [cu_,b5_,b3_]
   refine ⟨fun _=>a4_ (a9_ hr.cur) fun r2 hr2 => ?_,fun _=>⟨by omega,hx,hr.cur⟩⟩
   have h1:=hr2.lo;have h2:=hr2.hi
   have e1:W ((i:Int)+1)=((i+1:Nat):Int):=by rw [Wn (by omega) (by omega)];rfl
   rw [Wn (x:=1+r2.1) (by omega) (by omega),e1]
   simp only [ek_]
   refine ⟨by simp;omega,ih (i+1) r2.2 _ (by omega) hr2.cur (by simp;omega) fun x hx' => ?_⟩
   rcases List.mem_append.1 hx' with h|h
   · exact hx x h
   · rw [List.mem_singleton.1 h];omega
 refine da_ ?_
 simp only [aC_]
 exact dF_ (key 3 0 c [] rfl hc rfl fun x hx=>(by cases hx))
theorem gY_ {c:aw_} {cols:Int} (hc:DwOk c) (hcol:cols≤1000):Ans (fun n _=>aP_ n c cols) fun r=>r.1.cells.length≤1000∧DwOk r.2:=by
 have key:∀ (m i:Nat) (c:aw_) (id:Int) (o:List Int),i+m=1000→DwOk c→o.length=i →
   Ans (fun n N=>aP_.loop4 n (fun xy3 xy4 xy5 xy6 xy7 xy8=>(some ((TRow.mk xy7 xy8),(aw_.mk xy3 xy4 xy5)))) N cols (i:Int) c.b c.i c.h 0 id o) fun r=>r.1.cells.length≤1000∧DwOk r.2:=by
  intro m
  induction m with
  |zero=>
   intro i c id o hi hc ho
   refine bY_ ?_
   simp only [aP_.turn4,aP_.step4,b5_]
   rw [decide_eq_false (by omega)]
   simp only [cond_false,b5_,b3_]
   exact ⟨by omega,hc⟩
  |succ m ih=>
   intro i c id o hi hc ho
   refine bY_ ?_
   simp only [aP_.turn4,aP_.step4,b5_,cu_,b3_]
   refine ⟨fun _=>a4_ (a9_ hc) fun r2 hr2 => ?_,fun _=>⟨by omega,hc⟩⟩
   have e1:W ((i:Int)+1)=((i+1:Nat):Int):=by rw [Wn (by omega) (by omega)];rfl
   rw [e1]
   simp only [ek_]
   exact ⟨by simp;omega,ih (i+1) r2.2 _ _ (by omega) hr2.cur (by simp;omega)⟩
 refine da_ ?_
 simp only [aP_]
 exact a4_ (a9_ hc) fun r hr=>dF_ (key 1000 0 r.2 _ [] rfl hr.cur rfl)
theorem jr_ {c:aw_} {cols:Int} (hc:DwOk c) (hcol:cols≤1000):Ans (fun n _=>aK_ n c cols) fun r=>e0_ 1010 r.1∧DwOk r.2:=by
 have key:∀ (m i:Nat) (c:aw_) (o:List TRow),i+m=9→DwOk c→e0_ (1000+i) o →
   Ans (fun n N=>aK_.loop4 n (fun xy4 xy5 xy6 xy7=>(some (xy7,(aw_.mk xy4 xy5 xy6)))) N cols (i:Int) c.b c.i c.h o) fun r=>e0_ 1010 r.1∧DwOk r.2:=by
  intro m
  induction m with
  |zero=>
   intro i c o hi hc ho
   refine bY_ ?_
   simp only [aK_.turn4,aK_.step4,b5_]
   refine a4_ (a9_ hc) fun r hr => ?_
   have h1:=hr.lo;have h2:=hr.hi
   rw [decide_eq_false (by omega)]
   simp only [cond_false,b5_,b3_]
   exact ⟨ho.upto (by omega),hr.cur⟩
  |succ m ih=>
   intro i c o hi hc ho
   refine bY_ ?_
   simp only [aK_.turn4,aK_.step4,b5_]
   refine a4_ (a9_ hc) fun r hr => ?_
   simp only [cu_,b5_,b3_]
   refine ⟨fun _=>a4_ (gY_ hr.cur hcol) fun r2 hr2 => ?_,fun _=>⟨ho.upto (by omega),hr.cur⟩⟩
   have e1:W ((i:Int)+1)=((i+1:Nat):Int):=by rw [Wn (by omega) (by omega)];rfl
   have hP:=e9_ (rows:=o) (r:=r2.1) (ho.upto (by simp only [cX_];omega)) (by have:=hr2.1;simp only [cX_];omega)
   rw [cn_ hP,e1]
   exact ih (i+1) r2.2 _ (by omega) hr2.2 (by rw [←Nat.add_assoc];exact i9_ ho (by have:=hr2.1;omega))
 refine da_ ?_
 simp only [aK_]
 exact dF_ (key 9 0 c [] rfl hc ⟨Nat.zero_le _,fun x hx=>(by cases hx)⟩)
structure StIn (c:Nat) (s:an_):Prop where
 len:dw_ c s
 col:∀ x ∈ s.schema.cols,x≤1000
theorem StIn.upto {c d:Nat} {s:an_} (h:StIn c s) (hc:c≤d):StIn d s:=⟨h.len.upto hc,h.col⟩
theorem StIn.getD {c:Nat} {s:an_} (h:StIn c s) (i:Nat):s.schema.cols.getD i 0≤1000:=by
 by_cases hi:i<s.schema.cols.length
 · exact h.col _ (bL_ _ hi)
 · rw [List.getD_eq_getElem?_getD,List.getElem?_eq_none (by omega)];decide
theorem iA_ {c:aw_} (hc:DwOk c):Ans (fun n _=>aH_ n c) fun r=>StIn 1010 r.1∧DwOk r.2:=by
 have key:∀ (m i:Nat) (c:aw_) (s:an_),i+m=s.tables.length→s.tables.length≤s.schema.cols.length→DwOk c→StIn 1010 s →
   Ans (fun n N=>aH_.loop4 n (fun xy5 xy6 xy7 xy8 xy9 xy10 xy11=>((ay_ n (aw_.mk xy5 xy6 xy7) 5).bind fun xr12=>(some ((an_.mk (au_.mk xy10) xr12.1 xy11),xr12.2)))) N (i:Int) c.b c.i c.h 0 s.version s.schema.cols s.tables) fun r=>StIn 1010 r.1∧DwOk r.2:=by
  intro m
  induction m with
  |zero=>
   intro i c s hi hl hc hs
   have e:i=s.tables.length:=by omega
   subst e
   refine bY_ ?_
   simp only [aH_.turn4,aH_.step4,bZ_,cond_false,b5_]
   exact a4_ (a9_ hc) fun r hr=>b3_.2 ⟨⟨hs.len,hs.col⟩,hr.cur⟩
  |succ m ih=>
   intro i c s hi hl hc hs
   have hlt:i<s.tables.length:=by omega
   have h3:=hs.len.2.1
   have hW:=W_up hlt (show s.tables.length≤bG_ by simp only [bG_];omega)
   refine bY_ ?_
   simp only [aH_.turn4,aH_.step4,cw_ hlt,cond_true,b5_,eF_,Int.toNat_natCast]
   refine ⟨⟨by omega,by omega⟩,a4_ (jr_ hc (hs.getD i)) fun r hr => ?_⟩
   simp only [eF_,hW]
   refine ⟨⟨by omega,by omega⟩,?_⟩
   have:=ih (i+1) r.2 (an_.mk s.schema s.version (s.tables.set i r.1)) (by simp;omega) (by simp;exact hl) hr.2 ⟨⟨hs.len.1,by simp only [List.length_set];exact h3,fun x hx=>by
    rcases List.mem_or_eq_of_mem_set hx with hx|rfl
    · exact hs.len.2.2 x hx
    · exact hr.1⟩,hs.col⟩
   exact this
 refine da_ ?_
 simp only [aH_]
 refine a4_ (hU_ hc) fun r hr => ?_
 have hN:=fF_ (s:=r.1) (by have:=hr.1;simp only [cap];omega)
 rw [cn_ hN]
 refine dF_ (f:=fun n N=>aH_.loop4 n (fun xy5 xy6 xy7 xy8 xy9 xy10 xy11=>((ay_ n (aw_.mk xy5 xy6 xy7) 5).bind fun xr12=>(some ((an_.mk (au_.mk xy10) xr12.1 xy11),xr12.2)))) N 0 r.2.b r.2.i r.2.h 0 (FNew r.1).1.version (FNew r.1).1.schema.cols (FNew r.1).1.tables) (key (FNew r.1).1.tables.length 0 r.2 (FNew r.1).1 (Nat.zero_add _) ?_ hr.2.2 ?_)
 · unfold FNew
   cases cy_ r.1
   · exact Nat.le_refl _
   · simp [ef_]
 · unfold FNew
   cases cy_ r.1
   · exact ⟨⟨Nat.zero_le _,Nat.zero_le _,fun x hx=>(by cases hx)⟩,fun x hx=>(by cases hx)⟩
   · exact ⟨lenSt_new (Nat.le_trans hr.1 (by decide)),fun x hx=>Int.le_trans (hr.2.1 x hx) (by decide)⟩
end Go.Pi
end
section
namespace Go.Pi
def gA_:TRow:=TRow.mk 0 []
def noCh:aI_:=aI_.mk 0 false false gA_ gA_
def zeroSt:an_:=an_.mk (au_.mk []) 0 []
def d7_ (s:au_) (m:TMut):Bool:=cond (m.kind == 3) (cy_ s&&(inn m.table 0 (W ((s.cols.length:Int) - 1))&&(inn m.row.id_ 1 999&&((m.row.cells.length:Int) == 0)))) (inn m.kind 1 2&&FRow s m.table m.row)
def cB_ (s:an_) (m:TMut):List TRow:=s.tables.getD m.table.toNat []
def go_ (s:an_) (m:TMut):Bool:=(decide (ca_ (cB_ s m) m.row.id_≥0) == (m.kind != 1)) && !((m.kind == 1)&&(((cB_ s m).length:Int) == 24))
def FDo (s:an_) (m:TMut):an_:=an_.mk s.schema s.version (s.tables.set m.table.toNat (cond (m.kind != 3) (cz_ (cB_ s m) m.row) (d9_ (cB_ s m) m.row.id_)))
def dY_ (s:an_) (m:TMut):aI_:=aI_.mk m.table (m.kind != 1) (m.kind != 3) (cond (m.kind != 1) ((cB_ s m).getD (ca_ (cB_ s m) m.row.id_).toNat TRow.dflt) gA_) (cond (m.kind != 3) m.row gA_)
def d8_ (s:an_) (m:TMut):an_ × aI_ × Bool:=cond (cC_ s) (cond (d7_ s.schema m&&go_ s m) (FDo s m,dY_ s m,true) (s,noCh,false)) (zeroSt,noCh,false)
theorem f6_ (r:TRow):TRow.mk r.id_ r.cells=r:=rfl
theorem dz_ (s:an_):an_.mk s.schema s.version s.tables=s:=rfl
theorem d3_ (s:au_):au_.mk s.cols=s:=rfl
theorem h4_ (m:TMut):TMut.mk m.kind m.table m.row=m:=rfl
theorem kg_ {s:au_} {m:TMut} (hs:s.cols.length≤bG_) (hr:m.row.cells.length≤bG_):Ev (fun n _=>dR_ n s m) (d7_ s m):=by
 refine aJ_ ?_
 simp only [dR_,as_ (fG_ hs),as_ (gQ_ (t:=m.table) hs hr),e5_,aD_,ap_,d7_]
 generalize (m.kind == 3)=a
 generalize cy_ s=b
 generalize inn m.table 0 _=c
 generalize inn m.row.id_ 1 999=d
 generalize inn m.kind 1 2=e
 cases a<;>cases b<;>cases c<;>cases d<;>cases e<;>simp
theorem iw_ {s:an_} {m:TMut} (hs:cC_ s=true) (hm:d7_ s.schema m=true) (hc:s.schema.cols.length≤bG_):0≤m.table∧m.table<(s.tables.length:Int):=by
 have e:=@W_dn s.schema.cols.length hc
 have hl:s.tables.length=s.schema.cols.length:=by
  unfold cC_ at hs
  simp only [Bool.and_eq_true] at hs
  exact of_decide_eq_true hs.2.2.1
 have:inn m.table 0 (W ((s.schema.cols.length:Int) - 1))=true:=by
  unfold d7_ at hm
  cases h3:(m.kind == 3)<;>rw [h3] at hm
  · simp only [cond_false,Bool.and_eq_true] at hm
    have:=hm.2
    unfold FRow at this
    simp only [Bool.and_eq_true] at this
    exact this.2.1
  · simp only [cond_true,Bool.and_eq_true] at hm
    exact hm.2.1
 have:=cS_.1 this
 rw [e] at this
 omega
theorem iq_ (rows:List TRow) (id:Int):ca_ rows id = -1∨0≤ca_ rows id∧ca_ rows id<(rows.length:Int):=by
 rcases iX_ rows id with ⟨p,h1,h2,_⟩|⟨h,_⟩
 · exact .inr ⟨by omega,by omega⟩
 · exact .inl h
theorem k3_ {s:an_} {m:TMut} (hl:dw_ cX_ s) (hr:m.row.cells.length≤cX_) (ht:0≤m.table∧m.table<(s.tables.length:Int)):Ev (fun n _=>ed_ n s m) (cond (go_ s m) (FDo s m,dY_ s m,true) (s,noCh,false)):=by
 have hT:e0_ cX_ (cB_ s m):=dx_ hl.2.2 _
 have hT1:(cB_ s m).length≤bG_:=d2_ hT.1 (Nat.le_refl _)
 have hrow:∀ i,((cB_ s m).getD i TRow.dflt).cells.length≤cX_:=fun i=>by
  by_cases hi:i<(cB_ s m).length
  · exact hT.2 _ (bL_ _ hi)
  · rw [List.getD_eq_getElem?_getD,List.getElem?_eq_none (by omega)];exact Nat.zero_le _
 have hat:=iq_ (cB_ s m) m.row.id_
 have e0:s.tables.getD m.table.toNat []=cB_ s m:=rfl
 refine aJ_ ?_
 simp only [ed_,e0,f6_,bA_,ht,true_and,and_true,as_ (fo_ (id:=m.row.id_) hT1),e4_ (hrow _),e4_ hr,as_ (e9_ hT hr),as_ (fN_ (id:=m.row.id_) hT),aD_,ap_]
 unfold go_ FDo dY_ noCh gA_
 generalize cz_ (cB_ s m) m.row=p
 generalize d9_ (cB_ s m) m.row.id_=q
 generalize ca_ (cB_ s m) m.row.id_=a at hat ⊢
 have hb:(m.kind == 1)=true→(m.kind != 1)=false:=by simp [bne]
 have hb':(m.kind == 1)=false→(m.kind != 1)=true:=by intro h;simp [bne,h]
 generalize (m.kind != 1)=k1 at hb hb' ⊢
 cases hk:(m.kind == 1)<;>rw [hk] at hb hb'
 · have:=hb' rfl
   subst this
   cases ha:decide (a≥0)
   · simp
   · have ha:=of_decide_eq_true ha
     cases (m.kind != 3)<;>simp<;>omega
 · have:=hb rfl
   subst this
   cases ha:decide (a≥0)<;>cases (((cB_ s m).length:Int) == 24)<;>cases (m.kind != 3)<;>simp
theorem gS_ {s:an_} {m:TMut} (hl:dw_ cX_ s) (hr:m.row.cells.length≤cX_):Ev (fun n _=>dA_ n s m) (d8_ s m):=by
 have hs:s.schema.cols.length≤bG_:=d2_ hl.1 (Nat.le_refl _)
 have hrt:m.row.cells.length≤bG_:=d2_ hr (Nat.le_refl _)
 refine aJ_ ?_
 simp only [dA_,dz_,h4_,f6_,as_ (ee_ (hl.upto (show cX_≤bG_ by decide))),as_ (kg_ hs hrt),as_ (iB_ hl),aD_,ap_]
 unfold d8_
 cases h1:cC_ s
 · exact ⟨fun _=>rfl,fun h=>(by cases h)⟩
 · refine ⟨fun h=>(by cases h),fun _ => ?_⟩
   cases h2:d7_ s.schema m
   · exact ⟨fun _=>rfl,fun h=>(by cases h)⟩
   · refine ⟨fun h=>(by cases h),fun _ => ?_⟩
     simp only [as_ (k3_ hl hr (iw_ h1 h2 hs)),aD_,ap_]
     cases go_ s m<;>simp [noCh,gA_,as_ (iB_ hl),ap_]
theorem FDo_len {c:Nat} {s:an_} {m:TMut} (h:dw_ c s) (hr:m.row.cells.length≤c):dw_ (c+1) (FDo s m):=by
 have hT:e0_ c (cB_ s m):=dx_ h.2.2 _
 refine ⟨Nat.le_succ_of_le h.1,by simp only [FDo,List.length_set];exact Nat.le_succ_of_le h.2.1,fun x hx => ?_⟩
 rcases List.mem_or_eq_of_mem_set hx with hx|rfl
 · exact (h.2.2 x hx).upto (Nat.le_succ _)
 · cases (m.kind != 3)
   · exact (jd_ hT).upto (Nat.le_succ _)
   · exact i9_ hT hr
theorem FDoCh_len {c:Nat} {s:an_} {m:TMut} (h:dw_ c s) (hr:m.row.cells.length≤c):oB_ c (dY_ s m):=by
 have hT:e0_ c (cB_ s m):=dx_ h.2.2 _
 refine ⟨?_,?_⟩
 · show (cond (m.kind != 1) _ gA_).cells.length≤c
   cases (m.kind != 1)
   · exact Nat.zero_le _
   · by_cases hi:(ca_ (cB_ s m) m.row.id_).toNat<(cB_ s m).length
     · exact hT.2 _ (bL_ _ hi)
     · simp only [cond_true];rw [List.getD_eq_getElem?_getD,List.getElem?_eq_none (by omega)];exact Nat.zero_le _
 · show (cond (m.kind != 3) m.row gA_).cells.length≤c
   cases (m.kind != 3)
   · exact Nat.zero_le _
   · exact hr
theorem gk_ {c:Nat} {s:an_} {m:TMut} (h:dw_ c s) (hr:m.row.cells.length≤c):dw_ (c+1) (d8_ s m).1∧oB_ c (d8_ s m).2.1:=by
 have z:oB_ c noCh:=⟨Nat.zero_le _,Nat.zero_le _⟩
 unfold d8_
 cases cC_ s
 · exact ⟨⟨Nat.zero_le _,Nat.zero_le _,fun x hx=>(by cases hx)⟩,z⟩
 · cases (d7_ s.schema m&&go_ s m)
   · exact ⟨h.upto (Nat.le_succ _),z⟩
   · exact ⟨FDo_len h hr,FDoCh_len h hr⟩
end Go.Pi
end
section
namespace Go.Pi
def el_:an_→List TMut→List aI_→Option (an_ × List aI_)
 |s,[],l=>some (s,l)
 |s,m::r,l=>cond (d8_ s m).2.2 (el_ (d8_ s m).1 r (l++[(d8_ s m).2.1])) none
def f5_ (s:an_):Option (an_ × List aI_)→an_ × List aI_ × Bool
 |some p=>(an_.mk p.1.schema (W (s.version+1)) p.1.tables,p.2,true)
 |none=>(s,[],false)
def cA_ (s:an_) (l:List TMut):an_ × List aI_ × Bool:=cond (cC_ s) (cond (inn (l.length:Int) 1 5 && !(s.version == 100000)) (f5_ s (el_ s l [])) (s,[],false)) (zeroSt,[],false)
def ln_ (c:Nat) (l:List TMut):Prop:=∀ m ∈ l,m.row.cells.length≤c
theorem ij_ {c:Nat} {s:an_} {l:List TMut} (hl:dw_ c s) (hm:ln_ c l) (hc:c+l.length≤1000000):Ev (fun n _=>bi_ n s l) (cA_ s l):=by
 have hcR:dw_ cX_ s:=hl.upto (by simp only [cX_];omega)
 have hC:=iB_ hcR
 refine aJ_ ?_
 simp only [bi_,dz_,as_ (ee_ (hcR.upto (show cX_≤bG_ by decide))),e5_,as_ hC,aD_,ap_]
 unfold cA_
 cases h1:cC_ s
 · exact ⟨fun _=>rfl,fun h=>(by cases h)⟩
 refine ⟨fun h=>(by cases h),fun _ => ?_⟩
 cases h2:inn (l.length:Int) 1 5
 · exact ⟨fun _=>rfl,fun h=>(by cases h)⟩
 refine ⟨fun h=>(by cases h),fun _ => ?_⟩
 cases h3:(s.version == 100000)
 · refine ⟨fun h=>(by cases h),fun _ => ?_⟩
   have key:∀ (m i:Nat) (t:an_) (o:List aI_),i+m=l.length→dw_ (c+i) t→o.length≤i →
     Ev (fun n N=>bi_.loop12 n (fun xy8 xy9 xy10 xy11 xy12 xy13 xy14 xy15=>(some ((an_.mk (au_.mk xy14) (W (xy9+1)) xy15),xy13,true))) N l (i:Int) s.schema.cols s.version s.tables 0 [] t.version o t.schema.cols t.tables) (f5_ s (el_ t (l.drop i) o)):=by
    intro m
    induction m with
    |zero=>
     intro i t o hi ht ho
     have e:i=l.length:=by omega
     subst e
     refine cc_ ?_
     simp only [bi_.turn12,bi_.step12,bZ_,cond_false,ap_,List.drop_length,el_,f5_]
    |succ m ih=>
     intro i t o hi ht ho
     have hlt:i<l.length:=by omega
     have hr:=hm _ (bL_ TMut.dflt hlt)
     have hD:=gS_ (m:=l.getD i TMut.dflt) (ht.upto (show c+i≤cX_ by simp only [cX_];omega)) (Nat.le_trans hr (by simp only [cX_];omega))
     have hW:=W_up hlt (show l.length≤bG_ by simp only [bG_];omega)
     have hn:=gk_ (m:=l.getD i TMut.dflt) ht (Nat.le_trans hr (Nat.le_add_right _ _))
     rw [dq_ TMut.dflt hlt]
     refine cc_ ?_
     simp only [bi_.turn12,bi_.step12,d3_,dz_,h4_,f6_,cw_ hlt,cond_true,bA_,cp_ hlt,true_and,Int.toNat_natCast,hW,as_ hD,aD_,ap_,as_ hC,ch_,el_]
     cases hq:(d8_ t (l.getD i TMut.dflt)).2.2
     · exact ⟨fun _=>rfl,fun h=>(by cases h)⟩
     · exact ⟨fun h=>(by cases h),fun _=>⟨by simp;omega,ih (i+1) _ _ (by omega) (by rw [←Nat.add_assoc];exact hn.1) (by simp;omega)⟩⟩
   exact d4_ (key l.length 0 s [] (by omega) hl (Nat.le_refl _))
 · exact ⟨fun _=>rfl,fun h=>(by cases h)⟩
theorem jf_ {c:Nat}:∀ {l:List TMut} {s:an_} {o:List aI_} {k:Nat},dw_ (c+k) s→ln_ c l→(∀ x ∈ o,oB_ (c+k) x)→∀ p,el_ s l o=some p→dw_ (c+k+l.length) p.1∧p.2.length=o.length+l.length∧∀ x ∈ p.2,oB_ (c+k+l.length) x
 |[],s,o,k,h,_,ho,p,e=>by cases e;exact ⟨h,rfl,ho⟩
 |m::r,s,o,k,h,hm,ho,p,e=>by
  unfold el_ at e
  cases hq:(d8_ s m).2.2<;>rw [hq] at e
  · cases e
  · have hr:=hm m (List.mem_cons_self ..)
    have hn:=gk_ (m:=m) h (Nat.le_trans hr (Nat.le_add_right _ _))
    have:=jf_ (l:=r) (k:=k+1) (by rw [←Nat.add_assoc];exact hn.1) (fun x hx=>hm x (List.mem_cons_of_mem _ hx)) (fun x hx=>by
     rcases List.mem_append.1 hx with hx|hx
     · exact ⟨Nat.le_succ_of_le (ho x hx).1,Nat.le_succ_of_le (ho x hx).2⟩
     · rw [List.mem_singleton.1 hx];exact ⟨Nat.le_succ_of_le hn.2.1,Nat.le_succ_of_le hn.2.2⟩) p e
    simp only [List.length_append,List.length_cons,List.length_nil] at this ⊢
    refine ⟨this.1.upto (by omega),by omega,fun x hx=>⟨Nat.le_trans (this.2.2 x hx).1 (by omega),Nat.le_trans (this.2.2 x hx).2 (by omega)⟩⟩
theorem l3_ {c:Nat} {s:an_} {l:List TMut} (h:dw_ c s) (hm:ln_ c l):dw_ (c+l.length) (cA_ s l).1∧(cA_ s l).2.1.length≤5∧∀ x ∈ (cA_ s l).2.1,oB_ (c+l.length) x:=by
 unfold cA_
 cases cC_ s
 · exact ⟨⟨Nat.zero_le _,Nat.zero_le _,fun x hx=>(by cases hx)⟩,Nat.zero_le _,fun x hx=>(by cases hx)⟩
 · cases h2:(inn (l.length:Int) 1 5 && !(s.version == 100000))
   · exact ⟨h.upto (Nat.le_add_right _ _),Nat.zero_le _,fun x hx=>(by cases hx)⟩
   · simp only [cond_true]
     cases hb:el_ s l [] with
     |none=>exact ⟨h.upto (Nat.le_add_right _ _),Nat.zero_le _,fun x hx=>(by cases hx)⟩
     |some p=>
      have:=jf_ (c:=c) (k:=0) (o:=[]) h hm (fun x hx=>(by cases hx)) p hb
      rw [Bool.and_eq_true] at h2
      have h5:=cS_.1 h2.1
      simp only [Nat.add_zero,List.length_nil,Nat.zero_add] at this
      exact ⟨this.1,by show p.2.length≤5;omega,this.2.2⟩
end Go.Pi
end
section
namespace Go.Pi
structure QIn (q:ae_):Prop where
 len:ku_ 1010 q
 show_:∀ x ∈ q.show_,0≤x∧x≤1000
theorem up1 {i:Nat} (h:i≤1000000):W ((i:Int)+1)=((i+1:Nat):Int):=by rw [Wn (by omega) (by omega)];rfl
theorem l9loop7 {K:Nat→af_.K7} {P:ae_ × aw_→Prop} {t6 t30 t40 t42 t43 t44 t46 t47 t48 t50 t52 t53 t54 t56 t57 t58} (hK:∀ c o,DwOk c→o.length≤3→Ans (fun n _=>K n t6 c.b c.i c.h t30 t40 t42 t43 t44 t46 t47 t48 t50 t52 t53 t54 t56 t57 t58 o) P) {c:aw_} (hc:DwOk c) :
  Ans (fun n _=>af_.loop7 n (K n) n t6 0 c.b c.i c.h t30 t40 t42 t43 t44 t46 t47 t48 t50 t52 t53 t54 t56 t57 t58 []) P:=by
 have key:∀ (m i:Nat) (c:aw_) (o:List aY_),i+m=3→DwOk c→o.length=i→Ans (fun n N=>af_.loop7 n (K n) N t6 (i:Int) c.b c.i c.h t30 t40 t42 t43 t44 t46 t47 t48 t50 t52 t53 t54 t56 t57 t58 o) P:=by
  intro m
  induction m with
  |zero=>
   intro i c o hi hc ho
   refine bY_ ?_
   simp only [af_.turn7,af_.step7,b5_]
   refine a4_ (a9_ hc) fun r hr => ?_
   have h1:=hr.lo;have h2:=hr.hi
   rw [decide_eq_false (by omega)]
   simp only [cond_false]
   exact hK _ _ hr.cur (by omega)
  |succ m ih=>
   intro i c o hi hc ho
   refine bY_ ?_
   simp only [af_.turn7,af_.step7,b5_]
   refine a4_ (a9_ hc) fun r hr => ?_
   simp only [cu_]
   refine ⟨fun _=>a4_ (a9_ hr.cur) fun r2 h2=>a4_ (a9_ h2.cur) fun r3 h3=>a4_ (a9_ h3.cur) fun r4 h4 => ?_,fun _=>hK _ _ hr.cur (by omega)⟩
   simp only [ek_,up1 (show i≤1000000 by omega)]
   exact ⟨by simp;omega,ih (i+1) r4.2 _ (by omega) h4.cur (by simp;omega)⟩
 exact dF_ (key 3 0 c [] rfl hc rfl)
theorem l9loop16 {K:Nat→af_.K16} {P:ae_ × aw_→Prop} {t6 t30 t40 t42 t43 t44 t46 t47 t48 t50 t52 t53 t54 t56 t57 t58 t51} (h6:t6≤1000) (hK:∀ c o,DwOk c→o.length≤1000→(∀ x ∈ o,0≤x∧x≤1000)→Ans (fun n _=>K n c.b c.i c.h t30 t40 t42 t43 t44 t46 t47 t48 t50 t52 t53 t54 t56 t57 t58 t51 o) P) {c:aw_} (hc:DwOk c) :
  Ans (fun n _=>af_.loop16 n (K n) n t6 0 c.b c.i c.h t30 t40 t42 t43 t44 t46 t47 t48 t50 t52 t53 t54 t56 t57 t58 t51 []) P:=by
 have key:∀ (m i:Nat) (c:aw_) (o:List Int),i+m=1000→DwOk c→o.length≤i→(∀ x ∈ o,0≤x∧x≤1000)→Ans (fun n N=>af_.loop16 n (K n) N t6 (i:Int) c.b c.i c.h t30 t40 t42 t43 t44 t46 t47 t48 t50 t52 t53 t54 t56 t57 t58 t51 o) P:=by
  intro m
  induction m with
  |zero=>
   intro i c o hi hc ho hx
   refine bY_ ?_
   simp only [af_.turn16,af_.step16,b5_]
   rw [decide_eq_false (by omega)]
   simp only [cond_false]
   exact hK _ _ hc (by omega) hx
  |succ m ih=>
   intro i c o hi hc ho hx
   refine bY_ ?_
   simp only [af_.turn16,af_.step16,b5_,cu_]
   refine ⟨fun _=>a4_ (er_ hc) fun r hr => ?_,fun _=>hK _ _ hc (by omega) hx⟩
   simp only [cu_,ek_,up1 (show i≤1000000 by omega)]
   refine ⟨fun _=>⟨by simp;omega,ih (i+1) r.2 _ (by omega) hr (by simp;omega) fun x hx' => ?_⟩,fun _=>ih (i+1) r.2 _ (by omega) hr (by omega) hx⟩
   rcases List.mem_append.1 hx' with h|h
   · exact hx x h
   · rw [List.mem_singleton.1 h];omega
 exact dF_ (key 1000 0 c [] rfl hc (Nat.le_refl _) fun x hx=>(by cases hx))
theorem iz_ {c:aw_} {s:au_} (hc:DwOk c) (hs:∀ x ∈ s.cols,x≤1000):Ans (fun n _=>af_ n c s) fun r=>QIn r.1∧DwOk r.2:=by
 have hg:∀ i,s.cols.getD i 0≤1000:=fun i=>by
  by_cases hi:i<s.cols.length
  · exact hs _ (bL_ _ hi)
  · rw [List.getD_eq_getElem?_getD,List.getElem?_eq_none (by omega)];decide
 have hm:∀ i,max (s.cols.getD i 0) 1≤1000:=fun i=>by have:=hg i;omega
 refine da_ ?_
 simp only [af_]
 repeat' (first
  |(rw [cn_ df_])
  |(refine a4_ (a9_ (by assumption)) fun _ hd => ?_;obtain ⟨_,_,_⟩:=hd)
  |(refine a4_ (er_ (by assumption)) fun _ _ => ?_)
  |(refine a4_ (eM_ (by assumption) (by simp)) fun _ hd => ?_;obtain ⟨_,_⟩:=hd)
  |(with_reducible refine cu_.2 ⟨fun _ => ?_,fun _ => ?_⟩)
  |(with_reducible refine eF_.2 ⟨⟨?_,?_⟩,?_⟩)
  |(refine l9loop7 (fun _ _ _ _ => ?_) (by assumption))
  |(refine l9loop16 (by first|exact hm _|decide) (fun _ _ _ _ _ => ?_) (by assumption))
  |((with_reducible refine b3_.2 ?_);refine ⟨⟨⟨?_,?_⟩,?_⟩,?_⟩))
 all_goals (first|assumption|(simp only [decide_eq_true_eq] at *;assumption)|(refine Nat.le_trans ?_ (show 3≤1010 by decide);assumption)|(refine Nat.le_trans ?_ (show 1000≤1010 by decide);assumption))
theorem kw_ {k:Nat} {c:aw_} {s:an_} (hc:DwOk c) (hs:StIn k s):Ans (fun n _=>cH_ n c s) fun r=>r.1.row.cells.length≤1000∧DwOk r.2:=by
 refine da_ ?_
 simp only [cH_]
 repeat' (first
  |(rw [cn_ df_])
  |(refine a4_ (a9_ (by assumption)) fun _ hd => ?_;obtain ⟨_,_,_⟩:=hd)
  |(refine a4_ (er_ (by assumption)) fun _ _ => ?_)
  |(refine a4_ (eM_ (by assumption) (by simp)) fun _ hd => ?_;obtain ⟨_,_⟩:=hd)
  |(refine a4_ (gY_ (by assumption) (hs.getD _)) fun _ hd => ?_;obtain ⟨_,_⟩:=hd)
  |(with_reducible refine cu_.2 ⟨fun _ => ?_,fun _ => ?_⟩)
  |(with_reducible refine eF_.2 ⟨⟨?_,?_⟩,?_⟩)
  |(with_reducible refine b3_.2 ⟨?_,by assumption⟩))
 all_goals (first|assumption|exact Nat.zero_le _|(simp only [decide_eq_true_eq,decide_eq_false_iff_not] at *;omega))
theorem FMutDo_in {k:Nat} {s:an_} {m:TMut} (h:StIn k s) (hr:m.row.cells.length≤k):StIn (k+1) (d8_ s m).1:=by
 refine ⟨(gk_ h.len hr).1,?_⟩
 unfold d8_
 cases cC_ s
 · exact fun x hx=>(by cases hx)
 · cases (d7_ s.schema m&&go_ s m)<;>exact h.col
end Go.Pi
end
section
namespace Go.Pi
def FPut (q:ae_) (rows:List TRow) (r:TRow):List TRow:=rows.take (rows.findIdx (fun x=>bB_ q r x))++[r]++rows.drop (rows.findIdx (fun x=>bB_ q r x))
theorem take_mid {α:Type} (d:α) {a m:List α} {i p:Nat} (hi:i<a.length) (h:p≤i):a.take p++m++(a.take (i+1)).drop p=a.take p++m++(a.take i).drop p++[a.getD i d]:=by
 rw [dm_ d hi,List.drop_append_of_le_length (by simp;omega)]
 simp
theorem ahead_idx {q:ae_} {r:TRow} {rows:List TRow} {i:Nat} (hi:i<rows.length) (hle:i≤rows.findIdx (fun x=>bB_ q r x)):bB_ q r (rows.getD i TRow.dflt)=decide (i=rows.findIdx (fun x=>bB_ q r x)):=by
 rw [List.getD_eq_getElem?_getD,List.getElem?_eq_getElem hi,Option.getD_some]
 by_cases h:i=rows.findIdx (fun x=>bB_ q r x)
 · rw [decide_eq_true h]
   have:=List.findIdx_getElem (xs:=rows) (p:=fun x=>bB_ q r x) (w:=by omega)
   simp only [←h] at this
   exact this
 · rw [decide_eq_false h]
   have:=List.not_of_lt_findIdx (xs:=rows) (p:=fun x=>bB_ q r x) (i:=i) (by omega)
   simpa using this
theorem jl_ {q:ae_} {rows:List TRow} {r:TRow} (h:e0_ cX_ rows) (hr:r.cells.length≤cX_):Ev (fun n _=>bt_ n q rows r) (FPut q rows r):=by
 refine aJ_ ?_
 have hl:=h.1
 simp only [cX_] at hl
 have ht:rows.length≤bG_:=by simp only [bG_];omega
 have hrt:r.cells.length≤bG_:=by simp only [bG_];simp only [cX_] at hr;omega
 simp only [bt_]
 have e0:∀ r:TRow,TRow.mk r.id_ r.cells=r:=fun _=>rfl
 have hA:∀ (x:TRow) (g:Nat→Nat→Bool→Option (List TRow)) (v:List TRow),x.cells.length≤bG_→(Ev (fun n N=>(dB_ n (ae_.mk q.table q.where_ q.order q.down q.first q.show_ q.kids q.kidTable q.kidCol) r x).bind (g n N)) v↔Ev (fun n N=>g n N (bB_ q r x)) v):=fun x g v hx=>as_ (kh_ hrt hx)
 obtain ⟨p,hp⟩:∃ p,p=rows.findIdx (fun x=>bB_ q r x):=⟨_,rfl⟩
 have hpl:p≤rows.length:=by rw [hp];exact List.findIdx_le_length
 let S:Nat→Bool × List TRow:=fun i=>if i≤p then (false,rows.take i) else (true,rows.take p++[r]++(rows.take i).drop p)
 have hS0:S 0=(false,[]):=by simp [S]
 have:=g9_ S rows.length (fun n N i (s:Bool × List TRow)=>bt_.loop5 n (fun xy3 xy4 xy5 xy6=>(cond (!xy3) ((bT_ n (TRow.mk xy4 xy5)).bind fun xr7=>(cl_ (xy6.length+([xr7]:List TRow).length) 32 (some (xy6++([xr7]:List TRow))))) (some xy6))) N rows s.1 (i:Int) q.table q.where_ q.order q.down q.first q.show_ q.kids q.kidTable q.kidCol r.id_ r.cells s.2) (FPut q rows r) (fun i hi F hF => ?_) ?_
 · rw [hS0] at this;exact this
 · simp only [bt_.turn5,bt_.step5,Int.toNat_natCast,W_up hi ht,e0]
   have hx:=ahead_idx (q:=q) (r:=r) hi
   rw [←hp] at hx
   have hlt:(S i).2.length≤rows.length+1:=by simp only [S];split<;>simp<;>omega
   simp only [aD_,bA_,hA _ _ _ (dC_ (rows:=rows) ⟨ht,fun x hx=>by have:=h.2 x hx;simp only [cX_] at this;simp only [bG_];omega⟩ i),e4_ hr,ch_,cw_ hi,cp_ hi]
   refine ⟨fun _=>⟨fun hn=>⟨trivial,fun ha=>⟨by simp;omega,trivial,by simp;omega,?_⟩,fun ha=>⟨trivial,by simp;omega,?_⟩⟩,fun hn=>⟨trivial,by simp;omega,?_⟩⟩,fun h=>by cases h⟩
   all_goals (by_cases hle:i≤p)
   · have e:i=p:=by rw [hx hle] at ha;exact of_decide_eq_true ha
     subst e
     simp only [S,if_neg (show ¬ i+1≤i by omega),if_pos (Nat.le_refl i),dm_ TRow.dflt hi,List.drop_append_of_le_length (show i≤(rows.take i).length by simp;omega),List.drop_eq_nil_of_le (show (rows.take i).length≤i by simp;omega),List.nil_append] at hF ⊢
     exact hF
   · simp only [S,if_neg hle] at hn;cases hn
   · have e:i≠p:=by rw [hx hle] at ha;exact of_decide_eq_false ha
     simp only [S,if_pos hle,if_pos (show i+1≤p by omega),dm_ TRow.dflt hi] at hF ⊢
     exact hF
   · simp only [S,if_neg hle] at hn;cases hn
   · simp only [S,if_pos hle] at hn;cases hn
   · simp only [S,if_neg hle,if_neg (show ¬ i+1≤p by omega),take_mid TRow.dflt hi (show p≤i by omega)] at hF ⊢
     exact hF
 · simp only [bt_.turn5,bt_.step5,bZ_,cond_false,e0,aD_,e4_ hr,ch_,ap_]
   unfold FPut
   rw [←hp]
   by_cases hle:rows.length≤p
   · have e:rows.length=p:=by omega
     simp only [S,if_pos hle,←e]
     simp;omega
   · simp only [S,if_neg hle]
     simp
theorem idx_getD (q:ae_) (r:TRow) (rows:List TRow):(if rows.findIdx (fun x=>bB_ q r x)<rows.length then ((rows.findIdx (fun x=>bB_ q r x):Nat):Int) else -1)<0↔rows.findIdx (fun x=>bB_ q r x)=rows.length:=by
 have:=List.findIdx_le_length (xs:=rows) (p:=fun x=>bB_ q r x)
 split<;>omega
theorem gt_ {q:ae_} {rows:List TRow} {r:TRow} (h:e0_ cX_ rows) (hr:r.cells.length≤cX_):Ev (fun n _=>dk_ n q rows r) (FPut q rows r):=by
 refine aJ_ ?_
 have hl:=h.1
 simp only [cX_] at hl
 have ht:rows.length≤bG_:=by simp only [bG_];omega
 have hrt:r.cells.length≤bG_:=by simp only [bG_];simp only [cX_] at hr;omega
 have e0:∀ r:TRow,TRow.mk r.id_ r.cells=r:=fun _=>rfl
 have hA:∀ (x:TRow),x.cells.length≤bG_→Ev (fun n _=>cI_ n x q.table q.where_ q.order q.down q.first q.show_ q.kids q.kidTable q.kidCol r.id_ r.cells) (bB_ q r x):=fun x hx=>
  aJ_ (by simp only [cI_,e0,as_ (fw_ (q:=q) hrt hx),ap_])
 have hI:Ev (fun n _=>ah_ n rows q.table q.where_ q.order q.down q.first q.show_ q.kids q.kidTable q.kidCol r.id_ r.cells) (if rows.findIdx (fun x=>bB_ q r x)<rows.length then ((rows.findIdx (fun x=>bB_ q r x):Nat):Int) else -1):=by
  refine aJ_ ?_
  rw [←eA_ TRow.dflt]
  simp only [ah_]
  refine gG_ (fun n N i=>ah_.loop3 n (some (-1)) N rows q.table q.where_ q.order q.down q.first q.show_ q.kids q.kidTable q.kidCol r.id_ r.cells (rows.length:Int) (i:Int)) _ (fun i u hi ih => ?_) ?_
  · simp only [ah_.turn3,ah_.step3,Int.toNat_natCast,W_up hi ht,aD_,bA_,as_ (hA _ (dC_ (rows:=rows) ⟨ht,fun x hx=>by have:=h.2 x hx;simp only [cX_] at this;simp only [bG_];omega⟩ i)),ap_,cF_ ih,cw_ hi,cp_ hi]
    clear ih
    grind
  · simp only [ah_.turn3,ah_.step3,bZ_,cond_false,ap_]
 have hp:=List.findIdx_le_length (xs:=rows) (p:=fun x=>bB_ q r x)
 have hN:∀ i:Nat,i≤rows.length→Ev (fun n _=>bK_ n rows (i:Int) [r]) (rows.take i++[r]++rows.drop i):=fun i hi=>by
  refine aJ_ ?_
  simp only [bK_,eS_,aD_,ap_,ej_,Int.toNat_natCast]
  simp;omega
 simp only [dk_,as_ hI,aD_,ap_,as_ (eV_ h),fi_ hr,as_ (hN rows.length (Nat.le_refl _)),decide_eq_true_eq,decide_eq_false_iff_not,idx_getD]
 refine ⟨fun e => ?_,fun e => ?_⟩
 · unfold FPut;rw [e]
 · rw [if_pos (by omega)]
   simp only [as_ (hN _ hp),ap_]
   rfl
end Go.Pi
end
section
namespace Go.Pi
def eh_ (kids:List TKid) (id:Int):Nat:=kids.findIdx (fun k=>decide (k.id_≥id))
def gZ_ (k:TKid) (id by_:Int):List TKid :=
 cond (k.id_ == id) (cond (decide (W (k.n_+by_) > 0)) [TKid.mk id (W (k.n_+by_))] []) (cond (decide (by_ > 0)) [TKid.mk id by_,k] [k])
def FKid (kids:List TKid) (id by_:Int):List TKid :=
 cond (decide (eh_ kids id<kids.length)) (kids.take (eh_ kids id)++gZ_ (kids.getD (eh_ kids id) TKid.dflt) id by_++kids.drop (eh_ kids id+1)) (cond (decide (by_ > 0)) (kids++[TKid.mk id by_]) kids)
theorem ml_ {kids:List TKid} {id:Int} {i:Nat} (hi:i<kids.length) (hle:i≤eh_ kids id):((kids.getD i TKid.dflt).id_≥id↔i=eh_ kids id)∧((kids.getD i TKid.dflt).id_<id↔i≠eh_ kids id):=by
 have key:(kids.getD i TKid.dflt).id_≥id↔i=eh_ kids id:=by
  rw [List.getD_eq_getElem?_getD,List.getElem?_eq_getElem hi,Option.getD_some]
  unfold eh_ at hle ⊢
  constructor
  · intro h
    refine Classical.byContradiction fun hne => ?_
    have:=List.not_of_lt_findIdx (xs:=kids) (p:=fun k=>decide (k.id_≥id)) (i:=i) (by omega)
    rw [decide_eq_true h] at this;cases this
  · intro h
    have:=List.findIdx_getElem (xs:=kids) (p:=fun k=>decide (k.id_≥id)) (w:=by omega)
    simp only [←h] at this
    exact of_decide_eq_true this
 exact ⟨key,fun h e=>by have:=key.2 e;omega,fun h=>by have:=fun g=>h (key.1 g);omega⟩
theorem ho_ (k:TKid) (id by_:Int):(gZ_ k id by_).length≤2:=by
 unfold gZ_
 cases (k.id_ == id)<;>simp only [cond_true,cond_false]
 · cases decide (by_ > 0)<;>simp
 · cases decide (W (k.n_+by_) > 0)<;>simp
theorem take_midK {a m:List TKid} {i p:Nat} (hi:i<a.length) (h:p+1≤i):a.take p++m++(a.take (i+1)).drop (p+1)=a.take p++m++(a.take i).drop (p+1)++[a.getD i TKid.dflt]:=by
 rw [dm_ TKid.dflt hi,List.drop_append_of_le_length (by simp;omega)]
 simp
theorem jo_ {kids:List TKid} {id by_:Int} (h:kids.length≤cX_):Ev (fun n _=>bv_ n kids id by_) (FKid kids id by_):=by
 refine aJ_ ?_
 have hl:=h
 simp only [cX_] at hl
 have ht:kids.length≤bG_:=by simp only [bG_];omega
 simp only [bv_]
 obtain ⟨p,hp⟩:∃ p,p=eh_ kids id:=⟨_,rfl⟩
 have hpl:p≤kids.length:=by rw [hp];exact List.findIdx_le_length
 obtain ⟨m,hm⟩:∃ m,m=gZ_ (kids.getD p TKid.dflt) id by_:=⟨_,rfl⟩
 have hml:m.length≤2:=by rw [hm];exact ho_ _ _ _
 let S:Nat→Bool × List TKid:=fun i=>if i≤p then (false,kids.take i) else (true,kids.take p++m++(kids.take i).drop (p+1))
 have hS0:S 0=(false,[]):=by simp [S]
 have:=g9_ S kids.length (fun n N i (s:Bool × List TKid)=>bv_.loop5 n (fun xy1 xy2 xy3 xy4=>(cond (!xy3) (cond (decide (xy2 > 0)) (cl_ (xy4.length+([(TKid.mk xy1 xy2)]:List TKid).length) 16 (some (xy4++([(TKid.mk xy1 xy2)]:List TKid)))) (some xy4)) (some xy4))) N kids id by_ s.1 (i:Int) s.2) (FKid kids id by_) (fun i hi F hF => ?_) ?_
 · rw [hS0] at this;exact this
 · have hx:=ml_ (kids:=kids) (id:=id) hi
   rw [←hp] at hx
   have hlt:(S i).2.length≤kids.length+2:=by simp only [S];split<;>simp<;>omega
   obtain ⟨k,hk⟩:∃ k,k=kids.getD i TKid.dflt:=⟨_,rfl⟩
   simp only [bv_.turn5,bv_.step5,Int.toNat_natCast,W_up hi ht,aD_,bA_,ch_,cw_ hi,cp_ hi,←hk]
   refine ⟨fun _=>⟨trivial,?_⟩,fun h=>by cases h⟩
   by_cases hle:i≤p
   · have s1:S i=(false,kids.take i):=by simp only [S,if_pos hle]
     rw [s1] at hlt ⊢
     by_cases e:i=p
     · have hge:k.id_≥id:=by rw [hk];exact (hx hle).1.2 e
       subst e
       have s2:S (i+1)=(true,kids.take i++m):=by
        simp only [S,if_neg (show ¬ i+1≤i by omega)]
        rw [List.drop_eq_nil_of_le (by simp;omega),List.append_nil]
       rw [s2,hm,←hk] at hF
       unfold gZ_ at hF
       simp only [hge,decide_true,Bool.not_false,cond_true] at hF ⊢
       cases h1:(k.id_ == id)<;>cases h2:decide (by_ > 0)<;>cases h3:decide (W (k.n_+by_) > 0)<;>simp only [h1,h2,h3,cond_true,cond_false] at hF ⊢
       all_goals (repeat' (first|apply And.intro|intro _))
       all_goals (first|contradiction|exact hF|(simpa using hF)|(simp;omega))
     · have hlt2:¬ k.id_≥id:=by rw [hk];exact fun h=>e ((hx hle).1.1 h)
       have s2:S (i+1)=(false,kids.take i++[k]):=by
        simp only [S,if_pos (show i+1≤p by omega),hk,dm_ TKid.dflt hi]
       rw [s2] at hF
       simp only [hlt2,decide_false]
       repeat' (first|apply And.intro|intro _)
       all_goals (first|contradiction|exact hF|(simpa using hF)|(simp;omega))
   · have s1:S i=(true,kids.take p++m++(kids.take i).drop (p+1)):=by simp only [S,if_neg hle]
     have s2:S (i+1)=(true,kids.take p++m++(kids.take i).drop (p+1)++[k]):=by
      simp only [S,if_neg (show ¬ i+1≤p by omega),hk]
      rw [take_midK hi (by omega)]
     rw [s1] at hlt ⊢
     rw [s2] at hF
     repeat' (first|apply And.intro|intro _)
     all_goals (first|contradiction|exact hF|(simp at hlt ⊢;omega))
 · simp only [bv_.turn5,bv_.step5,bZ_,cond_false,aD_,ch_,ap_]
   unfold FKid
   rw [←hp,←hm]
   by_cases hle:kids.length≤p
   · have e:p=kids.length:=by omega
     have s1:S kids.length=(false,kids):=by simp only [S,if_pos hle,List.take_length]
     rw [s1,decide_eq_false (show ¬ p<kids.length by omega)]
     simp only [cond_false]
     refine ⟨fun _=>⟨fun h=>⟨by simp;omega,by rw [h];rfl⟩,fun h=>by rw [h];rfl⟩,fun h=>by cases h⟩
   · have s1:S kids.length=(true,kids.take p++m++kids.drop (p+1)):=by simp only [S,if_neg hle,List.take_length]
     rw [s1,decide_eq_true (show p<kids.length by omega)]
     exact ⟨fun h=>(by cases h),fun _=>rfl⟩
theorem ex_ {kids:List TKid} {id by_:Int} (h:kids.length≤cX_):Ev (fun n _=>aN_ n kids id by_) (FKid kids id by_):=by
 refine aJ_ ?_
 have hl:=h
 simp only [cX_] at hl
 have ht:kids.length≤bG_:=by simp only [bG_];omega
 simp only [aN_,ch_,List.nil_append,List.length_nil,Nat.zero_add]
 refine ⟨by omega,?_⟩
 obtain ⟨p,hp⟩:∃ p,p=eh_ kids id:=⟨_,rfl⟩
 have hpl:p≤kids.length:=by rw [hp];exact List.findIdx_le_length
 have hN:∀ i:Nat,i≤kids.length→∀ k,Ev (fun n _=>b7_ n kids (i:Int) [k]) (kids.take i++[k]++kids.drop i):=fun i hi k=>by
  refine aJ_ ?_
  simp only [b7_,eS_,aD_,ap_,ej_,Int.toNat_natCast]
  simp;omega
 have hD:∀ (l:List TKid) (i:Nat),i<l.length→l.length≤bG_→Ev (fun n _=>b8_ n l (i:Int) (W ((i:Int)+1))) (l.take i++l.drop (i+1)):=fun l i hi hl=>by
  refine aJ_ ?_
  rw [W_up hi hl]
  simp only [b8_,hn_,aD_,ap_,ej_,Int.toNat_natCast]
  simp;omega
 refine g9_ (fun _=>()) p (fun n N i (_:Unit)=>aN_.loop4 n _ N id by_ (i:Int) kids) _ (fun i hi F hF => ?_) ?_
 · have hx:=ml_ (kids:=kids) (id:=id) (i:=i) (by omega) (by omega)
   rw [←hp] at hx
   have hlt:=hx.2.2 (by omega)
   simp only [aN_.turn4,aN_.step4,Int.toNat_natCast,W_up (show i<kids.length by omega) ht,aD_,bA_,cw_ (show i<kids.length by omega),cp_ (show i<kids.length by omega),hlt,decide_true]
   exact ⟨fun _=>⟨trivial,fun _=>hF,fun h=>by cases h⟩,fun h=>by cases h⟩
 · unfold FKid
   rw [←hp]
   have hstep:∀ (n N:Nat),aN_.loop4 n=aN_.loop4 n:=fun _ _=>rfl
   by_cases hlt:p<kids.length
   · have hx:=(ml_ (kids:=kids) (id:=id) (i:=p) hlt (by omega)).2
     rw [←hp] at hx
     have hge:¬ (kids.getD p TKid.dflt).id_<id:=fun h=>absurd rfl (hx.1 h)
     obtain ⟨k,hk⟩:∃ k,k=kids.getD p TKid.dflt:=⟨_,rfl⟩
     have hset:∀ x:TKid,(kids.set p x).getD p TKid.dflt=x:=fun x=>getD_put TKid.dflt hlt x
     have hst:∀ x:TKid,(kids.set p x).take p=kids.take p:=fun x=>List.take_set_of_le (Nat.le_refl p)
     have hsd:∀ x:TKid,(kids.set p x).drop (p+1)=kids.drop (p+1):=fun x=>List.drop_set_of_lt (by omega)
     have hsl:∀ x:TKid,(kids.set p x).length=kids.length:=fun x=>List.length_set
     have hs2:∀ x:TKid,kids.set p x=kids.take p++[x]++kids.drop (p+1):=fun x=>by rw [List.set_eq_take_append_cons_drop,if_pos hlt];simp
     have hd:kids.drop p=k::kids.drop (p+1):=by rw [hk];exact dq_ TKid.dflt hlt
     have hDx:∀ x,Ev (fun n _=>b8_ n (kids.set p x) (p:Int) (W ((p:Int)+1))) (kids.take p++kids.drop (p+1)):=fun x=>by
      have:=hD (kids.set p x) p (by rw [hsl];exact hlt) (by rw [hsl];exact ht)
      rwa [hst,hsd] at this
     have hne:((p:Int) == (kids.length:Int))=false:=by simp;omega
     simp only [aN_.turn4,aN_.step4,Int.toNat_natCast,aD_,bA_,cw_ hlt,cp_ hlt,hge,decide_false,hne,ap_,←hk,hset,hsl,as_ (hN p hpl _),as_ (hDx _),decide_eq_true (show p<kids.length from hlt),cond_true,hd]
     unfold gZ_
     cases h1:(k.id_ == id)<;>cases h2:decide (by_ > 0)<;>cases h3:decide (W (k.n_+by_) > 0)<;>simp only [cond_true,cond_false]
     all_goals (repeat' (first|apply And.intro|intro _))
     all_goals (try contradiction)
     all_goals (simp_all<;>omega)
   · have e:p=kids.length:=by omega
     subst e
     simp only [aN_.turn4,aN_.step4,bZ_,cond_false,aD_,ap_,as_ (hN kids.length (Nat.le_refl _) _),beq_self_eq_true,decide_eq_false hlt,List.take_length,List.drop_length,List.append_nil]
     cases h2:decide (by_ > 0)<;>simp only [cond_true,cond_false]
     all_goals (repeat' (first|apply And.intro|intro _))
     all_goals (try contradiction)
     all_goals (simp_all<;>omega)
end Go.Pi
end
section
namespace Go.Pi
theorem kt_.upto {c d:Nat} {v:bd_} (h:kt_ c v) (hc:c≤d):kt_ d v:=⟨⟨Nat.le_trans h.1.1 hc,Nat.le_trans h.1.2 hc⟩,h.2.1.upto hc,Nat.le_trans h.2.2 hc⟩
section
variable {β:Type}
theorem l9Copy_b {q:ae_} (h:ku_ cX_ q) {g:Nat→Nat→ae_→Option β} {v:β}:Ev (fun n N=>(ds_ n q).bind (g n N)) v↔Ev (fun n N=>g n N q) v :=
 as_ (aJ_ (by have h1:=h.1;have h2:=h.2;simp only [cX_] at h1 h2;simp only [ds_,ch_,ap_,List.nil_append,and_true,List.length_nil];omega))
theorem iS_ {q:ae_} (h:ku_ cX_ q) {g:Nat→Nat→ae_→Option β} {v:β}:Ev (fun n N=>(cr_ n q).bind (g n N)) v↔Ev (fun n N=>g n N q) v :=
 as_ (aJ_ (by have h1:=h.1;have h2:=h.2;simp only [cX_] at h1 h2;simp only [cr_,hx_ h.2,ch_,ap_,List.nil_append,and_true,List.length_nil];omega))
theorem j7_ {x:bd_} (h:kt_ cX_ x) {g:Nat→Nat→bd_→Option β} {v:β}:Ev (fun n N=>(cK_ n x).bind (g n N)) v↔Ev (fun n N=>g n N x) v :=
 as_ (aJ_ (by have h1:=h.2.2;simp only [cX_] at h1;simp only [cK_,iS_ h.1,as_ (eV_ h.2.1),ch_,ap_,List.nil_append,and_true,List.length_nil];omega))
end
def i4_ (v:bd_) (c:aI_):List TRow :=
 cond (c.table == v.q.table) (cond (c.has&&cj_ v.q c.new) (FPut v.q (cond c.had (d9_ v.rows c.old.id_) v.rows) c.new) (cond c.had (d9_ v.rows c.old.id_) v.rows)) v.rows
def i5_ (v:bd_) (c:aI_):List TKid :=
 cond (v.q.kids&&(c.table == v.q.kidTable)) (cond c.has (FKid (cond c.had (FKid v.kids (dD_ c.old v.q.kidCol) (-1)) v.kids) (dD_ c.new v.q.kidCol) 1) (cond c.had (FKid v.kids (dD_ c.old v.q.kidCol) (-1)) v.kids)) v.kids
def f4_ (v:bd_) (c:aI_):bd_:=⟨v.q,i4_ v c,i5_ v c⟩
theorem kW_ {c:Nat} {q:ae_} {rows:List TRow} {r:TRow} (h:e0_ c rows) (hr:r.cells.length≤c):e0_ (c+1) (FPut q rows r):=by
 unfold FPut
 refine ⟨by have:=h.1;simp;omega,fun x hx => ?_⟩
 rcases List.mem_append.1 hx with hx|hx
 · rcases List.mem_append.1 hx with hx|hx
   · exact Nat.le_succ_of_le (h.2 x (List.mem_of_mem_take hx))
   · rw [List.mem_singleton.1 hx];omega
 · exact Nat.le_succ_of_le (h.2 x (List.mem_of_mem_drop hx))
theorem h9_ {kids:List TKid} {id by_:Int}:(FKid kids id by_).length≤kids.length+1:=by
 unfold FKid
 have:=ho_ (kids.getD (eh_ kids id) TKid.dflt) id by_
 by_cases h:eh_ kids id<kids.length
 · rw [decide_eq_true h,cond_true];simp only [List.length_append,List.length_take,List.length_drop];omega
 · rw [decide_eq_false h];cases decide (by_ > 0)<;>simp
theorem g5_ {c:Nat} {v:bd_} {x:aI_} (h:kt_ c v) (hx:oB_ c x) (hc:c+1≤cX_):Ev (fun n _=>ct_ n v x) (f4_ v x):=by
 refine aJ_ ?_
 have hv:=h.upto (show c≤cX_ by omega)
 have hd:=jd_ (id:=x.old.id_) hv.2.1
 have hr:x.new.cells.length≤cX_:=by have:=hx.2;omega
 have hk:=hv.2.2
 have hk2:∀ id b,(FKid v.kids id b).length≤cX_:=fun id b=>by have:=h9_ (kids:=v.kids) (id:=id) (by_:=b);have:=h.2.2;omega
 simp only [ct_,j7_ hv,aD_,as_ (fV_ (id:=x.old.id_) hv.2.1),as_ (eT_ (q:=v.q) (r:=x.new) (d2_ hv.1.1 (Nat.le_refl _)) (d2_ hr (Nat.le_refl _))),as_ (gt_ (q:=v.q) (r:=x.new) hd hr),as_ (gt_ (q:=v.q) (r:=x.new) hv.2.1 hr),
  as_ (f0_ (r:=x.old) (col:=v.q.kidCol) (d2_ hx.1 (by omega))),as_ (f0_ (r:=x.new) (col:=v.q.kidCol) (d2_ hx.2 (by omega))),
  as_ (ex_ (kids:=v.kids) (id:=dD_ x.old v.q.kidCol) (by_:=-1) hk),as_ (ex_ (kids:=v.kids) (id:=dD_ x.new v.q.kidCol) (by_:=1) hk),as_ (ex_ (id:=dD_ x.new v.q.kidCol) (by_:=1) (hk2 (dD_ x.old v.q.kidCol) (-1))),ap_]
 unfold f4_ i4_ i5_
 cases h1:(x.table == v.q.table)<;>cases h2:x.had<;>cases h3:x.has<;>cases h4:cj_ v.q x.new<;>cases h5:v.q.kids<;>cases h6:(x.table == v.q.kidTable)<;>simp
end Go.Pi
end
section
namespace Go.Pi
def dl_ (q:ae_) (o:List TRow) (rows:List TRow):List TRow:=rows.foldl (fun o r=>cond (cj_ q r) (FPut q o r) o) o
def FSQ (s:an_) (q:ae_):Bool:=cC_ s&&dX_ s.schema q
def d1_ (s:an_) (q:ae_):List TRow:=cond (FSQ s q) (dl_ q [] (s.tables.getD q.table.toNat [])) []
def db_ (q:ae_) (k:List TKid) (rows:List TRow):List TKid:=rows.foldl (fun k r=>FKid k (r.cells.getD q.kidCol.toNat 0) 1) k
def h8_ (s:an_) (q:ae_):List TKid:=cond q.kids (db_ q [] (s.tables.getD q.kidTable.toNat [])) []
def zeroQ:ae_:=ae_.mk 0 [] 0 false 0 [] false 0 0
def zeroV:bd_:=bd_.mk zeroQ [] []
def hB_ (s:an_) (q:ae_):bd_ × Bool:=cond (FSQ s q) (bd_.mk q (d1_ s q) (h8_ s q),true) (zeroV,false)
theorem d6_ (q:ae_):ae_.mk q.table q.where_ q.order q.down q.first q.show_ q.kids q.kidTable q.kidCol=q:=rfl
structure SQ (s:an_) (q:ae_):Prop where
 tab:0≤q.table∧q.table<(s.tables.length:Int)
 kid:0≤q.kidTable∧q.kidTable<(s.tables.length:Int)
 col:q.kids=true→∀ r ∈ s.tables.getD q.kidTable.toNat [],0≤q.kidCol∧q.kidCol<(r.cells.length:Int)
theorem sq_of {s:an_} {q:ae_} (h:FSQ s q=true) (hc:s.schema.cols.length≤bG_) (hct:s.tables.length≤bG_) (hrl:∀ x ∈ s.tables,x.length≤bG_∧∀ r ∈ x,r.cells.length≤bG_):SQ s q:=by
 have e:=@W_dn s.schema.cols.length hc
 unfold FSQ at h
 rw [Bool.and_eq_true] at h
 obtain ⟨h1,h2⟩:=h
 unfold cC_ at h1
 simp only [Bool.and_eq_true] at h1
 have hl:s.tables.length=s.schema.cols.length:=of_decide_eq_true h1.2.2.1
 have hT:=h1.2.2.2
 unfold dX_ at h2
 simp only [Bool.and_eq_true] at h2
 have ht:=cS_.1 h2.2.1
 rw [e] at ht
 have hcl:1≤s.schema.cols.length:=by omega
 have hk:kX_ s.schema q=true:=by
  have:=h2.2.2.2.2.2
  grind
 unfold kX_ at hk
 cases hkk:q.kids<;>rw [hkk] at hk
 · simp only [cond_false,Bool.and_eq_true,beq_iff_eq] at hk
   exact ⟨by omega,by omega,fun h=>by rw [hkk] at h;cases h⟩
 · simp only [cond_true,Bool.and_eq_true] at hk
   have k1:=cS_.1 hk.1
   have k2:=cS_.1 hk.2
   rw [e] at k1
   refine ⟨by omega,by omega,fun _ r hr => ?_⟩
   have hi:q.kidTable.toNat<s.tables.length:=by omega
   have hrow:=cY_.1 hT q.kidTable.toNat hi
   unfold i7_ at hrow
   obtain ⟨j,hj,rfl⟩:=List.mem_iff_getElem.1 hr
   simp only [Bool.and_eq_true] at hrow
   have hf:FRow s.schema (q.kidTable.toNat:Int) ((s.tables.getD q.kidTable.toNat []).getD j TRow.dflt)=true:=by
    have:=cY_.1 hrow.1 j hj
    simp only [Bool.and_eq_true] at this
    exact this.1
   unfold FRow at hf
   simp only [Bool.and_eq_true] at hf
   have hlen:=of_decide_eq_true hf.2.2.2.1
   rw [List.getD_eq_getElem?_getD,List.getElem?_eq_getElem hj,Option.getD_some,Int.toNat_natCast] at hlen
   have hle:((s.tables.getD q.kidTable.toNat [])[j]).cells.length≤bG_:=(hrl _ (bL_ _ hi)).2 _ hr
   rw [←hlen,W_dn hle] at k2
   omega
theorem jb_ {kids:List TKid} {id by_:Int}:(FKid kids id by_).length≤kids.length+1:=by
 have:=ho_ (kids.getD (eh_ kids id) TKid.dflt) id by_
 unfold FKid
 cases h:decide (eh_ kids id<kids.length)
 · cases decide (by_ > 0)<;>simp
 · have:=of_decide_eq_true h
   simp only [cond_true,List.length_append,List.length_take,List.length_drop];omega
section
variable {s:an_} {q:ae_} {c:Nat} (hl:dw_ c s) (hq:ku_ 100000 q) (hc:c≤100000)
include hl hq hc
theorem ih_:Ev (fun n _=>bh_ n s q) (d1_ s q):=by
 have hs:s.schema.cols.length≤bG_:=d2_ (Nat.le_trans hl.1 hc) (by decide)
 have hL:dw_ bG_ s:=hl.upto (Nat.le_trans hc (by decide))
 have hqT:ku_ bG_ q:=⟨Nat.le_trans hq.1 (by decide),Nat.le_trans hq.2 (by decide)⟩
 refine aJ_ ?_
 simp only [bh_,as_ (ee_ hL),as_ (fO_ hs hqT),aD_,ap_,bA_]
 unfold d1_ FSQ
 cases h1:cC_ s
 · exact ⟨fun _=>rfl,fun h=>(by cases h)⟩
 refine ⟨fun h=>(by cases h),fun _ => ?_⟩
 cases h2:dX_ s.schema q
 · exact ⟨fun _=>rfl,fun h=>(by cases h)⟩
 refine ⟨fun h=>(by cases h),fun _ => ?_⟩
 have hS:=sq_of (s:=s) (q:=q) (by unfold FSQ;rw [h1,h2];rfl) hs hL.2.1 hL.2.2
 refine ⟨hS.tab,?_⟩
 have hT:e0_ c (s.tables.getD q.table.toNat []):=dx_ hl.2.2 _
 simp only [Bool.and_self,cond_true]
 generalize s.tables.getD q.table.toNat []=rows at hT ⊢
 have key:∀ (m i:Nat) (o:List TRow),i+m=rows.length→e0_ (c+i) o→Ev (fun n N=>bh_.loop8 n (fun xy5=>(some xy5)) N rows (i:Int) q.table q.where_ q.order q.down q.first q.show_ q.kids q.kidTable q.kidCol o) (dl_ q o (rows.drop i)):=by
  intro m
  induction m with
  |zero=>
   intro i o hi ho
   have e:i=rows.length:=by omega
   subst e
   refine cc_ ?_
   simp only [bh_.turn8,bh_.step8,bZ_,cond_false,ap_,List.drop_length,dl_,List.foldl_nil]
  |succ m ih=>
   intro i o hi ho
   have hlt:i<rows.length:=by omega
   have h1:=hT.1
   have hr:=hT.2 _ (bL_ TRow.dflt hlt)
   have hM:=ii_ (q:=q) (r:=rows.getD i TRow.dflt) hqT.1 (by simp only [bG_];omega)
   have hP:=jl_ (q:=q) (rows:=o) (r:=rows.getD i TRow.dflt) (ho.upto (by simp only [cX_];omega)) (by simp only [cX_];omega)
   have hW:=W_up hlt (show rows.length≤bG_ by simp only [bG_];omega)
   have e1:dl_ q o (rows.drop i)=dl_ q (cond (cj_ q (rows.getD i TRow.dflt)) (FPut q o (rows.getD i TRow.dflt)) o) (rows.drop (i+1)):=by rw [dq_ TRow.dflt hlt];rfl
   rw [e1]
   refine cc_ ?_
   simp only [bh_.turn8,bh_.step8,d6_,cw_ hlt,cond_true,bA_,cp_ hlt,true_and,Int.toNat_natCast,hW,as_ hM,as_ hP,aD_]
   cases hf:cj_ q (rows.getD i TRow.dflt)
   · exact ⟨fun h=>(by cases h),fun _=>ih (i+1) _ (by omega) (ho.upto (by omega))⟩
   · exact ⟨fun _=>ih (i+1) _ (by omega) (kW_ ho (Nat.le_trans hr (Nat.le_add_right _ _))),fun h=>(by cases h)⟩
 exact d4_ (key rows.length 0 [] (by omega) ⟨Nat.zero_le _,fun x hx=>(by cases hx)⟩)
theorem jm_:Ev (fun n _=>bq_ n s q) (hB_ s q):=by
 have hs:s.schema.cols.length≤bG_:=d2_ (Nat.le_trans hl.1 hc) (by decide)
 have hL:dw_ bG_ s:=hl.upto (Nat.le_trans hc (by decide))
 have hR:=ih_ hl hq hc
 have hqT:ku_ bG_ q:=⟨Nat.le_trans hq.1 (by decide),Nat.le_trans hq.2 (by decide)⟩
 refine aJ_ ?_
 simp only [bq_,as_ (ee_ hL),as_ (fO_ hs hqT),aD_,ap_]
 unfold hB_
 have e0:FSQ s q=(cC_ s&&dX_ s.schema q):=rfl
 cases h1:cC_ s
 · rw [e0,h1];exact ⟨fun _=>rfl,fun h=>(by cases h)⟩
 refine ⟨fun h=>(by cases h),fun _ => ?_⟩
 cases h2:dX_ s.schema q
 · rw [e0,h1,h2];exact ⟨fun _=>rfl,fun h=>(by cases h)⟩
 refine ⟨fun h=>(by cases h),fun _ => ?_⟩
 have hS:=sq_of (s:=s) (q:=q) (by rw [e0,h1,h2];rfl) hs hL.2.1 hL.2.2
 have hqR:ku_ cX_ q:=⟨Nat.le_trans hq.1 (by decide),Nat.le_trans hq.2 (by decide)⟩
 rw [e0,h1,h2]
 simp only [l9Copy_b hqR,as_ hR,bA_,Bool.and_self,cond_true]
 refine ⟨hS.kid,?_⟩
 have hT:e0_ c (s.tables.getD q.kidTable.toNat []):=dx_ hl.2.2 _
 have hcol:=hS.col
 unfold h8_
 generalize s.tables.getD q.kidTable.toNat []=rows at hT hcol ⊢
 have key:∀ (m i:Nat) (k:List TKid),i+m=rows.length→k.length≤i→Ev (fun n N=>bq_.loop8 n (fun xy6 xy7 xy8 xy9 xy10 xy11 xy12 xy13 xy14 xy15 xy16 xy17 xy18 xy19 xy20 xy21 xy22 xy23=>(some ((bd_.mk (ae_.mk xy13 xy20 xy14 xy15 xy16 xy21 xy17 xy18 xy19) xy22 xy23),true))) N rows (i:Int) q.table q.where_ q.order q.down q.first q.show_ q.kids q.kidTable q.kidCol 0 0 false 0 false 0 0 q.table q.order q.down q.first q.kids q.kidTable q.kidCol q.where_ q.show_ (d1_ s q) k) (bd_.mk q (d1_ s q) (cond q.kids (db_ q k (rows.drop i)) k),true):=by
  intro m
  induction m with
  |zero=>
   intro i k hi ho
   have e:i=rows.length:=by omega
   subst e
   refine cc_ ?_
   simp only [bq_.turn8,bq_.step8,bZ_,cond_false,ap_,List.drop_length,db_,List.foldl_nil]
   have e:(cond q.kids k k)=k:=by cases q.kids<;>rfl
   rw [e]
  |succ m ih=>
   intro i k hi ho
   have hlt:i<rows.length:=by omega
   have h1:=hT.1
   have hP:=jo_ (kids:=k) (id:=(rows.getD i TRow.dflt).cells.getD q.kidCol.toNat 0) (by_:=1) (by simp only [cX_];omega)
   have hW:=W_up hlt (show rows.length≤bG_ by simp only [bG_];omega)
   have hn:=jb_ (kids:=k) (id:=(rows.getD i TRow.dflt).cells.getD q.kidCol.toNat 0) (by_:=1)
   have e1:db_ q k (rows.drop i)=db_ q (FKid k ((rows.getD i TRow.dflt).cells.getD q.kidCol.toNat 0) 1) (rows.drop (i+1)):=by rw [dq_ TRow.dflt hlt];rfl
   refine cc_ ?_
   simp only [bq_.turn8,bq_.step8,d6_,cw_ hlt,cond_true,bA_,cp_ hlt,true_and,Int.toNat_natCast,hW,as_ hP,aD_,ap_]
   cases hk:q.kids
   · exact ⟨fun h=>(by cases h),fun _=>rfl⟩
   · refine ⟨fun _=>⟨hcol hk _ (bL_ TRow.dflt hlt),?_⟩,fun h=>(by cases h)⟩
     have:=ih (i+1) (FKid k ((rows.getD i TRow.dflt).cells.getD q.kidCol.toNat 0) 1) (by omega) (by omega)
     rw [hk] at this
     simp only [cond_true,e1] at this ⊢
     exact this
 exact d4_ (key rows.length 0 [] (by omega) (Nat.le_refl _))
end
end Go.Pi
end
section
namespace Go.Pi
theorem es_ (j:ax_):ax_.re j=j:=by cases j;rfl
def lY_ (s:Bs):Bool:=jB_ (fun i=>inn ((s.getD i 0).toNat:Int) 32 126) s.length&&decide ((s.length:Int)≤60)
theorem byte_W (b:UInt8):W ((b.toNat:Int))=(b.toNat:Int):=W_id (by omega) (by have:=b.toNat_lt;omega)
theorem gr_ {s:Bs} (hs:s.length≤bG_):Ev (fun n _=>aG_ n s) (lY_ s):=by
 refine aJ_ ?_
 simp only [aG_]
 refine dE_ (fun n N i=>aG_.loop3 n (fun xy1=>(some (decide ((xy1.length:Int)≤60)))) N s (s.length:Int) (i:Int)) _ (fun i w hi ih => ?_) ?_
 · simp only [aG_.turn3,aG_.step3,Int.toNat_natCast,aD_,bA_,de_,byte_W,ap_,W_up hi hs,cF_ ih,cw_ hi,cp_ hi]
   clear ih
   grind
 · simp only [aG_.turn3,aG_.step3,bZ_,cond_false,ap_]
def lenNs (c:Nat) (l:List Bs):Prop:=l.length≤c∧∀ x ∈ l,x.length≤c
theorem getD_text {c:Nat} {l:List Bs} (h:lenNs c l) (i:Nat):(l.getD i []).length≤c:=by
 by_cases hi:i<l.length
 · exact h.2 _ (bL_ [] hi)
 · rw [List.getD_eq_getElem?_getD,List.getElem?_eq_none (by omega)];exact Nat.zero_le _
def lZ_ (l:List Bs):Bool:=jB_ (fun i=>lY_ (l.getD i [])&&(decide (i=0)||Op.bytesLess (l.getD (i - 1) []) (l.getD i []))) l.length
theorem iH_ {l:List Bs} (h:lenNs bG_ l):Ev (fun n _=>az_ n l) (lZ_ l):=by
 refine aJ_ ?_
 simp only [az_]
 refine du_ (dE_ (fun n N i=>az_.loop3 n (some true) N l l (l.length:Int) (i:Int)) (fun i=>lY_ (l.getD i [])&&(decide (i=0)||Op.bytesLess (l.getD (i - 1) []) (l.getD i []))) (len:=l.length) (v:=true) (fun i w hi ih => ?_) ?_) (by rw [Bool.and_true];rfl)
 · simp only [az_.turn3,az_.step3,Int.toNat_natCast,W_up hi h.1,W_dn (i:=i) (by have:=h.1;omega),fn_,aD_,bA_,as_ (gr_ (getD_text h i)),ap_,cF_ ih,cw_ hi,cp_ hi]
   clear ih
   repeat' (first|apply And.intro|intro _)
   all_goals (try rw [Bool.eq_iff_iff])
   all_goals (try simp only [Bool.not_eq_true',Bool.not_eq_false',decide_eq_true_eq,decide_eq_false_iff_not,Bool.and_eq_true,Bool.or_eq_true,Bool.and_eq_false_iff,Bool.or_eq_false_iff] at *)
   all_goals grind
 · simp only [az_.turn3,az_.step3,bZ_,cond_false,ap_]
end Go.Pi
end
section
namespace Go.Pi
theorem lr_ (k:Int):k=0∨k=1∨k=2∨k=3∨k=4∨k=5∨(k≠0∧k≠1∧k≠2∧k≠3∧k≠4∧k≠5):=by omega
theorem len_pos {α:Type} (l:List α):decide (l.length=0) = !decide ((l.length:Int) > 0):=by
 by_cases hz:l.length=0
 · rw [hz];rfl
 · rw [decide_eq_false hz,decide_eq_true (show (l.length:Int) > 0 by omega)];rfl
def FOwnK (j:ax_):Bool :=
 cond (j.kind == 1) (inn j.n_ 0 1) (cond (j.kind == 2) (inn j.n_ (-1000000000) 1000000000) (cond (j.kind == 3) (lY_ j.s) (cond (j.kind == 5) (((j.names.length:Int) == (j.list.length:Int))&&lZ_ j.names) ((j.kind == 0)||(j.kind == 4)))))
def FOwn (j:ax_):Bool :=
 (decide (j.list.length=0)||((j.kind == 4)||(j.kind == 5)))&&((decide (j.names.length=0)||(j.kind == 5))&&(((j.n_ == 0)||((j.kind == 1)||(j.kind == 2)))&&(((j.s == [])||(j.kind == 3))&&FOwnK j)))
def lenJ1 (j:ax_):Prop:=j.s.length≤bG_∧lenNs bG_ j.names
theorem kB_ {j:ax_} (h:lenJ1 j):Ev (fun n _=>dU_ n j) (FOwn j):=by
 refine aJ_ ?_
 simp only [dU_,aD_,de_,mo_,as_ (gr_ h.1),as_ (iH_ h.2),ap_]
 unfold FOwn FOwnK
 have e1:=len_pos j.list
 have e2:=len_pos j.names
 rw [e1,e2]
 generalize decide ((j.list.length:Int) > 0)=a
 generalize decide ((j.names.length:Int) > 0)=b
 generalize (j.s == [])=c
 have e3:(j.n_ != 0) = !(j.n_ == 0):=rfl
 rw [e3]
 generalize hd:(j.n_ == 0)=d
 generalize lY_ j.s=ft
 generalize lZ_ j.names=fn
 generalize ((j.names.length:Int) == (j.list.length:Int))=eq
 rcases lr_ j.kind with hk|hk|hk|hk|hk|hk|⟨k0,k1,k2,k3,k4,k5⟩
 all_goals (first|simp only [hk]|simp only [beq_eq_false_iff_ne.2 k0,beq_eq_false_iff_ne.2 k1,beq_eq_false_iff_ne.2 k2,beq_eq_false_iff_ne.2 k3,beq_eq_false_iff_ne.2 k4,beq_eq_false_iff_ne.2 k5,bne])
 all_goals (cases a<;>cases b<;>cases c<;>cases d<;>simp)
 all_goals (cases eq<;>simp)
def cx_:Nat→ax_→Nat
 |0,_=>401
 |d+1,j=>cond (FOwn j) (min 401 (1+ic_ (cx_ d) j.list)) 401
theorem nK_:∀ (d:Nat) (j:ax_),cx_ d j≤401
 |0,_=>Nat.le_refl _
 |d+1,j=>by
  simp only [cx_]
  cases FOwn j<;>simp only [cond_true,cond_false]<;>omega
def lo_:Nat→ax_→Prop
 |0,_=>True
 |d+1,j=>lenJ1 j∧j.list.length≤bG_∧∀ x ∈ j.list,lo_ d x
theorem getD_json {d:Nat} {l:List ax_} (h:∀ x ∈ l,lo_ d x) {i:Nat} (hi:i<l.length):lo_ d (l.getD i ax_.dflt):=h _ (bL_ _ hi)
theorem gs_:∀ (d:Nat) (j:ax_),d≤1000→lo_ d j→Ev (fun n _=>bg_ n j (d:Int)) (cx_ d j:Int)
 |0,j,_,_=>by
  refine aJ_ ?_
  simp only [bg_,aD_,ap_]
  exact ⟨fun _=>rfl,fun h=>by simp at h⟩
 |d+1,j,hd,h=>by
  refine aJ_ ?_
  have hW:W (((d+1:Nat):Int) - 1)=(d:Int):=by rw [W_id (by omega) (by omega)];omega
  simp only [bg_,es_,aD_,as_ (kB_ h.1),ap_,cx_]
  refine ⟨fun hc=>by have:=of_decide_eq_true hc;omega,fun _ => ?_⟩
  cases ho:FOwn j with
  |false=>exact ⟨fun _=>rfl,fun h=>by cases h⟩
  |true=>
   refine ⟨fun h=>(by cases h),fun _ => ?_⟩
   have ht:=h.2.1
   have key:∀ (k i:Nat) (s:Nat),k+i=j.list.length→s≤400→Ev (fun n N=>bg_.loop7 n (bg_ n) (fun xy3=>some xy3) N ((d+1:Nat):Int) (s:Int) j.list (j.list.length:Int) (i:Int)) ((min 401 (s+ic_ (cx_ d) (j.list.drop i)):Nat):Int):=by
    intro k
    induction k with
    |zero=>
     intro i s hi hs
     have:i=j.list.length:=by omega
     subst this
     refine cc_ ?_
     simp only [bg_.turn7,bg_.step7,bZ_,cond_false,ap_,List.drop_length,ic_]
     omega
    |succ k ih=>
     intro i s hi hs
     have hlt:i<j.list.length:=by omega
     refine cc_ ?_
     have hc:=gs_ d (j.list.getD i ax_.dflt) (by omega) (getD_json h.2.2 hlt)
     have hle:=nK_ d (j.list.getD i ax_.dflt)
     have hw:W ((s:Int)+(cx_ d (j.list.getD i ax_.dflt):Int))=((s+cx_ d (j.list.getD i ax_.dflt):Nat):Int):=by rw [W_id (by omega) (by omega)];omega
     simp only [bg_.turn7,bg_.step7,es_,Int.toNat_natCast,hW,W_up hlt ht,aD_,bA_,cw_ hlt,cp_ hlt,as_ hc,hw,ap_]
     rw [sumL_drop (cx_ d) ax_.dflt hlt]
     refine ⟨fun _=>⟨trivial,fun hg => ?_,fun hg => ?_⟩,fun h=>(by cases h)⟩
     · have:=of_decide_eq_true hg;omega
     · have:=of_decide_eq_false hg
       rw [show s+(cx_ d (j.list.getD i ax_.dflt)+ic_ (cx_ d) (j.list.drop (i+1)))=(s+cx_ d (j.list.getD i ax_.dflt))+ic_ (cx_ d) (j.list.drop (i+1)) by omega]
       exact ih (i+1) _ (by omega) (by omega)
   have:=key j.list.length 0 1 (by omega) (by omega)
   rw [List.drop_zero] at this
   exact d4_ (f:=fun n N=>bg_.loop7 n (bg_ n) (fun xy3=>some xy3) N ((d+1:Nat):Int) 1 j.list (j.list.length:Int) 0) this
def dP_ (j:ax_):Bool:=decide (cx_ 6 j≤400)
theorem fc_ {j:ax_} (h:lo_ 6 j):Ev (fun n _=>c9_ n j) (dP_ j):=by
 refine aJ_ ?_
 have e:Ev (fun n _=>bg_ n j 6) (cx_ 6 j:Int):=gs_ 6 j (by omega) h
 simp only [c9_,es_,as_ e,ap_,dP_]
 by_cases hq:cx_ 6 j≤400
 · rw [decide_eq_true hq,decide_eq_true (by omega)]
 · rw [decide_eq_false hq,decide_eq_false (by omega)]
end Go.Pi
end
section
namespace Go.Pi
end Go.Pi
end
section
namespace Go.Pi
def deepJ:Nat→ax_→Prop
 |0,_=>False
 |d+1,j=>∀ x ∈ j.list,deepJ d x
theorem kd_:∀ (d:Nat) (j:ax_),cx_ d j≤400→deepJ d j
 |0,j,h=>by simp only [cx_] at h;omega
 |d+1,j,h=>fun x hx=>by
  refine kd_ d x ?_
  simp only [cx_] at h
  have:=l9_ (cx_ d) hx
  cases ho:FOwn j with
  |false=>rw [ho] at h;simp only [cond_false] at h;omega
  |true=>rw [ho] at h;simp only [cond_true] at h;omega
def hC_ (a b:List Bs):Bool:=decide (a.length=b.length)&&jB_ (fun i=>a.getD i [] == b.getD i []) a.length
def hi_:Nat→ax_→ax_→Bool
 |0,_,_=>true
 |d+1,a,b=>(a.kind == b.kind)&&((a.n_ == b.n_)&&((a.s == b.s)&&(hC_ a.names b.names&&(decide (a.list.length=b.list.length)&&jB_ (fun i=>hi_ d (a.list.getD i ax_.dflt) (b.list.getD i ax_.dflt)) a.list.length))))
theorem ne_len {n m:Nat}:((n:Int) != (m:Int)) = !decide (n=m):=by
 by_cases h:n=m
 · rw [h,decide_eq_true rfl];simp
 · rw [decide_eq_false h];simp;omega
end Go.Pi
end
section
namespace Go.Pi
theorem jg_ {a b:List Bs} (ha:a.length≤bG_):Ev (fun n _=>aM_ n a b) (hC_ a b):=by
 refine aJ_ ?_
 simp only [aM_,ne_len,aD_,ap_]
 unfold hC_
 by_cases hl:a.length=b.length
 · rw [decide_eq_true hl]
   refine ⟨fun h=>(by cases h),fun _ => ?_⟩
   refine du_ (dE_ (fun n N i=>aM_.loop6 n (some true) N a b (a.length:Int) (i:Int)) (fun i=>a.getD i [] == b.getD i []) (len:=a.length) (v:=true) (fun i w hi ih => ?_) ?_) (by rw [Bool.and_true,Bool.true_and])
   · simp only [aM_.turn6,aM_.step6,Int.toNat_natCast,W_up hi ha,aD_,bA_,ap_,cF_ ih,cw_ hi,cp_ hi,cp_ (hl ▸ hi)]
     cases (a.getD i [] == b.getD i [])<;>simp
   · simp only [aM_.turn6,aM_.step6,bZ_,cond_false,ap_]
 · rw [decide_eq_false hl]
   exact ⟨fun _=>rfl,fun h=>(by cases h)⟩
theorem g4_:∀ (d:Nat) (a b:ax_),deepJ d a→lo_ d a→Ev (fun n _=>dd_ n a b) (hi_ d a b)
 |0,a,b,h,_=>h.elim
 |d+1,a,b,h,hl=>by
  refine aJ_ ?_
  have hE:Ev (fun n _=>am_ n a.list b.list) (decide (a.list.length=b.list.length)&&jB_ (fun i=>hi_ d (a.list.getD i ax_.dflt) (b.list.getD i ax_.dflt)) a.list.length):=by
   refine aJ_ ?_
   simp only [am_,ne_len,aD_,ap_]
   by_cases hq:a.list.length=b.list.length
   · rw [decide_eq_true hq]
     refine ⟨fun h=>(by cases h),fun _ => ?_⟩
     refine du_ (dE_ (fun n N i=>am_.loop6 n (dd_ n) (some true) N b.list a.list (a.list.length:Int) (i:Int)) (fun i=>hi_ d (a.list.getD i ax_.dflt) (b.list.getD i ax_.dflt)) (len:=a.list.length) (v:=true) (fun i w hi ih => ?_) ?_) (by rw [Bool.and_true,Bool.true_and])
     · have hx:=g4_ d (a.list.getD i ax_.dflt) (b.list.getD i ax_.dflt) (h _ (bL_ _ hi)) (hl.2.2 _ (bL_ _ hi))
       simp only [am_.turn6,am_.step6,es_,Int.toNat_natCast,W_up hi hl.2.1,aD_,bA_,as_ hx,ap_,cF_ ih,cw_ hi,cp_ hi,cp_ (hq ▸ hi)]
       cases hi_ d (a.list.getD i ax_.dflt) (b.list.getD i ax_.dflt)<;>simp
     · simp only [am_.turn6,am_.step6,bZ_,cond_false,ap_]
   · rw [decide_eq_false hq]
     exact ⟨fun _=>rfl,fun h=>(by cases h)⟩
  simp only [dd_,aD_,as_ (jg_ (b:=b.names) hl.1.2.1),as_ hE,ap_,hi_]
  cases (a.kind == b.kind)<;>cases (a.n_ == b.n_)<;>cases (a.s == b.s)<;>cases hC_ a.names b.names<;>simp
end Go.Pi
end
section
namespace Go.Pi
end Go.Pi
end
section
namespace Go.Pi
end Go.Pi
end
section
namespace Go.Pi
theorem Itoa_ev {x:Int} (h0 : -9223372036854775808≤x) (h1:x≤9223372036854775807):Ev (fun n _=>strconv_Itoa n x) (Lib.itoa x) :=
 aJ_ (by simp only [strconv_Itoa,nItoa,aD_,ap_,ej_];exact ⟨fun _=>trivial,fun h=>by simp at h;omega⟩)
end Go.Pi
end
section
namespace Go.Pi
theorem mZ_ {α:Type} (f:α→Nat) (h:∀ x,1≤f x):∀ a:List α,a.length≤ic_ f a
 |[]=>Nat.le_refl _
 |x::a=>by have:=mZ_ f h a;have:=h x;simp only [ic_,List.length_cons];omega
theorem FSize_pos:∀ (d:Nat) (j:ax_),1≤cx_ d j
 |0,_=>by simp only [cx_];omega
 |d+1,j=>by
  simp only [cx_]
  cases FOwn j<;>simp only [cond_true,cond_false]<;>omega
theorem i6_ {s:Bs} (h:lY_ s=true):s.length≤60:=by
 unfold lY_ at h
 rw [Bool.and_eq_true] at h
 have:=of_decide_eq_true h.2;omega
theorem ox_ {l:List Bs} (h:lZ_ l=true) {i:Nat} (hi:i<l.length):(l.getD i []).length≤60:=by
 have:=cY_.1 h i hi
 rw [Bool.and_eq_true] at this
 exact i6_ this.1
structure Own (j:ax_):Prop where
 kind:j.kind=0∨j.kind=1∨j.kind=2∨j.kind=3∨j.kind=4∨j.kind=5
 list:j.kind≠4→j.kind≠5→j.list=[]
 bool:j.kind=1→0≤j.n_∧j.n_≤1
 num:j.kind=2 → -1000000000≤j.n_∧j.n_≤1000000000
 text:j.kind=3→j.s.length≤60
 obj:j.kind=5→j.names.length=j.list.length∧lZ_ j.names=true
theorem FOwn_own {j:ax_} (h:FOwn j=true):Own j:=by
 unfold FOwn FOwnK at h
 simp only [Bool.and_eq_true,Bool.or_eq_true] at h
 obtain ⟨h1,h2,h3,h4,h5⟩:=h
 refine ⟨?_,fun k4 k5 => ?_,fun hk => ?_,fun hk => ?_,fun hk => ?_,fun hk => ?_⟩
 · rcases lr_ j.kind with hk|hk|hk|hk|hk|hk|⟨k0,k1,k2,k3,k4,k5⟩
   · exact .inl hk
   · exact .inr (.inl hk)
   · exact .inr (.inr (.inl hk))
   · exact .inr (.inr (.inr (.inl hk)))
   · exact .inr (.inr (.inr (.inr (.inl hk))))
   · exact .inr (.inr (.inr (.inr (.inr hk))))
   · simp only [beq_eq_false_iff_ne.2 k0,beq_eq_false_iff_ne.2 k1,beq_eq_false_iff_ne.2 k2,beq_eq_false_iff_ne.2 k3,beq_eq_false_iff_ne.2 k4,beq_eq_false_iff_ne.2 k5,cond_false,Bool.or_false] at h5
     cases h5
 · rcases h1 with h1|h1|h1
   · exact List.eq_nil_of_length_eq_zero (of_decide_eq_true h1)
   · exact absurd (by simpa using h1) k4
   · exact absurd (by simpa using h1) k5
 · simp only [hk,Int.reduceBEq,cond_true,cond_false] at h5;exact dT_ h5
 · simp only [hk,Int.reduceBEq,cond_true,cond_false] at h5;exact dT_ h5
 · simp only [hk,Int.reduceBEq,cond_true,cond_false] at h5;exact i6_ h5
 · simp only [hk,Int.reduceBEq,cond_true,cond_false,Bool.and_eq_true] at h5
   exact ⟨by have:=h5.1;simp at this;omega,h5.2⟩
theorem h2_ {d:Nat} {j:ax_} (h:cx_ (d+1) j≤400):Own j∧cx_ (d+1) j=1+ic_ (cx_ d) j.list:=by
 simp only [cx_] at h ⊢
 cases ho:FOwn j with
 |false=>rw [ho,cond_false] at h;omega
 |true=>
  rw [ho,cond_true] at h
  exact ⟨FOwn_own ho,by rw [cond_true];omega⟩
theorem nf_ {d:Nat} {j:ax_} (h:cx_ (d+1) j≤400):j.list.length≤400:=by
 have:=(h2_ h).2
 have:=mZ_ (cx_ d) (FSize_pos d) j.list
 omega
end Go.Pi
end
section
namespace Go.Pi
end Go.Pi
end
section
namespace Go.Pi
def ey_ (ns:List Bs) (x:Bs):Nat:=ns.findIdx (fun y => !Op.bytesLess y x)
def mi_ (ns:List Bs) (x:Bs):Nat:=if ns.getD (ey_ ns x) []=x∧ey_ ns x<ns.length then ey_ ns x+1 else ey_ ns x
def putL {α:Type} (ns:List Bs) (x:Bs) (l:List α) (y:α):List α:=l.take (ey_ ns x)++[y]++l.drop (mi_ ns x)
end Go.Pi
end
section
namespace Go.Pi
theorem gJ_:∀ (x y:Bs),Op.bytesLess x y=decide (x<y)
 |[],[]=>by simp [Op.bytesLess]
 |_::_,[]=>by simp [Op.bytesLess]
 |[],_::_=>by simp [Op.bytesLess]
 |a::x,b::y=>by
  rw [Op.bytesLess,gJ_ x y]
  simp only [List.cons_lt_cons_iff]
  by_cases h1:a<b<;>by_cases h2:a=b<;>by_cases h3:x<y<;>simp [h1,h2,h3]
end Go.Pi
end
section
namespace Go.Pi
def nullJ:ax_:=ax_.mk 0 0 [] [] []
def eo_ (j:ax_):ax_:=cond (dP_ j) j nullJ
theorem le_ {j:ax_} (h:lo_ 6 j):Ev (fun n _=>cE_ n j) (eo_ j):=by
 refine aJ_ ?_
 simp only [cE_,es_,as_ (fc_ h),aD_,ap_,eo_,nullJ]
 cases dP_ j<;>simp
end Go.Pi
end
section
namespace Go.Pi
theorem names_len {d:Nat} {j:ax_} (h:cx_ (d+1) j≤400):j.names.length≤400:=by
 have h1:=nf_ h
 have ho:=(h2_ h).1
 by_cases hk:j.kind=5
 · have:=(ho.obj hk).1;omega
 · have:FOwn j=true:=by
    simp only [cx_] at h
    cases hf:FOwn j with
    |true=>rfl
    |false=>rw [hf,cond_false] at h;omega
   unfold FOwn at this
   simp only [Bool.and_eq_true,Bool.or_eq_true] at this
   rcases this.2.1 with h2|h2
   · have:=of_decide_eq_true h2;omega
   · exact absurd (by simpa using h2) hk
end Go.Pi
end
section
namespace Go.Pi
theorem isNaN_ev {x:Bs}:Ev (fun n _=>bN_ n x) false:=aJ_ (by simp [bN_,ap_])
theorem isNaN2_ev {x:Bs}:Ev (fun n _=>b9_ n x) false:=aJ_ (by simp [b9_,ap_])
theorem oi_ {x y:Bs}:Ev (fun n _=>co_ n x y) (Op.bytesLess x y):=by
 refine aJ_ ?_
 simp only [co_,as_ isNaN2_ev,aD_,ap_]
 cases Op.bytesLess x y<;>simp
theorem half {i j:Nat} (h:i+j≤4000000):W (Int.fdiv (IntKind.u64.wrap (W ((i:Int)+(j:Int)))) (2 ^ min (1:Int).toNat (IntKind.bits .u64)))=(((i+j) / 2:Nat):Int):=by
 have e1:W ((i:Int)+(j:Int))=((i+j:Nat):Int):=by rw [W_id (by omega) (by omega)];omega
 have e2:IntKind.u64.wrap ((i+j:Nat):Int)=((i+j:Nat):Int):=by
  show (((i+j:Nat):Int)) % _=_
  exact Int.emod_eq_of_lt (by omega) (by have:((i+j:Nat):Int)≤4000000:=by omega
                                         exact Int.lt_of_le_of_lt this (by decide))
 have e3:(2:Int) ^ min (1:Int).toNat (IntKind.bits .u64)=2:=by decide
 rw [e1,e2,e3,Int.fdiv_eq_ediv_of_nonneg _ (by decide)]
 rw [W_id (by omega) (by omega)];omega
theorem jj_ {ns:List Bs} {x:Bs} (hl:ns.length≤2000000) (hM:∀ h,h<ns.length→Op.bytesLess (ns.getD h []) x=decide (h<ey_ ns x)) :
  Ev (fun n _=>ar_ n ns x) ((ey_ ns x:Int),decide (ey_ ns x<ns.length)&&(ns.getD (ey_ ns x) [] == x)):=by
 refine aJ_ ?_
 have hpl:ey_ ns x≤ns.length:=List.findIdx_le_length
 obtain ⟨p,hp⟩:∃ p,p=ey_ ns x:=⟨_,rfl⟩
 rw [←hp] at hpl hM ⊢
 simp only [ar_]
 have key:∀ (d i j:Nat),j - i≤d→i≤p→p≤j→j≤ns.length→Ev (fun n N=>ar_.loop4 n (fun xy3 xy4 xy5 xy6=>(cond (decide (xy6<xy5)) (inB xy6 xy3.length (cond ((xy3.getD xy6.toNat []) == xy4) (some (xy6,true)) (inB xy6 xy3.length ((bN_ n (xy3.getD xy6.toNat [])).bind fun xr7=>(cond xr7 ((bN_ n xy4).bind fun xr8=>(some (xy6,xr8))) (some (xy6,false))))))) (some (xy6,false)))) N ns x (ns.length:Int) (i:Int) (j:Int)) ((p:Int),decide (p<ns.length)&&(ns.getD p [] == x)):=by
  intro d
  induction d with
  |zero=>
   intro i j hd h1 h2 h3
   have e:i=p:=by omega
   have e':j=p:=by omega
   subst e;subst e'
   refine cc_ ?_
   simp only [ar_.turn4,ar_.step4,Int.lt_irrefl,decide_false,cond_false,aD_,bA_,ap_,Int.toNat_natCast,as_ isNaN_ev]
   by_cases hc:j<ns.length
   · rw [decide_eq_true hc,decide_eq_true (show (j:Int)<(ns.length:Int) by omega)]
     cases hs:(ns.getD j [] == x)<;>simp<;>omega
   · rw [decide_eq_false hc,decide_eq_false (show ¬ (j:Int)<(ns.length:Int) by omega)]
     exact ⟨fun h=>(by cases h),fun _=>rfl⟩
  |succ d ih=>
   intro i j hd h1 h2 h3
   by_cases hij:i<j
   · have hh:=half (i:=i) (j:=j) (by omega)
     have hm:(i+j) / 2<ns.length:=by omega
     refine cc_ ?_
     simp only [ar_.turn4,ar_.step4,hh,decide_eq_true (show (i:Int)<(j:Int) by omega),cond_true,aD_,bA_,Int.toNat_natCast,as_ oi_,cp_ hm,hM _ hm,W_up hm (show ns.length≤bG_ by simp only [bG_];omega)]
     refine ⟨trivial,fun hc => ?_,fun hc => ?_⟩
     · have hc:=of_decide_eq_true hc
       exact ih ((i+j) / 2+1) j (by omega) (by omega) h2 h3
     · have hc:=of_decide_eq_false hc
       exact ih i ((i+j) / 2) (by omega) h1 (by omega) (by omega)
   · exact ih i j (by omega) h1 h2 h3
 exact d4_ (f:=fun n N=>ar_.loop4 n _ N ns x (ns.length:Int) 0 (ns.length:Int)) (key ns.length 0 ns.length (by omega) (Nat.zero_le _) hpl (Nat.le_refl _))
end Go.Pi
end
section
namespace Go.Pi
def ins (x:Bs) (y:Int):List (Bs × Int)→List (Bs × Int)
 |[]=>[(x,y)]
 |(k,v)::l=>if k<x then (k,v)::ins x y l else if k=x then (x,y)::l else (x,y)::(k,v)::l
def fs_:List (Bs × Int)→Prop
 |[]=>True
 |(k,_)::l=>(∀ p ∈ l,k<p.1)∧fs_ l
theorem kA_ {x:Bs} {y:Int}:∀ {l:List (Bs × Int)} {p:Bs × Int},p ∈ ins x y l→p=(x,y)∨p ∈ l
 |[],p,h=>by simp only [ins,List.mem_singleton] at h;exact .inl h
 |(k,v)::l,p,h=>by
  simp only [ins] at h
  split at h
  · rcases List.mem_cons.1 h with h|h
    · exact .inr (h ▸ List.mem_cons_self ..)
    · rcases kA_ h with h|h
      · exact .inl h
      · exact .inr (List.mem_cons_of_mem _ h)
  · split at h
    · rcases List.mem_cons.1 h with h|h
      · exact .inl h
      · exact .inr (List.mem_cons_of_mem _ h)
    · rcases List.mem_cons.1 h with h|h
      · exact .inl h
      · exact .inr h
theorem lh_ {a b:Bs} (h1:¬ a<b) (h2:a≠b):b<a:=by
 rcases Decidable.em (b<a) with h|h
 · exact h
 · exact absurd (List.le_antisymm (List.not_lt.1 h) (List.not_lt.1 h1)) h2
theorem ins_asc {x:Bs} {y:Int}:∀ {l:List (Bs × Int)},fs_ l→fs_ (ins x y l)
 |[],_=>⟨fun p hp=>(by cases hp),trivial⟩
 |(k,v)::l,h=>by
  simp only [ins]
  split
  · rename_i hk
    exact ⟨fun p hp=>(kA_ hp).elim (fun e=>e ▸ hk) (h.1 p),ins_asc h.2⟩
  · split
    · rename_i h1 h2
      subst h2
      exact ⟨h.1,h.2⟩
    · rename_i h1 h2
      have hx:=lh_ h1 h2
      exact ⟨fun p hp=>by
       rcases List.mem_cons.1 hp with e|hp
       · rw [e];exact hx
       · exact List.lt_trans hx (h.1 p hp),h⟩
end Go.Pi
end
section
namespace Go.Pi
theorem tri (a b:Bs):a<b∧¬ b<a∧a≠b∧b≠a∨a=b∧¬ a<b∧¬ b<a∨b<a∧¬ a<b∧a≠b∧b≠a:=by
 by_cases h1:a<b
 · exact .inl ⟨h1,List.lt_asymm h1,fun e=>List.lt_irrefl b (e ▸ h1),fun e=>List.lt_irrefl b (e ▸ h1)⟩
 · by_cases h2:a=b
   · subst h2;exact .inr (.inl ⟨rfl,h1,h1⟩)
   · exact .inr (.inr ⟨lh_ h1 h2,h1,h2,fun e=>h2 e.symm⟩)
theorem nl_ {x x':Bs} {y y':Int} (hne:x≠x'):∀ l:List (Bs × Int),ins x y (ins x' y' l)=ins x' y' (ins x y l)
 |[]=>by
  rcases tri x x' with ⟨h1,h2,h3,h4⟩|⟨h1,_⟩|⟨h1,h2,h3,h4⟩
  · simp only [ins,if_pos h1,if_neg h2,if_neg h4]
  · exact absurd h1 hne
  · simp only [ins,if_pos h1,if_neg h2,if_neg h3]
 |(k,v)::l=>by
  have ih:=nl_ (y:=y) (y':=y') hne l
  rcases tri x x' with ⟨h1,h2,h3,h4⟩|⟨h1,_⟩|⟨h1,h2,h3,h4⟩
  · rcases tri k x with ⟨a1,a2,a3,a4⟩|⟨a1,a2,a3⟩|⟨a1,a2,a3,a4⟩
    · have b1:k<x':=List.lt_trans a1 h1
      simp only [ins,if_pos a1,if_pos b1,ih]
    · subst a1
      simp only [ins,if_pos h1,if_neg a2,if_true]
    · rcases tri k x' with ⟨b1,b2,b3,b4⟩|⟨b1,b2,b3⟩|⟨b1,b2,b3,b4⟩
      · simp only [ins,if_pos b1,if_neg a2,if_neg a3,if_pos h1]
      · subst b1
        simp only [ins,if_neg a2,if_neg a3,if_neg b2,if_pos h1,if_neg h2,if_neg h4,if_true]
      · simp only [ins,if_neg a2,if_neg a3,if_neg b2,if_neg b3,if_pos h1,if_neg h2,if_neg h4]
  · exact absurd h1 hne
  · rcases tri k x' with ⟨a1,a2,a3,a4⟩|⟨a1,a2,a3⟩|⟨a1,a2,a3,a4⟩
    · have b1:k<x:=List.lt_trans a1 h1
      simp only [ins,if_pos a1,if_pos b1,ih]
    · subst a1
      simp only [ins,if_pos h1,if_neg a2,if_true]
    · rcases tri k x with ⟨b1,b2,b3,b4⟩|⟨b1,b2,b3⟩|⟨b1,b2,b3,b4⟩
      · simp only [ins,if_pos b1,if_neg a2,if_neg a3,if_pos h1]
      · subst b1
        simp only [ins,if_neg a2,if_neg a3,if_neg b2,if_pos h1,if_neg h2,if_neg h3,if_true]
      · simp only [ins,if_neg a2,if_neg a3,if_neg b2,if_neg b3,if_pos h1,if_neg h2,if_neg h3]
end Go.Pi
end
section
namespace Go.Pi
theorem putL_nil {α:Type} {x:Bs} {y:α}:putL [] x [] y=[y]:=by
 simp [putL]
theorem putL_cons {α:Type} {k x:Bs} {ns:List Bs} {a y:α} {l:List α}:putL (k::ns) x (a::l) y=if k<x then a::putL ns x l y else if k=x then y::l else y::a::l:=by
 by_cases h:k<x
 · have hb:Op.bytesLess k x=true:=by rw [gJ_];exact decide_eq_true h
   have e1:ey_ (k::ns) x=ey_ ns x+1:=by unfold ey_;rw [List.findIdx_cons];simp [hb]
   have e2:mi_ (k::ns) x=mi_ ns x+1:=by
    unfold mi_
    rw [e1]
    simp only [List.getD_cons_succ,List.length_cons,Nat.add_lt_add_iff_right]
    split<;>rfl
   rw [if_pos h]
   unfold putL
   rw [e1,e2];simp
 · have hb:Op.bytesLess k x=false:=by rw [gJ_];exact decide_eq_false h
   have e1:ey_ (k::ns) x=0:=by unfold ey_;rw [List.findIdx_cons];simp [hb]
   rw [if_neg h]
   unfold putL mi_
   rw [e1]
   by_cases h2:k=x
   · simp [h2]
   · simp [h2]
theorem kn_ {α:Type} (g:Bs × Int→α) (x:Bs) (y:Int):∀ l:List (Bs × Int),putL (l.map (·.1)) x (l.map g) (g (x,y))=(ins x y l).map g
 |[]=>by simp only [List.map_nil,ins,List.map_cons];exact putL_nil
 |(k,v)::l=>by
  simp only [List.map_cons,putL_cons,ins]
  split
  · rw [kn_ g x y l];rfl
  · split<;>rfl
end Go.Pi
end
section
namespace Go.Pi
def k0_ (n:Int):ax_:=ax_.mk 2 n [] [] []
def objJ (l:List (Bs × Int)):ax_:=ax_.mk 5 0 [] (l.map fun p=>k0_ p.2) (l.map (·.1))
end Go.Pi
end
section
namespace Go.Pi
def dval (l:Bs):Nat:=l.foldl (fun a c=>10*a+(c.toNat - 48)) 0
theorem dval_snoc (l:Bs) (c:UInt8):dval (l++[c])=10*dval l+(c.toNat - 48):=by simp [dval]
theorem fy_ {u:Nat} (h:u<10):(UInt8.ofNat (48+u)).toNat=48+u:=by
 rw [UInt8.toNat_ofNat'];omega
theorem h6_ (u:Nat):dval (Lib.decDigits u)=u:=by
 induction u using Nat.strongRecOn with
 |_ u ih=>
  rw [Lib.decDigits]
  by_cases h:u<10
  · rw [dif_pos h];simp only [dval,List.foldl_cons,List.foldl_nil,fy_ h];omega
  · rw [dif_neg h,dval_snoc,ih _ (by omega),fy_ (Nat.mod_lt _ (by decide))];omega
theorem dec_all (u:Nat):∀ c ∈ Lib.decDigits u,48≤c.toNat∧c.toNat≤57:=by
 induction u using Nat.strongRecOn with
 |_ u ih=>
  rw [Lib.decDigits]
  by_cases h:u<10
  · rw [dif_pos h];intro c hc
    rw [List.mem_singleton.1 hc,fy_ h];omega
  · rw [dif_neg h];intro c hc
    rcases List.mem_append.1 hc with hc|hc
    · exact ih _ (by omega) c hc
    · rw [List.mem_singleton.1 hc,fy_ (Nat.mod_lt _ (by decide))];omega
theorem lJ_ {u:Nat} {l:Bs}:Lib.decDigits u≠45::l:=fun e=>by
 have:=(dec_all u 45 (by rw [e];exact List.mem_cons_self ..)).1
 revert this;decide
theorem itoa_inj {x y:Int} (h:Lib.itoa x=Lib.itoa y):x=y:=by
 unfold Lib.itoa at h
 by_cases hx:x<0<;>by_cases hy:y<0
 · rw [if_pos hx,if_pos hy] at h
   have:=congrArg dval (List.cons.inj h).2
   rw [h6_,h6_] at this;omega
 · rw [if_pos hx,if_neg hy] at h;exact absurd h.symm lJ_
 · rw [if_neg hx,if_pos hy] at h;exact absurd h lJ_
 · rw [if_neg hx,if_neg hy] at h
   have:=congrArg dval h
   rw [h6_,h6_] at this;omega
def et_ (c:Int):Bs:=99::Lib.itoa c
theorem iT_ {x y:Int} (h:et_ x=et_ y):x=y:=itoa_inj (List.cons.inj h).2
def fk_ (r:TRow) (c:Int):Bs × Int:=(et_ c,dD_ r c)
def c7_ (ps:List (Bs × Int)) (l:List (Bs × Int)):List (Bs × Int):=ps.foldl (fun l p=>ins p.1 p.2 l) l
theorem gC_ (ps:List (Bs × Int)) (p:Bs × Int) (l:List (Bs × Int)):c7_ (ps++[p]) l=ins p.1 p.2 (c7_ ps l):=by simp [c7_]
theorem hq_:∀ (ps:List (Bs × Int)) {l:List (Bs × Int)},fs_ l→fs_ (c7_ ps l)
 |[],_,h=>h
 |p::ps,_,h=>hq_ ps (ins_asc h)
theorem f9_:∀ {ps:List (Bs × Int)} {l:List (Bs × Int)} {p:Bs × Int},p ∈ c7_ ps l→p ∈ ps∨p ∈ l
 |[],_,_,h=>.inr h
 |q::ps,l,p,h=>by
  rcases f9_ (ps:=ps) h with h|h
  · exact .inl (List.mem_cons_of_mem _ h)
  · rcases kA_ h with h|h
    · exact .inl (h ▸ List.mem_cons_self ..)
    · exact .inr h
theorem mq_ {x:Bs} {y:Int}:∀ {l:List (Bs × Int)},(ins x y l).length≤l.length+1
 |[]=>Nat.le_refl _
 |(k,v)::l=>by
  have:=mq_ (x:=x) (y:=y) (l:=l)
  simp only [ins]
  split
  · simp only [List.length_cons];omega
  · split<;>simp only [List.length_cons]<;>omega
theorem ga_:∀ {ps:List (Bs × Int)} {l:List (Bs × Int)},(c7_ ps l).length≤l.length+ps.length
 |[],_=>Nat.le_refl _
 |p::ps,l=>by
  have:=ga_ (ps:=ps) (l:=ins p.1 p.2 l)
  have h:=mq_ (x:=p.1) (y:=p.2) (l:=l)
  simp only [List.length_cons]
  show (c7_ ps (ins p.1 p.2 l)).length≤_
  omega
theorem ins_has {x:Bs} {y:Int}:∀ {l:List (Bs × Int)},fs_ l→(x,y) ∈ l→ins x y l=l
 |[],_,h=>by cases h
 |(k,v)::l,ha,h=>by
  simp only [ins]
  rcases List.mem_cons.1 h with e|h
  · cases e;rw [if_neg (List.lt_irrefl _),if_pos rfl]
  · have hk:=ha.1 _ h
    rw [if_pos hk,ins_has ha.2 h]
theorem hJ_ {x:Bs} {y:Int}:∀ {l:List (Bs × Int)},(x,y) ∈ ins x y l
 |[]=>List.mem_cons_self ..
 |(k,v)::l=>by
  simp only [ins]
  split
  · exact List.mem_cons_of_mem _ hJ_
  · split<;>exact List.mem_cons_self ..
theorem mem_ins {x x':Bs} {y y':Int} (hne:x≠x'):∀ {l:List (Bs × Int)},(x,y) ∈ l→(x,y) ∈ ins x' y' l
 |[],h=>by cases h
 |(k,v)::l,h=>by
  simp only [ins]
  split
  · rcases List.mem_cons.1 h with e|h
    · exact e ▸ List.mem_cons_self ..
    · exact List.mem_cons_of_mem _ (mem_ins hne h)
  · split
    · rename_i h1 h2
      rcases List.mem_cons.1 h with e|h
      · cases e;exact absurd h2 hne
      · exact List.mem_cons_of_mem _ h
    · exact List.mem_cons_of_mem _ h
def dy_ (l:List Int):Nat→List Int
 |0=>[]
 |i+1=>if l.getD i 0 ∈ l.take i then dy_ l i else dy_ l i++[l.getD i 0]
theorem hv_ {l:List Int}:∀ {i:Nat} {c:Int},i≤l.length→(c ∈ dy_ l i↔c ∈ l.take i)
 |0,c,_=>by simp [dy_]
 |i+1,c,h=>by
  simp only [dy_]
  rw [dm_ 0 (show i<l.length by omega)]
  split
  · rename_i hm
    rw [hv_ (by omega),List.mem_append,List.mem_singleton]
    exact ⟨.inl,fun h=>h.elim id fun e=>e ▸ hm⟩
  · rw [List.mem_append,List.mem_append,hv_ (by omega)]
theorem ge_ {l:List Int}:∀ {i:Nat},(dy_ l i).length≤i
 |0=>Nat.le_refl _
 |i+1=>by
  have:=ge_ (l:=l) (i:=i)
  simp only [dy_]
  split
  · omega
  · simp;omega
theorem fW_ {l:List Int}:∀ {i:Nat},i≤l.length→(dy_ l i).Nodup
 |0,_=>List.nodup_nil
 |i+1,h=>by
  simp only [dy_]
  split
  · exact fW_ (by omega)
  · rename_i hm
    rw [List.nodup_append]
    refine ⟨fW_ (by omega),by simp,fun a ha b hb => ?_⟩
    rw [List.mem_singleton.1 hb]
    rw [hv_ (by omega)] at ha
    exact fun e=>hm (e ▸ ha)
theorem n4_ {r:TRow} {l0:List (Bs × Int)} {cs:List Int} {c:Int} (h:c ∈ cs):fk_ r c ∈ c7_ (cs.map (fk_ r)) l0:=by
 induction cs generalizing l0 with
 |nil=>cases h
 |cons d cs ih=>
  show fk_ r c ∈ c7_ (cs.map (fk_ r)) (ins (et_ d) (dD_ r d) l0)
  by_cases hc:c ∈ cs
  · exact ih hc
  · have e:c=d:=(List.mem_cons.1 h).resolve_right hc
    subst e
    have key:∀ (es:List Int) (m:List (Bs × Int)),c ∉ es→fk_ r c ∈ m→fk_ r c ∈ c7_ (es.map (fk_ r)) m:=by
     intro es
     induction es with
     |nil=>exact fun m _ h=>h
     |cons e es ih=>
      intro m hn hm
      refine ih _ (fun h=>hn (List.mem_cons_of_mem _ h)) (mem_ins (fun h=>hn ?_) hm)
      rw [iT_ h];exact List.mem_cons_self ..
    exact key cs _ hc hJ_
theorem g1_ {r:TRow} {l0:List (Bs × Int)} (h0:fs_ l0) {l:List Int}:∀ {i:Nat},i≤l.length→c7_ ((dy_ l i).map (fk_ r)) l0=c7_ ((l.take i).map (fk_ r)) l0
 |0,_=>by simp [dy_]
 |i+1,h=>by
  rw [dm_ 0 (show i<l.length by omega),List.map_append]
  simp only [dy_]
  have ih:=g1_ (r:=r) h0 (l:=l) (i:=i) (by omega)
  have e:=gC_ ((l.take i).map (fk_ r)) (fk_ r (l.getD i 0)) l0
  split
  · rename_i hm
    rw [ih]
    refine Eq.symm (e.trans (ins_has (hq_ _ h0) (n4_ hm)))
  · rw [List.map_append]
    refine (gC_ _ _ _).trans ?_
    rw [ih]
    exact e.symm
theorem jT_ {x:Bs} {y:Int}:∀ {ps:List (Bs × Int)} {l:List (Bs × Int)},(∀ p ∈ ps,p.1≠x)→c7_ ps (ins x y l)=ins x y (c7_ ps l)
 |[],_,_=>rfl
 |p::ps,l,h=>by
  show c7_ ps (ins p.1 p.2 (ins x y l))=ins x y (c7_ ps (ins p.1 p.2 l))
  rw [nl_ (h p (List.mem_cons_self ..)),jT_ fun q hq=>h q (List.mem_cons_of_mem _ hq)]
end Go.Pi
end
section
namespace Go.Pi
theorem nU_ {k x:Bs} {ns:List Bs}:ey_ (k::ns) x=if k<x then ey_ ns x+1 else 0:=by
 by_cases h:k<x
 · have hb:Op.bytesLess k x=true:=by rw [gJ_];exact decide_eq_true h
   rw [if_pos h];unfold ey_;rw [List.findIdx_cons];simp [hb]
 · have hb:Op.bytesLess k x=false:=by rw [gJ_];exact decide_eq_false h
   rw [if_neg h];unfold ey_;rw [List.findIdx_cons];simp [hb]
theorem nE_ {x:Bs}:∀ {l:List (Bs × Int)},fs_ l→∀ h,h<(l.map (·.1)).length→Op.bytesLess ((l.map (·.1)).getD h []) x=decide (h<ey_ (l.map (·.1)) x)
 |[],_,h,hh=>by simp at hh
 |(k,v)::l,ha,h,hh=>by
  rw [gJ_]
  simp only [List.map_cons,nU_]
  cases h with
  |zero=>
   simp only [List.getD_cons_zero]
   by_cases hk:k<x
   · rw [if_pos hk,decide_eq_true hk];simp
   · rw [if_neg hk,decide_eq_false hk];simp
  |succ h=>
   have hh':h<(l.map (·.1)).length:=by simpa using hh
   simp only [List.getD_cons_succ]
   by_cases hk:k<x
   · have:=nE_ (x:=x) ha.2 h hh'
     rw [gJ_] at this
     rw [if_pos hk,this]
     simp
   · rw [if_neg hk]
     have hm:=bL_ (d:=([]:Bs)) (a:=l.map (·.1)) hh'
     obtain ⟨p,hp,e⟩:=List.mem_map.1 hm
     have:¬ (l.map (·.1)).getD h []<x:=fun h2=>by
      rw [←e] at h2
      exact hk (List.lt_trans (ha.1 p hp) h2)
     rw [decide_eq_false this];simp
theorem m9_ {ns:List Bs} {x:Bs} (h:x ∉ ns):mi_ ns x=ey_ ns x:=by
 unfold mi_
 rw [if_neg]
 rintro ⟨h1,h2⟩
 exact h (h1 ▸ bL_ [] h2)
theorem nW_ {α:Type} (d:α) {l:List α} (h:l.Nodup) {i:Nat} (hi:i<l.length):l.getD i d ∉ l.take i:=fun hm=>by
 have:=(List.take_sublist (i+1) l).nodup h
 rw [dm_ d hi,List.nodup_append] at this
 exact this.2.2 _ hm _ (List.mem_singleton.2 rfl) rfl
theorem h5_ {α β:Type} (f:α→β) (d:α) (e:β) {l:List α} {i:Nat} (h:i<l.length):(l.map f).getD i e=f (l.getD i d):=by
 rw [List.getD_eq_getElem?_getD,List.getD_eq_getElem?_getD,List.getElem?_map,List.getElem?_eq_getElem h];rfl
theorem kC_ {ps:List (Bs × Int)} (hl:ps.length≤2000000) (hnd:(ps.map (·.1)).Nodup):Ev (fun n _=>bx_ n (ps.map (·.1)) (ps.map (·.2))) (objJ (c7_ ps [])):=by
 refine aJ_ ?_
 simp only [bx_]
 let S:Nat→List ax_ × List Bs:=fun i=>((c7_ (ps.take i) []).map (fun p=>k0_ p.2),(c7_ (ps.take i) []).map (·.1))
 have:=g9_ S ps.length (fun n N i (s:List ax_ × List Bs)=>bx_.loop4 n (fun xy4 xy5 xy6 xy7 xy8 xy9 xy10 xy11=>(some (ax_.mk xy7 xy8 xy9 xy10 xy11))) N (ps.map (·.2)) (ps.map (·.1)) ((ps.map (·.1)).length:Int) (i:Int) 0 0 [] 5 0 [] s.1 s.2) (objJ (c7_ ps [])) (fun i hi F hF => ?_) ?_
 · exact this
 · obtain ⟨l,hlv⟩:∃ l,l=c7_ (ps.take i) []:=⟨_,rfl⟩
   obtain ⟨p,hp⟩:∃ p,p=ps.getD i ([],0):=⟨_,rfl⟩
   have e2:c7_ (ps.take (i+1)) []=ins p.1 p.2 l:=by rw [dm_ ([],0) hi,gC_,hlv,hp]
   have ha:fs_ l:=by rw [hlv];exact hq_ _ trivial
   have hll:l.length≤i:=by
    have:=ga_ (ps:=ps.take i) (l:=[])
    rw [←hlv] at this;simp at this;omega
   have hi1:i<(ps.map (·.1)).length:=by simpa using hi
   have hi2:i<(ps.map (·.2)).length:=by simpa using hi
   have hx:p.1 ∉ l.map (·.1):=fun hm=>by
    obtain ⟨q,hq,e⟩:=List.mem_map.1 hm
    rw [hlv] at hq
    have hq:=(f9_ hq).resolve_right (by simp)
    have:=nW_ [] hnd hi1
    rw [h5_ (·.1) ([],0) [] hi,←hp,←List.map_take] at this
    exact this (e ▸ List.mem_map_of_mem hq)
   have hps:((l.map (·.1)).length:Nat)=l.length:=by simp
   have hB:=jj_ (ns:=l.map (·.1)) (x:=p.1) (by simp;omega) (nE_ ha)
   have hA:ey_ (l.map (·.1)) p.1≤l.length:=by have:=List.findIdx_le_length (xs:=l.map (·.1)) (p:=fun y => !Op.bytesLess y p.1);simpa [ey_] using this
   have hN:Ev (fun n _=>b0_ n (l.map (·.1)) (ey_ (l.map (·.1)) p.1:Int) [p.1]) ((ins p.1 p.2 l).map (·.1)):=by
    refine aJ_ ?_
    have e:=kn_ (fun p=>p.1) p.1 p.2 l
    unfold putL at e
    rw [m9_ hx] at e
    simp only [b0_,eS_,aD_,ap_,ej_,Int.toNat_natCast,e]
    simp;omega
   have hJ:Ev (fun n _=>cb_ n (l.map fun p=>k0_ p.2) (ey_ (l.map (·.1)) p.1:Int) [k0_ p.2]) ((ins p.1 p.2 l).map fun p=>k0_ p.2):=by
    refine aJ_ ?_
    have e:=kn_ (fun p=>k0_ p.2) p.1 p.2 l
    unfold putL at e
    rw [m9_ hx] at e
    simp only [cb_,eS_,aD_,ap_,ej_,Int.toNat_natCast,e]
    simp;omega
   have g1:(ps.map (·.1)).getD i []=p.1:=by rw [h5_ (·.1) ([],0) [] hi,hp]
   have g2:(ps.map (·.2)).getD i 0=p.2:=by rw [h5_ (·.2) ([],0) 0 hi,hp]
   simp only [S,e2,←hlv] at hF ⊢
   unfold k0_ at hJ
   simp only [bx_.turn4,bx_.step4,Int.toNat_natCast,W_up hi1 (show (ps.map (·.1)).length≤bG_ by simp [bG_];omega),cw_ hi1,cp_ hi1,cp_ hi2,g1,g2,aD_,bA_,as_ hB,as_ hN]
   refine ⟨fun _=>⟨trivial,trivial,?_⟩,fun h=>(by cases h)⟩
   unfold k0_ at hF ⊢
   simp only [as_ hJ]
   exact hF
 · have e:((ps.map (·.1)).length:Int)=(ps.length:Int):=by simp
   simp only [bx_.turn4,bx_.step4,e,bZ_,cond_false,ap_,S,List.take_length]
   rfl
end Go.Pi
end
section
namespace Go.Pi
abbrev nmId:Bs:=[105,100]
abbrev nc_:Bs:=[107,105,100,115]
abbrev i64 (x:Int):Prop:=-9223372036854775808≤x∧x≤9223372036854775807
def iD_ (q:ae_) (kids:Int):List (Bs × Int):=cond q.kids [(nc_,kids)] []
def ov_ (q:ae_) (r:TRow) (kids:Int):List (Bs × Int):=c7_ (iD_ q kids) (ins nmId r.id_ (c7_ (q.show_.map (fk_ r)) []))
def gM_ (q:ae_) (r:TRow) (kids:Int):ax_:=objJ (ov_ q r kids)
theorem ls_ {q:ae_} {kids:Int}:(iD_ q kids).length≤1:=by unfold iD_;cases q.kids<;>simp
theorem FRowL_len {q:ae_} {r:TRow} {kids:Int}:(ov_ q r kids).length≤q.show_.length+2:=by
 have h1:=ga_ (ps:=q.show_.map (fk_ r)) (l:=[])
 have h2:=mq_ (x:=nmId) (y:=r.id_) (l:=c7_ (q.show_.map (fk_ r)) [])
 have h3:=ga_ (ps:=iD_ q kids) (l:=ins nmId r.id_ (c7_ (q.show_.map (fk_ r)) []))
 have h4:=ls_ (q:=q) (kids:=kids)
 simp at h1
 unfold ov_;omega
theorem mF_ {c:Int} (h:i64 c):(et_ c).length≤22:=by
 have:=Lib.itoa_length_le c h.1 h.2
 simp only [et_,List.length_cons];omega
theorem mU_ {q:ae_} {r:TRow} {kids:Int} (hs:∀ c ∈ q.show_,i64 c):∀ p ∈ ov_ q r kids,p.1.length≤22:=fun p hp=>by
 rcases f9_ hp with h|h
 · unfold iD_ at h
   cases hq:q.kids<;>rw [hq] at h
   · cases h
   · rw [List.mem_singleton.1 h];show nc_.length≤22;decide
 · rcases kA_ h with h|h
   · rw [h];show nmId.length≤22;decide
   · rcases f9_ h with h|h
     · obtain ⟨c,hc,e⟩:=List.mem_map.1 h
       rw [←e];exact mF_ (hs c hc)
     · cases h
theorem lM_ {c:Int}:et_ c≠nmId:=fun h=>by cases h
theorem mE_ {c:Int}:et_ c≠nc_:=fun h=>by cases h
def iM_ (q:ae_) (r:TRow) (kids:Int):List (Bs × Int):=(nmId,r.id_)::(dy_ q.show_ q.show_.length).map (fk_ r)++iD_ q kids
theorem implL_eq {q:ae_} {r:TRow} {kids:Int}:c7_ (iM_ q r kids) []=ov_ q r kids:=by
 have e:c7_ (iM_ q r kids) []=c7_ (iD_ q kids) (c7_ ((dy_ q.show_ q.show_.length).map (fk_ r)) (ins nmId r.id_ [])):=by
  show List.foldl _ _ _=_
  unfold iM_ c7_
  rw [List.foldl_append];rfl
 rw [e]
 unfold ov_
 rw [jT_ (fun p hp=>by obtain ⟨c,_,e⟩:=List.mem_map.1 hp;rw [←e];exact lM_),g1_ (l0:=[]) trivial (Nat.le_refl _),List.take_length]
theorem mr_ {q:ae_} {r:TRow} {kids:Int}:((iM_ q r kids).map (·.1)).Nodup:=by
 have hm:((dy_ q.show_ q.show_.length).map (fk_ r)).map (·.1)=(dy_ q.show_ q.show_.length).map et_:=by rw [List.map_map];rfl
 have hc:((dy_ q.show_ q.show_.length).map et_).Nodup:=by
  have:=fW_ (l:=q.show_) (Nat.le_refl _)
  unfold List.Nodup at this ⊢
  rw [List.pairwise_map]
  exact this.imp fun h e=>h (iT_ e)
 unfold iM_
 rw [List.cons_append,List.map_cons,List.nodup_cons,List.map_append,hm,List.nodup_append]
 refine ⟨fun h => ?_,hc,?_,fun a ha b hb => ?_⟩
 · rcases List.mem_append.1 h with h|h
   · obtain ⟨c,_,e⟩:=List.mem_map.1 h
     exact lM_ e
   · unfold iD_ at h;cases hq:q.kids<;>rw [hq] at h
     · cases h
     · have:=List.mem_singleton.1 h
       change nmId=nc_ at this
       revert this;decide
 · unfold iD_;cases q.kids<;>simp
 · obtain ⟨c,_,e⟩:=List.mem_map.1 ha
   unfold iD_ at hb;cases hq:q.kids<;>rw [hq] at hb
   · cases hb
   · have hb:=List.mem_singleton.1 hb
     rw [←e,hb];exact mE_
theorem implL_len {q:ae_} {r:TRow} {kids:Int}:(iM_ q r kids).length≤q.show_.length+2:=by
 have h1:=ge_ (l:=q.show_) (i:=q.show_.length)
 have h4:=ls_ (q:=q) (kids:=kids)
 unfold iM_;simp;omega
theorem FOwn_num {n:Int} (d:Nat):cx_ (d+1) (k0_ n)=cx_ 1 (k0_ n):=rfl
theorem FSize_obj (l:List (Bs × Int)) (d:Nat):cx_ (d+2) (objJ l)=cx_ 2 (objJ l):=by
 simp only [cx_]
 have:∀ m:List (Bs × Int),ic_ (cx_ (d+1)) (m.map fun p=>k0_ p.2)=ic_ (cx_ 1) (m.map fun p=>k0_ p.2):=by
  intro m
  induction m with
  |nil=>rfl
  |cons p m ih=>simp only [List.map_cons,ic_,FOwn_num d,ih]
 show cond (FOwn (objJ l)) (min 401 (1+ic_ (cx_ (d+1)) (l.map fun p=>k0_ p.2))) 401=cond (FOwn (objJ l)) (min 401 (1+ic_ (cx_ 1) (l.map fun p=>k0_ p.2))) 401
 rw [this]
theorem nj_ {n:Int}:∀ d,lo_ d (k0_ n)
 |0=>trivial
 |d+1=>⟨⟨Nat.zero_le _,Nat.zero_le _,fun x hx=>(by cases hx)⟩,Nat.zero_le _,fun x hx=>(by cases hx)⟩
theorem lenJ_obj {l:List (Bs × Int)} (hl:l.length≤2000000) (hn:∀ p ∈ l,p.1.length≤22):∀ d,lo_ d (objJ l)
 |0=>trivial
 |d+1=>⟨⟨Nat.zero_le _,by simp [objJ,bG_];omega,fun x hx=>by
   obtain ⟨p,hp,e⟩:=List.mem_map.1 hx
   rw [←e];have:=hn p hp;simp only [bG_];omega⟩,by simp [objJ,bG_];omega,fun x hx=>by
   obtain ⟨p,hp,e⟩:=List.mem_map.1 hx
   rw [←e];exact nj_ d⟩
theorem ni_ {q:ae_} {r:TRow} {kids:Int} (hq:q.show_.length≤1100000) (hs:∀ c ∈ q.show_,i64 c) (d:Nat):lo_ d (gM_ q r kids) :=
 lenJ_obj (by have:=FRowL_len (q:=q) (r:=r) (kids:=kids);omega) (mU_ hs) d
end Go.Pi
end
section
namespace Go.Pi
theorem js_ {x:Int} (h0 : -9223372036854775808≤x) (h1:x≤9223372036854775807):Ev (fun n _=>dt_ n x) (Lib.itoa x):=by
 refine aJ_ ?_
 have:=Itoa_ev h0 h1
 simp only [dt_,as_ this,ap_]
end Go.Pi
end
section
namespace Go.Pi
theorem jh_ {l:List Int} {x:Int} (hl:l.length≤bG_):Ev (fun n _=>bU_ n l x) (decide (x ∈ l)):=by
 have h:Ev (fun n _=>aZ_ n l x) (if l.findIdx (fun y=>x == y)<l.length then ((l.findIdx (fun y=>x == y):Nat):Int) else -1):=by
  refine aJ_ ?_
  rw [←eA_ 0]
  simp only [aZ_]
  refine gG_ (fun n N i=>aZ_.loop3 n (some (-1)) N l x (l.length:Int) (i:Int)) _ (fun i u hi ih => ?_) ?_
  · simp only [aZ_.turn3,aZ_.step3,Int.toNat_natCast,W_up hi hl,aD_,bA_,ap_,cF_ ih,cw_ hi,cp_ hi]
    clear ih
    cases (x == l.getD i 0)<;>simp
  · simp only [aZ_.turn3,aZ_.step3,bZ_,cond_false,ap_]
 refine aJ_ ?_
 simp only [bU_,as_ h,ap_]
 have e:(l.findIdx (fun y=>x == y)<l.length)↔x ∈ l:=by
  rw [List.findIdx_lt_length];simp
 by_cases hm:x ∈ l
 · rw [if_pos (e.2 hm),decide_eq_true hm,decide_eq_true (by omega)]
 · rw [if_neg (fun h=>hm (e.1 h)),decide_eq_false hm];rfl
section
variable {q:ae_} {r:TRow} {kids:Int} (hq:q.show_.length≤1100000) (hs:∀ c ∈ q.show_,i64 c) (hr:r.cells.length≤bG_)
include hq hs hr
theorem jx_:Ev (fun n _=>bp_ n q r kids) (eo_ (gM_ q r kids)):=by
 refine aJ_ ?_
 simp only [bp_]
 have hO:Ev (fun n _=>bx_ n ((iM_ q r kids).map (·.1)) ((iM_ q r kids).map (·.2))) (gM_ q r kids):=by
  have:=kC_ (ps:=iM_ q r kids) (by have:=implL_len (q:=q) (r:=r) (kids:=kids);omega) mr_
  rw [implL_eq] at this;exact this
 have hR:=le_ (ni_ (r:=r) (kids:=kids) hq hs 6)
 have e1:∀ i,((dy_ q.show_ i).map (fk_ r)).map (·.1)=(dy_ q.show_ i).map et_:=fun i=>by rw [List.map_map];rfl
 have e2:∀ i,((dy_ q.show_ i).map (fk_ r)).map (·.2)=(dy_ q.show_ i).map (dD_ r):=fun i=>by rw [List.map_map];rfl
 let S:Nat→List Bs × List Int:=fun i=>(nmId::(dy_ q.show_ i).map et_,r.id_::(dy_ q.show_ i).map (dD_ r))
 have:=g9_ S q.show_.length (fun n N i (s:List Bs × List Int)=>bp_.loop4 n (fun xy4 xy5 xy6 xy7 xy8 xy9 xy10 xy11 xy12 xy13 xy14 xy15 xy16 xy17 xy18=>(cond xy11 (cl_ (xy17.length+([[107,105,100,115]]:List Bs).length) 16 (cl_ (xy18.length+([xy4]:List Int).length) 8 ((bx_ n (xy17++([[107,105,100,115]]:List Bs)) (xy18++([xy4]:List Int))).bind fun xr19=>((cE_ n (ax_.re xr19)).bind fun xr20=>(some (ax_.re xr20)))))) ((bx_ n xy17 xy18).bind fun xr21=>((cE_ n (ax_.re xr21)).bind fun xr22=>(some (ax_.re xr22)))))) N kids q.show_ (q.show_.length:Int) (i:Int) q.table q.where_ q.order q.down q.first q.show_ q.kids q.kidTable q.kidCol r.id_ r.cells 0 0 [] s.1 s.2) (eo_ (gM_ q r kids)) (fun i hi F hF => ?_) ?_
 · exact this
 · have hc:=hs _ (bL_ 0 hi)
   have hd:=Lib.itoa_length_le _ hc.1 hc.2
   have hf:=ge_ (l:=q.show_) (i:=i)
   have e0:TRow.mk r.id_ r.cells=r:=rfl
   have e3:([99]:Bs)++Lib.itoa (q.show_.getD i 0)=et_ (q.show_.getD i 0):=rfl
   have hI:Ev (fun n _=>bU_ n (q.show_.take i) (q.show_.getD i 0)) (decide (q.show_.getD i 0 ∈ q.show_.take i)):=jh_ (by simp [bG_];omega)
   simp only [bp_.turn4,bp_.step4,Int.toNat_natCast,W_up hi (show q.show_.length≤bG_ by simp only [bG_];omega),cw_ hi,cp_ hi,e0,e3,List.drop_zero,aD_,bA_,kM_,ej_,ch_,as_ hI,as_ (js_ hc.1 hc.2),as_ (f0_ hr)]
   refine ⟨fun _=>⟨trivial,⟨by omega,by omega,by omega⟩,fun hm => ?_,fun hm=>⟨fun _=>⟨by simp [S];omega,by simp [S];omega,?_⟩,fun h => ?_⟩⟩,fun h=>(by cases h)⟩
   · have hm:=of_decide_eq_true hm
     simp only [S,dy_,if_pos hm] at hF ⊢
     exact hF
   · have hm:=of_decide_eq_false hm
     simp only [S,dy_,if_neg hm,List.map_append,List.map_cons,List.map_nil] at hF ⊢
     exact hF
   · have h:=of_decide_eq_false h
     simp only [List.length_singleton] at h;omega
 · have hf:=ge_ (l:=q.show_) (i:=q.show_.length)
   simp only [bp_.turn4,bp_.step4,bZ_,cond_false,S,es_,aD_,ch_]
   unfold iM_ iD_ at hO
   refine ⟨fun h=>⟨by simp;omega,by simp;omega,?_⟩,fun h => ?_⟩
   · rw [h] at hO
     simp only [cond_true,List.cons_append,List.map_cons,List.map_append,e1,e2,List.map_nil] at hO
     simp only [List.cons_append,as_ hO,as_ hR,ap_]
   · rw [h] at hO
     simp only [cond_false,List.append_nil,List.map_cons,e1,e2] at hO
     simp only [as_ hO,as_ hR,ap_]
end
end Go.Pi
end
section
namespace Go.Pi
structure Tkeyed where
 key:Int
 value:ax_
def Tkeyed.dflt:Tkeyed:=Tkeyed.mk 0 ax_.dflt
end Go.Pi
end
section
namespace Go.Pi
end Go.Pi
end
section
namespace Go.Pi
end Go.Pi
end
section
namespace Go.Pi
def gN_ (kids:List TKid) (id:Int):Int:=eO_ (fun i x=>cond ((kids.getD i TKid.dflt).id_ == id) (kids.getD i TKid.dflt).n_ x) 0 kids.length 0
theorem jy_ {v:bd_} {id:Int} (h:v.kids.length≤bG_):Ev (fun n _=>bF_ n v id) (gN_ v.kids id):=by
 refine aJ_ ?_
 simp only [bF_]
 refine gG_ (fun n N i=>bF_.loop3 n (some 0) N id v.kids (v.kids.length:Int) (i:Int)) _ (fun i u hi ih => ?_) ?_
 · simp only [bF_.turn3,bF_.step3,Int.toNat_natCast,W_up hi h,aD_,bA_,ap_,cF_ ih,cw_ hi,cp_ hi]
   cases ((v.kids.getD i TKid.dflt).id_ == id)<;>simp
 · simp only [bF_.turn3,bF_.step3,bZ_,cond_false,ap_]
def fD_ (v:bd_):List Int:=v.rows.map fun r=>gN_ v.kids r.id_
theorem view_eta (v:bd_):bd_.mk (ae_.mk v.q.table v.q.where_ v.q.order v.q.down v.q.first v.q.show_ v.q.kids v.q.kidTable v.q.kidCol) v.rows v.kids=v:=rfl
theorem g2_ {v:bd_} (h:v.kids.length≤bG_) (hr:v.rows.length≤cX_):Ev (fun n _=>aU_ n v) (fD_ v):=by
 refine aJ_ ?_
 have hl:=hr
 simp only [cX_] at hl
 simp only [aU_]
 refine lH_ TRow.dflt v.rows (fun r=>gN_ v.kids r.id_) (fun n N i s=>aU_.loop4 n (fun xy2=>(some xy2)) N v.rows (v.rows.length:Int) (i:Int) v.q.table v.q.where_ v.q.order v.q.down v.q.first v.q.show_ v.q.kids v.q.kidTable v.q.kidCol v.rows v.kids s) (fD_ v) (fun i s hi hs F hF => ?_) ?_
 · simp only [aU_.turn4,aU_.step4,view_eta,Int.toNat_natCast,W_up hi (show v.rows.length≤bG_ by simp only [bG_];omega),aD_,bA_,as_ (jy_ (v:=v) (id:=(v.rows.getD i TRow.dflt).id_) h),ch_,cw_ hi,cp_ hi]
   exact ⟨fun _=>⟨trivial,by simp;omega,hF⟩,fun h=>by cases h⟩
 · simp only [aU_.turn4,aU_.step4,bZ_,cond_false,ap_];rfl
def fl_ (q:ae_) (n:Nat):Nat:=if q.first=0 then n else min n q.first.toNat
theorem iI_ {q:ae_} {n:Nat}:Ev (fun m _=>dg_ m q (n:Int)) (fl_ q n:Int):=by
 refine aJ_ ?_
 simp only [dg_,aD_,ap_,fl_]
 refine ⟨fun h=>by rw [if_pos (by simpa using h)],fun h => ?_⟩
 rw [if_neg (by simpa using h)]
 by_cases h1:(0:Int) > q.first
 · rw [decide_eq_true h1,cond_true]
   rw [decide_eq_false (by omega),cond_false];omega
 · rw [decide_eq_false h1,cond_false]
   by_cases h2:(n:Int)<q.first
   · rw [decide_eq_true h2,cond_true];omega
   · rw [decide_eq_false h2,cond_false];omega
end Go.Pi
end
section
namespace Go.Pi
def gn_ (g:ax_→ax_) (q:ae_) (rows:List TRow) (kids:List Int) (m:Nat):List ax_:=(List.range m).map fun i=>g (gM_ q (rows.getD i TRow.dflt) (kids.getD i 0))
theorem oy_ {g:ax_→ax_} {q:ae_} {rows:List TRow} {kids:List Int} {m:Nat}:gn_ g q rows kids (m+1)=gn_ g q rows kids m++[g (gM_ q (rows.getD m TRow.dflt) (kids.getD m 0))]:=by
 unfold gn_;rw [List.range_succ,List.map_append];rfl
theorem je_ {g:ax_→ax_} {q:ae_} {rows:List TRow} {kids:List Int} {m:Nat}:(gn_ g q rows kids m).length=m:=by unfold gn_;simp
abbrev nmCount:Bs:=[99,111,117,110,116]
abbrev nmRows:Bs:=[114,111,119,115]
def hf_ (n:Nat) (docs:List ax_):ax_:=ax_.mk 5 0 [] [k0_ n,ax_.mk 4 0 [] docs []] [nmCount,nmRows]
theorem l0_ {q:ae_} {n:Nat}:fl_ q n≤n:=by unfold fl_;split<;>omega
def FDoc (q:ae_) (rows:List TRow) (kids:List Int):ax_:=eo_ (hf_ rows.length (gn_ id q rows kids (fl_ q rows.length)))
theorem nY_ {n:Nat} {docs:List ax_} (hl:docs.length≤bG_) (hd:∀ j ∈ docs,lo_ 4 j):lo_ 6 (hf_ n docs):=by
 refine ⟨⟨Nat.zero_le _,by show 2≤bG_;decide,fun x hx => ?_⟩,by show 2≤bG_;decide,fun x hx => ?_⟩
 · rcases List.mem_cons.1 hx with e|hx
   · rw [e];show 5≤bG_;decide
   · rw [List.mem_singleton.1 hx];show 4≤bG_;decide
 · rcases List.mem_cons.1 hx with e|hx
   · rw [e];exact nj_ 5
   · rw [List.mem_singleton.1 hx]
     exact ⟨⟨Nat.zero_le _,Nat.zero_le _,fun x hx=>(by cases hx)⟩,hl,hd⟩
theorem whole_bad {n:Nat} {docs:List ax_} {j:ax_} (hj:j ∈ docs) (hb:cx_ 4 j=401):dP_ (hf_ n docs)=false:=by
 refine decide_eq_false fun h => ?_
 have h1:=l9_ (cx_ 4) hj
 have h2:cx_ 5 (ax_.mk 4 0 [] docs [])=401:=by
  show cond (FOwn _) (min 401 (1+ic_ (cx_ 4) docs)) 401=401
  cases FOwn (ax_.mk 4 0 [] docs [])<;>simp only [cond_true,cond_false]
  omega
 have h3:cx_ 6 (hf_ n docs)=401:=by
  show cond (FOwn _) (min 401 (1+(cx_ 5 (k0_ n)+(cx_ 5 (ax_.mk 4 0 [] docs [])+0)))) 401=401
  rw [h2]
  cases FOwn (hf_ n docs)<;>simp only [cond_true,cond_false]
  omega
 omega
theorem ke_ {q:ae_} {r:TRow} {kids:Int} (d:Nat):cx_ (d+2) (gM_ q r kids)=cx_ 2 (gM_ q r kids):=FSize_obj _ d
theorem lenJ_docs {q:ae_} {rows:List TRow} {kids:List Int} (hq:q.show_.length≤1100000) (hs:∀ c ∈ q.show_,i64 c) (hl:rows.length≤2000000) {m:Nat} (hm:m≤rows.length):lo_ 6 (hf_ rows.length (gn_ id q rows kids m)):=by
 refine nY_ (by rw [je_];simp only [bG_];omega) fun j hj => ?_
 obtain ⟨i,_,e⟩:=List.mem_map.1 hj
 rw [←e];exact ni_ hq hs 4
theorem ji_ {l:List ax_} (hl:l.length≤bG_):Ev (fun n _=>a2_ n l) (decide (∃ j ∈ l,j.kind=0)):=by
 have hf:∀ j:ax_,Ev (fun n _=>cW_ n j) (j.kind == 0):=fun j=>aJ_ (by simp only [cW_,ap_])
 have h:Ev (fun n _=>aj_ n l) (if l.findIdx (fun j=>j.kind == 0)<l.length then ((l.findIdx (fun j=>j.kind == 0):Nat):Int) else -1):=by
  refine aJ_ ?_
  rw [←eA_ ax_.dflt]
  simp only [aj_]
  refine gG_ (fun n N i=>aj_.loop3 n (some (-1)) N l (l.length:Int) (i:Int)) _ (fun i u hi ih => ?_) ?_
  · simp only [aj_.turn3,aj_.step3,es_,Int.toNat_natCast,W_up hi hl,aD_,bA_,as_ (hf _),ap_,cF_ ih,cw_ hi,cp_ hi]
    clear ih
    cases ((l.getD i ax_.dflt).kind == 0)<;>simp
  · simp only [aj_.turn3,aj_.step3,bZ_,cond_false,ap_]
 refine aJ_ ?_
 simp only [a2_,as_ h,ap_]
 have e:(l.findIdx (fun j=>j.kind == 0)<l.length)↔∃ j ∈ l,j.kind=0:=by
  rw [List.findIdx_lt_length];simp
 by_cases hm:∃ j ∈ l,j.kind=0
 · rw [if_pos (e.2 hm),decide_eq_true hm,decide_eq_true (by omega)]
 · rw [if_neg (fun h=>hm (e.1 h)),decide_eq_false hm];rfl
section
variable {q:ae_} {rows:List TRow} {kids:List Int} (hq:q.show_.length≤1100000) (hs:∀ c ∈ q.show_,i64 c) (hr:e0_ bG_ rows) (hl:rows.length≤2000000)
include hq hs hr hl
theorem iG_ (hk:kids.length≤bG_):Ev (fun n _=>bj_ n q rows kids) (gn_ eo_ q rows kids (fl_ q rows.length)):=by
 refine aJ_ ?_
 have hF:=l0_ (q:=q) (n:=rows.length)
 simp only [bj_,as_ iI_,kM_,Int.toNat_natCast,List.drop_zero]
 refine ⟨⟨by omega,by omega,by omega⟩,?_⟩
 have eq0:ae_.mk q.table q.where_ q.order q.down q.first q.show_ q.kids q.kidTable q.kidCol=q:=rfl
 generalize hm:fl_ q rows.length=m at hF
 have hml:(rows.take m).length=m:=by simp;omega
 have:=g9_ (gn_ eo_ q rows kids) m (fun n N i (s:List ax_)=>bj_.loop4 n (fun xy4=>(some xy4)) N kids (rows.take m) ((rows.take m).length:Int) (i:Int) q.table q.where_ q.order q.down q.first q.show_ q.kids q.kidTable q.kidCol s) (gn_ eo_ q rows kids m) (fun i hi F hF' => ?_) ?_
 · exact this
 · have hR:∀ k,Ev (fun n _=>bp_ n q (rows.getD i TRow.dflt) k) (eo_ (gM_ q (rows.getD i TRow.dflt) k)):=fun k=>jx_ hq hs (dC_ hr i)
   rw [oy_] at hF'
   have hlen:=je_ (g:=eo_) (q:=q) (rows:=rows) (kids:=kids) (m:=i)
   generalize gn_ eo_ q rows kids i=s at hF' hlen
   have hil:i<(rows.take m).length:=by omega
   have eg:(rows.take m).getD i TRow.dflt=rows.getD i TRow.dflt:=by rw [List.getD_eq_getElem?_getD,List.getD_eq_getElem?_getD,List.getElem?_take_of_lt hi]
   simp only [bj_.turn4,bj_.step4,eq0,Int.toNat_natCast,es_,eg,W_up hil (show (rows.take m).length≤bG_ by simp only [bG_];omega),cw_ hil,cp_ hil,as_ (hR _),cond_true,aD_,bA_,ch_]
   refine ⟨trivial,fun h=>⟨⟨by omega,by have:=of_decide_eq_true h;omega⟩,by simp;omega,hF'⟩,fun h=>⟨by simp;omega,?_⟩⟩
   have h:=of_decide_eq_false h
   have e:kids.getD i 0=0:=by rw [List.getD_eq_getElem?_getD,List.getElem?_eq_none (by omega)];rfl
   rw [e] at hF';exact hF'
 · have e:(((rows.take m).length:Nat):Int)=(m:Int):=by rw [hml]
   simp only [bj_.turn4,bj_.step4,e,bZ_,cond_false,ap_]
theorem g7_ (hk:kids.length≤bG_):Ev (fun n _=>do_ n q rows kids) (FDoc q rows kids):=by
 refine aJ_ ?_
 have hF:=l0_ (q:=q) (n:=rows.length)
 have hC:=ji_ (l:=gn_ eo_ q rows kids (fl_ q rows.length)) (by rw [je_];simp only [bG_];omega)
 simp only [do_,as_ (iG_ hq hs hr hl hk),as_ hC,aD_,ap_]
 have hbad:∀ i,i<fl_ q rows.length→dP_ (gM_ q (rows.getD i TRow.dflt) (kids.getD i 0))=false→FDoc q rows kids=nullJ:=fun i hi hb=>by
  have h4:cx_ 4 (gM_ q (rows.getD i TRow.dflt) (kids.getD i 0))=401:=by
   have h6:¬ cx_ 6 (gM_ q (rows.getD i TRow.dflt) (kids.getD i 0))≤400:=of_decide_eq_false hb
   have:=nK_ 6 (gM_ q (rows.getD i TRow.dflt) (kids.getD i 0))
   rw [ke_ 4] at h6 this
   rw [ke_ 2];omega
  have:dP_ (hf_ rows.length (gn_ id q rows kids (fl_ q rows.length)))=false :=
   whole_bad (List.mem_map.2 ⟨i,List.mem_range.2 hi,rfl⟩) h4
  unfold FDoc eo_;rw [this];rfl
 refine ⟨fun h => ?_,fun h => ?_⟩
 · obtain ⟨j,hj,hk⟩:=of_decide_eq_true h
   obtain ⟨i,hi,e⟩:=List.mem_map.1 hj
   rw [hbad i (List.mem_range.1 hi)];· rfl
   rw [←e] at hk
   cases ho:dP_ (gM_ q (rows.getD i TRow.dflt) (kids.getD i 0)) with
   |false=>rfl
   |true=>unfold eo_ at hk;rw [ho] at hk;cases hk
 · have h:=of_decide_eq_false h
   have e:gn_ eo_ q rows kids (fl_ q rows.length)=gn_ id q rows kids (fl_ q rows.length):=by
    refine List.map_congr_left fun i hi => ?_
    cases ho:dP_ (gM_ q (rows.getD i TRow.dflt) (kids.getD i 0)) with
    |true=>unfold eo_;rw [ho];rfl
    |false=>exact absurd ⟨_,List.mem_map.2 ⟨i,hi,rfl⟩,by unfold eo_;rw [ho];rfl⟩ h
   rw [e]
   have hw:=le_ (lenJ_docs hq hs hl (kids:=kids) hF)
   unfold hf_ k0_ at hw
   simp only [es_,as_ hw,ap_]
   rfl
end
end Go.Pi
end
section
namespace Go.Pi
def gi_ (v:bd_):ax_:=FDoc v.q v.rows (fD_ v)
theorem mV_ {v:bd_}:(fD_ v).length=v.rows.length:=by unfold fD_;simp
theorem e0_.top {r:List TRow} (h:e0_ cap r):e0_ bG_ r:=⟨Nat.le_trans h.1 (by decide),fun x hx=>Nat.le_trans (h.2 x hx) (by decide)⟩
section
variable {v:bd_} (h:kt_ cap v) (hs:∀ c ∈ v.q.show_,i64 c)
include h hs
theorem iJ_:Ev (fun n _=>dh_ n v) (gi_ v):=by
 refine aJ_ ?_
 have h1:=h.1.2;have h2:=h.2.1.1;have h3:=h.2.2
 simp only [cap] at h1 h2 h3
 have hc:=mV_ (v:=v)
 have hD:=g7_ (q:=v.q) (rows:=v.rows) (kids:=fD_ v) (by omega) hs h.2.1.top (by omega) (by simp only [bG_];omega)
 simp only [dh_,es_,as_ (g2_ (v:=v) (by simp only [bG_];omega) (by simp only [cX_];omega)),as_ hD,ap_]
 rfl
end
end Go.Pi
end
section
namespace Go.Pi
end Go.Pi
end
section
namespace Go.Pi
end Go.Pi
end
section
namespace Go.Pi
end Go.Pi
end
section
namespace Go.Pi
end Go.Pi
end
section
namespace Go.Pi
end Go.Pi
end
section
namespace Go.Pi
end Go.Pi
end
section
namespace Go.Pi
def jc_ (a b:ax_):Bool:=dP_ a&&(dP_ b&&hi_ 6 a b)
theorem hX_ {a b:ax_} (ha:lo_ 6 a) (hb:lo_ 6 b):Ev (fun n _=>cV_ n a b) (jc_ a b):=by
 refine aJ_ ?_
 simp only [cV_,es_,as_ (fc_ ha),as_ (fc_ hb),aD_,ap_,jc_]
 cases h1:dP_ a with
 |false=>simp
 |true=>
  have hd:deepJ 6 a:=kd_ 6 a (of_decide_eq_true h1)
  simp only [as_ (g4_ 6 a b hd ha),ap_]
  cases dP_ b<;>simp
end Go.Pi
end
section
namespace Go.Pi
end Go.Pi
end
section
namespace Go.Pi
end Go.Pi
end
section
namespace Go.Pi
end Go.Pi
end
section
namespace Go.Pi
end Go.Pi
end
section
namespace Go.Pi
def dv_ (v:bd_) (l:List aI_):bd_:=l.foldl f4_ v
theorem mW_ {c:Nat} {v:bd_} {x:aI_} (h:kt_ c v) (hx:oB_ c x):kt_ (c+2) (f4_ v x):=by
 have hr:e0_ (c+1) (i4_ v x):=by
  have h1:=jd_ (id:=x.old.id_) h.2.1
  unfold i4_
  cases (x.table == v.q.table)<;>cases (x.has&&cj_ v.q x.new)<;>cases x.had<;>simp only [cond_true,cond_false]
  all_goals (first|exact kW_ h1 hx.2|exact kW_ h.2.1 hx.2|exact h1.upto (by omega)|exact h.2.1.upto (by omega))
 have hk:(i5_ v x).length≤c+2:=by
  have h0:=h.2.2
  have h1:=h9_ (kids:=v.kids) (id:=dD_ x.old v.q.kidCol) (by_:=-1)
  have h2:=h9_ (kids:=v.kids) (id:=dD_ x.new v.q.kidCol) (by_:=1)
  have h3:=h9_ (kids:=FKid v.kids (dD_ x.old v.q.kidCol) (-1)) (id:=dD_ x.new v.q.kidCol) (by_:=1)
  unfold i5_
  cases (v.q.kids&&(x.table == v.q.kidTable))<;>cases x.has<;>cases x.had<;>simp only [cond_true,cond_false]<;>omega
 exact ⟨⟨Nat.le_trans h.1.1 (by omega),Nat.le_trans h.1.2 (by omega)⟩,hr.upto (by omega),hk⟩
theorem l1_ {c:Nat} {v:bd_} {l:List aI_} (h:kt_ c v) (hl:∀ x ∈ l,oB_ c x):kt_ (c+2*l.length) (dv_ v l):=by
 have key:∀ (l:List aI_) (d:Nat) (v:bd_),c≤d→kt_ d v→(∀ x ∈ l,oB_ c x)→kt_ (d+2*l.length) (dv_ v l):=by
  intro l
  induction l with
  |nil=>intro d v _ h _;exact h
  |cons x l ih=>
   intro d v hd h hl
   have hx:=hl x (List.mem_cons_self ..)
   have:=ih (d+2) (f4_ v x) (by omega) (mW_ h ⟨Nat.le_trans hx.1 hd,Nat.le_trans hx.2 hd⟩) (fun y hy=>hl y (List.mem_cons_of_mem _ hy))
   simp only [List.length_cons]
   rw [show d+2*(l.length+1)=d+2+2*l.length by omega]
   exact this
 exact key l c v (Nat.le_refl _) h hl
section
variable {v:bd_} {l:List aI_} (h:kt_ cap v) (hl:l.length≤cap) (hx:∀ x ∈ l,oB_ cap x)
include h hl hx
omit hl in
theorem lP_ {i:Nat} (hi:i<l.length):kt_ (cap+2*i) (dv_ v (l.take i))∧oB_ (cap+2*i) (l.getD i aI_.dflt)∧dv_ v (l.take (i+1))=f4_ (dv_ v (l.take i)) (l.getD i aI_.dflt):=by
 refine ⟨?_,?_,?_⟩
 · have:=l1_ (l:=l.take i) h fun x h=>hx x (List.mem_of_mem_take h)
   rwa [List.length_take,Nat.min_eq_left (by omega)] at this
 · have:=hx _ (bL_ aI_.dflt hi)
   exact ⟨Nat.le_trans this.1 (by omega),Nat.le_trans this.2 (by omega)⟩
 · rw [dm_ aI_.dflt hi];simp only [dv_,List.foldl_append,List.foldl_cons,List.foldl_nil]
theorem gD_:Ev (fun n _=>aQ_ n v l) (dv_ v l):=by
 refine aJ_ ?_
 simp only [cap] at hl
 have ht:l.length≤bG_:=by simp only [bG_];omega
 simp only [aQ_,j7_ (h.upto (show cap≤cX_ by decide))]
 refine g9_ (fun i=>dv_ v (l.take i)) l.length (fun n N i (s:bd_)=>aQ_.loop4 n (fun xy3 xy4 xy5 xy6 xy7 xy8 xy9 xy10 xy11 xy12 xy13 xy14 xy15 xy16 xy17 xy18 xy19 xy20=>(some (bd_.mk (ae_.mk xy10 xy17 xy11 xy12 xy13 xy18 xy14 xy15 xy16) xy19 xy20))) N l (l.length:Int) (i:Int) 0 0 false 0 false 0 0 s.q.table s.q.order s.q.down s.q.first s.q.kids s.q.kidTable s.q.kidCol s.q.where_ s.q.show_ s.rows s.kids) _ (fun i hi F hF => ?_) ?_
 · obtain ⟨a,b,e⟩:=lP_ h hx hi
   have hs:=g5_ a b (by simp only [cX_,cap];omega)
   rw [e] at hF
   simp only [aQ_.turn4,aQ_.step4,Int.toNat_natCast,W_up hi ht,aD_,bA_,cw_ hi,cp_ hi]
   refine ⟨fun _=>⟨trivial,?_⟩,fun h=>by cases h⟩
   exact (as_ hs).2 hF
 · simp only [aQ_.turn4,aQ_.step4,bZ_,cond_false,ap_,List.take_length]
end
end Go.Pi
end
section
namespace Go.Pi
end Go.Pi
end
section
namespace Go.Pi
end Go.Pi
end
section
namespace Go.Pi
end Go.Pi
end
section
namespace Go.Pi
end Go.Pi
end
section
namespace Go.Pi
theorem k7_ {s:au_} (h1:1≤s.cols.length) (h3:s.cols.length≤3) (h:∀ x ∈ s.cols,1≤x∧x≤4):cy_ s=true:=by
 unfold cy_
 rw [Bool.and_eq_true]
 exact ⟨cY_.2 fun i hi=>cS_.2 (h _ (bL_ 0 hi)),cS_.2 (by omega)⟩
structure ScIs (s:au_):Prop where
 one:1≤s.cols.length
 three:s.cols.length≤3
 col:∀ x ∈ s.cols,1≤x∧x≤4
theorem dJ_ {s:au_} (h:cy_ s=true):ScIs s:=by
 unfold cy_ at h
 rw [Bool.and_eq_true] at h
 have h2:=dT_ h.2
 refine ⟨by omega,by omega,fun x hx => ?_⟩
 obtain ⟨i,hi,rfl⟩:=List.mem_iff_getElem.1 hx
 have:=dT_ (cY_.1 h.1 i hi)
 rwa [List.getD_eq_getElem?_getD,List.getElem?_eq_getElem hi,Option.getD_some] at this
theorem hT_ {c:aw_} (hc:DwOk c):Ans (fun n _=>aC_ n c) fun r=>cy_ r.1=true∧DwOk r.2:=by
 have key:∀ (m i:Nat) (c:aw_) (o:List Int),i+m=3→DwOk c→o.length=i→(∀ x ∈ o,1≤x∧x≤4) →
   Ans (fun n N=>aC_.loop4 n (fun xy3 xy4 xy5 xy6=>(some ((au_.mk xy6),(aw_.mk xy3 xy4 xy5)))) N (i:Int) c.b c.i c.h o) fun r=>cy_ r.1=true∧DwOk r.2:=by
  intro m
  induction m with
  |zero=>
   intro i c o hi hc ho hx
   refine bY_ ?_
   simp only [aC_.turn4,aC_.step4,b5_]
   refine a4_ (a9_ hc) fun r hr => ?_
   have h1:=hr.lo;have h2:=hr.hi
   rw [Wn (by omega) (by omega),decide_eq_false (by omega)]
   simp only [cond_false,b5_,b3_]
   exact ⟨k7_ (by show 1≤o.length;omega) (by show o.length≤3;omega) hx,hr.cur⟩
  |succ m ih=>
   intro i c o hi hc ho hx
   refine bY_ ?_
   simp only [aC_.turn4,aC_.step4,b5_]
   refine a4_ (a9_ hc) fun r hr => ?_
   have h1:=hr.lo;have h2:=hr.hi
   simp only [cu_,b5_,b3_]
   refine ⟨fun _=>a4_ (a9_ hr.cur) fun r2 hr2 => ?_,fun hn => ?_⟩
   · have h1:=hr2.lo;have h2:=hr2.hi
     have e1:W ((i:Int)+1)=((i+1:Nat):Int):=by rw [Wn (by omega) (by omega)];rfl
     rw [Wn (x:=1+r2.1) (by omega) (by omega),e1]
     simp only [ek_]
     refine ⟨by simp;omega,ih (i+1) r2.2 _ (by omega) hr2.cur (by simp;omega) fun x hx' => ?_⟩
     rcases List.mem_append.1 hx' with h|h
     · exact hx x h
     · rw [List.mem_singleton.1 h];omega
   · rw [Wn (by omega) (by omega)] at hn
     have hn:=of_decide_eq_false hn
     exact ⟨k7_ (by show 1≤o.length;omega) (by show o.length≤3;omega) hx,hr.cur⟩
 refine da_ ?_
 simp only [aC_]
 exact dF_ (key 3 0 c [] rfl hc rfl fun x hx=>(by cases hx))
structure RowD (w:Int) (r:TRow):Prop where
 id:1≤r.id_∧r.id_≤999
 len:(r.cells.length:Int)=w
 cells:∀ x ∈ r.cells,-1000000000≤x∧x≤1000000000
theorem row_of {s:au_} {t:Int} {r:TRow} (hs:cy_ s=true) (h0:0≤t) (h1:t<(s.cols.length:Int)) (h:RowD (s.cols.getD t.toNat 0) r):FRow s t r=true:=by
 have h3:=(dJ_ hs).three
 unfold FRow l2_
 rw [hs,Wn (by omega) (by omega),cS_.2 (show 0≤t∧t≤(s.cols.length:Int) - 1 by omega),cS_.2 h.id,decide_eq_true h.len,Bool.true_and,Bool.true_and,Bool.true_and,Bool.true_and]
 exact cY_.2 fun i hi=>cS_.2 (h.cells _ (bL_ 0 hi))
structure RowIs (s:au_) (t:Int) (r:TRow):Prop where
 sc:cy_ s=true
 tab:0≤t∧t<(s.cols.length:Int)
 row:RowD (s.cols.getD t.toNat 0) r
theorem row_is {s:au_} {t:Int} {r:TRow} (h:FRow s t r=true):RowIs s t r:=by
 unfold FRow l2_ at h
 simp only [Bool.and_eq_true] at h
 obtain ⟨h1,h2,h3,h4,h5⟩:=h
 have h6:=(dJ_ h1).three
 have h2:=dT_ h2
 rw [Wn (by omega) (by omega)] at h2
 refine ⟨h1,by omega,dT_ h3,of_decide_eq_true h4,fun x hx => ?_⟩
 obtain ⟨i,hi,rfl⟩:=List.mem_iff_getElem.1 hx
 have:=dT_ (cY_.1 h5 i hi)
 rwa [List.getD_eq_getElem?_getD,List.getElem?_eq_getElem hi,Option.getD_some] at this
theorem kx_ {c:aw_} {w:Nat} (hc:DwOk c) (hw:w≤4):Ans (fun n _=>aP_ n c (w:Int)) fun r=>RowD w r.1∧DwOk r.2:=by
 have key:∀ (m i:Nat) (c:aw_) (id:Int) (o:List Int),i+m=w→DwOk c→o.length=i→1≤id∧id≤999→(∀ x ∈ o,-1000000000≤x∧x≤1000000000) →
   Ans (fun n N=>aP_.loop4 n (fun xy3 xy4 xy5 xy6 xy7 xy8=>(some ((TRow.mk xy7 xy8),(aw_.mk xy3 xy4 xy5)))) N (w:Int) (i:Int) c.b c.i c.h 0 id o) fun r=>RowD w r.1∧DwOk r.2:=by
  intro m
  induction m with
  |zero=>
   intro i c id o hi hc ho hid hx
   refine bY_ ?_
   simp only [aP_.turn4,aP_.step4,b5_]
   rw [decide_eq_false (by omega)]
   simp only [cond_false,b5_,b3_]
   exact ⟨⟨hid,by simp only;omega,hx⟩,hc⟩
  |succ m ih=>
   intro i c id o hi hc ho hid hx
   refine bY_ ?_
   simp only [aP_.turn4,aP_.step4,b5_]
   rw [decide_eq_true (by omega)]
   simp only [cond_true]
   refine a4_ (a9_ hc) fun r2 hr2 => ?_
   have h1:=hr2.lo;have h2:=hr2.hi
   have e1:W ((i:Int)+1)=((i+1:Nat):Int):=by rw [Wn (by omega) (by omega)];rfl
   rw [e1]
   refine ek_.2 ⟨by simp;omega,ih (i+1) r2.2 _ _ (by omega) hr2.cur (by simp;omega) hid fun x hx' => ?_⟩
   rcases List.mem_append.1 hx' with h|h
   · exact hx x h
   · rw [List.mem_singleton.1 h];omega
 refine da_ ?_
 simp only [aP_]
 refine a4_ (a9_ hc) fun r hr => ?_
 have h1:=hr.lo;have h2:=hr.hi
 rw [Wn (by omega) (by omega)]
 exact dF_ (key w 0 r.2 _ [] (by omega) hr.cur rfl (by omega) fun x hx=>(by cases hx))
def cm_ (rows:List TRow):List Int:=rows.map (·.id_)
abbrev Asc (rows:List TRow):Prop:=(cm_ rows).Pairwise (· < ·)
theorem hA_ {rows:List TRow} {id:Int} {p:Nat} (h:ca_ rows id=(p:Int)):p<rows.length∧(rows.getD p TRow.dflt).id_=id:=by
 rcases iX_ rows id with ⟨q,h1,h2,h3⟩|⟨h1,_⟩
 · have e:q=p:=by omega
   subst e
   refine ⟨h1,?_⟩
   have:=List.findIdx_getElem (xs:=rows) (p:=fun r=>r.id_ == id) (w:=by omega)
   simp only [h3] at this
   rw [List.getD_eq_getElem?_getD,List.getElem?_eq_getElem h1,Option.getD_some]
   exact eq_of_beq this
 · omega
theorem at_neg {rows:List TRow} {id:Int}:ca_ rows id<0↔id ∉ cm_ rows:=by
 have hm:id ∈ cm_ rows↔rows.findIdx (fun r=>r.id_ == id)<rows.length:=by
  rw [List.findIdx_lt_length]
  unfold cm_
  rw [List.mem_map]
  exact ⟨fun ⟨x,h1,h2⟩=>⟨x,h1,by rw [h2];exact beq_self_eq_true _⟩,fun ⟨x,h1,h2⟩=>⟨x,h1,eq_of_beq h2⟩⟩
 rw [hm,gj_]
 split<;>omega
theorem kF_ {rows:List TRow} {i:Nat} (h:i<rows.length):(cm_ rows).getD i 0=(rows.getD i TRow.dflt).id_:=h5_ (fun r:TRow=>r.id_) TRow.dflt 0 h
theorem is_ {rows:List TRow} {r:TRow} {p:Nat} (h:ca_ rows r.id_=(p:Int)):cm_ (rows.set p r)=cm_ rows:=by
 obtain ⟨h1,h2⟩:=hA_ h
 unfold cm_
 rw [List.map_set]
 apply List.ext_getElem?
 intro i
 by_cases e:p=i
 · subst e
   rw [List.getElem?_set_self (by rw [List.length_map];exact h1),List.getElem?_map,List.getElem?_eq_getElem h1]
   rw [List.getD_eq_getElem?_getD,List.getElem?_eq_getElem h1,Option.getD_some] at h2
   simp only [Option.map_some,h2]
 · rw [List.getElem?_set_ne e]
theorem km_ {rows:List TRow} {r x:TRow} (h:x ∈ cz_ rows r):x=r∨x ∈ rows:=by
 unfold cz_ at h
 cases hd:decide (ca_ rows r.id_≥0)<;>rw [hd] at h
 · simp only [cond_false] at h
   rcases List.mem_append.1 h with h|h
   · rcases List.mem_append.1 h with h|h
     · exact .inr (List.mem_of_mem_take h)
     · exact .inl (List.mem_singleton.1 h)
   · exact .inr (List.mem_of_mem_drop h)
 · exact (List.mem_or_eq_of_mem_set h).symm
theorem put_ids {rows:List TRow} {r:TRow} {id:Int}:id ∈ cm_ (cz_ rows r)↔id=r.id_∨id ∈ cm_ rows:=by
 unfold cz_
 cases hd:decide (ca_ rows r.id_≥0)
 · have hd:=of_decide_eq_false hd
   simp only [cond_false]
   unfold cm_
   rw [List.map_append,List.map_append,List.map_singleton,List.map_take,List.map_drop]
   generalize hn:rows.map (·.id_)=l
   conv=>rhs;rw [←List.take_append_drop (c5_ rows r.id_) l]
   simp only [List.mem_append,List.mem_singleton]
   constructor
   · rintro ((h|h)|h)
     · exact .inr (.inl h)
     · exact .inl h
     · exact .inr (.inr h)
   · rintro (h|h|h)
     · exact .inl (.inr h)
     · exact .inl (.inl h)
     · exact .inr h
 · have hd:=of_decide_eq_true hd
   simp only [cond_true]
   obtain ⟨p,hp⟩:∃ p:Nat,ca_ rows r.id_=p:=⟨(ca_ rows r.id_).toNat,by omega⟩
   rw [hp,Int.toNat_natCast,is_ hp]
   refine ⟨.inr,fun h=>h.elim (fun e => ?_) (fun h=>h)⟩
   obtain ⟨h1,h2⟩:=hA_ hp
   rw [e,←h2,←kF_ h1]
   exact bL_ 0 (by unfold cm_;rw [List.length_map];exact h1)
theorem pos_split {rows:List TRow} {id:Int} (h:Asc rows):(∀ x ∈ rows.take (c5_ rows id),x.id_≤id)∧∀ x ∈ rows.drop (c5_ rows id),id<x.id_:=by
 refine ⟨fun x hx => ?_,fun x hx => ?_⟩
 · obtain ⟨i,hi,rfl⟩:=List.mem_iff_getElem.1 hx
   rw [List.length_take] at hi
   rw [List.getElem_take]
   have:=List.not_of_lt_findIdx (xs:=rows) (p:=fun x=>decide (x.id_ > id)) (i:=i) (by unfold c5_ at hi;omega)
   simpa using this
 · obtain ⟨i,hi,rfl⟩:=List.mem_iff_getElem.1 hx
   rw [List.length_drop] at hi
   rw [List.getElem_drop]
   have hp:c5_ rows id<rows.length:=by omega
   have h0:id<(rows[c5_ rows id]'hp).id_:=by
    have hp':rows.findIdx (fun x=>decide (x.id_ > id))<rows.length:=hp
    have:=List.findIdx_getElem (xs:=rows) (p:=fun x=>decide (x.id_ > id)) (w:=hp')
    exact of_decide_eq_true this
   by_cases e:i=0
   · subst e;exact h0
   · have hw:Asc rows:=h
     have:=List.pairwise_iff_getElem.1 hw (c5_ rows id) (c5_ rows id+i) (by unfold cm_;rw [List.length_map];exact hp) (by unfold cm_;rw [List.length_map];omega) (by omega)
     unfold cm_ at this
     rw [List.getElem_map,List.getElem_map] at this
     omega
theorem mh_ {rows:List TRow} {r:TRow} (h:Asc rows):Asc (cz_ rows r):=by
 unfold cz_
 cases hd:decide (ca_ rows r.id_≥0)
 · have hd:=of_decide_eq_false hd
   simp only [cond_false]
   have hno:=at_neg.1 (show ca_ rows r.id_<0 by omega)
   obtain ⟨s1,s2⟩:=pos_split (id:=r.id_) h
   have e:cm_ (rows.take (c5_ rows r.id_)++[r]++rows.drop (c5_ rows r.id_))=cm_ (rows.take (c5_ rows r.id_))++r.id_::cm_ (rows.drop (c5_ rows r.id_)):=by
    unfold cm_;rw [List.map_append,List.map_append,List.append_assoc];rfl
   show (cm_ _).Pairwise _
   rw [e]
   have h1:(cm_ (rows.take (c5_ rows r.id_))++cm_ (rows.drop (c5_ rows r.id_))).Pairwise (· < ·):=by
    unfold cm_;rw [←List.map_append,List.take_append_drop];exact h
   rw [List.pairwise_append] at h1 ⊢
   refine ⟨h1.1,List.pairwise_cons.2 ⟨fun x hx => ?_,h1.2.1⟩,fun a ha b hb => ?_⟩
   · obtain ⟨y,hy,rfl⟩:=List.mem_map.1 hx
     exact s2 y hy
   · rcases List.mem_cons.1 hb with rfl|hb
     · obtain ⟨y,hy,rfl⟩:=List.mem_map.1 ha
       have:=s1 y hy
       have:y.id_≠r.id_:=fun e=>hno (e ▸ List.mem_map.2 ⟨y,List.mem_of_mem_take hy,rfl⟩)
       omega
     · exact h1.2.2 a ha b hb
 · have hd:=of_decide_eq_true hd
   simp only [cond_true]
   obtain ⟨p,hp⟩:∃ p:Nat,ca_ rows r.id_=p:=⟨(ca_ rows r.id_).toNat,by omega⟩
   show (cm_ _).Pairwise _
   rw [hp,Int.toNat_natCast,is_ hp];exact h
theorem mg_ {rows:List TRow} {r:TRow}:(cz_ rows r).length≤rows.length+1:=by
 unfold cz_
 cases decide (ca_ rows r.id_≥0)
 · simp;omega
 · simp
structure TabD (w:Int) (rows:List TRow):Prop where
 len:rows.length≤24
 row:∀ r ∈ rows,RowD w r
 asc:Asc rows
theorem iC_ {c:aw_} {w:Nat} (hc:DwOk c) (hw:w≤4):Ans (fun n _=>aK_ n c (w:Int)) fun r=>(TabD w r.1∧r.1.length≤9)∧DwOk r.2:=by
 have key:∀ (m i:Nat) (c:aw_) (o:List TRow),i+m=9→DwOk c→o.length≤i→(∀ r ∈ o,RowD w r)→Asc o →
   Ans (fun n N=>aK_.loop4 n (fun xy4 xy5 xy6 xy7=>(some (xy7,(aw_.mk xy4 xy5 xy6)))) N (w:Int) (i:Int) c.b c.i c.h o) fun r=>(TabD w r.1∧r.1.length≤9)∧DwOk r.2:=by
  intro m
  induction m with
  |zero=>
   intro i c o hi hc ho hr0 ha
   refine bY_ ?_
   simp only [aK_.turn4,aK_.step4,b5_]
   refine a4_ (a9_ hc) fun r hr => ?_
   have h1:=hr.lo;have h2:=hr.hi
   rw [decide_eq_false (by omega)]
   simp only [cond_false,b5_,b3_]
   exact ⟨⟨⟨by show o.length≤24;omega,hr0,ha⟩,by show o.length≤9;omega⟩,hr.cur⟩
  |succ m ih=>
   intro i c o hi hc ho hr0 ha
   refine bY_ ?_
   simp only [aK_.turn4,aK_.step4,b5_]
   refine a4_ (a9_ hc) fun r hr => ?_
   simp only [cu_,b5_,b3_]
   refine ⟨fun _=>a4_ (kx_ hr.cur hw) fun r2 hr2 => ?_,fun _=>⟨⟨⟨by show o.length≤24;omega,hr0,ha⟩,by show o.length≤9;omega⟩,hr.cur⟩⟩
   have e1:W ((i:Int)+1)=((i+1:Nat):Int):=by rw [Wn (by omega) (by omega)];rfl
   have hcell:∀ {r:TRow},RowD w r→r.cells.length≤4:=fun h=>by have:=h.len;omega
   have hP:=e9_ (rows:=o) (r:=r2.1) ⟨by simp only [cX_];omega,fun x hx=>by have:=hcell (hr0 x hx);simp only [cX_];omega⟩ (by have:=hcell hr2.1;simp only [cX_];omega)
   have hpl:=mg_ (rows:=o) (r:=r2.1)
   rw [cn_ hP,e1]
   refine ih (i+1) r2.2 _ (by omega) hr2.2 (by omega) (fun x hx => ?_) (mh_ ha)
   rcases km_ hx with e|hx
   · rw [e];exact hr2.1
   · exact hr0 x hx
 refine da_ ?_
 simp only [aK_]
 exact dF_ (key 9 0 c [] rfl hc (Nat.zero_le _) (fun x hx=>(by cases hx)) List.Pairwise.nil)
structure StoD (s:an_):Prop where
 sc:cy_ s.schema=true
 num:s.tables.length=s.schema.cols.length
 tab:∀ i,i<s.tables.length→TabD (s.schema.cols.getD i 0) (s.tables.getD i [])
theorem m0_ {s:an_} (h:StoD s) (hv:0≤s.version∧s.version≤100000):cC_ s=true:=by
 have h3:=(dJ_ h.sc).three
 unfold cC_ kV_
 rw [h.sc,cS_.2 hv,decide_eq_true h.num,Bool.true_and,Bool.true_and,Bool.true_and]
 refine cY_.2 fun i hi => ?_
 have ht:=h.tab i hi
 have hn:=h.num
 unfold i7_
 rw [h.sc,Wn (by omega) (by omega),cS_.2 (show 0≤(i:Int)∧(i:Int)≤(s.schema.cols.length:Int) - 1 by omega),decide_eq_true (show (((s.tables.getD i []).length:Nat):Int)≤24 by have:=ht.len;omega),Bool.true_and,Bool.true_and,Bool.and_true]
 generalize s.tables.getD i []=T at ht
 refine cY_.2 fun j hj => ?_
 rw [Bool.and_eq_true]
 refine ⟨row_of h.sc (by omega) (by omega) (by rw [Int.toNat_natCast];exact ht.row _ (bL_ TRow.dflt hj)),?_⟩
 by_cases e:j=0
 · rw [decide_eq_true e];rfl
 · rw [Bool.or_eq_true]
   right
   have:=List.pairwise_iff_getElem.1 ht.asc (j - 1) j (by unfold cm_;rw [List.length_map];omega) (by unfold cm_;rw [List.length_map];exact hj) (by omega)
   unfold cm_ at this
   rw [List.getElem_map,List.getElem_map] at this
   rw [List.getD_eq_getElem?_getD,List.getD_eq_getElem?_getD,List.getElem?_eq_getElem (by omega),List.getElem?_eq_getElem hj]
   exact decide_eq_true this
theorem hS_ {c:aw_} (hc:DwOk c):Ans (fun n _=>aH_ n c) fun r=>((StoD r.1∧cC_ r.1=true)∧∀ i,(r.1.tables.getD i []).length≤9)∧DwOk r.2:=by
 have key:∀ (m i:Nat) (c:aw_) (s:an_),i+m=s.tables.length→DwOk c→StoD s→(∀ i,(s.tables.getD i []).length≤9) →
   Ans (fun n N=>aH_.loop4 n (fun xy5 xy6 xy7 xy8 xy9 xy10 xy11=>((ay_ n (aw_.mk xy5 xy6 xy7) 5).bind fun xr12=>(some ((an_.mk (au_.mk xy10) xr12.1 xy11),xr12.2)))) N (i:Int) c.b c.i c.h 0 s.version s.schema.cols s.tables) fun r=>((StoD r.1∧cC_ r.1=true)∧∀ i,(r.1.tables.getD i []).length≤9)∧DwOk r.2:=by
  intro m
  induction m with
  |zero=>
   intro i c s hi hc hs hf
   have e:i=s.tables.length:=by omega
   subst e
   refine bY_ ?_
   simp only [aH_.turn4,aH_.step4,bZ_,cond_false,b5_]
   refine a4_ (a9_ hc) fun r hr=>b3_.2 ?_
   have h1:=hr.lo;have h2:=hr.hi
   have hd:StoD (an_.mk (au_.mk s.schema.cols) r.1 s.tables):=⟨hs.sc,hs.num,hs.tab⟩
   exact ⟨⟨⟨hd,m0_ hd (by simp only;omega)⟩,hf⟩,hr.cur⟩
  |succ m ih=>
   intro i c s hi hc hs hf
   have hlt:i<s.tables.length:=by omega
   have h3:=(dJ_ hs.sc).three
   have hn:=hs.num
   have hW:=W_up hlt (show s.tables.length≤bG_ by simp only [bG_];omega)
   have hcol:=(dJ_ hs.sc).col _ (bL_ 0 (show i<s.schema.cols.length by omega))
   obtain ⟨w,hw⟩:∃ w:Nat,s.schema.cols.getD i 0=w:=⟨(s.schema.cols.getD i 0).toNat,by omega⟩
   refine bY_ ?_
   simp only [aH_.turn4,aH_.step4,cw_ hlt,cond_true,b5_,Int.toNat_natCast]
   refine eF_.2 ⟨⟨by omega,by omega⟩,?_⟩
   rw [hw]
   refine a4_ (iC_ hc (by omega)) fun r hr => ?_
   rw [hW]
   refine eF_.2 ⟨⟨by omega,by omega⟩,?_⟩
   refine ih (i+1) r.2 (an_.mk s.schema s.version (s.tables.set i r.1)) (by simp;omega) hr.2 ⟨hs.sc,by simp;exact hn,fun j hj => ?_⟩ fun j => ?_
   · simp only [List.length_set] at hj
     by_cases e:i=j
     · subst e
       show TabD (s.schema.cols.getD i 0) ((s.tables.set i r.1).getD i [])
       have e:(s.tables.set i r.1).getD i []=r.1:=by rw [List.getD_eq_getElem?_getD,List.getElem?_set_self hlt,Option.getD_some]
       rw [e,hw]
       exact hr.1.1
     · show TabD (s.schema.cols.getD j 0) ((s.tables.set i r.1).getD j [])
       have e:(s.tables.set i r.1).getD j []=s.tables.getD j []:=by rw [List.getD_eq_getElem?_getD,List.getElem?_set_ne e,←List.getD_eq_getElem?_getD]
       rw [e]
       exact hs.tab j hj
   · by_cases e:i=j
     · subst e
       show ((s.tables.set i r.1).getD i []).length≤9
       rw [List.getD_eq_getElem?_getD,List.getElem?_set_self hlt,Option.getD_some];exact hr.1.2
     · show ((s.tables.set i r.1).getD j []).length≤9
       rw [List.getD_eq_getElem?_getD,List.getElem?_set_ne e,←List.getD_eq_getElem?_getD];exact hf j
 refine da_ ?_
 simp only [aH_]
 refine a4_ (hT_ hc) fun r hr => ?_
 have h3:=(dJ_ hr.1).three
 have hN:=fF_ (s:=r.1) (by simp only [cap];omega)
 rw [cn_ hN]
 have e:FNew r.1=(ef_ r.1,true):=by unfold FNew;rw [hr.1];rfl
 rw [e]
 have e0:∀ i,(ef_ r.1).tables.getD i []=[]:=fun i=>by
  show (List.replicate r.1.cols.length ([]:List TRow)).getD i []=[]
  rw [List.getD_eq_getElem?_getD,List.getElem?_replicate]
  split<;>rfl
 refine dF_ (key (ef_ r.1).tables.length 0 r.2 (ef_ r.1) (Nat.zero_add _) hr.2 ⟨hr.1,by simp [ef_],fun i hi => ?_⟩ ?_)
 · rw [e0 i]
   exact ⟨Nat.zero_le _,fun x hx=>(by cases hx),List.Pairwise.nil⟩
 · intro i;rw [e0 i];exact Nat.zero_le _
end Go.Pi
end
section
namespace Go.Pi
structure CondD (w:Int) (x:aY_):Prop where
 col:0≤x.col∧x.col<w
 op:1≤x.op∧x.op≤4
 v : -1000000000≤x.v∧x.v≤1000000000
structure QryD (s:au_) (q:ae_):Prop where
 sc:cy_ s=true
 tab:0≤q.table∧q.table<(s.cols.length:Int)
 few:q.where_.length≤3
 cond:∀ x ∈ q.where_,CondD (s.cols.getD q.table.toNat 0) x
 show_:∀ x ∈ q.show_,0≤x∧x<s.cols.getD q.table.toNat 0
 asc:q.show_.Pairwise (· < ·)
 order:0≤q.order∧q.order≤s.cols.getD q.table.toNat 0
 first:0≤q.first∧q.first≤24
 down:q.order=0→q.down=false
 kids:(q.kids=true∧(0≤q.kidTable∧q.kidTable<(s.cols.length:Int))∧0≤q.kidCol∧q.kidCol<s.cols.getD q.kidTable.toNat 0)∨(q.kids=false∧q.kidTable=0∧q.kidCol=0)
theorem ha_ {s:au_} (h:cy_ s=true) {t:Int} (h0:0≤t) (h1:t<(s.cols.length:Int)):1≤s.cols.getD t.toNat 0∧s.cols.getD t.toNat 0≤4:=(dJ_ h).col _ (bL_ 0 (by omega))
theorem f7_ {s:au_} {q:ae_} (h:QryD s q):dX_ s q=true:=by
 have h3:=(dJ_ h.sc).three
 have hw:=ha_ h.sc h.tab.1 h.tab.2
 have ht:=h.tab
 unfold dX_
 rw [h.sc,Wn (by omega) (by omega),cS_.2 (show 0≤q.table∧q.table≤(s.cols.length:Int) - 1 by omega),decide_eq_true h.few,cS_.2 h.order,cS_.2 h.first]
 simp only [Bool.true_and,Bool.and_eq_true]
 refine ⟨?_,?_,?_,?_⟩
 · unfold nL_
   refine cY_.2 fun i hi => ?_
   have hc:=h.cond _ (bL_ aY_.dflt hi)
   have hc1:=hc.col
   rw [Wn (by omega) (by omega),cS_.2 (show _∧_≤s.cols.getD q.table.toNat 0 - 1 by omega),cS_.2 hc.op,cS_.2 hc.v];rfl
 · unfold FShow
   refine cY_.2 fun i hi => ?_
   have hc:=h.show_ _ (bL_ 0 hi)
   rw [Wn (by omega) (by omega),cS_.2 (show _∧_≤s.cols.getD q.table.toNat 0 - 1 by omega),Bool.true_and]
   by_cases e:i=0
   · rw [decide_eq_true e];rfl
   · have:=List.pairwise_iff_getElem.1 h.asc (i - 1) i (by omega) hi (by omega)
     rw [List.getD_eq_getElem?_getD,List.getD_eq_getElem?_getD,List.getElem?_eq_getElem (by omega),List.getElem?_eq_getElem hi,Bool.or_eq_true]
     exact .inr (decide_eq_true this)
 · cases hd:(q.order == 0)
   · rfl
   · rw [h.down (eq_of_beq hd)];rfl
 · unfold kX_
   rcases h.kids with ⟨k0,k1,k2⟩|⟨k0,k1,k2⟩
   · have hk:=ha_ h.sc k1.1 k1.2
     rw [k0,cond_true,Wn (by omega) (by omega),cS_.2 (show 0≤q.kidTable∧q.kidTable≤(s.cols.length:Int) - 1 by omega),Wn (by omega) (by omega),cS_.2 (show 0≤q.kidCol∧q.kidCol≤s.cols.getD q.kidTable.toNat 0 - 1 by omega)];rfl
   · rw [k0,k1,k2];rfl
theorem show_few {s:au_} {q:ae_} (h:QryD s q):q.show_.length≤4:=by
 have hw:=ha_ h.sc h.tab.1 h.tab.2
 have key:∀ i,i<q.show_.length→(i:Int)≤q.show_.getD i 0:=by
  intro i
  induction i with
  |zero=>exact fun hi=>(h.show_ _ (bL_ 0 hi)).1
  |succ i ih=>
   intro hi
   have:=List.pairwise_iff_getElem.1 h.asc i (i+1) (by omega) hi (Nat.lt_succ_self i)
   have h1:=ih (by omega)
   rw [List.getD_eq_getElem?_getD,List.getElem?_eq_getElem (by omega),Option.getD_some] at h1
   rw [List.getD_eq_getElem?_getD,List.getElem?_eq_getElem hi,Option.getD_some]
   omega
 refine Nat.le_of_not_lt fun hl => ?_
 have h1:=key 4 hl
 have h2:=h.show_ _ (bL_ 0 hl)
 omega
section
variable {P:ae_ × aw_→Prop} {w:Nat} (hw:1≤w∧w≤4)
include hw
theorem l9loop7s {K:Nat→af_.K7} {t30 t40 t42 t43 t44 t46 t47 t48 t50 t52 t53 t54 t56 t57 t58} (hK:∀ c o,DwOk c→o.length≤3→(∀ x ∈ o,CondD w x)→Ans (fun n _=>K n (w:Int) c.b c.i c.h t30 t40 t42 t43 t44 t46 t47 t48 t50 t52 t53 t54 t56 t57 t58 o) P) {c:aw_} (hc:DwOk c) :
  Ans (fun n _=>af_.loop7 n (K n) n (w:Int) 0 c.b c.i c.h t30 t40 t42 t43 t44 t46 t47 t48 t50 t52 t53 t54 t56 t57 t58 []) P:=by
 have key:∀ (m i:Nat) (c:aw_) (o:List aY_),i+m=3→DwOk c→o.length=i→(∀ x ∈ o,CondD w x)→Ans (fun n N=>af_.loop7 n (K n) N (w:Int) (i:Int) c.b c.i c.h t30 t40 t42 t43 t44 t46 t47 t48 t50 t52 t53 t54 t56 t57 t58 o) P:=by
  intro m
  induction m with
  |zero=>
   intro i c o hi hc ho hx
   refine bY_ ?_
   simp only [af_.turn7,af_.step7,b5_]
   refine a4_ (a9_ hc) fun r hr => ?_
   have h1:=hr.lo;have h2:=hr.hi
   rw [decide_eq_false (by omega)]
   simp only [cond_false]
   exact hK _ _ hr.cur (by omega) hx
  |succ m ih=>
   intro i c o hi hc ho hx
   refine bY_ ?_
   simp only [af_.turn7,af_.step7,b5_]
   refine a4_ (a9_ hc) fun r hr => ?_
   simp only [cu_]
   refine ⟨fun _=>a4_ (a9_ hr.cur) fun r2 h2=>a4_ (a9_ h2.cur) fun r3 h3=>a4_ (a9_ h3.cur) fun r4 h4 => ?_,fun _=>hK _ _ hr.cur (by omega) hx⟩
   obtain ⟨a1,a2,_⟩:=h2
   obtain ⟨b1,b2,_⟩:=h3
   obtain ⟨c1,c2,h4⟩:=h4
   simp only [ek_,up1 (show i≤1000000 by omega)]
   rw [Wn (x:=1+r3.1) (by omega) (by omega)]
   refine ⟨by simp;omega,ih (i+1) r4.2 _ (by omega) h4 (by simp;omega) fun x hx' => ?_⟩
   rcases List.mem_append.1 hx' with h|h
   · exact hx x h
   · rw [List.mem_singleton.1 h]
     exact ⟨by show 0≤r2.1∧r2.1<(w:Int);omega,by show 1≤1+r3.1∧1+r3.1≤4;omega,by show _≤r4.1∧r4.1≤_;omega⟩
 exact dF_ (key 3 0 c [] rfl hc rfl fun x hx=>(by cases hx))
theorem lq_ {K:Nat→af_.K16} {t30 t40 t42 t43 t44 t46 t47 t48 t50 t52 t53 t54 t56 t57 t58 t51} (hK:∀ c o,DwOk c→(∀ x ∈ o,0≤x∧x<(w:Int))→o.Pairwise (· < ·)→Ans (fun n _=>K n c.b c.i c.h t30 t40 t42 t43 t44 t46 t47 t48 t50 t52 t53 t54 t56 t57 t58 t51 o) P) {c:aw_} (hc:DwOk c) :
  Ans (fun n _=>af_.loop16 n (K n) n (w:Int) 0 c.b c.i c.h t30 t40 t42 t43 t44 t46 t47 t48 t50 t52 t53 t54 t56 t57 t58 t51 []) P:=by
 have key:∀ (m i:Nat) (c:aw_) (o:List Int),i+m=w→DwOk c→o.length≤i→(∀ x ∈ o,0≤x∧x<(i:Int))→o.Pairwise (· < ·)→Ans (fun n N=>af_.loop16 n (K n) N (w:Int) (i:Int) c.b c.i c.h t30 t40 t42 t43 t44 t46 t47 t48 t50 t52 t53 t54 t56 t57 t58 t51 o) P:=by
  intro m
  induction m with
  |zero=>
   intro i c o hi hc ho hx hp
   refine bY_ ?_
   simp only [af_.turn16,af_.step16,b5_]
   rw [decide_eq_false (by omega)]
   simp only [cond_false]
   exact hK _ _ hc (fun x h=>by have:=hx x h;omega) hp
  |succ m ih=>
   intro i c o hi hc ho hx hp
   refine bY_ ?_
   simp only [af_.turn16,af_.step16,b5_]
   rw [decide_eq_true (by omega)]
   simp only [cond_true]
   refine a4_ (er_ hc) fun r hr => ?_
   simp only [cu_,ek_,up1 (show i≤1000000 by omega)]
   refine ⟨fun _=>⟨by simp;omega,ih (i+1) r.2 _ (by omega) hr (by simp;omega) (fun x hx' => ?_) ?_⟩,fun _=>ih (i+1) r.2 _ (by omega) hr (by omega) (fun x h=>by have:=hx x h;omega) hp⟩
   · rcases List.mem_append.1 hx' with h|h
     · have:=hx x h;omega
     · rw [List.mem_singleton.1 h];omega
   · refine List.pairwise_append.2 ⟨hp,List.pairwise_singleton _ _,fun a ha b hb => ?_⟩
     rw [List.mem_singleton.1 hb]
     exact (hx a ha).2
 exact dF_ (key w 0 c [] (by omega) hc (Nat.zero_le _) (fun x hx=>(by cases hx)) List.Pairwise.nil)
end
theorem iy_ {c:aw_} {s:au_} (hc:DwOk c) (hs:cy_ s=true):Ans (fun n _=>af_ n c s) fun r=>QryD s r.1∧DwOk r.2:=by
 have hsc:=dJ_ hs
 have h1:=hsc.one
 have h3:=hsc.three
 refine da_ ?_
 simp only [af_]
 rw [cn_ df_]
 refine a4_ (a9_ hc) fun t ht => ?_
 obtain ⟨t0,t1,hcu⟩:=ht
 have htab:0≤t.1∧t.1<(s.cols.length:Int):=by omega
 rw [decide_eq_true htab.2]
 simp only [cond_true]
 refine eF_.2 ⟨htab,?_⟩
 rw [cn_ df_]
 have hcol:=ha_ hs htab.1 htab.2
 obtain ⟨w,hw⟩:∃ w:Nat,s.cols.getD t.1.toNat 0=w:=⟨(s.cols.getD t.1.toNat 0).toNat,by omega⟩
 have hw4:1≤w∧w≤4:=by omega
 have em:max (s.cols.getD t.1.toNat 0) 1=(w:Int):=by omega
 rw [em]
 refine l9loop7s hw4 (fun c o hc ho hx => ?_) hcu
 simp only [b5_]
 rw [Wn (by omega) (by omega)]
 refine a4_ (a9_ hc) fun od hod => ?_
 obtain ⟨o0,o1,hcu⟩:=hod
 have hord:0≤od.1∧od.1≤(w:Int):=by omega
 have hlen:max (s.cols.length:Int) 1=(s.cols.length:Int):=by omega
 have fin:∀ (fs:Int) (dn:Bool) (o':List Int),fs ∈ ([0,0,1,2,3,5]:List Int)→(od.1=0→dn=false)→(∀ x ∈ o',0≤x∧x<(w:Int))→o'.Pairwise (· < ·)→∀ (k:Bool) (kt kc:Int),
   ((k=true∧(0≤kt∧kt<(s.cols.length:Int))∧0≤kc∧kc<s.cols.getD kt.toNat 0)∨(k=false∧kt=0∧kc=0))→QryD s (ae_.mk t.1 o od.1 dn fs o' k kt kc):=by
  intro fs dn o' hf hd hsh hp k kt kc hk
  refine ⟨hs,htab,ho,?_,?_,hp,?_,?_,hd,hk⟩
  · show ∀ x ∈ o,CondD (s.cols.getD t.1.toNat 0) x
    rw [hw];exact hx
  · show ∀ x ∈ o',0≤x∧x<s.cols.getD t.1.toNat 0
    rw [hw];exact hsh
  · show 0≤od.1∧od.1≤s.cols.getD t.1.toNat 0
    rw [hw];exact hord
  · show 0≤fs∧fs≤24
    simp only [List.mem_cons,List.not_mem_nil,or_false] at hf
    omega
 with_reducible refine cu_.2 ⟨fun hpos => ?_,fun hz => ?_⟩
 · have hpos:=of_decide_eq_true hpos
   refine a4_ (er_ hcu) fun dn hdn => ?_
   refine a4_ (eM_ hdn (by simp)) fun fs hfs => ?_
   refine lq_ hw4 (fun c o' hc ho' hp => ?_) hfs.2
   simp only [b5_]
   refine a4_ (er_ hc) fun kd hkd => ?_
   have F:=fin fs.1 dn.1 o' hfs.1 (fun e=>by omega) ho' hp
   with_reducible refine cu_.2 ⟨fun _ => ?_,fun _ => ?_⟩
   · rw [cn_ df_,hlen]
     refine a4_ (a9_ hkd) fun kt hkt => ?_
     obtain ⟨k0,k1,hcu⟩:=hkt
     have hkt:0≤kt.1∧kt.1<(s.cols.length:Int):=by omega
     rw [decide_eq_true hkt.2]
     simp only [cond_true]
     refine eF_.2 ⟨hkt,?_⟩
     rw [cn_ df_]
     have hkc:=ha_ hs hkt.1 hkt.2
     refine a4_ (a9_ hcu) fun kc hkc' => ?_
     obtain ⟨c0,c1,hcu⟩:=hkc'
     exact b3_.2 ⟨F true kt.1 kc.1 (.inl ⟨rfl,hkt,by omega⟩),hcu⟩
   · exact b3_.2 ⟨F false 0 0 (.inr ⟨rfl,rfl,rfl⟩),hkd⟩
 · refine a4_ (eM_ hcu (by simp)) fun fs hfs => ?_
   refine lq_ hw4 (fun c o' hc ho' hp => ?_) hfs.2
   simp only [b5_]
   refine a4_ (er_ hc) fun kd hkd => ?_
   have F:=fin fs.1 false o' hfs.1 (fun e=>rfl) ho' hp
   with_reducible refine cu_.2 ⟨fun _ => ?_,fun _ => ?_⟩
   · rw [cn_ df_,hlen]
     refine a4_ (a9_ hkd) fun kt hkt => ?_
     obtain ⟨k0,k1,hcu⟩:=hkt
     have hkt:0≤kt.1∧kt.1<(s.cols.length:Int):=by omega
     rw [decide_eq_true hkt.2]
     simp only [cond_true]
     refine eF_.2 ⟨hkt,?_⟩
     rw [cn_ df_]
     have hkc:=ha_ hs hkt.1 hkt.2
     refine a4_ (a9_ hcu) fun kc hkc' => ?_
     obtain ⟨c0,c1,hcu⟩:=hkc'
     exact b3_.2 ⟨F true kt.1 kc.1 (.inl ⟨rfl,hkt,by omega⟩),hcu⟩
   · exact b3_.2 ⟨F false 0 0 (.inr ⟨rfl,rfl,rfl⟩),hkd⟩
end Go.Pi
end
section
namespace Go.Pi
theorem ans_and {α:Type} {f:Nat→Nat→Option α} {P Q:α→Prop} (h:Ans f P) (k:Ans f Q):Ans f fun v=>P v∧Q v:=by
 obtain ⟨v,h1,h2⟩:=h
 obtain ⟨w,k1,k2⟩:=k
 have e:=(cF_ h1).1 k1
 subst e
 exact ⟨v,h1,h2,k2⟩
structure VwS (v:bd_):Prop where
 few:v.q.show_.length≤4
 show_:∀ x ∈ v.q.show_,0≤x∧x≤4
 row:∀ r ∈ v.rows,(1≤r.id_∧r.id_≤999)∧∀ x ∈ r.cells,-1000000000≤x∧x≤1000000000
 ids:(cm_ v.rows).Nodup
 kids:∀ k ∈ v.kids,-1000000≤k.n_∧k.n_≤1000000
 num:v.rows.length≤900
structure VwR (B:Nat) (s:an_) (v:bd_):Prop where
 q:QryD s.schema v.q
 row:∀ r ∈ v.rows,RowD (s.schema.cols.getD v.q.table.toNat 0) r
 ids:(cm_ v.rows).Nodup
 sub:∀ id ∈ cm_ v.rows,id ∈ cm_ (s.tables.getD v.q.table.toNat [])
 kids:∀ k ∈ v.kids,-(B:Int)≤k.n_∧k.n_≤(B:Int)
 num:v.rows.length≤B
theorem VwR.upto {B C:Nat} {s:an_} {v:bd_} (h:VwR B s v) (hc:B≤C):VwR C s v:=⟨h.q,h.row,h.ids,h.sub,fun k hk=>by have:=h.kids k hk;omega,Nat.le_trans h.num hc⟩
theorem VwR.s {B:Nat} {s:an_} {v:bd_} (h:VwR B s v) (hB:B≤900):VwS v:=by
 have hw:=ha_ h.q.sc h.q.tab.1 h.q.tab.2
 exact ⟨show_few h.q,fun x hx=>by have:=h.q.show_ x hx;omega,fun r hr=>⟨(h.row r hr).id,(h.row r hr).cells⟩,h.ids,fun k hk=>by have:=h.kids k hk;omega,by have:=h.num;omega⟩
theorem iP_ (q:ae_) (rows:List TRow) (r:TRow):(FPut q rows r).Perm (r::rows):=by
 unfold FPut
 rw [List.append_assoc]
 have:=List.perm_middle (a:=r) (l₁:=rows.take (rows.findIdx fun x=>bB_ q r x)) (l₂:=rows.drop (rows.findIdx fun x=>bB_ q r x))
 rw [List.take_append_drop] at this
 exact this
theorem oc_ {q:ae_} {rows:List TRow} {r:TRow} (h:(cm_ rows).Nodup) (hr:r.id_ ∉ cm_ rows):(cm_ (FPut q rows r)).Nodup:=by
 have:=(iP_ q rows r).map (·.id_)
 exact this.nodup_iff.2 (List.nodup_cons.2 ⟨hr,h⟩)
theorem gg_ (rows:List TRow) (id:Int):(d9_ rows id).Sublist rows:=List.eraseIdx_sublist _ _
theorem kN_ {rows:List TRow} {id:Int} {x:TRow} (h:x ∈ d9_ rows id):x ∈ rows:=(gg_ rows id).mem h
theorem of_ {rows:List TRow} {id:Int} (h:(cm_ rows).Nodup):(cm_ (d9_ rows id)).Nodup:=List.Pairwise.sublist ((gg_ rows id).map _) h
theorem drop_gone {rows:List TRow} {id:Int} (h:(cm_ rows).Nodup):id ∉ cm_ (d9_ rows id):=by
 intro hm
 unfold d9_ at hm
 by_cases hp:rows.findIdx (fun r=>r.id_ == id)<rows.length
 · have hg:=List.findIdx_getElem (xs:=rows) (p:=fun r=>r.id_ == id) (w:=hp)
   generalize rows.findIdx (fun r=>r.id_ == id)=p at hp hm hg
   have hg:(rows[p]'hp).id_=id:=eq_of_beq hg
   have hsplit:rows=rows.take p++rows[p]'hp::rows.drop (p+1):=by rw [←List.drop_eq_getElem_cons hp,List.take_append_drop]
   rw [List.eraseIdx_eq_take_drop_succ] at hm
   have hn:(cm_ (rows[p]'hp::(rows.take p++rows.drop (p+1)))).Nodup:=by
    have hperm:(rows.take p++rows[p]'hp::rows.drop (p+1)).Perm (rows[p]'hp::(rows.take p++rows.drop (p+1))):=List.perm_middle
    rw [←hsplit] at hperm
    have hm2:=hperm.map (fun r:TRow=>r.id_)
    exact hm2.nodup_iff.1 h
   have hn':(id::cm_ (rows.take p++rows.drop (p+1))).Nodup:=by rw [←hg];exact hn
   exact (List.nodup_cons.1 hn').1 hm
 · rw [List.eraseIdx_of_length_le (by omega)] at hm
   obtain ⟨x,hx,e⟩:=List.mem_map.1 hm
   exact hp (List.findIdx_lt_length.2 ⟨x,hx,beq_iff_eq.2 e⟩)
theorem drop_keep {rows:List TRow} {id id':Int} (h:id' ∈ cm_ rows) (hne:id'≠id):id' ∈ cm_ (d9_ rows id):=by
 obtain ⟨x,hx,rfl⟩:=List.mem_map.1 h
 refine List.mem_map.2 ⟨x,?_,rfl⟩
 unfold d9_
 rw [List.eraseIdx_eq_take_drop_succ]
 by_cases hp:rows.findIdx (fun r=>r.id_ == id)<rows.length
 · have hg:=List.findIdx_getElem (xs:=rows) (p:=fun r=>r.id_ == id) (w:=hp)
   generalize rows.findIdx (fun r=>r.id_ == id)=p at hp hg ⊢
   have hg:(rows[p]'hp).id_=id:=eq_of_beq hg
   have hsplit:rows=rows.take p++rows[p]'hp::rows.drop (p+1):=by rw [←List.drop_eq_getElem_cons hp,List.take_append_drop]
   rw [hsplit] at hx
   rcases List.mem_append.1 hx with hx|hx
   · exact List.mem_append_left _ hx
   · rcases List.mem_cons.1 hx with e|hx
     · rw [e] at hne;exact absurd hg hne
     · exact List.mem_append_right _ hx
 · rw [List.take_of_length_le (by omega)]
   exact List.mem_append_left _ hx
structure MutD (s:an_) (m:TMut):Prop where
 tab:0≤m.table∧m.table<(s.schema.cols.length:Int)
 row:m.kind≠3→RowD (s.schema.cols.getD m.table.toNat 0) m.row
theorem mut_is {s:an_} {m:TMut} (h:d7_ s.schema m=true):MutD s m:=by
 unfold d7_ at h
 cases hk:(m.kind == 3)<;>rw [hk] at h
 · rw [cond_false,Bool.and_eq_true] at h
   have:=row_is h.2
   exact ⟨this.tab,fun _=>this.row⟩
 · simp only [cond_true,Bool.and_eq_true] at h
   have h3:=(dJ_ h.1).three
   have h1:=dT_ h.2.1
   rw [Wn (by omega) (by omega)] at h1
   exact ⟨by omega,fun hne=>absurd (eq_of_beq hk) hne⟩
theorem lQ_ (v:bd_) (l:List aI_) (c:aI_):dv_ v (l++[c])=f4_ (dv_ v l) c:=by unfold dv_;rw [List.foldl_append];rfl
end Go.Pi
end
section
namespace Go.Pi
theorem insS0 {q:ae_} {l:List TRow} (hl:l.length≤20) (hr:∀ y ∈ l,y.cells.length≤bG_):∃ k,∀ n,k≤n→ab_ n l 0 (l.length:Int) q.table q.where_ q.order q.down q.first q.show_ q.kids q.kidTable q.kidCol=some (fK_ (bB_ q) l):=by
 obtain ⟨k,h⟩:=insS_ev (q:=q) (P:=[]) (B:=l) (R:=[]) (a:=0) (b:=l.length) rfl (by omega) hr (by omega)
 refine ⟨k,fun n hn => ?_⟩
 have h:=h n hn
 rw [List.nil_append,List.append_nil,List.append_nil,List.nil_append] at h
 exact h
theorem stab_ev {q:ae_} {l:List TRow} (hl:l.length≤20) (hr:∀ y ∈ l,y.cells.length≤bG_):∃ k,∀ n,k≤n→ac_ n l (l.length:Int) q.table q.where_ q.order q.down q.first q.show_ q.kids q.kidTable q.kidCol=some (fK_ (bB_ q) l):=by
 obtain ⟨k,h⟩:=insS0 (q:=q) hl hr
 have hlen:=lv_ (lt:=bB_ q) l
 have hb:Nat.beq (fK_ (bB_ q) l).length l.length=true:=by rw [hlen];exact Nat.beq_refl _
 have w0:W (20+20)=40:=rfl
 by_cases h20:l.length=20
 · obtain ⟨k2,h2⟩:=insS_ev (q:=q) (P:=fK_ (bB_ q) l) (B:=[]) (R:=[]) (a:=l.length) (b:=l.length) hlen (by simp) (fun y hy=>by cases hy) (by omega)
   refine ⟨k+k2+3,fun n hn => ?_⟩
   obtain ⟨n,rfl⟩:∃ m,n=m+3:=⟨n - 3,by omega⟩
   have h:=h (n+2) (by omega)
   have h2:=h2 (n+2) (by omega)
   have e0:fK_ (bB_ q) ([]:List TRow)=[]:=rfl
   rw [e0,List.append_nil,List.append_nil] at h2
   rw [h20] at h h2 hb ⊢
   simp only [ac_]
   rw [ac_.turn3]
   simp only [ac_.step3]
   have c1:decide ((20:Int)≤((20:Nat):Int))=true:=rfl
   have hb2:Nat.beq (fK_ (bB_ q) l).length (fK_ (bB_ q) l).length=true:=Nat.beq_refl _
   rw [c1]
   simp only [cond_true,w0]
   have h':ab_ (n+2) l 0 20 q.table q.where_ q.order q.down q.first q.show_ q.kids q.kidTable q.kidCol=some (fK_ (bB_ q) l):=h
   have h2':ab_ (n+2) (fK_ (bB_ q) l) 20 ((20:Nat):Int) q.table q.where_ q.order q.down q.first q.show_ q.kids q.kidTable q.kidCol=some (fK_ (bB_ q) l):=h2
   have hb':Nat.beq (fK_ (bB_ q) l).length l.length=true:=by rw [h20];exact hb
   rw [h',Option.bind_some,hb',ac_.turn3]
   simp only [ac_.step3,cond_true]
   have c2:decide ((40:Int)≤((20:Nat):Int))=false:=rfl
   rw [c2]
   simp only [cond_false]
   rw [h2',Option.bind_some,hb2,ac_.turn9]
   simp only [ac_.step9,cond_true]
   have c3:decide ((20:Int)<((20:Nat):Int))=false:=rfl
   rw [c3];rfl
 · refine ⟨k+3,fun n hn => ?_⟩
   obtain ⟨n,rfl⟩:∃ m,n=m+3:=⟨n - 3,by omega⟩
   have h:=h (n+2) (by omega)
   simp only [ac_]
   rw [ac_.turn3]
   simp only [ac_.step3]
   rw [decide_eq_false (show ¬ (20:Int)≤(l.length:Int) by omega)]
   simp only [cond_false]
   rw [h,Option.bind_some,hb,ac_.turn9]
   simp only [ac_.step9,cond_true]
   rw [decide_eq_false (show ¬ (20:Int)<(l.length:Int) by omega)];rfl
theorem sortS_ev {q:ae_} {l:List TRow} (hl:l.length≤20) (hr:∀ y ∈ l,y.cells.length≤bG_):Ev (fun n _=>aL_ n l q.table q.where_ q.order q.down q.first q.show_ q.kids q.kidTable q.kidCol) (fK_ (bB_ q) l):=by
 obtain ⟨k,h⟩:=stab_ev (q:=q) hl hr
 refine ⟨k+1,fun n N hn _ => ?_⟩
 obtain ⟨n,rfl⟩:∃ m,n=m+1:=⟨n - 1,by omega⟩
 have hb:Nat.beq (fK_ (bB_ q) l).length l.length=true:=by rw [lv_];exact Nat.beq_refl _
 simp only [aL_]
 rw [h n (by omega),Option.bind_some,hb];rfl
theorem nt_ {q:ae_} {o:List TRow} {r:TRow} (h:Srt (bB_ q) o):Srt (bB_ q) (FPut q o r):=by
 have ho:=kT_ q
 unfold FPut
 have hsplit:=h
 rw [←List.take_append_drop (o.findIdx fun x=>bB_ q r x) o] at hsplit
 have h3:=mb_.1 hsplit
 have hbef:∀ x ∈ o.take (o.findIdx fun x=>bB_ q r x),bB_ q r x=false:=fun x hx=>by
  obtain ⟨i,h1,h2,rfl⟩:=ll_ TRow.dflt hx
  have:=List.not_of_lt_findIdx h1
  rw [List.getD_eq_getElem?_getD,List.getElem?_eq_getElem h2,Option.getD_some]
  simpa using this
 have haft:∀ y ∈ o.drop (o.findIdx fun x=>bB_ q r x),bB_ q y r=false:=fun y hy=>by
  obtain ⟨j,h1,h2,rfl⟩:=lm_ TRow.dflt hy
  have hlt:(o.findIdx fun x=>bB_ q r x)<o.length:=by omega
  have hat:bB_ q r (o.getD (o.findIdx fun x=>bB_ q r x) TRow.dflt)=true:=by
   have:=List.findIdx_getElem (p:=fun x=>bB_ q r x) (xs:=o) (w:=hlt)
   rw [List.getD_eq_getElem?_getD,List.getElem?_eq_getElem hlt,Option.getD_some]
   exact this
  exact ho.tr _ _ _ trivial trivial trivial (ho.asym _ _ trivial trivial hat) (srt_get ho TRow.dflt (fun _ _=>trivial) h h1 h2)
 refine mb_.2 ⟨mb_.2 ⟨h3.1,List.pairwise_singleton _ _,fun x hx y hy => ?_⟩,h3.2.1,fun x hx y hy => ?_⟩
 · rw [List.mem_singleton.1 hy];exact hbef x hx
 · rcases List.mem_append.1 hx with hx|hx
   · exact h3.2.2 x hx y hy
   · rw [List.mem_singleton.1 hx];exact haft y hy
theorem eQ_ {q:ae_}:∀ (rows o:List TRow),Srt (bB_ q) o→Srt (bB_ q) (dl_ q o rows)
 |[],o,h=>h
 |r::rows,o,h=>by
  show Srt (bB_ q) (dl_ q (cond (cj_ q r) (FPut q o r) o) rows)
  refine eQ_ rows _ ?_
  cases cj_ q r
  · exact h
  · exact nt_ h
theorem eq_ {q:ae_}:∀ (rows o:List TRow),(dl_ q o rows).Perm (rows.filter (cj_ q)++o)
 |[],o=>.refl _
 |r::rows,o=>by
  show (dl_ q (cond (cj_ q r) (FPut q o r) o) rows).Perm _
  refine (eq_ rows _).trans ?_
  cases h:cj_ q r
  · rw [cond_false,List.filter_cons_of_neg (by rw [h];exact Bool.false_ne_true)]
  · rw [cond_true,List.filter_cons_of_pos h]
    exact ((iP_ q o r).append_left _).trans List.perm_middle
theorem iN_:∀ {l:List TRow},(cm_ l).Nodup→∀ x ∈ l,∀ y ∈ l,x.id_=y.id_→x=y
 |[],_,x,hx,_,_,_=>by cases hx
 |r::l,h,x,hx,y,hy,e=>by
  have h1:=List.nodup_cons.1 (show (r.id_::cm_ l).Nodup from h)
  rcases List.mem_cons.1 hx with ex|hx'
  · rcases List.mem_cons.1 hy with ey|hy'
    · rw [ex,ey]
    · exact absurd (List.mem_map.2 ⟨y,hy',by rw [←e,ex]⟩:r.id_ ∈ cm_ l) h1.1
  · rcases List.mem_cons.1 hy with ey|hy'
    · exact absurd (List.mem_map.2 ⟨x,hx',by rw [e,ey]⟩:r.id_ ∈ cm_ l) h1.1
    · exact iN_ h1.2 x hx' y hy' e
theorem srt_ids {q:ae_} {T l l':List TRow} (hn:(cm_ T).Nodup) (hl:∀ x ∈ l,x ∈ T) (hp:l.Perm l') (h:Srt (bB_ q) l) (h':Srt (bB_ q) l'):l=l' :=
 jH_ (D:=fun x=>x ∈ T) (fun x y hx hy h k=>iN_ hn x hx y hy (kc_ h k)) hp hl h h'
theorem lu_ {q:ae_} {rows:List TRow} (hn:(cm_ rows).Nodup):fK_ (bB_ q) (rows.filter (cj_ q))=dl_ q [] rows:=by
 have hp:=eq_ (q:=q) rows []
 rw [List.append_nil] at hp
 refine srt_ids hn (fun x hx => ?_) ((hp_ _).trans hp.symm) (isort_srt (kT_ q) (fun _=>trivial) _) (eQ_ _ _ .nil)
 exact (List.mem_filter.1 ((hp_ _).mem_iff.1 hx)).1
section
variable {s:an_} {q:ae_} {c:Nat} (hl:dw_ c s) (hq:ku_ 100000 q) (hc:c≤100000)
include hl hq hc
theorem fU_ (h20:(s.tables.getD q.table.toNat []).length≤20) (hn:(cm_ (s.tables.getD q.table.toNat [])).Nodup):Ev (fun n _=>ba_ n s q) (d1_ s q):=by
 have hs:s.schema.cols.length≤bG_:=d2_ (Nat.le_trans hl.1 hc) (by decide)
 have hL:dw_ bG_ s:=hl.upto (Nat.le_trans hc (by decide))
 have hqT:ku_ bG_ q:=⟨Nat.le_trans hq.1 (by decide),Nat.le_trans hq.2 (by decide)⟩
 refine aJ_ ?_
 simp only [ba_,as_ (c8_ hL),as_ (dN_ hs hqT),aD_,ap_,bA_]
 unfold d1_ FSQ
 cases h1:cC_ s
 · exact ⟨fun _=>rfl,fun h=>(by cases h)⟩
 refine ⟨fun h=>(by cases h),fun _ => ?_⟩
 cases h2:dX_ s.schema q
 · exact ⟨fun _=>rfl,fun h=>(by cases h)⟩
 refine ⟨fun h=>(by cases h),fun _ => ?_⟩
 have hS:=sq_of (s:=s) (q:=q) (by unfold FSQ;rw [h1,h2];rfl) hs hL.2.1 hL.2.2
 refine ⟨hS.tab,?_⟩
 have hT:e0_ c (s.tables.getD q.table.toNat []):=dx_ hl.2.2 _
 simp only [Bool.and_self,cond_true]
 generalize s.tables.getD q.table.toNat []=rows at hT h20 hn ⊢
 have hcells:∀ y ∈ rows,y.cells.length≤bG_:=fun y hy=>Nat.le_trans (hT.2 y hy) (by simp only [bG_];omega)
 have hfl:(rows.filter (cj_ q)).length≤20:=Nat.le_trans (List.length_filter_le _ _) h20
 have hfin:=sortS_ev (q:=q) hfl (fun y hy=>hcells y (List.mem_filter.1 hy).1)
 rw [lu_ hn] at hfin
 have key:∀ (m i:Nat) (o:List TRow),i+m=rows.length→o++(rows.drop i).filter (cj_ q)=rows.filter (cj_ q)→Ev (fun n N=>ba_.loop7 n (fun xy5 xy6 xy7 xy8 xy9 xy10 xy11 xy12 xy13 xy14=>((aL_ n xy14 xy5 xy6 xy7 xy8 xy9 xy10 xy11 xy12 xy13).bind fun xr15=>(cond (Nat.beq xr15.length xy14.length) (some xr15) none))) N rows (rows.length:Int) (i:Int) q.table q.where_ q.order q.down q.first q.show_ q.kids q.kidTable q.kidCol o) (dl_ q [] rows):=by
  intro m
  induction m with
  |zero=>
   intro i o hi ho
   have e:i=rows.length:=by omega
   subst e
   rw [List.drop_length,List.filter_nil,List.append_nil] at ho
   have hb:Nat.beq (dl_ q [] rows).length o.length=true:=by
    have hp:=(eq_ (q:=q) rows []).length_eq
    rw [List.append_nil] at hp
    rw [ho,hp];exact Nat.beq_refl _
   refine cc_ ?_
   simp only [ba_.turn7,ba_.step7,bZ_,cond_false]
   rw [←ho] at hfin
   rw [as_ hfin,hb]
   exact ap_.2 rfl
  |succ m ih=>
   intro i o hi ho
   have hlt:i<rows.length:=by omega
   have hr:=hT.2 _ (bL_ TRow.dflt hlt)
   have hM:=eT_ (q:=q) (r:=rows.getD i TRow.dflt) hqT.1 (by simp only [bG_];omega)
   have hW:=W_up hlt (show rows.length≤bG_ by simp only [bG_];omega)
   have hol:o.length≤20:=by
    have:=congrArg List.length ho
    rw [List.length_append] at this;omega
   rw [dq_ TRow.dflt hlt] at ho
   refine cc_ ?_
   simp only [ba_.turn7,ba_.step7,d6_,cw_ hlt,cond_true,bA_,cp_ hlt,true_and,Int.toNat_natCast,hW,as_ hM,aD_,fi_ (show (rows.getD i TRow.dflt).cells.length≤cX_ by simp only [cX_];omega),ch_]
   cases hf:cj_ q (rows.getD i TRow.dflt)
   · rw [List.filter_cons_of_neg (by rw [hf];exact Bool.false_ne_true)] at ho
     exact ⟨fun h=>(by cases h),fun _=>ih (i+1) _ (by omega) ho⟩
   · rw [List.filter_cons_of_pos hf] at ho
     exact ⟨fun _=>⟨by simp only [List.length_cons,List.length_nil];omega,ih (i+1) _ (by omega) (by rw [List.append_assoc];exact ho)⟩,fun h=>(by cases h)⟩
 exact d4_ (key rows.length 0 [] (by omega) rfl)
end
end Go.Pi
end
section
namespace Go.Pi
theorem fj_ {l:List TRow} (h:Asc l):(cm_ l).Nodup:=h.imp fun h=>Int.ne_of_lt h
theorem hl_:∀ {l:List TRow},(cm_ l).Nodup→l.Nodup
 |[],_=>.nil
 |r::l,h=>by
  have h1:=List.nodup_cons.1 (show (r.id_::cm_ l).Nodup from h)
  exact List.nodup_cons.2 ⟨fun hr=>h1.1 (List.mem_map.2 ⟨r,hr,rfl⟩),hl_ h1.2⟩
theorem ny_ {l:List TRow} {id:Int} (h:(cm_ l).Nodup) {x:TRow}:x ∈ d9_ l id↔x ∈ l∧x.id_≠id:=by
 constructor
 · intro hx
   exact ⟨kN_ hx,fun e=>drop_gone h (e ▸ List.mem_map.2 ⟨x,hx,rfl⟩)⟩
 · rintro ⟨hx,hne⟩
   have hk:=drop_keep (rows:=l) (id:=id) (List.mem_map.2 ⟨x,hx,rfl⟩:x.id_ ∈ cm_ l) hne
   obtain ⟨y,hy,e⟩:=List.mem_map.1 hk
   have:=iN_ h y (kN_ hy) x hx e
   rw [←this];exact hy
theorem m8_ {l:List TRow} {r:TRow}:r ∈ cz_ l r:=by
 unfold cz_
 cases hd:decide (ca_ l r.id_≥0)
 · simp
 · have hd:=of_decide_eq_true hd
   obtain ⟨p,hp⟩:∃ p:Nat,ca_ l r.id_=p:=⟨(ca_ l r.id_).toNat,by omega⟩
   rw [cond_true,hp,Int.toNat_natCast]
   exact List.mem_set (hA_ hp).1 r
theorem put_iff {l:List TRow} {r:TRow} (h:Asc l) {x:TRow}:x ∈ cz_ l r↔x=r∨(x ∈ l∧x.id_≠r.id_):=by
 have hn:=fj_ h
 have hn':=fj_ (mh_ (r:=r) h)
 constructor
 · intro hx
   by_cases e:x.id_=r.id_
   · exact .inl (iN_ hn' x hx r m8_ e)
   · rcases km_ hx with h1|h1
     · exact .inl h1
     · exact .inr ⟨h1,e⟩
 · rintro (rfl|⟨hx,hne⟩)
   · exact m8_
   · obtain ⟨y,hy,e⟩:=List.mem_map.1 (put_ids.2 (.inr (List.mem_map.2 ⟨x,hx,rfl⟩)):x.id_ ∈ cm_ (cz_ l r))
     rcases km_ hy with h1|h1
     · exact absurd (by rw [←e,h1]) hne
     · rw [←iN_ hn y h1 x hx e];exact hy
theorem fput_iff {q:ae_} {l:List TRow} {r x:TRow}:x ∈ FPut q l r↔x=r∨x ∈ l:=by
 rw [(iP_ q l r).mem_iff];exact List.mem_cons
theorem nq_ {q:ae_} {T:List TRow} {x:TRow}:x ∈ dl_ q [] T↔x ∈ T∧cj_ q x=true:=by
 have hp:=eq_ (q:=q) T []
 rw [List.append_nil] at hp
 rw [hp.mem_iff];exact List.mem_filter
theorem kG_ {q:ae_} {T:List TRow} (h:(cm_ T).Nodup):(cm_ (dl_ q [] T)).Nodup:=by
 have hp:=eq_ (q:=q) T []
 rw [List.append_nil] at hp
 exact ((hp.map _).nodup_iff).2 (List.Pairwise.sublist ((List.filter_sublist).map _) h)
theorem go_is {q:ae_} {T l:List TRow} (hn:(cm_ T).Nodup) (hl:(cm_ l).Nodup) (hs:Srt (bB_ q) l) (hm:∀ x,x ∈ l↔x ∈ T∧cj_ q x=true):l=dl_ q [] T :=
 srt_ids hn (fun x hx=>((hm x).1 hx).1) ((List.perm_ext_iff_of_nodup (hl_ hl) (hl_ (kG_ hn))).2 fun x=>by rw [hm x,nq_]) hs (eQ_ _ _ .nil)
theorem tab_at {s:an_} {m:TMut} (hm:0≤m.table∧m.table<(s.tables.length:Int)):(FDo s m).tables.getD m.table.toNat []=cond (m.kind != 3) (cz_ (cB_ s m) m.row) (d9_ (cB_ s m) m.row.id_):=by
 unfold FDo
 rw [List.getD_eq_getElem?_getD,List.getElem?_set_self (by omega),Option.getD_some]
theorem h1_ {s:an_} {m:TMut} {i:Nat} (hi:m.table.toNat≠i):(FDo s m).tables.getD i []=s.tables.getD i []:=by
 unfold FDo
 rw [List.getD_eq_getElem?_getD,List.getElem?_set_ne hi,←List.getD_eq_getElem?_getD]
theorem do_is {s:an_} {m:TMut} (hd:go_ s m=true):(ca_ (cB_ s m) m.row.id_≥0↔m.kind≠1)∧(m.kind=1→(cB_ s m).length≠24):=by
 unfold go_ at hd
 rw [Bool.and_eq_true] at hd
 have h1:=eq_of_beq hd.1
 refine ⟨?_,fun hk hl => ?_⟩
 · rw [←decide_eq_true_iff (p:=ca_ (cB_ s m) m.row.id_≥0),h1,bne_iff_ne]
 · have h2:=hd.2
   rw [hk] at h2
   have:(((cB_ s m).length:Int) == 24)=true:=beq_iff_eq.2 (by omega)
   rw [this] at h2
   cases h2
theorem nT_ {l:List TRow} {r:TRow} (h:ca_ l r.id_≥0):(cz_ l r).length=l.length:=by
 unfold cz_
 rw [decide_eq_true h,cond_true,List.length_set]
theorem kO_ {s:an_} {m:TMut} (h:StoD s) (hm:d7_ s.schema m=true) (hd:go_ s m=true):StoD (FDo s m):=by
 have hM:=mut_is hm
 have hmt:=hM.tab
 have hn:=h.num
 obtain ⟨d1,d2⟩:=do_is hd
 refine ⟨h.sc,by show (s.tables.set _ _).length=_;rw [List.length_set];exact hn,fun i hi => ?_⟩
 have hi:i<s.tables.length:=by have:(FDo s m).tables.length=s.tables.length:=List.length_set;omega
 show TabD (s.schema.cols.getD i 0) ((FDo s m).tables.getD i [])
 by_cases e:m.table.toNat=i
 · subst e
   have hT:=h.tab _ hi
   have eT:cB_ s m=s.tables.getD m.table.toNat []:=rfl
   rw [tab_at (by omega)]
   rw [←eT] at hT
   cases hk:(m.kind != 3)
   · exact ⟨Nat.le_trans (gg_ _ _).length_le hT.len,fun r hr=>hT.row r (kN_ hr),List.Pairwise.sublist ((gg_ _ _).map _) hT.asc⟩
   · refine ⟨?_,fun r hr => ?_,mh_ hT.asc⟩
     · by_cases h1:m.kind=1
       · have:=mg_ (rows:=cB_ s m) (r:=m.row);have:=d2 h1;have:=hT.len
         simp only [cond_true];omega
       · rw [cond_true,nT_ (d1.2 h1)];exact hT.len
     · rcases km_ hr with rfl|hr
       · exact hM.row (bne_iff_ne.1 hk)
       · exact hT.row r hr
 · rw [h1_ e];exact h.tab i hi
theorem do_len {s:an_} {m:TMut} {k:Nat} (h:∀ i,(s.tables.getD i []).length≤k) (i:Nat):((FDo s m).tables.getD i []).length≤k+1:=by
 by_cases e:m.table.toNat=i
 · subst e
   by_cases hl:m.table.toNat<s.tables.length
   · unfold FDo
     rw [List.getD_eq_getElem?_getD,List.getElem?_set_self hl,Option.getD_some]
     have h0:=h m.table.toNat
     have eT:cB_ s m=s.tables.getD m.table.toNat []:=rfl
     rw [←eT] at h0
     cases m.kind != 3
     · have:=(gg_ (cB_ s m) m.row.id_).length_le;simp only [cond_false];omega
     · have:=mg_ (rows:=cB_ s m) (r:=m.row);simp only [cond_true];omega
   · unfold FDo
     rw [List.set_eq_of_length_le (by omega)]
     have:=h m.table.toNat
     show (s.tables.getD m.table.toNat []).length≤k+1
     omega
 · rw [h1_ e];have:=h i;omega
theorem view_rows {s:an_} {q:ae_} {m:TMut} {k:List TKid} (h:StoD s) (hq:QryD s.schema q) (hm:d7_ s.schema m=true) (hd:go_ s m=true) :
  i4_ (bd_.mk q (dl_ q [] (s.tables.getD q.table.toNat [])) k) (dY_ s m)=dl_ q [] ((FDo s m).tables.getD q.table.toNat []):=by
 have hM:=mut_is hm
 have hmt:=hM.tab
 have hn:=h.num
 have hqt:=hq.tab
 obtain ⟨d1,d2⟩:=do_is hd
 unfold i4_
 by_cases he:m.table=q.table
 · have hbeq:((dY_ s m).table == q.table)=true:=beq_iff_eq.2 he
   have hT:=h.tab q.table.toNat (by omega)
   have eT:cB_ s m=s.tables.getD q.table.toNat []:=by unfold cB_;rw [he]
   have hat:=tab_at (s:=s) (m:=m) (by omega)
   rw [he] at hat
   have hasc':Asc ((FDo s m).tables.getD q.table.toNat []):=((kO_ h hm hd).tab q.table.toNat (by have:(FDo s m).tables.length=s.tables.length:=List.length_set;omega)).asc
   simp only [hbeq,cond_true]
   rw [←eT] at hT ⊢
   generalize hTT:(FDo s m).tables.getD q.table.toNat []=T' at hat hasc' ⊢
   have hnod:=fj_ hT.asc
   generalize hTab:cB_ s m=T at *
   have hg:=kG_ (q:=q) hnod
   have base:∃ b,(cond (dY_ s m).had (d9_ (dl_ q [] T) (dY_ s m).old.id_) (dl_ q [] T))=b∧(cm_ b).Nodup∧Srt (bB_ q) b∧∀ x,x ∈ b↔(x ∈ T∧cj_ q x=true)∧x.id_≠m.row.id_:=by
    refine ⟨_,rfl,?_⟩
    have e1:(dY_ s m).had=(m.kind != 1):=rfl
    cases hk:(m.kind != 1)
    · rw [e1,hk,cond_false]
      have hno:=at_neg.1 (show ca_ T m.row.id_<0 by
       have hk1:¬ m.kind≠1:=fun hne=>by rw [bne_iff_ne.2 hne] at hk;cases hk
       have:=mt d1.1 hk1;omega)
      refine ⟨hg,eQ_ _ _ .nil,fun x => ?_⟩
      rw [nq_]
      exact ⟨fun hx=>⟨hx,fun e=>hno (e ▸ List.mem_map.2 ⟨x,hx.1,rfl⟩)⟩,fun hx=>hx.1⟩
    · have hge:=d1.2 (bne_iff_ne.1 hk)
      obtain ⟨p,hp⟩:∃ p:Nat,ca_ T m.row.id_=p:=⟨(ca_ T m.row.id_).toNat,by omega⟩
      have e2:(dY_ s m).old.id_=m.row.id_:=by
       show (cond (m.kind != 1) ((cB_ s m).getD (ca_ (cB_ s m) m.row.id_).toNat TRow.dflt) gA_).id_=_
       rw [hTab,hk,cond_true,hp,Int.toNat_natCast];exact (hA_ hp).2
      rw [e1,hk,cond_true,e2]
      refine ⟨of_ hg,List.Pairwise.sublist (gg_ _ _) (eQ_ _ _ .nil),fun x => ?_⟩
      rw [ny_ hg,nq_]
   obtain ⟨b,hb,b1,b2,b3⟩:=base
   rw [hb]
   have e3:(dY_ s m).has=(m.kind != 3):=rfl
   refine go_is (fj_ hasc') ?_ ?_ fun x => ?_
   · cases hc:((dY_ s m).has&&cj_ q (dY_ s m).new)
     · exact b1
     · rw [Bool.and_eq_true,e3] at hc
       have e4:(dY_ s m).new=m.row:=by show cond (m.kind != 3) m.row gA_=_;rw [hc.1];rfl
       rw [cond_true,e4]
       refine oc_ b1 fun hi => ?_
       obtain ⟨y,hy,e⟩:=List.mem_map.1 hi
       exact ((b3 y).1 hy).2 e
   · cases ((dY_ s m).has&&cj_ q (dY_ s m).new)
     · exact b2
     · exact nt_ b2
   · rw [hat]
     cases hk:(m.kind != 3)
     · rw [e3,hk,Bool.false_and,cond_false,cond_false,b3,ny_ hnod]
       exact ⟨fun h=>⟨⟨h.1.1,h.2⟩,h.1.2⟩,fun h=>⟨⟨h.1.1,h.2⟩,h.1.2⟩⟩
     · have e4:(dY_ s m).new=m.row:=by show cond (m.kind != 3) m.row gA_=_;rw [hk];rfl
       rw [e3,hk,Bool.true_and,cond_true,e4,put_iff hT.asc]
       cases hmt:cj_ q m.row
       · rw [cond_false,b3]
         refine ⟨fun h=>⟨.inr ⟨h.1.1,h.2⟩,h.1.2⟩,fun h => ?_⟩
         rcases h.1 with e|g
         · rw [e,hmt] at h;cases h.2
         · exact ⟨⟨g.1,h.2⟩,g.2⟩
       · rw [cond_true,fput_iff,b3]
         refine ⟨fun h => ?_,fun h => ?_⟩
         · rcases h with e|g
           · exact ⟨.inl e,by rw [e];exact hmt⟩
           · exact ⟨.inr ⟨g.1.1,g.2⟩,g.1.2⟩
         · rcases h.1 with e|g
           · exact .inl e
           · exact .inr ⟨⟨g.1,h.2⟩,g.2⟩
 · have hbeq:((dY_ s m).table == q.table)=false:=beq_eq_false_iff_ne.2 he
   simp only [hbeq,cond_false]
   rw [h1_ (by omega)]
end Go.Pi
end
section
namespace Go.Pi
abbrev AscK (k:List TKid):Prop:=k.Pairwise fun x y=>x.id_<y.id_
def cur:List TKid→Int→Int
 |[],_=>0
 |y::k,id=>if y.id_=id then y.n_ else cur k id
theorem iR_:∀ (k:List TKid) (id:Int),(∃ x ∈ k,x.id_=id∧cur k id=x.n_)∨((∀ x ∈ k,x.id_≠id)∧cur k id=0)
 |[],id=>.inr ⟨fun x hx=>(by cases hx),rfl⟩
 |y::k,id=>by
  by_cases e:y.id_=id
  · exact .inl ⟨y,List.mem_cons_self ..,e,by unfold cur;rw [if_pos e]⟩
  · rcases iR_ k id with ⟨x,h1,h2,h3⟩|⟨h1,h2⟩
    · exact .inl ⟨x,List.mem_cons_of_mem _ h1,h2,by unfold cur;rw [if_neg e];exact h3⟩
    · refine .inr ⟨fun x hx => ?_,by unfold cur;rw [if_neg e];exact h2⟩
      rcases List.mem_cons.1 hx with rfl|hx
      · exact e
      · exact h1 x hx
theorem nu_ {id b:Int}:FKid [] id b=cond (decide (b > 0)) [TKid.mk id b] []:=rfl
theorem lD_ {y:TKid} {k:List TKid} {id b:Int}:FKid (y::k) id b=cond (decide (y.id_≥id)) (gZ_ y id b++k) (y::FKid k id b):=by
 unfold FKid
 have hp:eh_ (y::k) id=cond (decide (y.id_≥id)) 0 (eh_ k id+1):=by unfold eh_;rw [List.findIdx_cons]
 rw [hp]
 cases decide (y.id_≥id)
 · simp only [cond_false,List.length_cons,Nat.add_lt_add_iff_right]
   cases decide (eh_ k id<k.length)
   · simp only [cond_false]
     cases decide (b > 0)<;>rfl
   · simp only [cond_true];rfl
 · simp only [cond_true,List.length_cons]
   rw [decide_eq_true (show 0<k.length+1 by omega)]
   simp
theorem nk_ {x:TKid} {id n:Int}:x=TKid.mk id n↔x.id_=id∧x.n_=n:=by
 constructor
 · rintro rfl;exact ⟨rfl,rfl⟩
 · rintro ⟨rfl,rfl⟩;rfl
theorem kL_ {id b:Int} (hb:b=1∨b = -1):∀ {k:List TKid},AscK k→(∀ x ∈ k,0<x.n_∧x.n_≤100000)→∀ x,x ∈ FKid k id b↔(x ∈ k∧x.id_≠id)∨(x.id_=id∧x.n_=cur k id+b∧0<x.n_)
 |[],_,_,x=>by
  rw [nu_]
  have e:cur [] id=0:=rfl
  rw [e]
  rcases hb with rfl|rfl
  · show x ∈ [TKid.mk id 1]↔_
    rw [List.mem_singleton,nk_]
    constructor
    · rintro ⟨h1,h2⟩;exact .inr ⟨h1,by omega,by omega⟩
    · rintro (h|⟨h1,h2,h3⟩)
      · cases h.1
      · exact ⟨h1,by omega⟩
  · show x ∈ []↔_
    constructor
    · intro h;cases h
    · rintro (h|⟨h1,h2,h3⟩)
      · cases h.1
      · omega
 |y::k,ha,hn,x=>by
  have h1:=List.pairwise_cons.1 ha
  have hy:=hn y (List.mem_cons_self ..)
  have hk:=fun z hz=>hn z (List.mem_cons_of_mem _ hz)
  rw [lD_]
  by_cases hge:y.id_≥id
  · rw [decide_eq_true hge,cond_true]
    unfold gZ_
    rw [Wn (by omega) (by omega)]
    have hgt:∀ z ∈ k,z.id_≠id:=fun z hz=>by have:=h1.1 z hz;omega
    by_cases he:y.id_=id
    · have ec:cur (y::k) id=y.n_:=by unfold cur;rw [if_pos he]
      rw [ec,beq_iff_eq.2 he,cond_true]
      by_cases hp:y.n_+b > 0
      · rw [decide_eq_true hp,cond_true,List.mem_append,List.mem_singleton,nk_]
        constructor
        · rintro (⟨g1,g2⟩|g)
          · exact .inr ⟨g1,g2,by omega⟩
          · exact .inl ⟨List.mem_cons_of_mem _ g,hgt x g⟩
        · rintro (⟨g1,g2⟩|⟨g1,g2,_⟩)
          · rcases List.mem_cons.1 g1 with rfl|g
            · exact absurd he g2
            · exact .inr g
          · exact .inl ⟨g1,g2⟩
      · rw [decide_eq_false hp,cond_false,List.nil_append]
        constructor
        · intro g;exact .inl ⟨List.mem_cons_of_mem _ g,hgt x g⟩
        · rintro (⟨g1,g2⟩|⟨g1,g2,g3⟩)
          · rcases List.mem_cons.1 g1 with rfl|g
            · exact absurd he g2
            · exact g
          · omega
    · have ec:cur (y::k) id=0:=by
       rcases iR_ (y::k) id with ⟨z,g1,g2,_⟩|⟨_,g⟩
       · rcases List.mem_cons.1 g1 with rfl|g
         · exact absurd g2 he
         · exact absurd g2 (hgt z g)
       · exact g
      rw [ec,beq_eq_false_iff_ne.2 he,cond_false]
      rcases hb with rfl|rfl
      · show x ∈ [TKid.mk id 1,y]++k↔_
        rw [List.cons_append,List.mem_cons,nk_]
        constructor
        · rintro (⟨g1,g2⟩|g)
          · exact .inr ⟨g1,by omega,by omega⟩
          · have g:x ∈ y::k:=g
            refine .inl ⟨g,?_⟩
            rcases List.mem_cons.1 g with rfl|g
            · exact he
            · exact hgt x g
        · rintro (⟨g1,_⟩|⟨g1,g2,g3⟩)
          · exact .inr g1
          · exact .inl ⟨g1,by omega⟩
      · show x ∈ y::k↔_
        constructor
        · intro g
          refine .inl ⟨g,?_⟩
          rcases List.mem_cons.1 g with rfl|g
          · exact he
          · exact hgt x g
        · rintro (⟨g1,_⟩|⟨g1,g2,g3⟩)
          · exact g1
          · omega
  · have he:y.id_≠id:=by omega
    have ec:cur (y::k) id=cur k id:=by show (if y.id_=id then y.n_ else cur k id)=_;rw [if_neg he]
    rw [decide_eq_false hge,cond_false,List.mem_cons,kL_ hb h1.2 hk x,ec]
    constructor
    · rintro (rfl|g|g)
      · exact .inl ⟨List.mem_cons_self ..,he⟩
      · exact .inl ⟨List.mem_cons_of_mem _ g.1,g.2⟩
      · exact .inr g
    · rintro (⟨g1,g2⟩|g)
      · rcases List.mem_cons.1 g1 with e|g
        · exact .inl e
        · exact .inr (.inl ⟨g,g2⟩)
      · exact .inr (.inr g)
theorem nv_ {id b:Int} (hb:b=1∨b = -1):∀ {k:List TKid},AscK k→(∀ x ∈ k,0<x.n_∧x.n_≤100000)→AscK (FKid k id b)
 |[],_,_=>by
  rw [nu_]
  cases decide (b > 0)
  · exact .nil
  · exact List.pairwise_singleton _ _
 |y::k,ha,hn=>by
  have h1:=List.pairwise_cons.1 ha
  have hk:=fun z hz=>hn z (List.mem_cons_of_mem _ hz)
  rw [lD_]
  by_cases hge:y.id_≥id
  · rw [decide_eq_true hge,cond_true]
    unfold gZ_
    cases he:(y.id_ == id)
    · have he:=beq_eq_false_iff_ne.1 he
      cases decide (b > 0)
      · exact ha
      · refine List.pairwise_cons.2 ⟨fun z hz => ?_,ha⟩
        show id<z.id_
        have hz:z ∈ y::k:=hz
        rcases List.mem_cons.1 hz with rfl|hz
        · omega
        · have:=h1.1 z hz;omega
    · have he:=eq_of_beq he
      cases decide (W (y.n_+b) > 0)
      · exact h1.2
      · exact List.pairwise_cons.2 ⟨fun z hz=>by show id<z.id_;have:=h1.1 z hz;omega,h1.2⟩
  · rw [decide_eq_false hge,cond_false]
    refine List.pairwise_cons.2 ⟨fun z hz => ?_,nv_ hb h1.2 hk⟩
    rcases (kL_ hb h1.2 hk z).1 hz with g|g
    · exact h1.1 z g.1
    · omega
structure KdOk (k:List TKid) (f:Int→Int):Prop where
 asc:AscK k
 iff:∀ x:TKid,x ∈ k↔x.n_=f x.id_∧0<x.n_
theorem KdOk.congr {k:List TKid} {f g:Int→Int} (h:KdOk k f) (e:∀ i,f i=g i):KdOk k g:=⟨h.asc,fun x=>by rw [h.iff x,e]⟩
theorem KdOk.cur {k:List TKid} {f:Int→Int} (h:KdOk k f) {id:Int} (h0:0≤f id):cur k id=f id:=by
 rcases iR_ k id with ⟨x,h1,h2,h3⟩|⟨h1,h2⟩
 · rw [h3,((h.iff x).1 h1).1,h2]
 · by_cases hp:0<f id
   · exact absurd rfl (h1 (TKid.mk id (f id)) ((h.iff _).2 ⟨rfl,hp⟩))
   · omega
theorem KdOk.put {k:List TKid} {f:Int→Int} (h:KdOk k f) (hf:∀ i,0≤f i∧f i≤90000) {id b:Int} (hb:b=1∨b = -1):KdOk (FKid k id b) (fun i=>if i=id then f id+b else f i):=by
 have hn:∀ x ∈ k,0<x.n_∧x.n_≤100000:=fun x hx=>by
  have:=(h.iff x).1 hx;have:=hf x.id_;omega
 refine ⟨nv_ hb h.asc hn,fun x => ?_⟩
 rw [kL_ hb h.asc hn x,h.cur (hf id).1,h.iff x]
 show _↔x.n_=(if x.id_=id then f id+b else f x.id_)∧0<x.n_
 by_cases e:x.id_=id
 · rw [if_pos e]
   exact ⟨fun g=>g.elim (fun g=>absurd e g.2) (fun g=>g.2),fun g=>.inr ⟨e,g⟩⟩
 · rw [if_neg e]
   exact ⟨fun g=>g.elim (fun g=>g.1) (fun g=>absurd g.1 e),fun g=>.inl ⟨g,e⟩⟩
theorem KdOk.one {k k':List TKid} {f:Int→Int} (h:KdOk k f) (h':KdOk k' f):k=k':=by
 have nd:∀ {l:List TKid},AscK l→l.Nodup:=fun h=>h.imp fun {a b} h e=>by rw [e] at h;omega
 have sr:∀ {l:List TKid},AscK l→Srt (fun a b:TKid=>decide (a.id_<b.id_)) l:=fun h=>h.imp fun {a b} h=>decide_eq_false (by omega)
 refine jH_ (lt:=fun a b:TKid=>decide (a.id_<b.id_)) (D:=fun x=>x ∈ k) (fun x y hx hy g1 g2 => ?_) ((List.perm_ext_iff_of_nodup (nd h.asc) (nd h'.asc)).2 fun x=>by rw [h.iff x,h'.iff x]) (fun x hx=>hx) (sr h.asc) (sr h'.asc)
 have g1:=of_decide_eq_false g1
 have g2:=of_decide_eq_false g2
 have e:x.id_=y.id_:=by omega
 have a:=((h.iff x).1 hx).1
 have b:=((h.iff y).1 hy).1
 exact nk_.2 ⟨e,by rw [a,b,e]⟩
def dH_ (q:ae_) (r:TRow):Int:=r.cells.getD q.kidCol.toNat 0
def cnt (q:ae_) (T:List TRow) (i:Int):Int:=((T.map (dH_ q)).count i:Nat)
theorem hc_ (q:ae_) (r:TRow) (T:List TRow) (i:Int):cnt q (r::T) i=cnt q T i+if i=dH_ q r then 1 else 0:=by
 unfold cnt
 rw [List.map_cons,List.count_cons]
 by_cases e:i=dH_ q r
 · subst e;simp
 · rw [if_neg e,if_neg (by simpa using fun h=>e h.symm)];simp
theorem hy_ (q:ae_) (A B:List TRow) (i:Int):cnt q (A++B) i=cnt q A i+cnt q B i:=by
 unfold cnt
 rw [List.map_append,List.count_append];omega
theorem lO_ (q:ae_) (T:List TRow) (i:Int):0≤cnt q T i∧cnt q T i≤(T.length:Int):=by
 unfold cnt
 have:=List.count_le_length (a:=i) (l:=T.map (dH_ q))
 rw [List.length_map] at this
 omega
theorem lt_ {q:ae_}:∀ (T:List TRow) {k:List TKid} {f:Int→Int},KdOk k f→(∀ i,0≤f i∧f i+(T.length:Int)≤90000)→KdOk (db_ q k T) (fun i=>f i+cnt q T i)
 |[],k,f,h,hf=>h.congr fun i=>by show f i=f i+cnt q [] i;unfold cnt;simp
 |r::T,k,f,h,hf=>by
  simp only [List.length_cons] at hf
  have h1:=h.put (fun i=>by have:=hf i;omega) (id:=dH_ q r) (b:=1) (.inl rfl)
  have h2:=lt_ (q:=q) T h1 (fun i=>by
   have:=hf i;have:=hf (dH_ q r)
   show 0≤(if i=dH_ q r then f (dH_ q r)+1 else f i)∧(if i=dH_ q r then f (dH_ q r)+1 else f i)+(T.length:Int)≤90000
   by_cases e:i=dH_ q r
   · rw [if_pos e];omega
   · rw [if_neg e];omega)
  refine KdOk.congr (show KdOk (db_ q k (r::T)) _ from h2) fun i => ?_
  show (if i=dH_ q r then f (dH_ q r)+1 else f i)+cnt q T i=f i+cnt q (r::T) i
  rw [hc_]
  by_cases e:i=dH_ q r
  · rw [if_pos e,if_pos e,e];omega
  · rw [if_neg e,if_neg e];omega
theorem ky_ {q:ae_} {T:List TRow} (h:T.length≤80000):KdOk (db_ q [] T) (cnt q T):=by
 have h0:KdOk [] fun _=>0:=⟨.nil,fun x=>⟨fun h=>(by cases h),fun h=>by omega⟩⟩
 exact (lt_ T h0 (fun i=>by omega)).congr fun i=>by omega
end Go.Pi
end
section
namespace Go.Pi
theorem cell_is {q:ae_} {r:TRow} {w:Int} (h:RowD w r) (hc:0≤q.kidCol∧q.kidCol<w) (hw:w≤1000):dD_ r q.kidCol=dH_ q r:=by
 have hl:=h.len
 unfold dD_ dH_
 rw [Wn (by omega) (by omega),cS_.2 (by omega),cond_true]
theorem split_at {T:List TRow} {p:Nat} (h:p<T.length):T=T.take p++T.getD p TRow.dflt::T.drop (p+1):=by
 conv=>lhs;rw [←List.take_append_drop p T,dq_ TRow.dflt h]
theorem view_kids {s:an_} {q:ae_} {m:TMut} {rows:List TRow} (h:StoD s) (hq:QryD s.schema q) (hm:d7_ s.schema m=true) (hd:go_ s m=true) :
  i5_ (bd_.mk q rows (cond q.kids (db_ q [] (s.tables.getD q.kidTable.toNat [])) [])) (dY_ s m)=cond q.kids (db_ q [] ((FDo s m).tables.getD q.kidTable.toNat [])) []:=by
 have hM:=mut_is hm
 have hmt:=hM.tab
 have hn:=h.num
 obtain ⟨d1,d2⟩:=do_is hd
 unfold i5_
 rcases hq.kids with ⟨k0,k1,k2⟩|⟨k0,_,_⟩
 · simp only [k0,Bool.true_and,cond_true]
   by_cases he:m.table=q.kidTable
   · have hbeq:((dY_ s m).table == q.kidTable)=true:=beq_iff_eq.2 he
     have hw:=(dJ_ h.sc).col _ (bL_ 0 (show q.kidTable.toNat<s.schema.cols.length by omega))
     have hT:=h.tab q.kidTable.toNat (by omega)
     have eT:cB_ s m=s.tables.getD q.kidTable.toNat []:=by unfold cB_;rw [he]
     have hat:=tab_at (s:=s) (m:=m) (by omega)
     rw [he] at hat
     have hT':=(kO_ h hm hd).tab q.kidTable.toNat (by have:(FDo s m).tables.length=s.tables.length:=List.length_set;omega)
     rw [hbeq,cond_true]
     rw [←eT] at hT ⊢
     have hrow:m.kind≠3→dD_ m.row q.kidCol=dH_ q m.row:=fun hk=>cell_is (w:=s.schema.cols.getD q.kidTable.toNat 0) (by rw [←he];exact hM.row hk) k2 (by omega)
     generalize hTT:(FDo s m).tables.getD q.kidTable.toNat []=T' at hat hT' ⊢
     generalize hTab:cB_ s m=T at *
     have hl:=hT.len
     have hl':=hT'.len
     have hK:=ky_ (q:=q) (T:=T) (by omega)
     have hK':=ky_ (q:=q) (T:=T') (by omega)
     have hb:∀ i,0≤cnt q T i∧cnt q T i≤24:=fun i=>by have:=lO_ q T i;omega
     generalize db_ q [] T=K at hK ⊢
     have e1:(dY_ s m).had=(m.kind != 1):=rfl
     have e3:(dY_ s m).has=(m.kind != 3):=rfl
     by_cases h1:m.kind=1
     · have hno:ca_ T m.row.id_<0:=by have:=mt d1.1 (fun hne=>hne h1);omega
       have h3:m.kind≠3:=by omega
       have e4:(dY_ s m).new=m.row:=by show cond (m.kind != 3) m.row gA_=_;rw [bne_iff_ne.2 h3];rfl
       have b1:(m.kind != 1)=false:=by rw [h1];rfl
       rw [bne_iff_ne.2 h3,cond_true] at hat
       rw [e1,e3,e4,b1,bne_iff_ne.2 h3,cond_true,cond_false,hrow h3]
       refine KdOk.one (hK.put (fun i=>by have:=hb i;omega) (.inl rfl)) (hK'.congr fun i => ?_)
       rw [hat]
       unfold cz_
       rw [decide_eq_false (by omega),cond_false,hy_,hy_,hc_]
       have e0:cnt q T i=cnt q (T.take (c5_ T m.row.id_)) i+cnt q (T.drop (c5_ T m.row.id_)) i:=by rw [←hy_,List.take_append_drop]
       have en:cnt q [] i=0:=rfl
       rw [en]
       show _=if i=dH_ q m.row then cnt q T (dH_ q m.row)+1 else cnt q T i
       by_cases e:i=dH_ q m.row
       · subst e;rw [if_pos rfl,if_pos rfl];omega
       · rw [if_neg e,if_neg e];omega
     · have hge:=d1.2 h1
       obtain ⟨p,hp⟩:∃ p:Nat,ca_ T m.row.id_=p:=⟨(ca_ T m.row.id_).toNat,by omega⟩
       have hpl:=(hA_ hp).1
       have e2:(dY_ s m).old=T.getD p TRow.dflt:=by
        show cond (m.kind != 1) ((cB_ s m).getD (ca_ (cB_ s m) m.row.id_).toNat TRow.dflt) gA_=_
        rw [hTab,bne_iff_ne.2 h1,cond_true,hp,Int.toNat_natCast]
       have hold:dD_ (T.getD p TRow.dflt) q.kidCol=dH_ q (T.getD p TRow.dflt):=cell_is (hT.row _ (bL_ TRow.dflt hpl)) k2 (by omega)
       have hsp:=split_at hpl
       have hc1:∀ i,cnt q T i=cnt q (T.take p) i+(cnt q (T.drop (p+1)) i+if i=dH_ q (T.getD p TRow.dflt) then 1 else 0):=fun i=>by
        conv=>lhs;rw [hsp,hy_,hc_]
       rw [e1,e3,bne_iff_ne.2 h1,cond_true,e2,hold]
       generalize T.getD p TRow.dflt=o at *
       have hA:=fun i=>lO_ q (T.take p) i
       have hB:=fun i=>lO_ q (T.drop (p+1)) i
       have hput:=hK.put (fun i=>by have:=hb i;omega) (id:=dH_ q o) (b:=-1) (.inr rfl)
       have hf1:∀ i,(if i=dH_ q o then cnt q T (dH_ q o) + -1 else cnt q T i)=cnt q (T.take p) i+cnt q (T.drop (p+1)) i:=fun i=>by
        have h1:=hc1 i
        by_cases e:i=dH_ q o
        · subst e;rw [if_pos rfl] at h1 ⊢;omega
        · rw [if_neg e] at h1 ⊢;omega
       have hput:=hput.congr hf1
       by_cases h3:m.kind=3
       · have b3:(m.kind != 3)=false:=by rw [h3];rfl
         rw [b3,cond_false] at hat
         rw [b3,cond_false]
         refine KdOk.one hput (hK'.congr fun i => ?_)
         rw [hat]
         rcases iX_ T m.row.id_ with ⟨p',g1,g2,g3⟩|⟨g1,_⟩
         · have:p'=p:=by omega
           subst this
           unfold d9_
           rw [g3,List.eraseIdx_eq_take_drop_succ,hy_]
         · omega
       · have e4:(dY_ s m).new=m.row:=by show cond (m.kind != 3) m.row gA_=_;rw [bne_iff_ne.2 h3];rfl
         rw [bne_iff_ne.2 h3,cond_true] at hat
         rw [bne_iff_ne.2 h3,cond_true,e4,hrow h3]
         refine KdOk.one (hput.put (fun i=>by
          have:=hc1 i;have:=hb i;have:=hA i;have:=hB i
          by_cases e:i=dH_ q o
          · rw [if_pos e] at *;omega
          · rw [if_neg e] at *;omega) (id:=dH_ q m.row) (b:=1) (.inl rfl)) (hK'.congr fun i => ?_)
         rw [hat]
         unfold cz_
         rw [decide_eq_true hge,cond_true,hp,Int.toNat_natCast,List.set_eq_take_append_cons_drop,if_pos hpl,hy_,hc_]
         show _=if i=dH_ q m.row then cnt q (T.take p) (dH_ q m.row)+cnt q (T.drop (p+1)) (dH_ q m.row)+1 else cnt q (T.take p) i+cnt q (T.drop (p+1)) i
         by_cases e:i=dH_ q m.row
         · subst e;rw [if_pos rfl,if_pos rfl];omega
         · rw [if_neg e,if_neg e];omega
   · have hbeq:((dY_ s m).table == q.kidTable)=false:=beq_eq_false_iff_ne.2 he
     rw [hbeq,cond_false,h1_ (by omega)]
 · simp only [k0,Bool.false_and,cond_false]
def VO (s:an_) (q:ae_):bd_:=bd_.mk q (dl_ q [] (s.tables.getD q.table.toNat [])) (cond q.kids (db_ q [] (s.tables.getD q.kidTable.toNat [])) [])
theorem change_vo {s:an_} {q:ae_} {m:TMut} (h:StoD s) (hq:QryD s.schema q) (hm:d7_ s.schema m=true) (hd:go_ s m=true):f4_ (VO s q) (dY_ s m)=VO (FDo s m) q:=by
 show bd_.mk q (i4_ (VO s q) (dY_ s m)) (i5_ (VO s q) (dY_ s m))=_
 unfold VO
 rw [view_rows h hq hm hd,view_kids h hq hm hd]
theorem ia_ {s:an_} {q:ae_} (hf:cC_ s=true) (hq:QryD s.schema q):hB_ s q=(VO s q,true):=by
 have hS:FSQ s q=true:=by unfold FSQ;rw [hf,f7_ hq];rfl
 unfold hB_ d1_ h8_ VO
 rw [hS];rfl
theorem lS_ {q:ae_} {v:bd_}:∀ (l:List TMut) (s:an_) (o:List aI_) (k:Nat),StoD s→QryD s.schema q→dv_ v o=VO s q→(∀ i,(s.tables.getD i []).length≤k)→∀ p,el_ s l o=some p →
  dv_ v p.2=VO p.1 q∧StoD p.1∧p.1.schema=s.schema∧∀ i,(p.1.tables.getD i []).length≤k+l.length
 |[],s,o,k,h,hq,hv,hk,p,e=>by cases e;exact ⟨hv,h,rfl,fun i=>by have:=hk i;simpa using this⟩
 |m::r,s,o,k,h,hq,hv,hk,p,e=>by
  unfold el_ at e
  cases hb:(d8_ s m).2.2<;>rw [hb] at e
  · cases e
  · simp only [cond_true] at e
    have hms:d8_ s m=(FDo s m,dY_ s m,true)∧d7_ s.schema m=true∧go_ s m=true:=by
     unfold d8_ at hb ⊢
     cases hs:cC_ s<;>rw [hs] at hb
     · cases hb
     · cases hk:(d7_ s.schema m&&go_ s m)<;>rw [hk] at hb
       · cases hb
       · rw [Bool.and_eq_true] at hk
         exact ⟨rfl,hk.1,hk.2⟩
    obtain ⟨e1,h1,h2⟩:=hms
    rw [e1] at e
    obtain ⟨g1,g2,g3,g4⟩:=lS_ r (FDo s m) (o++[dY_ s m]) (k+1) (kO_ h h1 h2) hq (by rw [lQ_,hv,change_vo h hq h1 h2]) (do_len hk) p e
    exact ⟨g1,g2,g3,fun i=>by have:=g4 i;simp only [List.length_cons];omega⟩
theorem batch_vo {s:an_} {q:ae_} {l:List TMut} {k:Nat} (h:StoD s) (hq:QryD s.schema q) (hk:∀ i,(s.tables.getD i []).length≤k) (hok:(cA_ s l).2.2=true) :
  dv_ (VO s q) (cA_ s l).2.1=VO (cA_ s l).1 q∧StoD (cA_ s l).1∧cC_ (cA_ s l).1=true∧(cA_ s l).1.schema=s.schema∧∀ i,((cA_ s l).1.tables.getD i []).length≤k+l.length:=by
 unfold cA_ at hok ⊢
 cases hs:cC_ s<;>rw [hs] at hok
 · cases hok
 · cases hl:(inn (l.length:Int) 1 5 && !(s.version == 100000))<;>rw [hl] at hok
   · cases hok
   · simp only [cond_true] at hok ⊢
     cases hb:el_ s l [] with
     |none=>rw [hb] at hok;cases hok
     |some p=>
      obtain ⟨g1,g2,g3,g4⟩:=lS_ (q:=q) (v:=VO s q) l s [] k h hq rfl hk p hb
      have hS:StoD (an_.mk p.1.schema (W (s.version+1)) p.1.tables):=⟨g2.sc,g2.num,g2.tab⟩
      rw [Bool.and_eq_true] at hl
      have hv:s.version≠100000:=fun e=>by rw [e] at hl;cases hl.2
      unfold cC_ at hs
      simp only [Bool.and_eq_true] at hs
      have hv2:=dT_ hs.2.1
      refine ⟨g1,hS,m0_ hS ?_,g3,g4⟩
      show 0≤W (s.version+1)∧W (s.version+1)≤100000
      rw [Wn (by omega) (by omega)];omega
end Go.Pi
end
section
namespace Go.Pi
theorem kD_ {s:au_} {m:TMut} (hs:s.cols.length≤bG_) (hr:m.row.cells.length≤bG_):Ev (fun n _=>dV_ n s m) (d7_ s m):=by
 refine aJ_ ?_
 simp only [dV_,dM_ hs,fg_,de_,as_ (fv_ (t:=m.table) hs hr),aD_,ap_,d7_]
 generalize (m.kind == 3)=a
 generalize cy_ s=b
 generalize inn m.table 0 _=c
 generalize inn m.row.id_ 1 999=d
 generalize inn m.kind 1 2=e
 cases a<;>cases b<;>cases c<;>cases d<;>cases e<;>simp
theorem g3_ {s:an_} (h:dw_ cX_ s):Ev (fun n _=>c3_ n s) (cond (cC_ s) s zeroSt):=by
 refine aJ_ ?_
 simp only [c3_,as_ (c8_ (h.upto (show cX_≤bG_ by decide))),as_ (fZ_ h),aD_,ap_]
 cases cC_ s
 · exact ⟨fun _=>rfl,fun h=>(by cases h)⟩
 · exact ⟨fun h=>(by cases h),fun _=>rfl⟩
theorem kE_ {s:an_} {m:TMut} (hl:dw_ cX_ s) (hr:m.row.cells.length≤cX_):Ev (fun n _=>dW_ n s m) (d8_ s m):=by
 have hL:=hl.upto (show cX_≤bG_ by decide)
 have hW:=g3_ hl
 have hT:e0_ cX_ (cB_ s m):=dx_ hl.2.2 _
 have hT1:(cB_ s m).length≤bG_:=d2_ hT.1 (Nat.le_refl _)
 have hrow:∀ i,((cB_ s m).getD i TRow.dflt).cells.length≤cX_:=fun i=>by
  by_cases hi:i<(cB_ s m).length
  · exact hT.2 _ (bL_ _ hi)
  · rw [List.getD_eq_getElem?_getD,List.getElem?_eq_none (by omega)];exact Nat.zero_le _
 have hat:=iq_ (cB_ s m) m.row.id_
 have e0:s.tables.getD m.table.toNat []=cB_ s m:=rfl
 refine aJ_ ?_
 simp only [dW_,e0,as_ (c8_ hL),as_ hW,as_ (kD_ hL.1 (Nat.le_trans hr (by decide))),aD_,ap_]
 unfold d8_
 cases h1:cC_ s
 · exact ⟨fun _=>rfl,fun h=>(by cases h)⟩
 refine ⟨fun h=>(by cases h),fun _ => ?_⟩
 cases h2:d7_ s.schema m
 · exact ⟨fun _=>rfl,fun h=>(by cases h)⟩
 refine ⟨fun h=>(by cases h),fun _ => ?_⟩
 have ht:=iw_ h1 h2 hL.1
 simp only [f6_,bA_,ht,true_and,and_true,as_ (eN_ (id:=m.row.id_) hT1),fi_ (hrow _),fi_ hr,as_ (jw_ hT hr),as_ (fV_ (id:=m.row.id_) hT),as_ (fZ_ hl),aD_,ap_,Bool.true_and,cond_true]
 unfold go_ FDo dY_ noCh gA_
 generalize cz_ (cB_ s m) m.row=p
 generalize d9_ (cB_ s m) m.row.id_=q
 generalize ca_ (cB_ s m) m.row.id_=a at hat ⊢
 have hb:(m.kind == 1)=true→(m.kind != 1)=false:=by simp [bne]
 have hb':(m.kind == 1)=false→(m.kind != 1)=true:=by intro h;simp [bne,h]
 have h3:(m.kind != 3) = !(m.kind == 3):=rfl
 have h13:(m.kind == 1)=true→(m.kind == 3)=false:=fun h=>by
  have:=eq_of_beq h;rw [this];rfl
 rw [h3]
 generalize (m.kind != 1)=k1 at hb hb' ⊢
 cases hk:(m.kind == 1)<;>rw [hk] at hb hb' h13
 · have:=hb' rfl
   subst this
   by_cases ha:a≥0
   · have hr:0≤a∧a<((cB_ s m).length:Int):=by omega
     rw [decide_eq_true ha]
     cases (m.kind == 3)<;>simp [hr]
   · rw [decide_eq_false ha];simp
 · have:=hb rfl
   subst this
   rw [h13 rfl]
   by_cases ha:a≥0
   · rw [decide_eq_true ha];simp
   · rw [decide_eq_false ha]
     cases (((cB_ s m).length:Int) == 24)<;>simp
theorem iL_ {c:Nat} {s:an_} {l:List TMut} (hs:cC_ s=true) (hl:dw_ c s) (hm:ln_ c l) (hc:c+l.length≤1000000):Ev (fun n _=>bl_ n s l) (cA_ s l):=by
 have hcR:dw_ cX_ s:=hl.upto (by simp only [cX_];omega)
 have hC:=fZ_ hcR
 have hW:=g3_ hcR
 rw [hs,cond_true] at hW
 refine aJ_ ?_
 simp only [bl_,dz_,as_ (c8_ (hcR.upto (show cX_≤bG_ by decide))),de_,as_ hC,as_ hW,aD_,ap_]
 unfold cA_
 rw [hs]
 refine ⟨fun h=>(by cases h),fun _ => ?_⟩
 cases h2:inn (l.length:Int) 1 5
 · exact ⟨fun _=>rfl,fun h=>(by cases h)⟩
 refine ⟨fun h=>(by cases h),fun _ => ?_⟩
 cases h3:(s.version == 100000)
 · refine ⟨fun h=>(by cases h),fun _ => ?_⟩
   have key:∀ (m i:Nat) (t:an_) (o:List aI_),i+m=l.length→dw_ (c+i) t→o.length≤i→t.version=s.version →
     Ev (fun n N=>bl_.loop8 n (fun xy9 xy10 xy11 xy12 xy13=>(some ((an_.mk (au_.mk xy12) (W (xy10+1)) xy13),xy11,true))) N l (l.length:Int) (i:Int) s.schema.cols s.version s.tables 0 t.version o t.schema.cols t.tables) (f5_ s (el_ t (l.drop i) o)):=by
    intro m
    induction m with
    |zero=>
     intro i t o hi ht ho hv
     have e:i=l.length:=by omega
     subst e
     refine cc_ ?_
     simp only [bl_.turn8,bl_.step8,bZ_,cond_false,ap_,List.drop_length,el_,f5_,hv]
    |succ m ih=>
     intro i t o hi ht ho hv
     have hlt:i<l.length:=by omega
     have hr:=hm _ (bL_ TMut.dflt hlt)
     have hD:=kE_ (m:=l.getD i TMut.dflt) (ht.upto (show c+i≤cX_ by simp only [cX_];omega)) (Nat.le_trans hr (by simp only [cX_];omega))
     have hW:=W_up hlt (show l.length≤bG_ by simp only [bG_];omega)
     have hn:=gk_ (m:=l.getD i TMut.dflt) ht (Nat.le_trans hr (Nat.le_add_right _ _))
     rw [dq_ TMut.dflt hlt]
     refine cc_ ?_
     simp only [bl_.turn8,bl_.step8,d3_,dz_,h4_,f6_,cw_ hlt,cond_true,bA_,cp_ hlt,true_and,Int.toNat_natCast,hW,as_ hD,aD_,ap_,as_ hC,ch_,el_]
     cases hq:(d8_ t (l.getD i TMut.dflt)).2.2
     · exact ⟨fun _=>rfl,fun h=>(by cases h)⟩
     · refine ⟨fun h=>(by cases h),fun _=>⟨by simp;omega,ih (i+1) _ _ (by omega) (by rw [←Nat.add_assoc];exact hn.1) (by simp;omega) ?_⟩⟩
       rw [←hv]
       unfold d8_ at hq ⊢
       cases hs:cC_ t<;>rw [hs] at hq
       · cases hq
       · cases hk:(d7_ t.schema (l.getD i TMut.dflt)&&go_ t (l.getD i TMut.dflt))<;>rw [hk] at hq
         · cases hq
         · rfl
   exact d4_ (key l.length 0 s [] (by omega) hl (Nat.le_refl _) rfl)
 · exact ⟨fun _=>rfl,fun h=>(by cases h)⟩
section
variable {s:an_} {q:ae_} {c:Nat} (hl:dw_ c s) (hq:ku_ 100000 q) (hc:c≤100000)
include hl hq hc
theorem ju_ (h20:(s.tables.getD q.table.toNat []).length≤20) (hn:(cm_ (s.tables.getD q.table.toNat [])).Nodup):Ev (fun n _=>bo_ n s q) (hB_ s q):=by
 have hs:s.schema.cols.length≤bG_:=d2_ (Nat.le_trans hl.1 hc) (by decide)
 have hL:dw_ bG_ s:=hl.upto (Nat.le_trans hc (by decide))
 have hR:=fU_ hl hq hc h20 hn
 have hqT:ku_ bG_ q:=⟨Nat.le_trans hq.1 (by decide),Nat.le_trans hq.2 (by decide)⟩
 refine aJ_ ?_
 simp only [bo_,as_ (c8_ hL),as_ (dN_ hs hqT),aD_,ap_]
 unfold hB_
 have e0:FSQ s q=(cC_ s&&dX_ s.schema q):=rfl
 cases h1:cC_ s
 · rw [e0,h1];exact ⟨fun _=>rfl,fun h=>(by cases h)⟩
 refine ⟨fun h=>(by cases h),fun _ => ?_⟩
 cases h2:dX_ s.schema q
 · rw [e0,h1,h2];exact ⟨fun _=>rfl,fun h=>(by cases h)⟩
 refine ⟨fun h=>(by cases h),fun _ => ?_⟩
 have hS:=sq_of (s:=s) (q:=q) (by rw [e0,h1,h2];rfl) hs hL.2.1 hL.2.2
 have hqR:ku_ cX_ q:=⟨Nat.le_trans hq.1 (by decide),Nat.le_trans hq.2 (by decide)⟩
 rw [e0,h1,h2]
 simp only [iS_ hqR,as_ hR,bA_,aD_,ap_,Bool.and_self,cond_true]
 have hT:e0_ c (s.tables.getD q.kidTable.toNat []):=dx_ hl.2.2 _
 have hcol:=hS.col
 unfold h8_
 cases hk:q.kids
 · exact ⟨fun h=>(by cases h),fun _=>rfl⟩
 refine ⟨fun _=>⟨hS.kid,?_⟩,fun h=>(by cases h)⟩
 have hcol:=hcol hk
 generalize s.tables.getD q.kidTable.toNat []=rows at hT hcol ⊢
 have key:∀ (m i:Nat) (k:List TKid),i+m=rows.length→k.length≤i→Ev (fun n N=>bo_.loop8 n (fun xy6 xy7 xy8 xy9 xy10 xy11 xy12 xy13 xy14 xy15 xy16 xy17 xy18 xy19 xy20 xy21 xy22 xy23=>(some ((bd_.mk (ae_.mk xy13 xy20 xy14 xy15 xy16 xy21 xy17 xy18 xy19) xy22 xy23),true))) N rows (rows.length:Int) (i:Int) q.table q.where_ q.order q.down q.first q.show_ true q.kidTable q.kidCol 0 0 false 0 false 0 0 q.table q.order q.down q.first true q.kidTable q.kidCol q.where_ q.show_ (d1_ s q) k) (bd_.mk (ae_.mk q.table q.where_ q.order q.down q.first q.show_ true q.kidTable q.kidCol) (d1_ s q) (db_ q k (rows.drop i)),true):=by
  intro m
  induction m with
  |zero=>
   intro i k hi ho
   have e:i=rows.length:=by omega
   subst e
   refine cc_ ?_
   simp only [bo_.turn8,bo_.step8,bZ_,cond_false,ap_,List.drop_length,db_,List.foldl_nil]
  |succ m ih=>
   intro i k hi ho
   have hlt:i<rows.length:=by omega
   have h1:=hT.1
   have hP:=ex_ (kids:=k) (id:=(rows.getD i TRow.dflt).cells.getD q.kidCol.toNat 0) (by_:=1) (by simp only [cX_];omega)
   have hW:=W_up hlt (show rows.length≤bG_ by simp only [bG_];omega)
   have hn:=jb_ (kids:=k) (id:=(rows.getD i TRow.dflt).cells.getD q.kidCol.toNat 0) (by_:=1)
   have e1:db_ q k (rows.drop i)=db_ q (FKid k ((rows.getD i TRow.dflt).cells.getD q.kidCol.toNat 0) 1) (rows.drop (i+1)):=by rw [dq_ TRow.dflt hlt];rfl
   refine cc_ ?_
   simp only [bo_.turn8,bo_.step8,cw_ hlt,cond_true,bA_,cp_ hlt,true_and,Int.toNat_natCast,hW,as_ hP]
   refine ⟨hcol _ (bL_ TRow.dflt hlt),?_⟩
   rw [e1]
   exact ih (i+1) _ (by omega) (by omega)
 have h:=d4_ (key rows.length 0 [] (by omega) (Nat.le_refl _))
 have eq:ae_.mk q.table q.where_ q.order q.down q.first q.show_ true q.kidTable q.kidCol=q:=by rw [←hk]
 rw [List.drop_zero,eq] at h
 exact h
end
end Go.Pi
end
section
namespace Go.Pi
structure Own2 (j:ax_):Prop where
 text:j.kind=3→lY_ j.s=true
 n0:j.kind≠1→j.kind≠2→j.n_=0
 s0:j.kind≠3→j.s=[]
 ns0:j.kind≠5→j.names=[]
theorem FOwn_own2 {j:ax_} (h:FOwn j=true):Own2 j:=by
 unfold FOwn FOwnK at h
 simp only [Bool.and_eq_true,Bool.or_eq_true] at h
 obtain ⟨h1,h2,h3,h4,h5⟩:=h
 refine ⟨fun hk => ?_,fun k1 k2 => ?_,fun k3 => ?_,fun k5 => ?_⟩
 · simpa only [hk,Int.reduceBEq,cond_true,cond_false] using h5
 · rcases h3 with h|h|h
   · simpa using h
   · exact absurd (by simpa using h) k1
   · exact absurd (by simpa using h) k2
 · rcases h4 with h|h
   · simpa using h
   · exact absurd (by simpa using h) k3
 · rcases h2 with h|h
   · exact List.eq_nil_of_length_eq_zero (of_decide_eq_true h)
   · exact absurd (by simpa using h) k5
theorem right_own {d:Nat} {j:ax_} (h:cx_ (d+1) j≤400):FOwn j=true:=by
 simp only [cx_] at h
 cases ho:FOwn j with
 |false=>rw [ho,cond_false] at h;omega
 |true=>rfl
end Go.Pi
end
section
namespace Go.Pi
end Go.Pi
end
section
namespace Go.Pi
end Go.Pi
end
section
namespace Go.Pi
end Go.Pi
end
section
namespace Go.Pi
end Go.Pi
end
section
namespace Go.Pi
structure At (s:Bs) (p:Nat) (x:Bs):Prop where
 le:p≤s.length
 eq:s.drop p=x
theorem At.lt {s t:Bs} {c:UInt8} {p:Nat} (h:At s p (c::t)):p<s.length∧s.getD p 0=c:=by
 have h1:=congrArg List.length h.eq
 simp only [List.length_drop,List.length_cons] at h1
 have hp:p<s.length:=by omega
 refine ⟨hp,?_⟩
 have:=dq_ 0 hp
 rw [h.eq] at this
 exact (List.cons.inj this).1.symm
end Go.Pi
end
section
namespace Go.Pi
end Go.Pi
end
section
namespace Go.Pi
end Go.Pi
end
section
namespace Go.Pi
theorem nQ_ {d:Nat} {j:ax_} (h:cx_ (d+1) j≤400) {x:ax_} (hx:x ∈ j.list):cx_ d x≤400:=by
 have:=(h2_ h).2
 have:=l9_ (cx_ d) hx
 omega
theorem jK_:∀ (d:Nat) (j:ax_),cx_ d j≤400→lo_ d j
 |0,_,_=>trivial
 |d+1,j,h=>by
  have ho:=(h2_ h).1
  have ho2:=FOwn_own2 (right_own h)
  have hll:=nf_ h
  have hnl:=names_len h
  refine ⟨⟨?_,by simp only [bG_];omega,fun x hx => ?_⟩,by simp only [bG_];omega,fun x hx=>jK_ d x (nQ_ h hx)⟩
  · by_cases hk:j.kind=3
    · have:=i6_ (ho2.text hk);simp only [bG_];omega
    · rw [ho2.s0 hk];exact Nat.zero_le _
  · by_cases hk:j.kind=5
    · obtain ⟨i,hi,e⟩:=List.getElem_of_mem hx
      have:=ox_ (ho.obj hk).2 hi
      rw [List.getD_eq_getElem?_getD,List.getElem?_eq_getElem hi,Option.getD_some,e] at this
      simp only [bG_];omega
    · rw [ho2.ns0 hk] at hx;cases hx
end Go.Pi
end
section
namespace Go.Pi
end Go.Pi
end
section
namespace Go.Pi
end Go.Pi
end
section
namespace Go.Pi
end Go.Pi
end
section
namespace Go.Pi
end Go.Pi
end
section
namespace Go.Pi
end Go.Pi
end
section
namespace Go.Pi
end Go.Pi
end
section
namespace Go.Pi
end Go.Pi
end
section
namespace Go.Pi
end Go.Pi
end
section
namespace Go.Pi
end Go.Pi
end
section
namespace Go.Pi
end Go.Pi
end
section
namespace Go.Pi
end Go.Pi
end
section
namespace Go.Pi
end Go.Pi
end
section
namespace Go.Pi
structure VIn (c:Nat) (v:bd_):Prop where
 len:kt_ c v
 show_:∀ y ∈ v.q.show_,0≤y∧y≤1000
theorem VIn.upto {c d:Nat} {v:bd_} (h:VIn c v) (hc:c≤d):VIn d v:=⟨h.len.upto hc,h.show_⟩
end Go.Pi
end
section
namespace Go.Pi
end Go.Pi
end
section
namespace Go.Pi
end Go.Pi
end
section
namespace Go.Pi
theorem jS_ (kids:List TKid) (id:Int):gN_ kids id=cur kids id:=by
 unfold gN_
 have key:∀ d i,i+d=kids.length→eO_ (fun i x=>cond ((kids.getD i TKid.dflt).id_ == id) (kids.getD i TKid.dflt).n_ x) 0 d i=cur (kids.drop i) id:=by
  intro d
  induction d with
  |zero=>
   intro i hi
   rw [List.drop_eq_nil_of_le (by omega)];rfl
  |succ d ih=>
   intro i hi
   rw [dq_ TKid.dflt (show i<kids.length by omega)]
   show cond ((kids.getD i TKid.dflt).id_ == id) (kids.getD i TKid.dflt).n_ _=if (kids.getD i TKid.dflt).id_=id then (kids.getD i TKid.dflt).n_ else cur (kids.drop (i+1)) id
   rw [ih (i+1) (by omega)]
   by_cases e:(kids.getD i TKid.dflt).id_=id
   · rw [beq_iff_eq.2 e,if_pos e];rfl
   · rw [beq_eq_false_iff_ne.2 e,if_neg e];rfl
 have:=key kids.length 0 (by omega)
 rwa [List.drop_zero] at this
theorem kidsIn_go {q:ae_} {T:List TRow} (h:T.length≤80000) (id:Int):gN_ (db_ q [] T) id=cnt q T id:=by
 rw [jS_,(ky_ h).cur (lO_ q T id).1]
def hK_ (s:an_) (q:ae_) (id:Int):Int:=cond q.kids (cnt q (s.tables.getD q.kidTable.toNat []) id) 0
theorem counts_vo {s:an_} {q:ae_} (h:(s.tables.getD q.kidTable.toNat []).length≤80000):fD_ (VO s q)=(VO s q).rows.map fun r=>hK_ s q r.id_:=by
 unfold fD_ hK_
 refine List.map_congr_left fun r _ => ?_
 show gN_ (cond q.kids (db_ q [] (s.tables.getD q.kidTable.toNat [])) []) r.id_=_
 cases q.kids
 · exact jS_ [] r.id_
 · exact kidsIn_go h r.id_
structure oA_ (s:an_) (q:ae_):Prop where
 st:StoD s
 ok:cC_ s=true
 qd:QryD s.schema q
 few:∀ i,(s.tables.getD i []).length≤20
 len:dw_ 100000 s
 ql:ku_ 100000 q
section
variable {s:an_} {q:ae_} (h:oA_ s q)
include h
theorem oA_.nod (i:Int) (hi:0≤i∧i<(s.schema.cols.length:Int)):(cm_ (s.tables.getD i.toNat [])).Nodup:=fj_ (h.st.tab i.toNat (by have:=h.st.num;omega)).asc
theorem oA_.rowsFor:d1_ s q=(VO s q).rows:=by
 have:=ia_ h.ok h.qd
 have hS:FSQ s q=true:=by unfold FSQ;rw [h.ok,f7_ h.qd];rfl
 unfold d1_;rw [hS];rfl
theorem mK_:Ev (fun n _=>ba_ n s q) (VO s q).rows:=by
 rw [←h.rowsFor];exact fU_ h.len h.ql (Nat.le_refl _) (h.few _) (h.nod _ h.qd.tab)
theorem ka_:Ev (fun n _=>bo_ n s q) (VO s q,true):=by
 rw [←ia_ h.ok h.qd];exact ju_ h.len h.ql (Nat.le_refl _) (h.few _) (h.nod _ h.qd.tab)
theorem mJ_:Ev (fun n _=>bq_ n s q) (VO s q,true):=by
 rw [←ia_ h.ok h.qd];exact jm_ h.len h.ql (Nat.le_refl _)
omit h in
theorem vo_row {x:TRow} (hx:x ∈ (VO s q).rows):x ∈ s.tables.getD q.table.toNat []∧cj_ q x=true:=nq_.1 hx
theorem vo_len:(VO s q).rows.length≤20:=by
 have hp:=(eq_ (q:=q) (s.tables.getD q.table.toNat []) []).length_eq
 rw [List.append_nil] at hp
 have h1:((s.tables.getD q.table.toNat []).filter (cj_ q)).length≤(s.tables.getD q.table.toNat []).length:=List.length_filter_le _ _
 have h2:=h.few q.table.toNat
 show (dl_ q [] (s.tables.getD q.table.toNat [])).length≤20
 omega
theorem vo_lenR:e0_ 20 (VO s q).rows:=by
 refine ⟨vo_len h,fun x hx => ?_⟩
 have hw:=ha_ h.qd.sc h.qd.tab.1 h.qd.tab.2
 have:=((h.st.tab q.table.toNat (by have:=h.st.num;have:=h.qd.tab;omega)).row x (vo_row hx).1).len
 omega
theorem oj_ (id:Int):Ev (fun n _=>bE_ n s q id) (hK_ s q id):=by
 have hs:s.schema.cols.length≤bG_:=d2_ h.len.1 (by decide)
 have hL:dw_ bG_ s:=h.len.upto (by decide)
 have hqT:ku_ bG_ q:=⟨Nat.le_trans h.ql.1 (by decide),Nat.le_trans h.ql.2 (by decide)⟩
 have hS:=sq_of (s:=s) (q:=q) (by unfold FSQ;rw [h.ok,f7_ h.qd];rfl) hs hL.2.1 hL.2.2
 refine aJ_ ?_
 simp only [bE_,as_ (c8_ hL),as_ (dN_ hs hqT),h.ok,f7_ h.qd,Bool.not_true,cond_false,aD_,ap_,bA_]
 unfold hK_
 cases hk:q.kids
 · exact ⟨fun _=>rfl,fun h=>(by cases h)⟩
 refine ⟨fun h=>(by cases h),fun _=>⟨hS.kid,?_⟩⟩
 have hcol:=hS.col hk
 have hl:=h.few q.kidTable.toNat
 generalize s.tables.getD q.kidTable.toNat []=T at hcol hl ⊢
 have key:∀ (m i:Nat) (a:Int),i+m=T.length→0≤a∧a≤(i:Int)→Ev (fun n N=>bE_.loop7 n (fun xy3=>(some xy3)) N id a T (T.length:Int) (i:Int) q.table q.where_ q.order q.down q.first q.show_ true q.kidTable q.kidCol) (a+cnt q (T.drop i) id):=by
  intro m
  induction m with
  |zero=>
   intro i a hi ha
   have e:i=T.length:=by omega
   subst e
   have e0:cnt q [] id=0:=rfl
   refine cc_ ?_
   simp only [bE_.turn7,bE_.step7,bZ_,cond_false,ap_,List.drop_length,e0]
   omega
  |succ m ih=>
   intro i a hi ha
   have hlt:i<T.length:=by omega
   have hW:=W_up hlt (show T.length≤bG_ by simp only [bG_];omega)
   have hc:=hcol _ (bL_ TRow.dflt hlt)
   rw [dq_ TRow.dflt hlt,hc_]
   refine cc_ ?_
   simp only [bE_.turn7,bE_.step7,cw_ hlt,cond_true,bA_,cp_ hlt,true_and,Int.toNat_natCast,hW,aD_,hc]
   have ec:(T.getD i TRow.dflt).cells.getD q.kidCol.toNat 0=dH_ q (T.getD i TRow.dflt):=rfl
   rw [ec]
   refine ⟨fun he => ?_,fun he => ?_⟩
   · have he:=eq_of_beq he
     have:=ih (i+1) (a+1) (by omega) (by omega)
     rw [Wn (by omega) (by omega),if_pos he.symm]
     rw [show a+(cnt q (T.drop (i+1)) id+1)=a+1+cnt q (T.drop (i+1)) id by omega]
     exact this
   · have he:=beq_eq_false_iff_ne.1 he
     rw [if_neg (fun e=>he e.symm)]
     have:=ih (i+1) a (by omega) (by omega)
     rwa [show a+(cnt q (T.drop (i+1)) id+0)=a+cnt q (T.drop (i+1)) id by omega]
 have:=d4_ (key T.length 0 0 (by omega) (by omega))
 rw [List.drop_zero,Int.zero_add] at this
 exact this
theorem m2_:∀ c ∈ q.show_,i64 c:=fun c hc=>by
 have h1:=h.qd.show_ c hc
 have hw:=ha_ h.qd.sc h.qd.tab.1 h.qd.tab.2
 unfold i64;omega
theorem ask_Eval:Ev (fun n _=>bS_ n s q) (gi_ (VO s q)):=by
 have hs:s.schema.cols.length≤bG_:=d2_ h.len.1 (by decide)
 have hL:dw_ bG_ s:=h.len.upto (by decide)
 have hqT:ku_ bG_ q:=⟨Nat.le_trans h.ql.1 (by decide),Nat.le_trans h.ql.2 (by decide)⟩
 have hR:=vo_lenR h
 have hlen:=vo_len h
 have hD:=fun kids hk=>g7_ (q:=q) (rows:=(VO s q).rows) (kids:=kids) (by have:=h.ql.2;omega) (m2_ h) (hR.upto (by decide)) (by omega) hk
 have hC:=counts_vo (s:=s) (q:=q) (by have:=h.few q.kidTable.toNat;omega)
 have hF:gi_ (VO s q)=FDoc q (VO s q).rows ((VO s q).rows.map fun r=>hK_ s q r.id_):=by
  unfold gi_;rw [hC];rfl
 rw [hF]
 refine aJ_ ?_
 simp only [bS_,es_,as_ (c8_ hL),as_ (dN_ hs hqT),h.ok,f7_ h.qd,Bool.not_true,cond_false,as_ (mK_ h)]
 have hK:=oj_ h
 generalize (VO s q).rows=rows at hlen hD ⊢
 have key:∀ (m i:Nat) (o:List Int),i+m=rows.length→o=(rows.take i).map (fun r=>hK_ s q r.id_)→Ev (fun n N=>bS_.loop8 n (fun xy5 xy6 xy7 xy8 xy9 xy10 xy11 xy12 xy13 xy14 xy15 xy16 xy17 xy18=>((do_ n (ae_.mk xy5 xy6 xy7 xy8 xy9 xy10 xy11 xy12 xy13) xy17 xy18).bind fun xr19=>(some xr19))) N (rows.length:Int) (i:Int) s.schema.cols s.version s.tables q.table q.where_ q.order q.down q.first q.show_ q.kids q.kidTable q.kidCol 0 0 [] rows o) (FDoc q rows (rows.map fun r=>hK_ s q r.id_)):=by
  intro m
  induction m with
  |zero=>
   intro i o hi ho
   have e:i=rows.length:=by omega
   subst e
   rw [List.take_length] at ho
   subst ho
   refine cc_ ?_
   simp only [bS_.turn8,bS_.step8,d6_,bZ_,cond_false,as_ (hD (rows.map fun r=>hK_ s q r.id_) (by rw [List.length_map];simp only [bG_];omega)),ap_]
  |succ m ih=>
   intro i o hi ho
   have hlt:i<rows.length:=by omega
   have hW:=W_up hlt (show rows.length≤bG_ by simp only [bG_];omega)
   have hol:o.length≤20:=by rw [ho,List.length_map,List.length_take];omega
   refine cc_ ?_
   simp only [bS_.turn8,bS_.step8,d6_,dz_,cw_ hlt,cond_true,bA_,cp_ hlt,true_and,Int.toNat_natCast,hW,as_ (hK _),ch_]
   refine ⟨by simp only [List.length_cons,List.length_nil];omega,ih (i+1) _ (by omega) ?_⟩
   rw [ho,dm_ TRow.dflt hlt,List.map_append,List.map_singleton]
 exact d4_ (key rows.length 0 [] (by omega) rfl)
end
end Go.Pi
end
section
namespace Go.Pi
theorem idx_at {l:List TRow} (h:(cm_ l).Nodup) {i:Nat} (hi:i<l.length):ca_ l (l.getD i TRow.dflt).id_=(i:Int):=by
 have hm:(l.getD i TRow.dflt).id_ ∈ cm_ l:=List.mem_map.2 ⟨_,bL_ TRow.dflt hi,rfl⟩
 have hn:¬ ca_ l (l.getD i TRow.dflt).id_<0:=fun g=>at_neg.1 g hm
 obtain ⟨p,hp⟩:∃ p:Nat,ca_ l (l.getD i TRow.dflt).id_=p:=⟨(ca_ l (l.getD i TRow.dflt).id_).toNat,by omega⟩
 obtain ⟨p1,p2⟩:=hA_ hp
 have hL:(cm_ l).length=l.length:=by unfold cm_;rw [List.length_map]
 have key:∀ a b,a<b→b<l.length→(l.getD a TRow.dflt).id_≠(l.getD b TRow.dflt).id_:=fun a b hab hb=>by
  have:=List.pairwise_iff_getElem.1 h a b (by omega) (by omega) hab
  rw [←kF_ (show a<l.length by omega),←kF_ hb,List.getD_eq_getElem?_getD,List.getD_eq_getElem?_getD,List.getElem?_eq_getElem (by omega),List.getElem?_eq_getElem (by omega)]
  exact this
 rcases Nat.lt_trichotomy p i with g|g|g
 · exact absurd p2 (key p i g hi)
 · rw [hp,g]
 · exact absurd p2.symm (key i p g p1)
section
variable {s:an_} {q:ae_} (h:oA_ s q)
include h
theorem vo_ok:lX_ s.schema (VO s q)=true:=by
 have hn:=h.st.num
 have hqt:=h.qd.tab
 have hT:=h.st.tab q.table.toNat (by omega)
 have hnod:(cm_ (VO s q).rows).Nodup:=kG_ (q:=q) (fj_ hT.asc)
 have hsrt:Srt (bB_ q) (VO s q).rows:=eQ_ (q:=q) (s.tables.getD q.table.toNat []) [] .nil
 have hlen:=vo_len h
 have e1:mT_ s.schema q (VO s q).rows=true:=by
  unfold mT_
  refine cY_.2 fun i hi => ?_
  have hm:=bL_ TRow.dflt hi
  obtain ⟨g1,g2⟩:=vo_row hm
  rw [row_of h.st.sc hqt.1 hqt.2 (hT.row _ g1),g2,decide_eq_true (idx_at hnod hi),Bool.true_and,Bool.true_and,Bool.true_and]
  by_cases e:i=0
  · rw [decide_eq_true e];rfl
  · rw [Bool.or_eq_true];right
    have hs:=srt_get (kT_ q) TRow.dflt (fun _ _=>trivial) hsrt (show i - 1≤i by omega) hi
    cases ha:bB_ q ((VO s q).rows.getD (i - 1) TRow.dflt) ((VO s q).rows.getD i TRow.dflt)
    · have hid:=kc_ ha hs
      have a:=idx_at hnod (show i - 1<(VO s q).rows.length by omega)
      have b:=idx_at hnod hi
      rw [hid] at a
      omega
    · rfl
 have e2:gl_ (VO s q).kids=true∧(decide ((VO s q).kids.length=0)||q.kids)=true:=by
  rcases h.qd.kids with ⟨k0,k1,k2⟩|⟨k0,_,_⟩
  · have eK:(VO s q).kids=db_ q [] (s.tables.getD q.kidTable.toNat []):=by unfold VO;rw [k0];rfl
    have h24:=h.few q.kidTable.toNat
    have hK:=ky_ (q:=q) (T:=s.tables.getD q.kidTable.toNat []) (by omega)
    rw [←eK] at hK
    refine ⟨?_,by rw [k0,Bool.or_true]⟩
    unfold gl_
    refine cY_.2 fun i hi => ?_
    have g:=(hK.iff _).1 (bL_ TKid.dflt hi)
    have gl:=lO_ q (s.tables.getD q.kidTable.toNat []) ((VO s q).kids.getD i TKid.dflt).id_
    rw [cS_.2 (by omega),Bool.true_and]
    by_cases e:i=0
    · rw [decide_eq_true e];rfl
    · rw [Bool.or_eq_true];right
      have:=List.pairwise_iff_getElem.1 hK.asc (i - 1) i (by omega) hi (by omega)
      rw [List.getD_eq_getElem?_getD,List.getD_eq_getElem?_getD,List.getElem?_eq_getElem (by omega),List.getElem?_eq_getElem hi]
      exact decide_eq_true this
  · have eK:(VO s q).kids=[]:=by unfold VO;rw [k0];rfl
    rw [eK];exact ⟨rfl,rfl⟩
 unfold lX_
 rw [show dX_ s.schema (VO s q).q=true from f7_ h.qd,decide_eq_true (show (VO s q).rows.length≤24 by omega),show mT_ s.schema (VO s q).q (VO s q).rows=true from e1,e2.1,show (decide ((VO s q).kids.length=0)||(VO s q).q.kids)=true from e2.2];rfl
theorem vo_kids:(VO s q).kids.length≤20:=by
 have h20:=h.few q.kidTable.toNat
 have key:∀ (T:List TRow) (k:List TKid),(db_ q k T).length≤k.length+T.length:=by
  intro T
  induction T with
  |nil=>intro k;exact Nat.le_refl _
  |cons r T ih=>
   intro k
   have h1:=ih (FKid k (dH_ q r) 1)
   have h2:=jb_ (kids:=k) (id:=dH_ q r) (by_:=1)
   show (db_ q (FKid k (dH_ q r) 1) T).length≤_
   simp only [List.length_cons];omega
 have:=key (s.tables.getD q.kidTable.toNat []) []
 show (cond q.kids (db_ q [] (s.tables.getD q.kidTable.toNat [])) []).length≤20
 cases q.kids
 · exact Nat.zero_le _
 · simp only [List.length_nil] at this;simp only [cond_true];omega
theorem vo_lenV:kt_ 100000 (VO s q):=⟨h.ql,(vo_lenR h).upto (by decide),Nat.le_trans (vo_kids h) (by decide)⟩
end
structure TurnD (s:an_) (q:ae_) (l:List TMut):Prop where
 st:StoD s
 ok:cC_ s=true
 qd:QryD s.schema q
 few:∀ i,(s.tables.getD i []).length≤9
 sin:StIn 1010 s
 qin:QIn q
 ll:l.length≤6
 lm:ln_ 1000 l
theorem l8_ {s:an_} {q:ae_}:∀ (m i:Nat) (c:aw_) (now:an_) (list:List TMut),i+m=6→DwOk c→StIn (1010+i) now→list.length≤i→ln_ 1000 list→Ans (fun n N=>aA_.loop8 n (fun xy63 xy64 xy65 xy66 xy67 xy68 xy69 xy70 xy71 xy72 xy73 xy74 xy75 xy76 xy77 xy78 xy79 xy80 xy81 xy82 xy83=>(some ((an_.mk (au_.mk xy71) xy72 xy73),(ae_.mk xy74 xy82 xy75 xy76 xy77 xy83 xy78 xy79 xy80),xy81))) N (i:Int) 0 0 0 false 0 false 0 0 c.b c.i c.h s.schema.cols s.version s.tables q.table q.order q.down q.first q.kids q.kidTable q.kidCol now.schema.cols now.version now.tables list q.where_ q.show_) fun r=>(r.1=s∧r.2.1=q)∧r.2.2.length≤6∧ln_ 1000 r.2.2:=by
 intro m
 induction m with
 |zero=>
  intro i c now list hi hc hs hl hm
  refine bY_ ?_
  simp only [aA_.turn8,aA_.step8]
  rw [decide_eq_false (by omega)]
  simp only [cond_false]
  exact b3_.2 ⟨⟨rfl,rfl⟩,by show list.length≤6;omega,hm⟩
 |succ m ih=>
  intro i c now list hi hc hs hl hm
  refine bY_ ?_
  simp only [aA_.turn8,aA_.step8,b5_]
  rw [decide_eq_true (by omega)]
  simp only [cond_true]
  refine a4_ (a9_ hc) fun x hx => ?_
  refine cu_.2 ⟨fun _ => ?_,fun _=>b3_.2 ⟨⟨rfl,rfl⟩,by show list.length≤6;omega,hm⟩⟩
  simp only [aA_.tail9,aA_.tail12,b5_,d3_,dz_]
  refine a4_ (kw_ hx.cur hs) fun r hr => ?_
  have hW:=up1 (show i≤1000000 by omega)
  have hD:=gS_ (s:=now) (m:=r.1) (hs.len.upto (by simp only [cX_];omega)) (Nat.le_trans hr.1 (by simp only [cX_];omega))
  simp only [f6_,h4_,hW]
  rw [cn_ hD]
  have hin:=FMutDo_in (k:=1010+i) (m:=r.1) hs (by have:=hr.1;omega)
  refine cu_.2 ⟨fun _=>ek_.2 ⟨by simp only [List.length_cons,List.length_nil];omega,?_⟩,fun _ => ?_⟩
  · exact ih (i+1) r.2 (d8_ now r.1).1 (list++[r.1]) (by omega) hr.2 hin (by simp;omega) (fun y hy=>by
     rcases List.mem_append.1 hy with hy|hy
     · exact hm y hy
     · rw [List.mem_singleton.1 hy];exact hr.1)
  · exact ih (i+1) r.2 now list (by omega) hr.2 (hs.upto (by omega)) (by omega) hm
theorem jE_ {eb_:List Int} (hc:eb_.length≤1048576):Ans (fun n _=>aA_ n eb_) fun r=>TurnD r.1 r.2.1 r.2.2:=by
 refine da_ ?_
 simp only [aA_]
 refine a4_ (l1New_ans hc) fun c h => ?_
 refine a4_ (ans_and (iA_ h) (hS_ h)) fun r hr => ?_
 obtain ⟨⟨a1,a2⟩,⟨⟨b1,b2⟩,b3⟩,_⟩:=hr
 simp only [aA_.tail2,b5_,d3_]
 refine a4_ (ans_and (iz_ a2 a1.col) (iy_ a2 b1.sc)) fun p hp => ?_
 obtain ⟨⟨c1,c2⟩,d1,_⟩:=hp
 simp only [aA_.tail3]
 have:=l8_ (s:=r.1) (q:=p.1) 6 0 p.2 r.1 [] rfl c2 a1 (Nat.le_refl _) (fun y hy=>by cases hy)
 obtain ⟨v,h1,⟨h2,h3⟩,h4,h5⟩:=dF_ this
 refine ⟨v,h1,?_⟩
 show TurnD v.1 v.2.1 v.2.2
 rw [h2,h3]
 exact ⟨b1,b2,d1,b3,a1,c1,h4,h5⟩
end Go.Pi
end
section
namespace Go.Pi
theorem good_sl {t:TC} {xs:List (El t)} (h:Good (.sl .v t xs)):xs.length≤bG_∧∀ x ∈ xs,∀ c ∈ ao_.enc .v t x,Good c:=by
 cases h with
 |sl t xs h1 h2=>exact ⟨h1,h2⟩
end Go.Pi
end
section
namespace Go.Pi
end Go.Pi
end
