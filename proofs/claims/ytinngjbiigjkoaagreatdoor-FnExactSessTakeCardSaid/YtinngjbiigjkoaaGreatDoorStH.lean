/- SessTake of the program returns what SessTake of the reference returns, for all arguments. Text 8 of 8. -/
import Derived.Test.YtinngjbiigjkoaaGreatDoorStG
set_option linter.unusedVariables false
set_option maxRecDepth 100000
set_option linter.unusedSimpArgs false
section
namespace Go.Pi
section
variable {a b:bB_} (ha:m0_ cap a) (hb:m0_ cap b) (hsa:∀ c ∈ a.q.show_,i64 c) (hsb:∀ c ∈ b.q.show_,i64 c) (hab:a.rows.length+b.rows.length≤1500000)
include ha hb hsa hsb hab
theorem oW_:dO_ TOp.size (dR_ a b)≤4000000*20000101:=by
 have hL:=gA_ ha hb hsa hsb hab
 have hO:∀ o ∈ dR_ a b,TOp.size o≤20000100:=by
  obtain ⟨r1,r2,r3⟩:=hE_ ha hb hsa hsb
  intro o ho
  unfold dR_ at ho
  cases hq:gc_ a.q b.q<;>rw [hq] at ho
  · cases ho
  rw [cond_true] at ho
  rcases List.mem_append.1 ho with ho|ho
  · unfold gh_ at ho
    cases hc:(!decide (a.rows.length=b.rows.length))<;>rw [hc] at ho
    · cases ho
    · rw [List.mem_singleton.1 ho]
      have h1:=oR_ (j:=gy_ b.rows.length)
      have h2:=iT_ 6 _ h1
      have e:TOp.size (TOp.mk 3 [nb_] (dV_ (gy_ b.rows.length)))=6+aa_.size (dV_ (gy_ b.rows.length)):=rfl
      omega
  · obtain ⟨o',ho',e⟩:=List.mem_map.1 ho
    obtain ⟨⟨t,ht,e2⟩,hv,_⟩:=r2 o' ho'
    have h2:=iT_ 6 _ hv
    rw [←e]
    have e3:TOp.size (kP_ gk_ o')=dO_ szB (gk_::o'.way)+aa_.size o'.value:=rfl
    rw [e3,e2]
    have e4:dO_ szB [gk_,t]=2+(4+(t.length+0)):=rfl
    rw [e4];omega
 have:=opsSize hO
 have:=hL.1
 unfold dO_
 have:(dR_ a b).length*20000100≤4000000*20000100:=Nat.mul_le_mul_right _ hL.1
 omega
end
end Go.Pi
end
section
namespace Go.Pi
theorem lD_ (v:bB_):aa_.size (eL_ v)≤20000000:=by
 unfold eL_ FDoc dV_
 cases hj:dv_ (gM_ v.rows.length (fq_ id v.q v.rows (ee_ v) (et_ v.q v.rows.length))) with
 |true=>
  have h:=of_decide_eq_true hj
  have:=iT_ 6 _ h
  simp only [cond_true];omega
 |false=>exact Nat.le_trans (show aa_.size hj_≤0 by decide) (Nat.zero_le _)
theorem ev_eta2 (e:cI_):cI_.mk e.kind e.version e.base e.doc e.ops=e:=rfl
theorem mS_ {x:bZ_} (hx:bZ_.len x) (hi:intsS x):∃ n,laws_FnExactSessTake n x=some true:=by
 refine ev_ex (ao_ ?_)
 simp only [laws_FnExactSessTake,ae_ (szSess_ev (a:=x) (l:=1048576) hx (by omega) (by omega)),ai_,ah_]
 refine ⟨fun _=>trivial,fun h => ?_⟩
 have hz:=subS_ok (of_decide_eq_false h)
 have k1:bZ_.size x≤cap:=by simp only [cap];omega
 have hS:=lenS_of k1
 have r1:=lU_ (v:=x.last)
 have r2:=lU_ (v:=x.view)
 have e0:bZ_.size x=bB_.size x.view+bB_.size x.last:=rfl
 have hr:x.last.rows.length+x.view.rows.length≤1500000:=by omega
 have hgs:bZ_.size (ec_ x).1≤4000000:=by
  unfold ec_
  cases FDue x with
  |true=>show bB_.size x.view+bB_.size x.view≤_;omega
  |false=>show bZ_.size x≤_;omega
 have hge:cI_.size (ec_ x).2.1≤100000000000000:=by
  unfold ec_
  cases FDue x with
  |false=>exact Nat.le_trans (show cI_.size noEv≤0 by decide) (Nat.zero_le _)
  |true=>
   show cI_.size (FEvOf x)≤_
   unfold FEvOf
   cases (x.began&&fx_ x.last x.view) with
   |false=>
    have:=lD_ x.view
    show aa_.size (eL_ x.view)+dO_ TOp.size []≤_
    have e:dO_ TOp.size []=0:=rfl
    rw [e];omega
   |true=>
    have:=oW_ hS.2 hS.1 hi.2 hi.1 hr
    show aa_.size (aa_.mk 0 0 [] [] [])+dO_ TOp.size (dR_ x.last x.view)≤_
    have e:aa_.size (aa_.mk 0 0 [] [] [])=0:=by decide
    rw [e];omega
 simp only [cap] at k1
 obtain ⟨m1,y0,y1,y2,y3,y4,y5,y6,y7,a1,a2,b0,b1,b2,b3,b4,b5,b6,b7,a3,a4⟩:=jl_ (a:=x) (k:=1) (by omega) (by simp only [ci_];omega)
 obtain ⟨m3,w0,w1,w2,w3,w4,w5,w6,w7,d1,d2,f0,f1,f2,f3,f4,f5,f6,f7,d3,d4⟩:=jl_ (a:=(ec_ x).1) (k:=1) (by omega) (by simp only [ci_];omega)
 obtain ⟨m4,z0,z1,z2,g1,g2,j0,j1,j2,g3,g4⟩:=ma_ (a:=(ec_ x).2.1) (k:=m3) (by omega) (by simp only [ci_];omega)
 have t1:bZ_.size x≤ci_:=by simp only [ci_];omega
 have t3:bZ_.size (ec_ x).1≤ci_:=by simp only [ci_];omega
 have t4:cI_.size (ec_ x).2.1≤ci_:=by simp only [ci_];omega
 have q1:bZ_.size x≤cap:=k1
 have hsp:=iH_ hS hi hr
 have him:=iK_ hS hi hr
 generalize ec_ x=r at *
 simp only [b3_,ev_eta2,ae_ (toSess_ev q1),ae_ hsp,ae_ him,ae_ (mE_ t3),ae_ (mE_ t1),ae_ (pj_ t4),ae_ a3,ae_ d3,ae_ d4,ae_ g3,ae_ g4,b0,b1,b2,b3,b4,b5,b6,b7,f0,f1,f2,f3,f4,f5,f6,f7,j0,j1,j2,Nat.beq_refl,beq_self_eq_true,bne_self_eq_false,Bool.not_true,cond_true,cond_false,ai_,ah_,decide_eq_true_eq,decide_eq_false_iff_not]
 repeat' (first|apply And.intro|intro _)
 all_goals (first|trivial|rfl|(exfalso;omega)|omega)
end Go.Pi
end
section
namespace Go.Pi
theorem d0_ {t:TC} {xs:List (El t)} (h:Good (.sl .v t xs)):xs.length≤ci_∧∀ x ∈ xs,∀ c ∈ an_.enc .v t x,Good c:=by
 cases h with
 |sl t xs h1 h2=>exact ⟨h1,h2⟩
end Go.Pi
end
section
namespace Go.Pi
theorem good_str {l:Bs} (h:Good (.s l)):lenB l:=by
 cases h with
 |s l h=>exact h
theorem aP_.good {x:aP_} (h:∀ c ∈ ([.i .i64 x.col,.i .i64 x.op,.i .i64 x.v]:List AV),Good c):aP_.len x:=trivial
theorem aT_.good {x:aT_} (h:∀ c ∈ ([.i .i64 x.table,.sl .v .lCond x.where_,.i .i64 x.order,.b x.down,.i .i64 x.first,.sl .v .int x.show_,.b x.kids,.i .i64 x.kidTable,.i .i64 x.kidCol]:List AV),Good c):aT_.len x:=⟨⟨(d0_ (t:=.lCond) (h _ (.tail _ (.head _)))).1,fun x0 hx0=>aP_.good ((d0_ (t:=.lCond) (h _ (.tail _ (.head _)))).2 x0 hx0)⟩,⟨(d0_ (t:=.int) (h _ (.tail _ (.tail _ (.tail _ (.tail _ (.tail _ (.head _)))))))).1,fun x0 hx0=>trivial⟩⟩
theorem TRow.good {x:TRow} (h:∀ c ∈ ([.i .i64 x.id_,.sl .v .int x.cells]:List AV),Good c):TRow.len x:=⟨(d0_ (t:=.int) (h _ (.tail _ (.head _)))).1,fun x0 hx0=>trivial⟩
theorem TKid.good {x:TKid} (h:∀ c ∈ ([.i .i64 x.id_,.i .i64 x.n_]:List AV),Good c):TKid.len x:=trivial
theorem bB_.good {x:bB_} (h:∀ c ∈ ([.i .i64 x.q.table,.sl .v .lCond x.q.where_,.i .i64 x.q.order,.b x.q.down,.i .i64 x.q.first,.sl .v .int x.q.show_,.b x.q.kids,.i .i64 x.q.kidTable,.i .i64 x.q.kidCol,.sl .v .lRow x.rows,.sl .v .lKid x.kids]:List AV),Good c):bB_.len x:=⟨⟨⟨(d0_ (t:=.lCond) (h _ (.tail _ (.head _)))).1,fun x0 hx0=>aP_.good ((d0_ (t:=.lCond) (h _ (.tail _ (.head _)))).2 x0 hx0)⟩,⟨(d0_ (t:=.int) (h _ (.tail _ (.tail _ (.tail _ (.tail _ (.tail _ (.head _)))))))).1,fun x0 hx0=>trivial⟩⟩,⟨(d0_ (t:=.lRow) (h _ (.tail _ (.tail _ (.tail _ (.tail _ (.tail _ (.tail _ (.tail _ (.tail _ (.tail _ (.head _)))))))))))).1,fun x0 hx0=>TRow.good ((d0_ (t:=.lRow) (h _ (.tail _ (.tail _ (.tail _ (.tail _ (.tail _ (.tail _ (.tail _ (.tail _ (.tail _ (.head _)))))))))))).2 x0 hx0)⟩,⟨(d0_ (t:=.lKid) (h _ (.tail _ (.tail _ (.tail _ (.tail _ (.tail _ (.tail _ (.tail _ (.tail _ (.tail _ (.tail _ (.head _))))))))))))).1,fun x0 hx0=>TKid.good ((d0_ (t:=.lKid) (h _ (.tail _ (.tail _ (.tail _ (.tail _ (.tail _ (.tail _ (.tail _ (.tail _ (.tail _ (.tail _ (.head _))))))))))))).2 x0 hx0)⟩⟩
theorem bZ_.good {x:bZ_} (h:∀ c ∈ ([.i .i64 x.view.q.table,.sl .v .lCond x.view.q.where_,.i .i64 x.view.q.order,.b x.view.q.down,.i .i64 x.view.q.first,.sl .v .int x.view.q.show_,.b x.view.q.kids,.i .i64 x.view.q.kidTable,.i .i64 x.view.q.kidCol,.sl .v .lRow x.view.rows,.sl .v .lKid x.view.kids,.i .i64 x.version,.i .i64 x.last.q.table,.sl .v .lCond x.last.q.where_,.i .i64 x.last.q.order,.b x.last.q.down,.i .i64 x.last.q.first,.sl .v .int x.last.q.show_,.b x.last.q.kids,.i .i64 x.last.q.kidTable,.i .i64 x.last.q.kidCol,.sl .v .lRow x.last.rows,.sl .v .lKid x.last.kids,.i .i64 x.lastVersion,.b x.began]:List AV),Good c):bZ_.len x:=⟨⟨⟨⟨(d0_ (t:=.lCond) (h _ (.tail _ (.head _)))).1,fun x0 hx0=>aP_.good ((d0_ (t:=.lCond) (h _ (.tail _ (.head _)))).2 x0 hx0)⟩,⟨(d0_ (t:=.int) (h _ (.tail _ (.tail _ (.tail _ (.tail _ (.tail _ (.head _)))))))).1,fun x0 hx0=>trivial⟩⟩,⟨(d0_ (t:=.lRow) (h _ (.tail _ (.tail _ (.tail _ (.tail _ (.tail _ (.tail _ (.tail _ (.tail _ (.tail _ (.head _)))))))))))).1,fun x0 hx0=>TRow.good ((d0_ (t:=.lRow) (h _ (.tail _ (.tail _ (.tail _ (.tail _ (.tail _ (.tail _ (.tail _ (.tail _ (.tail _ (.head _)))))))))))).2 x0 hx0)⟩,⟨(d0_ (t:=.lKid) (h _ (.tail _ (.tail _ (.tail _ (.tail _ (.tail _ (.tail _ (.tail _ (.tail _ (.tail _ (.tail _ (.head _))))))))))))).1,fun x0 hx0=>TKid.good ((d0_ (t:=.lKid) (h _ (.tail _ (.tail _ (.tail _ (.tail _ (.tail _ (.tail _ (.tail _ (.tail _ (.tail _ (.tail _ (.head _))))))))))))).2 x0 hx0)⟩⟩,⟨⟨⟨(d0_ (t:=.lCond) (h _ (.tail _ (.tail _ (.tail _ (.tail _ (.tail _ (.tail _ (.tail _ (.tail _ (.tail _ (.tail _ (.tail _ (.tail _ (.tail _ (.head _)))))))))))))))).1,fun x0 hx0=>aP_.good ((d0_ (t:=.lCond) (h _ (.tail _ (.tail _ (.tail _ (.tail _ (.tail _ (.tail _ (.tail _ (.tail _ (.tail _ (.tail _ (.tail _ (.tail _ (.tail _ (.head _)))))))))))))))).2 x0 hx0)⟩,⟨(d0_ (t:=.int) (h _ (.tail _ (.tail _ (.tail _ (.tail _ (.tail _ (.tail _ (.tail _ (.tail _ (.tail _ (.tail _ (.tail _ (.tail _ (.tail _ (.tail _ (.tail _ (.tail _ (.tail _ (.head _)))))))))))))))))))).1,fun x0 hx0=>trivial⟩⟩,⟨(d0_ (t:=.lRow) (h _ (.tail _ (.tail _ (.tail _ (.tail _ (.tail _ (.tail _ (.tail _ (.tail _ (.tail _ (.tail _ (.tail _ (.tail _ (.tail _ (.tail _ (.tail _ (.tail _ (.tail _ (.tail _ (.tail _ (.tail _ (.tail _ (.head _)))))))))))))))))))))))).1,fun x0 hx0=>TRow.good ((d0_ (t:=.lRow) (h _ (.tail _ (.tail _ (.tail _ (.tail _ (.tail _ (.tail _ (.tail _ (.tail _ (.tail _ (.tail _ (.tail _ (.tail _ (.tail _ (.tail _ (.tail _ (.tail _ (.tail _ (.tail _ (.tail _ (.tail _ (.tail _ (.head _)))))))))))))))))))))))).2 x0 hx0)⟩,⟨(d0_ (t:=.lKid) (h _ (.tail _ (.tail _ (.tail _ (.tail _ (.tail _ (.tail _ (.tail _ (.tail _ (.tail _ (.tail _ (.tail _ (.tail _ (.tail _ (.tail _ (.tail _ (.tail _ (.tail _ (.tail _ (.tail _ (.tail _ (.tail _ (.tail _ (.head _))))))))))))))))))))))))).1,fun x0 hx0=>TKid.good ((d0_ (t:=.lKid) (h _ (.tail _ (.tail _ (.tail _ (.tail _ (.tail _ (.tail _ (.tail _ (.tail _ (.tail _ (.tail _ (.tail _ (.tail _ (.tail _ (.tail _ (.tail _ (.tail _ (.tail _ (.tail _ (.tail _ (.tail _ (.tail _ (.tail _ (.head _))))))))))))))))))))))))).2 x0 hx0)⟩⟩⟩
end Go.Pi
end
section
namespace Go.Pi
theorem mp_ {l:List Int} (h:Good (.sl .v .int l)):∀ c ∈ l,-9223372036854775808≤c∧c≤9223372036854775807:=fun c hc=>by
 have:=(d0_ (t:=.int) h).2 c hc (.i .i64 c) (.head _)
 cases this with
 |i k n h=>
  have h:(decide (IntKind.i64.min≤c)&&decide (c≤IntKind.i64.max))=true:=h
  rw [Bool.and_eq_true,decide_eq_true_eq,decide_eq_true_eq] at h
  exact h
end Go.Pi
end
section
namespace Go.Pi
open Go.Proofs Go.Proofs.YtinngjbiigjkoaaGreatDoor
namespace laws_FnExactSessTake
theorem pure_law:Pure:=fun x h0=>mS_ (bZ_.good h0) ⟨mp_ (h0 (.sl .v .int x.view.q.show_) (by simp)),mp_ (h0 (.sl .v .int x.last.q.show_) (by simp))⟩
theorem proved:Rows.FnExactSessTakeCardSaid:=card pure_law
end laws_FnExactSessTake
end Go.Pi
end
namespace Go.Proofs.YtinngjbiigjkoaaGreatDoor
theorem fnExactSessTake_holds:Rows.FnExactSessTakeCardSaid:=Go.Pi.laws_FnExactSessTake.proved
#print axioms fnExactSessTake_holds
end Go.Proofs.YtinngjbiigjkoaaGreatDoor
