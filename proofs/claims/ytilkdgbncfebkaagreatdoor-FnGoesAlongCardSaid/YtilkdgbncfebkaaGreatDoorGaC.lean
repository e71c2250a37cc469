/- FnGoesAlong: a view of a drawn store that goes along with a batch is the view of the store behind it, and its answer what asking anew tells. No condition. Text 3 of 7. -/
import Derived.Test.YtilkdgbncfebkaaGreatDoorGaB
import Derived.Deep.LoopGhost
import Derived.Scope
import Derived.Lib.ItoaNum
import Derived.Lib.Join
import Derived.Lib.Replace
import Derived.Lib.Split
import Derived.Lib.AtoiAll
import Derived.Shelf.LaysM
import Derived.Shelf.Strconv.Itoa3
import Derived.Lib.LaidTab
import Derived.Test.YtilkdgbncfebkaaGreatDoorChecked
set_option linter.unusedVariables false
set_option maxRecDepth 100000
section
namespace Go.Pi
variable {ω:Type}
def ancs:List Oper→List (List Nat)→List (List Nat)
 |[],acc=>acc
 |o::l,acc=>ancs l (acc++[eC_ [] (o.after.toList.flatMap fun e=>cond (Region.binds .any e) (e.on::acc.getD e.on []) [])])
def pairOk (ops:Array Oper) (anc:List (List Nat)) (logs:List (List Nat × Bool)) (i j:Nat):Bool :=
 (anc.getD i []).any (Nat.beq j)||match ops[i]?,ops[j]? with
  |some oi,some oj=>oj.apart ops oi&&indep (cv_ oj) (cv_ oi) (logs.getD j ([],true)) (logs.getD i ([],true))
  |_,_=>false
def ordOk (ops:Array Oper) (i:Nat):Bool:=match ops[i]? with
 |some o=>o.after.toList.all fun e => !(Region.binds .any e)||Nat.blt e.on i
 |none=>true
def pairsOk (ops:Array Oper) (logs:List (List Nat × Bool)):Bool :=
 (List.range ops.size).all fun i=>ordOk ops i&&(List.range i).all fun j=>pairOk ops (ancs ops.toList []) logs i j
theorem i0_:∀ (rs l:List Nat) (v:Nat),v ∈ eC_ l rs→v ∈ l∨v ∈ rs
 |[],l,v,h=>.inl h
 |r::rs,l,v,h=>by
  simp only [eC_] at h
  rcases i0_ rs _ v h with h|h
  · cases hb:l.any (Nat.beq r) with
    |true=>rw [hb] at h;exact .inl h
    |false=>
     rw [hb] at h
     simp only [cond_false] at h
     rcases List.mem_append.1 h with h|h
     · exact .inl h
     · rw [List.mem_singleton] at h;subst h;exact .inr (List.mem_cons_self ..)
  · exact .inr (List.mem_cons_of_mem _ h)
def AncOk (ops:Array Oper) (A:List (List Nat)):Prop:=∀ i j,j ∈ A.getD i []→∃ o e,ops[i]?=some o∧e ∈ o.after∧Region.binds .any e=true∧(j=e.on∨(e.on<i∧j ∈ A.getD e.on []))
theorem ancs_ok (ops:Array Oper):∀ (l:List Oper) (acc:List (List Nat)),ops.toList.drop acc.length=l→AncOk ops acc→AncOk ops (ancs l acc)
 |[],acc,_,h=>h
 |o::l,acc,hl,h=>by
  simp only [ancs]
  have ho:ops[acc.length]?=some o:=by
   have:(ops.toList.drop acc.length)[0]?=some o:=by rw [hl];rfl
   simpa using this
  refine ancs_ok ops l _ ?_ ?_
  · have:=congrArg List.tail hl
    simpa [List.tail_drop] using this
  · intro i j hj
    have old:∀ k,k<acc.length→(acc++[eC_ [] (o.after.toList.flatMap fun e=>cond (Region.binds .any e) (e.on::acc.getD e.on []) [])]).getD k []=acc.getD k []:=fun k hk=>by
     simp [List.getD,List.getElem?_append_left hk]
    by_cases hi:i<acc.length
    · rw [old i hi] at hj
      obtain ⟨o',e,h1,h2,h3,h4⟩:=h i j hj
      refine ⟨o',e,h1,h2,h3,h4.imp id fun ⟨h5,h6⟩=>⟨h5,?_⟩⟩
      rw [old _ (by omega)];exact h6
    · by_cases hi':i=acc.length
      · subst hi'
        have:(acc++[eC_ [] (o.after.toList.flatMap fun e=>cond (Region.binds .any e) (e.on::acc.getD e.on []) [])]).getD acc.length []=eC_ [] (o.after.toList.flatMap fun e=>cond (Region.binds .any e) (e.on::acc.getD e.on []) []):=by simp [List.getD]
        rw [this] at hj
        rcases i0_ _ _ _ hj with hj|hj
        · cases hj
        · obtain ⟨e,he,hj⟩:=List.mem_flatMap.1 hj
          cases hb:Region.binds .any e with
          |false=>rw [hb] at hj;cases hj
          |true=>
           rw [hb] at hj
           simp only [cond_true] at hj
           refine ⟨o,e,ho,by simpa using he,hb,?_⟩
           rcases List.mem_cons.1 hj with hj|hj
           · exact .inl hj
           · right
             have hlt:e.on<acc.length:=by
              rcases Nat.lt_or_ge e.on acc.length with h|h
              · exact h
              · simp [List.getD,List.getElem?_eq_none h] at hj
             exact ⟨hlt,by rw [old _ hlt];exact hj⟩
      · have:(acc++[eC_ [] (o.after.toList.flatMap fun e=>cond (Region.binds .any e) (e.on::acc.getD e.on []) [])]).getD i []=[]:=by
         simp only [List.getD]
         rw [List.getElem?_eq_none (by simp;omega)]
         rfl
        rw [this] at hj;cases hj
def Closed (ops:Array Oper) (listed:Array Bool):Prop:=∀ i o e,ops[i]?=some o→listed.getD i true=true→e ∈ o.after→Region.binds .any e=true→listed.getD e.on true=true
theorem ol_ {ops:Array Oper} {listed:Array Bool} (hc:Closed ops listed) {A:List (List Nat)} (hA:AncOk ops A):∀ (i:Nat) (j:Nat),(∀ o e,ops[i]?=some o→e ∈ o.after→Region.binds .any e=true→listed.getD e.on true=true)→j ∈ A.getD i []→listed.getD j true=true:=by
 intro i
 induction i using Nat.strongRecOn with
 |_ i ih=>
  intro j hi hj
  obtain ⟨o,e,h1,h2,h3,h4⟩:=hA i j hj
  have hl:=hi o e h1 h2 h3
  rcases h4 with rfl|⟨h5,h6⟩
  · exact hl
  · exact ih e.on h5 j (fun o' e' k1 k2 k3=>hc _ o' e' k1 hl k2 k3) h6
variable [ao_]
def Runs (c:Cx) (ops:Array Oper) (logs:Nat→List Nat × Bool):List Nat→St→St→Prop
 |[],s,t=>s=t
 |i::l,s,t=>∃ o s1,ops[i]?=some o∧Does c ops.toList o s s1 (logs i).1 (logs i).2∧Runs c ops logs l s1 t
theorem runs_of {c:Cx} (hK:KPar c) {ops:Array Oper}:∀ (l:List Oper) (s:St) (logs0:List (List Nat × Bool)) {κ:St→List (List Nat × Bool)→Option ω} {r:ω},ops.toList.drop logs0.length=l→opsD c ops.toList l s logs0 κ=some r →
  ∃ logs t,κ t (logs0++logs)=some r∧Runs c ops (fun i=>(logs0++logs).getD i ([],true)) (List.range' logs0.length l.length) s t
 |[],s,logs0,κ,r,hl,h=>⟨[],s,by simpa [opsD] using h,rfl⟩
 |o::l,s,logs0,κ,r,hl,h=>by
  simp only [opsD] at h
  obtain ⟨s',hd,h⟩:=does_of hK h
  have ho:ops[logs0.length]?=some o:=by
   have:(ops.toList.drop logs0.length)[0]?=some o:=by rw [hl];rfl
   simpa using this
  have hl2:ops.toList.drop (logs0++[(gm_ s o,kq_ c o s.eval)]).length=l:=by
   have:=congrArg List.tail hl
   simpa [List.tail_drop] using this
  obtain ⟨logs,t,h1,h2⟩:=runs_of hK l s' _ hl2 h
  refine ⟨(gm_ s o,kq_ c o s.eval)::logs,t,by simpa using h1,?_⟩
  simp only [List.length_cons,List.range'_succ]
  refine ⟨o,s',ho,?_,?_⟩
  · have:(logs0++(gm_ s o,kq_ c o s.eval)::logs).getD logs0.length ([],true)=(gm_ s o,kq_ c o s.eval):=by simp [List.getD]
    simp only [this];exact hd
  · simpa using h2
theorem jG_ {c:Cx} {ops:Array Oper} {logs:Nat→List Nat × Bool} {i:Nat}:∀ (R1 R2:List Nat) (s t:St),
  (∀ j ∈ R1,∀ oi oj,ops[i]?=some oi→ops[j]?=some oj→oj.apart ops oi=true∧indep (cv_ oj) (cv_ oi) (logs j) (logs i)=true) →
  Runs c ops logs (R1++i::R2) s t→∃ o s1,ops[i]?=some o∧Does c ops.toList o s s1 (logs i).1 (logs i).2∧Runs c ops logs (R1++R2) s1 t
 |[],R2,s,t,_,h=>h
 |j::R1,R2,s,t,hg,h=>by
  obtain ⟨oj,sj,h1,h2,h3⟩:=h
  obtain ⟨oi,s2,k1,k2,k3⟩:=jG_ R1 R2 sj t (fun j hj=>hg j (List.mem_cons_of_mem _ hj)) h3
  obtain ⟨g1,g2⟩:=hg j (List.mem_cons_self ..) oi oj k1 h1
  obtain ⟨s1',m1,m2⟩:=swap g1 (indep_ok g2) h2 k2
  exact ⟨oi,s1',k1,m1,oj,s2,h1,m2,k3⟩
end Go.Pi
end
section
namespace Go.Pi
variable {ω:Type}
variable [ao_]
open ao_
variable {E:Env} {c:Cx} {s:St} {a:Act} {w:World} {G:av_} {r:ω}
def gP_ (n:Nat) (listed:Array Bool):List Nat:=(List.range n).filter fun i => !(listed.getD i true)
omit [ao_] in
theorem nr_ (listed:Array Bool) (i j:Nat):(listed.setIfInBounds i true).getD j true=(Nat.beq j i||listed.getD j true):=by
 by_cases h:j=i
 · subst h
   rw [Nat.beq_refl,Bool.true_or]
   by_cases hj:j<listed.size
   · simp [hj]
   · simp [hj]
 · rw [eY_ h,Bool.false_or]
   exact getD_set_ne true (fun e=>h e.symm)
omit [ao_] in
theorem rest_set (n:Nat) (listed:Array Bool) (i:Nat):gP_ n (listed.setIfInBounds i true)=(gP_ n listed).filter fun j => !(Nat.beq j i):=by
 unfold gP_
 rw [List.filter_filter]
 congr 1
 funext j
 rw [nr_]
 cases Nat.beq j i<;>cases listed.getD j true<;>rfl
omit [ao_] in
theorem oe_ {i:Nat}:∀ {R1 R2:List Nat},(R1++i::R2).Nodup→((R1++i::R2).filter fun j => !(Nat.beq j i))=R1++R2:=by
 intro R1 R2 h
 rw [List.nodup_append] at h
 obtain ⟨h1,h2,h3⟩:=h
 have e1:R1.filter (fun j => !(Nat.beq j i))=R1:=List.filter_eq_self.2 fun j hj=>by
  have:j≠i:=fun e=>h3 j hj i (List.mem_cons_self ..) e
  rw [eY_ this];rfl
 have e2:R2.filter (fun j => !(Nat.beq j i))=R2:=List.filter_eq_self.2 fun j hj=>by
  have:j≠i:=fun e=>by subst e;exact (List.nodup_cons.1 h2).1 hj
  rw [eY_ this];rfl
 rw [List.filter_append,List.filter_cons,e1,e2]
 simp
theorem any_wp [aq_] (hc:CxOk E c) (hK:KPar c) {ops:Array Oper} {logs:List (List Nat × Bool)} (hp:pairsOk ops logs=true) {x0:X} {w0:World} {G0:av_} {t:St} {Q:Exit→Act→World→Prop}
  (hq:∀ a' w' G',Sim E c t a' w' G'→Evo x0 w0 G0 t.x w' G'→Q .normal a' w'):∀ (fuel:Nat) (listed:Array Bool) (s:St) (a:Act) (w:World) (G:av_),
  Closed ops listed→(gP_ ops.size listed).length≤fuel→Runs c ops (fun i=>logs.getD i ([],true)) (gP_ ops.size listed) s t→Sim E c s a w G→Evo x0 w0 G0 s.x w G→wpAny E.P .any ops Q fuel listed a w:=by
 have hord:∀ i,i<ops.size→∀ o e,ops[i]?=some o→e ∈ o.after→Region.binds .any e=true→e.on<i:=by
  intro i hi o e ho he hb
  have:=List.all_eq_true.1 hp i (by simpa using hi)
  simp only [Bool.and_eq_true,ordOk,ho] at this
  have:=List.all_eq_true.1 this.1 e (by simpa using he)
  rw [hb] at this
  simpa [f1_] using this
 have hpair:∀ i j,i<ops.size→j<i→pairOk ops (ancs ops.toList []) logs i j=true:=by
  intro i j hi hj
  have:=List.all_eq_true.1 hp i (by simpa using hi)
  simp only [Bool.and_eq_true] at this
  exact List.all_eq_true.1 this.2 j (by simpa using hj)
 have hA:AncOk ops (ancs ops.toList []):=ancs_ok ops _ [] (by simp) fun i j hj=>by simp at hj
 have mem_rest:∀ {listed:Array Bool} {i},i ∈ gP_ ops.size listed↔i<ops.size∧listed.getD i true=false:=by
  intro listed i
  simp [gP_]
 have unl:∀ {listed:Array Bool} {i},i<ops.size→listed.getD i true=false→listed.getD i false=false:=by
  intro listed i hi h
  by_cases hs:i<listed.size
  · simpa [hs] using h
  · simp [hs] at h
 have lst:∀ {listed:Array Bool} {i:Nat},listed.getD i false=true→listed.getD i true=true:=by
  intro listed i h
  by_cases hs:i<listed.size
  · simpa [hs] using h
  · simp [hs]
 intro fuel
 induction fuel with
 |zero=>
  intro listed s a w G hcl hf hr hs hev
  have:gP_ ops.size listed=[]:=List.eq_nil_of_length_eq_zero (by omega)
  rw [this] at hr
  obtain rfl:s=t:=hr
  refine ⟨?_,hq a w G hs hev⟩
  cases hrd:Region.ready .any ops listed with
  |nil=>rfl
  |cons i l=>
   have hi:i ∈ Region.ready .any ops listed:=by rw [hrd];exact List.mem_cons_self ..
   obtain ⟨h1,o,h2,_⟩:=mem_ready.1 hi
   have:=mem_rest.2 ⟨(Array.getElem?_eq_some_iff.1 h2).1,h1⟩
   rw [‹gP_ ops.size listed=[]›] at this
   cases this
 |succ fuel ih=>
  intro listed s a w G hcl hf hr hs hev
  refine ⟨fun h0 => ?_,fun i hi => ?_⟩
  · have:gP_ ops.size listed=[]:=by
     cases hrest:gP_ ops.size listed with
     |nil=>rfl
     |cons i R=>
      exfalso
      have hi:i ∈ gP_ ops.size listed:=by rw [hrest];exact List.mem_cons_self ..
      obtain ⟨h1,h2⟩:=mem_rest.1 hi
      have:i ∈ Region.ready .any ops listed:=by
       refine mem_ready.2 ⟨h2,ops[i],by simp [h1],fun e he hb => ?_⟩
       have hlt:=hord i h1 _ e (by simp [h1]) he hb
       cases hl:listed.getD e.on false with
       |true=>rfl
       |false=>
        exfalso
        have hl':listed.getD e.on true=false:=by
         by_cases hs':e.on<listed.size
         · simpa [hs'] using hl
         · have:¬ i<listed.size:=by omega
           simp [this] at h2
        have he':e.on ∈ gP_ ops.size listed:=mem_rest.2 ⟨by omega,hl'⟩
        have hsorted:(gP_ ops.size listed).Pairwise (· < ·):=List.Pairwise.filter _ List.pairwise_lt_range
        rw [hrest] at he' hsorted
        rcases List.mem_cons.1 he' with e1|e1
        · omega
        · have:=List.rel_of_pairwise_cons hsorted e1
          omega
      rw [h0] at this;cases this
    rw [this] at hr
    obtain rfl:s=t:=hr
    exact hq a w G hs hev
  · obtain ⟨h1,o,h2,h3⟩:=mem_ready.1 hi
    have hlt:=(Array.getElem?_eq_some_iff.1 h2).1
    have hir:=mem_rest.2 ⟨hlt,h1⟩
    obtain ⟨R1,R2,hR⟩:=List.append_of_mem hir
    have hnd:(gP_ ops.size listed).Nodup:=List.Pairwise.filter _ List.nodup_range
    have hsorted:(gP_ ops.size listed).Pairwise (· < ·):=List.Pairwise.filter _ List.pairwise_lt_range
    rw [hR] at hr hnd hsorted
    obtain ⟨o',s1,k1,k2,k3⟩:=jG_ R1 R2 s t (fun j hj oi oj e1 e2=>by
     have hji:j<i:=by
      have:=(List.pairwise_append.1 hsorted).2.2 j hj i (List.mem_cons_self ..)
      exact this
     have hjr:j ∈ gP_ ops.size listed:=by rw [hR];exact List.mem_append_left _ hj
     have hp2:=hpair i j hlt hji
     simp only [pairOk,Bool.or_eq_true,e1,e2,Bool.and_eq_true] at hp2
     rcases hp2 with hp2|hp2
     · exfalso
       have:=ol_ hcl hA i j (fun o' e k1 k2 k3=>by
        rw [h2] at k1;cases k1
        exact lst (h3 e k2 k3)) (mL_.1 hp2)
       rw [(mem_rest.1 hjr).2] at this;cases this
     · exact hp2) hr
    rw [h2] at k1
    cases k1
    unfold wpOp
    rw [h2]
    simp only
    refine np_ hc hs h2 (κ:=some) (r:=s1) (k2.guard hK) fun a' w' hn => ?_
    obtain ⟨s',G',e1,e2,e3⟩:=hn
    cases e1
    have hrest':gP_ ops.size (listed.setIfInBounds i true)=R1++R2:=by rw [rest_set,hR,oe_ hnd]
    refine ih (listed.setIfInBounds i true) s1 a' w' G' (fun k o' e f1 f2 f3 f4 => ?_) (by rw [hrest'];rw [hR] at hf;simp at hf ⊢;omega) (by rw [hrest'];exact k3) e2 (hev.trans e3)
    rw [nr_,Bool.or_eq_true] at f2 ⊢
    rcases f2 with f2|f2
    · have:=ci_.1 f2
      subst this
      rw [h2] at f1;cases f1
      exact .inr (lst (h3 e f3 f4))
    · exact .inr (hcl k o' e f1 f2 f3 f4)
def regK (c:Cx) (ops:Array Oper) (draws:Bool) (s:St) (κ:St→Option ω):Option ω :=
 cond draws (opsD c ops.toList ops.toList s [] fun s logs=>cond (pairsOk ops logs) (κ s) none) (opsN c ops.toList ops.toList s κ)
theorem Sim.drawn (h:Sim E c s a w G) (n:Nat):Sim E c s a { w with drawn:=n } G∧Evo s.x w G s.x { w with drawn:=n } G:=by
 have ev:Evo s.x w G s.x { w with drawn:=n } G:=⟨rfl,rfl,rfl,Nat.le_refl _,fun _ _ _=>rfl,fun _ _ h=>h,fun _ h=>h,fun r blk' _ h=>⟨blk',h,Same.refl _,rfl,rfl,fun _ _ _ _ _ _ _ _ _=>rfl⟩,fun _ _ _ _=>⟨rfl,fun _ _=>rfl⟩⟩
 refine ⟨⟨h.mem.build ev (fun _=>False) (fun _ _ _=>rfl) (fun r blk hr=>.inl ⟨hr,rfl,rfl,rfl,fun _=>rfl,fun _ _=>id⟩) h.mem.sep,h.defers,h.size,fun t=>(h.slot t).evolve ev (h.used t),h.used⟩,ev⟩
theorem reg_wp [aq_] (hc:CxOk E c) (hK:KPar c) (hm:E.P.follows .mixedOrders=true) (h:Sim E c s a w G) {id:Nat} {ops:Array Oper} {d:Bool} {κ:St→Option ω} (hs:regK c ops d s κ=some r) {Q:Exit→Act→World→Prop}
  (hq:∀ a' w',mP_ E c κ r s.x w G a' w'→Q .normal a' w'):(Code.region id ops d).wp E.P Q a w:=by
 cases d with
 |false=>exact nS_ hc h hs hq
 |true=>
  simp only [regK,cond_true] at hs
  obtain ⟨logs,t,h1,h2⟩:=runs_of hK ops.toList s [] (by simp) hs
  simp only [List.nil_append] at h1 h2
  obtain ⟨h3,h4⟩:=bM_ h1
  obtain ⟨hs',ev'⟩:=h.drawn (w.drawn+1)
  have hrest:gP_ ops.size (Array.replicate ops.size false)=List.range ops.size:=by
   unfold gP_
   refine List.filter_eq_self.2 fun i hi => ?_
   have:i<ops.size:=by simpa using hi
   simp [this]
  refine wp_region_any hm (any_wp hc hK h3 (x0:=s.x) (w0:=w) (G0:=G) (t:=t) (fun a' w' G' k1 k2=>hq a' w' ⟨t,G',h4,k1,k2⟩) ops.size _ s a _ G (fun i o e e1 e2 e3 e4 => ?_) ?_ ?_ hs' ev')
  · have hi:=(Array.getElem?_eq_some_iff.1 e1).1
    simp [hi] at e2
  · rw [hrest];simp
  · rw [hrest,List.range_eq_range']
    simpa using h2
end Go.Pi
end
section
namespace Go.Pi
variable {ω:Type}
def eg_ (e:Nat) (x:X) (vs:List AV):List Nat:=jA_ x.h 2 (eC_ (List.range e) (vs.flatMap AV.refsD))
theorem kr_ (e:Nat) (x:X) (vs:List AV):(eg_ e x vs).Nodup:=(hd_ 2 _).1 (f2_ _ _ List.nodup_range)
theorem lk_ (e:Nat) (x:X) (vs:List AV) (k:Nat) (h:k<e):(eg_ e x vs)[k]?=some k :=
 (hd_ 2 _).2 k k (fC_ _ _ k k (by simp [h]))
def look:List (Nat × Sh)→List AV→Nat→AV
 |p::l,v::vs,t=>cond (Nat.beq p.1 t) v (look l vs t)
 |_,_,_=>.u
def St.ofC (live:List (Nat × Sh)) (vals:List AV) (blks:List (Option Blk)):St:=⟨look live vals,X.ofL blks⟩
section
variable [ao_]
def kP_ (e:Nat) (live:List (Nat × Sh)) (s:St) (κ:List AV→List (Option Blk)→Option ω):Option ω :=
 gI_ s.x 1000000 (live.map fun p=>p.2) (live.map fun p=>s.tmps p.1) fun x vs=>
  κ (vs.map (AV.renD (eg_ e x vs))) (h3_ 2 x (eg_ e x vs))
end
def nc:Code→Nat
 |.seq a b=>nc a+nc b+1
 |.cond _ a b=>nc a+nc b
 |.block _ a=>nc a
 |.scope a=>nc a
 |.loop a=>nc a+1
 |_=>0
abbrev Live:=List (Nat × Sh)
structure Ann where
 cut:Nat→Option Live
 nxt:Nat→Live
 out:Nat→Live
abbrev D (ω:Type):=List AV→List (Option Blk)→Option ω
abbrev LF (ω:Type):=Nat→D ω→(Nat→D ω)→D ω
inductive jC_ where
 |loop (a:Code) (k:Nat)
 |tail (a:Code) (k:Nat)
def b6_ (ann:Ann):Code→Nat→Nat→Option jC_
 |.seq a b,k,key=>cond (Nat.beq key k) (some (.tail b (k+1+nc a))) (cond (Nat.blt key (k+1+nc a)) (b6_ ann a (k+1) key) (b6_ ann b (k+1+nc a) key))
 |.cond _ a b,k,key=>cond (Nat.blt key (k+nc a)) (b6_ ann a k key) (b6_ ann b (k+nc a) key)
 |.block _ a,k,key=>b6_ ann a k key
 |.scope a,k,key=>b6_ ann a k key
 |.loop a,k,key=>cond (Nat.beq key k) (some (.loop a (k+1))) (b6_ ann a (k+1) key)
 |_,_,_=>none
theorem cO_ {ann:Ann}:∀ (C:Code) (k key:Nat) (p:jC_),b6_ ann C k key=some p→k≤key∧key<k+nc C
 |.seq a b,k,key,p,h=>by
  simp only [b6_] at h
  cases h1:Nat.beq key k with
  |true=>have:=ci_.1 h1;simp only [nc];omega
  |false=>
   rw [h1] at h
   simp only [cond_false] at h
   cases h2:Nat.blt key (k+1+nc a) with
   |true=>rw [h2] at h;have:=cO_ a _ _ _ h;simp only [nc];omega
   |false=>rw [h2] at h;have:=cO_ b _ _ _ h;simp only [nc];omega
 |.cond o a b,k,key,p,h=>by
  simp only [b6_] at h
  cases h2:Nat.blt key (k+nc a) with
  |true=>rw [h2] at h;have:=cO_ a _ _ _ h;simp only [nc];omega
  |false=>rw [h2] at h;have:=cO_ b _ _ _ h;simp only [nc];omega
 |.block id a,k,key,p,h=>by
  simp only [b6_] at h
  have:=cO_ a _ _ _ h
  simp only [nc];omega
 |.scope a,k,key,p,h=>by
  simp only [b6_] at h
  have:=cO_ a _ _ _ h
  simp only [nc];omega
 |.loop a,k,key,p,h=>by
  simp only [b6_] at h
  cases h1:Nat.beq key k with
  |true=>have:=ci_.1 h1;simp only [nc];omega
  |false=>
   rw [h1] at h
   have:=cO_ a _ _ _ h
   simp only [nc];omega
 |.skip,_,_,_,h=>by simp [b6_] at h
 |.region ..,_,_,_,h=>by simp [b6_] at h
 |.rangeFunc ..,_,_,_,h=>by simp [b6_] at h
 |.exit ..,_,_,_,h=>by simp [b6_] at h
 |.label ..,_,_,_,h=>by simp [b6_] at h
 |.goto ..,_,_,_,h=>by simp [b6_] at h
 |.ret,_,_,_,h=>by simp [b6_] at h
 |.refuse ..,_,_,_,h=>by simp [b6_] at h
section
variable [ao_]
def run (c:Cx) (e:Nat) (ann:Ann) (lf:LF ω) (κr:St→Option ω):Code→Nat→(St→Option ω)→(Nat→St→Option ω)→St→Option ω
 |.seq a b,k,κn,κx,s=>match ann.cut k with
  |some live=>run c e ann lf κr a (k+1) (fun s=>kP_ e live s (lf k (fun v b=>κn (St.ofC (ann.nxt k) v b)) (fun j v b=>κx j (St.ofC (ann.out j) v b)))) κx s
  |none=>run c e ann lf κr a (k+1) (fun s=>run c e ann lf κr b (k+1+nc a) κn κx s) κx s
 |.cond o a b,k,κn,κx,s=>match s.eval o with
  |.b t=>cond t (run c e ann lf κr a k κn κx s) (run c e ann lf κr b (k+nc a) κn κx s)
  |_=>none
 |.block id a,k,κn,κx,s=>run c e ann lf κr a k κn (fun j s=>cond (Nat.beq j id) (κn s) (κx j s)) s
 |.scope a,k,κn,κx,s=>run c e ann lf κr a k κn κx s
 |.loop _,k,_,κx,s=>match ann.cut k with
  |some live=>kP_ e live s (lf k (fun _ _=>none) (fun j v b=>κx j (St.ofC (ann.out j) v b)))
  |none=>none
 |.region _ ops d,_,κn,_,s=>regK c ops d s κn
 |.skip,_,κn,_,s=>κn s
 |.exit id,_,_,κx,s=>κx id s
 |.ret,_,_,_,s=>κr s
 |_,_,_,_,_=>none
def k9_ (c:Cx) (e:Nat) (ann:Ann) (lf:LF ω) (κr:St→Option ω) (a:Code) (k:Nat) (live:Live) (κe:Nat→D ω):Nat→D ω
 |0,_,_=>none
 |n+1,v,b=>run c e ann lf κr a k (fun s=>kP_ e live s (k9_ c e ann lf κr a k live κe n)) (fun j s=>kP_ e (ann.out j) s (κe j)) (St.ofC live v b)
def pieceIs (c:Cx) (e:Nat) (ann:Ann) (lf:LF ω) (κr:St→Option ω) (key:Nat) (live:Live) (κd:D ω) (κe:Nat→D ω) (v:List AV) (b:List (Option Blk)) (r:ω):jC_→Prop
 |.loop a k=>∃ n,k9_ c e ann lf κr a k live κe n v b=some r
 |.tail a k=>run c e ann lf κr a k (fun s=>kP_ e (ann.nxt key) s κd) (fun j s=>kP_ e (ann.out j) s (κe j)) (St.ofC live v b)=some r
end
variable [ao_]
open ao_
variable {E:Env} {w:World} {G:av_} {r:ω}
omit [ao_] in
theorem mj_ {P:AV→Value→Prop} {Q:AV→Prop} {a:Nat→Value} (hu:∀ v,P .u v) (qu:Q .u):∀ {live:List (Nat × Sh)} {vals:List AV},AllF P vals (live.map fun p=>a p.1)→(∀ v ∈ vals,Q v)→∀ t,P (look live vals t) (a t)∧Q (look live vals t)
 |[],[],_,_,t=>⟨hu _,qu⟩
 |[],_::_,h,_,_=>h.elim
 |_::_,[],h,_,_=>h.elim
 |p::l,v::vs,h,hq,t=>by
  simp only [look]
  cases hb:Nat.beq p.1 t with
  |true=>have:=ci_.1 hb;subst this;exact ⟨h.1,hq v (List.mem_cons_self ..)⟩
  |false=>exact mj_ hu qu h.2 (fun v hv=>hq v (List.mem_cons_of_mem _ hv)) t
theorem lL_ [aq_] {c:Cx} {s:St} {a:Act} {e:Nat} {x0:X} {w0:World} {G0:av_} (h:Sim E c s a w G) (he:Ent e x0) (ev:Evo x0 w0 G0 s.x w G) {live:List (Nat × Sh)} {κ:List AV→List (Option Blk)→Option ω} (hk:kP_ e live s κ=some r) :
  ∃ vals blks G',κ vals blks=some r∧Sim E c (St.ofC live vals blks) a w G'∧Evo x0 w0 G0 (X.ofL blks) w G':=by
 unfold kP_ at hk
 have h1:AllF (RT E w s.x G) (live.map fun p=>s.tmps p.1) (live.map fun p=>a.tmps.getD p.1 undef):=by
  clear hk
  induction live with
  |nil=>trivial
  |cons p l ih=>exact ⟨h.slot p.1,ih⟩
 obtain ⟨x1,G1,vs,k1,s1,v1,u1⟩:=fz_ _ _ _ _ _ _ _ h.mem h1 (fun v hv=>by
  obtain ⟨p,_,rfl⟩:=List.mem_map.1 hv
  exact h.used p.1) hk
 refine ⟨_,_,G1.ren (eg_ e x1 vs),k1,?_,(ev.trans s1.1).ren (by decide) he (lk_ e x1 vs)⟩
 have h2:AllF (fun a v=>RT E w (X.ofL (h3_ 2 x1 (eg_ e x1 vs))) (G1.ren (eg_ e x1 vs)) a v) (vs.map (AV.renD (eg_ e x1 vs))) (live.map fun p=>a.tmps.getD p.1 undef):=by
  clear k1
  generalize (live.map fun p=>a.tmps.getD p.1 undef)=us at v1
  generalize eg_ e x1 vs=L
  induction vs generalizing us with
  |nil=>cases us with
   |nil=>trivial
   |cons=>exact v1.elim
  |cons v vs ih=>cases us with
   |nil=>exact v1.elim
   |cons u us=>exact ⟨(RT.ren v1.1).1,ih (fun a ha=>u1 a (List.mem_cons_of_mem _ ha)) us v1.2⟩
 have h3:∀ v ∈ vs.map (AV.renD (eg_ e x1 vs)),Used (X.ofL (h3_ 2 x1 (eg_ e x1 vs))) v.refsT:=by
  intro v hv
  obtain ⟨v0,hv0,rfl⟩:=List.mem_map.1 hv
  have:∃ u,RT E w x1 G1 v0 u:=by
   clear h2 hv h1
   generalize (live.map fun p=>a.tmps.getD p.1 undef)=us at v1
   clear k1 u1
   induction vs generalizing us with
   |nil=>cases hv0
   |cons v vs ih=>cases us with
    |nil=>exact v1.elim
    |cons u us=>
     rcases List.mem_cons.1 hv0 with rfl|hv0
     · exact ⟨u,v1.1⟩
     · exact ih hv0 us v1.2
  obtain ⟨u,hu⟩:=this
  exact (RT.ren hu).2
 have h4:=mj_ (P:=RT E w (X.ofL (h3_ 2 x1 (eg_ e x1 vs))) (G1.ren (eg_ e x1 vs))) (Q:=fun v=>Used (X.ofL (h3_ 2 x1 (eg_ e x1 vs))) v.refsT) (a:=fun t=>a.tmps.getD t undef) (fun v=>RT.scl trivial) bR_ h2 h3
 exact ⟨s1.2.ren (kr_ _ _ _),h.defers,h.size,fun t=>(h4 t).1,fun t=>(h4 t).2⟩
end Go.Pi
end
section
namespace Go.Pi
variable {ω:Type}
variable [ao_]
open ao_
variable {E:Env} {w:World} {G:av_} {r:ω}
structure Fix (ω:Type) where
 c:Cx
 e:Nat
 ann:Ann
 lf:LF ω
 κr:St→Option ω
 x0:X
 w0:World
 G0:av_
def Here (E:Env) (f:Fix ω) (r:ω) (κ:St→Option ω) (a:Act) (w:World):Prop :=
 ∃ s G,κ s=some r∧Sim E f.c s a w G∧Evo f.x0 f.w0 f.G0 s.x w G
def Post (E:Env) (f:Fix ω) (r:ω) (κn:St→Option ω) (κx:Nat→St→Option ω):Exit→Act→World→Prop
 |.normal,a,w=>Here E f r κn a w
 |.exit id,a,w=>Here E f r (κx id) a w
 |.ret,a,w=>Here E f r f.κr a w
 |_,_,_=>False
structure FixOk (E:Env) (f:Fix ω):Prop where
 cx:CxOk E f.c
 ent:Ent f.e f.x0
 par:KPar f.c
 mixed:E.P.follows .mixedOrders=true
theorem Here.cut [aq_] {f:Fix ω} (hf:FixOk E f) {live:Live} {κ:D ω} {a:Act} (h:Here E f r (fun s=>kP_ f.e live s κ) a w) :
  ∃ v b G,κ v b=some r∧Sim E f.c (St.ofC live v b) a w G∧Evo f.x0 f.w0 f.G0 (X.ofL b) w G:=by
 obtain ⟨s,G,h1,h2,h3⟩:=h
 exact lL_ h2 hf.ent h3 h1
def Cuts (c:Cx) (e:Nat) (ann:Ann) (lf:LF ω) (κr:St→Option ω) (B:Code):Prop :=
 ∀ key κd κe v b (r:ω),lf key κd κe v b=some r→∃ live p,ann.cut key=some live∧b6_ ann B 0 key=some p∧pieceIs c e ann lf κr key live κd κe v b r p
theorem run_wp [aq_] {f:Fix ω} (hf:FixOk E f) {B:Code} (hcut:Cuts f.c f.e f.ann f.lf f.κr B) :
  ∀ (C:Code) (k:Nat) (κn:St→Option ω) (κx:Nat→St→Option ω),
    (∀ key p,b6_ f.ann C k key=some p→b6_ f.ann B 0 key=some p) →
    ∀ (s:St) (a:Act) (w:World) (G:av_),Sim E f.c s a w G→Evo f.x0 f.w0 f.G0 s.x w G→run f.c f.e f.ann f.lf f.κr C k κn κx s=some r→C.wp E.P (Post E f r κn κx) a w:=by
 intro C
 induction C with
 |skip=>intro k κn κx hl s a w G h ev hr;exact wp_skip ⟨s,G,hr,h,ev⟩
 |ret=>intro k κn κx hl s a w G h ev hr;exact wp_ret ⟨s,G,hr,h,ev⟩
 |exit id=>intro k κn κx hl s a w G h ev hr;exact wp_exit ⟨s,G,hr,h,ev⟩
 |rangeFunc=>intro k κn κx hl s a w G h ev hr;cases hr
 |label=>intro k κn κx hl s a w G h ev hr;cases hr
 |goto=>intro k κn κx hl s a w G h ev hr;cases hr
 |refuse=>intro k κn κx hl s a w G h ev hr;cases hr
 |region id ops d=>
  intro k κn κx hl s a w G h ev hr
  simp only [run] at hr
  exact reg_wp hf.cx hf.par hf.mixed h hr fun a' w' ⟨s',G',h1,h2,h3⟩=>⟨s',G',h1,h2,ev.trans h3⟩
 |cond o A B' ihA ihB=>
  intro k κn κx hl s a w G h ev hr
  simp only [run] at hr
  have ho:=(h.eval o).1
  revert hr ho
  cases ht:s.eval o<;>intro hr ho<;>(try (cases hr;done))
  rename_i t
  refine wp_cond ho.b ?_
  cases t with
  |true=>
   refine ihA k κn κx (fun key p hg=>hl key p ?_) s a w G h ev hr
   have:=cO_ _ _ _ _ hg
   simp only [b6_,f1_.2 this.2,cond_true];exact hg
  |false=>
   refine ihB (k+nc A) κn κx (fun key p hg=>hl key p ?_) s a w G h ev hr
   have:=cO_ _ _ _ _ hg
   simp only [b6_,blt_no this.1,cond_false];exact hg
 |block id A ih=>
  intro k κn κx hl s a w G h ev hr
  simp only [run] at hr
  refine wp_block (wp_mono (ih k κn (fun j s=>cond (Nat.beq j id) (κn s) (κx j s)) (fun key p hg=>hl key p hg) s a w G h ev hr) fun e a' w' hq => ?_)
  cases e<;>simp only [Post,Exit.inBlock] at hq ⊢ <;> (try exact hq)
  rename_i j
  by_cases e:j=id
  · subst e
    simp only [Nat.beq_refl,cond_true] at hq
    rw [if_pos rfl];exact hq
  · simp only [eY_ e,cond_false] at hq
    rw [if_neg e];exact hq
 |scope A ih=>
  intro k κn κx hl s a w G h ev hr
  simp only [run] at hr
  refine wp_scope_straight (wp_mono (ih k κn κx (fun key p hg=>hl key p hg) s a w G h ev hr) fun e a' w' hq => ?_)
  cases e<;>first|exact hq|exact hq.elim
 |seq A B' ihA ihB=>
  intro k κn κx hl s a w G h ev hr
  simp only [run] at hr
  have hA:∀ key p,b6_ f.ann A (k+1) key=some p→b6_ f.ann B 0 key=some p:=fun key p hg=>hl key p (by
   have:=cO_ _ _ _ _ hg
   simp only [b6_,eY_ (show key≠k by omega),f1_.2 this.2,cond_true,cond_false];exact hg)
  have hB:∀ key p,b6_ f.ann B' (k+1+nc A) key=some p→b6_ f.ann B 0 key=some p:=fun key p hg=>hl key p (by
   have:=cO_ _ _ _ _ hg
   simp only [b6_,eY_ (show key≠k by omega),blt_no this.1,cond_false];exact hg)
  cases ha:f.ann.cut k with
  |none=>
   rw [ha] at hr
   refine wp_seq (wp_mono (ihA (k+1) _ κx hA s a w G h ev hr) fun e a' w' hq => ?_)
   cases e<;>simp only [Exit.then]<;>(try exact hq)
   obtain ⟨s1,G1,k1,k2,k3⟩:=hq
   exact ihB (k+1+nc A) κn κx hB s1 a' w' G1 k2 k3 k1
  |some live=>
   rw [ha] at hr
   refine wp_seq (wp_mono (ihA (k+1) _ κx hA s a w G h ev hr) fun e a' w' hq => ?_)
   cases e<;>simp only [Exit.then]<;>(try exact hq)
   obtain ⟨v,b,G2,j1,j2,j3⟩:=Here.cut hf hq
   obtain ⟨live',p,e1,e2,e3⟩:=hcut _ _ _ _ _ _ j1
   rw [ha] at e1
   cases e1
   have:=hl k (.tail B' (k+1+nc A)) (by simp only [b6_,Nat.beq_refl,cond_true])
   rw [this] at e2
   cases e2
   refine wp_mono (ihB (k+1+nc A) _ _ hB _ a' w' G2 j2 j3 e3) fun e a2 w2 hq2 => ?_
   cases e<;>simp only [Post] at hq2 ⊢ <;> (try exact hq2)
   · obtain ⟨v,b,G3,i1,i2,i3⟩:=Here.cut hf hq2
     exact ⟨_,G3,i1,i2,i3⟩
   · obtain ⟨v,b,G3,i1,i2,i3⟩:=Here.cut hf hq2
     exact ⟨_,G3,i1,i2,i3⟩
 |loop A ih=>
  intro k κn κx hl s a w G h ev hr
  simp only [run] at hr
  cases ha:f.ann.cut k with
  |none=>rw [ha] at hr;cases hr
  |some live=>
   rw [ha] at hr
   obtain ⟨v,b,G2,j1,j2,j3⟩:=lL_ h hf.ent ev hr
   obtain ⟨live',p,e1,e2,e3⟩:=hcut _ _ _ _ _ _ j1
   rw [ha] at e1
   cases e1
   have:=hl k (.loop A (k+1)) (by simp only [b6_,Nat.beq_refl,cond_true])
   rw [this] at e2
   cases e2
   obtain ⟨N,hN⟩:=e3
   have hA:∀ key p,b6_ f.ann A (k+1) key=some p→b6_ f.ann B 0 key=some p:=fun key p hg=>hl key p (by
    have:=cO_ _ _ _ _ hg
    simp only [b6_,eY_ (show key≠k by omega),cond_false];exact hg)
   refine wp_loop_ghost (fun n a w=>∃ v b G,k9_ f.c f.e f.ann f.lf f.κr A (k+1) live (fun j v b=>κx j (St.ofC (f.ann.out j) v b)) n v b=some r∧Sim E f.c (St.ofC live v b) a w G∧Evo f.x0 f.w0 f.G0 (X.ofL b) w G) N ⟨v,b,G2,hN,j2,j3⟩ fun n a w ⟨v,b,G,j1,j2,j3⟩ => ?_
   cases n with
   |zero=>cases j1
   |succ n=>
    refine wp_mono (ih (k+1) _ _ hA _ a w G j2 j3 j1) fun e a' w' hq => ?_
    cases e<;>simp only [Exit.then,Post] at hq ⊢ <;> (try exact hq)
    · obtain ⟨v,b,G3,i1,i2,i3⟩:=Here.cut hf hq
      exact ⟨n,Nat.lt_succ_self n,v,b,G3,i1,i2,i3⟩
    · obtain ⟨v,b,G3,i1,i2,i3⟩:=Here.cut hf hq
      exact ⟨_,G3,i1,i2,i3⟩
end Go.Pi
end
section
namespace Go.Pi
variable {ω:Type}
def hF_:X:=⟨fun r=>cond (Nat.beq r 0) (some (.ext none)) none,fun r=>cond (Nat.beq r 0) true (Nat.beq r 1000003)⟩
mutual
def ld_:PS→AV→Option (List AV)
 |.mu,.rt r=>some [.rt r]
 |.ptr _,.pb r off=>some [.pb r off]
 |.ag ps,.ag cs=>d0_ ps cs
 |.v,_=>some []
 |.o,_=>some []
 |_,_=>none
def d0_:List PS→List AV→Option (List AV)
 |p::ps,a::az=>match ld_ p a with
  |some l=>match d0_ ps az with
   |some l'=>some (l++l')
   |none=>none
  |none=>none
 |[],[]=>some []
 |_,_=>none
end
def nx_ (e:Nat) (avs:List AV) (κ:D ω):Option ω :=
 dr_ 0 hF_ 1 avs fun x k az=>cond (Nat.beq k e) (match x.h 0 with
  |some (.ext none)=>κ (az.map (AV.renD (List.range e))) (h3_ 1 x (List.range e))
  |_=>none) none
def rvOf (nres:Nat) (out:List AV):AV:=cond (Nat.beq nres 1) (out.headD .u) (.tu (out.take nres))
def nX_ (n:Nat):Live:=(List.range n).map fun i=>(i,.k)
section
variable [ao_]
def ir_ (c:Cx) (s:St):List ResultVar→Option (List AV)
 |[]=>some []
 |.tmp t::l=>match ir_ c s l with
  |some vs=>some (s.tmps t::vs)
  |none=>none
 |.cell t T::l=>match c.tt T with
  |some td=>match s.tmps t with
   |.pb q off=>match s.x.h q with
    |some (.box bs)=>cond (Nat.beq ((bs.drop off).take td.size).length td.size&&((bs.drop off).take td.size).all AV.cel) (match ir_ c s l with
     |some vs=>some (td.val ((bs.drop off).take td.size)::vs)
     |none=>none) none
    |_=>none
   |_=>none
  |none=>none
def retK (c:Cx) (rsh:List Sh) (rps:List PS) (rs:List ResultVar) (outs:List AV) (fin:List AV→Option ω) (s:St):Option ω :=
 match ir_ c s rs with
 |none=>none
 |some vs0=>gI_ s.x 2000000 rsh (vs0++outs) fun x vs=>match bX_ x rps vs with
  |some (x3,avs,_,[])=>match x3.h 0 with
   |some (.ext none)=>fin avs
   |_=>none
  |_=>none
end
variable [ao_]
open ao_
variable {E:Env} {w:World} {G:av_} {r:ω}
theorem out_aux [aq_] {x:X}:∀ n:Nat,
  (∀ (p:PS) (a:AV) (v:Value) (os:List AV),SizeOf.sizeOf p<n→RT E w x G a v→Used x a.refsT→ld_ p a=some os→AllF (RT E w x G) os (PS.outs p v)∧∀ o ∈ os,Used x o.refsT) ∧
  (∀ (ps:List PS) (az:List AV) (vs:List Value) (os:List AV),SizeOf.sizeOf ps<n→AllF (RT E w x G) az vs→(∀ a ∈ az,Used x a.refsT)→d0_ ps az=some os→AllF (RT E w x G) os (PS.outsAll ps vs)∧∀ o ∈ os,Used x o.refsT):=by
 intro n
 induction n with
 |zero=>exact ⟨fun _ _ _ _ h=>absurd h (Nat.not_lt_zero _),fun _ _ _ _ h=>absurd h (Nat.not_lt_zero _)⟩
 |succ n ih=>
  refine ⟨fun p a v os hn hv hu h => ?_,fun ps az vs os hn hv hu h => ?_⟩
  · cases p with
    |v=>simp only [ld_,Option.some.injEq] at h;subst h;exact ⟨by simp only [PS.outs];trivial,fun o ho=>by cases ho⟩
    |o=>simp only [ld_,Option.some.injEq] at h;subst h;exact ⟨by simp only [PS.outs];trivial,fun o ho=>by cases ho⟩
    |mu=>
     cases a<;>simp only [ld_] at h<;>(try (cases h;done))
     cases h
     exact ⟨by simp only [PS.outs];exact ⟨hv,trivial⟩,fun o ho=>by rw [List.mem_singleton] at ho;subst ho;exact hu⟩
    |ptr ps=>
     cases a<;>simp only [ld_] at h<;>(try (cases h;done))
     cases h
     exact ⟨by simp only [PS.outs];exact ⟨hv,trivial⟩,fun o ho=>by rw [List.mem_singleton] at ho;subst ho;exact hu⟩
    |ag ps=>
     cases a<;>simp only [ld_] at h<;>(try (cases h;done))
     rename_i cs
     obtain ⟨us,rfl,hall⟩:=hv.ag
     simp only [PS.outs]
     refine ih.2 ps cs us os (by simp at hn;omega) (hall.mono fun a v _ h=>h.flat) (fun a ha => ?_) h
     have:∃ v,RF E w x G a v:=by
      clear hv hu h
      induction cs generalizing us with
      |nil=>cases ha
      |cons c cs ih2=>cases us with
       |nil=>exact hall.elim
       |cons u us=>
        rcases List.mem_cons.1 ha with rfl|ha
        · exact ⟨u,hall.1⟩
        · exact ih2 us hall.2 ha
     obtain ⟨v,hv'⟩:=this
     have hu':Used x (cs.flatMap AV.refs):=hu
     exact hv'.refsT (hu'.mem ha)
  · cases ps with
    |nil=>
     cases az with
     |cons=>simp [d0_] at h
     |nil=>
      cases vs with
      |cons=>exact hv.elim
      |nil=>
       simp only [d0_,Option.some.injEq] at h
       subst h
       exact ⟨by simp only [PS.outsAll];trivial,fun o ho=>by cases ho⟩
    |cons p ps=>
     cases az with
     |nil=>simp [d0_] at h
     |cons a az=>
      cases vs with
      |nil=>exact hv.elim
      |cons v vs=>
       simp only [d0_] at h
       cases h1:ld_ p a with
       |none=>rw [h1] at h;cases h
       |some l=>
        rw [h1] at h
        simp only at h
        cases h2:d0_ ps az with
        |none=>rw [h2] at h;cases h
        |some l'=>
         rw [h2] at h
         simp only [Option.some.injEq] at h
         subst h
         obtain ⟨k1,k2⟩:=ih.1 p a v l (by simp at hn;omega) hv.1 (hu a (List.mem_cons_self ..)) h1
         obtain ⟨j1,j2⟩:=ih.2 ps az vs l' (by simp at hn;omega) hv.2 (fun a ha=>hu a (List.mem_cons_of_mem _ ha)) h2
         simp only [PS.outsAll]
         exact ⟨k1.append j1,fun o ho=>(List.mem_append.1 ho).elim (k2 o) (j2 o)⟩
theorem out_ok [aq_] {x:X} {ps:List PS} {az:List AV} {vs:List Value} {os:List AV} (hv:AllF (RT E w x G) az vs) (hu:∀ a ∈ az,Used x a.refsT) (h:d0_ ps az=some os) :
  AllF (RT E w x G) os (PS.outsAll ps vs)∧∀ o ∈ os,Used x o.refsT:=(out_aux (SizeOf.sizeOf ps+1)).2 ps az vs os (Nat.lt_succ_self _) hv hu h
structure Began (E:Env) (w:World) (F:Nat→Prop) (φ:Nat→Nat) (e:Nat) (Vs:List Value) (v:List AV) (b:List (Option Blk)) (G:av_):Prop where
 mem:Mem E (X.ofL b) w G
 ent:Ent e (X.ofL b)
 slots:AllF (RT E w (X.ofL b) G) v Vs
 used:∀ a ∈ v,Used (X.ofL b) a.refsT
 ext:∀ c,G.φ 0 c≠0↔(F c∧φ c=0)
 ext0:(X.ofL b).h 0=some (.ext none)
 inF:∀ c,Fof (X.ofL b) G c→F c
 u0:(X.ofL b).u 0=true
theorem entry_ok [aq_] {e:Nat} (he:0<e) {F:Nat→Prop} {avs:List AV} {Vs:List Value} {φ:Nat→Nat} (hrl:RL E w F avs Vs φ) (h1:∀ b,φ b≤1) (hlow:∀ b,F b→b<w.heap.size) (hgl:Glob E w F) {κ:D ω} (h:nx_ e avs κ=some r) :
  ∃ v b G,κ v b=some r∧Began E w F φ e Vs v b G:=by
 classical
 let G:av_:=⟨fun _=>undef,fun _=>[],fun r b=>if r=0 then (if F b∧φ b=0 then 1 else 0) else if r=1000003 then (if F b then 1 else 0) else 0,fun _=>0⟩
 let x0:X:=⟨fun r=>cond (Nat.beq r 1000003) (some (.ext none)) none,fun r=>Nat.beq r 1000003⟩
 have hx:∀ r blk,hF_.h r=some blk→r=0∧blk = .ext none:=by
  intro r blk hr
  simp only [hF_] at hr
  cases hb:Nat.beq r 0 with
  |false=>rw [hb] at hr;cases hr
  |true=>rw [hb] at hr;exact ⟨ci_.1 hb,(Option.some.inj hr).symm⟩
 have hfof:∀ b,Fof hF_ G b↔F b∧φ b=0:=by
  intro b
  constructor
  · rintro ⟨r,blk,k1,k2⟩
    obtain ⟨rfl,rfl⟩:=hx r blk k1
    simp only [G,if_true] at k2
    by_cases hc:F b∧φ b=0
    · exact hc
    · rw [if_neg hc] at k2;exact absurd rfl k2
  · intro hc
    exact ⟨0,.ext none,rfl,by simp only [G,if_true];rw [if_pos hc];decide⟩
 have hfof0:∀ b,F b→Fof x0 G b:=fun b hb=>⟨1000003,.ext none,by simp [x0],by simp [G,hb]⟩
 have hφF:∀ b,φ b≠0→F b:=fun b hb=>(hrl.low b hb).1
 have hA:ea_ E x0 w G hF_ hF_ w G F (fun b=>φ b+0):=by
  refine ⟨⟨rfl,rfl,rfl,Nat.le_refl _,fun _ _ _=>rfl,fun b hb hF=>hfof0 b ((hfof b).1 hF).1,fun r hr => ?_,fun r blk' hu hr => ?_,fun r b hu hr => ?_⟩,fun b hb=>((hfof b).1 hb).1,fun b hb=>hφF b (by omega),fun b hb hF => ?_,fun b=>by have:=h1 b;omega,fun b hb _=>hfof0 b (hφF b (by omega)),fun b hb=>(hrl.low b (by omega)).2,fun b hb => ?_,fun r blk hr => ?_,fun r blk hr => ?_,fun r r' blk blk' b k1 k2 _ _ => ?_,fun r q1 hr=>by have:=(hx _ _ hr).2;cases this⟩
  · have:=ci_.1 (show Nat.beq r 1000003=true from hr)
    subst this
    simp [hF_]
  · have:=ci_.1 (show Nat.beq r 1000003=true from hu)
    subst this
    have:=(hx _ _ hr).1
    omega
  · have:=ci_.1 (show Nat.beq r 1000003=true from hu)
    subst this
    have:=(hx _ _ hr).1
    omega
  · have:=((hfof b).1 hF).2;omega
  · by_cases hc:φ b=0
    · exact .inl ((hfof b).2 ⟨hb,hc⟩)
    · exact .inr (by omega)
  · exact .inl ⟨hr,rfl,rfl,rfl,fun _=>rfl⟩
  · obtain ⟨rfl,rfl⟩:=hx r blk hr
    rfl
  · rw [(hx _ _ k1).1,(hx _ _ k2).1]
 unfold nx_ at h
 obtain ⟨x',G',k',as',hk,hA',hv,_⟩:=(ib_ 0 (SizeOf.sizeOf avs+1)).2 avs 1 hF_ G (fun _=>0) φ Vs ω _ r (Nat.lt_succ_self _) hrl (hA.congr fun b=>rfl) h
 cases hke:Nat.beq k' e with
 |false=>rw [hke] at hk;cases hk
 |true=>
  rw [hke] at hk
  simp only [cond_true] at hk
  cases hx0:x'.h 0 with
  |none=>rw [hx0] at hk;cases hk
  |some blk=>
   rw [hx0] at hk
   cases blk with
   |box=>cases hk
   |arr=>cases hk
   |ext q0=>
    cases q0 with
    |some _=>cases hk
    |none=>
    simp only at hk
    have hroot0:∀ b,G'.φ 0 b=G.φ 0 b:=by
     rcases hA'.roots 0 _ hx0 with ⟨_,_,_,_,k⟩|⟨k,_⟩
     · exact k
     · exact k.elim
    have hM:Mem E x' w G':=by
     refine ⟨fun r blk hr => ?_,hA'.used,fun r blk b hr => ?_,fun r blk b hr hb => ?_,hA'.sep,hgl.sub fun b hb=>hA'.inF b hb⟩
     · rcases hA'.roots r blk hr with ⟨k1,_⟩|⟨k1,_⟩
       · obtain ⟨rfl,rfl⟩:=hx r blk k1
         trivial
       · exact k1.ok hA'.inF hr
     · rcases hA'.roots r blk hr with ⟨k1,_,_,_,k5⟩|⟨_,k2⟩
       · obtain ⟨rfl,rfl⟩:=hx r blk k1
         rw [k5]
         simp only [G,if_true]
         split<;>omega
       · exact (k2 b).1
     · exact hlow b (hA'.inF b ⟨r,blk,hr,hb⟩)
    have hL:∀ k,k<e→(List.range e)[k]?=some k:=fun k hk=>by simp [hk]
    have hget0:(List.range e).getD 0 0=0:=by
     have:=hL 0 he
     simp [List.getD,this]
    refine ⟨_,_,G'.ren (List.range e),hk,hM.ren List.nodup_range,⟨fun r hr => ?_,fun r m t st xs hr => ?_,fun r q hr => ?_⟩,?_,?_,fun c => ?_,?_,fun c hc=>hA'.inF c (gz_ hc),?_⟩
    · have:=lg_.1 hr
      simpa using this
    · obtain ⟨r',b0,e1,e2,e3,e4⟩:=gW_ hr
      cases b0<;>simp only [Blk.ren] at e4<;>(try (cases e4;done))
      simp only [Blk.arr.injEq] at e4
      exact e4.2.2.1
    · obtain ⟨r',b0,e1,e2,e3,e4⟩:=gW_ hr
      cases b0<;>simp only [Blk.ren] at e4<;>(try (cases e4;done))
      rename_i q1
      cases q1 with
      |none=>cases e4
      |some q1=>
       obtain ⟨blk,k1,k2,_⟩:=hA'.evo.same r' _ (hA'.hol _ _ e3) e3
       have k3:blk = .ext none:=by
        simp only [x0] at k1
        cases hz:Nat.beq r' 1000003 with
        |true=>rw [hz] at k1;simpa [eq_comm] using k1
        |false=>rw [hz] at k1;cases k1
       subst k3
       cases k2
    · have h5:AllF (RT E w x' G') as' Vs:=hv.mono fun a v _ h=>h.rt hA'.inF
      clear hk hv h
      induction as' generalizing Vs with
      |nil=>cases Vs with
       |nil=>trivial
       |cons=>exact h5.elim
      |cons a az ih=>cases Vs with
       |nil=>exact h5.elim
       |cons u us=>exact ⟨(RT.ren h5.1).1,by
         clear ih
         have h6:=h5.2
         clear h5 hrl
         induction az generalizing us with
         |nil=>cases us with
          |nil=>trivial
          |cons=>exact h6.elim
         |cons a az ih=>cases us with
          |nil=>exact h6.elim
          |cons u us=>exact ⟨(RT.ren h6.1).1,ih us h6.2⟩⟩
    · intro a ha
      obtain ⟨a0,ha0,rfl⟩:=List.mem_map.1 ha
      have h5:AllF (RT E w x' G') as' Vs:=hv.mono fun a v _ h=>h.rt hA'.inF
      have:∀ {az:List AV} {us:List Value},AllF (RT E w x' G') az us→a0 ∈ az→∃ u,RT E w x' G' a0 u:=by
       intro az
       induction az with
       |nil=>intro us _ h;cases h
       |cons a az ih=>
        intro us h hm
        cases us with
        |nil=>exact h.elim
        |cons u us=>
         rcases List.mem_cons.1 hm with rfl|hm
         · exact ⟨u,h.1⟩
         · exact ih h.2 hm
      obtain ⟨u,hu⟩:=this h5 ha0
      exact (RT.ren hu).2
    · simp only [av_.ren,hget0]
      rw [hroot0]
      simp only [G,if_true]
      constructor
      · intro h
        by_cases hc:F c∧φ c=0
        · exact hc
        · rw [if_neg hc] at h;exact absurd rfl h
      · intro hc;rw [if_pos hc];decide
    · have:=hL 0 he
      simp only [X.ofL,h3_,List.getElem?_map,this,Option.map_some,hx0,Blk.ren]
    · exact lg_.2 (by simpa using he)
end Go.Pi
end
section
namespace Go.Pi
variable {ω:Type}
def AV.sameRoot:AV→AV→Bool
 |.rt p,.rt q=>Nat.beq p q
 |.pb p j,.pb q j'=>Nat.beq p q&&Nat.beq j j'
 |_,_=>false
def AV.allRoots:List AV→List AV→Bool
 |[],[]=>true
 |p::l,q::r=>AV.sameRoot p q&&AV.allRoots l r
 |_,_=>false
theorem me_ {a b:AV} (h:AV.sameRoot a b=true):a=b:=by
 cases a<;>cases b<;>simp only [AV.sameRoot] at h<;>(try (cases h;done))
 · have:=ci_.1 h;subst this;rfl
 · simp only [Bool.and_eq_true] at h
   have:=ci_.1 h.1;have:=ci_.1 h.2;subst_vars;rfl
theorem iY_:∀ {l r:List AV},AV.allRoots l r=true→l=r
 |[],[],_=>rfl
 |a::l,b::r,h=>by
  simp only [AV.allRoots,Bool.and_eq_true] at h
  rw [me_ h.1,iY_ h.2]
 |[],_::_,h=>by simp [AV.allRoots] at h
 |_::_,[],h=>by simp [AV.allRoots] at h
variable [ao_]
open ao_
variable {E:Env} {w:World} {G:av_} {r:ω}
theorem res_ok [aq_] {c:Cx} (hc:CxOk E c) {s:St} {a:Act} (h:Sim E c s a w G) {g:ResultVar→Sem Value} (hg:∀ t,g (.tmp t)=pure (a.tmps.getD t undef))
  (hg':∀ t T,g (.cell t T)=(asAddr (a.tmps.getD t undef) >>= fun l=>loadVar T l)):∀ (rs:List ResultVar) (vs:List AV),ir_ c s rs=some vs →
  ∃ Vs,Vs.length=rs.length∧AllF (RT E w s.x G) vs Vs∧(∀ v ∈ vs,Used s.x v.refsT)∧(List.mapM g rs).run E.P w = .ok Vs w
 |[],vs,hr=>by
  simp only [ir_,Option.some.injEq] at hr
  subst hr
  exact ⟨[],rfl,trivial,fun v hv=>(by cases hv),rfl⟩
 |.tmp t::rs,vs,hr=>by
  simp only [ir_] at hr
  cases h1:ir_ c s rs with
  |none=>rw [h1] at hr;cases hr
  |some vs1=>
   rw [h1] at hr
   simp only [Option.some.injEq] at hr
   subst hr
   obtain ⟨Vs,k1,k2,k3,k4⟩:=res_ok hc h hg hg' rs vs1 h1
   refine ⟨_::Vs,by simp [k1],⟨h.slot t,k2⟩,fun v hv => ?_,?_⟩
   · rcases List.mem_cons.1 hv with rfl|hv
     · exact h.used t
     · exact k3 v hv
   · simp only [List.mapM_cons,Sem.run_bind,Sem.run_pure,Result.andThen_ok,k4,hg]
 |.cell t T::rs,vs,hr=>by
  simp only [ir_] at hr
  cases ht:c.tt T with
  |none=>rw [ht] at hr;cases hr
  |some td=>
   rw [ht] at hr
   simp only at hr
   have hs:=h.slot t
   have hu:=h.used t
   cases hp:s.tmps t<;>rw [hp] at hr hs hu<;>(try (cases hr;done))
   rename_i q off
   simp only at hr
   cases hq:s.x.h q with
   |none=>rw [hq] at hr;cases hr
   |some blk=>
    rw [hq] at hr
    cases blk with
    |arr=>cases hr
    |ext=>cases hr
    |box bs=>
     simp only at hr
     obtain ⟨h1,h2⟩:=bM_ hr
     simp only [Bool.and_eq_true] at h1
     cases h3:ir_ c s rs with
     |none=>rw [h3] at h2;cases h2
     |some vs1=>
      rw [h3] at h2
      simp only [Option.some.injEq] at h2
      subst h2
      obtain ⟨Vs,k1,k2,k3,k4⟩:=res_ok hc h hg hg' rs vs1 h3
      have hf:=hs.rf (by intro cs e;cases e) (by intro cs e;cases e) (by intro f cs e;cases e)
      have hV:=hf.2 bs hq
      obtain ⟨⟨cur,T',hcur,hall⟩,hφ,hus⟩:=h.mem.root q _ hq
      have htd:=(hc.tt T).ok td ht
      have hl:=ci_.1 h1.1
      have hall':=(hall.drop off).take td.size
      have hr':=c1_ (eJ_ hcur) off td.size
      rw [Nat.zero_add] at hr'
      have hus':Used s.x (((bs.drop off).take td.size).flatMap AV.refs):=by
       intro z hz
       obtain ⟨c,hc1,hc2⟩:=List.mem_flatMap.1 hz
       exact hus z (List.mem_flatMap.2 ⟨c,List.mem_of_mem_drop (List.mem_of_mem_take hc1),hc2⟩)
      refine ⟨_::Vs,by simp [k1],⟨RT.val htd hall' hl,k2⟩,fun v hv => ?_,?_⟩
      · rcases List.mem_cons.1 hv with rfl|hv
        · exact mX_ hus' h1.2
        · exact k3 v hv
      · have:=in_ htd hr' (hall'.len.trans hl)
        simp only [List.mapM_cons,Sem.run_bind,Sem.run_pure,Result.andThen_ok,k4,hg',hV,asAddr,this]
def lb_ (vs:List Value):Value:=if vs.length=1 then vs.headD undef else .tuple (List.toArray vs)
theorem mf_ [aq_] {c:Cx} (hc:CxOk E c) {s:St} {a:Act} (h:Sim E c s a w G) {fn:Func} {rs:List ResultVar} {vs:List AV} (hr:fn.results=List.toArray rs) (hv:ir_ c s rs=some vs) :
  ∃ Vs,Vs.length=rs.length∧AllF (RT E w s.x G) vs Vs∧(∀ v ∈ vs,Used s.x v.refsT)∧(results fn a.tmps).run E.P w = .ok (lb_ Vs) w:=by
 unfold results
 rw [hr]
 simp only [List.mapM_toArray,Sem.run_bind,Sem.run_map,Sem.run_pure]
 suffices ∀ g:ResultVar→Sem Value,(∀ t,g (.tmp t)=pure (a.tmps.getD t undef))→(∀ t T,g (.cell t T)=(asAddr (a.tmps.getD t undef) >>= fun l=>loadVar T l)) →
   ∃ Vs:List Value,Vs.length=rs.length∧AllF (RT E w s.x G) vs Vs∧(∀ v ∈ vs,Used s.x v.refsT)∧((((List.mapM g rs).run E.P w).andThen fun a w'=>Result.ok a.toArray w').andThen fun a w'=>Result.ok (if h:a.size=1 then a[0] else Value.tuple a) w') = .ok (lb_ Vs) w from
  this _ (fun t=>rfl) (fun t T=>rfl)
 intro g hg hg'
 obtain ⟨Vs,k1,k2,k3,k4⟩:=res_ok hc h hg hg' rs vs hv
 refine ⟨Vs,k1,k2,k3,?_⟩
 rw [k4]
 simp only [Result.andThen_ok,lb_,List.size_toArray]
 congr 1
 split
 · rename_i h1
   obtain ⟨v,hv⟩:=List.length_eq_one_iff.1 h1
   subst hv
   rfl
 · rfl
theorem nP_ {F:Nat→Prop} {out:List AV} {vs os:List Value} {φ:Nat→Nat} (h:RL E w F out (vs++os) φ):RL E w F (rvOf vs.length out::out.drop vs.length) (lb_ vs::os) φ:=by
 have hl:=h.length
 have e:out=out.take vs.length++out.drop vs.length:=(List.take_append_drop _ _).symm
 rw [e] at h
 obtain ⟨us,us',φ₁,φ₂,e1,h1,h2,h3⟩:=RL.split h
 have l1:us.length=vs.length:=by rw [←h1.length,List.length_take];simp at hl;omega
 obtain ⟨rfl,rfl⟩:=List.append_inj e1.symm l1
 unfold rvOf lb_
 by_cases hc:us.length=1
 · rw [hc] at h1 ⊢
   simp only [if_true]
   cases us with
   |nil=>cases hc
   |cons u us=>
    cases us with
    |cons=>simp at hc
    |nil=>
     have:∃ a,out.take 1=[a]∧out.headD .u=a:=by
      cases out with
      |nil=>simp at hl
      |cons a l=>exact ⟨a,rfl,rfl⟩
     obtain ⟨a,e2,e3⟩:=this
     rw [e2] at h1
     show RL E w F (cond (Nat.beq 1 1) (out.headD .u) _::_) (u::_) φ
     rw [e3]
     exact h1.cons h2 h3
 · rw [if_neg hc,eY_ hc,cond_false]
   exact .tu _ us φ₁ _ _ φ₂ _ h1 h2 h3
theorem fn_sound [aq_] {c:Cx} (hc:CxOk E c) (hK:KPar c) (hm:E.P.follows .mixedOrders=true) {f:FuncId} {fn:Func} {B:Code} (hfn:E.P.funcs[f]?=some fn) (hbody:fn.body=some B) {rs:List ResultVar} (hres:fn.results=List.toArray rs) (hnt:fn.ntmps=c.nt)
  {e:Nat} (he:0<e) {ann:Ann} {lf:LF ω} {rsh:List Sh} {rps ps:List PS} {outs:List AV} {fin:List AV→Option ω} {inj:ω→List AV} (hfin:∀ o r,fin o=some r→o=inj r)
  {avs:List AV} (hn:Nat.ble avs.length c.nt=true)
  (hrun:nx_ e avs (fun v b=>match d0_ ps v with
    |some o=>cond (AV.allRoots o outs) (run c e ann lf (retK c rsh rps rs outs fin) B 0 (retK c rsh rps rs outs fin) (fun _ _=>none) (St.ofC (nX_ avs.length) v b)) none
    |none=>none)=some r)
  (hcut:Cuts c e ann lf (retK c rsh rps rs outs fin) B) :
  en_ E f avs (rvOf rs.length (inj r)) ((inj r).drop rs.length) ps:=by
 intro w F Vs φ hrl h1 hlow hgl
 obtain ⟨v,b,G,hk,hB⟩:=entry_ok he hrl h1 hlow hgl hrun
 cases ho:d0_ ps v with
 |none=>rw [ho] at hk;cases hk
 |some o=>
  rw [ho] at hk
  simp only at hk
  cases har:AV.allRoots o outs with
  |false=>rw [har] at hk;cases hk
  |true=>
   rw [har] at hk
   simp only [cond_true] at hk
   have:=iY_ har
   subst this
   obtain ⟨hO1,hO2⟩:=out_ok hB.slots hB.used ho
   have hlen:Vs.length=avs.length:=hrl.length.symm
   have hnle:avs.length≤c.nt:=Nat.le_of_ble_eq_true hn
   let a0:Act:={ tmps:=List.toArray Vs++Array.replicate (fn.ntmps - (List.toArray Vs).size) undef,defers:=[] }
   have hget:(nX_ avs.length).map (fun p=>a0.tmps.getD p.1 undef)=Vs:=by
    apply List.ext_getElem?
    intro i
    simp only [nX_,List.map_map,List.getElem?_map]
    by_cases hi:i<avs.length
    · have hi':i<Vs.length:=by omega
      simp [a0,hi,hi']
      rw [Array.getElem?_append_left (by simpa using hi')]
      simp [hi']
    · simp [hi,show Vs.length≤i by omega]
   have hsl:=mj_ (P:=RT E w (X.ofL b) G) (Q:=fun v=>Used (X.ofL b) v.refsT) (a:=fun t=>a0.tmps.getD t undef) (fun v=>RT.scl trivial) bR_ (live:=nX_ avs.length) (vals:=v) (by rw [hget];exact hB.slots) hB.used
   have hsim:Sim E c (St.ofC (nX_ avs.length) v b) a0 w G:=⟨hB.mem,rfl,by simp [a0,hnt];omega,fun t=>(hsl t).1,fun t=>(hsl t).2⟩
   have hwp:=run_wp (f:=⟨c,e,ann,lf,retK c rsh rps rs o fin,X.ofL b,w,G⟩) ⟨hc,hB.ent,hK,hm⟩ hcut B 0 (retK c rsh rps rs o fin) (fun _ _=>none) (fun key p h=>h) _ a0 w G hsim (Evo.refl _ _ _) hk
   refine calls_of_wp hfn hbody (wp_mono hwp fun ex a1 w1 hq => ?_)
   have fin_:Here E ⟨c,e,ann,lf,retK c rsh rps rs o fin,X.ofL b,w,G⟩ r (retK c rsh rps rs o fin) a1 w1→a1.defers=[]∧∃ v,(results fn a1.tmps).run E.P w1 = .ok v w1∧∃ V φ',Ending.returned v = .returned V ∧
     RL E w1 (fun b=>(F b∧φ b=0)∨φ' b≠0) (rvOf rs.length (inj r)::(inj r).drop rs.length) (V::PS.outsAll ps Vs) φ'∧(∀ b,φ' b≤1)∧(∀ b,φ' b≠0→φ b≠0∨w.heap.size≤b) ∧
     w1.os=w.os∧w1.tape=w.tape∧w1.output=w.output∧w.heap.size≤w1.heap.size∧∀ b,b<w.heap.size→φ b=0→w1.heap[b]?=w.heap[b]?:=by
    rintro ⟨s,G1,k1,k2,k3⟩
    have k3:Evo (X.ofL b) w G s.x w1 G1:=k3
    unfold retK at k1
    cases hrs:ir_ c s rs with
    |none=>rw [hrs] at k1;cases k1
    |some vs0=>
    rw [hrs] at k1
    simp only at k1
    obtain ⟨Rs,i1,i2,i3,i4⟩:=mf_ hc k2 hres hrs
    refine ⟨k2.defers,_,i4,?_⟩
    have hvals:AllF (RT E w1 s.x G1) (vs0++o) (Rs++PS.outsAll ps Vs):=AllF.append i2 (hO1.mono fun a v ha h=>h.evolve k3 (hO2 a ha))
    obtain ⟨x2,G2,vs,j1,j2,j3,j4⟩:=fz_ _ _ _ _ _ _ _ k2.mem hvals (fun a ha=>(List.mem_append.1 ha).elim (i3 a) fun ha=>Used.evolve k3 (hO2 a ha)) k1
    cases hh:bX_ x2 rps vs with
    |none=>rw [hh] at j1;cases j1
    |some z=>
     obtain ⟨x3,avs',ws,q⟩:=z
     rw [hh] at j1
     cases q with
     |cons=>cases j1
     |nil=>
      simp only at j1
      cases h30:x3.h 0 with
      |none=>rw [h30] at j1;cases j1
      |some blk=>
       rw [h30] at j1
       cases blk with
       |box=>cases j1
       |arr=>cases j1
       |ext q0=>
        cases q0 with
        |some _=>cases j1
        |none=>
        simp only at j1
        have:=hfin _ _ j1
        subst this
        obtain ⟨φ',k⟩:=hM_ j2.2 rps vs _ x2 x3 _ ws [] (Sub.refl x2) j3 hh
        have ev2:Evo (X.ofL b) w G x2 w1 G2:=k3.trans j2.1
        have hx20:x2.h 0=some (.ext none):=k.sub.1 0 _ h30
        have hext:=fun c=>ev2.ext 0 c hB.u0 hx20
        have hφ'ext:∀ c,φ' c≠0→G.φ 0 c=0:=fun c hc=>by
         refine Classical.byContradiction fun h0=>k.out c hc ⟨0,.ext none,h30,?_⟩
         rw [(hext c).1];exact h0
        refine ⟨_,φ',rfl,?_,k.one,fun c hc => ?_,ev2.os,ev2.tape,ev2.output,ev2.size,fun c hc h0 => ?_⟩
        · have h5:=k.rl (fun b=>(F b∧φ b=0)∨φ' b≠0) (fun c hc => ?_) (fun s hs=>by cases hs) (fun c hc=>.inr hc)
          · have:=nP_ h5
            rwa [i1] at this
          · rcases hc with hc|hc
            · exact ⟨0,.ext none,hx20,by rw [(hext c).1];exact (hB.ext c).2 hc⟩
            · exact k.from_ c hc
        · by_cases hlt:c<w.heap.size
          · left
            intro h0
            have h6:=ev2.fresh c hlt (k.from_ c hc)
            have h7:=hB.inF c h6
            exact (hB.ext c).2 ⟨h7,h0⟩ (hφ'ext c hc)
          · exact .inr (by omega)
        · by_cases hF:F c
          · exact (hext c).2 ((hB.ext c).2 ⟨hF,h0⟩) hc
          · exact ev2.heap c hc fun hc'=>hF (hB.inF c hc')
   cases ex with
   |normal=>exact fin_ hq
   |ret=>exact fin_ hq
   |exit id=>obtain ⟨s,G1,k1,_⟩:=hq;cases k1
   |goto=>exact hq.elim
   |panic=>exact hq.elim
   |outgrown=>exact hq.elim
end Go.Pi
end
section
namespace Go.Pi
def b4_ {α:Type} (z:α) (step:α→α):Nat→α
 |0=>z
 |n+1=>step (b4_ z step n)
def hn_ {α:Type} (xs:List α) (i j:Int):Option (List α) :=
 cond (decide (0≤i)&&(decide (i≤j)&&decide (j≤(xs.length:Int)))) (some (xs.take i.toNat++xs.drop j.toNat)) none
def eS_ {α:Type} (bytes:Nat) (xs:List α) (i:Int) (ys:List α):Option (List α) :=
 cond (decide (0≤i)&&decide (i≤(xs.length:Int))) (cond (decide ((xs.length+ys.length)*bytes≤140737488355328)) (some (xs.take i.toNat++ys++xs.drop i.toNat)) none) none
def nItoa (n:Int):Option Bs:=cond (decide (-9223372036854775808≤n)&&decide (n≤9223372036854775807)) (some (Lib.itoa n)) none
def nJoin (xs:List Bs) (sep:Bs):Option Bs:=cond (decide (xs.length≤140737488355328)&&decide ((Lib.join xs sep).length≤140737488355328)) (some (Lib.join xs sep)) none
def nReplaceAll (s old new:Bs):Option Bs:=cond (decide (s.length<4294967281)&&(decide (1≤old.length)&&decide (s.length+Lib.count s old*new.length≤140737488355328))) (some (Lib.replaceAll s old new)) none
def nIndex (s sep:Bs):Option Int:=match sep with
 |[c]=>some (Lib.indexByte s c)
 |_=>none
def nIndexG (s sep:Bs):Option Int:=cond (decide (s.length<4294967281)) (some (Lib.index s sep)) none
def nSplit (s sep:Bs):Option (List Bs):=cond (decide (s.length<4294967281)&&decide (1≤sep.length)) (some (Lib.split s sep)) none
def endOf (s:Bs):Lib.NumEnd Int→Int × Bool
 |.ok v=>(v,true)
 |.range=>(Lib.atoiSat s,false)
 |_=>(0,false)
def nAtoi (s:Bs):Option (Int × Bool):=cond (decide (s.length≤281474976710656)) (some (endOf s (Lib.atoiAll s))) none
end Go.Pi
end
section
namespace Go.Pi
variable {ω:Type} {r:ω}
def uc {α:Type}:List α→(α→List α→Option ω)→Option ω
 |a::l,κ=>κ a l
 |[],_=>none
def un {α:Type}:List α→Option ω→Option ω
 |[],κ=>κ
 |_::_,_=>none
theorem ec_ {α:Type} {v:List α} {κ:α→List α→Option ω} (h:uc v κ=some r):∃ a l,v=a::l∧κ a l=some r:=by
 cases v with
 |nil=>cases h
 |cons a l=>exact ⟨a,l,rfl,h⟩
theorem hR_ {α:Type} {v:List α} {κ:Option ω} (h:un v κ=some r):v=[]∧κ=some r:=by
 cases v with
 |nil=>exact ⟨rfl,h⟩
 |cons=>cases h
def gd_ (k:IntKind) (a:AV) (κ:Int→Option ω):Option ω:=match a with
 |.i k' n=>cond (decide (k'=k)) (κ n) none
 |_=>none
theorem dO_ {k:IntKind} {a:AV} {κ:Int→Option ω} (h:gd_ k a κ=some r):∃ n,a = .i k n∧κ n=some r:=by
 cases a<;>(try (cases h;done))
 obtain ⟨h1,h2⟩:=bM_ h
 have:=of_decide_eq_true h1
 subst this
 exact ⟨_,rfl,h2⟩
def getB (a:AV) (κ:Bool→Option ω):Option ω:=match a with
 |.b q=>κ q
 |_=>none
theorem my_ {a:AV} {κ:Bool→Option ω} (h:getB a κ=some r):∃ n,a = .b n∧κ n=some r:=by
 cases a<;>(try (cases h;done))
 exact ⟨_,rfl,h⟩
def getEr (a:AV) (κ:Bool→Option ω):Option ω:=match a with
 |.er q=>κ q
 |_=>none
theorem getEr_ok {a:AV} {κ:Bool→Option ω} (h:getEr a κ=some r):∃ n,a = .er n∧κ n=some r:=by
 cases a<;>(try (cases h;done))
 exact ⟨_,rfl,h⟩
def getS (a:AV) (κ:Bs→Option ω):Option ω:=match a with
 |.s q=>κ q
 |_=>none
theorem mx_ {a:AV} {κ:Bs→Option ω} (h:getS a κ=some r):∃ n,a = .s n∧κ n=some r:=by
 cases a<;>(try (cases h;done))
 exact ⟨_,rfl,h⟩
def M.same:M→M→Bool
 |.v,.v | .s,.s | .d,.d=>true
 |_,_=>false
theorem M.same_eq {m m':M} (h:M.same m m'=true):m=m':=by cases m<;>cases m'<;>first|rfl|cases h
def getSl (m:M) (t:TC) (a:AV) (κ:List (El t)→Option ω):Option ω:=match a with
 |.sl m' t' xs=>cond (M.same m' m) (if h:t'=t then κ (h ▸ xs) else none) none
 |_=>none
theorem getSl_ok {m:M} {t:TC} {a:AV} {κ:List (El t)→Option ω} (h:getSl m t a κ=some r):∃ xs,a = .sl m t xs∧κ xs=some r:=by
 cases a<;>(try (cases h;done))
 rename_i m' t' xs
 obtain ⟨h1,h2⟩:=bM_ h
 have:=M.same_eq h1
 subst this
 by_cases e:t'=t
 · subst e
   simp only [dite_true] at h2
   exact ⟨xs,rfl,h2⟩
 · simp [e] at h2
def isRt (q:Nat) (a:AV) (κ:Option ω):Option ω:=match a with
 |.rt p=>cond (Nat.beq p q) κ none
 |_=>none
theorem isRt_ok {q:Nat} {a:AV} {κ:Option ω} (h:isRt q a κ=some r):a = .rt q∧κ=some r:=by
 cases a<;>(try (cases h;done))
 obtain ⟨h1,h2⟩:=bM_ h
 have:=ci_.1 h1
 subst this
 exact ⟨rfl,h2⟩
def isPb (q off:Nat) (a:AV) (κ:Option ω):Option ω:=match a with
 |.pb p o=>cond (Nat.beq p q&&Nat.beq o off) κ none
 |_=>none
theorem isPb_ok {q off:Nat} {a:AV} {κ:Option ω} (h:isPb q off a κ=some r):a = .pb q off∧κ=some r:=by
 cases a<;>(try (cases h;done))
 obtain ⟨h1,h2⟩:=bM_ h
 simp only [Bool.and_eq_true] at h1
 have e1:=ci_.1 h1.1
 have e2:=ci_.1 h1.2
 subst e1 e2
 exact ⟨rfl,h2⟩
def getAg (a:AV) (κ:List AV→Option ω):Option ω:=match a with
 |.ag cs=>κ cs
 |_=>none
theorem getAg_ok {a:AV} {κ:List AV→Option ω} (h:getAg a κ=some r):∃ cs,a = .ag cs∧κ cs=some r:=by
 cases a<;>(try (cases h;done))
 exact ⟨_,rfl,h⟩
def getTu (a:AV) (κ:List AV→Option ω):Option ω:=match a with
 |.tu cs=>κ cs
 |_=>none
theorem getTu_ok {a:AV} {κ:List AV→Option ω} (h:getTu a κ=some r):∃ cs,a = .tu cs∧κ cs=some r:=by
 cases a<;>(try (cases h;done))
 exact ⟨_,rfl,h⟩
def getBx (a:AV) (κ:List AV→Option ω):Option ω:=match a with
 |.bx cs=>κ cs
 |_=>none
theorem getBx_ok {a:AV} {κ:List AV→Option ω} (h:getBx a κ=some r):∃ cs,a = .bx cs∧κ cs=some r:=by
 cases a<;>(try (cases h;done))
 exact ⟨_,rfl,h⟩
def getPc (off:Nat) (a:AV) (κ:List AV→Option ω):Option ω:=match a with
 |.pc cs o=>cond (Nat.beq o off) (κ cs) none
 |_=>none
theorem getPc_ok {off:Nat} {a:AV} {κ:List AV→Option ω} (h:getPc off a κ=some r):∃ cs,a = .pc cs off∧κ cs=some r:=by
 cases a<;>(try (cases h;done))
 obtain ⟨h1,h2⟩:=bM_ h
 have:=ci_.1 h1
 subst this
 exact ⟨_,rfl,h2⟩
def getClo (f:Nat) (a:AV) (κ:List AV→Option ω):Option ω:=match a with
 |.clo g cs=>cond (Nat.beq g f) (κ cs) none
 |_=>none
theorem getClo_ok {f:Nat} {a:AV} {κ:List AV→Option ω} (h:getClo f a κ=some r):∃ cs,a = .clo f cs∧κ cs=some r:=by
 cases a<;>(try (cases h;done))
 obtain ⟨h1,h2⟩:=bM_ h
 have:=ci_.1 h1
 subst this
 exact ⟨_,rfl,h2⟩
def isNils (a:AV) (κ:Option ω):Option ω:=match a with
 |.nils=>κ
 |_=>none
theorem isNils_ok {a:AV} {κ:Option ω} (h:isNils a κ=some r):a = .nils∧κ=some r:=by
 cases a<;>(try (cases h;done))
 exact ⟨rfl,h⟩
def isNili (a:AV) (κ:Option ω):Option ω:=match a with
 |.nili=>κ
 |_=>none
theorem isNili_ok {a:AV} {κ:Option ω} (h:isNili a κ=some r):a = .nili∧κ=some r:=by
 cases a<;>(try (cases h;done))
 exact ⟨rfl,h⟩
def isU (a:AV) (κ:Option ω):Option ω:=match a with
 |.u=>κ
 |_=>none
theorem isU_ok {a:AV} {κ:Option ω} (h:isU a κ=some r):a = .u∧κ=some r:=by
 cases a<;>(try (cases h;done))
 exact ⟨rfl,h⟩
def noBlk (a:Option Blk) (κ:Option ω):Option ω:=match a with
 |none=>κ
 |some _=>none
theorem noBlk_ok {a:Option Blk} {κ:Option ω} (h:noBlk a κ=some r):a=none∧κ=some r:=by
 cases a with
 |none=>exact ⟨rfl,h⟩
 |some=>cases h
def isExt (a:Option Blk) (κ:Option ω):Option ω:=match a with
 |some (.ext none)=>κ
 |_=>none
theorem isExt_ok {a:Option Blk} {κ:Option ω} (h:isExt a κ=some r):a=some (.ext none)∧κ=some r:=by
 cases a with
 |none=>cases h
 |some b=>
  cases b with
  |ext q=>
   cases q with
   |none=>exact ⟨rfl,h⟩
   |some _=>cases h
  |_=>cases h
def getBox (a:Option Blk) (κ:List AV→Option ω):Option ω:=match a with
 |some (.box cs)=>κ cs
 |_=>none
theorem getBox_ok {a:Option Blk} {κ:List AV→Option ω} (h:getBox a κ=some r):∃ cs,a=some (.box cs)∧κ cs=some r:=by
 cases a with
 |none=>cases h
 |some b=>cases b<;>first|exact ⟨_,rfl,h⟩|cases h
def getArr (m:M) (t:TC) (st:Nat) (a:Option Blk) (κ:List (El t)→Option ω):Option ω:=match a with
 |some (.arr m' t' st' xs)=>cond (M.same m' m&&Nat.beq st' st) (if h:t'=t then κ (h ▸ xs) else none) none
 |_=>none
theorem getArr_ok {m:M} {t:TC} {st:Nat} {a:Option Blk} {κ:List (El t)→Option ω} (h:getArr m t st a κ=some r):∃ xs,a=some (.arr m t st xs)∧κ xs=some r:=by
 cases a with
 |none=>cases h
 |some b=>
  cases b<;>(try (cases h;done))
  rename_i m' t' st' xs
  obtain ⟨h1,h2⟩:=bM_ h
  simp only [Bool.and_eq_true] at h1
  have e1:=M.same_eq h1.1
  have e2:=ci_.1 h1.2
  subst e1 e2
  by_cases e:t'=t
  · subst e
    simp only [dite_true] at h2
    exact ⟨xs,rfl,h2⟩
  · simp [e] at h2
inductive Sk where
 |k
 |sl (m:M) (t:TC)
 |ag (l:List Sk)
def fix1:Sk→AV→AV
 |.sl m t,.nils=>.sl m t []
 |.sl .s _,.sl .d t' xs=>.sl .s t' xs
 |_,a=>a
def fixL:List Sk→List AV→List AV
 |s::ss,a::az=>fix1 s a::fixL ss az
 |_,az=>az
def fix:Sk→AV→AV
 |.ag l,.ag cs=>.ag (fixL l cs)
 |s,a=>fix1 s a
def od_:List Sk→List AV→List AV
 |s::ss,a::az=>fix s a::od_ ss az
 |_,az=>az
variable [ao_]
variable {E:Env} {w:World} {F:Nat→Prop}
theorem RL.shrink {F':Nat→Prop} {l vs φ} (h:RL E w F l vs φ) (hφ:∀ b,φ b≠0→F' b) (hF:∀ b,F' b→F b):RL E w F' l vs φ :=
 h.frame (Nat.le_refl _) (fun b hb=>⟨rfl,hφ b hb⟩) (fun b _ hn=>⟨rfl,fun h=>hn (hF b h)⟩)
theorem ev_ [aq_] (m:M) (t:TC) (xs:List (El t)):(aV_ m t xs).map AV.asView=aV_ .v t xs:=by
 simp only [aV_,List.map_flatMap]
 congr 1
 funext x
 exact aq_.view m t x
def fL_ (E:Env) (w:World) (F:Nat→Prop) (l:List AV) (vs:List Value) (φ:Nat→Nat):Prop :=
 ∃ δ:Nat→Nat,(∀ b,δ b≤φ b)∧RL E w (fun b=>F b∧δ b=0) l vs (fun b=>φ b - δ b)
theorem fL_.none {l vs φ} (h:RL E w F l vs φ):fL_ E w F l vs φ :=
 ⟨fun _=>0,fun b=>Nat.zero_le _,h.shrink (fun b hb=>⟨(h.low b hb).1,rfl⟩) fun b hb=>hb.1⟩
theorem fix1_ok [aq_] {s:Sk} {a:AV} {v:Value} {φ:Nat→Nat} (h:RL E w F [a] [v] φ) (h1:∀ b,φ b≤1):fL_ E w F [fix1 s a] [v] φ:=by
 cases s<;>(try exact fL_.none h)
 rename_i m t
 cases a<;>(try (cases m<;>exact fL_.none h))
 case nils=>
  refine fL_.none ?_
  cases h with
  |scal _ _ _ _ _ hs hn=>
   simp only [scl] at hs
   subst hs
   have h0:=(RL.nil_inv hn).2
   cases m with
   |v=>exact .view t [] none 0 0 [] (fun _=>0) _ _ _ ⟨rfl,Nat.le_refl _⟩ (.nil _ fun _=>rfl) (fun _=>rfl) (fun hp=>by omega) (.nil _ h0)
   |s=>exact .own .s t [] _ [] (fun _=>0) _ _ (fun _=>0) _ (by decide) (World.ownsRow_nil _ _ _ _) (.nil _ fun _=>rfl) (fun b hb=>by simp [bP_] at hb) (.nil _ fun _=>rfl) (fun b=>by rw [h0 b];simp [bP_])
   |d=>exact .own .d t [] _ [] (fun _=>0) _ _ (fun _=>0) _ (by decide) (World.ownsRow_nil _ _ _ _) (.nil _ fun _=>rfl) (fun b hb=>by simp [bP_] at hb) (.nil _ fun _=>rfl) (fun b=>by rw [h0 b];simp [bP_])
 case sl m' t' xs=>
  cases m<;>cases m'<;>(try exact fL_.none h)
  cases h with
  |scal _ _ _ _ _ hs _=>exact hs.elim
  |own _ _ _ _ vals φ₁ _ _ φ₂ _ hm how hrl hF hn he=>
   have h0:=(RL.nil_inv hn).2
   refine ⟨φ₁,fun b=>by rw [he];omega,?_⟩
   have hs:=hrl.seen (F':=fun b=>F b∧φ₁ b=0) (fun b hb hc=>hb hc.2) (fun b _ hn hc=>hn hc.1)
   have hs2:RL E w (fun b=>F b∧φ₁ b=0) (aV_ .v t' xs) vals (fun _=>0):=by rw [ev_] at hs;exact hs
   exact .own .s t' xs v vals (fun _=>0) _ _ (fun _=>0) _ (by decide) how hs2 (fun b hb=>⟨hF b hb,by have:=h1 b;rw [he] at this;omega⟩) (.nil _ fun _=>rfl) (fun b=>by rw [he,h0 b];omega)
theorem fL_.cons {a:AV} {v:Value} {l:List AV} {vs:List Value} {φ₁ φ₂ φ:Nat→Nat} (k1:fL_ E w F [a] [v] φ₁) (k2:fL_ E w F l vs φ₂) (e:∀ b,φ b=φ₁ b+φ₂ b) (h1:∀ b,φ b≤1) (hF:∀ b,φ b≠0→F b):fL_ E w F (a::l) (v::vs) φ:=by
 obtain ⟨δ₁,a1,a2⟩:=k1
 obtain ⟨δ₂,b1,b2⟩:=k2
 refine ⟨fun b=>δ₁ b+δ₂ b,fun b=>by have:=a1 b;have:=b1 b;have:=e b;show δ₁ b+δ₂ b≤φ b;omega,?_⟩
 have s1:RL E w (fun b=>F b∧δ₁ b+δ₂ b=0) [a] [v] (fun b=>φ₁ b - δ₁ b):=a2.shrink (fun b hb=>by
  have hb:φ₁ b - δ₁ b≠0:=hb
  have:=a1 b;have:=b1 b;have:=h1 b;have:=e b
  exact ⟨hF b (by omega),by omega⟩) fun b hb=>⟨hb.1,by have:=hb.2;omega⟩
 have s2:RL E w (fun b=>F b∧δ₁ b+δ₂ b=0) l vs (fun b=>φ₂ b - δ₂ b):=b2.shrink (fun b hb=>by
  have hb:φ₂ b - δ₂ b≠0:=hb
  have:=a1 b;have:=b1 b;have:=h1 b;have:=e b
  exact ⟨hF b (by omega),by omega⟩) fun b hb=>⟨hb.1,by have:=hb.2;omega⟩
 exact s1.cons s2 (fun b=>by have:=a1 b;have:=b1 b;have:=e b;show φ b - (δ₁ b+δ₂ b)=(φ₁ b - δ₁ b)+(φ₂ b - δ₂ b);omega)
theorem fixL_ok [aq_]:∀ {ss:List Sk} {az:List AV} {vs:List Value} {φ:Nat→Nat},RL E w F az vs φ→(∀ b,φ b≤1)→fL_ E w F (fixL ss az) vs φ
 |[],az,vs,φ,h,_=>by cases az<;>exact fL_.none h
 |s::ss,[],vs,φ,h,_=>fL_.none h
 |s::ss,a::az,vs,φ,h,h1=>by
  have hF:=fun b hb=>(h.low b hb).1
  obtain ⟨v,vs',φ₁,φ₂,rfl,k1,k2,e⟩:=RL.uncons h
  exact (fix1_ok k1 fun b=>by have:=h1 b;rw [e] at this;omega).cons (fixL_ok k2 fun b=>by have:=h1 b;rw [e] at this;omega) e h1 hF
theorem fix_ok [aq_] {s:Sk} {a:AV} {v:Value} {φ:Nat→Nat} (h:RL E w F [a] [v] φ) (h1:∀ b,φ b≤1):fL_ E w F [fix s a] [v] φ:=by
 by_cases hc:∃ l cs,s = .ag l∧a = .ag cs
 · obtain ⟨l,cs,rfl,rfl⟩:=hc
   cases h with
   |scal _ _ _ _ _ hs _=>exact hs.elim
   |ag _ us φ₁ _ _ φ₂ _ k1 k2 he=>
    have h0:=(RL.nil_inv k2).2
    obtain ⟨δ,d1,d2⟩:=fixL_ok (ss:=l) k1 fun b=>by have:=h1 b;rw [he] at this;omega
    exact ⟨δ,fun b=>by rw [he];have:=d1 b;omega,.ag _ us _ _ _ (fun _=>0) _ d2 (.nil _ fun _=>rfl) (fun b=>by rw [he,h0 b];omega)⟩
 · have:fix s a=fix1 s a:=by
    cases s<;>(try rfl)
    cases a<;>(try rfl)
    exact absurd ⟨_,_,rfl,rfl⟩ hc
   rw [this];exact fix1_ok h h1
theorem nw_ [aq_]:∀ {ss:List Sk} {az:List AV} {vs:List Value} {φ:Nat→Nat},RL E w F az vs φ→(∀ b,φ b≤1)→fL_ E w F (od_ ss az) vs φ
 |[],az,vs,φ,h,_=>by cases az<;>exact fL_.none h
 |s::ss,[],vs,φ,h,_=>fL_.none h
 |s::ss,a::az,vs,φ,h,h1=>by
  have hF:=fun b hb=>(h.low b hb).1
  obtain ⟨v,vs',φ₁,φ₂,rfl,k1,k2,e⟩:=RL.uncons h
  exact (fix_ok k1 fun b=>by have:=h1 b;rw [e] at this;omega).cons (nw_ k2 fun b=>by have:=h1 b;rw [e] at this;omega) e h1 hF
theorem en_.fix [aq_] {f:FuncId} {avs:List AV} {rv:AV} {outs:List AV} {ps:List PS} {ss:List Sk} (h:en_ E f (od_ ss avs) rv outs ps):en_ E f avs rv outs ps:=by
 intro w F Vs φ hrl h1 hlow hgl
 obtain ⟨δ,d1,d2⟩:=nw_ (ss:=ss) hrl h1
 refine (h w _ Vs _ d2 (fun b=>by have:=h1 b;omega) (fun b hb=>hlow b hb.1) (hgl.sub fun b hb=>hb.1)).mono ?_
 rintro e w' ⟨V,φ',rfl,k1,k2,k3,k4,k5,k6,k7,k8⟩
 refine ⟨V,φ',rfl,?_,k2,fun b hb => ?_,k4,k5,k6,k7,fun b hb h0=>k8 b hb (by omega)⟩
 · have e:(fun b=>((F b∧δ b=0)∧φ b - δ b=0)∨φ' b≠0)=fun b=>(F b∧φ b=0)∨φ' b≠0:=by
    funext b
    have:=d1 b
    refine propext (or_congr_left ⟨fun h=>⟨h.1.1,?_⟩,fun h=>⟨⟨h.1,?_⟩,?_⟩⟩)
    · have h1:=h.1.2;have h2:=h.2;omega
    · have:=h.2;omega
    · have:=h.2;omega
   rw [←e];exact k1
 · rcases k3 b hb with h|h
   · exact .inl (by omega)
   · exact .inr h
end Go.Pi
end
section
namespace Go.Pi
def sclB:AV→Value→Bool
 |.i k n,.int k' n'=>decide (k=k')&&decide (n=n')
 |.b p,.bool q=>p == q
 |.s [],.string s=>Nat.beq s.size 0
 |.nils,.slice none 0 0=>true
 |.nilp,.pointer none=>true
 |.nili,.nilIface=>true
 |_,_=>false
def md_:List AV→List Value→Bool
 |[],[]=>true
 |a::l,v::r=>sclB a v&&md_ l r
 |_,_=>false
theorem sclB_ok {a:AV} {v:Value} (h:sclB a v=true):scl a v:=by
 unfold sclB at h
 split at h<;>simp only [scl]<;>(try rfl)
 · simp only [Bool.and_eq_true,decide_eq_true_eq] at h
   rw [h.1,h.2]
 · have:=eq_of_beq h
   rw [this]
 · rename_i s
   have h0:=Nat.eq_of_beq_eq_true h
   obtain ⟨⟨l⟩⟩:=s
   have:l=[]:=by
    cases l with
    |nil=>rfl
    |cons a l=>simp [ByteArray.size] at h0
   subst this;rfl
 · cases h
theorem ki_:∀ {l:List AV} {r:List Value},md_ l r=true→AllF scl l r
 |[],[],_=>trivial
 |a::l,v::r,h=>by
  simp only [md_,Bool.and_eq_true] at h
  exact ⟨sclB_ok h.1,ki_ h.2⟩
 |[],_::_,h=>by simp [md_] at h
 |_::_,[],h=>by simp [md_] at h
def descB (d:TypeDesc) (td:TD) (eid:TC→TypeId):Bool :=
 (match td.elem with
   |none=>true
   |some t=>match d with | .slice e=>Nat.beq e (eid t)|_=>false) &&
 (match td.kind with
   |none=>true
   |some k=>match d with | .int k'=>decide (k'=k)|_=>false) &&
 (cond td.isStr (match d with | .string=>true|_=>false) true) &&
 (cond td.isBool (match d with | .bool=>true|_=>false) true) &&
 (cond td.isIf (match d with | .interface _=>true|_=>false) true)
def hw_ (P:Program):List Field→List (Nat × Nat)→Bool
 |[],[]=>true
 |f::fs,p::ps=>Nat.beq f.offset p.1&&(match P.info? f.type with|some i=>Nat.beq i.size p.2|none=>false)&&Nat.blt 0 p.2&&hw_ P fs ps
 |_,_=>false
def cmpB (P:Program):Nat→List Field→List CK→Bool
 |_,[],[]=>true
 |k,f::fs,q::qs => !(f.name == "_")&&Nat.beq f.offset k&&P.plainKey f.type&&(match P.underlying f.type,q with
   |some (.int _),.i=>true
   |some .bool,.b=>true
   |some .string,.s=>true
   |_,_=>false)&&cmpB P (k+1) fs qs
 |_,_,_=>false
def tdB (P:Program) (eid:TC→TypeId) (T:TypeId) (td:TD):Bool :=
 match P.info? T,P.underlying T with
 |some i,some d=>
  Nat.beq i.size td.size&&Nat.blt 0 td.size&&(cond td.agg d.isRow (Nat.beq td.size 1 && !d.isRow)) &&
  (match i.zero with
    |some z=>Nat.beq td.zero.length td.size&&td.zero.all AV.one&&md_ td.zero z.cells.toList
    |none=>false) &&
  (match td.fields with
    |[] => !td.agg
    |fs=>match d with
     |.struct gs=>hw_ P gs.toList fs
     |_=>false) &&
  descB d td eid &&
  (match td.cmp with
    |[]=>true
    |qs=>match d with
     |.struct gs=>cmpB P 0 gs.toList qs && !(P.stoodInHeld T) && !(P.eqGuardType P.depth T)
     |_=>false)
 |_,_=>false
theorem j4_ {P:Program}:∀ {fs:List Field} {ps:List (Nat × Nat)},hw_ P fs ps=true→fs.length=ps.length∧∀ (f off n:Nat),ps[f]?=some (off,n)→∃ fd:Field,fs[f]?=some fd∧fd.offset=off∧(P.info? fd.type).map (·.size)=some n∧0<n
 |[],[],_=>⟨rfl,fun f off n h=>by simp at h⟩
 |g::fs,p::ps,h=>by
  simp only [hw_,Bool.and_eq_true] at h
  obtain ⟨⟨⟨h1,h2⟩,h3⟩,h4⟩:=h
  obtain ⟨k1,k2⟩:=j4_ h4
  refine ⟨by simp [k1],fun f off n hf => ?_⟩
  cases f with
  |zero=>
   simp only [List.getElem?_cons_zero,Option.some.injEq] at hf
   subst hf
   refine ⟨g,rfl,Nat.eq_of_beq_eq_true h1,?_,f1_.1 h3⟩
   cases hi:P.info? g.type with
   |none=>rw [hi] at h2;cases h2
   |some i=>rw [hi] at h2;simp [Nat.eq_of_beq_eq_true h2]
  |succ f=>exact k2 f off n (by simpa using hf)
 |[],_::_,h=>by simp [hw_] at h
 |_::_,[],h=>by simp [hw_] at h
theorem cmpB_ok {P:Program}:∀ {k0:Nat} {fs:List Field} {qs:List CK},cmpB P k0 fs qs=true→fs.length=qs.length∧∀ (k:Nat) (f:Field) (q:CK),fs[k]?=some f→qs[k]?=some q→(f.name == "_")=false∧f.offset=k0+k∧P.plainKey f.type=true ∧
   match q with
   |.i=>∃ kk,P.underlying f.type=some (.int kk)
   |.b=>P.underlying f.type=some .bool
   |.s=>P.underlying f.type=some .string
 |k0,[],[],_=>⟨rfl,fun k f q h=>by simp at h⟩
 |k0,g::fs,p::qs,h=>by
  simp only [cmpB,Bool.and_eq_true,Bool.not_eq_true'] at h
  obtain ⟨⟨⟨⟨h1,h2⟩,h3⟩,h4⟩,h5⟩:=h
  obtain ⟨k1,k2⟩:=cmpB_ok h5
  refine ⟨by simp [k1],fun k f q hf hq => ?_⟩
  cases k with
  |zero=>
   simp only [List.getElem?_cons_zero,Option.some.injEq] at hf hq
   subst hf hq
   refine ⟨h1,Nat.eq_of_beq_eq_true h2,h3,?_⟩
   split at h4<;>(try (cases h4;done))
   · rename_i kk e1;exact ⟨kk,e1⟩
   · rename_i e1;exact e1
   · rename_i e1;exact e1
  |succ k=>
   obtain ⟨j1,j2,j3⟩:=k2 k f q (by simpa using hf) (by simpa using hq)
   exact ⟨j1,by omega,j3⟩
 |_,[],_::_,h=>by simp [cmpB] at h
 |_,_::_,[],h=>by simp [cmpB] at h
variable [ao_]
omit [ao_] in
theorem tdB_ok {E:Env} {T:TypeId} {td:TD} (h:tdB E.P E.eid T td=true):TDok E T td:=by
 unfold tdB at h
 cases hi:E.P.info? T with
 |none=>rw [hi] at h;cases h
 |some i=>
  cases hu:E.P.underlying T with
  |none=>rw [hi,hu] at h;cases h
  |some d=>
   rw [hi,hu] at h
   simp only [Bool.and_eq_true] at h
   obtain ⟨⟨⟨⟨⟨⟨h1,h2⟩,h3⟩,h4⟩,h5⟩,h6⟩,h7⟩:=h
   simp only [descB,Bool.and_eq_true] at h6
   obtain ⟨⟨⟨⟨g1,g2⟩,g3⟩,g4⟩,g5⟩:=h6
   refine ⟨by rw [hi];simp [Nat.eq_of_beq_eq_true h1],f1_.1 h2,fun e=>⟨d,hu,by rw [e] at h3;exact h3⟩,fun e => ?_,?_,fun e => ?_,fun e => ?_,fun t e => ?_,fun k e => ?_,fun e => ?_,fun e => ?_,fun e => ?_,fun e => ?_⟩
   · rw [e] at h3
     simp only [cond_false,Bool.and_eq_true,Bool.not_eq_true'] at h3
     exact ⟨Nat.eq_of_beq_eq_true h3.1,d,hu,h3.2⟩
   · cases hz:i.zero with
     |none=>rw [hz] at h4;cases h4
     |some z=>
      rw [hz] at h4
      simp only [Bool.and_eq_true] at h4
      exact ⟨Nat.eq_of_beq_eq_true h4.1.1,h4.1.2,i,z,z.cells.toList,hi,hz,by simp,ki_ h4.2⟩
   · cases hf:td.fields with
     |nil=>exact absurd hf e
     |cons p ps=>
      rw [hf] at h5
      cases d<;>simp only at h5<;>(try (cases h5;done))
      rename_i gs
      obtain ⟨k1,k2⟩:=j4_ h5
      exact ⟨gs,hu,by simpa using k1,fun f off n hq=>by
       obtain ⟨fd,j1,j2⟩:=k2 f off n hq
       exact ⟨fd,by simpa using j1,j2⟩⟩
   · intro e'
     rw [e'] at h5
     simp only [e] at h5
     cases h5
   · rw [e] at g1
     cases d<;>simp only at g1<;>(try (cases g1;done))
     rw [hu,Nat.eq_of_beq_eq_true g1]
   · rw [e] at g2
     cases d<;>simp only at g2<;>(try (cases g2;done))
     rw [hu,of_decide_eq_true g2]
   · rw [e] at g3
     cases d<;>simp only [cond_true] at g3<;>first|exact hu|cases g3
   · rw [e] at g4
     cases d<;>simp only [cond_true] at g4<;>first|exact hu|cases g4
   · cases hq:td.cmp with
     |nil=>exact absurd hq e
     |cons p ps=>
      rw [hq] at h7
      cases d<;>simp only at h7<;>(try (cases h7;done))
      rename_i gs
      simp only [Bool.and_eq_true,Bool.not_eq_true'] at h7
      obtain ⟨k1,k2⟩:=cmpB_ok h7.1.1
      refine ⟨gs,hu,h7.1.2,h7.2,by simpa using k1,fun k f q hf hq' => ?_⟩
      obtain ⟨j1,j2,j3⟩:=k2 k f q (by simpa using hf) hq'
      exact ⟨j1,by omega,j3⟩
   · rw [e] at g5
     cases d<;>simp only [cond_true] at g5<;>first|exact ⟨_,hu⟩|cases g5
def gB_ {α:Type _}:List (Nat × α)→Nat→Option α
 |[],_=>none
 |(k,a)::l,n=>cond (Nat.beq n k) (some a) (gB_ l n)
def allB {α:Type _} (p:Nat→α→Bool):List (Nat × α)→Bool
 |[]=>true
 |(k,a)::l=>p k a&&allB p l
omit [ao_] in
theorem nd_ {α:Type _} {p:Nat→α→Bool}:∀ {l:List (Nat × α)} {n:Nat} {a:α},allB p l=true→gB_ l n=some a→p n a=true
 |[],n,a,_,h=>by cases h
 |(k,b)::l,n,a,h,h'=>by
  simp only [allB,Bool.and_eq_true] at h
  simp only [gB_] at h'
  cases hb:Nat.beq n k with
  |true=>
   rw [hb] at h'
   simp only [cond_true,Option.some.injEq] at h'
   have:=Nat.eq_of_beq_eq_true hb
   subst this h'
   exact h.1
  |false=>rw [hb] at h';exact nd_ h.2 h'
omit [ao_] in
theorem tt_ok {E:Env} {l:List (Nat × TD)} (h:allB (tdB E.P E.eid) l=true) (T:TypeId):TTok E T (gB_ l T) :=
 ⟨fun td ht=>tdB_ok (nd_ h ht)⟩
open ao_
def tcB (P:Program) (eid:TC→TypeId) (t:TC) (zc:List AV):Bool :=
 match P.info? (eid t) with
 |some i=>Nat.beq i.size t.width&&Nat.beq i.bytes t.bytes&&Nat.blt 0 t.bytes&&zc.all AV.one&&match i.zero with
  |some z=>md_ zc z.cells.toList
  |none=>false
 |none=>false
theorem gp_ {E:Env} {t:TC} {zc:List AV} (h:tcB E.P E.eid t zc=true) (hz:∀ m,sims m zc (enc m t (El.dflt t))):TCok E t:=by
 unfold tcB at h
 cases hi:E.P.info? (E.eid t) with
 |none=>rw [hi] at h;cases h
 |some i=>
  rw [hi] at h
  simp only [Bool.and_eq_true] at h
  obtain ⟨⟨⟨⟨h1,h2⟩,h3⟩,h4⟩,h5⟩:=h
  cases hq:i.zero with
  |none=>rw [hq] at h5;cases h5
  |some z=>
   rw [hq] at h5
   exact ⟨⟨i,z,z.cells.toList,zc,hi,hq,Nat.eq_of_beq_eq_true h1,Nat.eq_of_beq_eq_true h2,by simp,ki_ h5,h4,hz⟩,f1_.1 h3⟩
omit [ao_] in
theorem cond_t {α:Type _} {c:Bool} {a b x:α} (hc:c=true) (h:cond c a b=x):a=x:=by subst hc;exact h
omit [ao_] in
theorem cond_f {α:Type _} {c:Bool} {a b x:α} (hc:c=false) (h:cond c a b=x):b=x:=by subst hc;exact h
omit [ao_] in
theorem cond_is {α:Type _} {c:Bool} (hc:c=true) (a b:α):cond c a b=a:=by subst hc;rfl
omit [ao_] in
theorem cond_no {α:Type _} {c:Bool} (hc:c=false) (a b:α):cond c a b=b:=by subst hc;rfl
def selNil:List AV→Bool
 |.ag cs::_=>cs.all fun | .nils=>true | .i .. => true | .b _=>true | .s _=>true|_=>false
 |_=>false
def selM:List M→List AV→Bool
 |m::ms,.sl m' _ _::az=>(match m,m' with | .d,.d=>true | .s,.s=>true | .v,.v=>true|_,_=>false)&&selM ms az
 |_::ms,_::az=>selM ms az
 |_,_=>true
def selClo (k:Nat) (avs:List AV):Nat:=match avs[k]? with
 |some (.clo g _)=>g
 |_=>0
structure Hd:Type 1 where
 K:(ω:Type)→List AV→(AV→List AV→Option ω)→Option ω
def AllP {α:Type _} (p:Nat→α→Prop):List (Nat × α)→Prop
 |[]=>True
 |(k,a)::l=>p k a∧AllP p l
omit [ao_] in
theorem ix_ {α:Type _} {p:Nat→α→Prop}:∀ {l:List (Nat × α)} {n:Nat} {a:α},AllP p l→gB_ l n=some a→p n a
 |[],n,a,_,h=>by cases h
 |(k,b)::l,n,a,h,h'=>by
  simp only [gB_] at h'
  cases hb:Nat.beq n k with
  |true=>
   rw [hb] at h'
   simp only [cond_true,Option.some.injEq] at h'
   have:=Nat.eq_of_beq_eq_true hb
   subst this h'
   exact h.1
  |false=>rw [hb] at h';exact ix_ h.2 h'
def KH (l:List (Nat × Hd)) (ω:Type) (f:Nat) (avs:List AV) (κ:AV→List AV→Option ω):Option ω:=match gB_ l f with
 |some h=>h.K ω avs κ
 |none=>none
omit [ao_] in
theorem KH_par {l:List (Nat × Hd)} {nt:Nat} {tt:Nat→Option TD} {sig:Nat→Option (List PS)} {fz:Nat→Bool} (h:AllP (fun _ (h:Hd)=>∀ (ω:Type) (avs:List AV) (κ:AV→List AV→Option ω) (q:ω),h.K ω avs κ=some q→∃ rv outs,κ rv outs=some q∧∀ (ω':Type) (κ':AV→List AV→Option ω'),h.K ω' avs κ'=κ' rv outs) l) :
  KPar ⟨nt,tt,sig,KH l,fz⟩:=by
 intro ω f avs κ q hK
 have hK:KH l ω f avs κ=some q:=hK
 show ∃ rv outs,κ rv outs=some q∧∀ (ω':Type) (κ':AV→List AV→Option ω'),KH l ω' f avs κ'=κ' rv outs
 unfold KH at hK ⊢
 cases hl:gB_ l f with
 |none=>rw [hl] at hK;cases hK
 |some g=>rw [hl] at hK;exact ix_ h hl ω avs κ q hK
theorem KH_ok {E:Env} {l:List (Nat × Hd)} {nt:Nat} {tt:Nat→Option TD} {sig:Nat→Option (List PS)} {fz:Nat→Bool} (h:AllP (fun f (h:Hd)=>∀ (ω:Type) (avs:List AV) (κ:AV→List AV→Option ω) (q:ω),h.K ω avs κ=some q→FnOk E f∧∃ ps rv outs,sig f=some ps∧κ rv outs=some q∧en_ E f avs rv outs ps) l) :
  KOk E ⟨nt,tt,sig,KH l,fz⟩:=by
 intro ω f avs κ q hK
 have hK:KH l ω f avs κ=some q:=hK
 unfold KH at hK
 cases hl:gB_ l f with
 |none=>rw [hl] at hK;cases hK
 |some g=>rw [hl] at hK;exact ix_ h hl ω avs κ q hK
def eH_ (t:TC) (a:AV) {ω:Type} (κ:List (El t)→Option ω):Option ω:=match decSl t a with
 |some xs=>κ xs
 |none=>none
omit [ao_] in
theorem eU_ {t:TC} {a:AV} {ω:Type} {r:ω} {κ:List (El t)→Option ω} (h:eH_ t a κ=some r):∃ xs,κ xs=some r∧∀ m,AV.sim m a (.sl m t xs):=by
 unfold eH_ at h
 cases hd:decSl t a with
 |none=>rw [hd] at h;cases h
 |some xs=>
  rw [hd] at h
  refine ⟨xs,h,fun m => ?_⟩
  cases a<;>simp only [decSl] at hd<;>(try (cases hd;done))
  case nils=>simp only [Option.some.injEq] at hd;subst hd;exact ⟨t,rfl⟩
  case sl m' t' ys=>
   by_cases e:t'=t
   · subst e
     simp only [dite_true,Option.some.injEq] at hd
     subst hd;rfl
   · simp [e] at hd
def codedB (m:M):AV→Bool
 |.i _ _ | .b _ | .s _=>true
 |.sl m' _ _=>M.same m' m
 |_=>false
omit [ao_] in
theorem coded_of {m:M} {l:List AV} (h:l.all (codedB m)=true) (a:AV) (ha:a ∈ l):(∃ k n,a = .i k n)∨(∃ q,a = .b q)∨(∃ l,a = .s l)∨∃ t' xs,a = .sl m t' xs:=by
 have:=List.all_eq_true.1 h a ha
 cases a<;>simp only [codedB] at this<;>(try (cases this;done))
 · exact .inl ⟨_,_,rfl⟩
 · exact .inr (.inl ⟨_,rfl⟩)
 · exact .inr (.inr (.inl ⟨_,rfl⟩))
 · rw [M.same_eq this];exact .inr (.inr (.inr ⟨_,_,rfl⟩))
end Go.Pi
end
section
namespace Go.Pi
def both {α β:Type} (a:Option α) (b:Option β):Option (α × β):=match a with
 |some x=>match b with
  |some y=>some (x,y)
  |none=>none
 |none=>none
theorem both_ok {α β:Type} {a:Option α} {b:Option β} {z:α × β} (h:both a b=some z):a=some z.1∧b=some z.2:=by
 cases a with
 |none=>cases h
 |some x=>cases b with
  |none=>cases h
  |some y=>cases h;exact ⟨rfl,rfl⟩
inductive Pat:Type where
 |i (k:IntKind)|b|s
 |sl (m:M) (t:TC)
 |ag (ps:List Pat)|tu (ps:List Pat)|bx (ps:List Pat)
 |pc (ps:List Pat) (off:Nat)
 |clo (f:FuncId) (ps:List Pat)
 |rt (r:Nat)|pb (r off:Nat)
 |nils|nili|u|er
mutual
def Pat.T:Pat→Type
 |.i _=>Int
 |.b=>Bool
 |.s=>Bs
 |.sl _ t=>List (El t)
 |.ag ps=>Pat.Ts ps
 |.tu ps=>Pat.Ts ps
 |.bx ps=>Pat.Ts ps
 |.pc ps _=>Pat.Ts ps
 |.clo _ ps=>Pat.Ts ps
 |.rt _=>Unit
 |.pb _ _=>Unit
 |.nils=>Unit
 |.nili=>Unit
 |.u=>Unit
 |.er=>Bool
def Pat.Ts:List Pat→Type
 |[]=>Unit
 |p::ps=>Pat.T p × Pat.Ts ps
end
mutual
def Pat.enc:(p:Pat)→Pat.T p→AV
 |.i k,n=>.i k n
 |.b,q=>.b q
 |.s,l=>.s l
 |.sl m t,xs=>.sl m t xs
 |.ag ps,x=>.ag (Pat.encs ps x)
 |.tu ps,x=>.tu (Pat.encs ps x)
 |.bx ps,x=>.bx (Pat.encs ps x)
 |.pc ps off,x=>.pc (Pat.encs ps x) off
 |.clo f ps,x=>.clo f (Pat.encs ps x)
 |.rt r,_=>.rt r
 |.pb r off,_=>.pb r off
 |.nils,_=>.nils
 |.nili,_=>.nili
 |.u,_=>.u
 |.er,q=>.er q
def Pat.encs:(ps:List Pat)→Pat.Ts ps→List AV
 |[],_=>[]
 |p::ps,x=>Pat.enc p x.1::Pat.encs ps x.2
end
mutual
def Pat.dec:(p:Pat)→AV→Option (Pat.T p)
 |.i k,a=>gd_ k a fun n=>some n
 |.b,a=>getB a fun q=>some q
 |.s,a=>getS a fun l=>some l
 |.sl m t,a=>getSl m t a fun xs=>some xs
 |.ag ps,a=>getAg a fun l=>Pat.decs ps l
 |.tu ps,a=>getTu a fun l=>Pat.decs ps l
 |.bx ps,a=>getBx a fun l=>Pat.decs ps l
 |.pc ps off,a=>getPc off a fun l=>Pat.decs ps l
 |.clo f ps,a=>getClo f a fun l=>Pat.decs ps l
 |.rt r,a=>isRt r a (some ())
 |.pb r off,a=>isPb r off a (some ())
 |.nils,a=>isNils a (some ())
 |.nili,a=>isNili a (some ())
 |.u,a=>isU a (some ())
 |.er,a=>getEr a fun q=>some q
def Pat.decs:(ps:List Pat)→List AV→Option (Pat.Ts ps)
 |[],l=>un l (some ())
 |p::ps,l=>uc l fun a l=>both (Pat.dec p a) (Pat.decs ps l)
end
mutual
theorem Pat.dec_ok:∀ (p:Pat) (a:AV) (x:Pat.T p),Pat.dec p a=some x→a=Pat.enc p x
 |.i k,a,x,h=>by simp only [Pat.dec] at h;replace h:=dO_ h;obtain ⟨n,rfl,h⟩:=h;cases h;simp only [Pat.enc]
 |.b,a,x,h=>by simp only [Pat.dec] at h;replace h:=my_ h;obtain ⟨n,rfl,h⟩:=h;cases h;simp only [Pat.enc]
 |.s,a,x,h=>by simp only [Pat.dec] at h;replace h:=mx_ h;obtain ⟨n,rfl,h⟩:=h;cases h;simp only [Pat.enc]
 |.sl m t,a,x,h=>by simp only [Pat.dec] at h;replace h:=getSl_ok h;obtain ⟨n,rfl,h⟩:=h;cases h;simp only [Pat.enc]
 |.ag ps,a,x,h=>by simp only [Pat.dec] at h;replace h:=getAg_ok h;obtain ⟨l,rfl,h⟩:=h;rw [Pat.decs_ok ps l x h];simp only [Pat.enc]
 |.tu ps,a,x,h=>by simp only [Pat.dec] at h;replace h:=getTu_ok h;obtain ⟨l,rfl,h⟩:=h;rw [Pat.decs_ok ps l x h];simp only [Pat.enc]
 |.bx ps,a,x,h=>by simp only [Pat.dec] at h;replace h:=getBx_ok h;obtain ⟨l,rfl,h⟩:=h;rw [Pat.decs_ok ps l x h];simp only [Pat.enc]
 |.pc ps off,a,x,h=>by simp only [Pat.dec] at h;replace h:=getPc_ok h;obtain ⟨l,rfl,h⟩:=h;rw [Pat.decs_ok ps l x h];simp only [Pat.enc]
 |.clo f ps,a,x,h=>by simp only [Pat.dec] at h;replace h:=getClo_ok h;obtain ⟨l,rfl,h⟩:=h;rw [Pat.decs_ok ps l x h];simp only [Pat.enc]
 |.rt r,a,x,h=>by simp only [Pat.dec] at h;replace h:=isRt_ok h;obtain ⟨rfl,h⟩:=h;simp only [Pat.enc]
 |.pb r off,a,x,h=>by simp only [Pat.dec] at h;replace h:=isPb_ok h;obtain ⟨rfl,h⟩:=h;simp only [Pat.enc]
 |.nils,a,x,h=>by simp only [Pat.dec] at h;replace h:=isNils_ok h;obtain ⟨rfl,h⟩:=h;simp only [Pat.enc]
 |.nili,a,x,h=>by simp only [Pat.dec] at h;replace h:=isNili_ok h;obtain ⟨rfl,h⟩:=h;simp only [Pat.enc]
 |.u,a,x,h=>by simp only [Pat.dec] at h;replace h:=isU_ok h;obtain ⟨rfl,h⟩:=h;simp only [Pat.enc]
 |.er,a,x,h=>by simp only [Pat.dec] at h;replace h:=getEr_ok h;obtain ⟨n,rfl,h⟩:=h;cases h;simp only [Pat.enc]
theorem Pat.decs_ok:∀ (ps:List Pat) (l:List AV) (x:Pat.Ts ps),Pat.decs ps l=some x→l=Pat.encs ps x
 |[],l,x,h=>by simp only [Pat.decs] at h;replace h:=hR_ h;obtain ⟨rfl,h⟩:=h;simp only [Pat.encs]
 |p::ps,l,x,h=>by
  simp only [Pat.decs] at h
  replace h:=ec_ h;obtain ⟨a,l,rfl,h⟩:=h
  obtain ⟨h1,h2⟩:=both_ok h
  rw [Pat.dec_ok p a x.1 h1,Pat.decs_ok ps l x.2 h2]
  simp only [Pat.encs]
end
inductive BPat:Type where
 |ext|non
 |box (ps:List Pat)
 |arr (m:M) (t:TC) (st:Nat)
def BPat.T:BPat→Type
 |.ext=>Unit
 |.non=>Unit
 |.box ps=>Pat.Ts ps
 |.arr _ t _=>List (El t)
def BPat.Ts:List BPat→Type
 |[]=>Unit
 |p::ps=>BPat.T p × BPat.Ts ps
def BPat.enc:(p:BPat)→BPat.T p→Option Blk
 |.ext,_=>some (.ext none)
 |.non,_=>none
 |.box ps,x=>some (.box (Pat.encs ps x))
 |.arr m t st,xs=>some (.arr m t st xs)
def BPat.encs:(ps:List BPat)→BPat.Ts ps→List (Option Blk)
 |[],_=>[]
 |p::ps,x=>BPat.enc p x.1::BPat.encs ps x.2
def BPat.dec:(p:BPat)→Option Blk→Option (BPat.T p)
 |.ext,a=>isExt a (some ())
 |.non,a=>noBlk a (some ())
 |.box ps,a=>getBox a fun l=>Pat.decs ps l
 |.arr m t st,a=>getArr m t st a fun xs=>some xs
def BPat.decs:(ps:List BPat)→List (Option Blk)→Option (BPat.Ts ps)
 |[],l=>un l (some ())
 |p::ps,l=>uc l fun a l=>both (BPat.dec p a) (BPat.decs ps l)
theorem BPat.dec_ok (p:BPat) (a:Option Blk) (x:BPat.T p) (h:BPat.dec p a=some x):a=BPat.enc p x:=by
 cases p with
 |ext=>obtain ⟨rfl,_⟩:=isExt_ok h;rfl
 |non=>obtain ⟨rfl,_⟩:=noBlk_ok h;rfl
 |box ps=>replace h:=getBox_ok h;obtain ⟨l,rfl,h⟩:=h;rw [Pat.decs_ok ps l x h];rfl
 |arr m t st=>replace h:=getArr_ok h;obtain ⟨l,rfl,h⟩:=h;cases h;rfl
theorem BPat.decs_ok:∀ (ps:List BPat) (l:List (Option Blk)) (x:BPat.Ts ps),BPat.decs ps l=some x→l=BPat.encs ps x
 |[],l,x,h=>by simp only [BPat.decs] at h;replace h:=hR_ h;obtain ⟨rfl,h⟩:=h;rfl
 |p::ps,l,x,h=>by
  simp only [BPat.decs] at h
  replace h:=ec_ h;obtain ⟨a,l,rfl,h⟩:=h
  obtain ⟨h1,h2⟩:=both_ok h
  rw [BPat.dec_ok p a x.1 h1,BPat.decs_ok ps l x.2 h2]
  rfl
def piece {R:Type} (vp:List Pat) (bp:List BPat) (v:List AV) (b:List (Option Blk)) (g:Pat.Ts vp→BPat.Ts bp→Option R):Option R :=
 match Pat.decs vp v with
 |some x=>(match BPat.decs bp b with
  |some y=>g x y
  |none=>none)
 |none=>none
theorem piece_ok {R:Type} {vp:List Pat} {bp:List BPat} {v:List AV} {b:List (Option Blk)} {g:Pat.Ts vp→BPat.Ts bp→Option R} {r:R} (h:piece vp bp v b g=some r) :
  ∃ x y,v=Pat.encs vp x∧b=BPat.encs bp y∧g x y=some r:=by
 unfold piece at h
 cases h1:Pat.decs vp v with
 |none=>rw [h1] at h;cases h
 |some x=>
  rw [h1] at h
  cases h2:BPat.decs bp b with
  |none=>rw [h2] at h;cases h
  |some y=>rw [h2] at h;exact ⟨x,y,Pat.decs_ok _ _ _ h1,BPat.decs_ok _ _ _ h2,h⟩
def finP {R:Type} (ps:List Pat) (k:Pat.Ts ps→R) (o:List AV):Option R:=match Pat.decs ps o with
 |some x=>some (k x)
 |none=>none
theorem finP_ok {R:Type} {ps:List Pat} {k:Pat.Ts ps→R} {inj:R→List AV} (hk:∀ x,Pat.encs ps x=inj (k x)) {o:List AV} {r:R} (h:finP ps k o=some r):o=inj r:=by
 unfold finP at h
 cases h1:Pat.decs ps o with
 |none=>rw [h1] at h;cases h
 |some x=>
  rw [h1] at h
  cases h
  rw [Pat.decs_ok _ _ _ h1,hk]
end Go.Pi
end
section
namespace Go.Pi
def mkK {R:Type} (ss:List Sk) (ps:List Pat) (f:Pat.Ts ps→Option R) (rv:R→AV) (outs:R→List AV) {ω:Type} (avs:List AV) (κ:AV→List AV→Option ω):Option ω :=
 match Pat.decs ps (od_ ss avs) with
 |some x=>(f x).bind fun r=>κ (rv r) (outs r)
 |none=>none
theorem mkK_par {R:Type} {ss:List Sk} {ps:List Pat} {f:Pat.Ts ps→Option R} {rv:R→AV} {outs:R→List AV} {ω:Type} {avs:List AV} {κ:AV→List AV→Option ω} {q:ω} (h:mkK ss ps f rv outs avs κ=some q) :
  ∃ r o,κ r o=some q∧∀ (ω':Type) (κ':AV→List AV→Option ω'),mkK ss ps f rv outs avs κ'=κ' r o:=by
 unfold mkK at h
 cases hd:Pat.decs ps (od_ ss avs) with
 |none=>rw [hd] at h;cases h
 |some x=>
  rw [hd] at h
  simp only at h
  cases hf:f x with
  |none=>rw [hf] at h;cases h
  |some r=>
   rw [hf] at h
   exact ⟨_,_,h,fun ω' κ'=>by unfold mkK;rw [hd];simp only [hf];rfl⟩
variable [ao_]
theorem mkK_ok [aq_] {E:Env} {fid:FuncId} {sg:Option (List PS)} {R:Type} {ss:List Sk} {ps:List Pat} {f:Pat.Ts ps→Option R} {rv:R→AV} {outs:R→List AV} {pss:List PS} (hfn:FnOk E fid) (hsig:sg=some pss)
  (ho:∀ x r,f x=some r→en_ E fid (Pat.encs ps x) (rv r) (outs r) pss) {ω:Type} {avs:List AV} {κ:AV→List AV→Option ω} {q:ω} (h:mkK ss ps f rv outs avs κ=some q) :
  FnOk E fid∧∃ ps' r o,sg=some ps'∧κ r o=some q∧en_ E fid avs r o ps':=by
 unfold mkK at h
 cases hd:Pat.decs ps (od_ ss avs) with
 |none=>rw [hd] at h;cases h
 |some x=>
  rw [hd] at h
  simp only at h
  cases hf:f x with
  |none=>rw [hf] at h;cases h
  |some r=>
   rw [hf] at h
   exact ⟨hfn,pss,_,_,hsig,h,en_.fix (ss:=ss) (by rw [Pat.decs_ok _ _ _ hd];exact ho x r hf)⟩
end Go.Pi
end
section
set_option linter.unusedSectionVars false
namespace Go.Pi
mutual
def Pat.C:Pat→Type→Type
 |.i _,α=>Int→α
 |.b,α=>Bool→α
 |.er,α=>Bool→α
 |.s,α=>Bs→α
 |.sl _ t,α=>List (El t)→α
 |.ag ps,α=>Pat.Cs ps α
 |.tu ps,α=>Pat.Cs ps α
 |.bx ps,α=>Pat.Cs ps α
 |.pc ps _,α=>Pat.Cs ps α
 |.clo _ ps,α=>Pat.Cs ps α
 |.rt _,α=>α
 |.pb _ _,α=>α
 |.nils,α=>α
 |.nili,α=>α
 |.u,α=>α
def Pat.Cs:List Pat→Type→Type
 |[],α=>α
 |p::ps,α=>Pat.C p (Pat.Cs ps α)
end
mutual
def Pat.ap:(p:Pat)→(α:Type)→Pat.C p α→Pat.T p→α
 |.i _,_,f,x=>f x
 |.b,_,f,x=>f x
 |.er,_,f,x=>f x
 |.s,_,f,x=>f x
 |.sl _ _,_,f,x=>f x
 |.ag ps,α,f,x=>Pat.aps ps α f x
 |.tu ps,α,f,x=>Pat.aps ps α f x
 |.bx ps,α,f,x=>Pat.aps ps α f x
 |.pc ps _,α,f,x=>Pat.aps ps α f x
 |.clo _ ps,α,f,x=>Pat.aps ps α f x
 |.rt _,_,f,_=>f
 |.pb _ _,_,f,_=>f
 |.nils,_,f,_=>f
 |.nili,_,f,_=>f
 |.u,_,f,_=>f
def Pat.aps:(ps:List Pat)→(α:Type)→Pat.Cs ps α→Pat.Ts ps→α
 |[],_,f,_=>f
 |p::ps,α,f,x=>Pat.aps ps α (Pat.ap p (Pat.Cs ps α) f x.1) x.2
end
mutual
def Pat.lm:(p:Pat)→(α:Type)→(Pat.T p→α)→Pat.C p α
 |.i _,_,f=>f
 |.b,_,f=>f
 |.er,_,f=>f
 |.s,_,f=>f
 |.sl _ _,_,f=>f
 |.ag ps,α,f=>Pat.lms ps α f
 |.tu ps,α,f=>Pat.lms ps α f
 |.bx ps,α,f=>Pat.lms ps α f
 |.pc ps _,α,f=>Pat.lms ps α f
 |.clo _ ps,α,f=>Pat.lms ps α f
 |.rt _,_,f=>f ()
 |.pb _ _,_,f=>f ()
 |.nils,_,f=>f ()
 |.nili,_,f=>f ()
 |.u,_,f=>f ()
def Pat.lms:(ps:List Pat)→(α:Type)→(Pat.Ts ps→α)→Pat.Cs ps α
 |[],_,f=>f ()
 |p::ps,α,f=>Pat.lm p (Pat.Cs ps α) fun a=>Pat.lms ps α fun r=>f (a,r)
end
mutual
theorem Pat.ap_lm:∀ (p:Pat) (α:Type) (f:Pat.T p→α) (x:Pat.T p),Pat.ap p α (Pat.lm p α f) x=f x
 |.i _,_,f,x=>rfl
 |.b,_,f,x=>rfl
 |.er,_,f,x=>rfl
 |.s,_,f,x=>rfl
 |.sl _ _,_,f,x=>rfl
 |.ag ps,α,f,x=>Pat.aps_lms ps α f x
 |.tu ps,α,f,x=>Pat.aps_lms ps α f x
 |.bx ps,α,f,x=>Pat.aps_lms ps α f x
 |.pc ps _,α,f,x=>Pat.aps_lms ps α f x
 |.clo _ ps,α,f,x=>Pat.aps_lms ps α f x
 |.rt _,_,f,x=>rfl
 |.pb _ _,_,f,x=>rfl
 |.nils,_,f,x=>rfl
 |.nili,_,f,x=>rfl
 |.u,_,f,x=>rfl
theorem Pat.aps_lms:∀ (ps:List Pat) (α:Type) (f:Pat.Ts ps→α) (x:Pat.Ts ps),Pat.aps ps α (Pat.lms ps α f) x=f x
 |[],_,f,x=>rfl
 |p::ps,α,f,x=>by
  show Pat.aps ps α (Pat.ap p (Pat.Cs ps α) (Pat.lm p (Pat.Cs ps α) fun a=>Pat.lms ps α fun r=>f (a,r)) x.1) x.2=f x
  rw [Pat.ap_lm p _ _ x.1,Pat.aps_lms ps α _ x.2]
  rfl
end
mutual
theorem Pat.lm_ap:∀ (p:Pat) (α:Type) (f:Pat.C p α),Pat.lm p α (Pat.ap p α f)=f
 |.i _,_,f=>rfl
 |.b,_,f=>rfl
 |.er,_,f=>rfl
 |.s,_,f=>rfl
 |.sl _ _,_,f=>rfl
 |.ag ps,α,f=>Pat.lms_aps ps α f
 |.tu ps,α,f=>Pat.lms_aps ps α f
 |.bx ps,α,f=>Pat.lms_aps ps α f
 |.pc ps _,α,f=>Pat.lms_aps ps α f
 |.clo _ ps,α,f=>Pat.lms_aps ps α f
 |.rt _,_,f=>rfl
 |.pb _ _,_,f=>rfl
 |.nils,_,f=>rfl
 |.nili,_,f=>rfl
 |.u,_,f=>rfl
theorem Pat.lms_aps:∀ (ps:List Pat) (α:Type) (f:Pat.Cs ps α),Pat.lms ps α (Pat.aps ps α f)=f
 |[],_,f=>rfl
 |p::ps,α,f=>by
  show Pat.lm p (Pat.Cs ps α) (fun a=>Pat.lms ps α (Pat.aps ps α (Pat.ap p (Pat.Cs ps α) f a)))=f
  rw [show (fun a=>Pat.lms ps α (Pat.aps ps α (Pat.ap p (Pat.Cs ps α) f a)))=Pat.ap p (Pat.Cs ps α) f from funext fun a=>Pat.lms_aps ps α _]
  exact Pat.lm_ap p _ f
end
def BPat.C:BPat→Type→Type
 |.ext,α=>α
 |.non,α=>α
 |.box ps,α=>Pat.Cs ps α
 |.arr _ t _,α=>List (El t)→α
def BPat.Cs:List BPat→Type→Type
 |[],α=>α
 |p::ps,α=>BPat.C p (BPat.Cs ps α)
def BPat.ap:(p:BPat)→(α:Type)→BPat.C p α→BPat.T p→α
 |.ext,_,f,_=>f
 |.non,_,f,_=>f
 |.box ps,α,f,x=>Pat.aps ps α f x
 |.arr _ _ _,_,f,x=>f x
def BPat.aps:(ps:List BPat)→(α:Type)→BPat.Cs ps α→BPat.Ts ps→α
 |[],_,f,_=>f
 |p::ps,α,f,x=>BPat.aps ps α (BPat.ap p (BPat.Cs ps α) f x.1) x.2
def BPat.lm:(p:BPat)→(α:Type)→(BPat.T p→α)→BPat.C p α
 |.ext,_,f=>f ()
 |.non,_,f=>f ()
 |.box ps,α,f=>Pat.lms ps α f
 |.arr _ _ _,_,f=>f
def BPat.lms:(ps:List BPat)→(α:Type)→(BPat.Ts ps→α)→BPat.Cs ps α
 |[],_,f=>f ()
 |p::ps,α,f=>BPat.lm p (BPat.Cs ps α) fun a=>BPat.lms ps α fun r=>f (a,r)
theorem BPat.ap_lm (p:BPat) (α:Type) (f:BPat.T p→α) (x:BPat.T p):BPat.ap p α (BPat.lm p α f) x=f x:=by
 cases p with
 |ext=>rfl
 |non=>rfl
 |box ps=>exact Pat.aps_lms ps α f x
 |arr m t st=>rfl
theorem BPat.lm_ap (p:BPat) (α:Type) (f:BPat.C p α):BPat.lm p α (BPat.ap p α f)=f:=by
 cases p with
 |ext=>rfl
 |non=>rfl
 |box ps=>exact Pat.lms_aps ps α f
 |arr m t st=>rfl
theorem BPat.aps_lms:∀ (ps:List BPat) (α:Type) (f:BPat.Ts ps→α) (x:BPat.Ts ps),BPat.aps ps α (BPat.lms ps α f) x=f x
 |[],_,f,x=>rfl
 |p::ps,α,f,x=>by
  show BPat.aps ps α (BPat.ap p (BPat.Cs ps α) (BPat.lm p (BPat.Cs ps α) fun a=>BPat.lms ps α fun r=>f (a,r)) x.1) x.2=f x
  rw [BPat.ap_lm p _ _ x.1,BPat.aps_lms ps α _ x.2]
  rfl
theorem BPat.lms_aps:∀ (ps:List BPat) (α:Type) (f:BPat.Cs ps α),BPat.lms ps α (BPat.aps ps α f)=f
 |[],_,f=>rfl
 |p::ps,α,f=>by
  show BPat.lm p (BPat.Cs ps α) (fun a=>BPat.lms ps α (BPat.aps ps α (BPat.ap p (BPat.Cs ps α) f a)))=f
  rw [show (fun a=>BPat.lms ps α (BPat.aps ps α (BPat.ap p (BPat.Cs ps α) f a)))=BPat.ap p (BPat.Cs ps α) f from funext fun a=>BPat.lms_aps ps α _]
  exact BPat.lm_ap p _ f
structure OD where
 live:Live
 vp:List Pat
 bp:List BPat
abbrev OD.Cu (o:OD) (α:Type):Type:=Pat.Cs o.vp (BPat.Cs o.bp α)
def OD.ap (o:OD) {α:Type} (f:o.Cu α) (x:Pat.Ts o.vp) (y:BPat.Ts o.bp):α:=BPat.aps o.bp α (Pat.aps o.vp _ f x) y
def OD.lm (o:OD) {α:Type} (g:Pat.Ts o.vp→BPat.Ts o.bp→α):o.Cu α:=Pat.lms o.vp _ fun x=>BPat.lms o.bp α fun y=>g x y
theorem OD.ap_lm (o:OD) {α:Type} (g:Pat.Ts o.vp→BPat.Ts o.bp→α) (x:Pat.Ts o.vp) (y:BPat.Ts o.bp):o.ap (o.lm g) x y=g x y:=by
 unfold OD.ap OD.lm;rw [Pat.aps_lms,BPat.aps_lms]
theorem OD.lm_ap (o:OD) {α:Type} (f:o.Cu α):o.lm (fun x y=>o.ap f x y)=f:=by
 unfold OD.ap OD.lm
 rw [show (fun x=>BPat.lms o.bp α fun y=>BPat.aps o.bp α (Pat.aps o.vp _ f x) y)=Pat.aps o.vp _ f from funext fun x=>BPat.lms_aps _ _ _]
 exact Pat.lms_aps _ _ _
def OD.k {R:Type} (o:OD) (κ:D R):o.Cu (Option R):=o.lm fun x y=>κ (Pat.encs o.vp x) (BPat.encs o.bp y)
def PFs (R:Type):List (Nat × OD)→Type
 |[]=>Unit
 |(_,o)::l=>(D R→(Nat→D R)→o.Cu (Option R)) × PFs R l
structure FD (R:Type) where
 fid:Nat
 nt:Nat
 e:Nat
 ps:List Pat
 rp:List Pat
 toR:Pat.Ts rp→R
 ofR:R→Pat.Ts rp
 sig:List PS
 rps:List PS
 rsh:List Sh
 rs:List ResultVar
 outs:List AV
 cut:List (Nat × OD)
 nxt:List (Nat × OD)
 out:List (Nat × OD)
variable {R:Type}
abbrev FD.nres (d:FD R):Nat:=d.rs.length
abbrev FD.Fs (d:FD R):Type:=PFs R d.cut
def liveOf (l:List (Nat × OD)) (k:Nat):Live:=match gB_ l k with
 |some o=>o.live
 |none=>[]
def FD.ann (d:FD R):Ann:=⟨fun k=>match gB_ d.cut k with
 |some o=>some o.live
 |none=>none,liveOf d.nxt,liveOf d.out⟩
def FD.inj (d:FD R) (r:R):List AV:=Pat.encs d.rp (d.ofR r)
def FD.fin (d:FD R) (o:List AV):Option R:=match Pat.decs d.rp o with
 |some x=>some (d.toR x)
 |none=>none
def lfL:(l:List (Nat × OD))→PFs R l→LF R
 |[],_,_,_,_,_,_=>none
 |(k,o)::l,fs,key,κd,κe,v,b=>cond (Nat.beq key k) (piece o.vp o.bp v b fun x y=>o.ap (fs.1 κd κe) x y) (lfL l fs.2 key κd κe v b)
def AllQ (q:Nat→(o:OD)→(D R→(Nat→D R)→o.Cu (Option R))→Prop):(l:List (Nat × OD))→PFs R l→Prop
 |[],_=>True
 |(k,o)::l,fs=>q k o fs.1∧AllQ q l fs.2
theorem AllQ.nil {q:Nat→(o:OD)→(D R→(Nat→D R)→o.Cu (Option R))→Prop} {u:PFs R []}:AllQ q [] u:=trivial
theorem AllQ.cons {q:Nat→(o:OD)→(D R→(Nat→D R)→o.Cu (Option R))→Prop} {k:Nat} {o:OD} {l:List (Nat × OD)} {fs:PFs R ((k,o)::l)} (h:q k o fs.1) (hl:AllQ q l fs.2):AllQ q ((k,o)::l) fs:=⟨h,hl⟩
def hb_:Option jC_→Code
 |some (.loop a _)=>a
 |some (.tail a _)=>a
 |none=>.skip
def kz_:Option jC_→Nat
 |some (.loop _ k)=>k
 |some (.tail _ k)=>k
 |none=>0
def mp_:Option jC_→Bool
 |some (.loop _ _)=>true
 |_=>false
def mn_:Option jC_→Bool
 |some (.tail _ _)=>true
 |_=>false
theorem isLoop_eq {p:Option jC_} (h:mp_ p=true):p=some (.loop (hb_ p) (kz_ p)):=by
 match p,h with
 |some (.loop a k),_=>rfl
theorem isTail_eq {p:Option jC_} (h:mn_ p=true):p=some (.tail (hb_ p) (kz_ p)):=by
 match p,h with
 |some (.tail a k),_=>rfl
def iW_ (fn:Func):Code:=match fn.body with
 |some c=>c
 |none=>.skip
mutual
def Pat.sk:Pat→Sk
 |.sl m t=>.sl m t
 |.ag ps=>.ag (Pat.sks ps)
 |_=>.k
def Pat.sks:List Pat→List Sk
 |[]=>[]
 |p::ps=>Pat.sk p::Pat.sks ps
end
theorem Pat.encs_length:∀ (ps:List Pat) (x:Pat.Ts ps),(Pat.encs ps x).length=ps.length
 |[],_=>rfl
 |p::ps,x=>by simp only [Pat.encs,List.length_cons,Pat.encs_length ps x.2]
section
variable [ao_]
def FD.kr (d:FD R) (c:Cx):St→Option R:=retK c d.rsh d.rps d.rs d.outs d.fin
def FD.at (d:FD R) (B:Code) (key:Nat):Option jC_:=b6_ d.ann B 0 key
def FD.Round (d:FD R) (fs:d.Fs) (c:Cx) (B:Code) (key:Nat) (o:OD) (step:(Nat→D R)→o.Cu (Option R)→o.Cu (Option R)):Prop :=
 ∀ (κ:D R) (κe:Nat→D R) (x:Pat.Ts o.vp) (y:BPat.Ts o.bp),run c d.e d.ann (lfL d.cut fs) (d.kr c) (hb_ (d.at B key)) (kz_ (d.at B key)) (fun s=>kP_ d.e o.live s κ) (fun j s=>kP_ d.e (d.ann.out j) s (κe j)) (St.ofC o.live (Pat.encs o.vp x) (BPat.encs o.bp y)) =
   o.ap (step κe (o.k κ)) x y
def FD.Tail (d:FD R) (fs:d.Fs) (c:Cx) (B:Code) (key:Nat) (o:OD) (f:D R→(Nat→D R)→o.Cu (Option R)):Prop :=
 ∀ (κd:D R) (κe:Nat→D R) (x:Pat.Ts o.vp) (y:BPat.Ts o.bp),run c d.e d.ann (lfL d.cut fs) (d.kr c) (hb_ (d.at B key)) (kz_ (d.at B key)) (fun s=>kP_ d.e (d.ann.nxt key) s κd) (fun j s=>kP_ d.e (d.ann.out j) s (κe j)) (St.ofC o.live (Pat.encs o.vp x) (BPat.encs o.bp y)) =
   o.ap (f κd κe) x y
def FD.PieceOk (d:FD R) (fs:d.Fs) (c:Cx) (B:Code) (key:Nat) (o:OD) (f:D R→(Nat→D R)→o.Cu (Option R)):Prop :=
 ∀ (κd:D R) (κe:Nat→D R) (x:Pat.Ts o.vp) (y:BPat.Ts o.bp) (r:R),o.ap (f κd κe) x y=some r →
   ∃ q,b6_ d.ann B 0 key=some q∧pieceIs c d.e d.ann (lfL d.cut fs) (d.kr c) key o.live κd κe (Pat.encs o.vp x) (BPat.encs o.bp y) r q
theorem FD.rounds_eq {d:FD R} {fs:d.Fs} {c:Cx} {B:Code} {key:Nat} {o:OD} {step:(Nat→D R)→o.Cu (Option R)→o.Cu (Option R)} (h:d.Round fs c B key o step) (κe:Nat→D R) :
  ∀ (N:Nat) (x:Pat.Ts o.vp) (y:BPat.Ts o.bp),k9_ c d.e d.ann (lfL d.cut fs) (d.kr c) (hb_ (d.at B key)) (kz_ (d.at B key)) o.live κe N (Pat.encs o.vp x) (BPat.encs o.bp y)=o.ap (b4_ (o.lm fun _ _=>none) (step κe) N) x y
 |0,x,y=>(o.ap_lm (fun _ _=>(none:Option R)) x y).symm
 |N+1,x,y=>by
  show run c d.e d.ann (lfL d.cut fs) (d.kr c) (hb_ (d.at B key)) (kz_ (d.at B key)) (fun s=>kP_ d.e o.live s (k9_ c d.e d.ann (lfL d.cut fs) (d.kr c) (hb_ (d.at B key)) (kz_ (d.at B key)) o.live κe N)) (fun j s=>kP_ d.e (d.ann.out j) s (κe j)) (St.ofC o.live (Pat.encs o.vp x) (BPat.encs o.bp y))=o.ap (step κe (b4_ (o.lm fun _ _=>none) (step κe) N)) x y
  rw [h]
  congr 2
  unfold OD.k
  rw [←o.lm_ap (b4_ (o.lm fun _ _=>none) (step κe) N)]
  congr 1
  funext x y
  exact FD.rounds_eq h κe N x y
theorem FD.lp {d:FD R} {fs:d.Fs} {c:Cx} {B:Code} {key:Nat} {o:OD} {f:D R→(Nat→D R)→o.Cu (Option R)} {step:(Nat→D R)→o.Cu (Option R)→o.Cu (Option R)} (N:Nat) (hr:d.Round fs c B key o step) (h1:mp_ (d.at B key)=true)
  (hf:∀ κd κe,f κd κe=b4_ (o.lm fun _ _=>none) (step κe) N):d.PieceOk fs c B key o f:=by
 intro κd κe x y r h
 refine ⟨_,isLoop_eq h1,N,(FD.rounds_eq hr κe N x y).trans ?_⟩
 rw [←hf κd κe]
 exact h
theorem FD.tl {d:FD R} {fs:d.Fs} {c:Cx} {B:Code} {key:Nat} {o:OD} {f:D R→(Nat→D R)→o.Cu (Option R)} (hr:d.Tail fs c B key o f) (h1:mn_ (d.at B key)=true):d.PieceOk fs c B key o f:=by
 intro κd κe x y r h
 exact ⟨_,isTail_eq h1,(hr κd κe x y).trans h⟩
theorem ng_:∀ {l:List (Nat × OD)} {fs:PFs R l} {q:Nat→(o:OD)→(D R→(Nat→D R)→o.Cu (Option R))→Prop} {key:Nat} {κd:D R} {κe:Nat→D R} {v:List AV} {b:List (Option Blk)} {r:R},AllQ q l fs→lfL l fs key κd κe v b=some r →
  ∃ o f x y,gB_ l key=some o∧q key o f∧v=Pat.encs o.vp x∧b=BPat.encs o.bp y∧o.ap (f κd κe) x y=some r
 |[],_,_,_,_,_,_,_,_,_,h=>by cases h
 |(k,o)::l,fs,q,key,κd,κe,v,b,r,ha,h=>by
  simp only [lfL] at h
  cases hk:Nat.beq key k with
  |true=>
   rw [hk] at h
   simp only [cond_true] at h
   obtain ⟨x,y,h1,h2,h3⟩:=piece_ok h
   have:=ci_.1 hk
   subst this
   exact ⟨o,_,x,y,by simp only [gB_,hk,cond_true],ha.1,h1,h2,h3⟩
  |false=>
   rw [hk] at h
   simp only [cond_false] at h
   obtain ⟨o',f,x,y,h0,h1⟩:=ng_ ha.2 h
   exact ⟨o',f,x,y,by simp only [gB_,hk,cond_false];exact h0,h1⟩
theorem FD.cuts {d:FD R} {fs:d.Fs} {c:Cx} {B:Code} (h:AllQ (fun key o f=>d.PieceOk fs c B key o f) d.cut fs):Cuts c d.e d.ann (lfL d.cut fs) (d.kr c) B:=by
 intro key κd κe v b r hl
 obtain ⟨o,f,x,y,h0,hp,rfl,rfl,h3⟩:=ng_ h hl
 obtain ⟨q,h4,h5⟩:=hp κd κe x y r h3
 exact ⟨o.live,q,by simp only [FD.ann,h0],h4,h5⟩
theorem FD.fin_ok {d:FD R} (hi:∀ x,d.ofR (d.toR x)=x) (o:List AV) (r:R) (h:d.fin o=some r):o=d.inj r:=by
 unfold FD.fin at h
 cases h1:Pat.decs d.rp o with
 |none=>rw [h1] at h;cases h
 |some x=>
  rw [h1] at h
  simp only [Option.some.injEq] at h
  subst h
  rw [Pat.decs_ok _ _ _ h1,FD.inj,hi]
def FD.whole (d:FD R) (fs:d.Fs) (c:Cx) (B:Code) (x:Pat.Ts d.ps):Option R :=
 nx_ d.e (Pat.encs d.ps x) fun v b=>match d0_ d.sig v with
  |some o=>cond (AV.allRoots o d.outs) (run c d.e d.ann (lfL d.cut fs) (d.kr c) B 0 (d.kr c) (fun _ _=>none) (St.ofC (nX_ d.ps.length) v b)) none
  |none=>none
def FD.Ok (d:FD R) (E:Env) (F:Pat.Ts d.ps→Option R):Prop :=
 ∀ x r,F x=some r→en_ E d.fid (Pat.encs d.ps x) (rvOf d.nres (d.inj r)) ((d.inj r).drop d.nres) d.sig
def FD.K (d:FD R) (F:Pat.Ts d.ps→Option R) {ω:Type} (avs:List AV) (κ:AV→List AV→Option ω):Option ω :=
 mkK (Pat.sks d.ps) d.ps F (fun r=>rvOf d.nres (d.inj r)) (fun r=>(d.inj r).drop d.nres) avs κ
theorem FD.kpar {d:FD R} {F:Pat.Ts d.ps→Option R} {ω:Type} {avs:List AV} {κ:AV→List AV→Option ω} {q:ω} (h:d.K F avs κ=some q) :
  ∃ r o,κ r o=some q∧∀ (ω':Type) (κ':AV→List AV→Option ω'),d.K F avs κ'=κ' r o:=mkK_par h
theorem FD.kok [aq_] {E:Env} {d:FD R} {F:Pat.Ts d.ps→Option R} {sg:Option (List PS)} (hfn:FnOk E d.fid) (hsig:sg=some d.sig) (ho:d.Ok E F) {ω:Type} {avs:List AV} {κ:AV→List AV→Option ω} {q:ω} (h:d.K F avs κ=some q) :
  FnOk E d.fid∧∃ ps' r o,sg=some ps'∧κ r o=some q∧en_ E d.fid avs r o ps':=mkK_ok hfn hsig ho h
def notNG (fn:Func):Bool:=!(decide (fn.name = "runtime.NumGoroutine"))
theorem FD.kf [aq_] {E:Env} {d:FD R} {F:Pat.Ts d.ps→Option R} {sg:Option (List PS)} {fn:Func} (hfn:E.P.funcs[d.fid]?=some fn) (h1:notNG fn=true) (h2:fn.body=some (iW_ fn)) (hsig:sg=some d.sig) (ho:d.Ok E F) (ω:Type) (avs:List AV) (κ:AV→List AV→Option ω) (q:ω) (h:d.K F avs κ=some q) :
  FnOk E d.fid∧∃ ps' r o,sg=some ps'∧κ r o=some q∧en_ E d.fid avs r o ps' :=
 FD.kok ⟨fn,_,hfn,fun e=>by simp [notNG,e] at h1,h2⟩ hsig ho h
theorem FD.kp {d:FD R} {F:Pat.Ts d.ps→Option R} (ω:Type) (avs:List AV) (κ:AV→List AV→Option ω) (q:ω) (h:d.K F avs κ=some q) :
  ∃ r o,κ r o=some q∧∀ (ω':Type) (κ':AV→List AV→Option ω'),d.K F avs κ'=κ' r o:=FD.kpar h
theorem FD.ok [aq_] {E:Env} {d:FD R} {fs:d.Fs} {c:Cx} {fn:Func} {F:Pat.Ts d.ps→Option R} (hm:E.P.follows .mixedOrders=true) (hfn:E.P.funcs[d.fid]?=some fn) (hbody:fn.body=some (iW_ fn)) (hres:fn.results=List.toArray d.rs)
  (hnt:fn.ntmps=c.nt) (he:Nat.blt 0 d.e=true) (hi:∀ x,d.ofR (d.toR x)=x) (hn:Nat.ble d.ps.length c.nt=true) (top:∀ x,d.whole fs c (iW_ fn) x=F x)
  (cuts:AllQ (fun key o f=>d.PieceOk fs c (iW_ fn) key o f) d.cut fs) (hc:CxOk E c) (hK:KPar c):d.Ok E F:=by
 intro x r h
 refine fn_sound (avs:=Pat.encs d.ps x) hc hK hm hfn hbody hres hnt (f1_.1 he) (FD.fin_ok hi) (by rw [Pat.encs_length];exact hn) ?_ (FD.cuts cuts)
 rw [Pat.encs_length]
 exact (top x).trans h
end
end Go.Pi
end
section
namespace Go.Pi
def ItoaM (P:Program) (f:FuncId):Prop:=∀ (n:Int),-9223372036854775808≤n→n≤9223372036854775807→∀ w:World,Lib.TabIs P w "internal/strconv.uint64pow10" .u64 Lib.pow10Tab →
 Calls P f #[.int .i64 n] w fun e w'=>e = .returned (.string ⟨(Lib.itoa n).toArray⟩)∧∃ k os,w'=Go.Sort.grow (w.drewN k) os
variable [ao_]
open ao_
variable {E:Env}
omit [ao_] in
theorem glob_tab {w:World} {F:Nat→Prop} (h:Glob E w F) {g:Nat} {name:String} {k:IntKind} {zs:List Int} (hm:(g,fun cs=>cs=(zs.map fun z=>Value.int k z).toArray) ∈ E.globs) (hg:E.P.globalNamed name=some g):Lib.TabIs E.P w name k zs:=by
 obtain ⟨⟨cs,T,fr,h1,hc⟩,_⟩:=h _ hm
 have hc:cs=(zs.map fun z=>Value.int k z).toArray:=hc
 subst hc
 unfold Lib.TabIs World.var?
 rw [hg]
 simp only [Option.bind_some,h1]
omit [ao_] in
theorem tab_glob {P:Program} {w:World} {g:Nat} {name:String} {k:IntKind} {zs:List Int} (h:Lib.TabIs P w name k zs) (hg:P.globalNamed name=some g):∃ T fr,w.heap[g]?=some (.cells (zs.map fun z=>Value.int k z).toArray T fr):=by
 unfold Lib.TabIs World.var? at h
 rw [hg] at h
 simp only [Option.bind_some] at h
 split at h
 · rename_i cs T fr hh
   cases h
   exact ⟨T,fr,hh⟩
 · cases h
theorem nItoa_ok [aq_] {f:FuncId} (h:ItoaM E.P f) {g:Nat} (hm:(g,fun cs=>cs=(Lib.pow10Tab.map fun z=>Value.int .u64 z).toArray) ∈ E.globs) (hg:E.P.globalNamed "internal/strconv.uint64pow10" = some g)
  {n:Int} {r:Bs} (hr:nItoa n=some r):en_ E f [.i .i64 n] (.s r) [] [.v]:=by
 unfold nItoa at hr
 have hc : -9223372036854775808≤n∧n≤9223372036854775807:=Classical.byContradiction fun hc=>by
  have:(decide (-9223372036854775808≤n)&&decide (n≤9223372036854775807))=false:=by
   rw [Bool.eq_false_iff];intro h;simp only [Bool.and_eq_true,decide_eq_true_eq] at h;exact hc h
  rw [this] at hr;cases hr
 rw [decide_eq_true hc.1,decide_eq_true hc.2] at hr
 simp only [Bool.and_self,cond_true,Option.some.injEq] at hr
 subst hr
 intro w F Vs φ hrl h1 hlow hgl
 obtain ⟨v,vs,φ₁,φ₂,rfl,k1,k2,e⟩:=RL.uncons hrl
 obtain ⟨rfl,e2⟩:=RL.nil_inv k2
 have e1:v = .int .i64 n:=by
  cases k1 with
  |scal _ _ _ _ _ h1 h2=>exact h1
 subst e1
 refine (h n hc.1 hc.2 w (glob_tab hgl hm hg)).mono ?_
 rintro e' w' ⟨rfl,k,os,rfl⟩
 refine ⟨_,fun _=>0,rfl,.scal _ _ _ _ _ rfl (.nil _ fun _=>rfl),fun _=>Nat.zero_le _,fun b hb=>absurd rfl hb,rfl,rfl,rfl,?_,fun b hb _ => ?_⟩
 · simp [Go.Sort.grow,World.drewN]
 · have hb:b<(w.drewN k).heap.size:=hb
   show ((w.drewN k).heap++os)[b]?=_
   rw [Array.getElem?_append_left hb];rfl
end Go.Pi
end
section
namespace Go.Pi
open Go.Proofs
instance coding:ao_ where
 enc:=fun m t=>match t with
  |.u8=>fun (x:Int)=>[AV.i .u8 x]
  |.int=>fun (x:Int)=>[AV.i .i64 x]
  |.str=>fun (x:Bs)=>[AV.s x]
  |.iRow=>fun (x:TRow)=>[AV.i .i64 x.id_,AV.sl m .int x.cells]
  |.s_iRow=>fun (x:List TRow)=>[AV.sl m .iRow x]
  |.iCond=>fun (x:aY_)=>[AV.i .i64 x.col,AV.i .i64 x.op,AV.i .i64 x.v]
  |.iMut=>fun (x:TMut)=>[AV.i .i64 x.kind,AV.i .i64 x.table,AV.i .i64 x.row.id_,AV.sl m .int x.row.cells]
  |.iKid=>fun (x:TKid)=>[AV.i .i64 x.id_,AV.i .i64 x.n_]
  |.iChange=>fun (x:aI_)=>[AV.i .i64 x.table,AV.b x.had,AV.b x.has,AV.i .i64 x.old.id_,AV.sl m .int x.old.cells,AV.i .i64 x.new.id_,AV.sl m .int x.new.cells]
  |.iJson=>fun (x:ax_)=>[AV.i .i64 x.kind,AV.i .i64 x.n_,AV.s x.s,AV.sl m .iJson x.list,AV.sl m .str x.names]
 dec:=fun t=>match t with
  |.u8=>fun l=>uc l fun a1 l2=>gd_ .u8 a1 fun x3=>un l2 (some (x3:Int))
  |.int=>fun l=>uc l fun a1 l2=>gd_ .i64 a1 fun x3=>un l2 (some (x3:Int))
  |.str=>fun l=>uc l fun a1 l2=>getS a1 fun x3=>un l2 (some (x3:Bs))
  |.iRow=>fun l=>uc l fun a1 l2=>gd_ .i64 a1 fun x3=>uc l2 fun a4 l5=>eH_ .int a4 fun x6=>un l5 (some ((TRow.mk x3 x6):TRow))
  |.s_iRow=>fun l=>uc l fun a1 l2=>eH_ .iRow a1 fun x3=>un l2 (some (x3:List TRow))
  |.iCond=>fun l=>uc l fun a1 l2=>gd_ .i64 a1 fun x3=>uc l2 fun a4 l5=>gd_ .i64 a4 fun x6=>uc l5 fun a7 l8=>gd_ .i64 a7 fun x9=>un l8 (some ((aY_.mk x3 x6 x9):aY_))
  |.iMut=>fun l=>uc l fun a1 l2=>gd_ .i64 a1 fun x3=>uc l2 fun a4 l5=>gd_ .i64 a4 fun x6=>uc l5 fun a7 l8=>gd_ .i64 a7 fun x9=>uc l8 fun a10 l11=>eH_ .int a10 fun x12=>un l11 (some ((TMut.mk x3 x6 (TRow.mk x9 x12)):TMut))
  |.iKid=>fun l=>uc l fun a1 l2=>gd_ .i64 a1 fun x3=>uc l2 fun a4 l5=>gd_ .i64 a4 fun x6=>un l5 (some ((TKid.mk x3 x6):TKid))
  |.iChange=>fun l=>uc l fun a1 l2=>gd_ .i64 a1 fun x3=>uc l2 fun a4 l5=>getB a4 fun x6=>uc l5 fun a7 l8=>getB a7 fun x9=>uc l8 fun a10 l11=>gd_ .i64 a10 fun x12=>uc l11 fun a13 l14=>eH_ .int a13 fun x15=>uc l14 fun a17 l18=>gd_ .i64 a17 fun x19=>uc l18 fun a20 l21=>eH_ .int a20 fun x22=>un l21 (some ((aI_.mk x3 x6 x9 (TRow.mk x12 x15) (TRow.mk x19 x22)):aI_))
  |.iJson=>fun l=>uc l fun a1 l2=>gd_ .i64 a1 fun x3=>uc l2 fun a4 l5=>gd_ .i64 a4 fun x6=>uc l5 fun a7 l8=>getS a7 fun x9=>uc l8 fun a10 l11=>eH_ .iJson a10 fun x12=>uc l11 fun a14 l15=>eH_ .str a14 fun x16=>un l15 (some ((ax_.mk x3 x6 x9 x12 x16):ax_))
instance codingOk:aq_ where
 len:=by intro m t x;cases t<;>rfl
 pos:=by intro t;cases t<;>decide
 view:=by intro m t x;cases t<;>rfl
 flat:=by intro m m' t x h;cases t<;>first|rfl|cases h
 cell:=by
  intro m t x a ha
  refine coded_of ?_ a ha
  cases t<;>cases m<;>rfl
 u8:=by intro m n;rfl
 dec:=by
  intro m t l y h
  cases t with
  |u8=>
   replace h:(uc l fun a1 l2=>gd_ .u8 a1 fun x3=>un l2 (some (x3:Int)))=some y:=h
   replace h:=ec_ h;obtain ⟨a1,l2,rfl,h⟩:=h
   replace h:=dO_ h;obtain ⟨x3,rfl,h⟩:=h
   replace h:=hR_ h;obtain ⟨rfl,h⟩:=h
   cases h
   exact ⟨rfl,trivial⟩
  |int=>
   replace h:(uc l fun a1 l2=>gd_ .i64 a1 fun x3=>un l2 (some (x3:Int)))=some y:=h
   replace h:=ec_ h;obtain ⟨a1,l2,rfl,h⟩:=h
   replace h:=dO_ h;obtain ⟨x3,rfl,h⟩:=h
   replace h:=hR_ h;obtain ⟨rfl,h⟩:=h
   cases h
   exact ⟨rfl,trivial⟩
  |str=>
   replace h:(uc l fun a1 l2=>getS a1 fun x3=>un l2 (some (x3:Bs)))=some y:=h
   replace h:=ec_ h;obtain ⟨a1,l2,rfl,h⟩:=h
   replace h:=mx_ h;obtain ⟨x3,rfl,h⟩:=h
   replace h:=hR_ h;obtain ⟨rfl,h⟩:=h
   cases h
   exact ⟨rfl,trivial⟩
  |iRow=>
   replace h:(uc l fun a1 l2=>gd_ .i64 a1 fun x3=>uc l2 fun a4 l5=>eH_ .int a4 fun x6=>un l5 (some ((TRow.mk x3 x6):TRow)))=some y:=h
   replace h:=ec_ h;obtain ⟨a1,l2,rfl,h⟩:=h
   replace h:=dO_ h;obtain ⟨x3,rfl,h⟩:=h
   replace h:=ec_ h;obtain ⟨a4,l5,rfl,h⟩:=h
   replace h:=eU_ h;obtain ⟨x6,h,z7⟩:=h
   replace h:=hR_ h;obtain ⟨rfl,h⟩:=h
   cases h
   exact ⟨rfl,z7 m,trivial⟩
  |s_iRow=>
   replace h:(uc l fun a1 l2=>eH_ .iRow a1 fun x3=>un l2 (some (x3:List TRow)))=some y:=h
   replace h:=ec_ h;obtain ⟨a1,l2,rfl,h⟩:=h
   replace h:=eU_ h;obtain ⟨x3,h,z4⟩:=h
   replace h:=hR_ h;obtain ⟨rfl,h⟩:=h
   cases h
   exact ⟨z4 m,trivial⟩
  |iCond=>
   replace h:(uc l fun a1 l2=>gd_ .i64 a1 fun x3=>uc l2 fun a4 l5=>gd_ .i64 a4 fun x6=>uc l5 fun a7 l8=>gd_ .i64 a7 fun x9=>un l8 (some ((aY_.mk x3 x6 x9):aY_)))=some y:=h
   replace h:=ec_ h;obtain ⟨a1,l2,rfl,h⟩:=h
   replace h:=dO_ h;obtain ⟨x3,rfl,h⟩:=h
   replace h:=ec_ h;obtain ⟨a4,l5,rfl,h⟩:=h
   replace h:=dO_ h;obtain ⟨x6,rfl,h⟩:=h
   replace h:=ec_ h;obtain ⟨a7,l8,rfl,h⟩:=h
   replace h:=dO_ h;obtain ⟨x9,rfl,h⟩:=h
   replace h:=hR_ h;obtain ⟨rfl,h⟩:=h
   cases h
   exact ⟨rfl,rfl,rfl,trivial⟩
  |iMut=>
   replace h:(uc l fun a1 l2=>gd_ .i64 a1 fun x3=>uc l2 fun a4 l5=>gd_ .i64 a4 fun x6=>uc l5 fun a7 l8=>gd_ .i64 a7 fun x9=>uc l8 fun a10 l11=>eH_ .int a10 fun x12=>un l11 (some ((TMut.mk x3 x6 (TRow.mk x9 x12)):TMut)))=some y:=h
   replace h:=ec_ h;obtain ⟨a1,l2,rfl,h⟩:=h
   replace h:=dO_ h;obtain ⟨x3,rfl,h⟩:=h
   replace h:=ec_ h;obtain ⟨a4,l5,rfl,h⟩:=h
   replace h:=dO_ h;obtain ⟨x6,rfl,h⟩:=h
   replace h:=ec_ h;obtain ⟨a7,l8,rfl,h⟩:=h
   replace h:=dO_ h;obtain ⟨x9,rfl,h⟩:=h
   replace h:=ec_ h;obtain ⟨a10,l11,rfl,h⟩:=h
   replace h:=eU_ h;obtain ⟨x12,h,z13⟩:=h
   replace h:=hR_ h;obtain ⟨rfl,h⟩:=h
   cases h
   exact ⟨rfl,rfl,rfl,z13 m,trivial⟩
  |iKid=>
   replace h:(uc l fun a1 l2=>gd_ .i64 a1 fun x3=>uc l2 fun a4 l5=>gd_ .i64 a4 fun x6=>un l5 (some ((TKid.mk x3 x6):TKid)))=some y:=h
   replace h:=ec_ h;obtain ⟨a1,l2,rfl,h⟩:=h
   replace h:=dO_ h;obtain ⟨x3,rfl,h⟩:=h
   replace h:=ec_ h;obtain ⟨a4,l5,rfl,h⟩:=h
   replace h:=dO_ h;obtain ⟨x6,rfl,h⟩:=h
   replace h:=hR_ h;obtain ⟨rfl,h⟩:=h
   cases h
   exact ⟨rfl,rfl,trivial⟩
  |iChange=>
   replace h:(uc l fun a1 l2=>gd_ .i64 a1 fun x3=>uc l2 fun a4 l5=>getB a4 fun x6=>uc l5 fun a7 l8=>getB a7 fun x9=>uc l8 fun a10 l11=>gd_ .i64 a10 fun x12=>uc l11 fun a13 l14=>eH_ .int a13 fun x15=>uc l14 fun a17 l18=>gd_ .i64 a17 fun x19=>uc l18 fun a20 l21=>eH_ .int a20 fun x22=>un l21 (some ((aI_.mk x3 x6 x9 (TRow.mk x12 x15) (TRow.mk x19 x22)):aI_)))=some y:=h
   replace h:=ec_ h;obtain ⟨a1,l2,rfl,h⟩:=h
   replace h:=dO_ h;obtain ⟨x3,rfl,h⟩:=h
   replace h:=ec_ h;obtain ⟨a4,l5,rfl,h⟩:=h
   replace h:=my_ h;obtain ⟨x6,rfl,h⟩:=h
   replace h:=ec_ h;obtain ⟨a7,l8,rfl,h⟩:=h
   replace h:=my_ h;obtain ⟨x9,rfl,h⟩:=h
   replace h:=ec_ h;obtain ⟨a10,l11,rfl,h⟩:=h
   replace h:=dO_ h;obtain ⟨x12,rfl,h⟩:=h
   replace h:=ec_ h;obtain ⟨a13,l14,rfl,h⟩:=h
   replace h:=eU_ h;obtain ⟨x15,h,z16⟩:=h
   replace h:=ec_ h;obtain ⟨a17,l18,rfl,h⟩:=h
   replace h:=dO_ h;obtain ⟨x19,rfl,h⟩:=h
   replace h:=ec_ h;obtain ⟨a20,l21,rfl,h⟩:=h
   replace h:=eU_ h;obtain ⟨x22,h,z23⟩:=h
   replace h:=hR_ h;obtain ⟨rfl,h⟩:=h
   cases h
   exact ⟨rfl,rfl,rfl,rfl,z16 m,rfl,z23 m,trivial⟩
  |iJson=>
   replace h:(uc l fun a1 l2=>gd_ .i64 a1 fun x3=>uc l2 fun a4 l5=>gd_ .i64 a4 fun x6=>uc l5 fun a7 l8=>getS a7 fun x9=>uc l8 fun a10 l11=>eH_ .iJson a10 fun x12=>uc l11 fun a14 l15=>eH_ .str a14 fun x16=>un l15 (some ((ax_.mk x3 x6 x9 x12 x16):ax_)))=some y:=h
   replace h:=ec_ h;obtain ⟨a1,l2,rfl,h⟩:=h
   replace h:=dO_ h;obtain ⟨x3,rfl,h⟩:=h
   replace h:=ec_ h;obtain ⟨a4,l5,rfl,h⟩:=h
   replace h:=dO_ h;obtain ⟨x6,rfl,h⟩:=h
   replace h:=ec_ h;obtain ⟨a7,l8,rfl,h⟩:=h
   replace h:=mx_ h;obtain ⟨x9,rfl,h⟩:=h
   replace h:=ec_ h;obtain ⟨a10,l11,rfl,h⟩:=h
   replace h:=eU_ h;obtain ⟨x12,h,z13⟩:=h
   replace h:=ec_ h;obtain ⟨a14,l15,rfl,h⟩:=h
   replace h:=eU_ h;obtain ⟨x16,h,z17⟩:=h
   replace h:=hR_ h;obtain ⟨rfl,h⟩:=h
   cases h
   exact ⟨rfl,rfl,rfl,z13 m,z17 m,trivial⟩
def eid:TC→TypeId
 |.u8=>5
 |.int=>3
 |.str=>9
 |.iRow=>65
 |.s_iRow=>36
 |.iCond=>113
 |.iMut=>67
 |.iKid=>87
 |.iChange=>70
 |.iJson=>52
noncomputable def E:Env:=⟨Tryz.prog,eid,[(0,fun cs=>cs=(Lib.pow10Tab.map fun z=>Value.int .u64 z).toArray)]⟩
def ttL:List (Nat × TD):=[
 (3,⟨1,false,[.i .i64 0],[],none,some .i64,false,false,[],false⟩),
 (4,⟨1,false,[.b false],[],none,none,false,true,[],false⟩),
 (5,⟨1,false,[.i .u8 0],[],none,some .u8,false,false,[],false⟩),
 (9,⟨1,false,[.s []],[],none,none,true,false,[],false⟩),
 (22,⟨1,false,[.nils],[],some .u8,none,false,false,[],false⟩),
 (24,⟨1,false,[.nils],[],some .int,none,false,false,[],false⟩),
 (26,⟨1,true,[.nils],[(0,1)],none,none,false,false,[],false⟩),
 (27,⟨1,false,[.nils],[],some .s_iRow,none,false,false,[],false⟩),
 (29,⟨3,true,[.nils,.i .i64 0,.nils],[(0,1),(1,1),(2,1)],none,none,false,false,[],false⟩),
 (30,⟨1,false,[.nils],[],some .iCond,none,false,false,[],false⟩),
 (32,⟨9,true,[.i .i64 0,.nils,.i .i64 0,.b false,.i .i64 0,.nils,.b false,.i .i64 0,.i .i64 0],[(0,1),(1,1),(2,1),(3,1),(4,1),(5,1),(6,1),(7,1),(8,1)],none,none,false,false,[],false⟩),
 (33,⟨1,false,[.nils],[],some .iMut,none,false,false,[],false⟩),
 (36,⟨1,false,[.nils],[],some .iRow,none,false,false,[],false⟩),
 (37,⟨1,false,[.nils],[],some .iKid,none,false,false,[],false⟩),
 (39,⟨11,true,[.i .i64 0,.nils,.i .i64 0,.b false,.i .i64 0,.nils,.b false,.i .i64 0,.i .i64 0,.nils,.nils],[(0,9),(9,1),(10,1)],none,none,false,false,[],false⟩),
 (42,⟨1,false,[.nils],[],some .iChange,none,false,false,[],false⟩),
 (49,⟨1,false,[.nils],[],some .iJson,none,false,false,[],false⟩),
 (50,⟨1,false,[.nils],[],some .str,none,false,false,[],false⟩),
 (52,⟨5,true,[.i .i64 0,.i .i64 0,.s [],.nils,.nils],[(0,1),(1,1),(2,1),(3,1),(4,1)],none,none,false,false,[],false⟩),
 (59,⟨1,false,[.nilp],[],none,none,false,false,[],false⟩),
 (65,⟨2,true,[.i .i64 0,.nils],[(0,1),(1,1)],none,none,false,false,[],false⟩),
 (67,⟨4,true,[.i .i64 0,.i .i64 0,.i .i64 0,.nils],[(0,1),(1,1),(2,2)],none,none,false,false,[],false⟩),
 (70,⟨7,true,[.i .i64 0,.b false,.b false,.i .i64 0,.nils,.i .i64 0,.nils],[(0,1),(1,1),(2,1),(3,2),(5,2)],none,none,false,false,[],false⟩),
 (87,⟨2,true,[.i .i64 0,.i .i64 0],[(0,1),(1,1)],none,none,false,false,[.i,.i],false⟩),
 (106,⟨3,true,[.nils,.i .i64 0,.i .i64 0],[(0,1),(1,1),(2,1)],none,none,false,false,[],false⟩),
 (113,⟨3,true,[.i .i64 0,.i .i64 0,.i .i64 0],[(0,1),(1,1),(2,1)],none,none,false,false,[.i,.i,.i],false⟩),
 (158,⟨1,false,[.i .u64 0],[],none,some .u64,false,false,[],false⟩)]
def tt (T:Nat):Option TD:=gB_ ttL T
theorem ttOk (T:TypeId):TTok E T (tt T):=tt_ok (E:=E) (by kernel_rfl) T
theorem tcOk (t:TC):TCok E t:=by
 cases t with
 |u8=>exact gp_ (zc:=[.i .u8 0]) (by kernel_rfl) (fun m=>⟨rfl,trivial⟩)
 |int=>exact gp_ (zc:=[.i .i64 0]) (by kernel_rfl) (fun m=>⟨rfl,trivial⟩)
 |str=>exact gp_ (zc:=[.s []]) (by kernel_rfl) (fun m=>⟨rfl,trivial⟩)
 |iRow=>exact gp_ (zc:=[.i .i64 0,.nils]) (by kernel_rfl) (fun m=>⟨rfl,⟨_,rfl⟩,trivial⟩)
 |s_iRow=>exact gp_ (zc:=[.nils]) (by kernel_rfl) (fun m=>⟨⟨_,rfl⟩,trivial⟩)
 |iCond=>exact gp_ (zc:=[.i .i64 0,.i .i64 0,.i .i64 0]) (by kernel_rfl) (fun m=>⟨rfl,rfl,rfl,trivial⟩)
 |iMut=>exact gp_ (zc:=[.i .i64 0,.i .i64 0,.i .i64 0,.nils]) (by kernel_rfl) (fun m=>⟨rfl,rfl,rfl,⟨_,rfl⟩,trivial⟩)
 |iKid=>exact gp_ (zc:=[.i .i64 0,.i .i64 0]) (by kernel_rfl) (fun m=>⟨rfl,rfl,trivial⟩)
 |iChange=>exact gp_ (zc:=[.i .i64 0,.b false,.b false,.i .i64 0,.nils,.i .i64 0,.nils]) (by kernel_rfl) (fun m=>⟨rfl,rfl,rfl,rfl,⟨_,rfl⟩,rfl,⟨_,rfl⟩,trivial⟩)
 |iJson=>exact gp_ (zc:=[.i .i64 0,.i .i64 0,.s [],.nils,.nils]) (by kernel_rfl) (fun m=>⟨rfl,rfl,rfl,⟨_,rfl⟩,⟨_,rfl⟩,trivial⟩)
theorem u8Ok:E.P.underlying (E.eid .u8)=some (.int .u8):=by kernel_rfl
theorem mixedOk:E.P.follows .mixedOrders=true:=by kernel_rfl
end Go.Pi
end
section
namespace Go.Pi
variable {R:Type}
def un1 {A R:Type} (f:Nat→A→Option R) (n:Nat) (x:A × Unit):Option R:=f n x.1
def un2 {A B R:Type} (f:Nat→A→B→Option R) (n:Nat) (x:A × B × Unit):Option R:=f n x.1 x.2.1
def un3 {A B C R:Type} (f:Nat→A→B→C→Option R) (n:Nat) (x:A × B × C × Unit):Option R:=f n x.1 x.2.1 x.2.2.1
def un4 {A B C D R:Type} (f:Nat→A→B→C→D→Option R) (n:Nat) (x:A × B × C × D × Unit):Option R:=f n x.1 x.2.1 x.2.2.1 x.2.2.2.1
mutual
def Pat.ps:Pat→PS
 |.sl .v _=>.v
 |.sl _ _=>.o
 |.ag l=>.ag (Pat.pss l)
 |.bx l=>.ptr (Pat.pss l)
 |_=>.v
def Pat.pss:List Pat→List PS
 |[]=>[]
 |p::l=>Pat.ps p::Pat.pss l
end
mutual
def Pat.sh:Pat→Sh
 |.sl .v t=>.view t
 |.sl m t=>.own m t
 |.ag l=>.ag (Pat.shs l)
 |.bx l=>.box (Pat.shs l)
 |_=>.k
def Pat.shs:List Pat→List Sh
 |[]=>[]
 |p::l=>Pat.sh p::Pat.shs l
end
structure RD where
 R:Type
 rp:List Pat
 toR:Pat.Ts rp→R
 ofR:R→Pat.Ts rp
structure FE where
 R:Type
 d:FD R
 sel:List AV→Bool
 F:Nat→Pat.Ts d.ps→Option R
def mkE (r:RD) (fid nt e:Nat) (ps:List Pat) (rs:List ResultVar) (outs:List AV) (cut out:List (Nat × OD)) (F:Nat→Pat.Ts ps→Option r.R):FE :=
 ⟨r.R,⟨fid,nt,e,ps,r.rp,r.toR,r.ofR,Pat.pss ps,Pat.pss r.rp,Pat.shs r.rp,rs,outs,cut,[],out⟩,fun _=>true,F⟩
def FE.K (e:FE) (n:Nat) {ω:Type} (avs:List AV) (κ:AV→List AV→Option ω):Option ω:=e.d.K (e.F n) avs κ
def KE (n:Nat):List FE→(ω:Type)→Nat→List AV→(AV→List AV→Option ω)→Option ω
 |[],_,_,_,_=>none
 |e::l,ω,f,avs,κ=>cond (Nat.beq f e.d.fid) (cond (e.sel avs) (e.d.K (e.F n) avs κ) (KE n l ω f avs κ)) (KE n l ω f avs κ)
def sigE:List FE→Nat→Option (List PS)
 |[],_=>none
 |e::l,f=>cond (Nat.beq f e.d.fid) (some e.d.sig) (sigE l f)
inductive mO_ (R:Type) (o:OD) where
 |lp (step:(Nat→D R)→o.Cu (Option R)→o.Cu (Option R))
 |tl (f:D R→(Nat→D R)→o.Cu (Option R))
def mO_.f {o:OD} (N:Nat):mO_ R o→D R→(Nat→D R)→o.Cu (Option R)
 |.lp s,_,κe=>b4_ (o.lm fun _ _=>none) (s κe) N
 |.tl f,κd,κe=>f κd κe
def Stps (R:Type):List (Nat × OD)→Type
 |[]=>Unit
 |(_,o)::l=>mO_ R o × Stps R l
def fsOf (N:Nat):(l:List (Nat × OD))→Stps R l→PFs R l
 |[],_=>()
 |(_,_)::l,s=>(s.1.f N,fsOf N l s.2)
def PEq (R:Type):List (Nat × OD)→Type
 |[]=>Unit
 |(_,o)::l=>(Bool × (D R→(Nat→D R)→Pat.Ts o.vp→BPat.Ts o.bp→Option R)) × PEq R l
def mO_.rhs {o:OD}:mO_ R o→Bool × (D R→(Nat→D R)→Pat.Ts o.vp→BPat.Ts o.bp→Option R)
 |.lp s=>(true,fun κ κe x y=>o.ap (s κe (o.k κ)) x y)
 |.tl f=>(true,fun κ κe x y=>o.ap (f κ κe) x y)
def rhsL:(l:List (Nat × OD))→Stps R l→PEq R l
 |[],_=>()
 |(_,_)::l,s=>(s.1.rhs,rhsL l s.2)
section
variable [ao_]
def mO_.lhs {o:OD} (d:FD R) (fs:d.Fs) (c:Cx) (B:Code) (key:Nat):mO_ R o→Bool × (D R→(Nat→D R)→Pat.Ts o.vp→BPat.Ts o.bp→Option R)
 |.lp _=>(mp_ (d.at B key),fun κ κe x y=>run c d.e d.ann (lfL d.cut fs) (d.kr c) (hb_ (d.at B key)) (kz_ (d.at B key)) (fun s=>kP_ d.e o.live s κ) (fun j s=>kP_ d.e (d.ann.out j) s (κe j)) (St.ofC o.live (Pat.encs o.vp x) (BPat.encs o.bp y)))
 |.tl _=>(mn_ (d.at B key),fun κ κe x y=>run c d.e d.ann (lfL d.cut fs) (d.kr c) (hb_ (d.at B key)) (kz_ (d.at B key)) (fun s=>kP_ d.e (d.ann.nxt key) s κ) (fun j s=>kP_ d.e (d.ann.out j) s (κe j)) (St.ofC o.live (Pat.encs o.vp x) (BPat.encs o.bp y)))
def lhsL (d:FD R) (fs:d.Fs) (c:Cx) (B:Code):(l:List (Nat × OD))→Stps R l→PEq R l
 |[],_=>()
 |(k,_)::l,s=>(s.1.lhs d fs c B k,lhsL d fs c B l s.2)
theorem iu_ {d:FD R} {fs:d.Fs} {c:Cx} {B:Code} {N:Nat}:∀ {l:List (Nat × OD)} {s:Stps R l},lhsL d fs c B l s=rhsL l s→AllQ (fun key o f=>d.PieceOk fs c B key o f) l (fsOf N l s)
 |[],_,_=>trivial
 |(k,o)::l,(.lp st,s),h=>by
  have h1:=(Prod.mk.inj h).1
  have h2:=(Prod.mk.inj h).2
  have ha:=(Prod.mk.inj h1).1
  have hb:=(Prod.mk.inj h1).2
  exact ⟨FD.lp N (fun κ κe x y=>congrFun (congrFun (congrFun (congrFun hb κ) κe) x) y) ha fun _ _=>rfl,iu_ h2⟩
 |(k,o)::l,(.tl f,s),h=>by
  have h1:=(Prod.mk.inj h).1
  have h2:=(Prod.mk.inj h).2
  have ha:=(Prod.mk.inj h1).1
  have hb:=(Prod.mk.inj h1).2
  exact ⟨FD.tl (fun κ κe x y=>congrFun (congrFun (congrFun (congrFun hb κ) κe) x) y) ha,iu_ h2⟩
def FE.Oks (E:Env) (cx:Nat→Cx) (n:Nat) (e:FE):Prop:=CxOk E (cx e.d.nt)→KPar (cx e.d.nt)→e.d.Ok E (e.F (n+1))
def AllS (E:Env) (cx:Nat→Cx) (n:Nat):List FE→Prop
 |[]=>True
 |e::l=>e.Oks E cx n∧AllS E cx n l
def AllE (E:Env) (n:Nat):List FE→Prop
 |[]=>True
 |e::l=>e.d.Ok E (e.F n)∧AllE E n l
theorem allS_ok {E:Env} {cx:Nat→Cx} {n:Nat} (h1:∀ nt,CxOk E (cx nt)) (h2:∀ nt,KPar (cx nt)):∀ {l:List FE},AllS E cx n l→AllE E (n+1) l
 |[],_=>trivial
 |_::_,h=>⟨h.1 (h1 _) (h2 _),allS_ok h1 h2 h.2⟩
theorem AllE.get {E:Env} {n:Nat}:∀ {l:List FE} (i:Nat) {e:FE},AllE E n l→l[i]?=some e→e.d.Ok E (e.F n)
 |[],_,_,_,h=>by cases h
 |_::_,0,_,ha,h=>by cases h;exact ha.1
 |_::l,i+1,e,ha,h=>AllE.get (l:=l) i ha.2 (by simpa using h)
def ZT:List FE→Type
 |[]=>Unit
 |e::l=>(Pat.Ts e.d.ps→Option e.R) × ZT l
def zl:(l:List FE)→ZT l
 |[]=>()
 |e::l=>(e.F 0,zl l)
def zr:(l:List FE)→ZT l
 |[]=>()
 |e::l=>(fun _=>none,zr l)
theorem all0 {E:Env}:∀ {l:List FE},zl l=zr l→AllE E 0 l
 |[],_=>trivial
 |e::l,h=>⟨fun x r hr=>(by rw [show e.F 0=fun _=>none from (Prod.mk.inj h).1] at hr;cases hr),all0 (Prod.mk.inj h).2⟩
def fnB (P:Program) (f:Nat):Bool:=match P.funcs[f]? with
 |some fn=>notNG fn&&fn.body.isSome
 |none=>false
def factL (P:Program) (L:List FE):List FE→List (Bool × Option (List PS))
 |[]=>[]
 |e::l=>(fnB P e.d.fid,sigE L e.d.fid)::factL P L l
def factR:List FE→List (Bool × Option (List PS))
 |[]=>[]
 |e::l=>(true,some e.d.sig)::factR l
omit [ao_] in
theorem fnB_ok {E:Env} {f:Nat} (h:fnB E.P f=true):FnOk E f:=by
 unfold fnB at h
 split at h
 · rename_i fn hfn
   rw [Bool.and_eq_true] at h
   obtain ⟨h1,h2⟩:=h
   cases hb:fn.body with
   |none=>rw [hb] at h2;cases h2
   |some b=>exact ⟨fn,b,hfn,fun e=>by simp [notNG,e] at h1,hb⟩
 · cases h
theorem KE_par {n nt:Nat} {tt:Nat→Option TD} {sig:Nat→Option (List PS)} {fz:Nat→Bool} {L:List FE}:KPar ⟨nt,tt,sig,KE n L,fz⟩:=by
 intro ω f avs κ q hK
 replace hK:KE n L ω f avs κ=some q:=hK
 show ∃ rv outs,κ rv outs=some q∧∀ (ω':Type) (κ':AV→List AV→Option ω'),KE n L ω' f avs κ'=κ' rv outs
 induction L with
 |nil=>cases hK
 |cons e l ih=>
  unfold KE at hK ⊢
  cases h1:Nat.beq f e.d.fid with
  |false=>rw [h1] at hK;simp only [cond_false] at hK ⊢;exact ih hK
  |true=>
   rw [h1] at hK
   simp only [cond_true] at hK ⊢
   cases h2:e.sel avs with
   |false=>rw [h2] at hK;simp only [cond_false] at hK ⊢;exact ih hK
   |true=>rw [h2] at hK;simp only [cond_true] at hK ⊢;exact FD.kpar hK
theorem KE_ok [aq_] {E:Env} {n nt:Nat} {tt:Nat→Option TD} {fz:Nat→Bool} {L:List FE} (hf:factL E.P L L=factR L) (ha:AllE E n L):KOk E ⟨nt,tt,sigE L,KE n L,fz⟩:=by
 intro ω f avs κ q hK
 have key:∀ l:List FE,factL E.P L l=factR l→AllE E n l→KE n l ω f avs κ=some q→FnOk E f∧∃ ps rv outs,sigE L f=some ps∧κ rv outs=some q∧en_ E f avs rv outs ps:=by
  intro l
  induction l with
  |nil=>intro _ _ h;cases h
  |cons e l ih=>
   intro h1 h2 h
   have h3:=(List.cons.inj h1).1
   have h4:=(List.cons.inj h1).2
   unfold KE at h
   cases h5:Nat.beq f e.d.fid with
   |false=>rw [h5] at h;exact ih h4 h2.2 h
   |true=>
    rw [h5] at h
    simp only [cond_true] at h
    cases h6:e.sel avs with
    |false=>rw [h6] at h;exact ih h4 h2.2 h
    |true=>
     rw [h6] at h
     obtain rfl:=Nat.eq_of_beq_eq_true h5
     exact FD.kok (fnB_ok (Prod.mk.inj h3).1) (Prod.mk.inj h3).2 h2.1 h
 exact key L hf ha hK
def FE.L (e:FE) (c:Cx) (fn:Func) (N:Nat) (s:Stps e.R e.d.cut):(Option Code × Array ResultVar × Nat × Bool × Bool) × (Pat.Ts e.d.rp→Pat.Ts e.d.rp) × (Pat.Ts e.d.ps→Option e.R) × PEq e.R e.d.cut :=
 ((fn.body,fn.results,fn.ntmps,Nat.blt 0 e.d.e,Nat.ble e.d.ps.length c.nt),fun x=>e.d.ofR (e.d.toR x),fun x=>e.d.whole (fsOf N e.d.cut s) c (iW_ fn) x,lhsL e.d (fsOf N e.d.cut s) c (iW_ fn) e.d.cut s)
def FE.Q (e:FE) (c:Cx) (fn:Func) (G:Pat.Ts e.d.ps→Option e.R) (s:Stps e.R e.d.cut):(Option Code × Array ResultVar × Nat × Bool × Bool) × (Pat.Ts e.d.rp→Pat.Ts e.d.rp) × (Pat.Ts e.d.ps→Option e.R) × PEq e.R e.d.cut :=
 ((some (iW_ fn),List.toArray e.d.rs,c.nt,true,true),fun x=>x,G,rhsL e.d.cut s)
theorem FE.ok [aq_] {E:Env} {e:FE} {c:Cx} {fn:Func} {N:Nat} {G:Pat.Ts e.d.ps→Option e.R} (s:Stps e.R e.d.cut) (hm:E.P.follows .mixedOrders=true) (hfn:E.P.funcs[e.d.fid]?=some fn) (h:e.L c fn N s=e.Q c fn G s) (hc:CxOk E c) (hK:KPar c):e.d.Ok E G:=by
 have a:=(Prod.mk.inj h).1
 have b:=(Prod.mk.inj h).2
 have a2:=(Prod.mk.inj a).2
 have a3:=(Prod.mk.inj a2).2
 have a4:=(Prod.mk.inj a3).2
 have b2:=(Prod.mk.inj b).2
 exact FD.ok hm hfn (Prod.mk.inj a).1 (Prod.mk.inj a2).1 (Prod.mk.inj a3).1 (Prod.mk.inj a4).1 (fun x=>congrFun (Prod.mk.inj b).1 x) (Prod.mk.inj a4).2 (fun x=>congrFun (Prod.mk.inj b2).1 x) (iu_ (Prod.mk.inj b2).2) hc hK
end
end Go.Pi
end
