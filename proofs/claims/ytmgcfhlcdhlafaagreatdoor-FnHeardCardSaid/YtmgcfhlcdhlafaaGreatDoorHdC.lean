/- FnHeard: what is cut off of a drawn text leaves whoever listens with what came ahead of it: a version that was, never a later one. No condition. Text 3 of 8. -/
import Derived.Test.YtmgcfhlcdhlafaaGreatDoorHdB
import Derived.Deep.LoopGhost
import Derived.Scope
import Derived.Lib.ItoaNum
import Derived.Lib.Join
import Derived.Lib.Replace
import Derived.Lib.Split
import Derived.Lib.AtoiAll
import Derived.Shelf.LaysM
import Derived.Shelf.Strconv.Itoa3
import Derived.Lib.LaidTab
import Derived.Below
import Derived.Shelf.Vars
import Derived.Lib.SplitLaws
import Derived.Lib.SmallJoins
import Derived.LaidLaws
import Derived.Stop.LaidErr
import Derived.Test.YtmgcfhlcdhlafaaGreatDoorChecked
set_option linter.unusedVariables false
set_option maxRecDepth 100000
namespace Go.Pi
section
variable {ω:Type}
def ancs:List Oper->List (List Nat)->List (List Nat)
 |[],acc=>acc
 |o::l,acc=>ancs l (acc++[gr_ [] (o.after.toList.flatMap fun e=>cond (Region.binds .any e) (e.on::acc.getD e.on []) [])])
def pairOk (ops:Array Oper) (anc:List (List Nat)) (logs:List (List Nat×Bool)) (i j:Nat):Bool :=
 (anc.getD i []).any (Nat.beq j)||match ops[i]?,ops[j]? with
  |some oi,some oj=>oj.apart ops oi&&indep (dB_ oj) (dB_ oi) (logs.getD j ([],true)) (logs.getD i ([],true))
  |_,_=>false
def ordOk (ops:Array Oper)(i:Nat):Bool:=match ops[i]? with
 |some o=>o.after.toList.all fun e => !(Region.binds .any e)||Nat.blt e.on i
 |none=>true
def pairsOk (ops:Array Oper) (logs:List (List Nat×Bool)):Bool :=
 (List.range ops.size).all fun i=>ordOk ops i&&(List.range i).all fun j=>pairOk ops (ancs ops.toList []) logs i j
theorem ns_:∀ (rs l:List Nat)(v:Nat),v ∈ gr_ l rs->v ∈ l\/v ∈ rs
 |[],l,v,h=>.inl h
 |r::rs,l,v,h=>by
  simp only [gr_] at h;rcases ns_ rs _ v h with h|h
  . cases hb:l.any (Nat.beq r) with
    |true=>rw [hb] at h;exact .inl h
    |false=>
     rw [hb] at h;simp only [cond_false] at h;rcases List.mem_append.1 h with h|h
     . exact .inl h
     . rw [List.mem_singleton] at h;subst h;exact .inr (List.mem_cons_self ..)
  . exact .inr (List.mem_cons_of_mem _ h)
def AncOk (ops:Array Oper) (A:List (List Nat)):Prop:=∀ i j,j ∈ A.getD i []->∃ o e,ops[i]?=some o/\e ∈ o.after/\Region.binds .any e=true/\(j=e.on\/(e.on<i/\j ∈ A.getD e.on []))
theorem ancs_ok (ops:Array Oper):∀ (l:List Oper) (acc:List (List Nat)),ops.toList.drop acc.length=l->AncOk ops acc->AncOk ops (ancs l acc)
 |[],acc,_,h=>h
 |o::l,acc,hl,h=>by
  simp only [ancs];have z:ops[acc.length]?=some o:=by
   have:(ops.toList.drop acc.length)[0]?=some o:=by rw [hl];rfl
   simpa using this
  refine ancs_ok ops l _ ?_ ?_
  . have:=congrArg List.tail hl
    simpa [List.tail_drop] using this
  . intro i j m
    have old:∀ k,k<acc.length->(acc++[gr_ [] (o.after.toList.flatMap fun e=>cond (Region.binds .any e) (e.on::acc.getD e.on []) [])]).getD k []=acc.getD k []:=fun k B=>by simp [List.getD,List.getElem?_append_left B]
    by_cases hi:i<acc.length
    . rw [old i hi] at m
      obtain ⟨o',e,U,T,S,O⟩:=h i j m;refine ⟨o',e,U,T,S,O.imp id fun ⟨J,I⟩=>⟨J,?_⟩⟩;rw [old _ (by omega)];exact I
    . by_cases u:i=acc.length
      . subst u
        have:(acc++[gr_ [] (o.after.toList.flatMap fun e=>cond (Region.binds .any e) (e.on::acc.getD e.on []) [])]).getD acc.length []=gr_ [] (o.after.toList.flatMap fun e=>cond (Region.binds .any e) (e.on::acc.getD e.on []) []):=by simp [List.getD]
        rw [this] at m;rcases ns_ _ _ _ m with m|m
        . cases m
        . obtain ⟨e,he,m⟩:=List.mem_flatMap.1 m
          cases hb:Region.binds .any e with
          |false=>rw [hb] at m;cases m
          |true=>
           rw [hb] at m;simp only [cond_true] at m;refine ⟨o,e,z,by simpa using he,hb,?_⟩;rcases List.mem_cons.1 m with m|m
           . exact .inl m
           . right
             have p:e.on<acc.length:=by
              rcases Nat.lt_or_ge e.on acc.length with h|h
              . exact h
              . simp [List.getD,List.getElem?_eq_none h] at m
             exact ⟨p,by rw [old _ p];exact m⟩
      . have:(acc++[gr_ [] (o.after.toList.flatMap fun e=>cond (Region.binds .any e) (e.on::acc.getD e.on []) [])]).getD i []=[]:=by
         simp only [List.getD];rw [List.getElem?_eq_none (by simp;omega)];rfl
        rw [this] at m;cases m
def Closed (ops:Array Oper)(listed:Array Bool):Prop:=∀ i o e,ops[i]?=some o->listed.getD i true=true->e ∈ o.after->Region.binds .any e=true->listed.getD e.on true=true
theorem uk_ {ops:Array Oper}{listed:Array Bool}(hc:Closed ops listed){A:List (List Nat)}(m:AncOk ops A):∀ (i j:Nat),(∀ o e,ops[i]?=some o->e ∈ o.after->Region.binds .any e=true->listed.getD e.on true=true)->j ∈ A.getD i []->listed.getD j true=true:=by
 intro i;induction i using Nat.strongRecOn with
 |_ i ih=>
  intro j hi k;obtain ⟨o,e,J,I,B,z⟩:=m i j k;have hl:=hi o e J I B;rcases z with rfl|⟨u,p⟩
  . exact hl
  . exact ih e.on u j (fun o' e' k1 k2 k3=>hc _ o' e' k1 hl k2 k3) p
variable [aj_]
def Runs (c:Cx)(ops:Array Oper)(logs:Nat->List Nat×Bool):List Nat->St->St->Prop
 |[],s,t=>s=t
 |i::l,s,t=>∃ o s1,ops[i]?=some o/\Does c ops.toList o s s1 (logs i).1 (logs i).2/\Runs c ops logs l s1 t
theorem runs_of {c:Cx}(m:KPar c){ops:Array Oper}:∀ (l:List Oper)(s:St) (logs0:List (List Nat×Bool)) {κ:St->List (List Nat×Bool)->Option ω} {r:ω},ops.toList.drop logs0.length=l->opsD c ops.toList l s logs0 κ=some r ->
  ∃ logs t,κ t (logs0++logs)=some r/\Runs c ops (fun i=>(logs0++logs).getD i ([],true)) (List.range' logs0.length l.length) s t
 |[],s,logs0,κ,r,hl,h=>⟨[],s,by simpa [opsD] using h,rfl⟩
 |o::l,s,logs0,κ,r,hl,h=>by
  simp only [opsD] at h;obtain ⟨s',hd,h⟩:=does_of m h;have p:ops[logs0.length]?=some o:=by
   have:(ops.toList.drop logs0.length)[0]?=some o:=by rw [hl];rfl
   simpa using this
  have k:ops.toList.drop (logs0++[(jn_ s o,ph_ c o s.eval)]).length=l:=by have:=congrArg List.tail hl;simpa [List.tail_drop] using this
  obtain ⟨logs,t,z,u⟩:=runs_of m l s' _ k h;refine ⟨(jn_ s o,ph_ c o s.eval)::logs,t,by simpa using z,?_⟩;simp only [List.length_cons,List.range'_succ];refine ⟨o,s',p,?_,?_⟩
  . have:(logs0++(jn_ s o,ph_ c o s.eval)::logs).getD logs0.length ([],true)=(jn_ s o,ph_ c o s.eval):=by simp [List.getD]
    simp only [this];exact hd
  . simpa using u
theorem n5_ {c:Cx}{ops:Array Oper}{logs:Nat->List Nat×Bool}{i:Nat}:∀ (R1 R2:List Nat)(s t:St),
  (∀ j ∈ R1,∀ oi oj,ops[i]?=some oi->ops[j]?=some oj->oj.apart ops oi=true/\indep (dB_ oj) (dB_ oi) (logs j) (logs i)=true) ->
  Runs c ops logs (R1++i::R2) s t->∃ o s1,ops[i]?=some o/\Does c ops.toList o s s1 (logs i).1 (logs i).2/\Runs c ops logs (R1++R2) s1 t
 |[],R2,s,t,_,h=>h
 |j::R1,R2,s,t,k,h=>by obtain ⟨oj,sj,m,z,u⟩:=h;obtain ⟨oi,s2,k1,k2,k3⟩:=n5_ R1 R2 sj t (fun j p=>k j (List.mem_cons_of_mem _ p)) u;obtain ⟨g1,g2⟩:=k j (List.mem_cons_self ..) oi oj k1 m;obtain ⟨s1',m1,m2⟩:=swap g1 (indep_ok g2) z k2;exact ⟨oi,s1',k1,m1,oj,s2,m,m2,k3⟩
end
section
variable {ω:Type}
variable [aj_]
open aj_
variable {E:Env} {c:Cx} {s:St} {a:Act} {w:World} {G:ao_} {r:ω}
def jl_ (n:Nat)(listed:Array Bool):List Nat:=(List.range n).filter fun i => !(listed.getD i true)
omit [aj_] in
theorem s6_ (listed:Array Bool)(i j:Nat):(listed.setIfInBounds i true).getD j true=(Nat.beq j i||listed.getD j true):=by
 by_cases h:j=i
 . subst h
   rw [Nat.beq_refl,Bool.true_or];by_cases k:j<listed.size
   . simp [k]
   . simp [k]
 . rw [g2_ h,Bool.false_or]
   exact getD_set_ne true (fun e=>h e.symm)
omit [aj_] in
theorem rest_set (n:Nat)(listed:Array Bool)(i:Nat):jl_ n (listed.setIfInBounds i true)=(jl_ n listed).filter fun j => !(Nat.beq j i):=by
 unfold jl_;rw [List.filter_filter]
 congr 1
 funext j
 rw [s6_];cases Nat.beq j i<;>cases listed.getD j true<;>rfl
omit [aj_] in
theorem ue_ {i:Nat}:∀ {R1 R2:List Nat},(R1++i::R2).Nodup->((R1++i::R2).filter fun j => !(Nat.beq j i))=R1++R2:=by
 intro R1 R2 h;rw [List.nodup_append] at h;obtain ⟨u,p,m⟩:=h;have e1:R1.filter (fun j => !(Nat.beq j i))=R1:=List.filter_eq_self.2 fun j k=>by have:j≠i:=fun e=>m j k i (List.mem_cons_self ..) e;rw [g2_ this];rfl
 have e2:R2.filter (fun j => !(Nat.beq j i))=R2:=List.filter_eq_self.2 fun j k=>by
  have:j≠i:=fun e=>by subst e;exact (List.nodup_cons.1 p).1 k
  rw [g2_ this];rfl
 rw [List.filter_append,List.filter_cons,e1,e2];simp
theorem any_wp [ai_](hc:CxOk E c)(hK:KPar c){ops:Array Oper}{logs:List (List Nat×Bool)}(hp:pairsOk ops logs=true){x0:X}{w0:World}{G0:ao_}{t:St}{Q:Exit->Act->World->Prop}
  (hq:∀ a' w' G',Sim E c t a' w' G'->Evo x0 w0 G0 t.x w' G'->Q .normal a' w'):∀ (fuel:Nat)(listed:Array Bool)(s:St)(a:Act)(w:World)(G:ao_),
  Closed ops listed->(jl_ ops.size listed).length<=fuel->Runs c ops (fun i=>logs.getD i ([],true)) (jl_ ops.size listed) s t->Sim E c s a w G->Evo x0 w0 G0 s.x w G->wpAny E.P .any ops Q fuel listed a w:=by
 have V:∀ i,i<ops.size->∀ o e,ops[i]?=some o->e ∈ o.after->Region.binds .any e=true->e.on<i:=by intro i hi o e ho he hb;have:=List.all_eq_true.1 hp i (by simpa using hi);simp only [Bool.and_eq_true,ordOk,ho] at this;have:=List.all_eq_true.1 this.1 e (by simpa using he);rw [hb] at this;simpa [iS_] using this
 have J:∀ i j,i<ops.size->j<i->pairOk ops (ancs ops.toList []) logs i j=true:=by intro i j hi T;have:=List.all_eq_true.1 hp i (by simpa using hi);simp only [Bool.and_eq_true] at this;exact List.all_eq_true.1 this.2 j (by simpa using T)
 have hA:AncOk ops (ancs ops.toList []):=ancs_ok ops _ [] (by simp) fun i j T=>by simp at T
 have mem_rest:∀ {listed:Array Bool}{i},i ∈ jl_ ops.size listed↔i<ops.size/\listed.getD i true=false:=by intro listed i;simp [jl_]
 have unl:∀ {listed:Array Bool}{i},i<ops.size->listed.getD i true=false->listed.getD i false=false:=by
  intro listed i hi h;by_cases hs:i<listed.size
  . simpa [hs] using h
  . simp [hs] at h
 have U:∀ {listed:Array Bool}{i:Nat},listed.getD i false=true->listed.getD i true=true:=by
  intro listed i h;by_cases hs:i<listed.size
  . simpa [hs] using h
  . simp [hs]
 intro fuel;induction fuel with
 |zero=>
  intro listed s a w G hcl hf hr hs I;have:jl_ ops.size listed=[]:=List.eq_nil_of_length_eq_zero (by omega);rw [this] at hr;obtain rfl:s=t:=hr;refine ⟨?_,hq a w G hs I⟩;cases hrd:Region.ready .any ops listed with
  |nil=>rfl
  |cons i l=>
   have hi:i ∈ Region.ready .any ops listed:=by rw [hrd];exact List.mem_cons_self ..
   obtain ⟨S,o,B,_⟩:=mem_ready.1 hi;have:=mem_rest.2 ⟨(Array.getElem?_eq_some_iff.1 B).1,S⟩;rw [‹jl_ ops.size listed=[]›] at this;cases this
 |succ fuel ih=>
  intro listed s a w G hcl hf hr hs I;refine ⟨fun h0 => ?_,fun i hi => ?_⟩
  . have:jl_ ops.size listed=[]:=by
     cases z:jl_ ops.size listed with
     |nil=>rfl
     |cons i R=>
      exfalso;have hi:i ∈ jl_ ops.size listed:=by rw [z];exact List.mem_cons_self ..
      obtain ⟨S,B⟩:=mem_rest.1 hi;have:i ∈ Region.ready .any ops listed:=by
       refine mem_ready.2 ⟨B,ops[i],by simp [S],fun e he hb => ?_⟩;have O:=V i S _ e (by simp [S]) he hb;cases hl:listed.getD e.on false with
       |true=>rfl
       |false=>
        exfalso;have hl':listed.getD e.on true=false:=by
         by_cases hs':e.on<listed.size
         . simpa [hs'] using hl
         . have:¬ i<listed.size:=by omega
           simp [this] at B
        have Z:e.on ∈ jl_ ops.size listed:=mem_rest.2 ⟨by omega,hl'⟩;have m:(jl_ ops.size listed).Pairwise (· < ·):=List.Pairwise.filter _ List.pairwise_lt_range;rw [z] at Z m;rcases List.mem_cons.1 Z with e1|e1
        . omega
        . have:=List.rel_of_pairwise_cons m e1
          omega
      rw [h0] at this;cases this
    rw [this] at hr;obtain rfl:s=t:=hr;exact hq a w G hs I
  . obtain ⟨S,o,B,h3⟩:=mem_ready.1 hi
    have O:=(Array.getElem?_eq_some_iff.1 B).1;have hir:=mem_rest.2 ⟨O,S⟩;obtain ⟨R1,R2,hR⟩:=List.append_of_mem hir;have Y:(jl_ ops.size listed).Nodup:=List.Pairwise.filter _ List.nodup_range;have m:(jl_ ops.size listed).Pairwise (· < ·):=List.Pairwise.filter _ List.pairwise_lt_range;rw [hR] at hr Y m;obtain ⟨o',s1,k1,k2,k3⟩:=n5_ R1 R2 s t (fun j T oi oj e1 e2=>by
     have hji:j<i:=by have:=(List.pairwise_append.1 m).2.2 j T i (List.mem_cons_self ..);exact this
     have hjr:j ∈ jl_ ops.size listed:=by rw [hR];exact List.mem_append_left _ T
     have u:=J i j O hji;simp only [pairOk,Bool.or_eq_true,e1,e2,Bool.and_eq_true] at u;rcases u with u|u
     . exfalso
       have:=uk_ hcl hA i j (fun o' e k1 k2 k3=>by
        rw [B] at k1;cases k1;exact U (h3 e k2 k3)) (r5_.1 u)
       rw [(mem_rest.1 hjr).2] at this;cases this
     . exact u) hr
    rw [B] at k1;cases k1;unfold wpOp;rw [B];simp only;refine s5_ hc hs B (κ:=some) (r:=s1) (k2.guard hK) fun a' w' hn => ?_;obtain ⟨s',G',e1,e2,e3⟩:=hn;cases e1;have p:jl_ ops.size (listed.setIfInBounds i true)=R1++R2:=by rw [rest_set,hR,ue_ Y]
    refine ih (listed.setIfInBounds i true) s1 a' w' G' (fun k o' e f1 f2 f3 f4 => ?_) (by rw [p];rw [hR] at hf;simp at hf ⊢;omega) (by rw [p];exact k3) e2 (I.trans e3);rw [s6_,Bool.or_eq_true] at f2 ⊢;rcases f2 with f2|f2
    . have:=df_.1 f2
      subst this;rw [B] at f1;cases f1;exact .inr (U (h3 e f3 f4))
    . exact .inr (hcl k o' e f1 f2 f3 f4)
def regK (c:Cx)(ops:Array Oper)(draws:Bool)(s:St)(κ:St->Option ω):Option ω :=
 cond draws (opsD c ops.toList ops.toList s [] fun s logs=>cond (pairsOk ops logs) (κ s) none) (opsN c ops.toList ops.toList s κ)
theorem Sim.drawn (h:Sim E c s a w G)(n:Nat):Sim E c s a { w with drawn:=n } G/\Evo s.x w G s.x { w with drawn:=n } G:=by
 have ev:Evo s.x w G s.x { w with drawn:=n } G:=⟨rfl,rfl,rfl,Nat.le_refl _,fun _ _ _=>rfl,fun _ _ h=>h,fun _ h=>h,fun r blk' _ h=>⟨blk',h,Same.refl _,rfl,rfl,fun _ _ _ _ _ _ _ _ _=>rfl⟩,fun _ _ _ _=>⟨rfl,fun _ _=>rfl⟩⟩
 refine ⟨⟨h.mem.build ev (fun _=>False) (fun _ _ _=>rfl) (fun r blk hr=>.inl ⟨hr,rfl,rfl,rfl,fun _=>rfl,fun _ _=>id⟩) h.mem.sep,h.defers,h.size,fun t=>(h.slot t).evolve ev (h.used t),h.used⟩,ev⟩
theorem reg_wp [ai_](hc:CxOk E c)(p:KPar c)(B:E.P.follows .mixedOrders=true)(h:Sim E c s a w G){id:Nat}{ops:Array Oper}{d:Bool}{κ:St->Option ω}(hs:regK c ops d s κ=some r){Q:Exit->Act->World->Prop}
  (hq:∀ a' w',sc_ E c κ r s.x w G a' w'->Q .normal a' w'):(Code.region id ops d).wp E.P Q a w:=by
 cases d with
 |false=>exact tJ_ hc h hs hq
 |true=>
  simp only [regK,cond_true] at hs;obtain ⟨logs,t,z,u⟩:=runs_of p ops.toList s [] (by simp) hs;simp only [List.nil_append] at z u;obtain ⟨J,I⟩:=cn_ z;obtain ⟨m,ev'⟩:=h.drawn (w.drawn+1);have k:jl_ ops.size (Array.replicate ops.size false)=List.range ops.size:=by
   unfold jl_;refine List.filter_eq_self.2 fun i hi => ?_;have:i<ops.size:=by simpa using hi
   simp [this]
  refine wp_region_any B (any_wp hc p J (x0:=s.x) (w0:=w) (G0:=G) (t:=t) (fun a' w' G' k1 k2=>hq a' w' ⟨t,G',I,k1,k2⟩) ops.size _ s a _ G (fun i o e e1 e2 e3 e4 => ?_) ?_ ?_ m ev')
  . have hi:=(Array.getElem?_eq_some_iff.1 e1).1
    simp [hi] at e2
  . rw [k];simp
  . rw [k,List.range_eq_range']
    simpa using u
end
section
variable {ω:Type}
def fN_ (e:Nat)(x:X)(vs:List AV):List Nat:=nY_ x.h 2 (gr_ (List.range e) (vs.flatMap AV.refsD))
theorem pj_ (e:Nat)(x:X)(vs:List AV):(fN_ e x vs).Nodup:=(kv_ 2 _).1 (iW_ _ _ List.nodup_range)
theorem qz_ (e:Nat)(x:X)(vs:List AV)(k:Nat)(h:k<e):(fN_ e x vs)[k]?=some k :=
 (kv_ 2 _).2 k k (h5_ _ _ k k (by simp [h]))
def look:List (Nat×Sh)->List AV->Nat->AV
 |p::l,v::vs,t=>cond (Nat.beq p.1 t) v (look l vs t)
 |_,_,_=>.u
def St.ofC (live:List (Nat×Sh)) (vals:List AV) (blks:List (Option Blk)):St:=⟨look live vals,X.ofL blks⟩
section
variable [aj_]
def pP_ (e:Nat) (live:List (Nat×Sh)) (s:St) (κ:List AV->List (Option Blk)->Option ω):Option ω :=
 jO_ s.x 1000000 (live.map fun p=>p.2) (live.map fun p=>s.tmps p.1) fun x vs=>
  κ (vs.map (AV.renD (fN_ e x vs))) (l8_ 2 x (fN_ e x vs))
end
def nc:Code->Nat
 |.seq a b=>nc a+nc b+1
 |.cond _ a b=>nc a+nc b
 |.block _ a=>nc a
 |.scope a=>nc a
 |.loop a=>nc a+1
 |_=>0
abbrev Live:=List (Nat×Sh)
structure Ann where
 cut:Nat->Option Live
 nxt:Nat->Live
 out:Nat->Live
abbrev D (ω:Type):=List AV->List (Option Blk)->Option ω
abbrev LF (ω:Type):=Nat->D ω->(Nat->D ω)->D ω
inductive nZ_ where
 |loop (a:Code) (k:Nat)
 |tail (a:Code) (k:Nat)
def cW_ (ann:Ann):Code->Nat->Nat->Option nZ_
 |.seq a b,k,key=>cond (Nat.beq key k) (some (.tail b (k+1+nc a))) (cond (Nat.blt key (k+1+nc a)) (cW_ ann a (k+1) key) (cW_ ann b (k+1+nc a) key))
 |.cond _ a b,k,key=>cond (Nat.blt key (k+nc a)) (cW_ ann a k key) (cW_ ann b (k+nc a) key)
 |.block _ a,k,key=>cW_ ann a k key
 |.scope a,k,key=>cW_ ann a k key
 |.loop a,k,key=>cond (Nat.beq key k) (some (.loop a (k+1))) (cW_ ann a (k+1) key)
 |_,_,_=>none
theorem d3_ {ann:Ann}:∀ (C:Code)(k key:Nat)(p:nZ_),cW_ ann C k key=some p->k<=key/\key<k+nc C
 |.seq a b,k,key,p,h=>by
  simp only [cW_] at h;cases u:Nat.beq key k with
  |true=>have:=df_.1 u;simp only [nc];omega
  |false=>
   rw [u] at h;simp only [cond_false] at h;cases m:Nat.blt key (k+1+nc a) with
   |true=>rw [m] at h;have:=d3_ a _ _ _ h;simp only [nc];omega
   |false=>rw [m] at h;have:=d3_ b _ _ _ h;simp only [nc];omega
 |.cond o a b,k,key,p,h=>by
  simp only [cW_] at h;cases m:Nat.blt key (k+nc a) with
  |true=>rw [m] at h;have:=d3_ a _ _ _ h;simp only [nc];omega
  |false=>rw [m] at h;have:=d3_ b _ _ _ h;simp only [nc];omega
 |.block id a,k,key,p,h=>by simp only [cW_] at h;have:=d3_ a _ _ _ h;simp only [nc];omega
 |.scope a,k,key,p,h=>by simp only [cW_] at h;have:=d3_ a _ _ _ h;simp only [nc];omega
 |.loop a,k,key,p,h=>by
  simp only [cW_] at h;cases u:Nat.beq key k with
  |true=>have:=df_.1 u;simp only [nc];omega
  |false=>
   rw [u] at h;have:=d3_ a _ _ _ h;simp only [nc];omega
 |.skip,_,_,_,h=>by simp [cW_] at h
 |.region ..,_,_,_,h=>by simp [cW_] at h
 |.rangeFunc ..,_,_,_,h=>by simp [cW_] at h
 |.exit ..,_,_,_,h=>by simp [cW_] at h
 |.label ..,_,_,_,h=>by simp [cW_] at h
 |.goto ..,_,_,_,h=>by simp [cW_] at h
 |.ret,_,_,_,h=>by simp [cW_] at h
 |.refuse ..,_,_,_,h=>by simp [cW_] at h
section
variable [aj_]
def run (c:Cx)(e:Nat)(ann:Ann)(lf:LF ω)(κr:St->Option ω):Code->Nat->(St->Option ω)->(Nat->St->Option ω)->St->Option ω
 |.seq a b,k,κn,κx,s=>match ann.cut k with
  |some live=>run c e ann lf κr a (k+1) (fun s=>pP_ e live s (lf k (fun v b=>κn (St.ofC (ann.nxt k) v b)) (fun j v b=>κx j (St.ofC (ann.out j) v b)))) κx s
  |none=>run c e ann lf κr a (k+1) (fun s=>run c e ann lf κr b (k+1+nc a) κn κx s) κx s
 |.cond o a b,k,κn,κx,s=>match s.eval o with
  |.b t=>cond t (run c e ann lf κr a k κn κx s) (run c e ann lf κr b (k+nc a) κn κx s)
  |_=>none
 |.block id a,k,κn,κx,s=>run c e ann lf κr a k κn (fun j s=>cond (Nat.beq j id) (κn s) (κx j s)) s
 |.scope a,k,κn,κx,s=>run c e ann lf κr a k κn κx s
 |.loop _,k,_,κx,s=>match ann.cut k with
  |some live=>pP_ e live s (lf k (fun _ _=>none) (fun j v b=>κx j (St.ofC (ann.out j) v b)))
  |none=>none
 |.region _ ops d,_,κn,_,s=>regK c ops d s κn
 |.skip,_,κn,_,s=>κn s
 |.exit id,_,_,κx,s=>κx id s
 |.ret,_,_,_,s=>κr s
 |_,_,_,_,_=>none
def qo_ (c:Cx)(e:Nat)(ann:Ann)(lf:LF ω)(κr:St->Option ω)(a:Code)(k:Nat)(live:Live)(κe:Nat->D ω):Nat->D ω
 |0,_,_=>none
 |n+1,v,b=>run c e ann lf κr a k (fun s=>pP_ e live s (qo_ c e ann lf κr a k live κe n)) (fun j s=>pP_ e (ann.out j) s (κe j)) (St.ofC live v b)
def pieceIs (c:Cx)(e:Nat)(ann:Ann)(lf:LF ω)(κr:St->Option ω)(key:Nat)(live:Live)(κd:D ω)(κe:Nat->D ω)(v:List AV) (b:List (Option Blk)) (r:ω):nZ_->Prop
 |.loop a k=>∃ n,qo_ c e ann lf κr a k live κe n v b=some r
 |.tail a k=>run c e ann lf κr a k (fun s=>pP_ e (ann.nxt key) s κd) (fun j s=>pP_ e (ann.out j) s (κe j)) (St.ofC live v b)=some r
end
variable [aj_]
open aj_
variable {E:Env} {w:World} {G:ao_} {r:ω}
omit [aj_] in
theorem rB_ {P:AV->Value->Prop}{Q:AV->Prop}{a:Nat->Value}(k:∀ v,P .u v)(qu:Q .u):∀ {live:List (Nat×Sh)}{vals:List AV},AllF P vals (live.map fun p=>a p.1)->(∀ v ∈ vals,Q v)->∀ t,P (look live vals t) (a t)/\Q (look live vals t)
 |[],[],_,_,t=>⟨k _,qu⟩
 |[],_::_,h,_,_=>h.elim
 |_::_,[],h,_,_=>h.elim
 |p::l,v::vs,h,hq,t=>by
  simp only [look];cases hb:Nat.beq p.1 t with
  |true=>have:=df_.1 hb;subst this;exact ⟨h.1,hq v (List.mem_cons_self ..)⟩
  |false=>exact rB_ k qu h.2 (fun v m=>hq v (List.mem_cons_of_mem _ m)) t
theorem q3_ [ai_]{c:Cx}{s:St}{a:Act}{e:Nat}{x0:X}{w0:World}{G0:ao_}(h:Sim E c s a w G)(he:Ent e x0)(ev:Evo x0 w0 G0 s.x w G){live:List (Nat×Sh)}{κ:List AV->List (Option Blk)->Option ω}(z:pP_ e live s κ=some r) :
  ∃ vals blks G',κ vals blks=some r/\Sim E c (St.ofC live vals blks) a w G'/\Evo x0 w0 G0 (X.ofL blks) w G':=by
 unfold pP_ at z;have J:AllF (RT E w s.x G) (live.map fun p=>s.tmps p.1) (live.map fun p=>a.tmps.getD p.1 undef):=by
  clear z;induction live with
  |nil=>trivial
  |cons p l ih=>exact ⟨h.slot p.1,ih⟩
 obtain ⟨x1,G1,vs,k1,s1,v1,u1⟩:=h1_ _ _ _ _ _ _ _ h.mem J (fun v m=>by
  obtain ⟨p,_,rfl⟩:=List.mem_map.1 m;exact h.used p.1) z
 refine ⟨_,_,G1.ren (fN_ e x1 vs),k1,?_,(ev.trans s1.1).ren (by decide) he (qz_ e x1 vs)⟩;have I:AllF (fun a v=>RT E w (X.ofL (l8_ 2 x1 (fN_ e x1 vs))) (G1.ren (fN_ e x1 vs)) a v) (vs.map (AV.renD (fN_ e x1 vs))) (live.map fun p=>a.tmps.getD p.1 undef):=by
  clear k1;generalize (live.map fun p=>a.tmps.getD p.1 undef)=us at v1;generalize fN_ e x1 vs=L;induction vs generalizing us with
  |nil=>cases us with
   |nil=>trivial
   |cons=>exact v1.elim
  |cons v vs ih=>cases us with
   |nil=>exact v1.elim
   |cons u us=>exact ⟨(RT.ren v1.1).1,ih (fun a ha=>u1 a (List.mem_cons_of_mem _ ha)) us v1.2⟩
 have S:∀ v ∈ vs.map (AV.renD (fN_ e x1 vs)),Used (X.ofL (l8_ 2 x1 (fN_ e x1 vs))) v.refsT:=by
  intro v m;obtain ⟨v0,k,rfl⟩:=List.mem_map.1 m;have:∃ u,RT E w x1 G1 v0 u:=by
   clear I m J;generalize (live.map fun p=>a.tmps.getD p.1 undef)=us at v1;clear k1 u1;induction vs generalizing us with
   |nil=>cases k
   |cons v vs ih=>cases us with
    |nil=>exact v1.elim
    |cons u us=>
     rcases List.mem_cons.1 k with rfl|k
     . exact ⟨u,v1.1⟩
     . exact ih k us v1.2
  obtain ⟨u,O⟩:=this;exact (RT.ren O).2
 have B:=rB_ (P:=RT E w (X.ofL (l8_ 2 x1 (fN_ e x1 vs))) (G1.ren (fN_ e x1 vs))) (Q:=fun v=>Used (X.ofL (l8_ 2 x1 (fN_ e x1 vs))) v.refsT) (a:=fun t=>a.tmps.getD t undef) (fun v=>RT.scl trivial) cx_ I S;exact ⟨s1.2.ren (pj_ _ _ _),h.defers,h.size,fun t=>(B t).1,fun t=>(B t).2⟩
end
section
variable {ω:Type}
variable [aj_]
open aj_
variable {E:Env} {w:World} {G:ao_} {r:ω}
structure Fix (ω:Type) where
 c:Cx
 e:Nat
 ann:Ann
 lf:LF ω
 κr:St->Option ω
 x0:X
 w0:World
 G0:ao_
def Here (E:Env)(f:Fix ω)(r:ω)(κ:St->Option ω)(a:Act)(w:World):Prop :=
 ∃ s G,κ s=some r/\Sim E f.c s a w G/\Evo f.x0 f.w0 f.G0 s.x w G
def Post (E:Env)(f:Fix ω)(r:ω)(κn:St->Option ω)(κx:Nat->St->Option ω):Exit->Act->World->Prop
 |.normal,a,w=>Here E f r κn a w
 |.exit id,a,w=>Here E f r (κx id) a w
 |.ret,a,w=>Here E f r f.κr a w
 |_,_,_=>False
structure FixOk (E:Env) (f:Fix ω):Prop where
 cx:CxOk E f.c
 ent:Ent f.e f.x0
 par:KPar f.c
 mixed:E.P.follows .mixedOrders=true
theorem Here.cut [ai_]{f:Fix ω}(k:FixOk E f){live:Live}{κ:D ω}{a:Act} (h:Here E f r (fun s=>pP_ f.e live s κ) a w) :
  ∃ v b G,κ v b=some r/\Sim E f.c (St.ofC live v b) a w G/\Evo f.x0 f.w0 f.G0 (X.ofL b) w G:=by
 obtain ⟨s,G,u,p,m⟩:=h;exact q3_ p k.ent m u
def Cuts (c:Cx)(e:Nat)(ann:Ann)(lf:LF ω)(κr:St->Option ω)(B:Code):Prop :=
 ∀ key κd κe v b (r:ω),lf key κd κe v b=some r->∃ live p,ann.cut key=some live/\cW_ ann B 0 key=some p/\pieceIs c e ann lf κr key live κd κe v b r p
theorem run_wp [ai_]{f:Fix ω}(z:FixOk E f){B:Code}(I:Cuts f.c f.e f.ann f.lf f.κr B) :
  ∀ (C:Code)(k:Nat)(κn:St->Option ω)(κx:Nat->St->Option ω),
    (∀ key p,cW_ f.ann C k key=some p->cW_ f.ann B 0 key=some p) ->
    ∀ (s:St)(a:Act)(w:World)(G:ao_),Sim E f.c s a w G->Evo f.x0 f.w0 f.G0 s.x w G->run f.c f.e f.ann f.lf f.κr C k κn κx s=some r->C.wp E.P (Post E f r κn κx) a w:=by
 intro C;induction C with
 |skip=>intro k κn κx hl s a w G h ev hr;exact wp_skip ⟨s,G,hr,h,ev⟩
 |ret=>intro k κn κx hl s a w G h ev hr;exact wp_ret ⟨s,G,hr,h,ev⟩
 |exit id=>intro k κn κx hl s a w G h ev hr;exact wp_exit ⟨s,G,hr,h,ev⟩
 |rangeFunc=>intro k κn κx hl s a w G h ev hr;cases hr
 |label=>intro k κn κx hl s a w G h ev hr;cases hr
 |goto=>intro k κn κx hl s a w G h ev hr;cases hr
 |refuse=>intro k κn κx hl s a w G h ev hr;cases hr
 |region id ops d=>
  intro k κn κx hl s a w G h ev hr;simp only [run] at hr;exact reg_wp z.cx z.par z.mixed h hr fun a' w' ⟨s',G',Y,V,U⟩=>⟨s',G',Y,V,ev.trans U⟩
 |cond o A B' ihA ihB=>
  intro k κn κx hl s a w G h ev hr;simp only [run] at hr;have O:=(h.eval o).1
  revert hr O
  cases Z:s.eval o<;>intro hr O<;>(try (cases hr;done));rename_i t;refine wp_cond O.b ?_;cases t with
  |true=>
   refine ihA k κn κx (fun key p m=>hl key p ?_) s a w G h ev hr;have:=d3_ _ _ _ _ m;simp only [cW_,iS_.2 this.2,cond_true];exact m
  |false=>
   refine ihB (k+nc A) κn κx (fun key p m=>hl key p ?_) s a w G h ev hr;have:=d3_ _ _ _ _ m;simp only [cW_,blt_no this.1,cond_false];exact m
 |block id A ih=>
  intro k κn κx hl s a w G h ev hr;simp only [run] at hr;refine wp_block (wp_mono (ih k κn (fun j s=>cond (Nat.beq j id) (κn s) (κx j s)) (fun key p m=>hl key p m) s a w G h ev hr) fun e a' w' hq => ?_);cases e<;>simp only [Post,Exit.inBlock] at hq ⊢ <;> (try exact hq);rename_i j;by_cases e:j=id
  . subst e
    simp only [Nat.beq_refl,cond_true] at hq;rw [if_pos rfl];exact hq
  . simp only [g2_ e,cond_false] at hq
    rw [if_neg e];exact hq
 |scope A ih=>
  intro k κn κx hl s a w G h ev hr;simp only [run] at hr;refine wp_scope_straight (wp_mono (ih k κn κx (fun key p m=>hl key p m) s a w G h ev hr) fun e a' w' hq => ?_);cases e<;>first|exact hq|exact hq.elim
 |seq A B' ihA ihB=>
  intro k κn κx hl s a w G h ev hr;simp only [run] at hr;have J:∀ key p,cW_ f.ann A (k+1) key=some p->cW_ f.ann B 0 key=some p:=fun key p m=>hl key p (by
   have:=d3_ _ _ _ _ m;simp only [cW_,g2_ (show key≠k by omega),iS_.2 this.2,cond_true,cond_false];exact m)
  have S:∀ key p,cW_ f.ann B' (k+1+nc A) key=some p->cW_ f.ann B 0 key=some p:=fun key p m=>hl key p (by
   have:=d3_ _ _ _ _ m;simp only [cW_,g2_ (show key≠k by omega),blt_no this.1,cond_false];exact m)
  cases ha:f.ann.cut k with
  |none=>
   rw [ha] at hr;refine wp_seq (wp_mono (ihA (k+1) _ κx J s a w G h ev hr) fun e a' w' hq => ?_);cases e<;>simp only [Exit.then]<;>(try exact hq);obtain ⟨s1,G1,k1,k2,k3⟩:=hq;exact ihB (k+1+nc A) κn κx S s1 a' w' G1 k2 k3 k1
  |some live=>
   rw [ha] at hr;refine wp_seq (wp_mono (ihA (k+1) _ κx J s a w G h ev hr) fun e a' w' hq => ?_);cases e<;>simp only [Exit.then]<;>(try exact hq);obtain ⟨v,b,G2,j1,j2,j3⟩:=Here.cut z hq;obtain ⟨live',p,e1,e2,e3⟩:=I _ _ _ _ _ _ j1;rw [ha] at e1;cases e1;have:=hl k (.tail B' (k+1+nc A)) (by simp only [cW_,Nat.beq_refl,cond_true]);rw [this] at e2;cases e2;refine wp_mono (ihB (k+1+nc A) _ _ S _ a' w' G2 j2 j3 e3) fun e a2 w2 u => ?_;cases e<;>simp only [Post] at u ⊢ <;> (try exact u)
   . obtain ⟨v,b,G3,i1,i2,i3⟩:=Here.cut z u
     exact ⟨_,G3,i1,i2,i3⟩
   . obtain ⟨v,b,G3,i1,i2,i3⟩:=Here.cut z u
     exact ⟨_,G3,i1,i2,i3⟩
 |loop A ih=>
  intro k κn κx hl s a w G h ev hr;simp only [run] at hr;cases ha:f.ann.cut k with
  |none=>rw [ha] at hr;cases hr
  |some live=>
   rw [ha] at hr;obtain ⟨v,b,G2,j1,j2,j3⟩:=q3_ h z.ent ev hr;obtain ⟨live',p,e1,e2,e3⟩:=I _ _ _ _ _ _ j1;rw [ha] at e1;cases e1;have:=hl k (.loop A (k+1)) (by simp only [cW_,Nat.beq_refl,cond_true]);rw [this] at e2;cases e2;obtain ⟨N,T⟩:=e3;have J:∀ key p,cW_ f.ann A (k+1) key=some p->cW_ f.ann B 0 key=some p:=fun key p m=>hl key p (by
    have:=d3_ _ _ _ _ m;simp only [cW_,g2_ (show key≠k by omega),cond_false];exact m)
   refine wp_loop_ghost (fun n a w=>∃ v b G,qo_ f.c f.e f.ann f.lf f.κr A (k+1) live (fun j v b=>κx j (St.ofC (f.ann.out j) v b)) n v b=some r/\Sim E f.c (St.ofC live v b) a w G/\Evo f.x0 f.w0 f.G0 (X.ofL b) w G) N ⟨v,b,G2,T,j2,j3⟩ fun n a w ⟨v,b,G,j1,j2,j3⟩ => ?_;cases n with
   |zero=>cases j1
   |succ n=>
    refine wp_mono (ih (k+1) _ _ J _ a w G j2 j3 j1) fun e a' w' hq => ?_;cases e<;>simp only [Exit.then,Post] at hq ⊢ <;> (try exact hq)
    . obtain ⟨v,b,G3,i1,i2,i3⟩:=Here.cut z hq
      exact ⟨n,Nat.lt_succ_self n,v,b,G3,i1,i2,i3⟩
    . obtain ⟨v,b,G3,i1,i2,i3⟩:=Here.cut z hq
      exact ⟨_,G3,i1,i2,i3⟩
end
section
variable {ω:Type}
def lo_:X:=⟨fun r=>cond (Nat.beq r 0) (some (.ext none)) none,fun r=>cond (Nat.beq r 0) true (Nat.beq r 1000003)⟩
mutual
def qt_:PS->AV->Option (List AV)
 |.mu,.rt r=>some [.rt r]
 |.ptr _,.pb r off=>some [.pb r off]
 |.ag ps,.ag cs=>fy_ ps cs
 |.v,_=>some []
 |.o,_=>some []
 |_,_=>none
def fy_:List PS->List AV->Option (List AV)
 |p::ps,a::az=>match qt_ p a with
  |some l=>match fy_ ps az with
   |some l'=>some (l++l')
   |none=>none
  |none=>none
 |[],[]=>some []
 |_,_=>none
end
def tg_ (e:Nat)(avs:List AV)(κ:D ω):Option ω :=
 eU_ 0 lo_ 1 avs fun x k az=>cond (Nat.beq k e) (match x.h 0 with
  |some (.ext none)=>κ (az.map (AV.renD (List.range e))) (l8_ 1 x (List.range e))
  |_=>none) none
def rvOf (nres:Nat)(out:List AV):AV:=cond (Nat.beq nres 1) (out.headD .u) (.tu (out.take nres))
def tS_ (n:Nat):Live:=(List.range n).map fun i=>(i,.k)
section
variable [aj_]
def mN_ (c:Cx)(s:St):List ResultVar->Option (List AV)
 |[]=>some []
 |.tmp t::l=>match mN_ c s l with
  |some vs=>some (s.tmps t::vs)
  |none=>none
 |.cell t T::l=>match c.tt T with
  |some td=>match s.tmps t with
   |.pb q off=>match s.x.h q with
    |some (.box bs)=>cond (Nat.beq ((bs.drop off).take td.size).length td.size&&((bs.drop off).take td.size).all AV.cel) (match mN_ c s l with
     |some vs=>some (td.val ((bs.drop off).take td.size)::vs)
     |none=>none) none
    |_=>none
   |_=>none
  |none=>none
def retK (c:Cx)(rsh:List Sh)(rps:List PS)(rs:List ResultVar)(outs:List AV)(fin:List AV->Option ω)(s:St):Option ω :=
 match mN_ c s rs with
 |none=>none
 |some vs0=>jO_ s.x 2000000 rsh (vs0++outs) fun x vs=>match cM_ x rps vs with
  |some (x3,avs,_,[])=>match x3.h 0 with
   |some (.ext none)=>fin avs
   |_=>none
  |_=>none
end
variable [aj_]
open aj_
variable {E:Env} {w:World} {G:ao_} {r:ω}
theorem out_aux [ai_]{x:X}:∀ n:Nat,
  (∀ (p:PS)(a:AV)(v:Value)(os:List AV),SizeOf.sizeOf p<n->RT E w x G a v->Used x a.refsT->qt_ p a=some os->AllF (RT E w x G) os (PS.outs p v)/\∀ o ∈ os,Used x o.refsT) /\
  (∀ (ps:List PS)(az:List AV)(vs:List Value)(os:List AV),SizeOf.sizeOf ps<n->AllF (RT E w x G) az vs->(∀ a ∈ az,Used x a.refsT)->fy_ ps az=some os->AllF (RT E w x G) os (PS.outsAll ps vs)/\∀ o ∈ os,Used x o.refsT):=by
 intro n;induction n with
 |zero=>exact ⟨fun _ _ _ _ h=>absurd h (Nat.not_lt_zero _),fun _ _ _ _ h=>absurd h (Nat.not_lt_zero _)⟩
 |succ n ih=>
  refine ⟨fun p a v os hn z B h => ?_,fun ps az vs os hn z B h => ?_⟩
  . cases p with
    |v=>simp only [qt_,Option.some.injEq] at h;subst h;exact ⟨by simp only [PS.outs];trivial,fun o m=>by cases m⟩
    |o=>simp only [qt_,Option.some.injEq] at h;subst h;exact ⟨by simp only [PS.outs];trivial,fun o m=>by cases m⟩
    |mu=>
     cases a<;>simp only [qt_] at h<;>(try (cases h;done));cases h;exact ⟨by simp only [PS.outs];exact ⟨z,trivial⟩,fun o m=>by rw [List.mem_singleton] at m;subst m;exact B⟩
    |ptr ps=>
     cases a<;>simp only [qt_] at h<;>(try (cases h;done));cases h;exact ⟨by simp only [PS.outs];exact ⟨z,trivial⟩,fun o m=>by rw [List.mem_singleton] at m;subst m;exact B⟩
    |ag ps=>
     cases a<;>simp only [qt_] at h<;>(try (cases h;done));rename_i cs;obtain ⟨us,rfl,k⟩:=z.ag;simp only [PS.outs];refine ih.2 ps cs us os (by simp at hn;omega) (k.mono fun a v _ h=>h.flat) (fun a ha => ?_) h;have:∃ v,RF E w x G a v:=by
      clear z B h;induction cs generalizing us with
      |nil=>cases ha
      |cons c cs ih2=>cases us with
       |nil=>exact k.elim
       |cons u us=>
        rcases List.mem_cons.1 ha with rfl|ha
        . exact ⟨u,k.1⟩
        . exact ih2 us k.2 ha
     obtain ⟨v,I⟩:=this;have J:Used x (cs.flatMap AV.refs):=B;exact I.refsT (J.mem ha)
  . cases ps with
    |nil=>
     cases az with
     |cons=>simp [fy_] at h
     |nil=>
      cases vs with
      |cons=>exact z.elim
      |nil=>
       simp only [fy_,Option.some.injEq] at h;subst h;exact ⟨by simp only [PS.outsAll];trivial,fun o m=>by cases m⟩
    |cons p ps=>
     cases az with
     |nil=>simp [fy_] at h
     |cons a az=>
      cases vs with
      |nil=>exact z.elim
      |cons v vs=>
       simp only [fy_] at h;cases S:qt_ p a with
       |none=>rw [S] at h;cases h
       |some l=>
        rw [S] at h;simp only at h;cases O:fy_ ps az with
        |none=>rw [O] at h;cases h
        |some l'=>
         rw [O] at h;simp only [Option.some.injEq] at h;subst h;obtain ⟨k1,k2⟩:=ih.1 p a v l (by simp at hn;omega) z.1 (B a (List.mem_cons_self ..)) S;obtain ⟨j1,j2⟩:=ih.2 ps az vs l' (by simp at hn;omega) z.2 (fun a ha=>B a (List.mem_cons_of_mem _ ha)) O;simp only [PS.outsAll];exact ⟨k1.append j1,fun o m=>(List.mem_append.1 m).elim (k2 o) (j2 o)⟩
theorem out_ok [ai_]{x:X}{ps:List PS}{az:List AV}{vs:List Value}{os:List AV} (k:AllF (RT E w x G) az vs) (m:∀ a ∈ az,Used x a.refsT) (h:fy_ ps az=some os) :
  AllF (RT E w x G) os (PS.outsAll ps vs)/\∀ o ∈ os,Used x o.refsT:=(out_aux (SizeOf.sizeOf ps+1)).2 ps az vs os (Nat.lt_succ_self _) k m h
structure Began (E:Env) (w:World) (F:Nat->Prop) (φ:Nat->Nat) (e:Nat) (Vs:List Value) (v:List AV) (b:List (Option Blk)) (G:ao_):Prop where
 mem:Mem E (X.ofL b) w G
 ent:Ent e (X.ofL b)
 slots:AllF (RT E w (X.ofL b) G) v Vs
 used:∀ a ∈ v,Used (X.ofL b) a.refsT
 ext:∀ c,G.φ 0 c≠0↔(F c/\φ c=0)
 ext0:(X.ofL b).h 0=some (.ext none)
 inF:∀ c,Fof (X.ofL b) G c->F c
 u0:(X.ofL b).u 0=true
theorem entry_ok [ai_]{e:Nat}(he:0<e){F:Nat->Prop}{avs:List AV}{Vs:List Value}{φ:Nat->Nat}(S:RL E w F avs Vs φ)(h1:∀ b,φ b<=1)(Y:∀ b,F b->b<w.heap.size)(hgl:Glob E w F){κ:D ω}(h:tg_ e avs κ=some r) :
  ∃ v b G,κ v b=some r/\Began E w F φ e Vs v b G:=by
 classical
 let G:ao_:=⟨fun _=>undef,fun _=>[],fun r b=>if r=0 then (if F b/\φ b=0 then 1 else 0) else if r=1000003 then (if F b then 1 else 0) else 0,fun _=>0⟩
 let x0:X:=⟨fun r=>cond (Nat.beq r 1000003) (some (.ext none)) none,fun r=>Nat.beq r 1000003⟩
 have hx:∀ r blk,lo_.h r=some blk->r=0/\blk = .ext none:=by
  intro r blk hr;simp only [lo_] at hr;cases hb:Nat.beq r 0 with
  |false=>rw [hb] at hr;cases hr
  |true=>rw [hb] at hr;exact ⟨df_.1 hb,(Option.some.inj hr).symm⟩
 have B:∀ b,Fof lo_ G b↔F b/\φ b=0:=by
  intro b;constructor
  . rintro ⟨r,blk,k1,k2⟩
    obtain ⟨rfl,rfl⟩:=hx r blk k1;simp only [G,if_true] at k2;by_cases hc:F b/\φ b=0
    . exact hc
    . rw [if_neg hc] at k2;exact absurd rfl k2
  . intro hc
    exact ⟨0,.ext none,rfl,by simp only [G,if_true];rw [if_pos hc];decide⟩
 have I:∀ b,F b->Fof x0 G b:=fun b hb=>⟨1000003,.ext none,by simp [x0],by simp [G,hb]⟩
 have hφF:∀ b,φ b≠0->F b:=fun b hb=>(S.low b hb).1;have hA:fH_ E x0 w G lo_ lo_ w G F (fun b=>φ b+0):=by
  refine ⟨⟨rfl,rfl,rfl,Nat.le_refl _,fun _ _ _=>rfl,fun b hb hF=>I b ((B b).1 hF).1,fun r hr => ?_,fun r blk' V hr => ?_,fun r b V hr => ?_⟩,fun b hb=>((B b).1 hb).1,fun b hb=>hφF b (by omega),fun b hb hF => ?_,fun b=>by have:=h1 b;omega,fun b hb _=>I b (hφF b (by omega)),fun b hb=>(S.low b (by omega)).2,fun b hb => ?_,fun r blk hr => ?_,fun r blk hr => ?_,fun r r' blk blk' b k1 k2 _ _ => ?_,fun r q1 hr=>by have:=(hx _ _ hr).2;cases this⟩
  . have:=df_.1 (show Nat.beq r 1000003=true from hr)
    subst this;simp [lo_]
  . have:=df_.1 (show Nat.beq r 1000003=true from V)
    subst this;have:=(hx _ _ hr).1;omega
  . have:=df_.1 (show Nat.beq r 1000003=true from V)
    subst this;have:=(hx _ _ hr).1;omega
  . have:=((B b).1 hF).2;omega
  . by_cases hc:φ b=0
    . exact .inl ((B b).2 ⟨hb,hc⟩)
    . exact .inr (by omega)
  . exact .inl ⟨hr,rfl,rfl,rfl,fun _=>rfl⟩
  . obtain ⟨rfl,rfl⟩:=hx r blk hr
    rfl
  . rw [(hx _ _ k1).1,(hx _ _ k2).1]
 unfold tg_ at h;obtain ⟨x',G',k',as',z,p,hv,_⟩:=(mo_ 0 (SizeOf.sizeOf avs+1)).2 avs 1 lo_ G (fun _=>0) φ Vs ω _ r (Nat.lt_succ_self _) S (hA.congr fun b=>rfl) h;cases Z:Nat.beq k' e with
 |false=>rw [Z] at z;cases z
 |true=>
  rw [Z] at z;simp only [cond_true] at z;cases J:x'.h 0 with
  |none=>rw [J] at z;cases z
  |some blk=>
   rw [J] at z;cases blk with
   |box=>cases z
   |arr=>cases z
   |ext q0=>
    cases q0 with
    |some _=>cases z
    |none=>
    simp only at z;have O:∀ b,G'.φ 0 b=G.φ 0 b:=by
     rcases p.roots 0 _ J with ⟨_,_,_,_,k⟩|⟨k,_⟩
     . exact k
     . exact k.elim
    have hM:Mem E x' w G':=by
     refine ⟨fun r blk hr => ?_,p.used,fun r blk b hr => ?_,fun r blk b hr hb => ?_,p.sep,hgl.sub fun b hb=>p.inF b hb⟩
     . rcases p.roots r blk hr with ⟨k1,_⟩|⟨k1,_⟩
       . obtain ⟨rfl,rfl⟩:=hx r blk k1
         trivial
       . exact k1.ok p.inF hr
     . rcases p.roots r blk hr with ⟨k1,_,_,_,k5⟩|⟨_,k2⟩
       . obtain ⟨rfl,rfl⟩:=hx r blk k1
         rw [k5];simp only [G,if_true];split<;>omega
       . exact (k2 b).1
     . exact Y b (p.inF b ⟨r,blk,hr,hb⟩)
    have hL:∀ k,k<e->(List.range e)[k]?=some k:=fun k z=>by simp [z]
    have T:(List.range e).getD 0 0=0:=by have:=hL 0 he;simp [List.getD,this]
    refine ⟨_,_,G'.ren (List.range e),z,hM.ren List.nodup_range,⟨fun r hr => ?_,fun r m t st xs hr => ?_,fun r q hr => ?_⟩,?_,?_,fun c => ?_,?_,fun c hc=>p.inF c (jK_ hc),?_⟩
    . have:=qv_.1 hr
      simpa using this
    . obtain ⟨r',b0,e1,e2,e3,e4⟩:=ki_ hr
      cases b0<;>simp only [Blk.ren] at e4<;>(try (cases e4;done));simp only [Blk.arr.injEq] at e4;exact e4.2.2.1
    . obtain ⟨r',b0,e1,e2,e3,e4⟩:=ki_ hr
      cases b0<;>simp only [Blk.ren] at e4<;>(try (cases e4;done));rename_i q1;cases q1 with
      |none=>cases e4
      |some q1=>
       obtain ⟨blk,k1,k2,_⟩:=p.evo.same r' _ (p.hol _ _ e3) e3;have k3:blk = .ext none:=by
        simp only [x0] at k1;cases hz:Nat.beq r' 1000003 with
        |true=>rw [hz] at k1;simpa [eq_comm] using k1
        |false=>rw [hz] at k1;cases k1
       subst k3;cases k2
    . have U:AllF (RT E w x' G') as' Vs:=hv.mono fun a v _ h=>h.rt p.inF
      clear z hv h;induction as' generalizing Vs with
      |nil=>cases Vs with
       |nil=>trivial
       |cons=>exact U.elim
      |cons a az ih=>cases Vs with
       |nil=>exact U.elim
       |cons u us=>exact ⟨(RT.ren U.1).1,by
         clear ih;have h6:=U.2;clear U S;induction az generalizing us with
         |nil=>cases us with
          |nil=>trivial
          |cons=>exact h6.elim
         |cons a az ih=>cases us with
          |nil=>exact h6.elim
          |cons u us=>exact ⟨(RT.ren h6.1).1,ih us h6.2⟩⟩
    . intro a ha
      obtain ⟨a0,ha0,rfl⟩:=List.mem_map.1 ha;have U:AllF (RT E w x' G') as' Vs:=hv.mono fun a v _ h=>h.rt p.inF;have:∀ {az:List AV}{us:List Value},AllF (RT E w x' G') az us->a0 ∈ az->∃ u,RT E w x' G' a0 u:=by
       intro az;induction az with
       |nil=>intro us _ h;cases h
       |cons a az ih=>
        intro us h hm;cases us with
        |nil=>exact h.elim
        |cons u us=>
         rcases List.mem_cons.1 hm with rfl|hm
         . exact ⟨u,h.1⟩
         . exact ih h.2 hm
      obtain ⟨u,V⟩:=this U ha0;exact (RT.ren V).2
    . simp only [ao_.ren,T]
      rw [O];simp only [G,if_true];constructor
      . intro h
        by_cases hc:F c/\φ c=0
        . exact hc
        . rw [if_neg hc] at h;exact absurd rfl h
      . intro hc;rw [if_pos hc];decide
    . have:=hL 0 he
      simp only [X.ofL,l8_,List.getElem?_map,this,Option.map_some,J,Blk.ren]
    . exact qv_.2 (by simpa using he)
end
section
variable {ω:Type}
def AV.sameRoot:AV->AV->Bool
 |.rt p,.rt q=>Nat.beq p q
 |.pb p j,.pb q j'=>Nat.beq p q&&Nat.beq j j'
 |_,_=>false
def AV.allRoots:List AV->List AV->Bool
 |[],[]=>true
 |p::l,q::r=>AV.sameRoot p q&&AV.allRoots l r
 |_,_=>false
theorem rq_ {a b:AV}(h:AV.sameRoot a b=true):a=b:=by
 cases a<;>cases b<;>simp only [AV.sameRoot] at h<;>(try (cases h;done))
 . have:=df_.1 h;subst this;rfl
 . simp only [Bool.and_eq_true] at h
   have:=df_.1 h.1;have:=df_.1 h.2;subst_vars;rfl
theorem nr_:∀ {l r:List AV},AV.allRoots l r=true->l=r
 |[],[],_=>rfl
 |a::l,b::r,h=>by simp only [AV.allRoots,Bool.and_eq_true] at h;rw [rq_ h.1,nr_ h.2]
 |[],_::_,h=>by simp [AV.allRoots] at h
 |_::_,[],h=>by simp [AV.allRoots] at h
variable [aj_]
open aj_
variable {E:Env} {w:World} {G:ao_} {r:ω}
theorem res_ok [ai_]{c:Cx}(hc:CxOk E c){s:St}{a:Act}(h:Sim E c s a w G){g:ResultVar->Sem Value} (Z:∀ t,g (.tmp t)=pure (a.tmps.getD t undef))
  (p:∀ t T,g (.cell t T)=(asAddr (a.tmps.getD t undef) >>= fun l=>loadVar T l)):∀ (rs:List ResultVar)(vs:List AV),mN_ c s rs=some vs ->
  ∃ Vs,Vs.length=rs.length/\AllF (RT E w s.x G) vs Vs/\(∀ v ∈ vs,Used s.x v.refsT)/\(List.mapM g rs).run E.P w = .ok Vs w
 |[],vs,hr=>by simp only [mN_,Option.some.injEq] at hr;subst hr;exact ⟨[],rfl,trivial,fun v m=>(by cases m),rfl⟩
 |.tmp t::rs,vs,hr=>by
  simp only [mN_] at hr;cases u:mN_ c s rs with
  |none=>rw [u] at hr;cases hr
  |some vs1=>
   rw [u] at hr;simp only [Option.some.injEq] at hr;subst hr;obtain ⟨Vs,k1,k2,k3,k4⟩:=res_ok hc h Z p rs vs1 u;refine ⟨_::Vs,by simp [k1],⟨h.slot t,k2⟩,fun v m => ?_,?_⟩
   . rcases List.mem_cons.1 m with rfl|m
     . exact h.used t
     . exact k3 v m
   . simp only [List.mapM_cons,Sem.run_bind,Sem.run_pure,Result.andThen_ok,k4,Z]
 |.cell t T::rs,vs,hr=>by
  simp only [mN_] at hr;cases Y:c.tt T with
  |none=>rw [Y] at hr;cases hr
  |some td=>
   rw [Y] at hr;simp only at hr;have hs:=h.slot t;have hu:=h.used t;cases hp:s.tmps t<;>rw [hp] at hr hs hu<;>(try (cases hr;done));rename_i q off;simp only at hr;cases hq:s.x.h q with
   |none=>rw [hq] at hr;cases hr
   |some blk=>
    rw [hq] at hr;cases blk with
    |arr=>cases hr
    |ext=>cases hr
    |box bs=>
     simp only at hr;obtain ⟨u,U⟩:=cn_ hr;simp only [Bool.and_eq_true] at u;cases h3:mN_ c s rs with
     |none=>rw [h3] at U;cases U
     |some vs1=>
      rw [h3] at U;simp only [Option.some.injEq] at U;subst U;obtain ⟨Vs,k1,k2,k3,k4⟩:=res_ok hc h Z p rs vs1 h3;have hf:=hs.rf (by intro cs e;cases e) (by intro cs e;cases e) (by intro f cs e;cases e);have hV:=hf.2 bs hq;obtain ⟨⟨cur,T',O,S⟩,hφ,V⟩:=h.mem.root q _ hq;have I:=(hc.tt T).ok td Y;have hl:=df_.1 u.1;have k:=(S.drop off).take td.size;have J:=ee_ (gD_ O) off td.size;rw [Nat.zero_add] at J;have B:Used s.x (((bs.drop off).take td.size).flatMap AV.refs):=by intro z hz;obtain ⟨c,hc1,hc2⟩:=List.mem_flatMap.1 hz;exact V z (List.mem_flatMap.2 ⟨c,List.mem_of_mem_drop (List.mem_of_mem_take hc1),hc2⟩)
      refine ⟨_::Vs,by simp [k1],⟨RT.val I k hl,k2⟩,fun v m => ?_,?_⟩
      . rcases List.mem_cons.1 m with rfl|m
        . exact st_ B u.2
        . exact k3 v m
      . have:=mJ_ I J (k.len.trans hl)
        simp only [List.mapM_cons,Sem.run_bind,Sem.run_pure,Result.andThen_ok,k4,p,hV,asAddr,this]
def qq_ (vs:List Value):Value:=if vs.length=1 then vs.headD undef else .tuple (List.toArray vs)
theorem rr_ [ai_]{c:Cx}(hc:CxOk E c){s:St}{a:Act}(h:Sim E c s a w G){fn:Func}{rs:List ResultVar}{vs:List AV}(hr:fn.results=List.toArray rs)(k:mN_ c s rs=some vs) :
  ∃ Vs,Vs.length=rs.length/\AllF (RT E w s.x G) vs Vs/\(∀ v ∈ vs,Used s.x v.refsT)/\(results fn a.tmps).run E.P w = .ok (qq_ Vs) w:=by
 unfold results;rw [hr];simp only [List.mapM_toArray,Sem.run_bind,Sem.run_map,Sem.run_pure]
 suffices ∀ g:ResultVar->Sem Value,(∀ t,g (.tmp t)=pure (a.tmps.getD t undef))->(∀ t T,g (.cell t T)=(asAddr (a.tmps.getD t undef) >>= fun l=>loadVar T l)) ->
   ∃ Vs:List Value,Vs.length=rs.length/\AllF (RT E w s.x G) vs Vs/\(∀ v ∈ vs,Used s.x v.refsT)/\((((List.mapM g rs).run E.P w).andThen fun a w'=>Result.ok a.toArray w').andThen fun a w'=>Result.ok (if h:a.size=1 then a[0] else Value.tuple a) w') = .ok (qq_ Vs) w from
  this _ (fun t=>rfl) (fun t T=>rfl)
 intro g p m;obtain ⟨Vs,k1,k2,k3,k4⟩:=res_ok hc h p m rs vs k;refine ⟨Vs,k1,k2,k3,?_⟩;rw [k4];simp only [Result.andThen_ok,qq_,List.size_toArray]
 congr 1
 split
 . rename_i u
   obtain ⟨v,k⟩:=List.length_eq_one_iff.1 u;subst k;rfl
 . rfl
theorem tG_ {F:Nat->Prop}{out:List AV}{vs os:List Value}{φ:Nat->Nat} (h:RL E w F out (vs++os) φ):RL E w F (rvOf vs.length out::out.drop vs.length) (qq_ vs::os) φ:=by
 have hl:=h.length;have e:out=out.take vs.length++out.drop vs.length:=(List.take_append_drop _ _).symm;rw [e] at h;obtain ⟨us,us',φ₁,φ₂,e1,k,p,m⟩:=RL.split h;have l1:us.length=vs.length:=by rw [<-k.length,List.length_take];simp at hl;omega
 obtain ⟨rfl,rfl⟩:=List.append_inj e1.symm l1;unfold rvOf qq_;by_cases hc:us.length=1
 . rw [hc] at k ⊢
   simp only [if_true];cases us with
   |nil=>cases hc
   |cons u us=>
    cases us with
    |cons=>simp at hc
    |nil=>
     have:∃ a,out.take 1=[a]/\out.headD .u=a:=by
      cases out with
      |nil=>simp at hl
      |cons a l=>exact ⟨a,rfl,rfl⟩
     obtain ⟨a,e2,e3⟩:=this;rw [e2] at k;show RL E w F (cond (Nat.beq 1 1) (out.headD .u) _::_) (u::_) φ;rw [e3];exact k.cons p m
 . rw [if_neg hc,g2_ hc,cond_false]
   exact .tu _ us φ₁ _ _ φ₂ _ k p m
theorem fn_sound [ai_]{c:Cx}(hc:CxOk E c)(hK:KPar c)(hm:E.P.follows .mixedOrders=true){f:FuncId}{fn:Func}{B:Code}(hfn:E.P.funcs[f]?=some fn)(Z:fn.body=some B){rs:List ResultVar}(hres:fn.results=List.toArray rs)(hnt:fn.ntmps=c.nt)
  {e:Nat} (he:0<e) {ann:Ann} {lf:LF ω} {rsh:List Sh} {rps ps:List PS} {outs:List AV} {fin:List AV->Option ω} {inj:ω->List AV} (hfin:∀ o r,fin o=some r->o=inj r)
  {avs:List AV} (hn:Nat.ble avs.length c.nt=true)
  (hrun:tg_ e avs (fun v b=>match fy_ ps v with
    |some o=>cond (AV.allRoots o outs) (run c e ann lf (retK c rsh rps rs outs fin) B 0 (retK c rsh rps rs outs fin) (fun _ _=>none) (St.ofC (tS_ avs.length) v b)) none
    |none=>none)=some r)
  (hcut:Cuts c e ann lf (retK c rsh rps rs outs fin) B) :
  ff_ E f avs (rvOf rs.length (inj r)) ((inj r).drop rs.length) ps:=by
 intro w F Vs φ hrl h1 hlow hgl;obtain ⟨v,b,G,J,u⟩:=entry_ok he hrl h1 hlow hgl hrun;cases ho:fy_ ps v with
 |none=>rw [ho] at J;cases J
 |some o=>
  rw [ho] at J;simp only at J;cases har:AV.allRoots o outs with
  |false=>rw [har] at J;cases J
  |true=>
   rw [har] at J;simp only [cond_true] at J;have:=nr_ har;subst this;obtain ⟨hO1,hO2⟩:=out_ok u.slots u.used ho;have hlen:Vs.length=avs.length:=hrl.length.symm;have hnle:avs.length<=c.nt:=Nat.le_of_ble_eq_true hn
   let a0:Act:={ tmps:=List.toArray Vs++Array.replicate (fn.ntmps - (List.toArray Vs).size) undef,defers:=[] }
   have hget:(tS_ avs.length).map (fun p=>a0.tmps.getD p.1 undef)=Vs:=by
    apply List.ext_getElem?;intro i;simp only [tS_,List.map_map,List.getElem?_map];by_cases hi:i<avs.length
    . have Y:i<Vs.length:=by omega
      simp [a0,hi,Y]
      rw [Array.getElem?_append_left (by simpa using Y)];simp [Y]
    . simp [hi,show Vs.length<=i by omega]
   have hsl:=rB_ (P:=RT E w (X.ofL b) G) (Q:=fun v=>Used (X.ofL b) v.refsT) (a:=fun t=>a0.tmps.getD t undef) (fun v=>RT.scl trivial) cx_ (live:=tS_ avs.length) (vals:=v) (by rw [hget];exact u.slots) u.used;have hsim:Sim E c (St.ofC (tS_ avs.length) v b) a0 w G:=⟨u.mem,rfl,by simp [a0,hnt];omega,fun t=>(hsl t).1,fun t=>(hsl t).2⟩
   have hwp:=run_wp (f:=⟨c,e,ann,lf,retK c rsh rps rs o fin,X.ofL b,w,G⟩) ⟨hc,u.ent,hK,hm⟩ hcut B 0 (retK c rsh rps rs o fin) (fun _ _=>none) (fun key p h=>h) _ a0 w G hsim (Evo.refl _ _ _) J;refine calls_of_wp hfn Z (wp_mono hwp fun ex a1 w1 hq => ?_);have fin_:Here E ⟨c,e,ann,lf,retK c rsh rps rs o fin,X.ofL b,w,G⟩ r (retK c rsh rps rs o fin) a1 w1->a1.defers=[]/\∃ v,(results fn a1.tmps).run E.P w1 = .ok v w1/\∃ V φ',Ending.returned v = .returned V /\
     RL E w1 (fun b=>(F b/\φ b=0)\/φ' b≠0) (rvOf rs.length (inj r)::(inj r).drop rs.length) (V::PS.outsAll ps Vs) φ'/\(∀ b,φ' b<=1)/\(∀ b,φ' b≠0->φ b≠0\/w.heap.size<=b) /\
     w1.os=w.os/\w1.tape=w.tape/\w1.output=w.output/\w.heap.size<=w1.heap.size/\∀ b,b<w.heap.size->φ b=0->w1.heap[b]?=w.heap[b]?:=by
    rintro ⟨s,G1,k1,k2,k3⟩
    have k3:Evo (X.ofL b) w G s.x w1 G1:=k3;unfold retK at k1;cases U:mN_ c s rs with
    |none=>rw [U] at k1;cases k1
    |some vs0=>
    rw [U] at k1;simp only at k1;obtain ⟨Rs,i1,i2,i3,i4⟩:=rr_ hc k2 hres U;refine ⟨k2.defers,_,i4,?_⟩;have T:AllF (RT E w1 s.x G1) (vs0++o) (Rs++PS.outsAll ps Vs):=AllF.append i2 (hO1.mono fun a v ha h=>h.evolve k3 (hO2 a ha));obtain ⟨x2,G2,vs,j1,j2,j3,j4⟩:=h1_ _ _ _ _ _ _ _ k2.mem T (fun a ha=>(List.mem_append.1 ha).elim (i3 a) fun ha=>Used.evolve k3 (hO2 a ha)) k1;cases hh:cM_ x2 rps vs with
    |none=>rw [hh] at j1;cases j1
    |some z=>
     obtain ⟨x3,avs',ws,q⟩:=z;rw [hh] at j1;cases q with
     |cons=>cases j1
     |nil=>
      simp only at j1;cases O:x3.h 0 with
      |none=>rw [O] at j1;cases j1
      |some blk=>
       rw [O] at j1;cases blk with
       |box=>cases j1
       |arr=>cases j1
       |ext q0=>
        cases q0 with
        |some _=>cases j1
        |none=>
        simp only at j1;have:=hfin _ _ j1;subst this;obtain ⟨φ',k⟩:=lC_ j2.2 rps vs _ x2 x3 _ ws [] (Sub.refl x2) j3 hh;have m:Evo (X.ofL b) w G x2 w1 G2:=k3.trans j2.1;have S:x2.h 0=some (.ext none):=k.sub.1 0 _ O;have I:=fun c=>m.ext 0 c u.u0 S;have hφ'ext:∀ c,φ' c≠0->G.φ 0 c=0:=fun c hc=>by refine Classical.byContradiction fun h0=>k.out c hc ⟨0,.ext none,O,?_⟩;rw [(I c).1];exact h0
        refine ⟨_,φ',rfl,?_,k.one,fun c hc => ?_,m.os,m.tape,m.output,m.size,fun c hc h0 => ?_⟩
        . have h5:=k.rl (fun b=>(F b/\φ b=0)\/φ' b≠0) (fun c hc => ?_) (fun s hs=>by cases hs) (fun c hc=>.inr hc)
          . have:=tG_ h5
            rwa [i1] at this
          . rcases hc with hc|hc
            . exact ⟨0,.ext none,S,by rw [(I c).1];exact (u.ext c).2 hc⟩
            . exact k.from_ c hc
        . by_cases hlt:c<w.heap.size
          . left
            intro h0;have h6:=m.fresh c hlt (k.from_ c hc);have h7:=u.inF c h6;exact (u.ext c).2 ⟨h7,h0⟩ (hφ'ext c hc)
          . exact .inr (by omega)
        . by_cases hF:F c
          . exact (I c).2 ((u.ext c).2 ⟨hF,h0⟩) hc
          . exact m.heap c hc fun hc'=>hF (u.inF c hc')
   cases ex with
   |normal=>exact fin_ hq
   |ret=>exact fin_ hq
   |exit id=>obtain ⟨s,G1,k1,_⟩:=hq;cases k1
   |goto=>exact hq.elim
   |panic=>exact hq.elim
   |outgrown=>exact hq.elim
end
def cw_ {α:Type}(z:α)(step:α->α):Nat->α
 |0=>z
 |n+1=>step (cw_ z step n)
def kW_ {α:Type}(xs:List α)(i j:Int):Option (List α) :=
 cond (decide (0<=i)&&(decide (i<=j)&&decide (j<=(xs.length:Int)))) (some (xs.take i.toNat++xs.drop j.toNat)) none
def kV_ {α:Type}(bytes:Nat)(xs:List α)(i:Int)(ys:List α):Option (List α) :=
 cond (decide (0<=i)&&decide (i<=(xs.length:Int))) (cond (decide ((xs.length+ys.length)*bytes<=140737488355328)) (some (xs.take i.toNat++ys++xs.drop i.toNat)) none) none
def nItoa (n:Int):Option Bs:=cond (decide (-9223372036854775808<=n)&&decide (n<=9223372036854775807)) (some (Lib.itoa n)) none
def nJoin (xs:List Bs)(sep:Bs):Option Bs:=cond (decide (xs.length<=140737488355328)&&decide ((Lib.join xs sep).length<=140737488355328)) (some (Lib.join xs sep)) none
def gX_ (s old new:Bs):Option Bs:=cond (decide (s.length<4294967281)&&(decide (1<=old.length)&&decide (s.length+Lib.count s old*new.length<=140737488355328))) (some (Lib.replaceAll s old new)) none
def sN_ (s sep:Bs):Option Int:=match sep with
 |[c]=>some (Lib.indexByte s c)
 |_=>none
def pk_ (s sep:Bs):Option Int:=cond (decide (s.length<4294967281)) (some (Lib.index s sep)) none
def sM_ (s sep:Bs):Option (List Bs):=cond (decide (s.length<4294967281)&&decide (1<=sep.length)) (some (Lib.split s sep)) none
def endOf (s:Bs):Lib.NumEnd Int->Int×Bool
 |.ok v=>(v,true)
 |.range=>(Lib.atoiSat s,false)
 |_=>(0,false)
def nAtoi (s:Bs):Option (Int×Bool):=cond (decide (s.length<=281474976710656)) (some (endOf s (Lib.atoiAll s))) none
section
variable {ω:Type} {r:ω}
def uc {α:Type}:List α->(α->List α->Option ω)->Option ω
 |a::l,κ=>κ a l
 |[],_=>none
def un {α:Type}:List α->Option ω->Option ω
 |[],κ=>κ
 |_::_,_=>none
theorem en_ {α:Type}{v:List α}{κ:α->List α->Option ω}(h:uc v κ=some r):∃ a l,v=a::l/\κ a l=some r:=by
 cases v with
 |nil=>cases h
 |cons a l=>exact ⟨a,l,rfl,h⟩
theorem j0_ {α:Type}{v:List α}{κ:Option ω}(h:un v κ=some r):v=[]/\κ=some r:=by
 cases v with
 |nil=>exact ⟨rfl,h⟩
 |cons=>cases h
def gy_ (k:IntKind)(a:AV)(κ:Int->Option ω):Option ω:=match a with
 |.i k' n=>cond (decide (k'=k)) (κ n) none
 |_=>none
theorem d5_ {k:IntKind}{a:AV}{κ:Int->Option ω}(h:gy_ k a κ=some r):∃ n,a = .i k n/\κ n=some r:=by cases a<;>(try (cases h;done));obtain ⟨p,m⟩:=cn_ h;have:=of_decide_eq_true p;subst this;exact ⟨_,rfl,m⟩
def getB (a:AV)(κ:Bool->Option ω):Option ω:=match a with
 |.b q=>κ q
 |_=>none
theorem rQ_ {a:AV}{κ:Bool->Option ω}(h:getB a κ=some r):∃ n,a = .b n/\κ n=some r:=by cases a<;>(try (cases h;done));exact ⟨_,rfl,h⟩
def getEr (a:AV)(κ:Bool->Option ω):Option ω:=match a with
 |.er q=>κ q
 |_=>none
theorem getEr_ok {a:AV}{κ:Bool->Option ω}(h:getEr a κ=some r):∃ n,a = .er n/\κ n=some r:=by cases a<;>(try (cases h;done));exact ⟨_,rfl,h⟩
def getS (a:AV)(κ:Bs->Option ω):Option ω:=match a with
 |.s q=>κ q
 |_=>none
theorem ne_ {a:AV}{κ:Bs->Option ω}(h:getS a κ=some r):∃ n,a = .s n/\κ n=some r:=by cases a<;>(try (cases h;done));exact ⟨_,rfl,h⟩
def M.same:M->M->Bool
 |.v,.v | .s,.s | .d,.d=>true
 |_,_=>false
theorem M.same_eq {m m':M}(h:M.same m m'=true):m=m':=by cases m<;>cases m'<;>first|rfl|cases h
def getSl (m:M)(t:TC)(a:AV) (κ:List (El t)->Option ω):Option ω:=match a with
 |.sl m' t' xs=>cond (M.same m' m) (if h:t'=t then κ (h ▸ xs) else none) none
 |_=>none
theorem getSl_ok {m:M}{t:TC}{a:AV}{κ:List (El t)->Option ω}(h:getSl m t a κ=some r):∃ xs,a = .sl m t xs/\κ xs=some r:=by
 cases a<;>(try (cases h;done));rename_i m' t' xs;obtain ⟨p,k⟩:=cn_ h;have:=M.same_eq p;subst this;by_cases e:t'=t
 . subst e
   simp only [dite_true] at k;exact ⟨xs,rfl,k⟩
 . simp [e] at k
def isRt (q:Nat)(a:AV)(κ:Option ω):Option ω:=match a with
 |.rt p=>cond (Nat.beq p q) κ none
 |_=>none
theorem isRt_ok {q:Nat}{a:AV}{κ:Option ω}(h:isRt q a κ=some r):a = .rt q/\κ=some r:=by cases a<;>(try (cases h;done));obtain ⟨m,k⟩:=cn_ h;have:=df_.1 m;subst this;exact ⟨rfl,k⟩
def isPb (q off:Nat)(a:AV)(κ:Option ω):Option ω:=match a with
 |.pb p o=>cond (Nat.beq p q&&Nat.beq o off) κ none
 |_=>none
theorem isPb_ok {q off:Nat}{a:AV}{κ:Option ω}(h:isPb q off a κ=some r):a = .pb q off/\κ=some r:=by cases a<;>(try (cases h;done));obtain ⟨k,m⟩:=cn_ h;simp only [Bool.and_eq_true] at k;have e1:=df_.1 k.1;have e2:=df_.1 k.2;subst e1 e2;exact ⟨rfl,m⟩
def getAg (a:AV)(κ:List AV->Option ω):Option ω:=match a with
 |.ag cs=>κ cs
 |_=>none
theorem getAg_ok {a:AV}{κ:List AV->Option ω}(h:getAg a κ=some r):∃ cs,a = .ag cs/\κ cs=some r:=by cases a<;>(try (cases h;done));exact ⟨_,rfl,h⟩
def getTu (a:AV)(κ:List AV->Option ω):Option ω:=match a with
 |.tu cs=>κ cs
 |_=>none
theorem getTu_ok {a:AV}{κ:List AV->Option ω}(h:getTu a κ=some r):∃ cs,a = .tu cs/\κ cs=some r:=by cases a<;>(try (cases h;done));exact ⟨_,rfl,h⟩
def getBx (a:AV)(κ:List AV->Option ω):Option ω:=match a with
 |.bx cs=>κ cs
 |_=>none
theorem getBx_ok {a:AV}{κ:List AV->Option ω}(h:getBx a κ=some r):∃ cs,a = .bx cs/\κ cs=some r:=by cases a<;>(try (cases h;done));exact ⟨_,rfl,h⟩
def getPc (off:Nat)(a:AV)(κ:List AV->Option ω):Option ω:=match a with
 |.pc cs o=>cond (Nat.beq o off) (κ cs) none
 |_=>none
theorem getPc_ok {off:Nat}{a:AV}{κ:List AV->Option ω}(h:getPc off a κ=some r):∃ cs,a = .pc cs off/\κ cs=some r:=by cases a<;>(try (cases h;done));obtain ⟨m,k⟩:=cn_ h;have:=df_.1 m;subst this;exact ⟨_,rfl,k⟩
def getClo (f:Nat)(a:AV)(κ:List AV->Option ω):Option ω:=match a with
 |.clo g cs=>cond (Nat.beq g f) (κ cs) none
 |_=>none
theorem getClo_ok {f:Nat}{a:AV}{κ:List AV->Option ω}(h:getClo f a κ=some r):∃ cs,a = .clo f cs/\κ cs=some r:=by cases a<;>(try (cases h;done));obtain ⟨m,k⟩:=cn_ h;have:=df_.1 m;subst this;exact ⟨_,rfl,k⟩
def isNils (a:AV)(κ:Option ω):Option ω:=match a with
 |.nils=>κ
 |_=>none
theorem isNils_ok {a:AV}{κ:Option ω}(h:isNils a κ=some r):a = .nils/\κ=some r:=by cases a<;>(try (cases h;done));exact ⟨rfl,h⟩
def isNili (a:AV)(κ:Option ω):Option ω:=match a with
 |.nili=>κ
 |_=>none
theorem isNili_ok {a:AV}{κ:Option ω}(h:isNili a κ=some r):a = .nili/\κ=some r:=by cases a<;>(try (cases h;done));exact ⟨rfl,h⟩
def isU (a:AV)(κ:Option ω):Option ω:=match a with
 |.u=>κ
 |_=>none
theorem isU_ok {a:AV}{κ:Option ω}(h:isU a κ=some r):a = .u/\κ=some r:=by cases a<;>(try (cases h;done));exact ⟨rfl,h⟩
def noBlk (a:Option Blk)(κ:Option ω):Option ω:=match a with
 |none=>κ
 |some _=>none
theorem noBlk_ok {a:Option Blk}{κ:Option ω}(h:noBlk a κ=some r):a=none/\κ=some r:=by
 cases a with
 |none=>exact ⟨rfl,h⟩
 |some=>cases h
def isExt (a:Option Blk)(κ:Option ω):Option ω:=match a with
 |some (.ext none)=>κ
 |_=>none
theorem isExt_ok {a:Option Blk}{κ:Option ω}(h:isExt a κ=some r):a=some (.ext none)/\κ=some r:=by
 cases a with
 |none=>cases h
 |some b=>
  cases b with
  |ext q=>
   cases q with
   |none=>exact ⟨rfl,h⟩
   |some _=>cases h
  |_=>cases h
def getBox (a:Option Blk)(κ:List AV->Option ω):Option ω:=match a with
 |some (.box cs)=>κ cs
 |_=>none
theorem getBox_ok {a:Option Blk}{κ:List AV->Option ω}(h:getBox a κ=some r):∃ cs,a=some (.box cs)/\κ cs=some r:=by
 cases a with
 |none=>cases h
 |some b=>cases b<;>first|exact ⟨_,rfl,h⟩|cases h
def getArr (m:M)(t:TC)(st:Nat)(a:Option Blk) (κ:List (El t)->Option ω):Option ω:=match a with
 |some (.arr m' t' st' xs)=>cond (M.same m' m&&Nat.beq st' st) (if h:t'=t then κ (h ▸ xs) else none) none
 |_=>none
theorem getArr_ok {m:M}{t:TC}{st:Nat}{a:Option Blk}{κ:List (El t)->Option ω}(h:getArr m t st a κ=some r):∃ xs,a=some (.arr m t st xs)/\κ xs=some r:=by
 cases a with
 |none=>cases h
 |some b=>
  cases b<;>(try (cases h;done));rename_i m' t' st' xs;obtain ⟨p,k⟩:=cn_ h;simp only [Bool.and_eq_true] at p;have e1:=M.same_eq p.1;have e2:=df_.1 p.2;subst e1 e2;by_cases e:t'=t
  . subst e
    simp only [dite_true] at k;exact ⟨xs,rfl,k⟩
  . simp [e] at k
inductive Sk where
 |k
 |sl (m:M) (t:TC)
 |ag (l:List Sk)
def fix1:Sk->AV->AV
 |.sl m t,.nils=>.sl m t []
 |.sl .s _,.sl .d t' xs=>.sl .s t' xs
 |_,a=>a
def fixL:List Sk->List AV->List AV
 |s::ss,a::az=>fix1 s a::fixL ss az
 |_,az=>az
def fix:Sk->AV->AV
 |.ag l,.ag cs=>.ag (fixL l cs)
 |s,a=>fix1 s a
def ud_:List Sk->List AV->List AV
 |s::ss,a::az=>fix s a::ud_ ss az
 |_,az=>az
variable [aj_]
variable {E:Env} {w:World} {F:Nat->Prop}
theorem RL.shrink {F':Nat->Prop}{l vs φ}(h:RL E w F l vs φ)(hφ:∀ b,φ b≠0->F' b)(k:∀ b,F' b->F b):RL E w F' l vs φ :=
 h.frame (Nat.le_refl _) (fun b hb=>⟨rfl,hφ b hb⟩) (fun b _ hn=>⟨rfl,fun h=>hn (k b h)⟩)
theorem f7_ [ai_](m:M)(t:TC) (xs:List (El t)):(aT_ m t xs).map AV.asView=aT_ .v t xs:=by
 simp only [aT_,List.map_flatMap]
 congr 1
 funext x
 exact ai_.view m t x
def io_ (E:Env)(w:World)(F:Nat->Prop)(l:List AV)(vs:List Value)(φ:Nat->Nat):Prop :=
 ∃ δ:Nat->Nat,(∀ b,δ b<=φ b)/\RL E w (fun b=>F b/\δ b=0) l vs (fun b=>φ b - δ b)
theorem io_.none {l vs φ}(h:RL E w F l vs φ):io_ E w F l vs φ :=
 ⟨fun _=>0,fun b=>Nat.zero_le _,h.shrink (fun b hb=>⟨(h.low b hb).1,rfl⟩) fun b hb=>hb.1⟩
theorem fix1_ok [ai_]{s:Sk}{a:AV}{v:Value}{φ:Nat->Nat}(h:RL E w F [a] [v] φ)(I:∀ b,φ b<=1):io_ E w F [fix1 s a] [v] φ:=by
 cases s<;>(try exact io_.none h);rename_i m t;cases a<;>(try (cases m<;>exact io_.none h))
 case nils=>
  refine io_.none ?_;cases h with
  |scal _ _ _ _ _ hs hn=>
   simp only [scl] at hs;subst hs;have k:=(RL.nil_inv hn).2;cases m with
   |v=>exact .view t [] none 0 0 [] (fun _=>0) _ _ _ ⟨rfl,Nat.le_refl _⟩ (.nil _ fun _=>rfl) (fun _=>rfl) (fun J=>by omega) (.nil _ k)
   |s=>exact .own .s t [] _ [] (fun _=>0) _ _ (fun _=>0) _ (by decide) (World.ownsRow_nil _ _ _ _) (.nil _ fun _=>rfl) (fun b hb=>by simp [cG_] at hb) (.nil _ fun _=>rfl) (fun b=>by rw [k b];simp [cG_])
   |d=>exact .own .d t [] _ [] (fun _=>0) _ _ (fun _=>0) _ (by decide) (World.ownsRow_nil _ _ _ _) (.nil _ fun _=>rfl) (fun b hb=>by simp [cG_] at hb) (.nil _ fun _=>rfl) (fun b=>by rw [k b];simp [cG_])
 case sl m' t' xs=>
  cases m<;>cases m'<;>(try exact io_.none h);cases h with
  |scal _ _ _ _ _ hs _=>exact hs.elim
  |own _ _ _ _ vals φ₁ _ _ φ₂ _ hm z u B hn he=>
   have k:=(RL.nil_inv hn).2;refine ⟨φ₁,fun b=>by rw [he];omega,?_⟩;have hs:=u.seen (F':=fun b=>F b/\φ₁ b=0) (fun b hb hc=>hb hc.2) (fun b _ hn hc=>hn hc.1);have p:RL E w (fun b=>F b/\φ₁ b=0) (aT_ .v t' xs) vals (fun _=>0):=by rw [f7_] at hs;exact hs
   exact .own .s t' xs v vals (fun _=>0) _ _ (fun _=>0) _ (by decide) z p (fun b hb=>⟨B b hb,by have:=I b;rw [he] at this;omega⟩) (.nil _ fun _=>rfl) (fun b=>by rw [he,k b];omega)
theorem io_.cons {a:AV}{v:Value}{l:List AV}{vs:List Value}{φ₁ φ₂ φ:Nat->Nat}(k1:io_ E w F [a] [v] φ₁)(k2:io_ E w F l vs φ₂)(e:∀ b,φ b=φ₁ b+φ₂ b)(m:∀ b,φ b<=1)(k:∀ b,φ b≠0->F b):io_ E w F (a::l) (v::vs) φ:=by
 obtain ⟨δ₁,a1,a2⟩:=k1;obtain ⟨δ₂,b1,b2⟩:=k2;refine ⟨fun b=>δ₁ b+δ₂ b,fun b=>by have:=a1 b;have:=b1 b;have:=e b;show δ₁ b+δ₂ b<=φ b;omega,?_⟩;have s1:RL E w (fun b=>F b/\δ₁ b+δ₂ b=0) [a] [v] (fun b=>φ₁ b - δ₁ b):=a2.shrink (fun b hb=>by
  have hb:φ₁ b - δ₁ b≠0:=hb;have:=a1 b;have:=b1 b;have:=m b;have:=e b;exact ⟨k b (by omega),by omega⟩) fun b hb=>⟨hb.1,by have:=hb.2;omega⟩
 have s2:RL E w (fun b=>F b/\δ₁ b+δ₂ b=0) l vs (fun b=>φ₂ b - δ₂ b):=b2.shrink (fun b hb=>by
  have hb:φ₂ b - δ₂ b≠0:=hb;have:=a1 b;have:=b1 b;have:=m b;have:=e b;exact ⟨k b (by omega),by omega⟩) fun b hb=>⟨hb.1,by have:=hb.2;omega⟩
 exact s1.cons s2 (fun b=>by have:=a1 b;have:=b1 b;have:=e b;show φ b - (δ₁ b+δ₂ b)=(φ₁ b - δ₁ b)+(φ₂ b - δ₂ b);omega)
theorem fixL_ok [ai_]:∀ {ss:List Sk}{az:List AV}{vs:List Value}{φ:Nat->Nat},RL E w F az vs φ->(∀ b,φ b<=1)->io_ E w F (fixL ss az) vs φ
 |[],az,vs,φ,h,_=>by cases az<;>exact io_.none h
 |s::ss,[],vs,φ,h,_=>io_.none h
 |s::ss,a::az,vs,φ,h,k=>by have m:=fun b hb=>(h.low b hb).1;obtain ⟨v,vs',φ₁,φ₂,rfl,k1,k2,e⟩:=RL.uncons h;exact (fix1_ok k1 fun b=>by have:=k b;rw [e] at this;omega).cons (fixL_ok k2 fun b=>by have:=k b;rw [e] at this;omega) e k m
theorem fix_ok [ai_]{s:Sk}{a:AV}{v:Value}{φ:Nat->Nat}(h:RL E w F [a] [v] φ)(k:∀ b,φ b<=1):io_ E w F [fix s a] [v] φ:=by
 by_cases hc:∃ l cs,s = .ag l/\a = .ag cs
 . obtain ⟨l,cs,rfl,rfl⟩:=hc
   cases h with
   |scal _ _ _ _ _ hs _=>exact hs.elim
   |ag _ us φ₁ _ _ φ₂ _ k1 k2 he=>
    have m:=(RL.nil_inv k2).2;obtain ⟨δ,d1,d2⟩:=fixL_ok (ss:=l) k1 fun b=>by have:=k b;rw [he] at this;omega
    exact ⟨δ,fun b=>by rw [he];have:=d1 b;omega,.ag _ us _ _ _ (fun _=>0) _ d2 (.nil _ fun _=>rfl) (fun b=>by rw [he,m b];omega)⟩
 . have:fix s a=fix1 s a:=by
    cases s<;>(try rfl);cases a<;>(try rfl);exact absurd ⟨_,_,rfl,rfl⟩ hc
   rw [this];exact fix1_ok h k
theorem ta_ [ai_]:∀ {ss:List Sk}{az:List AV}{vs:List Value}{φ:Nat->Nat},RL E w F az vs φ->(∀ b,φ b<=1)->io_ E w F (ud_ ss az) vs φ
 |[],az,vs,φ,h,_=>by cases az<;>exact io_.none h
 |s::ss,[],vs,φ,h,_=>io_.none h
 |s::ss,a::az,vs,φ,h,k=>by have m:=fun b hb=>(h.low b hb).1;obtain ⟨v,vs',φ₁,φ₂,rfl,k1,k2,e⟩:=RL.uncons h;exact (fix_ok k1 fun b=>by have:=k b;rw [e] at this;omega).cons (ta_ k2 fun b=>by have:=k b;rw [e] at this;omega) e k m
theorem ff_.fix [ai_]{f:FuncId}{avs:List AV}{rv:AV}{outs:List AV}{ps:List PS}{ss:List Sk} (h:ff_ E f (ud_ ss avs) rv outs ps):ff_ E f avs rv outs ps:=by
 intro w F Vs φ m u k p;obtain ⟨δ,d1,d2⟩:=ta_ (ss:=ss) m u;refine (h w _ Vs _ d2 (fun b=>by have:=u b;omega) (fun b hb=>k b hb.1) (p.sub fun b hb=>hb.1)).mono ?_
 rintro e w' ⟨V,φ',rfl,k1,k2,k3,k4,k5,k6,k7,k8⟩
 refine ⟨V,φ',rfl,?_,k2,fun b hb => ?_,k4,k5,k6,k7,fun b hb B=>k8 b hb (by omega)⟩
 . have e:(fun b=>((F b/\δ b=0)/\φ b - δ b=0)\/φ' b≠0)=fun b=>(F b/\φ b=0)\/φ' b≠0:=by
    funext b
    have:=d1 b;refine propext (or_congr_left ⟨fun h=>⟨h.1.1,?_⟩,fun h=>⟨⟨h.1,?_⟩,?_⟩⟩)
    . have u:=h.1.2;have z:=h.2;omega
    . have:=h.2;omega
    . have:=h.2;omega
   rw [<-e];exact k1
 . rcases k3 b hb with h|h
   . exact .inl (by omega)
   . exact .inr h
end
section
def sclB:AV->Value->Bool
 |.i k n,.int k' n'=>decide (k=k')&&decide (n=n')
 |.b p,.bool q=>p==q
 |.s [],.string s=>Nat.beq s.size 0
 |.nils,.slice none 0 0=>true
 |.nilp,.pointer none=>true
 |.nili,.nilIface=>true
 |_,_=>false
def rp_:List AV->List Value->Bool
 |[],[]=>true
 |a::l,v::r=>sclB a v&&rp_ l r
 |_,_=>false
theorem sclB_ok {a:AV}{v:Value}(h:sclB a v=true):scl a v:=by
 unfold sclB at h;split at h<;>simp only [scl]<;>(try rfl)
 . simp only [Bool.and_eq_true,decide_eq_true_eq] at h
   rw [h.1,h.2]
 . have:=eq_of_beq h
   rw [this]
 . rename_i s
   have k:=Nat.eq_of_beq_eq_true h;obtain ⟨⟨l⟩⟩:=s;have:l=[]:=by
    cases l with
    |nil=>rfl
    |cons a l=>simp [ByteArray.size] at k
   subst this;rfl
 . cases h
theorem o3_:∀ {l:List AV}{r:List Value},rp_ l r=true->AllF scl l r
 |[],[],_=>trivial
 |a::l,v::r,h=>by simp only [rp_,Bool.and_eq_true] at h;exact ⟨sclB_ok h.1,o3_ h.2⟩
 |[],_::_,h=>by simp [rp_] at h
 |_::_,[],h=>by simp [rp_] at h
def descB (d:TypeDesc)(td:TD)(eid:TC->TypeId):Bool :=
 (match td.elem with
   |none=>true
   |some t=>match d with | .slice e=>Nat.beq e (eid t)|_=>false) &&
 (match td.kind with
   |none=>true
   |some k=>match d with | .int k'=>decide (k'=k)|_=>false) &&
 (cond td.isStr (match d with | .string=>true|_=>false) true) &&
 (cond td.isBool (match d with | .bool=>true|_=>false) true) &&
 (cond td.isIf (match d with | .interface _=>true|_=>false) true)
def lb_ (P:Program):List Field->List (Nat×Nat)->Bool
 |[],[]=>true
 |f::fs,p::ps=>Nat.beq f.offset p.1&&(match P.info? f.type with|some i=>Nat.beq i.size p.2|none=>false)&&Nat.blt 0 p.2&&lb_ P fs ps
 |_,_=>false
def cmpB (P:Program):Nat->List Field->List CK->Bool
 |_,[],[]=>true
 |k,f::fs,q::qs => !(f.name == "_")&&Nat.beq f.offset k&&P.plainKey f.type&&(match P.underlying f.type,q with
   |some (.int _),.i=>true
   |some .bool,.b=>true
   |some .string,.s=>true
   |_,_=>false)&&cmpB P (k+1) fs qs
 |_,_,_=>false
def tdB (P:Program)(eid:TC->TypeId)(T:TypeId)(td:TD):Bool :=
 match P.info? T,P.underlying T with
 |some i,some d=>
  Nat.beq i.size td.size&&Nat.blt 0 td.size&&(cond td.agg d.isRow (Nat.beq td.size 1 && !d.isRow)) &&
  (match i.zero with
    |some z=>Nat.beq td.zero.length td.size&&td.zero.all AV.one&&rp_ td.zero z.cells.toList
    |none=>false) &&
  (match td.fields with
    |[] => !td.agg
    |fs=>match d with
     |.struct gs=>lb_ P gs.toList fs
     |_=>false) &&
  descB d td eid &&
  (match td.cmp with
    |[]=>true
    |qs=>match d with
     |.struct gs=>cmpB P 0 gs.toList qs && !(P.stoodInHeld T) && !(P.eqGuardType P.depth T)
     |_=>false)
 |_,_=>false
theorem ox_ {P:Program}:∀ {fs:List Field}{ps:List (Nat×Nat)},lb_ P fs ps=true->fs.length=ps.length/\∀ (f off n:Nat),ps[f]?=some (off,n)->∃ fd:Field,fs[f]?=some fd/\fd.offset=off/\(P.info? fd.type).map (·.size)=some n/\0<n
 |[],[],_=>⟨rfl,fun f off n h=>by simp at h⟩
 |g::fs,p::ps,h=>by
  simp only [lb_,Bool.and_eq_true] at h;obtain ⟨⟨⟨B,k⟩,z⟩,u⟩:=h;obtain ⟨k1,k2⟩:=ox_ u;refine ⟨by simp [k1],fun f off n m => ?_⟩;cases f with
  |zero=>
   simp only [List.getElem?_cons_zero,Option.some.injEq] at m;subst m;refine ⟨g,rfl,Nat.eq_of_beq_eq_true B,?_,iS_.1 z⟩;cases hi:P.info? g.type with
   |none=>rw [hi] at k;cases k
   |some i=>rw [hi] at k;simp [Nat.eq_of_beq_eq_true k]
  |succ f=>exact k2 f off n (by simpa using m)
 |[],_::_,h=>by simp [lb_] at h
 |_::_,[],h=>by simp [lb_] at h
theorem cmpB_ok {P:Program}:∀ {k0:Nat}{fs:List Field}{qs:List CK},cmpB P k0 fs qs=true->fs.length=qs.length/\∀ (k:Nat)(f:Field)(q:CK),fs[k]?=some f->qs[k]?=some q->(f.name == "_")=false/\f.offset=k0+k/\P.plainKey f.type=true /\
   match q with
   |.i=>∃ kk,P.underlying f.type=some (.int kk)
   |.b=>P.underlying f.type=some .bool
   |.s=>P.underlying f.type=some .string
 |k0,[],[],_=>⟨rfl,fun k f q h=>by simp at h⟩
 |k0,g::fs,p::qs,h=>by
  simp only [cmpB,Bool.and_eq_true,Bool.not_eq_true'] at h;obtain ⟨⟨⟨⟨J,I⟩,B⟩,u⟩,z⟩:=h;obtain ⟨k1,k2⟩:=cmpB_ok z;refine ⟨by simp [k1],fun k f q m hq => ?_⟩;cases k with
  |zero=>
   simp only [List.getElem?_cons_zero,Option.some.injEq] at m hq;subst m hq;refine ⟨J,Nat.eq_of_beq_eq_true I,B,?_⟩;split at u<;>(try (cases u;done))
   . rename_i kk e1;exact ⟨kk,e1⟩
   . rename_i e1;exact e1
   . rename_i e1;exact e1
  |succ k=>
   obtain ⟨j1,j2,j3⟩:=k2 k f q (by simpa using m) (by simpa using hq);exact ⟨j1,by omega,j3⟩
 |_,[],_::_,h=>by simp [cmpB] at h
 |_,_::_,[],h=>by simp [cmpB] at h
variable [aj_]
omit [aj_] in
theorem tdB_ok {E:Env}{T:TypeId}{td:TD}(h:tdB E.P E.eid T td=true):TDok E T td:=by
 unfold tdB at h;cases hi:E.P.info? T with
 |none=>rw [hi] at h;cases h
 |some i=>
  cases m:E.P.underlying T with
  |none=>rw [hi,m] at h;cases h
  |some d=>
   rw [hi,m] at h;simp only [Bool.and_eq_true] at h;obtain ⟨⟨⟨⟨⟨⟨Z,Y⟩,J⟩,I⟩,B⟩,V⟩,u⟩:=h;simp only [descB,Bool.and_eq_true] at V;obtain ⟨⟨⟨⟨g1,g2⟩,g3⟩,g4⟩,g5⟩:=V;refine ⟨by rw [hi];simp [Nat.eq_of_beq_eq_true Z],iS_.1 Y,fun e=>⟨d,m,by rw [e] at J;exact J⟩,fun e => ?_,?_,fun e => ?_,fun e => ?_,fun t e => ?_,fun k e => ?_,fun e => ?_,fun e => ?_,fun e => ?_,fun e => ?_⟩
   . rw [e] at J
     simp only [cond_false,Bool.and_eq_true,Bool.not_eq_true'] at J;exact ⟨Nat.eq_of_beq_eq_true J.1,d,m,J.2⟩
   . cases S:i.zero with
     |none=>rw [S] at I;cases I
     |some z=>
      rw [S] at I;simp only [Bool.and_eq_true] at I;exact ⟨Nat.eq_of_beq_eq_true I.1.1,I.1.2,i,z,z.cells.toList,hi,S,by simp,o3_ I.2⟩
   . cases O:td.fields with
     |nil=>exact absurd O e
     |cons p ps=>
      rw [O] at B;cases d<;>simp only at B<;>(try (cases B;done));rename_i gs;obtain ⟨k1,k2⟩:=ox_ B;exact ⟨gs,m,by simpa using k1,fun f off n hq=>by
       obtain ⟨fd,j1,j2⟩:=k2 f off n hq;exact ⟨fd,by simpa using j1,j2⟩⟩
   . intro e'
     rw [e'] at B;simp only [e] at B;cases B
   . rw [e] at g1
     cases d<;>simp only at g1<;>(try (cases g1;done));rw [m,Nat.eq_of_beq_eq_true g1]
   . rw [e] at g2
     cases d<;>simp only at g2<;>(try (cases g2;done));rw [m,of_decide_eq_true g2]
   . rw [e] at g3
     cases d<;>simp only [cond_true] at g3<;>first|exact m|cases g3
   . rw [e] at g4
     cases d<;>simp only [cond_true] at g4<;>first|exact m|cases g4
   . cases hq:td.cmp with
     |nil=>exact absurd hq e
     |cons p ps=>
      rw [hq] at u;cases d<;>simp only at u<;>(try (cases u;done));rename_i gs;simp only [Bool.and_eq_true,Bool.not_eq_true'] at u;obtain ⟨k1,k2⟩:=cmpB_ok u.1.1;refine ⟨gs,m,u.1.2,u.2,by simpa using k1,fun k f q O U => ?_⟩;obtain ⟨j1,j2,j3⟩:=k2 k f q (by simpa using O) U;exact ⟨j1,by omega,j3⟩
   . rw [e] at g5
     cases d<;>simp only [cond_true] at g5<;>first|exact ⟨_,m⟩|cases g5
def nT_ {α:Type _}:List (Nat×α)->Nat->Option α
 |[],_=>none
 |(k,a)::l,n=>cond (Nat.beq n k) (some a) (nT_ l n)
def allB {α:Type _}(p:Nat->α->Bool):List (Nat×α)->Bool
 |[]=>true
 |(k,a)::l=>p k a&&allB p l
omit [aj_] in
theorem sQ_ {α:Type _}{p:Nat->α->Bool}:∀ {l:List (Nat×α)}{n:Nat}{a:α},allB p l=true->nT_ l n=some a->p n a=true
 |[],n,a,_,h=>by cases h
 |(k,b)::l,n,a,h,h'=>by
  simp only [allB,Bool.and_eq_true] at h;simp only [nT_] at h';cases hb:Nat.beq n k with
  |true=>
   rw [hb] at h';simp only [cond_true,Option.some.injEq] at h';have:=Nat.eq_of_beq_eq_true hb;subst this h';exact h.1
  |false=>rw [hb] at h';exact sQ_ h.2 h'
omit [aj_] in
theorem tt_ok {E:Env}{l:List (Nat×TD)} (h:allB (tdB E.P E.eid) l=true) (T:TypeId):TTok E T (nT_ l T) :=
 ⟨fun td k=>tdB_ok (sQ_ h k)⟩
open aj_
def tcB (P:Program)(eid:TC->TypeId)(t:TC)(zc:List AV):Bool :=
 match P.info? (eid t) with
 |some i=>Nat.beq i.size t.width&&Nat.beq i.bytes t.bytes&&Nat.blt 0 t.bytes&&zc.all AV.one&&match i.zero with
  |some z=>rp_ zc z.cells.toList
  |none=>false
 |none=>false
theorem h9_ {E:Env}{t:TC}{zc:List AV}(h:tcB E.P E.eid t zc=true) (p:∀ m,sims m zc (enc m t (El.dflt t))):TCok E t:=by
 unfold tcB at h;cases hi:E.P.info? (E.eid t) with
 |none=>rw [hi] at h;cases h
 |some i=>
  rw [hi] at h;simp only [Bool.and_eq_true] at h;obtain ⟨⟨⟨⟨J,I⟩,B⟩,u⟩,k⟩:=h;cases hq:i.zero with
  |none=>rw [hq] at k;cases k
  |some z=>
   rw [hq] at k;exact ⟨⟨i,z,z.cells.toList,zc,hi,hq,Nat.eq_of_beq_eq_true J,Nat.eq_of_beq_eq_true I,by simp,o3_ k,u,p⟩,iS_.1 B⟩
def eK_ (t:TC)(a:AV){ω:Type} (κ:List (El t)->Option ω):Option ω:=match decSl t a with
 |some xs=>κ xs
 |none=>none
omit [aj_] in
theorem eO_ {t:TC}{a:AV}{ω:Type}{r:ω}{κ:List (El t)->Option ω}(h:eK_ t a κ=some r):∃ xs,κ xs=some r/\∀ m,AV.sim m a (.sl m t xs):=by
 unfold eK_ at h;cases hd:decSl t a with
 |none=>rw [hd] at h;cases h
 |some xs=>
  rw [hd] at h;refine ⟨xs,h,fun m => ?_⟩;cases a<;>simp only [decSl] at hd<;>(try (cases hd;done))
  case nils=>simp only [Option.some.injEq] at hd;subst hd;exact ⟨t,rfl⟩
  case sl m' t' ys=>
   by_cases e:t'=t
   . subst e
     simp only [dite_true,Option.some.injEq] at hd;subst hd;rfl
   . simp [e] at hd
def codedB (m:M):AV->Bool
 |.i _ _ | .b _ | .s _=>true
 |.sl m' _ _=>M.same m' m
 |_=>false
omit [aj_] in
theorem coded_of {m:M}{l:List AV} (h:l.all (codedB m)=true) (a:AV) (ha:a ∈ l):(∃ k n,a = .i k n)\/(∃ q,a = .b q)\/(∃ l,a = .s l)\/∃ t' xs,a = .sl m t' xs:=by
 have:=List.all_eq_true.1 h a ha;cases a<;>simp only [codedB] at this<;>(try (cases this;done))
 . exact .inl ⟨_,_,rfl⟩
 . exact .inr (.inl ⟨_,rfl⟩)
 . exact .inr (.inr (.inl ⟨_,rfl⟩))
 . rw [M.same_eq this];exact .inr (.inr (.inr ⟨_,_,rfl⟩))
end
def both {α β:Type}(a:Option α)(b:Option β):Option (α×β):=match a with
 |some x=>match b with
  |some y=>some (x,y)
  |none=>none
 |none=>none
theorem both_ok {α β:Type}{a:Option α}{b:Option β}{z:α×β}(h:both a b=some z):a=some z.1/\b=some z.2:=by
 cases a with
 |none=>cases h
 |some x=>cases b with
  |none=>cases h
  |some y=>cases h;exact ⟨rfl,rfl⟩
inductive Pat:Type where
 |i (k:IntKind)|b|s
 |sl (m:M) (t:TC)
 |ag (ps:List Pat)|tu (ps:List Pat)|bx (ps:List Pat)
 |pc (ps:List Pat) (off:Nat)
 |clo (f:FuncId) (ps:List Pat)
 |rt (r:Nat)|pb (r off:Nat)
 |nils|nili|u|er
mutual
def Pat.T:Pat->Type
 |.i _=>Int
 |.b=>Bool
 |.s=>Bs
 |.sl _ t=>List (El t)
 |.ag ps=>Pat.Ts ps
 |.tu ps=>Pat.Ts ps
 |.bx ps=>Pat.Ts ps
 |.pc ps _=>Pat.Ts ps
 |.clo _ ps=>Pat.Ts ps
 |.rt _=>Unit
 |.pb _ _=>Unit
 |.nils=>Unit
 |.nili=>Unit
 |.u=>Unit
 |.er=>Bool
def Pat.Ts:List Pat->Type
 |[]=>Unit
 |p::ps=>Pat.T p×Pat.Ts ps
end
mutual
def Pat.enc:(p:Pat)->Pat.T p->AV
 |.i k,n=>.i k n
 |.b,q=>.b q
 |.s,l=>.s l
 |.sl m t,xs=>.sl m t xs
 |.ag ps,x=>.ag (Pat.encs ps x)
 |.tu ps,x=>.tu (Pat.encs ps x)
 |.bx ps,x=>.bx (Pat.encs ps x)
 |.pc ps off,x=>.pc (Pat.encs ps x) off
 |.clo f ps,x=>.clo f (Pat.encs ps x)
 |.rt r,_=>.rt r
 |.pb r off,_=>.pb r off
 |.nils,_=>.nils
 |.nili,_=>.nili
 |.u,_=>.u
 |.er,q=>.er q
def Pat.encs:(ps:List Pat)->Pat.Ts ps->List AV
 |[],_=>[]
 |p::ps,x=>Pat.enc p x.1::Pat.encs ps x.2
end
mutual
def Pat.dec:(p:Pat)->AV->Option (Pat.T p)
 |.i k,a=>gy_ k a fun n=>some n
 |.b,a=>getB a fun q=>some q
 |.s,a=>getS a fun l=>some l
 |.sl m t,a=>getSl m t a fun xs=>some xs
 |.ag ps,a=>getAg a fun l=>Pat.decs ps l
 |.tu ps,a=>getTu a fun l=>Pat.decs ps l
 |.bx ps,a=>getBx a fun l=>Pat.decs ps l
 |.pc ps off,a=>getPc off a fun l=>Pat.decs ps l
 |.clo f ps,a=>getClo f a fun l=>Pat.decs ps l
 |.rt r,a=>isRt r a (some ())
 |.pb r off,a=>isPb r off a (some ())
 |.nils,a=>isNils a (some ())
 |.nili,a=>isNili a (some ())
 |.u,a=>isU a (some ())
 |.er,a=>getEr a fun q=>some q
def Pat.decs:(ps:List Pat)->List AV->Option (Pat.Ts ps)
 |[],l=>un l (some ())
 |p::ps,l=>uc l fun a l=>both (Pat.dec p a) (Pat.decs ps l)
end
mutual
theorem Pat.dec_ok:∀ (p:Pat)(a:AV)(x:Pat.T p),Pat.dec p a=some x->a=Pat.enc p x
 |.i k,a,x,h=>by simp only [Pat.dec] at h;replace h:=d5_ h;obtain ⟨n,rfl,h⟩:=h;cases h;simp only [Pat.enc]
 |.b,a,x,h=>by simp only [Pat.dec] at h;replace h:=rQ_ h;obtain ⟨n,rfl,h⟩:=h;cases h;simp only [Pat.enc]
 |.s,a,x,h=>by simp only [Pat.dec] at h;replace h:=ne_ h;obtain ⟨n,rfl,h⟩:=h;cases h;simp only [Pat.enc]
 |.sl m t,a,x,h=>by simp only [Pat.dec] at h;replace h:=getSl_ok h;obtain ⟨n,rfl,h⟩:=h;cases h;simp only [Pat.enc]
 |.ag ps,a,x,h=>by simp only [Pat.dec] at h;replace h:=getAg_ok h;obtain ⟨l,rfl,h⟩:=h;rw [Pat.decs_ok ps l x h];simp only [Pat.enc]
 |.tu ps,a,x,h=>by simp only [Pat.dec] at h;replace h:=getTu_ok h;obtain ⟨l,rfl,h⟩:=h;rw [Pat.decs_ok ps l x h];simp only [Pat.enc]
 |.bx ps,a,x,h=>by simp only [Pat.dec] at h;replace h:=getBx_ok h;obtain ⟨l,rfl,h⟩:=h;rw [Pat.decs_ok ps l x h];simp only [Pat.enc]
 |.pc ps off,a,x,h=>by simp only [Pat.dec] at h;replace h:=getPc_ok h;obtain ⟨l,rfl,h⟩:=h;rw [Pat.decs_ok ps l x h];simp only [Pat.enc]
 |.clo f ps,a,x,h=>by simp only [Pat.dec] at h;replace h:=getClo_ok h;obtain ⟨l,rfl,h⟩:=h;rw [Pat.decs_ok ps l x h];simp only [Pat.enc]
 |.rt r,a,x,h=>by simp only [Pat.dec] at h;replace h:=isRt_ok h;obtain ⟨rfl,h⟩:=h;simp only [Pat.enc]
 |.pb r off,a,x,h=>by simp only [Pat.dec] at h;replace h:=isPb_ok h;obtain ⟨rfl,h⟩:=h;simp only [Pat.enc]
 |.nils,a,x,h=>by simp only [Pat.dec] at h;replace h:=isNils_ok h;obtain ⟨rfl,h⟩:=h;simp only [Pat.enc]
 |.nili,a,x,h=>by simp only [Pat.dec] at h;replace h:=isNili_ok h;obtain ⟨rfl,h⟩:=h;simp only [Pat.enc]
 |.u,a,x,h=>by simp only [Pat.dec] at h;replace h:=isU_ok h;obtain ⟨rfl,h⟩:=h;simp only [Pat.enc]
 |.er,a,x,h=>by simp only [Pat.dec] at h;replace h:=getEr_ok h;obtain ⟨n,rfl,h⟩:=h;cases h;simp only [Pat.enc]
theorem Pat.decs_ok:∀ (ps:List Pat)(l:List AV)(x:Pat.Ts ps),Pat.decs ps l=some x->l=Pat.encs ps x
 |[],l,x,h=>by simp only [Pat.decs] at h;replace h:=j0_ h;obtain ⟨rfl,h⟩:=h;simp only [Pat.encs]
 |p::ps,l,x,h=>by simp only [Pat.decs] at h;replace h:=en_ h;obtain ⟨a,l,rfl,h⟩:=h;obtain ⟨m,k⟩:=both_ok h;rw [Pat.dec_ok p a x.1 m,Pat.decs_ok ps l x.2 k];simp only [Pat.encs]
end
inductive BPat:Type where
 |ext|non
 |box (ps:List Pat)
 |arr (m:M) (t:TC) (st:Nat)
def BPat.T:BPat->Type
 |.ext=>Unit
 |.non=>Unit
 |.box ps=>Pat.Ts ps
 |.arr _ t _=>List (El t)
def BPat.Ts:List BPat->Type
 |[]=>Unit
 |p::ps=>BPat.T p×BPat.Ts ps
def BPat.enc:(p:BPat)->BPat.T p->Option Blk
 |.ext,_=>some (.ext none)
 |.non,_=>none
 |.box ps,x=>some (.box (Pat.encs ps x))
 |.arr m t st,xs=>some (.arr m t st xs)
def BPat.encs:(ps:List BPat)->BPat.Ts ps->List (Option Blk)
 |[],_=>[]
 |p::ps,x=>BPat.enc p x.1::BPat.encs ps x.2
def BPat.dec:(p:BPat)->Option Blk->Option (BPat.T p)
 |.ext,a=>isExt a (some ())
 |.non,a=>noBlk a (some ())
 |.box ps,a=>getBox a fun l=>Pat.decs ps l
 |.arr m t st,a=>getArr m t st a fun xs=>some xs
def BPat.decs:(ps:List BPat)->List (Option Blk)->Option (BPat.Ts ps)
 |[],l=>un l (some ())
 |p::ps,l=>uc l fun a l=>both (BPat.dec p a) (BPat.decs ps l)
theorem BPat.dec_ok (p:BPat)(a:Option Blk)(x:BPat.T p)(h:BPat.dec p a=some x):a=BPat.enc p x:=by
 cases p with
 |ext=>obtain ⟨rfl,_⟩:=isExt_ok h;rfl
 |non=>obtain ⟨rfl,_⟩:=noBlk_ok h;rfl
 |box ps=>replace h:=getBox_ok h;obtain ⟨l,rfl,h⟩:=h;rw [Pat.decs_ok ps l x h];rfl
 |arr m t st=>replace h:=getArr_ok h;obtain ⟨l,rfl,h⟩:=h;cases h;rfl
theorem BPat.decs_ok:∀ (ps:List BPat) (l:List (Option Blk)) (x:BPat.Ts ps),BPat.decs ps l=some x->l=BPat.encs ps x
 |[],l,x,h=>by simp only [BPat.decs] at h;replace h:=j0_ h;obtain ⟨rfl,h⟩:=h;rfl
 |p::ps,l,x,h=>by simp only [BPat.decs] at h;replace h:=en_ h;obtain ⟨a,l,rfl,h⟩:=h;obtain ⟨m,k⟩:=both_ok h;rw [BPat.dec_ok p a x.1 m,BPat.decs_ok ps l x.2 k];rfl
def pb_ {R:Type}(vp:List Pat)(bp:List BPat)(v:List AV) (b:List (Option Blk)) (g:Pat.Ts vp->BPat.Ts bp->Option R):Option R :=
 match Pat.decs vp v with
 |some x=>(match BPat.decs bp b with
  |some y=>g x y
  |none=>none)
 |none=>none
theorem piece_ok {R:Type}{vp:List Pat}{bp:List BPat}{v:List AV}{b:List (Option Blk)}{g:Pat.Ts vp->BPat.Ts bp->Option R}{r:R}(h:pb_ vp bp v b g=some r) :
  ∃ x y,v=Pat.encs vp x/\b=BPat.encs bp y/\g x y=some r:=by
 unfold pb_ at h;cases m:Pat.decs vp v with
 |none=>rw [m] at h;cases h
 |some x=>
  rw [m] at h;cases k:BPat.decs bp b with
  |none=>rw [k] at h;cases h
  |some y=>rw [k] at h;exact ⟨x,y,Pat.decs_ok _ _ _ m,BPat.decs_ok _ _ _ k,h⟩
section
def mkK {R:Type}(ss:List Sk)(ps:List Pat)(f:Pat.Ts ps->Option R)(rv:R->AV)(outs:R->List AV){ω:Type}(avs:List AV)(κ:AV->List AV->Option ω):Option ω :=
 match Pat.decs ps (ud_ ss avs) with
 |some x=>(f x).bind fun r=>κ (rv r) (outs r)
 |none=>none
theorem mkK_par {R:Type}{ss:List Sk}{ps:List Pat}{f:Pat.Ts ps->Option R}{rv:R->AV}{outs:R->List AV}{ω:Type}{avs:List AV}{κ:AV->List AV->Option ω}{q:ω}(h:mkK ss ps f rv outs avs κ=some q) :
  ∃ r o,κ r o=some q/\∀ (ω':Type)(κ':AV->List AV->Option ω'),mkK ss ps f rv outs avs κ'=κ' r o:=by
 unfold mkK at h;cases hd:Pat.decs ps (ud_ ss avs) with
 |none=>rw [hd] at h;cases h
 |some x=>
  rw [hd] at h;simp only at h;cases k:f x with
  |none=>rw [k] at h;cases h
  |some r=>
   rw [k] at h;exact ⟨_,_,h,fun ω' κ'=>by unfold mkK;rw [hd];simp only [k];rfl⟩
variable [aj_]
theorem mkK_ok [ai_]{E:Env}{fid:FuncId}{sg:Option (List PS)}{R:Type}{ss:List Sk}{ps:List Pat}{f:Pat.Ts ps->Option R}{rv:R->AV}{outs:R->List AV}{pss:List PS}(m:FnOk E fid)(k:sg=some pss)
  (u:∀ x r,f x=some r->ff_ E fid (Pat.encs ps x) (rv r) (outs r) pss) {ω:Type} {avs:List AV} {κ:AV->List AV->Option ω} {q:ω} (h:mkK ss ps f rv outs avs κ=some q) :
  FnOk E fid/\∃ ps' r o,sg=some ps'/\κ r o=some q/\ff_ E fid avs r o ps':=by
 unfold mkK at h;cases hd:Pat.decs ps (ud_ ss avs) with
 |none=>rw [hd] at h;cases h
 |some x=>
  rw [hd] at h;simp only at h;cases p:f x with
  |none=>rw [p] at h;cases h
  |some r=>
   rw [p] at h;exact ⟨m,pss,_,_,k,h,ff_.fix (ss:=ss) (by rw [Pat.decs_ok _ _ _ hd];exact u x r p)⟩
end
end Go.Pi
section
set_option linter.unusedSectionVars false
namespace Go.Pi
mutual
def Pat.C:Pat->Type->Type
 |.i _,α=>Int->α
 |.b,α=>Bool->α
 |.er,α=>Bool->α
 |.s,α=>Bs->α
 |.sl _ t,α=>List (El t)->α
 |.ag ps,α=>Pat.Cs ps α
 |.tu ps,α=>Pat.Cs ps α
 |.bx ps,α=>Pat.Cs ps α
 |.pc ps _,α=>Pat.Cs ps α
 |.clo _ ps,α=>Pat.Cs ps α
 |.rt _,α=>α
 |.pb _ _,α=>α
 |.nils,α=>α
 |.nili,α=>α
 |.u,α=>α
def Pat.Cs:List Pat->Type->Type
 |[],α=>α
 |p::ps,α=>Pat.C p (Pat.Cs ps α)
end
mutual
def Pat.ap:(p:Pat)->(α:Type)->Pat.C p α->Pat.T p->α
 |.i _,_,f,x=>f x
 |.b,_,f,x=>f x
 |.er,_,f,x=>f x
 |.s,_,f,x=>f x
 |.sl _ _,_,f,x=>f x
 |.ag ps,α,f,x=>Pat.aps ps α f x
 |.tu ps,α,f,x=>Pat.aps ps α f x
 |.bx ps,α,f,x=>Pat.aps ps α f x
 |.pc ps _,α,f,x=>Pat.aps ps α f x
 |.clo _ ps,α,f,x=>Pat.aps ps α f x
 |.rt _,_,f,_=>f
 |.pb _ _,_,f,_=>f
 |.nils,_,f,_=>f
 |.nili,_,f,_=>f
 |.u,_,f,_=>f
def Pat.aps:(ps:List Pat)->(α:Type)->Pat.Cs ps α->Pat.Ts ps->α
 |[],_,f,_=>f
 |p::ps,α,f,x=>Pat.aps ps α (Pat.ap p (Pat.Cs ps α) f x.1) x.2
end
mutual
def Pat.lm:(p:Pat)->(α:Type)->(Pat.T p->α)->Pat.C p α
 |.i _,_,f=>f
 |.b,_,f=>f
 |.er,_,f=>f
 |.s,_,f=>f
 |.sl _ _,_,f=>f
 |.ag ps,α,f=>Pat.lms ps α f
 |.tu ps,α,f=>Pat.lms ps α f
 |.bx ps,α,f=>Pat.lms ps α f
 |.pc ps _,α,f=>Pat.lms ps α f
 |.clo _ ps,α,f=>Pat.lms ps α f
 |.rt _,_,f=>f ()
 |.pb _ _,_,f=>f ()
 |.nils,_,f=>f ()
 |.nili,_,f=>f ()
 |.u,_,f=>f ()
def Pat.lms:(ps:List Pat)->(α:Type)->(Pat.Ts ps->α)->Pat.Cs ps α
 |[],_,f=>f ()
 |p::ps,α,f=>Pat.lm p (Pat.Cs ps α) fun a=>Pat.lms ps α fun r=>f (a,r)
end
mutual
theorem Pat.ap_lm:∀ (p:Pat)(α:Type)(f:Pat.T p->α)(x:Pat.T p),Pat.ap p α (Pat.lm p α f) x=f x
 |.i _,_,f,x=>rfl
 |.b,_,f,x=>rfl
 |.er,_,f,x=>rfl
 |.s,_,f,x=>rfl
 |.sl _ _,_,f,x=>rfl
 |.ag ps,α,f,x=>Pat.aps_lms ps α f x
 |.tu ps,α,f,x=>Pat.aps_lms ps α f x
 |.bx ps,α,f,x=>Pat.aps_lms ps α f x
 |.pc ps _,α,f,x=>Pat.aps_lms ps α f x
 |.clo _ ps,α,f,x=>Pat.aps_lms ps α f x
 |.rt _,_,f,x=>rfl
 |.pb _ _,_,f,x=>rfl
 |.nils,_,f,x=>rfl
 |.nili,_,f,x=>rfl
 |.u,_,f,x=>rfl
theorem Pat.aps_lms:∀ (ps:List Pat)(α:Type)(f:Pat.Ts ps->α)(x:Pat.Ts ps),Pat.aps ps α (Pat.lms ps α f) x=f x
 |[],_,f,x=>rfl
 |p::ps,α,f,x=>by show Pat.aps ps α (Pat.ap p (Pat.Cs ps α) (Pat.lm p (Pat.Cs ps α) fun a=>Pat.lms ps α fun r=>f (a,r)) x.1) x.2=f x;rw [Pat.ap_lm p _ _ x.1,Pat.aps_lms ps α _ x.2];rfl
end
mutual
theorem Pat.lm_ap:∀ (p:Pat)(α:Type)(f:Pat.C p α),Pat.lm p α (Pat.ap p α f)=f
 |.i _,_,f=>rfl
 |.b,_,f=>rfl
 |.er,_,f=>rfl
 |.s,_,f=>rfl
 |.sl _ _,_,f=>rfl
 |.ag ps,α,f=>Pat.lms_aps ps α f
 |.tu ps,α,f=>Pat.lms_aps ps α f
 |.bx ps,α,f=>Pat.lms_aps ps α f
 |.pc ps _,α,f=>Pat.lms_aps ps α f
 |.clo _ ps,α,f=>Pat.lms_aps ps α f
 |.rt _,_,f=>rfl
 |.pb _ _,_,f=>rfl
 |.nils,_,f=>rfl
 |.nili,_,f=>rfl
 |.u,_,f=>rfl
theorem Pat.lms_aps:∀ (ps:List Pat)(α:Type)(f:Pat.Cs ps α),Pat.lms ps α (Pat.aps ps α f)=f
 |[],_,f=>rfl
 |p::ps,α,f=>by show Pat.lm p (Pat.Cs ps α) (fun a=>Pat.lms ps α (Pat.aps ps α (Pat.ap p (Pat.Cs ps α) f a)))=f;rw [show (fun a=>Pat.lms ps α (Pat.aps ps α (Pat.ap p (Pat.Cs ps α) f a)))=Pat.ap p (Pat.Cs ps α) f from funext fun a=>Pat.lms_aps ps α _];exact Pat.lm_ap p _ f
end
def BPat.C:BPat->Type->Type
 |.ext,α=>α
 |.non,α=>α
 |.box ps,α=>Pat.Cs ps α
 |.arr _ t _,α=>List (El t)->α
def BPat.Cs:List BPat->Type->Type
 |[],α=>α
 |p::ps,α=>BPat.C p (BPat.Cs ps α)
def BPat.ap:(p:BPat)->(α:Type)->BPat.C p α->BPat.T p->α
 |.ext,_,f,_=>f
 |.non,_,f,_=>f
 |.box ps,α,f,x=>Pat.aps ps α f x
 |.arr _ _ _,_,f,x=>f x
def BPat.aps:(ps:List BPat)->(α:Type)->BPat.Cs ps α->BPat.Ts ps->α
 |[],_,f,_=>f
 |p::ps,α,f,x=>BPat.aps ps α (BPat.ap p (BPat.Cs ps α) f x.1) x.2
def BPat.lm:(p:BPat)->(α:Type)->(BPat.T p->α)->BPat.C p α
 |.ext,_,f=>f ()
 |.non,_,f=>f ()
 |.box ps,α,f=>Pat.lms ps α f
 |.arr _ _ _,_,f=>f
def BPat.lms:(ps:List BPat)->(α:Type)->(BPat.Ts ps->α)->BPat.Cs ps α
 |[],_,f=>f ()
 |p::ps,α,f=>BPat.lm p (BPat.Cs ps α) fun a=>BPat.lms ps α fun r=>f (a,r)
theorem BPat.ap_lm (p:BPat)(α:Type)(f:BPat.T p->α)(x:BPat.T p):BPat.ap p α (BPat.lm p α f) x=f x:=by
 cases p with
 |ext=>rfl
 |non=>rfl
 |box ps=>exact Pat.aps_lms ps α f x
 |arr m t st=>rfl
theorem BPat.lm_ap (p:BPat)(α:Type)(f:BPat.C p α):BPat.lm p α (BPat.ap p α f)=f:=by
 cases p with
 |ext=>rfl
 |non=>rfl
 |box ps=>exact Pat.lms_aps ps α f
 |arr m t st=>rfl
theorem BPat.aps_lms:∀ (ps:List BPat)(α:Type)(f:BPat.Ts ps->α)(x:BPat.Ts ps),BPat.aps ps α (BPat.lms ps α f) x=f x
 |[],_,f,x=>rfl
 |p::ps,α,f,x=>by show BPat.aps ps α (BPat.ap p (BPat.Cs ps α) (BPat.lm p (BPat.Cs ps α) fun a=>BPat.lms ps α fun r=>f (a,r)) x.1) x.2=f x;rw [BPat.ap_lm p _ _ x.1,BPat.aps_lms ps α _ x.2];rfl
theorem BPat.lms_aps:∀ (ps:List BPat)(α:Type)(f:BPat.Cs ps α),BPat.lms ps α (BPat.aps ps α f)=f
 |[],_,f=>rfl
 |p::ps,α,f=>by show BPat.lm p (BPat.Cs ps α) (fun a=>BPat.lms ps α (BPat.aps ps α (BPat.ap p (BPat.Cs ps α) f a)))=f;rw [show (fun a=>BPat.lms ps α (BPat.aps ps α (BPat.ap p (BPat.Cs ps α) f a)))=BPat.ap p (BPat.Cs ps α) f from funext fun a=>BPat.lms_aps ps α _];exact BPat.lm_ap p _ f
structure OD where
 live:Live
 vp:List Pat
 bp:List BPat
abbrev OD.Cu (o:OD)(α:Type):Type:=Pat.Cs o.vp (BPat.Cs o.bp α)
def OD.ap (o:OD){α:Type}(f:o.Cu α)(x:Pat.Ts o.vp)(y:BPat.Ts o.bp):α:=BPat.aps o.bp α (Pat.aps o.vp _ f x) y
def OD.lm (o:OD){α:Type}(g:Pat.Ts o.vp->BPat.Ts o.bp->α):o.Cu α:=Pat.lms o.vp _ fun x=>BPat.lms o.bp α fun y=>g x y
theorem OD.ap_lm (o:OD){α:Type}(g:Pat.Ts o.vp->BPat.Ts o.bp->α)(x:Pat.Ts o.vp)(y:BPat.Ts o.bp):o.ap (o.lm g) x y=g x y:=by unfold OD.ap OD.lm;rw [Pat.aps_lms,BPat.aps_lms]
theorem OD.lm_ap (o:OD){α:Type}(f:o.Cu α):o.lm (fun x y=>o.ap f x y)=f:=by unfold OD.ap OD.lm;rw [show (fun x=>BPat.lms o.bp α fun y=>BPat.aps o.bp α (Pat.aps o.vp _ f x) y)=Pat.aps o.vp _ f from funext fun x=>BPat.lms_aps _ _ _];exact Pat.lms_aps _ _ _
def OD.k {R:Type}(o:OD)(κ:D R):o.Cu (Option R):=o.lm fun x y=>κ (Pat.encs o.vp x) (BPat.encs o.bp y)
def PFs (R:Type):List (Nat×OD)->Type
 |[]=>Unit
 |(_,o)::l=>(D R->(Nat->D R)->o.Cu (Option R))×PFs R l
structure FD (R:Type) where
 fid:Nat
 nt:Nat
 e:Nat
 ps:List Pat
 rp:List Pat
 toR:Pat.Ts rp->R
 ofR:R->Pat.Ts rp
 sig:List PS
 rps:List PS
 rsh:List Sh
 rs:List ResultVar
 outs:List AV
 cut:List (Nat×OD)
 nxt:List (Nat×OD)
 out:List (Nat×OD)
variable {R:Type}
abbrev FD.nres (d:FD R):Nat:=d.rs.length
abbrev FD.Fs (d:FD R):Type:=PFs R d.cut
def liveOf (l:List (Nat×OD)) (k:Nat):Live:=match nT_ l k with
 |some o=>o.live
 |none=>[]
def FD.ann (d:FD R):Ann:=⟨fun k=>match nT_ d.cut k with
 |some o=>some o.live
 |none=>none,liveOf d.nxt,liveOf d.out⟩
def FD.inj (d:FD R)(r:R):List AV:=Pat.encs d.rp (d.ofR r)
def FD.fin (d:FD R)(o:List AV):Option R:=match Pat.decs d.rp o with
 |some x=>some (d.toR x)
 |none=>none
def lfL:(l:List (Nat×OD))->PFs R l->LF R
 |[],_,_,_,_,_,_=>none
 |(k,o)::l,fs,key,κd,κe,v,b=>cond (Nat.beq key k) (pb_ o.vp o.bp v b fun x y=>o.ap (fs.1 κd κe) x y) (lfL l fs.2 key κd κe v b)
def AllQ (q:Nat->(o:OD)->(D R->(Nat->D R)->o.Cu (Option R))->Prop):(l:List (Nat×OD))->PFs R l->Prop
 |[],_=>True
 |(k,o)::l,fs=>q k o fs.1/\AllQ q l fs.2
def ku_:Option nZ_->Code
 |some (.loop a _)=>a
 |some (.tail a _)=>a
 |none=>.skip
def pw_:Option nZ_->Nat
 |some (.loop _ k)=>k
 |some (.tail _ k)=>k
 |none=>0
def rH_:Option nZ_->Bool
 |some (.loop _ _)=>true
 |_=>false
def rG_:Option nZ_->Bool
 |some (.tail _ _)=>true
 |_=>false
theorem isLoop_eq {p:Option nZ_}(h:rH_ p=true):p=some (.loop (ku_ p) (pw_ p)):=by
 match p,h with
 |some (.loop a k),_=>rfl
theorem isTail_eq {p:Option nZ_}(h:rG_ p=true):p=some (.tail (ku_ p) (pw_ p)):=by
 match p,h with
 |some (.tail a k),_=>rfl
def oC_ (fn:Func):Code:=match fn.body with
 |some c=>c
 |none=>.skip
mutual
def Pat.sk:Pat->Sk
 |.sl m t=>.sl m t
 |.ag ps=>.ag (Pat.sks ps)
 |_=>.k
def Pat.sks:List Pat->List Sk
 |[]=>[]
 |p::ps=>Pat.sk p::Pat.sks ps
end
theorem Pat.encs_length:∀ (ps:List Pat)(x:Pat.Ts ps),(Pat.encs ps x).length=ps.length
 |[],_=>rfl
 |p::ps,x=>by simp only [Pat.encs,List.length_cons,Pat.encs_length ps x.2]
section
variable [aj_]
def FD.kr (d:FD R)(c:Cx):St->Option R:=retK c d.rsh d.rps d.rs d.outs d.fin
def FD.at (d:FD R)(B:Code)(key:Nat):Option nZ_:=cW_ d.ann B 0 key
def FD.Round (d:FD R)(fs:d.Fs)(c:Cx)(B:Code)(key:Nat)(o:OD) (step:(Nat->D R)->o.Cu (Option R)->o.Cu (Option R)):Prop :=
 ∀ (κ:D R)(κe:Nat->D R)(x:Pat.Ts o.vp)(y:BPat.Ts o.bp),run c d.e d.ann (lfL d.cut fs) (d.kr c) (ku_ (d.at B key)) (pw_ (d.at B key)) (fun s=>pP_ d.e o.live s κ) (fun j s=>pP_ d.e (d.ann.out j) s (κe j)) (St.ofC o.live (Pat.encs o.vp x) (BPat.encs o.bp y)) =
   o.ap (step κe (o.k κ)) x y
def FD.Tail (d:FD R)(fs:d.Fs)(c:Cx)(B:Code)(key:Nat)(o:OD) (f:D R->(Nat->D R)->o.Cu (Option R)):Prop :=
 ∀ (κd:D R)(κe:Nat->D R)(x:Pat.Ts o.vp)(y:BPat.Ts o.bp),run c d.e d.ann (lfL d.cut fs) (d.kr c) (ku_ (d.at B key)) (pw_ (d.at B key)) (fun s=>pP_ d.e (d.ann.nxt key) s κd) (fun j s=>pP_ d.e (d.ann.out j) s (κe j)) (St.ofC o.live (Pat.encs o.vp x) (BPat.encs o.bp y)) =
   o.ap (f κd κe) x y
def FD.PieceOk (d:FD R)(fs:d.Fs)(c:Cx)(B:Code)(key:Nat)(o:OD) (f:D R->(Nat->D R)->o.Cu (Option R)):Prop :=
 ∀ (κd:D R)(κe:Nat->D R)(x:Pat.Ts o.vp)(y:BPat.Ts o.bp)(r:R),o.ap (f κd κe) x y=some r ->
   ∃ q,cW_ d.ann B 0 key=some q/\pieceIs c d.e d.ann (lfL d.cut fs) (d.kr c) key o.live κd κe (Pat.encs o.vp x) (BPat.encs o.bp y) r q
theorem FD.rounds_eq {d:FD R}{fs:d.Fs}{c:Cx}{B:Code}{key:Nat}{o:OD}{step:(Nat->D R)->o.Cu (Option R)->o.Cu (Option R)}(h:d.Round fs c B key o step)(κe:Nat->D R) :
  ∀ (N:Nat)(x:Pat.Ts o.vp)(y:BPat.Ts o.bp),qo_ c d.e d.ann (lfL d.cut fs) (d.kr c) (ku_ (d.at B key)) (pw_ (d.at B key)) o.live κe N (Pat.encs o.vp x) (BPat.encs o.bp y)=o.ap (cw_ (o.lm fun _ _=>none) (step κe) N) x y
 |0,x,y=>(o.ap_lm (fun _ _=>(none:Option R)) x y).symm
 |N+1,x,y=>by
  show run c d.e d.ann (lfL d.cut fs) (d.kr c) (ku_ (d.at B key)) (pw_ (d.at B key)) (fun s=>pP_ d.e o.live s (qo_ c d.e d.ann (lfL d.cut fs) (d.kr c) (ku_ (d.at B key)) (pw_ (d.at B key)) o.live κe N)) (fun j s=>pP_ d.e (d.ann.out j) s (κe j)) (St.ofC o.live (Pat.encs o.vp x) (BPat.encs o.bp y))=o.ap (step κe (cw_ (o.lm fun _ _=>none) (step κe) N)) x y;rw [h]
  congr 2
  unfold OD.k;rw [<-o.lm_ap (cw_ (o.lm fun _ _=>none) (step κe) N)]
  congr 1
  funext x y
  exact FD.rounds_eq h κe N x y
theorem FD.lp {d:FD R}{fs:d.Fs}{c:Cx}{B:Code}{key:Nat}{o:OD}{f:D R->(Nat->D R)->o.Cu (Option R)}{step:(Nat->D R)->o.Cu (Option R)->o.Cu (Option R)}(N:Nat)(hr:d.Round fs c B key o step) (m:rH_ (d.at B key)=true)
  (k:∀ κd κe,f κd κe=cw_ (o.lm fun _ _=>none) (step κe) N):d.PieceOk fs c B key o f:=by
 intro κd κe x y r h;refine ⟨_,isLoop_eq m,N,(FD.rounds_eq hr κe N x y).trans ?_⟩;rw [<-k κd κe];exact h
theorem FD.tl {d:FD R}{fs:d.Fs}{c:Cx}{B:Code}{key:Nat}{o:OD}{f:D R->(Nat->D R)->o.Cu (Option R)}(hr:d.Tail fs c B key o f) (k:rG_ (d.at B key)=true):d.PieceOk fs c B key o f:=by intro κd κe x y r h;exact ⟨_,isTail_eq k,(hr κd κe x y).trans h⟩
theorem sU_:∀ {l:List (Nat×OD)}{fs:PFs R l}{q:Nat->(o:OD)->(D R->(Nat->D R)->o.Cu (Option R))->Prop}{key:Nat}{κd:D R}{κe:Nat->D R}{v:List AV}{b:List (Option Blk)}{r:R},AllQ q l fs->lfL l fs key κd κe v b=some r ->
  ∃ o f x y,nT_ l key=some o/\q key o f/\v=Pat.encs o.vp x/\b=BPat.encs o.bp y/\o.ap (f κd κe) x y=some r
 |[],_,_,_,_,_,_,_,_,_,h=>by cases h
 |(k,o)::l,fs,q,key,κd,κe,v,b,r,ha,h=>by
  simp only [lfL] at h;cases m:Nat.beq key k with
  |true=>
   rw [m] at h;simp only [cond_true] at h;obtain ⟨x,y,p,z,u⟩:=piece_ok h;have:=df_.1 m;subst this;exact ⟨o,_,x,y,by simp only [nT_,m,cond_true],ha.1,p,z,u⟩
  |false=>
   rw [m] at h;simp only [cond_false] at h;obtain ⟨o',f,x,y,B,p⟩:=sU_ ha.2 h;exact ⟨o',f,x,y,by simp only [nT_,m,cond_false];exact B,p⟩
theorem FD.cuts {d:FD R}{fs:d.Fs}{c:Cx}{B:Code} (h:AllQ (fun key o f=>d.PieceOk fs c B key o f) d.cut fs):Cuts c d.e d.ann (lfL d.cut fs) (d.kr c) B:=by intro key κd κe v b r hl;obtain ⟨o,f,x,y,z,k,rfl,rfl,u⟩:=sU_ h hl;obtain ⟨q,p,m⟩:=k κd κe x y r u;exact ⟨o.live,q,by simp only [FD.ann,z],p,m⟩
theorem FD.fin_ok {d:FD R} (hi:∀ x,d.ofR (d.toR x)=x) (o:List AV) (r:R) (h:d.fin o=some r):o=d.inj r:=by
 unfold FD.fin at h;cases k:Pat.decs d.rp o with
 |none=>rw [k] at h;cases h
 |some x=>
  rw [k] at h;simp only [Option.some.injEq] at h;subst h;rw [Pat.decs_ok _ _ _ k,FD.inj,hi]
def FD.whole (d:FD R)(fs:d.Fs)(c:Cx)(B:Code)(x:Pat.Ts d.ps):Option R :=
 tg_ d.e (Pat.encs d.ps x) fun v b=>match fy_ d.sig v with
  |some o=>cond (AV.allRoots o d.outs) (run c d.e d.ann (lfL d.cut fs) (d.kr c) B 0 (d.kr c) (fun _ _=>none) (St.ofC (tS_ d.ps.length) v b)) none
  |none=>none
def FD.Ok (d:FD R)(E:Env)(F:Pat.Ts d.ps->Option R):Prop :=
 ∀ x r,F x=some r->ff_ E d.fid (Pat.encs d.ps x) (rvOf d.nres (d.inj r)) ((d.inj r).drop d.nres) d.sig
def FD.K (d:FD R)(F:Pat.Ts d.ps->Option R){ω:Type}(avs:List AV)(κ:AV->List AV->Option ω):Option ω :=
 mkK (Pat.sks d.ps) d.ps F (fun r=>rvOf d.nres (d.inj r)) (fun r=>(d.inj r).drop d.nres) avs κ
theorem FD.kpar {d:FD R}{F:Pat.Ts d.ps->Option R}{ω:Type}{avs:List AV}{κ:AV->List AV->Option ω}{q:ω}(h:d.K F avs κ=some q) :
  ∃ r o,κ r o=some q/\∀ (ω':Type)(κ':AV->List AV->Option ω'),d.K F avs κ'=κ' r o:=mkK_par h
theorem FD.kok [ai_]{E:Env}{d:FD R}{F:Pat.Ts d.ps->Option R}{sg:Option (List PS)}(m:FnOk E d.fid)(k:sg=some d.sig)(p:d.Ok E F){ω:Type}{avs:List AV}{κ:AV->List AV->Option ω}{q:ω}(h:d.K F avs κ=some q) :
  FnOk E d.fid/\∃ ps' r o,sg=some ps'/\κ r o=some q/\ff_ E d.fid avs r o ps':=mkK_ok m k p h
def notNG (fn:Func):Bool:=!(decide (fn.name = "runtime.NumGoroutine"))
theorem FD.ok [ai_]{E:Env}{d:FD R}{fs:d.Fs}{c:Cx}{fn:Func}{F:Pat.Ts d.ps->Option R}(z:E.P.follows .mixedOrders=true)(u:E.P.funcs[d.fid]?=some fn) (k:fn.body=some (oC_ fn)) (m:fn.results=List.toArray d.rs)
  (p:fn.ntmps=c.nt) (he:Nat.blt 0 d.e=true) (hi:∀ x,d.ofR (d.toR x)=x) (hn:Nat.ble d.ps.length c.nt=true) (top:∀ x,d.whole fs c (oC_ fn) x=F x)
  (cuts:AllQ (fun key o f=>d.PieceOk fs c (oC_ fn) key o f) d.cut fs) (hc:CxOk E c) (B:KPar c):d.Ok E F:=by
 intro x r h;refine fn_sound (avs:=Pat.encs d.ps x) hc B z u k m p (iS_.1 he) (FD.fin_ok hi) (by rw [Pat.encs_length];exact hn) ?_ (FD.cuts cuts);rw [Pat.encs_length];exact (top x).trans h
end
end Go.Pi
end
namespace Go.Pi
section
def ItoaM (P:Program)(f:FuncId):Prop:=∀ (n:Int),-9223372036854775808<=n->n<=9223372036854775807->∀ w:World,Lib.TabIs P w "internal/strconv.uint64pow10" .u64 Lib.pow10Tab ->
 Calls P f #[.int .i64 n] w fun e w'=>e = .returned (.string ⟨(Lib.itoa n).toArray⟩)/\∃ k os,w'=Go.Sort.grow (w.drewN k) os
variable [aj_]
open aj_
variable {E:Env}
omit [aj_] in
theorem glob_tab {w:World}{F:Nat->Prop}(h:Glob E w F){g:Nat}{name:String}{k:IntKind}{zs:List Int} (m:(g,fun cs=>cs=(zs.map fun z=>Value.int k z).toArray) ∈ E.globs) (p:E.P.globalNamed name=some g):Lib.TabIs E.P w name k zs:=by obtain ⟨⟨cs,T,fr,u,hc⟩,_⟩:=h _ m;have hc:cs=(zs.map fun z=>Value.int k z).toArray:=hc;subst hc;unfold Lib.TabIs World.var?;rw [p];simp only [Option.bind_some,u]
omit [aj_] in
theorem tab_glob {P:Program}{w:World}{g:Nat}{name:String}{k:IntKind}{zs:List Int}(h:Lib.TabIs P w name k zs)(p:P.globalNamed name=some g):∃ T fr,w.heap[g]?=some (.cells (zs.map fun z=>Value.int k z).toArray T fr):=by
 unfold Lib.TabIs World.var? at h;rw [p] at h;simp only [Option.bind_some] at h;split at h
 . rename_i cs T fr m
   cases h;exact ⟨T,fr,m⟩
 . cases h
theorem nItoa_ok [ai_]{f:FuncId}(h:ItoaM E.P f){g:Nat} (I:(g,fun cs=>cs=(Lib.pow10Tab.map fun z=>Value.int .u64 z).toArray) ∈ E.globs) (J:E.P.globalNamed "internal/strconv.uint64pow10" = some g)
  {n:Int} {r:Bs} (hr:nItoa n=some r):ff_ E f [.i .i64 n] (.s r) [] [.v]:=by
 unfold nItoa at hr;have hc : -9223372036854775808<=n/\n<=9223372036854775807:=Classical.byContradiction fun hc=>by
  have:(decide (-9223372036854775808<=n)&&decide (n<=9223372036854775807))=false:=by rw [Bool.eq_false_iff];intro h;simp only [Bool.and_eq_true,decide_eq_true_eq] at h;exact hc h
  rw [this] at hr;cases hr
 rw [decide_eq_true hc.1,decide_eq_true hc.2] at hr;simp only [Bool.and_self,cond_true,Option.some.injEq] at hr;subst hr;intro w F Vs φ m B u p;obtain ⟨v,vs,φ₁,φ₂,rfl,k1,k2,e⟩:=RL.uncons m;obtain ⟨rfl,e2⟩:=RL.nil_inv k2;have e1:v = .int .i64 n:=by
  cases k1 with
  |scal _ _ _ _ _ B h2=>exact B
 subst e1;refine (h n hc.1 hc.2 w (glob_tab p I J)).mono ?_
 rintro e' w' ⟨rfl,k,os,rfl⟩
 refine ⟨_,fun _=>0,rfl,.scal _ _ _ _ _ rfl (.nil _ fun _=>rfl),fun _=>Nat.zero_le _,fun b hb=>absurd rfl hb,rfl,rfl,rfl,?_,fun b hb _ => ?_⟩
 . simp [Go.Sort.grow,World.drewN]
 . have hb:b<(w.drewN k).heap.size:=hb
   show ((w.drewN k).heap++os)[b]?=_;rw [Array.getElem?_append_left hb];rfl
end
section
open Go.RowKit
def JoinM (P:Program)(f:FuncId):Prop :=
 (∀ (a:Option Addr)(c:Nat)(sep:ByteArray)(w:World),Calls P f #[.slice a 0 c,.string sep] w fun e w'=>e = .returned (.string ⟨#[]⟩)/\w'=w) /\
 ∀ (bk o c:Nat)(xs:List ByteArray)(sep:ByteArray)(w:World),(∀ (j:Nat) x,xs[j]?=some x->w.cell? ⟨bk,o+j,none⟩=some (.string x))->bk<w.heap.size->xs.length<=140737488355328->xs.length<=c ->
   (Lib.join (xs.map (·.data.toList)) sep.data.toList).length<=140737488355328->Calls P f #[.slice (some ⟨bk,o,none⟩) xs.length c,.string sep] w fun e w'=>e = .returned (.string ⟨(Lib.join (xs.map (·.data.toList)) sep.data.toList).toArray⟩)/\Below w.heap.size w w'
def ReplM (P:Program)(f:FuncId)(g:Nat):Prop:=∀ (s old new:ByteArray)(m:Int)(w:World),s.size<4294967281->w.cell? ⟨g,0,none⟩=some (.int .i64 m)->1<=old.size->s.size+Lib.count s.data.toList old.data.toList*new.size<=140737488355328 ->
 Calls P f #[.string s,.string old,.string new] w fun e w'=>e = .returned (.string ⟨(Lib.replaceAll s.data.toList old.data.toList new.data.toList).toArray⟩)/\Below w.heap.size w w'
variable [aj_]
open aj_
variable {E:Env}
theorem qd_ {w:World}{F:Nat->Prop}(hs:∀ x:El .str,enc .v .str x=[.s x]):∀ (xs:List (El .str)) (vals:List Value) (z:Nat->Nat),RL E w F (aT_ .v .str xs) vals z->vals=List.map (fun x:Bs=>Value.string ⟨x.toArray⟩) xs
 |[],vals,z,h=>(RL.nil_inv (show RL E w F [] vals z from h)).1
 |x::xs,vals,z,h=>by
  have h:RL E w F (enc .v .str x++aT_ .v .str xs) vals z:=by simpa [aT_] using h
  rw [hs,List.singleton_append] at h;obtain ⟨v,vs,φ₁,φ₂,rfl,k1,k2,_⟩:=RL.uncons h;have e:=qd_ hs xs vs φ₂ k2;have e1:v = .string ⟨x.toArray⟩:=by
   cases k1 with
   |scal _ _ _ _ _ h1 h2=>exact h1
  subst e1;exact congrArg (List.cons _) e
theorem pf_ [ai_]{w w':World}{F:Nat->Prop}{φ:Nat->Nat}{r:Bs}{ps:List PS}{Vs:List Value}(k:PS.outsAll ps Vs=[])(h:Below w.heap.size w w') :
  ∃ V φ',Ending.returned (.string ⟨r.toArray⟩) = .returned V/\RL E w' (fun b=>(F b/\φ b=0)\/φ' b≠0) (.s r::[]) (V::PS.outsAll ps Vs) φ'/\(∀ b,φ' b<=1)/\(∀ b,φ' b≠0->φ b≠0\/w.heap.size<=b) /\
    w'.os=w.os/\w'.tape=w.tape/\w'.output=w.output/\w.heap.size<=w'.heap.size/\∀ b,b<w.heap.size->φ b=0->w'.heap[b]?=w.heap[b]? :=
 ⟨_,fun _=>0,rfl,by rw [k];exact .scal _ _ _ _ _ rfl (.nil _ fun _=>rfl),fun _=>Nat.zero_le _,fun b hb=>absurd rfl hb,h.os,h.tape,h.output,h.size,fun b hb _=>h.block b hb⟩
omit [aj_] in
theorem tQ_ {xs:List Bs}{sep r:Bs}(hr:nJoin xs sep=some r):xs.length<=140737488355328/\(Lib.join xs sep).length<=140737488355328/\r=Lib.join xs sep:=by
 unfold nJoin at hr;by_cases m:xs.length<=140737488355328
 . by_cases k:(Lib.join xs sep).length<=140737488355328
   . rw [decide_eq_true m,decide_eq_true k] at hr
     exact ⟨m,k,(Option.some.inj hr).symm⟩
   . rw [decide_eq_false k,Bool.and_false] at hr;cases hr
 . rw [decide_eq_false m,Bool.false_and] at hr;cases hr
omit [aj_] in
theorem join_view {P:Program}{f:FuncId}(h:JoinM P f){xs:List Bs}{sep:Bs}{w:World}{b o cap:Nat} (u:w.rangeAt b o (xs.map fun x=>Value.string ⟨x.toArray⟩)) (z:b<w.heap.size) (J:xs.length<=140737488355328) (p:xs.length<=cap) (I:(Lib.join xs sep).length<=140737488355328) :
  Calls P f #[.slice (some ⟨b,o,none⟩) xs.length cap,.string ⟨sep.toArray⟩] w fun e w'=>e = .returned (.string ⟨(Lib.join xs sep).toArray⟩)/\Below w.heap.size w w':=by
 have B:(xs.map (fun x:Bs=>(⟨x.toArray⟩:ByteArray))).map (·.data.toList)=xs:=by rw [List.map_map];exact List.map_id _
 have k:(xs.map (fun x:Bs=>(⟨x.toArray⟩:ByteArray))).length=xs.length:=List.length_map _;have:=h.2 b o cap (xs.map (fun x:Bs=>(⟨x.toArray⟩:ByteArray))) ⟨sep.toArray⟩ w (fun j x m=>u j _ (by
  rw [List.getElem?_map];rw [List.getElem?_map] at m;cases hx:xs[j]? with
  |none=>rw [hx] at m;cases m
  |some y=>rw [hx] at m;cases m;rfl)) z (by rw [k];exact J) (by rw [k];exact p) (by rw [B];exact I)
 rw [B,k] at this;exact this
theorem nJoin_ok [ai_]{f:FuncId}(h:JoinM E.P f)(hs:∀ x:El .str,enc .v .str x=[.s x]){xs:List (El .str)}{sep r:Bs}(hr:nJoin xs sep=some r):ff_ E f [.sl .v .str xs,.s sep] (.s r) [] [.v,.v]:=by
 obtain ⟨O,J,rfl⟩:=tQ_ hr;intro w F Vs φ u T S V;obtain ⟨v,vs,φ₁,φ₂,rfl,k1,k2,e⟩:=RL.uncons u;obtain ⟨v2,vs2,φ₃,φ₄,rfl,k3,k4,e'⟩:=RL.uncons k2;obtain ⟨rfl,e2⟩:=RL.nil_inv k4;have e3:v2 = .string ⟨sep.toArray⟩:=by
  cases k3 with
  |scal _ _ _ _ _ T h2=>exact T
 subst e3;cases k1 with
 |scal _ _ _ _ _ hsc _=>exact hsc.elim
 |own m t xs v vals φ₁ l vs φ₂ φ hm=>exact absurd rfl hm
 |view t xs a n cap vals z l vs φ hn hel hz hb _=>
  obtain ⟨rfl,k⟩:=hn;by_cases Y:0<xs.length
  . obtain ⟨b,o,rfl,B,I,Z⟩:=hb Y
    have U:=qd_ hs xs vals z hel;subst U;have:=join_view h (xs:=xs) (sep:=sep) B I O k J;refine this.mono ?_
    rintro e w' ⟨rfl,p⟩
    exact pf_ rfl p
  . have hx:xs=[]:=List.eq_nil_of_length_eq_zero (by omega)
    subst hx;refine (h.1 a cap ⟨sep.toArray⟩ w).mono ?_
    rintro e w' ⟨rfl,rfl⟩
    exact pf_ rfl (Below.refl _ _)
omit [aj_] in
theorem pG_ {w:World}{F:Nat->Prop}(h:Glob E w F){g:Nat} (k:(g,fun cs=>∃ m,cs[0]?=some (Value.int .i64 m)) ∈ E.globs):∃ m,w.cell? ⟨g,0,none⟩=some (.int .i64 m):=by obtain ⟨⟨cs,T,fr,p,hc⟩,_⟩:=h _ k;obtain ⟨m,k⟩:∃ m,cs[0]?=some (Value.int .i64 m):=hc;refine ⟨m,?_⟩;unfold World.cell?;simp only [p];exact k
omit [aj_] in
theorem int_glob {w:World}{g:Nat}{m:Int} (h:w.cell? ⟨g,0,none⟩=some (.int .i64 m)):∃ cs T fr,w.heap[g]?=some (.cells cs T fr)/\∃ m,cs[0]?=some (Value.int .i64 m):=by
 unfold World.cell? at h;split at h
 . rename_i cs T fr k
   exact ⟨cs,T,fr,k,m,h⟩
 . cases h
theorem nRepl_ok [ai_]{f:FuncId}{g:Nat}(h:ReplM E.P f g) (J:(g,fun cs=>∃ m,cs[0]?=some (Value.int .i64 m)) ∈ E.globs) {s old new r:Bs} (hr:gX_ s old new=some r):ff_ E f [.s s,.s old,.s new] (.s r) [] [.v,.v,.v]:=by
 unfold gX_ at hr;by_cases hc:s.length<4294967281/\1<=old.length/\s.length+Lib.count s old*new.length<=140737488355328
 . rw [decide_eq_true hc.1,decide_eq_true hc.2.1,decide_eq_true hc.2.2] at hr
   simp only [Bool.and_self,cond_true,Option.some.injEq] at hr;subst hr;intro w F Vs φ u k I B;obtain ⟨v,vs,φ₁,φ₂,rfl,k1,k2,e⟩:=RL.uncons u;obtain ⟨v2,vs2,φ₃,φ₄,rfl,k3,k4,e'⟩:=RL.uncons k2;obtain ⟨v3,vs3,φ₅,φ₆,rfl,k5,k6,e''⟩:=RL.uncons k4;obtain ⟨rfl,e2⟩:=RL.nil_inv k6;have e1:v = .string ⟨s.toArray⟩:=by
    cases k1 with
    |scal _ _ _ _ _ k h2=>exact k
   have e3:v2 = .string ⟨old.toArray⟩:=by
    cases k3 with
    |scal _ _ _ _ _ k h2=>exact k
   have e4:v3 = .string ⟨new.toArray⟩:=by
    cases k5 with
    |scal _ _ _ _ _ k h2=>exact k
   subst e1 e3 e4;obtain ⟨m,z⟩:=pG_ B J;refine (h ⟨s.toArray⟩ ⟨old.toArray⟩ ⟨new.toArray⟩ m w hc.1 z hc.2.1 hc.2.2).mono ?_
   rintro e w' ⟨rfl,p⟩
   exact pf_ rfl p
 . have:(decide (s.length<4294967281)&&(decide (1<=old.length)&&decide (s.length+Lib.count s old*new.length<=140737488355328)))=false:=by
    rw [Bool.eq_false_iff];intro h;simp only [Bool.and_eq_true,decide_eq_true_eq] at h;exact hc h
   rw [this] at hr;cases hr
end
section
open Go.RowKit
def IndexM (P:Program)(f:FuncId):Prop:=∀ (s:ByteArray)(c:UInt8)(w:World),Calls P f #[.string s,.string ⟨#[c]⟩] w fun e w'=>e = .returned (.int .i64 (Lib.indexByte s.data.toList c))/\w'=w
def SplitM (P:Program)(f:FuncId)(g T:Nat):Prop:=∀ (s sep:ByteArray)(m:Int)(w:World),s.size<4294967281->w.cell? ⟨g,0,none⟩=some (.int .i64 m)->1<=sep.size ->
 Calls P f #[.string s,.string sep] w fun e w'=>e = .returned (.slice (some ⟨w.heap.size,0,none⟩) (Lib.countB s sep+1) (Lib.countB s sep+1))/\w'=w.alloc (.cells ((Lib.splitB sep 0 (Lib.countB s sep) s).map Value.string).toArray T)
variable [aj_]
open aj_
variable {E:Env}
theorem jD_ {w:World}{F:Nat->Prop}{s:Bs}{l:List AV}{Vs:List Value}{φ:Nat->Nat} (h:RL E w F (.s s::l) Vs φ):∃ vs φ',Vs = .string ⟨s.toArray⟩::vs/\RL E w F l vs φ':=by
 obtain ⟨v,vs,φ₁,φ₂,rfl,k1,k2,e⟩:=RL.uncons h;have e1:v = .string ⟨s.toArray⟩:=by
  cases k1 with
  |scal _ _ _ _ _ h1 h2=>exact h1
 subst e1;exact ⟨_,_,rfl,k2⟩
theorem nIndex_ok [ai_]{f:FuncId}(h:IndexM E.P f){s sep:Bs}{r:Int}(hr:sN_ s sep=some r):ff_ E f [.s s,.s sep] (.i .i64 r) [] [.v,.v]:=by
 intro w F Vs φ k u m p;obtain ⟨_,_,rfl,k2⟩:=jD_ k;obtain ⟨_,_,rfl,k4⟩:=jD_ k2;obtain ⟨rfl,e2⟩:=RL.nil_inv k4;unfold sN_ at hr;split at hr
 . rename_i c
   cases hr;refine (h ⟨s.toArray⟩ c w).mono ?_
   rintro e w' ⟨rfl,rfl⟩
   exact ⟨_,fun _=>0,rfl,.scal _ _ _ _ _ rfl (.nil _ fun _=>rfl),fun _=>Nat.zero_le _,fun b hb=>absurd rfl hb,rfl,rfl,rfl,Nat.le_refl _,fun b hb _=>rfl⟩
 . cases hr
def IndexGM (P:Program)(f:FuncId)(g:Nat):Prop:=∀ (s sep:ByteArray)(m:Int)(w:World),s.size<4294967281->w.cell? ⟨g,0,none⟩=some (.int .i64 m)->Calls P f #[.string s,.string sep] w fun e w'=>e = .returned (.int .i64 (Lib.index s.data.toList sep.data.toList))/\w'=w
theorem tR_ [ai_]{f:FuncId}{g:Nat}(h:IndexGM E.P f g) (B:(g,fun cs=>∃ m,cs[0]?=some (Value.int .i64 m)) ∈ E.globs) {s sep:Bs} {r:Int} (hr:pk_ s sep=some r):ff_ E f [.s s,.s sep] (.i .i64 r) [] [.v,.v]:=by
 intro w F Vs φ k I z u;obtain ⟨_,_,rfl,k2⟩:=jD_ k;obtain ⟨_,_,rfl,k4⟩:=jD_ k2;obtain ⟨rfl,e2⟩:=RL.nil_inv k4;unfold pk_ at hr;by_cases hc:s.length<4294967281
 . rw [decide_eq_true hc] at hr
   replace hr:=Option.some.inj hr;obtain ⟨m,p⟩:=pG_ u B;subst hr;refine (h ⟨s.toArray⟩ ⟨sep.toArray⟩ m w hc p).mono ?_
   rintro e w' ⟨rfl,rfl⟩
   exact ⟨_,fun _=>0,rfl,.scal _ _ _ _ _ rfl (.nil _ fun _=>rfl),fun _=>Nat.zero_le _,fun b hb=>absurd rfl hb,rfl,rfl,rfl,Nat.le_refl _,fun b hb _=>rfl⟩
 . rw [decide_eq_false hc] at hr;cases hr
theorem strs_rl {w:World}{F:Nat->Prop}{m:M}(hs:∀ x:El .str,enc m .str x=[.s x]):∀ (xs:List (El .str)),RL E w F (aT_ m .str xs) (List.map (fun x:Bs=>Value.string ⟨x.toArray⟩) xs) (fun _=>0)
 |[]=>.nil _ fun _=>rfl
 |x::xs=>by
  have ih:=strs_rl (w:=w) (F:=F) hs xs;have:aT_ m .str (x::xs) = .s x::aT_ m .str xs:=by simp [aT_,hs]
  rw [this];exact .scal _ _ _ _ _ rfl ih
theorem nSplit_ok [ai_]{f:FuncId}{g T:Nat}(h:SplitM E.P f g T) (S:(g,fun cs=>∃ m,cs[0]?=some (Value.int .i64 m)) ∈ E.globs) (Y:E.eid .str=T) (hs:∀ m,∀ x:El .str,enc m .str x=[.s x]) (k:TC.width .str=1)
  {s sep:Bs} {r:List Bs} (hr:sM_ s sep=some r):ff_ E f [.s s,.s sep] (.sl .d .str r) [] [.v,.v]:=by
 intro w F Vs φ u Z J I;obtain ⟨_,_,rfl,k2⟩:=jD_ u;obtain ⟨_,_,rfl,k4⟩:=jD_ k2;obtain ⟨rfl,e2⟩:=RL.nil_inv k4;unfold sM_ at hr;by_cases hc:s.length<4294967281/\1<=sep.length
 . rw [decide_eq_true hc.1,decide_eq_true hc.2] at hr
   simp only [Bool.and_self,cond_true] at hr;replace hr:=Option.some.inj hr;obtain ⟨m,z⟩:=pG_ I S;refine (h ⟨s.toArray⟩ ⟨sep.toArray⟩ m w hc.1 z hc.2).mono ?_
   rintro e w' ⟨rfl,rfl⟩
   have p:(Lib.splitB ⟨sep.toArray⟩ 0 (Lib.countB ⟨s.toArray⟩ ⟨sep.toArray⟩) ⟨s.toArray⟩).length=Lib.countB ⟨s.toArray⟩ ⟨sep.toArray⟩+1:=Lib.splitB_all ⟨sep.toArray⟩ hc.2 0 _ _ rfl;have U:Lib.countB (⟨s.toArray⟩:ByteArray) ⟨sep.toArray⟩<=s.length:=Lib.countB_le ⟨sep.toArray⟩ hc.2 _ _ (Nat.le_refl _);have hd:(Lib.splitB ⟨sep.toArray⟩ 0 (Lib.countB ⟨s.toArray⟩ ⟨sep.toArray⟩) ⟨s.toArray⟩).map (·.data.toList)=r:=by rw [Lib.splitB_data,<-hr];rfl
   have B:r.length=Lib.countB (⟨s.toArray⟩:ByteArray) ⟨sep.toArray⟩+1:=by rw [<-hd,List.length_map,p]
   have O:(Lib.splitB ⟨sep.toArray⟩ 0 (Lib.countB ⟨s.toArray⟩ ⟨sep.toArray⟩) ⟨s.toArray⟩).map Value.string=List.map (fun x:Bs=>Value.string ⟨x.toArray⟩) r:=by rw [<-hd,List.map_map];exact List.map_congr_left fun x _=>rfl
   rw [O,<-B];have V:(w.alloc (.cells (List.map (fun x:Bs=>Value.string ⟨x.toArray⟩) r).toArray T)).heap[w.heap.size]?=some (.cells (List.map (fun x:Bs=>Value.string ⟨x.toArray⟩) r).toArray T (0,0)):=by show (w.heap.push _)[w.heap.size]?=_;exact Array.getElem?_push_size
   refine ⟨_,fun b=>cG_ (.slice (some ⟨w.heap.size,0,none⟩) r.length r.length) b,rfl,.own .d .str r _ (List.map (fun x:Bs=>Value.string ⟨x.toArray⟩) r) (fun _=>0) [] [] (fun _=>0) _ (by intro e;cases e) ⟨by rw [List.length_map,k,Nat.mul_one];rfl,.inr ⟨w.heap.size,r.length,_,rfl,Nat.zero_le _,by rw [Y];exact V,Nat.le_refl _,?_,?_,?_⟩⟩
    (strs_rl (hs _) r) (fun b hb=>.inr hb) (.nil _ fun _=>rfl) (fun b=>by simp),fun b => ?_,fun b hb => ?_,rfl,rfl,rfl,?_,fun b hb _ => ?_⟩
   . simp only [maxLen];omega
   . rw [k,Nat.mul_one];show (List.map _ r).toArray.size=r.length;rw [List.size_toArray,List.length_map]
   . rw [k,Nat.mul_one];show (List.map _ r).toArray.toList.take r.length=_;rw [List.take_of_length_le (by simp)]
   . simp only [cG_];split<;>omega
   . right
     have:b=w.heap.size:=by
      by_cases e:b=w.heap.size
      . exact e
      . exact absurd (by simp [cG_,Ne.symm e]) hb
     omega
   . show w.heap.size<=(w.heap.push _).size
     rw [Array.size_push];omega
   . show (w.heap.push _)[b]?=_
     rw [Array.getElem?_push_lt hb];exact (Array.getElem?_eq_getElem hb).symm
 . have:(decide (s.length<4294967281)&&decide (1<=sep.length))=false:=by
    rw [Bool.eq_false_iff];intro h;simp only [Bool.and_eq_true,decide_eq_true_eq] at h;exact hc h
   rw [this] at hr;cases hr
end
section
open Go.RowKit
def IsSyn (x:Lib.NumEnd Int):Prop:=(∀ v,x ≠ .ok v)/\x ≠ .range
def AtoiM (P:Program)(f:FuncId)(g1 g2 T:Nat):Prop :=
 (∀ (s:ByteArray)(v:Int)(w:World),s.size<=9223372036854775806->Lib.atoiAll s.data.toList = .ok v->Calls P f #[.string s] w fun e w'=>e = .returned (.tuple #[.int .i64 v,.nilIface])/\(w'=w\/∃ t,w'=Lib.bytesWorld w T t)) /\
 (∀ (s:ByteArray)(ev:Value)(w:World),s.size<=281474976710656->IsSyn (Lib.atoiAll s.data.toList)->w.cell? ⟨g1,0,none⟩=some ev->(ev = .nilIface\/∃ te pe,ev = .iface te pe)->Calls P f #[.string s] w fun e w'=>(∃ t u,e = .returned (.tuple #[.int .i64 0,.iface t u]))/\Below w.heap.size w w') /\
 (∀ (s:ByteArray)(ev:Value)(w:World),s.size<=281474976710656->Lib.atoiAll s.data.toList = .range->w.cell? ⟨g2,0,none⟩=some ev->(ev = .nilIface\/∃ te pe,ev = .iface te pe)->Calls P f #[.string s] w fun e w'=>(∃ t u,e = .returned (.tuple #[.int .i64 (Lib.atoiSat s.data.toList),.iface t u]))/\Below w.heap.size w w')
def up_ (cs:Array Value):Prop:=∃ ev,cs[0]?=some ev/\(ev = .nilIface\/∃ te pe,ev=Value.iface te pe)
variable [aj_]
open aj_
variable {E:Env}
omit [aj_] in
theorem tf_ {w:World}{F:Nat->Prop}(h:Glob E w F){g:Nat} (m:(g,up_) ∈ E.globs):∃ ev,w.cell? ⟨g,0,none⟩=some ev/\(ev = .nilIface\/∃ te pe,ev = .iface te pe):=by obtain ⟨⟨cs,T,fr,k,ev,u,p⟩,_⟩:=h _ m;refine ⟨ev,?_,p⟩;unfold World.cell?;simp only at k ⊢;rw [k];exact u
omit [aj_] in
theorem te_ {P:Program}{n nm:String}{d:DataW Unit}{r:List (String×DataW Unit)}{W:World}{g:Nat} (h:laidMet P ((n,.iface nm d)::r) W)
  (I:P.globalNamed n=some g) (hi:(match (P.globals[g]?).map (·.type) with|some ti=>(match P.underlying ti with|some (.interface _)=>true|_=>false)|none=>false)=true):∃ cs T fr,W.heap[g]?=some (.cells cs T fr)/\up_ cs:=by
 obtain ⟨ti,ms,J,hi⟩:∃ ti ms,(P.globals[g]?).map (·.type)=some ti/\P.underlying ti=some (.interface ms):=by
  split at hi
  . rename_i ti e
    split at hi
    . rename_i ms e2;exact ⟨ti,ms,e,e2⟩
    . cases hi
  . cases hi
 obtain ⟨ps,⟨g0,t0,cs0,f0,p0,q0,z,m,k,B,_,e0⟩,_,p⟩:=h;obtain rfl:=Option.some.inj (I.symm.trans z);obtain rfl:=Option.some.inj (J.symm.trans m);obtain ⟨f1,u,v,e1,_⟩:=iface_of_trod hi B;unfold World.var? at k;rw [I] at k;simp only [Option.bind_some] at k;split at k
 . rename_i cs T fr O
   cases k;refine ⟨_,T,fr,O,.iface u v,?_,.inr ⟨_,_,rfl⟩⟩;rw [<-Array.getElem?_toList,e1];rfl
 . cases k
theorem tup_ok [ai_]{w w':World}{F:Nat->Prop}{φ:Nat->Nat}{n:Int}{q:Bool}{v:Value} (k:scl (.er q) v) (h:Below w.heap.size w w') :
  ∃ V φ',Ending.returned (.tuple #[.int .i64 n,v]) = .returned V/\RL E w' (fun b=>(F b/\φ b=0)\/φ' b≠0) ([.tu [.i .i64 n,.er q]]++[]) (V::PS.outsAll [.v] [Value.string ByteArray.empty]) φ'/\(∀ b,φ' b<=1)/\(∀ b,φ' b≠0->φ b≠0\/w.heap.size<=b) /\
    w'.os=w.os/\w'.tape=w.tape/\w'.output=w.output/\w.heap.size<=w'.heap.size/\∀ b,b<w.heap.size->φ b=0->w'.heap[b]?=w.heap[b]? :=
 ⟨_,fun _=>0,rfl,.tu _ [.int .i64 n,v] (fun _=>0) [] [] (fun _=>0) _ (.scal _ _ _ _ _ rfl (.scal _ _ _ _ _ k (.nil _ fun _=>rfl))) (.nil _ fun _=>rfl) (fun _=>rfl),fun _=>Nat.zero_le _,fun b hb=>absurd rfl hb,h.os,h.tape,h.output,h.size,fun b hb _=>h.block b hb⟩
theorem nAtoi_ok [ai_]{f:FuncId}{g1 g2 T:Nat}(h:AtoiM E.P f g1 g2 T) (B:(g1,up_) ∈ E.globs) (z:(g2,up_) ∈ E.globs) {s:Bs} {r:Int×Bool} (hr:nAtoi s=some r):ff_ E f [.s s] (.tu [.i .i64 r.1,.er r.2]) [] [.v]:=by
 intro w F Vs φ p S O m;obtain ⟨_,_,rfl,k2⟩:=jD_ p;obtain ⟨rfl,e2⟩:=RL.nil_inv k2;unfold nAtoi at hr;by_cases hc:s.length<=281474976710656
 . rw [decide_eq_true hc] at hr
   simp only [cond_true,Option.some.injEq] at hr;subst hr;cases ha:Lib.atoiAll s
   . rename_i v
     refine (h.1 ⟨s.toArray⟩ v w (Nat.le_trans hc (by decide)) ha).mono ?_
     rintro e w' ⟨rfl,k⟩
     refine tup_ok (n:=v) (q:=true) (v:=.nilIface) ⟨fun _=>rfl,fun e=>(by cases e)⟩ ?_;rcases k with rfl|⟨t,rfl⟩
     . exact Below.refl _ _
     . exact Go.Joins.below_bytesWorld _ _ _ _ (Nat.le_refl _)
   . obtain ⟨ev,J,I⟩:=tf_ m B
     refine (h.2.1 ⟨s.toArray⟩ ev w hc (by rw [show (⟨s.toArray⟩:ByteArray).data.toList=s from rfl,ha];exact ⟨fun v e=>(by cases e),fun e=>(by cases e)⟩) J I).mono ?_
     rintro e w' ⟨⟨t,u,rfl⟩,k⟩
     exact tup_ok (n:=0) (q:=false) (v:=.iface t u) ⟨fun e=>(by cases e),fun _=>⟨_,_,rfl⟩⟩ k
   . obtain ⟨ev,J,I⟩:=tf_ m z
     refine (h.2.2 ⟨s.toArray⟩ ev w hc ha J I).mono ?_
     rintro e w' ⟨⟨t,u,rfl⟩,k⟩
     exact tup_ok (n:=Lib.atoiSat s) (q:=false) (v:=.iface t u) ⟨fun e=>(by cases e),fun _=>⟨_,_,rfl⟩⟩ k
 . rw [decide_eq_false hc] at hr;cases hr
end
section
open Go.Proofs
instance coding:aj_ where
 enc:=fun m t=>match t with
  |.u8=>fun (x:Int)=>[AV.i .u8 x]
  |.str=>fun (x:Bs)=>[AV.s x]
  |.int=>fun (x:Int)=>[AV.i .i64 x]
  |.iRow=>fun (x:TRow)=>[AV.i .i64 x.id_,AV.sl m .int x.cells]
  |.s_iRow=>fun (x:List TRow)=>[AV.sl m .iRow x]
  |.iCond=>fun (x:ci_)=>[AV.i .i64 x.col,AV.i .i64 x.op,AV.i .i64 x.v]
  |.iKid=>fun (x:TKid)=>[AV.i .i64 x.id_,AV.i .i64 x.n_]
  |.iEvent=>fun (x:ar_)=>[AV.i .i64 x.kind,AV.i .i64 x.version,AV.i .i64 x.base,AV.i .i64 x.doc.kind,AV.i .i64 x.doc.n_,AV.s x.doc.s,AV.sl m .iJson x.doc.list,AV.sl m .str x.doc.names,AV.sl m .iOp x.ops]
  |.iJson=>fun (x:aa_)=>[AV.i .i64 x.kind,AV.i .i64 x.n_,AV.s x.s,AV.sl m .iJson x.list,AV.sl m .str x.names]
  |.iOp=>fun (x:TOp)=>[AV.i .i64 x.kind,AV.sl m .str x.way,AV.i .i64 x.value.kind,AV.i .i64 x.value.n_,AV.s x.value.s,AV.sl m .iJson x.value.list,AV.sl m .str x.value.names]
  |.iMut=>fun (x:TMut)=>[AV.i .i64 x.kind,AV.i .i64 x.table,AV.i .i64 x.row.id_,AV.sl m .int x.row.cells]
  |.iChange=>fun (x:aX_)=>[AV.i .i64 x.table,AV.b x.had,AV.b x.has,AV.i .i64 x.old.id_,AV.sl m .int x.old.cells,AV.i .i64 x.new.id_,AV.sl m .int x.new.cells]
 dec:=fun t=>match t with
  |.u8=>fun l=>uc l fun a1 l2=>gy_ .u8 a1 fun x3=>un l2 (some (x3:Int))
  |.str=>fun l=>uc l fun a1 l2=>getS a1 fun x3=>un l2 (some (x3:Bs))
  |.int=>fun l=>uc l fun a1 l2=>gy_ .i64 a1 fun x3=>un l2 (some (x3:Int))
  |.iRow=>fun l=>uc l fun a1 l2=>gy_ .i64 a1 fun x3=>uc l2 fun a4 l5=>eK_ .int a4 fun x6=>un l5 (some ((TRow.mk x3 x6):TRow))
  |.s_iRow=>fun l=>uc l fun a1 l2=>eK_ .iRow a1 fun x3=>un l2 (some (x3:List TRow))
  |.iCond=>fun l=>uc l fun a1 l2=>gy_ .i64 a1 fun x3=>uc l2 fun a4 l5=>gy_ .i64 a4 fun x6=>uc l5 fun a7 l8=>gy_ .i64 a7 fun x9=>un l8 (some ((ci_.mk x3 x6 x9):ci_))
  |.iKid=>fun l=>uc l fun a1 l2=>gy_ .i64 a1 fun x3=>uc l2 fun a4 l5=>gy_ .i64 a4 fun x6=>un l5 (some ((TKid.mk x3 x6):TKid))
  |.iEvent=>fun l=>uc l fun a1 l2=>gy_ .i64 a1 fun x3=>uc l2 fun a4 l5=>gy_ .i64 a4 fun x6=>uc l5 fun a7 l8=>gy_ .i64 a7 fun x9=>uc l8 fun a10 l11=>gy_ .i64 a10 fun x12=>uc l11 fun a13 l14=>gy_ .i64 a13 fun x15=>uc l14 fun a16 l17=>getS a16 fun x18=>uc l17 fun a19 l20=>eK_ .iJson a19 fun x21=>uc l20 fun a23 l24=>eK_ .str a23 fun x25=>uc l24 fun a27 l28=>eK_ .iOp a27 fun x29=>un l28 (some ((ar_.mk x3 x6 x9 (aa_.mk x12 x15 x18 x21 x25) x29):ar_))
  |.iJson=>fun l=>uc l fun a1 l2=>gy_ .i64 a1 fun x3=>uc l2 fun a4 l5=>gy_ .i64 a4 fun x6=>uc l5 fun a7 l8=>getS a7 fun x9=>uc l8 fun a10 l11=>eK_ .iJson a10 fun x12=>uc l11 fun a14 l15=>eK_ .str a14 fun x16=>un l15 (some ((aa_.mk x3 x6 x9 x12 x16):aa_))
  |.iOp=>fun l=>uc l fun a1 l2=>gy_ .i64 a1 fun x3=>uc l2 fun a4 l5=>eK_ .str a4 fun x6=>uc l5 fun a8 l9=>gy_ .i64 a8 fun x10=>uc l9 fun a11 l12=>gy_ .i64 a11 fun x13=>uc l12 fun a14 l15=>getS a14 fun x16=>uc l15 fun a17 l18=>eK_ .iJson a17 fun x19=>uc l18 fun a21 l22=>eK_ .str a21 fun x23=>un l22 (some ((TOp.mk x3 x6 (aa_.mk x10 x13 x16 x19 x23)):TOp))
  |.iMut=>fun l=>uc l fun a1 l2=>gy_ .i64 a1 fun x3=>uc l2 fun a4 l5=>gy_ .i64 a4 fun x6=>uc l5 fun a7 l8=>gy_ .i64 a7 fun x9=>uc l8 fun a10 l11=>eK_ .int a10 fun x12=>un l11 (some ((TMut.mk x3 x6 (TRow.mk x9 x12)):TMut))
  |.iChange=>fun l=>uc l fun a1 l2=>gy_ .i64 a1 fun x3=>uc l2 fun a4 l5=>getB a4 fun x6=>uc l5 fun a7 l8=>getB a7 fun x9=>uc l8 fun a10 l11=>gy_ .i64 a10 fun x12=>uc l11 fun a13 l14=>eK_ .int a13 fun x15=>uc l14 fun a17 l18=>gy_ .i64 a17 fun x19=>uc l18 fun a20 l21=>eK_ .int a20 fun x22=>un l21 (some ((aX_.mk x3 x6 x9 (TRow.mk x12 x15) (TRow.mk x19 x22)):aX_))
instance codingOk:ai_ where
 len:=by intro m t x;cases t<;>rfl
 pos:=by intro t;cases t<;>decide
 view:=by intro m t x;cases t<;>rfl
 flat:=by intro m m' t x h;cases t<;>first|rfl|cases h
 cell:=by intro m t x a ha;refine coded_of ?_ a ha;cases t<;>cases m<;>rfl
 u8:=by intro m n;rfl
 dec:=by
  intro m t l y h;cases t with
  |u8=>
   replace h:(uc l fun a1 l2=>gy_ .u8 a1 fun x3=>un l2 (some (x3:Int)))=some y:=h;replace h:=en_ h;obtain ⟨a1,l2,rfl,h⟩:=h;replace h:=d5_ h;obtain ⟨x3,rfl,h⟩:=h;replace h:=j0_ h;obtain ⟨rfl,h⟩:=h;cases h;exact ⟨rfl,trivial⟩
  |str=>
   replace h:(uc l fun a1 l2=>getS a1 fun x3=>un l2 (some (x3:Bs)))=some y:=h;replace h:=en_ h;obtain ⟨a1,l2,rfl,h⟩:=h;replace h:=ne_ h;obtain ⟨x3,rfl,h⟩:=h;replace h:=j0_ h;obtain ⟨rfl,h⟩:=h;cases h;exact ⟨rfl,trivial⟩
  |int=>
   replace h:(uc l fun a1 l2=>gy_ .i64 a1 fun x3=>un l2 (some (x3:Int)))=some y:=h;replace h:=en_ h;obtain ⟨a1,l2,rfl,h⟩:=h;replace h:=d5_ h;obtain ⟨x3,rfl,h⟩:=h;replace h:=j0_ h;obtain ⟨rfl,h⟩:=h;cases h;exact ⟨rfl,trivial⟩
  |iRow=>
   replace h:(uc l fun a1 l2=>gy_ .i64 a1 fun x3=>uc l2 fun a4 l5=>eK_ .int a4 fun x6=>un l5 (some ((TRow.mk x3 x6):TRow)))=some y:=h;replace h:=en_ h;obtain ⟨a1,l2,rfl,h⟩:=h;replace h:=d5_ h;obtain ⟨x3,rfl,h⟩:=h;replace h:=en_ h;obtain ⟨a4,l5,rfl,h⟩:=h;replace h:=eO_ h;obtain ⟨x6,h,z7⟩:=h;replace h:=j0_ h;obtain ⟨rfl,h⟩:=h;cases h;exact ⟨rfl,z7 m,trivial⟩
  |s_iRow=>
   replace h:(uc l fun a1 l2=>eK_ .iRow a1 fun x3=>un l2 (some (x3:List TRow)))=some y:=h;replace h:=en_ h;obtain ⟨a1,l2,rfl,h⟩:=h;replace h:=eO_ h;obtain ⟨x3,h,z4⟩:=h;replace h:=j0_ h;obtain ⟨rfl,h⟩:=h;cases h;exact ⟨z4 m,trivial⟩
  |iCond=>
   replace h:(uc l fun a1 l2=>gy_ .i64 a1 fun x3=>uc l2 fun a4 l5=>gy_ .i64 a4 fun x6=>uc l5 fun a7 l8=>gy_ .i64 a7 fun x9=>un l8 (some ((ci_.mk x3 x6 x9):ci_)))=some y:=h;replace h:=en_ h;obtain ⟨a1,l2,rfl,h⟩:=h;replace h:=d5_ h;obtain ⟨x3,rfl,h⟩:=h;replace h:=en_ h;obtain ⟨a4,l5,rfl,h⟩:=h;replace h:=d5_ h;obtain ⟨x6,rfl,h⟩:=h;replace h:=en_ h;obtain ⟨a7,l8,rfl,h⟩:=h;replace h:=d5_ h;obtain ⟨x9,rfl,h⟩:=h;replace h:=j0_ h;obtain ⟨rfl,h⟩:=h;cases h;exact ⟨rfl,rfl,rfl,trivial⟩
  |iKid=>
   replace h:(uc l fun a1 l2=>gy_ .i64 a1 fun x3=>uc l2 fun a4 l5=>gy_ .i64 a4 fun x6=>un l5 (some ((TKid.mk x3 x6):TKid)))=some y:=h;replace h:=en_ h;obtain ⟨a1,l2,rfl,h⟩:=h;replace h:=d5_ h;obtain ⟨x3,rfl,h⟩:=h;replace h:=en_ h;obtain ⟨a4,l5,rfl,h⟩:=h;replace h:=d5_ h;obtain ⟨x6,rfl,h⟩:=h;replace h:=j0_ h;obtain ⟨rfl,h⟩:=h;cases h;exact ⟨rfl,rfl,trivial⟩
  |iEvent=>
   replace h:(uc l fun a1 l2=>gy_ .i64 a1 fun x3=>uc l2 fun a4 l5=>gy_ .i64 a4 fun x6=>uc l5 fun a7 l8=>gy_ .i64 a7 fun x9=>uc l8 fun a10 l11=>gy_ .i64 a10 fun x12=>uc l11 fun a13 l14=>gy_ .i64 a13 fun x15=>uc l14 fun a16 l17=>getS a16 fun x18=>uc l17 fun a19 l20=>eK_ .iJson a19 fun x21=>uc l20 fun a23 l24=>eK_ .str a23 fun x25=>uc l24 fun a27 l28=>eK_ .iOp a27 fun x29=>un l28 (some ((ar_.mk x3 x6 x9 (aa_.mk x12 x15 x18 x21 x25) x29):ar_)))=some y:=h;replace h:=en_ h;obtain ⟨a1,l2,rfl,h⟩:=h;replace h:=d5_ h;obtain ⟨x3,rfl,h⟩:=h;replace h:=en_ h;obtain ⟨a4,l5,rfl,h⟩:=h;replace h:=d5_ h;obtain ⟨x6,rfl,h⟩:=h;replace h:=en_ h;obtain ⟨a7,l8,rfl,h⟩:=h;replace h:=d5_ h;obtain ⟨x9,rfl,h⟩:=h;replace h:=en_ h;obtain ⟨a10,l11,rfl,h⟩:=h;replace h:=d5_ h;obtain ⟨x12,rfl,h⟩:=h;replace h:=en_ h;obtain ⟨a13,l14,rfl,h⟩:=h;replace h:=d5_ h;obtain ⟨x15,rfl,h⟩:=h;replace h:=en_ h;obtain ⟨a16,l17,rfl,h⟩:=h;replace h:=ne_ h;obtain ⟨x18,rfl,h⟩:=h;replace h:=en_ h;obtain ⟨a19,l20,rfl,h⟩:=h;replace h:=eO_ h;obtain ⟨x21,h,z22⟩:=h;replace h:=en_ h;obtain ⟨a23,l24,rfl,h⟩:=h;replace h:=eO_ h;obtain ⟨x25,h,z26⟩:=h;replace h:=en_ h;obtain ⟨a27,l28,rfl,h⟩:=h;replace h:=eO_ h;obtain ⟨x29,h,z30⟩:=h;replace h:=j0_ h;obtain ⟨rfl,h⟩:=h;cases h;exact ⟨rfl,rfl,rfl,rfl,rfl,rfl,z22 m,z26 m,z30 m,trivial⟩
  |iJson=>
   replace h:(uc l fun a1 l2=>gy_ .i64 a1 fun x3=>uc l2 fun a4 l5=>gy_ .i64 a4 fun x6=>uc l5 fun a7 l8=>getS a7 fun x9=>uc l8 fun a10 l11=>eK_ .iJson a10 fun x12=>uc l11 fun a14 l15=>eK_ .str a14 fun x16=>un l15 (some ((aa_.mk x3 x6 x9 x12 x16):aa_)))=some y:=h;replace h:=en_ h;obtain ⟨a1,l2,rfl,h⟩:=h;replace h:=d5_ h;obtain ⟨x3,rfl,h⟩:=h;replace h:=en_ h;obtain ⟨a4,l5,rfl,h⟩:=h;replace h:=d5_ h;obtain ⟨x6,rfl,h⟩:=h;replace h:=en_ h;obtain ⟨a7,l8,rfl,h⟩:=h;replace h:=ne_ h;obtain ⟨x9,rfl,h⟩:=h;replace h:=en_ h;obtain ⟨a10,l11,rfl,h⟩:=h;replace h:=eO_ h;obtain ⟨x12,h,z13⟩:=h;replace h:=en_ h;obtain ⟨a14,l15,rfl,h⟩:=h;replace h:=eO_ h;obtain ⟨x16,h,z17⟩:=h;replace h:=j0_ h;obtain ⟨rfl,h⟩:=h;cases h;exact ⟨rfl,rfl,rfl,z13 m,z17 m,trivial⟩
  |iOp=>
   replace h:(uc l fun a1 l2=>gy_ .i64 a1 fun x3=>uc l2 fun a4 l5=>eK_ .str a4 fun x6=>uc l5 fun a8 l9=>gy_ .i64 a8 fun x10=>uc l9 fun a11 l12=>gy_ .i64 a11 fun x13=>uc l12 fun a14 l15=>getS a14 fun x16=>uc l15 fun a17 l18=>eK_ .iJson a17 fun x19=>uc l18 fun a21 l22=>eK_ .str a21 fun x23=>un l22 (some ((TOp.mk x3 x6 (aa_.mk x10 x13 x16 x19 x23)):TOp)))=some y:=h;replace h:=en_ h;obtain ⟨a1,l2,rfl,h⟩:=h;replace h:=d5_ h;obtain ⟨x3,rfl,h⟩:=h;replace h:=en_ h;obtain ⟨a4,l5,rfl,h⟩:=h;replace h:=eO_ h;obtain ⟨x6,h,z7⟩:=h;replace h:=en_ h;obtain ⟨a8,l9,rfl,h⟩:=h;replace h:=d5_ h;obtain ⟨x10,rfl,h⟩:=h;replace h:=en_ h;obtain ⟨a11,l12,rfl,h⟩:=h;replace h:=d5_ h;obtain ⟨x13,rfl,h⟩:=h;replace h:=en_ h;obtain ⟨a14,l15,rfl,h⟩:=h;replace h:=ne_ h;obtain ⟨x16,rfl,h⟩:=h;replace h:=en_ h;obtain ⟨a17,l18,rfl,h⟩:=h;replace h:=eO_ h;obtain ⟨x19,h,z20⟩:=h;replace h:=en_ h;obtain ⟨a21,l22,rfl,h⟩:=h;replace h:=eO_ h;obtain ⟨x23,h,z24⟩:=h;replace h:=j0_ h;obtain ⟨rfl,h⟩:=h;cases h;exact ⟨rfl,z7 m,rfl,rfl,rfl,z20 m,z24 m,trivial⟩
  |iMut=>
   replace h:(uc l fun a1 l2=>gy_ .i64 a1 fun x3=>uc l2 fun a4 l5=>gy_ .i64 a4 fun x6=>uc l5 fun a7 l8=>gy_ .i64 a7 fun x9=>uc l8 fun a10 l11=>eK_ .int a10 fun x12=>un l11 (some ((TMut.mk x3 x6 (TRow.mk x9 x12)):TMut)))=some y:=h;replace h:=en_ h;obtain ⟨a1,l2,rfl,h⟩:=h;replace h:=d5_ h;obtain ⟨x3,rfl,h⟩:=h;replace h:=en_ h;obtain ⟨a4,l5,rfl,h⟩:=h;replace h:=d5_ h;obtain ⟨x6,rfl,h⟩:=h;replace h:=en_ h;obtain ⟨a7,l8,rfl,h⟩:=h;replace h:=d5_ h;obtain ⟨x9,rfl,h⟩:=h;replace h:=en_ h;obtain ⟨a10,l11,rfl,h⟩:=h;replace h:=eO_ h;obtain ⟨x12,h,z13⟩:=h;replace h:=j0_ h;obtain ⟨rfl,h⟩:=h;cases h;exact ⟨rfl,rfl,rfl,z13 m,trivial⟩
  |iChange=>
   replace h:(uc l fun a1 l2=>gy_ .i64 a1 fun x3=>uc l2 fun a4 l5=>getB a4 fun x6=>uc l5 fun a7 l8=>getB a7 fun x9=>uc l8 fun a10 l11=>gy_ .i64 a10 fun x12=>uc l11 fun a13 l14=>eK_ .int a13 fun x15=>uc l14 fun a17 l18=>gy_ .i64 a17 fun x19=>uc l18 fun a20 l21=>eK_ .int a20 fun x22=>un l21 (some ((aX_.mk x3 x6 x9 (TRow.mk x12 x15) (TRow.mk x19 x22)):aX_)))=some y:=h;replace h:=en_ h;obtain ⟨a1,l2,rfl,h⟩:=h;replace h:=d5_ h;obtain ⟨x3,rfl,h⟩:=h;replace h:=en_ h;obtain ⟨a4,l5,rfl,h⟩:=h;replace h:=rQ_ h;obtain ⟨x6,rfl,h⟩:=h;replace h:=en_ h;obtain ⟨a7,l8,rfl,h⟩:=h;replace h:=rQ_ h;obtain ⟨x9,rfl,h⟩:=h;replace h:=en_ h;obtain ⟨a10,l11,rfl,h⟩:=h;replace h:=d5_ h;obtain ⟨x12,rfl,h⟩:=h;replace h:=en_ h;obtain ⟨a13,l14,rfl,h⟩:=h;replace h:=eO_ h;obtain ⟨x15,h,z16⟩:=h;replace h:=en_ h;obtain ⟨a17,l18,rfl,h⟩:=h;replace h:=d5_ h;obtain ⟨x19,rfl,h⟩:=h;replace h:=en_ h;obtain ⟨a20,l21,rfl,h⟩:=h;replace h:=eO_ h;obtain ⟨x22,h,z23⟩:=h;replace h:=j0_ h;obtain ⟨rfl,h⟩:=h;cases h;exact ⟨rfl,rfl,rfl,rfl,z16 m,rfl,z23 m,trivial⟩
def eid:TC->TypeId
 |.u8=>5
 |.str=>9
 |.int=>3
 |.iRow=>173
 |.s_iRow=>106
 |.iCond=>163
 |.iKid=>251
 |.iEvent=>35
 |.iJson=>29
 |.iOp=>87
 |.iMut=>179
 |.iChange=>175
noncomputable def E:Env:=⟨Tryz.prog,eid,[(3,fun cs=>cs=(Lib.pow10Tab.map fun z=>Value.int .u64 z).toArray),(0,fun cs=>∃ m,cs[0]?=some (Value.int .i64 m)),(1,up_),(2,up_)]⟩
def ttL:List (Nat×TD):=[
 (3,⟨1,false,[.i .i64 0],[],none,some .i64,false,false,[],false⟩),
 (4,⟨1,false,[.b false],[],none,none,false,true,[],false⟩),
 (5,⟨1,false,[.i .u8 0],[],none,some .u8,false,false,[],false⟩),
 (9,⟨1,false,[.s []],[],none,none,true,false,[],false⟩),
 (22,⟨1,false,[.nils],[],some .u8,none,false,false,[],false⟩),
 (24,⟨1,false,[.nils],[],some .iEvent,none,false,false,[],false⟩),
 (26,⟨1,false,[.nils],[],some .iJson,none,false,false,[],false⟩),
 (27,⟨1,false,[.nils],[],some .str,none,false,false,[],false⟩),
 (29,⟨5,true,[.i .i64 0,.i .i64 0,.s [],.nils,.nils],[(0,1),(1,1),(2,1),(3,1),(4,1)],none,none,false,false,[],false⟩),
 (31,⟨8,true,[.i .i64 0,.i .i64 0,.s [],.nils,.nils,.i .i64 0,.b false,.b false],[(0,5),(5,1),(6,1),(7,1)],none,none,false,false,[],false⟩),
 (33,⟨1,false,[.nils],[],some .iOp,none,false,false,[],false⟩),
 (35,⟨9,true,[.i .i64 0,.i .i64 0,.i .i64 0,.i .i64 0,.i .i64 0,.s [],.nils,.nils,.nils],[(0,1),(1,1),(2,1),(3,5),(8,1)],none,none,false,false,[],false⟩),
 (45,⟨1,false,[.nils],[],some .int,none,false,false,[],false⟩),
 (51,⟨2,true,[.s [],.b false],[(0,1),(1,1)],none,none,false,false,[.s,.b],false⟩),
 (63,⟨1,false,[.nilp],[],none,none,false,false,[],false⟩),
 (87,⟨7,true,[.i .i64 0,.nils,.i .i64 0,.i .i64 0,.s [],.nils,.nils],[(0,1),(1,1),(2,5)],none,none,false,false,[],false⟩),
 (98,⟨1,true,[.nils],[(0,1)],none,none,false,false,[],false⟩),
 (99,⟨1,false,[.nils],[],some .s_iRow,none,false,false,[],false⟩),
 (101,⟨3,true,[.nils,.i .i64 0,.nils],[(0,1),(1,1),(2,1)],none,none,false,false,[],false⟩),
 (103,⟨1,false,[.nils],[],some .iCond,none,false,false,[],false⟩),
 (105,⟨9,true,[.i .i64 0,.nils,.i .i64 0,.b false,.i .i64 0,.nils,.b false,.i .i64 0,.i .i64 0],[(0,1),(1,1),(2,1),(3,1),(4,1),(5,1),(6,1),(7,1),(8,1)],none,none,false,false,[],false⟩),
 (106,⟨1,false,[.nils],[],some .iRow,none,false,false,[],false⟩),
 (107,⟨1,false,[.nils],[],some .iKid,none,false,false,[],false⟩),
 (109,⟨11,true,[.i .i64 0,.nils,.i .i64 0,.b false,.i .i64 0,.nils,.b false,.i .i64 0,.i .i64 0,.nils,.nils],[(0,9),(9,1),(10,1)],none,none,false,false,[],false⟩),
 (111,⟨25,true,[.i .i64 0,.nils,.i .i64 0,.b false,.i .i64 0,.nils,.b false,.i .i64 0,.i .i64 0,.nils,.nils,.i .i64 0,.i .i64 0,.nils,.i .i64 0,.b false,.i .i64 0,.nils,.b false,.i .i64 0,.i .i64 0,.nils,.nils,.i .i64 0,.b false],[(0,11),(11,1),(12,11),(23,1),(24,1)],none,none,false,false,[],false⟩),
 (117,⟨1,false,[.nils],[],some .iChange,none,false,false,[],false⟩),
 (120,⟨1,false,[.nils],[],some .iMut,none,false,false,[],false⟩),
 (124,⟨3,true,[.nils,.i .i64 0,.i .i64 0],[(0,1),(1,1),(2,1)],none,none,false,false,[],false⟩),
 (140,⟨1,false,[.nili],[],none,none,false,false,[],true⟩),
 (147,⟨1,false,[.nilp],[],none,none,false,false,[],false⟩),
 (149,⟨4,true,[.s [],.i .i64 0,.b false,.i .i64 0],[(0,1),(1,1),(2,1),(3,1)],none,none,false,false,[.s,.i,.b,.i],false⟩),
 (163,⟨3,true,[.i .i64 0,.i .i64 0,.i .i64 0],[(0,1),(1,1),(2,1)],none,none,false,false,[.i,.i,.i],false⟩),
 (173,⟨2,true,[.i .i64 0,.nils],[(0,1),(1,1)],none,none,false,false,[],false⟩),
 (175,⟨7,true,[.i .i64 0,.b false,.b false,.i .i64 0,.nils,.i .i64 0,.nils],[(0,1),(1,1),(2,1),(3,2),(5,2)],none,none,false,false,[],false⟩),
 (179,⟨4,true,[.i .i64 0,.i .i64 0,.i .i64 0,.nils],[(0,1),(1,1),(2,2)],none,none,false,false,[],false⟩),
 (184,⟨1,false,[.i .u64 0],[],none,some .u64,false,false,[],false⟩),
 (194,⟨1,false,[.nilp],[],none,none,false,false,[],false⟩),
 (196,⟨2,true,[.s [],.b false],[(0,1),(1,1)],none,none,false,false,[.s,.b],false⟩),
 (251,⟨2,true,[.i .i64 0,.i .i64 0],[(0,1),(1,1)],none,none,false,false,[.i,.i],false⟩)]
def tt (T:Nat):Option TD:=nT_ ttL T
theorem ttOk (T:TypeId):TTok E T (tt T):=tt_ok (E:=E) (by kernel_rfl) T
theorem tcOk (t:TC):TCok E t:=by
 cases t with
 |u8=>exact h9_ (zc:=[.i .u8 0]) (by kernel_rfl) (fun m=>⟨rfl,trivial⟩)
 |str=>exact h9_ (zc:=[.s []]) (by kernel_rfl) (fun m=>⟨rfl,trivial⟩)
 |int=>exact h9_ (zc:=[.i .i64 0]) (by kernel_rfl) (fun m=>⟨rfl,trivial⟩)
 |iRow=>exact h9_ (zc:=[.i .i64 0,.nils]) (by kernel_rfl) (fun m=>⟨rfl,⟨_,rfl⟩,trivial⟩)
 |s_iRow=>exact h9_ (zc:=[.nils]) (by kernel_rfl) (fun m=>⟨⟨_,rfl⟩,trivial⟩)
 |iCond=>exact h9_ (zc:=[.i .i64 0,.i .i64 0,.i .i64 0]) (by kernel_rfl) (fun m=>⟨rfl,rfl,rfl,trivial⟩)
 |iKid=>exact h9_ (zc:=[.i .i64 0,.i .i64 0]) (by kernel_rfl) (fun m=>⟨rfl,rfl,trivial⟩)
 |iEvent=>exact h9_ (zc:=[.i .i64 0,.i .i64 0,.i .i64 0,.i .i64 0,.i .i64 0,.s [],.nils,.nils,.nils]) (by kernel_rfl) (fun m=>⟨rfl,rfl,rfl,rfl,rfl,rfl,⟨_,rfl⟩,⟨_,rfl⟩,⟨_,rfl⟩,trivial⟩)
 |iJson=>exact h9_ (zc:=[.i .i64 0,.i .i64 0,.s [],.nils,.nils]) (by kernel_rfl) (fun m=>⟨rfl,rfl,rfl,⟨_,rfl⟩,⟨_,rfl⟩,trivial⟩)
 |iOp=>exact h9_ (zc:=[.i .i64 0,.nils,.i .i64 0,.i .i64 0,.s [],.nils,.nils]) (by kernel_rfl) (fun m=>⟨rfl,⟨_,rfl⟩,rfl,rfl,rfl,⟨_,rfl⟩,⟨_,rfl⟩,trivial⟩)
 |iMut=>exact h9_ (zc:=[.i .i64 0,.i .i64 0,.i .i64 0,.nils]) (by kernel_rfl) (fun m=>⟨rfl,rfl,rfl,⟨_,rfl⟩,trivial⟩)
 |iChange=>exact h9_ (zc:=[.i .i64 0,.b false,.b false,.i .i64 0,.nils,.i .i64 0,.nils]) (by kernel_rfl) (fun m=>⟨rfl,rfl,rfl,rfl,⟨_,rfl⟩,rfl,⟨_,rfl⟩,trivial⟩)
theorem u8Ok:E.P.underlying (E.eid .u8)=some (.int .u8):=by kernel_rfl
theorem mixedOk:E.P.follows .mixedOrders=true:=by kernel_rfl
end
section
variable {R:Type}
def un1 {A R:Type}(f:Nat->A->Option R)(n:Nat)(x:A×Unit):Option R:=f n x.1
def un2 {A B R:Type}(f:Nat->A->B->Option R)(n:Nat)(x:A×B×Unit):Option R:=f n x.1 x.2.1
def un3 {A B C R:Type}(f:Nat->A->B->C->Option R)(n:Nat)(x:A×B×C×Unit):Option R:=f n x.1 x.2.1 x.2.2.1
def un4 {A B C D R:Type}(f:Nat->A->B->C->D->Option R)(n:Nat)(x:A×B×C×D×Unit):Option R:=f n x.1 x.2.1 x.2.2.1 x.2.2.2.1
mutual
def Pat.ps:Pat->PS
 |.sl .v _=>.v
 |.sl _ _=>.o
 |.ag l=>.ag (Pat.pss l)
 |.bx l=>.ptr (Pat.pss l)
 |_=>.v
def Pat.pss:List Pat->List PS
 |[]=>[]
 |p::l=>Pat.ps p::Pat.pss l
end
mutual
def Pat.sh:Pat->Sh
 |.sl .v t=>.view t
 |.sl m t=>.own m t
 |.ag l=>.ag (Pat.shs l)
 |.bx l=>.box (Pat.shs l)
 |_=>.k
def Pat.shs:List Pat->List Sh
 |[]=>[]
 |p::l=>Pat.sh p::Pat.shs l
end
structure RD where
 R:Type
 rp:List Pat
 toR:Pat.Ts rp->R
 ofR:R->Pat.Ts rp
structure FE where
 R:Type
 d:FD R
 sel:List AV->Bool
 F:Nat->Pat.Ts d.ps->Option R
def mkE (r:RD)(fid nt e:Nat)(ps:List Pat)(rs:List ResultVar)(outs:List AV) (cut out:List (Nat×OD)) (F:Nat->Pat.Ts ps->Option r.R):FE :=
 ⟨r.R,⟨fid,nt,e,ps,r.rp,r.toR,r.ofR,Pat.pss ps,Pat.pss r.rp,Pat.shs r.rp,rs,outs,cut,[],out⟩,fun _=>true,F⟩
def KE (n:Nat):List FE->(ω:Type)->Nat->List AV->(AV->List AV->Option ω)->Option ω
 |[],_,_,_,_=>none
 |e::l,ω,f,avs,κ=>cond (Nat.beq f e.d.fid) (cond (e.sel avs) (e.d.K (e.F n) avs κ) (KE n l ω f avs κ)) (KE n l ω f avs κ)
def sigE:List FE->Nat->Option (List PS)
 |[],_=>none
 |e::l,f=>cond (Nat.beq f e.d.fid) (some e.d.sig) (sigE l f)
inductive sa_ (R:Type) (o:OD) where
 |lp (step:(Nat->D R)->o.Cu (Option R)->o.Cu (Option R))
 |tl (f:D R->(Nat->D R)->o.Cu (Option R))
def sa_.f {o:OD}(N:Nat):sa_ R o->D R->(Nat->D R)->o.Cu (Option R)
 |.lp s,_,κe=>cw_ (o.lm fun _ _=>none) (s κe) N
 |.tl f,κd,κe=>f κd κe
def Stps (R:Type):List (Nat×OD)->Type
 |[]=>Unit
 |(_,o)::l=>sa_ R o×Stps R l
def fsOf (N:Nat):(l:List (Nat×OD))->Stps R l->PFs R l
 |[],_=>()
 |(_,_)::l,s=>(s.1.f N,fsOf N l s.2)
def PEq (R:Type):List (Nat×OD)->Type
 |[]=>Unit
 |(_,o)::l=>(Bool×(D R->(Nat->D R)->Pat.Ts o.vp->BPat.Ts o.bp->Option R))×PEq R l
def sa_.rhs {o:OD}:sa_ R o->Bool×(D R->(Nat->D R)->Pat.Ts o.vp->BPat.Ts o.bp->Option R)
 |.lp s=>(true,fun κ κe x y=>o.ap (s κe (o.k κ)) x y)
 |.tl f=>(true,fun κ κe x y=>o.ap (f κ κe) x y)
def rhsL:(l:List (Nat×OD))->Stps R l->PEq R l
 |[],_=>()
 |(_,_)::l,s=>(s.1.rhs,rhsL l s.2)
section
variable [aj_]
def sa_.lhs {o:OD}(d:FD R)(fs:d.Fs)(c:Cx)(B:Code)(key:Nat):sa_ R o->Bool×(D R->(Nat->D R)->Pat.Ts o.vp->BPat.Ts o.bp->Option R)
 |.lp _=>(rH_ (d.at B key),fun κ κe x y=>run c d.e d.ann (lfL d.cut fs) (d.kr c) (ku_ (d.at B key)) (pw_ (d.at B key)) (fun s=>pP_ d.e o.live s κ) (fun j s=>pP_ d.e (d.ann.out j) s (κe j)) (St.ofC o.live (Pat.encs o.vp x) (BPat.encs o.bp y)))
 |.tl _=>(rG_ (d.at B key),fun κ κe x y=>run c d.e d.ann (lfL d.cut fs) (d.kr c) (ku_ (d.at B key)) (pw_ (d.at B key)) (fun s=>pP_ d.e (d.ann.nxt key) s κ) (fun j s=>pP_ d.e (d.ann.out j) s (κe j)) (St.ofC o.live (Pat.encs o.vp x) (BPat.encs o.bp y)))
def lhsL (d:FD R)(fs:d.Fs)(c:Cx)(B:Code):(l:List (Nat×OD))->Stps R l->PEq R l
 |[],_=>()
 |(k,_)::l,s=>(s.1.lhs d fs c B k,lhsL d fs c B l s.2)
theorem mS_ {d:FD R}{fs:d.Fs}{c:Cx}{B:Code}{N:Nat}:∀ {l:List (Nat×OD)}{s:Stps R l},lhsL d fs c B l s=rhsL l s->AllQ (fun key o f=>d.PieceOk fs c B key o f) l (fsOf N l s)
 |[],_,_=>trivial
 |(k,o)::l,(.lp st,s),h=>by have m:=(Prod.mk.inj h).1;have p:=(Prod.mk.inj h).2;have ha:=(Prod.mk.inj m).1;have hb:=(Prod.mk.inj m).2;exact ⟨FD.lp N (fun κ κe x y=>congrFun (congrFun (congrFun (congrFun hb κ) κe) x) y) ha fun _ _=>rfl,mS_ p⟩
 |(k,o)::l,(.tl f,s),h=>by have m:=(Prod.mk.inj h).1;have p:=(Prod.mk.inj h).2;have ha:=(Prod.mk.inj m).1;have hb:=(Prod.mk.inj m).2;exact ⟨FD.tl (fun κ κe x y=>congrFun (congrFun (congrFun (congrFun hb κ) κe) x) y) ha,mS_ p⟩
def FE.Oks (E:Env)(cx:Nat->Cx)(n:Nat)(e:FE):Prop:=CxOk E (cx e.d.nt)->KPar (cx e.d.nt)->e.d.Ok E (e.F (n+1))
def AllS (E:Env)(cx:Nat->Cx)(n:Nat):List FE->Prop
 |[]=>True
 |e::l=>e.Oks E cx n/\AllS E cx n l
def AllE (E:Env)(n:Nat):List FE->Prop
 |[]=>True
 |e::l=>e.d.Ok E (e.F n)/\AllE E n l
theorem allS_ok {E:Env}{cx:Nat->Cx}{n:Nat} (m:∀ nt,CxOk E (cx nt)) (k:∀ nt,KPar (cx nt)):∀ {l:List FE},AllS E cx n l->AllE E (n+1) l
 |[],_=>trivial
 |_::_,h=>⟨h.1 (m _) (k _),allS_ok m k h.2⟩
theorem AllE.get {E:Env}{n:Nat}:∀ {l:List FE}(i:Nat){e:FE},AllE E n l->l[i]?=some e->e.d.Ok E (e.F n)
 |[],_,_,_,h=>by cases h
 |_::_,0,_,ha,h=>by cases h;exact ha.1
 |_::l,i+1,e,ha,h=>AllE.get (l:=l) i ha.2 (by simpa using h)
def ZT:List FE->Type
 |[]=>Unit
 |e::l=>(Pat.Ts e.d.ps->Option e.R)×ZT l
def zl:(l:List FE)->ZT l
 |[]=>()
 |e::l=>(e.F 0,zl l)
def zr:(l:List FE)->ZT l
 |[]=>()
 |e::l=>(fun _=>none,zr l)
theorem all0 {E:Env}:∀ {l:List FE},zl l=zr l->AllE E 0 l
 |[],_=>trivial
 |e::l,h=>⟨fun x r hr=>(by rw [show e.F 0=fun _=>none from (Prod.mk.inj h).1] at hr;cases hr),all0 (Prod.mk.inj h).2⟩
def fnB (P:Program)(f:Nat):Bool:=match P.funcs[f]? with
 |some fn=>notNG fn&&fn.body.isSome
 |none=>false
def factL (P:Program)(L:List FE):List FE->List (Bool×Option (List PS))
 |[]=>[]
 |e::l=>(fnB P e.d.fid,sigE L e.d.fid)::factL P L l
def factR:List FE->List (Bool×Option (List PS))
 |[]=>[]
 |e::l=>(true,some e.d.sig)::factR l
omit [aj_] in
theorem fnB_ok {E:Env}{f:Nat}(h:fnB E.P f=true):FnOk E f:=by
 unfold fnB at h;split at h
 . rename_i fn k
   rw [Bool.and_eq_true] at h;obtain ⟨p,m⟩:=h;cases hb:fn.body with
   |none=>rw [hb] at m;cases m
   |some b=>exact ⟨fn,b,k,fun e=>by simp [notNG,e] at p,hb⟩
 . cases h
theorem KE_par {n nt:Nat}{tt:Nat->Option TD}{sig:Nat->Option (List PS)}{fz:Nat->Bool}{L:List FE}:KPar ⟨nt,tt,sig,KE n L,fz⟩:=by
 intro ω f avs κ q k;replace k:KE n L ω f avs κ=some q:=k;show ∃ rv outs,κ rv outs=some q/\∀ (ω':Type)(κ':AV->List AV->Option ω'),KE n L ω' f avs κ'=κ' rv outs;induction L with
 |nil=>cases k
 |cons e l ih=>
  unfold KE at k ⊢;cases p:Nat.beq f e.d.fid with
  |false=>rw [p] at k;simp only [cond_false] at k ⊢;exact ih k
  |true=>
   rw [p] at k;simp only [cond_true] at k ⊢;cases m:e.sel avs with
   |false=>rw [m] at k;simp only [cond_false] at k ⊢;exact ih k
   |true=>rw [m] at k;simp only [cond_true] at k ⊢;exact FD.kpar k
theorem KE_ok [ai_]{E:Env}{n nt:Nat}{tt:Nat->Option TD}{fz:Nat->Bool}{L:List FE}(J:factL E.P L L=factR L)(ha:AllE E n L):KOk E ⟨nt,tt,sigE L,KE n L,fz⟩:=by
 intro ω f avs κ q O;have k:∀ l:List FE,factL E.P L l=factR l->AllE E n l->KE n l ω f avs κ=some q->FnOk E f/\∃ ps rv outs,sigE L f=some ps/\κ rv outs=some q/\ff_ E f avs rv outs ps:=by
  intro l;induction l with
  |nil=>intro _ _ h;cases h
  |cons e l ih=>
   intro I p h;have B:=(List.cons.inj I).1;have z:=(List.cons.inj I).2;unfold KE at h;cases m:Nat.beq f e.d.fid with
   |false=>rw [m] at h;exact ih z p.2 h
   |true=>
    rw [m] at h;simp only [cond_true] at h;cases u:e.sel avs with
    |false=>rw [u] at h;exact ih z p.2 h
    |true=>
     rw [u] at h;obtain rfl:=Nat.eq_of_beq_eq_true m;exact FD.kok (fnB_ok (Prod.mk.inj B).1) (Prod.mk.inj B).2 p.1 h
 exact k L J ha O
def FE.L (e:FE)(c:Cx)(fn:Func)(N:Nat)(s:Stps e.R e.d.cut):(Option Code×Array ResultVar×Nat×Bool×Bool)×(Pat.Ts e.d.rp->Pat.Ts e.d.rp)×(Pat.Ts e.d.ps->Option e.R)×PEq e.R e.d.cut :=
 ((fn.body,fn.results,fn.ntmps,Nat.blt 0 e.d.e,Nat.ble e.d.ps.length c.nt),fun x=>e.d.ofR (e.d.toR x),fun x=>e.d.whole (fsOf N e.d.cut s) c (oC_ fn) x,lhsL e.d (fsOf N e.d.cut s) c (oC_ fn) e.d.cut s)
def FE.Q (e:FE)(c:Cx)(fn:Func)(G:Pat.Ts e.d.ps->Option e.R)(s:Stps e.R e.d.cut):(Option Code×Array ResultVar×Nat×Bool×Bool)×(Pat.Ts e.d.rp->Pat.Ts e.d.rp)×(Pat.Ts e.d.ps->Option e.R)×PEq e.R e.d.cut :=
 ((some (oC_ fn),List.toArray e.d.rs,c.nt,true,true),fun x=>x,G,rhsL e.d.cut s)
theorem FE.ok [ai_]{E:Env}{e:FE}{c:Cx}{fn:Func}{N:Nat}{G:Pat.Ts e.d.ps->Option e.R}(s:Stps e.R e.d.cut)(m:E.P.follows .mixedOrders=true)(k:E.P.funcs[e.d.fid]?=some fn)(h:e.L c fn N s=e.Q c fn G s)(hc:CxOk E c)(p:KPar c):e.d.Ok E G:=by have a:=(Prod.mk.inj h).1;have b:=(Prod.mk.inj h).2;have a2:=(Prod.mk.inj a).2;have a3:=(Prod.mk.inj a2).2;have a4:=(Prod.mk.inj a3).2;have b2:=(Prod.mk.inj b).2;exact FD.ok m k (Prod.mk.inj a).1 (Prod.mk.inj a2).1 (Prod.mk.inj a3).1 (Prod.mk.inj a4).1 (fun x=>congrFun (Prod.mk.inj b).1 x) (Prod.mk.inj a4).2 (fun x=>congrFun (Prod.mk.inj b2).1 x) (mS_ (Prod.mk.inj b2).2) hc p
end
end
end Go.Pi
