/- FnPieces: in whatever drawn pieces a line comes, and nothing behind them, the same events are told, and the same waits. No condition. Text 7 of 7. -/
import Derived.Test.YtmgcfhlcdhlafaaGreatDoorPcF
set_option linter.unusedVariables false
set_option maxRecDepth 100000
set_option linter.unusedSimpArgs false
section
namespace Go.Pi
noncomputable def FRd (s:Bs):aD_ × Bool:=if h:s.length≤4194304 then Classical.choose (iV_ h) else (zeroE,false)
theorem rd_is {s:Bs} (h:s.length≤4194304):sH_ s (FRd s)∧Ev (fun n _=>ad_ n s) (FRd s)∧Ev (fun n _=>cQ_ n s) (FRd s):=by
 unfold FRd;rw [dif_pos h];exact Classical.choose_spec (iV_ h)
theorem rd_ok {s:Bs} (hs:s.length≤4194304) (h:(FRd s).2=true):c4_ (FRd s).1=true:=by
 rcases (rd_is hs).1 with e|⟨_,g,_⟩
 · rw [e] at h;cases h
 · exact g
noncomputable def FFr:Nat→Bs→aC_ × List aD_
 |0,_=>(aC_.mk [] true,[])
 |m+1,w=>cond (decide (FEnd w<0)) (aC_.mk w false,[]) (cond (FRd (w.take (FEnd w).toNat)).2 ((FFr m (w.drop (FEnd w).toNat)).1,(FRd (w.take (FEnd w).toNat)).1::(FFr m (w.drop (FEnd w).toNat)).2) (aC_.mk [] true,[]))
def FTop (s:aC_):aC_:=cond (s.bad||decide ((s.wait.length:Int) > 14000)) (aC_.mk [] true) s
noncomputable def fe_ (s:aC_) (p:Bs):aC_ × List aD_:=cond s.bad (aC_.mk [] true,[]) (FTop (FFr ((s.wait++p).length+1) (s.wait++p)).1,(FFr ((s.wait++p).length+1) (s.wait++p)).2)
theorem mA_ {w:Bs} (m:Nat) (h:FEnd w<0):FFr (m+1) w=(aC_.mk w false,[]):=by
 simp only [FFr];rw [decide_eq_true h];rfl
theorem nP_ {w:Bs} (m:Nat) (h:¬ FEnd w<0) (hr:(FRd (w.take (FEnd w).toNat)).2=false):FFr (m+1) w=(aC_.mk [] true,[]):=by
 simp only [FFr];rw [decide_eq_false h,hr];rfl
theorem tj_ {w:Bs} (m:Nat) (h:¬ FEnd w<0) (hr:(FRd (w.take (FEnd w).toNat)).2=true):FFr (m+1) w=((FFr m (w.drop (FEnd w).toNat)).1,(FRd (w.take (FEnd w).toNat)).1::(FFr m (w.drop (FEnd w).toNat)).2):=by
 simp only [FFr];rw [decide_eq_false h,hr];rfl
theorem rd_:∀ (m m':Nat) (w:Bs),w.length<m→w.length<m'→FFr m w=FFr m' w:=by
 intro m
 induction m with
 |zero=>intro m' w h;omega
 |succ m ih=>
  intro m' w h h'
  obtain ⟨k,rfl⟩:∃ k,m'=k+1:=⟨m' - 1,by omega⟩
  by_cases hn:FEnd w<0
  · rw [mA_ m hn,mA_ k hn]
  · have hp:=oY_ hn
    cases hr:(FRd (w.take (FEnd w).toNat)).2
    · rw [nP_ m hn hr,nP_ k hn hr]
    · have hd:(w.drop (FEnd w).toNat).length=w.length - (FEnd w).toNat:=List.length_drop
      rw [tj_ m hn hr,tj_ k hn hr,ih k _ (by omega) (by omega)]
theorem fr_len:∀ (m:Nat) (w:Bs),w.length<m→w.length≤4194304→(FFr m w).1.wait.length+(FFr m w).2.length≤w.length∧((FFr m w).1.bad=true→(FFr m w).1.wait=[])∧∀ e ∈ (FFr m w).2,c4_ e=true:=by
 intro m
 induction m with
 |zero=>intro w h;omega
 |succ m ih=>
  intro w h hw
  by_cases hn:FEnd w<0
  · rw [mA_ m hn];exact ⟨by simp,fun h=>(by cases h),fun e h=>(by cases h)⟩
  · have hp:=oY_ hn
    cases hr:(FRd (w.take (FEnd w).toNat)).2
    · rw [nP_ m hn hr];exact ⟨by simp,fun _=>rfl,fun e h=>(by cases h)⟩
    · have hd:(w.drop (FEnd w).toNat).length=w.length - (FEnd w).toNat:=List.length_drop
      have hi:=ih (w.drop (FEnd w).toNat) (by omega) (by omega)
      rw [tj_ m hn hr]
      refine ⟨by simp only [List.length_cons];omega,hi.2.1,fun e he => ?_⟩
      rcases List.mem_cons.1 he with rfl|he
      · exact rd_ok (by simp;omega) hr
      · exact hi.2.2 e he
theorem sk_:∀ (p q:Bs),hc_ p ≠ -1→hc_ (p++q)=hc_ p
 |[],q,h=>absurd idx2_nil h
 |[x],q,h=>absurd (oP_ x) h
 |x::y::l,q,h=>by
  have ih:=sk_ (y::l) q
  simp only [List.cons_append] at ih ⊢
  rw [jO_] at h ⊢
  rw [jO_]
  by_cases c:x=10∧y=10
  · rw [if_pos c,if_pos c]
  · rw [if_neg c] at h
    rw [if_neg c,if_neg c]
    by_cases e:hc_ (y::l) = -1
    · rw [if_pos e] at h;exact absurd rfl h
    · rw [ih e]
theorem end_app {p:Bs} (q:Bs) (h:¬ FEnd p<0):FEnd (p++q)=FEnd p:=by
 have hne:hc_ p ≠ -1:=by
  intro e;unfold FEnd at h;rw [if_pos e] at h;exact h (by decide)
 unfold FEnd;rw [sk_ p q hne]
theorem fr_app:∀ (m:Nat) (p q:Bs),p.length<m→p.length≤4194304→FFr (m+q.length) (p++q)=cond (FFr m p).1.bad (aC_.mk [] true,(FFr m p).2) ((FFr (m+q.length) ((FFr m p).1.wait++q)).1,(FFr m p).2++(FFr (m+q.length) ((FFr m p).1.wait++q)).2):=by
 intro m
 induction m with
 |zero=>intro p q h;omega
 |succ m ih=>
  intro p q h hp
  by_cases hn:FEnd p<0
  · rw [mA_ m hn];simp only [cond_false,List.nil_append]
  · have he:=oY_ hn
    have hE:=end_app q hn
    have hn2:¬ FEnd (p++q)<0:=by rw [hE];exact hn
    have ht:(p++q).take (FEnd p).toNat=p.take (FEnd p).toNat:=List.take_append_of_le_length (by omega)
    have hd:(p++q).drop (FEnd p).toNat=p.drop (FEnd p).toNat++q:=List.drop_append_of_le_length (by omega)
    have hM:m+1+q.length=(m+q.length)+1:=by omega
    cases hr:(FRd (p.take (FEnd p).toNat)).2
    · rw [nP_ m hn hr,hM,nP_ (m+q.length) hn2 (by rw [hE,ht];exact hr)]
      simp only [cond_true]
    · have hdl:(p.drop (FEnd p).toNat).length=p.length - (FEnd p).toNat:=List.length_drop
      have hl:=(fr_len m (p.drop (FEnd p).toNat) (by omega) (by omega)).1
      rw [tj_ m hn hr,hM,tj_ (m+q.length) hn2 (by rw [hE,ht];exact hr),hE,ht,hd,ih (p.drop (FEnd p).toNat) q (by omega) (by omega)]
      cases hb:(FFr m (p.drop (FEnd p).toNat)).1.bad
      · simp only [cond_false]
        rw [rd_ (m+q.length) (m+q.length+1) _ (by simp;omega) (by simp;omega)]
        rfl
      · simp only [cond_true]
theorem fd_loops:∀ (m:Nat) (wait:Bs) (out:List aD_),wait.length<m→wait.length≤4194304→out.length+wait.length≤4194304 →
  Ev (fun n N=>cs_.loop8 n (fun xy3 xy4 xy5 xy6 xy7 xy8=>(cond (decide ((xy3.length:Int) > 14000)) (some ((aC_.mk xy7 xy8),xy6)) (some ((aC_.mk xy3 false),xy6)))) N wait [] false out [] true) (FTop (FFr m wait).1,out++(FFr m wait).2) ∧
  Ev (fun n N=>cd_.loop5 n (fun xy3 xy4 xy5 xy6 xy7=>(cond xy4 (some ((aC_.mk [] true),xy7)) (some ((aC_.mk xy3 false),xy7)))) N wait false [] false out) (FTop (FFr m wait).1,out++(FFr m wait).2):=by
 intro m
 induction m with
 |zero=>intro wait out h;omega
 |succ m ih=>
  intro wait out hm hw ho
  have hE:=m3_ (s:=wait) (by omega)
  have hI:=k8_ (s:=wait) (by omega)
  by_cases hneg:FEnd wait<0
  · have hn:hc_ wait = -1:=by
     unfold FEnd at hneg
     by_cases e:hc_ wait = -1
     · exact e
     · rw [if_neg e] at hneg;have:=mw_ wait;omega
    have c1:decide (FEnd wait<0)=true:=decide_eq_true hneg
    have c3:decide (hc_ wait<0)=true:=by rw [hn];rfl
    have eT:(FTop (FFr (m+1) wait).1,out++(FFr (m+1) wait).2)=cond (decide ((wait.length:Int) > 14000)) (aC_.mk [] true,out) (aC_.mk wait false,out):=by
     rw [mA_ m hneg,List.append_nil]
     unfold FTop
     simp only [Bool.false_or]
     cases decide ((wait.length:Int) > 14000)<;>rfl
    rw [eT]
    refine ⟨a9_ ?_,a9_ ?_⟩
    · simp only [cs_.turn8,cs_.step8,ab_ hE,c1,cond_true,al_,ae_]
      cases decide ((wait.length:Int) > 14000)<;>simp
    · simp only [cd_.turn5,cd_.step5,Bool.not_false,ab_ hI,c3,cond_true,al_,ae_]
      cases decide ((wait.length:Int) > 14000)<;>simp
  · have hp:=oY_ hneg
    have hne:hc_ wait ≠ -1:=by
     intro e;unfold FEnd at hneg;rw [if_pos e] at hneg;exact hneg (by decide)
    have hFE:FEnd wait=hc_ wait+2:=by unfold FEnd;rw [if_neg hne]
    have hge:=mw_ wait
    have hbad:=nP_ m hneg
    have hgo:=tj_ m hneg
    obtain ⟨k,hk⟩:∃ k:Nat,FEnd wait=(k:Int):=⟨(FEnd wait).toNat,by omega⟩
    have hW:W (hc_ wait+2)=(k:Int):=by rw [W_id (by omega) (by omega)];omega
    rw [hk] at hE
    rw [hk,Int.toNat_natCast] at hbad hgo
    have c1:decide ((k:Int)<0)=false:=decide_eq_false (by omega)
    have c3:decide (hc_ wait<0)=false:=decide_eq_false (by omega)
    obtain ⟨hx,hs,hi⟩:=rd_is (s:=(wait.take k).drop 0) (by simp;omega)
    rw [List.drop_zero] at hx
    have hd0:FRd ((wait.take k).drop 0)=FRd (wait.take k):=by rw [List.drop_zero]
    rw [hd0] at hs hi
    cases hq:(FRd (wait.take k)).2 with
    |false=>
     rw [hbad hq,List.append_nil]
     have eT:FTop (aC_.mk [] true)=aC_.mk [] true:=rfl
     simp only [eT]
     refine ⟨a9_ ?_,a9_ ?_⟩
     · simp only [cs_.turn8,cs_.step8,ab_ hE,c1,cond_false,d1_,Int.toNat_natCast,ab_ hs,hq,Bool.not_false,cond_true,ae_]
       exact ⟨by omega,trivial⟩
     · simp only [cd_.turn5,cd_.step5,Bool.not_false,ab_ hI,c3,hW,cond_true,cond_false,d1_,Int.toNat_natCast,ab_ hi,hq,ae_]
       exact ⟨by omega,trivial⟩
    |true=>
     have hdl:(wait.drop k).length=wait.length - k:=List.length_drop
     obtain ⟨hs2,hi2⟩:=ih (wait.drop k) (out++[(FRd (wait.take k)).1]) (by omega) (by omega) (by simp;omega)
     rw [hgo hq]
     rw [List.append_assoc] at hs2 hi2
     refine ⟨a9_ ?_,a9_ ?_⟩
     · simp only [cs_.turn8,cs_.step8,aW_,jR_,ab_ hE,c1,cond_false,d1_,Int.toNat_natCast,ab_ hs,hq,Bool.not_true,ba_,List.take_length]
       exact ⟨by omega,by simp;omega,by omega,hs2⟩
     · simp only [cd_.turn5,cd_.step5,aW_,jR_,Bool.not_false,ab_ hI,c3,hW,cond_true,cond_false,d1_,Int.toNat_natCast,ab_ hi,hq,Bool.not_true,ba_,List.take_length]
       exact ⟨by omega,by simp;omega,by omega,hi2⟩
theorem Feed_ev {s:aC_} {p:Bs} (h:s.wait.length+p.length≤4194304):Ev (fun n _=>cs_ n s p) (fe_ s p)∧Ev (fun n _=>cd_ n s p) (fe_ s p):=by
 have hroom:decide (s.wait.length+p.length≤9223372036854775807)=true:=decide_eq_true (by omega)
 unfold fe_
 cases hb:s.bad with
 |true=>
  refine ⟨ao_ ?_,ao_ ?_⟩
  · simp only [cs_,hb,cond_true,ae_]
  · simp only [cd_,hb,hroom,cond_true]
    refine cZ_ (f:=fun n N=>cd_.loop5 n (fun xy3 xy4 xy5 xy6 xy7=>(cond xy4 (some ((aC_.mk [] true),xy7)) (some ((aC_.mk xy3 false),xy7)))) N (s.wait++p) true [] false []) (a9_ ?_)
    simp only [cd_.turn5,cd_.step5,Bool.not_true,cond_false,cond_true,ae_]
 |false=>
  obtain ⟨h4,h5⟩:=fd_loops ((s.wait++p).length+1) (s.wait++p) [] (by omega) (by simp;omega) (by simp;omega)
  rw [List.nil_append] at h4 h5
  refine ⟨ao_ ?_,ao_ ?_⟩
  · simp only [cs_,hb,hroom,cond_true,cond_false]
    exact cZ_ h4
  · simp only [cd_,hb,hroom,cond_true,cond_false]
    exact cZ_ h5
theorem top_len (s:aC_):(FTop s).wait.length≤s.wait.length:=by
 unfold FTop
 cases (s.bad||decide ((s.wait.length:Int) > 14000))
 · exact Nat.le_refl _
 · exact Nat.zero_le _
theorem oW_ {s:aC_} {p:Bs} (h:s.wait.length+p.length≤4194304):(fe_ s p).1.wait.length+(fe_ s p).2.length≤s.wait.length+p.length∧∀ e ∈ (fe_ s p).2,c4_ e=true:=by
 unfold fe_
 cases s.bad with
 |true=>exact ⟨Nat.zero_le _,fun e h=>(by cases h)⟩
 |false=>
  have h1:=fr_len ((s.wait++p).length+1) (s.wait++p) (by omega) (by simp;omega)
  have h2:=top_len (FFr ((s.wait++p).length+1) (s.wait++p)).1
  have hla:(s.wait++p).length=s.wait.length+p.length:=List.length_append
  simp only [cond_false]
  exact ⟨by omega,h1.2.2⟩
theorem feed_two {s:aC_} {p q:Bs} (h:s.wait.length+p.length+q.length≤14000):fe_ s (p++q)=((fe_ (fe_ s p).1 q).1,(fe_ s p).2++(fe_ (fe_ s p).1 q).2):=by
 cases hb:s.bad with
 |true=>unfold fe_;rw [hb];rfl
 |false=>
  have hl:=fr_len ((s.wait++p).length+1) (s.wait++p) (by omega) (by simp;omega)
  have ha:=fr_app ((s.wait++p).length+1) (s.wait++p) q (by omega) (by simp;omega)
  have e1:fe_ s p=(FTop (FFr ((s.wait++p).length+1) (s.wait++p)).1,(FFr ((s.wait++p).length+1) (s.wait++p)).2):=by unfold fe_;rw [hb];rfl
  have e2:fe_ s (p++q)=(FTop (FFr ((s.wait++p).length+1+q.length) ((s.wait++p)++q)).1,(FFr ((s.wait++p).length+1+q.length) ((s.wait++p)++q)).2):=by
   unfold fe_;rw [hb]
   simp only [cond_false]
   rw [List.append_assoc,rd_ _ ((s.wait++p).length+1+q.length) _ (by omega) (by simp;omega)]
  rw [e2,ha,e1]
  have hla:(s.wait++p).length=s.wait.length+p.length:=List.length_append
  generalize hx:FFr ((s.wait++p).length+1) (s.wait++p)=x at hl ⊢
  cases hxb:x.1.bad with
  |true=>
   have eT:FTop x.1=aC_.mk [] true:=by unfold FTop;rw [hxb];rfl
   simp only [cond_true,eT]
   unfold fe_
   simp only [cond_true,List.append_nil]
   rfl
  |false=>
   have eT:FTop x.1=x.1:=by
    unfold FTop;rw [hxb,decide_eq_false (by omega)];rfl
   simp only [cond_false,eT]
   have e3:fe_ x.1 q=(FTop (FFr ((s.wait++p).length+1+q.length) (x.1.wait++q)).1,(FFr ((s.wait++p).length+1+q.length) (x.1.wait++q)).2):=by
    unfold fe_;rw [hxb]
    simp only [cond_false]
    rw [rd_ _ ((s.wait++p).length+1+q.length) _ (by omega) (by simp;omega)]
   rw [e3]
noncomputable def fN_:aC_→List Bs→aC_ × List aD_
 |s,[]=>(s,[])
 |s,p::l=>((fN_ (fe_ s p).1 l).1,(fe_ s p).2++(fN_ (fe_ s p).1 l).2)
theorem kY_:∀ (l:List Bs) (p:Bs) (s:aC_),s.wait.length+p.length+eo_ szB l≤14000→fN_ s (p::l)=fe_ s (p++l.flatten)
 |[],p,s,h=>by simp only [fN_,List.flatten_nil,List.append_nil]
 |q::l,p,s,h=>by
  have hs:eo_ szB (q::l)=q.length+eo_ szB l:=rfl
  have hl:=(oW_ (s:=s) (p:=p) (by omega)).1
  have ih:=kY_ l q (fe_ s p).1 (by omega)
  have hf:l.flatten.length=eo_ szB l:=by
   clear ih hl h hs
   induction l with
   |nil=>rfl
   |cons a l ih=>rw [List.flatten_cons,List.length_append,ih];rfl
  rw [List.flatten_cons,feed_two (by rw [List.length_append];omega),←ih]
  rfl
section
variable {s:aC_} {l:List Bs} (hl:l.length≤1048576) (h:s.wait.length+eo_ szB l≤4194304)
include hl h
theorem mu_:Ev (fun n _=>bN_ n s l) (fN_ s l):=by
 have key:∀ (m i:Nat) (s:aC_) (out:List aD_),i+m=l.length→out.length+s.wait.length+eo_ szB (l.drop i)≤4194304 →
   Ev (fun n N=>bN_.loop4 n (fun xy2 xy3 xy4 xy5 xy6=>(some ((aC_.mk xy2 xy3),xy6))) N l (l.length:Int) (i:Int) s.wait s.bad [] false out) ((fN_ s (l.drop i)).1,out++(fN_ s (l.drop i)).2):=by
  intro m
  induction m with
  |zero=>
   intro i s out hi hb
   have e:i=l.length:=by omega
   subst e
   rw [List.drop_length]
   refine a9_ ?_
   simp only [bN_.turn4,bN_.step4,cr_,cond_false,ae_,fN_,List.append_nil]
  |succ m ih=>
   intro i s out hi hb
   have hlt:i<l.length:=by omega
   have hW:=W_up hlt (show l.length≤cb_ by simp only [cb_];omega)
   rw [jp_ szB [] hlt] at hb
   have hpb:szB (l.getD i [])=(l.getD i []).length:=rfl
   obtain ⟨h3,h4⟩:=Feed_ev (s:=s) (p:=l.getD i []) (by omega)
   have y1:=(oW_ (s:=s) (p:=l.getD i []) (by omega)).1
   have g:=ih (i+1) (fe_ s (l.getD i [])).1 (out++(fe_ s (l.getD i [])).2) (by omega) (by rw [List.length_append];omega)
   rw [List.append_assoc] at g
   rw [dM_ [] hlt]
   simp only [fN_]
   refine a9_ ?_
   simp only [bN_.turn4,bN_.step4,cC_ hlt,cond_true,bb_,ch_ hlt,true_and,Int.toNat_natCast,ab_ h4,ba_,hW]
   exact ⟨by omega,g⟩
 have g:=key l.length 0 s [] (by omega) (by simpa using h)
 rw [List.drop_zero] at g
 exact ao_ (by simp only [bN_];exact cZ_ g)
end
end Go.Pi
end
section
namespace Go.Pi
structure DwOk (c:af_):Prop where
 lo:0≤c.i
 hi:c.i≤(c.b.length:Int)
 len:c.b.length≤1048576
abbrev and64 (x y:Int):Int:=IntKind.i64.wrap (BitVec.ofInt (IntKind.bits .i64) x &&& BitVec.ofInt (IntKind.bits .i64) y).toNat
theorem sE_ (x:Int) (m:Nat) (hm:m<2 ^ 31):0≤and64 x (m:Int)∧and64 x (m:Int)≤m:=by
 have h1:(BitVec.ofInt (IntKind.bits .i64) x &&& BitVec.ofInt (IntKind.bits .i64) (m:Int)).toNat≤m:=by
  rw [BitVec.toNat_and]
  refine Nat.le_trans Nat.and_le_right ?_
  rw [BitVec.ofInt_natCast,BitVec.toNat_ofNat]
  exact Nat.mod_le _ _
 show 0≤W _∧W _≤_
 generalize (BitVec.ofInt (IntKind.bits .i64) x &&& BitVec.ofInt (IntKind.bits .i64) (m:Int)).toNat=k at h1
 rw [W_id (by omega) (by omega)]
 omega
theorem cur_next {c:af_} (h:DwOk c) (hlt:c.i<(c.b.length:Int)) (z:Int):DwOk (af_.mk c.b (W (c.i+1)) z):=by
 have h1:=h.lo;have h2:=h.len
 have e:W (c.i+1)=c.i+1:=W_id (by omega) (by omega)
 exact ⟨by show 0≤W (c.i+1);rw [e];omega,by show W (c.i+1)≤(c.b.length:Int);rw [e];omega,h2⟩
theorem cur_same {c:af_} (h:DwOk c) (z:Int):DwOk (af_.mk c.b c.i z):=⟨h.lo,h.hi,h.len⟩
theorem cT_ (c:af_):af_.mk c.b c.i c.h=c:=rfl
theorem pW_ {e4_:List Int} (hc:e4_.length≤1048576):Ans (fun n _=>cf_ n e4_) DwOk:=by
 have key:∀ (m i:Nat) (h:Int),i+m=e4_.length→Ans (fun n N=>cf_.loop4 n (fun xy2 xy3=>(some (af_.mk xy2 0 xy3))) N e4_ h (i:Int)) DwOk:=by
  intro m
  induction m with
  |zero=>
   intro i h hi
   have e:i=e4_.length:=by omega
   subst e
   refine cx_ ?_
   simp only [cf_.turn4,cf_.step4,cr_,cond_false,aS_]
   exact ⟨Int.le_refl _,by simp,hc⟩
  |succ m ih=>
   intro i h hi
   have hlt:i<e4_.length:=by omega
   have hW:=W_up hlt (show e4_.length≤cb_ by simp only [cb_];omega)
   refine cx_ ?_
   simp only [cf_.turn4,cf_.step4,cC_ hlt,cond_true,be_,eX_,aS_,hW]
   exact ⟨fun _=>⟨by omega,ih (i+1) _ (by omega)⟩,fun _=>⟨Int.le_refl _,by simp,hc⟩⟩
 refine ci_ ?_
 simp only [cf_]
 exact en_ (key e4_.length 0 _ (by omega))
theorem g6_ {c:af_} (hc:DwOk c):Ans (fun n _=>do_ n c) fun r=>0≤r.1∧r.1≤255∧DwOk r.2:=by
 refine ci_ ?_
 simp only [do_,be_,eX_,aS_]
 refine ⟨fun h => ?_,fun _ => ?_⟩
 · have h:=of_decide_eq_true h
   exact ⟨⟨hc.lo,h⟩,(sE_ _ 255 (by decide)).1,(sE_ _ 255 (by decide)).2,cur_next hc h _⟩
 · exact ⟨(sE_ _ 255 (by decide)).1,(sE_ _ 255 (by decide)).2,cur_same hc _⟩
structure Drawn (n:Int) (r:Int × af_):Prop where
 lo:0≤r.1
 hi:r.1<n∨r.1=0
 cur:DwOk r.2
theorem br_ {c:af_} {k:Int} (hc:DwOk c):Ans (fun n _=>an_ n c k) (Drawn k):=by
 refine ci_ ?_
 simp only [an_,be_,aS_]
 refine ⟨fun _=>⟨Int.le_refl _,.inr rfl,hc⟩,fun h0=>⟨fun h1 => ?_,fun h1 => ?_⟩⟩
 · have h0:=of_decide_eq_false h0
   refine az_ (g6_ hc) fun r hr => ?_
   simp only [be_,sD_,aS_]
   refine ⟨fun h=>by have:=of_decide_eq_true h;omega,fun _=>⟨Int.tmod_nonneg _ hr.1,.inl (Int.tmod_lt_of_pos _ (by omega)),hr.2.2⟩⟩
 · have h0:=of_decide_eq_false h0
   refine az_ (g6_ hc) fun r1 h2=>az_ (g6_ h2.2.2) fun r2 h3=>az_ (g6_ h3.2.2) fun r3 h4=>az_ (g6_ h4.2.2) fun r4 h5 => ?_
   simp only [be_,sD_,aS_]
   refine ⟨fun h=>by have:=of_decide_eq_true h;omega,fun _ => ?_⟩
   obtain ⟨a1,a2,_⟩:=h2
   obtain ⟨b1,b2,_⟩:=h3
   obtain ⟨c1,c2,_⟩:=h4
   obtain ⟨d1,d2,hq⟩:=h5
   have e1:W (r1.1*16777216)=r1.1*16777216:=W_id (by omega) (by omega)
   have e2:W (r2.1*65536)=r2.1*65536:=W_id (by omega) (by omega)
   have e3:W (r3.1*256)=r3.1*256:=W_id (by omega) (by omega)
   rw [e1,e2,e3,W_id (n:=r1.1*16777216+r2.1*65536) (by omega) (by omega),W_id (n:=r1.1*16777216+r2.1*65536+r3.1*256) (by omega) (by omega),W_id (n:=r1.1*16777216+r2.1*65536+r3.1*256+r4.1) (by omega) (by omega)]
   exact ⟨Int.tmod_nonneg _ (by omega),.inl (Int.tmod_lt_of_pos _ (by omega)),hq⟩
theorem fD_ {c:af_} {k:Int} (hc:DwOk c):Ans (fun n _=>cA_ n c k) fun r=>DwOk r.2:=by
 refine ci_ ?_
 simp only [cA_]
 exact az_ (br_ hc) fun r hr=>aS_.2 hr.cur
theorem fn_ {c:af_} {l:List Int} (hc:DwOk c) (hl:l≠[]):Ans (fun n _=>bH_ n c l) fun r=>r.1 ∈ l∧DwOk r.2:=by
 have hp:0<l.length:=List.length_pos_iff.2 hl
 refine ci_ ?_
 simp only [bH_]
 refine az_ (br_ hc) fun r hr => ?_
 have h1:=hr.lo
 have h2:=hr.hi
 simp only [eX_,aS_]
 exact ⟨⟨h1,by omega⟩,bY_ _ (by omega),hr.cur⟩
theorem ix_ {c:af_} {l:List Bs} (hc:DwOk c) (hl:l≠[]):Ans (fun n _=>dF_ n c l) fun r=>r.1 ∈ l∧DwOk r.2:=by
 have hp:0<l.length:=List.length_pos_iff.2 hl
 refine ci_ ?_
 simp only [dF_]
 refine az_ (br_ hc) fun r hr => ?_
 have h1:=hr.lo
 have h2:=hr.hi
 simp only [eX_,aS_]
 exact ⟨⟨h1,by omega⟩,bY_ _ (by omega),hr.cur⟩
end Go.Pi
end
section
namespace Go.Pi
def tA_ (c:Nat) (q:ax_):Prop:=q.where_.length≤c∧q.show_.length≤c
def hn_ (c:Nat) (r:List TRow):Prop:=r.length≤c∧∀ x ∈ r,x.cells.length≤c
def kn_ (c:Nat) (v:bF_):Prop:=tA_ c v.q∧hn_ c v.rows∧v.kids.length≤c
end Go.Pi
end
section
namespace Go.Pi
def lenS (c:Nat) (s:cB_):Prop:=kn_ c s.view∧kn_ c s.last
end Go.Pi
end
section
namespace Go.Pi
def gx_ (s:bi_):Bool:=iG_ (fun i=>inn (s.cols.getD i 0) 1 4) s.cols.length&&inn s.cols.length 1 3
theorem hD_ {s:bi_} (hs:s.cols.length≤cb_):Ev (fun n _=>a3_ n s) (gx_ s):=by
 refine ao_ ?_
 simp only [a3_]
 refine e3_ (fun n N i=>a3_.loop3 n _ N (i:Int) s.cols) _ (fun i w hi ih => ?_) ?_
 · simp only [a3_.turn3,a3_.step3,Int.toNat_natCast,al_,bb_,fT_,ae_,W_up hi hs,dE_ ih,cC_ hi,ch_ hi]
   grind
 · simp only [a3_.turn3,a3_.step3,cr_,cond_false,fT_,ae_]
end Go.Pi
end
section
namespace Go.Pi
def FConds (w:Int) (c:List cj_):Bool:=iG_ (fun i=>inn (c.getD i cj_.dflt).col 0 (W (w - 1))&&(inn (c.getD i cj_.dflt).op 1 4&&inn (c.getD i cj_.dflt).v (-1000000000) 1000000000)) c.length
def FShow (w:Int) (s:List Int):Bool:=iG_ (fun i=>inn (s.getD i 0) 0 (W (w - 1))&&(decide (i=0)||decide (s.getD (i - 1) 0<s.getD i 0))) s.length
def FKids (s:bi_) (q:ax_):Bool:=cond q.kids (inn q.kidTable 0 (W ((s.cols.length:Int) - 1))&&inn q.kidCol 0 (W ((s.cols.getD q.kidTable.toNat 0) - 1))) ((q.kidTable == 0)&&(q.kidCol == 0))
def iU_ (s:bi_) (q:ax_):Bool:=gx_ s&&(inn q.table 0 (W ((s.cols.length:Int) - 1))&&(decide (q.where_.length≤3)&&(FConds (s.cols.getD q.table.toNat 0) q.where_&&(FShow (s.cols.getD q.table.toNat 0) q.show_ &&
 (inn q.order 0 (s.cols.getD q.table.toNat 0)&&(inn q.first 0 24&&(!((q.order == 0)&&q.down)&&FKids s q)))))))
section
variable {w:Int} {cols sh:List Int} {wh:List cj_} {t o f kt kc:Int} {d ks v:Bool}
theorem jt_ {k:Nat→aA_.K7} (hl:wh.length≤cb_) (hk:Ev (fun n N=>k n w cols t wh o d f sh ks kt kc) v) :
  Ev (fun n _=>aA_.loop7 n (k n) n w 0 cols t wh o d f sh ks kt kc) (FConds w wh&&v):=by
 refine e3_ (fun n N i=>aA_.loop7 n (k n) N w (i:Int) cols t wh o d f sh ks kt kc) _ (fun i u hi ih => ?_) ?_
 · simp only [aA_.turn7,aA_.step7,Int.toNat_natCast,W_up hi hl,al_,bb_,fT_,ae_,dE_ ih,cC_ hi,ch_ hi]
   clear ih hk
   repeat' (first|apply And.intro|intro _)
   all_goals (try rw [Bool.eq_iff_iff])
   all_goals (try simp only [Bool.not_eq_true',Bool.not_eq_false',decide_eq_true_eq,decide_eq_false_iff_not,beq_iff_eq,beq_eq_false_iff_ne,Bool.and_eq_true,Bool.or_eq_true,Bool.and_eq_false_iff,Bool.or_eq_false_iff] at *)
   all_goals grind
 · simp only [aA_.turn7,aA_.step7,cr_,cond_false]
   exact hk
theorem iZ_ {k:Nat→aA_.K16} (hl:sh.length≤cb_) (hk:Ev (fun n N=>k n w cols t wh o d f sh ks kt kc) v) :
  Ev (fun n _=>aA_.loop16 n (k n) n w 0 cols t wh o d f sh ks kt kc) (FShow w sh&&v):=by
 refine e3_ (fun n N i=>aA_.loop16 n (k n) N w (i:Int) cols t wh o d f sh ks kt kc) _ (fun i u hi ih => ?_) ?_
 · simp only [aA_.turn16,aA_.step16,Int.toNat_natCast,W_up hi hl,W_dn (i:=i) (by omega),lk_,al_,bb_,fT_,ae_,dE_ ih,cC_ hi,ch_ hi]
   clear ih hk
   repeat' (first|apply And.intro|intro _)
   all_goals (try rw [Bool.eq_iff_iff])
   all_goals (try simp only [Bool.not_eq_true',Bool.not_eq_false',decide_eq_true_eq,decide_eq_false_iff_not,beq_iff_eq,beq_eq_false_iff_ne,Bool.and_eq_true,Bool.or_eq_true,Bool.and_eq_false_iff,Bool.or_eq_false_iff] at *)
   all_goals grind
 · simp only [aA_.turn16,aA_.step16,cr_,cond_false]
   exact hk
end
theorem eL_ {β:Type} {s:bi_} (hs:s.cols.length≤cb_) {g:Nat→Nat→Bool→Option β} {v:β}:Ev (fun n N=>(a3_ n s).bind (g n N)) v↔Ev (fun n N=>g n N (gx_ s)) v:=ab_ (hD_ hs)
theorem hT_ {s:bi_} {q:ax_} (hs:s.cols.length≤cb_) (hq:tA_ cb_ q):Ev (fun n _=>aA_ n s q) (iU_ s q):=by
 refine ao_ ?_
 have e:=@W_dn s.cols.length hs
 simp only [aA_,eL_ hs,fT_,al_,bb_,ae_]
 refine ⟨fun h=>by simp at h;simp [iU_,h],fun h1=>⟨fun h=>by simp at h;simp [iU_,h],fun h2=>⟨fun h=>by simp at h;simp [iU_];grind,fun h3=>⟨by simp at h2;have:=gM_ h2;omega,?_⟩⟩⟩⟩
 refine ge_ (jt_ (k:=fun n=>_) hq.1 (iZ_ (k:=fun n=>_) (v:=inn q.order 0 (s.cols.getD q.table.toNat 0)&&(inn q.first 0 24&&(!((q.order == 0)&&q.down)&&FKids s q))) hq.2 ?_)) ?_
 · simp only [fT_,al_,bb_,ae_,FKids]
   repeat' (first|apply And.intro|intro _)
   all_goals (try rw [Bool.eq_iff_iff])
   all_goals (try simp only [inn,cond_true,cond_false,Bool.not_eq_true',Bool.not_eq_false',decide_eq_true_eq,decide_eq_false_iff_not,beq_iff_eq,beq_eq_false_iff_ne,Bool.and_eq_true,Bool.or_eq_true,Bool.and_eq_false_iff,Bool.or_eq_false_iff] at *)
   all_goals grind
 · simp [iU_];grind
end Go.Pi
end
section
namespace Go.Pi
def gA_ (r:TRow) (col:Int):Int:=cond (inn col 0 (W ((r.cells.length:Int) - 1))) (r.cells.getD col.toNat 0) 0
theorem eY_ {r:TRow} {col:Int} (hr:r.cells.length≤cb_):Ev (fun n _=>bW_ n r col) (gA_ r col):=by
 refine ao_ ?_
 have e:=@W_dn r.cells.length hr
 simp only [bW_,fT_,al_,bb_,ae_,gA_]
 cases hi:inn col 0 (W ((r.cells.length:Int) - 1)) with
 |false=>simp
 |true=>have:=gM_ hi;exact ⟨fun h=>(by cases h),fun _=>⟨by omega,rfl⟩⟩
theorem iA_ {rows:List TRow} (hr:hn_ cb_ rows) (i:Nat):(rows.getD i TRow.dflt).cells.length≤cb_:=by
 by_cases h:i<rows.length
 · exact hr.2 _ (bY_ _ h)
 · rw [List.getD_eq_getElem?_getD,List.getElem?_eq_none (by omega)];exact Nat.zero_le _
end Go.Pi
end
section
namespace Go.Pi
def FCells (c:List Int):Bool:=iG_ (fun i=>inn (c.getD i 0) (-1000000000) 1000000000) c.length
def FRow (s:bi_) (t:Int) (r:TRow):Bool:=gx_ s&&(inn t 0 (W ((s.cols.length:Int) - 1))&&(inn r.id_ 1 999&&(decide ((r.cells.length:Int)=s.cols.getD t.toNat 0)&&FCells r.cells)))
theorem js_ {s:bi_} {t:Int} {r:TRow} (hs:s.cols.length≤cb_) (hr:r.cells.length≤cb_):Ev (fun n _=>cn_ n s t r) (FRow s t r):=by
 refine ao_ ?_
 have e:=@W_dn s.cols.length hs
 have hl:Ev (fun n _=>cn_.loop6 n (some true) n 0 r.id_ r.cells) (FCells r.cells&&true):=by
  refine e3_ (fun n N i=>cn_.loop6 n (some true) N (i:Int) r.id_ r.cells) _ (fun i u hi ih => ?_) ?_
  · simp only [cn_.turn6,cn_.step6,Int.toNat_natCast,W_up hi hr,al_,bb_,fT_,ae_,dE_ ih,cC_ hi,ch_ hi]
    clear ih
    grind
  · simp only [cn_.turn6,cn_.step6,cr_,cond_false,ae_]
 simp only [cn_,eL_ hs,fT_,al_,bb_,ae_,dE_ hl]
 clear hl
 repeat' (first|apply And.intro|intro _)
 all_goals (try rw [Bool.eq_iff_iff])
 all_goals (try simp only [FRow,inn,bne_iff_ne,bne_eq_false_iff_eq,Bool.not_eq_true',Bool.not_eq_false',decide_eq_true_eq,decide_eq_false_iff_not,beq_iff_eq,beq_eq_false_iff_ne,Bool.and_eq_true,Bool.or_eq_true,Bool.and_eq_false_iff,Bool.or_eq_false_iff] at *)
 all_goals grind
def qC_ (c:cj_) (r:TRow):Bool:=inn c.col 0 (W ((r.cells.length:Int) - 1))&&(cond (c.op == 1) (r.cells.getD c.col.toNat 0 == c.v) (cond (c.op == 2) (decide (r.cells.getD c.col.toNat 0<c.v)) (cond (c.op == 3) (decide (r.cells.getD c.col.toNat 0 > c.v)) (cond (c.op == 4) (r.cells.getD c.col.toNat 0 != c.v) false))))
theorem lH_ {c:cj_} {r:TRow} (hr:r.cells.length≤cb_):Ev (fun n _=>dQ_ n c r) (qC_ c r):=by
 refine ao_ ?_
 have e:=@W_dn r.cells.length hr
 simp only [dQ_,fT_,al_,bb_,ae_,qC_]
 repeat' (first|apply And.intro|intro _)
 all_goals (try simp only [inn,Bool.not_eq_true',Bool.not_eq_false',decide_eq_true_eq,decide_eq_false_iff_not,Bool.and_eq_true,Bool.and_eq_false_iff] at *)
 all_goals simp_all
 all_goals omega
def gi_ (q:ax_) (r:TRow):Bool:=iG_ (fun i=>qC_ (q.where_.getD i cj_.dflt) r) q.where_.length
theorem hU_ {q:ax_} {r:TRow} (hq:q.where_.length≤cb_) (hr:r.cells.length≤cb_):Ev (fun n _=>bT_ n q r) (gi_ q r):=by
 refine ao_ ?_
 simp only [bT_]
 have hH:∀ (c:cj_) (g:Nat→Nat→Bool→Option Bool) (v:Bool),Ev (fun n N=>(dQ_ n c (TRow.mk r.id_ r.cells)).bind (g n N)) v↔Ev (fun n N=>g n N (qC_ c r)) v:=fun c g v=>ab_ (lH_ hr)
 refine ge_ (e3_ (fun n N i=>bT_.loop3 n (some true) N (i:Int) q.table q.where_ q.order q.down q.first q.show_ q.kids q.kidTable q.kidCol r.id_ r.cells) (fun i=>qC_ (q.where_.getD i cj_.dflt) r) (len:=q.where_.length) (v:=true) (fun i u hi ih => ?_) ?_) (by rw [Bool.and_true];rfl)
 · simp only [bT_.turn3,bT_.step3,Int.toNat_natCast,W_up hi hq,al_,bb_,hH,ae_,dE_ ih,cC_ hi,ch_ hi]
   clear ih hH
   grind
 · simp only [bT_.turn3,bT_.step3,cr_,cond_false,ae_]
def f5_ (rows:List TRow) (id:Int):Int:=gO_ (fun i x=>cond ((rows.getD i TRow.dflt).id_ == id) (i:Int) x) (-1) rows.length 0
theorem hh_ {rows:List TRow} {id:Int} (hr:rows.length≤cb_):Ev (fun n _=>ck_ n rows id) (f5_ rows id):=by
 refine ao_ ?_
 simp only [ck_]
 refine mC_ (fun n N i=>ck_.loop3 n (some (-1)) N rows id (i:Int)) _ (fun i u hi ih => ?_) ?_
 · simp only [ck_.turn3,ck_.step3,Int.toNat_natCast,W_up hi hr,al_,bb_,ae_,dE_ ih,cC_ hi,ch_ hi]
   clear ih
   grind
 · simp only [ck_.turn3,ck_.step3,cr_,cond_false,ae_]
def hK_ (q:ax_) (a b:TRow):Bool:=cond (q.order == 0) (decide (a.id_<b.id_)) (cond (gA_ a (W (q.order - 1)) == gA_ b (W (q.order - 1))) (decide (a.id_<b.id_)) (cond q.down (decide (gA_ a (W (q.order - 1)) > gA_ b (W (q.order - 1)))) (decide (gA_ a (W (q.order - 1))<gA_ b (W (q.order - 1))))))
theorem oi_ {q:ax_} {a b:TRow} (ha:a.cells.length≤cb_) (hb:b.cells.length≤cb_):Ev (fun n _=>eB_ n q a b) (hK_ q a b):=by
 refine ao_ ?_
 simp only [eB_,ab_ (eY_ ha),ab_ (eY_ hb),al_,ae_,hK_]
 generalize gA_ a (W (q.order - 1))=x
 generalize gA_ b (W (q.order - 1))=y
 cases hd:q.down<;>grind
end Go.Pi
end
section
namespace Go.Pi
def lenRR (c:Nat) (t:List (List TRow)):Prop:=t.length≤c∧∀ x ∈ t,hn_ c x
def fC_ (c:Nat) (s:aw_):Prop:=s.schema.cols.length≤c∧lenRR c s.tables
theorem fU_ {c:Nat} {t:List (List TRow)} (h:∀ x ∈ t,hn_ c x) (i:Nat):hn_ c (t.getD i []):=by
 by_cases hi:i<t.length
 · exact h _ (bY_ [] hi)
 · rw [List.getD_eq_getElem?_getD,List.getElem?_eq_none (by omega)]
   exact ⟨Nat.zero_le _,fun x hx=>by cases hx⟩
theorem is_ (s:bi_):bi_.mk s.cols=s:=rfl
def rz_ (s:bi_) (t:Int) (rows:List TRow):Bool :=
 iG_ (fun i=>FRow s t (rows.getD i TRow.dflt)&&(decide (i=0)||decide ((rows.getD (i - 1) TRow.dflt).id_<(rows.getD i TRow.dflt).id_))) rows.length&&(gx_ s&&(inn t 0 (W ((s.cols.length:Int) - 1))&&decide ((rows.length:Int)≤24)))
theorem m6_ {s:bi_} {t:Int} {rows:List TRow} (hs:s.cols.length≤cb_) (hr:hn_ cb_ rows):Ev (fun n _=>b5_ n s t rows) (rz_ s t rows):=by
 refine ao_ ?_
 simp only [b5_]
 refine e3_ (fun n N i=>b5_.loop3 n _ N t rows (i:Int) s.cols) _ (fun i u hi ih => ?_) ?_
 · simp only [is_,b5_.turn3,b5_.step3,Int.toNat_natCast,W_up hi hr.1,W_dn (i:=i) (by have:=hr.1;omega),lk_,al_,bb_,ab_ (js_ (s:=s) (t:=t) (r:=rows.getD i TRow.dflt) hs (iA_ hr i)),ae_,dE_ ih,cC_ hi,ch_ hi]
   clear ih
   repeat' (first|apply And.intro|intro _)
   all_goals (try rw [Bool.eq_iff_iff])
   all_goals (try simp only [Bool.not_eq_true',Bool.not_eq_false',decide_eq_true_eq,decide_eq_false_iff_not,beq_iff_eq,beq_eq_false_iff_ne,Bool.and_eq_true,Bool.or_eq_true,Bool.and_eq_false_iff,Bool.or_eq_false_iff] at *)
   all_goals grind
 · simp only [is_,b5_.turn3,b5_.step3,cr_,cond_false,eL_ (s:=s) hs,fT_,al_,ae_]
   repeat' (first|apply And.intro|intro _)
   all_goals (try simp_all)
def FTables (s:bi_) (t:List (List TRow)):Bool:=iG_ (fun i=>rz_ s (i:Int) (t.getD i [])) t.length
def fw_ (s:aw_):Bool:=gx_ s.schema&&(inn s.version 0 100000&&(decide (s.tables.length=s.schema.cols.length)&&FTables s.schema s.tables))
theorem fj_ {s:aw_} (h:fC_ cb_ s):Ev (fun n _=>bC_ n s) (fw_ s):=by
 refine ao_ ?_
 have hl:Ev (fun n _=>bC_.loop6 n (some true) n 0 s.schema.cols s.version s.tables) (FTables s.schema s.tables&&true):=by
  refine e3_ (fun n N i=>bC_.loop6 n (some true) N (i:Int) s.schema.cols s.version s.tables) _ (fun i u hi ih => ?_) ?_
  · simp only [is_,bC_.turn6,bC_.step6,Int.toNat_natCast,W_up hi h.2.1,al_,bb_,ab_ (m6_ (s:=s.schema) (t:=(i:Int)) h.1 (fU_ h.2.2 i)),ae_,dE_ ih,cC_ hi,ch_ hi]
    clear ih
    repeat' (first|apply And.intro|intro _)
    all_goals (try simp_all)
  · simp only [is_,bC_.turn6,bC_.step6,cr_,cond_false,ae_]
 simp only [bC_,eL_ h.1,fT_,al_,ae_,dE_ hl,fw_]
 clear hl
 repeat' (first|apply And.intro|intro _)
 all_goals (try simp_all)
 all_goals (intros;omega)
section
variable {β:Type} {g:Nat→Nat→List Int→Option β} {gr:Nat→Nat→TRow→Option β} {v:β}
theorem gK_ {r:TRow} (h:r.cells.length≤fg_):Ev (fun n N=>(cz_ n r).bind (gr n N)) v↔Ev (fun n N=>gr n N r) v :=
 ab_ (ao_ (by simp only [cz_,ba_,ae_,List.nil_append,and_true];simp only [fg_] at h;simp;omega))
end
theorem mz_ {c:Nat} {rows:List TRow} (hr:hn_ c rows) (i:Nat):(rows.getD i TRow.dflt).cells.length≤c:=by
 by_cases hi:i<rows.length
 · exact hr.2 _ (bY_ TRow.dflt hi)
 · rw [List.getD_eq_getElem?_getD,List.getElem?_eq_none (by omega)]
   exact Nat.zero_le _
theorem pV_ {rows:List TRow} (h:hn_ fg_ rows):Ev (fun n _=>bZ_ n rows) rows:=by
 refine ao_ ?_
 have hl:=h.1
 simp only [fg_] at hl
 simp only [bZ_]
 refine qh_ TRow.dflt rows id (fun n N i s=>bZ_.loop4 n _ N rows (i:Int) s) rows (fun i s hi hs F hF => ?_) ?_
 · simp only [bZ_.turn4,bZ_.step4,Int.toNat_natCast,W_up hi (show rows.length≤cb_ by simp only [cb_];omega),al_,bb_,gK_ (mz_ h i),ba_,cC_ hi,ch_ hi]
   exact ⟨fun _=>⟨trivial,by simp;omega,hF⟩,fun h=>by cases h⟩
 · simp only [bZ_.turn4,bZ_.step4,cr_,cond_false,ae_,List.map_id]
theorem nE_ {β:Type} {s:bi_} {g:Nat→Nat→bi_→Option β} {v:β} (h:s.cols.length≤fg_):Ev (fun n N=>(dt_ n s).bind (g n N)) v↔Ev (fun n N=>g n N s) v :=
 ab_ (ao_ (by simp only [dt_,ba_,ae_,List.nil_append,and_true];simp only [fg_] at h;simp;omega))
theorem mg_ {s:aw_} (h:fC_ fg_ s):Ev (fun n _=>bz_ n s) s:=by
 refine ao_ ?_
 have hl:=h.2.1
 simp only [fg_] at hl
 simp only [bz_,nE_ h.1]
 refine qh_ [] s.tables id (fun n N i q=>bz_.loop4 n _ N (i:Int) s.schema.cols s.version s.tables 0 s.version s.schema.cols q) s (fun i q hi hs F hF => ?_) ?_
 · simp only [bz_.turn4,bz_.step4,Int.toNat_natCast,W_up hi (show s.tables.length≤cb_ by simp only [cb_];omega),al_,bb_,ab_ (pV_ (fU_ h.2.2 i)),ba_,cC_ hi,ch_ hi]
   exact ⟨fun _=>⟨trivial,by simp;omega,hF⟩,fun h=>by cases h⟩
 · simp only [bz_.turn4,bz_.step4,cr_,cond_false,ae_,List.map_id]
end Go.Pi
end
section
namespace Go.Pi
theorem n4_ (rows:List TRow) (id:Int):f5_ rows id=if rows.findIdx (fun r=>r.id_ == id)<rows.length then (rows.findIdx (fun r=>r.id_ == id):Int) else -1:=gN_ TRow.dflt (fun r=>r.id_ == id) rows
def j5_ (rows:List TRow) (id:Int):List TRow:=rows.eraseIdx (rows.findIdx (fun r=>r.id_ == id))
def if_ (rows:List TRow) (at_ i:Nat):List TRow:=(rows.take i).eraseIdx at_
theorem rg_ {rows:List TRow} {i:Nat} (h:i<rows.length):if_ rows i (i+1)=if_ rows i i:=by
 unfold if_
 rw [cE_ TRow.dflt h]
 have e:(rows.take i).length=i:=by rw [List.length_take];omega
 rw [List.eraseIdx_of_length_le (l:=rows.take i) (by omega),List.eraseIdx_append_of_length_le (by omega),e,Nat.sub_self]
 simp
theorem qk_ {rows:List TRow} {at_ i:Nat} (h:i<rows.length) (hne:i≠at_):if_ rows at_ (i+1)=if_ rows at_ i++[rows.getD i TRow.dflt]:=by
 unfold if_
 rw [cE_ TRow.dflt h]
 have e:(rows.take i).length=i:=by rw [List.length_take];omega
 by_cases hlt:at_<i
 · rw [List.eraseIdx_append_of_lt_length (by omega)]
 · rw [List.eraseIdx_of_length_le (l:=rows.take i) (by omega),List.eraseIdx_of_length_le (by simp;omega)]
theorem tm_ {rows:List TRow} {at_ i:Nat}:(if_ rows at_ i).length≤rows.length:=by
 unfold if_
 have:=List.length_eraseIdx_le (rows.take i) at_
 rw [List.length_take] at this
 omega
theorem gm_ {rows:List TRow} {id:Int} (h:hn_ fg_ rows):Ev (fun n _=>bl_ n rows id) (j5_ rows id):=by
 refine ao_ ?_
 have hl:=h.1
 simp only [fg_] at hl
 have ht:rows.length≤cb_:=by simp only [cb_];omega
 simp only [bl_,ab_ (hh_ (rows:=rows) (id:=id) ht)]
 obtain ⟨p,hp⟩:∃ p,p=rows.findIdx (fun r=>r.id_ == id):=⟨_,rfl⟩
 have hat:∀ i:Nat,i<rows.length→(((i:Int) != f5_ rows id)=true↔i≠p):=fun i hi=>by
  rw [n4_,←hp,bne_iff_ne]
  split<;>omega
 have hF:j5_ rows id=if_ rows p rows.length:=by unfold j5_ if_;rw [List.take_length,hp]
 rw [hF]
 refine eI_ (fun i=>if_ rows p i) rows.length (fun n N i s=>bl_.loop5 n (fun xy3=>some xy3) N rows (f5_ rows id) (i:Int) s) _ (fun i hi F hF => ?_) ?_
 · have hlen:=tm_ (rows:=rows) (at_:=p) (i:=i)
   simp only [bl_.turn5,bl_.step5,Int.toNat_natCast,W_up hi ht,al_,bb_,gK_ (mz_ h i),ba_,cC_ hi,ch_ hi]
   refine ⟨fun _=>⟨fun hne=>⟨trivial,by simp;omega,?_⟩,fun heq => ?_⟩,fun h=>by cases h⟩
   · rw [←qk_ hi ((hat i hi).1 hne)];exact hF
   · have:i=p:=Classical.byContradiction fun hn=>by rw [(hat i hi).2 hn] at heq;cases heq
     subst this
     rw [←rg_ hi];exact hF
 · simp only [bl_.turn5,bl_.step5,cr_,cond_false,ae_]
end Go.Pi
end
section
namespace Go.Pi
def sameC (x y:cj_):Bool:=cond (x.col == y.col) (cond (x.op == y.op) (cond (x.v == y.v) true false) false) false
def rE_ (a b:List cj_):Bool:=decide (a.length=b.length)&&iG_ (fun i=>sameC (a.getD i cj_.dflt) (b.getD i cj_.dflt)) a.length
def FInts2 (a b:List Int):Bool:=decide (a.length=b.length)&&iG_ (fun i=>a.getD i 0 == b.getD i 0) a.length
def kF_ (a b:ax_):Bool:=(a.table == b.table)&&(rE_ a.where_ b.where_&&((a.order == b.order)&&((a.down == b.down)&&((a.first == b.first)&&(FInts2 a.show_ b.show_&&((a.kids == b.kids)&&((a.kidTable == b.kidTable)&&(a.kidCol == b.kidCol))))))))
theorem r4_ {n m:Nat} {p:Nat→Bool}:(iG_ p (min n m)&&decide (n=m))=(decide (n=m)&&iG_ p n):=by
 by_cases h:n=m
 · subst h;simp [Nat.min_self,Bool.and_comm]
 · simp [h]
theorem lI_ {a b:List cj_} (ha:a.length≤cb_):Ev (fun n _=>bL_ n a b) (rE_ a b):=by
 refine ao_ ?_
 simp only [bL_]
 refine ge_ (e3_ (fun n N i=>bL_.loop3 n (fun x y=>some ((x.length:Int) == (y.length:Int))) N a b (i:Int)) (fun i=>sameC (a.getD i cj_.dflt) (b.getD i cj_.dflt)) (len:=min a.length b.length) (v:=decide (a.length=b.length)) (fun i u hi ih => ?_) ?_) r4_
 · have h1:i<a.length:=by omega
   have h2:i<b.length:=by omega
   simp only [bL_.turn3,bL_.step3,Int.toNat_natCast,W_up h1 ha,al_,bb_,ae_,dE_ ih,cC_ h1,ch_ h1,cC_ h2,ch_ h2]
   clear ih
   simp only [sameC]
   generalize (cond ((a.getD i cj_.dflt).col == (b.getD i cj_.dflt).col) (cond ((a.getD i cj_.dflt).op == (b.getD i cj_.dflt).op) (cond ((a.getD i cj_.dflt).v == (b.getD i cj_.dflt).v) true false) false) false)=c
   cases c<;>simp
 · simp only [bL_.turn3,bL_.step3,al_,ae_,bb_]
   grind
theorem m2_ {a b:List Int} (ha:a.length≤cb_):Ev (fun n _=>b2_ n a b) (FInts2 a b):=by
 refine ao_ ?_
 simp only [b2_]
 refine ge_ (e3_ (fun n N i=>b2_.loop3 n (fun x y=>some ((x.length:Int) == (y.length:Int))) N a b (i:Int)) (fun i=>a.getD i 0 == b.getD i 0) (len:=min a.length b.length) (v:=decide (a.length=b.length)) (fun i u hi ih => ?_) ?_) r4_
 · have h1:i<a.length:=by omega
   have h2:i<b.length:=by omega
   simp only [b2_.turn3,b2_.step3,Int.toNat_natCast,W_up h1 ha,al_,bb_,ae_,dE_ ih,cC_ h1,ch_ h1,cC_ h2,ch_ h2]
   clear ih
   generalize a.getD i 0=x
   generalize b.getD i 0=y
   grind
 · simp only [b2_.turn3,b2_.step3,al_,ae_,bb_]
   grind
theorem kh_ {a b:ax_} (ha:tA_ cb_ a):Ev (fun n _=>dx_ n a b) (kF_ a b):=by
 refine ao_ ?_
 simp only [dx_,ab_ (lI_ ha.1),ab_ (m2_ ha.2),al_,ae_,kF_]
 generalize rE_ a.where_ b.where_=c
 generalize FInts2 a.show_ b.show_=d
 cases c<;>cases d<;>grind
end Go.Pi
end
section
namespace Go.Pi
end Go.Pi
end
section
namespace Go.Pi
def jC_ (rows:List TRow) (id:Int):Nat:=rows.findIdx (fun x=>decide (x.id_ > id))
def in_ (rows:List TRow) (r:TRow):List TRow :=
 cond (decide (f5_ rows r.id_≥0)) (rows.set (f5_ rows r.id_).toNat r) (rows.take (jC_ rows r.id_)++[r]++rows.drop (jC_ rows r.id_))
theorem atCases (rows:List TRow) (id:Int):(∃ p,p<rows.length∧f5_ rows id=(p:Int)∧rows.findIdx (fun r=>r.id_ == id)=p)∨(f5_ rows id = -1∧j5_ rows id=rows):=by
 rw [n4_]
 by_cases h:rows.findIdx (fun r=>r.id_ == id)<rows.length
 · exact .inl ⟨_,h,if_pos h,rfl⟩
 · refine .inr ⟨if_neg h,?_⟩
   unfold j5_
   rw [List.eraseIdx_of_length_le (by omega)]
theorem idx_down (rows:List TRow) (P:TRow→Bool) {j:Nat} (hj:j<rows.length) :
  j+(rows.drop j).findIdx P=cond (P (rows.getD j TRow.dflt)) j (j+1+(rows.drop (j+1)).findIdx P):=by
 rw [dM_ TRow.dflt hj,List.findIdx_cons]
 cases P (rows.getD j TRow.dflt)<;>simp only [cond_true,cond_false]<;>omega
theorem iM_ {rows:List TRow} {r:TRow} (h:hn_ fg_ rows) (hr:r.cells.length≤fg_):Ev (fun n _=>bI_ n rows r) (in_ rows r):=by
 refine ao_ ?_
 have hl:=h.1
 simp only [fg_] at hl
 have ht:rows.length≤cb_:=by simp only [cb_];omega
 have e0:∀ r:TRow,TRow.mk r.id_ r.cells=r:=fun _=>rfl
 simp only [bI_,ab_ (gm_ (id:=r.id_) h),ab_ (hh_ (rows:=rows) (id:=r.id_) ht),al_]
 rcases atCases rows r.id_ with ⟨p,hp,e1,e2⟩|⟨e1,e2⟩
 · have hd:j5_ rows r.id_=rows.take p++rows.drop (p+1):=by unfold j5_;rw [e2,List.eraseIdx_eq_take_drop_succ]
   have hdl:(j5_ rows r.id_).length=rows.length - 1:=by rw [hd];simp;omega
   refine ⟨fun _ => ?_,fun h=>by rw [e1] at h;simp at h⟩
   rw [e1]
   simp only [d1_,ba_,gK_ hr,ae_,Int.toNat_natCast,List.length_nil,List.nil_append,List.drop_zero,hdl]
   refine ⟨by omega,by simp;omega,by simp;omega,by omega,by simp;omega,?_⟩
   unfold in_
   rw [e1,decide_eq_true (by omega),cond_true,Int.toNat_natCast,hd,List.set_eq_take_append_cons_drop,if_pos hp]
   have t1:(rows.take p++rows.drop (p+1)).take p=rows.take p:=by rw [List.take_append_of_le_length (by simp;omega),List.take_take,Nat.min_self]
   have t2:((rows.take p++rows.drop (p+1)).take (rows.length - 1)).drop p=rows.drop (p+1):=by
    rw [List.take_of_length_le (by simp;omega),List.drop_append_of_le_length (by simp;omega),List.drop_eq_nil_of_le (by simp;omega),List.nil_append]
   rw [t1,t2];simp
 · refine ⟨fun h=>by rw [e1] at h;simp at h,fun _ => ?_⟩
   rw [e2]
   have hF:in_ rows r=rows.take (jC_ rows r.id_)++[r]++rows.drop (jC_ rows r.id_):=by unfold in_;rw [e1];rfl
   rw [hF]
   obtain ⟨S,hS⟩:∃ S:Nat→Int,S=fun i=>(((rows.length - i)+(rows.drop (rows.length - i)).findIdx (fun x=>decide (x.id_ > r.id_)):Nat):Int):=⟨_,rfl⟩
   have hS0:S 0=(rows.length:Int):=by rw [hS];simp
   have:=eI_ S rows.length (fun n N i (s:Int)=>bI_.loop6 n (fun xy5 xy6 xy7 xy8=>(gf_ 0 xy5 xy8.length (bm_ (([]:List TRow).length+((xy8.take xy5.toNat).drop 0).length) 32 ((cz_ n (TRow.mk xy6 xy7)).bind fun xr9=>(bm_ ((([]:List TRow)++((xy8.take xy5.toNat).drop 0)).length+([xr9]:List TRow).length) 32 (gf_ xy5 (xy8.length:Int) xy8.length (bm_ (((([]:List TRow)++((xy8.take xy5.toNat).drop 0))++([xr9]:List TRow)).length+((xy8.take ((xy8.length:Int).toNat)).drop xy5.toNat).length) 32 (some (((([]:List TRow)++((xy8.take xy5.toNat).drop 0))++([xr9]:List TRow))++((xy8.take ((xy8.length:Int).toNat)).drop xy5.toNat)))))))))) N s (((rows.length - i:Nat):Int) - 1) r.id_ r.cells rows) (rows.take (jC_ rows r.id_)++[r]++rows.drop (jC_ rows r.id_)) (fun i hi F hF => ?_) ?_
   · rw [hS0] at this
     rw [W_dn ht]
     simpa using this
   · obtain ⟨j,hj⟩:∃ j,j=rows.length - i - 1:=⟨_,rfl⟩
     have hji:rows.length - i=j+1:=by omega
     have hji2:rows.length - (i+1)=j:=by omega
     have hjl:j<rows.length:=by omega
     have hstep:=idx_down rows (fun x=>decide (x.id_ > r.id_)) hjl
     have s1:S i=((j+1+(rows.drop (j+1)).findIdx (fun x=>decide (x.id_ > r.id_)):Nat):Int):=by rw [hS];simp only [hji]
     have s2:S (i+1)=((j+(rows.drop j).findIdx (fun x=>decide (x.id_ > r.id_)):Nat):Int):=by rw [hS];simp only [hji2]
     have ei:((rows.length - i:Nat):Int) - 1=(j:Int):=by omega
     have ei2:W ((j:Int) - 1)=((rows.length - (i+1):Nat):Int) - 1:=by rw [W_dn (by omega),hji2]
     rw [s2,hstep] at hF
     rw [ei,s1]
     simp only [bI_.turn6,bI_.step6,al_,bb_,Int.toNat_natCast,ei2]
     refine ⟨fun _=>⟨by omega,fun hc => ?_,fun hc => ?_⟩,fun h=>by simp at h⟩
     · rw [hc] at hF;exact hF
     · rw [hc] at hF;exact hF
   · have s1:S rows.length=(jC_ rows r.id_:Int):=by rw [hS];simp [jC_]
     have hpl:jC_ rows r.id_≤rows.length:=List.findIdx_le_length
     rw [s1]
     simp only [bI_.turn6,bI_.step6,Nat.sub_self,e0]
     rw [show decide (((0:Nat):Int) - 1≥0)=false from by simp]
     simp only [cond_false,d1_,ba_,gK_ hr,ae_,Int.toNat_natCast,List.length_nil,List.nil_append,List.drop_zero]
     refine ⟨by omega,by simp;omega,by simp;omega,by omega,by simp;omega,?_⟩
     rw [List.take_length]
end Go.Pi
end
section
namespace Go.Pi
def qF_ (c:Nat) (x:a0_):Prop:=x.old.cells.length≤c∧x.new.cells.length≤c
theorem he_ {c n:Nat} (h:n≤c) (hc:c≤fg_):n≤cb_:=by simp only [fg_] at hc;simp only [cb_];omega
theorem hn_.upto {c d:Nat} {r:List TRow} (h:hn_ c r) (hc:c≤d):hn_ d r:=⟨Nat.le_trans h.1 hc,fun x hx=>Nat.le_trans (h.2 x hx) hc⟩
theorem fC_.upto {c d:Nat} {s:aw_} (h:fC_ c s) (hc:c≤d):fC_ d s:=⟨Nat.le_trans h.1 hc,Nat.le_trans h.2.1 hc,fun x hx=>(h.2.2 x hx).upto hc⟩
theorem mW_ {c:Nat} {rows:List TRow} {id:Int} (h:hn_ c rows):hn_ c (j5_ rows id):=by
 unfold j5_
 exact ⟨Nat.le_trans (List.length_eraseIdx_le _ _) h.1,fun x hx=>h.2 x (List.mem_of_mem_eraseIdx hx)⟩
theorem mS_ {c:Nat} {rows:List TRow} {r:TRow} (h:hn_ c rows) (hr:r.cells.length≤c):hn_ (c+1) (in_ rows r):=by
 unfold in_
 have h1:=h.1
 cases decide (f5_ rows r.id_≥0)<;>simp only [cond_true,cond_false]
 · refine ⟨by simp;omega,fun x hx => ?_⟩
   rcases List.mem_append.1 hx with hx|hx
   · rcases List.mem_append.1 hx with hx|hx
     · exact Nat.le_succ_of_le (h.2 x (List.mem_of_mem_take hx))
     · rw [List.mem_singleton.1 hx];omega
   · exact Nat.le_succ_of_le (h.2 x (List.mem_of_mem_drop hx))
 · refine ⟨by simp;omega,fun x hx => ?_⟩
   rcases List.mem_or_eq_of_mem_set hx with hx|rfl
   · exact Nat.le_succ_of_le (h.2 x hx)
   · omega
end Go.Pi
end
section
namespace Go.Pi
def iv_ (s:bi_):aw_:=⟨s,0,List.replicate s.cols.length []⟩
theorem lenSt_new {c:Nat} {s:bi_} (hs:s.cols.length≤c):fC_ c (iv_ s):=by
 refine ⟨hs,?_,fun x hx => ?_⟩
 · simp only [iv_,List.length_replicate];exact hs
 · simp only [iv_] at hx
   rw [List.eq_of_mem_replicate hx]
   exact ⟨Nat.zero_le _,fun x hx=>by cases hx⟩
def zStore:aw_:=⟨⟨[]⟩,0,[]⟩
def FNew (s:bi_):aw_ × Bool:=cond (gx_ s) (iv_ s,true) (zStore,false)
theorem la_ {s:bi_} (hs:s.cols.length≤cap):Ev (fun n _=>dO_ n s) (FNew s):=by
 refine ao_ ?_
 simp only [cap] at hs
 simp only [dO_,eL_ (show s.cols.length≤cb_ by simp only [cb_];omega),nE_ (show s.cols.length≤fg_ by simp only [fg_];omega),al_,ae_,dC_,FNew,iv_,zStore,Int.toNat_natCast]
 repeat' (first|apply And.intro|intro _)
 all_goals (try simp_all)
 all_goals (try omega)
end Go.Pi
end
section
namespace Go.Pi
theorem Wn {x:Int} (h1 : -1000000000000≤x) (h2:x≤1000000000000):W x=x:=W_id (by omega) (by omega)
theorem jq_ {a b:Int}:Ev (fun n _=>cL_ n a b) (max a b):=by
 refine ao_ ?_
 simp only [cL_,al_,ae_]
 exact ⟨fun h=>by have:=of_decide_eq_true h;omega,fun h=>by have:=of_decide_eq_false h;omega⟩
theorem lc_ {c:af_} (hc:DwOk c):Ans (fun n _=>aL_ n c) fun r=>r.1.cols.length≤3∧(∀ x ∈ r.1.cols,x≤4)∧DwOk r.2:=by
 have key:∀ (m i:Nat) (c:af_) (o:List Int),i+m=3→DwOk c→o.length=i→(∀ x ∈ o,x≤4) →
   Ans (fun n N=>aL_.loop4 n (fun xy3 xy4 xy5 xy6=>(some ((bi_.mk xy6),(af_.mk xy3 xy4 xy5)))) N (i:Int) c.b c.i c.h o) fun r=>r.1.cols.length≤3∧(∀ x ∈ r.1.cols,x≤4)∧DwOk r.2:=by
  intro m
  induction m with
  |zero=>
   intro i c o hi hc ho hx
   refine cx_ ?_
   simp only [aL_.turn4,aL_.step4,cT_]
   refine az_ (br_ hc) fun r hr => ?_
   have h1:=hr.lo;have h2:=hr.hi
   rw [Wn (by omega) (by omega),decide_eq_false (by omega)]
   simp only [cond_false,cT_,aS_]
   exact ⟨by omega,hx,hr.cur⟩
  |succ m ih=>
   intro i c o hi hc ho hx
   refine cx_ ?_
   simp only [aL_.turn4,aL_.step4,cT_]
   refine az_ (br_ hc) fun r hr => ?_
   simp only [be_,cT_,aS_]
   refine ⟨fun _=>az_ (br_ hr.cur) fun r2 hr2 => ?_,fun _=>⟨by omega,hx,hr.cur⟩⟩
   have h1:=hr2.lo;have h2:=hr2.hi
   have e1:W ((i:Int)+1)=((i+1:Nat):Int):=by rw [Wn (by omega) (by omega)];rfl
   rw [Wn (x:=1+r2.1) (by omega) (by omega),e1]
   simp only [dN_]
   refine ⟨by simp;omega,ih (i+1) r2.2 _ (by omega) hr2.cur (by simp;omega) fun x hx' => ?_⟩
   rcases List.mem_append.1 hx' with h|h
   · exact hx x h
   · rw [List.mem_singleton.1 h];omega
 refine ci_ ?_
 simp only [aL_]
 exact en_ (key 3 0 c [] rfl hc rfl fun x hx=>(by cases hx))
theorem jI_ {c:af_} {cols:Int} (hc:DwOk c) (hcol:cols≤1000):Ans (fun n _=>a6_ n c cols) fun r=>r.1.cells.length≤1000∧DwOk r.2:=by
 have key:∀ (m i:Nat) (c:af_) (id:Int) (o:List Int),i+m=1000→DwOk c→o.length=i →
   Ans (fun n N=>a6_.loop4 n (fun xy3 xy4 xy5 xy6 xy7 xy8=>(some ((TRow.mk xy7 xy8),(af_.mk xy3 xy4 xy5)))) N cols (i:Int) c.b c.i c.h 0 id o) fun r=>r.1.cells.length≤1000∧DwOk r.2:=by
  intro m
  induction m with
  |zero=>
   intro i c id o hi hc ho
   refine cx_ ?_
   simp only [a6_.turn4,a6_.step4,cT_]
   rw [decide_eq_false (by omega)]
   simp only [cond_false,cT_,aS_]
   exact ⟨by omega,hc⟩
  |succ m ih=>
   intro i c id o hi hc ho
   refine cx_ ?_
   simp only [a6_.turn4,a6_.step4,cT_,be_,aS_]
   refine ⟨fun _=>az_ (br_ hc) fun r2 hr2 => ?_,fun _=>⟨by omega,hc⟩⟩
   have e1:W ((i:Int)+1)=((i+1:Nat):Int):=by rw [Wn (by omega) (by omega)];rfl
   rw [e1]
   simp only [dN_]
   exact ⟨by simp;omega,ih (i+1) r2.2 _ _ (by omega) hr2.cur (by simp;omega)⟩
 refine ci_ ?_
 simp only [a6_]
 exact az_ (br_ hc) fun r hr=>en_ (key 1000 0 r.2 _ [] rfl hr.cur rfl)
theorem nb_ {c:af_} {cols:Int} (hc:DwOk c) (hcol:cols≤1000):Ans (fun n _=>a1_ n c cols) fun r=>hn_ 1010 r.1∧DwOk r.2:=by
 have key:∀ (m i:Nat) (c:af_) (o:List TRow),i+m=9→DwOk c→hn_ (1000+i) o →
   Ans (fun n N=>a1_.loop4 n (fun xy4 xy5 xy6 xy7=>(some (xy7,(af_.mk xy4 xy5 xy6)))) N cols (i:Int) c.b c.i c.h o) fun r=>hn_ 1010 r.1∧DwOk r.2:=by
  intro m
  induction m with
  |zero=>
   intro i c o hi hc ho
   refine cx_ ?_
   simp only [a1_.turn4,a1_.step4,cT_]
   refine az_ (br_ hc) fun r hr => ?_
   have h1:=hr.lo;have h2:=hr.hi
   rw [decide_eq_false (by omega)]
   simp only [cond_false,cT_,aS_]
   exact ⟨ho.upto (by omega),hr.cur⟩
  |succ m ih=>
   intro i c o hi hc ho
   refine cx_ ?_
   simp only [a1_.turn4,a1_.step4,cT_]
   refine az_ (br_ hc) fun r hr => ?_
   simp only [be_,cT_,aS_]
   refine ⟨fun _=>az_ (jI_ hr.cur hcol) fun r2 hr2 => ?_,fun _=>⟨ho.upto (by omega),hr.cur⟩⟩
   have e1:W ((i:Int)+1)=((i+1:Nat):Int):=by rw [Wn (by omega) (by omega)];rfl
   have hP:=iM_ (rows:=o) (r:=r2.1) (ho.upto (by simp only [fg_];omega)) (by have:=hr2.1;simp only [fg_];omega)
   rw [bf_ hP,e1]
   exact ih (i+1) r2.2 _ (by omega) hr2.2 (by rw [←Nat.add_assoc];exact mS_ ho (by have:=hr2.1;omega))
 refine ci_ ?_
 simp only [a1_]
 exact en_ (key 9 0 c [] rfl hc ⟨Nat.zero_le _,fun x hx=>(by cases hx)⟩)
structure StIn (c:Nat) (s:aw_):Prop where
 len:fC_ c s
 col:∀ x ∈ s.schema.cols,x≤1000
theorem StIn.upto {c d:Nat} {s:aw_} (h:StIn c s) (hc:c≤d):StIn d s:=⟨h.len.upto hc,h.col⟩
theorem StIn.getD {c:Nat} {s:aw_} (h:StIn c s) (i:Nat):s.schema.cols.getD i 0≤1000:=by
 by_cases hi:i<s.schema.cols.length
 · exact h.col _ (bY_ _ hi)
 · rw [List.getD_eq_getElem?_getD,List.getElem?_eq_none (by omega)];decide
theorem me_ {c:af_} (hc:DwOk c):Ans (fun n _=>aP_ n c) fun r=>StIn 1010 r.1∧DwOk r.2:=by
 have key:∀ (m i:Nat) (c:af_) (s:aw_),i+m=s.tables.length→s.tables.length≤s.schema.cols.length→DwOk c→StIn 1010 s →
   Ans (fun n N=>aP_.loop4 n (fun xy5 xy6 xy7 xy8 xy9 xy10 xy11=>((an_ n (af_.mk xy5 xy6 xy7) 5).bind fun xr12=>(some ((aw_.mk (bi_.mk xy10) xr12.1 xy11),xr12.2)))) N (i:Int) c.b c.i c.h 0 s.version s.schema.cols s.tables) fun r=>StIn 1010 r.1∧DwOk r.2:=by
  intro m
  induction m with
  |zero=>
   intro i c s hi hl hc hs
   have e:i=s.tables.length:=by omega
   subst e
   refine cx_ ?_
   simp only [aP_.turn4,aP_.step4,cr_,cond_false,cT_]
   exact az_ (br_ hc) fun r hr=>aS_.2 ⟨⟨hs.len,hs.col⟩,hr.cur⟩
  |succ m ih=>
   intro i c s hi hl hc hs
   have hlt:i<s.tables.length:=by omega
   have h3:=hs.len.2.1
   have hW:=W_up hlt (show s.tables.length≤cb_ by simp only [cb_];omega)
   refine cx_ ?_
   simp only [aP_.turn4,aP_.step4,cC_ hlt,cond_true,cT_,eX_,Int.toNat_natCast]
   refine ⟨⟨by omega,by omega⟩,az_ (nb_ hc (hs.getD i)) fun r hr => ?_⟩
   simp only [eX_,hW]
   refine ⟨⟨by omega,by omega⟩,?_⟩
   have:=ih (i+1) r.2 (aw_.mk s.schema s.version (s.tables.set i r.1)) (by simp;omega) (by simp;exact hl) hr.2 ⟨⟨hs.len.1,by simp only [List.length_set];exact h3,fun x hx=>by
    rcases List.mem_or_eq_of_mem_set hx with hx|rfl
    · exact hs.len.2.2 x hx
    · exact hr.1⟩,hs.col⟩
   exact this
 refine ci_ ?_
 simp only [aP_]
 refine az_ (lc_ hc) fun r hr => ?_
 have hN:=la_ (s:=r.1) (by have:=hr.1;simp only [cap];omega)
 rw [bf_ hN]
 refine en_ (f:=fun n N=>aP_.loop4 n (fun xy5 xy6 xy7 xy8 xy9 xy10 xy11=>((an_ n (af_.mk xy5 xy6 xy7) 5).bind fun xr12=>(some ((aw_.mk (bi_.mk xy10) xr12.1 xy11),xr12.2)))) N 0 r.2.b r.2.i r.2.h 0 (FNew r.1).1.version (FNew r.1).1.schema.cols (FNew r.1).1.tables) (key (FNew r.1).1.tables.length 0 r.2 (FNew r.1).1 (Nat.zero_add _) ?_ hr.2.2 ?_)
 · unfold FNew
   cases gx_ r.1
   · exact Nat.le_refl _
   · simp [iv_]
 · unfold FNew
   cases gx_ r.1
   · exact ⟨⟨Nat.zero_le _,Nat.zero_le _,fun x hx=>(by cases hx)⟩,fun x hx=>(by cases hx)⟩
   · exact ⟨lenSt_new (Nat.le_trans hr.1 (by decide)),fun x hx=>Int.le_trans (hr.2.1 x hx) (by decide)⟩
end Go.Pi
end
section
namespace Go.Pi
def pM_:TRow:=TRow.mk 0 []
def noCh:a0_:=a0_.mk 0 false false pM_ pM_
def zeroSt:aw_:=aw_.mk (bi_.mk []) 0 []
def j4_ (s:bi_) (m:TMut):Bool:=cond (m.kind == 3) (gx_ s&&(inn m.table 0 (W ((s.cols.length:Int) - 1))&&(inn m.row.id_ 1 999&&((m.row.cells.length:Int) == 0)))) (inn m.kind 1 2&&FRow s m.table m.row)
def fO_ (s:aw_) (m:TMut):List TRow:=s.tables.getD m.table.toNat []
def rC_ (s:aw_) (m:TMut):Bool:=(decide (f5_ (fO_ s m) m.row.id_≥0) == (m.kind != 1)) && !((m.kind == 1)&&(((fO_ s m).length:Int) == 24))
def FDo (s:aw_) (m:TMut):aw_:=aw_.mk s.schema s.version (s.tables.set m.table.toNat (cond (m.kind != 3) (in_ (fO_ s m) m.row) (j5_ (fO_ s m) m.row.id_)))
def FDoCh (s:aw_) (m:TMut):a0_:=a0_.mk m.table (m.kind != 1) (m.kind != 3) (cond (m.kind != 1) ((fO_ s m).getD (f5_ (fO_ s m) m.row.id_).toNat TRow.dflt) pM_) (cond (m.kind != 3) m.row pM_)
def gR_ (s:aw_) (m:TMut):aw_ × a0_ × Bool:=cond (fw_ s) (cond (j4_ s.schema m&&rC_ s m) (FDo s m,FDoCh s m,true) (s,noCh,false)) (zeroSt,noCh,false)
theorem ll_ (r:TRow):TRow.mk r.id_ r.cells=r:=rfl
theorem fy_ (s:aw_):aw_.mk s.schema s.version s.tables=s:=rfl
theorem gn_ (s:bi_):bi_.mk s.cols=s:=rfl
theorem oz_ (m:TMut):TMut.mk m.kind m.table m.row=m:=rfl
theorem og_ {s:bi_} {m:TMut} (hs:s.cols.length≤cb_) (hr:m.row.cells.length≤cb_):Ev (fun n _=>eS_ n s m) (j4_ s m):=by
 refine ao_ ?_
 simp only [eS_,ab_ (hD_ hs),ab_ (js_ (t:=m.table) hs hr),fT_,al_,ae_,j4_]
 generalize (m.kind == 3)=a
 generalize gx_ s=b
 generalize inn m.table 0 _=c
 generalize inn m.row.id_ 1 999=d
 generalize inn m.kind 1 2=e
 cases a<;>cases b<;>cases c<;>cases d<;>cases e<;>simp
theorem qY_ {s:aw_} {m:TMut} (hs:fw_ s=true) (hm:j4_ s.schema m=true) (hc:s.schema.cols.length≤cb_):0≤m.table∧m.table<(s.tables.length:Int):=by
 have e:=@W_dn s.schema.cols.length hc
 have hl:s.tables.length=s.schema.cols.length:=by
  unfold fw_ at hs
  simp only [Bool.and_eq_true] at hs
  exact of_decide_eq_true hs.2.2.1
 have:inn m.table 0 (W ((s.schema.cols.length:Int) - 1))=true:=by
  unfold j4_ at hm
  cases h3:(m.kind == 3)<;>rw [h3] at hm
  · simp only [cond_false,Bool.and_eq_true] at hm
    have:=hm.2
    unfold FRow at this
    simp only [Bool.and_eq_true] at this
    exact this.2.1
  · simp only [cond_true,Bool.and_eq_true] at hm
    exact hm.2.1
 have:=i8_.1 this
 rw [e] at this
 omega
theorem qS_ (rows:List TRow) (id:Int):f5_ rows id = -1∨0≤f5_ rows id∧f5_ rows id<(rows.length:Int):=by
 rcases atCases rows id with ⟨p,h1,h2,_⟩|⟨h,_⟩
 · exact .inr ⟨by omega,by omega⟩
 · exact .inl h
theorem pu_ {s:aw_} {m:TMut} (hl:fC_ fg_ s) (hr:m.row.cells.length≤fg_) (ht:0≤m.table∧m.table<(s.tables.length:Int)):Ev (fun n _=>fh_ n s m) (cond (rC_ s m) (FDo s m,FDoCh s m,true) (s,noCh,false)):=by
 have hT:hn_ fg_ (fO_ s m):=fU_ hl.2.2 _
 have hT1:(fO_ s m).length≤cb_:=he_ hT.1 (Nat.le_refl _)
 have hrow:∀ i,((fO_ s m).getD i TRow.dflt).cells.length≤fg_:=fun i=>by
  by_cases hi:i<(fO_ s m).length
  · exact hT.2 _ (bY_ _ hi)
  · rw [List.getD_eq_getElem?_getD,List.getElem?_eq_none (by omega)];exact Nat.zero_le _
 have hat:=qS_ (fO_ s m) m.row.id_
 have e0:s.tables.getD m.table.toNat []=fO_ s m:=rfl
 refine ao_ ?_
 simp only [fh_,e0,ll_,bb_,ht,true_and,and_true,ab_ (hh_ (id:=m.row.id_) hT1),gK_ (hrow _),gK_ hr,ab_ (iM_ hT hr),ab_ (gm_ (id:=m.row.id_) hT),al_,ae_]
 unfold rC_ FDo FDoCh noCh pM_
 generalize in_ (fO_ s m) m.row=p
 generalize j5_ (fO_ s m) m.row.id_=q
 generalize f5_ (fO_ s m) m.row.id_=a at hat ⊢
 have hb:(m.kind == 1)=true→(m.kind != 1)=false:=by simp [bne]
 have hb':(m.kind == 1)=false→(m.kind != 1)=true:=by intro h;simp [bne,h]
 generalize (m.kind != 1)=k1 at hb hb' ⊢
 cases hk:(m.kind == 1)<;>rw [hk] at hb hb'
 · have:=hb' rfl
   subst this
   cases ha:decide (a≥0)
   · simp
   · have ha:=of_decide_eq_true ha
     cases (m.kind != 3)<;>simp<;>omega
 · have:=hb rfl
   subst this
   cases ha:decide (a≥0)<;>cases (((fO_ s m).length:Int) == 24)<;>cases (m.kind != 3)<;>simp
theorem ju_ {s:aw_} {m:TMut} (hl:fC_ fg_ s) (hr:m.row.cells.length≤fg_):Ev (fun n _=>eA_ n s m) (gR_ s m):=by
 have hs:s.schema.cols.length≤cb_:=he_ hl.1 (Nat.le_refl _)
 have hrt:m.row.cells.length≤cb_:=he_ hr (Nat.le_refl _)
 refine ao_ ?_
 simp only [eA_,fy_,oz_,ll_,ab_ (fj_ (hl.upto (show fg_≤cb_ by decide))),ab_ (og_ hs hrt),ab_ (mg_ hl),al_,ae_]
 unfold gR_
 cases h1:fw_ s
 · exact ⟨fun _=>rfl,fun h=>(by cases h)⟩
 · refine ⟨fun h=>(by cases h),fun _ => ?_⟩
   cases h2:j4_ s.schema m
   · exact ⟨fun _=>rfl,fun h=>(by cases h)⟩
   · refine ⟨fun h=>(by cases h),fun _ => ?_⟩
     simp only [ab_ (pu_ hl hr (qY_ h1 h2 hs)),al_,ae_]
     cases rC_ s m<;>simp [noCh,pM_,ab_ (mg_ hl),ae_]
theorem FDo_len {c:Nat} {s:aw_} {m:TMut} (h:fC_ c s) (hr:m.row.cells.length≤c):fC_ (c+1) (FDo s m):=by
 have hT:hn_ c (fO_ s m):=fU_ h.2.2 _
 refine ⟨Nat.le_succ_of_le h.1,by simp only [FDo,List.length_set];exact Nat.le_succ_of_le h.2.1,fun x hx => ?_⟩
 rcases List.mem_or_eq_of_mem_set hx with hx|rfl
 · exact (h.2.2 x hx).upto (Nat.le_succ _)
 · cases (m.kind != 3)
   · exact (mW_ hT).upto (Nat.le_succ _)
   · exact mS_ hT hr
theorem FDoCh_len {c:Nat} {s:aw_} {m:TMut} (h:fC_ c s) (hr:m.row.cells.length≤c):qF_ c (FDoCh s m):=by
 have hT:hn_ c (fO_ s m):=fU_ h.2.2 _
 refine ⟨?_,?_⟩
 · show (cond (m.kind != 1) _ pM_).cells.length≤c
   cases (m.kind != 1)
   · exact Nat.zero_le _
   · by_cases hi:(f5_ (fO_ s m) m.row.id_).toNat<(fO_ s m).length
     · exact hT.2 _ (bY_ _ hi)
     · simp only [cond_true];rw [List.getD_eq_getElem?_getD,List.getElem?_eq_none (by omega)];exact Nat.zero_le _
 · show (cond (m.kind != 3) m.row pM_).cells.length≤c
   cases (m.kind != 3)
   · exact Nat.zero_le _
   · exact hr
theorem kH_ {c:Nat} {s:aw_} {m:TMut} (h:fC_ c s) (hr:m.row.cells.length≤c):fC_ (c+1) (gR_ s m).1∧qF_ c (gR_ s m).2.1:=by
 have z:qF_ c noCh:=⟨Nat.zero_le _,Nat.zero_le _⟩
 unfold gR_
 cases fw_ s
 · exact ⟨⟨Nat.zero_le _,Nat.zero_le _,fun x hx=>(by cases hx)⟩,z⟩
 · cases (j4_ s.schema m&&rC_ s m)
   · exact ⟨h.upto (Nat.le_succ _),z⟩
   · exact ⟨FDo_len h hr,FDoCh_len h hr⟩
end Go.Pi
end
section
namespace Go.Pi
def gB_:aw_→List TMut→List a0_→Option (aw_ × List a0_)
 |s,[],l=>some (s,l)
 |s,m::r,l=>cond (gR_ s m).2.2 (gB_ (gR_ s m).1 r (l++[(gR_ s m).2.1])) none
def mX_ (s:aw_):Option (aw_ × List a0_)→aw_ × List a0_ × Bool
 |some p=>(aw_.mk p.1.schema (W (s.version+1)) p.1.tables,p.2,true)
 |none=>(s,[],false)
def fq_ (s:aw_) (l:List TMut):aw_ × List a0_ × Bool:=cond (fw_ s) (cond (inn (l.length:Int) 1 5 && !(s.version == 100000)) (mX_ s (gB_ s l [])) (s,[],false)) (zeroSt,[],false)
def mc_ (c:Nat) (l:List TMut):Prop:=∀ m ∈ l,m.row.cells.length≤c
theorem lT_ {c:Nat} {s:aw_} {l:List TMut} (hl:fC_ c s) (hm:mc_ c l) (hc:c+l.length≤1000000):Ev (fun n _=>bD_ n s l) (fq_ s l):=by
 have hcR:fC_ fg_ s:=hl.upto (by simp only [fg_];omega)
 have hC:=mg_ hcR
 refine ao_ ?_
 simp only [bD_,fy_,ab_ (fj_ (hcR.upto (show fg_≤cb_ by decide))),fT_,ab_ hC,al_,ae_]
 unfold fq_
 cases h1:fw_ s
 · exact ⟨fun _=>rfl,fun h=>(by cases h)⟩
 refine ⟨fun h=>(by cases h),fun _ => ?_⟩
 cases h2:inn (l.length:Int) 1 5
 · exact ⟨fun _=>rfl,fun h=>(by cases h)⟩
 refine ⟨fun h=>(by cases h),fun _ => ?_⟩
 cases h3:(s.version == 100000)
 · refine ⟨fun h=>(by cases h),fun _ => ?_⟩
   have key:∀ (m i:Nat) (t:aw_) (o:List a0_),i+m=l.length→fC_ (c+i) t→o.length≤i →
     Ev (fun n N=>bD_.loop12 n (fun xy8 xy9 xy10 xy11 xy12 xy13 xy14 xy15=>(some ((aw_.mk (bi_.mk xy14) (W (xy9+1)) xy15),xy13,true))) N l (i:Int) s.schema.cols s.version s.tables 0 [] t.version o t.schema.cols t.tables) (mX_ s (gB_ t (l.drop i) o)):=by
    intro m
    induction m with
    |zero=>
     intro i t o hi ht ho
     have e:i=l.length:=by omega
     subst e
     refine a9_ ?_
     simp only [bD_.turn12,bD_.step12,cr_,cond_false,ae_,List.drop_length,gB_,mX_]
    |succ m ih=>
     intro i t o hi ht ho
     have hlt:i<l.length:=by omega
     have hr:=hm _ (bY_ TMut.dflt hlt)
     have hD:=ju_ (m:=l.getD i TMut.dflt) (ht.upto (show c+i≤fg_ by simp only [fg_];omega)) (Nat.le_trans hr (by simp only [fg_];omega))
     have hW:=W_up hlt (show l.length≤cb_ by simp only [cb_];omega)
     have hn:=kH_ (m:=l.getD i TMut.dflt) ht (Nat.le_trans hr (Nat.le_add_right _ _))
     rw [dM_ TMut.dflt hlt]
     refine a9_ ?_
     simp only [bD_.turn12,bD_.step12,gn_,fy_,oz_,ll_,cC_ hlt,cond_true,bb_,ch_ hlt,true_and,Int.toNat_natCast,hW,ab_ hD,al_,ae_,ab_ hC,ba_,gB_]
     cases hq:(gR_ t (l.getD i TMut.dflt)).2.2
     · exact ⟨fun _=>rfl,fun h=>(by cases h)⟩
     · exact ⟨fun h=>(by cases h),fun _=>⟨by simp;omega,ih (i+1) _ _ (by omega) (by rw [←Nat.add_assoc];exact hn.1) (by simp;omega)⟩⟩
   exact cZ_ (key l.length 0 s [] (by omega) hl (Nat.le_refl _))
 · exact ⟨fun _=>rfl,fun h=>(by cases h)⟩
theorem mY_ {c:Nat}:∀ {l:List TMut} {s:aw_} {o:List a0_} {k:Nat},fC_ (c+k) s→mc_ c l→(∀ x ∈ o,qF_ (c+k) x)→∀ p,gB_ s l o=some p→fC_ (c+k+l.length) p.1∧p.2.length=o.length+l.length∧∀ x ∈ p.2,qF_ (c+k+l.length) x
 |[],s,o,k,h,_,ho,p,e=>by cases e;exact ⟨h,rfl,ho⟩
 |m::r,s,o,k,h,hm,ho,p,e=>by
  unfold gB_ at e
  cases hq:(gR_ s m).2.2<;>rw [hq] at e
  · cases e
  · have hr:=hm m (List.mem_cons_self ..)
    have hn:=kH_ (m:=m) h (Nat.le_trans hr (Nat.le_add_right _ _))
    have:=mY_ (l:=r) (k:=k+1) (by rw [←Nat.add_assoc];exact hn.1) (fun x hx=>hm x (List.mem_cons_of_mem _ hx)) (fun x hx=>by
     rcases List.mem_append.1 hx with hx|hx
     · exact ⟨Nat.le_succ_of_le (ho x hx).1,Nat.le_succ_of_le (ho x hx).2⟩
     · rw [List.mem_singleton.1 hx];exact ⟨Nat.le_succ_of_le hn.2.1,Nat.le_succ_of_le hn.2.2⟩) p e
    simp only [List.length_append,List.length_cons,List.length_nil] at this ⊢
    refine ⟨this.1.upto (by omega),by omega,fun x hx=>⟨Nat.le_trans (this.2.2 x hx).1 (by omega),Nat.le_trans (this.2.2 x hx).2 (by omega)⟩⟩
theorem k6_ {c:Nat} {s:aw_} {l:List TMut} (h:fC_ c s) (hm:mc_ c l):fC_ (c+l.length) (fq_ s l).1∧(fq_ s l).2.1.length≤5∧∀ x ∈ (fq_ s l).2.1,qF_ (c+l.length) x:=by
 unfold fq_
 cases fw_ s
 · exact ⟨⟨Nat.zero_le _,Nat.zero_le _,fun x hx=>(by cases hx)⟩,Nat.zero_le _,fun x hx=>(by cases hx)⟩
 · cases h2:(inn (l.length:Int) 1 5 && !(s.version == 100000))
   · exact ⟨h.upto (Nat.le_add_right _ _),Nat.zero_le _,fun x hx=>(by cases hx)⟩
   · simp only [cond_true]
     cases hb:gB_ s l [] with
     |none=>exact ⟨h.upto (Nat.le_add_right _ _),Nat.zero_le _,fun x hx=>(by cases hx)⟩
     |some p=>
      have:=mY_ (c:=c) (k:=0) (o:=[]) h hm (fun x hx=>(by cases hx)) p hb
      rw [Bool.and_eq_true] at h2
      have h5:=i8_.1 h2.1
      simp only [Nat.add_zero,List.length_nil,Nat.zero_add] at this
      exact ⟨this.1,by show p.2.length≤5;omega,this.2.2⟩
end Go.Pi
end
section
namespace Go.Pi
structure QIn (q:ax_):Prop where
 len:tA_ 1010 q
 show_:∀ x ∈ q.show_,0≤x∧x≤1000
theorem up1 {i:Nat} (h:i≤1000000):W ((i:Int)+1)=((i+1:Nat):Int):=by rw [Wn (by omega) (by omega)];rfl
theorem l9loop7 {K:Nat→ai_.K7} {P:ax_ × af_→Prop} {t6 t30 t40 t42 t43 t44 t46 t47 t48 t50 t52 t53 t54 t56 t57 t58} (hK:∀ c o,DwOk c→o.length≤3→Ans (fun n _=>K n t6 c.b c.i c.h t30 t40 t42 t43 t44 t46 t47 t48 t50 t52 t53 t54 t56 t57 t58 o) P) {c:af_} (hc:DwOk c) :
  Ans (fun n _=>ai_.loop7 n (K n) n t6 0 c.b c.i c.h t30 t40 t42 t43 t44 t46 t47 t48 t50 t52 t53 t54 t56 t57 t58 []) P:=by
 have key:∀ (m i:Nat) (c:af_) (o:List cj_),i+m=3→DwOk c→o.length=i→Ans (fun n N=>ai_.loop7 n (K n) N t6 (i:Int) c.b c.i c.h t30 t40 t42 t43 t44 t46 t47 t48 t50 t52 t53 t54 t56 t57 t58 o) P:=by
  intro m
  induction m with
  |zero=>
   intro i c o hi hc ho
   refine cx_ ?_
   simp only [ai_.turn7,ai_.step7,cT_]
   refine az_ (br_ hc) fun r hr => ?_
   have h1:=hr.lo;have h2:=hr.hi
   rw [decide_eq_false (by omega)]
   simp only [cond_false]
   exact hK _ _ hr.cur (by omega)
  |succ m ih=>
   intro i c o hi hc ho
   refine cx_ ?_
   simp only [ai_.turn7,ai_.step7,cT_]
   refine az_ (br_ hc) fun r hr => ?_
   simp only [be_]
   refine ⟨fun _=>az_ (br_ hr.cur) fun r2 h2=>az_ (br_ h2.cur) fun r3 h3=>az_ (br_ h3.cur) fun r4 h4 => ?_,fun _=>hK _ _ hr.cur (by omega)⟩
   simp only [dN_,up1 (show i≤1000000 by omega)]
   exact ⟨by simp;omega,ih (i+1) r4.2 _ (by omega) h4.cur (by simp;omega)⟩
 exact en_ (key 3 0 c [] rfl hc rfl)
theorem l9loop16 {K:Nat→ai_.K16} {P:ax_ × af_→Prop} {t6 t30 t40 t42 t43 t44 t46 t47 t48 t50 t52 t53 t54 t56 t57 t58 t51} (h6:t6≤1000) (hK:∀ c o,DwOk c→o.length≤1000→(∀ x ∈ o,0≤x∧x≤1000)→Ans (fun n _=>K n c.b c.i c.h t30 t40 t42 t43 t44 t46 t47 t48 t50 t52 t53 t54 t56 t57 t58 t51 o) P) {c:af_} (hc:DwOk c) :
  Ans (fun n _=>ai_.loop16 n (K n) n t6 0 c.b c.i c.h t30 t40 t42 t43 t44 t46 t47 t48 t50 t52 t53 t54 t56 t57 t58 t51 []) P:=by
 have key:∀ (m i:Nat) (c:af_) (o:List Int),i+m=1000→DwOk c→o.length≤i→(∀ x ∈ o,0≤x∧x≤1000)→Ans (fun n N=>ai_.loop16 n (K n) N t6 (i:Int) c.b c.i c.h t30 t40 t42 t43 t44 t46 t47 t48 t50 t52 t53 t54 t56 t57 t58 t51 o) P:=by
  intro m
  induction m with
  |zero=>
   intro i c o hi hc ho hx
   refine cx_ ?_
   simp only [ai_.turn16,ai_.step16,cT_]
   rw [decide_eq_false (by omega)]
   simp only [cond_false]
   exact hK _ _ hc (by omega) hx
  |succ m ih=>
   intro i c o hi hc ho hx
   refine cx_ ?_
   simp only [ai_.turn16,ai_.step16,cT_,be_]
   refine ⟨fun _=>az_ (fD_ hc) fun r hr => ?_,fun _=>hK _ _ hc (by omega) hx⟩
   simp only [be_,dN_,up1 (show i≤1000000 by omega)]
   refine ⟨fun _=>⟨by simp;omega,ih (i+1) r.2 _ (by omega) hr (by simp;omega) fun x hx' => ?_⟩,fun _=>ih (i+1) r.2 _ (by omega) hr (by omega) hx⟩
   rcases List.mem_append.1 hx' with h|h
   · exact hx x h
   · rw [List.mem_singleton.1 h];omega
 exact en_ (key 1000 0 c [] rfl hc (Nat.le_refl _) fun x hx=>(by cases hx))
theorem md_ {c:af_} {s:bi_} (hc:DwOk c) (hs:∀ x ∈ s.cols,x≤1000):Ans (fun n _=>ai_ n c s) fun r=>QIn r.1∧DwOk r.2:=by
 have hg:∀ i,s.cols.getD i 0≤1000:=fun i=>by
  by_cases hi:i<s.cols.length
  · exact hs _ (bY_ _ hi)
  · rw [List.getD_eq_getElem?_getD,List.getElem?_eq_none (by omega)];decide
 have hm:∀ i,max (s.cols.getD i 0) 1≤1000:=fun i=>by have:=hg i;omega
 refine ci_ ?_
 simp only [ai_]
 repeat' (first
  |(rw [bf_ jq_])
  |(refine az_ (br_ (by assumption)) fun _ hd => ?_;obtain ⟨_,_,_⟩:=hd)
  |(refine az_ (fD_ (by assumption)) fun _ _ => ?_)
  |(refine az_ (fn_ (by assumption) (by simp)) fun _ hd => ?_;obtain ⟨_,_⟩:=hd)
  |(with_reducible refine be_.2 ⟨fun _ => ?_,fun _ => ?_⟩)
  |(with_reducible refine eX_.2 ⟨⟨?_,?_⟩,?_⟩)
  |(refine l9loop7 (fun _ _ _ _ => ?_) (by assumption))
  |(refine l9loop16 (by first|exact hm _|decide) (fun _ _ _ _ _ => ?_) (by assumption))
  |((with_reducible refine aS_.2 ?_);refine ⟨⟨⟨?_,?_⟩,?_⟩,?_⟩))
 all_goals (first|assumption|(simp only [decide_eq_true_eq] at *;assumption)|(refine Nat.le_trans ?_ (show 3≤1010 by decide);assumption)|(refine Nat.le_trans ?_ (show 1000≤1010 by decide);assumption))
theorem oI_ {k:Nat} {c:af_} {s:aw_} (hc:DwOk c) (hs:StIn k s):Ans (fun n _=>du_ n c s) fun r=>r.1.row.cells.length≤1000∧DwOk r.2:=by
 refine ci_ ?_
 simp only [du_]
 repeat' (first
  |(rw [bf_ jq_])
  |(refine az_ (br_ (by assumption)) fun _ hd => ?_;obtain ⟨_,_,_⟩:=hd)
  |(refine az_ (fD_ (by assumption)) fun _ _ => ?_)
  |(refine az_ (fn_ (by assumption) (by simp)) fun _ hd => ?_;obtain ⟨_,_⟩:=hd)
  |(refine az_ (jI_ (by assumption) (hs.getD _)) fun _ hd => ?_;obtain ⟨_,_⟩:=hd)
  |(with_reducible refine be_.2 ⟨fun _ => ?_,fun _ => ?_⟩)
  |(with_reducible refine eX_.2 ⟨⟨?_,?_⟩,?_⟩)
  |(with_reducible refine aS_.2 ⟨?_,by assumption⟩))
 all_goals (first|assumption|exact Nat.zero_le _|(simp only [decide_eq_true_eq,decide_eq_false_iff_not] at *;omega))
theorem FMutDo_in {k:Nat} {s:aw_} {m:TMut} (h:StIn k s) (hr:m.row.cells.length≤k):StIn (k+1) (gR_ s m).1:=by
 refine ⟨(kH_ h.len hr).1,?_⟩
 unfold gR_
 cases fw_ s
 · exact fun x hx=>(by cases hx)
 · cases (j4_ s.schema m&&rC_ s m)<;>exact h.col
theorem rG_ {k:Nat} {s:aw_} {l:List TMut} (h:StIn k s) (hm:mc_ k l):StIn (k+l.length) (fq_ s l).1:=by
 refine ⟨(k6_ h.len hm).1,?_⟩
 unfold fq_
 cases fw_ s
 · exact fun x hx=>(by cases hx)
 · cases (inn (l.length:Int) 1 5 && !(s.version == 100000))
   · exact h.col
   · have key:∀ (l:List TMut) (t:aw_) (o:List a0_),(∀ x ∈ t.schema.cols,x≤1000)→∀ p,gB_ t l o=some p→∀ x ∈ p.1.schema.cols,x≤1000:=by
      intro l
      induction l with
      |nil=>intro t o ht p e;cases e;exact ht
      |cons m r ih=>
       intro t o ht p e
       unfold gB_ at e
       cases hq:(gR_ t m).2.2<;>rw [hq] at e
       · cases e
       · refine ih _ _ ?_ p e
         unfold gR_
         cases fw_ t
         · exact fun x hx=>(by cases hx)
         · cases (j4_ t.schema m&&rC_ t m)<;>exact ht
     simp only [cond_true]
     cases hb:gB_ s l [] with
     |none=>exact h.col
     |some p=>exact key l s [] h.col p hb
theorem mf_ {k:Nat} {c:af_} {s:aw_} (hc:DwOk c) (hs:StIn k s) (hk:1000≤k) (hk2:k≤90000):Ans (fun n _=>aB_ n c s) fun r=>r.1.length≤3∧mc_ 1000 r.1∧DwOk r.2:=by
 have key:∀ (m i:Nat) (c:af_) (s:aw_) (o:List TMut),i+m=3→DwOk c→StIn (k+i) s→o.length≤i→mc_ 1000 o →
   Ans (fun n N=>aB_.loop5 n (fun xy14 xy15 xy16 xy17=>(some (xy17,(af_.mk xy14 xy15 xy16)))) N (i:Int) c.b c.i c.h s.schema.cols s.version s.tables o) fun r=>r.1.length≤3∧mc_ 1000 r.1∧DwOk r.2:=by
  intro m
  induction m with
  |zero=>
   intro i c s o hi hc hs ho hm
   refine cx_ ?_
   simp only [aB_.turn5,aB_.step5,cT_]
   refine az_ (br_ hc) fun r hr => ?_
   have h1:=hr.lo;have h2:=hr.hi
   rw [Wn (x:=1+r.1) (by omega) (by omega),decide_eq_false (by omega)]
   simp only [cond_false,cT_,aS_]
   exact ⟨by omega,hm,hr.cur⟩
  |succ m ih=>
   intro i c s o hi hc hs ho hm
   refine cx_ ?_
   simp only [aB_.turn5,aB_.step5,cT_]
   refine az_ (br_ hc) fun r hr => ?_
   simp only [be_,cT_,aS_,gn_,fy_]
   refine ⟨fun _=>az_ (oI_ hr.cur hs) fun r2 h2 => ?_,fun _=>⟨by omega,hm,hr.cur⟩⟩
   have hD:=ju_ (s:=s) (m:=r2.1) (hs.len.upto (by simp only [fg_];omega)) (Nat.le_trans h2.1 (by decide))
   have hn:=FMutDo_in (m:=r2.1) hs (Nat.le_trans h2.1 (by omega))
   have hm2:mc_ 1000 (o++[r2.1]):=fun x hx=>by
    rcases List.mem_append.1 hx with h|h
    · exact hm x h
    · rw [List.mem_singleton.1 h];exact h2.1
   have e1:=up1 (show i≤1000000 by omega)
   have hnow:StIn (k+(i+1)) s:=hs.upto (by omega)
   have hgo:∀ (t:aw_) (c:af_) (q:List TMut),StIn (k+(i+1)) t→DwOk c→q.length≤i+1→mc_ 1000 q→Ans (fun n N=>aB_.loop5 n (fun xy14 xy15 xy16 xy17=>(some (xy17,(af_.mk xy14 xy15 xy16)))) N ((i+1:Nat):Int) c.b c.i c.h t.schema.cols t.version t.tables q) fun r=>r.1.length≤3∧mc_ 1000 r.1∧DwOk r.2:=fun t c q h1 h2 h3 h4=>ih (i+1) c t q (by omega) h2 h1 h3 h4
   simp only [aB_.tail9,gn_,fy_,oz_,ll_,bf_ hD,e1,cT_]
   repeat' (first
    |(with_reducible refine be_.2 ⟨fun _ => ?_,fun _ => ?_⟩)
    |(refine az_ (fD_ h2.2) fun r3 h3 => ?_)
    |(with_reducible refine dN_.2 ⟨by simp;omega,?_⟩))
   all_goals (first
    |exact hgo _ _ _ hn h2.2 (by simp;omega) hm2
    |exact hgo _ _ _ hn (by assumption) (by simp;omega) hm2
    |exact hgo _ _ _ hn (by assumption) (by omega) hm
    |exact hgo s _ _ hnow h2.2 (by simp;omega) hm2
    |exact hgo s _ _ hnow (by assumption) (by simp;omega) hm2
    |exact hgo s _ _ hnow (by assumption) (by omega) hm)
 refine ci_ ?_
 simp only [aB_]
 exact en_ (key 3 0 c s [] rfl hc hs (Nat.le_refl _) fun x hx=>(by cases hx))
end Go.Pi
end
section
namespace Go.Pi
def FPut (q:ax_) (rows:List TRow) (r:TRow):List TRow:=rows.take (rows.findIdx (fun x=>hK_ q r x))++[r]++rows.drop (rows.findIdx (fun x=>hK_ q r x))
theorem take_mid {α:Type} (d:α) {a m:List α} {i p:Nat} (hi:i<a.length) (h:p≤i):a.take p++m++(a.take (i+1)).drop p=a.take p++m++(a.take i).drop p++[a.getD i d]:=by
 rw [cE_ d hi,List.drop_append_of_le_length (by simp;omega)]
 simp
theorem ahead_idx {q:ax_} {r:TRow} {rows:List TRow} {i:Nat} (hi:i<rows.length) (hle:i≤rows.findIdx (fun x=>hK_ q r x)):hK_ q r (rows.getD i TRow.dflt)=decide (i=rows.findIdx (fun x=>hK_ q r x)):=by
 rw [List.getD_eq_getElem?_getD,List.getElem?_eq_getElem hi,Option.getD_some]
 by_cases h:i=rows.findIdx (fun x=>hK_ q r x)
 · rw [decide_eq_true h]
   have:=List.findIdx_getElem (xs:=rows) (p:=fun x=>hK_ q r x) (w:=by omega)
   simp only [←h] at this
   exact this
 · rw [decide_eq_false h]
   have:=List.not_of_lt_findIdx (xs:=rows) (p:=fun x=>hK_ q r x) (i:=i) (by omega)
   simpa using this
theorem gU_ {q:ax_} {rows:List TRow} {r:TRow} (h:hn_ fg_ rows) (hr:r.cells.length≤fg_):Ev (fun n _=>bX_ n q rows r) (FPut q rows r):=by
 refine ao_ ?_
 have hl:=h.1
 simp only [fg_] at hl
 have ht:rows.length≤cb_:=by simp only [cb_];omega
 have hrt:r.cells.length≤cb_:=by simp only [cb_];simp only [fg_] at hr;omega
 simp only [bX_]
 have e0:∀ r:TRow,TRow.mk r.id_ r.cells=r:=fun _=>rfl
 have hA:∀ (x:TRow) (g:Nat→Nat→Bool→Option (List TRow)) (v:List TRow),x.cells.length≤cb_→(Ev (fun n N=>(eB_ n (ax_.mk q.table q.where_ q.order q.down q.first q.show_ q.kids q.kidTable q.kidCol) r x).bind (g n N)) v↔Ev (fun n N=>g n N (hK_ q r x)) v):=fun x g v hx=>ab_ (oi_ hrt hx)
 obtain ⟨p,hp⟩:∃ p,p=rows.findIdx (fun x=>hK_ q r x):=⟨_,rfl⟩
 have hpl:p≤rows.length:=by rw [hp];exact List.findIdx_le_length
 let S:Nat→Bool × List TRow:=fun i=>if i≤p then (false,rows.take i) else (true,rows.take p++[r]++(rows.take i).drop p)
 have hS0:S 0=(false,[]):=by simp [S]
 have:=eI_ S rows.length (fun n N i (s:Bool × List TRow)=>bX_.loop5 n (fun xy3 xy4 xy5 xy6=>(cond (!xy3) ((cz_ n (TRow.mk xy4 xy5)).bind fun xr7=>(bm_ (xy6.length+([xr7]:List TRow).length) 32 (some (xy6++([xr7]:List TRow))))) (some xy6))) N rows s.1 (i:Int) q.table q.where_ q.order q.down q.first q.show_ q.kids q.kidTable q.kidCol r.id_ r.cells s.2) (FPut q rows r) (fun i hi F hF => ?_) ?_
 · rw [hS0] at this;exact this
 · simp only [bX_.turn5,bX_.step5,Int.toNat_natCast,W_up hi ht,e0]
   have hx:=ahead_idx (q:=q) (r:=r) hi
   rw [←hp] at hx
   have hlt:(S i).2.length≤rows.length+1:=by simp only [S];split<;>simp<;>omega
   simp only [al_,bb_,hA _ _ _ (iA_ (rows:=rows) ⟨ht,fun x hx=>by have:=h.2 x hx;simp only [fg_] at this;simp only [cb_];omega⟩ i),gK_ hr,ba_,cC_ hi,ch_ hi]
   refine ⟨fun _=>⟨fun hn=>⟨trivial,fun ha=>⟨by simp;omega,trivial,by simp;omega,?_⟩,fun ha=>⟨trivial,by simp;omega,?_⟩⟩,fun hn=>⟨trivial,by simp;omega,?_⟩⟩,fun h=>by cases h⟩
   all_goals (by_cases hle:i≤p)
   · have e:i=p:=by rw [hx hle] at ha;exact of_decide_eq_true ha
     subst e
     simp only [S,if_neg (show ¬ i+1≤i by omega),if_pos (Nat.le_refl i),cE_ TRow.dflt hi,List.drop_append_of_le_length (show i≤(rows.take i).length by simp;omega),List.drop_eq_nil_of_le (show (rows.take i).length≤i by simp;omega),List.nil_append] at hF ⊢
     exact hF
   · simp only [S,if_neg hle] at hn;cases hn
   · have e:i≠p:=by rw [hx hle] at ha;exact of_decide_eq_false ha
     simp only [S,if_pos hle,if_pos (show i+1≤p by omega),cE_ TRow.dflt hi] at hF ⊢
     exact hF
   · simp only [S,if_neg hle] at hn;cases hn
   · simp only [S,if_pos hle] at hn;cases hn
   · simp only [S,if_neg hle,if_neg (show ¬ i+1≤p by omega),take_mid TRow.dflt hi (show p≤i by omega)] at hF ⊢
     exact hF
 · simp only [bX_.turn5,bX_.step5,cr_,cond_false,e0,al_,gK_ hr,ba_,ae_]
   unfold FPut
   rw [←hp]
   by_cases hle:rows.length≤p
   · have e:rows.length=p:=by omega
     simp only [S,if_pos hle,←e]
     simp;omega
   · simp only [S,if_neg hle]
     simp
end Go.Pi
end
section
namespace Go.Pi
def gL_ (kids:List TKid) (id:Int):Nat:=kids.findIdx (fun k=>decide (k.id_≥id))
def pY_ (k:TKid) (id by_:Int):List TKid :=
 cond (k.id_ == id) (cond (decide (W (k.n_+by_) > 0)) [TKid.mk id (W (k.n_+by_))] []) (cond (decide (by_ > 0)) [TKid.mk id by_,k] [k])
def FKid (kids:List TKid) (id by_:Int):List TKid :=
 cond (decide (gL_ kids id<kids.length)) (kids.take (gL_ kids id)++pY_ (kids.getD (gL_ kids id) TKid.dflt) id by_++kids.drop (gL_ kids id+1)) (cond (decide (by_ > 0)) (kids++[TKid.mk id by_]) kids)
theorem kid_idx {kids:List TKid} {id:Int} {i:Nat} (hi:i<kids.length) (hle:i≤gL_ kids id):((kids.getD i TKid.dflt).id_≥id↔i=gL_ kids id)∧((kids.getD i TKid.dflt).id_<id↔i≠gL_ kids id):=by
 have key:(kids.getD i TKid.dflt).id_≥id↔i=gL_ kids id:=by
  rw [List.getD_eq_getElem?_getD,List.getElem?_eq_getElem hi,Option.getD_some]
  unfold gL_ at hle ⊢
  constructor
  · intro h
    refine Classical.byContradiction fun hne => ?_
    have:=List.not_of_lt_findIdx (xs:=kids) (p:=fun k=>decide (k.id_≥id)) (i:=i) (by omega)
    rw [decide_eq_true h] at this;cases this
  · intro h
    have:=List.findIdx_getElem (xs:=kids) (p:=fun k=>decide (k.id_≥id)) (w:=by omega)
    simp only [←h] at this
    exact of_decide_eq_true this
 exact ⟨key,fun h e=>by have:=key.2 e;omega,fun h=>by have:=fun g=>h (key.1 g);omega⟩
theorem kp_ (k:TKid) (id by_:Int):(pY_ k id by_).length≤2:=by
 unfold pY_
 cases (k.id_ == id)<;>simp only [cond_true,cond_false]
 · cases decide (by_ > 0)<;>simp
 · cases decide (W (k.n_+by_) > 0)<;>simp
theorem take_midK {a m:List TKid} {i p:Nat} (hi:i<a.length) (h:p+1≤i):a.take p++m++(a.take (i+1)).drop (p+1)=a.take p++m++(a.take i).drop (p+1)++[a.getD i TKid.dflt]:=by
 rw [cE_ TKid.dflt hi,List.drop_append_of_le_length (by simp;omega)]
 simp
theorem fK_ {kids:List TKid} {id by_:Int} (h:kids.length≤fg_):Ev (fun n _=>aQ_ n kids id by_) (FKid kids id by_):=by
 refine ao_ ?_
 have hl:=h
 simp only [fg_] at hl
 have ht:kids.length≤cb_:=by simp only [cb_];omega
 simp only [aQ_]
 obtain ⟨p,hp⟩:∃ p,p=gL_ kids id:=⟨_,rfl⟩
 have hpl:p≤kids.length:=by rw [hp];exact List.findIdx_le_length
 obtain ⟨m,hm⟩:∃ m,m=pY_ (kids.getD p TKid.dflt) id by_:=⟨_,rfl⟩
 have hml:m.length≤2:=by rw [hm];exact kp_ _ _ _
 let S:Nat→Bool × List TKid:=fun i=>if i≤p then (false,kids.take i) else (true,kids.take p++m++(kids.take i).drop (p+1))
 have hS0:S 0=(false,[]):=by simp [S]
 have:=eI_ S kids.length (fun n N i (s:Bool × List TKid)=>aQ_.loop5 n (fun xy1 xy2 xy3 xy4=>(cond (!xy3) (cond (decide (xy2 > 0)) (bm_ (xy4.length+([(TKid.mk xy1 xy2)]:List TKid).length) 16 (some (xy4++([(TKid.mk xy1 xy2)]:List TKid)))) (some xy4)) (some xy4))) N kids id by_ s.1 (i:Int) s.2) (FKid kids id by_) (fun i hi F hF => ?_) ?_
 · rw [hS0] at this;exact this
 · have hx:=kid_idx (kids:=kids) (id:=id) hi
   rw [←hp] at hx
   have hlt:(S i).2.length≤kids.length+2:=by simp only [S];split<;>simp<;>omega
   obtain ⟨k,hk⟩:∃ k,k=kids.getD i TKid.dflt:=⟨_,rfl⟩
   simp only [aQ_.turn5,aQ_.step5,Int.toNat_natCast,W_up hi ht,al_,bb_,ba_,cC_ hi,ch_ hi,←hk]
   refine ⟨fun _=>⟨trivial,?_⟩,fun h=>by cases h⟩
   by_cases hle:i≤p
   · have s1:S i=(false,kids.take i):=by simp only [S,if_pos hle]
     rw [s1] at hlt ⊢
     by_cases e:i=p
     · have hge:k.id_≥id:=by rw [hk];exact (hx hle).1.2 e
       subst e
       have s2:S (i+1)=(true,kids.take i++m):=by
        simp only [S,if_neg (show ¬ i+1≤i by omega)]
        rw [List.drop_eq_nil_of_le (by simp;omega),List.append_nil]
       rw [s2,hm,←hk] at hF
       unfold pY_ at hF
       simp only [hge,decide_true,Bool.not_false,cond_true] at hF ⊢
       cases h1:(k.id_ == id)<;>cases h2:decide (by_ > 0)<;>cases h3:decide (W (k.n_+by_) > 0)<;>simp only [h1,h2,h3,cond_true,cond_false] at hF ⊢
       all_goals (repeat' (first|apply And.intro|intro _))
       all_goals (first|contradiction|exact hF|(simpa using hF)|(simp;omega))
     · have hlt2:¬ k.id_≥id:=by rw [hk];exact fun h=>e ((hx hle).1.1 h)
       have s2:S (i+1)=(false,kids.take i++[k]):=by
        simp only [S,if_pos (show i+1≤p by omega),hk,cE_ TKid.dflt hi]
       rw [s2] at hF
       simp only [hlt2,decide_false]
       repeat' (first|apply And.intro|intro _)
       all_goals (first|contradiction|exact hF|(simpa using hF)|(simp;omega))
   · have s1:S i=(true,kids.take p++m++(kids.take i).drop (p+1)):=by simp only [S,if_neg hle]
     have s2:S (i+1)=(true,kids.take p++m++(kids.take i).drop (p+1)++[k]):=by
      simp only [S,if_neg (show ¬ i+1≤p by omega),hk]
      rw [take_midK hi (by omega)]
     rw [s1] at hlt ⊢
     rw [s2] at hF
     repeat' (first|apply And.intro|intro _)
     all_goals (first|contradiction|exact hF|(simp at hlt ⊢;omega))
 · simp only [aQ_.turn5,aQ_.step5,cr_,cond_false,al_,ba_,ae_]
   unfold FKid
   rw [←hp,←hm]
   by_cases hle:kids.length≤p
   · have e:p=kids.length:=by omega
     have s1:S kids.length=(false,kids):=by simp only [S,if_pos hle,List.take_length]
     rw [s1,decide_eq_false (show ¬ p<kids.length by omega)]
     simp only [cond_false]
     refine ⟨fun _=>⟨fun h=>⟨by simp;omega,by rw [h];rfl⟩,fun h=>by rw [h];rfl⟩,fun h=>by cases h⟩
   · have s1:S kids.length=(true,kids.take p++m++kids.drop (p+1)):=by simp only [S,if_neg hle,List.take_length]
     rw [s1,decide_eq_true (show p<kids.length by omega)]
     exact ⟨fun h=>(by cases h),fun _=>rfl⟩
end Go.Pi
end
section
namespace Go.Pi
theorem kn_.upto {c d:Nat} {v:bF_} (h:kn_ c v) (hc:c≤d):kn_ d v:=⟨⟨Nat.le_trans h.1.1 hc,Nat.le_trans h.1.2 hc⟩,h.2.1.upto hc,Nat.le_trans h.2.2 hc⟩
section
variable {β:Type}
theorem se_ {q:ax_} (h:tA_ fg_ q) {g:Nat→Nat→ax_→Option β} {v:β}:Ev (fun n N=>(ee_ n q).bind (g n N)) v↔Ev (fun n N=>g n N q) v :=
 ab_ (ao_ (by have h1:=h.1;have h2:=h.2;simp only [fg_] at h1 h2;simp only [ee_,ba_,ae_,List.nil_append,and_true,List.length_nil];omega))
theorem h1_ {x:bF_} (h:kn_ fg_ x) {g:Nat→Nat→bF_→Option β} {v:β}:Ev (fun n N=>(cX_ n x).bind (g n N)) v↔Ev (fun n N=>g n N x) v :=
 ab_ (ao_ (by have h1:=h.2.2;simp only [fg_] at h1;simp only [cX_,se_ h.1,ab_ (pV_ h.2.1),ba_,ae_,List.nil_append,and_true,List.length_nil];omega))
theorem pX_ {x:cB_} (h:lenS fg_ x) {g:Nat→Nat→cB_→Option β} {v:β}:Ev (fun n N=>(dR_ n x).bind (g n N)) v↔Ev (fun n N=>g n N x) v :=
 ab_ (ao_ (by simp only [dR_,h1_ h.1,h1_ h.2,ae_]))
end
def sI_ (v:bF_) (c:a0_):List TRow :=
 cond (c.table == v.q.table) (cond (c.has&&gi_ v.q c.new) (FPut v.q (cond c.had (j5_ v.rows c.old.id_) v.rows) c.new) (cond c.had (j5_ v.rows c.old.id_) v.rows)) v.rows
def sJ_ (v:bF_) (c:a0_):List TKid :=
 cond (v.q.kids&&(c.table == v.q.kidTable)) (cond c.has (FKid (cond c.had (FKid v.kids (gA_ c.old v.q.kidCol) (-1)) v.kids) (gA_ c.new v.q.kidCol) 1) (cond c.had (FKid v.kids (gA_ c.old v.q.kidCol) (-1)) v.kids)) v.kids
def kI_ (v:bF_) (c:a0_):bF_:=⟨v.q,sI_ v c,sJ_ v c⟩
theorem lx_ {c:Nat} {q:ax_} {rows:List TRow} {r:TRow} (h:hn_ c rows) (hr:r.cells.length≤c):hn_ (c+1) (FPut q rows r):=by
 unfold FPut
 refine ⟨by have:=h.1;simp;omega,fun x hx => ?_⟩
 rcases List.mem_append.1 hx with hx|hx
 · rcases List.mem_append.1 hx with hx|hx
   · exact Nat.le_succ_of_le (h.2 x (List.mem_of_mem_take hx))
   · rw [List.mem_singleton.1 hx];omega
 · exact Nat.le_succ_of_le (h.2 x (List.mem_of_mem_drop hx))
theorem lz_ {kids:List TKid} {id by_:Int}:(FKid kids id by_).length≤kids.length+1:=by
 unfold FKid
 have:=kp_ (kids.getD (gL_ kids id) TKid.dflt) id by_
 by_cases h:gL_ kids id<kids.length
 · rw [decide_eq_true h,cond_true];simp only [List.length_append,List.length_take,List.length_drop];omega
 · rw [decide_eq_false h];cases decide (by_ > 0)<;>simp
theorem jr_ {c:Nat} {v:bF_} {x:a0_} (h:kn_ c v) (hx:qF_ c x) (hc:c+1≤fg_):Ev (fun n _=>de_ n v x) (kI_ v x):=by
 refine ao_ ?_
 have hv:=h.upto (show c≤fg_ by omega)
 have hd:=mW_ (id:=x.old.id_) hv.2.1
 have hr:x.new.cells.length≤fg_:=by have:=hx.2;omega
 have hk:=hv.2.2
 have hk2:∀ id b,(FKid v.kids id b).length≤fg_:=fun id b=>by have:=lz_ (kids:=v.kids) (id:=id) (by_:=b);have:=h.2.2;omega
 simp only [de_,h1_ hv,al_,ab_ (gm_ (id:=x.old.id_) hv.2.1),ab_ (hU_ (q:=v.q) (r:=x.new) (he_ hv.1.1 (Nat.le_refl _)) (he_ hr (Nat.le_refl _))),ab_ (gU_ (q:=v.q) (r:=x.new) hd hr),ab_ (gU_ (q:=v.q) (r:=x.new) hv.2.1 hr),
  ab_ (eY_ (r:=x.old) (col:=v.q.kidCol) (he_ hx.1 (by omega))),ab_ (eY_ (r:=x.new) (col:=v.q.kidCol) (he_ hx.2 (by omega))),
  ab_ (fK_ (kids:=v.kids) (id:=gA_ x.old v.q.kidCol) (by_:=-1) hk),ab_ (fK_ (kids:=v.kids) (id:=gA_ x.new v.q.kidCol) (by_:=1) hk),ab_ (fK_ (id:=gA_ x.new v.q.kidCol) (by_:=1) (hk2 (gA_ x.old v.q.kidCol) (-1))),ae_]
 unfold kI_ sI_ sJ_
 cases h1:(x.table == v.q.table)<;>cases h2:x.had<;>cases h3:x.has<;>cases h4:gi_ v.q x.new<;>cases h5:v.q.kids<;>cases h6:(x.table == v.q.kidTable)<;>simp
end Go.Pi
end
section
namespace Go.Pi
def kE_ (q:ax_) (o:List TRow) (rows:List TRow):List TRow:=rows.foldl (fun o r=>cond (gi_ q r) (FPut q o r) o) o
def FSQ (s:aw_) (q:ax_):Bool:=fw_ s&&iU_ s.schema q
def hy_ (s:aw_) (q:ax_):List TRow:=cond (FSQ s q) (kE_ q [] (s.tables.getD q.table.toNat [])) []
def jh_ (q:ax_) (k:List TKid) (rows:List TRow):List TKid:=rows.foldl (fun k r=>FKid k (r.cells.getD q.kidCol.toNat 0) 1) k
def ly_ (s:aw_) (q:ax_):List TKid:=cond q.kids (jh_ q [] (s.tables.getD q.kidTable.toNat [])) []
def zeroQ:ax_:=ax_.mk 0 [] 0 false 0 [] false 0 0
def sL_:bF_:=bF_.mk zeroQ [] []
def g2_ (s:aw_) (q:ax_):bF_ × Bool:=cond (FSQ s q) (bF_.mk q (hy_ s q) (ly_ s q),true) (sL_,false)
theorem kl_ (q:ax_):ax_.mk q.table q.where_ q.order q.down q.first q.show_ q.kids q.kidTable q.kidCol=q:=rfl
structure SQ (s:aw_) (q:ax_):Prop where
 tab:0≤q.table∧q.table<(s.tables.length:Int)
 kid:0≤q.kidTable∧q.kidTable<(s.tables.length:Int)
 col:q.kids=true→∀ r ∈ s.tables.getD q.kidTable.toNat [],0≤q.kidCol∧q.kidCol<(r.cells.length:Int)
theorem sq_of {s:aw_} {q:ax_} (h:FSQ s q=true) (hc:s.schema.cols.length≤cb_) (hct:s.tables.length≤cb_) (hrl:∀ x ∈ s.tables,x.length≤cb_∧∀ r ∈ x,r.cells.length≤cb_):SQ s q:=by
 have e:=@W_dn s.schema.cols.length hc
 unfold FSQ at h
 rw [Bool.and_eq_true] at h
 obtain ⟨h1,h2⟩:=h
 unfold fw_ at h1
 simp only [Bool.and_eq_true] at h1
 have hl:s.tables.length=s.schema.cols.length:=of_decide_eq_true h1.2.2.1
 have hT:=h1.2.2.2
 unfold iU_ at h2
 simp only [Bool.and_eq_true] at h2
 have ht:=i8_.1 h2.2.1
 rw [e] at ht
 have hcl:1≤s.schema.cols.length:=by omega
 have hk:FKids s.schema q=true:=by
  have:=h2.2.2.2.2.2
  grind
 unfold FKids at hk
 cases hkk:q.kids<;>rw [hkk] at hk
 · simp only [cond_false,Bool.and_eq_true,beq_iff_eq] at hk
   exact ⟨by omega,by omega,fun h=>by rw [hkk] at h;cases h⟩
 · simp only [cond_true,Bool.and_eq_true] at hk
   have k1:=i8_.1 hk.1
   have k2:=i8_.1 hk.2
   rw [e] at k1
   refine ⟨by omega,by omega,fun _ r hr => ?_⟩
   have hi:q.kidTable.toNat<s.tables.length:=by omega
   have hrow:=e8_.1 hT q.kidTable.toNat hi
   unfold rz_ at hrow
   obtain ⟨j,hj,rfl⟩:=List.mem_iff_getElem.1 hr
   simp only [Bool.and_eq_true] at hrow
   have hf:FRow s.schema (q.kidTable.toNat:Int) ((s.tables.getD q.kidTable.toNat []).getD j TRow.dflt)=true:=by
    have:=e8_.1 hrow.1 j hj
    simp only [Bool.and_eq_true] at this
    exact this.1
   unfold FRow at hf
   simp only [Bool.and_eq_true] at hf
   have hlen:=of_decide_eq_true hf.2.2.2.1
   rw [List.getD_eq_getElem?_getD,List.getElem?_eq_getElem hj,Option.getD_some,Int.toNat_natCast] at hlen
   have hle:((s.tables.getD q.kidTable.toNat [])[j]).cells.length≤cb_:=(hrl _ (bY_ _ hi)).2 _ hr
   rw [←hlen,W_dn hle] at k2
   omega
theorem mR_ {c:Nat} {q:ax_}:∀ {rows o:List TRow} {k:Nat},hn_ (c+k) o→(∀ r ∈ rows,r.cells.length≤c)→hn_ (c+k+rows.length) (kE_ q o rows)
 |[],o,k,h,_=>h
 |r::rows,o,k,h,hr=>by
  have h1:=hr r (List.mem_cons_self ..)
  have h2:hn_ (c+(k+1)) (cond (gi_ q r) (FPut q o r) o):=by
   cases gi_ q r
   · exact h.upto (by omega)
   · exact lx_ h (Nat.le_trans h1 (Nat.le_add_right _ _))
  have:=mR_ (q:=q) (rows:=rows) h2 fun x hx=>hr x (List.mem_cons_of_mem _ hx)
  exact this.upto (by simp;omega)
theorem qB_ {kids:List TKid} {id by_:Int}:(FKid kids id by_).length≤kids.length+1:=by
 have:=kp_ (kids.getD (gL_ kids id) TKid.dflt) id by_
 unfold FKid
 cases h:decide (gL_ kids id<kids.length)
 · cases decide (by_ > 0)<;>simp
 · have:=of_decide_eq_true h
   simp only [cond_true,List.length_append,List.length_take,List.length_drop];omega
theorem mT_ {q:ax_}:∀ {rows:List TRow} {k:List TKid},(jh_ q k rows).length≤k.length+rows.length
 |[],k=>Nat.le_refl _
 |r::rows,k=>by
  have h1:=qB_ (kids:=k) (id:=r.cells.getD q.kidCol.toNat 0) (by_:=1)
  have h2:=mT_ (q:=q) (rows:=rows) (k:=FKid k (r.cells.getD q.kidCol.toNat 0) 1)
  show (jh_ q _ rows).length≤_
  simp only [List.length_cons];omega
section
variable {s:aw_} {q:ax_} {c:Nat} (hl:fC_ c s) (hq:tA_ 100000 q) (hc:c≤100000)
include hl hq hc
theorem lO_:Ev (fun n _=>bM_ n s q) (hy_ s q):=by
 have hs:s.schema.cols.length≤cb_:=he_ (Nat.le_trans hl.1 hc) (by decide)
 have hL:fC_ cb_ s:=hl.upto (Nat.le_trans hc (by decide))
 have hqT:tA_ cb_ q:=⟨Nat.le_trans hq.1 (by decide),Nat.le_trans hq.2 (by decide)⟩
 refine ao_ ?_
 simp only [bM_,ab_ (fj_ hL),ab_ (hT_ hs hqT),al_,ae_,bb_]
 unfold hy_ FSQ
 cases h1:fw_ s
 · exact ⟨fun _=>rfl,fun h=>(by cases h)⟩
 refine ⟨fun h=>(by cases h),fun _ => ?_⟩
 cases h2:iU_ s.schema q
 · exact ⟨fun _=>rfl,fun h=>(by cases h)⟩
 refine ⟨fun h=>(by cases h),fun _ => ?_⟩
 have hS:=sq_of (s:=s) (q:=q) (by unfold FSQ;rw [h1,h2];rfl) hs hL.2.1 hL.2.2
 refine ⟨hS.tab,?_⟩
 have hT:hn_ c (s.tables.getD q.table.toNat []):=fU_ hl.2.2 _
 simp only [Bool.and_self,cond_true]
 generalize s.tables.getD q.table.toNat []=rows at hT ⊢
 have key:∀ (m i:Nat) (o:List TRow),i+m=rows.length→hn_ (c+i) o→Ev (fun n N=>bM_.loop8 n (fun xy5=>(some xy5)) N rows (i:Int) q.table q.where_ q.order q.down q.first q.show_ q.kids q.kidTable q.kidCol o) (kE_ q o (rows.drop i)):=by
  intro m
  induction m with
  |zero=>
   intro i o hi ho
   have e:i=rows.length:=by omega
   subst e
   refine a9_ ?_
   simp only [bM_.turn8,bM_.step8,cr_,cond_false,ae_,List.drop_length,kE_,List.foldl_nil]
  |succ m ih=>
   intro i o hi ho
   have hlt:i<rows.length:=by omega
   have h1:=hT.1
   have hr:=hT.2 _ (bY_ TRow.dflt hlt)
   have hM:=hU_ (q:=q) (r:=rows.getD i TRow.dflt) hqT.1 (by simp only [cb_];omega)
   have hP:=gU_ (q:=q) (rows:=o) (r:=rows.getD i TRow.dflt) (ho.upto (by simp only [fg_];omega)) (by simp only [fg_];omega)
   have hW:=W_up hlt (show rows.length≤cb_ by simp only [cb_];omega)
   have e1:kE_ q o (rows.drop i)=kE_ q (cond (gi_ q (rows.getD i TRow.dflt)) (FPut q o (rows.getD i TRow.dflt)) o) (rows.drop (i+1)):=by rw [dM_ TRow.dflt hlt];rfl
   rw [e1]
   refine a9_ ?_
   simp only [bM_.turn8,bM_.step8,kl_,cC_ hlt,cond_true,bb_,ch_ hlt,true_and,Int.toNat_natCast,hW,ab_ hM,ab_ hP,al_]
   cases hf:gi_ q (rows.getD i TRow.dflt)
   · exact ⟨fun h=>(by cases h),fun _=>ih (i+1) _ (by omega) (ho.upto (by omega))⟩
   · exact ⟨fun _=>ih (i+1) _ (by omega) (lx_ ho (Nat.le_trans hr (Nat.le_add_right _ _))),fun h=>(by cases h)⟩
 exact cZ_ (key rows.length 0 [] (by omega) ⟨Nat.zero_le _,fun x hx=>(by cases hx)⟩)
theorem m4_:Ev (fun n _=>b4_ n s q) (g2_ s q):=by
 have hs:s.schema.cols.length≤cb_:=he_ (Nat.le_trans hl.1 hc) (by decide)
 have hL:fC_ cb_ s:=hl.upto (Nat.le_trans hc (by decide))
 have hR:=lO_ hl hq hc
 have hqT:tA_ cb_ q:=⟨Nat.le_trans hq.1 (by decide),Nat.le_trans hq.2 (by decide)⟩
 refine ao_ ?_
 simp only [b4_,ab_ (fj_ hL),ab_ (hT_ hs hqT),al_,ae_]
 unfold g2_
 have e0:FSQ s q=(fw_ s&&iU_ s.schema q):=rfl
 cases h1:fw_ s
 · rw [e0,h1];exact ⟨fun _=>rfl,fun h=>(by cases h)⟩
 refine ⟨fun h=>(by cases h),fun _ => ?_⟩
 cases h2:iU_ s.schema q
 · rw [e0,h1,h2];exact ⟨fun _=>rfl,fun h=>(by cases h)⟩
 refine ⟨fun h=>(by cases h),fun _ => ?_⟩
 have hS:=sq_of (s:=s) (q:=q) (by rw [e0,h1,h2];rfl) hs hL.2.1 hL.2.2
 have hqR:tA_ fg_ q:=⟨Nat.le_trans hq.1 (by decide),Nat.le_trans hq.2 (by decide)⟩
 rw [e0,h1,h2]
 simp only [se_ hqR,ab_ hR,bb_,Bool.and_self,cond_true]
 refine ⟨hS.kid,?_⟩
 have hT:hn_ c (s.tables.getD q.kidTable.toNat []):=fU_ hl.2.2 _
 have hcol:=hS.col
 unfold ly_
 generalize s.tables.getD q.kidTable.toNat []=rows at hT hcol ⊢
 have key:∀ (m i:Nat) (k:List TKid),i+m=rows.length→k.length≤i→Ev (fun n N=>b4_.loop8 n (fun xy6 xy7 xy8 xy9 xy10 xy11 xy12 xy13 xy14 xy15 xy16 xy17 xy18 xy19 xy20 xy21 xy22 xy23=>(some ((bF_.mk (ax_.mk xy13 xy20 xy14 xy15 xy16 xy21 xy17 xy18 xy19) xy22 xy23),true))) N rows (i:Int) q.table q.where_ q.order q.down q.first q.show_ q.kids q.kidTable q.kidCol 0 0 false 0 false 0 0 q.table q.order q.down q.first q.kids q.kidTable q.kidCol q.where_ q.show_ (hy_ s q) k) (bF_.mk q (hy_ s q) (cond q.kids (jh_ q k (rows.drop i)) k),true):=by
  intro m
  induction m with
  |zero=>
   intro i k hi ho
   have e:i=rows.length:=by omega
   subst e
   refine a9_ ?_
   simp only [b4_.turn8,b4_.step8,cr_,cond_false,ae_,List.drop_length,jh_,List.foldl_nil]
   have e:(cond q.kids k k)=k:=by cases q.kids<;>rfl
   rw [e]
  |succ m ih=>
   intro i k hi ho
   have hlt:i<rows.length:=by omega
   have h1:=hT.1
   have hP:=fK_ (kids:=k) (id:=(rows.getD i TRow.dflt).cells.getD q.kidCol.toNat 0) (by_:=1) (by simp only [fg_];omega)
   have hW:=W_up hlt (show rows.length≤cb_ by simp only [cb_];omega)
   have hn:=qB_ (kids:=k) (id:=(rows.getD i TRow.dflt).cells.getD q.kidCol.toNat 0) (by_:=1)
   have e1:jh_ q k (rows.drop i)=jh_ q (FKid k ((rows.getD i TRow.dflt).cells.getD q.kidCol.toNat 0) 1) (rows.drop (i+1)):=by rw [dM_ TRow.dflt hlt];rfl
   refine a9_ ?_
   simp only [b4_.turn8,b4_.step8,kl_,cC_ hlt,cond_true,bb_,ch_ hlt,true_and,Int.toNat_natCast,hW,ab_ hP,al_,ae_]
   cases hk:q.kids
   · exact ⟨fun h=>(by cases h),fun _=>rfl⟩
   · refine ⟨fun _=>⟨hcol hk _ (bY_ TRow.dflt hlt),?_⟩,fun h=>(by cases h)⟩
     have:=ih (i+1) (FKid k ((rows.getD i TRow.dflt).cells.getD q.kidCol.toNat 0) 1) (by omega) (by omega)
     rw [hk] at this
     simp only [cond_true,e1] at this ⊢
     exact this
 exact cZ_ (key rows.length 0 [] (by omega) (Nat.le_refl _))
end
end Go.Pi
end
section
namespace Go.Pi
end Go.Pi
end
section
namespace Go.Pi
def ins (x:Bs) (y:Int):List (Bs × Int)→List (Bs × Int)
 |[]=>[(x,y)]
 |(k,v)::l=>if k<x then (k,v)::ins x y l else if k=x then (x,y)::l else (x,y)::(k,v)::l
def ho_:List (Bs × Int)→Prop
 |[]=>True
 |(k,_)::l=>(∀ p ∈ l,k<p.1)∧ho_ l
theorem oM_ {x:Bs} {y:Int}:∀ {l:List (Bs × Int)} {p:Bs × Int},p ∈ ins x y l→p=(x,y)∨p ∈ l
 |[],p,h=>by simp only [ins,List.mem_singleton] at h;exact .inl h
 |(k,v)::l,p,h=>by
  simp only [ins] at h
  split at h
  · rcases List.mem_cons.1 h with h|h
    · exact .inr (h ▸ List.mem_cons_self ..)
    · rcases oM_ h with h|h
      · exact .inl h
      · exact .inr (List.mem_cons_of_mem _ h)
  · split at h
    · rcases List.mem_cons.1 h with h|h
      · exact .inl h
      · exact .inr (List.mem_cons_of_mem _ h)
    · rcases List.mem_cons.1 h with h|h
      · exact .inl h
      · exact .inr h
theorem not_lt_lt {a b:Bs} (h1:¬ a<b) (h2:a≠b):b<a:=by
 rcases Decidable.em (b<a) with h|h
 · exact h
 · exact absurd (List.le_antisymm (List.not_lt.1 h) (List.not_lt.1 h1)) h2
theorem q5_ {x:Bs} {y:Int}:∀ {l:List (Bs × Int)},ho_ l→ho_ (ins x y l)
 |[],_=>⟨fun p hp=>(by cases hp),trivial⟩
 |(k,v)::l,h=>by
  simp only [ins]
  split
  · rename_i hk
    exact ⟨fun p hp=>(oM_ hp).elim (fun e=>e ▸ hk) (h.1 p),q5_ h.2⟩
  · split
    · rename_i h1 h2
      subst h2
      exact ⟨h.1,h.2⟩
    · rename_i h1 h2
      have hx:=not_lt_lt h1 h2
      exact ⟨fun p hp=>by
       rcases List.mem_cons.1 hp with e|hp
       · rw [e];exact hx
       · exact List.lt_trans hx (h.1 p hp),h⟩
end Go.Pi
end
section
namespace Go.Pi
end Go.Pi
end
section
namespace Go.Pi
theorem putL_nil {α:Type} {x:Bs} {y:α}:l4_ [] x [] y=[y]:=by
 simp [l4_]
theorem putL_cons {α:Type} {k x:Bs} {ns:List Bs} {a y:α} {l:List α}:l4_ (k::ns) x (a::l) y=if k<x then a::l4_ ns x l y else if k=x then y::l else y::a::l:=by
 by_cases h:k<x
 · have hb:Op.bytesLess k x=true:=by rw [jb_];exact decide_eq_true h
   have e1:gY_ (k::ns) x=gY_ ns x+1:=by unfold gY_;rw [List.findIdx_cons];simp [hb]
   have e2:gX_ (k::ns) x=gX_ ns x+1:=by
    unfold gX_
    rw [e1]
    simp only [List.getD_cons_succ,List.length_cons,Nat.add_lt_add_iff_right]
    split<;>rfl
   rw [if_pos h]
   unfold l4_
   rw [e1,e2];simp
 · have hb:Op.bytesLess k x=false:=by rw [jb_];exact decide_eq_false h
   have e1:gY_ (k::ns) x=0:=by unfold gY_;rw [List.findIdx_cons];simp [hb]
   rw [if_neg h]
   unfold l4_ gX_
   rw [e1]
   by_cases h2:k=x
   · simp [h2]
   · simp [h2]
theorem op_ {α:Type} (g:Bs × Int→α) (x:Bs) (y:Int):∀ l:List (Bs × Int),l4_ (l.map (·.1)) x (l.map g) (g (x,y))=(ins x y l).map g
 |[]=>by simp only [List.map_nil,ins,List.map_cons];exact putL_nil
 |(k,v)::l=>by
  simp only [List.map_cons,putL_cons,ins]
  split
  · rw [op_ g x y l];rfl
  · split<;>rfl
end Go.Pi
end
section
namespace Go.Pi
theorem sW_ {k x:Bs} {ns:List Bs}:gX_ (k::ns) x=if k<x then gX_ ns x+1 else if k=x then 1 else 0:=by
 by_cases h:k<x
 · have hb:Op.bytesLess k x=true:=by rw [jb_];exact decide_eq_true h
   have e1:gY_ (k::ns) x=gY_ ns x+1:=by unfold gY_;rw [List.findIdx_cons];simp [hb]
   unfold gX_
   rw [e1,if_pos h]
   simp only [List.getD_cons_succ,List.length_cons,Nat.add_lt_add_iff_right]
   split<;>rfl
 · have hb:Op.bytesLess k x=false:=by rw [jb_];exact decide_eq_false h
   have e1:gY_ (k::ns) x=0:=by unfold gY_;rw [List.findIdx_cons];simp [hb]
   rw [if_neg h]
   unfold gX_
   rw [e1]
   by_cases h2:k=x
   · simp [h2]
   · simp [h2]
theorem asc_ne {x:Bs}:∀ {l:List (Bs × Int)},ho_ l→∀ i,gX_ (l.map (·.1)) x≤i→i<(l.map (·.1)).length→((l.map (·.1)).getD i [] == x)=false
 |[],_,i,_,hi=>by simp at hi
 |(k,v)::l,h,i,hp,hi=>by
  simp only [List.map_cons,sW_] at hp
  have later:∀ i',i'<(l.map (·.1)).length→k<(l.map (·.1)).getD i' []:=fun i' hi'=>by
   have hm:=bY_ (d:=([]:Bs)) (a:=l.map (·.1)) (i:=i') hi'
   obtain ⟨p,hp,e⟩:=List.mem_map.1 hm
   rw [←e];exact h.1 p hp
  cases i with
  |zero=>
   simp only [List.map_cons,List.getD_cons_zero]
   by_cases h1:k<x
   · rw [if_pos h1] at hp;omega
   · rw [if_neg h1] at hp
     by_cases h2:k=x
     · rw [if_pos h2] at hp;omega
     · exact beq_eq_false_iff_ne.2 h2
  |succ i=>
   have hi':i<(l.map (·.1)).length:=by simpa using hi
   simp only [List.map_cons,List.getD_cons_succ]
   by_cases h1:k<x
   · rw [if_pos h1] at hp
     exact asc_ne h.2 i (by omega) hi'
   · refine beq_eq_false_iff_ne.2 fun e=>h1 ?_
     rw [←e];exact later i hi'
def qX_ (n:Int):aa_:=aa_.mk 2 n [] [] []
def objJ (l:List (Bs × Int)):aa_:=aa_.mk 5 0 [] (l.map fun p=>qX_ p.2) (l.map (·.1))
theorem mj_ {l:List (Bs × Int)} {x:Bs} {y:Int} (h:ho_ l) (hl:l.length≤2000000):Ev (fun n _=>bO_ n (objJ l) x (qX_ y)) (objJ (ins x y l)):=by
 have:=hg_ (o:=objJ l) (j:=qX_ y) (x:=x) (by simp [objJ];exact hl) (by simp [objJ]) (fun z hz=>by
  rw [jb_] at hz
  exact beq_eq_false_iff_ne.2 fun e=>by subst e;exact List.lt_irrefl z (of_decide_eq_true hz)) (fun i h1 h2=>asc_ne h i h1 h2)
 refine ge_ this ?_
 have e1:=op_ (fun p=>qX_ p.2) x y l
 have e2:=op_ (fun p=>p.1) x y l
 show aa_.mk 5 0 [] (l4_ (l.map (·.1)) x (l.map fun p=>qX_ p.2) (qX_ y)) (l4_ (l.map (·.1)) x (l.map (·.1)) x)=_
 rw [e1,e2];rfl
end Go.Pi
end
section
namespace Go.Pi
def mI_ (c:Int):Bs:=99::Lib.itoa c
def kG_ (r:TRow) (c:Int):Bs × Int:=(mI_ c,gA_ r c)
def fv_ (ps:List (Bs × Int)) (l:List (Bs × Int)):List (Bs × Int):=ps.foldl (fun l p=>ins p.1 p.2 l) l
theorem q6_ (ps:List (Bs × Int)) (p:Bs × Int) (l:List (Bs × Int)):fv_ (ps++[p]) l=ins p.1 p.2 (fv_ ps l):=by simp [fv_]
theorem ks_:∀ (ps:List (Bs × Int)) {l:List (Bs × Int)},ho_ l→ho_ (fv_ ps l)
 |[],_,h=>h
 |p::ps,_,h=>ks_ ps (q5_ h)
theorem kr_:∀ {ps:List (Bs × Int)} {l:List (Bs × Int)} {p:Bs × Int},p ∈ fv_ ps l→p ∈ ps∨p ∈ l
 |[],_,_,h=>.inr h
 |q::ps,l,p,h=>by
  rcases kr_ (ps:=ps) h with h|h
  · exact .inl (List.mem_cons_of_mem _ h)
  · rcases oM_ h with h|h
    · exact .inl (h ▸ List.mem_cons_self ..)
    · exact .inr h
theorem oN_ {x:Bs} {y:Int}:∀ {l:List (Bs × Int)},(ins x y l).length≤l.length+1
 |[]=>Nat.le_refl _
 |(k,v)::l=>by
  have:=oN_ (x:=x) (y:=y) (l:=l)
  simp only [ins]
  split
  · simp only [List.length_cons];omega
  · split<;>simp only [List.length_cons]<;>omega
theorem g7_:∀ {ps:List (Bs × Int)} {l:List (Bs × Int)},(fv_ ps l).length≤l.length+ps.length
 |[],_=>Nat.le_refl _
 |p::ps,l=>by
  have:=g7_ (ps:=ps) (l:=ins p.1 p.2 l)
  have h:=oN_ (x:=p.1) (y:=p.2) (l:=l)
  simp only [List.length_cons]
  show (fv_ ps (ins p.1 p.2 l)).length≤_
  omega
end Go.Pi
end
section
namespace Go.Pi
theorem ls_ {α β:Type} (f:α→β) (d:α) (e:β) {l:List α} {i:Nat} (h:i<l.length):(l.map f).getD i e=f (l.getD i d):=by
 rw [List.getD_eq_getElem?_getD,List.getD_eq_getElem?_getD,List.getElem?_map,List.getElem?_eq_getElem h];rfl
end Go.Pi
end
section
namespace Go.Pi
abbrev nmId:Bs:=[105,100]
abbrev nmKids:Bs:=[107,105,100,115]
abbrev i64 (x:Int):Prop:=-9223372036854775808≤x∧x≤9223372036854775807
def s9_ (q:ax_) (kids:Int):List (Bs × Int):=cond q.kids [(nmKids,kids)] []
def FRowL (q:ax_) (r:TRow) (kids:Int):List (Bs × Int):=fv_ (s9_ q kids) (ins nmId r.id_ (fv_ (q.show_.map (kG_ r)) []))
def pc_ (q:ax_) (r:TRow) (kids:Int):aa_:=objJ (FRowL q r kids)
theorem kidsL_len {q:ax_} {kids:Int}:(s9_ q kids).length≤1:=by unfold s9_;cases q.kids<;>simp
theorem FRowL_len {q:ax_} {r:TRow} {kids:Int}:(FRowL q r kids).length≤q.show_.length+2:=by
 have h1:=g7_ (ps:=q.show_.map (kG_ r)) (l:=[])
 have h2:=oN_ (x:=nmId) (y:=r.id_) (l:=fv_ (q.show_.map (kG_ r)) [])
 have h3:=g7_ (ps:=s9_ q kids) (l:=ins nmId r.id_ (fv_ (q.show_.map (kG_ r)) []))
 have h4:=kidsL_len (q:=q) (kids:=kids)
 simp at h1
 unfold FRowL;omega
theorem rm_ {c:Int} (h:i64 c):(mI_ c).length≤22:=by
 have:=Lib.itoa_length_le c h.1 h.2
 simp only [mI_,List.length_cons];omega
theorem rA_ {q:ax_} {r:TRow} {kids:Int} (hs:∀ c ∈ q.show_,i64 c):∀ p ∈ FRowL q r kids,p.1.length≤22:=fun p hp=>by
 rcases kr_ hp with h|h
 · unfold s9_ at h
   cases hq:q.kids<;>rw [hq] at h
   · cases h
   · rw [List.mem_singleton.1 h];show nmKids.length≤22;decide
 · rcases oM_ h with h|h
   · rw [h];show nmId.length≤22;decide
   · rcases kr_ h with h|h
     · obtain ⟨c,hc,e⟩:=List.mem_map.1 h
       rw [←e];exact rm_ (hs c hc)
     · cases h
theorem lr_ {n:Int}:∀ d,ft_ d (qX_ n)
 |0=>trivial
 |d+1=>⟨⟨Nat.zero_le _,Nat.zero_le _,fun x hx=>(by cases hx)⟩,Nat.zero_le _,fun x hx=>(by cases hx)⟩
theorem lenJ_obj {l:List (Bs × Int)} (hl:l.length≤2000000) (hn:∀ p ∈ l,p.1.length≤22):∀ d,ft_ d (objJ l)
 |0=>trivial
 |d+1=>⟨⟨Nat.zero_le _,by simp [objJ,cb_];omega,fun x hx=>by
   obtain ⟨p,hp,e⟩:=List.mem_map.1 hx
   rw [←e];have:=hn p hp;simp only [cb_];omega⟩,by simp [objJ,cb_];omega,fun x hx=>by
   obtain ⟨p,hp,e⟩:=List.mem_map.1 hx
   rw [←e];exact lr_ d⟩
theorem oF_ {q:ax_} {r:TRow} {kids:Int} (hq:q.show_.length≤1100000) (hs:∀ c ∈ q.show_,i64 c) (d:Nat):ft_ d (pc_ q r kids) :=
 lenJ_obj (by have:=FRowL_len (q:=q) (r:=r) (kids:=kids);omega) (rA_ hs) d
end Go.Pi
end
section
namespace Go.Pi
theorem mm_ {j:aa_} (h:ft_ 6 j):Ev (fun n _=>dd_ n j) (eO_ j):=by
 refine ao_ ?_
 simp only [dd_,aW_,ab_ (dz_ h),al_,ae_,eO_,g5_]
 cases cI_ j<;>simp
theorem mn_ {x:Int}:Ev (fun n _=>c6_ n x) (qX_ x):=ao_ (by simp only [c6_,ae_,qX_])
section
variable {q:ax_} {r:TRow} {kids:Int} (hq:q.show_.length≤1100000) (hs:∀ c ∈ q.show_,i64 c) (hr:r.cells.length≤cb_)
include hq hs hr
theorem iL_:Ev (fun n _=>bR_ n q r kids) (pc_ q r kids):=by
 refine ao_ ?_
 simp only [bR_]
 let S:Nat→aa_:=fun i=>objJ (fv_ ((q.show_.take i).map (kG_ r)) [])
 have:=eI_ S q.show_.length (fun n N i (s:aa_)=>bR_.loop4 n (fun xy5 xy6 xy7 xy8 xy9 xy10 xy11 xy12 xy13 xy14 xy15 xy16 xy17 xy18 xy19 xy20 xy21 xy22 xy23 xy24=>((c6_ n xy15).bind fun xr25=>((bO_ n (aa_.mk xy20 xy21 xy22 xy23 xy24) [105,100] (aa_.re xr25)).bind fun xr26=>(cond xy12 ((c6_ n xy5).bind fun xr27=>((bO_ n (aa_.re xr26) [107,105,100,115] (aa_.re xr27)).bind fun xr28=>(some (aa_.re xr28)))) (some (aa_.re xr26)))))) N kids (i:Int) q.table q.where_ q.order q.down q.first q.show_ q.kids q.kidTable q.kidCol r.id_ r.cells 0 0 [] s.kind s.n_ s.s s.list s.names) (pc_ q r kids) (fun i hi F hF => ?_) ?_
 · exact this
 · have e2:fv_ ((q.show_.take (i+1)).map (kG_ r)) []=ins (mI_ (q.show_.getD i 0)) (gA_ r (q.show_.getD i 0)) (fv_ ((q.show_.take i).map (kG_ r)) []):=by
    rw [cE_ 0 hi,List.map_append];exact q6_ _ _ _
   have ha:ho_ (fv_ ((q.show_.take i).map (kG_ r)) []):=ks_ _ trivial
   have hll:=g7_ (ps:=(q.show_.take i).map (kG_ r)) (l:=[])
   simp only [S,e2] at hF ⊢
   generalize fv_ ((q.show_.take i).map (kG_ r)) []=l at hF ha hll ⊢
   have hl2:l.length≤2000000:=by simp at hll;omega
   have hc:=hs _ (bY_ 0 hi)
   have hd:=Lib.itoa_length_le _ hc.1 hc.2
   have e0:TRow.mk r.id_ r.cells=r:=rfl
   have e3:([99]:Bs)++Lib.itoa (q.show_.getD i 0)=mI_ (q.show_.getD i 0):=rfl
   simp only [bR_.turn4,bR_.step4,Int.toNat_natCast,W_up hi (show q.show_.length≤cb_ by simp only [cb_];omega),cC_ hi,ch_ hi,ec_,aW_,e0,e3,al_,bb_,dC_,ab_ (c0_ hc.1 hc.2),ab_ (eY_ hr),ab_ mn_,ab_ (mj_ ha hl2)]
   simp only [aW_] at hF
   refine ⟨fun _=>⟨trivial,fun _=>⟨trivial,hF⟩,fun h => ?_⟩,fun h=>(by cases h)⟩
   have h:=of_decide_eq_false h
   simp only [List.length_singleton] at h;omega
 · have ha:ho_ (fv_ (q.show_.map (kG_ r)) []):=ks_ _ trivial
   have hll:=g7_ (ps:=q.show_.map (kG_ r)) (l:=[])
   have h2:=oN_ (x:=nmId) (y:=r.id_) (l:=fv_ (q.show_.map (kG_ r)) [])
   simp at hll
   simp only [bR_.turn4,bR_.step4,cr_,cond_false,S,List.take_length,ec_,aW_,ab_ mn_,ab_ (mj_ ha (show _≤2000000 by omega)),ab_ (mj_ (x:=nmKids) (y:=kids) (q5_ (x:=nmId) (y:=r.id_) ha) (show _≤2000000 by omega)),al_,ae_]
   unfold pc_ FRowL s9_
   exact ⟨fun h=>by rw [h];rfl,fun h=>by rw [h];rfl⟩
end
end Go.Pi
end
section
namespace Go.Pi
structure bs_ where
 key:Int
 value:aa_
def bs_.dflt:bs_:=bs_.mk 0 aa_.dflt
def cm_ (l:List bs_):List Int:=l.map (·.key)
def kAt (ks:List Int) (k:Int):Int:=if ks.findIdx (fun y=>y == k)<ks.length then ((ks.findIdx (fun y=>y == k):Nat):Int) else -1
theorem q2_ {ks:List Int} {k:Int}:kAt ks k<0↔k ∉ ks:=by
 have e:(ks.findIdx (fun y=>y == k)<ks.length)↔k ∈ ks:=by rw [List.findIdx_lt_length];simp
 unfold kAt
 by_cases h:k ∈ ks
 · rw [if_pos (e.2 h)];simp [h]
 · rw [if_neg (fun h'=>h (e.1 h'))];simp [h]
theorem nI_ {ks:List Int} {k:Int} (h:k ∈ ks):∃ p:Nat,kAt ks k=p∧p<ks.length∧ks.getD p 0=k:=by
 have e:ks.findIdx (fun y=>y == k)<ks.length:=by rw [List.findIdx_lt_length];simp [h]
 refine ⟨_,by unfold kAt;rw [if_pos e],e,?_⟩
 rw [List.getD_eq_getElem?_getD,List.getElem?_eq_getElem e,Option.getD_some]
 have:=List.findIdx_getElem (xs:=ks) (p:=fun y=>y == k) (w:=e)
 simpa using this
theorem pZ_ {ks:List Int} {k:Int} {p:Nat} (h:kAt ks k=p):p<ks.length∧ks.getD p 0=k:=by
 have hm:k ∈ ks:=Classical.byContradiction fun hn=>by have:=q2_.2 hn;omega
 obtain ⟨q,e,h1,h2⟩:=nI_ hm
 have:q=p:=by omega
 subst this;exact ⟨h1,h2⟩
theorem gG_ {ks:List Int} {k:Int} (hl:ks.length≤cb_):Ev (fun n _=>cy_ n ks k) (kAt ks k):=by
 refine ao_ ?_
 unfold kAt
 rw [←gN_ 0]
 simp only [cy_]
 refine mC_ (fun n N i=>cy_.loop3 n (some (-1)) N ks k (i:Int)) _ (fun i u hi ih => ?_) ?_
 · simp only [cy_.turn3,cy_.step3,Int.toNat_natCast,W_up hi hl,al_,bb_,ae_,dE_ ih,cC_ hi,ch_ hi]
   clear ih
   cases (ks.getD i 0 == k)<;>simp
 · simp only [cy_.turn3,cy_.step3,cr_,cond_false,ae_]
theorem cM_ (l:List bs_):(cm_ l).length=l.length:=List.length_map _
def kOk (docs:List aa_) (keys:List Int):Bool:=decide (docs.length=keys.length)&&iG_ (fun i=>cI_ (docs.getD i aa_.dflt) && !decide (keys.getD i 0 ∈ keys.take i)) docs.length
def pd_ (docs:List aa_) (keys:List Int) (m:Nat):List bs_:=(List.range m).map fun i=>bs_.mk (keys.getD i 0) (docs.getD i aa_.dflt)
theorem iq_ {docs:List aa_} {keys:List Int} {m:Nat}:(pd_ docs keys m).length=m:=by unfold pd_;simp
theorem allN_and {p q:Nat→Bool} {len:Nat}:iG_ (fun i=>p i&&q i) len=(iG_ p len&&iG_ q len):=by
 rw [Bool.eq_iff_iff,Bool.and_eq_true,e8_,e8_,e8_]
 exact ⟨fun h=>⟨fun i hi=>(Bool.and_eq_true_iff.1 (h i hi)).1,fun i hi=>(Bool.and_eq_true_iff.1 (h i hi)).2⟩,fun h i hi=>by rw [h.1 i hi,h.2 i hi];rfl⟩
theorem iJ_ {docs:List aa_} {keys:List Int} (hd:docs.length≤2000000) (hk:keys.length≤2000000) (hJ:∀ j ∈ docs,ft_ 6 j):Ev (fun n _=>aK_ n keys docs) (kOk docs keys):=by
 refine ao_ ?_
 have ht:docs.length≤cb_:=by simp only [cb_];omega
 have htk:keys.length≤cb_:=by simp only [cb_];omega
 have e:kOk docs keys=(iG_ (fun i => !decide (keys.getD i 0 ∈ keys.take i)) keys.length&&(iG_ (fun i=>cI_ (docs.getD i aa_.dflt)) docs.length&&((keys.length:Int) == (docs.length:Int)))):=by
  unfold kOk
  by_cases hl:docs.length=keys.length
  · rw [decide_eq_true hl,allN_and,←hl]
    simp [Bool.and_comm]
  · rw [decide_eq_false hl]
    have:((keys.length:Int) == (docs.length:Int))=false:=by rw [beq_eq_false_iff_ne];omega
    rw [this];simp
 rw [e]
 simp only [aK_]
 have hin:Ev (fun n _=>aK_.loop11 n (fun xy5 xy6=>(some ((xy5.length:Int) == (xy6.length:Int)))) n keys docs 0) (iG_ (fun i=>cI_ (docs.getD i aa_.dflt)) docs.length&&((keys.length:Int) == (docs.length:Int))):=by
  refine e3_ (fun n N i=>aK_.loop11 n (fun xy5 xy6=>(some ((xy5.length:Int) == (xy6.length:Int)))) N keys docs (i:Int)) _ (fun i w hi ih => ?_) ?_
  · simp only [aK_.turn11,aK_.step11,aW_,Int.toNat_natCast,W_up hi ht,al_,bb_,ab_ (dz_ (hJ _ (bY_ aa_.dflt hi))),ae_,dE_ ih,cC_ hi,ch_ hi]
    cases cI_ (docs.getD i aa_.dflt)<;>simp
  · simp only [aK_.turn11,aK_.step11,cr_,cond_false,ae_]
 refine e3_ (fun n N i=>aK_.loop3 n (fun xy2 xy3=>(aK_.loop11 n (fun xy5 xy6=>(some ((xy5.length:Int) == (xy6.length:Int)))) n xy2 xy3 0)) N keys docs (i:Int)) _ (fun i w hi ih => ?_) ?_
 · have hA:=gG_ (ks:=keys.take i) (k:=keys.getD i 0) (by simp;omega)
   have hg:decide (kAt (keys.take i) (keys.getD i 0)≥0)=decide (keys.getD i 0 ∈ keys.take i):=by
    have:=q2_ (ks:=keys.take i) (k:=keys.getD i 0)
    by_cases hm:keys.getD i 0 ∈ keys.take i
    · rw [decide_eq_true hm,decide_eq_true];exact Int.not_lt.1 fun h=>this.1 h hm
    · rw [decide_eq_false hm,decide_eq_false];intro h;exact absurd (this.2 hm) (by omega)
   simp only [aK_.turn3,aK_.step3,Int.toNat_natCast,List.drop_zero,W_up hi htk,al_,bb_,d1_,ab_ hA,hg,ae_,dE_ ih,cC_ hi,ch_ hi]
   cases decide (keys.getD i 0 ∈ keys.take i)<;>simp<;>omega
 · simp only [aK_.turn3,aK_.step3,cr_,cond_false]
   exact hin
end Go.Pi
end
section
namespace Go.Pi
def del {α:Type} (l:List α) (k:Nat):List α:=l.take k++l.drop (k+1)
def hM_ {α:Type} (l:List α) (k:Nat) (x:α):List α:=l.take k++[x]++l.drop k
def rmOp (k:Nat):TOp:=TOp.mk 2 [Lib.itoa k] (aa_.mk 0 0 [] [] [])
def repOp (k:Nat) (j:aa_):TOp:=TOp.mk 3 [Lib.itoa k] j
def addOp (k:Nat) (j:aa_):TOp:=TOp.mk 1 [Lib.itoa k] j
theorem mF_ {α:Type} {l:List α} {k:Nat} (h:k<l.length):(del l k).length+1=l.length:=by
 simp only [del,List.length_append,List.length_take,List.length_drop];omega
theorem p3_ {α:Type} {l:List α} {k:Nat} {x:α} (h:k≤l.length):(hM_ l k x).length=l.length+1:=by
 simp only [hM_,List.length_append,List.length_take,List.length_drop,List.length_cons,List.length_nil];omega
theorem del_mem {α:Type} {l:List α} {k:Nat} {x:α} (h:x ∈ del l k):x ∈ l:=by
 rcases List.mem_append.1 h with h|h
 · exact List.mem_of_mem_take h
 · exact List.mem_of_mem_drop h
theorem p1_ {α:Type} {l:List α} {k:Nat} {x y:α} (h:y ∈ hM_ l k x):y=x∨y ∈ l:=by
 rcases List.mem_append.1 h with h|h
 · rcases List.mem_append.1 h with h|h
   · exact .inr (List.mem_of_mem_take h)
   · exact .inl (List.mem_singleton.1 h)
 · exact .inr (List.mem_of_mem_drop h)
theorem del_map {α β:Type} (f:α→β) (l:List α) (k:Nat):(del l k).map f=del (l.map f) k:=by
 simp only [del,List.map_append,List.map_take,List.map_drop]
theorem p2_ {α β:Type} (f:α→β) (l:List α) (k:Nat) (x:α):(hM_ l k x).map f=hM_ (l.map f) k (f x):=by
 simp only [hM_,List.map_append,List.map_take,List.map_drop,List.map_cons,List.map_nil]
theorem nn_ {ks:List Int} {k:Nat} (h:k<ks.length) (hl:ks.length≤10000000):Ev (fun n _=>c8_ n ks (k:Int)) (del ks k):=by
 refine ao_ ?_
 have hw:=W_up h (show ks.length≤cb_ by simp only [cb_];omega)
 simp only [c8_,hw,d1_,ba_,ae_,Int.toNat_natCast,List.drop_zero,List.nil_append,List.take_length,del,List.length_nil,List.length_take,List.length_drop]
 repeat' (first|apply And.intro)
 all_goals (first|trivial|rfl|omega)
theorem p0_ {ks:List Int} {k:Nat} {x:Int} (h:k≤ks.length) (hl:ks.length≤10000000):Ev (fun n _=>dv_ n ks (k:Int) x) (hM_ ks k x):=by
 refine ao_ ?_
 simp only [dv_,d1_,ba_,ae_,Int.toNat_natCast,List.drop_zero,List.nil_append,List.take_length,hM_,List.length_nil,List.length_append,List.length_cons,List.length_take,List.length_drop]
 repeat' (first|apply And.intro)
 all_goals (first|trivial|rfl|omega)
def rV_ (nk:List Int) (old:List bs_):Nat→List bs_→List TOp→List bs_ × List TOp
 |0,l,ops=>(l,ops)
 |k+1,l,ops=>if (old.getD k bs_.dflt).key ∈ nk then rV_ nk old k l ops else rV_ nk old k (del l k) (ops++[rmOp k])
theorem on_ (nk:List Int) (old:List bs_):∀ k l ops,∀ x ∈ (rV_ nk old k l ops).1,x ∈ l
 |0,l,ops,x,h=>h
 |k+1,l,ops,x,h=>by
  simp only [rV_] at h
  split at h
  · exact on_ nk old k l ops x h
  · exact del_mem (on_ nk old k (del l k) _ x h)
theorem lm_ (nk:List Int) (old:List bs_):∀ k l ops,k≤l.length→(rV_ nk old k l ops).1.length≤l.length∧(rV_ nk old k l ops).2.length≤ops.length+k
 |0,l,ops,_=>⟨Nat.le_refl _,Nat.le_refl _⟩
 |k+1,l,ops,h=>by
  simp only [rV_]
  split
  · have:=lm_ nk old k l ops (by omega);omega
  · have hd:=mF_ (l:=l) (k:=k) (by omega)
    have:=lm_ nk old k (del l k) (ops++[rmOp k]) (by omega)
    simp only [List.length_append,List.length_cons,List.length_nil] at this;omega
theorem dn_ge {k:Nat}:decide ((k:Int)≥0)=true:=decide_eq_true (by omega)
theorem dn_eq {k:Nat}:(((k+1:Nat):Int) - 1)=(k:Int):=by omega
theorem neg_dec {ks:List Int} {k:Int}:decide (kAt ks k<0) = !decide (k ∈ ks):=by
 have:=q2_ (ks:=ks) (k:=k)
 by_cases h:k ∈ ks
 · rw [decide_eq_true h,decide_eq_false (fun h'=>this.1 h' h)];rfl
 · rw [decide_eq_false h,decide_eq_true (this.2 h)];rfl
theorem fE_ {l:List bs_} {k:Nat} (h:k<l.length):(cm_ l).getD k 0=(l.getD k bs_.dflt).key:=ls_ (fun x:bs_=>x.key) bs_.dflt 0 h
theorem qM_ {old now:List bs_} (hn:now.length≤2000000) (hold:old.length≤2000000) (o t2:List aa_) (K:Nat→List aa_→List Int→List aa_→List Int→List TOp→List Int→Option (List TOp)) (F:List TOp):∀ k l ops,k≤old.length→k≤l.length→l.length≤2000000→ops.length+k≤2000000 →
  Ev (fun n N=>K n o (cm_ old) t2 (cm_ now) (rV_ (cm_ now) old k l ops).2 (cm_ (rV_ (cm_ now) old k l ops).1)) F→Ev (fun n N=>aI_.loop5 n (K n) N o (cm_ old) t2 (cm_ now) ((k:Int) - 1) ops (cm_ l)) F
 |0,l,ops,_,_,_,_,hF=>by
  refine a9_ ?_
  have e:decide ((((0:Nat):Int) - 1)≥0)=false:=rfl
  simp only [aI_.turn5,aI_.step5,e,cond_false]
  exact hF
 |k+1,l,ops,hko,hk,hl,ho,hF=>by
  refine a9_ ?_
  have hko':k<(cm_ old).length:=by rw [cM_];omega
  have hkl:k<l.length:=by omega
  have hkl':k<(cm_ l).length:=by rw [cM_];omega
  have hg:=fE_ (l:=old) (k:=k) (by omega)
  have hA:=gG_ (ks:=cm_ now) (k:=(old.getD k bs_.dflt).key) (by rw [cM_];simp only [cb_];omega)
  have hW:=nn_ hkl' (by rw [cM_];omega)
  have hm:del (cm_ l) k=cm_ (del l k):=(del_map (fun x:bs_=>x.key) l k).symm
  rw [hm] at hW
  simp only [rV_] at hF
  simp only [aI_.turn5,aI_.step5,dn_ge,dn_eq,cond_true,bb_,ch_ hko',Int.toNat_natCast,hg,ab_ hA,neg_dec,al_,W_dn (i:=k) (by simp only [cb_];omega),ab_ (c0_ (x:=(k:Int)) (by omega) (by omega)),ba_,ab_ hW]
  refine ⟨trivial,fun hc => ?_,fun hc => ?_⟩
  · have hc:¬ (old.getD k bs_.dflt).key ∈ cm_ now:=by simpa using hc
    rw [if_neg hc] at hF
    have hd:=mF_ hkl
    exact ⟨by simp only [List.length_cons,List.length_nil];omega,qM_ hn hold o t2 K F k (del l k) _ (by omega) (by omega) (by omega) (by simp only [List.length_append,List.length_cons,List.length_nil];omega) hF⟩
  · have hc:(old.getD k bs_.dflt).key ∈ cm_ now:=by simpa using hc
    rw [if_pos hc] at hF
    exact qM_ hn hold o t2 K F k l ops (by omega) (by omega) hl (by omega) hF
end Go.Pi
end
section
namespace Go.Pi
def g9_ (l:List bs_) (i:Nat) (x:bs_):List bs_ × List TOp :=
 if kAt (cm_ l) x.key=(i:Int) then (l,cond (e5_ 6 (l.getD i bs_.dflt).value x.value) [] [repOp i x.value])
 else if (i:Int)<kAt (cm_ l) x.key then (hM_ (del l (kAt (cm_ l) x.key).toNat) i x,[rmOp (kAt (cm_ l) x.key).toNat,addOp i x.value])
 else (hM_ l i x,[addOp i x.value])
def jd_ (now:List bs_) (s:List bs_ × List TOp):Nat→List bs_ × List TOp
 |0=>s
 |i+1=>((g9_ (jd_ now s i).1 i (now.getD i bs_.dflt)).1,(jd_ now s i).2++(g9_ (jd_ now s i).1 i (now.getD i bs_.dflt)).2)
theorem sf_ {l:List bs_} {k:Int} {i:Nat} (h:(i:Int)<kAt (cm_ l) k):∃ p:Nat,kAt (cm_ l) k=p∧i<p∧p<l.length:=by
 obtain ⟨p,hp⟩:∃ p:Nat,kAt (cm_ l) k=p:=⟨(kAt (cm_ l) k).toNat,by omega⟩
 have:=(pZ_ hp).1
 rw [cM_] at this
 exact ⟨p,hp,by omega,this⟩
theorem n0_ {l:List bs_} {i:Nat} {x:bs_} (h:i≤l.length):i+1≤(g9_ l i x).1.length∧(g9_ l i x).1.length≤l.length+1∧(g9_ l i x).2.length≤2:=by
 unfold g9_
 by_cases h1:kAt (cm_ l) x.key=(i:Int)
 · rw [if_pos h1]
   have:=(pZ_ h1).1
   rw [cM_] at this
   refine ⟨by dsimp only;omega,by dsimp only;omega,?_⟩
   dsimp only
   cases e5_ 6 (l.getD i bs_.dflt).value x.value<;>simp
 · rw [if_neg h1]
   by_cases h2:(i:Int)<kAt (cm_ l) x.key
   · rw [if_pos h2]
     obtain ⟨p,hp,h3,h4⟩:=sf_ h2
     rw [hp,Int.toNat_natCast]
     have:=mF_ h4
     have:=p3_ (l:=del l p) (k:=i) (x:=x) (by omega)
     exact ⟨by dsimp only;omega,by dsimp only;omega,Nat.le_refl _⟩
   · rw [if_neg h2]
     have:=p3_ (l:=l) (k:=i) (x:=x) h
     exact ⟨by dsimp only;omega,by dsimp only;omega,by simp⟩
theorem tu_ {l:List bs_} {i:Nat} {x y:bs_} (h:y ∈ (g9_ l i x).1):y=x∨y ∈ l:=by
 unfold g9_ at h
 split at h
 · exact .inr h
 · split at h
   · rcases p1_ h with h|h
     · exact .inl h
     · exact .inr (del_mem h)
   · exact p1_ h
theorem jY_ (now:List bs_) (s:List bs_ × List TOp):∀ i,i≤(jd_ now s i).1.length∧(jd_ now s i).1.length≤s.1.length+i∧(jd_ now s i).2.length≤s.2.length+2*i
 |0=>⟨Nat.zero_le _,Nat.le_refl _,Nat.le_refl _⟩
 |i+1=>by
  have h:=jY_ now s i
  have k:=n0_ (x:=now.getD i bs_.dflt) h.1
  simp only [jd_,List.length_append];omega
def okK (x:bs_):Prop:=cI_ x.value=true∧ft_ 6 x.value
theorem lp_ {x:bs_} (h:okK x):bG_ 6 x.value≤400:=of_decide_eq_true h.1
structure AddInv (old now:List bs_) (l:List bs_) (i:Nat):Prop where
 len:i≤l.length
 front:∀ j,j<i→(l.getD j bs_.dflt).key=(now.getD j bs_.dflt).key
 from_:∀ x ∈ l,x ∈ old∨∃ j,j<i∧x.key=(now.getD j bs_.dflt).key
def o1_ (now:List bs_):Prop:=∀ i j,i<j→j<now.length→(now.getD i bs_.dflt).key≠(now.getD j bs_.dflt).key
theorem qc_ {α:Type} (d:α) {a b:List α} {j:Nat} (h:j<a.length):(a++b).getD j d=a.getD j d:=by
 rw [List.getD_eq_getElem?_getD,List.getD_eq_getElem?_getD,List.getElem?_append_left h]
theorem mq_ {l:List bs_} {i j:Nat} {x:bs_} (hi:i≤l.length) (h:j<i):(hM_ l i x).getD j bs_.dflt=l.getD j bs_.dflt:=by
 have hl:(l.take i).length=i:=by simp;omega
 unfold hM_
 rw [List.append_assoc,qc_ _ (by omega),List.getD_eq_getElem?_getD,List.getD_eq_getElem?_getD,List.getElem?_take_of_lt h]
theorem sh_ {l:List bs_} {i:Nat} {x:bs_} (hi:i≤l.length):(hM_ l i x).getD i bs_.dflt=x:=by
 have hl:(l.take i).length=i:=by simp;omega
 unfold hM_
 rw [List.append_assoc,List.getD_eq_getElem?_getD,List.getElem?_append_right (by omega),hl,Nat.sub_self];rfl
theorem del_front {l:List bs_} {p j:Nat} (hp:p≤l.length) (h:j<p):(del l p).getD j bs_.dflt=l.getD j bs_.dflt:=by
 have hl:(l.take p).length=p:=by simp;omega
 unfold del
 rw [qc_ _ (by omega),List.getD_eq_getElem?_getD,List.getD_eq_getElem?_getD,List.getElem?_take_of_lt h]
theorem ru_ {old now l:List bs_} {i:Nat} (h:AddInv old now l i) (hi:i<now.length):AddInv old now (g9_ l i (now.getD i bs_.dflt)).1 (i+1):=by
 refine ⟨(n0_ h.len).1,fun j hj => ?_,fun x hx => ?_⟩
 · unfold g9_
   by_cases h1:kAt (cm_ l) (now.getD i bs_.dflt).key=(i:Int)
   · rw [if_pos h1]
     by_cases e:j=i
     · subst e
       obtain ⟨a,b⟩:=pZ_ h1
       rw [cM_] at a
       rw [←b,fE_ a]
     · exact h.front j (by omega)
   · rw [if_neg h1]
     by_cases h2:(i:Int)<kAt (cm_ l) (now.getD i bs_.dflt).key
     · rw [if_pos h2]
       obtain ⟨p,hp,h3,h4⟩:=sf_ h2
       rw [hp,Int.toNat_natCast]
       have hdl:=mF_ h4
       by_cases e:j=i
       · subst e;rw [sh_ (by omega)]
       · rw [mq_ (by omega) (by omega),del_front (by omega) (by omega)];exact h.front j (by omega)
     · rw [if_neg h2]
       by_cases e:j=i
       · subst e;rw [sh_ h.len]
       · rw [mq_ h.len (by omega)];exact h.front j (by omega)
 · rcases tu_ hx with e|hx
   · exact .inr ⟨i,by omega,by rw [e]⟩
   · rcases h.from_ x hx with h' | ⟨j,hj,e⟩
     · exact .inl h'
     · exact .inr ⟨j,by omega,e⟩
theorem n1_ {old now:List bs_} {s:List bs_ × List TOp} (h0:∀ x ∈ s.1,x ∈ old):∀ i,i≤now.length→AddInv old now (jd_ now s i).1 i
 |0,_=>⟨Nat.zero_le _,fun j hj=>by omega,fun x hx=>.inl (h0 x hx)⟩
 |i+1,hi=>ru_ (n1_ h0 i (by omega)) (by omega)
theorem lC_ {l:List bs_} {k:Nat} (h:k<l.length):(l.map (·.value)).getD k aa_.dflt=(l.getD k bs_.dflt).value:=ls_ (fun x:bs_=>x.value) bs_.dflt aa_.dflt h
theorem spec_add {old now:List bs_} {s:List bs_ × List TOp} (hnl:now.length≤2000000) (hold:old.length≤2000000) (hsl:s.1.length≤2000000) (hol:s.2.length≤2000000) (hn:∀ x ∈ now,okK x) (ho:∀ x ∈ old,okK x) (h0:∀ x ∈ s.1,x ∈ old)
  (hd:o1_ now) (hod:∀ x ∈ old,∀ y ∈ old,x.key=y.key→x=y) :
  Ev (fun n _=>aI_.loop13 n (fun xy21=>(some xy21)) n (old.map (·.value)) (cm_ old) (now.map (·.value)) (cm_ now) 0 s.2 (cm_ s.1)) (jd_ now s now.length).2:=by
 refine eI_ (jd_ now s) now.length (fun n N i (z:List bs_ × List TOp)=>aI_.loop13 n (fun xy21=>(some xy21)) N (old.map (·.value)) (cm_ old) (now.map (·.value)) (cm_ now) (i:Int) z.2 (cm_ z.1)) _ (fun i hi F hF => ?_) ?_
 · have hL:=jY_ now s i
   have hI:=n1_ (now:=now) h0 i (by omega)
   simp only [jd_] at hF
   obtain ⟨x,hx⟩:∃ x,x=now.getD i bs_.dflt:=⟨_,rfl⟩
   have hxo:okK x:=by rw [hx];exact hn _ (bY_ bs_.dflt hi)
   have hik:i<(cm_ now).length:=by rw [cM_];exact hi
   have hiv:i<(now.map (·.value)).length:=by simpa using hi
   have hkey:(cm_ now).getD i 0=x.key:=by rw [fE_ hi,hx]
   have hval:(now.map (·.value)).getD i aa_.dflt=x.value:=by rw [lC_ hi,hx]
   rw [←hx] at hF
   generalize jd_ now s i=z at hF hL hI ⊢
   obtain ⟨l,ops⟩:=z
   dsimp only at hF hL hI ⊢
   have hA:=gG_ (ks:=cm_ l) (k:=x.key) (by rw [cM_];simp only [cb_];omega)
   have hC:=eZ_ 6 x.value (lp_ hxo)
   have hWi:=c0_ (x:=(i:Int)) (by omega) (by omega)
   simp only [aI_.turn13,aI_.step13,aW_,Int.toNat_natCast,hkey,hval,W_up hik (show (cm_ now).length≤cb_ by rw [cM_];simp only [cb_];omega),cC_ hik,ch_ hik,ch_ hiv,cond_true,bb_,ab_ hA,ab_ hWi]
   refine ⟨trivial,?_⟩
   unfold g9_ at hF
   by_cases h1:kAt (cm_ l) x.key=(i:Int)
   · rw [if_pos h1] at hF
     obtain ⟨hil,hke⟩:=pZ_ h1
     rw [cM_] at hil
     rw [fE_ hil] at hke
     have hmem:l.getD i bs_.dflt ∈ old:=by
      rcases hI.from_ _ (bY_ bs_.dflt hil) with h' | ⟨j,hj,e⟩
      · exact h'
      · exact absurd (by rw [←e,hke,hx]) (hd j i hj hi)
     have hin:x.key ∈ cm_ old:=List.mem_map.2 ⟨_,hmem,hke⟩
     obtain ⟨q,hq,hql,hqk⟩:=nI_ hin
     have hqo:q<old.length:=by rwa [cM_] at hql
     have hqe:old.getD q bs_.dflt=l.getD i bs_.dflt:=hod _ (bY_ bs_.dflt hqo) _ hmem (by rw [←fE_ hqo,hqk,hke])
     have hqv:(old.map (·.value)).getD q aa_.dflt=(l.getD i bs_.dflt).value:=by rw [lC_ hqo,hqe]
     have hqi:q<(old.map (·.value)).length:=by simpa using hqo
     have hB:=gG_ (ks:=cm_ old) (k:=x.key) (by rw [cM_];simp only [cb_];omega)
     rw [hq] at hB
     have hoo:=ho _ hmem
     have hK:=fJ_ 6 (l.getD i bs_.dflt).value x.value (ha_ 6 _ (lp_ hoo)) hoo.2
     simp only [h1,beq_self_eq_true,cond_true,bb_,ab_ hB,ch_ hqi,ch_ hik,ch_ hiv,Int.toNat_natCast,hqv,ab_ hK,al_,ab_ hC,ba_]
     refine ⟨trivial,trivial,trivial,fun hc => ?_,fun hc => ?_⟩
     · have hc:e5_ 6 (l.getD i bs_.dflt).value x.value=false:=by simpa using hc
       rw [hc] at hF
       exact ⟨trivial,by simp only [List.length_cons,List.length_nil];omega,hF⟩
     · have hc:e5_ 6 (l.getD i bs_.dflt).value x.value=true:=by simpa using hc
       rw [hc] at hF
       simp only [cond_true,List.append_nil] at hF
       exact hF
   · rw [if_neg h1] at hF
     have hne:(kAt (cm_ l) x.key == (i:Int))=false:=beq_eq_false_iff_ne.2 h1
     by_cases h2:(i:Int)<kAt (cm_ l) x.key
     · rw [if_pos h2] at hF
       obtain ⟨p,hp,h3,h4⟩:=sf_ h2
       rw [hp,Int.toNat_natCast] at hF
       rw [hp] at h2 hne
       have hdl:=mF_ h4
       have hpk:p<(cm_ l).length:=by rw [cM_];exact h4
       have hW:=nn_ hpk (by rw [cM_];omega)
       have hm:del (cm_ l) p=cm_ (del l p):=(del_map (fun x:bs_=>x.key) l p).symm
       rw [hm] at hW
       have hN:=p0_ (ks:=cm_ (del l p)) (k:=i) (x:=x.key) (by rw [cM_];omega) (by rw [cM_];omega)
       have hm2:hM_ (cm_ (del l p)) i x.key=cm_ (hM_ (del l p) i x):=(p2_ (fun x:bs_=>x.key) (del l p) i x).symm
       rw [hm2] at hN
       simp only [hp,hne,decide_eq_true (show (p:Int)≥0 by omega),cond_true,cond_false,ab_ (c0_ (x:=(p:Int)) (by omega) (by omega)),ba_,ab_ hW,bb_,ch_ hik,ch_ hiv,ab_ hC,ab_ hN]
       refine ⟨by simp only [List.length_cons,List.length_nil];omega,trivial,by simp only [List.length_append,List.length_cons,List.length_nil];omega,trivial,?_⟩
       rw [List.append_assoc]
       exact hF
     · rw [if_neg h2] at hF
       have hlt:kAt (cm_ l) x.key<0:=Classical.byContradiction fun hc=>by
        obtain ⟨q,hq⟩:∃ q:Nat,kAt (cm_ l) x.key=q:=⟨(kAt (cm_ l) x.key).toNat,by omega⟩
        have hqi:q<i:=by omega
        obtain ⟨a,b⟩:=pZ_ hq
        rw [cM_] at a
        rw [fE_ a,hI.front q hqi,hx] at b
        exact hd q i hqi hi b
       have hN:=p0_ (ks:=cm_ l) (k:=i) (x:=x.key) (by rw [cM_];omega) (by rw [cM_];omega)
       have hm2:hM_ (cm_ l) i x.key=cm_ (hM_ l i x):=(p2_ (fun x:bs_=>x.key) l i x).symm
       rw [hm2] at hN
       simp only [hne,decide_eq_false (show ¬ kAt (cm_ l) x.key≥0 by omega),cond_false,bb_,ch_ hik,ch_ hiv,ab_ hC,ba_,ab_ hN]
       exact ⟨trivial,by simp only [List.length_cons,List.length_nil];omega,trivial,hF⟩
 · have e:((cm_ now).length:Int)=(now.length:Int):=by rw [cM_]
   simp only [aI_.turn13,aI_.step13,e,cr_,cond_false,ae_]
end Go.Pi
end
section
namespace Go.Pi
def jg_ (kids:List TKid) (id:Int):Int:=gO_ (fun i x=>cond ((kids.getD i TKid.dflt).id_ == id) (kids.getD i TKid.dflt).n_ x) 0 kids.length 0
theorem iN_ {v:bF_} {id:Int} (h:v.kids.length≤cb_):Ev (fun n _=>b9_ n v id) (jg_ v.kids id):=by
 refine ao_ ?_
 simp only [b9_]
 refine mC_ (fun n N i=>b9_.loop3 n (some 0) N id (i:Int) v.q.table v.q.where_ v.q.order v.q.down v.q.first v.q.show_ v.q.kids v.q.kidTable v.q.kidCol v.rows v.kids) _ (fun i u hi ih => ?_) ?_
 · simp only [b9_.turn3,b9_.step3,Int.toNat_natCast,W_up hi h,al_,bb_,ae_,dE_ ih,cC_ hi,ch_ hi]
   cases ((v.kids.getD i TKid.dflt).id_ == id)<;>simp
 · simp only [b9_.turn3,b9_.step3,cr_,cond_false,ae_]
def fb_ (v:bF_):List Int:=v.rows.map fun r=>jg_ v.kids r.id_
theorem view_eta (v:bF_):bF_.mk (ax_.mk v.q.table v.q.where_ v.q.order v.q.down v.q.first v.q.show_ v.q.kids v.q.kidTable v.q.kidCol) v.rows v.kids=v:=rfl
theorem kg_ {v:bF_} (h:v.kids.length≤cb_) (hr:v.rows.length≤fg_):Ev (fun n _=>bd_ n v) (fb_ v):=by
 refine ao_ ?_
 have hl:=hr
 simp only [fg_] at hl
 simp only [bd_]
 refine qh_ TRow.dflt v.rows (fun r=>jg_ v.kids r.id_) (fun n N i s=>bd_.loop4 n (fun xy2=>(some xy2)) N (i:Int) v.q.table v.q.where_ v.q.order v.q.down v.q.first v.q.show_ v.q.kids v.q.kidTable v.q.kidCol v.rows v.kids s) (fb_ v) (fun i s hi hs F hF => ?_) ?_
 · simp only [bd_.turn4,bd_.step4,view_eta,Int.toNat_natCast,W_up hi (show v.rows.length≤cb_ by simp only [cb_];omega),al_,bb_,ab_ (iN_ (v:=v) (id:=(v.rows.getD i TRow.dflt).id_) h),ba_,cC_ hi,ch_ hi]
   exact ⟨fun _=>⟨trivial,by simp;omega,hF⟩,fun h=>by cases h⟩
 · simp only [bd_.turn4,bd_.step4,cr_,cond_false,ae_];rfl
def hJ_ (q:ax_) (n:Nat):Nat:=if q.first=0 then n else min n q.first.toNat
theorem e6_ {q:ax_} {n:Nat}:Ev (fun m _=>dw_ m q (n:Int)) (hJ_ q n:Int):=by
 refine ao_ ?_
 have hmin:∀ a b:Int,Ev (fun m _=>eQ_ m a b) (min a b):=fun a b=>ao_ (by simp only [eQ_,al_,ae_,decide_eq_true_eq,decide_eq_false_iff_not];constructor<;>intro h<;>omega)
 have hmax:∀ a b:Int,Ev (fun m _=>cL_ m a b) (max a b):=fun a b=>ao_ (by simp only [cL_,al_,ae_,decide_eq_true_eq,decide_eq_false_iff_not];constructor<;>intro h<;>omega)
 simp only [dw_,al_,ae_,ab_ (hmin _ _),ab_ (hmax _ _),hJ_]
 refine ⟨fun h=>by rw [if_pos (by simpa using h)],fun h => ?_⟩
 rw [if_neg (by simpa using h)]
 omega
end Go.Pi
end
section
namespace Go.Pi
def j7_ (g:aa_→aa_) (q:ax_) (rows:List TRow) (kids:List Int) (m:Nat):List aa_:=(List.range m).map fun i=>g (pc_ q (rows.getD i TRow.dflt) (kids.getD i 0))
theorem n8_ {g:aa_→aa_} {q:ax_} {rows:List TRow} {kids:List Int} {m:Nat}:j7_ g q rows kids (m+1)=j7_ g q rows kids m++[g (pc_ q (rows.getD m TRow.dflt) (kids.getD m 0))]:=by
 unfold j7_;rw [List.range_succ,List.map_append];rfl
theorem j6_ {g:aa_→aa_} {q:ax_} {rows:List TRow} {kids:List Int} {m:Nat}:(j7_ g q rows kids m).length=m:=by unfold j7_;simp
abbrev nmCount:Bs:=[99,111,117,110,116]
abbrev kO_:Bs:=[114,111,119,115]
def n2_ (n:Nat) (docs:List aa_):aa_:=aa_.mk 5 0 [] [qX_ n,aa_.mk 4 0 [] docs []] [nmCount,kO_]
theorem mV_ {q:ax_} {n:Nat}:hJ_ q n≤n:=by unfold hJ_;split<;>omega
def FDoc (q:ax_) (rows:List TRow) (kids:List Int):aa_:=eO_ (n2_ rows.length (j7_ id q rows kids (hJ_ q rows.length)))
theorem s7_ {n:Nat} {docs:List aa_} (hl:docs.length≤cb_) (hd:∀ j ∈ docs,ft_ 4 j):ft_ 6 (n2_ n docs):=by
 refine ⟨⟨Nat.zero_le _,by show 2≤cb_;decide,fun x hx => ?_⟩,by show 2≤cb_;decide,fun x hx => ?_⟩
 · rcases List.mem_cons.1 hx with e|hx
   · rw [e];show 5≤cb_;decide
   · rw [List.mem_singleton.1 hx];show 4≤cb_;decide
 · rcases List.mem_cons.1 hx with e|hx
   · rw [e];exact lr_ 5
   · rw [List.mem_singleton.1 hx]
     exact ⟨⟨Nat.zero_le _,Nat.zero_le _,fun x hx=>(by cases hx)⟩,hl,hd⟩
theorem pR_ {q:ax_} {rows:List TRow} {kids:List Int} (hq:q.show_.length≤1100000) (hs:∀ c ∈ q.show_,i64 c) (hl:rows.length≤2000000) {m:Nat} (hm:m≤rows.length):ft_ 6 (n2_ rows.length (j7_ id q rows kids m)):=by
 refine s7_ (by rw [j6_];simp only [cb_];omega) fun j hj => ?_
 obtain ⟨i,_,e⟩:=List.mem_map.1 hj
 rw [←e];exact oF_ hq hs 4
section
variable {q:ax_} {rows:List TRow} {kids:List Int} (hq:q.show_.length≤1100000) (hs:∀ c ∈ q.show_,i64 c) (hr:hn_ cb_ rows) (hl:rows.length≤2000000)
include hq hs hr hl
theorem oh_ (hk:kids.length≤cb_):Ev (fun n _=>cl_ n q rows kids) (FDoc q rows kids):=by
 refine ao_ ?_
 simp only [cl_]
 have hF:=mV_ (q:=q) (n:=rows.length)
 have eq0:ax_.mk q.table q.where_ q.order q.down q.first q.show_ q.kids q.kidTable q.kidCol=q:=rfl
 have:=eI_ (j7_ id q rows kids) (hJ_ q rows.length) (fun n N i (s:List aa_)=>cl_.loop4 n (fun xy4 xy5 xy6 xy7 xy8 xy9 xy10 xy11=>((c6_ n (xy4.length:Int)).bind fun xr12=>((dd_ n (aa_.mk 5 0 [] ([(aa_.re xr12),(aa_.mk xy8 xy9 xy10 xy11 [])]:List aa_) ([[99,111,117,110,116],[114,111,119,115]]:List Bs))).bind fun xr13=>(some (aa_.re xr13))))) N rows kids (i:Int) q.table q.where_ q.order q.down q.first q.show_ q.kids q.kidTable q.kidCol 0 0 [] 4 0 [] s) (FDoc q rows kids) (fun i hi F hF => ?_) ?_
 · exact this
 · have hir:i<rows.length:=by omega
   have hR:∀ k,Ev (fun n _=>bR_ n q (rows.getD i TRow.dflt) k) (pc_ q (rows.getD i TRow.dflt) k):=fun k=>iL_ hq hs (iA_ hr i)
   rw [n8_] at hF
   simp only [aW_] at hF
   have hlen:=j6_ (g:=id) (q:=q) (rows:=rows) (kids:=kids) (m:=i)
   generalize j7_ id q rows kids i=s at hF hlen
   simp only [cl_.turn4,cl_.step4,eq0,Int.toNat_natCast,aW_,W_up hir (show rows.length≤cb_ by simp only [cb_];omega),ab_ e6_,ab_ (hR _),decide_eq_true (show ((i:Int)<(hJ_ q rows.length:Int)) by omega),ch_ hir,cond_true,al_,bb_,ba_]
   refine ⟨fun h=>⟨⟨by omega,by have:=of_decide_eq_true h;omega⟩,trivial,by simp;omega,hF⟩,fun h=>⟨trivial,by simp;omega,?_⟩⟩
   have h:=of_decide_eq_false h
   have e:kids.getD i 0=0:=by rw [List.getD_eq_getElem?_getD,List.getElem?_eq_none (by omega)];rfl
   rw [e] at hF;exact hF
 · have hw:=mm_ (pR_ hq hs hl (kids:=kids) hF)
   unfold n2_ at hw
   simp only [cl_.turn4,cl_.step4,eq0,aW_,ab_ e6_,cr_,cond_false,ab_ mn_,ab_ hw,ae_]
   rfl
end
end Go.Pi
end
section
namespace Go.Pi
def e9_ (v:bF_):aa_:=FDoc v.q v.rows (fb_ v)
theorem rD_ {v:bF_}:(fb_ v).length=v.rows.length:=by unfold fb_;simp
theorem hn_.top {r:List TRow} (h:hn_ cap r):hn_ cb_ r:=⟨Nat.le_trans h.1 (by decide),fun x hx=>Nat.le_trans (h.2 x hx) (by decide)⟩
section
variable {v:bF_} (h:kn_ cap v) (hs:∀ c ∈ v.q.show_,i64 c)
include h hs
theorem gJ_:ft_ 6 (e9_ v):=by
 have h1:=h.1.2;have h2:=h.2.1.1
 simp only [cap] at h1 h2
 unfold e9_ FDoc eO_
 have:=pR_ (kids:=fb_ v) (rows:=v.rows) (show v.q.show_.length≤1100000 by omega) hs (by omega) (mV_ (q:=v.q))
 cases cI_ (n2_ v.rows.length (j7_ id v.q v.rows (fb_ v) (hJ_ v.q v.rows.length))) with
 |true=>exact this
 |false=>exact ⟨⟨Nat.zero_le _,Nat.zero_le _,fun x hx=>(by cases hx)⟩,Nat.zero_le _,fun x hx=>(by cases hx)⟩
theorem fi_:Ev (fun n _=>dk_ n v) (e9_ v):=by
 refine ao_ ?_
 have h1:=h.1.2;have h2:=h.2.1.1;have h3:=h.2.2
 simp only [cap] at h1 h2 h3
 have hc:=rD_ (v:=v)
 have hD:=oh_ (q:=v.q) (rows:=v.rows) (kids:=fb_ v) (by omega) hs h.2.1.top (by omega) (by simp only [cb_];omega)
 simp only [dk_,aW_,ab_ (kg_ (v:=v) (by simp only [cb_];omega) (by simp only [fg_];omega)),ab_ hD,ae_]
 rfl
end
end Go.Pi
end
section
namespace Go.Pi
def pb_ (old now:List bs_):List TOp:=(jd_ now (rV_ (cm_ now) old old.length old []) now.length).2
def gy_ (docs:List aa_) (keys:List Int) (docs':List aa_) (keys':List Int):List TOp:=cond (kOk docs keys) (cond (kOk docs' keys') (pb_ (pd_ docs keys docs.length) (pd_ docs' keys' docs'.length)) []) []
structure KIs (docs:List aa_) (keys:List Int):Prop where
 len:docs.length=keys.length
 ok:∀ i,i<docs.length→cI_ (docs.getD i aa_.dflt)=true
 no:∀ i,i<docs.length→keys.getD i 0 ∉ keys.take i
theorem k_is {docs:List aa_} {keys:List Int} (h:kOk docs keys=true):KIs docs keys:=by
 unfold kOk at h
 rw [Bool.and_eq_true,e8_] at h
 refine ⟨of_decide_eq_true h.1,fun i hi => ?_,fun i hi => ?_⟩
 · have:=h.2 i hi
   rw [Bool.and_eq_true] at this;exact this.1
 · have:=h.2 i hi
   rw [Bool.and_eq_true] at this
   simpa using this.2
theorem lB_ {docs:List aa_} {keys:List Int} {m i:Nat} (h:i<m):(pd_ docs keys m).getD i bs_.dflt=bs_.mk (keys.getD i 0) (docs.getD i aa_.dflt):=by
 unfold pd_
 rw [ls_ (fun i=>bs_.mk (keys.getD i 0) (docs.getD i aa_.dflt)) 0 bs_.dflt (by simpa using h)]
 have:(List.range m).getD i 0=i:=by
  rw [List.getD_eq_getElem?_getD,List.getElem?_range h];rfl
 rw [this]
theorem nw_ {α:Type} (d:α) (l:List α):(List.range l.length).map (fun i=>l.getD i d)=l:=by
 apply List.ext_getElem?
 intro i
 by_cases h:i<l.length
 · rw [List.getElem?_map,List.getElem?_range h,List.getElem?_eq_getElem h]
   simp only [Option.map_some]
   rw [List.getD_eq_getElem?_getD,List.getElem?_eq_getElem h];rfl
 · rw [List.getElem?_eq_none (by simpa using h),List.getElem?_eq_none (by omega)]
theorem lA_ {docs:List aa_} {keys:List Int}:(pd_ docs keys docs.length).map (·.value)=docs:=by
 unfold pd_
 rw [List.map_map]
 exact nw_ aa_.dflt docs
theorem pg_ {docs:List aa_} {keys:List Int} (h:docs.length=keys.length):cm_ (pd_ docs keys docs.length)=keys:=by
 unfold cm_ pd_
 rw [List.map_map,h]
 exact nw_ 0 keys
theorem oA_ {α:Type} (d:α) {l:List α} {x:α} (h:x ∈ l):∃ i,i<l.length∧l.getD i d=x:=by
 obtain ⟨i,hi,e⟩:=List.mem_iff_getElem.1 h
 exact ⟨i,hi,by rw [List.getD_eq_getElem?_getD,List.getElem?_eq_getElem hi];exact e⟩
theorem oc_ {α:Type} (d:α) {l:List α} {i j:Nat} (h:i<j) (hj:j≤l.length):l.getD i d ∈ l.take j:=by
 have e:(l.take j).getD i d=l.getD i d:=by rw [List.getD_eq_getElem?_getD,List.getD_eq_getElem?_getD,List.getElem?_take_of_lt h]
 rw [←e];exact bY_ d (by simp;omega)
theorem jj_ {docs:List aa_} {keys:List Int} (h:KIs docs keys):o1_ (pd_ docs keys docs.length):=by
 intro i j hij hj
 rw [iq_] at hj
 rw [lB_ (by omega),lB_ hj]
 intro e
 have e:keys.getD i 0=keys.getD j 0:=e
 exact h.no j hj (e ▸ oc_ 0 hij (by have:=h.len;omega))
theorem o0_ {l:List bs_} (h:o1_ l):∀ x ∈ l,∀ y ∈ l,x.key=y.key→x=y:=by
 intro x hx y hy e
 obtain ⟨i,hi,ei⟩:=oA_ bs_.dflt hx
 obtain ⟨j,hj,ej⟩:=oA_ bs_.dflt hy
 rcases Nat.lt_trichotomy i j with hij|hij|hij
 · exact absurd (by rw [ei,ej,e]) (h i j hij hj)
 · subst hij;rw [←ei,←ej]
 · exact absurd (by rw [ei,ej,e]) (h j i hij hi)
theorem qG_ {docs:List aa_} {keys:List Int} (h:KIs docs keys) (hJ:∀ j ∈ docs,ft_ 6 j):∀ x ∈ pd_ docs keys docs.length,okK x:=by
 intro x hx
 obtain ⟨i,hi,e⟩:=oA_ bs_.dflt hx
 rw [iq_] at hi
 rw [lB_ hi] at e
 rw [←e]
 exact ⟨h.ok i hi,hJ _ (bY_ aa_.dflt hi)⟩
section
variable {docs docs':List aa_} {keys keys':List Int} (hd:docs.length≤1500000) (hd':docs'.length≤1500000) (hJ:∀ j ∈ docs,ft_ 6 j) (hJ':∀ j ∈ docs',ft_ 6 j)
include hd hd' hJ hJ'
theorem pv_ (hk:keys.length≤1500000) (hk':keys'.length≤1500000):Ev (fun n _=>e0_ n docs keys docs' keys') (gy_ docs keys docs' keys'):=by
 refine ao_ ?_
 simp only [e0_,ab_ (iJ_ (docs:=docs) (keys:=keys) (by omega) (by omega) hJ),ab_ (iJ_ (docs:=docs') (keys:=keys') (by omega) (by omega) hJ'),al_,ae_,gy_]
 cases h1:kOk docs keys with
 |false=>exact ⟨fun _=>rfl,fun h=>(by cases h)⟩
 |true=>
  cases h2:kOk docs' keys' with
  |false=>exact ⟨fun h=>(by cases h),fun _=>⟨fun _=>rfl,fun h=>(by cases h)⟩⟩
  |true=>
   refine ⟨fun h=>(by cases h),fun _=>⟨fun h=>(by cases h),fun _ => ?_⟩⟩
   simp only [cond_true]
   have k1:=k_is h1
   have k2:=k_is h2
   have o1:=qG_ k1 hJ
   have o2:=qG_ k2 hJ'
   have d1:=o0_ (jj_ k1)
   have d2:=jj_ k2
   have l1:=iq_ (docs:=docs) (keys:=keys) (m:=docs.length)
   have l2:=iq_ (docs:=docs') (keys:=keys') (m:=docs'.length)
   have hR:Ev (fun n _=>aI_ n docs keys docs' keys') (pb_ (pd_ docs keys docs.length) (pd_ docs' keys' docs'.length)):=by
    have v1:=lA_ (docs:=docs) (keys:=keys)
    have v2:=lA_ (docs:=docs') (keys:=keys')
    have e1:=pg_ k1.len
    have e2:=pg_ k2.len
    generalize pd_ docs keys docs.length=old at o1 l1 d1 v1 e1 ⊢
    generalize pd_ docs' keys' docs'.length=now at o2 l2 d2 v2 e2 ⊢
    subst e1 e2 v1 v2
    simp only [List.length_map] at l1 l2 hd hd'
    have hr:=lm_ (cm_ now) old old.length old [] (Nat.le_refl _)
    have hm:=on_ (cm_ now) old old.length old []
    simp only [List.length_nil] at hr
    refine ao_ ?_
    simp only [aI_,ba_,List.nil_append,List.length_nil,cM_,W_dn (show old.length≤cb_ by simp only [cb_];omega)]
    refine ⟨by omega,?_⟩
    refine cZ_ (f:=fun n N=>aI_.loop5 n (fun xy4 xy5 xy6 xy7 xy8 xy9=>(aI_.loop13 n (fun xy21=>(some xy21)) n xy4 xy5 xy6 xy7 0 xy8 xy9)) N (old.map (·.value)) (cm_ old) (now.map (·.value)) (cm_ now) ((old.length:Int) - 1) [] (cm_ old)) (qM_ (old:=old) (by omega) (by omega) _ _ (fun n xy4 xy5 xy6 xy7 xy8 xy9=>(aI_.loop13 n (fun xy21=>(some xy21)) n xy4 xy5 xy6 xy7 0 xy8 xy9)) _ old.length old [] (Nat.le_refl _) (Nat.le_refl _) (by omega) (by simp only [List.length_nil];omega) ?_)
    exact spec_add (by omega) (by omega) (by omega) (by omega) o2 o1 (fun x hx=>hm x hx) d2 d1
   simp only [ab_ hR,ae_]
end
def opK (o:TOp):Prop:=(∃ t:Bs,t.length≤25∧o.way=[t])∧bG_ 6 o.value≤400∧ft_ 6 o.value
theorem null_size:bG_ 6 (aa_.mk 0 0 [] [] [])≤400:=by decide
theorem kq_ {k:Nat} (h:k≤4000000):(Lib.itoa (k:Int)).length≤25:=by
 have:=Lib.itoa_length_le (k:Int) (by omega) (by omega);omega
theorem rmOp_ok {k:Nat} (h:k≤4000000):opK (rmOp k):=⟨⟨_,kq_ h,rfl⟩,null_size,eq_ 6⟩
theorem om_ (nk:List Int) (old:List bs_):∀ k l ops,k≤4000000→(∀ o ∈ ops,opK o)→∀ o ∈ (rV_ nk old k l ops).2,opK o
 |0,l,ops,_,h=>h
 |k+1,l,ops,hk,h=>by
  simp only [rV_]
  split
  · exact om_ nk old k l ops (by omega) h
  · refine om_ nk old k (del l k) _ (by omega) fun o ho => ?_
    rcases List.mem_append.1 ho with ho|ho
    · exact h o ho
    · rw [List.mem_singleton.1 ho];exact rmOp_ok (by omega)
theorem tt_ {l:List bs_} {i:Nat} {x:bs_} (hl:l.length≤4000000) (hi:i≤4000000) (hx:okK x):∀ o ∈ (g9_ l i x).2,opK o:=by
 have ha:∀ k,k≤4000000→opK (addOp k x.value):=fun k hk=>⟨⟨_,kq_ hk,rfl⟩,lp_ hx,hx.2⟩
 have hr:∀ k,k≤4000000→opK (repOp k x.value):=fun k hk=>⟨⟨_,kq_ hk,rfl⟩,lp_ hx,hx.2⟩
 unfold g9_
 by_cases h1:kAt (cm_ l) x.key=(i:Int)
 · rw [if_pos h1]
   dsimp only
   cases e5_ 6 (l.getD i bs_.dflt).value x.value with
   |true=>intro o ho;cases ho
   |false=>intro o ho;rw [List.mem_singleton.1 ho];exact hr i hi
 · rw [if_neg h1]
   by_cases h2:(i:Int)<kAt (cm_ l) x.key
   · rw [if_pos h2]
     obtain ⟨p,hp,h3,h4⟩:=sf_ h2
     intro o ho
     rw [hp,Int.toNat_natCast] at ho
     rcases List.mem_cons.1 ho with e|ho
     · rw [e];exact rmOp_ok (by omega)
     · rw [List.mem_singleton.1 ho];exact ha i hi
   · rw [if_neg h2]
     intro o ho
     rw [List.mem_singleton.1 ho];exact ha i hi
theorem qu_ {now:List bs_} {s:List bs_ × List TOp} (hnl:now.length≤1500000) (hsl:s.1.length≤1500000) (hn:∀ x ∈ now,okK x) (h:∀ o ∈ s.2,opK o):∀ i,i≤now.length→∀ o ∈ (jd_ now s i).2,opK o
 |0,_=>h
 |i+1,hi=>by
  intro o ho
  simp only [jd_] at ho
  have hL:=jY_ now s i
  rcases List.mem_append.1 ho with ho|ho
  · exact qu_ hnl hsl hn h i (by omega) o ho
  · exact tt_ (by omega) (by omega) (hn _ (bY_ bs_.dflt (by omega))) o ho
theorem ty_ {docs docs':List aa_} {keys keys':List Int} (hd:docs.length≤1500000) (hd':docs'.length≤1500000) (hJ:∀ j ∈ docs,ft_ 6 j) (hJ':∀ j ∈ docs',ft_ 6 j):(∀ o ∈ gy_ docs keys docs' keys',opK o)∧(gy_ docs keys docs' keys').length≤docs.length+2*docs'.length:=by
 unfold gy_
 cases h1:kOk docs keys with
 |false=>exact ⟨fun o ho=>(by cases ho),Nat.zero_le _⟩
 |true=>
  cases h2:kOk docs' keys' with
  |false=>exact ⟨fun o ho=>(by cases ho),Nat.zero_le _⟩
  |true=>
   simp only [cond_true,pb_]
   have o2:=qG_ (k_is h2) hJ'
   have l1:=iq_ (docs:=docs) (keys:=keys) (m:=docs.length)
   have l2:=iq_ (docs:=docs') (keys:=keys') (m:=docs'.length)
   generalize pd_ docs keys docs.length=old at l1 ⊢
   generalize pd_ docs' keys' docs'.length=now at o2 l2 ⊢
   have hr:=lm_ (cm_ now) old old.length old [] (Nat.le_refl _)
   have hL:=jY_ now (rV_ (cm_ now) old old.length old []) now.length
   simp only [List.length_nil] at hr
   exact ⟨qu_ (by omega) (by omega) o2 (om_ _ _ _ _ _ (by omega) fun o ho=>(by cases ho)) now.length (Nat.le_refl _),by omega⟩
def underOp (name:Bs) (o:TOp):TOp:=TOp.mk o.kind (name::o.way) o.value
def qy_ (name:Bs) (l:List TOp):List TOp:=l.map (underOp name)
def lenO (l:List TOp):Prop:=l.length≤6000000∧∀ o ∈ l,o.way.length≤1000000∧bG_ 6 o.value≤400
theorem oe_ {name:Bs} {l:List TOp} (h:lenO l):Ev (fun n _=>cg_ n name l) (qy_ name l):=by
 refine ao_ ?_
 have hl:=h.1
 have ht:l.length≤cb_:=by simp only [cb_];omega
 simp only [cg_]
 refine qh_ TOp.dflt l (underOp name) (fun n N i (s:List TOp)=>cg_.loop4 n (fun xy2=>(some xy2)) N name l (i:Int) s) _ (fun i s hi hs F hF => ?_) ?_
 · have ho:=h.2 _ (bY_ TOp.dflt hi)
   have hC:=eZ_ 6 _ ho.2
   have hw:=ho.1
   simp only [cg_.turn4,cg_.step4,aW_,Int.toNat_natCast,W_up hi ht,cC_ hi,ch_ hi,cond_true,bb_,ba_,ab_ hC]
   exact ⟨trivial,trivial,by simp only [List.length_cons,List.length_nil];omega,trivial,by simp only [List.length_cons,List.length_nil];omega,hF⟩
 · simp only [cg_.turn4,cg_.step4,cr_,cond_false,ae_];rfl
end Go.Pi
end
section
namespace Go.Pi
def j2_ (v:bF_):Nat:=hJ_ v.q v.rows.length
def eu_ (v:bF_):List aa_:=j7_ eO_ v.q v.rows (fb_ v) (j2_ v)
def el_ (v:bF_):List Int:=(List.range (j2_ v)).map fun i=>(v.rows.getD i TRow.dflt).id_
theorem im_ (v:bF_):j2_ v≤v.rows.length:=mV_
theorem ids_next (v:bF_) (i:Nat):((List.range (i+1)).map fun i=>(v.rows.getD i TRow.dflt).id_)=((List.range i).map fun i=>(v.rows.getD i TRow.dflt).id_)++[(v.rows.getD i TRow.dflt).id_]:=by
 rw [List.range_succ,List.map_append];rfl
theorem rl_ {v:bF_} {i:Nat} (h:i<v.rows.length):(fb_ v).getD i 0=jg_ v.kids (v.rows.getD i TRow.dflt).id_:=ls_ (fun r:TRow=>jg_ v.kids r.id_) TRow.dflt 0 h
section
variable {v:bF_} (h:kn_ cap v) (hs:∀ c ∈ v.q.show_,i64 c)
include h hs
theorem hR_:Ev (fun n _=>bu_ n v) (eu_ v,el_ v):=by
 refine ao_ ?_
 have h1:=h.1.2;have h2:=h.2.1.1;have h3:=h.2.2
 simp only [cap] at h1 h2 h3
 have hm:=im_ v
 simp only [bu_]
 let S:Nat→List aa_ × List Int:=fun i=>(j7_ eO_ v.q v.rows (fb_ v) i,(List.range i).map fun i=>(v.rows.getD i TRow.dflt).id_)
 have:=eI_ S (j2_ v) (fun n N i (s:List aa_ × List Int)=>bu_.loop5 n (fun xy4 xy5=>(some (xy4,xy5))) N (i:Int) v.q.table v.q.where_ v.q.order v.q.down v.q.first v.q.show_ v.q.kids v.q.kidTable v.q.kidCol v.rows v.kids s.1 s.2) (eu_ v,el_ v) (fun i hi F hF => ?_) ?_
 · exact this
 · have hir:i<v.rows.length:=by omega
   simp only [S,n8_,ids_next,rl_ hir] at hF ⊢
   have hol:=j6_ (g:=eO_) (q:=v.q) (rows:=v.rows) (kids:=fb_ v) (m:=i)
   have hol2:((List.range i).map fun i=>(v.rows.getD i TRow.dflt).id_).length=i:=by simp
   generalize ((List.range i).map fun i=>(v.rows.getD i TRow.dflt).id_)=s2 at hF hol2 ⊢
   generalize j7_ eO_ v.q v.rows (fb_ v) i=s1 at hF hol ⊢
   have e0:ax_.mk v.q.table v.q.where_ v.q.order v.q.down v.q.first v.q.show_ v.q.kids v.q.kidTable v.q.kidCol=v.q:=rfl
   have e1:bF_.mk v.q v.rows v.kids=v:=rfl
   have hK:=iN_ (v:=v) (id:=(v.rows.getD i TRow.dflt).id_) (by simp only [cb_];omega)
   have hrow:=iA_ h.2.1.top i
   have hRd:Ev (fun n _=>ex_ n v.q (v.rows.getD i TRow.dflt) (jg_ v.kids (v.rows.getD i TRow.dflt).id_)) (eO_ (pc_ v.q (v.rows.getD i TRow.dflt) (jg_ v.kids (v.rows.getD i TRow.dflt).id_))) :=
    ao_ (by simp only [ex_,aW_,ab_ (iL_ (q:=v.q) (by omega) hs hrow),ab_ (mm_ (oF_ (q:=v.q) (by omega) hs 6)),ae_])
   have hlt:decide ((i:Int)<(hJ_ v.q v.rows.length:Int))=true:=decide_eq_true (by unfold j2_ at hi;omega)
   simp only [bu_.turn5,bu_.step5,e0,e1,aW_,Int.toNat_natCast,W_up hir (show v.rows.length≤cb_ by simp only [cb_];omega),ab_ e6_,hlt,ch_ hir,cond_true,bb_,ab_ hK,ab_ hRd,ba_]
   exact ⟨trivial,trivial,by simp only [List.length_cons,List.length_nil];omega,trivial,by simp only [List.length_cons,List.length_nil];omega,hF⟩
 · have e0:ax_.mk v.q.table v.q.where_ v.q.order v.q.down v.q.first v.q.show_ v.q.kids v.q.kidTable v.q.kidCol=v.q:=rfl
   have hlt:decide ((j2_ v:Int)<(hJ_ v.q v.rows.length:Int))=false:=decide_eq_false (by unfold j2_;omega)
   simp only [bu_.turn5,bu_.step5,e0,ab_ e6_,hlt,cond_false,ae_]
   rfl
theorem iw_:∀ j ∈ eu_ v,ft_ 6 j:=by
 have h1:=h.1.2
 simp only [cap] at h1
 intro j hj
 obtain ⟨i,_,e⟩:=List.mem_map.1 hj
 rw [←e]
 unfold eO_
 cases cI_ (pc_ v.q (v.rows.getD i TRow.dflt) ((fb_ v).getD i 0)) with
 |true=>exact oF_ (by omega) hs 6
 |false=>exact eq_ 6
end
theorem gk_ (v:bF_):(eu_ v).length=j2_ v:=j6_
theorem n3_ (v:bF_):(el_ v).length=j2_ v:=by unfold el_;simp
def hz_ (a b:bF_):List TOp:=cond (!decide (a.rows.length=b.rows.length)) [TOp.mk 3 [nmCount] (eO_ (qX_ b.rows.length))] []
def d7_ (a b:bF_):List TOp:=cond (kF_ a.q b.q) (hz_ a b++qy_ kO_ (gy_ (eu_ a) (el_ a) (eu_ b) (el_ b))) []
theorem of_ {n:Nat}:Ev (fun m _=>eR_ m (n:Int)) (eO_ (qX_ n)):=by
 refine ao_ ?_
 have:=dz_ (lr_ (n:=(n:Int)) 6)
 unfold eO_
 unfold qX_ at this ⊢
 simp only [eR_,ab_ this,al_,ae_,g5_]
 cases cI_ (aa_.mk 2 (n:Int) [] [] [])<;>simp
section
variable {a b:bF_} (ha:kn_ cap a) (hb:kn_ cap b) (hsa:∀ c ∈ a.q.show_,i64 c) (hsb:∀ c ∈ b.q.show_,i64 c)
include ha hb hsa hsb
theorem l0_:lenO (gy_ (eu_ a) (el_ a) (eu_ b) (el_ b))∧(∀ o ∈ gy_ (eu_ a) (el_ a) (eu_ b) (el_ b),opK o)∧(gy_ (eu_ a) (el_ a) (eu_ b) (el_ b)).length≤a.rows.length+2*b.rows.length:=by
 have h1:=ha.2.1.1;have h2:=hb.2.1.1
 simp only [cap] at h1 h2
 have:=im_ a
 have:=im_ b
 obtain ⟨k1,k2⟩:=ty_ (keys:=el_ a) (keys':=el_ b) (by rw [gk_];omega) (by rw [gk_];omega) (iw_ ha hsa) (iw_ hb hsb)
 rw [gk_,gk_] at k2
 refine ⟨⟨by omega,fun o ho=>⟨?_,(k1 o ho).2.1⟩⟩,k1,by omega⟩
 obtain ⟨t,_,e⟩:=(k1 o ho).1
 rw [e];exact (by decide:1≤1000000)
theorem g3_:Ev (fun n _=>c9_ n a b) (d7_ a b):=by
 refine ao_ ?_
 have h1:=ha.2.1.1;have h2:=hb.2.1.1
 simp only [cap] at h1 h2
 have n1:=im_ a
 have n2:=im_ b
 obtain ⟨r1,_,r3⟩:=l0_ ha hb hsa hsb
 have hR:=pv_ (docs:=eu_ a) (keys:=el_ a) (docs':=eu_ b) (keys':=el_ b) (by rw [gk_];omega) (by rw [gk_];omega) (iw_ ha hsa) (iw_ hb hsb) (by rw [n3_];omega) (by rw [n3_];omega)
 have hU:=oe_ (name:=kO_) r1
 have hq:tA_ cb_ a.q:=⟨Nat.le_trans ha.1.1 (by decide),Nat.le_trans ha.1.2 (by decide)⟩
 have hUl:(qy_ kO_ (gy_ (eu_ a) (el_ a) (eu_ b) (el_ b))).length=(gy_ (eu_ a) (el_ a) (eu_ b) (el_ b)).length:=List.length_map _
 simp only [c9_,ab_ (kh_ hq),r1_,al_,aW_,ab_ of_,ab_ (hR_ ha hsa),ab_ (hR_ hb hsb),ab_ hR,ab_ hU,ba_,ae_,List.nil_append,List.length_nil,d7_,hz_]
 cases kF_ a.q b.q with
 |false=>exact ⟨fun _=>rfl,fun h=>(by cases h)⟩
 |true=>
  refine ⟨fun h=>(by cases h),fun _=>⟨fun hc=>⟨?_,?_,?_⟩,fun hc=>⟨?_,?_⟩⟩⟩
  · simp only [List.length_cons,List.length_nil];omega
  · simp only [List.length_cons,List.length_nil];omega
  · rw [hc];rfl
  · omega
  · rw [hc];rfl
theorem kP_ (hab:a.rows.length+b.rows.length≤1500000):kQ_ (d7_ a b):=by
 obtain ⟨r1,r2,r3⟩:=l0_ ha hb hsa hsb
 unfold d7_
 cases kF_ a.q b.q with
 |false=>exact ⟨Nat.zero_le _,fun o ho=>(by cases ho)⟩
 |true=>
  have hUl:(qy_ kO_ (gy_ (eu_ a) (el_ a) (eu_ b) (el_ b))).length=(gy_ (eu_ a) (el_ a) (eu_ b) (el_ b)).length:=List.length_map _
  have hcl:(hz_ a b).length≤1:=by unfold hz_;cases (!decide (a.rows.length=b.rows.length))<;>simp
  refine ⟨by simp only [cond_true,List.length_append];omega,fun o ho => ?_⟩
  rw [cond_true] at ho
  rcases List.mem_append.1 ho with ho|ho
  · unfold hz_ at ho
    cases hc:(!decide (a.rows.length=b.rows.length))<;>rw [hc] at ho
    · cases ho
    · rw [List.mem_singleton.1 ho]
      refine ⟨⟨by show 1≤cb_;decide,fun x hx => ?_⟩,?_⟩
      · rw [List.mem_singleton.1 hx];show 5≤cb_;decide
      · show ft_ 6 (eO_ (qX_ b.rows.length))
        unfold eO_
        cases cI_ (qX_ b.rows.length) with
        |true=>exact lr_ 6
        |false=>exact eq_ 6
  · obtain ⟨o',ho',e⟩:=List.mem_map.1 ho
    obtain ⟨⟨t,ht,e2⟩,_,hv⟩:=r2 o' ho'
    rw [←e]
    refine ⟨⟨?_,fun x hx => ?_⟩,hv⟩
    · show (kO_::o'.way).length≤cb_
      rw [e2];show 2≤cb_;decide
    · have hx:x ∈ kO_::o'.way:=hx
      rw [e2] at hx
      rcases List.mem_cons.1 hx with e3|hx
      · rw [e3];show 4≤cb_;decide
      · rw [List.mem_singleton.1 hx];simp only [cb_];omega
end
end Go.Pi
end
section
namespace Go.Pi
theorem ki_ {l:List TOp} (h:kQ_ l):Ev (fun n _=>a5_ n l) (et_ l):=by
 refine ao_ ?_
 have hl:=h.1
 have ht:l.length≤cb_:=by simp only [cb_];omega
 have hb:fd_ l≤l.length:=List.findIdx_le_length
 simp only [a5_]
 have:=eI_ (fun i=>(l.take i).map cH_) (fd_ l) (fun n N i (o:List aa_)=>a5_.loop4 n (fun xy2 xy3 xy4 xy5=>((cY_ n (aa_.mk xy2 xy3 xy4 xy5 [])).bind fun xr6=>(cond (xr6 == []) (some (-1)) (some (xr6.length:Int))))) N l (i:Int) 4 0 [] o) (et_ l) (fun i hi F hF => ?_) ?_
 · exact this
 · have hi2:i<l.length:=by omega
   have hx:=ez_ (h.2 _ (bY_ TOp.dflt hi2))
   rw [oB_ cH_ TOp.dflt hi2] at hF
   have hol:((l.take i).map cH_).length≤i:=by simp;omega
   generalize (l.take i).map cH_=o at hF hol ⊢
   simp only [a5_.turn4,a5_.step4,aW_,hE_,Int.toNat_natCast,W_up hi2 ht,cC_ hi2,ch_ hi2,kD_ hi,cond_true,cond_false,bb_,ba_,ab_ hx]
   exact ⟨trivial,by simp;omega,hF⟩
 · by_cases hp:fd_ l<l.length
   · have hx:=ez_ (h.2 _ (bY_ TOp.dflt hp))
     simp only [a5_.turn4,a5_.step4,aW_,hE_,Int.toNat_natCast,cC_ hp,ch_ hp,bad_at hp,cond_true,bb_,ab_ hx,ae_]
     unfold et_
     rw [decide_eq_true hp]
     exact ⟨trivial,rfl⟩
   · have e:fd_ l=l.length:=by omega
     have hE:=dS_ (jH_ h)
     unfold et_
     rw [decide_eq_false hp,cond_false]
     unfold em_ at hE ⊢
     rw [e,List.take_length]
     simp only [a5_.turn4,a5_.step4,cr_,cond_false,ab_ hE,al_,ae_]
     generalize bB_ _=s
     cases (s == [])<;>simp
end Go.Pi
end
section
namespace Go.Pi
end Go.Pi
end
section
namespace Go.Pi
def j3_ (a b:bF_):Bool:=decide (((d7_ a b).length:Int)≤40)&&(decide (et_ (d7_ a b)≥0)&&decide (et_ (d7_ a b)<((bB_ (e9_ b)).length:Int)))
section
variable {a b:bF_} (ha:kn_ cap a) (hb:kn_ cap b) (hsa:∀ c ∈ a.q.show_,i64 c) (hsb:∀ c ∈ b.q.show_,i64 c) (hab:a.rows.length+b.rows.length≤1500000)
include ha hb hsa hsb hab
theorem lL_:Ev (fun n _=>d8_ n a b) (j3_ a b):=by
 refine ao_ ?_
 have hP:=ki_ (kP_ ha hb hsa hsb hab)
 have hE:=dS_ (gJ_ hb hsb)
 simp only [d8_,aW_,ab_ (g3_ ha hb hsa hsb),ab_ hP,al_,ab_ (fi_ hb hsb),ab_ hE,ae_,j3_]
 cases decide (((d7_ a b).length:Int)≤40)<;>cases decide (et_ (d7_ a b)≥0)<;>simp
end
end Go.Pi
end
section
namespace Go.Pi
end Go.Pi
end
section
namespace Go.Pi
def FDue (x:cB_):Bool:=!x.began || !gz_ (e9_ x.view) (e9_ x.last)
def intsS (x:cB_):Prop:=(∀ c ∈ x.view.q.show_,i64 c)∧∀ c ∈ x.last.q.show_,i64 c
theorem lN_ {x:cB_} (h:lenS cap x) (hi:intsS x):Ev (fun n _=>ea_ n x) (FDue x):=by
 refine ao_ ?_
 simp only [ea_,aW_,ab_ (fi_ h.1 hi.1),ab_ (fi_ h.2 hi.2),ab_ (fZ_ (gJ_ h.1 hi.1) (gJ_ h.2 hi.2)),al_,ae_,FDue]
 cases x.began<;>simp
end Go.Pi
end
section
namespace Go.Pi
def noEv:aD_:=aD_.mk 0 0 0 (aa_.mk 0 0 [] [] []) []
def FEvOf (x:cB_):aD_:=cond (x.began&&j3_ x.last x.view) (aD_.mk 2 x.version x.lastVersion (aa_.mk 0 0 [] [] []) (d7_ x.last x.view)) (aD_.mk 1 x.version 0 (e9_ x.view) [])
def FTaken (x:cB_):cB_:=cB_.mk x.view x.version x.view x.version true
def gw_ (x:cB_):cB_ × aD_ × Bool:=cond (FDue x) (FTaken x,FEvOf x,true) (x,noEv,false)
section
variable {x:cB_} (h:lenS cap x) (hi:intsS x) (hr:x.last.rows.length+x.view.rows.length≤1500000)
include h hi hr
theorem lb_:Ev (fun n _=>df_ n x) (gw_ x):=by
 have hR:lenS fg_ x:=⟨h.1.upto (by decide),h.2.upto (by decide)⟩
 refine ao_ ?_
 simp only [df_,aW_,pX_ hR,ab_ (lN_ h hi),al_,ab_ (fi_ h.1 hi.1),ab_ (lL_ h.2 h.1 hi.2 hi.1 hr),ab_ (g3_ h.2 h.1 hi.2 hi.1),h1_ hR.1,ae_,gw_,FTaken,FEvOf,noEv]
 cases FDue x<;>cases x.began<;>cases j3_ x.last x.view<;>simp
end
end Go.Pi
end
section
namespace Go.Pi
def fa_ (v:bF_) (l:List a0_):bF_:=l.foldl kI_ v
theorem rF_ {c:Nat} {v:bF_} {x:a0_} (h:kn_ c v) (hx:qF_ c x):kn_ (c+2) (kI_ v x):=by
 have hr:hn_ (c+1) (sI_ v x):=by
  have h1:=mW_ (id:=x.old.id_) h.2.1
  unfold sI_
  cases (x.table == v.q.table)<;>cases (x.has&&gi_ v.q x.new)<;>cases x.had<;>simp only [cond_true,cond_false]
  all_goals (first|exact lx_ h1 hx.2|exact lx_ h.2.1 hx.2|exact h1.upto (by omega)|exact h.2.1.upto (by omega))
 have hk:(sJ_ v x).length≤c+2:=by
  have h0:=h.2.2
  have h1:=lz_ (kids:=v.kids) (id:=gA_ x.old v.q.kidCol) (by_:=-1)
  have h2:=lz_ (kids:=v.kids) (id:=gA_ x.new v.q.kidCol) (by_:=1)
  have h3:=lz_ (kids:=FKid v.kids (gA_ x.old v.q.kidCol) (-1)) (id:=gA_ x.new v.q.kidCol) (by_:=1)
  unfold sJ_
  cases (v.q.kids&&(x.table == v.q.kidTable))<;>cases x.has<;>cases x.had<;>simp only [cond_true,cond_false]<;>omega
 exact ⟨⟨Nat.le_trans h.1.1 (by omega),Nat.le_trans h.1.2 (by omega)⟩,hr.upto (by omega),hk⟩
theorem k5_ {c:Nat} {v:bF_} {l:List a0_} (h:kn_ c v) (hl:∀ x ∈ l,qF_ c x):kn_ (c+2*l.length) (fa_ v l):=by
 have key:∀ (l:List a0_) (d:Nat) (v:bF_),c≤d→kn_ d v→(∀ x ∈ l,qF_ c x)→kn_ (d+2*l.length) (fa_ v l):=by
  intro l
  induction l with
  |nil=>intro d v _ h _;exact h
  |cons x l ih=>
   intro d v hd h hl
   have hx:=hl x (List.mem_cons_self ..)
   have:=ih (d+2) (kI_ v x) (by omega) (rF_ h ⟨Nat.le_trans hx.1 hd,Nat.le_trans hx.2 hd⟩) (fun y hy=>hl y (List.mem_cons_of_mem _ hy))
   simp only [List.length_cons]
   rw [show d+2*(l.length+1)=d+2+2*l.length by omega]
   exact this
 exact key l c v (Nat.le_refl _) h hl
section
variable {v:bF_} {l:List a0_} (h:kn_ cap v) (hl:l.length≤cap) (hx:∀ x ∈ l,qF_ cap x)
include h hl hx
omit hl in
theorem qp_ {i:Nat} (hi:i<l.length):kn_ (cap+2*i) (fa_ v (l.take i))∧qF_ (cap+2*i) (l.getD i a0_.dflt)∧fa_ v (l.take (i+1))=kI_ (fa_ v (l.take i)) (l.getD i a0_.dflt):=by
 refine ⟨?_,?_,?_⟩
 · have:=k5_ (l:=l.take i) h fun x h=>hx x (List.mem_of_mem_take h)
   rwa [List.length_take,Nat.min_eq_left (by omega)] at this
 · have:=hx _ (bY_ a0_.dflt hi)
   exact ⟨Nat.le_trans this.1 (by omega),Nat.le_trans this.2 (by omega)⟩
 · rw [cE_ a0_.dflt hi];simp only [fa_,List.foldl_append,List.foldl_cons,List.foldl_nil]
theorem iY_:Ev (fun n _=>aU_ n v l) (fa_ v l):=by
 refine ao_ ?_
 simp only [cap] at hl
 have ht:l.length≤cb_:=by simp only [cb_];omega
 simp only [aU_,h1_ (h.upto (show cap≤fg_ by decide))]
 refine eI_ (fun i=>fa_ v (l.take i)) l.length (fun n N i (s:bF_)=>aU_.loop4 n (fun xy3 xy4 xy5 xy6 xy7 xy8 xy9 xy10 xy11 xy12 xy13 xy14 xy15 xy16 xy17 xy18 xy19 xy20=>(some (bF_.mk (ax_.mk xy10 xy17 xy11 xy12 xy13 xy18 xy14 xy15 xy16) xy19 xy20))) N l (i:Int) 0 0 false 0 false 0 0 s.q.table s.q.order s.q.down s.q.first s.q.kids s.q.kidTable s.q.kidCol s.q.where_ s.q.show_ s.rows s.kids) _ (fun i hi F hF => ?_) ?_
 · obtain ⟨a,b,e⟩:=qp_ h hx hi
   have hs:=jr_ a b (by simp only [fg_,cap];omega)
   rw [e] at hF
   simp only [aU_.turn4,aU_.step4,Int.toNat_natCast,W_up hi ht,al_,bb_,cC_ hi,ch_ hi]
   refine ⟨fun _=>⟨trivial,?_⟩,fun h=>by cases h⟩
   exact (ab_ hs).2 hF
 · simp only [aU_.turn4,aU_.step4,cr_,cond_false,ae_,List.take_length]
end
def pa_ (x:cB_) (l:List a0_):cB_:={ x with view:=fa_ x.view l,version:=W (x.version+1) }
section
variable {x:cB_} {l:List a0_} (h:lenS cap x) (hl:l.length≤cap) (hx:∀ x ∈ l,qF_ cap x)
include h hl hx
omit hl hx in
theorem lenS.toR:lenS fg_ x:=⟨h.1.upto (by decide),h.2.upto (by decide)⟩
theorem m5_:Ev (fun n _=>dW_ n x l) (pa_ x l):=by
 refine ao_ ?_
 simp only [dW_,pX_ (lenS.toR h),ab_ (iY_ h.1 hl hx),ae_]
 rfl
end
end Go.Pi
end
section
namespace Go.Pi
def lw_ (s:aw_) (q:ax_):cB_ × Bool:=cond (g2_ s q).2 (cB_.mk (g2_ s q).1 s.version sL_ 0 false,true) (cB_.mk sL_ 0 sL_ 0 false,false)
theorem lM_ {s:aw_} {q:ax_} {c:Nat} (hl:fC_ c s) (hq:tA_ 100000 q) (hc:c≤100000):Ev (fun n _=>d9_ n s q) (lw_ s q):=by
 refine ao_ ?_
 simp only [d9_,ab_ (m4_ hl hq hc),al_,ae_]
 unfold lw_
 cases (g2_ s q).2<;>simp [sL_,zeroQ]
theorem jk_ (c:Nat):kn_ c sL_:=⟨⟨Nat.zero_le _,Nat.zero_le _⟩,⟨Nat.zero_le _,fun x hx=>(by cases hx)⟩,Nat.zero_le _⟩
theorem ry_ {s:aw_} {q:ax_} {c:Nat} (hl:fC_ c s) (hq:tA_ c q):kn_ (c+c) (g2_ s q).1:=by
 have hT:∀ i,hn_ c (s.tables.getD i []):=fun i=>fU_ hl.2.2 i
 unfold g2_
 cases FSQ s q
 · exact jk_ _
 · refine ⟨⟨Nat.le_trans hq.1 (Nat.le_add_right _ _),Nat.le_trans hq.2 (Nat.le_add_right _ _)⟩,?_,?_⟩
   · show hn_ (c+c) (hy_ s q)
     unfold hy_
     cases FSQ s q
     · exact ⟨Nat.zero_le _,fun x hx=>(by cases hx)⟩
     · have:=mR_ (c:=c) (q:=q) (rows:=s.tables.getD q.table.toNat []) (o:=[]) (k:=0) ⟨Nat.zero_le _,fun x hx=>(by cases hx)⟩ (hT _).2
       exact this.upto (by have:=(hT q.table.toNat).1;omega)
   · show (ly_ s q).length≤c+c
     unfold ly_
     cases q.kids
     · exact Nat.zero_le _
     · have:=mT_ (q:=q) (rows:=s.tables.getD q.kidTable.toNat []) (k:=[])
       have:=(hT q.kidTable.toNat).1
       simp only [cond_true,List.length_nil] at *
       omega
structure SsIn (c:Nat) (x:cB_):Prop where
 len:lenS c x
 v:∀ y ∈ x.view.q.show_,0≤y∧y≤1000
 l:∀ y ∈ x.last.q.show_,0≤y∧y≤1000
theorem SsIn.ints {c:Nat} {x:cB_} (h:SsIn c x):intsS x:=⟨fun y hy=>by have:=h.v y hy;unfold i64;omega,fun y hy=>by have:=h.l y hy;unfold i64;omega⟩
theorem SsIn.upto {c d:Nat} {x:cB_} (h:SsIn c x) (hc:c≤d):SsIn d x:=⟨⟨h.len.1.upto hc,h.len.2.upto hc⟩,h.v,h.l⟩
theorem sQ_ {s:aw_} {q:ax_} {c:Nat} (hs:fC_ c s) (hq:QIn q) (hc:1010≤c):SsIn (c+c) (lw_ s q).1:=by
 have hV:=ry_ hs (q:=q) ⟨Nat.le_trans hq.len.1 hc,Nat.le_trans hq.len.2 hc⟩
 unfold lw_
 cases h2:(g2_ s q).2
 · exact ⟨⟨jk_ _,jk_ _⟩,fun y hy=>(by cases hy),fun y hy=>(by cases hy)⟩
 · refine ⟨⟨hV,jk_ _⟩,?_,fun y hy=>(by cases hy)⟩
   show ∀ y ∈ (g2_ s q).1.q.show_,_
   unfold g2_ at h2 ⊢
   cases h:FSQ s q<;>rw [h] at h2
   · cases h2
   · exact hq.show_
theorem qO_ {x:cB_} {c:Nat} (h:SsIn c x):SsIn c (gw_ x).1:=by
 unfold gw_
 cases FDue x
 · exact h
 · exact ⟨⟨h.len.1,h.len.1⟩,h.v,h.v⟩
theorem changes_q (l:List a0_) (v:bF_):(fa_ v l).q=v.q:=by
 unfold fa_
 induction l generalizing v with
 |nil=>rfl
 |cons x l ih=>rw [List.foldl_cons,ih];rfl
theorem sessGo_in {x:cB_} {l:List a0_} {c:Nat} (h:SsIn c x) (hl:∀ y ∈ l,qF_ c y) (h5:l.length≤5):SsIn (c+10) (pa_ x l):=by
 refine ⟨⟨(k5_ h.len.1 hl).upto (by omega),h.len.2.upto (by omega)⟩,?_,h.l⟩
 show ∀ y ∈ (fa_ x.view l).q.show_,_
 rw [changes_q];exact h.v
theorem SsIn.take {c:Nat} {x:cB_} (h:SsIn c x) (hc:c≤700000):Ev (fun n _=>df_ n x) (gw_ x) :=
 lb_ ⟨h.len.1.upto (by simp only [cap];omega),h.len.2.upto (by simp only [cap];omega)⟩ h.ints (by have:=h.len.1.2.1.1;have:=h.len.2.2.1.1;omega)
theorem SsIn.go {c:Nat} {x:cB_} {l:List a0_} (h:SsIn c x) (hc:c≤700000) (hl:∀ y ∈ l,qF_ c y) (h5:l.length≤5):Ev (fun n _=>dW_ n x l) (pa_ x l) :=
 m5_ ⟨h.len.1.upto (by simp only [cap];omega),h.len.2.upto (by simp only [cap];omega)⟩ (by simp only [cap];omega) fun y hy=>⟨Nat.le_trans (hl y hy).1 (by simp only [cap];omega),Nat.le_trans (hl y hy).2 (by simp only [cap];omega)⟩
theorem sess_etaD (x:cB_):cB_.mk x.view x.version x.last x.lastVersion x.began=x:=rfl
theorem view_etaD (x:bF_):bF_.mk x.q x.rows x.kids=x:=rfl
end Go.Pi
end
section
namespace Go.Pi
theorem l16loop {K:Nat→as_.K5} {P:aw_ × cB_ × af_→Prop} {t21 t30 t32 t33 t34 t36 t37 t38 t311 t312 t314 t315 t316 t318 t319 t320 t323 t324} (hK:∀ c s x,DwOk c→StIn 1100 s→SsIn 6000 x→Ans (fun n _=>K n c.b c.i c.h t21 t30 t32 t33 t34 t36 t37 t38 t311 t312 t314 t315 t316 t318 t319 t320 t323 t324 s.schema.cols s.version s.tables x.view.q.table x.view.q.where_ x.view.q.order x.view.q.down x.view.q.first x.view.q.show_ x.view.q.kids x.view.q.kidTable x.view.q.kidCol x.view.rows x.view.kids x.version x.last.q.table x.last.q.where_ x.last.q.order x.last.q.down x.last.q.first x.last.q.show_ x.last.q.kids x.last.q.kidTable x.last.q.kidCol x.last.rows x.last.kids x.lastVersion x.began) P)
  {c:af_} {s:aw_} {x:cB_} (hc:DwOk c) (hs:StIn 1010 s) (hx:SsIn 5000 x):Ans (fun n _=>as_.loop5 n (K n) n 0 c.b c.i c.h t21 t30 t32 t33 t34 t36 t37 t38 t311 t312 t314 t315 t316 t318 t319 t320 t323 t324 s.schema.cols s.version s.tables x.view.q.table x.view.q.where_ x.view.q.order x.view.q.down x.view.q.first x.view.q.show_ x.view.q.kids x.view.q.kidTable x.view.q.kidCol x.view.rows x.view.kids x.version x.last.q.table x.last.q.where_ x.last.q.order x.last.q.down x.last.q.first x.last.q.show_ x.last.q.kids x.last.q.kidTable x.last.q.kidCol x.last.rows x.last.kids x.lastVersion x.began) P:=by
 have key:∀ (m i:Nat) (c:af_) (s:aw_) (x:cB_),i+m=6→DwOk c→StIn (1010+3*i) s→SsIn (5000+10*i) x→Ans (fun n N=>as_.loop5 n (K n) N (i:Int) c.b c.i c.h t21 t30 t32 t33 t34 t36 t37 t38 t311 t312 t314 t315 t316 t318 t319 t320 t323 t324 s.schema.cols s.version s.tables x.view.q.table x.view.q.where_ x.view.q.order x.view.q.down x.view.q.first x.view.q.show_ x.view.q.kids x.view.q.kidTable x.view.q.kidCol x.view.rows x.view.kids x.version x.last.q.table x.last.q.where_ x.last.q.order x.last.q.down x.last.q.first x.last.q.show_ x.last.q.kids x.last.q.kidTable x.last.q.kidCol x.last.rows x.last.kids x.lastVersion x.began) P:=by
  intro m
  induction m with
  |zero=>
   intro i c s x hi hc hs hx
   refine cx_ ?_
   simp only [as_.turn5,as_.step5,cT_]
   refine az_ (br_ hc) fun r hr => ?_
   have h1:=hr.lo;have h2:=hr.hi
   rw [decide_eq_false (by omega)]
   simp only [cond_false]
   exact hK _ _ _ hr.cur (hs.upto (by omega)) (hx.upto (by omega))
  |succ m ih=>
   intro i c s x hi hc hs hx
   refine cx_ ?_
   simp only [as_.turn5,as_.step5,cT_]
   refine az_ (br_ hc) fun r hr => ?_
   simp only [be_]
   refine ⟨fun _ => ?_,fun _=>hK _ _ _ hr.cur (hs.upto (by omega)) (hx.upto (by omega))⟩
   refine az_ (fD_ hr.cur) fun r2 h2 => ?_
   have hgo:∀ (y:cB_),SsIn (5000+10*i) y→Ans (fun n N=>(aB_ n r2.2 s).bind fun xr57=>((bD_ n s xr57.1).bind fun xr58=>(cond xr58.2.2 ((dW_ n y xr58.2.1).bind fun xr59=>(as_.loop5 n (K n) N (W ((i:Int)+1)) xr57.2.b xr57.2.i xr57.2.h t21 t30 t32 t33 t34 t36 t37 t38 t311 t312 t314 t315 t316 t318 t319 t320 t323 t324 xr58.1.schema.cols xr58.1.version xr58.1.tables xr59.view.q.table xr59.view.q.where_ xr59.view.q.order xr59.view.q.down xr59.view.q.first xr59.view.q.show_ xr59.view.q.kids xr59.view.q.kidTable xr59.view.q.kidCol xr59.view.rows xr59.view.kids xr59.version xr59.last.q.table xr59.last.q.where_ xr59.last.q.order xr59.last.q.down xr59.last.q.first xr59.last.q.show_ xr59.last.q.kids xr59.last.q.kidTable xr59.last.q.kidCol xr59.last.rows xr59.last.kids xr59.lastVersion xr59.began)) (as_.loop5 n (K n) N (W ((i:Int)+1)) xr57.2.b xr57.2.i xr57.2.h t21 t30 t32 t33 t34 t36 t37 t38 t311 t312 t314 t315 t316 t318 t319 t320 t323 t324 s.schema.cols s.version s.tables y.view.q.table y.view.q.where_ y.view.q.order y.view.q.down y.view.q.first y.view.q.show_ y.view.q.kids y.view.q.kidTable y.view.q.kidCol y.view.rows y.view.kids y.version y.last.q.table y.last.q.where_ y.last.q.order y.last.q.down y.last.q.first y.last.q.show_ y.last.q.kids y.last.q.kidTable y.last.q.kidCol y.last.rows y.last.kids y.lastVersion y.began)))) P:=by
    intro y hy
    refine az_ (mf_ h2 hs (by omega) (by omega)) fun b hb => ?_
    have hm:mc_ (1010+3*i) b.1:=fun z hz=>Nat.le_trans (hb.2.1 z hz) (by omega)
    have hB:=lT_ (l:=b.1) hs.len hm (by have:=hb.1;omega)
    have hL:=k6_ (l:=b.1) hs.len hm
    have hI:=rG_ (l:=b.1) hs hm
    have hC:∀ z ∈ (fq_ s b.1).2.1,qF_ (5000+10*i) z:=fun z hz=>⟨Nat.le_trans (hL.2.2 z hz).1 (by have:=hb.1;omega),Nat.le_trans (hL.2.2 z hz).2 (by have:=hb.1;omega)⟩
    have e1:=up1 (show i≤1000000 by omega)
    rw [bf_ hB]
    simp only [be_,bf_ (hy.go (by omega) hC hL.2.1),e1]
    refine ⟨fun _=>ih (i+1) b.2 (fq_ s b.1).1 (pa_ y (fq_ s b.1).2.1) (by omega) hb.2.2 (hI.upto (by have:=hb.1;omega)) ?_,fun _=>ih (i+1) b.2 s y (by omega) hb.2.2 (hs.upto (by omega)) (hy.upto (by omega))⟩
    exact (sessGo_in hy hC hL.2.1).upto (by omega)
   simp only [as_.tail10,gn_,fy_,kl_,view_etaD,sess_etaD,cT_,be_,bf_ (hx.take (by omega))]
   exact ⟨fun _=>hgo _ (qO_ hx),fun _=>hgo _ hx⟩
 exact en_ (key 6 0 c s x rfl hc hs hx)
theorem lf_ {c:af_} (hc:DwOk c):Ans (fun n _=>as_ n c) fun r=>StIn 1100 r.1∧SsIn 6000 r.2.1∧DwOk r.2.2:=by
 refine ci_ ?_
 simp only [as_]
 refine az_ (me_ hc) fun r hr => ?_
 simp only [as_.tail1,gn_,fy_,cT_]
 refine az_ (md_ hr.2 hr.1.col) fun q hq => ?_
 have hN:=lM_ (s:=r.1) (q:=q.1) hr.1.len ⟨Nat.le_trans hq.1.len.1 (by decide),Nat.le_trans hq.1.len.2 (by decide)⟩ (by decide)
 rw [bf_ hN]
 exact l16loop (fun c s x h1 h2 h3=>aS_.2 ⟨h2,h3,h1⟩) hq.2 hr.1 ((sQ_ hr.1.len hq.1 (Nat.le_refl _)).upto (by decide))
end Go.Pi
end
section
namespace Go.Pi
structure EvDw (e:aD_):Prop where
 len:pS_ e
 doc:aa_.size e.doc≤2000000000
 few:e.ops.length≤3900000
section
variable {a b:bF_} (ha:kn_ cap a) (hb:kn_ cap b) (hsa:∀ c ∈ a.q.show_,i64 c) (hsb:∀ c ∈ b.q.show_,i64 c)
include ha hb hsa hsb
theorem patch_few (hab:a.rows.length+b.rows.length≤1500000):(d7_ a b).length≤3900000:=by
 obtain ⟨r1,r2,r3⟩:=l0_ ha hb hsa hsb
 unfold d7_
 cases kF_ a.q b.q with
 |false=>exact Nat.zero_le _
 |true=>
  have hUl:(qy_ kO_ (gy_ (eu_ a) (el_ a) (eu_ b) (el_ b))).length=(gy_ (eu_ a) (el_ a) (eu_ b) (el_ b)).length:=List.length_map _
  have hcl:(hz_ a b).length≤1:=by unfold hz_;cases (!decide (a.rows.length=b.rows.length))<;>simp
  simp only [cond_true,List.length_append];omega
end
theorem evOf_in {x:cB_} {c:Nat} (h:SsIn c x) (hc:c≤700000):EvDw (FEvOf x):=by
 have k1:kn_ cap x.view:=h.len.1.upto (by simp only [cap];omega)
 have k2:kn_ cap x.last:=h.len.2.upto (by simp only [cap];omega)
 unfold FEvOf
 cases (x.began&&j3_ x.last x.view)
 · refine ⟨⟨gJ_ k1 h.ints.1,Nat.zero_le _,fun o ho=>(by cases ho)⟩,?_,Nat.zero_le _⟩
   have:cI_ (e9_ x.view)=true∨e9_ x.view=g5_:=by
    unfold e9_ FDoc eO_
    cases h:cI_ (n2_ x.view.rows.length (j7_ id x.view.q x.view.rows (fb_ x.view) (hJ_ x.view.q x.view.rows.length)))
    · exact .inr rfl
    · exact .inl h
   rcases this with h|h
   · have h:=of_decide_eq_true h
     have:=sg_ 6 _ h
     show aa_.size (e9_ x.view)≤_;omega
   · show aa_.size (e9_ x.view)≤_;rw [h];decide
 · have hab:x.last.rows.length+x.view.rows.length≤1500000:=by have:=h.len.1.2.1.1;have:=h.len.2.2.1.1;omega
   exact ⟨⟨eq_ 6,kP_ k2 k1 h.ints.2 h.ints.1 hab⟩,show aa_.size (aa_.mk 0 0 [] [] [])≤2000000000 by decide,patch_few k2 k1 h.ints.2 h.ints.1 hab⟩
theorem sessEv_in {x:cB_} {c:Nat} (h:SsIn c x) (hc:c≤700000):EvDw (gw_ x).2.1:=by
 unfold gw_
 cases FDue x
 · exact ⟨⟨eq_ 6,Nat.zero_le _,fun o ho=>(by cases ho)⟩,show aa_.size (aa_.mk 0 0 [] [] [])≤2000000000 by decide,Nat.zero_le _⟩
 · exact evOf_in h hc
theorem ev_etaD (e:aD_):aD_.mk e.kind e.version e.base e.doc e.ops=e:=rfl
end Go.Pi
end
section
namespace Go.Pi
theorem rY_ (ns:List Bs) (x:Bs):gY_ ns x≤gX_ ns x:=by unfold gX_;split<;>omega
theorem sumL_cut {α:Type} (f:α→Nat) (l:List α) {a b:Nat} (h:a≤b):eo_ f (l.take a)+eo_ f (l.drop b)≤eo_ f l:=by
 have e:eo_ f l=eo_ f (l.take a)+eo_ f (l.drop a):=by rw [←gF_,List.take_append_drop]
 have e2:eo_ f (l.drop a)=eo_ f ((l.drop a).take (b - a))+eo_ f (l.drop b):=by
  rw [←gF_];congr 1
  have:l.drop b=(l.drop a).drop (b - a):=by rw [List.drop_drop];congr 1;omega
  rw [this,List.take_append_drop]
 omega
theorem py_ {α:Type} (f:α→Nat) (ns:List Bs) (x:Bs) (l:List α) (y:α):i0_ f (l4_ ns x l y)≤i0_ f l+1+f y:=by
 have h:=rY_ ns x
 have h1:=sumL_cut f l h
 have h2:(l.take (gY_ ns x)).length+(l.drop (gX_ ns x)).length≤l.length:=by simp;omega
 unfold i0_ l4_
 rw [gF_,gF_]
 simp only [List.length_append,List.length_cons,List.length_nil,eo_]
 omega
def jB:Nat→Nat
 |0=>100
 |d+1=>10*jB d+1000
theorem jsize (k n:Int) (s:Bs) (l:List aa_) (ns:List Bs):aa_.size (aa_.mk k n s l ns)=s.length+(i0_ aa_.size l+i0_ szB ns):=aa_.size_eq _
theorem ql_ {x:Bs} (h:x ∈ ([[97],[98],[99],[105,100],[110],[114,111,119,115],[],[97,47,98],[126]]:List Bs)):x.length≤4:=by
 simp only [List.mem_cons,List.not_mem_nil,or_false] at h
 rcases h with rfl|rfl|rfl|rfl|rfl|rfl|rfl|rfl|rfl<;>decide
theorem nd_ {c:af_} (hc:DwOk c):Ans (fun n _=>dc_ n c) fun r=>r.1.length≤4∧DwOk r.2:=by
 refine ci_ ?_
 simp only [dc_]
 exact az_ (ix_ hc (by simp)) fun r hr=>aS_.2 ⟨ql_ hr.1,hr.2⟩
section
variable {R:Nat→af_→Int→Option (aa_ × af_)} {B:Nat} {append:Int} {P:aa_ × af_→Prop}
theorem to_ {K:Nat→ac_.K20_1} {t40 t41 t42 t60 t61 t62} (hR:∀ c,DwOk c→Ans (fun n _=>R n c (W (append - 1))) fun r=>aa_.size r.1≤B∧DwOk r.2)
  (hK:∀ c o,DwOk c→o.length≤5→eo_ aa_.size o≤5*B→Ans (fun n _=>K n c.b c.i c.h t40 t41 t42 t60 t61 t62 o) P) {c:af_} (hc:DwOk c) :
  Ans (fun n _=>ac_.loop20 n (R n) (K n) n append 0 c.b c.i c.h t40 t41 t42 t60 t61 t62 []) P:=by
 have key:∀ (m i:Nat) (c:af_) (o:List aa_),i+m=5→DwOk c→o.length=i→eo_ aa_.size o≤i*B→Ans (fun n N=>ac_.loop20 n (R n) (K n) N append (i:Int) c.b c.i c.h t40 t41 t42 t60 t61 t62 o) P:=by
  intro m
  induction m with
  |zero=>
   intro i c o hi hc ho hs
   obtain rfl:i=5:=by omega
   refine cx_ ?_
   simp only [ac_.turn20,ac_.step20,cT_]
   refine az_ (br_ hc) fun r hr => ?_
   have h1:=hr.lo;have h2:=hr.hi
   rw [decide_eq_false (by omega)]
   simp only [cond_false]
   exact hK _ _ hr.cur (by omega) hs
  |succ m ih=>
   intro i c o hi hc ho hs
   have hiB:i*B≤5*B:=Nat.mul_le_mul_right _ (by omega)
   refine cx_ ?_
   simp only [ac_.turn20,ac_.step20,cT_]
   refine az_ (br_ hc) fun r hr => ?_
   simp only [be_]
   refine ⟨fun _=>az_ (hR _ hr.cur) fun r2 h2 => ?_,fun _=>hK _ _ hr.cur (by omega) (by omega)⟩
   simp only [dN_,up1 (show i≤1000000 by omega),aW_]
   refine ⟨by simp;omega,ih (i+1) r2.2 _ (by omega) h2.2 (by simp;omega) ?_⟩
   rw [gF_,Nat.add_mul,Nat.one_mul]
   have e:eo_ aa_.size [r2.1]=aa_.size r2.1:=by simp only [eo_,Nat.add_zero]
   rw [e]
   have:=h2.1
   omega
 exact en_ (key 5 0 c [] rfl hc rfl (Nat.zero_le _))
theorem tn_ {K:Nat→ac_.K28_1} {t40 t41 t42} (hR:∀ c,DwOk c→Ans (fun n _=>R n c (W (append - 1))) fun r=>aa_.size r.1≤B∧DwOk r.2)
  (hK:∀ c j,DwOk c→aa_.size j≤5*B+50→j.list.length=j.names.length→Ans (fun n _=>K n c.b c.i c.h t40 t41 t42 j.kind j.n_ j.s j.list j.names) P) {c:af_} (hc:DwOk c) (hB:B≤100000000) :
  Ans (fun n _=>ac_.loop28 n (R n) (K n) n append 0 c.b c.i c.h t40 t41 t42 5 0 [] [] []) P:=by
 have key:∀ (m i:Nat) (c:af_) (j:aa_),i+m=5→DwOk c→aa_.size j≤i*(B+10)→j.list.length=j.names.length→j.names.length≤i→Ans (fun n N=>ac_.loop28 n (R n) (K n) N append (i:Int) c.b c.i c.h t40 t41 t42 j.kind j.n_ j.s j.list j.names) P:=by
  intro m
  induction m with
  |zero=>
   intro i c j hi hc hs hl hn
   obtain rfl:i=5:=by omega
   refine cx_ ?_
   simp only [ac_.turn28,ac_.step28,cT_]
   refine az_ (br_ hc) fun r hr => ?_
   have h1:=hr.lo;have h2:=hr.hi
   rw [decide_eq_false (by omega)]
   simp only [cond_false]
   exact hK _ _ hr.cur (by omega) hl
  |succ m ih=>
   intro i c j hi hc hs hl hn
   have hiB:i*(B+10)≤5*(B+10):=Nat.mul_le_mul_right _ (by omega)
   have hin:(i+1)*(B+10)=i*(B+10)+(B+10):=by rw [Nat.add_mul,Nat.one_mul]
   refine cx_ ?_
   simp only [ac_.turn28,ac_.step28,cT_,ec_]
   refine az_ (br_ hc) fun r hr => ?_
   simp only [be_]
   refine ⟨fun _=>az_ (nd_ hr.cur) fun nm hnm => ?_,fun _=>hK _ _ hr.cur (by omega) hl⟩
   have hA:=kL_ (j:=j) (x:=nm.1) (by simp only [cb_];omega)
   rw [bf_ hA]
   simp only [be_,up1 (show i≤1000000 by omega)]
   refine ⟨fun hneg=>az_ (hR _ hnm.2) fun r2 h2 => ?_,fun _=>ih (i+1) nm.2 j (by omega) hnm.2 (by omega) hl (by omega)⟩
   have hneg:=of_decide_eq_true hneg
   have hno:∀ q,q<j.names.length→(j.names.getD q [] == nm.1)=false:=by
    intro q hq
    unfold FIdx at hneg
    split at hneg
    · omega
    · rename_i hf
      have:=List.findIdx_eq_length.1 (show j.names.findIdx (fun y=>y == nm.1)=j.names.length from Nat.le_antisymm List.findIdx_le_length (by omega)) _ (bY_ [] hq)
      exact this
   have hP:=hg_ (o:=j) (j:=r2.1) (x:=nm.1) (by omega) hl (fun _=>less_ne) (fun q _ h2=>hno q h2)
   simp only [aW_,bf_ hP]
   have p1:=py_ aa_.size j.names nm.1 j.list r2.1
   have p2:=py_ szB j.names nm.1 j.names nm.1
   have e:=aa_.size_eq j
   have hr2:=h2.1
   have hnl:=hnm.1
   have hsz:szB nm.1=nm.1.length:=rfl
   have q1:(l4_ j.names nm.1 j.list r2.1).length=(l4_ j.names nm.1 j.names nm.1).length:=by
    unfold l4_;simp only [List.length_append,List.length_take,List.length_drop,List.length_cons,List.length_nil];omega
   refine ih (i+1) r2.2 (aa_.mk 5 0 [] (l4_ j.names nm.1 j.list r2.1) (l4_ j.names nm.1 j.names nm.1)) (by omega) h2.2 ?_ q1 ?_
   · rw [jsize];simp only [List.length_nil];omega
   · show (l4_ j.names nm.1 j.names nm.1).length≤i+1
     have:=rY_ j.names nm.1
     unfold l4_;simp only [List.length_append,List.length_take,List.length_drop,List.length_cons,List.length_nil];omega
 exact en_ (key 5 0 c (aa_.mk 5 0 [] [] []) rfl hc (by rw [jsize];simp [i0_,eo_]) rfl (Nat.le_refl _))
end
theorem jB_mono {a b:Nat} (h:a≤b):jB a≤jB b:=by
 induction b with
 |zero=>obtain rfl:a=0:=by omega
        exact Nat.le_refl _
 |succ b ih=>
  by_cases e:a=b+1
  · rw [e];exact Nat.le_refl _
  · have:=ih (by omega);simp only [jB];omega
theorem kZ_ {x:Bs} (h:x ∈ ([[],[120],[97,34,98],[97,92,92,98],[104,101,108,108,111,32,116,104,101,114,101],[126,49]]:List Bs)):x.length≤20:=by
 simp only [List.mem_cons,List.not_mem_nil,or_false] at h
 rcases h with rfl|rfl|rfl|rfl|rfl|rfl<;>decide
theorem pT_ {k n:Int} {s:Bs} {B:Nat} (h:s.length≤20) (hB:100≤B):aa_.size (aa_.mk k n s [] [])≤B:=by
 rw [jsize];simp [i0_,eo_];omega
theorem jB_ge (d:Nat):100≤jB d:=jB_mono (a:=0) (Nat.zero_le d)
theorem mk_:∀ (d:Nat) (depth:Int) (c:af_),d≤4→depth≤(d:Int)+1 → -1000000≤depth→DwOk c→Ans (fun n _=>ac_ n c depth) fun r=>aa_.size r.1≤jB d∧DwOk r.2:=by
 intro d
 induction d with
 |zero=>
  intro depth c hd h1 h2 hc
  have hge:=jB_ge 0
  refine ci_ ?_
  simp only [ac_]
  repeat' (first
   |(refine az_ (br_ (by assumption)) fun _ hd => ?_;obtain ⟨_,_,_⟩:=hd)
   |(refine az_ (fn_ (by assumption) (by simp)) fun _ hd => ?_;obtain ⟨_,_⟩:=hd)
   |(refine az_ (ix_ (by assumption) (by simp)) fun _ hd => ?_;obtain ⟨_,_⟩:=hd)
   |(with_reducible refine be_.2 ⟨fun _ => ?_,fun _ => ?_⟩)
   |((with_reducible refine aS_.2 ?_);exact ⟨pT_ (by first|exact Nat.zero_le _|(exact kZ_ (by assumption))) hge,by assumption⟩)
   |(exfalso;simp only [beq_iff_eq,beq_eq_false_iff_ne,decide_eq_true_eq,decide_eq_false_iff_not,ne_eq] at *;omega))
 |succ d ih=>
  intro depth c hd h1 h2 hc
  have hge:=jB_ge (d+1)
  have e0:jB (d+1)=10*jB d+1000:=rfl
  have hB:jB d≤100000000:=Nat.le_trans (jB_mono (show d≤4 by omega)) (by decide)
  have hge0:=jB_ge d
  have hR:¬ depth≤1→∀ c,DwOk c→Ans (fun n _=>ac_ n c (W (depth - 1))) fun r=>aa_.size r.1≤jB d∧DwOk r.2:=fun hn c hc=>by
   rw [Wn (by omega) (by omega)]
   exact ih (depth - 1) c (by omega) (by omega) (by omega) hc
  refine ci_ ?_
  simp only [ac_]
  repeat' (first
   |(refine az_ (br_ (by assumption)) fun _ hd => ?_;obtain ⟨_,_,_⟩:=hd)
   |(refine az_ (fn_ (by assumption) (by simp)) fun _ hd => ?_;obtain ⟨_,_⟩:=hd)
   |(refine az_ (ix_ (by assumption) (by simp)) fun _ hd => ?_;obtain ⟨_,_⟩:=hd)
   |(with_reducible refine be_.2 ⟨fun _ => ?_,fun _ => ?_⟩)
   |((with_reducible refine aS_.2 ?_);exact ⟨pT_ (by first|exact Nat.zero_le _|(exact kZ_ (by assumption))) hge,by assumption⟩)
   |(exfalso;simp only [beq_iff_eq,beq_eq_false_iff_ne,decide_eq_true_eq,decide_eq_false_iff_not,ne_eq] at *;omega)
   |(refine to_ (hR (by simp only [decide_eq_false_iff_not] at *;assumption)) (fun _ o hc' ho hs=>aS_.2 ⟨?_,hc'⟩) (by assumption))
   |(refine tn_ (hR (by simp only [decide_eq_false_iff_not] at *;assumption)) (fun _ j hc' hs hl=>aS_.2 ⟨?_,hc'⟩) (by assumption) hB))
  all_goals (first
   |(show aa_.size (aa_.mk _ _ _ _ _)≤_;rw [jsize];simp only [i0_,eo_,List.length_nil];omega)
   |(show aa_.size (aa_.mk _ _ _ _ _)≤_;rw [ec_];exact Nat.le_trans hs (by omega)))
end Go.Pi
end
section
namespace Go.Pi
end Go.Pi
end
section
namespace Go.Pi
end Go.Pi
end
section
namespace Go.Pi
theorem mb_ (j:aa_) (h:aa_.size j≤cb_):aa_.len j:=by
 have e:=aa_.size_eq j
 have e1:i0_ aa_.size j.list=j.list.length+eo_ aa_.size j.list:=rfl
 have e2:i0_ szB j.names=j.names.length+eo_ szB j.names:=rfl
 have hx:∀ x ∈ j.list,aa_.len x:=fun x hx=>mb_ x (by have:=iW_ aa_.size hx;omega)
 exact (aa_.len_iff j).2 ⟨by omega,⟨by omega,hx⟩,by omega,fun x hx=>by have:=iW_ szB hx;show x.length≤cb_;have:szB x=x.length:=rfl;omega⟩
termination_by SizeOf.sizeOf j.list
decreasing_by exact aa_.dec hx
theorem pQ_ {j:aa_} {B:Nat} (h:aa_.size j≤B) (hB:B≤cb_):ft_ 6 j:=sb_ 6 _ (mb_ j (Nat.le_trans h hB))
end Go.Pi
end
section
namespace Go.Pi
end Go.Pi
end
section
namespace Go.Pi
end Go.Pi
end
section
namespace Go.Pi
end Go.Pi
end
section
namespace Go.Pi
end Go.Pi
end
section
namespace Go.Pi
end Go.Pi
end
section
namespace Go.Pi
end Go.Pi
end
section
namespace Go.Pi
end Go.Pi
end
section
namespace Go.Pi
end Go.Pi
end
section
namespace Go.Pi
end Go.Pi
end
section
namespace Go.Pi
end Go.Pi
end
section
namespace Go.Pi
end Go.Pi
end
section
namespace Go.Pi
end Go.Pi
end
section
namespace Go.Pi
end Go.Pi
end
section
namespace Go.Pi
end Go.Pi
end
section
namespace Go.Pi
end Go.Pi
end
section
namespace Go.Pi
theorem le_ {c:af_} (hc:DwOk c):Ans (fun n _=>c2_ n c) fun r=>EvDw r.1∧DwOk r.2:=by
 have hj:jB 4≤2200000:=by decide
 refine ci_ ?_
 simp only [c2_,aW_]
 refine az_ (fD_ hc) fun r hr => ?_
 with_reducible refine be_.2 ⟨fun _ => ?_,fun _ => ?_⟩
 · refine az_ (br_ hr) fun k hk => ?_
   refine az_ (mk_ 4 4 _ (by decide) (by decide) (by decide) hk.cur) fun j hj4 => ?_
   exact aS_.2 ⟨⟨⟨pQ_ hj4.1 (Nat.le_trans hj (by decide)),Nat.zero_le _,fun o ho=>(by cases ho)⟩,Nat.le_trans hj4.1 (Nat.le_trans hj (by decide)),Nat.zero_le _⟩,hj4.2⟩
 · refine az_ (lf_ hr) fun x hx => ?_
   simp only [bf_ (hx.2.1.take (by omega)),ev_etaD]
   with_reducible refine be_.2 ⟨fun _ => ?_,fun _ => ?_⟩
   · exact aS_.2 ⟨⟨⟨eq_ 6,Nat.zero_le _,fun o ho=>(by cases ho)⟩,show aa_.size (aa_.mk 0 0 [] [] [])≤2000000000 by decide,Nat.zero_le _⟩,hx.2.2⟩
   · exact aS_.2 ⟨sessEv_in hx.2.1 (by omega),hx.2.2⟩
end Go.Pi
end
section
namespace Go.Pi
def pcN (z:Int) (t:Bs):Nat:=(min (max z 0) (t.length:Int)).toNat
def d5_:List Int→Bs→List Bs
 |[],t=>cond (t == []) [] [t]
 |z::zs,t=>t.take (pcN z t)::d5_ zs (t.drop (pcN z t))
theorem pcN_le (z:Int) (t:Bs):pcN z t≤t.length∧(pcN z t:Int)≤max z 0:=by unfold pcN;omega
theorem l7_:∀ (zs:List Int) (t:Bs),(d5_ zs t).flatten=t
 |[],t=>by
  unfold d5_
  cases h:(t == [])
  · simp
  · rw [eq_of_beq h];rfl
 |z::zs,t=>by
  unfold d5_
  rw [List.flatten_cons,l7_ zs,List.take_append_drop]
theorem nz_:∀ (zs:List Int) (t:Bs),(d5_ zs t).length≤zs.length+1
 |[],t=>by unfold d5_;cases (t == [])<;>simp
 |z::zs,t=>by
  unfold d5_
  have:=nz_ zs (t.drop (pcN z t))
  simp only [List.length_cons];omega
theorem ny_:∀ (zs:List Int) (t:Bs),eo_ szB (d5_ zs t)=t.length
 |[],t=>by
  unfold d5_
  cases h:(t == [])
  · show t.length+0=_;rfl
  · rw [eq_of_beq h];rfl
 |z::zs,t=>by
  have h:=ny_ zs (t.drop (pcN z t))
  have:=(pcN_le z t).1
  unfold d5_
  show szB (t.take (pcN z t))+eo_ szB (d5_ zs (t.drop (pcN z t)))=_
  rw [h];unfold szB;rw [List.length_take,List.length_drop];omega
section
variable {zs:List Int} (hz:zs.length≤1000000) {t:Bs} (ht:t.length≤1000000000)
include hz ht
theorem ng_:Ev (fun n _=>b6_ n t zs) (d5_ zs t):=by
 have key:∀ (m i:Nat) (t:Bs) (o:List Bs),i+m=zs.length→t.length≤1000000000→o.length≤i→Ev (fun n N=>b6_.loop4 n (fun xy4 xy5=>(cond (!(xy4 == [])) (bm_ (xy5.length+([xy4]:List Bs).length) 16 (some (xy5++([xy4]:List Bs)))) (some xy5))) N t zs (zs.length:Int) (i:Int) o) (o++d5_ (zs.drop i) t):=by
  intro m
  induction m with
  |zero=>
   intro i t o hi ht ho
   have e:i=zs.length:=by omega
   subst e
   refine a9_ ?_
   simp only [b6_.turn4,b6_.step4,cr_,cond_false,List.drop_length,d5_,al_,ba_,ae_]
   cases (t == [])
   · exact ⟨fun _=>⟨by simp;omega,rfl⟩,fun h=>(by cases h)⟩
   · exact ⟨fun h=>(by cases h),fun _=>by simp⟩
  |succ m ih=>
   intro i t o hi ht ho
   have hlt:i<zs.length:=by omega
   have hW:=up1 (show i≤1000000 by omega)
   have hp:=pcN_le (zs.getD i 0) t
   have e1:(cond (decide ((0:Int) > zs.getD i 0)) 0 (zs.getD i 0))=max (zs.getD i 0) 0:=by
    by_cases h:(0:Int) > zs.getD i 0
    · rw [decide_eq_true h,cond_true];omega
    · rw [decide_eq_false h,cond_false];omega
   have e2:(cond (decide ((t.length:Int)<max (zs.getD i 0) 0)) (t.length:Int) (max (zs.getD i 0) 0))=(pcN (zs.getD i 0) t:Int):=by
    unfold pcN
    by_cases h:(t.length:Int)<max (zs.getD i 0) 0
    · rw [decide_eq_true h,cond_true];omega
    · rw [decide_eq_false h,cond_false];omega
   have hI:=ih (i+1) (t.drop (pcN (zs.getD i 0) t)) (o++[t.take (pcN (zs.getD i 0) t)]) (by omega) (by simp;omega) (by simp;omega)
   rw [dM_ 0 hlt]
   unfold d5_
   rw [List.append_assoc] at hI
   refine a9_ ?_
   simp only [b6_.turn4,b6_.step4,cC_ hlt,cond_true,bb_,ch_ hlt,true_and,Int.toNat_natCast,hW,e1,e2,d1_,ba_,List.drop_zero,List.take_length]
   exact ⟨by omega,by simp;omega,by omega,hI⟩
 refine ao_ ?_
 simp only [b6_]
 exact cZ_ (key zs.length 0 t [] (by omega) ht (Nat.zero_le _))
end
end Go.Pi
end
section
namespace Go.Pi
theorem nc_ {c:af_} (hc:DwOk c):Ans (fun n _=>a2_ n c) fun r=>r.1.length≤60∧DwOk r.2:=by
 have key:∀ (m i:Nat) (c:af_) (o:List Int),i+m=60→DwOk c→o.length≤i→Ans (fun n N=>a2_.loop4 n (fun xy3 xy4 xy5 xy6=>(some (xy6,(af_.mk xy3 xy4 xy5)))) N (i:Int) c.b c.i c.h o) fun r=>r.1.length≤60∧DwOk r.2:=by
  intro m
  induction m with
  |zero=>
   intro i c o hi hc ho
   refine cx_ ?_
   simp only [a2_.turn4,a2_.step4,cT_]
   refine az_ (br_ hc) fun r hr => ?_
   have h1:=hr.lo;have h2:=hr.hi
   rw [decide_eq_false (by omega)]
   simp only [cond_false]
   exact aS_.2 ⟨by simp only;omega,hr.cur⟩
  |succ m ih=>
   intro i c o hi hc ho
   refine cx_ ?_
   simp only [a2_.turn4,a2_.step4,cT_,up1 (show i≤1000000 by omega)]
   refine az_ (br_ hc) fun r hr => ?_
   with_reducible refine be_.2 ⟨fun _ => ?_,fun _=>aS_.2 ⟨by simp only;omega,hr.cur⟩⟩
   refine az_ (br_ hr.cur) fun r2 h2 => ?_
   with_reducible refine dN_.2 ⟨by simp;omega,?_⟩
   exact ih (i+1) r2.2 _ (by omega) h2.cur (by simp;omega)
 refine ci_ ?_
 simp only [a2_]
 exact en_ (key 60 0 c [] rfl hc (Nat.zero_le _))
theorem ld_ {c:af_} (hc:DwOk c):Ans (fun n _=>aM_ n c) fun r=>r.1.length≤6∧DwOk r.2:=by
 have key:∀ (m i:Nat) (c:af_) (o:List Int),i+m=6→DwOk c→o.length≤i→Ans (fun n N=>aM_.loop4 n (fun xy3 xy4 xy5 xy6=>(some (xy6,(af_.mk xy3 xy4 xy5)))) N (i:Int) c.b c.i c.h o) fun r=>r.1.length≤6∧DwOk r.2:=by
  intro m
  induction m with
  |zero=>
   intro i c o hi hc ho
   refine cx_ ?_
   simp only [aM_.turn4,aM_.step4,cT_]
   refine az_ (br_ hc) fun r hr => ?_
   have h1:=hr.lo;have h2:=hr.hi
   rw [decide_eq_false (by omega)]
   simp only [cond_false]
   exact aS_.2 ⟨by simp only;omega,hr.cur⟩
  |succ m ih=>
   intro i c o hi hc ho
   refine cx_ ?_
   simp only [aM_.turn4,aM_.step4,cT_,up1 (show i≤1000000 by omega)]
   refine az_ (br_ hc) fun r hr => ?_
   with_reducible refine be_.2 ⟨fun _ => ?_,fun _=>aS_.2 ⟨by simp only;omega,hr.cur⟩⟩
   refine az_ (fn_ hr.cur (by simp)) fun r2 h2 => ?_
   with_reducible refine dN_.2 ⟨by simp;omega,?_⟩
   exact ih (i+1) r2.2 _ (by omega) h2.2 (by simp;omega)
 refine ci_ ?_
 simp only [aM_]
 exact en_ (key 6 0 c [] rfl hc (Nat.zero_le _))
theorem nm_ {e4_:List Int} (hc:e4_.length≤1048576):Ans (fun n _=>dg_ n e4_) fun r=>r.1.length≤60∧r.2.length≤6:=by
 refine ci_ ?_
 simp only [dg_]
 refine az_ (pW_ hc) fun c h=>az_ (nc_ h) fun t ht=>az_ (ld_ ht.2) fun z hz=>aS_.2 ⟨?_,hz.1⟩
 show (hL_ t.1).length≤60
 unfold hL_
 rw [List.length_map];exact ht.1
theorem text_le (e:aD_):(cN_ e).length≤10000:=by
 cases h:c4_ e with
 |true=>exact kA_ h
 |false=>unfold cN_;rw [h];exact Nat.zero_le _
theorem ml_ {c:af_} (hc:DwOk c):Ans (fun n _=>aT_ n c) fun r=>r.1.length≤40000∧DwOk r.2:=by
 have key:∀ (m i:Nat) (c:af_) (o:Bs),i+m=4→DwOk c→o.length≤i*10000→Ans (fun n N=>aT_.loop4 n (fun xy4 xy5 xy6 xy7=>(some (xy4,(af_.mk xy5 xy6 xy7)))) N o (i:Int) c.b c.i c.h) fun r=>r.1.length≤40000∧DwOk r.2:=by
  intro m
  induction m with
  |zero=>
   intro i c o hi hc ho
   refine cx_ ?_
   simp only [aT_.turn4,aT_.step4,cT_]
   refine az_ (br_ hc) fun r hr => ?_
   have h1:=hr.lo;have h2:=hr.hi
   rw [decide_eq_false (by omega)]
   simp only [cond_false]
   exact aS_.2 ⟨by simp only;omega,hr.cur⟩
  |succ m ih=>
   intro i c o hi hc ho
   refine cx_ ?_
   simp only [aT_.turn4,aT_.step4,cT_,up1 (show i≤1000000 by omega),aW_,jR_]
   refine az_ (br_ hc) fun r hr => ?_
   with_reducible refine be_.2 ⟨fun _ => ?_,fun _=>aS_.2 ⟨by simp only;omega,hr.cur⟩⟩
   refine az_ (le_ hr.cur) fun r2 h2 => ?_
   have ht:=text_le r2.1
   rw [bf_ (fz_ h2.1.len)]
   rw [decide_eq_true (by omega)]
   simp only [cond_true]
   exact ih (i+1) r2.2 _ (by omega) h2.2 (by rw [List.length_append];omega)
 refine ci_ ?_
 simp only [aT_]
 exact en_ (key 4 0 c [] rfl hc (Nat.zero_le _))
structure FdIn (r:aC_ × Bs):Prop where
 wait:r.1.wait.length≤40000
 text:r.2.length≤60000
def jU_:Bs:=[48,49,50,51,52,53,54,55,56,57,48,49,50,51,52,53,54,55,56,57,48,49,50,51,52,53,54,55,56,57,48,49,50,51,52,53,54,55,56,57,48,49,50,51,52,53,54,55,56,57,48,49,50,51,52,53,54,55,56,57,48,49,50,51,52,53,54,55,56,57,48,49,50,51,52,53,54,55,56,57,48,49,50,51,52,53,54,55,56,57,48,49,50,51,52,53,54,55,56,57,48,49,50,51,52,53,54,55,56,57,48,49,50,51,52,53,54,55,56,57,48,49,50,51,52,53,54,55,56,57]
theorem nU_:jU_.length=130:=rfl
theorem feed_step (n:Nat) (K:bt_.K11) (back:bt_.T11) (t t20:Bs) (t21:Bool) (c0:List Int) (c1 c2:Int) (s0:Bs) (s1:Bool):bt_.step11 n K back t t20 t21 c0 c1 c2 s0 s1 =
  (cond (decide ((t.length:Int)<9000)) ((cA_ n (af_.mk c0 c1 c2) 3).bind fun x=>(cond x.1 (cond (decide (t.length+jU_.length≤9223372036854775807)) (cond (decide ((t++jU_).length+(t++jU_).length≤9223372036854775807)) (back ((t++jU_)++(t++jU_)) t20 t21 x.2.b x.2.i x.2.h s0 s1) none) none) (K t t20 t21 s0 s1))) (K t t20 t21 s0 s1)):=rfl
theorem qD_ {e4_:List Int} (hc:e4_.length≤1048576):Ans (fun n _=>bt_ n e4_) FdIn:=by
 refine ci_ ?_
 simp only [bt_]
 refine az_ (pW_ hc) fun c h=>az_ (ml_ h) fun t ht => ?_
 obtain ⟨htl,hcu⟩:=ht
 rw [Wn (by omega) (by omega)]
 refine az_ (br_ hcu) fun k hk => ?_
 obtain ⟨k0,k1,k2⟩:=hk
 have hw:((t.1.take k.1.toNat).drop 0).length≤40000:=by simp;omega
 have hr:((t.1.take (t.1.length:Int).toNat).drop k.1.toNat).length≤40000:=by simp;omega
 generalize (t.1.take k.1.toNat).drop 0=w at hw ⊢
 generalize (t.1.take (t.1.length:Int).toNat).drop k.1.toNat=r at hr ⊢
 with_reducible refine lu_.2 ⟨by omega,?_⟩
 with_reducible refine lu_.2 ⟨by omega,?_⟩
 refine az_ (br_ k2) fun x hx => ?_
 have hcu:=hx.cur
 with_reducible refine be_.2 ⟨fun _=>aS_.2 ⟨hw,by simp only;omega⟩,fun _ => ?_⟩
 with_reducible refine be_.2 ⟨fun _ => ?_,fun _ => ?_⟩
 · refine az_ (ix_ hcu (by simp)) fun p hp => ?_
   have hpl:p.1.length≤20:=by
    have:=hp.1
    simp only [List.mem_cons,List.not_mem_nil,or_false] at this
    rcases this with e|e|e<;>rw [e]<;>decide
   rw [decide_eq_true (by omega)]
   simp only [cond_true]
   exact aS_.2 ⟨hw,by simp only [List.length_append];omega⟩
 · with_reducible refine be_.2 ⟨fun _ => ?_,fun _=>aS_.2 ⟨hw,by simp only;omega⟩⟩
   have key:=gg_ (σ:=Bs × af_) (fun n N s=>bt_.loop11 n (fun xy8 xy9 xy10 xy11 xy12=>(some ((aC_.mk xy11 xy12),xy8))) N s.1 [] false s.2.b s.2.i s.2.h w false) (fun s=>9000 - s.1.length) (fun s=>s.1.length≤60000∧DwOk s.2) FdIn (fun s hs hi => ?_) (r,x.2) ⟨by simp only;omega,hcu⟩
   · exact key
   · simp only [bt_.turn11,feed_step,cT_]
     with_reducible refine be_.2 ⟨fun hlt => ?_,fun _=>aS_.2 ⟨hw,hs.1⟩⟩
     have hlt:=of_decide_eq_true hlt
     refine az_ (fD_ hs.2) fun q hq => ?_
     with_reducible refine be_.2 ⟨fun _ => ?_,fun _=>aS_.2 ⟨hw,hs.1⟩⟩
     have hl:(s.1++jU_).length=s.1.length+130:=by rw [List.length_append,nU_]
     rw [decide_eq_true (by rw [nU_];omega)]
     simp only [cond_true]
     rw [decide_eq_true (by omega)]
     simp only [cond_true]
     exact hi ((s.1++jU_)++(s.1++jU_),q.2) ⟨by simp only;rw [List.length_append];omega,hq⟩ (by simp only;rw [List.length_append];omega)
end Go.Pi
end
section
namespace Go.Pi
theorem big_evP {e4_:List Int}:Ev (fun n _=>gc_ n e4_) (decide ((e4_.length:Int) > 1048576)):=ao_ (by simp only [gc_,ae_])
theorem sum_flat (l:List Bs):l.flatten.length=eo_ szB l:=by
 induction l with
 |nil=>rfl
 |cons a l ih=>rw [List.flatten_cons,List.length_append,ih];rfl
theorem qW_ (s:aC_) (zs:List Int) (t:Bs) (h:s.wait.length+t.length≤14000):fN_ s (d5_ zs t++[[]])=fe_ s t:=by
 have hf:(d5_ zs t++[[]]).flatten=t:=by rw [List.flatten_append,l7_];simp
 have hs:=sum_flat (d5_ zs t++[[]])
 rw [hf] at hs
 obtain ⟨p,l,e⟩:∃ p l,d5_ zs t++[[]]=p::l:=by
  cases d5_ zs t with
  |nil=>exact ⟨[],[],rfl⟩
  |cons a l=>exact ⟨a,l++[[]],rfl⟩
 rw [e] at hf hs ⊢
 have hp:eo_ szB (p::l)=p.length+eo_ szB l:=rfl
 rw [kY_ l p s (by omega)]
 rw [List.flatten_cons] at hf
 rw [hf]
theorem qx_ {e4_:List Int} (hg:(lenL lenI) e4_):∃ n,laws_FnPieces n e4_=some true:=by
 have key:Ans (fun n _=>laws_FnPieces n e4_) fun b=>b=true:=by
  refine ci_ ?_
  simp only [laws_FnPieces,bf_ big_evP,aW_,jR_]
  refine be_.2 ⟨fun _=>aS_.2 rfl,fun hb => ?_⟩
  have hb:=of_decide_eq_false hb
  have hc:e4_.length≤1048576:=by omega
  refine az_ (qD_ hc) fun f hf => ?_
  obtain ⟨f1,f2⟩:=hf
  obtain ⟨g1,g2⟩:=Feed_ev (s:=f.1) (p:=f.2) (by omega)
  rw [bf_ g2,bf_ g1]
  simp only [beq_self_eq_true,bne_self_eq_false,cond_true,cond_false,Bool.not_true]
  refine az_ (nm_ hc) fun p hp => ?_
  obtain ⟨p1,p2⟩:=hp
  rw [bf_ (ng_ (zs:=p.2) (t:=f.2) (by omega) (by omega))]
  have hnum:=nz_ p.2 f.2
  have hsum:=ny_ p.2 f.2
  refine dN_.2 ⟨by simp;omega,?_⟩
  have hlen:=oW_ (s:=f.1) (p:=f.2) (by omega)
  have hsum2:eo_ szB (d5_ p.2 f.2++[[]])=f.2.length:=by rw [gF_,hsum];rfl
  have k2:=mu_ (s:=f.1) (l:=d5_ p.2 f.2++[[]]) (by simp;omega) (by omega)
  rw [bf_ k2]
  have hge:decide ((p.1.length:Int)≥0)=true:=decide_eq_true (by omega)
  refine be_.2 ⟨fun _=>aS_.2 hge,fun h3 => ?_⟩
  have h3:=of_decide_eq_false h3
  rw [Wn (by omega) (by omega)]
  refine be_.2 ⟨fun _=>aS_.2 hge,fun h4 => ?_⟩
  have h4:=of_decide_eq_false h4
  rw [qW_ f.1 p.2 f.2 (by omega)]
  generalize fe_ f.1 f.2=x at hlen ⊢
  simp only [beq_self_eq_true,bne_self_eq_false,cond_true,cond_false,Bool.not_true]
  have hloop:∀ (m i:Nat),i+m=x.2.length→Ans (fun n N=>laws_FnPieces.loop20 n (fun xy15 xy16=>(some ((xy15.length:Int) == (xy16.length:Int)))) N (i:Int) x.2 x.2) fun b=>b=true:=by
   intro m
   induction m with
   |zero=>
    intro i hi
    have e:i=x.2.length:=by omega
    subst e
    refine cx_ ?_
    simp only [laws_FnPieces.turn20,laws_FnPieces.step20,cr_,cond_false,beq_self_eq_true,aS_]
   |succ m ih=>
    intro i hi
    have hlt:i<x.2.length:=by omega
    have hW:=up1 (show i≤1000000 by omega)
    have hE:=fG_ (oG_ (hlen.2 _ (bY_ aD_.dflt hlt)))
    have hin:0≤(i:Int)∧(i:Int)<(x.2.length:Int):=by omega
    refine cx_ ?_
    simp only [laws_FnPieces.turn20,laws_FnPieces.step20,cC_ hlt,cond_true,hW,Int.toNat_natCast,aW_,jR_]
    refine eX_.2 ⟨hin,?_⟩
    rw [bf_ hE]
    refine eX_.2 ⟨hin,?_⟩
    rw [bf_ hE]
    simp only [beq_self_eq_true,Bool.not_true,cond_false]
    exact ih (i+1) (by omega)
  exact en_ (hloop x.2.length 0 (by omega))
 obtain ⟨v,hv,rfl⟩:=key
 exact ev_ex hv
end Go.Pi
end
section
namespace Go.Pi
theorem good_sl {t:TC} {xs:List (El t)} (h:Good (.sl .v t xs)):xs.length≤cb_∧∀ x ∈ xs,∀ c ∈ aj_.enc .v t x,Good c:=by
 cases h with
 |sl t xs h1 h2=>exact ⟨h1,h2⟩
end Go.Pi
end
section
namespace Go.Pi
theorem good_IntS {a:List Int} (h:Good (.sl .v .u8 a)):(lenL lenI) a:=⟨(good_sl (t:=.u8) h).1,fun x0 hx0=>trivial⟩
end Go.Pi
end
section
namespace Go.Pi
open Go.Proofs Go.Proofs.YtmgcfhlcdhlafaaGreatDoor
namespace laws_FnPieces
theorem pure_law:Pure:=fun o h0=>qx_ (good_IntS (h0 _ (by simp)))
theorem proved:Rows.FnPiecesCardSaid:=card pure_law
end laws_FnPieces
end Go.Pi
end
namespace Go.Proofs.YtmgcfhlcdhlafaaGreatDoor
theorem fnPieces_holds:Rows.FnPiecesCardSaid:=Go.Pi.laws_FnPieces.proved
#print axioms fnPieces_holds
end Go.Proofs.YtmgcfhlcdhlafaaGreatDoor
