/- SessTake of the program returns what SessTake of the reference returns, for all arguments. Text 7 of 8. -/
import Derived.Test.YtinngjbiigjkoaaGreatDoorStF
import Derived.Lib.ItoaLen
set_option linter.unusedVariables false
set_option maxRecDepth 100000
set_option linter.unusedSimpArgs false
section
namespace Go.Pi
theorem gW_ (a b:UInt8) (l:Bs):Lib.index (b::l) [a]=if a=b then 0 else if Lib.index l [a] = -1 then -1 else Lib.index l [a]+1:=by
 rw [Lib.index]
 have:List.isPrefixOf [a] (b::l)=decide (a=b):=by
  simp only [List.isPrefixOf,Bool.and_true]
  exact Bool.eq_iff_iff.2 (by simp)
 rw [this]
 by_cases h:a=b
 · rw [decide_eq_true h,if_pos rfl,if_pos h]
 · rw [decide_eq_false h,if_neg (by simp),if_neg h]
   by_cases h2:Lib.index l [a] = -1
   · rw [h2,if_pos rfl,if_pos (by decide)]
   · rw [if_neg h2,if_neg (by simpa using h2)]
theorem m9_ {a b:UInt8} (h:a≠b) (new l:Bs):∀ k,Lib.replaceK [a] new k (b::l)=b::Lib.replaceK [a] new k l
 |0=>rfl
 |k+1=>by
  rw [Lib.replaceK,Lib.replaceK,gW_,if_neg h]
  by_cases h2:Lib.index l [a] = -1
  · rw [if_pos h2,if_pos (by decide),h2,if_pos (by decide)]
  · have:=Lib.index_ge l [a]
    obtain ⟨i,hi⟩:∃ i:Nat,Lib.index l [a]=i:=⟨(Lib.index l [a]).toNat,by omega⟩
    rw [if_neg h2,if_neg (by rw [hi];simp<;>omega),if_neg (by rw [hi];simp<;>omega),hi,show ((i:Int)+1).toNat=i+1 by omega,show ((i:Int)).toNat=i by omega]
    rfl
theorem na_ (a:UInt8) (new l:Bs) (k:Nat):Lib.replaceK [a] new (k+1) (a::l)=new++Lib.replaceK [a] new k l:=by
 rw [Lib.replaceK,gW_,if_pos rfl,if_neg (by decide)]
 rfl
theorem gx_ (a:UInt8) (new:Bs):∀ (s:Bs) (k:Nat),s.count a≤k→Lib.replaceK [a] new k s=s.flatMap fun c=>if c=a then new else [c]
 |[],0,_=>rfl
 |[],k+1,_=>by
  rw [Lib.replaceK]
  have:Lib.index [] [a] = -1:=rfl
  rw [this,if_pos (by decide)];rfl
 |b::l,k,h=>by
  by_cases e:b=a
  · subst e
    rw [List.count_cons_self] at h
    obtain ⟨k,rfl⟩:∃ m,k=m+1:=⟨k - 1,by omega⟩
    rw [na_,gx_ b new l k (by omega),List.flatMap_cons,if_pos rfl]
  · rw [List.count_cons_of_ne e] at h
    rw [m9_ (fun h=>e h.symm),gx_ a new l k h,List.flatMap_cons,if_neg e];rfl
theorem f7_ (a:UInt8):∀ (s:Bs) (f:Nat),s.length<f→Lib.countFrom [a] f s=s.count a
 |[],f+1,_=>by
  rw [Lib.countFrom]
  have:Lib.index [] [a] = -1:=rfl
  rw [this,if_pos (by decide)];rfl
 |b::l,f+1,h=>by
  have hl:l.length<f:=by simpa using h
  by_cases e:a=b
  · subst e
    rw [List.count_cons_self,Lib.countFrom,gW_,if_pos rfl,if_neg (by decide)]
    show 1+Lib.countFrom [a] f l=_
    rw [f7_ a l f hl];omega
  · rw [List.count_cons_of_ne (fun h=>e h.symm),←f7_ a l (f+1) (by omega),Lib.countFrom,Lib.countFrom,gW_,if_neg e]
    by_cases h2:Lib.index l [a] = -1
    · rw [if_pos h2,if_pos (by decide),h2,if_pos (by decide)]
    · have:=Lib.index_ge l [a]
      obtain ⟨i,hi⟩:∃ i:Nat,Lib.index l [a]=i:=⟨(Lib.index l [a]).toNat,by omega⟩
      rw [if_neg h2,if_neg (by rw [hi];simp<;>omega),if_neg (by rw [hi];simp<;>omega),hi,show ((i:Int)+1).toNat=i+1 by omega,show ((i:Int)).toNat=i by omega]
      rfl
theorem mL_ (a:UInt8) (s:Bs):Lib.count s [a]=s.count a:=f7_ a s _ (Nat.lt_succ_self _)
theorem j2_ (a:UInt8) (new s:Bs) (hne:([a] == new)=false):Lib.replaceAll s [a] new=s.flatMap fun c=>if c=a then new else [c]:=by
 unfold Lib.replaceAll Lib.replace Lib.replaceNum
 rw [hne,if_neg (by simp),if_pos (.inl (by decide)),mL_]
 exact gx_ a new s _ (Nat.le_refl _)
theorem h2_ {a b c:UInt8} {s:Bs} (hs:s.length≤1000000) (hne:([a] == [b,c])=false):Ev (fun n _=>strings_ReplaceAll n s [a] [b,c]) (s.flatMap fun x=>if x=a then [b,c] else [x]):=by
 refine ao_ ?_
 have:=List.count_le_length (a:=a) (l:=s)
 simp only [strings_ReplaceAll,fY_,mL_,j2_ a [b,c] s hne,ai_,ah_,dU_]
 refine ⟨fun _=>trivial,fun h => ?_⟩
 have e1:decide (s.length<4294967281)=true:=decide_eq_true (by omega)
 have e2:decide (1≤[a].length)=true:=rfl
 have e3:decide (s.length+List.count a s*[b,c].length≤140737488355328)=true:=decide_eq_true (by simp only [List.length_cons,List.length_nil];omega)
 rw [e1,e2,e3] at h;cases h
def nW_ (c:UInt8):Bs:=if c=126 then [126,48] else if c=47 then [126,49] else [c]
theorem nV_ (c:UInt8):(nW_ c).length≤2:=by
 unfold nW_
 split
 · simp
 · split<;>simp
theorem wesc_two (s:Bs):((s.flatMap fun x=>if x=126 then [126,48] else [x]).flatMap fun x=>if x=47 then [126,49] else [x])=s.flatMap nW_:=by
 induction s with
 |nil=>rfl
 |cons c s ih=>
  rw [List.flatMap_cons,List.flatMap_append,ih,List.flatMap_cons]
  congr 1
  unfold nW_
  by_cases h1:c=126
  · subst h1;rfl
  · by_cases h2:c=47
    · subst h2;rfl
    · rw [if_neg h1,if_neg h1,if_neg h2];simp [h2]
def FWay (w:List Bs):Bs:=w.flatMap fun s=>47::s.flatMap nW_
theorem nX_ {w:List Bs} {i:Nat} (h:i<w.length):FWay (w.take (i+1))=FWay (w.take i)++(47::(w.getD i []).flatMap nW_):=by
 unfold FWay
 rw [eb_ [] h,List.flatMap_append];simp
theorem lt_ {w:List Bs} {c:Nat} (h:∀ s ∈ w,s.length≤c):(FWay w).length≤w.length*(2*c+1):=by
 induction w with
 |nil=>exact Nat.zero_le _
 |cons s w ih=>
  have h1:=fa_ nW_ nV_ s
  have h2:=h s (List.mem_cons_self ..)
  have h3:=ih fun x hx=>h x (List.mem_cons_of_mem _ hx)
  have e:FWay (s::w)=(47::s.flatMap nW_)++FWay w:=rfl
  rw [e,List.length_append,List.length_cons,List.length_cons,Nat.add_mul];omega
theorem n2_ {w:List Bs} {c:Nat} (h:∀ s ∈ w,s.length≤c) (i:Nat):∀ s ∈ w.take i,s.length≤c:=fun s hs=>h s (List.mem_of_mem_take hs)
theorem jz_ {w:List Bs} (hw:w.length≤6) (hs:∀ s ∈ w,s.length≤60):Ev (fun n _=>bf_ n w) (FWay w):=by
 refine ao_ ?_
 have ht:w.length≤ci_:=by simp only [ci_];omega
 simp only [bf_]
 have:=eC_ (fun i=>FWay (w.take i)) w.length (fun n N i (o:Bs)=>bf_.loop4 n (fun xy3=>(some xy3)) N o w (w.length:Int) (i:Int)) (FWay w) (fun i hi F hF => ?_) ?_
 · exact this
 · have h1:=hs _ (cF_ [] hi)
   have h2:=fa_ nW_ nV_ (w.getD i [])
   have h3:=lt_ (n2_ hs i)
   rw [List.length_take] at h3
   rw [nX_ hi] at hF
   have r1:=h2_ (a:=126) (b:=126) (c:=48) (s:=w.getD i []) (by omega) (by decide)
   have h4:=fa_ (fun x=>if x=126 then [126,48] else [x]) (fun c=>by split<;>simp) (w.getD i [])
   have r2:=h2_ (a:=47) (b:=126) (c:=49) (s:=(w.getD i []).flatMap fun x=>if x=126 then [126,48] else [x]) (by omega) (by decide)
   rw [wesc_two] at r2
   generalize FWay (w.take i)=o at hF h3 ⊢
   simp only [bf_.turn4,bf_.step4,Int.toNat_natCast,W_up hi ht,ai_,bT_,dU_,dW_ hi,dx_ hi,ae_ r1,ae_ r2]
   generalize (w.getD i []).flatMap nW_=e at hF h2 ⊢
   have e2:([47]:Bs)++e=47::e:=rfl
   rw [e2]
   refine ⟨fun _=>⟨trivial,fun _=>⟨fun _=>hF,fun h => ?_⟩,fun h => ?_⟩,fun h=>(by cases h)⟩
   · have h:=of_decide_eq_false h
     simp only [List.length_cons] at h;omega
   · have h:=of_decide_eq_false h
     simp only [List.length_cons,List.length_nil] at h;omega
 · simp only [bf_.turn4,bf_.step4,dN_,cond_false,List.take_length,ah_]
theorem kr_ {α:Type} {i len:Nat} {x:Option α} (h:i<len):inB (i:Int) len x=x:=by
 unfold inB
 rw [decide_eq_true (by omega),decide_eq_true (by omega)];rfl
theorem kY_ {α:Type} {n b:Nat} {x:Option α} (h:n*b≤140737488355328):cJ_ n b x=x:=by
 unfold cJ_
 rw [decide_eq_true h];rfl
theorem ev_of_ge {α:Type} {f g:Nat→Nat→Option α} {v:α} (M:Nat) (h:∀ n N,M≤n→f n N=g n N) (hg:Ev g v):Ev f v:=by
 obtain ⟨M',hM⟩:=hg
 exact ⟨max M M',fun n N h1 h2=>by rw [h n N (by omega)];exact hM n N (by omega) (by omega)⟩
theorem lC_ (n:Nat) (k2:List Bs→Int→List Int→Option Bs) {w:List Bs} {i:Nat} (hi:i<w.length) (hl:(w.getD i []).length≤1000000):∀ (d j m:Nat) (o:List Int),j+d=(w.getD i []).length→d<m→o.length+2*d≤100000000 →
  aw_.loop10 n k2 m w (i:Int) (j:Int) o=k2 w (i:Int) (o++bi (((w.getD i []).drop j).flatMap nW_))
 |0,j,m+1,o,hj,_,_=>by
  have e:(j:Int)=((w.getD i []).length:Int):=by omega
  have e2:(w.getD i []).drop j=[]:=List.drop_eq_nil_of_le (by omega)
  rw [aw_.turn10,aw_.step10,Int.toNat_natCast,kr_ hi,e,dN_,e2]
  simp [bi]
 |d+1,j,m+1,o,hj,hm,ho=>by
  have hjl:j<(w.getD i []).length:=by omega
  have ih:=fun o=>lC_ n k2 hi hl d (j+1) m o (by omega) (by omega)
  have e1:(w.getD i []).drop j=(w.getD i []).getD j 0::(w.getD i []).drop (j+1):=mH_ 0 hjl
  rw [aw_.turn10,aw_.step10,Int.toNat_natCast,Int.toNat_natCast,kr_ hi,kr_ hi,kr_ hi,kr_ hjl,kr_ hjl,dW_ hjl,W_up hjl (show (w.getD i []).length≤ci_ by simp only [ci_];omega),byte126,byte47,e1,List.flatMap_cons,bi_app,←List.append_assoc]
  generalize (w.getD i []).getD j 0=c
  rw [kY_ (by simp;omega),kY_ (by simp;omega),kY_ (by simp;omega)]
  unfold nW_
  by_cases h1:c=126
  · rw [decide_eq_true h1,if_pos h1]
    exact ih _ (by simp;omega)
  · by_cases h2:c=47
    · rw [decide_eq_false h1,decide_eq_true h2,if_neg h1,if_pos h2]
      exact ih _ (by simp;omega)
    · rw [decide_eq_false h1,decide_eq_false h2,if_neg h1,if_neg h2]
      exact ih _ (by simp;omega)
theorem i5_ {w:List Bs} (hw:w.length≤6) (hs:∀ s ∈ w,s.length≤60):Ev (fun n _=>aw_ n w) (FWay w):=by
 refine ao_ ?_
 have ht:w.length≤ci_:=by simp only [ci_];omega
 simp only [aw_]
 have:=eC_ (fun i=>bi (FWay (w.take i))) w.length (fun n N i (o:List Int)=>aw_.loop4 n (fun xy4=>(some (ly_ xy4))) N w (i:Int) o) (FWay w) (fun i hi F hF => ?_) ?_
 · exact this
 · have h1:=hs _ (cF_ [] hi)
   have h3:=lt_ (n2_ hs i)
   rw [List.length_take] at h3
   rw [nX_ hi] at hF
   generalize FWay (w.take i)=o at hF h3 ⊢
   have hb:=mO_ o
   simp only [aw_.turn4,aw_.step4,dW_ hi,cond_true,cg_]
   refine ⟨by simp [hb];omega,ev_of_ge 61 (fun n N hn=>lC_ n _ hi (by omega) (w.getD i []).length 0 n _ (by omega) (by omega) (by simp only [hb,List.length_append,List.length_cons,List.length_nil];omega)) ?_⟩
   simp only [W_up hi ht,List.drop_zero]
   have e:bi (o++47::(w.getD i []).flatMap nW_)=bi o++([47]:List Int)++bi ((w.getD i []).flatMap nW_):=by simp [bi]
   rw [e] at hF
   exact hF
 · simp only [aw_.turn4,aw_.step4,dN_,cond_false,List.take_length,ah_,toBs_bi]
end Go.Pi
end
section
namespace Go.Pi
def digs (u:Nat):Bs:=if u=0 then [] else Lib.decDigits u
theorem digs_step {u:Nat} (h:u≠0):digs u=digs (u / 10)++[UInt8.ofNat (48+u % 10)]:=by
 unfold digs
 rw [if_neg h,Lib.decDigits]
 by_cases h1:u<10
 · rw [dif_pos h1,if_pos (by omega),Nat.mod_eq_of_lt h1];rfl
 · rw [dif_neg h1,if_neg (by omega)]
theorem ox_ {d:Nat} (h:d<10):ly_ ([(IntKind.u8.wrap (W (48+(d:Int))))]:List Int)=[UInt8.ofNat (48+d)]:=by
 have e1:W (48+(d:Int))=((48+d:Nat):Int):=by rw [W_id (by omega) (by omega)];omega
 rw [e1]
 have e2:IntKind.u8.wrap (((48+d:Nat):Int))=((48+d:Nat):Int):=by
  have:d=0∨d=1∨d=2∨d=3∨d=4∨d=5∨d=6∨d=7∨d=8∨d=9:=by omega
  rcases this with rfl|rfl|rfl|rfl|rfl|rfl|rfl|rfl|rfl|rfl<;>rfl
 rw [e2]
 rfl
theorem eg_ {x:Int} (h0 : -9223372036854775808≤x) (h1:x≤9223372036854775807):Ev (fun n _=>aN_ n x) (Lib.itoa x):=by
 refine ao_ ?_
 simp only [aN_,ai_,ah_]
 refine ⟨fun h => ?_,fun h => ?_⟩
 · have:x=0:=by simpa using h
   subst this
   unfold Lib.itoa
   rw [if_neg (by decide)]
   show _=Lib.decDigits 0
   rw [Lib.decDigits_one (by decide)];rfl
 have hx0:x≠0:=by simpa using h
 have key:∀ (k:Nat) (y:Int) (out:Bs),y.natAbs<10 ^ k → -9223372036854775808≤y→y≤9223372036854775807→out.length+k≤100 →
   Ev (fun n N=>aN_.loop7 n (fun xy3 xy4=>(cond xy3 (cond (decide ([45].length+xy4.length≤9223372036854775807)) (some (([45]:Bs)++xy4)) none) (some xy4))) N y (decide (x<0)) out) (cond (decide (x<0)) ([45]++(digs y.natAbs++out)) (digs y.natAbs++out)):=by
  intro k
  induction k with
  |zero=>
   intro y out hy _ _ ho
   have:y=0:=by simp at hy;omega
   subst this
   refine do_ ?_
   simp only [aN_.turn7,aN_.step7,bne_self_eq_false,cond_false,ai_,ah_,dU_]
   refine ⟨fun hb=>⟨fun _=>by rw [hb];rfl,fun hc=>by have:=of_decide_eq_false hc;simp at this;omega⟩,fun hb=>by rw [hb];rfl⟩
  |succ k ih=>
   intro y out hy hy0 hy1 ho
   by_cases hz:y=0
   · subst hz
     refine do_ ?_
     simp only [aN_.turn7,aN_.step7,bne_self_eq_false,cond_false,ai_,ah_,dU_]
     refine ⟨fun hb=>⟨fun _=>by rw [hb];rfl,fun hc=>by have:=of_decide_eq_false hc;simp at this;omega⟩,fun hb=>by rw [hb];rfl⟩
   · have hm:(Int.tmod y 10).natAbs=y.natAbs % 10:=by rw [Int.natAbs_tmod];rfl
     have hd:(Int.tdiv y 10).natAbs=y.natAbs / 10:=by rw [Int.natAbs_tdiv];rfl
     have hW:W (Int.tdiv y 10)=Int.tdiv y 10:=W_id (by omega) (by omega)
     have hlt:y.natAbs % 10<10:=Nat.mod_lt _ (by decide)
     have hdl:(Int.tdiv y 10).natAbs<10 ^ k:=by rw [hd];rw [Nat.pow_succ] at hy;omega
     have hrec:=ih (Int.tdiv y 10) ([UInt8.ofNat (48+y.natAbs % 10)]++out) hdl (by omega) (by omega) (by simp;omega)
     have hdig:digs (Int.tdiv y 10).natAbs++([UInt8.ofNat (48+y.natAbs % 10)]++out)=digs y.natAbs++out:=by rw [hd,digs_step (show y.natAbs≠0 by omega),List.append_assoc]
     rw [hdig] at hrec
     have hne:(y != 0)=true:=by simpa using hz
     refine do_ ?_
     simp only [aN_.turn7,aN_.step7,hne,cond_true,ai_,dU_,hW]
     refine ⟨fun hneg => ?_,fun hneg => ?_⟩
     · have hneg:=of_decide_eq_true hneg
       have e:W (0 - Int.tmod y 10)=((y.natAbs % 10:Nat):Int):=by rw [W_id (by omega) (by omega)];omega
       rw [e,ox_ hlt]
       exact ⟨fun _=>hrec,fun hc=>by have:=of_decide_eq_false hc;simp at this;omega⟩
     · have hneg:=of_decide_eq_false hneg
       have e:Int.tmod y 10=((y.natAbs % 10:Nat):Int):=by omega
       rw [e,ox_ hlt]
       exact ⟨fun _=>hrec,fun hc=>by have:=of_decide_eq_false hc;simp at this;omega⟩
 have hfin:=key 19 x [] (by omega) h0 h1 (by simp)
 have hv:Lib.itoa x=cond (decide (x<0)) ([45]++(digs x.natAbs++[])) (digs x.natAbs++[]):=by
  unfold Lib.itoa digs
  rw [if_neg (show x.natAbs≠0 by omega)]
  by_cases hn:x<0
  · rw [if_pos hn,decide_eq_true hn];simp
  · rw [if_neg hn,decide_eq_false hn,cond_false,List.append_nil,show x.toNat=x.natAbs by omega]
 rw [hv]
 exact er_ hfin
theorem nN_ {x:Int} (h0 : -9223372036854775808≤x) (h1:x≤9223372036854775807):Ev (fun n _=>strconv_Itoa n x) (Lib.itoa x) :=
 ao_ (by simp only [strconv_Itoa,nItoa,ai_,ah_,dU_];exact ⟨fun _=>trivial,fun h=>by simp at h;omega⟩)
end Go.Pi
end
section
namespace Go.Pi
theorem join_snoc (x sep:Bs):∀ l:List Bs,Lib.join (l++[x]) sep=if l=[] then x else Lib.join l sep++sep++x
 |[]=>by rw [if_pos rfl];exact Lib.join_one x sep
 |y::l=>by
  rw [if_neg (by simp),List.cons_append,Lib.join_cons,Lib.join_cons]
  simp [Lib.joinTail]
theorem n4_ {α:Type} (f:α→Nat):∀ a b:List α,e6_ f (a++b)=e6_ f a+e6_ f b
 |[],b=>by simp [e6_]
 |x::a,b=>by simp only [List.cons_append,e6_,n4_ f a b];omega
theorem n3_ {α:Type} (f:α→Nat) (h:∀ x,1≤f x):∀ a:List α,a.length≤e6_ f a
 |[]=>Nat.le_refl _
 |x::a=>by have:=n3_ f h a;have:=h x;simp only [e6_,List.length_cons];omega
theorem FSize_pos:∀ (d:Nat) (j:aa_),1≤dt_ d j
 |0,_=>by simp only [dt_];omega
 |d+1,j=>by
  simp only [dt_]
  cases FOwn j<;>simp only [cond_true,cond_false]<;>omega
theorem jS_ {s:Bs} (h:iO_ s=true):s.length≤60:=by
 unfold iO_ at h
 rw [Bool.and_eq_true] at h
 have:=of_decide_eq_true h.2;omega
theorem is_ {l:List Bs} (h:iF_ l=true) {i:Nat} (hi:i<l.length):(l.getD i []).length≤60:=by
 have:=g1_.1 h i hi
 rw [Bool.and_eq_true] at this
 exact jS_ this.1
structure Own (j:aa_):Prop where
 kind:j.kind=0∨j.kind=1∨j.kind=2∨j.kind=3∨j.kind=4∨j.kind=5
 list:j.kind≠4→j.kind≠5→j.list=[]
 bool:j.kind=1→0≤j.n_∧j.n_≤1
 num:j.kind=2 → -1000000000≤j.n_∧j.n_≤1000000000
 text:j.kind=3→j.s.length≤60
 obj:j.kind=5→j.names.length=j.list.length∧iF_ j.names=true
theorem FOwn_own {j:aa_} (h:FOwn j=true):Own j:=by
 unfold FOwn FOwnK at h
 simp only [Bool.and_eq_true,Bool.or_eq_true] at h
 obtain ⟨h1,h2,h3,h4,h5⟩:=h
 refine ⟨?_,fun k4 k5 => ?_,fun hk => ?_,fun hk => ?_,fun hk => ?_,fun hk => ?_⟩
 · rcases jt_ j.kind with hk|hk|hk|hk|hk|hk|⟨k0,k1,k2,k3,k4,k5⟩
   · exact .inl hk
   · exact .inr (.inl hk)
   · exact .inr (.inr (.inl hk))
   · exact .inr (.inr (.inr (.inl hk)))
   · exact .inr (.inr (.inr (.inr (.inl hk))))
   · exact .inr (.inr (.inr (.inr (.inr hk))))
   · simp only [beq_eq_false_iff_ne.2 k0,beq_eq_false_iff_ne.2 k1,beq_eq_false_iff_ne.2 k2,beq_eq_false_iff_ne.2 k3,beq_eq_false_iff_ne.2 k4,beq_eq_false_iff_ne.2 k5,cond_false,Bool.or_false] at h5
     cases h5
 · rcases h1 with h1|h1|h1
   · exact List.eq_nil_of_length_eq_zero (of_decide_eq_true h1)
   · exact absurd (by simpa using h1) k4
   · exact absurd (by simpa using h1) k5
 · simp only [hk,Int.reduceBEq,cond_true,cond_false] at h5;exact hQ_ h5
 · simp only [hk,Int.reduceBEq,cond_true,cond_false] at h5;exact hQ_ h5
 · simp only [hk,Int.reduceBEq,cond_true,cond_false] at h5;exact jS_ h5
 · simp only [hk,Int.reduceBEq,cond_true,cond_false,Bool.and_eq_true] at h5
   exact ⟨by have:=h5.1;simp at this;omega,h5.2⟩
def fG_ (enc:aa_→Bs) (j:aa_) (i:Nat):Bs:=cond (j.kind == 5) (gN_ (j.names.getD i [])++([58]++enc (j.list.getD i aa_.dflt))) (enc (j.list.getD i aa_.dflt))
def gf_ (enc:aa_→Bs) (j:aa_) (m:Nat):Bs:=Lib.join ((List.range m).map (fG_ enc j)) [44]
def FEnc:Nat→aa_→Bs
 |0,_=>[]
 |d+1,j=>cond (j.kind == 0) [110,117,108,108] (cond (j.kind == 1) (cond (j.n_ == 1) [116,114,117,101] [102,97,108,115,101]) (cond (j.kind == 2) (Lib.itoa j.n_) (cond (j.kind == 3) (gN_ j.s)
   (cond (j.kind == 5) ([123]++gf_ (FEnc d) j j.list.length++[125]) ([91]++gf_ (FEnc d) j j.list.length++[93])))))
theorem h3_ (enc:aa_→Bs) (j:aa_):gf_ enc j 1=fG_ enc j 0:=Lib.join_one _ _
theorem g2_ (enc:aa_→Bs) (j:aa_) {m:Nat} (h:0<m):gf_ enc j (m+1)=gf_ enc j m++[44]++fG_ enc j m:=by
 unfold gf_
 rw [List.range_succ,List.map_append,List.map_cons,List.map_nil,join_snoc,if_neg]
 intro e
 have:=congrArg List.length e
 simp at this;omega
theorem fV_ {d:Nat} {j:aa_} (h:dt_ (d+1) j≤400):Own j∧dt_ (d+1) j=1+e6_ (dt_ d) j.list:=by
 simp only [dt_] at h ⊢
 cases ho:FOwn j with
 |false=>rw [ho,cond_false] at h;omega
 |true=>
  rw [ho,cond_true] at h
  exact ⟨FOwn_own ho,by rw [cond_true];omega⟩
theorem enc_len:∀ (d:Nat) (j:aa_),dt_ d j≤400→(FEnc d j).length+150≤300*dt_ d j
 |0,j,h=>by simp only [dt_] at h;omega
 |d+1,j,h=>by
  obtain ⟨ho,hs⟩:=fV_ h
  have hJ:∀ m,m≤j.list.length→(gf_ (FEnc d) j m).length≤300*e6_ (dt_ d) (j.list.take m):=by
   intro m
   induction m with
   |zero=>intro _;exact Nat.zero_le _
   |succ m ih=>
    intro hm
    have hi:m<j.list.length:=by omega
    have h1:=ih (by omega)
    have h2:=h7_ (dt_ d) (cF_ aa_.dflt hi)
    have h3:=enc_len d (j.list.getD m aa_.dflt) (by omega)
    have h4:(fG_ (FEnc d) j m).length≤123+(FEnc d (j.list.getD m aa_.dflt)).length:=by
     unfold fG_
     cases hk:(j.kind == 5) with
     |false=>rw [cond_false];omega
     |true=>
      obtain ⟨e1,e2⟩:=ho.obj (by simpa using hk)
      have:=is_ e2 (i:=m) (by omega)
      have:=fR_ (j.names.getD m [])
      rw [cond_true];simp only [List.length_append,List.length_cons,List.length_nil];omega
    rw [eb_ aa_.dflt hi,n4_]
    simp only [e6_,Nat.mul_add]
    by_cases h0:m=0
    · subst h0;rw [h3_];omega
    · rw [g2_ _ _ (by omega)];simp only [List.length_append,List.length_cons,List.length_nil];omega
  have hL:=hJ j.list.length (Nat.le_refl _)
  rw [List.take_length] at hL
  rw [hs]
  rcases ho.kind with hk|hk|hk|hk|hk|hk
  · simp only [FEnc,hk,Int.reduceBEq,cond_true,cond_false,List.length_cons,List.length_nil];omega
  · simp only [FEnc,hk,Int.reduceBEq,cond_true,cond_false]
    cases (j.n_ == 1)<;>simp only [cond_true,cond_false,List.length_cons,List.length_nil]<;>omega
  · have:=ho.num hk
    have:=Lib.itoa_length_le j.n_ (by omega) (by omega)
    simp only [FEnc,hk,Int.reduceBEq,cond_true,cond_false];omega
  · have:=ho.text hk
    have:=fR_ j.s
    simp only [FEnc,hk,Int.reduceBEq,cond_true,cond_false];omega
  · simp only [FEnc,hk,Int.reduceBEq,cond_true,cond_false,List.length_append,List.length_cons,List.length_nil];omega
  · simp only [FEnc,hk,Int.reduceBEq,cond_true,cond_false,List.length_append,List.length_cons,List.length_nil];omega
structure Part (d:Nat) (j:aa_) (i:Nat):Prop where
 size:dt_ d (j.list.getD i aa_.dflt)≤400
 enc:(FEnc d (j.list.getD i aa_.dflt)).length≤120000
 name:j.kind=5→i<j.names.length∧(j.names.getD i []).length≤60
theorem je_ {d:Nat} {j:aa_} (h:dt_ (d+1) j≤400) {i:Nat} (hi:i<j.list.length):Part d j i:=by
 obtain ⟨ho,hs⟩:=fV_ h
 have h2:=h7_ (dt_ d) (cF_ aa_.dflt hi)
 have h3:=enc_len d (j.list.getD i aa_.dflt) (by omega)
 exact ⟨by omega,by omega,fun hk=>⟨by have:=(ho.obj hk).1;omega,is_ (ho.obj hk).2 (by have:=(ho.obj hk).1;omega)⟩⟩
theorem lb_ {d:Nat} {j:aa_} (h:dt_ (d+1) j≤400):∀ m,m≤j.list.length→(gf_ (FEnc d) j m).length≤m*120200:=by
 intro m
 induction m with
 |zero=>intro _;exact Nat.zero_le _
 |succ m ih=>
  intro hm
  have hp:=je_ h (i:=m) (by omega)
  have h1:=ih (by omega)
  have h4:(fG_ (FEnc d) j m).length≤123+120000:=by
   have:=hp.enc
   unfold fG_
   cases hk:(j.kind == 5) with
   |false=>rw [cond_false];omega
   |true=>
    have:=(hp.name (by simpa using hk)).2
    have:=fR_ (j.names.getD m [])
    rw [cond_true];simp only [List.length_append,List.length_cons,List.length_nil];omega
  by_cases h0:m=0
  · subst h0;rw [h3_];omega
  · rw [g2_ _ _ (by omega)];simp only [List.length_append,List.length_cons,List.length_nil];omega
theorem gU_ {d:Nat} {j:aa_} (h:dt_ (d+1) j≤400):j.list.length≤400:=by
 have:=(fV_ h).2
 have:=n3_ (dt_ d) (FSize_pos d) j.list
 omega
end Go.Pi
end
section
namespace Go.Pi
theorem gj_:∀ (d:Nat) (j:aa_),dt_ d j≤400→Ev (fun n _=>aE_ n j) (FEnc d j)
 |0,j,h=>by simp only [dt_] at h;omega
 |d+1,j,h=>by
  have ho:=(fV_ h).1
  have hll:=gU_ h
  refine ao_ ?_
  have hloop:(j.kind=4∨j.kind=5)→∀ (K:Nat→Bs→Int→Int→Bs→List aa_→List Bs→Option Bs) (v:Bs),Ev (fun n N=>K n (gf_ (FEnc d) j j.list.length) j.kind j.n_ j.s j.list j.names) v→Ev (fun n _=>aE_.loop17 n (aE_ n) (K n) n [] 0 j.kind j.n_ j.s j.list j.names) v:=by
   intro hk45 K v hK
   refine eC_ (fun i=>gf_ (FEnc d) j i) j.list.length (fun n N i (o:Bs)=>aE_.loop17 n (aE_ n) (K n) N o (i:Int) j.kind j.n_ j.s j.list j.names) v (fun i hi F hF => ?_) ?_
   · have hp:=je_ h hi
     have hx:=gj_ d (j.list.getD i aa_.dflt) hp.size
     have hjl:=lb_ h i (by omega)
     have he:=hp.enc
     have hW:=W_up hi (show j.list.length≤ci_ by simp only [ci_];omega)
     rcases hk45 with hk|hk
     · have h5:(j.kind == 5)=false:=by rw [hk];rfl
       by_cases h0:i=0
       · have hg:decide ((i:Int) > 0)=false:=decide_eq_false (by omega)
         have e0:gf_ (FEnc d) j i=[]:=by rw [h0];rfl
         have e1:gf_ (FEnc d) j (i+1)=fG_ (FEnc d) j i:=by rw [h0];exact h3_ _ _
         rw [e1] at hF
         unfold fG_ at hF
         rw [h5,cond_false] at hF
         simp only [e0,aE_.turn17,aE_.step17,b3_,Int.toNat_natCast,hW,h5,hg,reduceCtorEq,false_implies,true_implies,true_and,and_true,ai_,bT_,dU_,dW_ hi,dx_ hi,ae_ hx,List.nil_append]
         generalize FEnc d (j.list.getD i aa_.dflt)=x at hF he ⊢
         repeat' (first|apply And.intro|intro _)
         all_goals (first|contradiction|exact hF|trivial|(rename_i hc;have hc:=of_decide_eq_false hc;simp only [List.length_append,List.length_cons,List.length_nil] at hc;omega))
       · rw [g2_ _ _ (by omega)] at hF
         unfold fG_ at hF
         rw [h5,cond_false] at hF
         have hg:decide ((i:Int) > 0)=true:=decide_eq_true (by omega)
         simp only [aE_.turn17,aE_.step17,b3_,Int.toNat_natCast,hW,h5,hg,ai_,bT_,dU_,dW_ hi,dx_ hi,ae_ hx]
         generalize FEnc d (j.list.getD i aa_.dflt)=x at hF he ⊢
         generalize gf_ (FEnc d) j i=o at hF hjl ⊢
         repeat' (first|apply And.intro|intro _)
         all_goals (first|contradiction|exact hF|trivial|(rename_i hc;have hc:=of_decide_eq_false hc;simp only [List.length_append,List.length_cons,List.length_nil] at hc;omega))
     · have h5:(j.kind == 5)=true:=by rw [hk];rfl
       have hn:=hp.name hk
       have hq:=gr_ (s:=j.names.getD i []) (by omega)
       have hql:=fR_ (j.names.getD i [])
       by_cases h0:i=0
       · have hg:decide ((i:Int) > 0)=false:=decide_eq_false (by omega)
         have e0:gf_ (FEnc d) j i=[]:=by rw [h0];rfl
         have e1:gf_ (FEnc d) j (i+1)=fG_ (FEnc d) j i:=by rw [h0];exact h3_ _ _
         rw [e1] at hF
         unfold fG_ at hF
         rw [h5,cond_true] at hF
         simp only [e0,aE_.turn17,aE_.step17,b3_,Int.toNat_natCast,hW,h5,hg,reduceCtorEq,false_implies,true_implies,true_and,and_true,ai_,bT_,dU_,dW_ hi,dx_ hi,dx_ hn.1,ae_ hx,ae_ hq,List.nil_append]
         generalize FEnc d (j.list.getD i aa_.dflt)=x at hF he ⊢
         generalize gN_ (j.names.getD i [])=y at hF hql ⊢
         rw [←List.append_assoc] at hF
         repeat' (first|apply And.intro|intro _)
         all_goals (first|contradiction|exact hF|trivial|(rename_i hc;have hc:=of_decide_eq_false hc;simp only [List.length_append,List.length_cons,List.length_nil] at hc;omega))
       · rw [g2_ _ _ (by omega)] at hF
         unfold fG_ at hF
         rw [h5,cond_true] at hF
         have hg:decide ((i:Int) > 0)=true:=decide_eq_true (by omega)
         simp only [aE_.turn17,aE_.step17,b3_,Int.toNat_natCast,hW,h5,hg,ai_,bT_,dU_,dW_ hi,dx_ hi,dx_ hn.1,ae_ hx,ae_ hq]
         generalize FEnc d (j.list.getD i aa_.dflt)=x at hF he ⊢
         generalize gN_ (j.names.getD i [])=y at hF hql ⊢
         generalize gf_ (FEnc d) j i=o at hF hjl ⊢
         rw [←List.append_assoc,←List.append_assoc] at hF
         repeat' (first|apply And.intro|intro _)
         all_goals (first|contradiction|exact hF|trivial|(rename_i hc;have hc:=of_decide_eq_false hc;simp only [List.length_append,List.length_cons,List.length_nil] at hc;omega))
   · simp only [aE_.turn17,aE_.step17,dN_,cond_false]
     exact hK
  have hjl:=lb_ h j.list.length (Nat.le_refl _)
  simp only [aE_,b3_]
  rcases ho.kind with hk|hk|hk|hk|hk|hk
  · simp only [FEnc,hk,Int.reduceBEq,cond_true,ah_]
  · simp only [FEnc,hk,Int.reduceBEq,cond_true,cond_false,ai_,ah_]
    cases (j.n_ == 1)<;>simp
  · have hn:=ho.num hk
    simp only [FEnc,hk,Int.reduceBEq,cond_true,cond_false,ae_ (eg_ (x:=j.n_) (by omega) (by omega)),ah_]
  · have hs:=ho.text hk
    simp only [FEnc,hk,Int.reduceBEq,cond_true,cond_false,ae_ (gr_ (s:=j.s) (by omega)),ah_]
  all_goals (
   have e0:(j.kind == 0)=false:=by rw [hk];rfl
   have e1:(j.kind == 1)=false:=by rw [hk];rfl
   have e2:(j.kind == 2)=false:=by rw [hk];rfl
   have e3:(j.kind == 3)=false:=by rw [hk];rfl
   simp only [FEnc,e0,e1,e2,e3,cond_false]
   refine hloop (by omega) _ _ ?_
   generalize gf_ (FEnc d) j j.list.length=o at hjl ⊢
   simp only [hk,Int.reduceBEq,cond_true,cond_false,ai_,ah_,dU_]
   refine ⟨fun _=>⟨fun _=>trivial,fun hc => ?_⟩,fun hc => ?_⟩
   · have hc:=of_decide_eq_false hc
     simp only [List.length_append,List.length_cons,List.length_nil] at hc;omega
   · have hc:=of_decide_eq_false hc
     simp only [List.length_append,List.length_cons,List.length_nil] at hc;omega)
theorem Join_ev {l:List Bs} {sep:Bs} (hl:l.length≤1000000) (hj:(Lib.join l sep).length≤1000000000):Ev (fun n _=>strings_Join n l sep) (Lib.join l sep):=by
 refine ao_ ?_
 simp only [strings_Join,nJoin,ai_,ah_,dU_]
 refine ⟨fun _=>trivial,fun h => ?_⟩
 rw [decide_eq_true (by omega),decide_eq_true (by omega)] at h;cases h
theorem gB_:∀ (d:Nat) (j:aa_),dt_ d j≤400→Ev (fun n _=>aQ_ n j) (FEnc d j)
 |0,j,h=>by simp only [dt_] at h;omega
 |d+1,j,h=>by
  have ho:=(fV_ h).1
  have hll:=gU_ h
  refine ao_ ?_
  have hloop:∀ (K:Nat→Int→Int→Bs→List aa_→List Bs→List Bs→Option Bs) (v:Bs),Ev (fun n N=>K n j.kind j.n_ j.s j.list j.names ((List.range j.list.length).map (fG_ (FEnc d) j))) v→Ev (fun n _=>aQ_.loop4 n (aQ_ n) (K n) n j.list (j.list.length:Int) 0 j.kind j.n_ j.s j.list j.names []) v:=by
   intro K v hK
   refine eC_ (fun i=>(List.range i).map (fG_ (FEnc d) j)) j.list.length (fun n N i (o:List Bs)=>aQ_.loop4 n (aQ_ n) (K n) N j.list (j.list.length:Int) (i:Int) j.kind j.n_ j.s j.list j.names o) v (fun i hi F hF => ?_) ?_
   · have hp:=je_ h hi
     have hx:=gB_ d (j.list.getD i aa_.dflt) hp.size
     have he:=hp.enc
     have hW:=W_up hi (show j.list.length≤ci_ by simp only [ci_];omega)
     have hol:((List.range i).map (fG_ (FEnc d) j)).length=i:=by simp
     rw [List.range_succ,List.map_append,List.map_cons,List.map_nil] at hF
     unfold fG_ at hF
     cases h5:(j.kind == 5) with
     |false=>
      simp only [h5,cond_false] at hF
      unfold fG_ at hol ⊢
      simp only [h5,cond_false] at hol ⊢
      simp only [aQ_.turn4,aQ_.step4,b3_,Int.toNat_natCast,hW,h5,cond_false,ai_,bT_,dU_,cg_,dW_ hi,dx_ hi,ae_ hx]
      generalize FEnc d (j.list.getD i aa_.dflt)=x at hF he ⊢
      generalize (List.range i).map _=o at hF hol ⊢
      exact ⟨fun _=>⟨trivial,by simp;omega,hF⟩,fun h=>(by cases h)⟩
     |true=>
      have hn:=hp.name (by simpa using h5)
      have hq:=hd_ (s:=j.names.getD i []) (by omega)
      have hql:=fR_ (j.names.getD i [])
      simp only [h5,cond_true] at hF
      unfold fG_ at hol ⊢
      simp only [h5,cond_true] at hol ⊢
      simp only [aQ_.turn4,aQ_.step4,b3_,Int.toNat_natCast,hW,h5,cond_true,ai_,bT_,dU_,cg_,dW_ hi,dx_ hi,dx_ hn.1,ae_ hx,ae_ hq]
      generalize FEnc d (j.list.getD i aa_.dflt)=x at hF he ⊢
      generalize gN_ (j.names.getD i [])=y at hF hql ⊢
      generalize (List.range i).map _=o at hF hol ⊢
      rw [←List.append_assoc] at hF
      repeat' (first|apply And.intro|intro _)
      all_goals (first|contradiction|exact hF|trivial|(rename_i hc;have hc:=of_decide_eq_false hc;simp only [List.length_append,List.length_cons,List.length_nil] at hc;omega)|(simp;omega))
   · simp only [aQ_.turn4,aQ_.step4,dN_,cond_false]
     exact hK
  have hjl:=lb_ h j.list.length (Nat.le_refl _)
  have hJ:=Join_ev (l:=(List.range j.list.length).map (fG_ (FEnc d) j)) (sep:=[44]) (by simp;omega) (by unfold gf_ at hjl;omega)
  simp only [aQ_,b3_]
  refine hloop _ _ ?_
  rcases ho.kind with hk|hk|hk|hk|hk|hk
  · simp only [FEnc,hk,Int.reduceBEq,cond_true,ah_]
  · have hb:=ho.bool hk
    simp only [FEnc,hk,Int.reduceBEq,cond_true,cond_false,bT_,ah_]
    have:j.n_=0∨j.n_=1:=by omega
    rcases this with e|e<;>rw [e]<;>exact ⟨⟨by decide,by decide⟩,rfl⟩
  · have hn:=ho.num hk
    simp only [FEnc,hk,Int.reduceBEq,cond_true,cond_false,ae_ (nN_ (x:=j.n_) (by omega) (by omega)),ah_]
  · have hs:=ho.text hk
    simp only [FEnc,hk,Int.reduceBEq,cond_true,cond_false,ae_ (hd_ (s:=j.s) (by omega)),ah_]
  all_goals (
   simp only [FEnc,hk,Int.reduceBEq,cond_true,cond_false,ae_ hJ]
   unfold gf_ at hjl ⊢
   generalize Lib.join ((List.range j.list.length).map (fG_ (FEnc d) j)) [44]=o at hjl ⊢
   simp only [ai_,ah_,dU_]
   refine ⟨fun _=>⟨fun _=>trivial,fun hc => ?_⟩,fun hc => ?_⟩
   · have hc:=of_decide_eq_false hc
     simp only [List.length_append,List.length_cons,List.length_nil] at hc;omega
   · have hc:=of_decide_eq_false hc
     simp only [List.length_append,List.length_cons,List.length_nil] at hc;omega)
def gg_ (j:aa_):Bs:=cond (dv_ j) (cond (decide (((FEnc 6 j).length:Int) > 6000)) [] (FEnc 6 j)) []
theorem hb_ {j:aa_} (h:fB_ 6 j):Ev (fun n _=>cX_ n j) (gg_ j):=by
 refine ao_ ?_
 simp only [cX_,b3_,ae_ (d3_ h),ai_,ah_,gg_]
 cases hj:dv_ j with
 |false=>simp
 |true=>
  simp only [ae_ (gj_ 6 j (of_decide_eq_true hj)),ai_,ah_]
  cases decide (((FEnc 6 j).length:Int) > 6000)<;>simp
theorem fD_ {j:aa_} (h:fB_ 6 j):Ev (fun n _=>c6_ n j) (gg_ j):=by
 refine ao_ ?_
 simp only [c6_,b3_,ae_ (ek_ h),ai_,ah_,gg_]
 cases hj:dv_ j with
 |false=>simp
 |true=>
  simp only [ae_ (gB_ 6 j (of_decide_eq_true hj)),ai_,ah_]
  cases decide (((FEnc 6 j).length:Int) > 6000)<;>simp
end Go.Pi
end
section
namespace Go.Pi
def ep_ (ns:List Bs) (x:Bs):Nat:=ns.findIdx (fun y => !Op.bytesLess y x)
def fJ_ (ns:List Bs) (x:Bs):Nat:=if ns.getD (ep_ ns x) []=x∧ep_ ns x<ns.length then ep_ ns x+1 else ep_ ns x
def mY_ {α:Type} (ns:List Bs) (x:Bs) (l:List α) (y:α):List α:=l.take (ep_ ns x)++[y]++l.drop (fJ_ ns x)
theorem gS_ {α:Type} (d:α) {a m:List α} {i q:Nat} (p:Nat) (hi:i<a.length) (h:q≤i):a.take p++m++(a.take (i+1)).drop q=a.take p++m++(a.take i).drop q++[a.getD i d]:=by
 rw [eb_ d hi,List.drop_append_of_le_length (by simp;omega)]
 simp
theorem put_idx {ns:List Bs} {x:Bs} {i:Nat} (hi:i<ns.length) (hle:i≤ep_ ns x):(!Op.bytesLess (ns.getD i []) x)=decide (i=ep_ ns x):=by
 rw [List.getD_eq_getElem?_getD,List.getElem?_eq_getElem hi,Option.getD_some]
 unfold ep_ at hle ⊢
 by_cases h:i=ns.findIdx (fun y => !Op.bytesLess y x)
 · rw [decide_eq_true h]
   have:=List.findIdx_getElem (xs:=ns) (p:=fun y => !Op.bytesLess y x) (w:=by omega)
   simp only [←h] at this
   exact this
 · rw [decide_eq_false h]
   exact List.not_of_lt_findIdx (xs:=ns) (p:=fun y => !Op.bytesLess y x) (i:=i) (by omega)
theorem hB_ {o j:aa_} {x:Bs} (hk:o.names.length≤2000000) (he:o.list.length=o.names.length) (hlt:∀ y,Op.bytesLess y x=true→(y == x)=false) (hne:∀ i,fJ_ o.names x≤i→i<o.names.length→(o.names.getD i [] == x)=false) :
  Ev (fun n _=>bz_ n o x j) (aa_.mk 5 0 [] (mY_ o.names x o.list j) (mY_ o.names x o.names x)):=by
 refine ao_ ?_
 have ht:o.names.length≤ci_:=by simp only [ci_];omega
 obtain ⟨p,hp⟩:∃ p,p=ep_ o.names x:=⟨_,rfl⟩
 have hpl:p≤o.names.length:=by rw [hp];exact List.findIdx_le_length
 obtain ⟨q,hq⟩:∃ q,q=fJ_ o.names x:=⟨_,rfl⟩
 have hqp:p≤q∧q≤p+1:=by rw [hq,hp];unfold fJ_;split<;>omega
 have hT:o.list.take o.names.length=o.list:=List.take_of_length_le (by omega)
 let S:Nat→Bool × List aa_ × List Bs:=fun i=>if i≤p then (false,o.list.take i,o.names.take i) else (true,o.list.take p++[j]++(o.list.take i).drop q,o.names.take p++[x]++(o.names.take i).drop q)
 have hS0:S 0=(false,[],[]):=by simp [S]
 simp only [bz_]
 have:=eC_ S o.names.length (fun n N i (s:Bool × List aa_ × List Bs)=>bz_.loop5 n (fun xy1 xy2 xy3 xy4 xy5 xy6 xy7 xy8 xy9 xy10 xy11 xy12 xy13 xy14 xy15=>(cond (!xy2) (cJ_ (xy15.length+([xy1]:List Bs).length) 16 (cJ_ (xy14.length+([(aa_.mk xy3 xy4 xy5 xy6 xy7)]:List aa_).length) 80 (some (aa_.mk xy11 xy12 xy13 (xy14++([(aa_.mk xy3 xy4 xy5 xy6 xy7)]:List aa_)) (xy15++([xy1]:List Bs)))))) (some (aa_.mk xy11 xy12 xy13 xy14 xy15)))) N x s.1 (i:Int) o.kind o.n_ o.s o.list o.names j.kind j.n_ j.s j.list j.names 0 0 [] 5 0 [] s.2.1 s.2.2)
  (aa_.mk 5 0 [] (mY_ o.names x o.list j) (mY_ o.names x o.names x)) (fun i hi F hF => ?_) ?_
 · rw [hS0] at this;exact this
 · have hx:=put_idx (ns:=o.names) (x:=x) hi
   rw [←hp] at hx
   have hln:(S i).2.2.length≤o.names.length+1:=by simp only [S];split<;>simp<;>omega
   have hll:(S i).2.1.length≤o.names.length+1:=by simp only [S];split<;>simp<;>omega
   have hil:i<o.list.length:=by omega
   simp only [bz_.turn5,bz_.step5,eY_,b3_,Int.toNat_natCast,W_up hi ht,ai_,bT_,cg_,dW_ hi,dx_ hi,dx_ hil]
   by_cases hle:i≤p
   · have s1:S i=(false,o.list.take i,o.names.take i):=by simp only [S,if_pos hle]
     rw [s1] at hln hll ⊢
     by_cases e:i=p
     · have hb:(!Op.bytesLess (o.names.getD i []) x)=true:=by rw [hx hle];exact decide_eq_true e
       subst e
       by_cases hs:o.names.getD i []=x
       · have hqv:q=i+1:=by rw [hq];unfold fJ_;rw [←hp,if_pos ⟨hs,hi⟩]
         have s2:S (i+1)=(true,o.list.take i++[j],o.names.take i++[x]):=by
          simp only [S,if_neg (show ¬ i+1≤i by omega)]
          rw [List.drop_eq_nil_of_le (by simp;omega),List.drop_eq_nil_of_le (by simp;omega),List.append_nil,List.append_nil]
         rw [s2] at hF
         have hs':(o.names.getD i [] == x)=true:=by simpa using hs
         simp only [hb,hs',cond_true,cond_false,Bool.not_true,Bool.not_false]
         repeat' (first|apply And.intro|intro _)
         all_goals (first|contradiction|exact hF|trivial|(simp;omega))
       · have hqv:q=i:=by rw [hq];unfold fJ_;rw [←hp,if_neg (fun h=>hs h.1)]
         have s2:S (i+1)=(true,o.list.take i++[j]++[o.list.getD i aa_.dflt],o.names.take i++[x]++[o.names.getD i []]):=by
          simp only [S,if_neg (show ¬ i+1≤i by omega),hqv]
          rw [gS_ aa_.dflt i hil (Nat.le_refl _),gS_ [] i hi (Nat.le_refl _),List.drop_eq_nil_of_le (by simp;omega),List.drop_eq_nil_of_le (by simp;omega),List.append_nil,List.append_nil]
         rw [s2] at hF
         have hs':(o.names.getD i [] == x)=false:=by simpa using hs
         simp only [hb,hs',cond_true,cond_false,Bool.not_true,Bool.not_false]
         repeat' (first|apply And.intro|intro _)
         all_goals (first|contradiction|exact hF|trivial|(simp;omega))
     · have hb:(!Op.bytesLess (o.names.getD i []) x)=false:=by rw [hx hle];exact decide_eq_false e
       have hs':(o.names.getD i [] == x)=false:=hlt (o.names.getD i []) (by rw [Bool.not_eq_false'] at hb;exact hb)
       have s2:S (i+1)=(false,o.list.take i++[o.list.getD i aa_.dflt],o.names.take i++[o.names.getD i []]):=by
        simp only [S,if_pos (show i+1≤p by omega),eb_ aa_.dflt hil,eb_ [] hi]
       rw [s2] at hF
       simp only [hb,hs',cond_true,cond_false,Bool.not_true,Bool.not_false]
       repeat' (first|apply And.intro|intro _)
       all_goals (first|contradiction|exact hF|trivial|(simp;omega))
   · have s1:S i=(true,o.list.take p++[j]++(o.list.take i).drop q,o.names.take p++[x]++(o.names.take i).drop q):=by simp only [S,if_neg hle]
     have s2:S (i+1)=(true,o.list.take p++[j]++(o.list.take i).drop q++[o.list.getD i aa_.dflt],o.names.take p++[x]++(o.names.take i).drop q++[o.names.getD i []]):=by
      simp only [S,if_neg (show ¬ i+1≤p by omega)]
      rw [gS_ aa_.dflt p hil (by omega),gS_ [] p hi (by omega)]
     have hs':=hne i (by omega) hi
     rw [s1] at hln hll ⊢
     rw [s2] at hF
     simp only [hs',cond_true,cond_false,Bool.not_true,Bool.not_false]
     repeat' (first|apply And.intro|intro _)
     all_goals (first|contradiction|exact hF|trivial|(simp at hln hll ⊢;omega))
 · simp only [bz_.turn5,bz_.step5,eY_,dN_,cond_false,ai_,cg_,ah_]
   unfold mY_
   rw [←hp,←hq]
   by_cases hle:o.names.length≤p
   · have e:p=o.names.length:=by omega
     have hqv:q=p:=by rw [hq];unfold fJ_;rw [←hp,if_neg (fun h=>by omega)]
     have s1:S o.names.length=(false,o.list,o.names):=by simp only [S,if_pos hle,List.take_length];rw [List.take_of_length_le (by omega)]
     rw [s1,hqv,e,List.take_of_length_le (l:=o.list) (by omega),List.drop_eq_nil_of_le (show o.list.length≤o.names.length by omega),List.take_length,List.drop_length]
     refine ⟨fun _=>⟨by simp;omega,by simp;omega,by simp⟩,fun h=>(by cases h)⟩
   · have s1:S o.names.length=(true,o.list.take p++[j]++o.list.drop q,o.names.take p++[x]++o.names.drop q):=by simp only [S,if_neg hle,List.take_length];rw [hT]
     rw [s1]
     exact ⟨fun h=>(by cases h),fun _=>rfl⟩
end Go.Pi
end
section
namespace Go.Pi
theorem fj_:∀ (x y:Bs),Op.bytesLess x y=decide (x<y)
 |[],[]=>by simp [Op.bytesLess]
 |_::_,[]=>by simp [Op.bytesLess]
 |[],_::_=>by simp [Op.bytesLess]
 |a::x,b::y=>by
  rw [Op.bytesLess,fj_ x y]
  simp only [List.cons_lt_cons_iff]
  by_cases h1:a<b<;>by_cases h2:a=b<;>by_cases h3:x<y<;>simp [h1,h2,h3]
theorem less_ne {x y:Bs} (h:Op.bytesLess y x=true):(y == x)=false:=by
 rw [fj_] at h
 exact beq_eq_false_iff_ne.2 fun e=>by subst e;exact List.lt_irrefl y (of_decide_eq_true h)
end Go.Pi
end
section
namespace Go.Pi
def hj_:aa_:=aa_.mk 0 0 [] [] []
def dV_ (j:aa_):aa_:=cond (dv_ j) j hj_
theorem hK_ {j:aa_} (h:fB_ 6 j):Ev (fun n _=>cq_ n j) (dV_ j):=by
 refine ao_ ?_
 simp only [cq_,b3_,ae_ (ek_ h),ai_,ah_,dV_,hj_]
 cases dv_ j<;>simp
end Go.Pi
end
section
namespace Go.Pi
theorem jj_ {d:Nat} {j:aa_} (h:dt_ (d+1) j≤400):j.names.length≤400:=by
 have h1:=gU_ h
 have ho:=(fV_ h).1
 by_cases hk:j.kind=5
 · have:=(ho.obj hk).1;omega
 · have:FOwn j=true:=by
    simp only [dt_] at h
    cases hf:FOwn j with
    |true=>rfl
    |false=>rw [hf,cond_false] at h;omega
   unfold FOwn at this
   simp only [Bool.and_eq_true,Bool.or_eq_true] at this
   rcases this.2.1 with h2|h2
   · have:=of_decide_eq_true h2;omega
   · exact absurd (by simpa using h2) hk
theorem ex_:∀ (d:Nat) (j:aa_),dt_ d j≤400→Ev (fun n _=>aI_ n j) j
 |0,j,h=>by simp only [dt_] at h;omega
 |d+1,j,h=>by
  have hll:=gU_ h
  have hnl:=jj_ h
  refine ao_ ?_
  have hc:Ev (fun n _=>bV_ n j.names) j.names:=ao_ (by simp only [bV_,cg_,ah_,List.nil_append,List.length_nil,and_true];omega)
  simp only [aI_,ae_ hc]
  have:=eC_ (fun i=>j.list.take i) j.list.length (fun n N i (o:List aa_)=>aI_.loop4 n (aI_ n) (fun xy3 xy4 xy5 xy6 xy7 xy8 xy9 xy10=>(some (aa_.mk xy6 xy7 xy8 xy9 xy10))) N j.list (j.list.length:Int) (i:Int) 0 0 [] j.kind j.n_ j.s o j.names) j (fun i hi F hF => ?_) ?_
  · exact this
  · have hp:=je_ h hi
    have hx:=ex_ d (j.list.getD i aa_.dflt) hp.size
    rw [eb_ aa_.dflt hi] at hF
    simp only [aI_.turn4,aI_.step4,b3_,Int.toNat_natCast,W_up hi (show j.list.length≤ci_ by simp only [ci_];omega),ai_,bT_,cg_,dW_ hi,dx_ hi,ae_ hx]
    exact ⟨fun _=>⟨trivial,by simp;omega,hF⟩,fun h=>(by cases h)⟩
  · simp only [aI_.turn4,aI_.step4,dN_,cond_false,List.take_length,ah_,eY_]
theorem eV_:∀ (d:Nat) (j:aa_),dt_ d j≤400→Ev (fun n _=>a7_ n j) j
 |0,j,h=>by simp only [dt_] at h;omega
 |d+1,j,h=>by
  have hll:=gU_ h
  have hnl:=jj_ h
  refine ao_ ?_
  simp only [a7_,cg_,List.nil_append,List.length_nil]
  refine ⟨by omega,?_⟩
  have:=eC_ (fun i=>j.list.take i) j.list.length (fun n N i (o:List aa_)=>a7_.loop4 n (a7_ n) (fun xy2 xy3 xy4 xy5 xy6 xy7 xy8 xy9=>(some (aa_.mk xy5 xy6 xy7 xy8 xy9))) N (i:Int) j.kind j.n_ j.s j.list j.names 0 0 [] j.kind j.n_ j.s o j.names) j (fun i hi F hF => ?_) ?_
  · exact this
  · have hp:=je_ h hi
    have hx:=eV_ d (j.list.getD i aa_.dflt) hp.size
    rw [eb_ aa_.dflt hi] at hF
    simp only [a7_.turn4,a7_.step4,b3_,Int.toNat_natCast,W_up hi (show j.list.length≤ci_ by simp only [ci_];omega),ai_,bT_,cg_,dW_ hi,dx_ hi,ae_ hx]
    exact ⟨fun _=>⟨trivial,by simp;omega,hF⟩,fun h=>(by cases h)⟩
  · simp only [a7_.turn4,a7_.step4,dN_,cond_false,List.take_length,ah_,eY_]
def nR_ (j:aa_):Bool:=(j.kind == 0)&&((j.n_ == 0)&&((j.s == [])&&(decide (j.list.length=0)&&decide (j.names.length=0))))
theorem len_zero {α:Type} (l:List α):((l.length:Int) == 0)=decide (l.length=0):=by
 by_cases h:l.length=0
 · rw [h];rfl
 · rw [decide_eq_false h];simp;intro e;exact h (by rw [e];rfl)
theorem j3_ {j:aa_}:Ev (fun n _=>c5_ n j) (nR_ j):=by
 refine ao_ ?_
 simp only [c5_,ai_,ah_,nR_,len_zero]
 cases (j.kind == 0)<;>cases (j.n_ == 0)<;>cases (j.s == [])<;>cases decide (j.list.length=0)<;>simp
theorem ps_ (d:Nat) (j:aa_):eu_ (d+1) j hj_=nR_ j:=by
 simp only [eu_,hj_,ir_,nR_,List.length_nil]
 by_cases h1:j.names.length=0
 · by_cases h2:j.list.length=0
   · rw [h1,h2];simp [iq_,fl_]
   · have h2:j.list≠[]:=fun e=>h2 (by rw [e];rfl)
     simp [h2]
 · have h1:j.names≠[]:=fun e=>h1 (by rw [e];rfl)
   simp [h1]
def oH_ (w:List Bs):Bool:=iq_ (fun i=>iO_ (w.getD i [])) w.length
def jT_ (o:TOp):Bool:=inn o.kind 1 4&&(decide (o.way.length≤6)&&(dv_ o.value&&(oH_ o.way&&((o.kind != 2)||nR_ o.value))))
def nh_ (o:TOp):Prop:=lenNs ci_ o.way∧fB_ 6 o.value
theorem jg_ (o:TOp):TOp.mk o.kind o.way o.value=o:=rfl
theorem gt_le {n:Nat}:decide ((n:Int) > 6) = !decide (n≤6):=by
 by_cases h:n≤6
 · rw [decide_eq_true h,decide_eq_false (by omega)];rfl
 · rw [decide_eq_false h,decide_eq_true (by omega)];rfl
theorem le_le {n:Nat}:decide ((n:Int)≤6)=decide (n≤6):=by
 by_cases h:n≤6
 · rw [decide_eq_true h,decide_eq_true (by omega)]
 · rw [decide_eq_false h,decide_eq_false (by omega)]
theorem lP_ {o:TOp} (h:nh_ o):Ev (fun n _=>bN_ n o) (jT_ o):=by
 refine ao_ ?_
 simp only [bN_,b3_,l1In_b,ae_ (d3_ h.2),ai_,ah_,gt_le,jT_]
 cases hj:dv_ o.value with
 |false=>cases inn o.kind 1 4<;>cases decide (o.way.length≤6)<;>simp
 |true=>
  have hS:=eU_ 6 o.value hj_ (fe_ 6 o.value (of_decide_eq_true hj)) h.2
  rw [ps_] at hS
  unfold hj_ at hS
  have hl:Ev (fun n _=>bN_.loop6 n (fun xy4 xy5 xy6 xy7 xy8 xy9 xy10=>(cond (xy4 != 2) (some true) ((al_ n (aa_.mk xy6 xy7 xy8 xy9 xy10) (aa_.mk 0 0 [] [] [])).bind fun xr11=>(some xr11)))) n 0 o.kind o.way o.value.kind o.value.n_ o.value.s o.value.list o.value.names) (oH_ o.way&&((o.kind != 2)||nR_ o.value)):=by
   refine e7_ (fun n N i=>bN_.loop6 n (fun xy4 xy5 xy6 xy7 xy8 xy9 xy10=>(cond (xy4 != 2) (some true) ((al_ n (aa_.mk xy6 xy7 xy8 xy9 xy10) (aa_.mk 0 0 [] [] [])).bind fun xr11=>(some xr11)))) N (i:Int) o.kind o.way o.value.kind o.value.n_ o.value.s o.value.list o.value.names) _ (fun i w hi ih => ?_) ?_
   · simp only [bN_.turn6,bN_.step6,Int.toNat_natCast,W_up hi h.1.1,ai_,bT_,ae_ (fy_ (hU_ h.1 i)),ah_,ei_ ih,dW_ hi,dx_ hi]
     cases iO_ (o.way.getD i [])<;>simp
   · simp only [bN_.turn6,bN_.step6,dN_,cond_false,eY_,ai_,ae_ hS,ah_]
     cases (o.kind != 2)<;>simp
  simp only [ei_ hl]
  cases inn o.kind 1 4<;>cases decide (o.way.length≤6)<;>simp
theorem mn_ {o:TOp} (h:nh_ o):Ev (fun n _=>bO_ n o) (jT_ o):=by
 refine ao_ ?_
 simp only [bO_]
 have e:jT_ o=(oH_ o.way&&(inn o.kind 1 4&&(decide (o.way.length≤6)&&(dv_ o.value&&((o.kind != 2)||nR_ o.value))))):=by
  unfold jT_
  cases inn o.kind 1 4<;>cases decide (o.way.length≤6)<;>cases dv_ o.value<;>cases oH_ o.way<;>simp
 rw [e]
 refine e7_ (fun n N i=>bO_.loop3 n (fun xy2 xy3 xy4 xy5 xy6 xy7 xy8=>((aY_ n xy2 1 4).bind fun xr9=>(cond xr9 (cond (decide ((xy3.length:Int)≤6)) ((cw_ n (aa_.mk xy4 xy5 xy6 xy7 xy8)).bind fun xr10=>(cond xr10 (cond (xy2 != 2) (some true) ((c5_ n (aa_.mk xy4 xy5 xy6 xy7 xy8)).bind fun xr11=>(some xr11))) (some false))) (some false)) (some false)))) N o.way (o.way.length:Int) (i:Int) o.kind o.way o.value.kind o.value.n_ o.value.s o.value.list o.value.names) _ (fun i w hi ih => ?_) ?_
 · simp only [bO_.turn3,bO_.step3,Int.toNat_natCast,W_up hi h.1.1,ai_,bT_,ae_ (fC_ (hU_ h.1 i)),ah_,ei_ ih,dW_ hi,dx_ hi]
   cases iO_ (o.way.getD i [])<;>simp
 · simp only [bO_.turn3,bO_.step3,dN_,cond_false,eY_,ai_,hw_,le_le,ae_ (ek_ h.2),ae_ j3_,ah_]
   cases inn o.kind 1 4<;>cases decide (o.way.length≤6)<;>cases dv_ o.value<;>cases (o.kind != 2)<;>simp
def gd_ (k:Int):Bs:=cond (k == 1) [97,100,100] (cond (k == 2) [114,101,109,111,118,101] (cond (k == 3) [114,101,112,108,97,99,101] [116,101,115,116]))
def txtJ (s:Bs):aa_:=aa_.mk 3 0 s [] []
abbrev nmOp:Bs:=[111,112]
abbrev ji_:Bs:=[112,97,116,104]
abbrev ic_:Bs:=[118,97,108,117,101]
def iE_ (o:TOp):aa_:=cond (o.kind == 2) (aa_.mk 5 0 [] [txtJ (gd_ o.kind),txtJ (FWay o.way)] [nmOp,ji_]) (aa_.mk 5 0 [] [txtJ (gd_ o.kind),txtJ (FWay o.way),o.value] [nmOp,ji_,ic_])
def ed_ (o:TOp):aa_:=cond (jT_ o) (dV_ (iE_ o)) hj_
theorem nk_:∀ (d:Nat) (j:aa_),fB_ (d+1) j→fB_ d j
 |0,_,_=>trivial
 |d+1,j,h=>⟨h.1,h.2.1,fun x hx=>nk_ d x (h.2.2 x hx)⟩
theorem iR_ {s:Bs} (h:s.length≤ci_):∀ d,fB_ d (txtJ s)
 |0=>trivial
 |d+1=>⟨⟨h,Nat.zero_le _,fun x hx=>(by cases hx)⟩,Nat.zero_le _,fun x hx=>(by cases hx)⟩
theorem fL_:∀ d,fB_ d hj_
 |0=>trivial
 |d+1=>⟨⟨Nat.zero_le _,Nat.zero_le _,fun x hx=>(by cases hx)⟩,Nat.zero_le _,fun x hx=>(by cases hx)⟩
structure OpIs (o:TOp):Prop where
 kind:o.kind=1∨o.kind=2∨o.kind=3∨o.kind=4
 way:o.way.length≤6
 text:∀ s ∈ o.way,s.length≤60
 val:dt_ 6 o.value≤400
theorem op_is {o:TOp} (h:jT_ o=true):OpIs o:=by
 unfold jT_ at h
 simp only [Bool.and_eq_true] at h
 obtain ⟨h1,h2,h3,h4,_⟩:=h
 have hk:=hQ_ h1
 refine ⟨by omega,of_decide_eq_true h2,fun s hs => ?_,of_decide_eq_true h3⟩
 obtain ⟨i,hi,e⟩:=List.mem_iff_getElem.1 hs
 have:=g1_.1 h4 i hi
 rw [List.getD_eq_getElem?_getD,List.getElem?_eq_getElem hi,Option.getD_some,e] at this
 exact jS_ this
theorem name_len (k:Int):(gd_ k).length≤60:=by
 unfold gd_
 cases (k == 1)<;>cases (k == 2)<;>cases (k == 3)<;>simp
theorem ie_ {o:TOp} (h:nh_ o) (ho:OpIs o):fB_ 6 (iE_ o):=by
 have hw:=lt_ ho.text
 have hwl:=ho.way
 have hw2:(FWay o.way).length≤ci_:=by simp only [ci_];omega
 have hn:(gd_ o.kind).length≤ci_:=by have:=name_len o.kind;simp only [ci_];omega
 have hv:=nk_ 5 _ h.2
 unfold iE_
 cases (o.kind == 2) with
 |true=>
  refine ⟨⟨Nat.zero_le _,by show 2≤ci_;decide,fun x hx => ?_⟩,by show 2≤ci_;decide,fun x hx => ?_⟩
  · simp at hx;rcases hx with e|e<;>(rw [e];decide)
  · simp at hx;rcases hx with e|e
    · rw [e];exact iR_ hn 5
    · rw [e];exact iR_ hw2 5
 |false=>
  refine ⟨⟨Nat.zero_le _,by show 3≤ci_;decide,fun x hx => ?_⟩,by show 3≤ci_;decide,fun x hx => ?_⟩
  · simp at hx;rcases hx with e|e|e<;>(rw [e];decide)
  · simp at hx;rcases hx with e|e|e
    · rw [e];exact iR_ hn 5
    · rw [e];exact iR_ hw2 5
    · rw [e];exact hv
theorem nj_ {o:TOp} (h:nh_ o):fB_ 6 (ed_ o):=by
 unfold ed_
 cases ho:jT_ o with
 |false=>exact fL_ 6
 |true=>
  unfold dV_
  cases dv_ (iE_ o) with
  |false=>exact fL_ 6
  |true=>exact ie_ h (op_is ho)
theorem put_value (a b v:aa_):Ev (fun n _=>bz_ n (aa_.mk 5 0 [] [a,b] [nmOp,ji_]) ic_ v) (aa_.mk 5 0 [] [a,b,v] [nmOp,ji_,ic_]) :=
 hB_ (o:=aa_.mk 5 0 [] [a,b] [nmOp,ji_]) (j:=v) (x:=ic_) (by show 2≤2000000;decide) rfl (fun _=>less_ne) (fun i h1 h2=>by
  have:fJ_ [nmOp,ji_] ic_=2:=by decide
  have h2:i<2:=h2
  have h1:fJ_ [nmOp,ji_] ic_≤i:=h1
  omega)
theorem g9_ {o:TOp} (h:nh_ o):Ev (fun n _=>df_ n o) (ed_ o):=by
 refine ao_ ?_
 have hN:Ev (fun n _=>cM_ n ()) [[],[97,100,100],[114,101,109,111,118,101],[114,101,112,108,97,99,101],[116,101,115,116]]:=ao_ (by simp only [cM_,ah_])
 simp only [df_,b3_,jg_,ae_ (lP_ h),ai_,ah_]
 unfold ed_
 cases ho:jT_ o with
 |false=>exact ⟨fun _=>rfl,fun h=>(by cases h)⟩
 |true=>
  refine ⟨fun h=>(by cases h),fun _ => ?_⟩
  have hi:=op_is ho
  have hV:=d3_ (ie_ h hi)
  have hCp:=eV_ 6 o.value hi.val
  simp only [ae_ hN,bT_,ae_ (i5_ hi.way hi.text)]
  unfold dV_ hj_ iE_ txtJ gd_
  unfold iE_ txtJ gd_ at hV
  rcases hi.kind with hk|hk|hk|hk
  all_goals (
   simp only [hk,Int.reduceBEq,cond_true,cond_false] at hV
   simp only [hk,Int.reduceBEq,cond_true,cond_false,bne,Bool.not_false,Bool.not_true,Int.reduceToNat,List.getD_cons_succ,List.getD_cons_zero,ai_,ae_ hCp,ae_ (put_value _ _ _),ae_ hV,ah_]
   refine ⟨⟨by decide,by decide⟩,?_⟩
   generalize dv_ _=q
   cases q<;>simp)
theorem he_ {o:TOp} (h:nh_ o):Ev (fun n _=>dn_ n o) (ed_ o):=by
 refine ao_ ?_
 have hN:Ev (fun n _=>cS_ n ()) [[97,100,100],[114,101,109,111,118,101],[114,101,112,108,97,99,101],[116,101,115,116]]:=ao_ (by simp only [cS_,ah_])
 simp only [dn_,b3_,jg_,ae_ (mn_ h),ai_,ah_]
 unfold ed_
 cases ho:jT_ o with
 |false=>exact ⟨fun _=>rfl,fun h=>(by cases h)⟩
 |true=>
  refine ⟨fun h=>(by cases h),fun _ => ?_⟩
  have hi:=op_is ho
  have hV:=hK_ (ie_ h hi)
  have hCp:=ex_ 6 o.value hi.val
  simp only [ae_ hN,bT_,ae_ (jz_ hi.way hi.text)]
  simp only [cond_true]
  unfold iE_ txtJ gd_
  unfold iE_ txtJ gd_ at hV
  have w1:W ((1:Int) - 1)=0:=by rw [W_id (by decide) (by decide)];rfl
  have w2:W ((2:Int) - 1)=1:=by rw [W_id (by decide) (by decide)];rfl
  have w3:W ((3:Int) - 1)=2:=by rw [W_id (by decide) (by decide)];rfl
  have w4:W ((4:Int) - 1)=3:=by rw [W_id (by decide) (by decide)];rfl
  rcases hi.kind with hk|hk|hk|hk
  all_goals (
   simp only [hk,Int.reduceBEq,cond_true,cond_false] at hV
   simp only [hk,w1,w2,w3,w4,Int.reduceBEq,cond_true,cond_false,bne,Bool.not_false,Bool.not_true,Int.reduceToNat,List.getD_cons_succ,List.getD_cons_zero,List.cons_append,List.nil_append,ai_,cg_,ae_ hCp,ae_ hV,ah_,true_implies,false_implies,reduceCtorEq,and_true,true_and]
   simp only [List.length_cons,List.length_nil]
   decide)
end Go.Pi
end
section
namespace Go.Pi
theorem isNaN_ev {x:Bs}:Ev (fun n _=>bq_ n x) false:=ao_ (by simp [bq_,ah_])
theorem isNaN2_ev {x:Bs}:Ev (fun n _=>bL_ n x) false:=ao_ (by simp [bL_,ah_])
theorem po_ {x y:Bs}:Ev (fun n _=>bS_ n x y) (Op.bytesLess x y):=by
 refine ao_ ?_
 simp only [bS_,ae_ isNaN2_ev,ai_,ah_]
 cases Op.bytesLess x y<;>simp
theorem half {i j:Nat} (h:i+j≤4000000):W (Int.fdiv (IntKind.u64.wrap (W ((i:Int)+(j:Int)))) (2 ^ min (1:Int).toNat (IntKind.bits .u64)))=(((i+j) / 2:Nat):Int):=by
 have e1:W ((i:Int)+(j:Int))=((i+j:Nat):Int):=by rw [W_id (by omega) (by omega)];omega
 have e2:IntKind.u64.wrap ((i+j:Nat):Int)=((i+j:Nat):Int):=by
  show (((i+j:Nat):Int)) % _=_
  exact Int.emod_eq_of_lt (by omega) (by have:((i+j:Nat):Int)≤4000000:=by omega
                                         exact Int.lt_of_le_of_lt this (by decide))
 have e3:(2:Int) ^ min (1:Int).toNat (IntKind.bits .u64)=2:=by decide
 rw [e1,e2,e3,Int.fdiv_eq_ediv_of_nonneg _ (by decide)]
 rw [W_id (by omega) (by omega)];omega
theorem jX_ {ns:List Bs} {x:Bs} (hl:ns.length≤2000000) (hM:∀ h,h<ns.length→Op.bytesLess (ns.getD h []) x=decide (h<ep_ ns x)) :
  Ev (fun n _=>af_ n ns x) ((ep_ ns x:Int),decide (ep_ ns x<ns.length)&&(ns.getD (ep_ ns x) [] == x)):=by
 refine ao_ ?_
 have hpl:ep_ ns x≤ns.length:=List.findIdx_le_length
 obtain ⟨p,hp⟩:∃ p,p=ep_ ns x:=⟨_,rfl⟩
 rw [←hp] at hpl hM ⊢
 simp only [af_]
 have key:∀ (d i j:Nat),j - i≤d→i≤p→p≤j→j≤ns.length→Ev (fun n N=>af_.loop4 n (fun xy3 xy4 xy5 xy6=>(cond (decide (xy6<xy5)) (inB xy6 xy3.length (cond ((xy3.getD xy6.toNat []) == xy4) (some (xy6,true)) (inB xy6 xy3.length ((bq_ n (xy3.getD xy6.toNat [])).bind fun xr7=>(cond xr7 ((bq_ n xy4).bind fun xr8=>(some (xy6,xr8))) (some (xy6,false))))))) (some (xy6,false)))) N ns x (ns.length:Int) (i:Int) (j:Int)) ((p:Int),decide (p<ns.length)&&(ns.getD p [] == x)):=by
  intro d
  induction d with
  |zero=>
   intro i j hd h1 h2 h3
   have e:i=p:=by omega
   have e':j=p:=by omega
   subst e;subst e'
   refine do_ ?_
   simp only [af_.turn4,af_.step4,Int.lt_irrefl,decide_false,cond_false,ai_,bT_,ah_,Int.toNat_natCast,ae_ isNaN_ev]
   by_cases hc:j<ns.length
   · rw [decide_eq_true hc,decide_eq_true (show (j:Int)<(ns.length:Int) by omega)]
     cases hs:(ns.getD j [] == x)<;>simp<;>omega
   · rw [decide_eq_false hc,decide_eq_false (show ¬ (j:Int)<(ns.length:Int) by omega)]
     exact ⟨fun h=>(by cases h),fun _=>rfl⟩
  |succ d ih=>
   intro i j hd h1 h2 h3
   by_cases hij:i<j
   · have hh:=half (i:=i) (j:=j) (by omega)
     have hm:(i+j) / 2<ns.length:=by omega
     refine do_ ?_
     simp only [af_.turn4,af_.step4,hh,decide_eq_true (show (i:Int)<(j:Int) by omega),cond_true,ai_,bT_,Int.toNat_natCast,ae_ po_,dx_ hm,hM _ hm,W_up hm (show ns.length≤ci_ by simp only [ci_];omega)]
     refine ⟨trivial,fun hc => ?_,fun hc => ?_⟩
     · have hc:=of_decide_eq_true hc
       exact ih ((i+j) / 2+1) j (by omega) (by omega) h2 h3
     · have hc:=of_decide_eq_false hc
       exact ih i ((i+j) / 2) (by omega) h1 (by omega) (by omega)
   · exact ih i j (by omega) h1 h2 h3
 exact er_ (f:=fun n N=>af_.loop4 n _ N ns x (ns.length:Int) 0 (ns.length:Int)) (key ns.length 0 ns.length (by omega) (Nat.zero_le _) hpl (Nat.le_refl _))
end Go.Pi
end
section
namespace Go.Pi
def ins (x:Bs) (y:Int):List (Bs × Int)→List (Bs × Int)
 |[]=>[(x,y)]
 |(k,v)::l=>if k<x then (k,v)::ins x y l else if k=x then (x,y)::l else (x,y)::(k,v)::l
def eQ_:List (Bs × Int)→Prop
 |[]=>True
 |(k,_)::l=>(∀ p ∈ l,k<p.1)∧eQ_ l
theorem lc_ {x:Bs} {y:Int}:∀ {l:List (Bs × Int)} {p:Bs × Int},p ∈ ins x y l→p=(x,y)∨p ∈ l
 |[],p,h=>by simp only [ins,List.mem_singleton] at h;exact .inl h
 |(k,v)::l,p,h=>by
  simp only [ins] at h
  split at h
  · rcases List.mem_cons.1 h with h|h
    · exact .inr (h ▸ List.mem_cons_self ..)
    · rcases lc_ h with h|h
      · exact .inl h
      · exact .inr (List.mem_cons_of_mem _ h)
  · split at h
    · rcases List.mem_cons.1 h with h|h
      · exact .inl h
      · exact .inr (List.mem_cons_of_mem _ h)
    · rcases List.mem_cons.1 h with h|h
      · exact .inl h
      · exact .inr h
theorem l5_ {a b:Bs} (h1:¬ a<b) (h2:a≠b):b<a:=by
 rcases Decidable.em (b<a) with h|h
 · exact h
 · exact absurd (List.le_antisymm (List.not_lt.1 h) (List.not_lt.1 h1)) h2
theorem nn_ {x:Bs} {y:Int}:∀ {l:List (Bs × Int)},eQ_ l→eQ_ (ins x y l)
 |[],_=>⟨fun p hp=>(by cases hp),trivial⟩
 |(k,v)::l,h=>by
  simp only [ins]
  split
  · rename_i hk
    exact ⟨fun p hp=>(lc_ hp).elim (fun e=>e ▸ hk) (h.1 p),nn_ h.2⟩
  · split
    · rename_i h1 h2
      subst h2
      exact ⟨h.1,h.2⟩
    · rename_i h1 h2
      have hx:=l5_ h1 h2
      exact ⟨fun p hp=>by
       rcases List.mem_cons.1 hp with e|hp
       · rw [e];exact hx
       · exact List.lt_trans hx (h.1 p hp),h⟩
end Go.Pi
end
section
namespace Go.Pi
theorem tri (a b:Bs):a<b∧¬ b<a∧a≠b∧b≠a∨a=b∧¬ a<b∧¬ b<a∨b<a∧¬ a<b∧a≠b∧b≠a:=by
 by_cases h1:a<b
 · exact .inl ⟨h1,List.lt_asymm h1,fun e=>List.lt_irrefl b (e ▸ h1),fun e=>List.lt_irrefl b (e ▸ h1)⟩
 · by_cases h2:a=b
   · subst h2;exact .inr (.inl ⟨rfl,h1,h1⟩)
   · exact .inr (.inr ⟨l5_ h1 h2,h1,h2,fun e=>h2 e.symm⟩)
theorem ok_ {x x':Bs} {y y':Int} (hne:x≠x'):∀ l:List (Bs × Int),ins x y (ins x' y' l)=ins x' y' (ins x y l)
 |[]=>by
  rcases tri x x' with ⟨h1,h2,h3,h4⟩|⟨h1,_⟩|⟨h1,h2,h3,h4⟩
  · simp only [ins,if_pos h1,if_neg h2,if_neg h4]
  · exact absurd h1 hne
  · simp only [ins,if_pos h1,if_neg h2,if_neg h3]
 |(k,v)::l=>by
  have ih:=ok_ (y:=y) (y':=y') hne l
  rcases tri x x' with ⟨h1,h2,h3,h4⟩|⟨h1,_⟩|⟨h1,h2,h3,h4⟩
  · rcases tri k x with ⟨a1,a2,a3,a4⟩|⟨a1,a2,a3⟩|⟨a1,a2,a3,a4⟩
    · have b1:k<x':=List.lt_trans a1 h1
      simp only [ins,if_pos a1,if_pos b1,ih]
    · subst a1
      simp only [ins,if_pos h1,if_neg a2,if_true]
    · rcases tri k x' with ⟨b1,b2,b3,b4⟩|⟨b1,b2,b3⟩|⟨b1,b2,b3,b4⟩
      · simp only [ins,if_pos b1,if_neg a2,if_neg a3,if_pos h1]
      · subst b1
        simp only [ins,if_neg a2,if_neg a3,if_neg b2,if_pos h1,if_neg h2,if_neg h4,if_true]
      · simp only [ins,if_neg a2,if_neg a3,if_neg b2,if_neg b3,if_pos h1,if_neg h2,if_neg h4]
  · exact absurd h1 hne
  · rcases tri k x' with ⟨a1,a2,a3,a4⟩|⟨a1,a2,a3⟩|⟨a1,a2,a3,a4⟩
    · have b1:k<x:=List.lt_trans a1 h1
      simp only [ins,if_pos a1,if_pos b1,ih]
    · subst a1
      simp only [ins,if_pos h1,if_neg a2,if_true]
    · rcases tri k x with ⟨b1,b2,b3,b4⟩|⟨b1,b2,b3⟩|⟨b1,b2,b3,b4⟩
      · simp only [ins,if_pos b1,if_neg a2,if_neg a3,if_pos h1]
      · subst b1
        simp only [ins,if_neg a2,if_neg a3,if_neg b2,if_pos h1,if_neg h2,if_neg h3,if_true]
      · simp only [ins,if_neg a2,if_neg a3,if_neg b2,if_neg b3,if_pos h1,if_neg h2,if_neg h3]
end Go.Pi
end
section
namespace Go.Pi
theorem putL_nil {α:Type} {x:Bs} {y:α}:mY_ [] x [] y=[y]:=by
 simp [mY_]
theorem putL_cons {α:Type} {k x:Bs} {ns:List Bs} {a y:α} {l:List α}:mY_ (k::ns) x (a::l) y=if k<x then a::mY_ ns x l y else if k=x then y::l else y::a::l:=by
 by_cases h:k<x
 · have hb:Op.bytesLess k x=true:=by rw [fj_];exact decide_eq_true h
   have e1:ep_ (k::ns) x=ep_ ns x+1:=by unfold ep_;rw [List.findIdx_cons];simp [hb]
   have e2:fJ_ (k::ns) x=fJ_ ns x+1:=by
    unfold fJ_
    rw [e1]
    simp only [List.getD_cons_succ,List.length_cons,Nat.add_lt_add_iff_right]
    split<;>rfl
   rw [if_pos h]
   unfold mY_
   rw [e1,e2];simp
 · have hb:Op.bytesLess k x=false:=by rw [fj_];exact decide_eq_false h
   have e1:ep_ (k::ns) x=0:=by unfold ep_;rw [List.findIdx_cons];simp [hb]
   rw [if_neg h]
   unfold mY_ fJ_
   rw [e1]
   by_cases h2:k=x
   · simp [h2]
   · simp [h2]
theorem hI_ {α:Type} (g:Bs × Int→α) (x:Bs) (y:Int):∀ l:List (Bs × Int),mY_ (l.map (·.1)) x (l.map g) (g (x,y))=(ins x y l).map g
 |[]=>by simp only [List.map_nil,ins,List.map_cons];exact putL_nil
 |(k,v)::l=>by
  simp only [List.map_cons,putL_cons,ins]
  split
  · rw [hI_ g x y l];rfl
  · split<;>rfl
end Go.Pi
end
section
namespace Go.Pi
theorem oU_ {k x:Bs} {ns:List Bs}:fJ_ (k::ns) x=if k<x then fJ_ ns x+1 else if k=x then 1 else 0:=by
 by_cases h:k<x
 · have hb:Op.bytesLess k x=true:=by rw [fj_];exact decide_eq_true h
   have e1:ep_ (k::ns) x=ep_ ns x+1:=by unfold ep_;rw [List.findIdx_cons];simp [hb]
   unfold fJ_
   rw [e1,if_pos h]
   simp only [List.getD_cons_succ,List.length_cons,Nat.add_lt_add_iff_right]
   split<;>rfl
 · have hb:Op.bytesLess k x=false:=by rw [fj_];exact decide_eq_false h
   have e1:ep_ (k::ns) x=0:=by unfold ep_;rw [List.findIdx_cons];simp [hb]
   rw [if_neg h]
   unfold fJ_
   rw [e1]
   by_cases h2:k=x
   · simp [h2]
   · simp [h2]
theorem asc_ne {x:Bs}:∀ {l:List (Bs × Int)},eQ_ l→∀ i,fJ_ (l.map (·.1)) x≤i→i<(l.map (·.1)).length→((l.map (·.1)).getD i [] == x)=false
 |[],_,i,_,hi=>by simp at hi
 |(k,v)::l,h,i,hp,hi=>by
  simp only [List.map_cons,oU_] at hp
  have later:∀ i',i'<(l.map (·.1)).length→k<(l.map (·.1)).getD i' []:=fun i' hi'=>by
   have hm:=cF_ (d:=([]:Bs)) (a:=l.map (·.1)) (i:=i') hi'
   obtain ⟨p,hp,e⟩:=List.mem_map.1 hm
   rw [←e];exact h.1 p hp
  cases i with
  |zero=>
   simp only [List.map_cons,List.getD_cons_zero]
   by_cases h1:k<x
   · rw [if_pos h1] at hp;omega
   · rw [if_neg h1] at hp
     by_cases h2:k=x
     · rw [if_pos h2] at hp;omega
     · exact beq_eq_false_iff_ne.2 h2
  |succ i=>
   have hi':i<(l.map (·.1)).length:=by simpa using hi
   simp only [List.map_cons,List.getD_cons_succ]
   by_cases h1:k<x
   · rw [if_pos h1] at hp
     exact asc_ne h.2 i (by omega) hi'
   · refine beq_eq_false_iff_ne.2 fun e=>h1 ?_
     rw [←e];exact later i hi'
def gy_ (n:Int):aa_:=aa_.mk 2 n [] [] []
def mZ_ (l:List (Bs × Int)):aa_:=aa_.mk 5 0 [] (l.map fun p=>gy_ p.2) (l.map (·.1))
theorem jp_ {l:List (Bs × Int)} {x:Bs} {y:Int} (h:eQ_ l) (hl:l.length≤2000000):Ev (fun n _=>bz_ n (mZ_ l) x (gy_ y)) (mZ_ (ins x y l)):=by
 have:=hB_ (o:=mZ_ l) (j:=gy_ y) (x:=x) (by simp [mZ_];exact hl) (by simp [mZ_]) (fun z hz=>by
  rw [fj_] at hz
  exact beq_eq_false_iff_ne.2 fun e=>by subst e;exact List.lt_irrefl z (of_decide_eq_true hz)) (fun i h1 h2=>asc_ne h i h1 h2)
 refine fb_ this ?_
 have e1:=hI_ (fun p=>gy_ p.2) x y l
 have e2:=hI_ (fun p=>p.1) x y l
 show aa_.mk 5 0 [] (mY_ (l.map (·.1)) x (l.map fun p=>gy_ p.2) (gy_ y)) (mY_ (l.map (·.1)) x (l.map (·.1)) x)=_
 rw [e1,e2];rfl
end Go.Pi
end
section
namespace Go.Pi
def lenQ (c:Nat) (q:aT_):Prop:=q.where_.length≤c∧q.show_.length≤c
def o1_ (c:Nat) (r:List TRow):Prop:=r.length≤c∧∀ x ∈ r,x.cells.length≤c
def m0_ (c:Nat) (v:bB_):Prop:=lenQ c v.q∧o1_ c v.rows∧v.kids.length≤c
end Go.Pi
end
section
namespace Go.Pi
def lw_ (r:TRow) (col:Int):Int:=cond (inn col 0 (W ((r.cells.length:Int) - 1))) (r.cells.getD col.toNat 0) 0
theorem jZ_ {r:TRow} {col:Int} (hr:r.cells.length≤ci_):Ev (fun n _=>dc_ n r col) (lw_ r col):=by
 refine ao_ ?_
 have e:=@W_dn r.cells.length hr
 simp only [dc_,l1In_b,ai_,bT_,ah_,lw_]
 cases hi:inn col 0 (W ((r.cells.length:Int) - 1)) with
 |false=>simp
 |true=>have:=hQ_ hi;exact ⟨fun h=>(by cases h),fun _=>⟨by omega,rfl⟩⟩
theorem cellOf_ev {r:TRow} {col:Int} (hr:r.cells.length≤ci_):Ev (fun n _=>dm_ n r col) (lw_ r col):=by
 refine ao_ ?_
 have e:=@W_dn r.cells.length hr
 simp only [dm_,hw_,ai_,bT_,ah_,lw_]
 cases hi:inn col 0 (W ((r.cells.length:Int) - 1)) with
 |false=>simp
 |true=>have:=hQ_ hi;exact ⟨fun h=>(by cases h),fun _=>⟨by omega,rfl⟩⟩
theorem ij_ {rows:List TRow} (hr:o1_ ci_ rows) (i:Nat):(rows.getD i TRow.dflt).cells.length≤ci_:=by
 by_cases h:i<rows.length
 · exact hr.2 _ (cF_ _ h)
 · rw [List.getD_eq_getElem?_getD,List.getElem?_eq_none (by omega)];exact Nat.zero_le _
end Go.Pi
end
section
namespace Go.Pi
def dval (l:Bs):Nat:=l.foldl (fun a c=>10*a+(c.toNat - 48)) 0
theorem dval_snoc (l:Bs) (c:UInt8):dval (l++[c])=10*dval l+(c.toNat - 48):=by simp [dval]
theorem f6_ {u:Nat} (h:u<10):(UInt8.ofNat (48+u)).toNat=48+u:=by
 rw [UInt8.toNat_ofNat'];omega
theorem iU_ (u:Nat):dval (Lib.decDigits u)=u:=by
 induction u using Nat.strongRecOn with
 |_ u ih=>
  rw [Lib.decDigits]
  by_cases h:u<10
  · rw [dif_pos h];simp only [dval,List.foldl_cons,List.foldl_nil,f6_ h];omega
  · rw [dif_neg h,dval_snoc,ih _ (by omega),f6_ (Nat.mod_lt _ (by decide))];omega
theorem dec_all (u:Nat):∀ c ∈ Lib.decDigits u,48≤c.toNat∧c.toNat≤57:=by
 induction u using Nat.strongRecOn with
 |_ u ih=>
  rw [Lib.decDigits]
  by_cases h:u<10
  · rw [dif_pos h];intro c hc
    rw [List.mem_singleton.1 hc,f6_ h];omega
  · rw [dif_neg h];intro c hc
    rcases List.mem_append.1 hc with hc|hc
    · exact ih _ (by omega) c hc
    · rw [List.mem_singleton.1 hc,f6_ (Nat.mod_lt _ (by decide))];omega
theorem mI_ {u:Nat} {l:Bs}:Lib.decDigits u≠45::l:=fun e=>by
 have:=(dec_all u 45 (by rw [e];exact List.mem_cons_self ..)).1
 revert this;decide
theorem itoa_inj {x y:Int} (h:Lib.itoa x=Lib.itoa y):x=y:=by
 unfold Lib.itoa at h
 by_cases hx:x<0<;>by_cases hy:y<0
 · rw [if_pos hx,if_pos hy] at h
   have:=congrArg dval (List.cons.inj h).2
   rw [iU_,iU_] at this;omega
 · rw [if_pos hx,if_neg hy] at h;exact absurd h.symm mI_
 · rw [if_neg hx,if_pos hy] at h;exact absurd h mI_
 · rw [if_neg hx,if_neg hy] at h
   have:=congrArg dval h
   rw [iU_,iU_] at this;omega
def ez_ (c:Int):Bs:=99::Lib.itoa c
theorem jI_ {x y:Int} (h:ez_ x=ez_ y):x=y:=itoa_inj (List.cons.inj h).2
def eM_ (r:TRow) (c:Int):Bs × Int:=(ez_ c,lw_ r c)
def dY_ (ps:List (Bs × Int)) (l:List (Bs × Int)):List (Bs × Int):=ps.foldl (fun l p=>ins p.1 p.2 l) l
theorem f0_ (ps:List (Bs × Int)) (p:Bs × Int) (l:List (Bs × Int)):dY_ (ps++[p]) l=ins p.1 p.2 (dY_ ps l):=by simp [dY_]
theorem fN_:∀ (ps:List (Bs × Int)) {l:List (Bs × Int)},eQ_ l→eQ_ (dY_ ps l)
 |[],_,h=>h
 |p::ps,_,h=>fN_ ps (nn_ h)
theorem gV_:∀ {ps:List (Bs × Int)} {l:List (Bs × Int)} {p:Bs × Int},p ∈ dY_ ps l→p ∈ ps∨p ∈ l
 |[],_,_,h=>.inr h
 |q::ps,l,p,h=>by
  rcases gV_ (ps:=ps) h with h|h
  · exact .inl (List.mem_cons_of_mem _ h)
  · rcases lc_ h with h|h
    · exact .inl (h ▸ List.mem_cons_self ..)
    · exact .inr h
theorem ld_ {x:Bs} {y:Int}:∀ {l:List (Bs × Int)},(ins x y l).length≤l.length+1
 |[]=>Nat.le_refl _
 |(k,v)::l=>by
  have:=ld_ (x:=x) (y:=y) (l:=l)
  simp only [ins]
  split
  · simp only [List.length_cons];omega
  · split<;>simp only [List.length_cons]<;>omega
theorem fd_:∀ {ps:List (Bs × Int)} {l:List (Bs × Int)},(dY_ ps l).length≤l.length+ps.length
 |[],_=>Nat.le_refl _
 |p::ps,l=>by
  have:=fd_ (ps:=ps) (l:=ins p.1 p.2 l)
  have h:=ld_ (x:=p.1) (y:=p.2) (l:=l)
  simp only [List.length_cons]
  show (dY_ ps (ins p.1 p.2 l)).length≤_
  omega
theorem ins_has {x:Bs} {y:Int}:∀ {l:List (Bs × Int)},eQ_ l→(x,y) ∈ l→ins x y l=l
 |[],_,h=>by cases h
 |(k,v)::l,ha,h=>by
  simp only [ins]
  rcases List.mem_cons.1 h with e|h
  · cases e;rw [if_neg (List.lt_irrefl _),if_pos rfl]
  · have hk:=ha.1 _ h
    rw [if_pos hk,ins_has ha.2 h]
theorem ix_ {x:Bs} {y:Int}:∀ {l:List (Bs × Int)},(x,y) ∈ ins x y l
 |[]=>List.mem_cons_self ..
 |(k,v)::l=>by
  simp only [ins]
  split
  · exact List.mem_cons_of_mem _ ix_
  · split<;>exact List.mem_cons_self ..
theorem mem_ins {x x':Bs} {y y':Int} (hne:x≠x'):∀ {l:List (Bs × Int)},(x,y) ∈ l→(x,y) ∈ ins x' y' l
 |[],h=>by cases h
 |(k,v)::l,h=>by
  simp only [ins]
  split
  · rcases List.mem_cons.1 h with e|h
    · exact e ▸ List.mem_cons_self ..
    · exact List.mem_cons_of_mem _ (mem_ins hne h)
  · split
    · rename_i h1 h2
      rcases List.mem_cons.1 h with e|h
      · cases e;exact absurd h2 hne
      · exact List.mem_cons_of_mem _ h
    · exact List.mem_cons_of_mem _ h
def eh_ (l:List Int):Nat→List Int
 |0=>[]
 |i+1=>if l.getD i 0 ∈ l.take i then eh_ l i else eh_ l i++[l.getD i 0]
theorem ik_ {l:List Int}:∀ {i:Nat} {c:Int},i≤l.length→(c ∈ eh_ l i↔c ∈ l.take i)
 |0,c,_=>by simp [eh_]
 |i+1,c,h=>by
  simp only [eh_]
  rw [eb_ 0 (show i<l.length by omega)]
  split
  · rename_i hm
    rw [ik_ (by omega),List.mem_append,List.mem_singleton]
    exact ⟨.inl,fun h=>h.elim id fun e=>e ▸ hm⟩
  · rw [List.mem_append,List.mem_append,ik_ (by omega)]
theorem gY_ {l:List Int}:∀ {i:Nat},(eh_ l i).length≤i
 |0=>Nat.le_refl _
 |i+1=>by
  have:=gY_ (l:=l) (i:=i)
  simp only [eh_]
  split
  · omega
  · simp;omega
theorem gG_ {l:List Int}:∀ {i:Nat},i≤l.length→(eh_ l i).Nodup
 |0,_=>List.nodup_nil
 |i+1,h=>by
  simp only [eh_]
  split
  · exact gG_ (by omega)
  · rename_i hm
    rw [List.nodup_append]
    refine ⟨gG_ (by omega),by simp,fun a ha b hb => ?_⟩
    rw [List.mem_singleton.1 hb]
    rw [ik_ (by omega)] at ha
    exact fun e=>hm (e ▸ ha)
theorem o7_ {r:TRow} {l0:List (Bs × Int)} {cs:List Int} {c:Int} (h:c ∈ cs):eM_ r c ∈ dY_ (cs.map (eM_ r)) l0:=by
 induction cs generalizing l0 with
 |nil=>cases h
 |cons d cs ih=>
  show eM_ r c ∈ dY_ (cs.map (eM_ r)) (ins (ez_ d) (lw_ r d) l0)
  by_cases hc:c ∈ cs
  · exact ih hc
  · have e:c=d:=(List.mem_cons.1 h).resolve_right hc
    subst e
    have key:∀ (es:List Int) (m:List (Bs × Int)),c ∉ es→eM_ r c ∈ m→eM_ r c ∈ dY_ (es.map (eM_ r)) m:=by
     intro es
     induction es with
     |nil=>exact fun m _ h=>h
     |cons e es ih=>
      intro m hn hm
      refine ih _ (fun h=>hn (List.mem_cons_of_mem _ h)) (mem_ins (fun h=>hn ?_) hm)
      rw [jI_ h];exact List.mem_cons_self ..
    exact key cs _ hc ix_
theorem hP_ {r:TRow} {l0:List (Bs × Int)} (h0:eQ_ l0) {l:List Int}:∀ {i:Nat},i≤l.length→dY_ ((eh_ l i).map (eM_ r)) l0=dY_ ((l.take i).map (eM_ r)) l0
 |0,_=>by simp [eh_]
 |i+1,h=>by
  rw [eb_ 0 (show i<l.length by omega),List.map_append]
  simp only [eh_]
  have ih:=hP_ (r:=r) h0 (l:=l) (i:=i) (by omega)
  have e:=f0_ ((l.take i).map (eM_ r)) (eM_ r (l.getD i 0)) l0
  split
  · rename_i hm
    rw [ih]
    refine Eq.symm (e.trans (ins_has (fN_ _ h0) (o7_ hm)))
  · rw [List.map_append]
    refine (f0_ _ _ _).trans ?_
    rw [ih]
    exact e.symm
theorem kq_ {x:Bs} {y:Int}:∀ {ps:List (Bs × Int)} {l:List (Bs × Int)},(∀ p ∈ ps,p.1≠x)→dY_ ps (ins x y l)=ins x y (dY_ ps l)
 |[],_,_=>rfl
 |p::ps,l,h=>by
  show dY_ ps (ins p.1 p.2 (ins x y l))=ins x y (dY_ ps (ins p.1 p.2 l))
  rw [ok_ (h p (List.mem_cons_self ..)),kq_ fun q hq=>h q (List.mem_cons_of_mem _ hq)]
end Go.Pi
end
section
namespace Go.Pi
theorem oV_ {k x:Bs} {ns:List Bs}:ep_ (k::ns) x=if k<x then ep_ ns x+1 else 0:=by
 by_cases h:k<x
 · have hb:Op.bytesLess k x=true:=by rw [fj_];exact decide_eq_true h
   rw [if_pos h];unfold ep_;rw [List.findIdx_cons];simp [hb]
 · have hb:Op.bytesLess k x=false:=by rw [fj_];exact decide_eq_false h
   rw [if_neg h];unfold ep_;rw [List.findIdx_cons];simp [hb]
theorem oE_ {x:Bs}:∀ {l:List (Bs × Int)},eQ_ l→∀ h,h<(l.map (·.1)).length→Op.bytesLess ((l.map (·.1)).getD h []) x=decide (h<ep_ (l.map (·.1)) x)
 |[],_,h,hh=>by simp at hh
 |(k,v)::l,ha,h,hh=>by
  rw [fj_]
  simp only [List.map_cons,oV_]
  cases h with
  |zero=>
   simp only [List.getD_cons_zero]
   by_cases hk:k<x
   · rw [if_pos hk,decide_eq_true hk];simp
   · rw [if_neg hk,decide_eq_false hk];simp
  |succ h=>
   have hh':h<(l.map (·.1)).length:=by simpa using hh
   simp only [List.getD_cons_succ]
   by_cases hk:k<x
   · have:=oE_ (x:=x) ha.2 h hh'
     rw [fj_] at this
     rw [if_pos hk,this]
     simp
   · rw [if_neg hk]
     have hm:=cF_ (d:=([]:Bs)) (a:=l.map (·.1)) hh'
     obtain ⟨p,hp,e⟩:=List.mem_map.1 hm
     have:¬ (l.map (·.1)).getD h []<x:=fun h2=>by
      rw [←e] at h2
      exact hk (List.lt_trans (ha.1 p hp) h2)
     rw [decide_eq_false this];simp
theorem ob_ {ns:List Bs} {x:Bs} (h:x ∉ ns):fJ_ ns x=ep_ ns x:=by
 unfold fJ_
 rw [if_neg]
 rintro ⟨h1,h2⟩
 exact h (h1 ▸ cF_ [] h2)
theorem oX_ {α:Type} (d:α) {l:List α} (h:l.Nodup) {i:Nat} (hi:i<l.length):l.getD i d ∉ l.take i:=fun hm=>by
 have:=(List.take_sublist (i+1) l).nodup h
 rw [eb_ d hi,List.nodup_append] at this
 exact this.2.2 _ hm _ (List.mem_singleton.2 rfl) rfl
theorem f4_ {α β:Type} (f:α→β) (d:α) (e:β) {l:List α} {i:Nat} (h:i<l.length):(l.map f).getD i e=f (l.getD i d):=by
 rw [List.getD_eq_getElem?_getD,List.getD_eq_getElem?_getD,List.getElem?_map,List.getElem?_eq_getElem h];rfl
theorem lf_ {ps:List (Bs × Int)} (hl:ps.length≤2000000) (hnd:(ps.map (·.1)).Nodup):Ev (fun n _=>bC_ n (ps.map (·.1)) (ps.map (·.2))) (mZ_ (dY_ ps [])):=by
 refine ao_ ?_
 simp only [bC_]
 let S:Nat→List aa_ × List Bs:=fun i=>((dY_ (ps.take i) []).map (fun p=>gy_ p.2),(dY_ (ps.take i) []).map (·.1))
 have:=eC_ S ps.length (fun n N i (s:List aa_ × List Bs)=>bC_.loop4 n (fun xy4 xy5 xy6 xy7 xy8 xy9 xy10 xy11=>(some (aa_.mk xy7 xy8 xy9 xy10 xy11))) N (ps.map (·.2)) (ps.map (·.1)) ((ps.map (·.1)).length:Int) (i:Int) 0 0 [] 5 0 [] s.1 s.2) (mZ_ (dY_ ps [])) (fun i hi F hF => ?_) ?_
 · exact this
 · obtain ⟨l,hlv⟩:∃ l,l=dY_ (ps.take i) []:=⟨_,rfl⟩
   obtain ⟨p,hp⟩:∃ p,p=ps.getD i ([],0):=⟨_,rfl⟩
   have e2:dY_ (ps.take (i+1)) []=ins p.1 p.2 l:=by rw [eb_ ([],0) hi,f0_,hlv,hp]
   have ha:eQ_ l:=by rw [hlv];exact fN_ _ trivial
   have hll:l.length≤i:=by
    have:=fd_ (ps:=ps.take i) (l:=[])
    rw [←hlv] at this;simp at this;omega
   have hi1:i<(ps.map (·.1)).length:=by simpa using hi
   have hi2:i<(ps.map (·.2)).length:=by simpa using hi
   have hx:p.1 ∉ l.map (·.1):=fun hm=>by
    obtain ⟨q,hq,e⟩:=List.mem_map.1 hm
    rw [hlv] at hq
    have hq:=(gV_ hq).resolve_right (by simp)
    have:=oX_ [] hnd hi1
    rw [f4_ (·.1) ([],0) [] hi,←hp,←List.map_take] at this
    exact this (e ▸ List.mem_map_of_mem hq)
   have hps:((l.map (·.1)).length:Nat)=l.length:=by simp
   have hB:=jX_ (ns:=l.map (·.1)) (x:=p.1) (by simp;omega) (oE_ ha)
   have hA:ep_ (l.map (·.1)) p.1≤l.length:=by have:=List.findIdx_le_length (xs:=l.map (·.1)) (p:=fun y => !Op.bytesLess y p.1);simpa [ep_] using this
   have hN:Ev (fun n _=>bK_ n (l.map (·.1)) (ep_ (l.map (·.1)) p.1:Int) [p.1]) ((ins p.1 p.2 l).map (·.1)):=by
    refine ao_ ?_
    have e:=hI_ (fun p=>p.1) p.1 p.2 l
    unfold mY_ at e
    rw [ob_ hx] at e
    simp only [bK_,gz_,ai_,ah_,dU_,Int.toNat_natCast,e]
    simp;omega
   have hJ:Ev (fun n _=>bR_ n (l.map fun p=>gy_ p.2) (ep_ (l.map (·.1)) p.1:Int) [gy_ p.2]) ((ins p.1 p.2 l).map fun p=>gy_ p.2):=by
    refine ao_ ?_
    have e:=hI_ (fun p=>gy_ p.2) p.1 p.2 l
    unfold mY_ at e
    rw [ob_ hx] at e
    simp only [bR_,gz_,ai_,ah_,dU_,Int.toNat_natCast,e]
    simp;omega
   have g1:(ps.map (·.1)).getD i []=p.1:=by rw [f4_ (·.1) ([],0) [] hi,hp]
   have g2:(ps.map (·.2)).getD i 0=p.2:=by rw [f4_ (·.2) ([],0) 0 hi,hp]
   simp only [S,e2,←hlv] at hF ⊢
   unfold gy_ at hJ
   simp only [bC_.turn4,bC_.step4,Int.toNat_natCast,W_up hi1 (show (ps.map (·.1)).length≤ci_ by simp [ci_];omega),dW_ hi1,dx_ hi1,dx_ hi2,g1,g2,ai_,bT_,ae_ hB,ae_ hN]
   refine ⟨fun _=>⟨trivial,trivial,?_⟩,fun h=>(by cases h)⟩
   unfold gy_ at hF ⊢
   simp only [ae_ hJ]
   exact hF
 · have e:((ps.map (·.1)).length:Int)=(ps.length:Int):=by simp
   simp only [bC_.turn4,bC_.step4,e,dN_,cond_false,ah_,S,List.take_length]
   rfl
end Go.Pi
end
section
namespace Go.Pi
abbrev nmId:Bs:=[105,100]
abbrev l7_:Bs:=[107,105,100,115]
abbrev i64 (x:Int):Prop:=-9223372036854775808≤x∧x≤9223372036854775807
def iJ_ (q:aT_) (kids:Int):List (Bs × Int):=cond q.kids [(l7_,kids)] []
def nT_ (q:aT_) (r:TRow) (kids:Int):List (Bs × Int):=dY_ (iJ_ q kids) (ins nmId r.id_ (dY_ (q.show_.map (eM_ r)) []))
def fF_ (q:aT_) (r:TRow) (kids:Int):aa_:=mZ_ (nT_ q r kids)
theorem me_ {q:aT_} {kids:Int}:(iJ_ q kids).length≤1:=by unfold iJ_;cases q.kids<;>simp
theorem FRowL_len {q:aT_} {r:TRow} {kids:Int}:(nT_ q r kids).length≤q.show_.length+2:=by
 have h1:=fd_ (ps:=q.show_.map (eM_ r)) (l:=[])
 have h2:=ld_ (x:=nmId) (y:=r.id_) (l:=dY_ (q.show_.map (eM_ r)) [])
 have h3:=fd_ (ps:=iJ_ q kids) (l:=ins nmId r.id_ (dY_ (q.show_.map (eM_ r)) []))
 have h4:=me_ (q:=q) (kids:=kids)
 simp at h1
 unfold nT_;omega
theorem nE_ {c:Int} (h:i64 c):(ez_ c).length≤22:=by
 have:=Lib.itoa_length_le c h.1 h.2
 simp only [ez_,List.length_cons];omega
theorem nS_ {q:aT_} {r:TRow} {kids:Int} (hs:∀ c ∈ q.show_,i64 c):∀ p ∈ nT_ q r kids,p.1.length≤22:=fun p hp=>by
 rcases gV_ hp with h|h
 · unfold iJ_ at h
   cases hq:q.kids<;>rw [hq] at h
   · cases h
   · rw [List.mem_singleton.1 h];show l7_.length≤22;decide
 · rcases lc_ h with h|h
   · rw [h];show nmId.length≤22;decide
   · rcases gV_ h with h|h
     · obtain ⟨c,hc,e⟩:=List.mem_map.1 h
       rw [←e];exact nE_ (hs c hc)
     · cases h
theorem mM_ {c:Int}:ez_ c≠nmId:=fun h=>by cases h
theorem nD_ {c:Int}:ez_ c≠l7_:=fun h=>by cases h
def jC_ (q:aT_) (r:TRow) (kids:Int):List (Bs × Int):=(nmId,r.id_)::(eh_ q.show_ q.show_.length).map (eM_ r)++iJ_ q kids
theorem implL_eq {q:aT_} {r:TRow} {kids:Int}:dY_ (jC_ q r kids) []=nT_ q r kids:=by
 have e:dY_ (jC_ q r kids) []=dY_ (iJ_ q kids) (dY_ ((eh_ q.show_ q.show_.length).map (eM_ r)) (ins nmId r.id_ [])):=by
  show List.foldl _ _ _=_
  unfold jC_ dY_
  rw [List.foldl_append];rfl
 rw [e]
 unfold nT_
 rw [kq_ (fun p hp=>by obtain ⟨c,_,e⟩:=List.mem_map.1 hp;rw [←e];exact mM_),hP_ (l0:=[]) trivial (Nat.le_refl _),List.take_length]
theorem np_ {q:aT_} {r:TRow} {kids:Int}:((jC_ q r kids).map (·.1)).Nodup:=by
 have hm:((eh_ q.show_ q.show_.length).map (eM_ r)).map (·.1)=(eh_ q.show_ q.show_.length).map ez_:=by rw [List.map_map];rfl
 have hc:((eh_ q.show_ q.show_.length).map ez_).Nodup:=by
  have:=gG_ (l:=q.show_) (Nat.le_refl _)
  unfold List.Nodup at this ⊢
  rw [List.pairwise_map]
  exact this.imp fun h e=>h (jI_ e)
 unfold jC_
 rw [List.cons_append,List.map_cons,List.nodup_cons,List.map_append,hm,List.nodup_append]
 refine ⟨fun h => ?_,hc,?_,fun a ha b hb => ?_⟩
 · rcases List.mem_append.1 h with h|h
   · obtain ⟨c,_,e⟩:=List.mem_map.1 h
     exact mM_ e
   · unfold iJ_ at h;cases hq:q.kids<;>rw [hq] at h
     · cases h
     · have:=List.mem_singleton.1 h
       change nmId=l7_ at this
       revert this;decide
 · unfold iJ_;cases q.kids<;>simp
 · obtain ⟨c,_,e⟩:=List.mem_map.1 ha
   unfold iJ_ at hb;cases hq:q.kids<;>rw [hq] at hb
   · cases hb
   · have hb:=List.mem_singleton.1 hb
     rw [←e,hb];exact nD_
theorem implL_len {q:aT_} {r:TRow} {kids:Int}:(jC_ q r kids).length≤q.show_.length+2:=by
 have h1:=gY_ (l:=q.show_) (i:=q.show_.length)
 have h4:=me_ (q:=q) (kids:=kids)
 unfold jC_;simp;omega
theorem FOwn_num {n:Int} (d:Nat):dt_ (d+1) (gy_ n)=dt_ 1 (gy_ n):=rfl
theorem FSize_obj (l:List (Bs × Int)) (d:Nat):dt_ (d+2) (mZ_ l)=dt_ 2 (mZ_ l):=by
 simp only [dt_]
 have:∀ m:List (Bs × Int),e6_ (dt_ (d+1)) (m.map fun p=>gy_ p.2)=e6_ (dt_ 1) (m.map fun p=>gy_ p.2):=by
  intro m
  induction m with
  |nil=>rfl
  |cons p m ih=>simp only [List.map_cons,e6_,FOwn_num d,ih]
 show cond (FOwn (mZ_ l)) (min 401 (1+e6_ (dt_ (d+1)) (l.map fun p=>gy_ p.2))) 401=cond (FOwn (mZ_ l)) (min 401 (1+e6_ (dt_ 1) (l.map fun p=>gy_ p.2))) 401
 rw [this]
theorem hO_ {n:Int}:∀ d,fB_ d (gy_ n)
 |0=>trivial
 |d+1=>⟨⟨Nat.zero_le _,Nat.zero_le _,fun x hx=>(by cases hx)⟩,Nat.zero_le _,fun x hx=>(by cases hx)⟩
theorem lenJ_obj {l:List (Bs × Int)} (hl:l.length≤2000000) (hn:∀ p ∈ l,p.1.length≤22):∀ d,fB_ d (mZ_ l)
 |0=>trivial
 |d+1=>⟨⟨Nat.zero_le _,by simp [mZ_,ci_];omega,fun x hx=>by
   obtain ⟨p,hp,e⟩:=List.mem_map.1 hx
   rw [←e];have:=hn p hp;simp only [ci_];omega⟩,by simp [mZ_,ci_];omega,fun x hx=>by
   obtain ⟨p,hp,e⟩:=List.mem_map.1 hx
   rw [←e];exact hO_ d⟩
theorem iS_ {q:aT_} {r:TRow} {kids:Int} (hq:q.show_.length≤1100000) (hs:∀ c ∈ q.show_,i64 c) (d:Nat):fB_ d (fF_ q r kids) :=
 lenJ_obj (by have:=FRowL_len (q:=q) (r:=r) (kids:=kids);omega) (nS_ hs) d
end Go.Pi
end
section
namespace Go.Pi
theorem j4_ {x:Int} (h0 : -9223372036854775808≤x) (h1:x≤9223372036854775807):Ev (fun n _=>dk_ n x) (Lib.itoa x):=by
 refine ao_ ?_
 have:=nN_ h0 h1
 simp only [dk_,ae_ this,ah_]
end Go.Pi
end
section
namespace Go.Pi
theorem gR_ {l:List Int} {x:Int} (hl:l.length≤ci_):Ev (fun n _=>br_ n l x) (decide (x ∈ l)):=by
 have h:Ev (fun n _=>aB_ n l x) (if l.findIdx (fun y=>x == y)<l.length then ((l.findIdx (fun y=>x == y):Nat):Int) else -1):=by
  refine ao_ ?_
  rw [←fu_ 0]
  simp only [aB_]
  refine im_ (fun n N i=>aB_.loop3 n (some (-1)) N l x (l.length:Int) (i:Int)) _ (fun i u hi ih => ?_) ?_
  · simp only [aB_.turn3,aB_.step3,Int.toNat_natCast,W_up hi hl,ai_,bT_,ah_,ei_ ih,dW_ hi,dx_ hi]
    clear ih
    cases (x == l.getD i 0)<;>simp
  · simp only [aB_.turn3,aB_.step3,dN_,cond_false,ah_]
 refine ao_ ?_
 simp only [br_,ae_ h,ah_]
 have e:(l.findIdx (fun y=>x == y)<l.length)↔x ∈ l:=by
  rw [List.findIdx_lt_length];simp
 by_cases hm:x ∈ l
 · rw [if_pos (e.2 hm),decide_eq_true hm,decide_eq_true (by omega)]
 · rw [if_neg (fun h=>hm (e.1 h)),decide_eq_false hm];rfl
theorem jr_ {j:aa_} (h:fB_ 6 j):Ev (fun n _=>cf_ n j) (dV_ j):=by
 refine ao_ ?_
 simp only [cf_,b3_,ae_ (d3_ h),ai_,ah_,dV_,hj_]
 cases dv_ j<;>simp
theorem js_ {x:Int}:Ev (fun n _=>cv_ n x) (gy_ x):=ao_ (by simp only [cv_,ah_,gy_])
section
variable {q:aT_} {r:TRow} {kids:Int} (hq:q.show_.length≤1100000) (hs:∀ c ∈ q.show_,i64 c) (hr:r.cells.length≤ci_)
include hq hs hr
theorem g8_:Ev (fun n _=>bg_ n q r kids) (fF_ q r kids):=by
 refine ao_ ?_
 simp only [bg_]
 let S:Nat→aa_:=fun i=>mZ_ (dY_ ((q.show_.take i).map (eM_ r)) [])
 have:=eC_ S q.show_.length (fun n N i (s:aa_)=>bg_.loop4 n (fun xy5 xy6 xy7 xy8 xy9 xy10 xy11 xy12 xy13 xy14 xy15 xy16 xy17 xy18 xy19 xy20 xy21 xy22 xy23 xy24=>((cv_ n xy15).bind fun xr25=>((bz_ n (aa_.mk xy20 xy21 xy22 xy23 xy24) [105,100] (aa_.re xr25)).bind fun xr26=>(cond xy12 ((cv_ n xy5).bind fun xr27=>((bz_ n (aa_.re xr26) [107,105,100,115] (aa_.re xr27)).bind fun xr28=>(some (aa_.re xr28)))) (some (aa_.re xr26)))))) N kids (i:Int) q.table q.where_ q.order q.down q.first q.show_ q.kids q.kidTable q.kidCol r.id_ r.cells 0 0 [] s.kind s.n_ s.s s.list s.names) (fF_ q r kids) (fun i hi F hF => ?_) ?_
 · exact this
 · have e2:dY_ ((q.show_.take (i+1)).map (eM_ r)) []=ins (ez_ (q.show_.getD i 0)) (lw_ r (q.show_.getD i 0)) (dY_ ((q.show_.take i).map (eM_ r)) []):=by
    rw [eb_ 0 hi,List.map_append];exact f0_ _ _ _
   have ha:eQ_ (dY_ ((q.show_.take i).map (eM_ r)) []):=fN_ _ trivial
   have hll:=fd_ (ps:=(q.show_.take i).map (eM_ r)) (l:=[])
   simp only [S,e2] at hF ⊢
   generalize dY_ ((q.show_.take i).map (eM_ r)) []=l at hF ha hll ⊢
   have hl2:l.length≤2000000:=by simp at hll;omega
   have hc:=hs _ (cF_ 0 hi)
   have hd:=Lib.itoa_length_le _ hc.1 hc.2
   have e0:TRow.mk r.id_ r.cells=r:=rfl
   have e3:([99]:Bs)++Lib.itoa (q.show_.getD i 0)=ez_ (q.show_.getD i 0):=rfl
   simp only [bg_.turn4,bg_.step4,Int.toNat_natCast,W_up hi (show q.show_.length≤ci_ by simp only [ci_];omega),dW_ hi,dx_ hi,eY_,b3_,e0,e3,ai_,bT_,dU_,ae_ (eg_ hc.1 hc.2),ae_ (jZ_ hr),ae_ js_,ae_ (jp_ ha hl2)]
   simp only [b3_] at hF
   refine ⟨fun _=>⟨trivial,fun _=>⟨trivial,hF⟩,fun h => ?_⟩,fun h=>(by cases h)⟩
   have h:=of_decide_eq_false h
   simp only [List.length_singleton] at h;omega
 · have ha:eQ_ (dY_ (q.show_.map (eM_ r)) []):=fN_ _ trivial
   have hll:=fd_ (ps:=q.show_.map (eM_ r)) (l:=[])
   have h2:=ld_ (x:=nmId) (y:=r.id_) (l:=dY_ (q.show_.map (eM_ r)) [])
   simp at hll
   simp only [bg_.turn4,bg_.step4,dN_,cond_false,S,List.take_length,eY_,b3_,ae_ js_,ae_ (jp_ ha (show _≤2000000 by omega)),ae_ (jp_ (x:=l7_) (y:=kids) (nn_ (x:=nmId) (y:=r.id_) ha) (show _≤2000000 by omega)),ai_,ah_]
   unfold fF_ nT_ iJ_
   exact ⟨fun h=>by rw [h];rfl,fun h=>by rw [h];rfl⟩
theorem j5_:Ev (fun n _=>bm_ n q r kids) (dV_ (fF_ q r kids)):=by
 refine ao_ ?_
 simp only [bm_]
 have hO:Ev (fun n _=>bC_ n ((jC_ q r kids).map (·.1)) ((jC_ q r kids).map (·.2))) (fF_ q r kids):=by
  have:=lf_ (ps:=jC_ q r kids) (by have:=implL_len (q:=q) (r:=r) (kids:=kids);omega) np_
  rw [implL_eq] at this;exact this
 have hR:=hK_ (iS_ (r:=r) (kids:=kids) hq hs 6)
 have e1:∀ i,((eh_ q.show_ i).map (eM_ r)).map (·.1)=(eh_ q.show_ i).map ez_:=fun i=>by rw [List.map_map];rfl
 have e2:∀ i,((eh_ q.show_ i).map (eM_ r)).map (·.2)=(eh_ q.show_ i).map (lw_ r):=fun i=>by rw [List.map_map];rfl
 let S:Nat→List Bs × List Int:=fun i=>(nmId::(eh_ q.show_ i).map ez_,r.id_::(eh_ q.show_ i).map (lw_ r))
 have:=eC_ S q.show_.length (fun n N i (s:List Bs × List Int)=>bm_.loop4 n (fun xy4 xy5 xy6 xy7 xy8 xy9 xy10 xy11 xy12 xy13 xy14 xy15 xy16 xy17 xy18=>(cond xy11 (cJ_ (xy17.length+([[107,105,100,115]]:List Bs).length) 16 (cJ_ (xy18.length+([xy4]:List Int).length) 8 ((bC_ n (xy17++([[107,105,100,115]]:List Bs)) (xy18++([xy4]:List Int))).bind fun xr19=>((cq_ n (aa_.re xr19)).bind fun xr20=>(some (aa_.re xr20)))))) ((bC_ n xy17 xy18).bind fun xr21=>((cq_ n (aa_.re xr21)).bind fun xr22=>(some (aa_.re xr22)))))) N kids q.show_ (q.show_.length:Int) (i:Int) q.table q.where_ q.order q.down q.first q.show_ q.kids q.kidTable q.kidCol r.id_ r.cells 0 0 [] s.1 s.2) (dV_ (fF_ q r kids)) (fun i hi F hF => ?_) ?_
 · exact this
 · have hc:=hs _ (cF_ 0 hi)
   have hd:=Lib.itoa_length_le _ hc.1 hc.2
   have hf:=gY_ (l:=q.show_) (i:=i)
   have e0:TRow.mk r.id_ r.cells=r:=rfl
   have e3:([99]:Bs)++Lib.itoa (q.show_.getD i 0)=ez_ (q.show_.getD i 0):=rfl
   have hI:Ev (fun n _=>br_ n (q.show_.take i) (q.show_.getD i 0)) (decide (q.show_.getD i 0 ∈ q.show_.take i)):=gR_ (by simp [ci_];omega)
   simp only [bm_.turn4,bm_.step4,Int.toNat_natCast,W_up hi (show q.show_.length≤ci_ by simp only [ci_];omega),dW_ hi,dx_ hi,e0,e3,List.drop_zero,ai_,bT_,hm_,dU_,cg_,ae_ hI,ae_ (j4_ hc.1 hc.2),ae_ (cellOf_ev hr)]
   refine ⟨fun _=>⟨trivial,⟨by omega,by omega,by omega⟩,fun hm => ?_,fun hm=>⟨fun _=>⟨by simp [S];omega,by simp [S];omega,?_⟩,fun h => ?_⟩⟩,fun h=>(by cases h)⟩
   · have hm:=of_decide_eq_true hm
     simp only [S,eh_,if_pos hm] at hF ⊢
     exact hF
   · have hm:=of_decide_eq_false hm
     simp only [S,eh_,if_neg hm,List.map_append,List.map_cons,List.map_nil] at hF ⊢
     exact hF
   · have h:=of_decide_eq_false h
     simp only [List.length_singleton] at h;omega
 · have hf:=gY_ (l:=q.show_) (i:=q.show_.length)
   simp only [bm_.turn4,bm_.step4,dN_,cond_false,S,b3_,ai_,cg_]
   unfold jC_ iJ_ at hO
   refine ⟨fun h=>⟨by simp;omega,by simp;omega,?_⟩,fun h => ?_⟩
   · rw [h] at hO
     simp only [cond_true,List.cons_append,List.map_cons,List.map_append,e1,e2,List.map_nil] at hO
     simp only [List.cons_append,ae_ hO,ae_ hR,ah_]
   · rw [h] at hO
     simp only [cond_false,List.append_nil,List.map_cons,e1,e2] at hO
     simp only [ae_ hO,ae_ hR,ah_]
end
end Go.Pi
end
section
namespace Go.Pi
theorem ev_allS {α γ:Type} (S:Nat→α) (p:Nat→Bool) (len:Nat) (L:Nat→Nat→Nat→α→Option γ) (v bad:γ)
  (h1:∀ i,i<len→∀ F,(p i=true→Ev (fun n N=>L n N (i+1) (S (i+1))) F)→(p i=false→F=bad)→Ev (fun n N=>L n (N+1) i (S i)) F)
  (h2:Ev (fun n N=>L n (N+1) len (S len)) v):Ev (fun n _=>L n n 0 (S 0)) (cond (iq_ p len) v bad):=by
 have key:∀ d i,d+i=len→Ev (fun n N=>L n N i (S i)) (cond (fl_ p d i) v bad):=by
  intro d
  induction d with
  |zero=>intro i hd;obtain rfl:i=len:=by omega
         exact do_ (f:=fun n N=>L n N i (S i)) h2
  |succ d ih=>intro i hd
              refine do_ (f:=fun n N=>L n N i (S i)) (h1 i (by omega) _ (fun hp => ?_) (fun hp => ?_))
              · have:=ih (i+1) (by omega)
                simp only [fl_,hp,Bool.true_and];exact this
              · simp only [fl_,hp,Bool.false_and,cond_false]
 exact er_ (f:=fun n N=>L n N 0 (S 0)) (key len 0 (by omega))
def b7_ (l:List au_):List Int:=l.map (·.key)
def kAt (ks:List Int) (k:Int):Int:=if ks.findIdx (fun y=>y == k)<ks.length then ((ks.findIdx (fun y=>y == k):Nat):Int) else -1
theorem nm_ {ks:List Int} {k:Int}:kAt ks k<0↔k ∉ ks:=by
 have e:(ks.findIdx (fun y=>y == k)<ks.length)↔k ∈ ks:=by rw [List.findIdx_lt_length];simp
 unfold kAt
 by_cases h:k ∈ ks
 · rw [if_pos (e.2 h)];simp [h]
 · rw [if_neg (fun h'=>h (e.1 h'))];simp [h]
theorem ko_ {ks:List Int} {k:Int} (h:k ∈ ks):∃ p:Nat,kAt ks k=p∧p<ks.length∧ks.getD p 0=k:=by
 have e:ks.findIdx (fun y=>y == k)<ks.length:=by rw [List.findIdx_lt_length];simp [h]
 refine ⟨_,by unfold kAt;rw [if_pos e],e,?_⟩
 rw [List.getD_eq_getElem?_getD,List.getElem?_eq_getElem e,Option.getD_some]
 have:=List.findIdx_getElem (xs:=ks) (p:=fun y=>y == k) (w:=e)
 simpa using this
theorem kp_ {ks:List Int} {k:Int} {p:Nat} (h:kAt ks k=p):p<ks.length∧ks.getD p 0=k:=by
 have hm:k ∈ ks:=Classical.byContradiction fun hn=>by have:=nm_.2 hn;omega
 obtain ⟨q,e,h1,h2⟩:=ko_ hm
 have:q=p:=by omega
 subst this;exact ⟨h1,h2⟩
theorem fr_ {ks:List Int} {k:Int} (hl:ks.length≤ci_):Ev (fun n _=>bM_ n ks k) (kAt ks k):=by
 refine ao_ ?_
 unfold kAt
 rw [←fu_ 0]
 simp only [bM_]
 refine im_ (fun n N i=>bM_.loop3 n (some (-1)) N ks k (i:Int)) _ (fun i u hi ih => ?_) ?_
 · simp only [bM_.turn3,bM_.step3,Int.toNat_natCast,W_up hi hl,ai_,bT_,ah_,ei_ ih,dW_ hi,dx_ hi]
   clear ih
   cases (ks.getD i 0 == k)<;>simp
 · simp only [bM_.turn3,bM_.step3,dN_,cond_false,ah_]
theorem iA_ (k:Int):∀ l:List au_,(b7_ l).findIdx (fun y=>y == k)=l.findIdx (fun x=>x.key == k)
 |[]=>rfl
 |x::l=>by
  have ih:=iA_ k l
  unfold b7_ at ih ⊢
  simp only [List.map_cons,List.findIdx_cons,ih]
theorem du_ (l:List au_):(b7_ l).length=l.length:=List.length_map _
theorem mf_ (x:au_):au_.mk x.key x.value=x:=rfl
theorem hS_ {l:List au_} {k:Int} (hl:l.length≤ci_):Ev (fun n _=>dw_ n l k) (kAt (b7_ l) k):=by
 have hf:∀ x:au_,Ev (fun n _=>cB_ n x k) (x.key == k):=fun x=>ao_ (by simp only [cB_,ah_])
 have h:Ev (fun n _=>ab_ n l k) (kAt (b7_ l) k):=by
  refine ao_ ?_
  unfold kAt
  rw [iA_,du_,←fu_ au_.dflt]
  simp only [ab_]
  refine im_ (fun n N i=>ab_.loop3 n (some (-1)) N l k (l.length:Int) (i:Int)) _ (fun i u hi ih => ?_) ?_
  · simp only [ab_.turn3,ab_.step3,b3_,mf_,Int.toNat_natCast,W_up hi hl,ai_,bT_,ae_ (hf _),ah_,ei_ ih,dW_ hi,dx_ hi]
    clear ih
    cases ((l.getD i au_.dflt).key == k)<;>simp
  · simp only [ab_.turn3,ab_.step3,dN_,cond_false,ah_]
 exact ao_ (by simp only [dw_,ae_ h,ah_])
def kOk (docs:List aa_) (keys:List Int):Bool:=decide (docs.length=keys.length)&&iq_ (fun i=>dv_ (docs.getD i aa_.dflt) && !decide (keys.getD i 0 ∈ keys.take i)) docs.length
def h5_ (docs:List aa_) (keys:List Int) (m:Nat):List au_:=(List.range m).map fun i=>au_.mk (keys.getD i 0) (docs.getD i aa_.dflt)
theorem zipK_succ {docs:List aa_} {keys:List Int} {m:Nat}:h5_ docs keys (m+1)=h5_ docs keys m++[au_.mk (keys.getD m 0) (docs.getD m aa_.dflt)]:=by
 unfold h5_;rw [List.range_succ,List.map_append];rfl
theorem e8_ {docs:List aa_} {keys:List Int} {m:Nat}:(h5_ docs keys m).length=m:=by unfold h5_;simp
theorem iP_ {l:List Int} {i:Nat} {x:Int} (hl:l.length≤ci_):Ev (fun n _=>br_ n (l.take i) x) (decide (x ∈ l.take i)):=gR_ (by simp;omega)
theorem gD_ {docs:List aa_} {keys:List Int} (hd:docs.length≤2000000) (hJ:∀ j ∈ docs,fB_ 6 j):Ev (fun n _=>bc_ n docs keys) (cond (kOk docs keys) (h5_ docs keys docs.length,true) ([],false)):=by
 refine ao_ ?_
 have ht:docs.length≤ci_:=by simp only [ci_];omega
 simp only [bc_,km_,ai_,ah_,kOk]
 by_cases hl:docs.length=keys.length
 · rw [decide_eq_true hl,Bool.true_and]
   refine ⟨fun h=>(by cases h),fun _ => ?_⟩
   refine ev_allS (fun i=>h5_ docs keys i) (fun i=>dv_ (docs.getD i aa_.dflt) && !decide (keys.getD i 0 ∈ keys.take i)) docs.length (fun n N i (o:List au_)=>bc_.loop7 n (fun xy3=>(some (xy3,true))) N keys docs (docs.length:Int) (i:Int) o) (h5_ docs keys docs.length,true) ([],false) (fun i hi F h1 h2 => ?_) ?_
   · have hk:i<keys.length:=by omega
     rw [zipK_succ] at h1
     have hol:=e8_ (docs:=docs) (keys:=keys) (m:=i)
     generalize h5_ docs keys i=o at h1 hol ⊢
     simp only [bc_.turn7,bc_.step7,b3_,Int.toNat_natCast,List.drop_zero,W_up hi ht,dW_ hi,dx_ hi,dx_ hk,ai_,bT_,hm_,cg_,ae_ (ek_ (hJ _ (cF_ aa_.dflt hi))),ae_ (iP_ (l:=keys) (i:=i) (x:=keys.getD i 0) (by omega)),ah_,cond_true]
     cases hj:dv_ (docs.getD i aa_.dflt) with
     |false=>rw [hj] at h2;exact ⟨trivial,fun _=>(h2 rfl).symm,fun h=>(by cases h)⟩
     |true=>
      rw [hj,Bool.true_and] at h1 h2
      refine ⟨trivial,fun h=>(by cases h),fun _=>⟨⟨by omega,by omega,by omega⟩,trivial,fun hc => ?_,fun hc => ?_⟩⟩
      · exact (h2 (by rw [hc];rfl)).symm
      · exact ⟨trivial,by simp;omega,h1 (by rw [hc];rfl)⟩
   · simp only [bc_.turn7,bc_.step7,dN_,cond_false,ah_]
 · rw [decide_eq_false hl,Bool.false_and]
   exact ⟨fun _=>rfl,fun h=>(by cases h)⟩
theorem allN_and {p q:Nat→Bool} {len:Nat}:iq_ (fun i=>p i&&q i) len=(iq_ p len&&iq_ q len):=by
 rw [Bool.eq_iff_iff,Bool.and_eq_true,g1_,g1_,g1_]
 exact ⟨fun h=>⟨fun i hi=>(Bool.and_eq_true_iff.1 (h i hi)).1,fun i hi=>(Bool.and_eq_true_iff.1 (h i hi)).2⟩,fun h i hi=>by rw [h.1 i hi,h.2 i hi];rfl⟩
theorem g7_ {docs:List aa_} {keys:List Int} (hd:docs.length≤2000000) (hk:keys.length≤2000000) (hJ:∀ j ∈ docs,fB_ 6 j):Ev (fun n _=>aD_ n keys docs) (kOk docs keys):=by
 refine ao_ ?_
 have ht:docs.length≤ci_:=by simp only [ci_];omega
 have htk:keys.length≤ci_:=by simp only [ci_];omega
 have e:kOk docs keys=(iq_ (fun i => !decide (keys.getD i 0 ∈ keys.take i)) keys.length&&(iq_ (fun i=>dv_ (docs.getD i aa_.dflt)) docs.length&&((keys.length:Int) == (docs.length:Int)))):=by
  unfold kOk
  by_cases hl:docs.length=keys.length
  · rw [decide_eq_true hl,allN_and,←hl]
    simp [Bool.and_comm]
  · rw [decide_eq_false hl]
    have:((keys.length:Int) == (docs.length:Int))=false:=by rw [beq_eq_false_iff_ne];omega
    rw [this];simp
 rw [e]
 simp only [aD_]
 have hin:Ev (fun n _=>aD_.loop11 n (fun xy5 xy6=>(some ((xy5.length:Int) == (xy6.length:Int)))) n keys docs 0) (iq_ (fun i=>dv_ (docs.getD i aa_.dflt)) docs.length&&((keys.length:Int) == (docs.length:Int))):=by
  refine e7_ (fun n N i=>aD_.loop11 n (fun xy5 xy6=>(some ((xy5.length:Int) == (xy6.length:Int)))) N keys docs (i:Int)) _ (fun i w hi ih => ?_) ?_
  · simp only [aD_.turn11,aD_.step11,b3_,Int.toNat_natCast,W_up hi ht,ai_,bT_,ae_ (d3_ (hJ _ (cF_ aa_.dflt hi))),ah_,ei_ ih,dW_ hi,dx_ hi]
    cases dv_ (docs.getD i aa_.dflt)<;>simp
  · simp only [aD_.turn11,aD_.step11,dN_,cond_false,ah_]
 refine e7_ (fun n N i=>aD_.loop3 n (fun xy2 xy3=>(aD_.loop11 n (fun xy5 xy6=>(some ((xy5.length:Int) == (xy6.length:Int)))) n xy2 xy3 0)) N keys docs (i:Int)) _ (fun i w hi ih => ?_) ?_
 · have hA:=fr_ (ks:=keys.take i) (k:=keys.getD i 0) (by simp;omega)
   have hg:decide (kAt (keys.take i) (keys.getD i 0)≥0)=decide (keys.getD i 0 ∈ keys.take i):=by
    have:=nm_ (ks:=keys.take i) (k:=keys.getD i 0)
    by_cases hm:keys.getD i 0 ∈ keys.take i
    · rw [decide_eq_true hm,decide_eq_true];exact Int.not_lt.1 fun h=>this.1 h hm
    · rw [decide_eq_false hm,decide_eq_false];intro h;exact absurd (this.2 hm) (by omega)
   simp only [aD_.turn3,aD_.step3,Int.toNat_natCast,List.drop_zero,W_up hi htk,ai_,bT_,hm_,ae_ hA,hg,ah_,ei_ ih,dW_ hi,dx_ hi]
   cases decide (keys.getD i 0 ∈ keys.take i)<;>simp<;>omega
 · simp only [aD_.turn3,aD_.step3,dN_,cond_false]
   exact hin
end Go.Pi
end
section
namespace Go.Pi
def del {α:Type} (l:List α) (k:Nat):List α:=l.take k++l.drop (k+1)
def fM_ {α:Type} (l:List α) (k:Nat) (x:α):List α:=l.take k++[x]++l.drop k
def rmOp (k:Nat):TOp:=TOp.mk 2 [Lib.itoa k] (aa_.mk 0 0 [] [] [])
def repOp (k:Nat) (j:aa_):TOp:=TOp.mk 3 [Lib.itoa k] j
def addOp (k:Nat) (j:aa_):TOp:=TOp.mk 1 [Lib.itoa k] j
theorem ho_ {α:Type} {l:List α} {k:Nat} (h:k<l.length):(del l k).length+1=l.length:=by
 simp only [del,List.length_append,List.length_take,List.length_drop];omega
theorem mk_ {α:Type} {l:List α} {k:Nat} {x:α} (h:k≤l.length):(fM_ l k x).length=l.length+1:=by
 simp only [fM_,List.length_append,List.length_take,List.length_drop,List.length_cons,List.length_nil];omega
theorem del_mem {α:Type} {l:List α} {k:Nat} {x:α} (h:x ∈ del l k):x ∈ l:=by
 rcases List.mem_append.1 h with h|h
 · exact List.mem_of_mem_take h
 · exact List.mem_of_mem_drop h
theorem mi_ {α:Type} {l:List α} {k:Nat} {x y:α} (h:y ∈ fM_ l k x):y=x∨y ∈ l:=by
 rcases List.mem_append.1 h with h|h
 · rcases List.mem_append.1 h with h|h
   · exact .inr (List.mem_of_mem_take h)
   · exact .inl (List.mem_singleton.1 h)
 · exact .inr (List.mem_of_mem_drop h)
theorem del_map {α β:Type} (f:α→β) (l:List α) (k:Nat):(del l k).map f=del (l.map f) k:=by
 simp only [del,List.map_append,List.map_take,List.map_drop]
theorem mj_ {α β:Type} (f:α→β) (l:List α) (k:Nat) (x:α):(fM_ l k x).map f=fM_ (l.map f) k (f x):=by
 simp only [fM_,List.map_append,List.map_take,List.map_drop,List.map_cons,List.map_nil]
theorem del_take {α:Type} {l:List α} {k:Nat} (h:k≤l.length):(del l k).take k=l.take k:=by
 unfold del
 rw [List.take_append_of_le_length (by simp;omega),List.take_of_length_le (by simp;omega)]
theorem pf_ {α:Type} (d:α) {l m:List α} {k:Nat} (h:l.take (k+1)=m.take (k+1)):l.getD k d=m.getD k d:=by
 have:=congrArg (fun z=>z[k]?) h
 simp only [List.getElem?_take_of_lt (Nat.lt_succ_self k)] at this
 rw [List.getD_eq_getElem?_getD,List.getD_eq_getElem?_getD,this]
theorem lI_ {α:Type} {l m:List α} {k:Nat} (h:l.take (k+1)=m.take (k+1)):l.take k=m.take k:=by
 have:=congrArg (List.take k) h
 rwa [List.take_take,List.take_take,Nat.min_eq_left (Nat.le_succ k)] at this
theorem kO_ {k:Nat} (h:k≤4000000):Ev (fun n _=>c7_ n (k:Int)) [Lib.itoa k]:=ao_ (by simp only [c7_,ae_ (nN_ (x:=(k:Int)) (by omega) (by omega)),ah_])
theorem gQ_ {l:List au_} {k:Nat} (h:k<l.length):Ev (fun n _=>bo_ n l (k:Int) ((k+1:Nat):Int)) (del l k):=by
 refine ao_ ?_
 simp only [bo_,k7_,ai_,ah_,dU_,Int.toNat_natCast,del]
 refine ⟨fun _=>trivial,fun hc => ?_⟩
 rw [decide_eq_true (show (0:Int)≤(k:Int) by omega),decide_eq_true (show (k:Int)≤((k+1:Nat):Int) by omega),decide_eq_true (show ((k+1:Nat):Int)≤(l.length:Int) by omega)] at hc
 cases hc
theorem gL_ {l:List au_} {k:Nat} {x:au_} (h:k≤l.length) (hl:l.length≤10000000):Ev (fun n _=>bn_ n l (k:Int) [x]) (fM_ l k x):=by
 refine ao_ ?_
 simp only [bn_,gz_,ai_,ah_,dU_,Int.toNat_natCast,fM_]
 refine ⟨fun _=>⟨fun _=>trivial,fun hc => ?_⟩,fun hc => ?_⟩
 · have hc:=of_decide_eq_false hc
   simp only [List.length_cons,List.length_nil] at hc;omega
 · rw [decide_eq_true (show (0:Int)≤(k:Int) by omega),decide_eq_true (show (k:Int)≤(l.length:Int) by omega)] at hc
   cases hc
theorem kb_ {ks:List Int} {k:Nat} (h:k<ks.length) (hl:ks.length≤10000000):Ev (fun n _=>b0_ n ks (k:Int)) (del ks k):=by
 refine ao_ ?_
 have hw:=W_up h (show ks.length≤ci_ by simp only [ci_];omega)
 simp only [b0_,hw,hm_,cg_,ah_,Int.toNat_natCast,List.drop_zero,List.nil_append,List.take_length,del,List.length_nil,List.length_take,List.length_drop]
 repeat' (first|apply And.intro)
 all_goals (first|trivial|rfl|omega)
theorem mh_ {ks:List Int} {k:Nat} {x:Int} (h:k≤ks.length) (hl:ks.length≤10000000):Ev (fun n _=>ck_ n ks (k:Int) x) (fM_ ks k x):=by
 refine ao_ ?_
 simp only [ck_,hm_,cg_,ah_,Int.toNat_natCast,List.drop_zero,List.nil_append,List.take_length,fM_,List.length_nil,List.length_append,List.length_cons,List.length_take,List.length_drop]
 repeat' (first|apply And.intro)
 all_goals (first|trivial|rfl|omega)
def lY_ (nk:List Int) (old:List au_):Nat→List au_→List TOp→List au_ × List TOp
 |0,l,ops=>(l,ops)
 |k+1,l,ops=>if (old.getD k au_.dflt).key ∈ nk then lY_ nk old k l ops else lY_ nk old k (del l k) (ops++[rmOp k])
theorem iQ_ (nk:List Int) (old:List au_):∀ k l ops,∀ x ∈ (lY_ nk old k l ops).1,x ∈ l
 |0,l,ops,x,h=>h
 |k+1,l,ops,x,h=>by
  simp only [lY_] at h
  split at h
  · exact iQ_ nk old k l ops x h
  · exact del_mem (iQ_ nk old k (del l k) _ x h)
theorem hF_ (nk:List Int) (old:List au_):∀ k l ops,k≤l.length→(lY_ nk old k l ops).1.length≤l.length∧(lY_ nk old k l ops).2.length≤ops.length+k
 |0,l,ops,_=>⟨Nat.le_refl _,Nat.le_refl _⟩
 |k+1,l,ops,h=>by
  simp only [lY_]
  split
  · have:=hF_ nk old k l ops (by omega);omega
  · have hd:=ho_ (l:=l) (k:=k) (by omega)
    have:=hF_ nk old k (del l k) (ops++[rmOp k]) (by omega)
    simp only [List.length_append,List.length_cons,List.length_nil] at this;omega
theorem dn_ge {k:Nat}:decide ((k:Int)≥0)=true:=decide_eq_true (by omega)
theorem dn_eq {k:Nat}:(((k+1:Nat):Int) - 1)=(k:Int):=by omega
theorem neg_dec {ks:List Int} {k:Int}:decide (kAt ks k<0) = !decide (k ∈ ks):=by
 have:=nm_ (ks:=ks) (k:=k)
 by_cases h:k ∈ ks
 · rw [decide_eq_true h,decide_eq_false (fun h'=>this.1 h' h)];rfl
 · rw [decide_eq_false h,decide_eq_true (this.2 h)];rfl
theorem no_ {old now:List au_} (hn:now.length≤2000000) (K:Nat→List au_→List au_→List TOp→Option (List TOp)) (F:List TOp):∀ k l ops,l.take k=old.take k→k≤l.length→l.length≤2000000→ops.length+k≤2000000 →
  Ev (fun n N=>K n (lY_ (b7_ now) old k l ops).1 now (lY_ (b7_ now) old k l ops).2) F→Ev (fun n N=>a1_.loop9 n (K n) N ((k:Int) - 1) l now ops) F
 |0,l,ops,_,_,_,_,hF=>by
  refine do_ ?_
  have e:decide ((((0:Nat):Int) - 1)≥0)=false:=rfl
  simp only [a1_.turn9,a1_.step9,e,cond_false]
  exact hF
 |k+1,l,ops,ht,hk,hl,ho,hF=>by
  refine do_ ?_
  have hg:=pf_ au_.dflt ht
  have hkl:k<l.length:=by omega
  have hA:=hS_ (l:=now) (k:=(old.getD k au_.dflt).key) (by simp only [ci_];omega)
  simp only [lY_] at hF
  simp only [a1_.turn9,a1_.step9,dn_ge,dn_eq,cond_true,bT_,dx_ hkl,Int.toNat_natCast,hg,ae_ hA,neg_dec,ai_,W_dn (i:=k) (by simp only [ci_];omega),ae_ (kO_ (k:=k) (by omega)),cg_,W_up hkl (show l.length≤ci_ by simp only [ci_];omega),ae_ (gQ_ hkl)]
  refine ⟨trivial,fun hc => ?_,fun hc => ?_⟩
  · have hc:¬ (old.getD k au_.dflt).key ∈ b7_ now:=by simpa using hc
    rw [if_neg hc] at hF
    have hd:=ho_ hkl
    refine ⟨by simp only [List.length_cons,List.length_nil];omega,no_ hn K F k (del l k) _ ?_ (by omega) (by omega) (by simp only [List.length_append,List.length_cons,List.length_nil];omega) hF⟩
    rw [del_take (by omega)];exact lI_ ht
  · have hc:(old.getD k au_.dflt).key ∈ b7_ now:=by simpa using hc
    rw [if_pos hc] at hF
    exact no_ hn K F k l ops (lI_ ht) (by omega) hl (by omega) hF
theorem eP_ {l:List au_} {k:Nat} (h:k<l.length):(b7_ l).getD k 0=(l.getD k au_.dflt).key:=f4_ (fun x:au_=>x.key) au_.dflt 0 h
theorem m3_ {old now:List au_} (hn:now.length≤2000000) (hold:old.length≤2000000) (o t2:List aa_) (K:Nat→List aa_→List Int→List aa_→List Int→List TOp→List Int→Option (List TOp)) (F:List TOp):∀ k l ops,k≤old.length→k≤l.length→l.length≤2000000→ops.length+k≤2000000 →
  Ev (fun n N=>K n o (b7_ old) t2 (b7_ now) (lY_ (b7_ now) old k l ops).2 (b7_ (lY_ (b7_ now) old k l ops).1)) F→Ev (fun n N=>aA_.loop5 n (K n) N o (b7_ old) t2 (b7_ now) ((k:Int) - 1) ops (b7_ l)) F
 |0,l,ops,_,_,_,_,hF=>by
  refine do_ ?_
  have e:decide ((((0:Nat):Int) - 1)≥0)=false:=rfl
  simp only [aA_.turn5,aA_.step5,e,cond_false]
  exact hF
 |k+1,l,ops,hko,hk,hl,ho,hF=>by
  refine do_ ?_
  have hko':k<(b7_ old).length:=by rw [du_];omega
  have hkl:k<l.length:=by omega
  have hkl':k<(b7_ l).length:=by rw [du_];omega
  have hg:=eP_ (l:=old) (k:=k) (by omega)
  have hA:=fr_ (ks:=b7_ now) (k:=(old.getD k au_.dflt).key) (by rw [du_];simp only [ci_];omega)
  have hW:=kb_ hkl' (by rw [du_];omega)
  have hm:del (b7_ l) k=b7_ (del l k):=(del_map (fun x:au_=>x.key) l k).symm
  rw [hm] at hW
  simp only [lY_] at hF
  simp only [aA_.turn5,aA_.step5,dn_ge,dn_eq,cond_true,bT_,dx_ hko',Int.toNat_natCast,hg,ae_ hA,neg_dec,ai_,W_dn (i:=k) (by simp only [ci_];omega),ae_ (eg_ (x:=(k:Int)) (by omega) (by omega)),cg_,ae_ hW]
  refine ⟨trivial,fun hc => ?_,fun hc => ?_⟩
  · have hc:¬ (old.getD k au_.dflt).key ∈ b7_ now:=by simpa using hc
    rw [if_neg hc] at hF
    have hd:=ho_ hkl
    exact ⟨by simp only [List.length_cons,List.length_nil];omega,m3_ hn hold o t2 K F k (del l k) _ (by omega) (by omega) (by omega) (by simp only [List.length_append,List.length_cons,List.length_nil];omega) hF⟩
  · have hc:(old.getD k au_.dflt).key ∈ b7_ now:=by simpa using hc
    rw [if_pos hc] at hF
    exact m3_ hn hold o t2 K F k l ops (by omega) (by omega) hl (by omega) hF
end Go.Pi
end
section
namespace Go.Pi
def fw_ (l:List au_) (i:Nat) (x:au_):List au_ × List TOp :=
 if kAt (b7_ l) x.key=(i:Int) then (l,cond (eu_ 6 (l.getD i au_.dflt).value x.value) [] [repOp i x.value])
 else if (i:Int)<kAt (b7_ l) x.key then (fM_ (del l (kAt (b7_ l) x.key).toNat) i x,[rmOp (kAt (b7_ l) x.key).toNat,addOp i x.value])
 else (fM_ l i x,[addOp i x.value])
def fQ_ (now:List au_) (s:List au_ × List TOp):Nat→List au_ × List TOp
 |0=>s
 |i+1=>((fw_ (fQ_ now s i).1 i (now.getD i au_.dflt)).1,(fQ_ now s i).2++(fw_ (fQ_ now s i).1 i (now.getD i au_.dflt)).2)
theorem mg_ {l:List au_} {k:Int} {i:Nat} (h:(i:Int)<kAt (b7_ l) k):∃ p:Nat,kAt (b7_ l) k=p∧i<p∧p<l.length:=by
 obtain ⟨p,hp⟩:∃ p:Nat,kAt (b7_ l) k=p:=⟨(kAt (b7_ l) k).toNat,by omega⟩
 have:=(kp_ hp).1
 rw [du_] at this
 exact ⟨p,hp,by omega,this⟩
theorem kJ_ {l:List au_} {i:Nat} {x:au_} (h:i≤l.length):i+1≤(fw_ l i x).1.length∧(fw_ l i x).1.length≤l.length+1∧(fw_ l i x).2.length≤2:=by
 unfold fw_
 by_cases h1:kAt (b7_ l) x.key=(i:Int)
 · rw [if_pos h1]
   have:=(kp_ h1).1
   rw [du_] at this
   refine ⟨by dsimp only;omega,by dsimp only;omega,?_⟩
   dsimp only
   cases eu_ 6 (l.getD i au_.dflt).value x.value<;>simp
 · rw [if_neg h1]
   by_cases h2:(i:Int)<kAt (b7_ l) x.key
   · rw [if_pos h2]
     obtain ⟨p,hp,h3,h4⟩:=mg_ h2
     rw [hp,Int.toNat_natCast]
     have:=ho_ h4
     have:=mk_ (l:=del l p) (k:=i) (x:=x) (by omega)
     exact ⟨by dsimp only;omega,by dsimp only;omega,Nat.le_refl _⟩
   · rw [if_neg h2]
     have:=mk_ (l:=l) (k:=i) (x:=x) h
     exact ⟨by dsimp only;omega,by dsimp only;omega,by simp⟩
theorem kI_ {l:List au_} {i:Nat} {x y:au_} (h:y ∈ (fw_ l i x).1):y=x∨y ∈ l:=by
 unfold fw_ at h
 split at h
 · exact .inr h
 · split at h
   · rcases mi_ h with h|h
     · exact .inl h
     · exact .inr (del_mem h)
   · exact mi_ h
theorem gJ_ (now:List au_) (s:List au_ × List TOp):∀ i,i≤(fQ_ now s i).1.length∧(fQ_ now s i).1.length≤s.1.length+i∧(fQ_ now s i).2.length≤s.2.length+2*i
 |0=>⟨Nat.zero_le _,Nat.le_refl _,Nat.le_refl _⟩
 |i+1=>by
  have h:=gJ_ now s i
  have k:=kJ_ (x:=now.getD i au_.dflt) h.1
  simp only [fQ_,List.length_append];omega
def okK (x:au_):Prop:=dv_ x.value=true∧fB_ 6 x.value
theorem oG_ {now:List au_} {s:List au_ × List TOp} (hn:∀ x ∈ now,okK x) (hs:∀ x ∈ s.1,okK x):∀ i,i≤now.length→∀ x ∈ (fQ_ now s i).1,okK x
 |0,_,x,h=>hs x h
 |i+1,hi,x,h=>by
  rcases kI_ h with h|h
  · rw [h];exact hn _ (cF_ au_.dflt (by omega))
  · exact oG_ hn hs i (by omega) x h
theorem gT_ {x:au_} (h:okK x):dt_ 6 x.value≤400:=of_decide_eq_true h.1
theorem impl_add {now:List au_} {s:List au_ × List TOp} (hnl:now.length≤2000000) (hsl:s.1.length≤2000000) (hol:s.2.length≤2000000) (hn:∀ x ∈ now,okK x) (hs:∀ x ∈ s.1,okK x) :
  Ev (fun n _=>a1_.loop17 n (fun xy21=>(some xy21)) n (now.length:Int) 0 s.1 s.2 now) (fQ_ now s now.length).2:=by
 refine eC_ (fQ_ now s) now.length (fun n N i (z:List au_ × List TOp)=>a1_.loop17 n (fun xy21=>(some xy21)) N (now.length:Int) (i:Int) z.1 z.2 now) _ (fun i hi F hF => ?_) ?_
 · have hL:=gJ_ now s i
   have hO:=oG_ hn hs i (by omega)
   simp only [fQ_] at hF
   obtain ⟨x,hx⟩:∃ x,x=now.getD i au_.dflt:=⟨_,rfl⟩
   have hxo:okK x:=by rw [hx];exact hn _ (cF_ au_.dflt hi)
   rw [←hx] at hF
   generalize fQ_ now s i=z at hF hL hO ⊢
   obtain ⟨l,ops⟩:=z
   dsimp only at hF hL hO ⊢
   have hA:=hS_ (l:=l) (k:=x.key) (by simp only [ci_];omega)
   have hC:=ex_ 6 x.value (gT_ hxo)
   have hWi:=kO_ (k:=i) (by omega)
   simp only [a1_.turn17,a1_.step17,b3_,mf_,Int.toNat_natCast,←hx,W_up hi (show now.length≤ci_ by simp only [ci_];omega),dW_ hi,dx_ hi,cond_true,bT_,ae_ hA]
   refine ⟨trivial,?_⟩
   unfold fw_ at hF
   by_cases h1:kAt (b7_ l) x.key=(i:Int)
   · rw [if_pos h1] at hF
     have hil:=(kp_ h1).1
     rw [du_] at hil
     have ho:=hO _ (cF_ au_.dflt hil)
     have hK:=f2_ 6 (l.getD i au_.dflt).value x.value (fe_ 6 _ (gT_ ho)) ho.2
     simp only [h1,beq_self_eq_true,cond_true,bT_,dx_ hil,Int.toNat_natCast,ae_ hK,ai_,ae_ hWi,ae_ hC,cg_]
     refine ⟨trivial,fun hc => ?_,fun hc => ?_⟩
     · have hc:eu_ 6 (l.getD i au_.dflt).value x.value=false:=by simpa using hc
       rw [hc] at hF
       exact ⟨by simp only [List.length_cons,List.length_nil];omega,hF⟩
     · have hc:eu_ 6 (l.getD i au_.dflt).value x.value=true:=by simpa using hc
       rw [hc] at hF
       simp only [cond_true,List.append_nil] at hF
       exact hF
   · rw [if_neg h1] at hF
     have hne:(kAt (b7_ l) x.key == (i:Int))=false:=beq_eq_false_iff_ne.2 h1
     by_cases h2:(i:Int)<kAt (b7_ l) x.key
     · rw [if_pos h2] at hF
       obtain ⟨p,hp,h3,h4⟩:=mg_ h2
       rw [hp,Int.toNat_natCast] at hF
       rw [hp] at h2 hne
       have hdl:=ho_ h4
       have hI:=gL_ (l:=del l p) (k:=i) (x:=x) (by omega) (by omega)
       simp only [hp,hne,decide_eq_true (show (p:Int) > (i:Int) by omega),cond_true,cond_false,ae_ (kO_ (k:=p) (by omega)),cg_,W_up h4 (show l.length≤ci_ by simp only [ci_];omega),ae_ (gQ_ h4),ae_ hWi,ae_ hC,ae_ hI]
       refine ⟨by simp only [List.length_cons,List.length_nil];omega,by simp only [List.length_append,List.length_cons,List.length_nil];omega,?_⟩
       rw [List.append_assoc]
       exact hF
     · rw [if_neg h2] at hF
       have hI:=gL_ (l:=l) (k:=i) (x:=x) (by omega) (by omega)
       simp only [hne,decide_eq_false (show ¬ kAt (b7_ l) x.key > (i:Int) from h2),cond_false,ae_ hWi,ae_ hC,cg_,ae_ hI]
       exact ⟨by simp only [List.length_cons,List.length_nil];omega,hF⟩
 · simp only [a1_.turn17,a1_.step17,dN_,cond_false,ah_]
structure AddInv (old now:List au_) (l:List au_) (i:Nat):Prop where
 len:i≤l.length
 front:∀ j,j<i→(l.getD j au_.dflt).key=(now.getD j au_.dflt).key
 from_:∀ x ∈ l,x ∈ old∨∃ j,j<i∧x.key=(now.getD j au_.dflt).key
def lo_ (now:List au_):Prop:=∀ i j,i<j→j<now.length→(now.getD i au_.dflt).key≠(now.getD j au_.dflt).key
theorem mv_ {α:Type} (d:α) {a b:List α} {j:Nat} (h:j<a.length):(a++b).getD j d=a.getD j d:=by
 rw [List.getD_eq_getElem?_getD,List.getD_eq_getElem?_getD,List.getElem?_append_left h]
theorem ju_ {l:List au_} {i j:Nat} {x:au_} (hi:i≤l.length) (h:j<i):(fM_ l i x).getD j au_.dflt=l.getD j au_.dflt:=by
 have hl:(l.take i).length=i:=by simp;omega
 unfold fM_
 rw [List.append_assoc,mv_ _ (by omega),List.getD_eq_getElem?_getD,List.getD_eq_getElem?_getD,List.getElem?_take_of_lt h]
theorem ol_ {l:List au_} {i:Nat} {x:au_} (hi:i≤l.length):(fM_ l i x).getD i au_.dflt=x:=by
 have hl:(l.take i).length=i:=by simp;omega
 unfold fM_
 rw [List.append_assoc,List.getD_eq_getElem?_getD,List.getElem?_append_right (by omega),hl,Nat.sub_self];rfl
theorem del_front {l:List au_} {p j:Nat} (hp:p≤l.length) (h:j<p):(del l p).getD j au_.dflt=l.getD j au_.dflt:=by
 have hl:(l.take p).length=p:=by simp;omega
 unfold del
 rw [mv_ _ (by omega),List.getD_eq_getElem?_getD,List.getD_eq_getElem?_getD,List.getElem?_take_of_lt h]
theorem nL_ {old now l:List au_} {i:Nat} (h:AddInv old now l i) (hi:i<now.length):AddInv old now (fw_ l i (now.getD i au_.dflt)).1 (i+1):=by
 refine ⟨(kJ_ h.len).1,fun j hj => ?_,fun x hx => ?_⟩
 · unfold fw_
   by_cases h1:kAt (b7_ l) (now.getD i au_.dflt).key=(i:Int)
   · rw [if_pos h1]
     by_cases e:j=i
     · subst e
       obtain ⟨a,b⟩:=kp_ h1
       rw [du_] at a
       rw [←b,eP_ a]
     · exact h.front j (by omega)
   · rw [if_neg h1]
     by_cases h2:(i:Int)<kAt (b7_ l) (now.getD i au_.dflt).key
     · rw [if_pos h2]
       obtain ⟨p,hp,h3,h4⟩:=mg_ h2
       rw [hp,Int.toNat_natCast]
       have hdl:=ho_ h4
       by_cases e:j=i
       · subst e;rw [ol_ (by omega)]
       · rw [ju_ (by omega) (by omega),del_front (by omega) (by omega)];exact h.front j (by omega)
     · rw [if_neg h2]
       by_cases e:j=i
       · subst e;rw [ol_ h.len]
       · rw [ju_ h.len (by omega)];exact h.front j (by omega)
 · rcases kI_ hx with e|hx
   · exact .inr ⟨i,by omega,by rw [e]⟩
   · rcases h.from_ x hx with h' | ⟨j,hj,e⟩
     · exact .inl h'
     · exact .inr ⟨j,by omega,e⟩
theorem kK_ {old now:List au_} {s:List au_ × List TOp} (h0:∀ x ∈ s.1,x ∈ old):∀ i,i≤now.length→AddInv old now (fQ_ now s i).1 i
 |0,_=>⟨Nat.zero_le _,fun j hj=>by omega,fun x hx=>.inl (h0 x hx)⟩
 |i+1,hi=>nL_ (kK_ h0 i (by omega)) (by omega)
theorem i0_ {l:List au_} {k:Nat} (h:k<l.length):(l.map (·.value)).getD k aa_.dflt=(l.getD k au_.dflt).value:=f4_ (fun x:au_=>x.value) au_.dflt aa_.dflt h
theorem spec_add {old now:List au_} {s:List au_ × List TOp} (hnl:now.length≤2000000) (hold:old.length≤2000000) (hsl:s.1.length≤2000000) (hol:s.2.length≤2000000) (hn:∀ x ∈ now,okK x) (ho:∀ x ∈ old,okK x) (h0:∀ x ∈ s.1,x ∈ old)
  (hd:lo_ now) (hod:∀ x ∈ old,∀ y ∈ old,x.key=y.key→x=y) :
  Ev (fun n _=>aA_.loop13 n (fun xy21=>(some xy21)) n (old.map (·.value)) (b7_ old) (now.map (·.value)) (b7_ now) 0 s.2 (b7_ s.1)) (fQ_ now s now.length).2:=by
 refine eC_ (fQ_ now s) now.length (fun n N i (z:List au_ × List TOp)=>aA_.loop13 n (fun xy21=>(some xy21)) N (old.map (·.value)) (b7_ old) (now.map (·.value)) (b7_ now) (i:Int) z.2 (b7_ z.1)) _ (fun i hi F hF => ?_) ?_
 · have hL:=gJ_ now s i
   have hI:=kK_ (now:=now) h0 i (by omega)
   simp only [fQ_] at hF
   obtain ⟨x,hx⟩:∃ x,x=now.getD i au_.dflt:=⟨_,rfl⟩
   have hxo:okK x:=by rw [hx];exact hn _ (cF_ au_.dflt hi)
   have hik:i<(b7_ now).length:=by rw [du_];exact hi
   have hiv:i<(now.map (·.value)).length:=by simpa using hi
   have hkey:(b7_ now).getD i 0=x.key:=by rw [eP_ hi,hx]
   have hval:(now.map (·.value)).getD i aa_.dflt=x.value:=by rw [i0_ hi,hx]
   rw [←hx] at hF
   generalize fQ_ now s i=z at hF hL hI ⊢
   obtain ⟨l,ops⟩:=z
   dsimp only at hF hL hI ⊢
   have hA:=fr_ (ks:=b7_ l) (k:=x.key) (by rw [du_];simp only [ci_];omega)
   have hC:=eV_ 6 x.value (gT_ hxo)
   have hWi:=eg_ (x:=(i:Int)) (by omega) (by omega)
   simp only [aA_.turn13,aA_.step13,b3_,Int.toNat_natCast,hkey,hval,W_up hik (show (b7_ now).length≤ci_ by rw [du_];simp only [ci_];omega),dW_ hik,dx_ hik,dx_ hiv,cond_true,bT_,ae_ hA,ae_ hWi]
   refine ⟨trivial,?_⟩
   unfold fw_ at hF
   by_cases h1:kAt (b7_ l) x.key=(i:Int)
   · rw [if_pos h1] at hF
     obtain ⟨hil,hke⟩:=kp_ h1
     rw [du_] at hil
     rw [eP_ hil] at hke
     have hmem:l.getD i au_.dflt ∈ old:=by
      rcases hI.from_ _ (cF_ au_.dflt hil) with h' | ⟨j,hj,e⟩
      · exact h'
      · exact absurd (by rw [←e,hke,hx]) (hd j i hj hi)
     have hin:x.key ∈ b7_ old:=List.mem_map.2 ⟨_,hmem,hke⟩
     obtain ⟨q,hq,hql,hqk⟩:=ko_ hin
     have hqo:q<old.length:=by rwa [du_] at hql
     have hqe:old.getD q au_.dflt=l.getD i au_.dflt:=hod _ (cF_ au_.dflt hqo) _ hmem (by rw [←eP_ hqo,hqk,hke])
     have hqv:(old.map (·.value)).getD q aa_.dflt=(l.getD i au_.dflt).value:=by rw [i0_ hqo,hqe]
     have hqi:q<(old.map (·.value)).length:=by simpa using hqo
     have hB:=fr_ (ks:=b7_ old) (k:=x.key) (by rw [du_];simp only [ci_];omega)
     rw [hq] at hB
     have hoo:=ho _ hmem
     have hK:=eU_ 6 (l.getD i au_.dflt).value x.value (fe_ 6 _ (gT_ hoo)) hoo.2
     simp only [h1,beq_self_eq_true,cond_true,bT_,ae_ hB,dx_ hqi,dx_ hik,dx_ hiv,Int.toNat_natCast,hqv,ae_ hK,ai_,ae_ hC,cg_]
     refine ⟨trivial,trivial,trivial,fun hc => ?_,fun hc => ?_⟩
     · have hc:eu_ 6 (l.getD i au_.dflt).value x.value=false:=by simpa using hc
       rw [hc] at hF
       exact ⟨trivial,by simp only [List.length_cons,List.length_nil];omega,hF⟩
     · have hc:eu_ 6 (l.getD i au_.dflt).value x.value=true:=by simpa using hc
       rw [hc] at hF
       simp only [cond_true,List.append_nil] at hF
       exact hF
   · rw [if_neg h1] at hF
     have hne:(kAt (b7_ l) x.key == (i:Int))=false:=beq_eq_false_iff_ne.2 h1
     by_cases h2:(i:Int)<kAt (b7_ l) x.key
     · rw [if_pos h2] at hF
       obtain ⟨p,hp,h3,h4⟩:=mg_ h2
       rw [hp,Int.toNat_natCast] at hF
       rw [hp] at h2 hne
       have hdl:=ho_ h4
       have hpk:p<(b7_ l).length:=by rw [du_];exact h4
       have hW:=kb_ hpk (by rw [du_];omega)
       have hm:del (b7_ l) p=b7_ (del l p):=(del_map (fun x:au_=>x.key) l p).symm
       rw [hm] at hW
       have hN:=mh_ (ks:=b7_ (del l p)) (k:=i) (x:=x.key) (by rw [du_];omega) (by rw [du_];omega)
       have hm2:fM_ (b7_ (del l p)) i x.key=b7_ (fM_ (del l p) i x):=(mj_ (fun x:au_=>x.key) (del l p) i x).symm
       rw [hm2] at hN
       simp only [hp,hne,decide_eq_true (show (p:Int)≥0 by omega),cond_true,cond_false,ae_ (eg_ (x:=(p:Int)) (by omega) (by omega)),cg_,ae_ hW,bT_,dx_ hik,dx_ hiv,ae_ hC,ae_ hN]
       refine ⟨by simp only [List.length_cons,List.length_nil];omega,trivial,by simp only [List.length_append,List.length_cons,List.length_nil];omega,trivial,?_⟩
       rw [List.append_assoc]
       exact hF
     · rw [if_neg h2] at hF
       have hlt:kAt (b7_ l) x.key<0:=Classical.byContradiction fun hc=>by
        obtain ⟨q,hq⟩:∃ q:Nat,kAt (b7_ l) x.key=q:=⟨(kAt (b7_ l) x.key).toNat,by omega⟩
        have hqi:q<i:=by omega
        obtain ⟨a,b⟩:=kp_ hq
        rw [du_] at a
        rw [eP_ a,hI.front q hqi,hx] at b
        exact hd q i hqi hi b
       have hN:=mh_ (ks:=b7_ l) (k:=i) (x:=x.key) (by rw [du_];omega) (by rw [du_];omega)
       have hm2:fM_ (b7_ l) i x.key=b7_ (fM_ l i x):=(mj_ (fun x:au_=>x.key) l i x).symm
       rw [hm2] at hN
       simp only [hne,decide_eq_false (show ¬ kAt (b7_ l) x.key≥0 by omega),cond_false,bT_,dx_ hik,dx_ hiv,ae_ hC,cg_,ae_ hN]
       exact ⟨trivial,by simp only [List.length_cons,List.length_nil];omega,trivial,hF⟩
 · have e:((b7_ now).length:Int)=(now.length:Int):=by rw [du_]
   simp only [aA_.turn13,aA_.step13,e,dN_,cond_false,ah_]
end Go.Pi
end
section
namespace Go.Pi
def ge_ (kids:List TKid) (id:Int):Int:=f5_ (fun i x=>cond ((kids.getD i TKid.dflt).id_ == id) (kids.getD i TKid.dflt).n_ x) 0 kids.length 0
theorem ha_ {v:bB_} {id:Int} (h:v.kids.length≤ci_):Ev (fun n _=>bp_ n v id) (ge_ v.kids id):=by
 refine ao_ ?_
 simp only [bp_]
 refine im_ (fun n N i=>bp_.loop3 n (some 0) N id (i:Int) v.q.table v.q.where_ v.q.order v.q.down v.q.first v.q.show_ v.q.kids v.q.kidTable v.q.kidCol v.rows v.kids) _ (fun i u hi ih => ?_) ?_
 · simp only [bp_.turn3,bp_.step3,Int.toNat_natCast,W_up hi h,ai_,bT_,ah_,ei_ ih,dW_ hi,dx_ hi]
   cases ((v.kids.getD i TKid.dflt).id_ == id)<;>simp
 · simp only [bp_.turn3,bp_.step3,dN_,cond_false,ah_]
theorem j6_ {v:bB_} {id:Int} (h:v.kids.length≤ci_):Ev (fun n _=>by_ n v id) (ge_ v.kids id):=by
 refine ao_ ?_
 simp only [by_]
 refine im_ (fun n N i=>by_.loop3 n (some 0) N id v.kids (v.kids.length:Int) (i:Int)) _ (fun i u hi ih => ?_) ?_
 · simp only [by_.turn3,by_.step3,Int.toNat_natCast,W_up hi h,ai_,bT_,ah_,ei_ ih,dW_ hi,dx_ hi]
   cases ((v.kids.getD i TKid.dflt).id_ == id)<;>simp
 · simp only [by_.turn3,by_.step3,dN_,cond_false,ah_]
def ee_ (v:bB_):List Int:=v.rows.map fun r=>ge_ v.kids r.id_
theorem nY_ (v:bB_):bB_.mk (aT_.mk v.q.table v.q.where_ v.q.order v.q.down v.q.first v.q.show_ v.q.kids v.q.kidTable v.q.kidCol) v.rows v.kids=v:=rfl
theorem h8_ {v:bB_} (h:v.kids.length≤ci_) (hr:v.rows.length≤h4_):Ev (fun n _=>aO_ n v) (ee_ v):=by
 refine ao_ ?_
 have hl:=hr
 simp only [h4_] at hl
 simp only [aO_]
 refine kB_ TRow.dflt v.rows (fun r=>ge_ v.kids r.id_) (fun n N i s=>aO_.loop4 n (fun xy2=>(some xy2)) N (i:Int) v.q.table v.q.where_ v.q.order v.q.down v.q.first v.q.show_ v.q.kids v.q.kidTable v.q.kidCol v.rows v.kids s) (ee_ v) (fun i s hi hs F hF => ?_) ?_
 · simp only [aO_.turn4,aO_.step4,nY_,Int.toNat_natCast,W_up hi (show v.rows.length≤ci_ by simp only [ci_];omega),ai_,bT_,ae_ (ha_ (v:=v) (id:=(v.rows.getD i TRow.dflt).id_) h),cg_,dW_ hi,dx_ hi]
   exact ⟨fun _=>⟨trivial,by simp;omega,hF⟩,fun h=>by cases h⟩
 · simp only [aO_.turn4,aO_.step4,dN_,cond_false,ah_];rfl
theorem ft_ {v:bB_} (h:v.kids.length≤ci_) (hr:v.rows.length≤h4_):Ev (fun n _=>aF_ n v) (ee_ v):=by
 refine ao_ ?_
 have hl:=hr
 simp only [h4_] at hl
 simp only [aF_]
 refine kB_ TRow.dflt v.rows (fun r=>ge_ v.kids r.id_) (fun n N i s=>aF_.loop4 n (fun xy2=>(some xy2)) N v.rows (v.rows.length:Int) (i:Int) v.q.table v.q.where_ v.q.order v.q.down v.q.first v.q.show_ v.q.kids v.q.kidTable v.q.kidCol v.rows v.kids s) (ee_ v) (fun i s hi hs F hF => ?_) ?_
 · simp only [aF_.turn4,aF_.step4,nY_,Int.toNat_natCast,W_up hi (show v.rows.length≤ci_ by simp only [ci_];omega),ai_,bT_,ae_ (j6_ (v:=v) (id:=(v.rows.getD i TRow.dflt).id_) h),cg_,dW_ hi,dx_ hi]
   exact ⟨fun _=>⟨trivial,by simp;omega,hF⟩,fun h=>by cases h⟩
 · simp only [aF_.turn4,aF_.step4,dN_,cond_false,ah_];rfl
def et_ (q:aT_) (n:Nat):Nat:=if q.first=0 then n else min n q.first.toNat
theorem jy_ {q:aT_} {n:Nat}:Ev (fun m _=>cT_ m q (n:Int)) (et_ q n:Int):=by
 refine ao_ ?_
 simp only [cT_,ai_,ah_,et_]
 refine ⟨fun h=>by rw [if_pos (by simpa using h)],fun h => ?_⟩
 rw [if_neg (by simpa using h)]
 by_cases h1:(0:Int) > q.first
 · rw [decide_eq_true h1,cond_true]
   rw [decide_eq_false (by omega),cond_false];omega
 · rw [decide_eq_false h1,cond_false]
   by_cases h2:(n:Int)<q.first
   · rw [decide_eq_true h2,cond_true];omega
   · rw [decide_eq_false h2,cond_false];omega
theorem ev_ {q:aT_} {n:Nat}:Ev (fun m _=>cl_ m q (n:Int)) (et_ q n:Int):=by
 refine ao_ ?_
 have hmin:∀ a b:Int,Ev (fun m _=>dA_ m a b) (min a b):=fun a b=>ao_ (by simp only [dA_,ai_,ah_,decide_eq_true_eq,decide_eq_false_iff_not];constructor<;>intro h<;>omega)
 have hmax:∀ a b:Int,Ev (fun m _=>dB_ m a b) (max a b):=fun a b=>ao_ (by simp only [dB_,ai_,ah_,decide_eq_true_eq,decide_eq_false_iff_not];constructor<;>intro h<;>omega)
 simp only [cl_,ai_,ah_,ae_ (hmin _ _),ae_ (hmax _ _),et_]
 refine ⟨fun h=>by rw [if_pos (by simpa using h)],fun h => ?_⟩
 rw [if_neg (by simpa using h)]
 omega
end Go.Pi
end
section
namespace Go.Pi
def fq_ (g:aa_→aa_) (q:aT_) (rows:List TRow) (kids:List Int) (m:Nat):List aa_:=(List.range m).map fun i=>g (fF_ q (rows.getD i TRow.dflt) (kids.getD i 0))
theorem it_ {g:aa_→aa_} {q:aT_} {rows:List TRow} {kids:List Int} {m:Nat}:fq_ g q rows kids (m+1)=fq_ g q rows kids m++[g (fF_ q (rows.getD m TRow.dflt) (kids.getD m 0))]:=by
 unfold fq_;rw [List.range_succ,List.map_append];rfl
theorem fn_ {g:aa_→aa_} {q:aT_} {rows:List TRow} {kids:List Int} {m:Nat}:(fq_ g q rows kids m).length=m:=by unfold fq_;simp
abbrev nb_:Bs:=[99,111,117,110,116]
abbrev gk_:Bs:=[114,111,119,115]
def gM_ (n:Nat) (docs:List aa_):aa_:=aa_.mk 5 0 [] [gy_ n,aa_.mk 4 0 [] docs []] [nb_,gk_]
theorem gP_ {q:aT_} {n:Nat}:et_ q n≤n:=by unfold et_;split<;>omega
def FDoc (q:aT_) (rows:List TRow) (kids:List Int):aa_:=dV_ (gM_ rows.length (fq_ id q rows kids (et_ q rows.length)))
theorem o2_ {n:Nat} {docs:List aa_} (hl:docs.length≤ci_) (hd:∀ j ∈ docs,fB_ 4 j):fB_ 6 (gM_ n docs):=by
 refine ⟨⟨Nat.zero_le _,by show 2≤ci_;decide,fun x hx => ?_⟩,by show 2≤ci_;decide,fun x hx => ?_⟩
 · rcases List.mem_cons.1 hx with e|hx
   · rw [e];show 5≤ci_;decide
   · rw [List.mem_singleton.1 hx];show 4≤ci_;decide
 · rcases List.mem_cons.1 hx with e|hx
   · rw [e];exact hO_ 5
   · rw [List.mem_singleton.1 hx]
     exact ⟨⟨Nat.zero_le _,Nat.zero_le _,fun x hx=>(by cases hx)⟩,hl,hd⟩
theorem whole_bad {n:Nat} {docs:List aa_} {j:aa_} (hj:j ∈ docs) (hb:dt_ 4 j=401):dv_ (gM_ n docs)=false:=by
 refine decide_eq_false fun h => ?_
 have h1:=h7_ (dt_ 4) hj
 have h2:dt_ 5 (aa_.mk 4 0 [] docs [])=401:=by
  show cond (FOwn _) (min 401 (1+e6_ (dt_ 4) docs)) 401=401
  cases FOwn (aa_.mk 4 0 [] docs [])<;>simp only [cond_true,cond_false]
  omega
 have h3:dt_ 6 (gM_ n docs)=401:=by
  show cond (FOwn _) (min 401 (1+(dt_ 5 (gy_ n)+(dt_ 5 (aa_.mk 4 0 [] docs [])+0)))) 401=401
  rw [h2]
  cases FOwn (gM_ n docs)<;>simp only [cond_true,cond_false]
  omega
 omega
theorem kN_ {q:aT_} {r:TRow} {kids:Int} (d:Nat):dt_ (d+2) (fF_ q r kids)=dt_ 2 (fF_ q r kids):=FSize_obj _ d
theorem jo_ {q:aT_} {rows:List TRow} {kids:List Int} (hq:q.show_.length≤1100000) (hs:∀ c ∈ q.show_,i64 c) (hl:rows.length≤2000000) {m:Nat} (hm:m≤rows.length):fB_ 6 (gM_ rows.length (fq_ id q rows kids m)):=by
 refine o2_ (by rw [fn_];simp only [ci_];omega) fun j hj => ?_
 obtain ⟨i,_,e⟩:=List.mem_map.1 hj
 rw [←e];exact iS_ hq hs 4
theorem jW_ {l:List aa_} (hl:l.length≤ci_):Ev (fun n _=>ak_ n l) (decide (∃ j ∈ l,j.kind=0)):=by
 have hf:∀ j:aa_,Ev (fun n _=>cE_ n j) (j.kind == 0):=fun j=>ao_ (by simp only [cE_,ah_])
 have h:Ev (fun n _=>ac_ n l) (if l.findIdx (fun j=>j.kind == 0)<l.length then ((l.findIdx (fun j=>j.kind == 0):Nat):Int) else -1):=by
  refine ao_ ?_
  rw [←fu_ aa_.dflt]
  simp only [ac_]
  refine im_ (fun n N i=>ac_.loop3 n (some (-1)) N l (l.length:Int) (i:Int)) _ (fun i u hi ih => ?_) ?_
  · simp only [ac_.turn3,ac_.step3,b3_,Int.toNat_natCast,W_up hi hl,ai_,bT_,ae_ (hf _),ah_,ei_ ih,dW_ hi,dx_ hi]
    clear ih
    cases ((l.getD i aa_.dflt).kind == 0)<;>simp
  · simp only [ac_.turn3,ac_.step3,dN_,cond_false,ah_]
 refine ao_ ?_
 simp only [ak_,ae_ h,ah_]
 have e:(l.findIdx (fun j=>j.kind == 0)<l.length)↔∃ j ∈ l,j.kind=0:=by
  rw [List.findIdx_lt_length];simp
 by_cases hm:∃ j ∈ l,j.kind=0
 · rw [if_pos (e.2 hm),decide_eq_true hm,decide_eq_true (by omega)]
 · rw [if_neg (fun h=>hm (e.1 h)),decide_eq_false hm];rfl
section
variable {q:aT_} {rows:List TRow} {kids:List Int} (hq:q.show_.length≤1100000) (hs:∀ c ∈ q.show_,i64 c) (hr:o1_ ci_ rows) (hl:rows.length≤2000000)
include hq hs hr hl
theorem kW_ (hk:kids.length≤ci_):Ev (fun n _=>bH_ n q rows kids) (FDoc q rows kids):=by
 refine ao_ ?_
 simp only [bH_]
 have hF:=gP_ (q:=q) (n:=rows.length)
 have eq0:aT_.mk q.table q.where_ q.order q.down q.first q.show_ q.kids q.kidTable q.kidCol=q:=rfl
 have:=eC_ (fq_ id q rows kids) (et_ q rows.length) (fun n N i (s:List aa_)=>bH_.loop4 n (fun xy4 xy5 xy6 xy7 xy8 xy9 xy10 xy11=>((cv_ n (xy4.length:Int)).bind fun xr12=>((cf_ n (aa_.mk 5 0 [] ([(aa_.re xr12),(aa_.mk xy8 xy9 xy10 xy11 [])]:List aa_) ([[99,111,117,110,116],[114,111,119,115]]:List Bs))).bind fun xr13=>(some (aa_.re xr13))))) N rows kids (i:Int) q.table q.where_ q.order q.down q.first q.show_ q.kids q.kidTable q.kidCol 0 0 [] 4 0 [] s) (FDoc q rows kids) (fun i hi F hF => ?_) ?_
 · exact this
 · have hir:i<rows.length:=by omega
   have hR:∀ k,Ev (fun n _=>bg_ n q (rows.getD i TRow.dflt) k) (fF_ q (rows.getD i TRow.dflt) k):=fun k=>g8_ hq hs (ij_ hr i)
   rw [it_] at hF
   simp only [b3_] at hF
   have hlen:=fn_ (g:=id) (q:=q) (rows:=rows) (kids:=kids) (m:=i)
   generalize fq_ id q rows kids i=s at hF hlen
   simp only [bH_.turn4,bH_.step4,eq0,Int.toNat_natCast,b3_,W_up hir (show rows.length≤ci_ by simp only [ci_];omega),ae_ ev_,ae_ (hR _),decide_eq_true (show ((i:Int)<(et_ q rows.length:Int)) by omega),dx_ hir,cond_true,ai_,bT_,cg_]
   refine ⟨fun h=>⟨⟨by omega,by have:=of_decide_eq_true h;omega⟩,trivial,by simp;omega,hF⟩,fun h=>⟨trivial,by simp;omega,?_⟩⟩
   have h:=of_decide_eq_false h
   have e:kids.getD i 0=0:=by rw [List.getD_eq_getElem?_getD,List.getElem?_eq_none (by omega)];rfl
   rw [e] at hF;exact hF
 · have hw:=jr_ (jo_ hq hs hl (kids:=kids) hF)
   unfold gM_ at hw
   simp only [bH_.turn4,bH_.step4,eq0,b3_,ae_ ev_,dN_,cond_false,ae_ js_,ae_ hw,ah_]
   rfl
theorem gC_ (hk:kids.length≤ci_):Ev (fun n _=>a5_ n q rows kids) (fq_ dV_ q rows kids (et_ q rows.length)):=by
 refine ao_ ?_
 have hF:=gP_ (q:=q) (n:=rows.length)
 simp only [a5_,ae_ jy_,hm_,Int.toNat_natCast,List.drop_zero]
 refine ⟨⟨by omega,by omega,by omega⟩,?_⟩
 have eq0:aT_.mk q.table q.where_ q.order q.down q.first q.show_ q.kids q.kidTable q.kidCol=q:=rfl
 generalize hm:et_ q rows.length=m at hF
 have hml:(rows.take m).length=m:=by simp;omega
 have:=eC_ (fq_ dV_ q rows kids) m (fun n N i (s:List aa_)=>a5_.loop4 n (fun xy4=>(some xy4)) N kids (rows.take m) ((rows.take m).length:Int) (i:Int) q.table q.where_ q.order q.down q.first q.show_ q.kids q.kidTable q.kidCol s) (fq_ dV_ q rows kids m) (fun i hi F hF' => ?_) ?_
 · exact this
 · have hR:∀ k,Ev (fun n _=>bm_ n q (rows.getD i TRow.dflt) k) (dV_ (fF_ q (rows.getD i TRow.dflt) k)):=fun k=>j5_ hq hs (ij_ hr i)
   rw [it_] at hF'
   have hlen:=fn_ (g:=dV_) (q:=q) (rows:=rows) (kids:=kids) (m:=i)
   generalize fq_ dV_ q rows kids i=s at hF' hlen
   have hil:i<(rows.take m).length:=by omega
   have eg:(rows.take m).getD i TRow.dflt=rows.getD i TRow.dflt:=by rw [List.getD_eq_getElem?_getD,List.getD_eq_getElem?_getD,List.getElem?_take_of_lt hi]
   simp only [a5_.turn4,a5_.step4,eq0,Int.toNat_natCast,b3_,eg,W_up hil (show (rows.take m).length≤ci_ by simp only [ci_];omega),dW_ hil,dx_ hil,ae_ (hR _),cond_true,ai_,bT_,cg_]
   refine ⟨trivial,fun h=>⟨⟨by omega,by have:=of_decide_eq_true h;omega⟩,by simp;omega,hF'⟩,fun h=>⟨by simp;omega,?_⟩⟩
   have h:=of_decide_eq_false h
   have e:kids.getD i 0=0:=by rw [List.getD_eq_getElem?_getD,List.getElem?_eq_none (by omega)];rfl
   rw [e] at hF';exact hF'
 · have e:(((rows.take m).length:Nat):Int)=(m:Int):=by rw [hml]
   simp only [a5_.turn4,a5_.step4,e,dN_,cond_false,ah_]
theorem li_ (hk:kids.length≤ci_):Ev (fun n _=>dJ_ n q rows kids) (FDoc q rows kids):=by
 refine ao_ ?_
 have hF:=gP_ (q:=q) (n:=rows.length)
 have hC:=jW_ (l:=fq_ dV_ q rows kids (et_ q rows.length)) (by rw [fn_];simp only [ci_];omega)
 simp only [dJ_,ae_ (gC_ hq hs hr hl hk),ae_ hC,ai_,ah_]
 have hbad:∀ i,i<et_ q rows.length→dv_ (fF_ q (rows.getD i TRow.dflt) (kids.getD i 0))=false→FDoc q rows kids=hj_:=fun i hi hb=>by
  have h4:dt_ 4 (fF_ q (rows.getD i TRow.dflt) (kids.getD i 0))=401:=by
   have h6:¬ dt_ 6 (fF_ q (rows.getD i TRow.dflt) (kids.getD i 0))≤400:=of_decide_eq_false hb
   have:=oI_ 6 (fF_ q (rows.getD i TRow.dflt) (kids.getD i 0))
   rw [kN_ 4] at h6 this
   rw [kN_ 2];omega
  have:dv_ (gM_ rows.length (fq_ id q rows kids (et_ q rows.length)))=false :=
   whole_bad (List.mem_map.2 ⟨i,List.mem_range.2 hi,rfl⟩) h4
  unfold FDoc dV_;rw [this];rfl
 refine ⟨fun h => ?_,fun h => ?_⟩
 · obtain ⟨j,hj,hk⟩:=of_decide_eq_true h
   obtain ⟨i,hi,e⟩:=List.mem_map.1 hj
   rw [hbad i (List.mem_range.1 hi)];· rfl
   rw [←e] at hk
   cases ho:dv_ (fF_ q (rows.getD i TRow.dflt) (kids.getD i 0)) with
   |false=>rfl
   |true=>unfold dV_ at hk;rw [ho] at hk;cases hk
 · have h:=of_decide_eq_false h
   have e:fq_ dV_ q rows kids (et_ q rows.length)=fq_ id q rows kids (et_ q rows.length):=by
    refine List.map_congr_left fun i hi => ?_
    cases ho:dv_ (fF_ q (rows.getD i TRow.dflt) (kids.getD i 0)) with
    |true=>unfold dV_;rw [ho];rfl
    |false=>exact absurd ⟨_,List.mem_map.2 ⟨i,hi,rfl⟩,by unfold dV_;rw [ho];rfl⟩ h
   rw [e]
   have hw:=hK_ (jo_ hq hs hl (kids:=kids) hF)
   unfold gM_ gy_ at hw
   simp only [b3_,ae_ hw,ah_]
   rfl
end
end Go.Pi
end
section
namespace Go.Pi
def eL_ (v:bB_):aa_:=FDoc v.q v.rows (ee_ v)
theorem hs_ {v:bB_}:(ee_ v).length=v.rows.length:=by unfold ee_;simp
theorem o1_.top {r:List TRow} (h:o1_ cap r):o1_ ci_ r:=⟨Nat.le_trans h.1 (by decide),fun x hx=>Nat.le_trans (h.2 x hx) (by decide)⟩
section
variable {v:bB_} (h:m0_ cap v) (hs:∀ c ∈ v.q.show_,i64 c)
include h hs
theorem eA_:fB_ 6 (eL_ v):=by
 have h1:=h.1.2;have h2:=h.2.1.1
 simp only [cap] at h1 h2
 unfold eL_ FDoc dV_
 have:=jo_ (kids:=ee_ v) (rows:=v.rows) (show v.q.show_.length≤1100000 by omega) hs (by omega) (gP_ (q:=v.q))
 cases dv_ (gM_ v.rows.length (fq_ id v.q v.rows (ee_ v) (et_ v.q v.rows.length))) with
 |true=>exact this
 |false=>exact ⟨⟨Nat.zero_le _,Nat.zero_le _,fun x hx=>(by cases hx)⟩,Nat.zero_le _,fun x hx=>(by cases hx)⟩
theorem eF_:Ev (fun n _=>ct_ n v) (eL_ v):=by
 refine ao_ ?_
 have h1:=h.1.2;have h2:=h.2.1.1;have h3:=h.2.2
 simp only [cap] at h1 h2 h3
 have hc:=hs_ (v:=v)
 have hD:=kW_ (q:=v.q) (rows:=v.rows) (kids:=ee_ v) (by omega) hs h.2.1.top (by omega) (by simp only [ci_];omega)
 simp only [ct_,b3_,ae_ (h8_ (v:=v) (by simp only [ci_];omega) (by simp only [h4_];omega)),ae_ hD,ah_]
 rfl
theorem eI_:Ev (fun n _=>cu_ n v) (eL_ v):=by
 refine ao_ ?_
 have h1:=h.1.2;have h2:=h.2.1.1;have h3:=h.2.2
 simp only [cap] at h1 h2 h3
 have hc:=hs_ (v:=v)
 have hD:=li_ (q:=v.q) (rows:=v.rows) (kids:=ee_ v) (by omega) hs h.2.1.top (by omega) (by simp only [ci_];omega)
 simp only [cu_,b3_,ae_ (ft_ (v:=v) (by simp only [ci_];omega) (by simp only [h4_];omega)),ae_ hD,ah_]
 rfl
end
end Go.Pi
end
section
namespace Go.Pi
def sameC (x y:aP_):Bool:=cond (x.col == y.col) (cond (x.op == y.op) (cond (x.v == y.v) true false) false) false
def ht_ (a b:List aP_):Bool:=decide (a.length=b.length)&&iq_ (fun i=>sameC (a.getD i aP_.dflt) (b.getD i aP_.dflt)) a.length
def jU_ (a b:List Int):Bool:=decide (a.length=b.length)&&iq_ (fun i=>a.getD i 0 == b.getD i 0) a.length
def gc_ (a b:aT_):Bool:=(a.table == b.table)&&(ht_ a.where_ b.where_&&((a.order == b.order)&&((a.down == b.down)&&((a.first == b.first)&&(jU_ a.show_ b.show_&&((a.kids == b.kids)&&((a.kidTable == b.kidTable)&&(a.kidCol == b.kidCol))))))))
theorem oe_ {n m:Nat} {p:Nat→Bool}:(iq_ p (min n m)&&decide (n=m))=(decide (n=m)&&iq_ p n):=by
 by_cases h:n=m
 · subst h;simp [Nat.min_self,Bool.and_comm]
 · simp [h]
theorem i3_ {a b:List aP_} (ha:a.length≤ci_):Ev (fun n _=>bd_ n a b) (ht_ a b):=by
 refine ao_ ?_
 simp only [bd_]
 refine fb_ (e7_ (fun n N i=>bd_.loop3 n (fun x y=>some ((x.length:Int) == (y.length:Int))) N a b (i:Int)) (fun i=>sameC (a.getD i aP_.dflt) (b.getD i aP_.dflt)) (len:=min a.length b.length) (v:=decide (a.length=b.length)) (fun i u hi ih => ?_) ?_) oe_
 · have h1:i<a.length:=by omega
   have h2:i<b.length:=by omega
   simp only [bd_.turn3,bd_.step3,Int.toNat_natCast,W_up h1 ha,ai_,bT_,ah_,ei_ ih,dW_ h1,dx_ h1,dW_ h2,dx_ h2]
   clear ih
   simp only [sameC]
   generalize (cond ((a.getD i aP_.dflt).col == (b.getD i aP_.dflt).col) (cond ((a.getD i aP_.dflt).op == (b.getD i aP_.dflt).op) (cond ((a.getD i aP_.dflt).v == (b.getD i aP_.dflt).v) true false) false) false)=c
   cases c<;>simp
 · simp only [bd_.turn3,bd_.step3,ai_,ah_,bT_]
   grind
theorem jY_ {a b:List Int} (ha:a.length≤ci_):Ev (fun n _=>bu_ n a b) (jU_ a b):=by
 refine ao_ ?_
 simp only [bu_]
 refine fb_ (e7_ (fun n N i=>bu_.loop3 n (fun x y=>some ((x.length:Int) == (y.length:Int))) N a b (i:Int)) (fun i=>a.getD i 0 == b.getD i 0) (len:=min a.length b.length) (v:=decide (a.length=b.length)) (fun i u hi ih => ?_) ?_) oe_
 · have h1:i<a.length:=by omega
   have h2:i<b.length:=by omega
   simp only [bu_.turn3,bu_.step3,Int.toNat_natCast,W_up h1 ha,ai_,bT_,ah_,ei_ ih,dW_ h1,dx_ h1,dW_ h2,dx_ h2]
   clear ih
   generalize a.getD i 0=x
   generalize b.getD i 0=y
   grind
 · simp only [bu_.turn3,bu_.step3,ai_,ah_,bT_]
   grind
theorem h9_ {a b:aT_} (ha:lenQ ci_ a):Ev (fun n _=>b8_ n a b) (gc_ a b):=by
 refine ao_ ?_
 simp only [b8_,ae_ (i3_ ha.1),ae_ (jY_ ha.2),ai_,ah_,gc_]
 generalize ht_ a.where_ b.where_=c
 generalize jU_ a.show_ b.show_=d
 cases c<;>cases d<;>grind
theorem lx_ {a b:List aP_} (ha:a.length≤ci_):Ev (fun n _=>as_ n a b) (ht_ a b):=by
 refine ao_ ?_
 simp only [as_,ai_,ah_]
 refine ⟨fun h => ?_,fun h2 => ?_⟩
 · simp only [bne_iff_ne,ne_eq] at h;have:¬ a.length=b.length:=by omega
   simp [ht_,this]
 · simp only [bne_eq_false_iff_eq] at h2
   have hl:a.length=b.length:=by omega
   refine fb_ (e7_ (fun n N i=>as_.loop6 n (some true) N a b (a.length:Int) (i:Int)) (fun i=>sameC (a.getD i aP_.dflt) (b.getD i aP_.dflt)) (len:=a.length) (v:=true) (fun i u hi ih => ?_) ?_) (by simp [ht_,hl])
   · have h2:i<b.length:=by omega
     simp only [as_.turn6,as_.step6,Int.toNat_natCast,W_up hi ha,ai_,bT_,ah_,ei_ ih,dW_ hi,dx_ hi,dx_ h2]
     clear ih
     simp only [sameC]
     generalize (cond ((a.getD i aP_.dflt).col == (b.getD i aP_.dflt).col) (cond ((a.getD i aP_.dflt).op == (b.getD i aP_.dflt).op) (cond ((a.getD i aP_.dflt).v == (b.getD i aP_.dflt).v) true false) false) false)=c
     cases c<;>simp
   · simp only [as_.turn6,as_.step6,dN_,cond_false,ah_]
theorem mW_ {a b:List Int} (ha:a.length≤ci_):Ev (fun n _=>aC_ n a b) (jU_ a b):=by
 refine ao_ ?_
 simp only [aC_,ai_,ah_]
 refine ⟨fun h => ?_,fun h2 => ?_⟩
 · simp only [bne_iff_ne,ne_eq] at h;have:¬ a.length=b.length:=by omega
   simp [jU_,this]
 · simp only [bne_eq_false_iff_eq] at h2
   have hl:a.length=b.length:=by omega
   refine fb_ (e7_ (fun n N i=>aC_.loop6 n (some true) N a b (a.length:Int) (i:Int)) (fun i=>a.getD i 0 == b.getD i 0) (len:=a.length) (v:=true) (fun i u hi ih => ?_) ?_) (by simp [jU_,hl])
   · have h2:i<b.length:=by omega
     simp only [aC_.turn6,aC_.step6,Int.toNat_natCast,W_up hi ha,ai_,bT_,ah_,ei_ ih,dW_ hi,dx_ hi,dx_ h2]
     clear ih
     generalize a.getD i 0=x
     generalize b.getD i 0=y
     grind
   · simp only [aC_.turn6,aC_.step6,dN_,cond_false,ah_]
theorem ih_ {a b:aT_} (ha:lenQ ci_ a):Ev (fun n _=>cd_ n a b) (gc_ a b):=by
 refine ao_ ?_
 simp only [cd_,ae_ (lx_ ha.1),ae_ (mW_ ha.2),ai_,ah_,gc_]
 generalize ht_ a.where_ b.where_=c
 generalize jU_ a.show_ b.show_=d
 repeat' (first|apply And.intro|intro _)
 all_goals (try simp only [beq_iff_eq,beq_eq_false_iff_ne,ne_eq] at *)
 all_goals simp_all
end Go.Pi
end
section
namespace Go.Pi
def aP_.size (s:aP_):Nat:=0
def aP_.len (s:aP_):Prop:=True
def aT_.size (s:aT_):Nat:=(dO_ aP_.size) s.where_+(dO_ szI) s.show_
def aT_.len (s:aT_):Prop:=(ni_ aP_.len) s.where_∧(ni_ lenI) s.show_
def TRow.size (s:TRow):Nat:=(dO_ szI) s.cells
def TRow.len (s:TRow):Prop:=(ni_ lenI) s.cells
def TKid.size (s:TKid):Nat:=0
def TKid.len (s:TKid):Prop:=True
def bB_.size (s:bB_):Nat:=aT_.size s.q+(dO_ TRow.size) s.rows+(dO_ TKid.size) s.kids
def bB_.len (s:bB_):Prop:=aT_.len s.q∧(ni_ TRow.len) s.rows∧(ni_ TKid.len) s.kids
def bZ_.size (s:bZ_):Nat:=bB_.size s.view+bB_.size s.last
def bZ_.len (s:bZ_):Prop:=bB_.len s.view∧bB_.len s.last
mutual
def aa_.size:aa_→Nat
 |⟨_,_,s,l,ns⟩=>s.length+((l.length+aa_.sizes l)+dO_ szB ns)
def aa_.sizes:List aa_→Nat
 |[]=>0
 |x::l=>aa_.size x+aa_.sizes l
end
mutual
def aa_.len:aa_→Prop
 |⟨_,_,s,l,ns⟩=>s.length≤ci_∧(l.length≤ci_∧aa_.lens l)∧ni_ lenB ns
def aa_.lens:List aa_→Prop
 |[]=>True
 |x::l=>aa_.len x∧aa_.lens l
end
theorem aa_.sizes_eq:∀ l:List aa_,aa_.sizes l=e6_ aa_.size l
 |[]=>by simp only [aa_.sizes,e6_]
 |x::l=>by simp only [aa_.sizes,e6_,aa_.sizes_eq l]
theorem aa_.lens_iff:∀ l:List aa_,aa_.lens l↔∀ x ∈ l,aa_.len x
 |[]=>by simp [aa_.lens]
 |x::l=>by simp [aa_.lens,aa_.lens_iff l]
theorem aa_.size_eq (j:aa_):aa_.size j=j.s.length+(dO_ aa_.size j.list+dO_ szB j.names):=by
 cases j;simp only [aa_.size,aa_.sizes_eq,dO_]
theorem aa_.len_iff (j:aa_):aa_.len j↔j.s.length≤ci_∧ni_ aa_.len j.list∧ni_ lenB j.names:=by
 cases j;simp only [aa_.len,aa_.lens_iff,ni_]
theorem aa_.re_eq (j:aa_):aa_.re j=j:=by cases j;rfl
theorem aa_.dec {x:aa_} {a:List aa_} (h:x ∈ a):SizeOf.sizeOf x.list<SizeOf.sizeOf a:=by
 have h1:=List.sizeOf_lt_of_mem h
 have h2:SizeOf.sizeOf x.list<SizeOf.sizeOf x:=by cases x;simp;omega
 omega
def TOp.size (s:TOp):Nat:=(dO_ szB) s.way+aa_.size s.value
def TOp.len (s:TOp):Prop:=(ni_ lenB) s.way∧aa_.len s.value
theorem TOp.eta (x:TOp):TOp.mk x.kind x.way x.value=x:=rfl
def cI_.size (s:cI_):Nat:=aa_.size s.doc+(dO_ TOp.size) s.ops
def cI_.len (s:cI_):Prop:=aa_.len s.doc∧(ni_ TOp.len) s.ops
theorem cI_.eta (x:cI_):cI_.mk x.kind x.version x.base x.doc x.ops=x:=rfl
def au_.size (s:au_):Nat:=aa_.size s.value
def au_.len (s:au_):Prop:=aa_.len s.value
theorem au_.eta (x:au_):au_.mk x.key x.value=x:=rfl
theorem oN_ {a:List aP_} {l:Int} (ha:(ni_ aP_.len) a) (h0:0≤l) (h1:l≤1048576):Ev (fun n _=>cZ_ n a l) (gq_ l ((dO_ aP_.size) a)):=by
 refine ao_ ?_
 rw [show (dO_ aP_.size) a=a.length from by unfold dO_;rw [hz_ aP_.size (fun _=>rfl)];rfl]
 exact ev_szI h0 h1 ha.1
theorem lK_ {a:List Int} {l:Int} (ha:(ni_ lenI) a) (h0:0≤l) (h1:l≤1048576):Ev (fun n _=>di_ n a l) (gq_ l ((dO_ szI) a)):=by
 refine ao_ ?_
 rw [show (dO_ szI) a=a.length from by unfold dO_;rw [hz_ szI (fun _=>rfl)];rfl]
 exact ev_szI h0 h1 ha.1
theorem oM_ {a:aT_} {l:Int} (ha:aT_.len a) (h0:0≤l) (h1:l≤1048576):Ev (fun n _=>cY_ n a l) (gq_ l (aT_.size a)):=by
 refine ao_ ?_
 have e:aT_.size a=(dO_ aP_.size) a.where_+((dO_ szI) a.show_+(0)):=by simp only [aT_.size];omega
 rw [e];clear e
 have h0_0:=h0;have h0_1:=h1
 exact ll_ h0_0 h0_1 (oN_ (ha.1) h0_0 h0_1) fun r1 h1_0 h1_1=>ll_ h1_0 h1_1 (lK_ (ha.2) h1_0 h1_1) fun r2 h2_0 h2_1=>mC_ h2_0
theorem szRow_ev {a:TRow} {l:Int} (ha:TRow.len a) (h0:0≤l) (h1:l≤1048576):Ev (fun n _=>dM_ n a l) (gq_ l (TRow.size a)):=by
 refine ao_ ?_
 have e:TRow.size a=(dO_ szI) a.cells+(0):=by simp only [TRow.size];omega
 rw [e];clear e
 have h0_0:=h0;have h0_1:=h1
 exact ll_ h0_0 h0_1 (lK_ (ha) h0_0 h0_1) fun r1 h1_0 h1_1=>mC_ h1_0
theorem szRowS_ev {a:List TRow} {l:Int} (ha:(ni_ TRow.len) a) (h0:0≤l) (h1:l≤1048576):Ev (fun n _=>bi_ n a l) (gq_ l ((dO_ TRow.size) a)):=by
 refine ao_ ?_
 refine ev_szL (g:=fun n N x=>bi_.loop7 n (fun xy2=>(some xy2)) (n) a x 0) h0 h1 ha.1 fun l h0 h1=>sz_list TRow.dflt TRow.size (fun n N l i=>bi_.loop7 n (fun xy2=>(some xy2)) (N) a l (i:Int)) a (fun i l hi h0 h1 t kk => ?_) (fun l => ?_) l h0 h1
 · show Ev (fun n N=>bi_.step7 n (fun xy2=>(some xy2)) (bi_.loop7 n (fun xy2=>(some xy2)) N) a l (i:Int)) _
   simp only [bi_.step7,ai_,bT_,Int.toNat_natCast,W_up hi ha.1]
   refine ⟨fun _ => ?_,fun h=>absurd hi (by simpa using h)⟩
   refine ⟨⟨by omega,by omega⟩,?_⟩
   have:=ll_ (t:=t) (g:=fun n N x=>bi_.loop7 n (fun xy2=>(some xy2)) (N) a x ((i+1:Nat):Int)) h0 h1 (szRow_ev (ha.2 _ (cF_ TRow.dflt hi)) h0 h1) kk
   simpa only [ai_,ah_] using this
 · show Ev (fun n N=>bi_.step7 n (fun xy2=>(some xy2)) (bi_.loop7 n (fun xy2=>(some xy2)) N) a l (a.length:Int)) _
   simp only [bi_.step7,ai_,ah_]
   exact ⟨fun h=>absurd (of_decide_eq_true h) (by omega),fun _=>trivial⟩
theorem szKidS_ev {a:List TKid} {l:Int} (ha:(ni_ TKid.len) a) (h0:0≤l) (h1:l≤1048576):Ev (fun n _=>dr_ n a l) (gq_ l ((dO_ TKid.size) a)):=by
 refine ao_ ?_
 rw [show (dO_ TKid.size) a=a.length from by unfold dO_;rw [hz_ TKid.size (fun _=>rfl)];rfl]
 exact ev_szI h0 h1 ha.1
theorem lJ_ {a:bB_} {l:Int} (ha:bB_.len a) (h0:0≤l) (h1:l≤1048576):Ev (fun n _=>dh_ n a l) (gq_ l (bB_.size a)):=by
 refine ao_ ?_
 have e:bB_.size a=aT_.size a.q+((dO_ TRow.size) a.rows+((dO_ TKid.size) a.kids+(0))):=by simp only [bB_.size];omega
 rw [e];clear e
 have h0_0:=h0;have h0_1:=h1
 exact ll_ h0_0 h0_1 (oM_ (ha.1) h0_0 h0_1) fun r1 h1_0 h1_1=>ll_ h1_0 h1_1 (szRowS_ev (ha.2.1) h1_0 h1_1) fun r2 h2_0 h2_1=>ll_ h2_0 h2_1 (szKidS_ev (ha.2.2) h2_0 h2_1) fun r3 h3_0 h3_1=>mC_ h3_0
theorem szSess_ev {a:bZ_} {l:Int} (ha:bZ_.len a) (h0:0≤l) (h1:l≤1048576):Ev (fun n _=>dq_ n a l) (gq_ l (bZ_.size a)):=by
 refine ao_ ?_
 have e:bZ_.size a=bB_.size a.view+(bB_.size a.last+(0)):=by simp only [bZ_.size];omega
 rw [e];clear e
 have h0_0:=h0;have h0_1:=h1
 exact ll_ h0_0 h0_1 (lJ_ (ha.1) h0_0 h0_1) fun r1 h1_0 h1_1=>ll_ h1_0 h1_1 (lJ_ (ha.2) h1_0 h1_1) fun r2 h2_0 h2_1=>mC_ h2_0
theorem toCond_ev {a:aP_} (ha:aP_.size a≤cap):Ev (fun n _=>dg_ n a) a:=by
 refine ao_ ?_
 simp only [dg_,ah_]
theorem oL_ {a:List aP_} (ha:(dO_ aP_.size) a≤cap):Ev (fun n _=>a4_ n a) a:=by
 refine ao_ ?_
 have hl:=c8_ aP_.size a
 simp only [cap] at ha
 simp only [a4_,ai_,dU_,decide_eq_true_eq,decide_eq_false_iff_not,not_true_eq_false]
 refine ⟨fun _=>⟨fun _=>⟨fun _ => ?_,fun h=>absurd h (by omega)⟩,fun h=>absurd h (by omega)⟩,fun h=>h⟩
 refine lm_ aP_.dflt a (fun n N i s=>a4_.loop4 n (fun xy3=>(some xy3)) N a (i:Int) s) (fun i s hi hs k => ?_) ?_ _ (by simp)
 · show Ev (fun n N=>a4_.step4 n (fun xy3=>(some xy3)) (a4_.loop4 n (fun xy3=>(some xy3)) N) a (i:Int) s) a
   simp only [a4_.step4,Int.toNat_natCast,ai_,bT_,ae_ (toCond_ev (a:=a.getD i aP_.dflt) (by have:=eW_ aP_.size (cF_ aP_.dflt hi);simp only [cap];omega)),W_up hi (show a.length≤ci_ by simp only [ci_];omega)]
   exact ⟨fun _=>⟨⟨by omega,by omega⟩,⟨by omega,by omega⟩,k⟩,fun h=>absurd hi (by simpa using h)⟩
 · show Ev (fun n N=>a4_.step4 n (fun xy3=>(some xy3)) (a4_.loop4 n (fun xy3=>(some xy3)) N) a (a.length:Int) a) a
   simp only [a4_.step4,ai_,ah_]
   exact ⟨fun h=>absurd (of_decide_eq_true h) (by omega),fun _=>trivial⟩
theorem lF_ {a:List Int} (ha:(dO_ szI) a≤cap):Ev (fun n _=>bh_ n a) a:=by
 refine ao_ ?_
 have hl:=c8_ szI a
 simp only [cap] at ha
 simp only [bh_,ai_,dU_,decide_eq_true_eq,decide_eq_false_iff_not,not_true_eq_false]
 refine ⟨fun _=>⟨fun _=>⟨fun _ => ?_,fun h=>absurd h (by omega)⟩,fun h=>absurd h (by omega)⟩,fun h=>h⟩
 refine lm_ 0 a (fun n N i s=>bh_.loop4 n (fun xy2=>(some xy2)) N a (i:Int) s) (fun i s hi hs k => ?_) ?_ _ (by simp)
 · show Ev (fun n N=>bh_.step4 n (fun xy2=>(some xy2)) (bh_.loop4 n (fun xy2=>(some xy2)) N) a (i:Int) s) a
   simp only [bh_.step4,Int.toNat_natCast,ai_,bT_,W_up hi (show a.length≤ci_ by simp only [ci_];omega)]
   exact ⟨fun _=>⟨⟨by omega,by omega⟩,⟨by omega,by omega⟩,k⟩,fun h=>absurd hi (by simpa using h)⟩
 · show Ev (fun n N=>bh_.step4 n (fun xy2=>(some xy2)) (bh_.loop4 n (fun xy2=>(some xy2)) N) a (a.length:Int) a) a
   simp only [bh_.step4,ai_,ah_]
   exact ⟨fun h=>absurd (of_decide_eq_true h) (by omega),fun _=>trivial⟩
theorem oK_ {a:aT_} (ha:aT_.size a≤cap):Ev (fun n _=>cQ_ n a) a:=by
 refine ao_ ?_
 simp only [aT_.size] at ha
 have h0:=oL_ (a:=a.where_) (by omega)
 have h1:=lF_ (a:=a.show_) (by omega)
 simp only [cQ_,ae_ h0,ae_ h1,ah_]
theorem toRow_ev {a:TRow} (ha:TRow.size a≤cap):Ev (fun n _=>dD_ n a) a:=by
 refine ao_ ?_
 simp only [TRow.size] at ha
 have h0:=lF_ (a:=a.cells) (by omega)
 simp only [dD_,ae_ h0,ah_]
theorem toRowS_ev {a:List TRow} (ha:(dO_ TRow.size) a≤cap):Ev (fun n _=>bk_ n a) a:=by
 refine ao_ ?_
 have hl:=c8_ TRow.size a
 simp only [cap] at ha
 simp only [bk_,ai_,dU_,decide_eq_true_eq,decide_eq_false_iff_not,not_true_eq_false]
 refine ⟨fun _=>⟨fun _=>⟨fun _ => ?_,fun h=>absurd h (by omega)⟩,fun h=>absurd h (by omega)⟩,fun h=>h⟩
 refine lm_ TRow.dflt a (fun n N i s=>bk_.loop4 n (fun xy3=>(some xy3)) N a (i:Int) s) (fun i s hi hs k => ?_) ?_ _ (by simp)
 · show Ev (fun n N=>bk_.step4 n (fun xy3=>(some xy3)) (bk_.loop4 n (fun xy3=>(some xy3)) N) a (i:Int) s) a
   simp only [bk_.step4,Int.toNat_natCast,ai_,bT_,ae_ (toRow_ev (a:=a.getD i TRow.dflt) (by have:=eW_ TRow.size (cF_ TRow.dflt hi);simp only [cap];omega)),W_up hi (show a.length≤ci_ by simp only [ci_];omega)]
   exact ⟨fun _=>⟨⟨by omega,by omega⟩,⟨by omega,by omega⟩,k⟩,fun h=>absurd hi (by simpa using h)⟩
 · show Ev (fun n N=>bk_.step4 n (fun xy3=>(some xy3)) (bk_.loop4 n (fun xy3=>(some xy3)) N) a (a.length:Int) a) a
   simp only [bk_.step4,ai_,ah_]
   exact ⟨fun h=>absurd (of_decide_eq_true h) (by omega),fun _=>trivial⟩
theorem toKid_ev {a:TKid} (ha:TKid.size a≤cap):Ev (fun n _=>dE_ n a) a:=by
 refine ao_ ?_
 simp only [dE_,ah_]
theorem toKidS_ev {a:List TKid} (ha:(dO_ TKid.size) a≤cap):Ev (fun n _=>bl_ n a) a:=by
 refine ao_ ?_
 have hl:=c8_ TKid.size a
 simp only [cap] at ha
 simp only [bl_,ai_,dU_,decide_eq_true_eq,decide_eq_false_iff_not,not_true_eq_false]
 refine ⟨fun _=>⟨fun _=>⟨fun _ => ?_,fun h=>absurd h (by omega)⟩,fun h=>absurd h (by omega)⟩,fun h=>h⟩
 refine lm_ TKid.dflt a (fun n N i s=>bl_.loop4 n (fun xy3=>(some xy3)) N a (i:Int) s) (fun i s hi hs k => ?_) ?_ _ (by simp)
 · show Ev (fun n N=>bl_.step4 n (fun xy3=>(some xy3)) (bl_.loop4 n (fun xy3=>(some xy3)) N) a (i:Int) s) a
   simp only [bl_.step4,Int.toNat_natCast,ai_,bT_,ae_ (toKid_ev (a:=a.getD i TKid.dflt) (by have:=eW_ TKid.size (cF_ TKid.dflt hi);simp only [cap];omega)),W_up hi (show a.length≤ci_ by simp only [ci_];omega)]
   exact ⟨fun _=>⟨⟨by omega,by omega⟩,⟨by omega,by omega⟩,k⟩,fun h=>absurd hi (by simpa using h)⟩
 · show Ev (fun n N=>bl_.step4 n (fun xy3=>(some xy3)) (bl_.loop4 n (fun xy3=>(some xy3)) N) a (a.length:Int) a) a
   simp only [bl_.step4,ai_,ah_]
   exact ⟨fun h=>absurd (of_decide_eq_true h) (by omega),fun _=>trivial⟩
theorem lE_ {a:bB_} (ha:bB_.size a≤cap):Ev (fun n _=>c3_ n a) a:=by
 refine ao_ ?_
 simp only [bB_.size] at ha
 have h0:=oK_ (a:=a.q) (by omega)
 have h1:=toRowS_ev (a:=a.rows) (by omega)
 have h2:=toKidS_ev (a:=a.kids) (by omega)
 simp only [c3_,ae_ h0,ae_ h1,ae_ h2,ah_]
theorem toSess_ev {a:bZ_} (ha:bZ_.size a≤cap):Ev (fun n _=>cK_ n a) a:=by
 refine ao_ ?_
 simp only [bZ_.size] at ha
 have h0:=lE_ (a:=a.view) (by omega)
 have h1:=lE_ (a:=a.last) (by omega)
 simp only [cK_,ae_ h0,ae_ h1,ah_]
theorem eqCond_ev {a:aP_} (ha:aP_.size a≤ci_):Ev (fun n _=>dj_ n a a) true:=by
 refine ao_ ?_
 simp only [dj_,bne_self_eq_false,beq_self_eq_true,Bool.not_true,cond_false,ah_]
theorem pk_ {a:List aP_} (ha:(dO_ aP_.size) a≤ci_):Ev (fun n _=>be_ n a a) true:=by
 refine ao_ ?_
 have hl:=c8_ aP_.size a
 simp only [be_,ai_,bne_self_eq_false]
 refine ⟨fun h=>(by cases h),fun _ => ?_⟩
 refine jG_ (fun n N i=>be_.loop6 n (some true) N a a (i:Int)) (fun _=>true) a.length fun i hi k => ?_
 show Ev (fun n N=>be_.step6 n (some true) (be_.loop6 n (some true) N) a a (i:Int)) true
 by_cases h:i<a.length
 · simp only [be_.step6,Int.toNat_natCast,ai_,bT_,ae_ (eqCond_ev (a:=a.getD i aP_.dflt) (by have:=eW_ aP_.size (cF_ aP_.dflt h);omega)),bne_self_eq_false,beq_self_eq_true,Bool.not_true,W_up h (show a.length≤ci_ by omega)]
   exact ⟨fun _=>⟨⟨by omega,by omega⟩,⟨by omega,by omega⟩,fun h=>(by cases h),fun _=>k h⟩,fun h'=>absurd h (by simpa using h')⟩
 · simp only [be_.step6,ai_,ah_]
   exact ⟨fun h'=>absurd (of_decide_eq_true h') (by omega),fun _=>trivial⟩
theorem mG_ {a:List Int} (ha:(dO_ szI) a≤ci_):Ev (fun n _=>bs_ n a a) true:=by
 refine ao_ ?_
 have hl:=c8_ szI a
 simp only [bs_,ai_,bne_self_eq_false]
 refine ⟨fun h=>(by cases h),fun _ => ?_⟩
 refine jG_ (fun n N i=>bs_.loop6 n (some true) N a a (i:Int)) (fun _=>true) a.length fun i hi k => ?_
 show Ev (fun n N=>bs_.step6 n (some true) (bs_.loop6 n (some true) N) a a (i:Int)) true
 by_cases h:i<a.length
 · simp only [bs_.step6,Int.toNat_natCast,ai_,bT_,bne_self_eq_false,beq_self_eq_true,Bool.not_true,W_up h (show a.length≤ci_ by omega)]
   exact ⟨fun _=>⟨⟨by omega,by omega⟩,⟨by omega,by omega⟩,fun h=>(by cases h),fun _=>k h⟩,fun h'=>absurd h (by simpa using h')⟩
 · simp only [bs_.step6,ai_,ah_]
   exact ⟨fun h'=>absurd (of_decide_eq_true h') (by omega),fun _=>trivial⟩
theorem pi_ {a:aT_} (ha:aT_.size a≤ci_):Ev (fun n _=>cR_ n a a) true:=by
 refine ao_ ?_
 simp only [aT_.size] at ha
 have h0:=pk_ (a:=a.where_) (by omega)
 have h1:=mG_ (a:=a.show_) (by omega)
 simp only [cR_,ae_ h0,ae_ h1,bne_self_eq_false,beq_self_eq_true,Bool.not_true,cond_false,ah_]
theorem eqRow_ev {a:TRow} (ha:TRow.size a≤ci_):Ev (fun n _=>dF_ n a a) true:=by
 refine ao_ ?_
 simp only [TRow.size] at ha
 have h0:=mG_ (a:=a.cells) (by omega)
 simp only [dF_,ae_ h0,bne_self_eq_false,beq_self_eq_true,Bool.not_true,cond_false,ah_]
theorem eqRowS_ev {a:List TRow} (ha:(dO_ TRow.size) a≤ci_):Ev (fun n _=>bw_ n a a) true:=by
 refine ao_ ?_
 have hl:=c8_ TRow.size a
 simp only [bw_,ai_,bne_self_eq_false]
 refine ⟨fun h=>(by cases h),fun _ => ?_⟩
 refine jG_ (fun n N i=>bw_.loop6 n (some true) N a a (i:Int)) (fun _=>true) a.length fun i hi k => ?_
 show Ev (fun n N=>bw_.step6 n (some true) (bw_.loop6 n (some true) N) a a (i:Int)) true
 by_cases h:i<a.length
 · simp only [bw_.step6,Int.toNat_natCast,ai_,bT_,ae_ (eqRow_ev (a:=a.getD i TRow.dflt) (by have:=eW_ TRow.size (cF_ TRow.dflt h);omega)),bne_self_eq_false,beq_self_eq_true,Bool.not_true,W_up h (show a.length≤ci_ by omega)]
   exact ⟨fun _=>⟨⟨by omega,by omega⟩,⟨by omega,by omega⟩,fun h=>(by cases h),fun _=>k h⟩,fun h'=>absurd h (by simpa using h')⟩
 · simp only [bw_.step6,ai_,ah_]
   exact ⟨fun h'=>absurd (of_decide_eq_true h') (by omega),fun _=>trivial⟩
theorem eqKid_ev {a:TKid} (ha:TKid.size a≤ci_):Ev (fun n _=>dG_ n a a) true:=by
 refine ao_ ?_
 simp only [dG_,bne_self_eq_false,beq_self_eq_true,Bool.not_true,cond_false,ah_]
theorem eqKidS_ev {a:List TKid} (ha:(dO_ TKid.size) a≤ci_):Ev (fun n _=>bx_ n a a) true:=by
 refine ao_ ?_
 have hl:=c8_ TKid.size a
 simp only [bx_,ai_,bne_self_eq_false]
 refine ⟨fun h=>(by cases h),fun _ => ?_⟩
 refine jG_ (fun n N i=>bx_.loop6 n (some true) N a a (i:Int)) (fun _=>true) a.length fun i hi k => ?_
 show Ev (fun n N=>bx_.step6 n (some true) (bx_.loop6 n (some true) N) a a (i:Int)) true
 by_cases h:i<a.length
 · simp only [bx_.step6,Int.toNat_natCast,ai_,bT_,ae_ (eqKid_ev (a:=a.getD i TKid.dflt) (by have:=eW_ TKid.size (cF_ TKid.dflt h);omega)),bne_self_eq_false,beq_self_eq_true,Bool.not_true,W_up h (show a.length≤ci_ by omega)]
   exact ⟨fun _=>⟨⟨by omega,by omega⟩,⟨by omega,by omega⟩,fun h=>(by cases h),fun _=>k h⟩,fun h'=>absurd h (by simpa using h')⟩
 · simp only [bx_.step6,ai_,ah_]
   exact ⟨fun h'=>absurd (of_decide_eq_true h') (by omega),fun _=>trivial⟩
theorem mD_ {a:bB_} (ha:bB_.size a≤ci_):Ev (fun n _=>c4_ n a a) true:=by
 refine ao_ ?_
 simp only [bB_.size] at ha
 have h0:=pi_ (a:=a.q) (by omega)
 have h1:=eqRowS_ev (a:=a.rows) (by omega)
 have h2:=eqKidS_ev (a:=a.kids) (by omega)
 simp only [c4_,ae_ h0,ae_ h1,ae_ h2,bne_self_eq_false,beq_self_eq_true,Bool.not_true,cond_false,ah_]
theorem mE_ {a:bZ_} (ha:bZ_.size a≤ci_):Ev (fun n _=>cL_ n a a) true:=by
 refine ao_ ?_
 simp only [bZ_.size] at ha
 have h0:=mD_ (a:=a.view) (by omega)
 have h1:=mD_ (a:=a.last) (by omega)
 simp only [cL_,ae_ h0,ae_ h1,bne_self_eq_false,beq_self_eq_true,Bool.not_true,cond_false,ah_]
theorem kC_ {a:List aa_} (ha:dO_ aa_.size a≤ci_) (ih:∀ x ∈ a,Ev (fun n _=>b6_ n x x) true):Ev (fun n _=>bb_ n a a) true:=by
 refine ao_ ?_
 have hl:=c8_ aa_.size a
 simp only [bb_,ai_,bne_self_eq_false]
 refine ⟨fun h=>(by cases h),fun _ => ?_⟩
 refine jG_ (fun n N i=>bb_.loop6 n (b6_ n) (some true) N a a (i:Int)) (fun _=>true) a.length fun i hi k => ?_
 show Ev (fun n N=>bb_.step6 n (b6_ n) (some true) (bb_.loop6 n (b6_ n) (some true) N) a a (i:Int)) true
 by_cases h:i<a.length
 · simp only [bb_.step6,aa_.re_eq,Int.toNat_natCast,ai_,bT_,ae_ (ih _ (cF_ aa_.dflt h)),bne_self_eq_false,beq_self_eq_true,Bool.not_true,W_up h (show a.length≤ci_ by omega)]
   exact ⟨fun _=>⟨⟨by omega,by omega⟩,⟨by omega,by omega⟩,fun h=>(by cases h),fun _=>k h⟩,fun h'=>absurd h (by simpa using h')⟩
 · simp only [bb_.step6,ai_,ah_]
   exact ⟨fun h'=>absurd (of_decide_eq_true h') (by omega),fun _=>trivial⟩
theorem iB_ {a:List Bs} (ha:(dO_ szB) a≤ci_):Ev (fun n _=>aM_ n a a) true:=by
 refine ao_ ?_
 have hl:=c8_ szB a
 simp only [aM_,ai_,bne_self_eq_false]
 refine ⟨fun h=>(by cases h),fun _ => ?_⟩
 refine jG_ (fun n N i=>aM_.loop6 n (some true) N a a (i:Int)) (fun _=>true) a.length fun i hi k => ?_
 show Ev (fun n N=>aM_.step6 n (some true) (aM_.loop6 n (some true) N) a a (i:Int)) true
 by_cases h:i<a.length
 · simp only [aM_.step6,Int.toNat_natCast,ai_,bT_,bne_self_eq_false,beq_self_eq_true,Bool.not_true,W_up h (show a.length≤ci_ by omega)]
   exact ⟨fun _=>⟨⟨by omega,by omega⟩,⟨by omega,by omega⟩,fun h=>(by cases h),fun _=>k h⟩,fun h'=>absurd h (by simpa using h')⟩
 · simp only [aM_.step6,ai_,ah_]
   exact ⟨fun h'=>absurd (of_decide_eq_true h') (by omega),fun _=>trivial⟩
theorem in_ (a:aa_) (ha:aa_.size a≤ci_):Ev (fun n _=>b6_ n a a) true:=by
 have hq:=aa_.size_eq a
 refine ao_ ?_
 have h1:=kC_ (a:=a.list) (by omega) fun x hx=>in_ x (by have:=eW_ aa_.size hx;omega)
 have h2:=iB_ (a:=a.names) (by omega)
 simp only [b6_,ae_ h1,ae_ h2,bne_self_eq_false,beq_self_eq_true,Bool.not_true,cond_false,ah_]
termination_by SizeOf.sizeOf a
decreasing_by
 have:=List.sizeOf_lt_of_mem hx
 cases a
 simp at this ⊢
 omega
theorem mF_ {a:aa_} (ha:aa_.size a≤ci_):Ev (fun n _=>b6_ n a a) true:=in_ a ha
theorem eqJsonS_ev {a:List aa_} (ha:dO_ aa_.size a≤ci_):Ev (fun n _=>bb_ n a a) true:=kC_ ha fun x hx=>in_ x (by have:=eW_ aa_.size hx;omega)
theorem eqOp_ev {a:TOp} (ha:TOp.size a≤ci_):Ev (fun n _=>dS_ n a a) true:=by
 refine ao_ ?_
 simp only [TOp.size] at ha
 have h0:=iB_ (a:=a.way) (by omega)
 have h1:=mF_ (a:=a.value) (by omega)
 simp only [dS_,aa_.re_eq,TOp.eta,ae_ h0,ae_ h1,bne_self_eq_false,beq_self_eq_true,Bool.not_true,cond_false,ah_]
theorem eqOpS_ev {a:List TOp} (ha:(dO_ TOp.size) a≤ci_):Ev (fun n _=>bI_ n a a) true:=by
 refine ao_ ?_
 have hl:=c8_ TOp.size a
 simp only [bI_,ai_,bne_self_eq_false]
 refine ⟨fun h=>(by cases h),fun _ => ?_⟩
 refine jG_ (fun n N i=>bI_.loop6 n (some true) N a a (i:Int)) (fun _=>true) a.length fun i hi k => ?_
 show Ev (fun n N=>bI_.step6 n (some true) (bI_.loop6 n (some true) N) a a (i:Int)) true
 by_cases h:i<a.length
 · simp only [bI_.step6,Int.toNat_natCast,ai_,bT_,aa_.re_eq,TOp.eta,ae_ (eqOp_ev (a:=a.getD i TOp.dflt) (by have:=eW_ TOp.size (cF_ TOp.dflt h);omega)),bne_self_eq_false,beq_self_eq_true,Bool.not_true,W_up h (show a.length≤ci_ by omega)]
   exact ⟨fun _=>⟨⟨by omega,by omega⟩,⟨by omega,by omega⟩,fun h=>(by cases h),fun _=>k h⟩,fun h'=>absurd h (by simpa using h')⟩
 · simp only [bI_.step6,ai_,ah_]
   exact ⟨fun h'=>absurd (of_decide_eq_true h') (by omega),fun _=>trivial⟩
theorem pj_ {a:cI_} (ha:cI_.size a≤ci_):Ev (fun n _=>cH_ n a a) true:=by
 refine ao_ ?_
 simp only [cI_.size] at ha
 have h0:=mF_ (a:=a.doc) (by omega)
 have h1:=eqOpS_ev (a:=a.ops) (by omega)
 simp only [cH_,aa_.re_eq,cI_.eta,ae_ h0,ae_ h1,bne_self_eq_false,beq_self_eq_true,Bool.not_true,cond_false,ah_]
theorem mb_ {a:List aP_} {k:Int} (ha:a.length≤ci_) (hk:0≤k) (hb:k+32*((dO_ aP_.size) a:Nat)≤ci_) :
  ∃ k' a',k≤k'∧k'≤k+32*((dO_ aP_.size) a:Nat)∧a'.length=a.length∧Ev (fun n _=>aK_ n a k) (k',a')∧Ev (fun n _=>aL_ n a' k) k':=by
 refine (fK_ aP_.dflt aP_.size (fun n N k i a=>aK_.loop3 n (fun xy4 xy5=>(some (xy4,xy5))) N k (i:Int) a) (fun n N a k i=>aL_.loop3 n (fun xy1=>(some xy1)) N a k (i:Int)) (fun i a k hi ha hk hb => ?_) (fun a k => ?_) (fun a k => ?_) a k ha hk hb).elim fun k' ⟨a',h1,h2,h3,h4,h5⟩=>⟨k',a',h1,h2,h3,ao_ h4,ao_ h5⟩
 · generalize hx:a.getD i aP_.dflt=x at *
   simp only [aP_.size] at hb ⊢
   refine ⟨((k+1)+1)+1,(aP_.mk k (k+1) ((k+1)+1)),by omega,by omega,fun F hF => ?_,fun b F hi' hb' hxb hF => ?_⟩
   · show Ev (fun n N=>aK_.step3 n (fun xy4 xy5=>(some (xy4,xy5))) (aK_.loop3 n (fun xy4 xy5=>(some (xy4,xy5))) N) k (i:Int) a) F
     simp only [aK_.step3,Int.toNat_natCast,ai_,bT_,List.length_set,List.set_set,f3_ aP_.dflt hi,hx,d9_ (k:=k) (by omega) (by omega),d9_ (k:=k+1) (by omega) (by omega),d9_ (k:=(k+1)+1) (by omega) (by omega),W_up hi ha,decide_eq_true_eq,decide_eq_false_iff_not,Nat.beq_refl]
     refine ⟨fun _ => ?_,fun h=>absurd hi (by simpa using h)⟩
     repeat' (first|exact hF|apply And.intro|intro _|omega)
     all_goals (first|exact hF|(simp_all;done)|omega)
   · show Ev (fun n N=>aL_.step3 n (fun xy1=>(some xy1)) (aL_.loop3 n (fun xy1=>(some xy1)) N) b k (i:Int)) F
     simp only [aL_.step3,Int.toNat_natCast,ai_,bT_,hxb,bne_self_eq_false,beq_self_eq_true,Bool.not_true,cond_false,d9_ (k:=k) (by omega) (by omega),d9_ (k:=k+1) (by omega) (by omega),d9_ (k:=(k+1)+1) (by omega) (by omega),W_up hi' hb',decide_eq_true_eq,decide_eq_false_iff_not]
     refine ⟨fun _ => ?_,fun h=>absurd hi' (by simpa using h)⟩
     repeat' (first|exact hF|apply And.intro|intro _|omega)
     all_goals (first|exact hF|(simp_all;done)|omega)
 · show Ev (fun n N=>aK_.step3 n (fun xy4 xy5=>(some (xy4,xy5))) (aK_.loop3 n (fun xy4 xy5=>(some (xy4,xy5))) N) k (a.length:Int) a) _
   simp only [aK_.step3,ai_,ah_]
   exact ⟨fun h=>absurd (of_decide_eq_true h) (by omega),fun _=>trivial⟩
 · show Ev (fun n N=>aL_.step3 n (fun xy1=>(some xy1)) (aL_.loop3 n (fun xy1=>(some xy1)) N) a k (a.length:Int)) _
   simp only [aL_.step3,ai_,ah_]
   exact ⟨fun h=>absurd (of_decide_eq_true h) (by omega),fun _=>trivial⟩
theorem jm_ {a:List Int} {k:Int} (ha:a.length≤ci_) (hk:0≤k) (hb:k+32*((dO_ szI) a:Nat)≤ci_) :
  ∃ k' a',k≤k'∧k'≤k+32*((dO_ szI) a:Nat)∧a'.length=a.length∧Ev (fun n _=>aR_ n a k) (k',a')∧Ev (fun n _=>aS_ n a' k) k':=by
 refine (fK_ 0 szI (fun n N k i a=>aR_.loop3 n (fun xy2 xy3=>(some (xy2,xy3))) N k (i:Int) a) (fun n N a k i=>aS_.loop3 n (fun xy1=>(some xy1)) N a k (i:Int)) (fun i a k hi ha hk hb => ?_) (fun a k => ?_) (fun a k => ?_) a k ha hk hb).elim fun k' ⟨a',h1,h2,h3,h4,h5⟩=>⟨k',a',h1,h2,h3,ao_ h4,ao_ h5⟩
 · generalize hx:a.getD i 0=x at *
   simp only [szI] at hb ⊢
   refine ⟨k+1,k,by omega,by omega,fun F hF => ?_,fun b F hi' hb' hxb hF => ?_⟩
   · show Ev (fun n N=>aR_.step3 n (fun xy2 xy3=>(some (xy2,xy3))) (aR_.loop3 n (fun xy2 xy3=>(some (xy2,xy3))) N) k (i:Int) a) F
     simp only [aR_.step3,Int.toNat_natCast,ai_,bT_,List.length_set,List.set_set,f3_ 0 hi,hx,d9_ (k:=k) (by omega) (by omega),W_up hi ha,decide_eq_true_eq,decide_eq_false_iff_not,Nat.beq_refl]
     refine ⟨fun _ => ?_,fun h=>absurd hi (by simpa using h)⟩
     repeat' (first|exact hF|apply And.intro|intro _|omega)
     all_goals (first|exact hF|(simp_all;done)|omega)
   · show Ev (fun n N=>aS_.step3 n (fun xy1=>(some xy1)) (aS_.loop3 n (fun xy1=>(some xy1)) N) b k (i:Int)) F
     simp only [aS_.step3,Int.toNat_natCast,ai_,bT_,hxb,bne_self_eq_false,beq_self_eq_true,Bool.not_true,cond_false,d9_ (k:=k) (by omega) (by omega),W_up hi' hb',decide_eq_true_eq,decide_eq_false_iff_not]
     refine ⟨fun _ => ?_,fun h=>absurd hi' (by simpa using h)⟩
     repeat' (first|exact hF|apply And.intro|intro _|omega)
     all_goals (first|exact hF|(simp_all;done)|omega)
 · show Ev (fun n N=>aR_.step3 n (fun xy2 xy3=>(some (xy2,xy3))) (aR_.loop3 n (fun xy2 xy3=>(some (xy2,xy3))) N) k (a.length:Int) a) _
   simp only [aR_.step3,ai_,ah_]
   exact ⟨fun h=>absurd (of_decide_eq_true h) (by omega),fun _=>trivial⟩
 · show Ev (fun n N=>aS_.step3 n (fun xy1=>(some xy1)) (aS_.loop3 n (fun xy1=>(some xy1)) N) a k (a.length:Int)) _
   simp only [aS_.step3,ai_,ah_]
   exact ⟨fun h=>absurd (of_decide_eq_true h) (by omega),fun _=>trivial⟩
theorem l9_ {a:aT_} {k:Int} (hk:0≤k) (hb:k+32*(aT_.size a:Nat)≤ci_) :
  ∃ k' y0 y1,k≤k'∧k'≤k+32*(aT_.size a:Nat)∧y0.length=a.where_.length∧y1.length=a.show_.length∧Ev (fun n _=>b9_ n a k) (k',y0,y1)∧Ev (fun n _=>cb_ n { a with where_:=y0,show_:=y1 } k) k':=by
 simp only [aT_.size] at hb ⊢
 obtain ⟨k1,y0,u1,v1,ly0,e1,g1⟩:=mb_ (a:=a.where_) (k:=k) (by have:=c8_ aP_.size (a.where_);omega) (by omega) (by omega)
 obtain ⟨k5,y1,u5,v5,ly1,e5,g5⟩:=jm_ (a:=a.show_) (k:=k1) (by have:=c8_ szI (a.show_);omega) (by omega) (by omega)
 refine ⟨k5,y0,y1,by omega,by omega,ly0,ly1,ao_ ?_,ao_ ?_⟩
 · simp only [b9_,ae_ e1,ae_ e5,ly0,ly1,Nat.beq_refl,List.length_nil,cond_true,ah_]
 · simp only [cb_,ae_ g1,ae_ g5,ai_,ah_,decide_eq_true_eq,decide_eq_false_iff_not]
   repeat' (first|apply And.intro|intro _)
   all_goals (first|trivial|rfl|(exfalso;omega)|omega)
theorem nd_ {a:List TRow} {k:Int} (ha:a.length≤ci_) (hk:0≤k) (hb:k+32*((dO_ TRow.size) a:Nat)≤ci_) :
  ∃ k' a',k≤k'∧k'≤k+32*((dO_ TRow.size) a:Nat)∧a'.length=a.length∧Ev (fun n _=>aU_ n a k) (k',a')∧Ev (fun n _=>aW_ n a' k) k':=by
 refine (fK_ TRow.dflt TRow.size (fun n N k i a=>aU_.loop3 n (fun xy4 xy5=>(some (xy4,xy5))) N k (i:Int) a) (fun n N a k i=>aW_.loop3 n (fun xy2=>(some xy2)) N a k (i:Int)) (fun i a k hi ha hk hb => ?_) (fun a k => ?_) (fun a k => ?_) a k ha hk hb).elim fun k' ⟨a',h1,h2,h3,h4,h5⟩=>⟨k',a',h1,h2,h3,ao_ h4,ao_ h5⟩
 · generalize hx:a.getD i TRow.dflt=x at *
   simp only [TRow.size] at hb ⊢
   obtain ⟨k1,y1,u1,v1,l1,e1,g1⟩:=jm_ (a:=x.cells) (k:=k+1) (by have:=c8_ szI (x.cells);omega) (by omega) (by omega)
   refine ⟨k1,(TRow.mk k y1),by omega,by omega,fun F hF => ?_,fun b F hi' hb' hxb hF => ?_⟩
   · show Ev (fun n N=>aU_.step3 n (fun xy4 xy5=>(some (xy4,xy5))) (aU_.loop3 n (fun xy4 xy5=>(some (xy4,xy5))) N) k (i:Int) a) F
     simp only [aU_.step3,Int.toNat_natCast,ai_,bT_,List.length_set,List.set_set,f3_ TRow.dflt hi,hx,ae_ e1,d9_ (k:=k) (by omega) (by omega),l1,W_up hi ha,decide_eq_true_eq,decide_eq_false_iff_not,Nat.beq_refl]
     refine ⟨fun _ => ?_,fun h=>absurd hi (by simpa using h)⟩
     repeat' (first|exact hF|apply And.intro|intro _|omega)
     all_goals (first|exact hF|(simp_all;done)|omega)
   · show Ev (fun n N=>aW_.step3 n (fun xy2=>(some xy2)) (aW_.loop3 n (fun xy2=>(some xy2)) N) b k (i:Int)) F
     simp only [aW_.step3,Int.toNat_natCast,ai_,bT_,hxb,bne_self_eq_false,beq_self_eq_true,Bool.not_true,cond_false,ae_ g1,d9_ (k:=k) (by omega) (by omega),l1,W_up hi' hb',decide_eq_true_eq,decide_eq_false_iff_not]
     refine ⟨fun _ => ?_,fun h=>absurd hi' (by simpa using h)⟩
     repeat' (first|exact hF|apply And.intro|intro _|omega)
     all_goals (first|exact hF|(simp_all;done)|omega)
 · show Ev (fun n N=>aU_.step3 n (fun xy4 xy5=>(some (xy4,xy5))) (aU_.loop3 n (fun xy4 xy5=>(some (xy4,xy5))) N) k (a.length:Int) a) _
   simp only [aU_.step3,ai_,ah_]
   exact ⟨fun h=>absurd (of_decide_eq_true h) (by omega),fun _=>trivial⟩
 · show Ev (fun n N=>aW_.step3 n (fun xy2=>(some xy2)) (aW_.loop3 n (fun xy2=>(some xy2)) N) a k (a.length:Int)) _
   simp only [aW_.step3,ai_,ah_]
   exact ⟨fun h=>absurd (of_decide_eq_true h) (by omega),fun _=>trivial⟩
theorem ne_ {a:List TKid} {k:Int} (ha:a.length≤ci_) (hk:0≤k) (hb:k+32*((dO_ TKid.size) a:Nat)≤ci_) :
  ∃ k' a',k≤k'∧k'≤k+32*((dO_ TKid.size) a:Nat)∧a'.length=a.length∧Ev (fun n _=>aV_ n a k) (k',a')∧Ev (fun n _=>aX_ n a' k) k':=by
 refine (fK_ TKid.dflt TKid.size (fun n N k i a=>aV_.loop3 n (fun xy3 xy4=>(some (xy3,xy4))) N k (i:Int) a) (fun n N a k i=>aX_.loop3 n (fun xy1=>(some xy1)) N a k (i:Int)) (fun i a k hi ha hk hb => ?_) (fun a k => ?_) (fun a k => ?_) a k ha hk hb).elim fun k' ⟨a',h1,h2,h3,h4,h5⟩=>⟨k',a',h1,h2,h3,ao_ h4,ao_ h5⟩
 · generalize hx:a.getD i TKid.dflt=x at *
   simp only [TKid.size] at hb ⊢
   refine ⟨(k+1)+1,(TKid.mk k (k+1)),by omega,by omega,fun F hF => ?_,fun b F hi' hb' hxb hF => ?_⟩
   · show Ev (fun n N=>aV_.step3 n (fun xy3 xy4=>(some (xy3,xy4))) (aV_.loop3 n (fun xy3 xy4=>(some (xy3,xy4))) N) k (i:Int) a) F
     simp only [aV_.step3,Int.toNat_natCast,ai_,bT_,List.length_set,List.set_set,f3_ TKid.dflt hi,hx,d9_ (k:=k) (by omega) (by omega),d9_ (k:=k+1) (by omega) (by omega),W_up hi ha,decide_eq_true_eq,decide_eq_false_iff_not,Nat.beq_refl]
     refine ⟨fun _ => ?_,fun h=>absurd hi (by simpa using h)⟩
     repeat' (first|exact hF|apply And.intro|intro _|omega)
     all_goals (first|exact hF|(simp_all;done)|omega)
   · show Ev (fun n N=>aX_.step3 n (fun xy1=>(some xy1)) (aX_.loop3 n (fun xy1=>(some xy1)) N) b k (i:Int)) F
     simp only [aX_.step3,Int.toNat_natCast,ai_,bT_,hxb,bne_self_eq_false,beq_self_eq_true,Bool.not_true,cond_false,d9_ (k:=k) (by omega) (by omega),d9_ (k:=k+1) (by omega) (by omega),W_up hi' hb',decide_eq_true_eq,decide_eq_false_iff_not]
     refine ⟨fun _ => ?_,fun h=>absurd hi' (by simpa using h)⟩
     repeat' (first|exact hF|apply And.intro|intro _|omega)
     all_goals (first|exact hF|(simp_all;done)|omega)
 · show Ev (fun n N=>aV_.step3 n (fun xy3 xy4=>(some (xy3,xy4))) (aV_.loop3 n (fun xy3 xy4=>(some (xy3,xy4))) N) k (a.length:Int) a) _
   simp only [aV_.step3,ai_,ah_]
   exact ⟨fun h=>absurd (of_decide_eq_true h) (by omega),fun _=>trivial⟩
 · show Ev (fun n N=>aX_.step3 n (fun xy1=>(some xy1)) (aX_.loop3 n (fun xy1=>(some xy1)) N) a k (a.length:Int)) _
   simp only [aX_.step3,ai_,ah_]
   exact ⟨fun h=>absurd (of_decide_eq_true h) (by omega),fun _=>trivial⟩
theorem jk_ {a:bB_} {k:Int} (hk:0≤k) (hb:k+32*(bB_.size a:Nat)≤ci_) :
  ∃ k' y0 y1 y2 y3,k≤k'∧k'≤k+32*(bB_.size a:Nat)∧y0.length=a.q.where_.length∧y1.length=a.q.show_.length∧y2.length=a.rows.length∧y3.length=a.kids.length∧Ev (fun n _=>cm_ n a k) (k',y0,y1,y2,y3)∧Ev (fun n _=>co_ n (bB_.mk { a.q with where_:=y0,show_:=y1 } y2 y3) k) k':=by
 simp only [bB_.size] at hb ⊢
 obtain ⟨k0,y0,y1,u0,v0,ly0,ly1,e0,g0⟩:=l9_ (a:=a.q) (k:=k) (by omega) (by omega)
 obtain ⟨k1,y2,u1,v1,ly2,e1,g1⟩:=nd_ (a:=a.rows) (k:=k0) (by have:=c8_ TRow.size (a.rows);omega) (by omega) (by omega)
 obtain ⟨k2,y3,u2,v2,ly3,e2,g2⟩:=ne_ (a:=a.kids) (k:=k1) (by have:=c8_ TKid.size (a.kids);omega) (by omega) (by omega)
 refine ⟨k2,y0,y1,y2,y3,by omega,by omega,ly0,ly1,ly2,ly3,ao_ ?_,ao_ ?_⟩
 · simp only [cm_,ae_ e0,ae_ e1,ae_ e2,ly0,ly1,ly2,ly3,Nat.beq_refl,List.length_nil,cond_true,ah_]
 · simp only [co_,ae_ g0,ae_ g1,ae_ g2,ai_,ah_,decide_eq_true_eq,decide_eq_false_iff_not]
   repeat' (first|apply And.intro|intro _)
   all_goals (first|trivial|rfl|(exfalso;omega)|omega)
theorem jl_ {a:bZ_} {k:Int} (hk:0≤k) (hb:k+32*(bZ_.size a:Nat)≤ci_) :
  ∃ k' y0 y1 y2 y3 y4 y5 y6 y7,k≤k'∧k'≤k+32*(bZ_.size a:Nat)∧y0.length=a.view.q.where_.length∧y1.length=a.view.q.show_.length∧y2.length=a.view.rows.length∧y3.length=a.view.kids.length∧y4.length=a.last.q.where_.length∧y5.length=a.last.q.show_.length∧y6.length=a.last.rows.length∧y7.length=a.last.kids.length∧Ev (fun n _=>cn_ n a k) (k',y0,y1,y2,y3,y4,y5,y6,y7)∧Ev (fun n _=>cp_ n { a with view:=(bB_.mk { a.view.q with where_:=y0,show_:=y1 } y2 y3),last:=(bB_.mk { a.last.q with where_:=y4,show_:=y5 } y6 y7) } k) k':=by
 simp only [bZ_.size] at hb ⊢
 obtain ⟨k0,y0,y1,y2,y3,u0,v0,ly0,ly1,ly2,ly3,e0,g0⟩:=jk_ (a:=a.view) (k:=k) (by omega) (by omega)
 obtain ⟨k2,y4,y5,y6,y7,u2,v2,ly4,ly5,ly6,ly7,e2,g2⟩:=jk_ (a:=a.last) (k:=k0) (by omega) (by omega)
 refine ⟨k2,y0,y1,y2,y3,y4,y5,y6,y7,by omega,by omega,ly0,ly1,ly2,ly3,ly4,ly5,ly6,ly7,ao_ ?_,ao_ ?_⟩
 · simp only [cn_,ae_ e0,ae_ e2,ly0,ly1,ly2,ly3,ly4,ly5,ly6,ly7,Nat.beq_refl,List.length_nil,cond_true,ah_]
 · simp only [cp_,ae_ g0,ae_ g2,ai_,ah_,decide_eq_true_eq,decide_eq_false_iff_not]
   repeat' (first|apply And.intro|intro _)
   all_goals (first|trivial|rfl|(exfalso;omega)|omega)
theorem fZ_ (n:Nat) (k0:Bs→Option Bs) (N:Nat) (k:Int) (out:Bs):aH_.loop6 n k0 (N+1) k out=aH_.step6 n k0 (aH_.loop6 n k0 N) k out:=rfl
theorem hk_ (k:Int) (hk:k≤ci_):∃ t,Ev (fun n _=>aH_ n k) t:=by
 by_cases h0:k≤0
 · exact ⟨[109,48],ao_ (by simp only [aH_,ai_,ah_];exact ⟨fun _=>trivial,fun h=>absurd h0 (of_decide_eq_false h)⟩)⟩
 have key:∀ (j:Nat) (k:Int) (out:Bs),k<10 ^ j→k≤ci_→out.length+j≤100→∃ t,Ev (fun n N=>aH_.loop6 n (fun xy2=>(cond (decide ([109].length+xy2.length≤9223372036854775807)) (some (([109]:Bs)++xy2)) none)) N k out) t:=by
  intro j
  induction j with
  |zero=>
   intro k out hj hk ho
   refine ⟨[109]++out,do_ ?_⟩
   simp only [fZ_,aH_.step6,ai_,ah_,dU_]
   exact ⟨fun h=>absurd (of_decide_eq_true h) (by simp at hj;omega),fun _=>⟨fun _=>trivial,fun h=>absurd (of_decide_eq_false h) (by simp;omega)⟩⟩
  |succ j ih=>
   intro k out hj hk ho
   by_cases hp:k > 0
   · have e1:Int.tdiv k 10=k / 10:=Int.tdiv_eq_ediv_of_nonneg (by omega)
     have e2:W (Int.tdiv k 10)=k / 10:=by rw [e1];exact W_id (by omega) (by simp only [ci_] at hk;omega)
     obtain ⟨t,ht⟩:=ih (k / 10) ((ly_ ([(IntKind.u8.wrap ((W (48+(Int.tmod k 10)))))]:List Int))++out) (by rw [Int.pow_succ] at hj;omega) (by simp only [ci_] at hk ⊢;omega) (by simp [ly_];omega)
     refine ⟨t,do_ ?_⟩
     simp only [fZ_,aH_.step6,ai_,dU_,e2]
     exact ⟨fun _=>⟨fun _=>ht,fun h=>absurd (of_decide_eq_false h) (by simp [ly_];omega)⟩,fun h=>absurd hp (of_decide_eq_false h)⟩
   · refine ⟨[109]++out,do_ ?_⟩
     simp only [fZ_,aH_.step6,ai_,ah_,dU_]
     exact ⟨fun h=>absurd (of_decide_eq_true h) hp,fun _=>⟨fun _=>trivial,fun h=>absurd (of_decide_eq_false h) (by simp;omega)⟩⟩
 obtain ⟨t,ht⟩:=key 19 k [] (by simp only [ci_] at hk;omega) hk (by simp)
 refine ⟨t,ao_ ?_⟩
 simp only [aH_,ai_]
 exact ⟨fun h=>absurd (of_decide_eq_true h) h0,fun _=>er_ (f:=fun n N=>aH_.loop6 n _ N k []) ht⟩
theorem eX_ {a:List Bs} {k:Int} (ha:a.length≤ci_) (hk:0≤k) (hb:k+32*((dO_ szB) a:Nat)≤ci_) :
  ∃ k' a',k≤k'∧k'≤k+32*((dO_ szB) a:Nat)∧a'.length=a.length∧Ev (fun n _=>aq_ n a k) (k',a')∧Ev (fun n _=>ar_ n a' k) k':=by
 refine (fK_ [] szB (fun n N k i a=>aq_.loop3 n (fun xy3 xy4=>(some (xy3,xy4))) N k (i:Int) a) (fun n N a k i=>ar_.loop3 n (fun xy2=>(some xy2)) N a k (i:Int)) (fun i a k hi ha hk hb => ?_) (fun a k => ?_) (fun a k => ?_) a k ha hk hb).elim fun k' ⟨a',h1,h2,h3,h4,h5⟩=>⟨k',a',h1,h2,h3,ao_ h4,ao_ h5⟩
 · generalize hx:a.getD i []=x at *
   simp only [szB] at hb ⊢
   obtain ⟨t0,ht0⟩:=hk_ (k) (by omega)
   refine ⟨k+1,t0,by omega,by omega,fun F hF => ?_,fun b F hi' hb' hxb hF => ?_⟩
   · show Ev (fun n N=>aq_.step3 n (fun xy3 xy4=>(some (xy3,xy4))) (aq_.loop3 n (fun xy3 xy4=>(some (xy3,xy4))) N) k (i:Int) a) F
     simp only [aq_.step3,Int.toNat_natCast,ai_,bT_,List.length_set,List.set_set,f3_ [] hi,hx,ae_ ht0,d9_ (k:=k) (by omega) (by omega),W_up hi ha,decide_eq_true_eq,decide_eq_false_iff_not,Nat.beq_refl]
     refine ⟨fun _ => ?_,fun h=>absurd hi (by simpa using h)⟩
     repeat' (first|exact hF|apply And.intro|intro _|omega)
     all_goals (first|exact hF|(simp_all;done)|omega)
   · show Ev (fun n N=>ar_.step3 n (fun xy2=>(some xy2)) (ar_.loop3 n (fun xy2=>(some xy2)) N) b k (i:Int)) F
     simp only [ar_.step3,Int.toNat_natCast,ai_,bT_,hxb,bne_self_eq_false,beq_self_eq_true,Bool.not_true,cond_false,ae_ ht0,d9_ (k:=k) (by omega) (by omega),W_up hi' hb',decide_eq_true_eq,decide_eq_false_iff_not]
     refine ⟨fun _ => ?_,fun h=>absurd hi' (by simpa using h)⟩
     repeat' (first|exact hF|apply And.intro|intro _|omega)
     all_goals (first|exact hF|(simp_all;done)|omega)
 · show Ev (fun n N=>aq_.step3 n (fun xy3 xy4=>(some (xy3,xy4))) (aq_.loop3 n (fun xy3 xy4=>(some (xy3,xy4))) N) k (a.length:Int) a) _
   simp only [aq_.step3,ai_,ah_]
   exact ⟨fun h=>absurd (of_decide_eq_true h) (by omega),fun _=>trivial⟩
 · show Ev (fun n N=>ar_.step3 n (fun xy2=>(some xy2)) (ar_.loop3 n (fun xy2=>(some xy2)) N) a k (a.length:Int)) _
   simp only [ar_.step3,ai_,ah_]
   exact ⟨fun h=>absurd (of_decide_eq_true h) (by omega),fun _=>trivial⟩
theorem hM_ (a:List aa_) (k:Int) (ha:a.length≤ci_) (hk:0≤k) (hb:k+32*((dO_ aa_.size) a:Nat)≤ci_) :
  ∃ k' a',k≤k'∧k'≤k+32*((dO_ aa_.size) a:Nat)∧a'.length=a.length∧Ev (fun n _=>ay_ n a k) (k',a')∧Ev (fun n _=>az_ n a' k) k':=by
 have hq:∀ i,i<a.length→a.getD i aa_.dflt ∈ a:=fun i hi=>cF_ aa_.dflt hi
 obtain ⟨a0,ha0⟩:∃ a0,a0=a:=⟨_,rfl⟩
 refine (kn_ (fun x=>x ∈ a0) aa_.dflt aa_.size (fun n N k i a=>ay_.loop3 n (ay_ n) (fun xy9 xy10=>(some (xy9,xy10))) N k (i:Int) a) (fun n N a k i=>az_.loop3 n (az_ n) (fun xy4=>(some xy4)) N a k (i:Int)) (fun i a k hi hxm ha hk hb => ?_) (fun a k => ?_) (fun a k => ?_) a k (by rw [ha0];exact hq) ha hk hb).elim fun k' ⟨a',h1,h2,h3,h4,h5⟩=>⟨k',a',h1,h2,h3,ao_ h4,ao_ h5⟩
 · clear hq
   generalize hx:a.getD i aa_.dflt=x at *
   rw [ha0] at hxm
   have hdec:=aa_.dec hxm
   simp only [aa_.size_eq] at hb ⊢
   obtain ⟨t2,ht2⟩:=hk_ ((k+1)+1) (by omega)
   obtain ⟨k3,y3,u3,v3,l3,e3,g3⟩:=hM_ x.list (((k+1)+1)+1) (by have:=c8_ aa_.size (x.list);omega) (by omega) (by omega)
   obtain ⟨k4,y4,u4,v4,l4,e4,g4⟩:=eX_ (a:=x.names) (k:=k3) (by have:=c8_ szB (x.names);omega) (by omega) (by omega)
   refine ⟨k4,(aa_.mk k (k+1) t2 y3 y4),by omega,by omega,fun F hF => ?_,fun b F hi' hb' hxb hF => ?_⟩
   · show Ev (fun n N=>ay_.step3 n (ay_ n) (fun xy9 xy10=>(some (xy9,xy10))) (ay_.loop3 n (ay_ n) (fun xy9 xy10=>(some (xy9,xy10))) N) k (i:Int) a) F
     simp only [ay_.step3,Int.toNat_natCast,ai_,bT_,List.length_set,List.set_set,f3_ aa_.dflt hi,hx,ae_ ht2,ae_ e3,ae_ e4,aa_.re_eq,d9_ (k:=k) (by omega) (by omega),d9_ (k:=k+1) (by omega) (by omega),d9_ (k:=(k+1)+1) (by omega) (by omega),l3,l4,W_up hi ha,decide_eq_true_eq,decide_eq_false_iff_not,Nat.beq_refl]
     refine ⟨fun _ => ?_,fun h=>absurd hi (by simpa using h)⟩
     repeat' (first|exact hF|apply And.intro|intro _|omega)
     all_goals (first|exact hF|(simp_all;done)|omega)
   · show Ev (fun n N=>az_.step3 n (az_ n) (fun xy4=>(some xy4)) (az_.loop3 n (az_ n) (fun xy4=>(some xy4)) N) b k (i:Int)) F
     simp only [az_.step3,Int.toNat_natCast,ai_,bT_,hxb,bne_self_eq_false,beq_self_eq_true,Bool.not_true,cond_false,ae_ g3,ae_ g4,ae_ ht2,aa_.re_eq,d9_ (k:=k) (by omega) (by omega),d9_ (k:=k+1) (by omega) (by omega),d9_ (k:=(k+1)+1) (by omega) (by omega),l3,l4,W_up hi' hb',decide_eq_true_eq,decide_eq_false_iff_not]
     refine ⟨fun _ => ?_,fun h=>absurd hi' (by simpa using h)⟩
     repeat' (first|exact hF|apply And.intro|intro _|omega)
     all_goals (first|exact hF|(simp_all;done)|omega)
 · show Ev (fun n N=>ay_.step3 n (ay_ n) (fun xy9 xy10=>(some (xy9,xy10))) (ay_.loop3 n (ay_ n) (fun xy9 xy10=>(some (xy9,xy10))) N) k (a.length:Int) a) _
   simp only [ay_.step3,ai_,ah_]
   exact ⟨fun h=>absurd (of_decide_eq_true h) (by omega),fun _=>trivial⟩
 · show Ev (fun n N=>az_.step3 n (az_ n) (fun xy4=>(some xy4)) (az_.loop3 n (az_ n) (fun xy4=>(some xy4)) N) a k (a.length:Int)) _
   simp only [az_.step3,ai_,ah_]
   exact ⟨fun h=>absurd (of_decide_eq_true h) (by omega),fun _=>trivial⟩
termination_by SizeOf.sizeOf a
decreasing_by assumption
theorem iy_ {a:List aa_} {k:Int} (ha:a.length≤ci_) (hk:0≤k) (hb:k+32*(dO_ aa_.size a:Nat)≤ci_) :
  ∃ k' a',k≤k'∧k'≤k+32*(dO_ aa_.size a:Nat)∧a'.length=a.length∧Ev (fun n _=>ay_ n a k) (k',a')∧Ev (fun n _=>az_ n a' k) k':=hM_ a k ha hk hb
theorem nf_ {a:aa_} {k:Int} (hk:0≤k) (hb:k+32*(aa_.size a:Nat)≤ci_) :
  ∃ k' y0 y1,k≤k'∧k'≤k+32*(aa_.size a:Nat)∧y0.length=a.list.length∧y1.length=a.names.length∧Ev (fun n _=>cz_ n a k) (k',y0,y1)∧Ev (fun n _=>cA_ n (aa_.mk a.kind a.n_ a.s y0 y1) k) k':=by
 simp only [aa_.size_eq] at hb ⊢
 obtain ⟨k3,y0,u3,v3,ly0,e3,g3⟩:=iy_ (a:=a.list) (k:=k) (by have:=c8_ aa_.size (a.list);omega) (by omega) (by omega)
 obtain ⟨k4,y1,u4,v4,ly1,e4,g4⟩:=eX_ (a:=a.names) (k:=k3) (by have:=c8_ szB (a.names);omega) (by omega) (by omega)
 refine ⟨k4,y0,y1,by omega,by omega,ly0,ly1,ao_ ?_,ao_ ?_⟩
 · simp only [cz_,aa_.re_eq,ae_ e3,ae_ e4,ly0,ly1,Nat.beq_refl,List.length_nil,cond_true,ah_]
 · simp only [cA_,aa_.re_eq,ae_ g3,ae_ g4,ai_,ah_,decide_eq_true_eq,decide_eq_false_iff_not]
   repeat' (first|apply And.intro|intro _)
   all_goals (first|trivial|rfl|(exfalso;omega)|omega)
theorem oZ_ {a:List TOp} {k:Int} (ha:a.length≤ci_) (hk:0≤k) (hb:k+32*((dO_ TOp.size) a:Nat)≤ci_) :
  ∃ k' a',k≤k'∧k'≤k+32*((dO_ TOp.size) a:Nat)∧a'.length=a.length∧Ev (fun n _=>a9_ n a k) (k',a')∧Ev (fun n _=>ba_ n a' k) k':=by
 refine (fK_ TOp.dflt TOp.size (fun n N k i a=>a9_.loop3 n (fun xy12 xy13=>(some (xy12,xy13))) N k (i:Int) a) (fun n N a k i=>ba_.loop3 n (fun xy5=>(some xy5)) N a k (i:Int)) (fun i a k hi ha hk hb => ?_) (fun a k => ?_) (fun a k => ?_) a k ha hk hb).elim fun k' ⟨a',h1,h2,h3,h4,h5⟩=>⟨k',a',h1,h2,h3,ao_ h4,ao_ h5⟩
 · generalize hx:a.getD i TOp.dflt=x at *
   simp only [TOp.size,aa_.size_eq] at hb ⊢
   obtain ⟨k1,y1,u1,v1,l1,e1,g1⟩:=eX_ (a:=x.way) (k:=k+1) (by have:=c8_ szB (x.way);omega) (by omega) (by omega)
   obtain ⟨t4,ht4⟩:=hk_ ((k1+1)+1) (by omega)
   obtain ⟨k5,y5,u5,v5,l5,e5,g5⟩:=iy_ (a:=x.value.list) (k:=((k1+1)+1)+1) (by have:=c8_ aa_.size (x.value.list);omega) (by omega) (by omega)
   obtain ⟨k6,y6,u6,v6,l6,e6,g6⟩:=eX_ (a:=x.value.names) (k:=k5) (by have:=c8_ szB (x.value.names);omega) (by omega) (by omega)
   refine ⟨k6,(TOp.mk k y1 (aa_.mk k1 (k1+1) t4 y5 y6)),by omega,by omega,fun F hF => ?_,fun b F hi' hb' hxb hF => ?_⟩
   · show Ev (fun n N=>a9_.step3 n (fun xy12 xy13=>(some (xy12,xy13))) (a9_.loop3 n (fun xy12 xy13=>(some (xy12,xy13))) N) k (i:Int) a) F
     simp only [a9_.step3,Int.toNat_natCast,ai_,bT_,List.length_set,List.set_set,f3_ TOp.dflt hi,hx,ae_ e1,ae_ ht4,ae_ e5,ae_ e6,aa_.re_eq,TOp.eta,d9_ (k:=k) (by omega) (by omega),l1,d9_ (k:=k1) (by omega) (by omega),d9_ (k:=k1+1) (by omega) (by omega),d9_ (k:=(k1+1)+1) (by omega) (by omega),l5,l6,W_up hi ha,decide_eq_true_eq,decide_eq_false_iff_not,Nat.beq_refl]
     refine ⟨fun _ => ?_,fun h=>absurd hi (by simpa using h)⟩
     repeat' (first|exact hF|apply And.intro|intro _|omega)
     all_goals (first|exact hF|(simp_all;done)|omega)
   · show Ev (fun n N=>ba_.step3 n (fun xy5=>(some xy5)) (ba_.loop3 n (fun xy5=>(some xy5)) N) b k (i:Int)) F
     simp only [ba_.step3,Int.toNat_natCast,ai_,bT_,hxb,bne_self_eq_false,beq_self_eq_true,Bool.not_true,cond_false,ae_ g1,ae_ g5,ae_ g6,ae_ ht4,aa_.re_eq,TOp.eta,d9_ (k:=k) (by omega) (by omega),l1,d9_ (k:=k1) (by omega) (by omega),d9_ (k:=k1+1) (by omega) (by omega),d9_ (k:=(k1+1)+1) (by omega) (by omega),l5,l6,W_up hi' hb',decide_eq_true_eq,decide_eq_false_iff_not]
     refine ⟨fun _ => ?_,fun h=>absurd hi' (by simpa using h)⟩
     repeat' (first|exact hF|apply And.intro|intro _|omega)
     all_goals (first|exact hF|(simp_all;done)|omega)
 · show Ev (fun n N=>a9_.step3 n (fun xy12 xy13=>(some (xy12,xy13))) (a9_.loop3 n (fun xy12 xy13=>(some (xy12,xy13))) N) k (a.length:Int) a) _
   simp only [a9_.step3,ai_,ah_]
   exact ⟨fun h=>absurd (of_decide_eq_true h) (by omega),fun _=>trivial⟩
 · show Ev (fun n N=>ba_.step3 n (fun xy5=>(some xy5)) (ba_.loop3 n (fun xy5=>(some xy5)) N) a k (a.length:Int)) _
   simp only [ba_.step3,ai_,ah_]
   exact ⟨fun h=>absurd (of_decide_eq_true h) (by omega),fun _=>trivial⟩
theorem ma_ {a:cI_} {k:Int} (hk:0≤k) (hb:k+32*(cI_.size a:Nat)≤ci_) :
  ∃ k' y0 y1 y2,k≤k'∧k'≤k+32*(cI_.size a:Nat)∧y0.length=a.doc.list.length∧y1.length=a.doc.names.length∧y2.length=a.ops.length∧Ev (fun n _=>ca_ n a k) (k',y0,y1,y2)∧Ev (fun n _=>b2_ n { a with doc:=(aa_.mk a.doc.kind a.doc.n_ a.doc.s y0 y1),ops:=y2 } k) k':=by
 simp only [cI_.size] at hb ⊢
 obtain ⟨k3,y0,y1,u3,v3,ly0,ly1,e3,g3⟩:=nf_ (a:=a.doc) (k:=k) (by omega) (by omega)
 obtain ⟨k4,y2,u4,v4,ly2,e4,g4⟩:=oZ_ (a:=a.ops) (k:=k3) (by have:=c8_ TOp.size (a.ops);omega) (by omega) (by omega)
 refine ⟨k4,y0,y1,y2,by omega,by omega,ly0,ly1,ly2,ao_ ?_,ao_ ?_⟩
 · simp only [ca_,aa_.re_eq,cI_.eta,ae_ e3,ae_ e4,ly0,ly1,ly2,Nat.beq_refl,List.length_nil,cond_true,ah_]
 · simp only [b2_,aa_.re_eq,cI_.eta,ae_ g3,ae_ g4,ai_,ah_,decide_eq_true_eq,decide_eq_false_iff_not]
   repeat' (first|apply And.intro|intro _)
   all_goals (first|trivial|rfl|(exfalso;omega)|omega)
end Go.Pi
end
section
namespace Go.Pi
def g5_ (l:List TOp):Nat:=l.findIdx fun o=>(ed_ o).kind == 0
def lv_ (l:List TOp):aa_:=aa_.mk 4 0 [] (l.map ed_) []
def el_ (l:List TOp):Int:=cond (decide (g5_ l<l.length)) (-1) (cond (gg_ (lv_ l) == []) (-1) ((gg_ (lv_ l)).length:Int))
theorem kG_ {l:List TOp} {i:Nat} (hi:i<g5_ l):((ed_ (l.getD i TOp.dflt)).kind == 0)=false:=by
 have hl:g5_ l≤l.length:=List.findIdx_le_length
 rw [List.getD_eq_getElem?_getD,List.getElem?_eq_getElem (by omega),Option.getD_some]
 have:=List.not_of_lt_findIdx (xs:=l) (p:=fun o=>(ed_ o).kind == 0) (i:=i) hi
 simpa using this
theorem bad_at {l:List TOp} (h:g5_ l<l.length):((ed_ (l.getD (g5_ l) TOp.dflt)).kind == 0)=true:=by
 rw [List.getD_eq_getElem?_getD,List.getElem?_eq_getElem h,Option.getD_some]
 exact List.findIdx_getElem (xs:=l) (p:=fun o=>(ed_ o).kind == 0) (w:=h)
theorem of_ {α β:Type} (f:α→β) (d:α) {a:List α} {i:Nat} (h:i<a.length):(a.take (i+1)).map f=(a.take i).map f++[f (a.getD i d)]:=by
 rw [eb_ d h,List.map_append];rfl
def mc_ (l:List TOp):Prop:=l.length≤4000000∧∀ o ∈ l,nh_ o
theorem oj_ {l:List TOp} (h:mc_ l):fB_ 6 (lv_ l):=by
 refine ⟨⟨Nat.zero_le _,Nat.zero_le _,fun x hx=>(by cases hx)⟩,by have:=h.1;simp [lv_,ci_];omega,fun x hx => ?_⟩
 obtain ⟨o,ho,e⟩:=List.mem_map.1 hx
 rw [←e];exact nk_ 5 _ (nj_ (h.2 o ho))
theorem jw_ {l:List TOp} (h:mc_ l):Ev (fun n _=>a6_ n l) (cond (decide (g5_ l<l.length)) (hj_,false) (lv_ l,true)):=by
 refine ao_ ?_
 have hl:=h.1
 have ht:l.length≤ci_:=by simp only [ci_];omega
 have hb:g5_ l≤l.length:=List.findIdx_le_length
 simp only [a6_]
 have:=eC_ (fun i=>(l.take i).map ed_) (g5_ l) (fun n N i (o:List aa_)=>a6_.loop4 n (fun xy2 xy3 xy4 xy5 xy6 xy7 xy8=>(some ((aa_.mk xy5 xy6 xy7 xy8 ([]:List Bs)),true))) N l (l.length:Int) (i:Int) 0 0 [] 4 0 [] o) (cond (decide (g5_ l<l.length)) (hj_,false) (lv_ l,true)) (fun i hi F hF => ?_) ?_
 · exact this
 · have hi2:i<l.length:=by omega
   have hx:=he_ (h.2 _ (cF_ TOp.dflt hi2))
   rw [of_ ed_ TOp.dflt hi2] at hF
   have hol:((l.take i).map ed_).length≤i:=by simp;omega
   generalize (l.take i).map ed_=o at hF hol ⊢
   simp only [a6_.turn4,a6_.step4,b3_,jg_,Int.toNat_natCast,W_up hi2 ht,dW_ hi2,dx_ hi2,kG_ hi,cond_true,cond_false,bT_,cg_,ae_ hx]
   exact ⟨trivial,by simp;omega,hF⟩
 · by_cases hp:g5_ l<l.length
   · have hx:=he_ (h.2 _ (cF_ TOp.dflt hp))
     simp only [a6_.turn4,a6_.step4,b3_,jg_,Int.toNat_natCast,dW_ hp,dx_ hp,bad_at hp,cond_true,bT_,ae_ hx,ah_]
     rw [decide_eq_true hp]
     exact ⟨trivial,rfl⟩
   · have e:g5_ l=l.length:=by omega
     rw [decide_eq_false hp,cond_false]
     unfold lv_
     rw [e,List.take_length]
     simp only [a6_.turn4,a6_.step4,dN_,cond_false,ah_]
theorem ii_ {l:List TOp} (h:mc_ l):Ev (fun n _=>ce_ n l) (el_ l):=by
 refine ao_ ?_
 simp only [ce_,b3_,ae_ (jw_ h)]
 unfold el_
 cases hp:decide (g5_ l<l.length) with
 |true=>
  simp only [cond_true,ae_ (fD_ (fL_ 6)),ai_,ah_]
  simp
 |false=>
  simp only [cond_false,ae_ (fD_ (oj_ h)),ai_,ah_]
  generalize gg_ (lv_ l)=s
  cases (s == [])<;>simp
end Go.Pi
end
section
namespace Go.Pi
def lu_ (old now:List au_):List TOp:=(fQ_ now (lY_ (b7_ now) old old.length old []) now.length).2
def e2_ (docs:List aa_) (keys:List Int) (docs':List aa_) (keys':List Int):List TOp:=cond (kOk docs keys) (cond (kOk docs' keys') (lu_ (h5_ docs keys docs.length) (h5_ docs' keys' docs'.length)) []) []
structure KIs (docs:List aa_) (keys:List Int):Prop where
 len:docs.length=keys.length
 ok:∀ i,i<docs.length→dv_ (docs.getD i aa_.dflt)=true
 no:∀ i,i<docs.length→keys.getD i 0 ∉ keys.take i
theorem k_is {docs:List aa_} {keys:List Int} (h:kOk docs keys=true):KIs docs keys:=by
 unfold kOk at h
 rw [Bool.and_eq_true,g1_] at h
 refine ⟨of_decide_eq_true h.1,fun i hi => ?_,fun i hi => ?_⟩
 · have:=h.2 i hi
   rw [Bool.and_eq_true] at this;exact this.1
 · have:=h.2 i hi
   rw [Bool.and_eq_true] at this
   simpa using this.2
theorem iZ_ {docs:List aa_} {keys:List Int} {m i:Nat} (h:i<m):(h5_ docs keys m).getD i au_.dflt=au_.mk (keys.getD i 0) (docs.getD i aa_.dflt):=by
 unfold h5_
 rw [f4_ (fun i=>au_.mk (keys.getD i 0) (docs.getD i aa_.dflt)) 0 au_.dflt (by simpa using h)]
 have:(List.range m).getD i 0=i:=by
  rw [List.getD_eq_getElem?_getD,List.getElem?_range h];rfl
 rw [this]
theorem kj_ {α:Type} (d:α) (l:List α):(List.range l.length).map (fun i=>l.getD i d)=l:=by
 apply List.ext_getElem?
 intro i
 by_cases h:i<l.length
 · rw [List.getElem?_map,List.getElem?_range h,List.getElem?_eq_getElem h]
   simp only [Option.map_some]
   rw [List.getD_eq_getElem?_getD,List.getElem?_eq_getElem h];rfl
 · rw [List.getElem?_eq_none (by simpa using h),List.getElem?_eq_none (by omega)]
theorem iX_ {docs:List aa_} {keys:List Int}:(h5_ docs keys docs.length).map (·.value)=docs:=by
 unfold h5_
 rw [List.map_map]
 exact kj_ aa_.dflt docs
theorem lB_ {docs:List aa_} {keys:List Int} (h:docs.length=keys.length):b7_ (h5_ docs keys docs.length)=keys:=by
 unfold b7_ h5_
 rw [List.map_map,h]
 exact kj_ 0 keys
theorem k8_ {α:Type} (d:α) {l:List α} {x:α} (h:x ∈ l):∃ i,i<l.length∧l.getD i d=x:=by
 obtain ⟨i,hi,e⟩:=List.mem_iff_getElem.1 h
 exact ⟨i,hi,by rw [List.getD_eq_getElem?_getD,List.getElem?_eq_getElem hi];exact e⟩
theorem kR_ {α:Type} (d:α) {l:List α} {i j:Nat} (h:i<j) (hj:j≤l.length):l.getD i d ∈ l.take j:=by
 have e:(l.take j).getD i d=l.getD i d:=by rw [List.getD_eq_getElem?_getD,List.getD_eq_getElem?_getD,List.getElem?_take_of_lt h]
 rw [←e];exact cF_ d (by simp;omega)
theorem hv_ {docs:List aa_} {keys:List Int} (h:KIs docs keys):lo_ (h5_ docs keys docs.length):=by
 intro i j hij hj
 rw [e8_] at hj
 rw [iZ_ (by omega),iZ_ hj]
 intro e
 have e:keys.getD i 0=keys.getD j 0:=e
 exact h.no j hj (e ▸ kR_ 0 hij (by have:=h.len;omega))
theorem ln_ {l:List au_} (h:lo_ l):∀ x ∈ l,∀ y ∈ l,x.key=y.key→x=y:=by
 intro x hx y hy e
 obtain ⟨i,hi,ei⟩:=k8_ au_.dflt hx
 obtain ⟨j,hj,ej⟩:=k8_ au_.dflt hy
 rcases Nat.lt_trichotomy i j with hij|hij|hij
 · exact absurd (by rw [ei,ej,e]) (h i j hij hj)
 · subst hij;rw [←ei,←ej]
 · exact absurd (by rw [ei,ej,e]) (h j i hij hi)
theorem iY_ {docs:List aa_} {keys:List Int} (h:KIs docs keys) (hJ:∀ j ∈ docs,fB_ 6 j):∀ x ∈ h5_ docs keys docs.length,okK x:=by
 intro x hx
 obtain ⟨i,hi,e⟩:=k8_ au_.dflt hx
 rw [e8_] at hi
 rw [iZ_ hi] at e
 rw [←e]
 exact ⟨h.ok i hi,hJ _ (cF_ aa_.dflt hi)⟩
section
variable {docs docs':List aa_} {keys keys':List Int} (hd:docs.length≤1500000) (hd':docs'.length≤1500000) (hJ:∀ j ∈ docs,fB_ 6 j) (hJ':∀ j ∈ docs',fB_ 6 j)
include hd hd' hJ hJ'
theorem mm_:Ev (fun n _=>a1_ n docs keys docs' keys') (e2_ docs keys docs' keys'):=by
 refine ao_ ?_
 simp only [a1_,ae_ (gD_ (keys:=keys) (by omega) hJ),ae_ (gD_ (keys:=keys') (by omega) hJ'),ai_,ah_,e2_]
 cases h1:kOk docs keys with
 |false=>exact ⟨fun _=>rfl,fun h=>(by cases h)⟩
 |true=>
  cases h2:kOk docs' keys' with
  |false=>exact ⟨fun h=>(by cases h),fun _=>⟨fun _=>rfl,fun h=>(by cases h)⟩⟩
  |true=>
   refine ⟨fun h=>(by cases h),fun _=>⟨fun h=>(by cases h),fun _ => ?_⟩⟩
   simp only [cond_true]
   have k1:=k_is h1
   have k2:=k_is h2
   have o1:=iY_ k1 hJ
   have o2:=iY_ k2 hJ'
   have l1:=e8_ (docs:=docs) (keys:=keys) (m:=docs.length)
   have l2:=e8_ (docs:=docs') (keys:=keys') (m:=docs'.length)
   generalize h5_ docs keys docs.length=old at o1 l1 ⊢
   generalize h5_ docs' keys' docs'.length=now at o2 l2 ⊢
   have hr:=hF_ (b7_ now) old old.length old [] (Nat.le_refl _)
   have hm:=iQ_ (b7_ now) old old.length old []
   rw [W_dn (show old.length≤ci_ by simp only [ci_];omega)]
   simp only [List.length_nil] at hr
   refine er_ (f:=fun n N=>a1_.loop9 n (fun xy6 xy7 xy8=>(a1_.loop17 n (fun xy21=>(some xy21)) n (xy7.length:Int) 0 xy6 xy8 xy7)) N ((old.length:Int) - 1) old now []) (no_ (old:=old) (by omega) (fun n xy6 xy7 xy8=>(a1_.loop17 n (fun xy21=>(some xy21)) n (xy7.length:Int) 0 xy6 xy8 xy7)) _ old.length old [] rfl (Nat.le_refl _) (by omega) (by simp only [List.length_nil];omega) ?_)
   exact impl_add (by omega) (by omega) (by omega) o2 fun x hx=>o1 x (hm x hx)
theorem lO_ (hk:keys.length≤1500000) (hk':keys'.length≤1500000):Ev (fun n _=>dP_ n docs keys docs' keys') (e2_ docs keys docs' keys'):=by
 refine ao_ ?_
 simp only [dP_,ae_ (g7_ (docs:=docs) (keys:=keys) (by omega) (by omega) hJ),ae_ (g7_ (docs:=docs') (keys:=keys') (by omega) (by omega) hJ'),ai_,ah_,e2_]
 cases h1:kOk docs keys with
 |false=>exact ⟨fun _=>rfl,fun h=>(by cases h)⟩
 |true=>
  cases h2:kOk docs' keys' with
  |false=>exact ⟨fun h=>(by cases h),fun _=>⟨fun _=>rfl,fun h=>(by cases h)⟩⟩
  |true=>
   refine ⟨fun h=>(by cases h),fun _=>⟨fun h=>(by cases h),fun _ => ?_⟩⟩
   simp only [cond_true]
   have k1:=k_is h1
   have k2:=k_is h2
   have o1:=iY_ k1 hJ
   have o2:=iY_ k2 hJ'
   have d1:=ln_ (hv_ k1)
   have d2:=hv_ k2
   have l1:=e8_ (docs:=docs) (keys:=keys) (m:=docs.length)
   have l2:=e8_ (docs:=docs') (keys:=keys') (m:=docs'.length)
   have hR:Ev (fun n _=>aA_ n docs keys docs' keys') (lu_ (h5_ docs keys docs.length) (h5_ docs' keys' docs'.length)):=by
    have v1:=iX_ (docs:=docs) (keys:=keys)
    have v2:=iX_ (docs:=docs') (keys:=keys')
    have e1:=lB_ k1.len
    have e2:=lB_ k2.len
    generalize h5_ docs keys docs.length=old at o1 l1 d1 v1 e1 ⊢
    generalize h5_ docs' keys' docs'.length=now at o2 l2 d2 v2 e2 ⊢
    subst e1 e2 v1 v2
    simp only [List.length_map] at l1 l2 hd hd'
    have hr:=hF_ (b7_ now) old old.length old [] (Nat.le_refl _)
    have hm:=iQ_ (b7_ now) old old.length old []
    simp only [List.length_nil] at hr
    refine ao_ ?_
    simp only [aA_,cg_,List.nil_append,List.length_nil,du_,W_dn (show old.length≤ci_ by simp only [ci_];omega)]
    refine ⟨by omega,?_⟩
    refine er_ (f:=fun n N=>aA_.loop5 n (fun xy4 xy5 xy6 xy7 xy8 xy9=>(aA_.loop13 n (fun xy21=>(some xy21)) n xy4 xy5 xy6 xy7 0 xy8 xy9)) N (old.map (·.value)) (b7_ old) (now.map (·.value)) (b7_ now) ((old.length:Int) - 1) [] (b7_ old)) (m3_ (old:=old) (by omega) (by omega) _ _ (fun n xy4 xy5 xy6 xy7 xy8 xy9=>(aA_.loop13 n (fun xy21=>(some xy21)) n xy4 xy5 xy6 xy7 0 xy8 xy9)) _ old.length old [] (Nat.le_refl _) (Nat.le_refl _) (by omega) (by simp only [List.length_nil];omega) ?_)
    exact spec_add (by omega) (by omega) (by omega) (by omega) o2 o1 (fun x hx=>hm x hx) d2 d1
   simp only [ae_ hR,ah_]
end
def opK (o:TOp):Prop:=(∃ t:Bs,t.length≤25∧o.way=[t])∧dt_ 6 o.value≤400∧fB_ 6 o.value
theorem l4_:dt_ 6 (aa_.mk 0 0 [] [] [])≤400:=by decide
theorem if_ {k:Nat} (h:k≤4000000):(Lib.itoa (k:Int)).length≤25:=by
 have:=Lib.itoa_length_le (k:Int) (by omega) (by omega);omega
theorem rmOp_ok {k:Nat} (h:k≤4000000):opK (rmOp k):=⟨⟨_,if_ h,rfl⟩,l4_,fL_ 6⟩
theorem kZ_ (nk:List Int) (old:List au_):∀ k l ops,k≤4000000→(∀ o ∈ ops,opK o)→∀ o ∈ (lY_ nk old k l ops).2,opK o
 |0,l,ops,_,h=>h
 |k+1,l,ops,hk,h=>by
  simp only [lY_]
  split
  · exact kZ_ nk old k l ops (by omega) h
  · refine kZ_ nk old k (del l k) _ (by omega) fun o ho => ?_
    rcases List.mem_append.1 ho with ho|ho
    · exact h o ho
    · rw [List.mem_singleton.1 ho];exact rmOp_ok (by omega)
theorem pt_ {l:List au_} {i:Nat} {x:au_} (hl:l.length≤4000000) (hi:i≤4000000) (hx:okK x):∀ o ∈ (fw_ l i x).2,opK o:=by
 have ha:∀ k,k≤4000000→opK (addOp k x.value):=fun k hk=>⟨⟨_,if_ hk,rfl⟩,gT_ hx,hx.2⟩
 have hr:∀ k,k≤4000000→opK (repOp k x.value):=fun k hk=>⟨⟨_,if_ hk,rfl⟩,gT_ hx,hx.2⟩
 unfold fw_
 by_cases h1:kAt (b7_ l) x.key=(i:Int)
 · rw [if_pos h1]
   dsimp only
   cases eu_ 6 (l.getD i au_.dflt).value x.value with
   |true=>intro o ho;cases ho
   |false=>intro o ho;rw [List.mem_singleton.1 ho];exact hr i hi
 · rw [if_neg h1]
   by_cases h2:(i:Int)<kAt (b7_ l) x.key
   · rw [if_pos h2]
     obtain ⟨p,hp,h3,h4⟩:=mg_ h2
     intro o ho
     rw [hp,Int.toNat_natCast] at ho
     rcases List.mem_cons.1 ho with e|ho
     · rw [e];exact rmOp_ok (by omega)
     · rw [List.mem_singleton.1 ho];exact ha i hi
   · rw [if_neg h2]
     intro o ho
     rw [List.mem_singleton.1 ho];exact ha i hi
theorem mR_ {now:List au_} {s:List au_ × List TOp} (hnl:now.length≤1500000) (hsl:s.1.length≤1500000) (hn:∀ x ∈ now,okK x) (h:∀ o ∈ s.2,opK o):∀ i,i≤now.length→∀ o ∈ (fQ_ now s i).2,opK o
 |0,_=>h
 |i+1,hi=>by
  intro o ho
  simp only [fQ_] at ho
  have hL:=gJ_ now s i
  rcases List.mem_append.1 ho with ho|ho
  · exact mR_ hnl hsl hn h i (by omega) o ho
  · exact pt_ (by omega) (by omega) (hn _ (cF_ au_.dflt (by omega))) o ho
theorem pB_ {docs docs':List aa_} {keys keys':List Int} (hd:docs.length≤1500000) (hd':docs'.length≤1500000) (hJ:∀ j ∈ docs,fB_ 6 j) (hJ':∀ j ∈ docs',fB_ 6 j):(∀ o ∈ e2_ docs keys docs' keys',opK o)∧(e2_ docs keys docs' keys').length≤docs.length+2*docs'.length:=by
 unfold e2_
 cases h1:kOk docs keys with
 |false=>exact ⟨fun o ho=>(by cases ho),Nat.zero_le _⟩
 |true=>
  cases h2:kOk docs' keys' with
  |false=>exact ⟨fun o ho=>(by cases ho),Nat.zero_le _⟩
  |true=>
   simp only [cond_true,lu_]
   have o2:=iY_ (k_is h2) hJ'
   have l1:=e8_ (docs:=docs) (keys:=keys) (m:=docs.length)
   have l2:=e8_ (docs:=docs') (keys:=keys') (m:=docs'.length)
   generalize h5_ docs keys docs.length=old at l1 ⊢
   generalize h5_ docs' keys' docs'.length=now at o2 l2 ⊢
   have hr:=hF_ (b7_ now) old old.length old [] (Nat.le_refl _)
   have hL:=gJ_ now (lY_ (b7_ now) old old.length old []) now.length
   simp only [List.length_nil] at hr
   exact ⟨mR_ (by omega) (by omega) o2 (kZ_ _ _ _ _ _ (by omega) fun o ho=>(by cases ho)) now.length (Nat.le_refl _),by omega⟩
def kP_ (name:Bs) (o:TOp):TOp:=TOp.mk o.kind (name::o.way) o.value
def kL_ (name:Bs) (l:List TOp):List TOp:=l.map (kP_ name)
def lenO (l:List TOp):Prop:=l.length≤6000000∧∀ o ∈ l,o.way.length≤1000000∧dt_ 6 o.value≤400
theorem kU_ {name:Bs} {l:List TOp} (h:lenO l):Ev (fun n _=>bF_ n name l) (kL_ name l):=by
 refine ao_ ?_
 have hl:=h.1
 have ht:l.length≤ci_:=by simp only [ci_];omega
 simp only [bF_]
 refine kB_ TOp.dflt l (kP_ name) (fun n N i (s:List TOp)=>bF_.loop4 n (fun xy2=>(some xy2)) N name l (i:Int) s) _ (fun i s hi hs F hF => ?_) ?_
 · have ho:=h.2 _ (cF_ TOp.dflt hi)
   have hC:=eV_ 6 _ ho.2
   have hw:=ho.1
   simp only [bF_.turn4,bF_.step4,b3_,Int.toNat_natCast,W_up hi ht,dW_ hi,dx_ hi,cond_true,bT_,cg_,ae_ hC]
   exact ⟨trivial,trivial,by simp only [List.length_cons,List.length_nil];omega,trivial,by simp only [List.length_cons,List.length_nil];omega,hF⟩
 · simp only [bF_.turn4,bF_.step4,dN_,cond_false,ah_];rfl
theorem lg_ {name:Bs} {l:List TOp} (h:lenO l):Ev (fun n _=>bG_ n name l) (kL_ name l):=by
 refine ao_ ?_
 have hl:=h.1
 have ht:l.length≤ci_:=by simp only [ci_];omega
 simp only [bG_]
 refine kB_ TOp.dflt l (kP_ name) (fun n N i (s:List TOp)=>bG_.loop4 n (fun xy2=>(some xy2)) N name l (l.length:Int) (i:Int) s) _ (fun i s hi hs F hF => ?_) ?_
 · have ho:=h.2 _ (cF_ TOp.dflt hi)
   have hw:=ho.1
   have hT:Ev (fun n _=>bV_ n (l.getD i TOp.dflt).way) (l.getD i TOp.dflt).way:=ao_ (by simp only [bV_,cg_,ah_,List.nil_append,List.length_nil,and_true];omega)
   have hC:Ev (fun n _=>dl_ n (l.getD i TOp.dflt)) (l.getD i TOp.dflt):=ao_ (by simp only [dl_,b3_,ae_ hT,ae_ (ex_ 6 _ ho.2),ah_])
   simp only [bG_.turn4,bG_.step4,b3_,jg_,Int.toNat_natCast,W_up hi ht,dW_ hi,dx_ hi,cond_true,bT_,cg_,ae_ hC]
   exact ⟨trivial,by simp only [List.length_cons,List.length_nil];omega,by simp only [List.length_cons,List.length_nil];omega,hF⟩
 · simp only [bG_.turn4,bG_.step4,dN_,cond_false,ah_];rfl
end Go.Pi
end
section
namespace Go.Pi
def es_ (v:bB_):Nat:=et_ v.q v.rows.length
def d5_ (v:bB_):List aa_:=fq_ dV_ v.q v.rows (ee_ v) (es_ v)
def d6_ (v:bB_):List Int:=(List.range (es_ v)).map fun i=>(v.rows.getD i TRow.dflt).id_
theorem e1_ (v:bB_):es_ v≤v.rows.length:=gP_
theorem oo_ (v:bB_) (i:Nat):((List.range (i+1)).map fun i=>(v.rows.getD i TRow.dflt).id_)=((List.range i).map fun i=>(v.rows.getD i TRow.dflt).id_)++[(v.rows.getD i TRow.dflt).id_]:=by
 rw [List.range_succ,List.map_append];rfl
theorem nA_ {v:bB_} {i:Nat} (h:i<v.rows.length):(ee_ v).getD i 0=ge_ v.kids (v.rows.getD i TRow.dflt).id_:=f4_ (fun r:TRow=>ge_ v.kids r.id_) TRow.dflt 0 h
section
variable {v:bB_} (h:m0_ cap v) (hs:∀ c ∈ v.q.show_,i64 c)
include h hs
theorem hR_:Ev (fun n _=>bD_ n v) (d5_ v,d6_ v):=by
 refine ao_ ?_
 have h1:=h.1.2;have h2:=h.2.1.1;have h3:=h.2.2
 simp only [cap] at h1 h2 h3
 have hc:=hs_ (v:=v)
 have hm:=e1_ v
 have hD:=gC_ (q:=v.q) (rows:=v.rows) (kids:=ee_ v) (by omega) hs h.2.1.top (by omega) (by simp only [ci_];omega)
 have hl:(d5_ v).length=es_ v:=fn_
 have hD:Ev (fun n _=>a5_ n v.q v.rows (ee_ v)) (d5_ v):=hD
 simp only [bD_,ae_ (ft_ (v:=v) (by simp only [ci_];omega) (by simp only [h4_];omega)),ae_ hD,hm_,Int.toNat_natCast,List.drop_zero,hl]
 refine ⟨⟨by omega,by omega,by omega⟩,?_⟩
 have htl:(v.rows.take (es_ v)).length=es_ v:=by simp;omega
 unfold d6_
 generalize d5_ v=docs at hl ⊢
 have:=eC_ (fun i=>(List.range i).map fun i=>(v.rows.getD i TRow.dflt).id_) (es_ v) (fun n N i (s:List Int)=>bD_.loop5 n (fun xy3 xy4=>(some (xy3,xy4))) N (v.rows.take (es_ v)) ((v.rows.take (es_ v)).length:Int) (i:Int) docs s) (docs,(List.range (es_ v)).map fun i=>(v.rows.getD i TRow.dflt).id_) (fun i hi F hF => ?_) ?_
 · exact this
 · rw [oo_] at hF
   have hol:((List.range i).map fun i=>(v.rows.getD i TRow.dflt).id_).length=i:=by simp
   have hil:i<(v.rows.take (es_ v)).length:=by omega
   have eg:(v.rows.take (es_ v)).getD i TRow.dflt=v.rows.getD i TRow.dflt:=by rw [List.getD_eq_getElem?_getD,List.getD_eq_getElem?_getD,List.getElem?_take_of_lt hi]
   generalize ((List.range i).map fun i=>(v.rows.getD i TRow.dflt).id_)=s at hF hol ⊢
   simp only [bD_.turn5,bD_.step5,Int.toNat_natCast,eg,W_up hil (show (v.rows.take (es_ v)).length≤ci_ by simp only [ci_];omega),dW_ hil,dx_ hil,cond_true,bT_,cg_]
   exact ⟨trivial,by simp only [List.length_cons,List.length_nil];omega,hF⟩
 · have e:(((v.rows.take (es_ v)).length:Nat):Int)=(es_ v:Int):=by rw [htl]
   simp only [bD_.turn5,bD_.step5,e,dN_,cond_false,ah_]
theorem gt_:Ev (fun n _=>a2_ n v) (d5_ v,d6_ v):=by
 refine ao_ ?_
 have h1:=h.1.2;have h2:=h.2.1.1;have h3:=h.2.2
 simp only [cap] at h1 h2 h3
 have hm:=e1_ v
 simp only [a2_]
 let S:Nat→List aa_ × List Int:=fun i=>(fq_ dV_ v.q v.rows (ee_ v) i,(List.range i).map fun i=>(v.rows.getD i TRow.dflt).id_)
 have:=eC_ S (es_ v) (fun n N i (s:List aa_ × List Int)=>a2_.loop5 n (fun xy4 xy5=>(some (xy4,xy5))) N (i:Int) v.q.table v.q.where_ v.q.order v.q.down v.q.first v.q.show_ v.q.kids v.q.kidTable v.q.kidCol v.rows v.kids s.1 s.2) (d5_ v,d6_ v) (fun i hi F hF => ?_) ?_
 · exact this
 · have hir:i<v.rows.length:=by omega
   simp only [S,it_,oo_,nA_ hir] at hF ⊢
   have hol:=fn_ (g:=dV_) (q:=v.q) (rows:=v.rows) (kids:=ee_ v) (m:=i)
   have hol2:((List.range i).map fun i=>(v.rows.getD i TRow.dflt).id_).length=i:=by simp
   generalize ((List.range i).map fun i=>(v.rows.getD i TRow.dflt).id_)=s2 at hF hol2 ⊢
   generalize fq_ dV_ v.q v.rows (ee_ v) i=s1 at hF hol ⊢
   have e0:aT_.mk v.q.table v.q.where_ v.q.order v.q.down v.q.first v.q.show_ v.q.kids v.q.kidTable v.q.kidCol=v.q:=rfl
   have e1:bB_.mk v.q v.rows v.kids=v:=rfl
   have hK:=ha_ (v:=v) (id:=(v.rows.getD i TRow.dflt).id_) (by simp only [ci_];omega)
   have hrow:=ij_ h.2.1.top i
   have hRd:Ev (fun n _=>de_ n v.q (v.rows.getD i TRow.dflt) (ge_ v.kids (v.rows.getD i TRow.dflt).id_)) (dV_ (fF_ v.q (v.rows.getD i TRow.dflt) (ge_ v.kids (v.rows.getD i TRow.dflt).id_))) :=
    ao_ (by simp only [de_,b3_,ae_ (g8_ (q:=v.q) (by omega) hs hrow),ae_ (jr_ (iS_ (q:=v.q) (by omega) hs 6)),ah_])
   have hlt:decide ((i:Int)<(et_ v.q v.rows.length:Int))=true:=decide_eq_true (by unfold es_ at hi;omega)
   simp only [a2_.turn5,a2_.step5,e0,e1,b3_,Int.toNat_natCast,W_up hir (show v.rows.length≤ci_ by simp only [ci_];omega),ae_ ev_,hlt,dx_ hir,cond_true,bT_,ae_ hK,ae_ hRd,cg_]
   exact ⟨trivial,trivial,by simp only [List.length_cons,List.length_nil];omega,trivial,by simp only [List.length_cons,List.length_nil];omega,hF⟩
 · have e0:aT_.mk v.q.table v.q.where_ v.q.order v.q.down v.q.first v.q.show_ v.q.kids v.q.kidTable v.q.kidCol=v.q:=rfl
   have hlt:decide ((es_ v:Int)<(et_ v.q v.rows.length:Int))=false:=decide_eq_false (by unfold es_;omega)
   simp only [a2_.turn5,a2_.step5,e0,ae_ ev_,hlt,cond_false,ah_]
   rfl
theorem fc_:∀ j ∈ d5_ v,fB_ 6 j:=by
 have h1:=h.1.2
 simp only [cap] at h1
 intro j hj
 obtain ⟨i,_,e⟩:=List.mem_map.1 hj
 rw [←e]
 unfold dV_
 cases dv_ (fF_ v.q (v.rows.getD i TRow.dflt) ((ee_ v).getD i 0)) with
 |true=>exact iS_ (by omega) hs 6
 |false=>exact fL_ 6
end
theorem eD_ (v:bB_):(d5_ v).length=es_ v:=fn_
theorem kM_ (v:bB_):(d6_ v).length=es_ v:=by unfold d6_;simp
def gh_ (a b:bB_):List TOp:=cond (!decide (a.rows.length=b.rows.length)) [TOp.mk 3 [nb_] (dV_ (gy_ b.rows.length))] []
def dR_ (a b:bB_):List TOp:=cond (gc_ a.q b.q) (gh_ a b++kL_ gk_ (e2_ (d5_ a) (d6_ a) (d5_ b) (d6_ b))) []
theorem lh_ {n:Nat}:Ev (fun m _=>dI_ m (n:Int)) (dV_ (gy_ n)):=by
 refine ao_ ?_
 have hl:=hO_ (n:=(n:Int)) 6
 unfold gy_ at hl ⊢
 simp only [dI_,b3_,ae_ (hK_ hl),ah_]
theorem kV_ {n:Nat}:Ev (fun m _=>dC_ m (n:Int)) (dV_ (gy_ n)):=by
 refine ao_ ?_
 have:=d3_ (hO_ (n:=(n:Int)) 6)
 unfold dV_
 unfold gy_ at this ⊢
 simp only [dC_,ae_ this,ai_,ah_,hj_]
 cases dv_ (aa_.mk 2 (n:Int) [] [] [])<;>simp
theorem oR_ {j:aa_}:dt_ 6 (dV_ j)≤400:=by
 unfold dV_
 cases h:dv_ j with
 |true=>exact of_decide_eq_true h
 |false=>exact l4_
section
variable {a b:bB_} (ha:m0_ cap a) (hb:m0_ cap b) (hsa:∀ c ∈ a.q.show_,i64 c) (hsb:∀ c ∈ b.q.show_,i64 c)
include ha hb hsa hsb
theorem hE_:lenO (e2_ (d5_ a) (d6_ a) (d5_ b) (d6_ b))∧(∀ o ∈ e2_ (d5_ a) (d6_ a) (d5_ b) (d6_ b),opK o)∧(e2_ (d5_ a) (d6_ a) (d5_ b) (d6_ b)).length≤a.rows.length+2*b.rows.length:=by
 have h1:=ha.2.1.1;have h2:=hb.2.1.1
 simp only [cap] at h1 h2
 have:=e1_ a
 have:=e1_ b
 obtain ⟨k1,k2⟩:=pB_ (keys:=d6_ a) (keys':=d6_ b) (by rw [eD_];omega) (by rw [eD_];omega) (fc_ ha hsa) (fc_ hb hsb)
 rw [eD_,eD_] at k2
 refine ⟨⟨by omega,fun o ho=>⟨?_,(k1 o ho).2.1⟩⟩,k1,by omega⟩
 obtain ⟨t,_,e⟩:=(k1 o ho).1
 rw [e];exact (by decide:1≤1000000)
theorem fH_:Ev (fun n _=>b1_ n a b) (dR_ a b):=by
 refine ao_ ?_
 have h1:=ha.2.1.1;have h2:=hb.2.1.1
 simp only [cap] at h1 h2
 have n1:=e1_ a
 have n2:=e1_ b
 obtain ⟨r1,_,r3⟩:=hE_ ha hb hsa hsb
 have hR:=lO_ (docs:=d5_ a) (keys:=d6_ a) (docs':=d5_ b) (keys':=d6_ b) (by rw [eD_];omega) (by rw [eD_];omega) (fc_ ha hsa) (fc_ hb hsb) (by rw [kM_];omega) (by rw [kM_];omega)
 have hU:=kU_ (name:=gk_) r1
 have hq:lenQ ci_ a.q:=⟨Nat.le_trans ha.1.1 (by decide),Nat.le_trans ha.1.2 (by decide)⟩
 have hUl:(kL_ gk_ (e2_ (d5_ a) (d6_ a) (d5_ b) (d6_ b))).length=(e2_ (d5_ a) (d6_ a) (d5_ b) (d6_ b)).length:=List.length_map _
 simp only [b1_,ae_ (h9_ hq),km_,ai_,b3_,ae_ kV_,ae_ (gt_ ha hsa),ae_ (gt_ hb hsb),ae_ hR,ae_ hU,cg_,ah_,List.nil_append,List.length_nil,dR_,gh_]
 cases gc_ a.q b.q with
 |false=>exact ⟨fun _=>rfl,fun h=>(by cases h)⟩
 |true=>
  refine ⟨fun h=>(by cases h),fun _=>⟨fun hc=>⟨?_,?_,?_⟩,fun hc=>⟨?_,?_⟩⟩⟩
  · simp only [List.length_cons,List.length_nil];omega
  · simp only [List.length_cons,List.length_nil];omega
  · rw [hc];rfl
  · omega
  · rw [hc];rfl
theorem fO_:Ev (fun n _=>b4_ n a b) (dR_ a b):=by
 refine ao_ ?_
 have h1:=ha.2.1.1;have h2:=hb.2.1.1
 simp only [cap] at h1 h2
 have n1:=e1_ a
 have n2:=e1_ b
 obtain ⟨r1,_,r3⟩:=hE_ ha hb hsa hsb
 have hR:=mm_ (docs:=d5_ a) (keys:=d6_ a) (docs':=d5_ b) (keys':=d6_ b) (by rw [eD_];omega) (by rw [eD_];omega) (fc_ ha hsa) (fc_ hb hsb)
 have hU:=lg_ (name:=gk_) r1
 have hq:lenQ ci_ a.q:=⟨Nat.le_trans ha.1.1 (by decide),Nat.le_trans ha.1.2 (by decide)⟩
 have hUl:(kL_ gk_ (e2_ (d5_ a) (d6_ a) (d5_ b) (d6_ b))).length=(e2_ (d5_ a) (d6_ a) (d5_ b) (d6_ b)).length:=List.length_map _
 simp only [b4_,ae_ (ih_ hq),km_,ai_,b3_,ae_ lh_,ae_ (hR_ ha hsa),ae_ (hR_ hb hsb),ae_ hR,ae_ hU,cg_,ah_,List.nil_append,List.length_nil,dR_,gh_]
 cases gc_ a.q b.q with
 |false=>exact ⟨fun _=>rfl,fun h=>(by cases h)⟩
 |true=>
  refine ⟨fun h=>(by cases h),fun _=>⟨fun hc=>⟨?_,?_,?_⟩,fun hc=>⟨?_,?_⟩⟩⟩
  · simp only [List.length_cons,List.length_nil];omega
  · simp only [List.length_cons,List.length_nil];omega
  · rw [hc];rfl
  · omega
  · rw [hc];rfl
theorem gA_ (hab:a.rows.length+b.rows.length≤1500000):mc_ (dR_ a b):=by
 obtain ⟨r1,r2,r3⟩:=hE_ ha hb hsa hsb
 unfold dR_
 cases gc_ a.q b.q with
 |false=>exact ⟨Nat.zero_le _,fun o ho=>(by cases ho)⟩
 |true=>
  have hUl:(kL_ gk_ (e2_ (d5_ a) (d6_ a) (d5_ b) (d6_ b))).length=(e2_ (d5_ a) (d6_ a) (d5_ b) (d6_ b)).length:=List.length_map _
  have hcl:(gh_ a b).length≤1:=by unfold gh_;cases (!decide (a.rows.length=b.rows.length))<;>simp
  refine ⟨by simp only [cond_true,List.length_append];omega,fun o ho => ?_⟩
  rw [cond_true] at ho
  rcases List.mem_append.1 ho with ho|ho
  · unfold gh_ at ho
    cases hc:(!decide (a.rows.length=b.rows.length))<;>rw [hc] at ho
    · cases ho
    · rw [List.mem_singleton.1 ho]
      refine ⟨⟨by show 1≤ci_;decide,fun x hx => ?_⟩,?_⟩
      · rw [List.mem_singleton.1 hx];show 5≤ci_;decide
      · show fB_ 6 (dV_ (gy_ b.rows.length))
        unfold dV_
        cases dv_ (gy_ b.rows.length) with
        |true=>exact hO_ 6
        |false=>exact fL_ 6
  · obtain ⟨o',ho',e⟩:=List.mem_map.1 ho
    obtain ⟨⟨t,ht,e2⟩,_,hv⟩:=r2 o' ho'
    rw [←e]
    refine ⟨⟨?_,fun x hx => ?_⟩,hv⟩
    · show (gk_::o'.way).length≤ci_
      rw [e2];show 2≤ci_;decide
    · have hx:x ∈ gk_::o'.way:=hx
      rw [e2] at hx
      rcases List.mem_cons.1 hx with e3|hx
      · rw [e3];show 4≤ci_;decide
      · rw [List.mem_singleton.1 hx];simp only [ci_];omega
end
end Go.Pi
end
section
namespace Go.Pi
theorem ia_ {l:List TOp} (h:mc_ l):Ev (fun n _=>aJ_ n l) (el_ l):=by
 refine ao_ ?_
 have hl:=h.1
 have ht:l.length≤ci_:=by simp only [ci_];omega
 have hb:g5_ l≤l.length:=List.findIdx_le_length
 simp only [aJ_]
 have:=eC_ (fun i=>(l.take i).map ed_) (g5_ l) (fun n N i (o:List aa_)=>aJ_.loop4 n (fun xy2 xy3 xy4 xy5=>((cX_ n (aa_.mk xy2 xy3 xy4 xy5 [])).bind fun xr6=>(cond (xr6 == []) (some (-1)) (some (xr6.length:Int))))) N l (i:Int) 4 0 [] o) (el_ l) (fun i hi F hF => ?_) ?_
 · exact this
 · have hi2:i<l.length:=by omega
   have hx:=g9_ (h.2 _ (cF_ TOp.dflt hi2))
   rw [of_ ed_ TOp.dflt hi2] at hF
   have hol:((l.take i).map ed_).length≤i:=by simp;omega
   generalize (l.take i).map ed_=o at hF hol ⊢
   simp only [aJ_.turn4,aJ_.step4,b3_,jg_,Int.toNat_natCast,W_up hi2 ht,dW_ hi2,dx_ hi2,kG_ hi,cond_true,cond_false,bT_,cg_,ae_ hx]
   exact ⟨trivial,by simp;omega,hF⟩
 · by_cases hp:g5_ l<l.length
   · have hx:=g9_ (h.2 _ (cF_ TOp.dflt hp))
     simp only [aJ_.turn4,aJ_.step4,b3_,jg_,Int.toNat_natCast,dW_ hp,dx_ hp,bad_at hp,cond_true,bT_,ae_ hx,ah_]
     unfold el_
     rw [decide_eq_true hp]
     exact ⟨trivial,rfl⟩
   · have e:g5_ l=l.length:=by omega
     have hE:=hb_ (oj_ h)
     unfold el_
     rw [decide_eq_false hp,cond_false]
     unfold lv_ at hE ⊢
     rw [e,List.take_length]
     simp only [aJ_.turn4,aJ_.step4,dN_,cond_false,ae_ hE,ai_,ah_]
     generalize gg_ _=s
     cases (s == [])<;>simp
end Go.Pi
end
section
namespace Go.Pi
theorem lenQ_of {c:Nat} {q:aT_} (h:aT_.size q≤c):lenQ c q:=by
 have h1:=c8_ aP_.size q.where_
 have h2:=c8_ szI q.show_
 simp only [aT_.size] at h
 exact ⟨by omega,by omega⟩
theorem lenRow_of {r:TRow}:r.cells.length≤TRow.size r:=c8_ szI r.cells
theorem lenR_of {c:Nat} {rows:List TRow} (h:dO_ TRow.size rows≤c):o1_ c rows:=by
 have h1:=c8_ TRow.size rows
 exact ⟨by omega,fun x hx=>by have:=eW_ TRow.size hx;have:=lenRow_of (r:=x);omega⟩
theorem lenV_of {c:Nat} {v:bB_} (h:bB_.size v≤c):m0_ c v:=by
 have h3:=c8_ TKid.size v.kids
 simp only [bB_.size] at h
 exact ⟨lenQ_of (by omega),lenR_of (by omega),by omega⟩
end Go.Pi
end
section
namespace Go.Pi
def fx_ (a b:bB_):Bool:=decide (((dR_ a b).length:Int)≤40)&&(decide (el_ (dR_ a b)≥0)&&decide (el_ (dR_ a b)<((gg_ (eL_ b)).length:Int)))
section
variable {a b:bB_} (ha:m0_ cap a) (hb:m0_ cap b) (hsa:∀ c ∈ a.q.show_,i64 c) (hsb:∀ c ∈ b.q.show_,i64 c) (hab:a.rows.length+b.rows.length≤1500000)
include ha hb hsa hsb hab
theorem i6_:Ev (fun n _=>cO_ n a b) (fx_ a b):=by
 refine ao_ ?_
 have hP:=ia_ (gA_ ha hb hsa hsb hab)
 have hE:=hb_ (eA_ hb hsb)
 simp only [cO_,b3_,ae_ (fH_ ha hb hsa hsb),ae_ hP,ai_,ae_ (eF_ hb hsb),ae_ hE,ah_,fx_]
 cases decide (((dR_ a b).length:Int)≤40)<;>cases decide (el_ (dR_ a b)≥0)<;>simp
theorem jA_:Ev (fun n _=>cV_ n a b) (fx_ a b):=by
 refine ao_ ?_
 have hP:=ii_ (gA_ ha hb hsa hsb hab)
 have hE:=fD_ (eA_ hb hsb)
 simp only [cV_,b3_,ae_ (fO_ ha hb hsa hsb),ae_ hP,ai_,ae_ (eI_ hb hsb),ae_ hE,ah_,fx_]
 cases decide (((dR_ a b).length:Int)≤40)<;>cases decide (el_ (dR_ a b)≥0)<;>simp
end
theorem lU_ {v:bB_}:v.rows.length≤bB_.size v:=by
 have:=c8_ TRow.size v.rows
 simp only [bB_.size];omega
end Go.Pi
end
section
namespace Go.Pi
def gO_ (a b:aa_):Bool:=dv_ a&&(dv_ b&&eu_ 6 a b)
theorem iL_ {a b:aa_} (ha:fB_ 6 a) (hb:fB_ 6 b):Ev (fun n _=>cD_ n a b) (gO_ a b):=by
 refine ao_ ?_
 simp only [cD_,b3_,ae_ (ek_ ha),ae_ (ek_ hb),ai_,ah_,gO_]
 cases h1:dv_ a with
 |false=>simp
 |true=>
  have hd:pm_ 6 a:=fe_ 6 a (of_decide_eq_true h1)
  simp only [ae_ (f2_ 6 a b hd ha),ah_]
  cases dv_ b<;>simp
theorem iI_ {a b:aa_} (ha:fB_ 6 a) (hb:fB_ 6 b):Ev (fun n _=>cy_ n a b) (gO_ a b):=by
 refine ao_ ?_
 simp only [cy_,b3_,ae_ (d3_ ha),ae_ (d3_ hb),ai_,ah_,gO_]
 cases h1:dv_ a with
 |false=>simp
 |true=>
  have hd:pm_ 6 a:=fe_ 6 a (of_decide_eq_true h1)
  simp only [ae_ (eU_ 6 a b hd ha),ah_]
  cases dv_ b<;>simp
end Go.Pi
end
section
namespace Go.Pi
def lenS (c:Nat) (s:bZ_):Prop:=m0_ c s.view∧m0_ c s.last
end Go.Pi
end
section
namespace Go.Pi
theorem lenS_of {c:Nat} {x:bZ_} (h:bZ_.size x≤c):lenS c x:=by
 simp only [bZ_.size] at h
 exact ⟨lenV_of (by omega),lenV_of (by omega)⟩
end Go.Pi
end
section
namespace Go.Pi
def FDue (x:bZ_):Bool:=!x.began || !gO_ (eL_ x.view) (eL_ x.last)
def intsS (x:bZ_):Prop:=(∀ c ∈ x.view.q.show_,i64 c)∧∀ c ∈ x.last.q.show_,i64 c
theorem i7_ {x:bZ_} (h:lenS cap x) (hi:intsS x):Ev (fun n _=>cP_ n x) (FDue x):=by
 refine ao_ ?_
 simp only [cP_,b3_,ae_ (eF_ h.1 hi.1),ae_ (eF_ h.2 hi.2),ae_ (iI_ (eA_ h.1 hi.1) (eA_ h.2 hi.2)),ai_,ah_,FDue]
 cases x.began<;>simp
theorem jB_ {x:bZ_} (h:lenS cap x) (hi:intsS x):Ev (fun n _=>cW_ n x) (FDue x):=by
 refine ao_ ?_
 simp only [cW_,b3_,ae_ (eI_ h.1 hi.1),ae_ (eI_ h.2 hi.2),ae_ (iL_ (eA_ h.1 hi.1) (eA_ h.2 hi.2)),ai_,ah_,FDue]
 cases x.began<;>simp
end Go.Pi
end
section
namespace Go.Pi
section
variable {β:Type} {x lo hi:Int} {g:Nat→Nat→Bool→Option β} {v:β}
end
end Go.Pi
end
section
namespace Go.Pi
section
variable {w:Int} {cols sh:List Int} {wh:List aP_} {t o f kt kc:Int} {d ks v:Bool}
end
end Go.Pi
end
section
namespace Go.Pi
section
variable {cols sh:List Int} {wh:List aP_} {t o f kt kc:Int} {d ks v:Bool} {rows:List TRow} {kids:List TKid}
end
end Go.Pi
end
section
namespace Go.Pi
section
variable {β:Type} {g:Nat→Nat→List Int→Option β} {gr:Nat→Nat→TRow→Option β} {v:β}
theorem kE_ {l:List Int} (h:l.length≤h4_):Ev (fun n N=>(cr_ n l).bind (g n N)) v↔Ev (fun n N=>g n N l) v :=
 ae_ (ao_ (by simp only [cr_,cg_,ah_,List.nil_append,and_true];simp only [h4_] at h;simp;omega))
theorem copyRow_b {r:TRow} (h:r.cells.length≤h4_):Ev (fun n N=>(cU_ n r).bind (gr n N)) v↔Ev (fun n N=>gr n N r) v :=
 ae_ (ao_ (by simp only [cU_,kE_ h,ah_]))
theorem l6Copy_b {r:TRow} (h:r.cells.length≤h4_):Ev (fun n N=>(dd_ n r).bind (gr n N)) v↔Ev (fun n N=>gr n N r) v :=
 ae_ (ao_ (by simp only [dd_,cg_,ah_,List.nil_append,and_true];simp only [h4_] at h;simp;omega))
end
theorem jF_ {c:Nat} {rows:List TRow} (hr:o1_ c rows) (i:Nat):(rows.getD i TRow.dflt).cells.length≤c:=by
 by_cases hi:i<rows.length
 · exact hr.2 _ (cF_ TRow.dflt hi)
 · rw [List.getD_eq_getElem?_getD,List.getElem?_eq_none (by omega)]
   exact Nat.zero_le _
theorem nB_ {rows:List TRow} (h:o1_ h4_ rows):Ev (fun n _=>aZ_ n rows) rows:=by
 refine ao_ ?_
 have hl:=h.1
 simp only [h4_] at hl
 simp only [aZ_]
 refine kB_ TRow.dflt rows id (fun n N i s=>aZ_.loop4 n _ N rows (rows.length:Int) (i:Int) s) rows (fun i s hi hs F hF => ?_) ?_
 · simp only [aZ_.turn4,aZ_.step4,Int.toNat_natCast,W_up hi (show rows.length≤ci_ by simp only [ci_];omega),ai_,bT_,copyRow_b (jF_ h i),cg_,dW_ hi,dx_ hi]
   exact ⟨fun _=>⟨trivial,by simp;omega,hF⟩,fun h=>by cases h⟩
 · simp only [aZ_.turn4,aZ_.step4,dN_,cond_false,ah_,List.map_id]
theorem l6Rows_ev {rows:List TRow} (h:o1_ h4_ rows):Ev (fun n _=>bv_ n rows) rows:=by
 refine ao_ ?_
 have hl:=h.1
 simp only [h4_] at hl
 simp only [bv_]
 refine kB_ TRow.dflt rows id (fun n N i s=>bv_.loop4 n _ N rows (i:Int) s) rows (fun i s hi hs F hF => ?_) ?_
 · simp only [bv_.turn4,bv_.step4,Int.toNat_natCast,W_up hi (show rows.length≤ci_ by simp only [ci_];omega),ai_,bT_,l6Copy_b (jF_ h i),cg_,dW_ hi,dx_ hi]
   exact ⟨fun _=>⟨trivial,by simp;omega,hF⟩,fun h=>by cases h⟩
 · simp only [bv_.turn4,bv_.step4,dN_,cond_false,ah_,List.map_id]
end Go.Pi
end
section
namespace Go.Pi
end Go.Pi
end
section
namespace Go.Pi
end Go.Pi
end
section
namespace Go.Pi
end Go.Pi
end
section
namespace Go.Pi
theorem o1_.upto {c d:Nat} {r:List TRow} (h:o1_ c r) (hc:c≤d):o1_ d r:=⟨Nat.le_trans h.1 hc,fun x hx=>Nat.le_trans (h.2 x hx) hc⟩
theorem m0_.upto {c d:Nat} {v:bB_} (h:m0_ c v) (hc:c≤d):m0_ d v:=⟨⟨Nat.le_trans h.1.1 hc,Nat.le_trans h.1.2 hc⟩,h.2.1.upto hc,Nat.le_trans h.2.2 hc⟩
section
variable {β:Type}
theorem l9Copy_b {q:aT_} (h:lenQ h4_ q) {g:Nat→Nat→aT_→Option β} {v:β}:Ev (fun n N=>(db_ n q).bind (g n N)) v↔Ev (fun n N=>g n N q) v :=
 ae_ (ao_ (by have h1:=h.1;have h2:=h.2;simp only [h4_] at h1 h2;simp only [db_,cg_,ah_,List.nil_append,and_true,List.length_nil];omega))
theorem nC_ {q:aT_} (h:lenQ h4_ q) {g:Nat→Nat→aT_→Option β} {v:β}:Ev (fun n N=>(cc_ n q).bind (g n N)) v↔Ev (fun n N=>g n N q) v :=
 ae_ (ao_ (by have h1:=h.1;have h2:=h.2;simp only [h4_] at h1 h2;simp only [cc_,kE_ h.2,cg_,ah_,List.nil_append,and_true,List.length_nil];omega))
theorem jq_ {x:bB_} (h:m0_ h4_ x) {g:Nat→Nat→bB_→Option β} {v:β}:Ev (fun n N=>(cj_ n x).bind (g n N)) v↔Ev (fun n N=>g n N x) v :=
 ae_ (ao_ (by have h1:=h.2.2;simp only [h4_] at h1;simp only [cj_,l9Copy_b h.1,ae_ (l6Rows_ev h.2.1),cg_,ah_,List.nil_append,and_true,List.length_nil];omega))
theorem io_ {x:bB_} (h:m0_ h4_ x) {g:Nat→Nat→bB_→Option β} {v:β}:Ev (fun n N=>(bY_ n x).bind (g n N)) v↔Ev (fun n N=>g n N x) v :=
 ae_ (ao_ (by have h1:=h.2.2;simp only [h4_] at h1;simp only [bY_,nC_ h.1,ae_ (nB_ h.2.1),cg_,ah_,List.nil_append,and_true,List.length_nil];omega))
theorem l16Copy_b {x:bZ_} (h:lenS h4_ x) {g:Nat→Nat→bZ_→Option β} {v:β}:Ev (fun n N=>(cN_ n x).bind (g n N)) v↔Ev (fun n N=>g n N x) v :=
 ae_ (ao_ (by simp only [cN_,jq_ h.1,jq_ h.2,ah_]))
theorem pn_ {x:bZ_} (h:lenS h4_ x) {g:Nat→Nat→bZ_→Option β} {v:β}:Ev (fun n N=>(cC_ n x).bind (g n N)) v↔Ev (fun n N=>g n N x) v :=
 ae_ (ao_ (by simp only [cC_,io_ h.1,io_ h.2,ah_]))
end
end Go.Pi
end
section
namespace Go.Pi
theorem lG_:∀ {l:List Bs} {c:Nat},(∀ x ∈ l,x.length≤c)→e6_ szB l≤l.length*c
 |[],_,_=>Nat.zero_le _
 |x::l,c,h=>by
  have:=lG_ (l:=l) fun y hy=>h y (List.mem_cons_of_mem _ hy)
  have:=h x (List.mem_cons_self ..)
  simp only [e6_,szB,List.length_cons,Nat.add_mul] at *;omega
theorem iT_:∀ (d:Nat) (j:aa_),dt_ d j≤400→aa_.size j≤50000*dt_ d j
 |0,j,h=>by simp only [dt_] at h;omega
 |d+1,j,h=>by
  obtain ⟨ho,hs⟩:=fV_ h
  have hl:=gU_ h
  have hn:=jj_ h
  have hsum:∀ l:List aa_,(∀ x ∈ l,dt_ d x≤400)→e6_ aa_.size l≤50000*e6_ (dt_ d) l:=by
   intro l
   induction l with
   |nil=>intro _;exact Nat.zero_le _
   |cons x l ih=>
    intro hx
    have h1:=iT_ d x (hx x (List.mem_cons_self ..))
    have h2:=ih fun y hy=>hx y (List.mem_cons_of_mem _ hy)
    simp only [e6_];omega
  have h1:=hsum j.list fun x hx=>by have:=h7_ (dt_ d) hx;omega
  have hF:FOwn j=true:=by
   simp only [dt_] at h
   cases hf:FOwn j with
   |true=>rfl
   |false=>rw [hf,cond_false] at h;omega
  have hsl:j.s.length≤60:=by
   unfold FOwn at hF
   simp only [Bool.and_eq_true,Bool.or_eq_true] at hF
   rcases hF.2.2.2.1 with e|e
   · have:j.s=[]:=by simpa using e
     rw [this];exact Nat.zero_le _
   · exact ho.text (by simpa using e)
  have hnt:e6_ szB j.names≤j.names.length*60:=lG_ fun x hx=>by
   by_cases hk:j.kind=5
   · obtain ⟨i,hi,e⟩:=List.mem_iff_getElem.1 hx
     have:=is_ (ho.obj hk).2 hi
     rw [List.getD_eq_getElem?_getD,List.getElem?_eq_getElem hi,Option.getD_some,e] at this
     exact this
   · have:j.names.length=0:=by
      unfold FOwn at hF
      simp only [Bool.and_eq_true,Bool.or_eq_true] at hF
      rcases hF.2.1 with e|e
      · exact of_decide_eq_true e
      · exact absurd (by simpa using e) hk
     rw [List.eq_nil_of_length_eq_zero this] at hx;cases hx
  have e:=aa_.size_eq j
  unfold dO_ at e
  rw [hs]
  omega
theorem opsSize:∀ {l:List TOp},(∀ o ∈ l,TOp.size o≤20000100)→e6_ TOp.size l≤l.length*20000100
 |[],_=>Nat.zero_le _
 |o::l,h=>by
  have:=opsSize (l:=l) fun y hy=>h y (List.mem_cons_of_mem _ hy)
  have:=h o (List.mem_cons_self ..)
  simp only [e6_,List.length_cons,Nat.add_mul] at *;omega
end Go.Pi
end
section
namespace Go.Pi
def noEv:cI_:=cI_.mk 0 0 0 (aa_.mk 0 0 [] [] []) []
def FEvOf (x:bZ_):cI_:=cond (x.began&&fx_ x.last x.view) (cI_.mk 2 x.version x.lastVersion (aa_.mk 0 0 [] [] []) (dR_ x.last x.view)) (cI_.mk 1 x.version 0 (eL_ x.view) [])
def FTaken (x:bZ_):bZ_:=bZ_.mk x.view x.version x.view x.version true
def ec_ (x:bZ_):bZ_ × cI_ × Bool:=cond (FDue x) (FTaken x,FEvOf x,true) (x,noEv,false)
section
variable {x:bZ_} (h:lenS cap x) (hi:intsS x) (hr:x.last.rows.length+x.view.rows.length≤1500000)
include h hi hr
theorem iH_:Ev (fun n _=>cx_ n x) (ec_ x):=by
 have hR:lenS h4_ x:=⟨h.1.upto (by decide),h.2.upto (by decide)⟩
 refine ao_ ?_
 simp only [cx_,b3_,l16Copy_b hR,ae_ (i7_ h hi),ai_,ae_ (eF_ h.1 hi.1),ae_ (i6_ h.2 h.1 hi.2 hi.1 hr),ae_ (fH_ h.2 h.1 hi.2 hi.1),jq_ hR.1,ah_,ec_,FTaken,FEvOf,noEv]
 cases FDue x<;>cases x.began<;>cases fx_ x.last x.view<;>simp
theorem iK_:Ev (fun n _=>cs_ n x) (ec_ x):=by
 have hR:lenS h4_ x:=⟨h.1.upto (by decide),h.2.upto (by decide)⟩
 refine ao_ ?_
 simp only [cs_,b3_,pn_ hR,ae_ (jB_ h hi),ai_,ae_ (eI_ h.1 hi.1),ae_ (jA_ h.2 h.1 hi.2 hi.1 hr),ae_ (fO_ h.2 h.1 hi.2 hi.1),io_ hR.1,ah_,ec_,FTaken,FEvOf,noEv]
 cases FDue x<;>cases x.began<;>cases fx_ x.last x.view<;>simp
end
end Go.Pi
end
