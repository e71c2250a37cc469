/- SessTake of the program returns what SessTake of the reference returns, for all arguments. Text 6 of 8. -/
import Derived.Test.YtinngjbiigjkoaaGreatDoorStE
import Derived.Below
import Derived.Shelf.Vars
import Derived.Shelf.Strings.OnBuilder
import Derived.Shelf.Strings.Replace
import Derived.ChangeArms
import Derived.DataReads
import Derived.ChangeOld
import Derived.Test.YtinngjbiigjkoaaGreatDoorRows
import Derived.ProofKit
import Derived.OpenShut
import Derived.LaidLaws
import Derived.JoinedOf
import Derived.JoinedAt
import Derived.ChangeVars
import Derived.ChangeMaps5
import Derived.Stop.LaidErr
import Derived.Test.YtinngjbiigjkoaaGreatDoorTie
import Derived.Test.YtinngjbiigjkoaaGreatDoorCards
import Derived.IntWalk
set_option linter.unusedVariables false
set_option maxRecDepth 100000
set_option linter.unusedSimpArgs false
section
namespace Go.Proofs
open Go.Shelf Go.RowKit Go.Lib Go.Pi
section
variable {P:Program}
theorem o6_ (TS TE:TypeId) (TI:TypeId) (Z:Value) (i0:TypeInfo) (uS:P.underlying TS=some (.slice TE)) (uI:P.underlying TI=some (.int .i64)) (hi0:P.info? TE=some i0) (hz2:i0.zero=some Z) (hz0:i0.size=6) (hz1:i0.bytes=88) (hZK:Z.cells.size=6)
  (w:World) (g n c i:Nat) (cur:Array Value) (hg:w.heap[g]?=some (.cells cur TE (0,0))) (hs:cur.size=c*6) (hnc:n≤c) (hi:i<n)
  (gv m vc:Nat) (curv:Array Value) (Tv:TypeId) (hgv:w.heap[gv]?=some (.cells curv Tv (0,0))) (hmv:m*6≤curv.size) (us:List Value) (hul:us=curv.toList.take (m*6)) (h1u:∀ v ∈ us,v.oneCell'=true) (hm:0<m) (hroom:c<n+m)
  (hbig:(n+m)*88≤140737488355328) (h1:∀ v ∈ cur.toList.take (n*6),v.oneCell'=true) :
  ∃ G N W1 R1 W2 A,Hid (N=w.heap.size)∧n+m≤G∧G≤maxLen ∧
    (∀ ty,(Builtin.append_ #[TS,TI] ty #[.slice (some ⟨g,0,none⟩) i c,.int .i64 ((n:Int)+(m:Int) - (i:Int))]).run P w = .ok (.slice (some ⟨N,0,none⟩) (n+m) G) W1) ∧
    (∀ ty dc,(Builtin.copy_ #[TS,TS] ty #[.slice (some ⟨N,i*6,none⟩) (n+m - i) dc,.slice (some ⟨gv,0,none⟩) m vc]).run P W1 = .ok (goInt m) (W1.setRow N R1)) ∧
    (W1.setRow N R1).drew=W2 ∧
    (∀ ty dc sc,(Builtin.copy_ #[TS,TS] ty #[.slice (some ⟨N,(i+m)*6,none⟩) (n+m - (i+m)) dc,.slice (some ⟨g,i*6,none⟩) (n - i) sc]).run P W2 = .ok (goInt (n - i)) (W2.setRow N A)) ∧
    Hid (n+m≤G∧G≤maxLen∧(W2.setRow N A).heap[w.heap.size]?=some (.cells A TE (0,0))∧A.size=G*6∧A.toList.take ((n+m)*6)=(cur.toList.take (n*6)).take (i*6)++us++(cur.toList.take (n*6)).drop (i*6)∧w.grownBy (W2.setRow N A) none):=by
 have hul2:us.length=m*6:=by rw [hul,List.length_take,Array.length_toList];omega
 have hsz:(P.info? TE).map (·.size)=some 6:=by rw [hi0];simp [hz0]
 have hgd:w.drew.heap[g]?=some (.cells cur TE (0,0)):=hg
 have hgl:g<w.heap.size:=(Array.getElem?_eq_some_iff.1 hg).1
 have hgvl:gv<w.heap.size:=(Array.getElem?_eq_some_iff.1 hgv).1
 obtain ⟨olds,holds⟩:∃ olds,olds=(cur.toList.take (n*6)).take (i*6):=⟨_,rfl⟩
 have hol:olds.length=i*6:=by rw [holds];simp [hs];omega
 obtain ⟨G,hG⟩:∃ G,G=grownCap w (n+m) c TE:=⟨_,rfl⟩
 have hGn:n+m≤G:=by rw [hG];exact grownCap_ge w _ _ _
 have hGm:G≤maxLen:=by rw [hG];exact grownCap_le_maxLen w (n+m) c TE (by unfold maxLen;omega)
 obtain ⟨ROW,hROW⟩:∃ ROW:Array Value,ROW=olds.toArray++Builtin.zeroCells Z.cells (n+m - i)++Builtin.zeroCells Z.cells (G - (n+m)):=⟨_,rfl⟩
 have hRl:ROW.size=G*6:=by rw [hROW];simp [Builtin.zeroCells,hol,hZK];omega
 have hRt:ROW.toList.take (i*6)=olds:=by
  rw [hROW];simp only [Array.toList_append,List.append_assoc]
  rw [List.take_append_of_le_length (by simp [hol]),List.take_of_length_le (by simp [hol])]
 have hkk:(n:Int)+(m:Int) - (i:Int)=((n+m - i:Nat):Int):=by omega
 have hrz:∀ ty,(Builtin.append_ #[TS,TI] ty #[.slice (some ⟨g,0,none⟩) i c,.int .i64 ((n:Int)+(m:Int) - (i:Int))]).run P w =
   .ok (.slice (some ⟨w.heap.size,0,none⟩) (n+m) G) (w.drew.alloc (.cells ROW TE)):=fun ty=>by
  have h:=Lib.run_append_grow_zeros (P:=P) w TS TI ty TE i0 _ .i64 .i64 uS uI hi0 hz2 (some ⟨g,0,none⟩) i c olds (by
   rw [hz0]
   exact run_firstCells_some w.drew 6 i ⟨g,0,none⟩ i c olds hol (fun j v hj=>by
    have hj2:=(List.getElem?_eq_some_iff.1 hj).1
    rw [holds,List.getElem?_take_of_lt (by omega),List.getElem?_take_of_lt (by omega),Array.getElem?_toList] at hj
    rw [Addr.add_lit,Nat.zero_add]
    simp only [World.cell?,hgd]
    exact hj)) (n+m - i) (by omega) (by omega) (by omega) (by omega) (by rw [hz1];omega) (by rw [hz1,show i+(n+m - i)=n+m by omega];exact growslice_fits hroom hbig)
  rw [show i+(n+m - i)=n+m by omega,←hG,←hROW] at h
  rw [hkk]
  exact h
 obtain ⟨N,hN⟩:∃ N,N=w.heap.size:=⟨_,rfl⟩
 rw [←hN] at hrz
 obtain ⟨W1,hW1⟩:∃ W1,W1=w.drew.alloc (.cells ROW TE):=⟨_,rfl⟩
 rw [←hW1] at hrz
 have hN1:W1.heap[N]?=some (.cells ROW TE (0,0)):=by rw [hW1,hN];exact heap_alloc_new w.drew _
 have hold:∀ b,b<w.heap.size→W1.heap[b]?=w.heap[b]?:=fun b hb=>by rw [hW1];exact heap_alloc_old w.drew _ hb
 have hgr1:w.grownBy W1 none:=by rw [hW1];exact ⟨rfl,rfl,rfl,by simp,fun k hk _=>heap_alloc_old w.drew _ hk⟩
 obtain ⟨R1,hR1⟩:∃ R1,R1=(ROW.toList.take (i*6)++us++ROW.toList.drop (i*6+us.length)).toArray:=⟨_,rfl⟩
 have hR1s:R1.size=G*6:=by rw [hR1];simp [hul2,hRl];omega
 have hcp1:∀ ty dc,(Builtin.copy_ #[TS,TS] ty #[.slice (some ⟨N,i*6,none⟩) (n+m - i) dc,.slice (some ⟨gv,0,none⟩) m vc]).run P W1 = .ok (goInt m) (W1.setRow N R1):=fun ty dc=>by
  have:=dT_ (P:=P) W1 TS TS ty TE 6 N (i*6) (n+m - i) dc ⟨gv,0,none⟩ m vc ROW TE us uS hsz hN1 (by rw [hul2];simp only [Nat.min_def];split<;>omega)
   (fun j v hj=>by
     have hj2:=(List.getElem?_eq_some_iff.1 hj).1
     rw [hul,List.getElem?_take_of_lt (by omega),Array.getElem?_toList] at hj
     rw [Addr.add_lit,Nat.zero_add]
     simp only [World.cell?,hold gv hgvl,hgv]
     exact hj) (by rw [hul2,hRl];omega) h1u
  rw [this,hR1]
  congr 2
  simp only [Nat.min_def];split<;>omega
 obtain ⟨W2,hW2⟩:∃ W2,W2=(W1.setRow N R1).drew:=⟨_,rfl⟩
 have hN2:W2.heap[N]?=some (.cells R1 TE (0,0)):=by rw [hW2];exact setRow_heap _ _ _ _ _ _ hN1
 have hg2:W2.heap[g]?=some (.cells cur TE (0,0)):=by
  rw [hW2];show (W1.setRow N R1).heap[g]?=_
  rw [setRow_other _ _ _ _ (by omega),hold g hgl];exact hg
 obtain ⟨mv,hmv2⟩:∃ mv,mv=(cur.toList.take (n*6)).drop (i*6):=⟨_,rfl⟩
 have hml:mv.length=(n - i)*6:=by rw [hmv2];simp [hs];omega
 obtain ⟨A,hA⟩:∃ A,A=(R1.toList.take ((i+m)*6)++mv++R1.toList.drop ((i+m)*6+mv.length)).toArray:=⟨_,rfl⟩
 have hcp2:∀ ty dc sc,(Builtin.copy_ #[TS,TS] ty #[.slice (some ⟨N,(i+m)*6,none⟩) (n+m - (i+m)) dc,.slice (some ⟨g,i*6,none⟩) (n - i) sc]).run P W2 = .ok (goInt (n - i)) (W2.setRow N A):=fun ty dc sc=>by
  have:=dT_ (P:=P) W2 TS TS ty TE 6 N ((i+m)*6) (n+m - (i+m)) dc ⟨g,i*6,none⟩ (n - i) sc R1 TE mv uS hsz hN2 (by rw [hml];simp only [Nat.min_def];split<;>omega)
   (fun j v hj=>by
     have hj2:=(List.getElem?_eq_some_iff.1 hj).1
     rw [hmv2,List.getElem?_drop,List.getElem?_take_of_lt (by omega),Array.getElem?_toList] at hj
     rw [Addr.add_lit]
     simp only [World.cell?,hg2]
     exact hj) (by rw [hml,hR1s];omega) (fun v hv=>h1 v (by rw [hmv2] at hv;exact List.mem_of_mem_drop hv))
  rw [this,hA]
  congr 2
  simp only [Nat.min_def];split<;>omega
 have kA:Hid (n+m≤G∧G≤maxLen∧(W2.setRow N A).heap[w.heap.size]?=some (.cells A TE (0,0))∧A.size=G*6∧A.toList.take ((n+m)*6)=(cur.toList.take (n*6)).take (i*6)++us++(cur.toList.take (n*6)).drop (i*6)∧w.grownBy (W2.setRow N A) none):=by
  refine ⟨hGn,hGm,by rw [←hN];exact setRow_heap _ _ _ _ _ _ hN2,by rw [hA];simp [hml,hR1s];omega,?_,?_⟩
  · have e1:R1.toList.take ((i+m)*6)=olds++us:=by
     rw [hR1];simp only [List.toList_toArray]
     rw [List.take_append_of_le_length (by simp [hul2,hRl];omega),List.take_of_length_le (by simp [hul2,hRl];omega),hRt]
    rw [hA];simp only [List.toList_toArray]
    rw [e1,List.take_append_of_le_length (by simp [hol,hul2,hml];omega),List.take_of_length_le (by simp [hol,hul2,hml];omega),holds,hmv2]
  · refine ⟨by rw [hW2];exact hgr1.os,by rw [hW2];exact hgr1.tape,by rw [hW2];exact hgr1.output,?_,fun k hk hne => ?_⟩
    · have:(W2.setRow N A).heap.size=W1.heap.size:=by rw [hW2];simp [World.setRow,World.drew]
      rw [this];exact hgr1.size
    · rw [setRow_other _ _ _ _ (by omega),hW2]
      show (W1.setRow N R1).heap[k]?=_
      rw [setRow_other _ _ _ _ (by omega)];exact hold k hk
 exact ⟨G,N,W1,R1,W2,A,hN,hGn,hGm,hrz,hcp1,hW2.symm,hcp2,kA⟩
end
set_option maxRecDepth 1000000 in
theorem InsEnd124 (w:World) (S:Value) (n:Nat) (vals:List Value) (hS:w.ownsRow 0 134 6 S n vals) (gv m vc:Nat) (us:List Value) (hul:us.length=m*6) (hus:∀ j u,us[j]?=some u→w.cell? ⟨gv,j,none⟩=some u) (h1u:∀ v ∈ us,v.oneCell'=true) (hm:0<m) (hb:(n+m)*88≤140737488355328) :
  Calls Tryz.prog 124 #[S,.int .i64 n,.slice (some ⟨gv,0,none⟩) m vc] w fun e w'=>∃ R,e = .returned R∧w'.ownsRow 0 134 6 R (n+m) (vals++us)∧hr_ w w' (fun b=>dz_ S b≠0) ∧
   ∀ b,dz_ R b≠0→(w.heap.size≤b∨dz_ S b≠0)∧b<w'.heap.size:=by
 obtain ⟨i0,hi0⟩:=Option.isSome_iff_exists.1 (show (Tryz.prog.info? 134).isSome=true by kernel_rfl)
 have hz0:i0.size=6:=by
  have:(Tryz.prog.info? 134).map (·.size)=some 6:=by kernel_rfl
  rw [hi0] at this;simpa using this
 have hz1:i0.bytes=88:=by
  have:(Tryz.prog.info? 134).map (·.bytes)=some 88:=by kernel_rfl
  rw [hi0] at this;simpa using this
 have hz2:i0.zero=some (.agg #[.int .i64 0,.int .i64 0,.int .i64 0,.string ByteArray.empty,.slice none 0 0,.slice none 0 0]):=by
  have:(Tryz.prog.info? 134).bind (·.zero)=some (.agg #[.int .i64 0,.int .i64 0,.int .i64 0,.string ByteArray.empty,.slice none 0 0,.slice none 0 0]):=by kernel_rfl
  rw [hi0] at this;simpa using this
 have hz3:¬ ((m:Int)=0):=by omega
 have mixed:Tryz.prog.follows .mixedOrders=true:=by kernel_rfl
 have key:∀ ty,∃ v' w',(Builtin.append_ #[129,129] ty #[S,.slice (some ⟨gv,0,none⟩) m vc]).run Tryz.prog w = .ok v' w'∧w'.ownsRow 0 134 6 v' (n+m) (vals++us)∧hr_ w w' (fun b=>dz_ S b≠0) ∧
   ∀ b,dz_ v' b≠0→(w.heap.size≤b∨dz_ S b≠0)∧b<w'.heap.size:=fun ty=>by
  have:=eG_ (P:=Tryz.prog) w 129 ty 134 i0 _ Tryz.underlying129 hi0 hz2 (by rw [hz0];rfl) (by rw [hz0];decide) S n vals (by rw [hz0];exact hS) (.slice (some ⟨gv,0,none⟩) m vc) m us (by rw [hz0];exact hul) (.inl ⟨_,_,rfl,fun j u h=>by rw [Addr.add_lit,Nat.zero_add];exact hus j u h⟩) h1u (by unfold maxLen;omega) (by rw [hz1];exact hb)
  rw [hz0] at this
  exact this
 obtain ⟨v',w',k1,k2,k3⟩:=key 129
 rcases hS.2 with ⟨rfl,rfl⟩|⟨g,c,cur,rfl,-,hg,hnc,hcm,hcs,htake⟩
 · clear key hS hus hz2 hi0 hz0 hz1
   go_enter Tryz.func124,Tryz.ntmps124
   go_wp2_with (at_builtin;refine Lib.wpList_append_run _ rfl _ _ 129 129 rfl _ _ rfl rfl _ _ k1 ?_)
   go_ret
   exact ⟨_,rfl,k2,k3⟩
 · clear key hS hus hz2 hg htake hcs hi0 hz0 hz1
   unfold maxLen at hcm
   go_enter Tryz.func124,Tryz.ntmps124
   go_wp2_with (at_builtin;refine Lib.wpList_append_run _ rfl _ _ 129 129 rfl _ _ rfl rfl _ _ k1 ?_)
   all_goals (go_ret;exact ⟨_,rfl,k2,k3⟩)
set_option maxRecDepth 1000000 in
theorem px_ (w:World) (S:Value) (n i:Nat) (vals:List Value) (hS:w.ownsRow 0 134 6 S n vals) (U:Value) (us:List Value) (hU:w.ownsRow 0 134 6 U 0 us) (hi:i≤n) :
  Calls Tryz.prog 124 #[S,.int .i64 i,U] w fun e w'=>e = .returned S∧w'=w:=by
 rcases hS.2 with ⟨rfl,rfl⟩|⟨g,c,cur,rfl,-,hg,hnc,hcm,hcs,htake⟩
 · have hi0:i=0:=by omega
   subst hi0
   rcases hU.2 with ⟨rfl,-⟩|⟨gv,vc,curv,rfl,-,hgv,hmc,hcm,hcs,htake⟩
   · clear hS hU
     go_enter Tryz.func124,Tryz.ntmps124
     go_wp2_with fail
     go_ret
     exact ⟨rfl,rfl⟩
   · clear hS hU hgv hcs htake
     go_enter Tryz.func124,Tryz.ntmps124
     go_wp2_with fail
     go_ret
     exact ⟨rfl,rfl⟩
 · unfold maxLen at hcm
   have hic:i≤c:=by omega
   rcases hU.2 with ⟨rfl,-⟩|⟨gv,vc,curv,rfl,-,hgv,hmc,hcm2,hcs2,htake2⟩
   · clear hS hU hg hcs htake
     go_enter Tryz.func124,Tryz.ntmps124
     go_wp2_with fail
     all_goals (go_ret;exact ⟨rfl,rfl⟩)
   · clear hS hU hg hcs htake hgv hcs2 htake2
     go_enter Tryz.func124,Tryz.ntmps124
     go_wp2_with fail
     all_goals (go_ret;exact ⟨rfl,rfl⟩)
set_option maxRecDepth 1000000 in
theorem nQ_ (w:World) (g n c i:Nat) (cur:Array Value) (hg:w.heap[g]?=some (.cells cur 134 (0,0))) (hs:cur.size=c*6) (hc:c≤9223372036854775807) (hi:i<n)
  (gv m vc:Nat) (curv:Array Value) (Tv:TypeId) (hgv:w.heap[gv]?=some (.cells curv Tv (0,0))) (hmv:m*6≤curv.size) (hne:gv≠g) (us:List Value) (hul:us=curv.toList.take (m*6)) (h1u:∀ v ∈ us,v.oneCell'=true) (hm:0<m) (hroom:n+m≤c)
  (h1:∀ v ∈ cur.toList.take (n*6),v.oneCell'=true) :
  Calls Tryz.prog 124 #[.slice (some ⟨g,0,none⟩) n c,.int .i64 i,.slice (some ⟨gv,0,none⟩) m vc] w fun e w'=>e = .returned (.slice (some ⟨g,0,none⟩) (n+m) c) ∧
   ∃ A,w'=w.drew.setRow g A∧A.size=cur.size∧A.toList.take ((n+m)*6)=(cur.toList.take (n*6)).take (i*6)++us++(cur.toList.take (n*6)).drop (i*6):=by
 have hsz:(Tryz.prog.info? 134).map (·.size)=some 6:=by kernel_rfl
 have hul2:us.length=m*6:=by rw [hul,List.length_take,Array.length_toList];omega
 have hov:∀ lb cb,(callFunc 163 #[.slice (some ⟨gv,0,none⟩) m vc,.slice (some ⟨g,(i+m)*6,none⟩) lb cb]).run Tryz.prog w = .ok (.value (.bool false)) w:=fun lb cb=>by
  rw [run_callFunc_extern Tryz.func163 (by kernel_rfl) (by kernel_rfl) (by kernel_rfl) (e:=Extern.SlicesOverlaps.overlaps #[129,129] #[4]) (by kernel_rfl),
   Lib.run_overlaps_apart w 129 4 134 Tryz.underlying129 6 Tryz.sizeOf134 ⟨gv,0,none⟩ ⟨g,(i+m)*6,none⟩ m vc lb cb hne Tv 134 curv.size cur.size (by simp [World.shape?,hgv]) (by simp [World.shape?,hg]) (by omega) (by simp [World.frozen?,hgv]) (by simp [World.frozen?,hgv])]
  rfl
 obtain ⟨mv,hmv2⟩:∃ mv,mv=(cur.toList.take (n*6)).drop (i*6):=⟨_,rfl⟩
 have hml:mv.length=(n - i)*6:=by rw [hmv2];simp [hs];omega
 have hgd:w.drew.heap[g]?=some (.cells cur 134 (0,0)):=hg
 obtain ⟨B,hB⟩:∃ B,B=(cur.toList.take ((i+m)*6)++mv++cur.toList.drop ((i+m)*6+mv.length)).toArray:=⟨_,rfl⟩
 have hcp1:∀ ty dc sc,(Builtin.copy_ #[129,129] ty #[.slice (some ⟨g,(i+m)*6,none⟩) (n+m - (i+m)) dc,.slice (some ⟨g,i*6,none⟩) (n+m - i) sc]).run Tryz.prog w.drew = .ok (goInt (n - i)) (w.drew.setRow g B):=fun ty dc sc=>by
  have:=dT_ (P:=Tryz.prog) w.drew 129 129 ty 134 6 g ((i+m)*6) (n+m - (i+m)) dc ⟨g,i*6,none⟩ (n+m - i) sc cur 134 mv Tryz.underlying129 hsz hgd (by rw [hml];simp only [Nat.min_def];split<;>omega)
   (fun j v hj=>by
     have hj2:=(List.getElem?_eq_some_iff.1 hj).1
     rw [hmv2,List.getElem?_drop,List.getElem?_take_of_lt (by omega),Array.getElem?_toList] at hj
     rw [Addr.add_lit]
     simp only [World.cell?,hgd]
     exact hj) (by rw [hml,hs];omega) (fun v hv=>h1 v (by rw [hmv2] at hv;exact List.mem_of_mem_drop hv))
  rw [this,hB]
  congr 2
  simp only [Nat.min_def];split<;>omega
 have hBs:B.size=cur.size:=by rw [hB];simp [hml,hs];omega
 have hgB:(w.drew.setRow g B).heap[g]?=some (.cells B 134 (0,0)):=setRow_heap _ _ _ _ _ _ hgd
 obtain ⟨A,hA⟩:∃ A,A=(B.toList.take (i*6)++us++B.toList.drop (i*6+us.length)).toArray:=⟨_,rfl⟩
 have hcp2:∀ ty dc,(Builtin.copy_ #[129,129] ty #[.slice (some ⟨g,i*6,none⟩) (n+m - i) dc,.slice (some ⟨gv,0,none⟩) m vc]).run Tryz.prog (w.drew.setRow g B) = .ok (goInt m) (w.drew.setRow g A):=fun ty dc=>by
  have:=dT_ (P:=Tryz.prog) (w.drew.setRow g B) 129 129 ty 134 6 g (i*6) (n+m - i) dc ⟨gv,0,none⟩ m vc B 134 us Tryz.underlying129 hsz hgB (by rw [hul2];simp only [Nat.min_def];split<;>omega)
   (fun j v hj=>by
     have hj2:=(List.getElem?_eq_some_iff.1 hj).1
     rw [hul,List.getElem?_take_of_lt (by omega),Array.getElem?_toList] at hj
     rw [Addr.add_lit,Nat.zero_add]
     have e:(w.drew.setRow g B).heap[gv]?=some (.cells curv Tv (0,0)):=by rw [setRow_other _ _ _ _ hne];exact hgv
     simp only [World.cell?,e]
     exact hj) (by rw [hul2,hBs,hs];omega) h1u
  rw [this,hA,setRow_setRow]
  congr 2
  simp only [Nat.min_def];split<;>omega
 have kA:Hid (A.size=cur.size∧A.toList.take ((n+m)*6)=(cur.toList.take (n*6)).take (i*6)++us++mv):=by
  have e1:B.toList.take (i*6)=(cur.toList.take (n*6)).take (i*6):=by
   rw [hB];simp only [List.toList_toArray,List.append_assoc]
   rw [List.take_append_of_le_length (by simp [hs];omega),List.take_take,List.take_take]
   congr 1;omega
  have e2:(B.toList.drop (i*6+us.length)).take mv.length=mv:=by
   rw [hB];simp only [List.toList_toArray,List.append_assoc]
   rw [List.drop_append,List.drop_eq_nil_of_le (by simp [hul2,hs];omega),List.nil_append,List.length_take,show i*6+us.length - min ((i+m)*6) cur.toList.length=0 by simp [hul2,hs];omega,List.drop_zero,List.take_append_of_le_length (Nat.le_refl _),List.take_of_length_le (Nat.le_refl _)]
  refine ⟨by rw [hA];simp [hul2,hBs,hs];omega,?_⟩
  rw [hA];simp only [List.toList_toArray]
  rw [List.take_append,List.take_of_length_le (by simp [hul2,hBs,hs];omega),e1]
  congr 1
  rw [show (n+m)*6 - (List.take (i*6) (List.take (n*6) cur.toList)++us).length=mv.length by simp [hul2,hml,hs];omega]
  exact e2
 rw [hmv2] at kA
 have hnc:n≤c:=by omega
 have hic:i≤c:=by omega
 have hz1:¬ ((m:Int)=0):=by omega
 have hz2:¬ ((i:Int)=(n:Int)):=by omega
 have mixed:Tryz.prog.follows .mixedOrders=true:=by kernel_rfl
 have hw1:IntKind.i64.wrap ((i:Int)+(m:Int))=(i:Int)+(m:Int):=by rw [IntKind.wrap_i64];omega
 have hb1:(0:Int)≤(i:Int)+(m:Int):=by omega
 have hin:i≤n:=by omega
 have htn:((i:Int)+(m:Int)).toNat=i+m:=by omega
 have hb2:¬ (c=i+m):=by omega
 have hb3:(i:Int)≤(n:Int)+(m:Int):=by omega
 have hb4:¬ (c=i):=by omega
 clear hB hBs hgB hA hmv2 hml hgd hg hgv hul hul2 h1 h1u hsz hs hmv
 go_enter Tryz.func124,Tryz.ntmps124
 go_wp2_with (simp only [hov])
 go_region_law_o (refine ej_ rfl _ _ 129 129 rfl _ _ (by simp [Act.eval,Act.put]) (by simp [Act.eval,Act.put]) (hcp1 _ _ _) ?_)
 go_wp2_with (at_builtin;refine e3_ _ rfl _ _ 129 129 rfl _ _ rfl rfl (hcp2 _ _) ?_)
 go_ret
 exact ⟨rfl,A,rfl,kA.out.1,kA.out.2⟩
set_option maxRecDepth 1000000 in
theorem pA_ (w:World) (g n c i:Nat) (cur:Array Value) (hg:w.heap[g]?=some (.cells cur 134 (0,0))) (hs:cur.size=c*6) (hnc:n≤c) (hi:i<n)
  (gv m vc:Nat) (curv:Array Value) (Tv:TypeId) (hgv:w.heap[gv]?=some (.cells curv Tv (0,0))) (hmv:m*6≤curv.size) (us:List Value) (hul:us=curv.toList.take (m*6)) (h1u:∀ v ∈ us,v.oneCell'=true) (hm:0<m) (hroom:c<n+m)
  (hbig:(n+m)*88≤140737488355328) (h1:∀ v ∈ cur.toList.take (n*6),v.oneCell'=true) :
  Calls Tryz.prog 124 #[.slice (some ⟨g,0,none⟩) n c,.int .i64 i,.slice (some ⟨gv,0,none⟩) m vc] w fun e w'=>∃ C A,e = .returned (.slice (some ⟨w.heap.size,0,none⟩) (n+m) C)∧n+m≤C∧C≤maxLen ∧
   w'.heap[w.heap.size]?=some (.cells A 134 (0,0))∧A.size=C*6∧A.toList.take ((n+m)*6)=(cur.toList.take (n*6)).take (i*6)++us++(cur.toList.take (n*6)).drop (i*6)∧w.grownBy w' none:=by
 obtain ⟨i0,hi0⟩:=Option.isSome_iff_exists.1 (show (Tryz.prog.info? 134).isSome=true by kernel_rfl)
 have hz0:i0.size=6:=by
  have:(Tryz.prog.info? 134).map (·.size)=some 6:=by kernel_rfl
  rw [hi0] at this;simpa using this
 have hz1:i0.bytes=88:=by
  have:(Tryz.prog.info? 134).map (·.bytes)=some 88:=by kernel_rfl
  rw [hi0] at this;simpa using this
 have hz2:i0.zero=some (.agg #[.int .i64 0,.int .i64 0,.int .i64 0,.string ByteArray.empty,.slice none 0 0,.slice none 0 0]):=by
  have:(Tryz.prog.info? 134).bind (·.zero)=some (.agg #[.int .i64 0,.int .i64 0,.int .i64 0,.string ByteArray.empty,.slice none 0 0,.slice none 0 0]):=by kernel_rfl
  rw [hi0] at this;simpa using this
 obtain ⟨G,N,W1,R1,W2,A,hNN,hGn,hGm,hrz,hcp1,hW2',hcp2,kA⟩:=o6_ 129 134 3 _ i0 Tryz.underlying129 Tryz.underlying3 hi0 hz2 hz0 hz1 rfl w g n c i cur hg hs hnc hi gv m vc curv Tv hgv hmv us hul h1u hm hroom hbig h1
 have hic:i≤c:=by omega
 have hz3:¬ ((m:Int)=0):=by omega
 have hz4:¬ ((i:Int)=(n:Int)):=by omega
 have hz5:(c:Int)<(n:Int)+(m:Int):=by omega
 have mixed:Tryz.prog.follows .mixedOrders=true:=by kernel_rfl
 have hG63:G≤9223372036854775807:=by unfold maxLen at hGm;omega
 have hw1:IntKind.i64.wrap ((n:Int)+(m:Int))=(n:Int)+(m:Int):=by rw [IntKind.wrap_i64];omega
 have hw2:IntKind.i64.wrap ((n:Int)+(m:Int) - (i:Int))=(n:Int)+(m:Int) - (i:Int):=by rw [IntKind.wrap_i64];omega
 have hw3:IntKind.i64.wrap ((i:Int)+(m:Int))=(i:Int)+(m:Int):=by rw [IntKind.wrap_i64];omega
 have hb1:(0:Int)≤(i:Int)+(m:Int):=by omega
 have htn:((i:Int)+(m:Int)).toNat=i+m:=by omega
 have hGi:¬ (G=i):=by omega
 have hGim:¬ (G=i+m):=by omega
 have hb3:(i:Int)≤(n:Int)+(m:Int):=by omega
 have hb4:¬ (c=i):=by omega
 have hinm:i≤n+m:=by omega
 have himn:i+m≤n+m:=by omega
 have hin:i≤n:=by omega
 clear hul h1 h1u hg hgv hs hmv hz0 hz1 hz2 hi0 hbig
 go_enter Tryz.func124,Tryz.ntmps124
 go_wp2_with (at_builtin;refine Lib.wpList_append_run _ rfl _ _ 129 3 rfl _ _ rfl rfl _ _ (hrz _) ?_)
 go_region_law_o (simp only [hW2'];refine ej_ rfl _ _ 129 129 rfl _ _ (by simp [Act.eval,Act.put]) (by simp [Act.eval,Act.put]) (hcp2 _ _ _) ?_)
 go_wp2_with fail
 go_ret
 exact ⟨G,A,by rw [hNN.out];rfl,kA.out⟩
theorem insM124:InsM Tryz.prog 124 134 6 88:=by
 intro w S n vals U m us i hS hU hdis hi h1 h1u hb
 have hvl:=hS.1
 by_cases hm:m=0
 · subst hm
   have hus:us=[]:=by have:=hU.1;rw [Nat.zero_mul] at this;exact List.eq_nil_of_length_eq_zero this
   subst hus
   refine (px_ w S n i vals hS U [] hU hi).mono ?_
   rintro e w' ⟨rfl,rfl⟩
   refine ⟨S,rfl,by rw [List.append_nil,List.take_append_drop];exact hS,⟨rfl,rfl,rfl,Nat.le_refl _,fun _ _ _=>rfl⟩,fun b hb=>⟨.inr hb,k1_ hS b hb⟩⟩
 · rcases hU.2 with ⟨rfl,h0⟩|⟨gv,vc,curv,rfl,-,hgv,hmc,hcm,hcs,htake⟩
   · exact absurd h0 hm
   · by_cases hin:i=n
     · subst hin
       rw [List.take_of_length_le (by omega),List.drop_eq_nil_of_le (by omega),List.append_nil]
       exact InsEnd124 w S i vals hS gv m vc us hU.1 (fun j u h=>by have:=hU.cells (g:=gv) rfl j u h;rwa [Addr.add_lit,Nat.zero_add] at this) h1u (by omega) hb
     · rcases hS.2 with ⟨rfl,h0⟩|⟨g,c,cur,rfl,-,hg,hnc,hcm',hcs',htake'⟩
       · omega
       · have hne:gv≠g:=fun e=>by subst e;have:=hdis gv (by simp [dz_]);simp [dz_] at this
         have hmv:m*6≤curv.size:=by rw [hcs];exact Nat.mul_le_mul_right _ hmc
         by_cases hroom:n+m≤c
         · refine (nQ_ w g n c i cur hg hcs' (by unfold maxLen at hcm';omega) (by omega) gv m vc curv 134 hgv hmv hne us htake.symm h1u (by omega) hroom (by rw [htake'];exact h1)).mono ?_
           rintro e w' ⟨rfl,A,rfl,hA,ht⟩
           rw [htake'] at ht
           have hgd:w.drew.heap[g]?=some (.cells cur 134 (0,0)):=hg
           have hA2:=setRow_heap w.drew g cur A _ _ hgd
           refine ⟨_,rfl,⟨by rw [←ht];simp [hA,hcs'];omega,.inr ⟨g,c,A,rfl,Nat.zero_le _,hA2,hroom,hcm',by rw [hA,hcs'],ht⟩⟩,⟨rfl,rfl,rfl,hY_ w g A,fun b _ hn => ?_⟩,fun b hb=>⟨.inr hb,?_⟩⟩
           · rw [setRow_other _ _ _ _ (fun e=>hn (by subst e;simp [dz_]))];rfl
           · have:g=b:=by simp only [dz_] at hb;exact Classical.byContradiction fun h=>hb (if_neg h)
             subst this
             exact (Array.getElem?_eq_some_iff.1 hA2).1
         · refine (pA_ w g n c i cur hg hcs' hnc (by omega) gv m vc curv 134 hgv hmv us htake.symm h1u (by omega) (by omega) hb (by rw [htake'];exact h1)).mono ?_
           rintro e w' ⟨C,A,rfl,hC,hCm,hN,hA,ht,hgr⟩
           rw [htake'] at ht
           refine ⟨_,rfl,⟨by rw [←ht];simp [hA];omega,.inr ⟨_,C,A,rfl,Nat.zero_le _,hN,hC,hCm,hA,ht⟩⟩,⟨hgr.os,hgr.tape,hgr.output,hgr.size,fun b hb _=>hgr.block b hb (by simp)⟩,fun b hb => ?_⟩
           have:w.heap.size=b:=by simp only [dz_] at hb;exact Classical.byContradiction fun h=>hb (if_neg h)
           subst this
           exact ⟨.inl (Nat.le_refl _),(Array.getElem?_eq_some_iff.1 hN).1⟩
end Go.Proofs
namespace Go.Pi
open Go.Proofs
theorem bn_.ok (n:Nat) (_:CxOk E (cx n bn_.d.nt)) (_:KPar (cx n bn_.d.nt)):bn_.d.Ok E (bn_.F (n+1)):=fun _ _ h=>nc_ (t:=.ikeyed) (m1:=.s) (m2:=.s) (by decide) (by decide) insM124 h
end Go.Pi
end
section
namespace Go.Proofs
open Go.Shelf
def Tryz.laysM171_ren:Go.Shelf.Ren:=⟨fun|171=>157|243=>176|246=>191|283=>202|284=>203|285=>204|286=>205|129=>215|317=>214|318=>216|319=>217|320=>218|337=>225|338=>226|n=>n,fun|3=>3|9=>9|2=>2|4=>4|171=>190|0=>0|53=>191|37=>141|5=>5|173=>194|212=>204|51=>205|20=>20|213=>206|46=>185|232=>217|233=>218|n=>n,fun|17=>0|18=>4|19=>5|n=>n⟩
theorem Tryz.laysM171:Go.Proofs.LaysM.n171 Tryz.prog Tryz.laysM171_ren:={
 mixed:=by kernel_rfl
 f129:=Tryz.func215.trans (congrArg some (by kernel_rfl))
 f171:=Tryz.func157.trans (congrArg some (by kernel_rfl))
 f243:=Tryz.func176.trans (congrArg some (by kernel_rfl))
 f246:=Tryz.func191.trans (congrArg some (by kernel_rfl))
 f283:=Tryz.func202.trans (congrArg some (by kernel_rfl))
 f284:=Tryz.func203.trans (congrArg some (by kernel_rfl))
 f285:=Tryz.func204.trans (congrArg some (by kernel_rfl))
 f286:=Tryz.func205.trans (congrArg some (by kernel_rfl))
 f317:=Tryz.func214.trans (congrArg some (by kernel_rfl))
 f318:=Tryz.func216.trans (congrArg some (by kernel_rfl))
 f319:=Tryz.func217.trans (congrArg some (by kernel_rfl))
 f320:=Tryz.func218.trans (congrArg some (by kernel_rfl))
 f337:=Tryz.func225.trans (congrArg some (by kernel_rfl))
 f338:=Tryz.func226.trans (congrArg some (by kernel_rfl))
 t0:=Tryz.underlying0
 a0:=Tryz.isAgg0
 z0:=Tryz.sizeOf0
 v0:=Tryz.zeroValue0
 t2:=Tryz.underlying2
 a2:=Tryz.isAgg2
 z2:=Tryz.sizeOf2
 v2:=Tryz.zeroValue2
 t3:=Tryz.underlying3
 a3:=Tryz.isAgg3
 z3:=Tryz.sizeOf3
 v3:=Tryz.zeroValue3
 t4:=Tryz.underlying4
 a4:=Tryz.isAgg4
 z4:=Tryz.sizeOf4
 v4:=Tryz.zeroValue4
 t5:=Tryz.underlying5
 a5:=Tryz.isAgg5
 z5:=Tryz.sizeOf5
 v5:=Tryz.zeroValue5
 t9:=Tryz.underlying9
 a9:=Tryz.isAgg9
 z9:=Tryz.sizeOf9
 v9:=Tryz.zeroValue9
 t20:=Tryz.underlying20
 a20:=Tryz.isAgg20
 z20:=Tryz.sizeOf20
 v20:=Tryz.zeroValue20
 t37:=Tryz.underlying141
 a37:=Tryz.isAgg141
 z37:=Tryz.sizeOf141
 v37:=Tryz.zeroValue141
 t46:=Tryz.underlying185
 a46:=Tryz.isAgg185
 z46:=Tryz.sizeOf185
 v46:=Tryz.zeroValue185
 t51:=Tryz.underlying205
 a51:=Tryz.isAgg205
 z51:=Tryz.sizeOf205
 v51:=Tryz.zeroValue205
 t53:=Tryz.underlying191
 a53:=Tryz.isAgg191
 z53:=Tryz.sizeOf191
 v53:=Tryz.zeroValue191
 t171:=Tryz.underlying190
 a171:=Tryz.isAgg190
 z171:=Tryz.sizeOf190
 v171:=Tryz.zeroValue190
 t173:=Tryz.underlying194
 a173:=Tryz.isAgg194
 z173:=Tryz.sizeOf194
 v173:=Tryz.zeroValue194
 t212:=Tryz.underlying204
 a212:=Tryz.isAgg204
 z212:=Tryz.sizeOf204
 v212:=Tryz.zeroValue204
 t213:=Tryz.underlying206
 a213:=Tryz.isAgg206
 z213:=Tryz.sizeOf206
 t232:=Tryz.underlying217
 a232:=Tryz.isAgg217
 z232:=Tryz.sizeOf217
 v232:=Tryz.zeroValue217
 t233:=Tryz.underlying218
 a233:=Tryz.isAgg218
 z233:=Tryz.sizeOf218
 v233:=Tryz.zeroValue218
 g17:=by kernel_rfl
 g18:=by kernel_rfl
 g19:=by kernel_rfl
 i0:=by kernel_rfl
 i2:=by kernel_rfl
 i3:=by kernel_rfl
 i4:=by kernel_rfl
 i5:=by kernel_rfl
 i9:=by kernel_rfl
 i20:=by kernel_rfl
 i37:=by kernel_rfl
 i46:=by kernel_rfl
 i51:=by kernel_rfl
 i53:=by kernel_rfl
 i171:=by kernel_rfl
 i173:=by kernel_rfl
 i212:=by kernel_rfl
 i232:=by kernel_rfl
 i233:=by kernel_rfl
 m17:=by kernel_rfl
 m18:=by kernel_rfl
 m19:=by kernel_rfl }
open Go.RowKit Go.Sort Go.Lib in
theorem Tryz.strconv_Itoa (n:Int) (h0 : -9223372036854775808≤n) (h1:n≤9223372036854775807) (w:World) (htab:Lib.TabIs Tryz.prog w "internal/strconv.uint64pow10" .u64 Lib.pow10Tab) :
  Calls Tryz.prog 157 #[.int .i64 n] w fun e w'=>e = .returned (.string ⟨(Lib.itoa n).toArray⟩)∧∃ k os,w'=grow (w.drewN k) os:=Any.strconv_Itoa Tryz.laysM171 n h0 h1 w htab
end Go.Proofs
namespace Go.Pi
open Go.Proofs
theorem jD_:E.P.globalNamed "internal/strconv.uint64pow10" = some 0:=by kernel_rfl
theorem strconv_Itoa.ok (n:Nat) (_:CxOk E (cx n strconv_Itoa.d.nt)) (_:KPar (cx n strconv_Itoa.d.nt)):strconv_Itoa.d.Ok E (strconv_Itoa.F (n+1)):=fun _ _ h=>nItoa_ok (fun n h0 h1 w ht=>Tryz.strconv_Itoa n h0 h1 w ht) (.head _) jD_ h
end Go.Pi
end
section
namespace Go.Pi
open Go.RowKit
def JoinM (P:Program) (f:FuncId):Prop :=
 (∀ (a:Option Addr) (c:Nat) (sep:ByteArray) (w:World),Calls P f #[.slice a 0 c,.string sep] w fun e w'=>e = .returned (.string ⟨#[]⟩)∧w'=w) ∧
 ∀ (bk o c:Nat) (xs:List ByteArray) (sep:ByteArray) (w:World),(∀ (j:Nat) x,xs[j]?=some x→w.cell? ⟨bk,o+j,none⟩=some (.string x))→bk<w.heap.size→xs.length≤140737488355328→xs.length≤c →
   (Lib.join (xs.map (·.data.toList)) sep.data.toList).length≤140737488355328→Calls P f #[.slice (some ⟨bk,o,none⟩) xs.length c,.string sep] w fun e w'=>e = .returned (.string ⟨(Lib.join (xs.map (·.data.toList)) sep.data.toList).toArray⟩)∧Below w.heap.size w w'
def ReplM (P:Program) (f:FuncId) (g:Nat):Prop:=∀ (s old new:ByteArray) (m:Int) (w:World),s.size<4294967281→w.cell? ⟨g,0,none⟩=some (.int .i64 m)→1≤old.size→s.size+Lib.count s.data.toList old.data.toList*new.size≤140737488355328 →
 Calls P f #[.string s,.string old,.string new] w fun e w'=>e = .returned (.string ⟨(Lib.replaceAll s.data.toList old.data.toList new.data.toList).toArray⟩)∧Below w.heap.size w w'
variable [an_]
open an_
variable {E:Env}
theorem lM_ {w:World} {F:Nat→Prop} (hs:∀ x:El .str,enc .v .str x=[.s x]):∀ (xs:List (El .str)) (vals:List Value) (z:Nat→Nat),RL E w F (bJ_ .v .str xs) vals z→vals=List.map (fun x:Bs=>Value.string ⟨x.toArray⟩) xs
 |[],vals,z,h=>(RL.nil_inv (show RL E w F [] vals z from h)).1
 |x::xs,vals,z,h=>by
  have h:RL E w F (enc .v .str x++bJ_ .v .str xs) vals z:=by simpa [bJ_] using h
  rw [hs,List.singleton_append] at h
  obtain ⟨v,vs,φ₁,φ₂,rfl,k1,k2,_⟩:=RL.uncons h
  have e:=lM_ hs xs vs φ₂ k2
  have e1:v = .string ⟨x.toArray⟩:=by
   cases k1 with
   |scal _ _ _ _ _ h1 h2=>exact h1
  subst e1
  exact congrArg (List.cons _) e
omit [an_] in
theorem data_toList (x:Bs):(⟨x.toArray⟩:ByteArray).data.toList=x:=rfl
theorem k3_ [ap_] {w w':World} {F:Nat→Prop} {φ:Nat→Nat} {r:Bs} {ps:List PS} {Vs:List Value} (hp:PS.outsAll ps Vs=[]) (h:Below w.heap.size w w') :
  ∃ V φ',Ending.returned (.string ⟨r.toArray⟩) = .returned V∧RL E w' (fun b=>(F b∧φ b=0)∨φ' b≠0) (.s r::[]) (V::PS.outsAll ps Vs) φ'∧(∀ b,φ' b≤1)∧(∀ b,φ' b≠0→φ b≠0∨w.heap.size≤b) ∧
    w'.os=w.os∧w'.tape=w.tape∧w'.output=w.output∧w.heap.size≤w'.heap.size∧∀ b,b<w.heap.size→φ b=0→w'.heap[b]?=w.heap[b]? :=
 ⟨_,fun _=>0,rfl,by rw [hp];exact .scal _ _ _ _ _ rfl (.nil _ fun _=>rfl),fun _=>Nat.zero_le _,fun b hb=>absurd rfl hb,h.os,h.tape,h.output,h.size,fun b hb _=>h.block b hb⟩
omit [an_] in
theorem oY_ {xs:List Bs} {sep r:Bs} (hr:nJoin xs sep=some r):xs.length≤140737488355328∧(Lib.join xs sep).length≤140737488355328∧r=Lib.join xs sep:=by
 unfold nJoin at hr
 by_cases h1:xs.length≤140737488355328
 · by_cases h2:(Lib.join xs sep).length≤140737488355328
   · rw [decide_eq_true h1,decide_eq_true h2] at hr
     exact ⟨h1,h2,(Option.some.inj hr).symm⟩
   · rw [decide_eq_false h2,Bool.and_false] at hr;cases hr
 · rw [decide_eq_false h1,Bool.false_and] at hr;cases hr
omit [an_] in
theorem join_view {P:Program} {f:FuncId} (h:JoinM P f) {xs:List Bs} {sep:Bs} {w:World} {b o cap:Nat} (hra:w.rangeAt b o (xs.map fun x=>Value.string ⟨x.toArray⟩)) (hlt:b<w.heap.size) (h1:xs.length≤140737488355328) (hcap:xs.length≤cap) (h2:(Lib.join xs sep).length≤140737488355328) :
  Calls P f #[.slice (some ⟨b,o,none⟩) xs.length cap,.string ⟨sep.toArray⟩] w fun e w'=>e = .returned (.string ⟨(Lib.join xs sep).toArray⟩)∧Below w.heap.size w w':=by
 have hm:(xs.map (fun x:Bs=>(⟨x.toArray⟩:ByteArray))).map (·.data.toList)=xs:=by
  rw [List.map_map];exact List.map_id _
 have hlen:(xs.map (fun x:Bs=>(⟨x.toArray⟩:ByteArray))).length=xs.length:=List.length_map _
 have:=h.2 b o cap (xs.map (fun x:Bs=>(⟨x.toArray⟩:ByteArray))) ⟨sep.toArray⟩ w (fun j x hj=>hra j _ (by
  rw [List.getElem?_map]
  rw [List.getElem?_map] at hj
  cases hx:xs[j]? with
  |none=>rw [hx] at hj;cases hj
  |some y=>rw [hx] at hj;cases hj;rfl)) hlt (by rw [hlen];exact h1) (by rw [hlen];exact hcap) (by rw [hm];exact h2)
 rw [hm,hlen] at this
 exact this
theorem nJoin_ok [ap_] {f:FuncId} (h:JoinM E.P f) (hs:∀ x:El .str,enc .v .str x=[.s x]) {xs:List (El .str)} {sep r:Bs} (hr:nJoin xs sep=some r):eE_ E f [.sl .v .str xs,.s sep] (.s r) [] [.v,.v]:=by
 obtain ⟨hc1,hc2,rfl⟩:=oY_ hr
 intro w F Vs φ hrl h1 hlow hgl
 obtain ⟨v,vs,φ₁,φ₂,rfl,k1,k2,e⟩:=RL.uncons hrl
 obtain ⟨v2,vs2,φ₃,φ₄,rfl,k3,k4,e'⟩:=RL.uncons k2
 obtain ⟨rfl,e2⟩:=RL.nil_inv k4
 have e3:v2 = .string ⟨sep.toArray⟩:=by
  cases k3 with
  |scal _ _ _ _ _ h1 h2=>exact h1
 subst e3
 cases k1 with
 |scal _ _ _ _ _ hsc _=>exact hsc.elim
 |own m t xs v vals φ₁ l vs φ₂ φ hm=>exact absurd rfl hm
 |view t xs a n cap vals z l vs φ hn hel hz hb _=>
  obtain ⟨rfl,hcap⟩:=hn
  by_cases h0:0<xs.length
  · obtain ⟨b,o,rfl,hra,hlt,hF⟩:=hb h0
    have hv:=lM_ hs xs vals z hel
    subst hv
    have:=join_view h (xs:=xs) (sep:=sep) hra hlt hc1 hcap hc2
    refine this.mono ?_
    rintro e w' ⟨rfl,hbel⟩
    exact k3_ rfl hbel
  · have hx:xs=[]:=List.eq_nil_of_length_eq_zero (by omega)
    subst hx
    refine (h.1 a cap ⟨sep.toArray⟩ w).mono ?_
    rintro e w' ⟨rfl,rfl⟩
    exact k3_ rfl (Below.refl _ _)
omit [an_] in
theorem glob_int {w:World} {F:Nat→Prop} (h:Glob E w F) {g:Nat} (hm:(g,fun cs=>∃ m,cs[0]?=some (Value.int .i64 m)) ∈ E.globs):∃ m,w.cell? ⟨g,0,none⟩=some (.int .i64 m):=by
 obtain ⟨⟨cs,T,fr,h1,hc⟩,_⟩:=h _ hm
 obtain ⟨m,hm⟩:∃ m,cs[0]?=some (Value.int .i64 m):=hc
 refine ⟨m,?_⟩
 unfold World.cell?
 simp only [h1]
 exact hm
omit [an_] in
theorem int_glob {w:World} {g:Nat} {m:Int} (h:w.cell? ⟨g,0,none⟩=some (.int .i64 m)):∃ cs T fr,w.heap[g]?=some (.cells cs T fr)∧∃ m,cs[0]?=some (Value.int .i64 m):=by
 unfold World.cell? at h
 split at h
 · rename_i cs T fr hh
   exact ⟨cs,T,fr,hh,m,h⟩
 · cases h
theorem nRepl_ok [ap_] {f:FuncId} {g:Nat} (h:ReplM E.P f g) (hm:(g,fun cs=>∃ m,cs[0]?=some (Value.int .i64 m)) ∈ E.globs) {s old new r:Bs} (hr:fY_ s old new=some r):eE_ E f [.s s,.s old,.s new] (.s r) [] [.v,.v,.v]:=by
 unfold fY_ at hr
 by_cases hc:s.length<4294967281∧1≤old.length∧s.length+Lib.count s old*new.length≤140737488355328
 · rw [decide_eq_true hc.1,decide_eq_true hc.2.1,decide_eq_true hc.2.2] at hr
   simp only [Bool.and_self,cond_true,Option.some.injEq] at hr
   subst hr
   intro w F Vs φ hrl h1 hlow hgl
   obtain ⟨v,vs,φ₁,φ₂,rfl,k1,k2,e⟩:=RL.uncons hrl
   obtain ⟨v2,vs2,φ₃,φ₄,rfl,k3,k4,e'⟩:=RL.uncons k2
   obtain ⟨v3,vs3,φ₅,φ₆,rfl,k5,k6,e''⟩:=RL.uncons k4
   obtain ⟨rfl,e2⟩:=RL.nil_inv k6
   have e1:v = .string ⟨s.toArray⟩:=by
    cases k1 with
    |scal _ _ _ _ _ h1 h2=>exact h1
   have e3:v2 = .string ⟨old.toArray⟩:=by
    cases k3 with
    |scal _ _ _ _ _ h1 h2=>exact h1
   have e4:v3 = .string ⟨new.toArray⟩:=by
    cases k5 with
    |scal _ _ _ _ _ h1 h2=>exact h1
   subst e1 e3 e4
   obtain ⟨m,hmv⟩:=glob_int hgl hm
   refine (h ⟨s.toArray⟩ ⟨old.toArray⟩ ⟨new.toArray⟩ m w hc.1 hmv hc.2.1 hc.2.2).mono ?_
   rintro e w' ⟨rfl,hbel⟩
   exact k3_ rfl hbel
 · have:(decide (s.length<4294967281)&&(decide (1≤old.length)&&decide (s.length+Lib.count s old*new.length≤140737488355328)))=false:=by
    rw [Bool.eq_false_iff];intro h;simp only [Bool.and_eq_true,decide_eq_true_eq] at h;exact hc h
   rw [this] at hr;cases hr
end Go.Pi
end
section
namespace Go.Proofs
open Go.Shelf
def Tryz.lays156_ren:Go.Shelf.Ren:=⟨fun|156=>158|165=>177|166=>178|169=>179|240=>192|241=>193|276=>206|277=>207|n=>n,fun|31=>43|9=>9|3=>3|4=>4|0=>0|20=>20|72=>168|76=>172|70=>166|37=>141|75=>171|127=>183|164=>196|5=>5|80=>174|n=>n,fun|n=>n⟩
theorem Tryz.lays156:Go.Proofs.Lays.n156 Tryz.prog Tryz.lays156_ren:={
 mixed:=by kernel_rfl
 f156:=Tryz.func158.trans (congrArg some (by kernel_rfl))
 f165:=Tryz.func177.trans (congrArg some (by kernel_rfl))
 f166:=Tryz.func178.trans (congrArg some (by kernel_rfl))
 f169:=Tryz.func179.trans (congrArg some (by kernel_rfl))
 f240:=Tryz.func192.trans (congrArg some (by kernel_rfl))
 f241:=Tryz.func193.trans (congrArg some (by kernel_rfl))
 f276:=Tryz.func206.trans (congrArg some (by kernel_rfl))
 f277:=Tryz.func207.trans (congrArg some (by kernel_rfl))
 t0:=Tryz.underlying0
 a0:=Tryz.isAgg0
 z0:=Tryz.sizeOf0
 v0:=Tryz.zeroValue0
 t3:=Tryz.underlying3
 a3:=Tryz.isAgg3
 z3:=Tryz.sizeOf3
 v3:=Tryz.zeroValue3
 t4:=Tryz.underlying4
 a4:=Tryz.isAgg4
 z4:=Tryz.sizeOf4
 v4:=Tryz.zeroValue4
 t9:=Tryz.underlying9
 a9:=Tryz.isAgg9
 z9:=Tryz.sizeOf9
 v9:=Tryz.zeroValue9
 t20:=Tryz.underlying20
 a20:=Tryz.isAgg20
 z20:=Tryz.sizeOf20
 v20:=Tryz.zeroValue20
 t31:=Tryz.underlying43
 a31:=Tryz.isAgg43
 z31:=Tryz.sizeOf43
 v31:=Tryz.zeroValue43
 t37:=Tryz.underlying141
 a37:=Tryz.isAgg141
 z37:=Tryz.sizeOf141
 v37:=Tryz.zeroValue141
 t70:=Tryz.underlying166
 a70:=Tryz.isAgg166
 z70:=Tryz.sizeOf166
 v70:=Tryz.zeroValue166
 t72:=Tryz.underlying168
 a72:=Tryz.isAgg168
 z72:=Tryz.sizeOf168
 v72:=Tryz.zeroValue168
 t75:=Tryz.underlying171
 a75:=Tryz.isAgg171
 z75:=Tryz.sizeOf171
 v75:=Tryz.zeroValue171
 t76:=Tryz.underlying172
 a76:=Tryz.isAgg172
 z76:=Tryz.sizeOf172
 v76:=Tryz.zeroValue172
 t127:=Tryz.underlying183
 a127:=Tryz.isAgg183
 z127:=Tryz.sizeOf183
 v127:=Tryz.zeroValue183
 t164:=Tryz.underlying196
 a164:=Tryz.isAgg196
 z164:=Tryz.sizeOf196
 v164:=Tryz.zeroValue196 }
theorem Tryz.Builder_Extra_156:Builder.Extra Tryz.prog Tryz.lays156_ren:={
 sizeBuilder:=by kernel_rfl
 liesBuilder:=by kernel_rfl
 t5:=Tryz.underlying5
 a5:=Tryz.isAgg5
 z5:=Tryz.sizeOf5
 v5:=Tryz.zeroValue5
 infoByte:=by kernel_rfl
 cellsByte:=by kernel_rfl
 sizeByte:=by kernel_rfl
 neB5:=by decide }
open Go.RowKit Go.Sort Go.Lib in
theorem Tryz.strings_Join_none (a:Option Addr) (c:Nat) (sep:ByteArray) (w:World) :
  Calls Tryz.prog 158 #[.slice a 0 c,.string sep] w fun e w'=>e = .returned (.string ⟨#[]⟩)∧w'=w:=Any.strings_Join_none Tryz.lays156 Tryz.Builder_Extra_156 a c sep w
open Go.RowKit Go.Sort Go.Lib in
theorem Tryz.strings_Join (bk o c:Nat) (xs:List ByteArray) (sep:ByteArray) (w:World) (hcells:∀ (j:Nat) x,xs[j]?=some x→w.cell? ⟨bk,o+j,none⟩=some (.string x)) (hbk:bk<w.heap.size) (hN:xs.length≤140737488355328) (hcap:xs.length≤c) (hlen:(Lib.join (xs.map (·.data.toList)) sep.data.toList).length≤140737488355328) :
  Calls Tryz.prog 158 #[.slice (some ⟨bk,o,none⟩) xs.length c,.string sep] w fun e w'=>e = .returned (.string ⟨(Lib.join (xs.map (·.data.toList)) sep.data.toList).toArray⟩)∧Below w.heap.size w w':=Any.strings_Join Tryz.lays156 Tryz.Builder_Extra_156 bk o c xs sep w hcells hbk hN hcap hlen
end Go.Proofs
namespace Go.Pi
open Go.Proofs
theorem strings_Join.ok (n:Nat) (_:CxOk E (cx n strings_Join.d.nt)) (_:KPar (cx n strings_Join.d.nt)):strings_Join.d.Ok E (strings_Join.F (n+1)):=fun _ _ h=>nJoin_ok ⟨fun a c sep w=>Tryz.strings_Join_none a c sep w,fun bk o c xs sep w h1 h2 h3 h4 h5=>Tryz.strings_Join bk o c xs sep w h1 h2 h3 h4 h5⟩ (fun _=>rfl) h
end Go.Pi
end
section
namespace Go.Proofs
open Go.Shelf Go.RowKit Go.Lib Go.Pi
section
variable {P:Program}
theorem o5_ (TS TE:TypeId) (TI:TypeId) (Z:Value) (i0:TypeInfo) (uS:P.underlying TS=some (.slice TE)) (uI:P.underlying TI=some (.int .i64)) (hi0:P.info? TE=some i0) (hz2:i0.zero=some Z) (hz0:i0.size=1) (hz1:i0.bytes=16) (hZK:Z.cells.size=1)
  (w:World) (g n c i:Nat) (cur:Array Value) (hg:w.heap[g]?=some (.cells cur TE (0,0))) (hs:cur.size=c) (hnc:n≤c) (hi:i<n)
  (gv m vc:Nat) (curv:Array Value) (Tv:TypeId) (hgv:w.heap[gv]?=some (.cells curv Tv (0,0))) (hmv:m≤curv.size) (us:List Value) (hul:us=curv.toList.take (m)) (h1u:∀ v ∈ us,v.oneCell'=true) (hm:0<m) (hroom:c<n+m)
  (hbig:(n+m)*16≤140737488355328) (h1:∀ v ∈ cur.toList.take (n),v.oneCell'=true) :
  ∃ G N W1 R1 W2 A,Hid (N=w.heap.size)∧n+m≤G∧G≤maxLen ∧
    (∀ ty,(Builtin.append_ #[TS,TI] ty #[.slice (some ⟨g,0,none⟩) i c,.int .i64 ((n:Int)+(m:Int) - (i:Int))]).run P w = .ok (.slice (some ⟨N,0,none⟩) (n+m) G) W1) ∧
    (∀ ty dc,(Builtin.copy_ #[TS,TS] ty #[.slice (some ⟨N,i,none⟩) (n+m - i) dc,.slice (some ⟨gv,0,none⟩) m vc]).run P W1 = .ok (goInt m) (W1.setRow N R1)) ∧
    (W1.setRow N R1).drew=W2 ∧
    (∀ ty dc sc,(Builtin.copy_ #[TS,TS] ty #[.slice (some ⟨N,(i+m),none⟩) (n+m - (i+m)) dc,.slice (some ⟨g,i,none⟩) (n - i) sc]).run P W2 = .ok (goInt (n - i)) (W2.setRow N A)) ∧
    Hid (n+m≤G∧G≤maxLen∧(W2.setRow N A).heap[w.heap.size]?=some (.cells A TE (0,0))∧A.size=G∧A.toList.take ((n+m))=(cur.toList.take (n)).take (i)++us++(cur.toList.take (n)).drop (i)∧w.grownBy (W2.setRow N A) none):=by
 have hul2:us.length=m:=by rw [hul,List.length_take,Array.length_toList];omega
 have hsz:(P.info? TE).map (·.size)=some 1:=by rw [hi0];simp [hz0]
 have hgd:w.drew.heap[g]?=some (.cells cur TE (0,0)):=hg
 have hgl:g<w.heap.size:=(Array.getElem?_eq_some_iff.1 hg).1
 have hgvl:gv<w.heap.size:=(Array.getElem?_eq_some_iff.1 hgv).1
 obtain ⟨olds,holds⟩:∃ olds,olds=(cur.toList.take (n)).take (i):=⟨_,rfl⟩
 have hol:olds.length=i:=by rw [holds];simp [hs];omega
 obtain ⟨G,hG⟩:∃ G,G=grownCap w (n+m) c TE:=⟨_,rfl⟩
 have hGn:n+m≤G:=by rw [hG];exact grownCap_ge w _ _ _
 have hGm:G≤maxLen:=by rw [hG];exact grownCap_le_maxLen w (n+m) c TE (by unfold maxLen;omega)
 obtain ⟨ROW,hROW⟩:∃ ROW:Array Value,ROW=olds.toArray++Builtin.zeroCells Z.cells (n+m - i)++Builtin.zeroCells Z.cells (G - (n+m)):=⟨_,rfl⟩
 have hRl:ROW.size=G:=by rw [hROW];simp [Builtin.zeroCells,hol,hZK];omega
 have hRt:ROW.toList.take (i)=olds:=by
  rw [hROW];simp only [Array.toList_append,List.append_assoc]
  rw [List.take_append_of_le_length (by simp [hol]),List.take_of_length_le (by simp [hol])]
 have hkk:(n:Int)+(m:Int) - (i:Int)=((n+m - i:Nat):Int):=by omega
 have hrz:∀ ty,(Builtin.append_ #[TS,TI] ty #[.slice (some ⟨g,0,none⟩) i c,.int .i64 ((n:Int)+(m:Int) - (i:Int))]).run P w =
   .ok (.slice (some ⟨w.heap.size,0,none⟩) (n+m) G) (w.drew.alloc (.cells ROW TE)):=fun ty=>by
  have h:=Lib.run_append_grow_zeros (P:=P) w TS TI ty TE i0 _ .i64 .i64 uS uI hi0 hz2 (some ⟨g,0,none⟩) i c olds (by
   rw [hz0]
   exact run_firstCells_some w.drew 1 i ⟨g,0,none⟩ i c olds (by rw [Nat.mul_one];exact hol) (fun j v hj=>by
    have hj2:=(List.getElem?_eq_some_iff.1 hj).1
    rw [holds,List.getElem?_take_of_lt (by omega),List.getElem?_take_of_lt (by omega),Array.getElem?_toList] at hj
    rw [Addr.add_lit,Nat.zero_add]
    simp only [World.cell?,hgd]
    exact hj)) (n+m - i) (by omega) (by omega) (by omega) (by omega) (by rw [hz1];omega) (by rw [hz1,show i+(n+m - i)=n+m by omega];exact growslice_fits hroom hbig)
  rw [show i+(n+m - i)=n+m by omega,←hG,←hROW] at h
  rw [hkk]
  exact h
 obtain ⟨N,hN⟩:∃ N,N=w.heap.size:=⟨_,rfl⟩
 rw [←hN] at hrz
 obtain ⟨W1,hW1⟩:∃ W1,W1=w.drew.alloc (.cells ROW TE):=⟨_,rfl⟩
 rw [←hW1] at hrz
 have hN1:W1.heap[N]?=some (.cells ROW TE (0,0)):=by rw [hW1,hN];exact heap_alloc_new w.drew _
 have hold:∀ b,b<w.heap.size→W1.heap[b]?=w.heap[b]?:=fun b hb=>by rw [hW1];exact heap_alloc_old w.drew _ hb
 have hgr1:w.grownBy W1 none:=by rw [hW1];exact ⟨rfl,rfl,rfl,by simp,fun k hk _=>heap_alloc_old w.drew _ hk⟩
 obtain ⟨R1,hR1⟩:∃ R1,R1=(ROW.toList.take (i)++us++ROW.toList.drop (i+us.length)).toArray:=⟨_,rfl⟩
 have hR1s:R1.size=G:=by rw [hR1];simp [hul2,hRl];omega
 have hcp1:∀ ty dc,(Builtin.copy_ #[TS,TS] ty #[.slice (some ⟨N,i,none⟩) (n+m - i) dc,.slice (some ⟨gv,0,none⟩) m vc]).run P W1 = .ok (goInt m) (W1.setRow N R1):=fun ty dc=>by
  have:=dT_ (P:=P) W1 TS TS ty TE 1 N (i) (n+m - i) dc ⟨gv,0,none⟩ m vc ROW TE us uS hsz hN1 (by rw [hul2];simp only [Nat.min_def];split<;>omega)
   (fun j v hj=>by
     have hj2:=(List.getElem?_eq_some_iff.1 hj).1
     rw [hul,List.getElem?_take_of_lt (by omega),Array.getElem?_toList] at hj
     rw [Addr.add_lit,Nat.zero_add]
     simp only [World.cell?,hold gv hgvl,hgv]
     exact hj) (by rw [hul2,hRl];omega) h1u
  rw [this,hR1]
  congr 2
  simp only [Nat.min_def];split<;>omega
 obtain ⟨W2,hW2⟩:∃ W2,W2=(W1.setRow N R1).drew:=⟨_,rfl⟩
 have hN2:W2.heap[N]?=some (.cells R1 TE (0,0)):=by rw [hW2];exact setRow_heap _ _ _ _ _ _ hN1
 have hg2:W2.heap[g]?=some (.cells cur TE (0,0)):=by
  rw [hW2];show (W1.setRow N R1).heap[g]?=_
  rw [setRow_other _ _ _ _ (by omega),hold g hgl];exact hg
 obtain ⟨mv,hmv2⟩:∃ mv,mv=(cur.toList.take (n)).drop (i):=⟨_,rfl⟩
 have hml:mv.length=(n - i):=by rw [hmv2];simp [hs];omega
 obtain ⟨A,hA⟩:∃ A,A=(R1.toList.take ((i+m))++mv++R1.toList.drop ((i+m)+mv.length)).toArray:=⟨_,rfl⟩
 have hcp2:∀ ty dc sc,(Builtin.copy_ #[TS,TS] ty #[.slice (some ⟨N,(i+m),none⟩) (n+m - (i+m)) dc,.slice (some ⟨g,i,none⟩) (n - i) sc]).run P W2 = .ok (goInt (n - i)) (W2.setRow N A):=fun ty dc sc=>by
  have:=dT_ (P:=P) W2 TS TS ty TE 1 N ((i+m)) (n+m - (i+m)) dc ⟨g,i,none⟩ (n - i) sc R1 TE mv uS hsz hN2 (by rw [hml];simp only [Nat.min_def];split<;>omega)
   (fun j v hj=>by
     have hj2:=(List.getElem?_eq_some_iff.1 hj).1
     rw [hmv2,List.getElem?_drop,List.getElem?_take_of_lt (by omega),Array.getElem?_toList] at hj
     rw [Addr.add_lit]
     simp only [World.cell?,hg2]
     exact hj) (by rw [hml,hR1s];omega) (fun v hv=>h1 v (by rw [hmv2] at hv;exact List.mem_of_mem_drop hv))
  rw [this,hA]
  congr 2
  simp only [Nat.min_def];split<;>omega
 have kA:Hid (n+m≤G∧G≤maxLen∧(W2.setRow N A).heap[w.heap.size]?=some (.cells A TE (0,0))∧A.size=G∧A.toList.take ((n+m))=(cur.toList.take (n)).take (i)++us++(cur.toList.take (n)).drop (i)∧w.grownBy (W2.setRow N A) none):=by
  refine ⟨hGn,hGm,by rw [←hN];exact setRow_heap _ _ _ _ _ _ hN2,by rw [hA];simp [hml,hR1s];omega,?_,?_⟩
  · have e1:R1.toList.take ((i+m))=olds++us:=by
     rw [hR1];simp only [List.toList_toArray]
     rw [List.take_append_of_le_length (by simp [hul2,hRl];omega),List.take_of_length_le (by simp [hul2,hRl];omega),hRt]
    rw [hA];simp only [List.toList_toArray]
    rw [e1,List.take_append_of_le_length (by simp [hol,hul2,hml];omega),List.take_of_length_le (by simp [hol,hul2,hml];omega),holds,hmv2]
  · refine ⟨by rw [hW2];exact hgr1.os,by rw [hW2];exact hgr1.tape,by rw [hW2];exact hgr1.output,?_,fun k hk hne => ?_⟩
    · have:(W2.setRow N A).heap.size=W1.heap.size:=by rw [hW2];simp [World.setRow,World.drew]
      rw [this];exact hgr1.size
    · rw [setRow_other _ _ _ _ (by omega),hW2]
      show (W1.setRow N R1).heap[k]?=_
      rw [setRow_other _ _ _ _ (by omega)];exact hold k hk
 exact ⟨G,N,W1,R1,W2,A,hN,hGn,hGm,hrz,hcp1,hW2.symm,hcp2,kA⟩
end
set_option maxRecDepth 1000000 in
theorem InsEnd187 (w:World) (S:Value) (n:Nat) (vals:List Value) (hS:w.ownsRow 0 9 1 S n vals) (gv m vc:Nat) (us:List Value) (hul:us.length=m) (hus:∀ j u,us[j]?=some u→w.cell? ⟨gv,j,none⟩=some u) (h1u:∀ v ∈ us,v.oneCell'=true) (hm:0<m) (hb:(n+m)*16≤140737488355328) :
  Calls Tryz.prog 187 #[S,.int .i64 n,.slice (some ⟨gv,0,none⟩) m vc] w fun e w'=>∃ R,e = .returned R∧w'.ownsRow 0 9 1 R (n+m) (vals++us)∧hr_ w w' (fun b=>dz_ S b≠0) ∧
   ∀ b,dz_ R b≠0→(w.heap.size≤b∨dz_ S b≠0)∧b<w'.heap.size:=by
 obtain ⟨i0,hi0⟩:=Option.isSome_iff_exists.1 (show (Tryz.prog.info? 9).isSome=true by kernel_rfl)
 have hz0:i0.size=1:=by
  have:(Tryz.prog.info? 9).map (·.size)=some 1:=by kernel_rfl
  rw [hi0] at this;simpa using this
 have hz1:i0.bytes=16:=by
  have:(Tryz.prog.info? 9).map (·.bytes)=some 16:=by kernel_rfl
  rw [hi0] at this;simpa using this
 have hz2:i0.zero=some (.string ByteArray.empty):=by
  have:(Tryz.prog.info? 9).bind (·.zero)=some (.string ByteArray.empty):=by kernel_rfl
  rw [hi0] at this;simpa using this
 have hz3:¬ ((m:Int)=0):=by omega
 have mixed:Tryz.prog.follows .mixedOrders=true:=by kernel_rfl
 have key:∀ ty,∃ v' w',(Builtin.append_ #[43,43] ty #[S,.slice (some ⟨gv,0,none⟩) m vc]).run Tryz.prog w = .ok v' w'∧w'.ownsRow 0 9 1 v' (n+m) (vals++us)∧hr_ w w' (fun b=>dz_ S b≠0) ∧
   ∀ b,dz_ v' b≠0→(w.heap.size≤b∨dz_ S b≠0)∧b<w'.heap.size:=fun ty=>by
  have:=eG_ (P:=Tryz.prog) w 43 ty 9 i0 _ Tryz.underlying43 hi0 hz2 (by rw [hz0];rfl) (by rw [hz0];decide) S n vals (by rw [hz0];exact hS) (.slice (some ⟨gv,0,none⟩) m vc) m us (by rw [hz0,Nat.mul_one];exact hul) (.inl ⟨_,_,rfl,fun j u h=>by rw [Addr.add_lit,Nat.zero_add];exact hus j u h⟩) h1u (by unfold maxLen;omega) (by rw [hz1];exact hb)
  rw [hz0] at this
  exact this
 obtain ⟨v',w',k1,k2,k3⟩:=key 43
 rcases (eq_.1 hS).2 with ⟨rfl,rfl⟩|⟨g,c,cur,rfl,-,hg,hnc,hcm,hcs,htake⟩
 · clear key hS hus hz2 hi0 hz0 hz1
   go_enter Tryz.func187,Tryz.ntmps187
   go_wp2_with (at_builtin;refine Lib.wpList_append_run _ rfl _ _ 43 43 rfl _ _ rfl rfl _ _ k1 ?_)
   go_ret
   exact ⟨_,rfl,k2,k3⟩
 · clear key hS hus hz2 hg htake hcs hi0 hz0 hz1
   unfold maxLen at hcm
   go_enter Tryz.func187,Tryz.ntmps187
   go_wp2_with (at_builtin;refine Lib.wpList_append_run _ rfl _ _ 43 43 rfl _ _ rfl rfl _ _ k1 ?_)
   all_goals (go_ret;exact ⟨_,rfl,k2,k3⟩)
set_option maxRecDepth 1000000 in
theorem pw_ (w:World) (S:Value) (n i:Nat) (vals:List Value) (hS:w.ownsRow 0 9 1 S n vals) (U:Value) (us:List Value) (hU:w.ownsRow 0 9 1 U 0 us) (hi:i≤n) :
  Calls Tryz.prog 187 #[S,.int .i64 i,U] w fun e w'=>e = .returned S∧w'=w:=by
 rcases (eq_.1 hS).2 with ⟨rfl,rfl⟩|⟨g,c,cur,rfl,-,hg,hnc,hcm,hcs,htake⟩
 · have hi0:i=0:=by omega
   subst hi0
   rcases (eq_.1 hU).2 with ⟨rfl,-⟩|⟨gv,vc,curv,rfl,-,hgv,hmc,hcm,hcs,htake⟩
   · clear hS hU
     go_enter Tryz.func187,Tryz.ntmps187
     go_wp2_with fail
     go_ret
     exact ⟨rfl,rfl⟩
   · clear hS hU hgv hcs htake
     go_enter Tryz.func187,Tryz.ntmps187
     go_wp2_with fail
     go_ret
     exact ⟨rfl,rfl⟩
 · unfold maxLen at hcm
   have hic:i≤c:=by omega
   rcases (eq_.1 hU).2 with ⟨rfl,-⟩|⟨gv,vc,curv,rfl,-,hgv,hmc,hcm2,hcs2,htake2⟩
   · clear hS hU hg hcs htake
     go_enter Tryz.func187,Tryz.ntmps187
     go_wp2_with fail
     all_goals (go_ret;exact ⟨rfl,rfl⟩)
   · clear hS hU hg hcs htake hgv hcs2 htake2
     go_enter Tryz.func187,Tryz.ntmps187
     go_wp2_with fail
     all_goals (go_ret;exact ⟨rfl,rfl⟩)
set_option maxRecDepth 1000000 in
theorem nP_ (w:World) (g n c i:Nat) (cur:Array Value) (hg:w.heap[g]?=some (.cells cur 9 (0,0))) (hs:cur.size=c) (hc:c≤9223372036854775807) (hi:i<n)
  (gv m vc:Nat) (curv:Array Value) (Tv:TypeId) (hgv:w.heap[gv]?=some (.cells curv Tv (0,0))) (hmv:m≤curv.size) (hne:gv≠g) (us:List Value) (hul:us=curv.toList.take (m)) (h1u:∀ v ∈ us,v.oneCell'=true) (hm:0<m) (hroom:n+m≤c)
  (h1:∀ v ∈ cur.toList.take (n),v.oneCell'=true) :
  Calls Tryz.prog 187 #[.slice (some ⟨g,0,none⟩) n c,.int .i64 i,.slice (some ⟨gv,0,none⟩) m vc] w fun e w'=>e = .returned (.slice (some ⟨g,0,none⟩) (n+m) c) ∧
   ∃ A,w'=w.drew.setRow g A∧A.size=cur.size∧A.toList.take ((n+m))=(cur.toList.take (n)).take (i)++us++(cur.toList.take (n)).drop (i):=by
 have hsz:(Tryz.prog.info? 9).map (·.size)=some 1:=by kernel_rfl
 have hul2:us.length=m:=by rw [hul,List.length_take,Array.length_toList];omega
 have hov:∀ lb cb,(callFunc 197 #[.slice (some ⟨gv,0,none⟩) m vc,.slice (some ⟨g,(i+m),none⟩) lb cb]).run Tryz.prog w = .ok (.value (.bool false)) w:=fun lb cb=>by
  rw [run_callFunc_extern Tryz.func197 (by kernel_rfl) (by kernel_rfl) (by kernel_rfl) (e:=Extern.SlicesOverlaps.overlaps #[43,43] #[4]) (by kernel_rfl),
   Lib.run_overlaps_apart w 43 4 9 Tryz.underlying43 1 Tryz.sizeOf9 ⟨gv,0,none⟩ ⟨g,(i+m),none⟩ m vc lb cb hne Tv 9 curv.size cur.size (by simp [World.shape?,hgv]) (by simp [World.shape?,hg]) (by omega) (by simp [World.frozen?,hgv]) (by simp [World.frozen?,hgv])]
  rfl
 obtain ⟨mv,hmv2⟩:∃ mv,mv=(cur.toList.take (n)).drop (i):=⟨_,rfl⟩
 have hml:mv.length=(n - i):=by rw [hmv2];simp [hs];omega
 have hgd:w.drew.heap[g]?=some (.cells cur 9 (0,0)):=hg
 obtain ⟨B,hB⟩:∃ B,B=(cur.toList.take ((i+m))++mv++cur.toList.drop ((i+m)+mv.length)).toArray:=⟨_,rfl⟩
 have hcp1:∀ ty dc sc,(Builtin.copy_ #[43,43] ty #[.slice (some ⟨g,(i+m),none⟩) (n+m - (i+m)) dc,.slice (some ⟨g,i,none⟩) (n+m - i) sc]).run Tryz.prog w.drew = .ok (goInt (n - i)) (w.drew.setRow g B):=fun ty dc sc=>by
  have:=dT_ (P:=Tryz.prog) w.drew 43 43 ty 9 1 g ((i+m)) (n+m - (i+m)) dc ⟨g,i,none⟩ (n+m - i) sc cur 9 mv Tryz.underlying43 hsz hgd (by rw [hml];simp only [Nat.min_def];split<;>omega)
   (fun j v hj=>by
     have hj2:=(List.getElem?_eq_some_iff.1 hj).1
     rw [hmv2,List.getElem?_drop,List.getElem?_take_of_lt (by omega),Array.getElem?_toList] at hj
     rw [Addr.add_lit]
     simp only [World.cell?,hgd]
     exact hj) (by rw [hml,hs];omega) (fun v hv=>h1 v (by rw [hmv2] at hv;exact List.mem_of_mem_drop hv))
  rw [this,hB]
  congr 2
  simp only [Nat.min_def];split<;>omega
 have hBs:B.size=cur.size:=by rw [hB];simp [hml,hs];omega
 have hgB:(w.drew.setRow g B).heap[g]?=some (.cells B 9 (0,0)):=setRow_heap _ _ _ _ _ _ hgd
 obtain ⟨A,hA⟩:∃ A,A=(B.toList.take (i)++us++B.toList.drop (i+us.length)).toArray:=⟨_,rfl⟩
 have hcp2:∀ ty dc,(Builtin.copy_ #[43,43] ty #[.slice (some ⟨g,i,none⟩) (n+m - i) dc,.slice (some ⟨gv,0,none⟩) m vc]).run Tryz.prog (w.drew.setRow g B) = .ok (goInt m) (w.drew.setRow g A):=fun ty dc=>by
  have:=dT_ (P:=Tryz.prog) (w.drew.setRow g B) 43 43 ty 9 1 g (i) (n+m - i) dc ⟨gv,0,none⟩ m vc B 9 us Tryz.underlying43 hsz hgB (by rw [hul2];simp only [Nat.min_def];split<;>omega)
   (fun j v hj=>by
     have hj2:=(List.getElem?_eq_some_iff.1 hj).1
     rw [hul,List.getElem?_take_of_lt (by omega),Array.getElem?_toList] at hj
     rw [Addr.add_lit,Nat.zero_add]
     have e:(w.drew.setRow g B).heap[gv]?=some (.cells curv Tv (0,0)):=by rw [setRow_other _ _ _ _ hne];exact hgv
     simp only [World.cell?,e]
     exact hj) (by rw [hul2,hBs,hs];omega) h1u
  rw [this,hA,setRow_setRow]
  congr 2
  simp only [Nat.min_def];split<;>omega
 have kA:Hid (A.size=cur.size∧A.toList.take ((n+m))=(cur.toList.take (n)).take (i)++us++mv):=by
  have e1:B.toList.take (i)=(cur.toList.take (n)).take (i):=by
   rw [hB];simp only [List.toList_toArray,List.append_assoc]
   rw [List.take_append_of_le_length (by simp [hs];omega),List.take_take,List.take_take]
   congr 1;omega
  have e2:(B.toList.drop (i+us.length)).take mv.length=mv:=by
   rw [hB];simp only [List.toList_toArray,List.append_assoc]
   rw [List.drop_append,List.drop_eq_nil_of_le (by simp [hul2,hs];omega),List.nil_append,List.length_take,show i+us.length - min ((i+m)) cur.toList.length=0 by simp [hul2,hs];omega,List.drop_zero,List.take_append_of_le_length (Nat.le_refl _),List.take_of_length_le (Nat.le_refl _)]
  refine ⟨by rw [hA];simp [hul2,hBs,hs];omega,?_⟩
  rw [hA];simp only [List.toList_toArray]
  rw [List.take_append,List.take_of_length_le (by simp [hul2,hBs,hs];omega),e1]
  congr 1
  rw [show (n+m) - (List.take (i) (List.take (n) cur.toList)++us).length=mv.length by simp [hul2,hml,hs];omega]
  exact e2
 rw [hmv2] at kA
 have hnc:n≤c:=by omega
 have hic:i≤c:=by omega
 have hz1:¬ ((m:Int)=0):=by omega
 have hz2:¬ ((i:Int)=(n:Int)):=by omega
 have mixed:Tryz.prog.follows .mixedOrders=true:=by kernel_rfl
 have hw1:IntKind.i64.wrap ((i:Int)+(m:Int))=(i:Int)+(m:Int):=by rw [IntKind.wrap_i64];omega
 have hb1:(0:Int)≤(i:Int)+(m:Int):=by omega
 have hin:i≤n:=by omega
 have htn:((i:Int)+(m:Int)).toNat=i+m:=by omega
 have hb2:¬ (c=i+m):=by omega
 have hb3:(i:Int)≤(n:Int)+(m:Int):=by omega
 have hb4:¬ (c=i):=by omega
 clear hB hBs hgB hA hmv2 hml hgd hg hgv hul hul2 h1 h1u hsz hs hmv
 go_enter Tryz.func187,Tryz.ntmps187
 go_wp2_with (simp only [hov])
 go_region_law_o (refine ej_ rfl _ _ 43 43 rfl _ _ (by simp [Act.eval,Act.put]) (by simp [Act.eval,Act.put]) (hcp1 _ _ _) ?_)
 go_wp2_with (at_builtin;refine e3_ _ rfl _ _ 43 43 rfl _ _ rfl rfl (hcp2 _ _) ?_)
 go_ret
 exact ⟨rfl,A,rfl,kA.out.1,kA.out.2⟩
set_option maxRecDepth 1000000 in
theorem pz_ (w:World) (g n c i:Nat) (cur:Array Value) (hg:w.heap[g]?=some (.cells cur 9 (0,0))) (hs:cur.size=c) (hnc:n≤c) (hi:i<n)
  (gv m vc:Nat) (curv:Array Value) (Tv:TypeId) (hgv:w.heap[gv]?=some (.cells curv Tv (0,0))) (hmv:m≤curv.size) (us:List Value) (hul:us=curv.toList.take (m)) (h1u:∀ v ∈ us,v.oneCell'=true) (hm:0<m) (hroom:c<n+m)
  (hbig:(n+m)*16≤140737488355328) (h1:∀ v ∈ cur.toList.take (n),v.oneCell'=true) :
  Calls Tryz.prog 187 #[.slice (some ⟨g,0,none⟩) n c,.int .i64 i,.slice (some ⟨gv,0,none⟩) m vc] w fun e w'=>∃ C A,e = .returned (.slice (some ⟨w.heap.size,0,none⟩) (n+m) C)∧n+m≤C∧C≤maxLen ∧
   w'.heap[w.heap.size]?=some (.cells A 9 (0,0))∧A.size=C∧A.toList.take ((n+m))=(cur.toList.take (n)).take (i)++us++(cur.toList.take (n)).drop (i)∧w.grownBy w' none:=by
 obtain ⟨i0,hi0⟩:=Option.isSome_iff_exists.1 (show (Tryz.prog.info? 9).isSome=true by kernel_rfl)
 have hz0:i0.size=1:=by
  have:(Tryz.prog.info? 9).map (·.size)=some 1:=by kernel_rfl
  rw [hi0] at this;simpa using this
 have hz1:i0.bytes=16:=by
  have:(Tryz.prog.info? 9).map (·.bytes)=some 16:=by kernel_rfl
  rw [hi0] at this;simpa using this
 have hz2:i0.zero=some (.string ByteArray.empty):=by
  have:(Tryz.prog.info? 9).bind (·.zero)=some (.string ByteArray.empty):=by kernel_rfl
  rw [hi0] at this;simpa using this
 obtain ⟨G,N,W1,R1,W2,A,hNN,hGn,hGm,hrz,hcp1,hW2',hcp2,kA⟩:=o5_ 43 9 3 _ i0 Tryz.underlying43 Tryz.underlying3 hi0 hz2 hz0 hz1 rfl w g n c i cur hg hs hnc hi gv m vc curv Tv hgv hmv us hul h1u hm hroom hbig h1
 have hic:i≤c:=by omega
 have hz3:¬ ((m:Int)=0):=by omega
 have hz4:¬ ((i:Int)=(n:Int)):=by omega
 have hz5:(c:Int)<(n:Int)+(m:Int):=by omega
 have mixed:Tryz.prog.follows .mixedOrders=true:=by kernel_rfl
 have hG63:G≤9223372036854775807:=by unfold maxLen at hGm;omega
 have hw1:IntKind.i64.wrap ((n:Int)+(m:Int))=(n:Int)+(m:Int):=by rw [IntKind.wrap_i64];omega
 have hw2:IntKind.i64.wrap ((n:Int)+(m:Int) - (i:Int))=(n:Int)+(m:Int) - (i:Int):=by rw [IntKind.wrap_i64];omega
 have hw3:IntKind.i64.wrap ((i:Int)+(m:Int))=(i:Int)+(m:Int):=by rw [IntKind.wrap_i64];omega
 have hb1:(0:Int)≤(i:Int)+(m:Int):=by omega
 have htn:((i:Int)+(m:Int)).toNat=i+m:=by omega
 have hGi:¬ (G=i):=by omega
 have hGim:¬ (G=i+m):=by omega
 have hb3:(i:Int)≤(n:Int)+(m:Int):=by omega
 have hb4:¬ (c=i):=by omega
 have hinm:i≤n+m:=by omega
 have himn:i+m≤n+m:=by omega
 have hin:i≤n:=by omega
 clear hul h1 h1u hg hgv hs hmv hz0 hz1 hz2 hi0 hbig
 go_enter Tryz.func187,Tryz.ntmps187
 go_wp2_with (at_builtin;refine Lib.wpList_append_run _ rfl _ _ 43 3 rfl _ _ rfl rfl _ _ (hrz _) ?_)
 go_region_law_o (simp only [hW2'];refine ej_ rfl _ _ 43 43 rfl _ _ (by simp [Act.eval,Act.put]) (by simp [Act.eval,Act.put]) (hcp2 _ _ _) ?_)
 go_wp2_with fail
 go_ret
 exact ⟨G,A,by rw [hNN.out];rfl,kA.out⟩
theorem insM187:InsM Tryz.prog 187 9 1 16:=by
 intro w S n vals U m us i hS hU hdis hi h1 h1u hb
 simp only [Nat.mul_one]
 have hvl:=(eq_.1 hS).1
 by_cases hm:m=0
 · subst hm
   have hus:us=[]:=by have:=(eq_.1 hU).1;(try rw [Nat.zero_mul] at this);exact List.eq_nil_of_length_eq_zero this
   subst hus
   refine (pw_ w S n i vals hS U [] hU hi).mono ?_
   rintro e w' ⟨rfl,rfl⟩
   refine ⟨S,rfl,by rw [List.append_nil,List.take_append_drop];exact hS,⟨rfl,rfl,rfl,Nat.le_refl _,fun _ _ _=>rfl⟩,fun b hb=>⟨.inr hb,k1_ hS b hb⟩⟩
 · rcases (eq_.1 hU).2 with ⟨rfl,h0⟩|⟨gv,vc,curv,rfl,-,hgv,hmc,hcm,hcs,htake⟩
   · exact absurd h0 hm
   · by_cases hin:i=n
     · subst hin
       rw [List.take_of_length_le (by omega),List.drop_eq_nil_of_le (by omega),List.append_nil]
       exact InsEnd187 w S i vals hS gv m vc us (eq_.1 hU).1 (fun j u h=>by have:=hU.cells (g:=gv) rfl j u h;rwa [Addr.add_lit,Nat.zero_add] at this) h1u (by omega) hb
     · rcases (eq_.1 hS).2 with ⟨rfl,h0⟩|⟨g,c,cur,rfl,-,hg,hnc,hcm',hcs',htake'⟩
       · omega
       · have hne:gv≠g:=fun e=>by subst e;have:=hdis gv (by simp [dz_]);simp [dz_] at this
         have hmv:m≤curv.size:=by rw [hcs];exact hmc
         by_cases hroom:n+m≤c
         · refine (nP_ w g n c i cur hg hcs' (by unfold maxLen at hcm';omega) (by omega) gv m vc curv 9 hgv hmv hne us htake.symm h1u (by omega) hroom (by rw [htake'];exact h1)).mono ?_
           rintro e w' ⟨rfl,A,rfl,hA,ht⟩
           rw [htake'] at ht
           have hgd:w.drew.heap[g]?=some (.cells cur 9 (0,0)):=hg
           have hA2:=setRow_heap w.drew g cur A _ _ hgd
           refine ⟨_,rfl,eq_.2 ⟨by rw [←ht];simp [hA,hcs'];omega,.inr ⟨g,c,A,rfl,Nat.zero_le _,hA2,hroom,hcm',by rw [hA,hcs'],ht⟩⟩,⟨rfl,rfl,rfl,hY_ w g A,fun b _ hn => ?_⟩,fun b hb=>⟨.inr hb,?_⟩⟩
           · rw [setRow_other _ _ _ _ (fun e=>hn (by subst e;simp [dz_]))];rfl
           · have:g=b:=by simp only [dz_] at hb;exact Classical.byContradiction fun h=>hb (if_neg h)
             subst this
             exact (Array.getElem?_eq_some_iff.1 hA2).1
         · refine (pz_ w g n c i cur hg hcs' hnc (by omega) gv m vc curv 9 hgv hmv us htake.symm h1u (by omega) (by omega) hb (by rw [htake'];exact h1)).mono ?_
           rintro e w' ⟨C,A,rfl,hC,hCm,hN,hA,ht,hgr⟩
           rw [htake'] at ht
           refine ⟨_,rfl,eq_.2 ⟨by rw [←ht];simp [hA];omega,.inr ⟨_,C,A,rfl,Nat.zero_le _,hN,hC,hCm,hA,ht⟩⟩,⟨hgr.os,hgr.tape,hgr.output,hgr.size,fun b hb _=>hgr.block b hb (by simp)⟩,fun b hb => ?_⟩
           have:w.heap.size=b:=by simp only [dz_] at hb;exact Classical.byContradiction fun h=>hb (if_neg h)
           subst this
           exact ⟨.inl (Nat.le_refl _),(Array.getElem?_eq_some_iff.1 hN).1⟩
end Go.Proofs
namespace Go.Pi
open Go.Proofs
theorem bK_.ok (n:Nat) (_:CxOk E (cx n bK_.d.nt)) (_:KPar (cx n bK_.d.nt)):bK_.d.Ok E (bK_.F (n+1)):=fun _ _ h=>nc_ (t:=.str) (m1:=.d) (m2:=.d) (by decide) (by decide) insM187 h
end Go.Pi
end
section
namespace Go.Proofs
open Go.Shelf Go.RowKit Go.Lib Go.Pi
section
variable {P:Program}
theorem o4_ (TS TE:TypeId) (TI:TypeId) (Z:Value) (i0:TypeInfo) (uS:P.underlying TS=some (.slice TE)) (uI:P.underlying TI=some (.int .i64)) (hi0:P.info? TE=some i0) (hz2:i0.zero=some Z) (hz0:i0.size=5) (hz1:i0.bytes=80) (hZK:Z.cells.size=5)
  (w:World) (g n c i:Nat) (cur:Array Value) (hg:w.heap[g]?=some (.cells cur TE (0,0))) (hs:cur.size=c*5) (hnc:n≤c) (hi:i<n)
  (gv m vc:Nat) (curv:Array Value) (Tv:TypeId) (hgv:w.heap[gv]?=some (.cells curv Tv (0,0))) (hmv:m*5≤curv.size) (us:List Value) (hul:us=curv.toList.take (m*5)) (h1u:∀ v ∈ us,v.oneCell'=true) (hm:0<m) (hroom:c<n+m)
  (hbig:(n+m)*80≤140737488355328) (h1:∀ v ∈ cur.toList.take (n*5),v.oneCell'=true) :
  ∃ G N W1 R1 W2 A,Hid (N=w.heap.size)∧n+m≤G∧G≤maxLen ∧
    (∀ ty,(Builtin.append_ #[TS,TI] ty #[.slice (some ⟨g,0,none⟩) i c,.int .i64 ((n:Int)+(m:Int) - (i:Int))]).run P w = .ok (.slice (some ⟨N,0,none⟩) (n+m) G) W1) ∧
    (∀ ty dc,(Builtin.copy_ #[TS,TS] ty #[.slice (some ⟨N,i*5,none⟩) (n+m - i) dc,.slice (some ⟨gv,0,none⟩) m vc]).run P W1 = .ok (goInt m) (W1.setRow N R1)) ∧
    (W1.setRow N R1).drew=W2 ∧
    (∀ ty dc sc,(Builtin.copy_ #[TS,TS] ty #[.slice (some ⟨N,(i+m)*5,none⟩) (n+m - (i+m)) dc,.slice (some ⟨g,i*5,none⟩) (n - i) sc]).run P W2 = .ok (goInt (n - i)) (W2.setRow N A)) ∧
    Hid (n+m≤G∧G≤maxLen∧(W2.setRow N A).heap[w.heap.size]?=some (.cells A TE (0,0))∧A.size=G*5∧A.toList.take ((n+m)*5)=(cur.toList.take (n*5)).take (i*5)++us++(cur.toList.take (n*5)).drop (i*5)∧w.grownBy (W2.setRow N A) none):=by
 have hul2:us.length=m*5:=by rw [hul,List.length_take,Array.length_toList];omega
 have hsz:(P.info? TE).map (·.size)=some 5:=by rw [hi0];simp [hz0]
 have hgd:w.drew.heap[g]?=some (.cells cur TE (0,0)):=hg
 have hgl:g<w.heap.size:=(Array.getElem?_eq_some_iff.1 hg).1
 have hgvl:gv<w.heap.size:=(Array.getElem?_eq_some_iff.1 hgv).1
 obtain ⟨olds,holds⟩:∃ olds,olds=(cur.toList.take (n*5)).take (i*5):=⟨_,rfl⟩
 have hol:olds.length=i*5:=by rw [holds];simp [hs];omega
 obtain ⟨G,hG⟩:∃ G,G=grownCap w (n+m) c TE:=⟨_,rfl⟩
 have hGn:n+m≤G:=by rw [hG];exact grownCap_ge w _ _ _
 have hGm:G≤maxLen:=by rw [hG];exact grownCap_le_maxLen w (n+m) c TE (by unfold maxLen;omega)
 obtain ⟨ROW,hROW⟩:∃ ROW:Array Value,ROW=olds.toArray++Builtin.zeroCells Z.cells (n+m - i)++Builtin.zeroCells Z.cells (G - (n+m)):=⟨_,rfl⟩
 have hRl:ROW.size=G*5:=by rw [hROW];simp [Builtin.zeroCells,hol,hZK];omega
 have hRt:ROW.toList.take (i*5)=olds:=by
  rw [hROW];simp only [Array.toList_append,List.append_assoc]
  rw [List.take_append_of_le_length (by simp [hol]),List.take_of_length_le (by simp [hol])]
 have hkk:(n:Int)+(m:Int) - (i:Int)=((n+m - i:Nat):Int):=by omega
 have hrz:∀ ty,(Builtin.append_ #[TS,TI] ty #[.slice (some ⟨g,0,none⟩) i c,.int .i64 ((n:Int)+(m:Int) - (i:Int))]).run P w =
   .ok (.slice (some ⟨w.heap.size,0,none⟩) (n+m) G) (w.drew.alloc (.cells ROW TE)):=fun ty=>by
  have h:=Lib.run_append_grow_zeros (P:=P) w TS TI ty TE i0 _ .i64 .i64 uS uI hi0 hz2 (some ⟨g,0,none⟩) i c olds (by
   rw [hz0]
   exact run_firstCells_some w.drew 5 i ⟨g,0,none⟩ i c olds hol (fun j v hj=>by
    have hj2:=(List.getElem?_eq_some_iff.1 hj).1
    rw [holds,List.getElem?_take_of_lt (by omega),List.getElem?_take_of_lt (by omega),Array.getElem?_toList] at hj
    rw [Addr.add_lit,Nat.zero_add]
    simp only [World.cell?,hgd]
    exact hj)) (n+m - i) (by omega) (by omega) (by omega) (by omega) (by rw [hz1];omega) (by rw [hz1,show i+(n+m - i)=n+m by omega];exact growslice_fits hroom hbig)
  rw [show i+(n+m - i)=n+m by omega,←hG,←hROW] at h
  rw [hkk]
  exact h
 obtain ⟨N,hN⟩:∃ N,N=w.heap.size:=⟨_,rfl⟩
 rw [←hN] at hrz
 obtain ⟨W1,hW1⟩:∃ W1,W1=w.drew.alloc (.cells ROW TE):=⟨_,rfl⟩
 rw [←hW1] at hrz
 have hN1:W1.heap[N]?=some (.cells ROW TE (0,0)):=by rw [hW1,hN];exact heap_alloc_new w.drew _
 have hold:∀ b,b<w.heap.size→W1.heap[b]?=w.heap[b]?:=fun b hb=>by rw [hW1];exact heap_alloc_old w.drew _ hb
 have hgr1:w.grownBy W1 none:=by rw [hW1];exact ⟨rfl,rfl,rfl,by simp,fun k hk _=>heap_alloc_old w.drew _ hk⟩
 obtain ⟨R1,hR1⟩:∃ R1,R1=(ROW.toList.take (i*5)++us++ROW.toList.drop (i*5+us.length)).toArray:=⟨_,rfl⟩
 have hR1s:R1.size=G*5:=by rw [hR1];simp [hul2,hRl];omega
 have hcp1:∀ ty dc,(Builtin.copy_ #[TS,TS] ty #[.slice (some ⟨N,i*5,none⟩) (n+m - i) dc,.slice (some ⟨gv,0,none⟩) m vc]).run P W1 = .ok (goInt m) (W1.setRow N R1):=fun ty dc=>by
  have:=dT_ (P:=P) W1 TS TS ty TE 5 N (i*5) (n+m - i) dc ⟨gv,0,none⟩ m vc ROW TE us uS hsz hN1 (by rw [hul2];simp only [Nat.min_def];split<;>omega)
   (fun j v hj=>by
     have hj2:=(List.getElem?_eq_some_iff.1 hj).1
     rw [hul,List.getElem?_take_of_lt (by omega),Array.getElem?_toList] at hj
     rw [Addr.add_lit,Nat.zero_add]
     simp only [World.cell?,hold gv hgvl,hgv]
     exact hj) (by rw [hul2,hRl];omega) h1u
  rw [this,hR1]
  congr 2
  simp only [Nat.min_def];split<;>omega
 obtain ⟨W2,hW2⟩:∃ W2,W2=(W1.setRow N R1).drew:=⟨_,rfl⟩
 have hN2:W2.heap[N]?=some (.cells R1 TE (0,0)):=by rw [hW2];exact setRow_heap _ _ _ _ _ _ hN1
 have hg2:W2.heap[g]?=some (.cells cur TE (0,0)):=by
  rw [hW2];show (W1.setRow N R1).heap[g]?=_
  rw [setRow_other _ _ _ _ (by omega),hold g hgl];exact hg
 obtain ⟨mv,hmv2⟩:∃ mv,mv=(cur.toList.take (n*5)).drop (i*5):=⟨_,rfl⟩
 have hml:mv.length=(n - i)*5:=by rw [hmv2];simp [hs];omega
 obtain ⟨A,hA⟩:∃ A,A=(R1.toList.take ((i+m)*5)++mv++R1.toList.drop ((i+m)*5+mv.length)).toArray:=⟨_,rfl⟩
 have hcp2:∀ ty dc sc,(Builtin.copy_ #[TS,TS] ty #[.slice (some ⟨N,(i+m)*5,none⟩) (n+m - (i+m)) dc,.slice (some ⟨g,i*5,none⟩) (n - i) sc]).run P W2 = .ok (goInt (n - i)) (W2.setRow N A):=fun ty dc sc=>by
  have:=dT_ (P:=P) W2 TS TS ty TE 5 N ((i+m)*5) (n+m - (i+m)) dc ⟨g,i*5,none⟩ (n - i) sc R1 TE mv uS hsz hN2 (by rw [hml];simp only [Nat.min_def];split<;>omega)
   (fun j v hj=>by
     have hj2:=(List.getElem?_eq_some_iff.1 hj).1
     rw [hmv2,List.getElem?_drop,List.getElem?_take_of_lt (by omega),Array.getElem?_toList] at hj
     rw [Addr.add_lit]
     simp only [World.cell?,hg2]
     exact hj) (by rw [hml,hR1s];omega) (fun v hv=>h1 v (by rw [hmv2] at hv;exact List.mem_of_mem_drop hv))
  rw [this,hA]
  congr 2
  simp only [Nat.min_def];split<;>omega
 have kA:Hid (n+m≤G∧G≤maxLen∧(W2.setRow N A).heap[w.heap.size]?=some (.cells A TE (0,0))∧A.size=G*5∧A.toList.take ((n+m)*5)=(cur.toList.take (n*5)).take (i*5)++us++(cur.toList.take (n*5)).drop (i*5)∧w.grownBy (W2.setRow N A) none):=by
  refine ⟨hGn,hGm,by rw [←hN];exact setRow_heap _ _ _ _ _ _ hN2,by rw [hA];simp [hml,hR1s];omega,?_,?_⟩
  · have e1:R1.toList.take ((i+m)*5)=olds++us:=by
     rw [hR1];simp only [List.toList_toArray]
     rw [List.take_append_of_le_length (by simp [hul2,hRl];omega),List.take_of_length_le (by simp [hul2,hRl];omega),hRt]
    rw [hA];simp only [List.toList_toArray]
    rw [e1,List.take_append_of_le_length (by simp [hol,hul2,hml];omega),List.take_of_length_le (by simp [hol,hul2,hml];omega),holds,hmv2]
  · refine ⟨by rw [hW2];exact hgr1.os,by rw [hW2];exact hgr1.tape,by rw [hW2];exact hgr1.output,?_,fun k hk hne => ?_⟩
    · have:(W2.setRow N A).heap.size=W1.heap.size:=by rw [hW2];simp [World.setRow,World.drew]
      rw [this];exact hgr1.size
    · rw [setRow_other _ _ _ _ (by omega),hW2]
      show (W1.setRow N R1).heap[k]?=_
      rw [setRow_other _ _ _ _ (by omega)];exact hold k hk
 exact ⟨G,N,W1,R1,W2,A,hN,hGn,hGm,hrz,hcp1,hW2.symm,hcp2,kA⟩
end
set_option maxRecDepth 1000000 in
theorem InsEnd188 (w:World) (S:Value) (n:Nat) (vals:List Value) (hS:w.ownsRow 0 45 5 S n vals) (gv m vc:Nat) (us:List Value) (hul:us.length=m*5) (hus:∀ j u,us[j]?=some u→w.cell? ⟨gv,j,none⟩=some u) (h1u:∀ v ∈ us,v.oneCell'=true) (hm:0<m) (hb:(n+m)*80≤140737488355328) :
  Calls Tryz.prog 188 #[S,.int .i64 n,.slice (some ⟨gv,0,none⟩) m vc] w fun e w'=>∃ R,e = .returned R∧w'.ownsRow 0 45 5 R (n+m) (vals++us)∧hr_ w w' (fun b=>dz_ S b≠0) ∧
   ∀ b,dz_ R b≠0→(w.heap.size≤b∨dz_ S b≠0)∧b<w'.heap.size:=by
 obtain ⟨i0,hi0⟩:=Option.isSome_iff_exists.1 (show (Tryz.prog.info? 45).isSome=true by kernel_rfl)
 have hz0:i0.size=5:=by
  have:(Tryz.prog.info? 45).map (·.size)=some 5:=by kernel_rfl
  rw [hi0] at this;simpa using this
 have hz1:i0.bytes=80:=by
  have:(Tryz.prog.info? 45).map (·.bytes)=some 80:=by kernel_rfl
  rw [hi0] at this;simpa using this
 have hz2:i0.zero=some (.agg #[.int .i64 0,.int .i64 0,.string ByteArray.empty,.slice none 0 0,.slice none 0 0]):=by
  have:(Tryz.prog.info? 45).bind (·.zero)=some (.agg #[.int .i64 0,.int .i64 0,.string ByteArray.empty,.slice none 0 0,.slice none 0 0]):=by kernel_rfl
  rw [hi0] at this;simpa using this
 have hz3:¬ ((m:Int)=0):=by omega
 have mixed:Tryz.prog.follows .mixedOrders=true:=by kernel_rfl
 have key:∀ ty,∃ v' w',(Builtin.append_ #[42,42] ty #[S,.slice (some ⟨gv,0,none⟩) m vc]).run Tryz.prog w = .ok v' w'∧w'.ownsRow 0 45 5 v' (n+m) (vals++us)∧hr_ w w' (fun b=>dz_ S b≠0) ∧
   ∀ b,dz_ v' b≠0→(w.heap.size≤b∨dz_ S b≠0)∧b<w'.heap.size:=fun ty=>by
  have:=eG_ (P:=Tryz.prog) w 42 ty 45 i0 _ Tryz.underlying42 hi0 hz2 (by rw [hz0];rfl) (by rw [hz0];decide) S n vals (by rw [hz0];exact hS) (.slice (some ⟨gv,0,none⟩) m vc) m us (by rw [hz0];exact hul) (.inl ⟨_,_,rfl,fun j u h=>by rw [Addr.add_lit,Nat.zero_add];exact hus j u h⟩) h1u (by unfold maxLen;omega) (by rw [hz1];exact hb)
  rw [hz0] at this
  exact this
 obtain ⟨v',w',k1,k2,k3⟩:=key 42
 rcases hS.2 with ⟨rfl,rfl⟩|⟨g,c,cur,rfl,-,hg,hnc,hcm,hcs,htake⟩
 · clear key hS hus hz2 hi0 hz0 hz1
   go_enter Tryz.func188,Tryz.ntmps188
   go_wp2_with (at_builtin;refine Lib.wpList_append_run _ rfl _ _ 42 42 rfl _ _ rfl rfl _ _ k1 ?_)
   go_ret
   exact ⟨_,rfl,k2,k3⟩
 · clear key hS hus hz2 hg htake hcs hi0 hz0 hz1
   unfold maxLen at hcm
   go_enter Tryz.func188,Tryz.ntmps188
   go_wp2_with (at_builtin;refine Lib.wpList_append_run _ rfl _ _ 42 42 rfl _ _ rfl rfl _ _ k1 ?_)
   all_goals (go_ret;exact ⟨_,rfl,k2,k3⟩)
set_option maxRecDepth 1000000 in
theorem pv_ (w:World) (S:Value) (n i:Nat) (vals:List Value) (hS:w.ownsRow 0 45 5 S n vals) (U:Value) (us:List Value) (hU:w.ownsRow 0 45 5 U 0 us) (hi:i≤n) :
  Calls Tryz.prog 188 #[S,.int .i64 i,U] w fun e w'=>e = .returned S∧w'=w:=by
 rcases hS.2 with ⟨rfl,rfl⟩|⟨g,c,cur,rfl,-,hg,hnc,hcm,hcs,htake⟩
 · have hi0:i=0:=by omega
   subst hi0
   rcases hU.2 with ⟨rfl,-⟩|⟨gv,vc,curv,rfl,-,hgv,hmc,hcm,hcs,htake⟩
   · clear hS hU
     go_enter Tryz.func188,Tryz.ntmps188
     go_wp2_with fail
     go_ret
     exact ⟨rfl,rfl⟩
   · clear hS hU hgv hcs htake
     go_enter Tryz.func188,Tryz.ntmps188
     go_wp2_with fail
     go_ret
     exact ⟨rfl,rfl⟩
 · unfold maxLen at hcm
   have hic:i≤c:=by omega
   rcases hU.2 with ⟨rfl,-⟩|⟨gv,vc,curv,rfl,-,hgv,hmc,hcm2,hcs2,htake2⟩
   · clear hS hU hg hcs htake
     go_enter Tryz.func188,Tryz.ntmps188
     go_wp2_with fail
     all_goals (go_ret;exact ⟨rfl,rfl⟩)
   · clear hS hU hg hcs htake hgv hcs2 htake2
     go_enter Tryz.func188,Tryz.ntmps188
     go_wp2_with fail
     all_goals (go_ret;exact ⟨rfl,rfl⟩)
set_option maxRecDepth 1000000 in
theorem nO_ (w:World) (g n c i:Nat) (cur:Array Value) (hg:w.heap[g]?=some (.cells cur 45 (0,0))) (hs:cur.size=c*5) (hc:c≤9223372036854775807) (hi:i<n)
  (gv m vc:Nat) (curv:Array Value) (Tv:TypeId) (hgv:w.heap[gv]?=some (.cells curv Tv (0,0))) (hmv:m*5≤curv.size) (hne:gv≠g) (us:List Value) (hul:us=curv.toList.take (m*5)) (h1u:∀ v ∈ us,v.oneCell'=true) (hm:0<m) (hroom:n+m≤c)
  (h1:∀ v ∈ cur.toList.take (n*5),v.oneCell'=true) :
  Calls Tryz.prog 188 #[.slice (some ⟨g,0,none⟩) n c,.int .i64 i,.slice (some ⟨gv,0,none⟩) m vc] w fun e w'=>e = .returned (.slice (some ⟨g,0,none⟩) (n+m) c) ∧
   ∃ A,w'=w.drew.setRow g A∧A.size=cur.size∧A.toList.take ((n+m)*5)=(cur.toList.take (n*5)).take (i*5)++us++(cur.toList.take (n*5)).drop (i*5):=by
 have hsz:(Tryz.prog.info? 45).map (·.size)=some 5:=by kernel_rfl
 have hul2:us.length=m*5:=by rw [hul,List.length_take,Array.length_toList];omega
 have hov:∀ lb cb,(callFunc 199 #[.slice (some ⟨gv,0,none⟩) m vc,.slice (some ⟨g,(i+m)*5,none⟩) lb cb]).run Tryz.prog w = .ok (.value (.bool false)) w:=fun lb cb=>by
  rw [run_callFunc_extern Tryz.func199 (by kernel_rfl) (by kernel_rfl) (by kernel_rfl) (e:=Extern.SlicesOverlaps.overlaps #[42,42] #[4]) (by kernel_rfl),
   Lib.run_overlaps_apart w 42 4 45 Tryz.underlying42 5 Tryz.sizeOf45 ⟨gv,0,none⟩ ⟨g,(i+m)*5,none⟩ m vc lb cb hne Tv 45 curv.size cur.size (by simp [World.shape?,hgv]) (by simp [World.shape?,hg]) (by omega) (by simp [World.frozen?,hgv]) (by simp [World.frozen?,hgv])]
  rfl
 obtain ⟨mv,hmv2⟩:∃ mv,mv=(cur.toList.take (n*5)).drop (i*5):=⟨_,rfl⟩
 have hml:mv.length=(n - i)*5:=by rw [hmv2];simp [hs];omega
 have hgd:w.drew.heap[g]?=some (.cells cur 45 (0,0)):=hg
 obtain ⟨B,hB⟩:∃ B,B=(cur.toList.take ((i+m)*5)++mv++cur.toList.drop ((i+m)*5+mv.length)).toArray:=⟨_,rfl⟩
 have hcp1:∀ ty dc sc,(Builtin.copy_ #[42,42] ty #[.slice (some ⟨g,(i+m)*5,none⟩) (n+m - (i+m)) dc,.slice (some ⟨g,i*5,none⟩) (n+m - i) sc]).run Tryz.prog w.drew = .ok (goInt (n - i)) (w.drew.setRow g B):=fun ty dc sc=>by
  have:=dT_ (P:=Tryz.prog) w.drew 42 42 ty 45 5 g ((i+m)*5) (n+m - (i+m)) dc ⟨g,i*5,none⟩ (n+m - i) sc cur 45 mv Tryz.underlying42 hsz hgd (by rw [hml];simp only [Nat.min_def];split<;>omega)
   (fun j v hj=>by
     have hj2:=(List.getElem?_eq_some_iff.1 hj).1
     rw [hmv2,List.getElem?_drop,List.getElem?_take_of_lt (by omega),Array.getElem?_toList] at hj
     rw [Addr.add_lit]
     simp only [World.cell?,hgd]
     exact hj) (by rw [hml,hs];omega) (fun v hv=>h1 v (by rw [hmv2] at hv;exact List.mem_of_mem_drop hv))
  rw [this,hB]
  congr 2
  simp only [Nat.min_def];split<;>omega
 have hBs:B.size=cur.size:=by rw [hB];simp [hml,hs];omega
 have hgB:(w.drew.setRow g B).heap[g]?=some (.cells B 45 (0,0)):=setRow_heap _ _ _ _ _ _ hgd
 obtain ⟨A,hA⟩:∃ A,A=(B.toList.take (i*5)++us++B.toList.drop (i*5+us.length)).toArray:=⟨_,rfl⟩
 have hcp2:∀ ty dc,(Builtin.copy_ #[42,42] ty #[.slice (some ⟨g,i*5,none⟩) (n+m - i) dc,.slice (some ⟨gv,0,none⟩) m vc]).run Tryz.prog (w.drew.setRow g B) = .ok (goInt m) (w.drew.setRow g A):=fun ty dc=>by
  have:=dT_ (P:=Tryz.prog) (w.drew.setRow g B) 42 42 ty 45 5 g (i*5) (n+m - i) dc ⟨gv,0,none⟩ m vc B 45 us Tryz.underlying42 hsz hgB (by rw [hul2];simp only [Nat.min_def];split<;>omega)
   (fun j v hj=>by
     have hj2:=(List.getElem?_eq_some_iff.1 hj).1
     rw [hul,List.getElem?_take_of_lt (by omega),Array.getElem?_toList] at hj
     rw [Addr.add_lit,Nat.zero_add]
     have e:(w.drew.setRow g B).heap[gv]?=some (.cells curv Tv (0,0)):=by rw [setRow_other _ _ _ _ hne];exact hgv
     simp only [World.cell?,e]
     exact hj) (by rw [hul2,hBs,hs];omega) h1u
  rw [this,hA,setRow_setRow]
  congr 2
  simp only [Nat.min_def];split<;>omega
 have kA:Hid (A.size=cur.size∧A.toList.take ((n+m)*5)=(cur.toList.take (n*5)).take (i*5)++us++mv):=by
  have e1:B.toList.take (i*5)=(cur.toList.take (n*5)).take (i*5):=by
   rw [hB];simp only [List.toList_toArray,List.append_assoc]
   rw [List.take_append_of_le_length (by simp [hs];omega),List.take_take,List.take_take]
   congr 1;omega
  have e2:(B.toList.drop (i*5+us.length)).take mv.length=mv:=by
   rw [hB];simp only [List.toList_toArray,List.append_assoc]
   rw [List.drop_append,List.drop_eq_nil_of_le (by simp [hul2,hs];omega),List.nil_append,List.length_take,show i*5+us.length - min ((i+m)*5) cur.toList.length=0 by simp [hul2,hs];omega,List.drop_zero,List.take_append_of_le_length (Nat.le_refl _),List.take_of_length_le (Nat.le_refl _)]
  refine ⟨by rw [hA];simp [hul2,hBs,hs];omega,?_⟩
  rw [hA];simp only [List.toList_toArray]
  rw [List.take_append,List.take_of_length_le (by simp [hul2,hBs,hs];omega),e1]
  congr 1
  rw [show (n+m)*5 - (List.take (i*5) (List.take (n*5) cur.toList)++us).length=mv.length by simp [hul2,hml,hs];omega]
  exact e2
 rw [hmv2] at kA
 have hnc:n≤c:=by omega
 have hic:i≤c:=by omega
 have hz1:¬ ((m:Int)=0):=by omega
 have hz2:¬ ((i:Int)=(n:Int)):=by omega
 have mixed:Tryz.prog.follows .mixedOrders=true:=by kernel_rfl
 have hw1:IntKind.i64.wrap ((i:Int)+(m:Int))=(i:Int)+(m:Int):=by rw [IntKind.wrap_i64];omega
 have hb1:(0:Int)≤(i:Int)+(m:Int):=by omega
 have hin:i≤n:=by omega
 have htn:((i:Int)+(m:Int)).toNat=i+m:=by omega
 have hb2:¬ (c=i+m):=by omega
 have hb3:(i:Int)≤(n:Int)+(m:Int):=by omega
 have hb4:¬ (c=i):=by omega
 clear hB hBs hgB hA hmv2 hml hgd hg hgv hul hul2 h1 h1u hsz hs hmv
 go_enter Tryz.func188,Tryz.ntmps188
 go_wp2_with (simp only [hov])
 go_region_law_o (refine ej_ rfl _ _ 42 42 rfl _ _ (by simp [Act.eval,Act.put]) (by simp [Act.eval,Act.put]) (hcp1 _ _ _) ?_)
 go_wp2_with (at_builtin;refine e3_ _ rfl _ _ 42 42 rfl _ _ rfl rfl (hcp2 _ _) ?_)
 go_ret
 exact ⟨rfl,A,rfl,kA.out.1,kA.out.2⟩
set_option maxRecDepth 1000000 in
theorem py_ (w:World) (g n c i:Nat) (cur:Array Value) (hg:w.heap[g]?=some (.cells cur 45 (0,0))) (hs:cur.size=c*5) (hnc:n≤c) (hi:i<n)
  (gv m vc:Nat) (curv:Array Value) (Tv:TypeId) (hgv:w.heap[gv]?=some (.cells curv Tv (0,0))) (hmv:m*5≤curv.size) (us:List Value) (hul:us=curv.toList.take (m*5)) (h1u:∀ v ∈ us,v.oneCell'=true) (hm:0<m) (hroom:c<n+m)
  (hbig:(n+m)*80≤140737488355328) (h1:∀ v ∈ cur.toList.take (n*5),v.oneCell'=true) :
  Calls Tryz.prog 188 #[.slice (some ⟨g,0,none⟩) n c,.int .i64 i,.slice (some ⟨gv,0,none⟩) m vc] w fun e w'=>∃ C A,e = .returned (.slice (some ⟨w.heap.size,0,none⟩) (n+m) C)∧n+m≤C∧C≤maxLen ∧
   w'.heap[w.heap.size]?=some (.cells A 45 (0,0))∧A.size=C*5∧A.toList.take ((n+m)*5)=(cur.toList.take (n*5)).take (i*5)++us++(cur.toList.take (n*5)).drop (i*5)∧w.grownBy w' none:=by
 obtain ⟨i0,hi0⟩:=Option.isSome_iff_exists.1 (show (Tryz.prog.info? 45).isSome=true by kernel_rfl)
 have hz0:i0.size=5:=by
  have:(Tryz.prog.info? 45).map (·.size)=some 5:=by kernel_rfl
  rw [hi0] at this;simpa using this
 have hz1:i0.bytes=80:=by
  have:(Tryz.prog.info? 45).map (·.bytes)=some 80:=by kernel_rfl
  rw [hi0] at this;simpa using this
 have hz2:i0.zero=some (.agg #[.int .i64 0,.int .i64 0,.string ByteArray.empty,.slice none 0 0,.slice none 0 0]):=by
  have:(Tryz.prog.info? 45).bind (·.zero)=some (.agg #[.int .i64 0,.int .i64 0,.string ByteArray.empty,.slice none 0 0,.slice none 0 0]):=by kernel_rfl
  rw [hi0] at this;simpa using this
 obtain ⟨G,N,W1,R1,W2,A,hNN,hGn,hGm,hrz,hcp1,hW2',hcp2,kA⟩:=o4_ 42 45 3 _ i0 Tryz.underlying42 Tryz.underlying3 hi0 hz2 hz0 hz1 rfl w g n c i cur hg hs hnc hi gv m vc curv Tv hgv hmv us hul h1u hm hroom hbig h1
 have hic:i≤c:=by omega
 have hz3:¬ ((m:Int)=0):=by omega
 have hz4:¬ ((i:Int)=(n:Int)):=by omega
 have hz5:(c:Int)<(n:Int)+(m:Int):=by omega
 have mixed:Tryz.prog.follows .mixedOrders=true:=by kernel_rfl
 have hG63:G≤9223372036854775807:=by unfold maxLen at hGm;omega
 have hw1:IntKind.i64.wrap ((n:Int)+(m:Int))=(n:Int)+(m:Int):=by rw [IntKind.wrap_i64];omega
 have hw2:IntKind.i64.wrap ((n:Int)+(m:Int) - (i:Int))=(n:Int)+(m:Int) - (i:Int):=by rw [IntKind.wrap_i64];omega
 have hw3:IntKind.i64.wrap ((i:Int)+(m:Int))=(i:Int)+(m:Int):=by rw [IntKind.wrap_i64];omega
 have hb1:(0:Int)≤(i:Int)+(m:Int):=by omega
 have htn:((i:Int)+(m:Int)).toNat=i+m:=by omega
 have hGi:¬ (G=i):=by omega
 have hGim:¬ (G=i+m):=by omega
 have hb3:(i:Int)≤(n:Int)+(m:Int):=by omega
 have hb4:¬ (c=i):=by omega
 have hinm:i≤n+m:=by omega
 have himn:i+m≤n+m:=by omega
 have hin:i≤n:=by omega
 clear hul h1 h1u hg hgv hs hmv hz0 hz1 hz2 hi0 hbig
 go_enter Tryz.func188,Tryz.ntmps188
 go_wp2_with (at_builtin;refine Lib.wpList_append_run _ rfl _ _ 42 3 rfl _ _ rfl rfl _ _ (hrz _) ?_)
 go_region_law_o (simp only [hW2'];refine ej_ rfl _ _ 42 42 rfl _ _ (by simp [Act.eval,Act.put]) (by simp [Act.eval,Act.put]) (hcp2 _ _ _) ?_)
 go_wp2_with fail
 go_ret
 exact ⟨G,A,by rw [hNN.out];rfl,kA.out⟩
theorem insM188:InsM Tryz.prog 188 45 5 80:=by
 intro w S n vals U m us i hS hU hdis hi h1 h1u hb
 have hvl:=hS.1
 by_cases hm:m=0
 · subst hm
   have hus:us=[]:=by have:=hU.1;rw [Nat.zero_mul] at this;exact List.eq_nil_of_length_eq_zero this
   subst hus
   refine (pv_ w S n i vals hS U [] hU hi).mono ?_
   rintro e w' ⟨rfl,rfl⟩
   refine ⟨S,rfl,by rw [List.append_nil,List.take_append_drop];exact hS,⟨rfl,rfl,rfl,Nat.le_refl _,fun _ _ _=>rfl⟩,fun b hb=>⟨.inr hb,k1_ hS b hb⟩⟩
 · rcases hU.2 with ⟨rfl,h0⟩|⟨gv,vc,curv,rfl,-,hgv,hmc,hcm,hcs,htake⟩
   · exact absurd h0 hm
   · by_cases hin:i=n
     · subst hin
       rw [List.take_of_length_le (by omega),List.drop_eq_nil_of_le (by omega),List.append_nil]
       exact InsEnd188 w S i vals hS gv m vc us hU.1 (fun j u h=>by have:=hU.cells (g:=gv) rfl j u h;rwa [Addr.add_lit,Nat.zero_add] at this) h1u (by omega) hb
     · rcases hS.2 with ⟨rfl,h0⟩|⟨g,c,cur,rfl,-,hg,hnc,hcm',hcs',htake'⟩
       · omega
       · have hne:gv≠g:=fun e=>by subst e;have:=hdis gv (by simp [dz_]);simp [dz_] at this
         have hmv:m*5≤curv.size:=by rw [hcs];exact Nat.mul_le_mul_right _ hmc
         by_cases hroom:n+m≤c
         · refine (nO_ w g n c i cur hg hcs' (by unfold maxLen at hcm';omega) (by omega) gv m vc curv 45 hgv hmv hne us htake.symm h1u (by omega) hroom (by rw [htake'];exact h1)).mono ?_
           rintro e w' ⟨rfl,A,rfl,hA,ht⟩
           rw [htake'] at ht
           have hgd:w.drew.heap[g]?=some (.cells cur 45 (0,0)):=hg
           have hA2:=setRow_heap w.drew g cur A _ _ hgd
           refine ⟨_,rfl,⟨by rw [←ht];simp [hA,hcs'];omega,.inr ⟨g,c,A,rfl,Nat.zero_le _,hA2,hroom,hcm',by rw [hA,hcs'],ht⟩⟩,⟨rfl,rfl,rfl,hY_ w g A,fun b _ hn => ?_⟩,fun b hb=>⟨.inr hb,?_⟩⟩
           · rw [setRow_other _ _ _ _ (fun e=>hn (by subst e;simp [dz_]))];rfl
           · have:g=b:=by simp only [dz_] at hb;exact Classical.byContradiction fun h=>hb (if_neg h)
             subst this
             exact (Array.getElem?_eq_some_iff.1 hA2).1
         · refine (py_ w g n c i cur hg hcs' hnc (by omega) gv m vc curv 45 hgv hmv us htake.symm h1u (by omega) (by omega) hb (by rw [htake'];exact h1)).mono ?_
           rintro e w' ⟨C,A,rfl,hC,hCm,hN,hA,ht,hgr⟩
           rw [htake'] at ht
           refine ⟨_,rfl,⟨by rw [←ht];simp [hA];omega,.inr ⟨_,C,A,rfl,Nat.zero_le _,hN,hC,hCm,hA,ht⟩⟩,⟨hgr.os,hgr.tape,hgr.output,hgr.size,fun b hb _=>hgr.block b hb (by simp)⟩,fun b hb => ?_⟩
           have:w.heap.size=b:=by simp only [dz_] at hb;exact Classical.byContradiction fun h=>hb (if_neg h)
           subst this
           exact ⟨.inl (Nat.le_refl _),(Array.getElem?_eq_some_iff.1 hN).1⟩
end Go.Proofs
namespace Go.Pi
open Go.Proofs
theorem bR_.ok (n:Nat) (_:CxOk E (cx n bR_.d.nt)) (_:KPar (cx n bR_.d.nt)):bR_.d.Ok E (bR_.F (n+1)):=fun _ _ h=>nc_ (t:=.iJson) (m1:=.d) (m2:=.d) (by decide) (by decide) insM188 h
end Go.Pi
end
section
namespace Go.Proofs
open Go.Shelf
def Tryz.lays155_ren:Go.Shelf.Ren:=⟨fun|155=>190|154=>201|138=>211|165=>177|143=>212|166=>178|197=>213|169=>179|195=>221|218=>222|240=>192|241=>193|219=>223|260=>224|276=>206|277=>207|217=>227|225=>228|224=>229|267=>230|266=>231|314=>232|n=>n,fun|9=>9|3=>3|4=>4|72=>168|0=>0|76=>172|105=>200|21=>21|5=>5|70=>166|20=>20|37=>141|75=>171|127=>183|164=>196|46=>185|119=>213|139=>216|138=>215|146=>219|51=>205|80=>174|n=>n,fun|1=>1|3=>2|4=>3|n=>n⟩
theorem Tryz.lays155:Go.Proofs.Lays.n155 Tryz.prog Tryz.lays155_ren:={
 mixed:=by kernel_rfl
 f138:=Tryz.func211.trans (congrArg some (by kernel_rfl))
 f143:=Tryz.func212.trans (congrArg some (by kernel_rfl))
 f154:=Tryz.func201.trans (congrArg some (by kernel_rfl))
 f155:=Tryz.func190.trans (congrArg some (by kernel_rfl))
 f165:=Tryz.func177.trans (congrArg some (by kernel_rfl))
 f166:=Tryz.func178.trans (congrArg some (by kernel_rfl))
 f169:=Tryz.func179.trans (congrArg some (by kernel_rfl))
 f195:=Tryz.func221.trans (congrArg some (by kernel_rfl))
 f197:=Tryz.func213.trans (congrArg some (by kernel_rfl))
 f217:=Tryz.func227.trans (congrArg some (by kernel_rfl))
 f218:=Tryz.func222.trans (congrArg some (by kernel_rfl))
 f219:=Tryz.func223.trans (congrArg some (by kernel_rfl))
 f224:=Tryz.func229.trans (congrArg some (by kernel_rfl))
 f225:=Tryz.func228.trans (congrArg some (by kernel_rfl))
 f240:=Tryz.func192.trans (congrArg some (by kernel_rfl))
 f241:=Tryz.func193.trans (congrArg some (by kernel_rfl))
 f260:=Tryz.func224.trans (congrArg some (by kernel_rfl))
 f266:=Tryz.func231.trans (congrArg some (by kernel_rfl))
 f267:=Tryz.func230.trans (congrArg some (by kernel_rfl))
 f276:=Tryz.func206.trans (congrArg some (by kernel_rfl))
 f277:=Tryz.func207.trans (congrArg some (by kernel_rfl))
 f314:=Tryz.func232.trans (congrArg some (by kernel_rfl))
 t0:=Tryz.underlying0
 a0:=Tryz.isAgg0
 z0:=Tryz.sizeOf0
 v0:=Tryz.zeroValue0
 t3:=Tryz.underlying3
 a3:=Tryz.isAgg3
 z3:=Tryz.sizeOf3
 v3:=Tryz.zeroValue3
 t4:=Tryz.underlying4
 a4:=Tryz.isAgg4
 z4:=Tryz.sizeOf4
 v4:=Tryz.zeroValue4
 t5:=Tryz.underlying5
 a5:=Tryz.isAgg5
 z5:=Tryz.sizeOf5
 v5:=Tryz.zeroValue5
 t9:=Tryz.underlying9
 a9:=Tryz.isAgg9
 z9:=Tryz.sizeOf9
 v9:=Tryz.zeroValue9
 t20:=Tryz.underlying20
 a20:=Tryz.isAgg20
 z20:=Tryz.sizeOf20
 v20:=Tryz.zeroValue20
 t21:=Tryz.underlying21
 a21:=Tryz.isAgg21
 z21:=Tryz.sizeOf21
 v21:=Tryz.zeroValue21
 t37:=Tryz.underlying141
 a37:=Tryz.isAgg141
 z37:=Tryz.sizeOf141
 v37:=Tryz.zeroValue141
 t46:=Tryz.underlying185
 a46:=Tryz.isAgg185
 z46:=Tryz.sizeOf185
 v46:=Tryz.zeroValue185
 t51:=Tryz.underlying205
 a51:=Tryz.isAgg205
 z51:=Tryz.sizeOf205
 v51:=Tryz.zeroValue205
 t70:=Tryz.underlying166
 a70:=Tryz.isAgg166
 z70:=Tryz.sizeOf166
 v70:=Tryz.zeroValue166
 t72:=Tryz.underlying168
 a72:=Tryz.isAgg168
 z72:=Tryz.sizeOf168
 v72:=Tryz.zeroValue168
 t75:=Tryz.underlying171
 a75:=Tryz.isAgg171
 z75:=Tryz.sizeOf171
 v75:=Tryz.zeroValue171
 t76:=Tryz.underlying172
 a76:=Tryz.isAgg172
 z76:=Tryz.sizeOf172
 v76:=Tryz.zeroValue172
 t105:=Tryz.underlying200
 a105:=Tryz.isAgg200
 z105:=Tryz.sizeOf200
 v105:=Tryz.zeroValue200
 t119:=Tryz.underlying213
 a119:=Tryz.isAgg213
 z119:=Tryz.sizeOf213
 t127:=Tryz.underlying183
 a127:=Tryz.isAgg183
 z127:=Tryz.sizeOf183
 v127:=Tryz.zeroValue183
 t138:=Tryz.underlying215
 a138:=Tryz.isAgg215
 z138:=Tryz.sizeOf215
 v138:=Tryz.zeroValue215
 t139:=Tryz.underlying216
 a139:=Tryz.isAgg216
 z139:=Tryz.sizeOf216
 v139:=Tryz.zeroValue216
 t146:=Tryz.underlying219
 a146:=Tryz.isAgg219
 z146:=Tryz.sizeOf219
 v146:=Tryz.zeroValue219
 t164:=Tryz.underlying196
 a164:=Tryz.isAgg196
 z164:=Tryz.sizeOf196
 v164:=Tryz.zeroValue196
 g1:=by kernel_rfl
 g3:=by kernel_rfl
 g4:=by kernel_rfl }
theorem Tryz.Builder_Extra_155:Builder.Extra Tryz.prog Tryz.lays155_ren:={
 sizeBuilder:=by kernel_rfl
 liesBuilder:=by kernel_rfl
 t5:=Tryz.underlying5
 a5:=Tryz.isAgg5
 z5:=Tryz.sizeOf5
 v5:=Tryz.zeroValue5
 infoByte:=by kernel_rfl
 cellsByte:=by kernel_rfl
 sizeByte:=by kernel_rfl
 neB5:=by decide }
open Go.RowKit Go.Sort Go.Lib in
theorem Tryz.strings_ReplaceAll (s old new:ByteArray) (m:Int) (w:World) (hs:s.size<4294967281) (hm:w.cell? ⟨1,0,none⟩=some (.int .i64 m)) (h1:1≤old.size) (hlen:s.size+Lib.countB s old*new.size≤140737488355328) :
  Calls Tryz.prog 190 #[.string s,.string old,.string new] w fun e w'=>
   e = .returned (.string ⟨(Lib.replaceAll s.data.toList old.data.toList new.data.toList).toArray⟩)∧Below w.heap.size w w':=Any.strings_ReplaceAll Tryz.lays155 Tryz.Builder_Extra_155 s old new m w hs hm h1 hlen
end Go.Proofs
namespace Go.Pi
open Go.Proofs
theorem strings_ReplaceAll.ok (n:Nat) (_:CxOk E (cx n strings_ReplaceAll.d.nt)) (_:KPar (cx n strings_ReplaceAll.d.nt)):strings_ReplaceAll.d.Ok E (strings_ReplaceAll.F (n+1)):=fun _ _ h=>nRepl_ok (g:=1) (fun s old new m w h1 h2 h3 h4=>Tryz.strings_ReplaceAll s old new m w h1 h2 h3 h4) (.tail _ (.head _)) h
end Go.Pi
end
section
namespace Go.Pi
open Go.Proofs
theorem kpar (n nt:Nat):KPar (cx n nt):=KH_par (l:=KL n) ⟨FD.kp,FD.kp,FD.kp,FD.kp,FD.kp,FD.kp,FD.kp,FD.kp,FD.kp,FD.kp,FD.kp,FD.kp,FD.kp,FD.kp,FD.kp,FD.kp,FD.kp,FD.kp,FD.kp,FD.kp,FD.kp,FD.kp,FD.kp,FD.kp,FD.kp,FD.kp,FD.kp,FD.kp,FD.kp,FD.kp,FD.kp,FD.kp,FD.kp,FD.kp,FD.kp,FD.kp,FD.kp,FD.kp,FD.kp,FD.kp,FD.kp,FD.kp,FD.kp,FD.kp,FD.kp,FD.kp,FD.kp,FD.kp,FD.kp,FD.kp,FD.kp,FD.kp,FD.kp,FD.kp,FD.kp,FD.kp,FD.kp,FD.kp,FD.kp,FD.kp,FD.kp,FD.kp,FD.kp,FD.kp,FD.kp,FD.kp,FD.kp,FD.kp,FD.kp,FD.kp,FD.kp,FD.kp,FD.kp,FD.kp,FD.kp,FD.kp,FD.kp,FD.kp,FD.kp,FD.kp,FD.kp,FD.kp,FD.kp,FD.kp,FD.kp,FD.kp,FD.kp,FD.kp,FD.kp,FD.kp,FD.kp,FD.kp,FD.kp,FD.kp,FD.kp,FD.kp,FD.kp,FD.kp,FD.kp,FD.kp,FD.kp,FD.kp,FD.kp,FD.kp,FD.kp,FD.kp,FD.kp,FD.kp,FD.kp,FD.kp,FD.kp,FD.kp,FD.kp,FD.kp,FD.kp,FD.kp,FD.kp,FD.kp,FD.kp,FD.kp,FD.kp,FD.kp,FD.kp,FD.kp,FD.kp,FD.kp,FD.kp,FD.kp,FD.kp,FD.kp,FD.kp,FD.kp,FD.kp,FD.kp,FD.kp,FD.kp,FD.kp,FD.kp,FD.kp,FD.kp,FD.kp,FD.kp,FD.kp,FD.kp,FD.kp,FD.kp,FD.kp,FD.kp,FD.kp,FD.kp,FD.kp,FD.kp,FD.kp,FD.kp,FD.kp,FD.kp,FD.kp,FD.kp,FD.kp,FD.kp,FD.kp,FD.kp,FD.kp,FD.kp,FD.kp,FD.kp,FD.kp,FD.kp,FD.kp,FD.kp,FD.kp,FD.kp,FD.kp,FD.kp,FD.kp,FD.kp,FD.kp,FD.kp,FD.kp,FD.kp,FD.kp,FD.kp,FD.kp,FD.kp,trivial⟩
structure AllOk (n:Nat):Prop where
 h0:cZ_.d.Ok E (cZ_.F n)
 h1:di_.d.Ok E (di_.F n)
 h2:cY_.d.Ok E (cY_.F n)
 h3:dM_.d.Ok E (dM_.F n)
 h4:bi_.d.Ok E (bi_.F n)
 h5:dr_.d.Ok E (dr_.F n)
 h6:dh_.d.Ok E (dh_.F n)
 h7:dq_.d.Ok E (dq_.F n)
 h8:dg_.d.Ok E (dg_.F n)
 h9:a4_.d.Ok E (a4_.F n)
 h10:bh_.d.Ok E (bh_.F n)
 h11:cQ_.d.Ok E (cQ_.F n)
 h12:dD_.d.Ok E (dD_.F n)
 h13:bk_.d.Ok E (bk_.F n)
 h14:dE_.d.Ok E (dE_.F n)
 h15:bl_.d.Ok E (bl_.F n)
 h16:c3_.d.Ok E (c3_.F n)
 h17:cK_.d.Ok E (cK_.F n)
 h18:db_.d.Ok E (db_.F n)
 h19:dd_.d.Ok E (dd_.F n)
 h20:bv_.d.Ok E (bv_.F n)
 h21:cj_.d.Ok E (cj_.F n)
 h22:cN_.d.Ok E (cN_.F n)
 h23:bp_.d.Ok E (bp_.F n)
 h24:aO_.d.Ok E (aO_.F n)
 h25:dA_.d.Ok E (dA_.F n)
 h26:dB_.d.Ok E (dB_.F n)
 h27:cl_.d.Ok E (cl_.F n)
 h28:aN_.d.Ok E (aN_.F n)
 h29:dy_.d.Ok E (dy_.F n)
 h30:dc_.d.Ok E (dc_.F n)
 h31:cv_.d.Ok E (cv_.F n)
 h32:bz_.d.Ok E (bz_.F n)
 h33:bg_.d.Ok E (bg_.F n)
 h34:bj_.d.Ok E (bj_.F n)
 h35:ag_.d.Ok E (ag_.F n)
 h36:aG_.d.Ok E (aG_.F n)
 h37:ch_.d.Ok E (ch_.F n)
 h38:cf_.d.Ok E (cf_.F n)
 h39:bH_.d.Ok E (bH_.F n)
 h40:ct_.d.Ok E (ct_.F n)
 h41:al_.d.Ok E (al_.F n)
 h42:cy_.d.Ok E (cy_.F n)
 h43:cP_.d.Ok E (cP_.F n)
 h44:bd_.d.Ok E (bd_.F n)
 h45:bu_.d.Ok E (bu_.F n)
 h46:b8_.d.Ok E (b8_.F n)
 h47:dC_.d.Ok E (dC_.F n)
 h48:de_.d.Ok E (de_.F n)
 h49:a2_.d.Ok E (a2_.F n)
 h50:bM_.d.Ok E (bM_.F n)
 h51:aD_.d.Ok E (aD_.F n)
 h52:b0_.d.Ok E (b0_.F n)
 h53:a7_.d.Ok E (a7_.F n)
 h54:ck_.d.Ok E (ck_.F n)
 h55:aA_.d.Ok E (aA_.F n)
 h56:dP_.d.Ok E (dP_.F n)
 h57:bF_.d.Ok E (bF_.F n)
 h58:b1_.d.Ok E (b1_.F n)
 h59:bN_.d.Ok E (bN_.F n)
 h60:cM_.d.Ok E (cM_.F n)
 h61:aw_.d.Ok E (aw_.F n)
 h62:df_.d.Ok E (df_.F n)
 h63:a3_.d.Ok E (a3_.F n)
 h64:aE_.d.Ok E (aE_.F n)
 h65:cX_.d.Ok E (cX_.F n)
 h66:aJ_.d.Ok E (aJ_.F n)
 h67:cO_.d.Ok E (cO_.F n)
 h68:cx_.d.Ok E (cx_.F n)
 h69:cr_.d.Ok E (cr_.F n)
 h70:cc_.d.Ok E (cc_.F n)
 h71:cU_.d.Ok E (cU_.F n)
 h72:aZ_.d.Ok E (aZ_.F n)
 h73:bY_.d.Ok E (bY_.F n)
 h74:cC_.d.Ok E (cC_.F n)
 h75:by_.d.Ok E (by_.F n)
 h76:aF_.d.Ok E (aF_.F n)
 h77:cT_.d.Ok E (cT_.F n)
 h78:aB_.d.Ok E (aB_.F n)
 h79:br_.d.Ok E (br_.F n)
 h80:strconv_Itoa.d.Ok E (strconv_Itoa.F n)
 h81:dk_.d.Ok E (dk_.F n)
 h82:aY_.d.Ok E (aY_.F n)
 h83:dm_.d.Ok E (dm_.F n)
 h84:bL_.d.Ok E (bL_.F n)
 h85:bS_.d.Ok E (bS_.F n)
 h86:bq_.d.Ok E (bq_.F n)
 h87:af_.d.Ok E (af_.F n)
 h88:bK_.d.Ok E (bK_.F n)
 h89:bR_.d.Ok E (bR_.F n)
 h90:bC_.d.Ok E (bC_.F n)
 h91:bA_.d.Ok E (bA_.F n)
 h92:ax_.d.Ok E (ax_.F n)
 h93:am_.d.Ok E (am_.F n)
 h94:dH_.d.Ok E (dH_.F n)
 h95:a8_.d.Ok E (a8_.F n)
 h96:cw_.d.Ok E (cw_.F n)
 h97:cq_.d.Ok E (cq_.F n)
 h98:bm_.d.Ok E (bm_.F n)
 h99:a5_.d.Ok E (a5_.F n)
 h100:cE_.d.Ok E (cE_.F n)
 h101:ac_.d.Ok E (ac_.F n)
 h102:ak_.d.Ok E (ak_.F n)
 h103:dJ_.d.Ok E (dJ_.F n)
 h104:cu_.d.Ok E (cu_.F n)
 h105:aj_.d.Ok E (aj_.F n)
 h106:ad_.d.Ok E (ad_.F n)
 h107:c1_.d.Ok E (c1_.F n)
 h108:cD_.d.Ok E (cD_.F n)
 h109:cW_.d.Ok E (cW_.F n)
 h110:as_.d.Ok E (as_.F n)
 h111:aC_.d.Ok E (aC_.F n)
 h112:cd_.d.Ok E (cd_.F n)
 h113:dI_.d.Ok E (dI_.F n)
 h114:bD_.d.Ok E (bD_.F n)
 h115:bc_.d.Ok E (bc_.F n)
 h116:cB_.d.Ok E (cB_.F n)
 h117:ab_.d.Ok E (ab_.F n)
 h118:dw_.d.Ok E (dw_.F n)
 h119:c7_.d.Ok E (c7_.F n)
 h120:bo_.d.Ok E (bo_.F n)
 h121:bV_.d.Ok E (bV_.F n)
 h122:aI_.d.Ok E (aI_.F n)
 h123:bn_.d.Ok E (bn_.F n)
 h124:a1_.d.Ok E (a1_.F n)
 h125:dl_.d.Ok E (dl_.F n)
 h126:bG_.d.Ok E (bG_.F n)
 h127:b4_.d.Ok E (b4_.F n)
 h128:c5_.d.Ok E (c5_.F n)
 h129:bO_.d.Ok E (bO_.F n)
 h130:cS_.d.Ok E (cS_.F n)
 h131:strings_ReplaceAll.d.Ok E (strings_ReplaceAll.F n)
 h132:bf_.d.Ok E (bf_.F n)
 h133:dn_.d.Ok E (dn_.F n)
 h134:a6_.d.Ok E (a6_.F n)
 h135:bt_.d.Ok E (bt_.F n)
 h136:strings_Join.d.Ok E (strings_Join.F n)
 h137:aQ_.d.Ok E (aQ_.F n)
 h138:c6_.d.Ok E (c6_.F n)
 h139:ce_.d.Ok E (ce_.F n)
 h140:cV_.d.Ok E (cV_.F n)
 h141:cs_.d.Ok E (cs_.F n)
 h142:dj_.d.Ok E (dj_.F n)
 h143:be_.d.Ok E (be_.F n)
 h144:bs_.d.Ok E (bs_.F n)
 h145:cR_.d.Ok E (cR_.F n)
 h146:dF_.d.Ok E (dF_.F n)
 h147:bw_.d.Ok E (bw_.F n)
 h148:dG_.d.Ok E (dG_.F n)
 h149:bx_.d.Ok E (bx_.F n)
 h150:c4_.d.Ok E (c4_.F n)
 h151:cL_.d.Ok E (cL_.F n)
 h152:bb_.d.Ok E (bb_.F n)
 h153:aM_.d.Ok E (aM_.F n)
 h154:b6_.d.Ok E (b6_.F n)
 h155:dS_.d.Ok E (dS_.F n)
 h156:bI_.d.Ok E (bI_.F n)
 h157:cH_.d.Ok E (cH_.F n)
 h158:aK_.d.Ok E (aK_.F n)
 h159:aR_.d.Ok E (aR_.F n)
 h160:b9_.d.Ok E (b9_.F n)
 h161:aU_.d.Ok E (aU_.F n)
 h162:aV_.d.Ok E (aV_.F n)
 h163:cm_.d.Ok E (cm_.F n)
 h164:cn_.d.Ok E (cn_.F n)
 h165:aH_.d.Ok E (aH_.F n)
 h166:aq_.d.Ok E (aq_.F n)
 h167:ay_.d.Ok E (ay_.F n)
 h168:cz_.d.Ok E (cz_.F n)
 h169:a9_.d.Ok E (a9_.F n)
 h170:ca_.d.Ok E (ca_.F n)
 h171:aL_.d.Ok E (aL_.F n)
 h172:aS_.d.Ok E (aS_.F n)
 h173:cb_.d.Ok E (cb_.F n)
 h174:aW_.d.Ok E (aW_.F n)
 h175:aX_.d.Ok E (aX_.F n)
 h176:co_.d.Ok E (co_.F n)
 h177:cp_.d.Ok E (cp_.F n)
 h178:ar_.d.Ok E (ar_.F n)
 h179:az_.d.Ok E (az_.F n)
 h180:cA_.d.Ok E (cA_.F n)
 h181:ba_.d.Ok E (ba_.F n)
 h182:b2_.d.Ok E (b2_.F n)
 h183:laws_FnExactSessTake.d.Ok E (laws_FnExactSessTake.F n)
theorem kok (n nt:Nat) (a:AllOk n):KOk E (cx n nt):=KH_ok (l:=KL n) ⟨FD.kf (d:=laws_FnExactSessTake.d) Tryz.func3 (by kernel_rfl) (by kernel_rfl) (by kernel_rfl) a.h183,FD.kf (d:=dq_.d) Tryz.func4 (by kernel_rfl) (by kernel_rfl) (by kernel_rfl) a.h7,FD.kf (d:=cx_.d) Tryz.func5 (by kernel_rfl) (by kernel_rfl) (by kernel_rfl) a.h68,FD.kf (d:=cK_.d) Tryz.func6 (by kernel_rfl) (by kernel_rfl) (by kernel_rfl) a.h17,FD.kf (d:=cs_.d) Tryz.func7 (by kernel_rfl) (by kernel_rfl) (by kernel_rfl) a.h141,FD.kf (d:=cL_.d) Tryz.func8 (by kernel_rfl) (by kernel_rfl) (by kernel_rfl) a.h151,FD.kf (d:=cH_.d) Tryz.func9 (by kernel_rfl) (by kernel_rfl) (by kernel_rfl) a.h157,FD.kf (d:=cn_.d) Tryz.func10 (by kernel_rfl) (by kernel_rfl) (by kernel_rfl) a.h164,FD.kf (d:=ca_.d) Tryz.func11 (by kernel_rfl) (by kernel_rfl) (by kernel_rfl) a.h170,FD.kf (d:=cp_.d) Tryz.func12 (by kernel_rfl) (by kernel_rfl) (by kernel_rfl) a.h177,FD.kf (d:=b2_.d) Tryz.func13 (by kernel_rfl) (by kernel_rfl) (by kernel_rfl) a.h182,FD.kf (d:=dh_.d) Tryz.func14 (by kernel_rfl) (by kernel_rfl) (by kernel_rfl) a.h6,FD.kf (d:=cN_.d) Tryz.func15 (by kernel_rfl) (by kernel_rfl) (by kernel_rfl) a.h22,FD.kf (d:=cP_.d) Tryz.func16 (by kernel_rfl) (by kernel_rfl) (by kernel_rfl) a.h43,FD.kf (d:=ct_.d) Tryz.func17 (by kernel_rfl) (by kernel_rfl) (by kernel_rfl) a.h40,FD.kf (d:=cO_.d) Tryz.func18 (by kernel_rfl) (by kernel_rfl) (by kernel_rfl) a.h67,FD.kf (d:=b1_.d) Tryz.func19 (by kernel_rfl) (by kernel_rfl) (by kernel_rfl) a.h58,FD.kf (d:=cj_.d) Tryz.func20 (by kernel_rfl) (by kernel_rfl) (by kernel_rfl) a.h21,FD.kf (d:=c3_.d) Tryz.func21 (by kernel_rfl) (by kernel_rfl) (by kernel_rfl) a.h16,FD.kf (d:=cC_.d) Tryz.func22 (by kernel_rfl) (by kernel_rfl) (by kernel_rfl) a.h74,FD.kf (d:=cW_.d) Tryz.func23 (by kernel_rfl) (by kernel_rfl) (by kernel_rfl) a.h109,FD.kf (d:=cu_.d) Tryz.func24 (by kernel_rfl) (by kernel_rfl) (by kernel_rfl) a.h104,FD.kf (d:=cV_.d) Tryz.func25 (by kernel_rfl) (by kernel_rfl) (by kernel_rfl) a.h140,FD.kf (d:=b4_.d) Tryz.func26 (by kernel_rfl) (by kernel_rfl) (by kernel_rfl) a.h127,FD.kf (d:=bY_.d) Tryz.func27 (by kernel_rfl) (by kernel_rfl) (by kernel_rfl) a.h73,FD.kf (d:=c4_.d) Tryz.func28 (by kernel_rfl) (by kernel_rfl) (by kernel_rfl) a.h150,FD.kf (d:=b6_.d) Tryz.func29 (by kernel_rfl) (by kernel_rfl) (by kernel_rfl) a.h154,FD.kf (d:=bI_.d) Tryz.func30 (by kernel_rfl) (by kernel_rfl) (by kernel_rfl) a.h156,FD.kf (d:=cm_.d) Tryz.func31 (by kernel_rfl) (by kernel_rfl) (by kernel_rfl) a.h163,FD.kf (d:=cz_.d) Tryz.func32 (by kernel_rfl) (by kernel_rfl) (by kernel_rfl) a.h168,FD.kf (d:=a9_.d) Tryz.func33 (by kernel_rfl) (by kernel_rfl) (by kernel_rfl) a.h169,FD.kf (d:=co_.d) Tryz.func34 (by kernel_rfl) (by kernel_rfl) (by kernel_rfl) a.h176,FD.kf (d:=cA_.d) Tryz.func35 (by kernel_rfl) (by kernel_rfl) (by kernel_rfl) a.h180,FD.kf (d:=ba_.d) Tryz.func36 (by kernel_rfl) (by kernel_rfl) (by kernel_rfl) a.h181,FD.kf (d:=cY_.d) Tryz.func37 (by kernel_rfl) (by kernel_rfl) (by kernel_rfl) a.h2,FD.kf (d:=bi_.d) Tryz.func38 (by kernel_rfl) (by kernel_rfl) (by kernel_rfl) a.h4,FD.kf (d:=dr_.d) Tryz.func39 (by kernel_rfl) (by kernel_rfl) (by kernel_rfl) a.h5,FD.kf (d:=cy_.d) Tryz.func40 (by kernel_rfl) (by kernel_rfl) (by kernel_rfl) a.h42,FD.kf (d:=bH_.d) Tryz.func41 (by kernel_rfl) (by kernel_rfl) (by kernel_rfl) a.h39,FD.kf (d:=aO_.d) Tryz.func42 (by kernel_rfl) (by kernel_rfl) (by kernel_rfl) a.h24,FD.kf (d:=aJ_.d) Tryz.func43 (by kernel_rfl) (by kernel_rfl) (by kernel_rfl) a.h66,FD.kf (d:=cX_.d) Tryz.func44 (by kernel_rfl) (by kernel_rfl) (by kernel_rfl) a.h65,FD.kf (d:=b8_.d) Tryz.func45 (by kernel_rfl) (by kernel_rfl) (by kernel_rfl) a.h46,FD.kf (d:=dC_.d) Tryz.func46 (by kernel_rfl) (by kernel_rfl) (by kernel_rfl) a.h47,FD.kf (d:=a2_.d) Tryz.func47 (by kernel_rfl) (by kernel_rfl) (by kernel_rfl) a.h49,FD.kf (d:=bF_.d) Tryz.func48 (by kernel_rfl) (by kernel_rfl) (by kernel_rfl) a.h57,FD.kf (d:=dP_.d) Tryz.func49 (by kernel_rfl) (by kernel_rfl) (by kernel_rfl) a.h56,FD.kf (d:=db_.d) Tryz.func50 (by kernel_rfl) (by kernel_rfl) (by kernel_rfl) a.h18,FD.kf (d:=bv_.d) Tryz.func51 (by kernel_rfl) (by kernel_rfl) (by kernel_rfl) a.h20,FD.kf (d:=cQ_.d) Tryz.func52 (by kernel_rfl) (by kernel_rfl) (by kernel_rfl) a.h11,FD.kf (d:=bk_.d) Tryz.func53 (by kernel_rfl) (by kernel_rfl) (by kernel_rfl) a.h13,FD.kf (d:=bl_.d) Tryz.func54 (by kernel_rfl) (by kernel_rfl) (by kernel_rfl) a.h15,FD.kf (d:=cD_.d) Tryz.func55 (by kernel_rfl) (by kernel_rfl) (by kernel_rfl) a.h108,FD.kf (d:=dJ_.d) Tryz.func56 (by kernel_rfl) (by kernel_rfl) (by kernel_rfl) a.h103,FD.kf (d:=aF_.d) Tryz.func57 (by kernel_rfl) (by kernel_rfl) (by kernel_rfl) a.h76,FD.kf (d:=ce_.d) Tryz.func58 (by kernel_rfl) (by kernel_rfl) (by kernel_rfl) a.h139,FD.kf (d:=c6_.d) Tryz.func59 (by kernel_rfl) (by kernel_rfl) (by kernel_rfl) a.h138,FD.kf (d:=cd_.d) Tryz.func60 (by kernel_rfl) (by kernel_rfl) (by kernel_rfl) a.h112,FD.kf (d:=dI_.d) Tryz.func61 (by kernel_rfl) (by kernel_rfl) (by kernel_rfl) a.h113,FD.kf (d:=bD_.d) Tryz.func62 (by kernel_rfl) (by kernel_rfl) (by kernel_rfl) a.h114,FD.kf (d:=bG_.d) Tryz.func63 (by kernel_rfl) (by kernel_rfl) (by kernel_rfl) a.h126,FD.kf (d:=a1_.d) Tryz.func64 (by kernel_rfl) (by kernel_rfl) (by kernel_rfl) a.h124,FD.kf (d:=cc_.d) Tryz.func65 (by kernel_rfl) (by kernel_rfl) (by kernel_rfl) a.h70,FD.kf (d:=aZ_.d) Tryz.func66 (by kernel_rfl) (by kernel_rfl) (by kernel_rfl) a.h72,FD.kf (d:=cR_.d) Tryz.func67 (by kernel_rfl) (by kernel_rfl) (by kernel_rfl) a.h145,FD.kf (d:=bw_.d) Tryz.func68 (by kernel_rfl) (by kernel_rfl) (by kernel_rfl) a.h147,FD.kf (d:=bx_.d) Tryz.func69 (by kernel_rfl) (by kernel_rfl) (by kernel_rfl) a.h149,FD.kf (d:=bb_.d) Tryz.func70 (by kernel_rfl) (by kernel_rfl) (by kernel_rfl) a.h152,FD.kf (d:=aM_.d) Tryz.func71 (by kernel_rfl) (by kernel_rfl) (by kernel_rfl) a.h153,FD.kf (d:=dS_.d) Tryz.func72 (by kernel_rfl) (by kernel_rfl) (by kernel_rfl) a.h155,FD.kf (d:=b9_.d) Tryz.func73 (by kernel_rfl) (by kernel_rfl) (by kernel_rfl) a.h160,FD.kf (d:=aU_.d) Tryz.func74 (by kernel_rfl) (by kernel_rfl) (by kernel_rfl) a.h161,FD.kf (d:=aV_.d) Tryz.func75 (by kernel_rfl) (by kernel_rfl) (by kernel_rfl) a.h162,FD.kf (d:=ay_.d) Tryz.func76 (by kernel_rfl) (by kernel_rfl) (by kernel_rfl) a.h167,FD.kf (d:=aq_.d) Tryz.func77 (by kernel_rfl) (by kernel_rfl) (by kernel_rfl) a.h166,FD.kf (d:=aH_.d) Tryz.func78 (by kernel_rfl) (by kernel_rfl) (by kernel_rfl) a.h165,FD.kf (d:=cb_.d) Tryz.func79 (by kernel_rfl) (by kernel_rfl) (by kernel_rfl) a.h173,FD.kf (d:=aW_.d) Tryz.func80 (by kernel_rfl) (by kernel_rfl) (by kernel_rfl) a.h174,FD.kf (d:=aX_.d) Tryz.func81 (by kernel_rfl) (by kernel_rfl) (by kernel_rfl) a.h175,FD.kf (d:=az_.d) Tryz.func82 (by kernel_rfl) (by kernel_rfl) (by kernel_rfl) a.h179,FD.kf (d:=ar_.d) Tryz.func83 (by kernel_rfl) (by kernel_rfl) (by kernel_rfl) a.h178,FD.kf (d:=cZ_.d) Tryz.func84 (by kernel_rfl) (by kernel_rfl) (by kernel_rfl) a.h0,FD.kf (d:=di_.d) Tryz.func85 (by kernel_rfl) (by kernel_rfl) (by kernel_rfl) a.h1,FD.kf (d:=dM_.d) Tryz.func86 (by kernel_rfl) (by kernel_rfl) (by kernel_rfl) a.h3,FD.kf (d:=ch_.d) Tryz.func87 (by kernel_rfl) (by kernel_rfl) (by kernel_rfl) a.h37,FD.kf (d:=al_.d) Tryz.func88 (by kernel_rfl) (by kernel_rfl) (by kernel_rfl) a.h41,FD.kf (d:=cl_.d) Tryz.func89 (by kernel_rfl) (by kernel_rfl) (by kernel_rfl) a.h27,FD.kf (d:=bg_.d) Tryz.func90 (by kernel_rfl) (by kernel_rfl) (by kernel_rfl) a.h33,FD.kf (d:=cf_.d) Tryz.func91 (by kernel_rfl) (by kernel_rfl) (by kernel_rfl) a.h38,FD.kf (d:=cv_.d) Tryz.func92 (by kernel_rfl) (by kernel_rfl) (by kernel_rfl) a.h31,FD.kf (d:=bp_.d) Tryz.func93 (by kernel_rfl) (by kernel_rfl) (by kernel_rfl) a.h23,FD.kf (d:=df_.d) Tryz.func94 (by kernel_rfl) (by kernel_rfl) (by kernel_rfl) a.h62,FD.kf (d:=aE_.d) Tryz.func95 (by kernel_rfl) (by kernel_rfl) (by kernel_rfl) a.h64,FD.kf (d:=bd_.d) Tryz.func96 (by kernel_rfl) (by kernel_rfl) (by kernel_rfl) a.h44,FD.kf (d:=bu_.d) Tryz.func97 (by kernel_rfl) (by kernel_rfl) (by kernel_rfl) a.h45,FD.kf (d:=de_.d) Tryz.func98 (by kernel_rfl) (by kernel_rfl) (by kernel_rfl) a.h48,FD.kf (d:=a7_.d) Tryz.func99 (by kernel_rfl) (by kernel_rfl) (by kernel_rfl) a.h53,FD.kf (d:=aD_.d) Tryz.func100 (by kernel_rfl) (by kernel_rfl) (by kernel_rfl) a.h51,FD.kf (d:=aA_.d) Tryz.func101 (by kernel_rfl) (by kernel_rfl) (by kernel_rfl) a.h55,FD.kf (d:=dd_.d) Tryz.func102 (by kernel_rfl) (by kernel_rfl) (by kernel_rfl) a.h19,FD.kf (d:=a4_.d) Tryz.func103 (by kernel_rfl) (by kernel_rfl) (by kernel_rfl) a.h9,FD.kf (d:=bh_.d) Tryz.func104 (by kernel_rfl) (by kernel_rfl) (by kernel_rfl) a.h10,FD.kf (d:=dD_.d) Tryz.func105 (by kernel_rfl) (by kernel_rfl) (by kernel_rfl) a.h12,FD.kf (d:=dE_.d) Tryz.func106 (by kernel_rfl) (by kernel_rfl) (by kernel_rfl) a.h14,FD.kf (d:=cw_.d) Tryz.func107 (by kernel_rfl) (by kernel_rfl) (by kernel_rfl) a.h96,FD.kf (d:=c1_.d) Tryz.func108 (by kernel_rfl) (by kernel_rfl) (by kernel_rfl) a.h107,FD.kf (d:=a5_.d) Tryz.func109 (by kernel_rfl) (by kernel_rfl) (by kernel_rfl) a.h99,FD.kf (d:=ak_.d) Tryz.func110 (by kernel_rfl) (by kernel_rfl) (by kernel_rfl) a.h102,FD.kf (d:=cE_.d) Tryz.func111 (by kernel_rfl) (by kernel_rfl) (by kernel_rfl) a.h100,FD.kf (d:=cq_.d) Tryz.func112 (by kernel_rfl) (by kernel_rfl) (by kernel_rfl) a.h97,FD.kf (d:=by_.d) Tryz.func113 (by kernel_rfl) (by kernel_rfl) (by kernel_rfl) a.h75,FD.kf (d:=a6_.d) Tryz.func114 (by kernel_rfl) (by kernel_rfl) (by kernel_rfl) a.h134,FD.kf (d:=aQ_.d) Tryz.func115 (by kernel_rfl) (by kernel_rfl) (by kernel_rfl) a.h137,FD.kf (d:=as_.d) Tryz.func116 (by kernel_rfl) (by kernel_rfl) (by kernel_rfl) a.h110,FD.kf (d:=aC_.d) Tryz.func117 (by kernel_rfl) (by kernel_rfl) (by kernel_rfl) a.h111,FD.kf (d:=dl_.d) Tryz.func118 (by kernel_rfl) (by kernel_rfl) (by kernel_rfl) a.h125,FD.kf (d:=bc_.d) Tryz.func119 (by kernel_rfl) (by kernel_rfl) (by kernel_rfl) a.h115,FD.kf (d:=dw_.d) Tryz.func120 (by kernel_rfl) (by kernel_rfl) (by kernel_rfl) a.h118,FD.kf (d:=c7_.d) Tryz.func121 (by kernel_rfl) (by kernel_rfl) (by kernel_rfl) a.h119,FD.kf (d:=bo_.d) Tryz.func122 (by kernel_rfl) (by kernel_rfl) (by kernel_rfl) a.h120,FD.kf (d:=aI_.d) Tryz.func123 (by kernel_rfl) (by kernel_rfl) (by kernel_rfl) a.h122,FD.kf (d:=bn_.d) Tryz.func124 (by kernel_rfl) (by kernel_rfl) (by kernel_rfl) a.h123,FD.kf (d:=cr_.d) Tryz.func125 (by kernel_rfl) (by kernel_rfl) (by kernel_rfl) a.h69,FD.kf (d:=cU_.d) Tryz.func126 (by kernel_rfl) (by kernel_rfl) (by kernel_rfl) a.h71,FD.kf (d:=be_.d) Tryz.func127 (by kernel_rfl) (by kernel_rfl) (by kernel_rfl) a.h143,FD.kf (d:=bs_.d) Tryz.func128 (by kernel_rfl) (by kernel_rfl) (by kernel_rfl) a.h144,FD.kf (d:=dF_.d) Tryz.func129 (by kernel_rfl) (by kernel_rfl) (by kernel_rfl) a.h146,FD.kf (d:=dG_.d) Tryz.func130 (by kernel_rfl) (by kernel_rfl) (by kernel_rfl) a.h148,FD.kf (d:=aK_.d) Tryz.func131 (by kernel_rfl) (by kernel_rfl) (by kernel_rfl) a.h158,FD.kf (d:=aR_.d) Tryz.func132 (by kernel_rfl) (by kernel_rfl) (by kernel_rfl) a.h159,FD.kf (d:=aL_.d) Tryz.func133 (by kernel_rfl) (by kernel_rfl) (by kernel_rfl) a.h171,FD.kf (d:=aS_.d) Tryz.func134 (by kernel_rfl) (by kernel_rfl) (by kernel_rfl) a.h172,FD.kf (d:=aG_.d) Tryz.func135 (by kernel_rfl) (by kernel_rfl) (by kernel_rfl) a.h36,FD.kf (d:=dB_.d) Tryz.func136 (by kernel_rfl) (by kernel_rfl) (by kernel_rfl) a.h26,FD.kf (d:=dA_.d) Tryz.func137 (by kernel_rfl) (by kernel_rfl) (by kernel_rfl) a.h25,FD.kf (d:=bz_.d) Tryz.func138 (by kernel_rfl) (by kernel_rfl) (by kernel_rfl) a.h32,FD.kf (d:=aN_.d) Tryz.func139 (by kernel_rfl) (by kernel_rfl) (by kernel_rfl) a.h28,FD.kf (d:=dc_.d) Tryz.func140 (by kernel_rfl) (by kernel_rfl) (by kernel_rfl) a.h30,FD.kf (d:=bN_.d) Tryz.func141 (by kernel_rfl) (by kernel_rfl) (by kernel_rfl) a.h59,FD.kf (d:=cM_.d) Tryz.func142 (by kernel_rfl) (by kernel_rfl) (by kernel_rfl) a.h60,FD.kf (d:=aw_.d) Tryz.func143 (by kernel_rfl) (by kernel_rfl) (by kernel_rfl) a.h61,FD.kf (d:=a3_.d) Tryz.func144 (by kernel_rfl) (by kernel_rfl) (by kernel_rfl) a.h63,FD.kf (d:=bM_.d) Tryz.func145 (by kernel_rfl) (by kernel_rfl) (by kernel_rfl) a.h50,FD.kf (d:=b0_.d) Tryz.func146 (by kernel_rfl) (by kernel_rfl) (by kernel_rfl) a.h52,FD.kf (d:=ck_.d) Tryz.func147 (by kernel_rfl) (by kernel_rfl) (by kernel_rfl) a.h54,FD.kf (d:=dg_.d) Tryz.func148 (by kernel_rfl) (by kernel_rfl) (by kernel_rfl) a.h8,FD.kf (d:=a8_.d) Tryz.func149 (by kernel_rfl) (by kernel_rfl) (by kernel_rfl) a.h95,FD.kf (d:=aj_.d) Tryz.func150 (by kernel_rfl) (by kernel_rfl) (by kernel_rfl) a.h105,FD.kf (d:=ad_.d) Tryz.func151 (by kernel_rfl) (by kernel_rfl) (by kernel_rfl) a.h106,FD.kf (d:=cT_.d) Tryz.func152 (by kernel_rfl) (by kernel_rfl) (by kernel_rfl) a.h77,FD.kf (d:=bm_.d) Tryz.func153 (by kernel_rfl) (by kernel_rfl) (by kernel_rfl) a.h98,FD.kf (d:=ac_.d) Tryz.func154 (by kernel_rfl) (by kernel_rfl) (by kernel_rfl) a.h101,FD.kf (d:=dn_.d) Tryz.func155 (by kernel_rfl) (by kernel_rfl) (by kernel_rfl) a.h133,FD.kf (d:=bt_.d) Tryz.func156 (by kernel_rfl) (by kernel_rfl) (by kernel_rfl) a.h135,FD.kf (d:=strconv_Itoa.d) Tryz.func157 (by kernel_rfl) (by kernel_rfl) (by kernel_rfl) a.h80,FD.kf (d:=strings_Join.d) Tryz.func158 (by kernel_rfl) (by kernel_rfl) (by kernel_rfl) a.h136,FD.kf (d:=bV_.d) Tryz.func159 (by kernel_rfl) (by kernel_rfl) (by kernel_rfl) a.h121,FD.kf (d:=br_.d) Tryz.func160 (by kernel_rfl) (by kernel_rfl) (by kernel_rfl) a.h79,FD.kf (d:=ab_.d) Tryz.func161 (by kernel_rfl) (by kernel_rfl) (by kernel_rfl) a.h117,FD.kf (d:=cB_.d) Tryz.func162 (by kernel_rfl) (by kernel_rfl) (by kernel_rfl) a.h116,FD.kf (d:=dj_.d) Tryz.func165 (by kernel_rfl) (by kernel_rfl) (by kernel_rfl) a.h142,FD.kf (d:=dy_.d) Tryz.func166 (by kernel_rfl) (by kernel_rfl) (by kernel_rfl) a.h29,FD.kf (d:=bj_.d) Tryz.func167 (by kernel_rfl) (by kernel_rfl) (by kernel_rfl) a.h34,FD.kf (d:=ag_.d) Tryz.func168 (by kernel_rfl) (by kernel_rfl) (by kernel_rfl) a.h35,FD.kf (d:=dH_.d) Tryz.func169 (by kernel_rfl) (by kernel_rfl) (by kernel_rfl) a.h94,FD.kf (d:=dk_.d) Tryz.func170 (by kernel_rfl) (by kernel_rfl) (by kernel_rfl) a.h81,FD.kf (d:=dm_.d) Tryz.func171 (by kernel_rfl) (by kernel_rfl) (by kernel_rfl) a.h83,FD.kf (d:=bC_.d) Tryz.func172 (by kernel_rfl) (by kernel_rfl) (by kernel_rfl) a.h90,FD.kf (d:=bO_.d) Tryz.func173 (by kernel_rfl) (by kernel_rfl) (by kernel_rfl) a.h129,FD.kf (d:=cS_.d) Tryz.func174 (by kernel_rfl) (by kernel_rfl) (by kernel_rfl) a.h130,FD.kf (d:=bf_.d) Tryz.func175 (by kernel_rfl) (by kernel_rfl) (by kernel_rfl) a.h132,FD.kf (d:=aB_.d) Tryz.func180 (by kernel_rfl) (by kernel_rfl) (by kernel_rfl) a.h78,FD.kf (d:=aY_.d) Tryz.func182 (by kernel_rfl) (by kernel_rfl) (by kernel_rfl) a.h82,FD.kf (d:=bA_.d) Tryz.func183 (by kernel_rfl) (by kernel_rfl) (by kernel_rfl) a.h91,FD.kf (d:=ax_.d) Tryz.func184 (by kernel_rfl) (by kernel_rfl) (by kernel_rfl) a.h92,FD.kf (d:=am_.d) Tryz.func185 (by kernel_rfl) (by kernel_rfl) (by kernel_rfl) a.h93,FD.kf (d:=af_.d) Tryz.func186 (by kernel_rfl) (by kernel_rfl) (by kernel_rfl) a.h87,FD.kf (d:=bK_.d) Tryz.func187 (by kernel_rfl) (by kernel_rfl) (by kernel_rfl) a.h88,FD.kf (d:=bR_.d) Tryz.func188 (by kernel_rfl) (by kernel_rfl) (by kernel_rfl) a.h89,FD.kf (d:=c5_.d) Tryz.func189 (by kernel_rfl) (by kernel_rfl) (by kernel_rfl) a.h128,FD.kf (d:=strings_ReplaceAll.d) Tryz.func190 (by kernel_rfl) (by kernel_rfl) (by kernel_rfl) a.h131,FD.kf (d:=bS_.d) Tryz.func195 (by kernel_rfl) (by kernel_rfl) (by kernel_rfl) a.h85,FD.kf (d:=bq_.d) Tryz.func196 (by kernel_rfl) (by kernel_rfl) (by kernel_rfl) a.h86,FD.kf (d:=bL_.d) Tryz.func208 (by kernel_rfl) (by kernel_rfl) (by kernel_rfl) a.h84,trivial⟩
theorem da_ (n nt:Nat) (a:AllOk n):CxOk E (cx n nt):=⟨ttOk,tcOk,u8Ok,kok n nt a⟩
theorem bE_:∀ n,AllOk n
 |0=>⟨fun _ _ h=>(by cases h),fun _ _ h=>(by cases h),fun _ _ h=>(by cases h),fun _ _ h=>(by cases h),fun _ _ h=>(by cases h),fun _ _ h=>(by cases h),fun _ _ h=>(by cases h),fun _ _ h=>(by cases h),fun _ _ h=>(by cases h),fun _ _ h=>(by cases h),fun _ _ h=>(by cases h),fun _ _ h=>(by cases h),fun _ _ h=>(by cases h),fun _ _ h=>(by cases h),fun _ _ h=>(by cases h),fun _ _ h=>(by cases h),fun _ _ h=>(by cases h),fun _ _ h=>(by cases h),fun _ _ h=>(by cases h),fun _ _ h=>(by cases h),fun _ _ h=>(by cases h),fun _ _ h=>(by cases h),fun _ _ h=>(by cases h),fun _ _ h=>(by cases h),fun _ _ h=>(by cases h),fun _ _ h=>(by cases h),fun _ _ h=>(by cases h),fun _ _ h=>(by cases h),fun _ _ h=>(by cases h),fun _ _ h=>(by cases h),fun _ _ h=>(by cases h),fun _ _ h=>(by cases h),fun _ _ h=>(by cases h),fun _ _ h=>(by cases h),fun _ _ h=>(by cases h),fun _ _ h=>(by cases h),fun _ _ h=>(by cases h),fun _ _ h=>(by cases h),fun _ _ h=>(by cases h),fun _ _ h=>(by cases h),fun _ _ h=>(by cases h),fun _ _ h=>(by cases h),fun _ _ h=>(by cases h),fun _ _ h=>(by cases h),fun _ _ h=>(by cases h),fun _ _ h=>(by cases h),fun _ _ h=>(by cases h),fun _ _ h=>(by cases h),fun _ _ h=>(by cases h),fun _ _ h=>(by cases h),fun _ _ h=>(by cases h),fun _ _ h=>(by cases h),fun _ _ h=>(by cases h),fun _ _ h=>(by cases h),fun _ _ h=>(by cases h),fun _ _ h=>(by cases h),fun _ _ h=>(by cases h),fun _ _ h=>(by cases h),fun _ _ h=>(by cases h),fun _ _ h=>(by cases h),fun _ _ h=>(by cases h),fun _ _ h=>(by cases h),fun _ _ h=>(by cases h),fun _ _ h=>(by cases h),fun _ _ h=>(by cases h),fun _ _ h=>(by cases h),fun _ _ h=>(by cases h),fun _ _ h=>(by cases h),fun _ _ h=>(by cases h),fun _ _ h=>(by cases h),fun _ _ h=>(by cases h),fun _ _ h=>(by cases h),fun _ _ h=>(by cases h),fun _ _ h=>(by cases h),fun _ _ h=>(by cases h),fun _ _ h=>(by cases h),fun _ _ h=>(by cases h),fun _ _ h=>(by cases h),fun _ _ h=>(by cases h),fun _ _ h=>(by cases h),fun _ _ h=>(by cases h),fun _ _ h=>(by cases h),fun _ _ h=>(by cases h),fun _ _ h=>(by cases h),fun _ _ h=>(by cases h),fun _ _ h=>(by cases h),fun _ _ h=>(by cases h),fun _ _ h=>(by cases h),fun _ _ h=>(by cases h),fun _ _ h=>(by cases h),fun _ _ h=>(by cases h),fun _ _ h=>(by cases h),fun _ _ h=>(by cases h),fun _ _ h=>(by cases h),fun _ _ h=>(by cases h),fun _ _ h=>(by cases h),fun _ _ h=>(by cases h),fun _ _ h=>(by cases h),fun _ _ h=>(by cases h),fun _ _ h=>(by cases h),fun _ _ h=>(by cases h),fun _ _ h=>(by cases h),fun _ _ h=>(by cases h),fun _ _ h=>(by cases h),fun _ _ h=>(by cases h),fun _ _ h=>(by cases h),fun _ _ h=>(by cases h),fun _ _ h=>(by cases h),fun _ _ h=>(by cases h),fun _ _ h=>(by cases h),fun _ _ h=>(by cases h),fun _ _ h=>(by cases h),fun _ _ h=>(by cases h),fun _ _ h=>(by cases h),fun _ _ h=>(by cases h),fun _ _ h=>(by cases h),fun _ _ h=>(by cases h),fun _ _ h=>(by cases h),fun _ _ h=>(by cases h),fun _ _ h=>(by cases h),fun _ _ h=>(by cases h),fun _ _ h=>(by cases h),fun _ _ h=>(by cases h),fun _ _ h=>(by cases h),fun _ _ h=>(by cases h),fun _ _ h=>(by cases h),fun _ _ h=>(by cases h),fun _ _ h=>(by cases h),fun _ _ h=>(by cases h),fun _ _ h=>(by cases h),fun _ _ h=>(by cases h),fun _ _ h=>(by cases h),fun _ _ h=>(by cases h),fun _ _ h=>(by cases h),fun _ _ h=>(by cases h),fun _ _ h=>(by cases h),fun _ _ h=>(by cases h),fun _ _ h=>(by cases h),fun _ _ h=>(by cases h),fun _ _ h=>(by cases h),fun _ _ h=>(by cases h),fun _ _ h=>(by cases h),fun _ _ h=>(by cases h),fun _ _ h=>(by cases h),fun _ _ h=>(by cases h),fun _ _ h=>(by cases h),fun _ _ h=>(by cases h),fun _ _ h=>(by cases h),fun _ _ h=>(by cases h),fun _ _ h=>(by cases h),fun _ _ h=>(by cases h),fun _ _ h=>(by cases h),fun _ _ h=>(by cases h),fun _ _ h=>(by cases h),fun _ _ h=>(by cases h),fun _ _ h=>(by cases h),fun _ _ h=>(by cases h),fun _ _ h=>(by cases h),fun _ _ h=>(by cases h),fun _ _ h=>(by cases h),fun _ _ h=>(by cases h),fun _ _ h=>(by cases h),fun _ _ h=>(by cases h),fun _ _ h=>(by cases h),fun _ _ h=>(by cases h),fun _ _ h=>(by cases h),fun _ _ h=>(by cases h),fun _ _ h=>(by cases h),fun _ _ h=>(by cases h),fun _ _ h=>(by cases h),fun _ _ h=>(by cases h),fun _ _ h=>(by cases h),fun _ _ h=>(by cases h),fun _ _ h=>(by cases h),fun _ _ h=>(by cases h),fun _ _ h=>(by cases h),fun _ _ h=>(by cases h),fun _ _ h=>(by cases h),fun _ _ h=>(by cases h),fun _ _ h=>(by cases h),fun _ _ h=>(by cases h),fun _ _ h=>(by cases h),fun _ _ h=>(by cases h),fun _ _ h=>(by cases h)⟩
 |n+1=>⟨cZ_.ok n (da_ n _ (bE_ n)) (kpar n _),di_.ok n (da_ n _ (bE_ n)) (kpar n _),cY_.ok n (da_ n _ (bE_ n)) (kpar n _),dM_.ok n (da_ n _ (bE_ n)) (kpar n _),bi_.ok n (da_ n _ (bE_ n)) (kpar n _),dr_.ok n (da_ n _ (bE_ n)) (kpar n _),dh_.ok n (da_ n _ (bE_ n)) (kpar n _),dq_.ok n (da_ n _ (bE_ n)) (kpar n _),dg_.ok n (da_ n _ (bE_ n)) (kpar n _),a4_.ok n (da_ n _ (bE_ n)) (kpar n _),bh_.ok n (da_ n _ (bE_ n)) (kpar n _),cQ_.ok n (da_ n _ (bE_ n)) (kpar n _),dD_.ok n (da_ n _ (bE_ n)) (kpar n _),bk_.ok n (da_ n _ (bE_ n)) (kpar n _),dE_.ok n (da_ n _ (bE_ n)) (kpar n _),bl_.ok n (da_ n _ (bE_ n)) (kpar n _),c3_.ok n (da_ n _ (bE_ n)) (kpar n _),cK_.ok n (da_ n _ (bE_ n)) (kpar n _),db_.ok n (da_ n _ (bE_ n)) (kpar n _),dd_.ok n (da_ n _ (bE_ n)) (kpar n _),bv_.ok n (da_ n _ (bE_ n)) (kpar n _),cj_.ok n (da_ n _ (bE_ n)) (kpar n _),cN_.ok n (da_ n _ (bE_ n)) (kpar n _),bp_.ok n (da_ n _ (bE_ n)) (kpar n _),aO_.ok n (da_ n _ (bE_ n)) (kpar n _),dA_.ok n (da_ n _ (bE_ n)) (kpar n _),dB_.ok n (da_ n _ (bE_ n)) (kpar n _),cl_.ok n (da_ n _ (bE_ n)) (kpar n _),aN_.ok n (da_ n _ (bE_ n)) (kpar n _),dy_.ok n (da_ n _ (bE_ n)) (kpar n _),dc_.ok n (da_ n _ (bE_ n)) (kpar n _),cv_.ok n (da_ n _ (bE_ n)) (kpar n _),bz_.ok n (da_ n _ (bE_ n)) (kpar n _),bg_.ok n (da_ n _ (bE_ n)) (kpar n _),bj_.ok n (da_ n _ (bE_ n)) (kpar n _),ag_.ok n (da_ n _ (bE_ n)) (kpar n _),aG_.ok n (da_ n _ (bE_ n)) (kpar n _),ch_.ok n (da_ n _ (bE_ n)) (kpar n _),cf_.ok n (da_ n _ (bE_ n)) (kpar n _),bH_.ok n (da_ n _ (bE_ n)) (kpar n _),ct_.ok n (da_ n _ (bE_ n)) (kpar n _),al_.ok n (da_ n _ (bE_ n)) (kpar n _),cy_.ok n (da_ n _ (bE_ n)) (kpar n _),cP_.ok n (da_ n _ (bE_ n)) (kpar n _),bd_.ok n (da_ n _ (bE_ n)) (kpar n _),bu_.ok n (da_ n _ (bE_ n)) (kpar n _),b8_.ok n (da_ n _ (bE_ n)) (kpar n _),dC_.ok n (da_ n _ (bE_ n)) (kpar n _),de_.ok n (da_ n _ (bE_ n)) (kpar n _),a2_.ok n (da_ n _ (bE_ n)) (kpar n _),bM_.ok n (da_ n _ (bE_ n)) (kpar n _),aD_.ok n (da_ n _ (bE_ n)) (kpar n _),b0_.ok n (da_ n _ (bE_ n)) (kpar n _),a7_.ok n (da_ n _ (bE_ n)) (kpar n _),ck_.ok n (da_ n _ (bE_ n)) (kpar n _),aA_.ok n (da_ n _ (bE_ n)) (kpar n _),dP_.ok n (da_ n _ (bE_ n)) (kpar n _),bF_.ok n (da_ n _ (bE_ n)) (kpar n _),b1_.ok n (da_ n _ (bE_ n)) (kpar n _),bN_.ok n (da_ n _ (bE_ n)) (kpar n _),cM_.ok n (da_ n _ (bE_ n)) (kpar n _),aw_.ok n (da_ n _ (bE_ n)) (kpar n _),df_.ok n (da_ n _ (bE_ n)) (kpar n _),a3_.ok n (da_ n _ (bE_ n)) (kpar n _),aE_.ok n (da_ n _ (bE_ n)) (kpar n _),cX_.ok n (da_ n _ (bE_ n)) (kpar n _),aJ_.ok n (da_ n _ (bE_ n)) (kpar n _),cO_.ok n (da_ n _ (bE_ n)) (kpar n _),cx_.ok n (da_ n _ (bE_ n)) (kpar n _),cr_.ok n (da_ n _ (bE_ n)) (kpar n _),cc_.ok n (da_ n _ (bE_ n)) (kpar n _),cU_.ok n (da_ n _ (bE_ n)) (kpar n _),aZ_.ok n (da_ n _ (bE_ n)) (kpar n _),bY_.ok n (da_ n _ (bE_ n)) (kpar n _),cC_.ok n (da_ n _ (bE_ n)) (kpar n _),by_.ok n (da_ n _ (bE_ n)) (kpar n _),aF_.ok n (da_ n _ (bE_ n)) (kpar n _),cT_.ok n (da_ n _ (bE_ n)) (kpar n _),aB_.ok n (da_ n _ (bE_ n)) (kpar n _),br_.ok n (da_ n _ (bE_ n)) (kpar n _),strconv_Itoa.ok n (da_ n _ (bE_ n)) (kpar n _),dk_.ok n (da_ n _ (bE_ n)) (kpar n _),aY_.ok n (da_ n _ (bE_ n)) (kpar n _),dm_.ok n (da_ n _ (bE_ n)) (kpar n _),bL_.ok n (da_ n _ (bE_ n)) (kpar n _),bS_.ok n (da_ n _ (bE_ n)) (kpar n _),bq_.ok n (da_ n _ (bE_ n)) (kpar n _),af_.ok n (da_ n _ (bE_ n)) (kpar n _),bK_.ok n (da_ n _ (bE_ n)) (kpar n _),bR_.ok n (da_ n _ (bE_ n)) (kpar n _),bC_.ok n (da_ n _ (bE_ n)) (kpar n _),bA_.ok n (da_ n _ (bE_ n)) (kpar n _),ax_.ok n (da_ n _ (bE_ n)) (kpar n _),am_.ok n (da_ n _ (bE_ n)) (kpar n _),dH_.ok n (da_ n _ (bE_ n)) (kpar n _),a8_.ok n (da_ n _ (bE_ n)) (kpar n _),cw_.ok n (da_ n _ (bE_ n)) (kpar n _),cq_.ok n (da_ n _ (bE_ n)) (kpar n _),bm_.ok n (da_ n _ (bE_ n)) (kpar n _),a5_.ok n (da_ n _ (bE_ n)) (kpar n _),cE_.ok n (da_ n _ (bE_ n)) (kpar n _),ac_.ok n (da_ n _ (bE_ n)) (kpar n _),ak_.ok n (da_ n _ (bE_ n)) (kpar n _),dJ_.ok n (da_ n _ (bE_ n)) (kpar n _),cu_.ok n (da_ n _ (bE_ n)) (kpar n _),aj_.ok n (da_ n _ (bE_ n)) (kpar n _),ad_.ok n (da_ n _ (bE_ n)) (kpar n _),c1_.ok n (da_ n _ (bE_ n)) (kpar n _),cD_.ok n (da_ n _ (bE_ n)) (kpar n _),cW_.ok n (da_ n _ (bE_ n)) (kpar n _),as_.ok n (da_ n _ (bE_ n)) (kpar n _),aC_.ok n (da_ n _ (bE_ n)) (kpar n _),cd_.ok n (da_ n _ (bE_ n)) (kpar n _),dI_.ok n (da_ n _ (bE_ n)) (kpar n _),bD_.ok n (da_ n _ (bE_ n)) (kpar n _),bc_.ok n (da_ n _ (bE_ n)) (kpar n _),cB_.ok n (da_ n _ (bE_ n)) (kpar n _),ab_.ok n (da_ n _ (bE_ n)) (kpar n _),dw_.ok n (da_ n _ (bE_ n)) (kpar n _),c7_.ok n (da_ n _ (bE_ n)) (kpar n _),bo_.ok n (da_ n _ (bE_ n)) (kpar n _),bV_.ok n (da_ n _ (bE_ n)) (kpar n _),aI_.ok n (da_ n _ (bE_ n)) (kpar n _),bn_.ok n (da_ n _ (bE_ n)) (kpar n _),a1_.ok n (da_ n _ (bE_ n)) (kpar n _),dl_.ok n (da_ n _ (bE_ n)) (kpar n _),bG_.ok n (da_ n _ (bE_ n)) (kpar n _),b4_.ok n (da_ n _ (bE_ n)) (kpar n _),c5_.ok n (da_ n _ (bE_ n)) (kpar n _),bO_.ok n (da_ n _ (bE_ n)) (kpar n _),cS_.ok n (da_ n _ (bE_ n)) (kpar n _),strings_ReplaceAll.ok n (da_ n _ (bE_ n)) (kpar n _),bf_.ok n (da_ n _ (bE_ n)) (kpar n _),dn_.ok n (da_ n _ (bE_ n)) (kpar n _),a6_.ok n (da_ n _ (bE_ n)) (kpar n _),bt_.ok n (da_ n _ (bE_ n)) (kpar n _),strings_Join.ok n (da_ n _ (bE_ n)) (kpar n _),aQ_.ok n (da_ n _ (bE_ n)) (kpar n _),c6_.ok n (da_ n _ (bE_ n)) (kpar n _),ce_.ok n (da_ n _ (bE_ n)) (kpar n _),cV_.ok n (da_ n _ (bE_ n)) (kpar n _),cs_.ok n (da_ n _ (bE_ n)) (kpar n _),dj_.ok n (da_ n _ (bE_ n)) (kpar n _),be_.ok n (da_ n _ (bE_ n)) (kpar n _),bs_.ok n (da_ n _ (bE_ n)) (kpar n _),cR_.ok n (da_ n _ (bE_ n)) (kpar n _),dF_.ok n (da_ n _ (bE_ n)) (kpar n _),bw_.ok n (da_ n _ (bE_ n)) (kpar n _),dG_.ok n (da_ n _ (bE_ n)) (kpar n _),bx_.ok n (da_ n _ (bE_ n)) (kpar n _),c4_.ok n (da_ n _ (bE_ n)) (kpar n _),cL_.ok n (da_ n _ (bE_ n)) (kpar n _),bb_.ok n (da_ n _ (bE_ n)) (kpar n _),aM_.ok n (da_ n _ (bE_ n)) (kpar n _),b6_.ok n (da_ n _ (bE_ n)) (kpar n _),dS_.ok n (da_ n _ (bE_ n)) (kpar n _),bI_.ok n (da_ n _ (bE_ n)) (kpar n _),cH_.ok n (da_ n _ (bE_ n)) (kpar n _),aK_.ok n (da_ n _ (bE_ n)) (kpar n _),aR_.ok n (da_ n _ (bE_ n)) (kpar n _),b9_.ok n (da_ n _ (bE_ n)) (kpar n _),aU_.ok n (da_ n _ (bE_ n)) (kpar n _),aV_.ok n (da_ n _ (bE_ n)) (kpar n _),cm_.ok n (da_ n _ (bE_ n)) (kpar n _),cn_.ok n (da_ n _ (bE_ n)) (kpar n _),aH_.ok n (da_ n _ (bE_ n)) (kpar n _),aq_.ok n (da_ n _ (bE_ n)) (kpar n _),ay_.ok n (da_ n _ (bE_ n)) (kpar n _),cz_.ok n (da_ n _ (bE_ n)) (kpar n _),a9_.ok n (da_ n _ (bE_ n)) (kpar n _),ca_.ok n (da_ n _ (bE_ n)) (kpar n _),aL_.ok n (da_ n _ (bE_ n)) (kpar n _),aS_.ok n (da_ n _ (bE_ n)) (kpar n _),cb_.ok n (da_ n _ (bE_ n)) (kpar n _),aW_.ok n (da_ n _ (bE_ n)) (kpar n _),aX_.ok n (da_ n _ (bE_ n)) (kpar n _),co_.ok n (da_ n _ (bE_ n)) (kpar n _),cp_.ok n (da_ n _ (bE_ n)) (kpar n _),ar_.ok n (da_ n _ (bE_ n)) (kpar n _),az_.ok n (da_ n _ (bE_ n)) (kpar n _),cA_.ok n (da_ n _ (bE_ n)) (kpar n _),ba_.ok n (da_ n _ (bE_ n)) (kpar n _),b2_.ok n (da_ n _ (bE_ n)) (kpar n _),laws_FnExactSessTake.ok n (da_ n _ (bE_ n)) (kpar n _)⟩
end Go.Pi
end
section
namespace Go.Pi
inductive Kd where
 |i (k:IntKind)
 |b
 |s
 |sl (t:TC)
def kdsL (P:Program) (rec_:TypeId→Option (List Kd)):List Field→Nat→Option (List Kd)
 |[],_=>some []
 |f::fs,off=>cond (Nat.beq f.offset off) (match rec_ f.type with
  |some ks=>cond (Nat.beq (P.cellsOf f.type) ks.length) (match kdsL P rec_ fs (off+ks.length) with
   |some r=>some (ks++r)
   |none=>none) none
  |none=>none) none
def kds (P:Program) (iC_:TypeId→Option TC):Nat→TypeId→Option (List Kd)
 |0,_=>none
 |d+1,T=>match P.underlying T with
  |some (.int k)=>some [.i k]
  |some .bool=>some [.b]
  |some .string=>some [.s]
  |some (.slice e)=>match iC_ e with
   |some t=>some [.sl t]
   |none=>none
  |some (.struct fs)=>match kdsL P (kds P iC_ d) fs.toList 0 with
   |some ks=>cond (Nat.beq (P.cellsOf T) ks.length) (some ks) none
   |none=>none
  |_=>none
inductive Good [an_]:AV→Prop
 |i (k n):(Lit.int k n).wf=true→Good (.i k n)
 |b (q):Good (.b q)
 |s (l):l.length≤maxLen→Good (.s l)
 |sl (t xs):xs.length≤maxLen→(∀ x ∈ xs,∀ c ∈ an_.enc .v t x,Good c)→Good (.sl .v t xs)
def KindOk:Kd→AV→Prop
 |.i k,a=>∃ n,a = .i k n
 |.b,a=>∃ q,a = .b q
 |.s,a=>∃ l,a = .s l
 |.sl t,a=>∃ xs,a = .sl .v t xs
def iD_:List Kd→List AV→Prop
 |[],[]=>True
 |k::ks,a::l=>KindOk k a∧iD_ ks l
 |_,_=>False
section
variable {H:Type} {enc:TypeId × Value→H} {P:Program} {w:World} {spare:Nat→Bool}
def mX_ (enc:TypeId × Value→H) (P:Program) (w:World) (spare:Nat→Bool) (eid:TC→TypeId) (F:Nat):Kd→Value→Prop
 |.i k,v=>∃ n,v = .int k n∧(Lit.int k n).wf=true
 |.b,v=>∃ q,v = .bool q
 |.s,v=>∃ s:ByteArray,v = .string s∧s.size≤maxLen
 |.sl t,v=>v = .slice none 0 0∨∃ (a:Addr) (len cap N:Nat),v = .slice (some a) len cap∧len≤cap∧cap≤maxLen∧N<F ∧
   ∀ i,i<len→∃ cs x,w.cells? 0 (a.add (i*P.cellsOf (eid t))) (P.cellsOf (eid t))=some cs∧DataW.trod enc P w 0 spare true N (eid t) cs=some x
def eN_ (enc:TypeId × Value→H) (P:Program) (w:World) (spare:Nat→Bool) (eid:TC→TypeId) (F:Nat):List Kd→List Value→Prop
 |[],[]=>True
 |k::ks,v::vs=>mX_ enc P w spare eid F k v∧eN_ enc P w spare eid F ks vs
 |_,_=>False
theorem mX_.mono {eid:TC→TypeId} {F F':Nat} (hF:F≤F') {k:Kd} {v:Value} (h:mX_ enc P w spare eid F k v):mX_ enc P w spare eid F' k v:=by
 cases k with
 |sl t=>
  rcases h with h|⟨a,len,cap,N,h1,h2,h3,h4,h5⟩
  · exact .inl h
  · exact .inr ⟨a,len,cap,N,h1,h2,h3,Nat.lt_of_lt_of_le h4 hF,h5⟩
 |_=>exact h
theorem eN_.mono {eid:TC→TypeId} {F F':Nat} (hF:F≤F'):∀ {ks:List Kd} {vs:List Value},eN_ enc P w spare eid F ks vs→eN_ enc P w spare eid F' ks vs
 |[],[],_=>trivial
 |k::ks,v::vs,h=>⟨h.1.mono hF,eN_.mono hF h.2⟩
 |[],_::_,h=>h.elim
 |_::_,[],h=>h.elim
theorem eN_.append {eid:TC→TypeId} {F:Nat}:∀ {ks:List Kd} {vs:List Value} {ks':List Kd} {vs':List Value},eN_ enc P w spare eid F ks vs→eN_ enc P w spare eid F ks' vs'→eN_ enc P w spare eid F (ks++ks') (vs++vs')
 |[],[],_,_,_,h=>h
 |k::ks,v::vs,_,_,h,h'=>⟨h.1,eN_.append h.2 h'⟩
 |[],_::_,_,_,h,_=>h.elim
 |_::_,[],_,_,h,_=>h.elim
theorem kz_ {iC_:TypeId→Option TC} {eid:TC→TypeId} {n:Nat} {rec_:TypeId→Option (List Kd)} {cs:List Value} (hrec:∀ T ks cs x,rec_ T=some ks→DataW.trod enc P w 0 spare true n T cs=some x→eN_ enc P w spare eid n ks cs) :
  ∀ (fs:List Field) (off:Nat) (ks:List Kd),kdsL P rec_ fs off=some ks→(∀ f ∈ fs,∃ x,DataW.trod enc P w 0 spare true n f.type ((cs.drop f.offset).take (P.cellsOf f.type))=some x)→off+ks.length=cs.length→eN_ enc P w spare eid n ks (cs.drop off)
 |[],off,ks,h,_,hl=>by
  simp only [kdsL,Option.some.injEq] at h
  subst h
  rw [List.drop_eq_nil_of_le (by simp at hl;omega)]
  trivial
 |f::fs,off,ks,h,hx,hl=>by
  simp only [kdsL] at h
  obtain ⟨h1,h2⟩:=c0_ h
  have h1:=dQ_.1 h1
  cases hr:rec_ f.type with
  |none=>rw [hr] at h2;cases h2
  |some k1=>
   rw [hr] at h2
   obtain ⟨h3,h4⟩:=c0_ h2
   have h3:=dQ_.1 h3
   cases hk:kdsL P rec_ fs (off+k1.length) with
   |none=>rw [hk] at h4;cases h4
   |some r=>
    rw [hk] at h4
    simp only [Option.some.injEq] at h4
    subst h4
    obtain ⟨x,hx1⟩:=hx f (List.mem_cons_self ..)
    have h5:=hrec _ _ _ _ hr hx1
    have h6:=kz_ (iC_:=iC_) hrec fs (off+k1.length) r hk (fun g hg=>hx g (List.mem_cons_of_mem _ hg)) (by simp at hl;omega)
    rw [h1,h3] at h5
    have:cs.drop off=(cs.drop off).take k1.length++cs.drop (off+k1.length):=by rw [←List.drop_drop,List.take_append_drop]
    rw [this]
    exact h5.append h6
theorem kQ_ {iC_:TypeId→Option TC} {eid:TC→TypeId} (hcode:∀ e t,iC_ e=some t→eid t=e):∀ (d F:Nat) (T:TypeId) (ks:List Kd) (cs:List Value) (x:DataW H × List MemPlace),kds P iC_ d T=some ks→DataW.trod enc P w 0 spare true F T cs=some x→eN_ enc P w spare eid F ks cs
 |0,F,T,ks,cs,x,hk,h=>by cases hk
 |d+1,F,T,ks,cs,x,hk,h=>by
  simp only [kds] at hk
  cases hu:P.underlying T with
  |none=>rw [hu] at hk;cases hk
  |some u=>
   rw [hu] at hk
   cases u<;>simp only at hk<;>(try (cases hk;done))
   case bool=>
    cases hk
    obtain ⟨q,rfl,_⟩:=DataW.trod_bool hu h
    exact ⟨⟨q,rfl⟩,trivial⟩
   case int k=>
    cases hk
    obtain ⟨n,rfl,_,hw⟩:=DataW.trod_int hu h
    exact ⟨⟨n,rfl,hw⟩,trivial⟩
   case string=>
    cases hk
    obtain ⟨s,rfl,_,hs⟩:=DataW.trod_string hu h
    exact ⟨⟨s,rfl,hs⟩,trivial⟩
   case slice e=>
    cases hc:iC_ e with
    |none=>rw [hc] at hk;cases hk
    |some t=>
     rw [hc] at hk
     cases hk
     have he:=hcode e t hc
     rcases DataW.trod_slice hu h with ⟨rfl,_⟩|⟨a,len,cap,elems,g3_,n,hF,rfl,_,_,hl,hm,hlen,hel,_,_⟩
     · exact ⟨.inl rfl,trivial⟩
     · refine ⟨.inr ⟨a,len,cap,n,rfl,hl,hm,by omega,fun i hi => ?_⟩,trivial⟩
       have h1:=hel i hi
       rw [List.getElem?_eq_getElem (by omega)] at h1
       rw [Option.bind_eq_some_iff] at h1
       obtain ⟨cs,k1,k2⟩:=h1
       exact ⟨cs,_,by rw [he];exact k1,by rw [he];exact k2⟩
   case struct fs=>
    obtain ⟨xs,n,hF,_,hcl,hxl,hx⟩:=DataW.trod_struct hu h
    cases hks:kdsL P (kds P iC_ d) fs.toList 0 with
    |none=>rw [hks] at hk;cases hk
    |some ks'=>
     rw [hks] at hk
     obtain ⟨h1,h2⟩:=c0_ hk
     have h1:=dQ_.1 h1
     cases h2
     subst hF
     have:=kz_ (iC_:=iC_) (eid:=eid) (n:=n) (cs:=cs) (fun T ks cs x k1 k2=>kQ_ hcode d n T ks cs x k1 k2) fs.toList 0 ks hks (fun f hf=>by
      obtain ⟨i,hi⟩:=List.getElem?_of_mem hf
      have hi':fs[i]?=some f:=by simpa using hi
      have h3:=hx i f hi'
      have hlt:i<xs.length:=by rw [hxl];exact (Array.getElem?_eq_some_iff.1 hi').1
      rw [List.getElem?_eq_getElem hlt] at h3
      exact ⟨_,h3⟩) (by omega)
     exact (this.mono (Nat.le_succ n))
end
end Go.Pi
end
section
namespace Go.Pi
variable [an_]
open an_
variable {H:Type} {enc':TypeId × Value→H} {E:Env} {w:World} {spare:Nat→Bool}
abbrev NoF:Nat→Prop:=fun _=>False
omit [an_] in
theorem i8_:∀ {ks:List Kd} {l c:List AV},iD_ ks l→sims .v l c→c=l
 |[],[],[],_,_=>rfl
 |k::ks,a::l,b::c,h,hs=>by
  have e:=i8_ h.2 hs.2
  subst e
  have h1:=h.1
  have h2:=hs.1
  cases k<;>obtain ⟨x,rfl⟩:=h1<;>simp only [AV.sim] at h2<;>rw [h2]
 |[],[],_::_,_,h=>h.elim
 |[],_::_,_,h,_=>h.elim
 |_::_,[],_,h,_=>h.elim
 |_::_,_::_,[],_,h=>h.elim
structure jR_ (E:Env) (iC_:TypeId→Option TC) (kinds:TC→List Kd) (d:Nat):Prop where
 codeOk:∀ e t,iC_ e=some t→E.eid t=e
 kdsOk:∀ t,kds E.P iC_ d (E.eid t)=some (kinds t)
 dec:∀ t l,iD_ (kinds t) l→∃ y,dec t l=some y
 cells:∀ t,E.P.cellsOf (E.eid t)=t.width
theorem lV_ [ap_] {t:TC} {N:Nat} (hel:∀ cs x,DataW.trod enc' E.P w 0 spare true N (E.eid t) cs=some x→∃ y:El t,RL E w NoF (enc .v t y) cs (fun _=>0)∧∀ c ∈ enc .v t y,Good c) {b o:Nat} (hW:E.P.cellsOf (E.eid t)=t.width) :
  ∀ len,(∀ i,i<len→∃ cs x,w.cells? 0 ((⟨b,o,none⟩:Addr).add (i*E.P.cellsOf (E.eid t))) (E.P.cellsOf (E.eid t))=some cs∧DataW.trod enc' E.P w 0 spare true N (E.eid t) cs=some x) →
  ∃ (xs:List (El t)) (vals:List Value),xs.length=len∧vals.length=len*t.width∧RL E w NoF (bJ_ .v t xs) vals (fun _=>0)∧w.rangeAt b o vals∧∀ x ∈ xs,∀ c ∈ enc .v t x,Good c
 |0,_=>⟨[],[],rfl,by simp,RL.nil (fun _=>0) fun _=>rfl,fun j v h=>by simp at h,fun x hx=>by cases hx⟩
 |len+1,h=>by
  obtain ⟨xs,vals,h1,h2,h3,h4,h5⟩:=lV_ hel hW len fun i hi=>h i (by omega)
  obtain ⟨cs,x,k1,k2⟩:=h len (Nat.lt_succ_self _)
  obtain ⟨y,j1,j2⟩:=hel cs x k2
  obtain ⟨_,hl,hc⟩:=World.cells?_some k1
  rw [hW] at hl hc
  refine ⟨xs++[y],vals++cs,by simp [h1],by rw [List.length_append,h2,hl];exact (Nat.succ_mul _ _).symm,?_,fun j v hj => ?_,fun x hx => ?_⟩
  · rw [ds_]
    refine RL.append h3 (φ':=fun _=>0) ?_ (fun b=>rfl)
    simpa [bJ_] using j1
  · by_cases hlt:j<vals.length
    · rw [List.getElem?_append_left hlt] at hj
      exact h4 j v hj
    · rw [List.getElem?_append_right (by omega)] at hj
      have hjl:j - vals.length<t.width:=by rw [←hl];exact (List.getElem?_eq_some_iff.1 hj).1
      have:=hc (j - vals.length) hjl
      rw [Addr.add_mid,Addr.add_mid,hj] at this
      rw [←this]
      congr 2
      omega
  · rcases List.mem_append.1 hx with hx|hx
    · exact h5 x hx
    · rw [List.mem_singleton] at hx;subst hx;exact j2
theorem cell_open [ap_] {iC_:TypeId→Option TC} {kinds:TC→List Kd} {d:Nat} (hk:jR_ E iC_ kinds d) {F:Nat} (ih:∀ N,N<F→∀ t cs x,DataW.trod enc' E.P w 0 spare true N (E.eid t) cs=some x→∃ y:El t,RL E w NoF (enc .v t y) cs (fun _=>0)∧∀ c ∈ enc .v t y,Good c) {k:Kd} {v:Value} (h:mX_ enc' E.P w spare E.eid F k v) :
  ∃ a,KindOk k a∧RL E w NoF [a] [v] (fun _=>0)∧Good a:=by
 cases k with
 |i k=>obtain ⟨n,rfl,hw⟩:=h;exact ⟨.i k n,⟨n,rfl⟩,.scal _ _ _ _ _ rfl (.nil _ fun _=>rfl),.i _ _ hw⟩
 |b=>obtain ⟨q,rfl⟩:=h;exact ⟨.b q,⟨q,rfl⟩,.scal _ _ _ _ _ rfl (.nil _ fun _=>rfl),.b _⟩
 |s=>
  obtain ⟨s,rfl,hs⟩:=h
  refine ⟨.s s.data.toList,⟨_,rfl⟩,.scal _ _ _ _ _ ?_ (.nil _ fun _=>rfl),.s _ ?_⟩
  · show Value.string s = .string ⟨s.data.toList.toArray⟩
    simp
  · rw [Array.length_toList];exact hs
 |sl t=>
  rcases h with rfl|⟨a,len,cap,N,rfl,hl,hm,hN,hel⟩
  · exact ⟨.sl .v t [],⟨_,rfl⟩,.view t [] none 0 0 [] (fun _=>0) _ _ _ ⟨rfl,Nat.le_refl _⟩ (.nil _ fun _=>rfl) (fun _=>rfl) (fun hp=>by omega) (.nil _ fun _=>rfl),.sl _ _ (Nat.zero_le _) (fun x hx=>by cases hx)⟩
  · cases len with
    |zero=>exact ⟨.sl .v t [],⟨_,rfl⟩,.view t [] (some a) 0 cap [] (fun _=>0) _ _ _ ⟨rfl,hl⟩ (.nil _ fun _=>rfl) (fun _=>rfl) (fun hp=>by omega) (.nil _ fun _=>rfl),.sl _ _ (Nat.zero_le _) (fun x hx=>by cases hx)⟩
    |succ len=>
     have hW:=hk.cells t
     have hpos:0<t.width:=ap_.pos t
     obtain ⟨cs0,x0,k1,_⟩:=hel 0 (Nat.succ_pos _)
     obtain ⟨_,hl0,hc0⟩:=World.cells?_some k1
     have hcell:=hc0 0 (by rw [hW];exact hpos)
     rw [List.getElem?_eq_getElem (by rw [hl0,hW];exact hpos)] at hcell
     have ha:a.spot=none:=by
      have h0:(a.add (0*E.P.cellsOf (E.eid t))).add 0=a:=by simp [Addr.add]
      rw [h0] at hcell
      unfold World.cell? at hcell
      split at hcell
      · cases hs:a.spot with
        |none=>rfl
        |some q=>simp [hs] at hcell
      · cases hcell
     obtain ⟨b,o,sp⟩:=a
     simp only at ha
     subst ha
     have hb:b<w.heap.size:=World.cells?_block k1 (by rw [hW];exact hpos) |> fun h=>by simpa [Addr.add] using h
     obtain ⟨xs,vals,e1,e2,e3,e4,e5⟩:=lV_ (ih N hN t) hW (len+1) hel
     refine ⟨.sl .v t xs,⟨_,rfl⟩,?_,.sl _ _ (by omega) e5⟩
     exact .view t xs (some ⟨b,o,none⟩) (len+1) cap vals (fun _=>0) _ _ _ ⟨e1.symm,hl⟩ e3 (fun _=>rfl) (fun _=>⟨b,o,rfl,e4,hb,fun h=>h⟩) (.nil _ fun _=>rfl)
theorem ip_ [ap_] {iC_:TypeId→Option TC} {kinds:TC→List Kd} {d:Nat} (hk:jR_ E iC_ kinds d) {F:Nat} (ih:∀ N,N<F→∀ t cs x,DataW.trod enc' E.P w 0 spare true N (E.eid t) cs=some x→∃ y:El t,RL E w NoF (enc .v t y) cs (fun _=>0)∧∀ c ∈ enc .v t y,Good c) :
  ∀ {ks:List Kd} {vs:List Value},eN_ enc' E.P w spare E.eid F ks vs→∃ l,iD_ ks l∧RL E w NoF l vs (fun _=>0)∧∀ c ∈ l,Good c
 |[],[],_=>⟨[],trivial,.nil _ fun _=>rfl,fun c hc=>by cases hc⟩
 |k::ks,v::vs,h=>by
  obtain ⟨a,h1,h2,h3⟩:=cell_open hk ih h.1
  obtain ⟨l,k1,k2,k3⟩:=ip_ hk ih h.2
  refine ⟨a::l,⟨h1,k1⟩,RL.cons h2 k2 (fun b=>rfl),fun c hc => ?_⟩
  rcases List.mem_cons.1 hc with rfl|hc
  · exact h3
  · exact k3 c hc
 |[],_::_,h=>h.elim
 |_::_,[],h=>h.elim
theorem el_open [ap_] {iC_:TypeId→Option TC} {kinds:TC→List Kd} {d:Nat} (hk:jR_ E iC_ kinds d):∀ (F:Nat) (t:TC) (cs:List Value) (x:DataW H × List MemPlace),DataW.trod enc' E.P w 0 spare true F (E.eid t) cs=some x →
  ∃ y:El t,RL E w NoF (enc .v t y) cs (fun _=>0)∧∀ c ∈ enc .v t y,Good c:=by
 intro F
 induction F using Nat.strongRecOn with
 |_ F ih=>
  intro t cs x h
  have h1:=kQ_ hk.codeOk d F _ _ _ _ (hk.kdsOk t) h
  obtain ⟨l,h2,h3,h4⟩:=ip_ hk ih h1
  obtain ⟨y,hy⟩:=hk.dec t l h2
  have h5:=ap_.dec .v t l y hy
  have h6:=i8_ h2 h5
  exact ⟨y,by rw [h6];exact h3,by rw [h6];exact h4⟩
theorem arg_open [ap_] {iC_:TypeId→Option TC} {kinds:TC→List Kd} {d:Nat} (hk:jR_ E iC_ kinds d) {T:TypeId} {ks:List Kd} (hT:kds E.P iC_ d T=some ks) {v:Value} {dd:DataW H} {ps:List MemPlace} (h:DataW.Trod enc' E.P w 0 spare true T v dd ps) :
  ∃ l,iD_ ks l∧RL E w NoF l v.cells.toList (fun _=>0)∧∀ c ∈ l,Good c:=by
 obtain ⟨F,hF⟩:=h
 exact ip_ hk (fun N _=>el_open hk N) (kQ_ hk.codeOk d F T ks _ _ hT hF)
end Go.Pi
end
section
namespace Go.Pi
open Go.RowKit
variable [an_]
open an_
omit [an_] in
theorem bP_ {k:Kd} {ks:List Kd} {l:List AV} (h:iD_ (k::ks) l):∃ a l',l=a::l'∧KindOk k a∧iD_ ks l':=by
 cases l with
 |nil=>exact h.elim
 |cons a l=>exact ⟨a,l,rfl,h.1,h.2⟩
omit [an_] in
theorem d7_ {l:List AV} (h:iD_ [] l):l=[]:=by
 cases l with
 |nil=>rfl
 |cons a l=>exact h.elim
def codeL (eid:TC→TypeId):List TC→TypeId→Option TC
 |[],_=>none
 |t::ts,e=>cond (Nat.beq (eid t) e) (some t) (codeL eid ts e)
omit [an_] in
theorem oA_ {eid:TC→TypeId} {e:TypeId} {t:TC}:∀ ts,codeL eid ts e=some t→eid t=e
 |[],h=>by cases h
 |u::ts,h=>by
  simp only [codeL] at h
  cases hb:Nat.beq (eid u) e with
  |true=>rw [hb] at h;cases h;exact dQ_.1 hb
  |false=>rw [hb] at h;exact oA_ ts h
theorem law_true [ap_] {E:Env} {f:FuncId} {avs:List AV} {outs:List AV} {ps:List PS} (h:eE_ E f avs (.b true) outs ps) {w:World} (hgl:Glob E w NoF) {Vs:List Value} (hr:RL E w NoF avs Vs (fun _=>0)) :
  Calls E.P f Vs.toArray w fun e W'=>e = .returned (.bool true)∧Below w.heap.size w W':=by
 refine (h w NoF Vs _ hr (fun _=>Nat.zero_le _) (fun b hb=>hb.elim) hgl).mono fun e W' ⟨V,φ',he,h1,_,_,e1,e2,e3,e4,e5⟩=>⟨?_,e1,e2,e3,e4,fun k hk=>e5 k hk rfl⟩
 cases h1 with
 |scal a v l vs φ hs _=>rw [he,show V = .bool true from hs]
theorem ag_open {E:Env} {w:World} {l:List AV} {cs:Array Value} (h:RL E w NoF l (Value.agg cs).cells.toList (fun _=>0)) {l':List AV} {vs:List Value} (h':RL E w NoF l' vs (fun _=>0)) :
  RL E w NoF (.ag l::l') (.agg cs::vs) (fun _=>0):=by
 have:=RL.ag (E:=E) (w:=w) (F:=NoF) l cs.toList (fun _=>0) l' vs (fun _=>0) (fun _=>0) h h' (fun b=>rfl)
 simpa using this
end Go.Pi
end
section
namespace Go.Pi
open Go.Proofs Go.Proofs.YtinngjbiigjkoaaGreatDoor
open Go.ChangeShapes Go.WideShapes Go.ChangeAt Go.RowKit
def iC_:TypeId→Option TC:=codeL eid [.int,.str,.u8,.lCond,.lRow,.lKid,.iCond,.iRow,.iKid,.iJson,.iOp,.ikeyed]
def kinds:TC→List Kd
 |.int=>[.i .i64]
 |.str=>[.s]
 |.u8=>[.i .u8]
 |.lCond=>[.i .i64,.i .i64,.i .i64]
 |.lRow=>[.i .i64,.sl .int]
 |.lKid=>[.i .i64,.i .i64]
 |.iCond=>[.i .i64,.i .i64,.i .i64]
 |.iRow=>[.i .i64,.sl .int]
 |.iKid=>[.i .i64,.i .i64]
 |.iJson=>[.i .i64,.i .i64,.s,.sl .iJson,.sl .str]
 |.iOp=>[.i .i64,.sl .str,.i .i64,.i .i64,.s,.sl .iJson,.sl .str]
 |.ikeyed=>[.i .i64,.i .i64,.i .i64,.s,.sl .iJson,.sl .str]
theorem kindsOk:jR_ E iC_ kinds 12 where
 codeOk:=fun e t h=>oA_ _ h
 kdsOk:=by intro t;cases t<;>kernel_rfl
 cells:=by intro t;cases t<;>kernel_rfl
 dec:=by
  intro t l h
  cases t with
  |int=>
   iterate 1 (replace h:=bP_ h;obtain ⟨_,_,rfl,⟨_,rfl⟩,h⟩:=h)
   replace h:=d7_ h;subst h;exact ⟨_,rfl⟩
  |str=>
   iterate 1 (replace h:=bP_ h;obtain ⟨_,_,rfl,⟨_,rfl⟩,h⟩:=h)
   replace h:=d7_ h;subst h;exact ⟨_,rfl⟩
  |u8=>
   iterate 1 (replace h:=bP_ h;obtain ⟨_,_,rfl,⟨_,rfl⟩,h⟩:=h)
   replace h:=d7_ h;subst h;exact ⟨_,rfl⟩
  |lCond=>
   iterate 3 (replace h:=bP_ h;obtain ⟨_,_,rfl,⟨_,rfl⟩,h⟩:=h)
   replace h:=d7_ h;subst h;exact ⟨_,rfl⟩
  |lRow=>
   iterate 2 (replace h:=bP_ h;obtain ⟨_,_,rfl,⟨_,rfl⟩,h⟩:=h)
   replace h:=d7_ h;subst h;exact ⟨_,rfl⟩
  |lKid=>
   iterate 2 (replace h:=bP_ h;obtain ⟨_,_,rfl,⟨_,rfl⟩,h⟩:=h)
   replace h:=d7_ h;subst h;exact ⟨_,rfl⟩
  |iCond=>
   iterate 3 (replace h:=bP_ h;obtain ⟨_,_,rfl,⟨_,rfl⟩,h⟩:=h)
   replace h:=d7_ h;subst h;exact ⟨_,rfl⟩
  |iRow=>
   iterate 2 (replace h:=bP_ h;obtain ⟨_,_,rfl,⟨_,rfl⟩,h⟩:=h)
   replace h:=d7_ h;subst h;exact ⟨_,rfl⟩
  |iKid=>
   iterate 2 (replace h:=bP_ h;obtain ⟨_,_,rfl,⟨_,rfl⟩,h⟩:=h)
   replace h:=d7_ h;subst h;exact ⟨_,rfl⟩
  |iJson=>
   iterate 5 (replace h:=bP_ h;obtain ⟨_,_,rfl,⟨_,rfl⟩,h⟩:=h)
   replace h:=d7_ h;subst h;exact ⟨_,rfl⟩
  |iOp=>
   iterate 7 (replace h:=bP_ h;obtain ⟨_,_,rfl,⟨_,rfl⟩,h⟩:=h)
   replace h:=d7_ h;subst h;exact ⟨_,rfl⟩
  |ikeyed=>
   iterate 6 (replace h:=bP_ h;obtain ⟨_,_,rfl,⟨_,rfl⟩,h⟩:=h)
   replace h:=d7_ h;subst h;exact ⟨_,rfl⟩
namespace laws_FnExactSessTake
theorem own:ownKnob Tryz.prog.godebug=none:=by kernel_rfl
theorem laidOut:laidOutB Tryz.prog=true:=by kernel_rfl
def senOf:DataW Unit→ByteArray
 |.iface _ (.ptr (.agg [.lit (.string l)]))=>⟨l.toArray⟩
 |_=>ByteArray.empty
def tab1:DataW Unit→List Value
 |.lit (.int k n)=>[Value.int k n]
 |_=>[]
def tab2:DataW Unit→List Value
 |.agg l=>l.flatMap tab1
 |d=>tab1 d
def tabOf:DataW Unit→Array Value
 |.agg l=>(l.flatMap tab2).toArray
 |_ => #[]
def Pure:Prop:=∀ (o:bZ_),(∀ c ∈ ([.i .i64 o.view.q.table,.sl .v .lCond o.view.q.where_,.i .i64 o.view.q.order,.b o.view.q.down,.i .i64 o.view.q.first,.sl .v .int o.view.q.show_,.b o.view.q.kids,.i .i64 o.view.q.kidTable,.i .i64 o.view.q.kidCol,.sl .v .lRow o.view.rows,.sl .v .lKid o.view.kids,.i .i64 o.version,.i .i64 o.last.q.table,.sl .v .lCond o.last.q.where_,.i .i64 o.last.q.order,.b o.last.q.down,.i .i64 o.last.q.first,.sl .v .int o.last.q.show_,.b o.last.q.kids,.i .i64 o.last.q.kidTable,.i .i64 o.last.q.kidCol,.sl .v .lRow o.last.rows,.sl .v .lKid o.last.kids,.i .i64 o.lastVersion,.b o.began]:List AV),Good c)→∃ n,Go.Pi.laws_FnExactSessTake n o=some true
noncomputable def md_ (os:Os):World :=
 let w0:=World.holding Tryz.prog os ⟨#[],#[],[]⟩
 let put:=fun (h:Array Obj) (g:Nat) (cs:Array Value)=>h.modify g fun
  |.cells _ t frozen=>.cells cs t frozen
  |o=>o
 { w0 with heap:=put (put (put (put (put (w0.heap) 4 (tabOf Rows.laid_math_bits_deBruijn32tab)) 5 (tabOf Rows.laid_math_bits_deBruijn64tab)) 0 (tabOf Rows.laid_internal_strconv_uint64pow10)) 3 (tabOf Rows.laid_unicode_utf8_acceptRanges)) 2 (tabOf Rows.laid_unicode_utf8_first) }
theorem la_ (os:Os) (args:Array Value):laidMet Tryz.prog Rows.fnExactSessTakeRow.laid ((md_ os).forCall (fun _ _=>0) ⟨#[],args,[]⟩).memory :=
 laidMet_of_run' 8 (by kernel_rfl) (by kernel_rfl)
theorem lifted (hp:Pure) (os:Os) (started:os.Started) (H:Type) (enc:TypeId × Value→H) :
  ReturnsInHanded {} Tryz.checked os 3 .any (fun w args=>(Rows.fnExactSessTakeSpec.pre enc Tryz.prog Tryz.f3 Rows.fnExactSessTakeRow.domain false w args∧laidMet Tryz.prog Rows.fnExactSessTakeRow.laid w)∧sizedMet enc Tryz.prog Tryz.f3 (OpenSpec.ofChange Rows.fnExactSessTakeSpec) false w args) (Rows.fnExactSessTakeSpec.post enc Tryz.prog Tryz.f3 false true false false):=by
 refine returnsInHanded_of_calls own started (by kernel_rfl) (ChangeSpec.witness_at (enc:=enc) (C:=Tryz.checked) (os:=os) (X:=fun w _=>laidMet Tryz.prog Rows.fnExactSessTakeRow.laid w) false (md_ os) #[.agg #[.int .i64 0,.slice none 0 0,.int .i64 0,.bool false,.int .i64 0,.slice none 0 0,.bool false,.int .i64 0,.int .i64 0,.slice none 0 0,.slice none 0 0,.int .i64 0,.int .i64 0,.slice none 0 0,.int .i64 0,.bool false,.int .i64 0,.slice none 0 0,.bool false,.int .i64 0,.int .i64 0,.slice none 0 0,.slice none 0 0,.int .i64 0,.bool false]] 8 rfl (by kernel_rfl) (by kernel_rfl) (by kernel_rfl) (by kernel_rfl) (by kernel_rfl) (la_ os _)) ?_
 intro w0 tape inp _ hsh _ hok hpre _
 obtain ⟨_,_,_,fn',hfn',_,_,_,_,hval0⟩:=hok
 obtain rfl:fn'=Tryz.f3:=Option.some.inj (hfn'.symm.trans Tryz.func3)
 obtain ⟨⟨⟨ds,gs,before,hw0,hcnd⟩,hL0⟩,hz⟩:=hpre
 have hW:=DataW.Whole.of_heap (w':=w0.forCall tape inp) (by rfl) hw0
 have hL:laidMet Tryz.prog Rows.fnExactSessTakeRow.laid (w0.forCall tape inp):=hL0.of_heap (by rfl)
 clear hw0 hL0 hz hfn' hcnd
 generalize w0.forCall tape inp=W at hsh hval0 hW hL ⊢
 generalize inp.args=args at hval0 hW ⊢
 generalize w0.heap.size=base at hval0
 suffices hgo:Calls Tryz.prog 3 args W fun e W'=>∃ v,e = .returned v∧Rows.fnExactSessTakeSpec.post enc Tryz.prog Tryz.f3 false true false false W args v W' from hgo.mono fun e W' ⟨v,he,hp⟩=>by subst he;exact ChangeSpec.post_blind hp
 have hval:∀ (j:Nat) t v,Tryz.f3.params[j]?=some t→args[j]?=some v→Value.okWide Tryz.prog W .any base t v:=hval0
 have hW':=hW
 obtain ⟨p,q,hA0,hV,rfl,hfz,hnd⟩:=hW
 have hA:DataW.TrodAll enc Tryz.prog W 0 (fun _=>true) true Tryz.f3.params.toList args.toList ds p:=hA0
 rw [Tryz.params3] at hA hval
 obtain ⟨v0,vs0,d0,ds0,p0,q0,hargs,rfl,rfl,h0,r0⟩:=trodAll_cons hA
 obtain ⟨rfl,rfl,rfl⟩:=trodAll_nil r0
 obtain rfl:args = #[v0]:=by cases args;simp_all
 obtain ⟨rfl,rfl⟩:=trodVars_none hV
 obtain ⟨c0,rfl,-⟩:=okWide_struct Tryz.underlying31 (hval 0 31 v0 rfl rfl)
 have lt0:∀ x ∈ p0,x.block<W.heap.size:=by obtain ⟨m,hm⟩:=h0;exact DataW.trod_lt m _ _ _ hm
 obtain ⟨l0,k0,e0,g0⟩:=arg_open kindsOk (T:=31) (ks:=[.i .i64,.sl .lCond,.i .i64,.b,.i .i64,.sl .int,.b,.i .i64,.i .i64,.sl .lRow,.sl .lKid,.i .i64,.i .i64,.sl .lCond,.i .i64,.b,.i .i64,.sl .int,.b,.i .i64,.i .i64,.sl .lRow,.sl .lKid,.i .i64,.b]) (by kernel_rfl) h0
 replace k0:=bP_ k0;obtain ⟨_,_,rfl,⟨z0,rfl⟩,k0⟩:=k0
 replace k0:=bP_ k0;obtain ⟨_,_,rfl,⟨z1,rfl⟩,k0⟩:=k0
 replace k0:=bP_ k0;obtain ⟨_,_,rfl,⟨z2,rfl⟩,k0⟩:=k0
 replace k0:=bP_ k0;obtain ⟨_,_,rfl,⟨z3,rfl⟩,k0⟩:=k0
 replace k0:=bP_ k0;obtain ⟨_,_,rfl,⟨z4,rfl⟩,k0⟩:=k0
 replace k0:=bP_ k0;obtain ⟨_,_,rfl,⟨z5,rfl⟩,k0⟩:=k0
 replace k0:=bP_ k0;obtain ⟨_,_,rfl,⟨z6,rfl⟩,k0⟩:=k0
 replace k0:=bP_ k0;obtain ⟨_,_,rfl,⟨z7,rfl⟩,k0⟩:=k0
 replace k0:=bP_ k0;obtain ⟨_,_,rfl,⟨z8,rfl⟩,k0⟩:=k0
 replace k0:=bP_ k0;obtain ⟨_,_,rfl,⟨z9,rfl⟩,k0⟩:=k0
 replace k0:=bP_ k0;obtain ⟨_,_,rfl,⟨z10,rfl⟩,k0⟩:=k0
 replace k0:=bP_ k0;obtain ⟨_,_,rfl,⟨z11,rfl⟩,k0⟩:=k0
 replace k0:=bP_ k0;obtain ⟨_,_,rfl,⟨z12,rfl⟩,k0⟩:=k0
 replace k0:=bP_ k0;obtain ⟨_,_,rfl,⟨z13,rfl⟩,k0⟩:=k0
 replace k0:=bP_ k0;obtain ⟨_,_,rfl,⟨z14,rfl⟩,k0⟩:=k0
 replace k0:=bP_ k0;obtain ⟨_,_,rfl,⟨z15,rfl⟩,k0⟩:=k0
 replace k0:=bP_ k0;obtain ⟨_,_,rfl,⟨z16,rfl⟩,k0⟩:=k0
 replace k0:=bP_ k0;obtain ⟨_,_,rfl,⟨z17,rfl⟩,k0⟩:=k0
 replace k0:=bP_ k0;obtain ⟨_,_,rfl,⟨z18,rfl⟩,k0⟩:=k0
 replace k0:=bP_ k0;obtain ⟨_,_,rfl,⟨z19,rfl⟩,k0⟩:=k0
 replace k0:=bP_ k0;obtain ⟨_,_,rfl,⟨z20,rfl⟩,k0⟩:=k0
 replace k0:=bP_ k0;obtain ⟨_,_,rfl,⟨z21,rfl⟩,k0⟩:=k0
 replace k0:=bP_ k0;obtain ⟨_,_,rfl,⟨z22,rfl⟩,k0⟩:=k0
 replace k0:=bP_ k0;obtain ⟨_,_,rfl,⟨z23,rfl⟩,k0⟩:=k0
 replace k0:=bP_ k0;obtain ⟨_,_,rfl,⟨z24,rfl⟩,k0⟩:=k0
 replace k0:=d7_ k0;subst k0
 have hT:Lib.TabIs Tryz.prog W "internal/strconv.uint64pow10" .u64 Lib.pow10Tab:=Lib.tabIs_of_head (t:=204) (e:=191) (n:=20) jD_ (by kernel_rfl) (by kernel_rfl) (by kernel_rfl) (by kernel_rfl) (by kernel_rfl) (show laidMet Tryz.prog ((_,Lib.tabData .u64 Lib.pow10Tab)::_) W from hL.tail.tail)
 obtain ⟨mx,hmx⟩:=cell_of_shapedOpen_int (g:=1) (t:=3) (k:=.i64) (zero:=#[.int .i64 0]) hsh (by decide +kernel) (by kernel_rfl) rfl (by kernel_rfl) (by kernel_rfl) (by kernel_rfl)
 have hgl:Glob E W NoF:=fun p hp=>by
  rcases List.mem_cons.1 hp with rfl|hp
  · obtain ⟨T,fr,h⟩:=tab_glob hT jD_;exact ⟨⟨_,T,fr,h,rfl⟩,fun h=>h.elim⟩
  rcases List.mem_singleton.1 hp with rfl
  exact ⟨int_glob hmx,fun h=>h.elim⟩
 obtain ⟨n,hn⟩:=hp (bZ_.mk (bB_.mk (aT_.mk z0 z1 z2 z3 z4 z5 z6 z7 z8) z9 z10) z11 (bB_.mk (aT_.mk z12 z13 z14 z15 z16 z17 z18 z19 z20) z21 z22) z23 z24) g0
 refine (law_true ((bE_ n).h183 ((z0,z1,z2,z3,z4,z5,z6,z7,z8,z9,z10,z11,z12,z13,z14,z15,z16,z17,z18,z19,z20,z21,z22,z23,z24,()),()) _ hn) hgl (ag_open e0 (.nil _ fun _=>rfl))).mono fun e W' ⟨he,bel⟩ => ?_
 subst he
 exact ⟨_,rfl,_,_,_,[],_,[],hW',trodAll_mk1 (shut_bool Tryz.underlying4 _),(trodAll_cons_mk (Below.trod laidOut (by kernel_rfl) (of_decide_eq_true (by kernel_rfl)) h0 bel lt0) trodAll_mk0),rfl,bel.frame _,fun h=>by cases h⟩
theorem jf0:(Rows.fnExactSessTakeRow.wf (OpenSpec.ofChange Rows.fnExactSessTakeSpec))=true:=by kernel_rfl
theorem jf1:(laidOutB Tryz.prog)=true:=by kernel_rfl
theorem jf2:(mapsRowed Tryz.prog)=true:=by kernel_rfl
theorem jf3:(Tryz.f3.params.all (Tryz.prog.readableRec ·))=true:=by kernel_rfl
theorem jf4:(namedTie Tryz.prog Rows.fnExactSessTakeRow.named Rows.fnExactSessTakeSpec.vars)=true:=by kernel_rfl
theorem jf5:((Rows.fnExactSessTakeRow.stops == []))=true:=by kernel_rfl
theorem jf6:((Tryz.prog.stops == []))=true:=by kernel_rfl
theorem jf7:((Rows.fnExactSessTakeRow.knobs == []))=true:=by kernel_rfl
theorem jf8:((Tryz.prog.stopKnobs == []))=true:=by kernel_rfl
theorem jf9:((Rows.fnExactSessTakeRow.inPlace == Tryz.prog.inPlace 3))=true:=by kernel_rfl
theorem jf10:((Rows.fnExactSessTakeRow.unfollowed == Tryz.prog.unfollowed 3))=true:=by kernel_rfl
theorem jf11:((Rows.fnExactSessTakeRow.recurses == Tryz.prog.recurses 3))=true:=by kernel_rfl
theorem jf12:((Rows.fnExactSessTakeRow.named == Tryz.prog.varsNamed 3))=true:=by kernel_rfl
theorem jf13:((Rows.fnExactSessTakeRow.maps == (Tryz.f3.params.toList++Rows.fnExactSessTakeSpec.plain.varTypes Tryz.prog).any (Tryz.prog.mapsRec ·)))=true:=by kernel_rfl
theorem jf14:((Rows.fnExactSessTakeRow.ifaces == (Tryz.f3.params.toList++Rows.fnExactSessTakeSpec.plain.varTypes Tryz.prog).any (Tryz.prog.ifacesRec ·)))=true:=by kernel_rfl
theorem jf15:((Rows.fnExactSessTakeRow.mapsOut == Tryz.prog.mapsAmong Tryz.f3.resultTypes.toList))=true:=by kernel_rfl
theorem jf16:((Rows.fnExactSessTakeRow.loops == (Tryz.f3.params.toList++Rows.fnExactSessTakeSpec.plain.varTypes Tryz.prog).any (Tryz.prog.loopsFrom ·)))=true:=by kernel_rfl
theorem jf17:((Rows.fnExactSessTakeRow.wideKeys == (Tryz.f3.params.toList++Rows.fnExactSessTakeSpec.plain.varTypes Tryz.prog++Tryz.f3.resultTypes.toList).any (Tryz.prog.wideKeysFrom ·)))=true:=by kernel_rfl
theorem jf18:(Rows.fnExactSessTakeSpec.vars.all (Tryz.prog.varReadable ·))=true:=by kernel_rfl
theorem jf19:(Tryz.f3.resultTypes.all (fun t=>Tryz.prog.readableRec t&&decide (t<Tryz.prog.types.size)))=true:=by kernel_rfl
theorem jf20:((Rows.fnExactSessTakeRow.ifacesOut == Tryz.f3.resultTypes.toList.any (Tryz.prog.ifacesRec ·)))=true:=by kernel_rfl
theorem jf21:((Rows.fnExactSessTakeRow.loopsOut == Tryz.f3.resultTypes.toList.any (Tryz.prog.loopsFrom ·)))=true:=by kernel_rfl
theorem jf22:((Rows.fnExactSessTakeRow.plainKeys == Tryz.prog.plainKeys))=true:=by kernel_rfl
theorem jf23:(Rows.fnExactSessTakeRow.shortTexts.isNone)=true:=by kernel_rfl
theorem jf24:(Tryz.prog.stopsHeard)=true:=by kernel_rfl
theorem jf25:(Tryz.prog.mayEnter)=true:=by kernel_rfl
theorem jf26:((Rows.fnExactSessTakeRow.lifted == Tryz.prog.liftsFinal))=true:=by kernel_rfl
theorem jf27:((Tryz.prog.make == some Rows.fnExactSessTakeRow.make))=true:=by kernel_rfl
theorem jf28:((Rows.fnExactSessTakeRow.kinds == (if Rows.fnExactSessTakeRow.domain.isEmpty then [] else Tryz.f3.params.toList.map fun t=>match Tryz.prog.underlying t with|some (.int k)=>some k|_=>none)))=true:=by kernel_rfl
theorem jf29:((Rows.fnExactSessTakeRow.pinned == Rows.fnExactSessTakeRow.pinnedBy))=true:=by kernel_rfl
theorem jf30:((Rows.fnExactSessTakeRow.veiled == (Tryz.f3.params.toList++Rows.fnExactSessTakeSpec.plain.varTypes Tryz.prog++Tryz.f3.resultTypes.toList).any (Tryz.prog.veiledRec ·)))=true:=by kernel_rfl
theorem jf31:(Rows.fnExactSessTakeRow.veiledFits Tryz.prog Tryz.f3.params.toList (Tryz.f3.params.toList++Rows.fnExactSessTakeSpec.plain.varTypes Tryz.prog++Tryz.f3.resultTypes.toList))=true:=by kernel_rfl
theorem hq_ {a b:Bool} (h:a=true) (k:b=true):(a&&b)=true:=by rw [h,k];rfl
theorem facts:joinedFacts Tryz.pinned.checked.prog 3 Tryz.f3 Rows.fnExactSessTakeSpec Rows.fnExactSessTakeRow=true:=(hq_ (hq_ (hq_ (hq_ (hq_ (hq_ (hq_ (hq_ (hq_ (hq_ (hq_ (hq_ (hq_ (hq_ (hq_ (hq_ (hq_ (hq_ (hq_ (hq_ (hq_ (hq_ (hq_ (hq_ (hq_ (hq_ (hq_ (hq_ (hq_ (hq_ (hq_ jf0 jf1) jf2) jf3) jf4) jf5) jf6) jf7) jf8) jf9) jf10) jf11) jf12) jf13) jf14) jf15) jf16) jf17) jf18) jf19) jf20) jf21) jf22) jf23) jf24) jf25) jf26) jf27) jf28) jf29) jf30) jf31)
theorem over (hp:Pure):Rows.fnExactSessTakeRow.holds Tryz.pinned (OpenSpec.ofChange Rows.fnExactSessTakeSpec) :=
 OpenClaim.holds_of_wide 3 Tryz.f3 rfl rfl rfl rfl rfl rfl rfl ⟨rfl,rfl,rfl,rfl,rfl⟩ rfl rfl rfl rfl rfl (by kernel_rfl) Tryz.func3 facts
  (of_decide_eq_true (by kernel_rfl)) (by unfold Func.isWrapper;first|(rw [if_pos (by decide +kernel)];kernel_rfl)|(rw [if_neg (by decide +kernel)];exact ⟨rfl,rfl⟩))
  (fun os started H enc _=>lifted hp os started H enc)
end laws_FnExactSessTake
theorem laws_FnExactSessTake.card (hp:laws_FnExactSessTake.Pure):Rows.FnExactSessTakeCardSaid :=
 Claim7.holds_tied_plain_at .later [] [.data,.data,.data,.data,.pinned] true (true, "5aaf69b654c27643c63c551931c080c097ace5a41145a6d7a5a8d6db4f23e185") false
  (laws_FnExactSessTake.over hp) (fun _ h=>by cases h) (by kernel_rfl) (fun _ h=>by cases h) fnExactSessTake_row_tie rfl ⟨rfl,rfl⟩ (by kernel_rfl) rfl
  (fun f fn hf hfn=>by
    obtain rfl:f=3:=Option.some.inj ((show Tryz.prog.funcNamed "loop.example/g00198/laws.FnExactSessTake" = some 3 by kernel_rfl).symm.trans hf) |>.symm
    obtain rfl:fn=Tryz.f3:=(Option.some.inj (Tryz.func3.symm.trans hfn)).symm
    exact ⟨by kernel_rfl,fun j t ht=>by
     rw [Tryz.params3] at ht
     have hm:t ∈ ([31]:List TypeId):=List.mem_of_getElem? (show ([31]:List TypeId)[j]?=some t by simpa using ht)
     have:=List.all_eq_true.1 (show ([31]:List TypeId).all (fun t => !Tryz.prog.wantsStandIn t)=true by kernel_rfl) t hm
     exact (by simpa using this:Tryz.prog.wantsStandIn t=false)⟩)
  (by kernel_rfl)
end Go.Pi
end
section
namespace Go.Pi
section
variable {α β:Type}
def Ev (f:Nat→Nat→Option α) (v:α):Prop:=∃ M,∀ n N,M≤n→M≤N→f n N=some v
theorem ah_ {v w:α}:Ev (fun _ _=>some v) w↔v=w :=
 ⟨fun ⟨M,h⟩=>Option.some.inj (h M M (Nat.le_refl _) (Nat.le_refl _)),fun h=>⟨0,fun _ _ _ _=>by rw [h]⟩⟩
theorem ei_ {f:Nat→Nat→Option α} {v w:α} (h:Ev f v):Ev f w↔v=w:=by
 constructor
 · rintro ⟨M',h'⟩
   obtain ⟨M,h⟩:=h
   have a:=h (max M M') (max M M') (by omega) (by omega)
   have b:=h' (max M M') (max M M') (by omega) (by omega)
   rw [a] at b
   exact Option.some.inj b
 · rintro rfl;exact h
theorem ae_ {f:Nat→Nat→Option α} {a:α} (h:Ev f a) {g:Nat→Nat→α→Option β} {v:β}:Ev (fun n N=>(f n N).bind (g n N)) v↔Ev (fun n N=>g n N a) v:=by
 obtain ⟨M,h⟩:=h
 constructor
 · rintro ⟨M',h'⟩
   refine ⟨max M M',fun n N h1 h2 => ?_⟩
   have:=h' n N (by omega) (by omega)
   simp only [h n N (by omega) (by omega),Option.bind_some] at this
   exact this
 · rintro ⟨M',h'⟩
   refine ⟨max M M',fun n N h1 h2 => ?_⟩
   simp only [h n N (by omega) (by omega),Option.bind_some]
   exact h' n N (by omega) (by omega)
theorem dU_ {v:α}:Ev (fun _ _=>none) v↔False:=by
 simp only [iff_false]
 rintro ⟨M,h⟩
 cases h M M (Nat.le_refl _) (Nat.le_refl _)
theorem ai_ {c:Bool} {f g:Nat→Nat→Option α} {v:α}:Ev (fun n N=>cond c (f n N) (g n N)) v↔(c=true→Ev f v)∧(c=false→Ev g v):=by
 cases c<;>simp
theorem bT_ {i:Int} {len:Nat} {f:Nat→Nat→Option α} {v:α}:Ev (fun n N=>inB i len (f n N)) v↔(0≤i∧i<(len:Int))∧Ev f v:=by
 unfold inB
 rw [ai_,ai_]
 by_cases h1:0≤i<;>by_cases h2:i<(len:Int)<;>simp [h1,h2,dU_]
theorem ao_ {f:Nat→Nat→Option α} {v:α} (h:Ev (fun n N=>f (n+1) N) v):Ev f v:=by
 obtain ⟨M,h⟩:=h
 refine ⟨M+1,fun n N h1 h2 => ?_⟩
 obtain ⟨m,rfl⟩:∃ m,n=m+1:=⟨n - 1,by omega⟩
 exact h m N (by omega) (by omega)
theorem er_ {f:Nat→Nat→Option α} {v:α} (h:Ev f v):Ev (fun n _=>f n n) v:=by
 obtain ⟨M,h⟩:=h
 exact ⟨M,fun n N h1 h2=>h n n h1 h1⟩
theorem do_ {f:Nat→Nat→Option α} {v:α} (h:Ev (fun n N=>f n (N+1)) v):Ev f v:=by
 obtain ⟨M,h⟩:=h
 refine ⟨M+1,fun n N h1 h2 => ?_⟩
 obtain ⟨m,rfl⟩:∃ m,N=m+1:=⟨N - 1,by omega⟩
 exact h n m (by omega) (by omega)
theorem ev_ex {f:Nat→Option α} {v:α} (h:Ev (fun n _=>f n) v):∃ n,f n=some v:=by
 obtain ⟨M,h⟩:=h
 exact ⟨M,h M M (Nat.le_refl _) (Nat.le_refl _)⟩
theorem ev_up {σ:Type} (L:Nat→Nat→Nat→σ→Option α) (F:Nat→σ→α) (I:Nat→σ→Prop) (len:Nat)
  (h:∀ i s,I i s→i≤len→(∀ s',I (i+1) s'→i<len→Ev (fun n N=>L n N (i+1) s') (F (i+1) s'))→Ev (fun n N=>L n (N+1) i s) (F i s)) :
  ∀ s,I 0 s→Ev (fun n _=>L n n 0 s) (F 0 s):=by
 have key:∀ d i s,d+i=len→I i s→Ev (fun n N=>L n N i s) (F i s):=by
  intro d
  induction d with
  |zero=>exact fun i s hd hI=>do_ (h i s hI (by omega) fun s' _ hl=>absurd hl (by omega))
  |succ d ih=>exact fun i s hd hI=>do_ (h i s hI (by omega) fun s' hI' _=>ih (i+1) s' (by omega) hI')
 exact fun s hI=>er_ (f:=fun n N=>L n N 0 s) (key len 0 s (by omega) hI)
theorem jG_ (L:Nat→Nat→Nat→Option α) (F:Nat→α) (len:Nat)
  (h:∀ i,i≤len→(i<len→Ev (fun n N=>L n N (i+1)) (F (i+1)))→Ev (fun n N=>L n (N+1) i) (F i)) :
  Ev (fun n _=>L n n 0) (F 0) :=
 ev_up (σ:=Unit) (fun n N i _=>L n N i) (fun i _=>F i) (fun _ _=>True) len (fun i s _ hi k=>h i hi fun hl=>k () trivial hl) () trivial
end
abbrev ci_:Nat:=9223372036854775807
theorem W_id {n:Int} (h : -9223372036854775808≤n) (h':n<9223372036854775808):W n=n:=by
 show IntKind.i64.wrap n=n
 rw [IntKind.wrap_i64];omega
theorem W_up {i:Nat} {len:Nat} (h:i<len) (hl:len≤ci_):W ((i:Int)+1)=((i+1:Nat):Int):=by
 rw [W_id (by omega) (by simp only [ci_] at hl;omega)];omega
theorem mH_ {α:Type} (d:α) {a:List α} {i:Nat} (h:i<a.length):a.drop i=a.getD i d::a.drop (i+1):=by
 rw [List.drop_eq_getElem_cons h,List.getD_eq_getElem?_getD,List.getElem?_eq_getElem h];rfl
theorem drop_end {α:Type} {a:List α} {i:Nat} (h:a.length≤i):a.drop i=[]:=List.drop_eq_nil_of_le h
theorem cF_ {α:Type} (d:α) {a:List α} {i:Nat} (h:i<a.length):a.getD i d ∈ a:=by
 rw [List.getD_eq_getElem?_getD,List.getElem?_eq_getElem h];exact List.getElem_mem h
end Go.Pi
end
section
namespace Go.Pi
abbrev bi_.K7:Type:=Int→Option Int
theorem bi_.turn7 {n N:Nat} {k:Int→Option Int} {x0 x1 x2}:bi_.loop7 n k (N+1) x0 x1 x2=bi_.step7 n k (bi_.loop7 n k N) x0 x1 x2:=rfl
abbrev a4_.K4:Type:=(List aP_)→Option (List aP_)
theorem a4_.turn4 {n N:Nat} {k:(List aP_)→Option (List aP_)} {x0 x1 x2}:a4_.loop4 n k (N+1) x0 x1 x2=a4_.step4 n k (a4_.loop4 n k N) x0 x1 x2:=rfl
abbrev bh_.K4:Type:=(List Int)→Option (List Int)
theorem bh_.turn4 {n N:Nat} {k:(List Int)→Option (List Int)} {x0 x1 x2}:bh_.loop4 n k (N+1) x0 x1 x2=bh_.step4 n k (bh_.loop4 n k N) x0 x1 x2:=rfl
abbrev bk_.K4:Type:=(List TRow)→Option (List TRow)
theorem bk_.turn4 {n N:Nat} {k:(List TRow)→Option (List TRow)} {x0 x1 x2}:bk_.loop4 n k (N+1) x0 x1 x2=bk_.step4 n k (bk_.loop4 n k N) x0 x1 x2:=rfl
abbrev bl_.K4:Type:=(List TKid)→Option (List TKid)
theorem bl_.turn4 {n N:Nat} {k:(List TKid)→Option (List TKid)} {x0 x1 x2}:bl_.loop4 n k (N+1) x0 x1 x2=bl_.step4 n k (bl_.loop4 n k N) x0 x1 x2:=rfl
abbrev bv_.K4:Type:=(List TRow)→Option (List TRow)
theorem bv_.turn4 {n N:Nat} {k:(List TRow)→Option (List TRow)} {x0 x1 x2}:bv_.loop4 n k (N+1) x0 x1 x2=bv_.step4 n k (bv_.loop4 n k N) x0 x1 x2:=rfl
abbrev bp_.K3:Type:=Option Int
theorem bp_.turn3 {n N:Nat} {k:Option Int} {x0 x1 x2 x3 x4 x5 x6 x7 x8 x9 x10 x11 x12}:bp_.loop3 n k (N+1) x0 x1 x2 x3 x4 x5 x6 x7 x8 x9 x10 x11 x12=bp_.step3 n k (bp_.loop3 n k N) x0 x1 x2 x3 x4 x5 x6 x7 x8 x9 x10 x11 x12:=rfl
abbrev aO_.K4:Type:=(List Int)→Option (List Int)
theorem aO_.turn4 {n N:Nat} {k:(List Int)→Option (List Int)} {x0 x1 x2 x3 x4 x5 x6 x7 x8 x9 x10 x11 x12}:aO_.loop4 n k (N+1) x0 x1 x2 x3 x4 x5 x6 x7 x8 x9 x10 x11 x12=aO_.step4 n k (aO_.loop4 n k N) x0 x1 x2 x3 x4 x5 x6 x7 x8 x9 x10 x11 x12:=rfl
abbrev aN_.K7:Type:=Bool→Bs→Option Bs
theorem aN_.turn7 {n N:Nat} {k:Bool→Bs→Option Bs} {x0 x1 x2}:aN_.loop7 n k (N+1) x0 x1 x2=aN_.step7 n k (aN_.loop7 n k N) x0 x1 x2:=rfl
abbrev bz_.K5:Type:=Bs→Bool→Int→Int→Bs→(List aa_)→(List Bs)→Int→Int→Bs→Int→Int→Bs→(List aa_)→(List Bs)→Option aa_
theorem bz_.turn5 {n N:Nat} {k:Bs→Bool→Int→Int→Bs→(List aa_)→(List Bs)→Int→Int→Bs→Int→Int→Bs→(List aa_)→(List Bs)→Option aa_} {x0 x1 x2 x3 x4 x5 x6 x7 x8 x9 x10 x11 x12 x13 x14 x15 x16 x17 x18 x19 x20}:bz_.loop5 n k (N+1) x0 x1 x2 x3 x4 x5 x6 x7 x8 x9 x10 x11 x12 x13 x14 x15 x16 x17 x18 x19 x20=bz_.step5 n k (bz_.loop5 n k N) x0 x1 x2 x3 x4 x5 x6 x7 x8 x9 x10 x11 x12 x13 x14 x15 x16 x17 x18 x19 x20:=rfl
abbrev bg_.K4:Type:=Int→Int→(List aP_)→Int→Bool→Int→(List Int)→Bool→Int→Int→Int→(List Int)→Int→Int→Bs→Int→Int→Bs→(List aa_)→(List Bs)→Option aa_
theorem bg_.turn4 {n N:Nat} {k:Int→Int→(List aP_)→Int→Bool→Int→(List Int)→Bool→Int→Int→Int→(List Int)→Int→Int→Bs→Int→Int→Bs→(List aa_)→(List Bs)→Option aa_} {x0 x1 x2 x3 x4 x5 x6 x7 x8 x9 x10 x11 x12 x13 x14 x15 x16 x17 x18 x19 x20}:bg_.loop4 n k (N+1) x0 x1 x2 x3 x4 x5 x6 x7 x8 x9 x10 x11 x12 x13 x14 x15 x16 x17 x18 x19 x20=bg_.step4 n k (bg_.loop4 n k N) x0 x1 x2 x3 x4 x5 x6 x7 x8 x9 x10 x11 x12 x13 x14 x15 x16 x17 x18 x19 x20:=rfl
abbrev bj_.K3:Type:=Bs→Option Bool
theorem bj_.turn3 {n N:Nat} {k:Bs→Option Bool} {x0 x1}:bj_.loop3 n k (N+1) x0 x1=bj_.step3 n k (bj_.loop3 n k N) x0 x1:=rfl
abbrev ag_.K6:Type:=Int→Int→Bs→(List aa_)→(List Bs)→Option Bool
theorem ag_.turn6 {n N:Nat} {k:Int→Int→Bs→(List aa_)→(List Bs)→Option Bool} {x0 x1 x2 x3 x4 x5}:ag_.loop6 n k (N+1) x0 x1 x2 x3 x4 x5=ag_.step6 n k (ag_.loop6 n k N) x0 x1 x2 x3 x4 x5:=rfl
abbrev aG_.K23_1:Type:=Int→Int→Int→Int→Bs→(List aa_)→(List Bs)→Option Int
theorem aG_.turn23 {n N:Nat} {k0:aa_→Int→Option Int} {k1:Int→Int→Int→Int→Bs→(List aa_)→(List Bs)→Option Int} {x0 x1 x2 x3 x4 x5 x6 x7 x8}:aG_.loop23 n k0 k1 (N+1) x0 x1 x2 x3 x4 x5 x6 x7 x8=aG_.step23 n k0 k1 (aG_.loop23 n k0 k1 N) x0 x1 x2 x3 x4 x5 x6 x7 x8:=rfl
abbrev bH_.K4:Type:=(List TRow)→Int→Int→Bs→Int→Int→Bs→(List aa_)→Option aa_
theorem bH_.turn4 {n N:Nat} {k:(List TRow)→Int→Int→Bs→Int→Int→Bs→(List aa_)→Option aa_} {x0 x1 x2 x3 x4 x5 x6 x7 x8 x9 x10 x11 x12 x13 x14 x15 x16 x17 x18}:bH_.loop4 n k (N+1) x0 x1 x2 x3 x4 x5 x6 x7 x8 x9 x10 x11 x12 x13 x14 x15 x16 x17 x18=bH_.step4 n k (bH_.loop4 n k N) x0 x1 x2 x3 x4 x5 x6 x7 x8 x9 x10 x11 x12 x13 x14 x15 x16 x17 x18:=rfl
abbrev al_.K6_1:Type:=Int→Int→Bs→(List aa_)→(List Bs)→Int→Int→Bs→(List aa_)→(List Bs)→Option Bool
theorem al_.turn6 {n N:Nat} {k0:aa_→aa_→Option Bool} {k1:Int→Int→Bs→(List aa_)→(List Bs)→Int→Int→Bs→(List aa_)→(List Bs)→Option Bool} {x0 x1 x2 x3 x4 x5 x6 x7 x8 x9 x10}:al_.loop6 n k0 k1 (N+1) x0 x1 x2 x3 x4 x5 x6 x7 x8 x9 x10=al_.step6 n k0 k1 (al_.loop6 n k0 k1 N) x0 x1 x2 x3 x4 x5 x6 x7 x8 x9 x10:=rfl
abbrev al_.K14_1:Type:=Option Bool
theorem al_.turn14 {n N:Nat} {k0:aa_→aa_→Option Bool} {k1:Option Bool} {x0 x1 x2 x3 x4 x5 x6 x7 x8 x9 x10}:al_.loop14 n k0 k1 (N+1) x0 x1 x2 x3 x4 x5 x6 x7 x8 x9 x10=al_.step14 n k0 k1 (al_.loop14 n k0 k1 N) x0 x1 x2 x3 x4 x5 x6 x7 x8 x9 x10:=rfl
abbrev bd_.K3:Type:=(List aP_)→(List aP_)→Option Bool
theorem bd_.turn3 {n N:Nat} {k:(List aP_)→(List aP_)→Option Bool} {x0 x1 x2}:bd_.loop3 n k (N+1) x0 x1 x2=bd_.step3 n k (bd_.loop3 n k N) x0 x1 x2:=rfl
abbrev bu_.K3:Type:=(List Int)→(List Int)→Option Bool
theorem bu_.turn3 {n N:Nat} {k:(List Int)→(List Int)→Option Bool} {x0 x1 x2}:bu_.loop3 n k (N+1) x0 x1 x2=bu_.step3 n k (bu_.loop3 n k N) x0 x1 x2:=rfl
abbrev a2_.K5:Type:=(List aa_)→(List Int)→Option ((List aa_) × (List Int))
theorem a2_.turn5 {n N:Nat} {k:(List aa_)→(List Int)→Option ((List aa_) × (List Int))} {x0 x1 x2 x3 x4 x5 x6 x7 x8 x9 x10 x11 x12 x13}:a2_.loop5 n k (N+1) x0 x1 x2 x3 x4 x5 x6 x7 x8 x9 x10 x11 x12 x13=a2_.step5 n k (a2_.loop5 n k N) x0 x1 x2 x3 x4 x5 x6 x7 x8 x9 x10 x11 x12 x13:=rfl
abbrev bM_.K3:Type:=Option Int
theorem bM_.turn3 {n N:Nat} {k:Option Int} {x0 x1 x2}:bM_.loop3 n k (N+1) x0 x1 x2=bM_.step3 n k (bM_.loop3 n k N) x0 x1 x2:=rfl
abbrev aD_.K3:Type:=(List Int)→(List aa_)→Option Bool
theorem aD_.turn3 {n N:Nat} {k:(List Int)→(List aa_)→Option Bool} {x0 x1 x2}:aD_.loop3 n k (N+1) x0 x1 x2=aD_.step3 n k (aD_.loop3 n k N) x0 x1 x2:=rfl
abbrev aD_.K11:Type:=(List Int)→(List aa_)→Option Bool
theorem aD_.turn11 {n N:Nat} {k:(List Int)→(List aa_)→Option Bool} {x0 x1 x2}:aD_.loop11 n k (N+1) x0 x1 x2=aD_.step11 n k (aD_.loop11 n k N) x0 x1 x2:=rfl
abbrev a7_.K4_1:Type:=Int→Int→Bs→Int→Int→Bs→(List aa_)→(List Bs)→Option aa_
theorem a7_.turn4 {n N:Nat} {k0:aa_→Option aa_} {k1:Int→Int→Bs→Int→Int→Bs→(List aa_)→(List Bs)→Option aa_} {x0 x1 x2 x3 x4 x5 x6 x7 x8 x9 x10 x11 x12 x13}:a7_.loop4 n k0 k1 (N+1) x0 x1 x2 x3 x4 x5 x6 x7 x8 x9 x10 x11 x12 x13=a7_.step4 n k0 k1 (a7_.loop4 n k0 k1 N) x0 x1 x2 x3 x4 x5 x6 x7 x8 x9 x10 x11 x12 x13:=rfl
abbrev aA_.K5:Type:=(List aa_)→(List Int)→(List aa_)→(List Int)→(List TOp)→(List Int)→Option (List TOp)
theorem aA_.turn5 {n N:Nat} {k:(List aa_)→(List Int)→(List aa_)→(List Int)→(List TOp)→(List Int)→Option (List TOp)} {x0 x1 x2 x3 x4 x5 x6}:aA_.loop5 n k (N+1) x0 x1 x2 x3 x4 x5 x6=aA_.step5 n k (aA_.loop5 n k N) x0 x1 x2 x3 x4 x5 x6:=rfl
abbrev aA_.K13:Type:=(List TOp)→Option (List TOp)
theorem aA_.turn13 {n N:Nat} {k:(List TOp)→Option (List TOp)} {x0 x1 x2 x3 x4 x5 x6}:aA_.loop13 n k (N+1) x0 x1 x2 x3 x4 x5 x6=aA_.step13 n k (aA_.loop13 n k N) x0 x1 x2 x3 x4 x5 x6:=rfl
abbrev bF_.K4:Type:=(List TOp)→Option (List TOp)
theorem bF_.turn4 {n N:Nat} {k:(List TOp)→Option (List TOp)} {x0 x1 x2 x3}:bF_.loop4 n k (N+1) x0 x1 x2 x3=bF_.step4 n k (bF_.loop4 n k N) x0 x1 x2 x3:=rfl
abbrev bN_.K6:Type:=Int→(List Bs)→Int→Int→Bs→(List aa_)→(List Bs)→Option Bool
theorem bN_.turn6 {n N:Nat} {k:Int→(List Bs)→Int→Int→Bs→(List aa_)→(List Bs)→Option Bool} {x0 x1 x2 x3 x4 x5 x6 x7}:bN_.loop6 n k (N+1) x0 x1 x2 x3 x4 x5 x6 x7=bN_.step6 n k (bN_.loop6 n k N) x0 x1 x2 x3 x4 x5 x6 x7:=rfl
abbrev aw_.K10:Type:=(List Bs)→Int→(List Int)→Option Bs
theorem aw_.turn10 {n N:Nat} {k:(List Bs)→Int→(List Int)→Option Bs} {x0 x1 x2 x3}:aw_.loop10 n k (N+1) x0 x1 x2 x3=aw_.step10 n k (aw_.loop10 n k N) x0 x1 x2 x3:=rfl
abbrev aw_.K4:Type:=(List Int)→Option Bs
theorem aw_.turn4 {n N:Nat} {k:(List Int)→Option Bs} {x0 x1 x2}:aw_.loop4 n k (N+1) x0 x1 x2=aw_.step4 n k (aw_.loop4 n k N) x0 x1 x2:=rfl
abbrev a3_.K4:Type:=(List Int)→Option Bs
theorem a3_.turn4 {n N:Nat} {k:(List Int)→Option Bs} {x0 x1 x2}:a3_.loop4 n k (N+1) x0 x1 x2=a3_.step4 n k (a3_.loop4 n k N) x0 x1 x2:=rfl
abbrev aE_.K17_1:Type:=Bs→Int→Int→Bs→(List aa_)→(List Bs)→Option Bs
theorem aE_.turn17 {n N:Nat} {k0:aa_→Option Bs} {k1:Bs→Int→Int→Bs→(List aa_)→(List Bs)→Option Bs} {x0 x1 x2 x3 x4 x5 x6}:aE_.loop17 n k0 k1 (N+1) x0 x1 x2 x3 x4 x5 x6=aE_.step17 n k0 k1 (aE_.loop17 n k0 k1 N) x0 x1 x2 x3 x4 x5 x6:=rfl
abbrev aJ_.K4:Type:=Int→Int→Bs→(List aa_)→Option Int
theorem aJ_.turn4 {n N:Nat} {k:Int→Int→Bs→(List aa_)→Option Int} {x0 x1 x2 x3 x4 x5}:aJ_.loop4 n k (N+1) x0 x1 x2 x3 x4 x5=aJ_.step4 n k (aJ_.loop4 n k N) x0 x1 x2 x3 x4 x5:=rfl
abbrev aZ_.K4:Type:=(List TRow)→Option (List TRow)
theorem aZ_.turn4 {n N:Nat} {k:(List TRow)→Option (List TRow)} {x0 x1 x2 x3}:aZ_.loop4 n k (N+1) x0 x1 x2 x3=aZ_.step4 n k (aZ_.loop4 n k N) x0 x1 x2 x3:=rfl
abbrev by_.K3:Type:=Option Int
theorem by_.turn3 {n N:Nat} {k:Option Int} {x0 x1 x2 x3}:by_.loop3 n k (N+1) x0 x1 x2 x3=by_.step3 n k (by_.loop3 n k N) x0 x1 x2 x3:=rfl
abbrev aF_.K4:Type:=(List Int)→Option (List Int)
theorem aF_.turn4 {n N:Nat} {k:(List Int)→Option (List Int)} {x0 x1 x2 x3 x4 x5 x6 x7 x8 x9 x10 x11 x12 x13 x14}:aF_.loop4 n k (N+1) x0 x1 x2 x3 x4 x5 x6 x7 x8 x9 x10 x11 x12 x13 x14=aF_.step4 n k (aF_.loop4 n k N) x0 x1 x2 x3 x4 x5 x6 x7 x8 x9 x10 x11 x12 x13 x14:=rfl
abbrev aB_.K3:Type:=Option Int
theorem aB_.turn3 {n N:Nat} {k:Option Int} {x0 x1 x2 x3}:aB_.loop3 n k (N+1) x0 x1 x2 x3=aB_.step3 n k (aB_.loop3 n k N) x0 x1 x2 x3:=rfl
abbrev af_.K4:Type:=(List Bs)→Bs→Int→Int→Option (Int × Bool)
theorem af_.turn4 {n N:Nat} {k:(List Bs)→Bs→Int→Int→Option (Int × Bool)} {x0 x1 x2 x3 x4}:af_.loop4 n k (N+1) x0 x1 x2 x3 x4=af_.step4 n k (af_.loop4 n k N) x0 x1 x2 x3 x4:=rfl
abbrev bC_.K4:Type:=Int→Int→Bs→Int→Int→Bs→(List aa_)→(List Bs)→Option aa_
theorem bC_.turn4 {n N:Nat} {k:Int→Int→Bs→Int→Int→Bs→(List aa_)→(List Bs)→Option aa_} {x0 x1 x2 x3 x4 x5 x6 x7 x8 x9 x10 x11}:bC_.loop4 n k (N+1) x0 x1 x2 x3 x4 x5 x6 x7 x8 x9 x10 x11=bC_.step4 n k (bC_.loop4 n k N) x0 x1 x2 x3 x4 x5 x6 x7 x8 x9 x10 x11:=rfl
abbrev ax_.K3:Type:=Bs→Option Bool
theorem ax_.turn3 {n N:Nat} {k:Bs→Option Bool} {x0 x1 x2}:ax_.loop3 n k (N+1) x0 x1 x2=ax_.step3 n k (ax_.loop3 n k N) x0 x1 x2:=rfl
abbrev am_.K3:Type:=Option Bool
theorem am_.turn3 {n N:Nat} {k:Option Bool} {x0 x1 x2 x3}:am_.loop3 n k (N+1) x0 x1 x2 x3=am_.step3 n k (am_.loop3 n k N) x0 x1 x2 x3:=rfl
abbrev a8_.K7_1:Type:=Int→Option Int
theorem a8_.turn7 {n N:Nat} {k0:aa_→Int→Option Int} {k1:Int→Option Int} {x0 x1 x2 x3 x4}:a8_.loop7 n k0 k1 (N+1) x0 x1 x2 x3 x4=a8_.step7 n k0 k1 (a8_.loop7 n k0 k1 N) x0 x1 x2 x3 x4:=rfl
abbrev bm_.K4:Type:=Int→Int→(List aP_)→Int→Bool→Int→(List Int)→Bool→Int→Int→Int→Int→Bs→(List Bs)→(List Int)→Option aa_
theorem bm_.turn4 {n N:Nat} {k:Int→Int→(List aP_)→Int→Bool→Int→(List Int)→Bool→Int→Int→Int→Int→Bs→(List Bs)→(List Int)→Option aa_} {x0 x1 x2 x3 x4 x5 x6 x7 x8 x9 x10 x11 x12 x13 x14 x15 x16 x17 x18 x19}:bm_.loop4 n k (N+1) x0 x1 x2 x3 x4 x5 x6 x7 x8 x9 x10 x11 x12 x13 x14 x15 x16 x17 x18 x19=bm_.step4 n k (bm_.loop4 n k N) x0 x1 x2 x3 x4 x5 x6 x7 x8 x9 x10 x11 x12 x13 x14 x15 x16 x17 x18 x19:=rfl
abbrev a5_.K4:Type:=(List aa_)→Option (List aa_)
theorem a5_.turn4 {n N:Nat} {k:(List aa_)→Option (List aa_)} {x0 x1 x2 x3 x4 x5 x6 x7 x8 x9 x10 x11 x12 x13}:a5_.loop4 n k (N+1) x0 x1 x2 x3 x4 x5 x6 x7 x8 x9 x10 x11 x12 x13=a5_.step4 n k (a5_.loop4 n k N) x0 x1 x2 x3 x4 x5 x6 x7 x8 x9 x10 x11 x12 x13:=rfl
abbrev ac_.K3:Type:=Option Int
theorem ac_.turn3 {n N:Nat} {k:Option Int} {x0 x1 x2}:ac_.loop3 n k (N+1) x0 x1 x2=ac_.step3 n k (ac_.loop3 n k N) x0 x1 x2:=rfl
abbrev aj_.K6:Type:=Option Bool
theorem aj_.turn6 {n N:Nat} {k:Option Bool} {x0 x1 x2 x3}:aj_.loop6 n k (N+1) x0 x1 x2 x3=aj_.step6 n k (aj_.loop6 n k N) x0 x1 x2 x3:=rfl
abbrev ad_.K6_1:Type:=Option Bool
theorem ad_.turn6 {n N:Nat} {k0:aa_→aa_→Option Bool} {k1:Option Bool} {x0 x1 x2 x3}:ad_.loop6 n k0 k1 (N+1) x0 x1 x2 x3=ad_.step6 n k0 k1 (ad_.loop6 n k0 k1 N) x0 x1 x2 x3:=rfl
abbrev as_.K6:Type:=Option Bool
theorem as_.turn6 {n N:Nat} {k:Option Bool} {x0 x1 x2 x3}:as_.loop6 n k (N+1) x0 x1 x2 x3=as_.step6 n k (as_.loop6 n k N) x0 x1 x2 x3:=rfl
abbrev aC_.K6:Type:=Option Bool
theorem aC_.turn6 {n N:Nat} {k:Option Bool} {x0 x1 x2 x3}:aC_.loop6 n k (N+1) x0 x1 x2 x3=aC_.step6 n k (aC_.loop6 n k N) x0 x1 x2 x3:=rfl
abbrev bD_.K5:Type:=(List aa_)→(List Int)→Option ((List aa_) × (List Int))
theorem bD_.turn5 {n N:Nat} {k:(List aa_)→(List Int)→Option ((List aa_) × (List Int))} {x0 x1 x2 x3 x4}:bD_.loop5 n k (N+1) x0 x1 x2 x3 x4=bD_.step5 n k (bD_.loop5 n k N) x0 x1 x2 x3 x4:=rfl
abbrev bc_.K7:Type:=(List au_)→Option ((List au_) × Bool)
theorem bc_.turn7 {n N:Nat} {k:(List au_)→Option ((List au_) × Bool)} {x0 x1 x2 x3 x4}:bc_.loop7 n k (N+1) x0 x1 x2 x3 x4=bc_.step7 n k (bc_.loop7 n k N) x0 x1 x2 x3 x4:=rfl
abbrev ab_.K3:Type:=Option Int
theorem ab_.turn3 {n N:Nat} {k:Option Int} {x0 x1 x2 x3}:ab_.loop3 n k (N+1) x0 x1 x2 x3=ab_.step3 n k (ab_.loop3 n k N) x0 x1 x2 x3:=rfl
abbrev aI_.K4_1:Type:=Int→Int→Bs→Int→Int→Bs→(List aa_)→(List Bs)→Option aa_
theorem aI_.turn4 {n N:Nat} {k0:aa_→Option aa_} {k1:Int→Int→Bs→Int→Int→Bs→(List aa_)→(List Bs)→Option aa_} {x0 x1 x2 x3 x4 x5 x6 x7 x8 x9 x10}:aI_.loop4 n k0 k1 (N+1) x0 x1 x2 x3 x4 x5 x6 x7 x8 x9 x10=aI_.step4 n k0 k1 (aI_.loop4 n k0 k1 N) x0 x1 x2 x3 x4 x5 x6 x7 x8 x9 x10:=rfl
abbrev a1_.K9:Type:=(List au_)→(List au_)→(List TOp)→Option (List TOp)
theorem a1_.turn9 {n N:Nat} {k:(List au_)→(List au_)→(List TOp)→Option (List TOp)} {x0 x1 x2 x3}:a1_.loop9 n k (N+1) x0 x1 x2 x3=a1_.step9 n k (a1_.loop9 n k N) x0 x1 x2 x3:=rfl
abbrev a1_.K17:Type:=(List TOp)→Option (List TOp)
theorem a1_.turn17 {n N:Nat} {k:(List TOp)→Option (List TOp)} {x0 x1 x2 x3 x4}:a1_.loop17 n k (N+1) x0 x1 x2 x3 x4=a1_.step17 n k (a1_.loop17 n k N) x0 x1 x2 x3 x4:=rfl
abbrev bG_.K4:Type:=(List TOp)→Option (List TOp)
theorem bG_.turn4 {n N:Nat} {k:(List TOp)→Option (List TOp)} {x0 x1 x2 x3 x4}:bG_.loop4 n k (N+1) x0 x1 x2 x3 x4=bG_.step4 n k (bG_.loop4 n k N) x0 x1 x2 x3 x4:=rfl
abbrev bO_.K3:Type:=Int→(List Bs)→Int→Int→Bs→(List aa_)→(List Bs)→Option Bool
theorem bO_.turn3 {n N:Nat} {k:Int→(List Bs)→Int→Int→Bs→(List aa_)→(List Bs)→Option Bool} {x0 x1 x2 x3 x4 x5 x6 x7 x8 x9}:bO_.loop3 n k (N+1) x0 x1 x2 x3 x4 x5 x6 x7 x8 x9=bO_.step3 n k (bO_.loop3 n k N) x0 x1 x2 x3 x4 x5 x6 x7 x8 x9:=rfl
abbrev bf_.K4:Type:=Bs→Option Bs
theorem bf_.turn4 {n N:Nat} {k:Bs→Option Bs} {x0 x1 x2 x3}:bf_.loop4 n k (N+1) x0 x1 x2 x3=bf_.step4 n k (bf_.loop4 n k N) x0 x1 x2 x3:=rfl
abbrev a6_.K4:Type:=Int→Int→Bs→Int→Int→Bs→(List aa_)→Option (aa_ × Bool)
theorem a6_.turn4 {n N:Nat} {k:Int→Int→Bs→Int→Int→Bs→(List aa_)→Option (aa_ × Bool)} {x0 x1 x2 x3 x4 x5 x6 x7 x8 x9}:a6_.loop4 n k (N+1) x0 x1 x2 x3 x4 x5 x6 x7 x8 x9=a6_.step4 n k (a6_.loop4 n k N) x0 x1 x2 x3 x4 x5 x6 x7 x8 x9:=rfl
abbrev bt_.K4:Type:=(List Int)→Option Bs
theorem bt_.turn4 {n N:Nat} {k:(List Int)→Option Bs} {x0 x1 x2 x3}:bt_.loop4 n k (N+1) x0 x1 x2 x3=bt_.step4 n k (bt_.loop4 n k N) x0 x1 x2 x3:=rfl
abbrev aQ_.K4_1:Type:=Int→Int→Bs→(List aa_)→(List Bs)→(List Bs)→Option Bs
theorem aQ_.turn4 {n N:Nat} {k0:aa_→Option Bs} {k1:Int→Int→Bs→(List aa_)→(List Bs)→(List Bs)→Option Bs} {x0 x1 x2 x3 x4 x5 x6 x7 x8}:aQ_.loop4 n k0 k1 (N+1) x0 x1 x2 x3 x4 x5 x6 x7 x8=aQ_.step4 n k0 k1 (aQ_.loop4 n k0 k1 N) x0 x1 x2 x3 x4 x5 x6 x7 x8:=rfl
abbrev be_.K6:Type:=Option Bool
theorem be_.turn6 {n N:Nat} {k:Option Bool} {x0 x1 x2}:be_.loop6 n k (N+1) x0 x1 x2=be_.step6 n k (be_.loop6 n k N) x0 x1 x2:=rfl
abbrev bs_.K6:Type:=Option Bool
theorem bs_.turn6 {n N:Nat} {k:Option Bool} {x0 x1 x2}:bs_.loop6 n k (N+1) x0 x1 x2=bs_.step6 n k (bs_.loop6 n k N) x0 x1 x2:=rfl
abbrev bw_.K6:Type:=Option Bool
theorem bw_.turn6 {n N:Nat} {k:Option Bool} {x0 x1 x2}:bw_.loop6 n k (N+1) x0 x1 x2=bw_.step6 n k (bw_.loop6 n k N) x0 x1 x2:=rfl
abbrev bx_.K6:Type:=Option Bool
theorem bx_.turn6 {n N:Nat} {k:Option Bool} {x0 x1 x2}:bx_.loop6 n k (N+1) x0 x1 x2=bx_.step6 n k (bx_.loop6 n k N) x0 x1 x2:=rfl
abbrev aM_.K6:Type:=Option Bool
theorem aM_.turn6 {n N:Nat} {k:Option Bool} {x0 x1 x2}:aM_.loop6 n k (N+1) x0 x1 x2=aM_.step6 n k (aM_.loop6 n k N) x0 x1 x2:=rfl
abbrev bb_.K6_1:Type:=Option Bool
theorem bb_.turn6 {n N:Nat} {k0:aa_→aa_→Option Bool} {k1:Option Bool} {x0 x1 x2}:bb_.loop6 n k0 k1 (N+1) x0 x1 x2=bb_.step6 n k0 k1 (bb_.loop6 n k0 k1 N) x0 x1 x2:=rfl
abbrev bI_.K6:Type:=Option Bool
theorem bI_.turn6 {n N:Nat} {k:Option Bool} {x0 x1 x2}:bI_.loop6 n k (N+1) x0 x1 x2=bI_.step6 n k (bI_.loop6 n k N) x0 x1 x2:=rfl
abbrev aK_.K3:Type:=Int→(List aP_)→Option (Int × (List aP_))
theorem aK_.turn3 {n N:Nat} {k:Int→(List aP_)→Option (Int × (List aP_))} {x0 x1 x2}:aK_.loop3 n k (N+1) x0 x1 x2=aK_.step3 n k (aK_.loop3 n k N) x0 x1 x2:=rfl
abbrev aR_.K3:Type:=Int→(List Int)→Option (Int × (List Int))
theorem aR_.turn3 {n N:Nat} {k:Int→(List Int)→Option (Int × (List Int))} {x0 x1 x2}:aR_.loop3 n k (N+1) x0 x1 x2=aR_.step3 n k (aR_.loop3 n k N) x0 x1 x2:=rfl
abbrev aU_.K3:Type:=Int→(List TRow)→Option (Int × (List TRow))
theorem aU_.turn3 {n N:Nat} {k:Int→(List TRow)→Option (Int × (List TRow))} {x0 x1 x2}:aU_.loop3 n k (N+1) x0 x1 x2=aU_.step3 n k (aU_.loop3 n k N) x0 x1 x2:=rfl
abbrev aV_.K3:Type:=Int→(List TKid)→Option (Int × (List TKid))
theorem aV_.turn3 {n N:Nat} {k:Int→(List TKid)→Option (Int × (List TKid))} {x0 x1 x2}:aV_.loop3 n k (N+1) x0 x1 x2=aV_.step3 n k (aV_.loop3 n k N) x0 x1 x2:=rfl
abbrev aH_.K6:Type:=Bs→Option Bs
theorem aH_.turn6 {n N:Nat} {k:Bs→Option Bs} {x0 x1}:aH_.loop6 n k (N+1) x0 x1=aH_.step6 n k (aH_.loop6 n k N) x0 x1:=rfl
abbrev aq_.K3:Type:=Int→(List Bs)→Option (Int × (List Bs))
theorem aq_.turn3 {n N:Nat} {k:Int→(List Bs)→Option (Int × (List Bs))} {x0 x1 x2}:aq_.loop3 n k (N+1) x0 x1 x2=aq_.step3 n k (aq_.loop3 n k N) x0 x1 x2:=rfl
abbrev ay_.K3_1:Type:=Int→(List aa_)→Option (Int × (List aa_))
theorem ay_.turn3 {n N:Nat} {k0:(List aa_)→Int→Option (Int × (List aa_))} {k1:Int→(List aa_)→Option (Int × (List aa_))} {x0 x1 x2}:ay_.loop3 n k0 k1 (N+1) x0 x1 x2=ay_.step3 n k0 k1 (ay_.loop3 n k0 k1 N) x0 x1 x2:=rfl
abbrev a9_.K3:Type:=Int→(List TOp)→Option (Int × (List TOp))
theorem a9_.turn3 {n N:Nat} {k:Int→(List TOp)→Option (Int × (List TOp))} {x0 x1 x2}:a9_.loop3 n k (N+1) x0 x1 x2=a9_.step3 n k (a9_.loop3 n k N) x0 x1 x2:=rfl
abbrev aL_.K3:Type:=Int→Option Int
theorem aL_.turn3 {n N:Nat} {k:Int→Option Int} {x0 x1 x2}:aL_.loop3 n k (N+1) x0 x1 x2=aL_.step3 n k (aL_.loop3 n k N) x0 x1 x2:=rfl
abbrev aS_.K3:Type:=Int→Option Int
theorem aS_.turn3 {n N:Nat} {k:Int→Option Int} {x0 x1 x2}:aS_.loop3 n k (N+1) x0 x1 x2=aS_.step3 n k (aS_.loop3 n k N) x0 x1 x2:=rfl
abbrev aW_.K3:Type:=Int→Option Int
theorem aW_.turn3 {n N:Nat} {k:Int→Option Int} {x0 x1 x2}:aW_.loop3 n k (N+1) x0 x1 x2=aW_.step3 n k (aW_.loop3 n k N) x0 x1 x2:=rfl
abbrev aX_.K3:Type:=Int→Option Int
theorem aX_.turn3 {n N:Nat} {k:Int→Option Int} {x0 x1 x2}:aX_.loop3 n k (N+1) x0 x1 x2=aX_.step3 n k (aX_.loop3 n k N) x0 x1 x2:=rfl
abbrev ar_.K3:Type:=Int→Option Int
theorem ar_.turn3 {n N:Nat} {k:Int→Option Int} {x0 x1 x2}:ar_.loop3 n k (N+1) x0 x1 x2=ar_.step3 n k (ar_.loop3 n k N) x0 x1 x2:=rfl
abbrev az_.K3_1:Type:=Int→Option Int
theorem az_.turn3 {n N:Nat} {k0:(List aa_)→Int→Option Int} {k1:Int→Option Int} {x0 x1 x2}:az_.loop3 n k0 k1 (N+1) x0 x1 x2=az_.step3 n k0 k1 (az_.loop3 n k0 k1 N) x0 x1 x2:=rfl
abbrev ba_.K3:Type:=Int→Option Int
theorem ba_.turn3 {n N:Nat} {k:Int→Option Int} {x0 x1 x2}:ba_.loop3 n k (N+1) x0 x1 x2=ba_.step3 n k (ba_.loop3 n k N) x0 x1 x2:=rfl
end Go.Pi
end
section
namespace Go.Pi
def fl_ (p:Nat→Bool):Nat→Nat→Bool
 |0,_=>true
 |d+1,i=>p i&&fl_ p d (i+1)
def iq_ (p:Nat→Bool) (len:Nat):Bool:=fl_ p len 0
theorem e7_ (L:Nat→Nat→Nat→Option Bool) (p:Nat→Bool) {len:Nat} {v:Bool}
  (h:∀ i w,i<len→Ev (fun n N=>L n N (i+1)) w→Ev (fun n N=>L n (N+1) i) (p i&&w)) (h2:Ev (fun n N=>L n (N+1) len) v) :
  Ev (fun n _=>L n n 0) (iq_ p len&&v):=by
 have key:∀ d i,d+i=len→Ev (fun n N=>L n N i) (fl_ p d i&&v):=by
  intro d
  induction d with
  |zero=>intro i hd;obtain rfl:i=len:=by omega
         simpa [fl_] using do_ (f:=fun n N=>L n N i) h2
  |succ d ih=>intro i hd
              have:=h i _ (by omega) (ih (i+1) (by omega))
              rw [←Bool.and_assoc] at this
              exact do_ (f:=fun n N=>L n N i) this
 exact er_ (f:=fun n N=>L n N 0) (key len 0 (by omega))
theorem fb_ {α:Type} {f:Nat→Nat→Option α} {v w:α} (h:Ev f v) (e:v=w):Ev f w:=e ▸ h
def inn (x lo hi:Int):Bool:=decide (lo≤x)&&decide (x≤hi)
theorem inn_iff {x lo hi:Int}:inn x lo hi=true↔lo≤x∧x≤hi:=by simp [inn]
theorem l1In_ev {x lo hi:Int}:Ev (fun n _=>dy_ n x lo hi) (inn x lo hi):=by
 refine ao_ ?_
 simp only [dy_,ai_,ah_,inn]
 grind
theorem within_ev {x lo hi:Int}:Ev (fun n _=>aY_ n x lo hi) (inn x lo hi):=by
 refine ao_ ?_
 simp only [aY_,ai_,ah_,inn]
 grind
section
variable {β:Type} {x lo hi:Int} {g:Nat→Nat→Bool→Option β} {v:β}
theorem l1In_b:Ev (fun n N=>(dy_ n x lo hi).bind (g n N)) v↔Ev (fun n N=>g n N (inn x lo hi)) v:=ae_ l1In_ev
theorem hw_:Ev (fun n N=>(aY_ n x lo hi).bind (g n N)) v↔Ev (fun n N=>g n N (inn x lo hi)) v:=ae_ within_ev
theorem isNum_b:Ev (fun n N=>(bA_ n x).bind (g n N)) v↔Ev (fun n N=>g n N (inn x (-1000000000) 1000000000)) v :=
 ae_ (ao_ (by simp only [bA_,hw_,ah_]))
end
theorem dW_ {i len:Nat} (h:i<len):decide ((i:Int)<(len:Int))=true:=by simp;omega
theorem dN_ {len:Nat}:decide ((len:Int)<(len:Int))=false:=by simp
theorem dx_ {i len:Nat} (h:i<len):((0:Int)≤(i:Int)∧(i:Int)<(len:Int))↔True:=by simp;omega
end Go.Pi
end
section
namespace Go.Pi
abbrev cap:Nat:=1048576
def e6_ {α:Type} (f:α→Nat):List α→Nat
 |[]=>0
 |x::xs=>f x+e6_ f xs
def dO_ {α:Type} (f:α→Nat) (l:List α):Nat:=l.length+e6_ f l
def ni_ {α:Type} (P:α→Prop) (l:List α):Prop:=l.length≤ci_∧∀ x ∈ l,P x
def szI (_:Int):Nat:=0
def szB (s:Bs):Nat:=s.length
def lenI (_:Int):Prop:=True
def lenB (s:Bs):Prop:=s.length≤ci_
theorem hA_ {α:Type} (f:α→Nat) (d:α) {a:List α} {i:Nat} (h:i<a.length):e6_ f (a.drop i)=f (a.getD i d)+e6_ f (a.drop (i+1)):=by
 rw [mH_ d h];rfl
theorem kS_ {α:Type} (f:α→Nat) (x:α):∀ (a:List α) (i:Nat),e6_ f ((a.set i x).drop (i+1))=e6_ f (a.drop (i+1))
 |[],_=>rfl
 |_::_,0=>rfl
 |_::a,i+1=>by simpa using kS_ f x a i
theorem h7_ {α:Type} (f:α→Nat) {a:List α} {x:α} (h:x ∈ a):f x≤e6_ f a:=by
 induction a with
 |nil=>cases h
 |cons y a ih=>
  simp only [e6_]
  rcases List.mem_cons.1 h with rfl|h
  · omega
  · have:=ih h;omega
theorem eW_ {α:Type} (f:α→Nat) {a:List α} {x:α} (h:x ∈ a):1+f x≤dO_ f a:=by
 unfold dO_
 have:=h7_ f h
 have:=List.length_pos_of_mem h
 omega
theorem c8_ {α:Type} (f:α→Nat) (a:List α):a.length≤dO_ f a:=by unfold dO_;omega
theorem hz_ {α:Type} (f:α→Nat) (h:∀ x,f x=0):∀ a:List α,e6_ f a=0
 |[]=>rfl
 |x::a=>by simp only [e6_,h,hz_ f h a]
theorem take_set {α:Type} (d:α) {a s:List α} {i:Nat} (h:i<a.length) (hs:s.length=a.length) (ht:s.take i=a.take i):(s.set i (a.getD i d)).take (i+1)=a.take (i+1):=by
 rw [List.take_add_one,List.take_add_one,List.take_set_of_le (Nat.le_refl i),ht,List.getElem?_set_self (by omega),List.getD_eq_getElem?_getD,List.getElem?_eq_getElem h]
 rfl
theorem f3_ {α:Type} (d:α) {a:List α} {i:Nat} (h:i<a.length) (x:α):(a.set i x).getD i d=x:=by
 rw [List.getD_eq_getElem?_getD,List.getElem?_set_self h];rfl
def gq_ (l:Int) (s:Nat):Int:=if (s:Int)≤l then l - s else -1
theorem lL_ {l:Int} (h:0≤l):gq_ l 0=l:=by unfold gq_;rw [if_pos (by omega)];omega
theorem kT_ {l:Int} {s t:Nat} (h0:0≤l):(gq_ l s<0→gq_ l (s+t) = -1)∧(¬ gq_ l s<0→(0≤gq_ l s∧gq_ l s≤l)∧gq_ (gq_ l s) t=gq_ l (s+t)):=by
 unfold gq_
 constructor<;>intro h
 · split at h
   · omega
   · rw [if_neg (by omega)]
 · split at h
   · rename_i h1
     rw [if_pos h1]
     refine ⟨by omega,?_⟩
     by_cases h2:(t:Int)≤l - s
     · rw [if_pos h2,if_pos (by omega)];omega
     · rw [if_neg h2,if_neg (by omega)]
   · omega
theorem subS_ok {l:Int} {s:Nat} (h:¬ gq_ l s<0):(s:Int)≤l:=by
 unfold gq_ at h;split at h<;>omega
section
variable {α β:Type}
theorem ll_ {f:Nat→Nat→Option Int} {g:Nat→Nat→Int→Option Int} {l:Int} {s t:Nat} (h0:0≤l) (h1:l≤1048576) (h:Ev f (gq_ l s)) (k:∀ r,0≤r→r≤1048576→Ev (fun n N=>g n N r) (gq_ r t)) :
  Ev (fun n N=>(f n N).bind fun x=>cond (decide (x<0)) (some (-1)) (g n N x)) (gq_ l (s+t)):=by
 rw [ae_ h,ai_]
 obtain ⟨a,b⟩:=kT_ (l:=l) (s:=s) (t:=t) h0
 refine ⟨fun h => ?_,fun h => ?_⟩
 · rw [a (of_decide_eq_true h)];exact ah_.2 rfl
 · obtain ⟨⟨b1,b2⟩,b3⟩:=b (of_decide_eq_false h)
   rw [←b3]
   exact k _ b1 (by omega)
theorem mC_ {l:Int} (h:0≤l):Ev (fun _ _=>some l) (gq_ l 0):=by rw [lL_ h];exact ah_.2 rfl
theorem ev_szL {l:Int} {m t:Nat} (h0:0≤l) (h1:l≤1048576) (hm:m≤ci_) {g:Nat→Nat→Int→Option Int} (k:∀ r,0≤r→r≤1048576→Ev (fun n N=>g n N r) (gq_ r t)) :
  Ev (fun n N=>cond (decide (W (l - (m:Int))<0)) (some (-1)) (g n N (W (l - (m:Int))))) (gq_ l (m+t)):=by
 simp only [ci_] at hm
 rw [W_id (by omega) (by omega)]
 have e:l - (m:Int)<0∨l - m=gq_ l m:=by unfold gq_;split<;>omega
 rw [ai_]
 refine ⟨fun h => ?_,fun h => ?_⟩
 · have h:=of_decide_eq_true h
   rw [(kT_ h0).1 (by unfold gq_;rw [if_neg (by omega)];omega)]
   exact ah_.2 rfl
 · have h:=of_decide_eq_false h
   have e:=e.resolve_left h
   have:=(kT_ (l:=l) (s:=m) (t:=t) h0).2 (by rw [←e];exact h)
   rw [←this.2,←e]
   exact k _ (by omega) (by omega)
theorem ev_szI {l:Int} {m:Nat} (h0:0≤l) (h1:l≤1048576) (hm:m≤ci_) :
  Ev (fun _ _=>cond (decide (W (l - (m:Int))<0)) (some (-1)) (some (W (l - (m:Int))))) (gq_ l m) :=
 ev_szL (t:=0) (g:=fun _ _ x=>some x) h0 h1 hm fun r a b=>mC_ a
theorem sz_list (d:α) (f:α→Nat) (L:Nat→Nat→Int→Nat→Option Int) (a:List α)
  (h1:∀ i l,i<a.length→0≤l→l≤1048576→∀ t,(∀ r,0≤r→r≤1048576→Ev (fun n N=>L n N r (i+1)) (gq_ r t))→Ev (fun n N=>L n (N+1) l i) (gq_ l (f (a.getD i d)+t)))
  (h2:∀ l,Ev (fun n N=>L n (N+1) l a.length) l) (l:Int) (hl:0≤l) (hl':l≤1048576):Ev (fun n _=>L n n l 0) (gq_ l (e6_ f a)):=by
 have key:∀ j i,j+i=a.length→∀ l,0≤l→l≤1048576→Ev (fun n N=>L n N l i) (gq_ l (e6_ f (a.drop i))):=by
  intro j
  induction j with
  |zero=>
   intro i hi l h0 _
   rw [drop_end (by omega)]
   refine do_ ?_
   have:i=a.length:=by omega
   subst this
   rw [show e6_ f []=0 from rfl,lL_ h0]
   exact h2 l
  |succ j ih=>
   intro i hi l h0 h1'
   rw [hA_ f d (by omega)]
   exact do_ (h1 i l (by omega) h0 h1' _ fun r a b=>ih (i+1) (by omega) r a b)
 have:=key a.length 0 (by omega) l hl hl'
 rw [List.drop_zero] at this
 exact er_ (f:=fun n N=>L n N l 0) this
theorem lm_ (d:α) (a:List α) (L:Nat→Nat→Nat→List α→Option (List α))
  (h1:∀ i s,i<a.length→s.length=a.length→Ev (fun n N=>L n N (i+1) (s.set i (a.getD i d))) a→Ev (fun n N=>L n (N+1) i s) a)
  (h2:Ev (fun n N=>L n (N+1) a.length a) a) (s:List α) (hs:s.length=a.length):Ev (fun n _=>L n n 0 s) a:=by
 refine ev_up L (fun _ _=>a) (fun i s=>s.length=a.length∧s.take i=a.take i) a.length (fun i s hI hi k => ?_) s ⟨hs,by simp⟩
 by_cases h:i<a.length
 · exact h1 i s h hI.1 (k _ ⟨by simp [hI.1],take_set d h hI.1 hI.2⟩ h)
 · have e:i=a.length:=by omega
   subst e
   have:s=a:=by
    have:=hI.2
    rwa [List.take_of_length_le (by omega),List.take_of_length_le (Nat.le_refl _)] at this
   subst this
   exact h2
theorem kn_ (Q:α→Prop) (d:α) (f:α→Nat) (LM:Nat→Nat→Int→Nat→List α→Option (Int × List α)) (LH:Nat→Nat→List α→Int→Nat→Option Int)
  (hm:∀ i (a:List α) (k:Int),i<a.length→Q (a.getD i d)→a.length≤ci_→0≤k→k+32*(1+f (a.getD i d):Nat)≤ci_ →
    ∃ k' x',k≤k'∧k'≤k+32*(1+f (a.getD i d):Nat)∧(∀ F,Ev (fun n N=>LM n N k' (i+1) (a.set i x')) F→Ev (fun n N=>LM n (N+1) k i a) F) ∧
      ∀ (b:List α) F,i<b.length→b.length≤ci_→b.getD i d=x'→Ev (fun n N=>LH n N b k' (i+1)) F→Ev (fun n N=>LH n (N+1) b k i) F)
  (em:∀ (a:List α) k,Ev (fun n N=>LM n (N+1) k a.length a) (k,a)) (eh:∀ (a:List α) k,Ev (fun n N=>LH n (N+1) a k a.length) k)
  (a:List α) (k:Int) (hq:∀ i,i<a.length→Q (a.getD i d)) (ha:a.length≤ci_) (hk:0≤k) (hb:k+32*(dO_ f a:Nat)≤ci_) :
  ∃ k' a',k≤k'∧k'≤k+32*(dO_ f a:Nat)∧a'.length=a.length∧Ev (fun n _=>LM n n k 0 a) (k',a')∧Ev (fun n _=>LH n n a' k 0) k':=by
 have key:∀ j i (a:List α) (k:Int),j+i=a.length→(∀ m,i≤m→m<a.length→Q (a.getD m d))→a.length≤ci_→0≤k→k+32*((j+e6_ f (a.drop i):Nat):Int)≤ci_ →
   ∃ k' a',k≤k'∧k'≤k+32*((j+e6_ f (a.drop i):Nat):Int)∧a'.length=a.length∧a'.take i=a.take i∧Ev (fun n N=>LM n N k i a) (k',a')∧Ev (fun n N=>LH n N a' k i) k':=by
  intro j
  induction j with
  |zero=>
   intro i a k hi _ _ hk _
   have:i=a.length:=by omega
   subst this
   exact ⟨k,a,by omega,by omega,rfl,rfl,do_ (em a k),do_ (eh a k)⟩
  |succ j ih=>
   intro i a k hi hq ha hk hb
   rw [hA_ f d (by omega)] at hb ⊢
   obtain ⟨k1,x',p1,p2,p3,p4⟩:=hm i a k (by omega) (hq i (Nat.le_refl _) (by omega)) ha hk (by omega)
   obtain ⟨k2,a',q1,q2,q3,q4,q5,q6⟩:=ih (i+1) (a.set i x') k1 (by rw [List.length_set];omega) (fun m h1 h2=>by
    rw [List.length_set] at h2
    rw [List.getD_eq_getElem?_getD,List.getElem?_set_ne (by omega),←List.getD_eq_getElem?_getD]
    exact hq m (by omega) h2) (by rw [List.length_set];exact ha) (by omega) (by rw [kS_];omega)
   rw [kS_] at q2
   rw [List.length_set] at q3
   have hlt:i<a'.length:=by omega
   have hx:a'.getD i d=x':=by
    have e:=congrArg (fun l=>l[i]?) q4
    simp only [List.getElem?_take,if_pos (Nat.lt_succ_self i),List.getElem?_set_self (show i<a.length by omega)] at e
    rw [List.getD_eq_getElem?_getD,e];rfl
   refine ⟨k2,a',by omega,by omega,q3,?_,do_ (p3 _ q5),do_ (p4 a' k2 hlt (by omega) hx q6)⟩
   have e:=congrArg (List.take i) q4
   simp only [List.take_take,Nat.min_eq_left (Nat.le_succ i),List.take_set_of_le (Nat.le_refl i)] at e
   exact e
 obtain ⟨k',a',h1,h2,h3,_,h5,h6⟩:=key a.length 0 a k (by omega) (fun m _ h=>hq m h) ha hk (by rw [List.drop_zero];unfold dO_ at hb;omega)
 refine ⟨k',a',h1,by rw [List.drop_zero] at h2;unfold dO_;omega,h3,er_ (f:=fun n N=>LM n N k 0 a) h5,er_ (f:=fun n N=>LH n N a' k 0) h6⟩
theorem fK_ (d:α) (f:α→Nat) (LM:Nat→Nat→Int→Nat→List α→Option (Int × List α)) (LH:Nat→Nat→List α→Int→Nat→Option Int)
  (hm:∀ i (a:List α) (k:Int),i<a.length→a.length≤ci_→0≤k→k+32*(1+f (a.getD i d):Nat)≤ci_ →
    ∃ k' x',k≤k'∧k'≤k+32*(1+f (a.getD i d):Nat)∧(∀ F,Ev (fun n N=>LM n N k' (i+1) (a.set i x')) F→Ev (fun n N=>LM n (N+1) k i a) F) ∧
      ∀ (b:List α) F,i<b.length→b.length≤ci_→b.getD i d=x'→Ev (fun n N=>LH n N b k' (i+1)) F→Ev (fun n N=>LH n (N+1) b k i) F)
  (em:∀ (a:List α) k,Ev (fun n N=>LM n (N+1) k a.length a) (k,a)) (eh:∀ (a:List α) k,Ev (fun n N=>LH n (N+1) a k a.length) k)
  (a:List α) (k:Int) (ha:a.length≤ci_) (hk:0≤k) (hb:k+32*(dO_ f a:Nat)≤ci_) :
  ∃ k' a',k≤k'∧k'≤k+32*(dO_ f a:Nat)∧a'.length=a.length∧Ev (fun n _=>LM n n k 0 a) (k',a')∧Ev (fun n _=>LH n n a' k 0) k' :=
 kn_ (fun _=>True) d f LM LH (fun i a k h1 _ h2 h3 h4=>hm i a k h1 h2 h3 h4) em eh a k (fun _ _=>trivial) ha hk hb
end
theorem d9_ {k:Int} (h:0≤k) (h':k+1≤ci_):W (k+1)=k+1:=W_id (by omega) (by simp only [ci_] at h';omega)
end Go.Pi
end
section
namespace Go.Pi
theorem W_dn {i:Nat} (h:i≤ci_):W ((i:Int) - 1)=(i:Int) - 1:=by
 rw [W_id (by omega) (by simp only [ci_] at h;omega)]
theorem n1_ {i:Nat}:((i:Int) - 1).toNat=i - 1:=by omega
theorem hQ_ {x lo hi:Int} (h:inn x lo hi=true):lo≤x∧x≤hi:=inn_iff.1 h
def f5_ {α:Type} (s:Nat→α→α) (v:α):Nat→Nat→α
 |0,_=>v
 |d+1,i=>s i (f5_ s v d (i+1))
theorem im_ {α:Type} (L:Nat→Nat→Nat→Option α) (s:Nat→α→α) {len:Nat} {v:α}
  (h:∀ i w,i<len→Ev (fun n N=>L n N (i+1)) w→Ev (fun n N=>L n (N+1) i) (s i w)) (h2:Ev (fun n N=>L n (N+1) len) v) :
  Ev (fun n _=>L n n 0) (f5_ s v len 0):=by
 have key:∀ d i,d+i=len→Ev (fun n N=>L n N i) (f5_ s v d i):=by
  intro d
  induction d with
  |zero=>intro i hd;obtain rfl:i=len:=by omega
         exact do_ (f:=fun n N=>L n N i) h2
  |succ d ih=>intro i hd
              exact do_ (f:=fun n N=>L n N i) (h i _ (by omega) (ih (i+1) (by omega)))
 exact er_ (f:=fun n N=>L n N 0) (key len 0 (by omega))
theorem cg_ {α:Type} {n b:Nat} {f:Nat→Nat→Option α} {v:α}:Ev (fun m N=>cJ_ n b (f m N)) v↔n*b≤140737488355328∧Ev f v:=by
 unfold cJ_
 rw [ai_]
 by_cases h:n*b≤140737488355328<;>simp [h,dU_]
theorem kB_ {α β γ:Type} (d:α) (a:List α) (f:α→β) (L:Nat→Nat→Nat→List β→Option γ) (v:γ)
  (h1:∀ i s,i<a.length→s.length=i→∀ F,Ev (fun n N=>L n N (i+1) (s++[f (a.getD i d)])) F→Ev (fun n N=>L n (N+1) i s) F)
  (h2:Ev (fun n N=>L n (N+1) a.length (a.map f)) v):Ev (fun n _=>L n n 0 []) v:=by
 have key:∀ j i,j+i=a.length→Ev (fun n N=>L n N i ((a.take i).map f)) v:=by
  intro j
  induction j with
  |zero=>
   intro i hi
   have:i=a.length:=by omega
   subst this
   rw [List.take_of_length_le (Nat.le_refl _)]
   exact do_ h2
  |succ j ih=>
   intro i hi
   refine do_ (h1 i _ (by omega) (by simp;omega) _ ?_)
   have:=ih (i+1) (by omega)
   rw [List.take_add_one,List.map_append] at this
   have e:a[i]?.toList=[a.getD i d]:=by
    rw [List.getD_eq_getElem?_getD,List.getElem?_eq_getElem (by omega)];rfl
   rw [e] at this
   exact this
 have:=key a.length 0 (by omega)
 exact er_ (f:=fun n N=>L n N 0 []) this
abbrev h4_:Nat:=1073741824
theorem eC_ {α γ:Type} (S:Nat→α) (len:Nat) (L:Nat→Nat→Nat→α→Option γ) (v:γ)
  (h1:∀ i,i<len→∀ F,Ev (fun n N=>L n N (i+1) (S (i+1))) F→Ev (fun n N=>L n (N+1) i (S i)) F)
  (h2:Ev (fun n N=>L n (N+1) len (S len)) v):Ev (fun n _=>L n n 0 (S 0)) v:=by
 have key:∀ j i,j+i=len→Ev (fun n N=>L n N i (S i)) v:=by
  intro j
  induction j with
  |zero=>
   intro i hi
   have:i=len:=by omega
   subst this
   exact do_ h2
  |succ j ih=>exact fun i hi=>do_ (h1 i (by omega) _ (ih (i+1) (by omega)))
 exact er_ (f:=fun n N=>L n N 0 (S 0)) (key len 0 (by omega))
theorem eb_ {α:Type} (d:α) {a:List α} {i:Nat} (h:i<a.length):a.take (i+1)=a.take i++[a.getD i d]:=by
 rw [List.take_add_one,List.getD_eq_getElem?_getD,List.getElem?_eq_getElem h];rfl
theorem fu_ {α:Type} (d:α) (P:α→Bool):∀ (rows:List α),f5_ (fun i (x:Int)=>cond (P (rows.getD i d)) (i:Int) x) (-1) rows.length 0=if rows.findIdx P<rows.length then (rows.findIdx P:Int) else -1:=by
 intro rows
 have key:∀ j i,j+i=rows.length→(∀ k,k<i→P (rows.getD k d)=false)→f5_ (fun i (x:Int)=>cond (P (rows.getD i d)) (i:Int) x) (-1) j i=if rows.findIdx P<rows.length then (rows.findIdx P:Int) else -1:=by
  intro j
  induction j with
  |zero=>
   intro i hi hk
   have:¬ rows.findIdx P<rows.length:=by
    intro h
    have h1:=List.findIdx_getElem (w:=h)
    have h2:=hk _ (show rows.findIdx P<i by omega)
    rw [List.getD_eq_getElem?_getD,List.getElem?_eq_getElem h] at h2
    simp only [Option.getD_some] at h2
    rw [h1] at h2;cases h2
   rw [if_neg this];rfl
  |succ j ih=>
   intro i hi hk
   simp only [f5_]
   cases hp:P (rows.getD i d) with
   |true=>
    have hlt:i<rows.length:=by omega
    rw [List.getD_eq_getElem?_getD,List.getElem?_eq_getElem hlt] at hp
    have e:rows.findIdx P=i:=by
     apply Nat.le_antisymm
     · exact Nat.le_of_not_lt fun h=>by have:=List.not_of_lt_findIdx h;rw [Option.getD_some] at hp;rw [hp] at this;cases this
     · exact Nat.le_of_not_lt fun h=>by
        have h2:=hk _ h
        have hl:rows.findIdx P<rows.length:=by omega
        rw [List.getD_eq_getElem?_getD,List.getElem?_eq_getElem hl] at h2
        rw [Option.getD_some,List.findIdx_getElem (w:=hl)] at h2;cases h2
    rw [e,if_pos hlt];rfl
   |false=>
    rw [cond_false]
    exact ih (i+1) (by omega) fun k hk'=>by
     by_cases e:k=i
     · subst e;exact hp
     · exact hk k (by omega)
 exact key rows.length 0 (by omega) fun k hk=>by omega
theorem hm_ {α:Type} {lo hi:Int} {len:Nat} {f:Nat→Nat→Option α} {v:α}:Ev (fun n N=>j8_ lo hi len (f n N)) v↔(0≤lo∧lo≤hi∧hi≤(len:Int))∧Ev f v:=by
 unfold j8_
 simp only [ai_,dU_]
 by_cases h1:0≤lo<;>by_cases h2:lo≤hi<;>by_cases h3:hi≤(len:Int)<;>simp [h1,h2,h3]
theorem g1_ {p:Nat→Bool} {len:Nat}:iq_ p len=true↔∀ i,i<len→p i=true:=by
 have key:∀ d i,d+i=len→(fl_ p d i=true↔∀ k,i≤k→k<len→p k=true):=by
  intro d
  induction d with
  |zero=>intro i hi;simp only [fl_,true_iff];intro k h1 h2;omega
  |succ d ih=>
   intro i hi
   simp only [fl_,Bool.and_eq_true,ih (i+1) (by omega)]
   constructor
   · rintro ⟨h1,h2⟩ k h3 h4
     by_cases e:k=i
     · subst e;exact h1
     · exact h2 k (by omega) h4
   · exact fun h=>⟨h i (Nat.le_refl _) (by omega),fun k h1 h2=>h k (by omega) h2⟩
 have:=key len 0 (by omega)
 unfold iq_
 rw [this]
 exact ⟨fun h i hi=>h i (Nat.zero_le _) hi,fun h i _ hi=>h i hi⟩
end Go.Pi
end
section
namespace Go.Pi
theorem b3_ (j:aa_):aa_.re j=j:=by cases j;rfl
def iO_ (s:Bs):Bool:=iq_ (fun i=>inn ((s.getD i 0).toNat:Int) 32 126) s.length&&decide ((s.length:Int)≤60)
theorem byte_W (b:UInt8):W ((b.toNat:Int))=(b.toNat:Int):=W_id (by omega) (by have:=b.toNat_lt;omega)
theorem fy_ {s:Bs} (hs:s.length≤ci_):Ev (fun n _=>bj_ n s) (iO_ s):=by
 refine ao_ ?_
 simp only [bj_]
 refine e7_ (fun n N i=>bj_.loop3 n (fun xy1=>(some (decide ((xy1.length:Int)≤60)))) N s (i:Int)) _ (fun i w hi ih => ?_) ?_
 · simp only [bj_.turn3,bj_.step3,Int.toNat_natCast,ai_,bT_,ah_,W_up hi hs,ei_ ih,dW_ hi,dx_ hi]
   clear ih
   simp only [inn]
   by_cases h1:(((s.getD i 0).toNat:Nat):Int)<32<;>by_cases h2:(((s.getD i 0).toNat:Nat):Int) > 126<;>simp [h1,h2]<;>(intros;omega)
 · simp only [bj_.turn3,bj_.step3,dN_,cond_false,ah_]
theorem fC_ {s:Bs} (hs:s.length≤ci_):Ev (fun n _=>ax_ n s) (iO_ s):=by
 refine ao_ ?_
 simp only [ax_]
 refine e7_ (fun n N i=>ax_.loop3 n (fun xy1=>(some (decide ((xy1.length:Int)≤60)))) N s (s.length:Int) (i:Int)) _ (fun i w hi ih => ?_) ?_
 · simp only [ax_.turn3,ax_.step3,Int.toNat_natCast,ai_,bT_,hw_,byte_W,ah_,W_up hi hs,ei_ ih,dW_ hi,dx_ hi]
   clear ih
   grind
 · simp only [ax_.turn3,ax_.step3,dN_,cond_false,ah_]
def lenNs (c:Nat) (l:List Bs):Prop:=l.length≤c∧∀ x ∈ l,x.length≤c
theorem hU_ {c:Nat} {l:List Bs} (h:lenNs c l) (i:Nat):(l.getD i []).length≤c:=by
 by_cases hi:i<l.length
 · exact h.2 _ (cF_ [] hi)
 · rw [List.getD_eq_getElem?_getD,List.getElem?_eq_none (by omega)];exact Nat.zero_le _
def iF_ (l:List Bs):Bool:=iq_ (fun i=>iO_ (l.getD i [])&&(decide (i=0)||Op.bytesLess (l.getD (i - 1) []) (l.getD i []))) l.length
theorem jx_ {l:List Bs} (h:lenNs ci_ l):Ev (fun n _=>am_ n l) (iF_ l):=by
 refine ao_ ?_
 simp only [am_]
 refine fb_ (e7_ (fun n N i=>am_.loop3 n (some true) N l l (l.length:Int) (i:Int)) (fun i=>iO_ (l.getD i [])&&(decide (i=0)||Op.bytesLess (l.getD (i - 1) []) (l.getD i []))) (len:=l.length) (v:=true) (fun i w hi ih => ?_) ?_) (by rw [Bool.and_true];rfl)
 · simp only [am_.turn3,am_.step3,Int.toNat_natCast,W_up hi h.1,W_dn (i:=i) (by have:=h.1;omega),n1_,ai_,bT_,ae_ (fC_ (hU_ h i)),ah_,ei_ ih,dW_ hi,dx_ hi]
   clear ih
   repeat' (first|apply And.intro|intro _)
   all_goals (try rw [Bool.eq_iff_iff])
   all_goals (try simp only [Bool.not_eq_true',Bool.not_eq_false',decide_eq_true_eq,decide_eq_false_iff_not,Bool.and_eq_true,Bool.or_eq_true,Bool.and_eq_false_iff,Bool.or_eq_false_iff] at *)
   all_goals grind
 · simp only [am_.turn3,am_.step3,dN_,cond_false,ah_]
def nU_ (j:aa_):Bool:=cond (j.kind != 5) ((j.names.length:Int) == 0) (iF_ j.names&&((j.names.length:Int) == (j.list.length:Int)))
theorem i4_ {j:aa_} (h:lenNs ci_ j.names):Ev (fun n _=>ag_ n j) (nU_ j):=by
 refine ao_ ?_
 have hl:Ev (fun n _=>ag_.loop6 n (fun xy2 xy3 xy4 xy5 xy6=>(some ((xy6.length:Int) == (xy5.length:Int)))) n 0 j.kind j.n_ j.s j.list j.names) (iF_ j.names&&((j.names.length:Int) == (j.list.length:Int))):=by
  refine e7_ (fun n N i=>ag_.loop6 n (fun xy2 xy3 xy4 xy5 xy6=>(some ((xy6.length:Int) == (xy5.length:Int)))) N (i:Int) j.kind j.n_ j.s j.list j.names) _ (fun i w hi ih => ?_) ?_
  · simp only [ag_.turn6,ag_.step6,Int.toNat_natCast,W_up hi h.1,W_dn (i:=i) (by have:=h.1;omega),n1_,ai_,bT_,ae_ (fy_ (hU_ h i)),ah_,ei_ ih,dW_ hi,dx_ hi]
    clear ih
    repeat' (first|apply And.intro|intro _)
    all_goals (try rw [Bool.eq_iff_iff])
    all_goals (try simp only [Bool.not_eq_true',Bool.not_eq_false',decide_eq_true_eq,decide_eq_false_iff_not,Bool.and_eq_true,Bool.or_eq_true,Bool.and_eq_false_iff,Bool.or_eq_false_iff] at *)
    all_goals grind
  · simp only [ag_.turn6,ag_.step6,dN_,cond_false,ah_]
 simp only [ag_,ai_,ah_,ei_ hl,nU_]
 cases (j.kind != 5)<;>simp
end Go.Pi
end
section
namespace Go.Pi
theorem jt_ (k:Int):k=0∨k=1∨k=2∨k=3∨k=4∨k=5∨(k≠0∧k≠1∧k≠2∧k≠3∧k≠4∧k≠5):=by omega
theorem k9_ {α:Type} (l:List α):decide (l.length=0) = !decide ((l.length:Int) > 0):=by
 by_cases hz:l.length=0
 · rw [hz];rfl
 · rw [decide_eq_false hz,decide_eq_true (show (l.length:Int) > 0 by omega)];rfl
def FOwnK (j:aa_):Bool :=
 cond (j.kind == 1) (inn j.n_ 0 1) (cond (j.kind == 2) (inn j.n_ (-1000000000) 1000000000) (cond (j.kind == 3) (iO_ j.s) (cond (j.kind == 5) (((j.names.length:Int) == (j.list.length:Int))&&iF_ j.names) ((j.kind == 0)||(j.kind == 4)))))
def FOwn (j:aa_):Bool :=
 (decide (j.list.length=0)||((j.kind == 4)||(j.kind == 5)))&&((decide (j.names.length=0)||(j.kind == 5))&&(((j.n_ == 0)||((j.kind == 1)||(j.kind == 2)))&&(((j.s == [])||(j.kind == 3))&&FOwnK j)))
def lenJ1 (j:aa_):Prop:=j.s.length≤ci_∧lenNs ci_ j.names
theorem le_ {j:aa_} (h:lenJ1 j):Ev (fun n _=>dH_ n j) (FOwn j):=by
 refine ao_ ?_
 simp only [dH_,ai_,hw_,isNum_b,ae_ (fC_ h.1),ae_ (jx_ h.2),ah_]
 unfold FOwn FOwnK
 have e1:=k9_ j.list
 have e2:=k9_ j.names
 rw [e1,e2]
 generalize decide ((j.list.length:Int) > 0)=a
 generalize decide ((j.names.length:Int) > 0)=b
 generalize (j.s == [])=c
 have e3:(j.n_ != 0) = !(j.n_ == 0):=rfl
 rw [e3]
 generalize hd:(j.n_ == 0)=d
 generalize iO_ j.s=ft
 generalize iF_ j.names=fn
 generalize ((j.names.length:Int) == (j.list.length:Int))=eq
 rcases jt_ j.kind with hk|hk|hk|hk|hk|hk|⟨k0,k1,k2,k3,k4,k5⟩
 all_goals (first|simp only [hk]|simp only [beq_eq_false_iff_ne.2 k0,beq_eq_false_iff_ne.2 k1,beq_eq_false_iff_ne.2 k2,beq_eq_false_iff_ne.2 k3,beq_eq_false_iff_ne.2 k4,beq_eq_false_iff_ne.2 k5,bne])
 all_goals (cases a<;>cases b<;>cases c<;>cases d<;>simp)
 all_goals (cases eq<;>simp)
def dt_:Nat→aa_→Nat
 |0,_=>401
 |d+1,j=>cond (FOwn j) (min 401 (1+e6_ (dt_ d) j.list)) 401
theorem oI_:∀ (d:Nat) (j:aa_),dt_ d j≤401
 |0,_=>Nat.le_refl _
 |d+1,j=>by
  simp only [dt_]
  cases FOwn j<;>simp only [cond_true,cond_false]<;>omega
def fB_:Nat→aa_→Prop
 |0,_=>True
 |d+1,j=>lenJ1 j∧j.list.length≤ci_∧∀ x ∈ j.list,fB_ d x
theorem getD_json {d:Nat} {l:List aa_} (h:∀ x ∈ l,fB_ d x) {i:Nat} (hi:i<l.length):fB_ d (l.getD i aa_.dflt):=h _ (cF_ _ hi)
theorem hc_:∀ (d:Nat) (j:aa_),d≤1000→fB_ d j→Ev (fun n _=>a8_ n j (d:Int)) (dt_ d j:Int)
 |0,j,_,_=>by
  refine ao_ ?_
  simp only [a8_,ai_,ah_]
  exact ⟨fun _=>rfl,fun h=>by simp at h⟩
 |d+1,j,hd,h=>by
  refine ao_ ?_
  have hW:W (((d+1:Nat):Int) - 1)=(d:Int):=by rw [W_id (by omega) (by omega)];omega
  simp only [a8_,b3_,ai_,ae_ (le_ h.1),ah_,dt_]
  refine ⟨fun hc=>by have:=of_decide_eq_true hc;omega,fun _ => ?_⟩
  cases ho:FOwn j with
  |false=>exact ⟨fun _=>rfl,fun h=>by cases h⟩
  |true=>
   refine ⟨fun h=>(by cases h),fun _ => ?_⟩
   have ht:=h.2.1
   have key:∀ (k i:Nat) (s:Nat),k+i=j.list.length→s≤400→Ev (fun n N=>a8_.loop7 n (a8_ n) (fun xy3=>some xy3) N ((d+1:Nat):Int) (s:Int) j.list (j.list.length:Int) (i:Int)) ((min 401 (s+e6_ (dt_ d) (j.list.drop i)):Nat):Int):=by
    intro k
    induction k with
    |zero=>
     intro i s hi hs
     have:i=j.list.length:=by omega
     subst this
     refine do_ ?_
     simp only [a8_.turn7,a8_.step7,dN_,cond_false,ah_,List.drop_length,e6_]
     omega
    |succ k ih=>
     intro i s hi hs
     have hlt:i<j.list.length:=by omega
     refine do_ ?_
     have hc:=hc_ d (j.list.getD i aa_.dflt) (by omega) (getD_json h.2.2 hlt)
     have hle:=oI_ d (j.list.getD i aa_.dflt)
     have hw:W ((s:Int)+(dt_ d (j.list.getD i aa_.dflt):Int))=((s+dt_ d (j.list.getD i aa_.dflt):Nat):Int):=by rw [W_id (by omega) (by omega)];omega
     simp only [a8_.turn7,a8_.step7,b3_,Int.toNat_natCast,hW,W_up hlt ht,ai_,bT_,dW_ hlt,dx_ hlt,ae_ hc,hw,ah_]
     rw [hA_ (dt_ d) aa_.dflt hlt]
     refine ⟨fun _=>⟨trivial,fun hg => ?_,fun hg => ?_⟩,fun h=>(by cases h)⟩
     · have:=of_decide_eq_true hg;omega
     · have:=of_decide_eq_false hg
       rw [show s+(dt_ d (j.list.getD i aa_.dflt)+e6_ (dt_ d) (j.list.drop (i+1)))=(s+dt_ d (j.list.getD i aa_.dflt))+e6_ (dt_ d) (j.list.drop (i+1)) by omega]
       exact ih (i+1) _ (by omega) (by omega)
   have:=key j.list.length 0 1 (by omega) (by omega)
   rw [List.drop_zero] at this
   exact er_ (f:=fun n N=>a8_.loop7 n (a8_ n) (fun xy3=>some xy3) N ((d+1:Nat):Int) 1 j.list (j.list.length:Int) 0) this
def dv_ (j:aa_):Bool:=decide (dt_ 6 j≤400)
theorem ek_ {j:aa_} (h:fB_ 6 j):Ev (fun n _=>cw_ n j) (dv_ j):=by
 refine ao_ ?_
 have e:Ev (fun n _=>a8_ n j 6) (dt_ 6 j:Int):=hc_ 6 j (by omega) h
 simp only [cw_,b3_,ae_ e,ah_,dv_]
 by_cases hq:dt_ 6 j≤400
 · rw [decide_eq_true hq,decide_eq_true (by omega)]
 · rw [decide_eq_false hq,decide_eq_false (by omega)]
end Go.Pi
end
section
namespace Go.Pi
def Great (d:Nat) (j:aa_):Prop:=∃ v:Nat,v≤401+401*d∧min 401 v=dt_ d j∧Ev (fun n _=>aG_ n j (d:Int)) (v:Int)
theorem o9_ {d:Nat} {l:List aa_} (hd:d≤1000) (ht:l.length≤ci_) (ih:∀ x ∈ l,Great d x) (kd nn:Int) (s:Bs) (ns:List Bs) :
  ∃ w:Nat,w≤401+401*(d+1)∧min 401 w=min 401 (1+e6_ (dt_ d) l)∧∀ (K:Nat→aG_.K23_1) (F:Int),Ev (fun n N=>K n 401 (w:Int) kd nn s l ns) F→Ev (fun n _=>aG_.loop23 n (aG_ n) (K n) n ((d+1:Nat):Int) 401 1 0 kd nn s l ns) F:=by
 have hW:W (((d+1:Nat):Int) - 1)=(d:Int):=by rw [W_id (by omega) (by omega)];omega
 have key:∀ (k i:Nat) (m:Nat),k+i=l.length→m≤401+401*(d+1)→∃ w:Nat,w≤401+401*(d+1)∧min 401 w=min 401 (m+e6_ (dt_ d) (l.drop i))∧∀ (K:Nat→aG_.K23_1) (F:Int),Ev (fun n N=>K n 401 (w:Int) kd nn s l ns) F →
   Ev (fun n N=>aG_.loop23 n (aG_ n) (K n) N ((d+1:Nat):Int) 401 (m:Int) (i:Int) kd nn s l ns) F:=by
  intro k
  induction k with
  |zero=>
   intro i m hi hm
   have:i=l.length:=by omega
   subst this
   refine ⟨m,hm,by simp [e6_],fun K F hF=>do_ ?_⟩
   simp only [aG_.turn23,aG_.step23,dN_,cond_false]
   exact hF
  |succ k ihk=>
   intro i m hi hm
   have hlt:i<l.length:=by omega
   by_cases hg:m≤400
   · obtain ⟨v,hv1,hv2,hv3⟩:=ih _ (cF_ aa_.dflt hlt)
     have hw:W ((m:Int)+(v:Int))=((m+v:Nat):Int):=by rw [W_id (by omega) (by omega)];omega
     obtain ⟨w,a1,a2,a3⟩:=ihk (i+1) (m+v) (by omega) (by omega)
     refine ⟨w,a1,?_,fun K F hF=>do_ ?_⟩
     · rw [a2,hA_ (dt_ d) aa_.dflt hlt,←hv2];omega
     · simp only [aG_.turn23,aG_.step23,b3_,Int.toNat_natCast,hW,W_up hlt ht,ai_,bT_,dW_ hlt,dx_ hlt,ae_ hv3,hw]
       exact ⟨fun _=>⟨fun _=>⟨trivial,a3 K F hF⟩,fun h=>by have:=of_decide_eq_false h;omega⟩,fun h=>(by cases h)⟩
   · refine ⟨m,hm,by omega,fun K F hF=>do_ ?_⟩
     simp only [aG_.turn23,aG_.step23,Int.toNat_natCast,ai_,dW_ hlt]
     exact ⟨fun _=>⟨fun h=>by have:=of_decide_eq_true h;omega,fun _=>hF⟩,fun h=>(by cases h)⟩
 obtain ⟨w,a1,a2,a3⟩:=key l.length 0 1 (by omega) (by omega)
 rw [List.drop_zero] at a2
 exact ⟨w,a1,a2,fun K F hF=>er_ (f:=fun n N=>aG_.loop23 n (aG_ n) (K n) N ((d+1:Nat):Int) 401 1 0 kd nn s l ns) (a3 K F hF)⟩
theorem eY_ (j:aa_):aa_.mk j.kind j.n_ j.s j.list j.names=j:=by cases j;rfl
theorem gs_:∀ (d:Nat) (j:aa_),d≤1000→fB_ d j→Great d j
 |0,j,_,_=>by
  refine ⟨401,by omega,rfl,ao_ ?_⟩
  simp only [aG_,ai_,ah_]
  exact ⟨fun _=>rfl,fun h=>by simp at h⟩
 |d+1,j,hd,h=>by
  obtain ⟨w,w1,w2,w3⟩:=o9_ (d:=d) (l:=j.list) (by omega) h.2.1 (fun x hx=>gs_ d x (by omega) (h.2.2 x hx)) j.kind j.n_ j.s j.names
  have hz:((((d+1:Nat):Int)) == 0)=false:=by simp;omega
  have hN:=i4_ (j:=j) h.1.2
  obtain ⟨v,hv⟩:∃ v:Nat,v=cond (FOwn j) (cond ((j.kind == 4)||(j.kind == 5)) w 1) 401:=⟨_,rfl⟩
  refine ⟨v,?_,?_,ao_ ?_⟩
  · rw [hv];cases FOwn j<;>cases ((j.kind == 4)||(j.kind == 5))<;>simp only [cond_true,cond_false]<;>omega
  · rw [hv]
    simp only [dt_]
    cases ho:FOwn j with
    |false=>rfl
    |true=>
     cases hk:((j.kind == 4)||(j.kind == 5)) with
     |true=>simp only [cond_true];exact w2
     |false=>
      have:j.list=[]:=by
       unfold FOwn at ho
       rw [hk,Bool.or_false] at ho
       simp only [Bool.and_eq_true,decide_eq_true_eq] at ho
       exact List.eq_nil_of_length_eq_zero ho.1
      rw [this];rfl
  · have hT:=fy_ (s:=j.s) h.1.1
    have e1:=k9_ j.list
    have e2:=k9_ j.names
    have e4:((j.names.length:Int) == 0) = !decide ((j.names.length:Int) > 0):=by
     by_cases hz:j.names.length=0
     · rw [hz];rfl
     · rw [beq_eq_false_iff_ne.2 (show (j.names.length:Int)≠0 by omega),decide_eq_true (show (j.names.length:Int) > 0 by omega)];rfl
    subst hv
    unfold FOwn FOwnK
    unfold nU_ at hN
    rw [e1,e2]
    rw [e4] at hN
    simp only [aG_,b3_,hz,cond_false,ai_,l1In_b,ae_ hT,ae_ hN,ah_,bne]
    rcases jt_ j.kind with hk|hk|hk|hk|hk|hk|⟨k0,k1,k2,k3,k4,k5⟩
    case inr.inr.inr.inr.inl=>
     have hj:aa_.mk 4 j.n_ j.s j.list j.names=j:=by rw [←hk];exact eY_ j
     rw [hk] at w3
     simp only [hk,Int.reduceBEq,Int.reduceLT,Int.reduceLE,Int.reduceNeg,ge_iff_le,gt_iff_lt,decide_true,decide_false,Bool.not_false,Bool.not_true,Bool.or_true,Bool.true_or,Bool.or_false,Bool.false_or,Bool.and_true,Bool.true_and,Bool.not_not,forall_const,reduceCtorEq,false_implies,true_and,and_true,implies_true,cond_true,cond_false] at hN ⊢
     refine w3 _ _ ?_
     simp only [hj,ai_,ae_ hN,ah_,Int.reduceBEq,Int.reduceLT,Int.reduceLE,Int.reduceNeg,ge_iff_le,gt_iff_lt,decide_true,decide_false,Bool.not_false,Bool.not_true,Bool.or_true,Bool.true_or,Bool.or_false,Bool.false_or,Bool.and_true,Bool.true_and,Bool.not_not,forall_const,reduceCtorEq,false_implies,true_and,and_true,implies_true,cond_true,cond_false]
     clear hN w3 hT e1 e2 e4 hj
     generalize decide (0<(j.names.length:Int))=b
     generalize (j.s == [])=c
     generalize hd:(j.n_ == 0)=dd
     cases b<;>cases c<;>cases dd<;>simp
    case inr.inr.inr.inr.inr.inl=>
     have hj:aa_.mk 5 j.n_ j.s j.list j.names=j:=by rw [←hk];exact eY_ j
     rw [hk] at w3
     simp only [hk,Int.reduceBEq,Int.reduceLT,Int.reduceLE,Int.reduceNeg,ge_iff_le,gt_iff_lt,decide_true,decide_false,Bool.not_false,Bool.not_true,Bool.or_true,Bool.true_or,Bool.or_false,Bool.false_or,Bool.and_true,Bool.true_and,Bool.not_not,forall_const,reduceCtorEq,false_implies,true_and,and_true,implies_true,cond_true,cond_false] at hN ⊢
     refine w3 _ _ ?_
     simp only [hj,ai_,ae_ hN,ah_,Int.reduceBEq,Int.reduceLT,Int.reduceLE,Int.reduceNeg,ge_iff_le,gt_iff_lt,decide_true,decide_false,Bool.not_false,Bool.not_true,Bool.or_true,Bool.true_or,Bool.or_false,Bool.false_or,Bool.and_true,Bool.true_and,Bool.not_not,forall_const,reduceCtorEq,false_implies,true_and,and_true,implies_true,cond_true,cond_false]
     clear hN w3 hT e1 e2 e4 hj
     generalize iF_ j.names=fn
     generalize ((j.names.length:Int) == (j.list.length:Int))=eq
     generalize (j.s == [])=c
     generalize hd:(j.n_ == 0)=dd
     cases fn<;>cases eq<;>cases c<;>cases dd<;>simp
    case inr.inr.inr.inr.inr.inr=>
     simp only [beq_eq_false_iff_ne.2 k0,beq_eq_false_iff_ne.2 k1,beq_eq_false_iff_ne.2 k2,beq_eq_false_iff_ne.2 k3,beq_eq_false_iff_ne.2 k4,beq_eq_false_iff_ne.2 k5,Int.reduceBEq,Int.reduceLT,Int.reduceLE,Int.reduceNeg,ge_iff_le,gt_iff_lt,decide_true,decide_false,Bool.not_false,Bool.not_true,Bool.or_true,Bool.true_or,Bool.or_false,Bool.false_or,Bool.and_true,Bool.true_and,Bool.not_not,forall_const,reduceCtorEq,false_implies,true_and,and_true,implies_true,cond_true,cond_false,Bool.and_false,Bool.false_and]
     rfl
    all_goals (
     simp only [hk,Int.reduceBEq,Int.reduceLT,Int.reduceLE,Int.reduceNeg,ge_iff_le,gt_iff_lt,decide_true,decide_false,Bool.not_false,Bool.not_true,Bool.or_true,Bool.true_or,Bool.or_false,Bool.false_or,Bool.and_true,Bool.true_and,Bool.not_not,forall_const,reduceCtorEq,false_implies,true_and,and_true,implies_true,cond_true,cond_false]
     clear hN w3 hT e1 e2 e4
     generalize decide (0<(j.names.length:Int))=b
     generalize decide (0<(j.list.length:Int))=a
     generalize (j.s == [])=c
     generalize hd:(j.n_ == 0)=dd
     generalize inn j.n_ 0 1=i1
     generalize inn j.n_ (-1000000000) 1000000000=i2
     generalize iO_ j.s=ft
     cases a<;>cases b<;>cases c<;>cases dd<;>cases i1<;>cases i2<;>cases ft<;>simp)
theorem d3_ {j:aa_} (h:fB_ 6 j):Ev (fun n _=>ch_ n j) (dv_ j):=by
 refine ao_ ?_
 obtain ⟨v,v1,v2,v3⟩:=gs_ 6 j (by omega) h
 have e:Ev (fun n _=>aG_ n j 6) (v:Int):=v3
 simp only [ch_,b3_,ae_ e,ah_,dv_]
 by_cases hq:dt_ 6 j≤400
 · rw [decide_eq_true hq,decide_eq_true (by omega)]
 · rw [decide_eq_false hq,decide_eq_false (by omega)]
end Go.Pi
end
section
namespace Go.Pi
def pm_:Nat→aa_→Prop
 |0,_=>False
 |d+1,j=>∀ x ∈ j.list,pm_ d x
theorem fe_:∀ (d:Nat) (j:aa_),dt_ d j≤400→pm_ d j
 |0,j,h=>by simp only [dt_] at h;omega
 |d+1,j,h=>fun x hx=>by
  refine fe_ d x ?_
  simp only [dt_] at h
  have:=h7_ (dt_ d) hx
  cases ho:FOwn j with
  |false=>rw [ho] at h;simp only [cond_false] at h;omega
  |true=>rw [ho] at h;simp only [cond_true] at h;omega
def ir_ (a b:List Bs):Bool:=decide (a.length=b.length)&&iq_ (fun i=>a.getD i [] == b.getD i []) a.length
def eu_:Nat→aa_→aa_→Bool
 |0,_,_=>true
 |d+1,a,b=>(a.kind == b.kind)&&((a.n_ == b.n_)&&((a.s == b.s)&&(ir_ a.names b.names&&(decide (a.list.length=b.list.length)&&iq_ (fun i=>eu_ d (a.list.getD i aa_.dflt) (b.list.getD i aa_.dflt)) a.list.length))))
theorem km_ {n m:Nat}:((n:Int) != (m:Int)) = !decide (n=m):=by
 by_cases h:n=m
 · rw [h,decide_eq_true rfl];simp
 · rw [decide_eq_false h];simp;omega
theorem eU_:∀ (d:Nat) (a b:aa_),pm_ d a→fB_ d a→Ev (fun n _=>al_ n a b) (eu_ d a b)
 |0,a,b,h,_=>h.elim
 |d+1,a,b,h,hl=>by
  refine ao_ ?_
  simp only [al_,km_,ai_,ah_,eu_,ir_]
  by_cases hq:a.list.length=b.list.length
  · by_cases hq2:a.names.length=b.names.length
    · have hN:Ev (fun n _=>al_.loop14 n (al_ n) (some true) n 0 a.kind a.n_ a.s a.list a.names b.kind b.n_ b.s b.list b.names) (iq_ (fun i=>a.names.getD i [] == b.names.getD i []) a.names.length):=by
       refine fb_ (e7_ (fun n N i=>al_.loop14 n (al_ n) (some true) N (i:Int) a.kind a.n_ a.s a.list a.names b.kind b.n_ b.s b.list b.names) (fun i=>a.names.getD i [] == b.names.getD i []) (len:=a.names.length) (v:=true) (fun i w hi ih => ?_) ?_) (by rw [Bool.and_true])
       · simp only [al_.turn14,al_.step14,Int.toNat_natCast,W_up hi hl.1.2.1,ai_,bT_,ah_,ei_ ih,dW_ hi,dx_ hi,dx_ (hq2 ▸ hi)]
         cases (a.names.getD i [] == b.names.getD i [])<;>simp
       · simp only [al_.turn14,al_.step14,dN_,cond_false,ah_]
      have hL:Ev (fun n _=>al_.loop6 n (al_ n) (fun xy2 xy3 xy4 xy5 xy6 xy7 xy8 xy9 xy10 xy11=>(al_.loop14 n (al_ n) (some true) n 0 xy2 xy3 xy4 xy5 xy6 xy7 xy8 xy9 xy10 xy11)) n 0 a.kind a.n_ a.s a.list a.names b.kind b.n_ b.s b.list b.names) (iq_ (fun i=>eu_ d (a.list.getD i aa_.dflt) (b.list.getD i aa_.dflt)) a.list.length&&iq_ (fun i=>a.names.getD i [] == b.names.getD i []) a.names.length):=by
       refine e7_ (fun n N i=>al_.loop6 n (al_ n) (fun xy2 xy3 xy4 xy5 xy6 xy7 xy8 xy9 xy10 xy11=>(al_.loop14 n (al_ n) (some true) n 0 xy2 xy3 xy4 xy5 xy6 xy7 xy8 xy9 xy10 xy11)) N (i:Int) a.kind a.n_ a.s a.list a.names b.kind b.n_ b.s b.list b.names) _ (fun i w hi ih => ?_) ?_
       · have hx:=eU_ d (a.list.getD i aa_.dflt) (b.list.getD i aa_.dflt) (h _ (cF_ _ hi)) (hl.2.2 _ (cF_ _ hi))
         simp only [al_.turn6,al_.step6,b3_,Int.toNat_natCast,W_up hi hl.2.1,ai_,bT_,ae_ hx,ah_,ei_ ih,dW_ hi,dx_ hi,dx_ (hq ▸ hi)]
         cases eu_ d (a.list.getD i aa_.dflt) (b.list.getD i aa_.dflt)<;>simp
       · simp only [al_.turn6,al_.step6,dN_,cond_false]
         exact hN
      rw [decide_eq_true hq,decide_eq_true hq2]
      simp only [ei_ hL,bne]
      generalize iq_ (fun i=>eu_ d (a.list.getD i aa_.dflt) (b.list.getD i aa_.dflt)) a.list.length=u
      generalize iq_ (fun i=>a.names.getD i [] == b.names.getD i []) a.names.length=w
      cases (a.kind == b.kind)<;>cases (a.n_ == b.n_)<;>cases (a.s == b.s)<;>cases u<;>cases w<;>simp
    · rw [decide_eq_false hq2]
      simp only [bne]
      cases (a.kind == b.kind)<;>cases (a.n_ == b.n_)<;>cases (a.s == b.s)<;>cases decide (a.list.length=b.list.length)<;>simp
  · rw [decide_eq_false hq]
    simp only [bne]
    cases (a.kind == b.kind)<;>cases (a.n_ == b.n_)<;>cases (a.s == b.s)<;>simp
end Go.Pi
end
section
namespace Go.Pi
theorem jV_ {a b:List Bs} (ha:a.length≤ci_):Ev (fun n _=>aj_ n a b) (ir_ a b):=by
 refine ao_ ?_
 simp only [aj_,km_,ai_,ah_]
 unfold ir_
 by_cases hl:a.length=b.length
 · rw [decide_eq_true hl]
   refine ⟨fun h=>(by cases h),fun _ => ?_⟩
   refine fb_ (e7_ (fun n N i=>aj_.loop6 n (some true) N a b (a.length:Int) (i:Int)) (fun i=>a.getD i [] == b.getD i []) (len:=a.length) (v:=true) (fun i w hi ih => ?_) ?_) (by rw [Bool.and_true,Bool.true_and])
   · simp only [aj_.turn6,aj_.step6,Int.toNat_natCast,W_up hi ha,ai_,bT_,ah_,ei_ ih,dW_ hi,dx_ hi,dx_ (hl ▸ hi)]
     cases (a.getD i [] == b.getD i [])<;>simp
   · simp only [aj_.turn6,aj_.step6,dN_,cond_false,ah_]
 · rw [decide_eq_false hl]
   exact ⟨fun _=>rfl,fun h=>(by cases h)⟩
theorem f2_:∀ (d:Nat) (a b:aa_),pm_ d a→fB_ d a→Ev (fun n _=>c1_ n a b) (eu_ d a b)
 |0,a,b,h,_=>h.elim
 |d+1,a,b,h,hl=>by
  refine ao_ ?_
  have hE:Ev (fun n _=>ad_ n a.list b.list) (decide (a.list.length=b.list.length)&&iq_ (fun i=>eu_ d (a.list.getD i aa_.dflt) (b.list.getD i aa_.dflt)) a.list.length):=by
   refine ao_ ?_
   simp only [ad_,km_,ai_,ah_]
   by_cases hq:a.list.length=b.list.length
   · rw [decide_eq_true hq]
     refine ⟨fun h=>(by cases h),fun _ => ?_⟩
     refine fb_ (e7_ (fun n N i=>ad_.loop6 n (c1_ n) (some true) N b.list a.list (a.list.length:Int) (i:Int)) (fun i=>eu_ d (a.list.getD i aa_.dflt) (b.list.getD i aa_.dflt)) (len:=a.list.length) (v:=true) (fun i w hi ih => ?_) ?_) (by rw [Bool.and_true,Bool.true_and])
     · have hx:=f2_ d (a.list.getD i aa_.dflt) (b.list.getD i aa_.dflt) (h _ (cF_ _ hi)) (hl.2.2 _ (cF_ _ hi))
       simp only [ad_.turn6,ad_.step6,b3_,Int.toNat_natCast,W_up hi hl.2.1,ai_,bT_,ae_ hx,ah_,ei_ ih,dW_ hi,dx_ hi,dx_ (hq ▸ hi)]
       cases eu_ d (a.list.getD i aa_.dflt) (b.list.getD i aa_.dflt)<;>simp
     · simp only [ad_.turn6,ad_.step6,dN_,cond_false,ah_]
   · rw [decide_eq_false hq]
     exact ⟨fun _=>rfl,fun h=>(by cases h)⟩
  simp only [c1_,ai_,ae_ (jV_ (b:=b.names) hl.1.2.1),ae_ hE,ah_,eu_]
  cases (a.kind == b.kind)<;>cases (a.n_ == b.n_)<;>cases (a.s == b.s)<;>cases ir_ a.names b.names<;>simp
end Go.Pi
end
section
namespace Go.Pi
def bi (l:Bs):List Int:=l.map fun c=>((c.toNat:Nat):Int)
theorem toBs_bi (l:Bs):ly_ (bi l)=l:=by
 unfold ly_ bi
 rw [List.map_map]
 refine (List.map_congr_left fun c _ => ?_).trans (List.map_id l)
 simp
theorem mO_ (l:Bs):(bi l).length=l.length:=List.length_map _
theorem bi_app (a b:Bs):bi (a++b)=bi a++bi b:=List.map_append
theorem oD_ (c:UInt8) (k:Nat) (d:UInt8) (hd:d.toNat=k):(((c.toNat:Nat):Int) == (k:Int))=decide (c=d):=by
 by_cases h:c=d
 · subst h;rw [hd];simp
 · rw [decide_eq_false h,beq_eq_false_iff_ne]
   intro e
   exact h (UInt8.toNat_inj.1 (by omega))
theorem byte34 (c:UInt8):(((c.toNat:Nat):Int) == 34)=decide (c=34):=oD_ c 34 34 rfl
theorem byte92 (c:UInt8):(((c.toNat:Nat):Int) == 92)=decide (c=92):=oD_ c 92 92 rfl
theorem byte126 (c:UInt8):(((c.toNat:Nat):Int) == 126)=decide (c=126):=oD_ c 126 126 rfl
theorem byte47 (c:UInt8):(((c.toNat:Nat):Int) == 47)=decide (c=47):=oD_ c 47 47 rfl
theorem fa_ (f:UInt8→Bs) (h:∀ c,(f c).length≤2):∀ s:Bs,(s.flatMap f).length≤2*s.length
 |[]=>Nat.le_refl _
 |c::s=>by
  have:=fa_ f h s
  have:=h c
  simp only [List.flatMap_cons,List.length_append,List.length_cons];omega
theorem my_ (f:UInt8→Bs) {s:Bs} {i:Nat} (h:i<s.length):(s.take (i+1)).flatMap f=(s.take i).flatMap f++f (s.getD i 0):=by
 rw [eb_ 0 h,List.flatMap_append];simp
def lz_ (c:UInt8):Bs:=if c=34∨c=92 then [92,c] else [c]
theorem hH_ (c:UInt8):(lz_ c).length≤2:=by unfold lz_;split<;>simp
def gN_ (s:Bs):Bs:=34::s.flatMap lz_++[34]
theorem fR_ (s:Bs):(gN_ s).length≤2*s.length+2:=by
 have:=fa_ lz_ hH_ s
 simp only [gN_,List.cons_append,List.length_cons,List.length_append,List.length_nil];omega
theorem q2 (o:Bs) (c:UInt8):bi (34::(o++[92,c]))=(bi (34::o)++[92])++[((c.toNat:Nat):Int)]:=by simp [bi]
theorem q1 (o:Bs) (c:UInt8):bi (34::(o++[c]))=bi (34::o)++[((c.toNat:Nat):Int)]:=by simp [bi]
theorem qEnd (o:Bs):ly_ (bi (34::o)++[34])=34::o++[34]:=by
 have:bi (34::o)++[34]=bi (34::o++[34]):=by simp [bi]
 rw [this,toBs_bi]
theorem gr_ {s:Bs} (hs:s.length≤1000000):Ev (fun n _=>a3_ n s) (gN_ s):=by
 refine ao_ ?_
 have ht:s.length≤ci_:=by simp only [ci_];omega
 simp only [a3_]
 have:=eC_ (fun i=>bi (34::(s.take i).flatMap lz_)) s.length (fun n N i (o:List Int)=>a3_.loop4 n (fun xy1=>(cJ_ (xy1.length+([34]:List Int).length) 1 (some (ly_ (xy1++([34]:List Int)))))) N s (i:Int) o) (gN_ s) (fun i hi F hF => ?_) ?_
 · exact this
 · have hl:=fa_ lz_ hH_ (s.take i)
   rw [List.length_take] at hl
   rw [my_ lz_ hi] at hF
   generalize (s.take i).flatMap lz_=o at hF hl ⊢
   have hb:=mO_ (34::o)
   simp only [List.length_cons] at hb
   simp only [a3_.turn4,a3_.step4,Int.toNat_natCast,W_up hi ht,ai_,bT_,cg_,dW_ hi,dx_ hi,byte34,byte92]
   generalize s.getD i 0=c at hF ⊢
   unfold lz_ at hF
   by_cases h1:c=34
   · rw [if_pos (.inl h1),q2] at hF
     simp only [h1,decide_true] at hF ⊢
     repeat' (first|apply And.intro|intro _)
     all_goals (first|contradiction|exact hF|trivial|(simp [hb];omega))
   · by_cases h2:c=92
     · rw [if_pos (.inr h2),q2] at hF
       simp only [h2,decide_true] at hF ⊢
       repeat' (first|apply And.intro|intro _)
       all_goals (first|contradiction|exact hF|trivial|(simp [hb];omega))
     · rw [if_neg (fun h=>h.elim h1 h2),q1] at hF
       simp only [h1,h2,decide_false] at hF ⊢
       repeat' (first|apply And.intro|intro _)
       all_goals (first|contradiction|exact hF|trivial|(simp [hb];omega))
 · have hl:=fa_ lz_ hH_ s
   have hb:=mO_ (34::s.flatMap lz_)
   simp only [List.length_cons] at hb
   simp only [a3_.turn4,a3_.step4,dN_,cond_false,cg_,List.take_length,ah_,qEnd]
   exact ⟨by simp only [hb,List.length_cons,List.length_nil];omega,rfl⟩
theorem hd_ {s:Bs} (hs:s.length≤1000000):Ev (fun n _=>bt_ n s) (gN_ s):=by
 refine ao_ ?_
 have ht:s.length≤ci_:=by simp only [ci_];omega
 simp only [bt_]
 have:=eC_ (fun i=>bi (34::(s.take i).flatMap lz_)) s.length (fun n N i (o:List Int)=>bt_.loop4 n (fun xy1=>(cJ_ (xy1.length+([34]:List Int).length) 1 (some (ly_ (xy1++([34]:List Int)))))) N s (s.length:Int) (i:Int) o) (gN_ s) (fun i hi F hF => ?_) ?_
 · exact this
 · have hl:=fa_ lz_ hH_ (s.take i)
   rw [List.length_take] at hl
   rw [my_ lz_ hi] at hF
   generalize (s.take i).flatMap lz_=o at hF hl ⊢
   have hb:=mO_ (34::o)
   simp only [List.length_cons] at hb
   simp only [bt_.turn4,bt_.step4,Int.toNat_natCast,W_up hi ht,ai_,bT_,cg_,dW_ hi,dx_ hi,byte34,byte92]
   generalize s.getD i 0=c at hF ⊢
   unfold lz_ at hF
   by_cases h1:c=34
   · rw [if_pos (.inl h1),q2] at hF
     simp only [h1,decide_true] at hF ⊢
     repeat' (first|apply And.intro|intro _)
     all_goals (first|contradiction|exact hF|trivial|(simp [hb];omega))
   · by_cases h2:c=92
     · rw [if_pos (.inr h2),q2] at hF
       simp only [h2,decide_true] at hF ⊢
       repeat' (first|apply And.intro|intro _)
       all_goals (first|contradiction|exact hF|trivial|(simp [hb];omega))
     · rw [if_neg (fun h=>h.elim h1 h2),q1] at hF
       simp only [h1,h2,decide_false] at hF ⊢
       repeat' (first|apply And.intro|intro _)
       all_goals (first|contradiction|exact hF|trivial|(simp [hb];omega))
 · have hl:=fa_ lz_ hH_ s
   have hb:=mO_ (34::s.flatMap lz_)
   simp only [List.length_cons] at hb
   simp only [bt_.turn4,bt_.step4,dN_,cond_false,cg_,List.take_length,ah_,qEnd]
   exact ⟨by simp only [hb,List.length_cons,List.length_nil];omega,rfl⟩
end Go.Pi
end
