/-
  slices.Insert of one GstGhost: the library's own text walked, each road.
-/
import Derived.Test.YtiioognflecdgaaGreatTok
import Derived.Test.YtiioognflecdgaaGreatS5
import Derived.Test.YtiioognflecdgaaGreatGnE
import Derived.Test.YtiioognflecdgaaGreatM2
import Derived.Test.YtiioognflecdgaaGreatGnC
import Derived.Test.YtiioognflecdgaaGreatGnM
import Derived.Test.YtiioognflecdgaaGreatGnV
import Derived.Test.YtiioognflecdgaaGreatGnP
import Derived.Test.YtiioognflecdgaaGreatInsH
import Derived.Test.YtiioognflecdgaaGreatM3
set_option linter.unusedVariables false
set_option linter.unusedSimpArgs false
set_option maxRecDepth 100000
set_option maxHeartbeats 8000000
namespace Go.Proofs.YtiioognflecdgaaGreat
open Go.Sx Go.Proofs Go.RowKit
theorem c4w:(Tryz.prog.info? 85).map (fun i=>(i.zero,i.size,i.bytes))=some (some (.agg #[.int .i64 0,.int .i64 0,.int .i64 0,.int .i64 0,.int .i64 0,.int .i64 0,.int .i64 0]),7,56):=by kernel_rfl
theorem a8L : ∃inf z,Tryz.prog.info? 85=some inf∧inf.size=7∧inf.bytes=56∧inf.zero=some z∧z.cells.size=7:=by
 obtain⟨i0,h1,h2,h3,h4⟩:=info_parts c4w
 exact⟨i0,_,h1,h3,h4,h2,rfl⟩
theorem c4v (w:World) (b n c i vb voff vc T tV:Nat) (cs vcs:Array Value) (us:List Value) (hi:i<n) (hroom:n+1≤c) (hc:c≤maxLen) (hh:w.heap[b]? = some (.cells cs T (0,0))) (hs:cs.size=c * 7) (hu:us.length=7)
  (hvh:w.heap[vb]? = some (.cells vcs tV (0,0))) (hvb:vb≠b) (hvs : ∀j v,us[j]? = some v→w.cell? ⟨vb,voff+j,none⟩=some v) (h1 : ∀u∈us,one u) (h1c : ∀u∈cs.toList.take (n * 7),one u) :
  Calls Tryz.prog 193 #[.slice (some ⟨b,0,none⟩) n c,.int .i64 i,.slice (some ⟨vb,voff,none⟩) 1 vc] w fun e w' =>
   ∃v,e = .returned v∧InsE w w' 7 (.slice (some ⟨b,0,none⟩) n c) v n i 1 b c cs us:=by
 obtain⟨inf,z,hinf,hsz,hby,hz,hzc⟩:=a8L
 have u25:=run_underlying Tryz.underlying70
 have z38 : ∀w,(sizeOf 85).run Tryz.prog w = .ok 7 w:=fun w=>by simp[sizeOf,typeInfo,hinf,hsz]
 have hc63:c≤9223372036854775807:=hc
 have hcb:n+1≤9223372036854775807:=by omega
 have hkB:cs.size≠0:=by rw[hs];omega
 have hov : ∀lb cb,(callFunc 223 #[.slice (some ⟨vb,voff,none⟩) 1 vc,.slice (some ⟨b,(i+1) * 7,none⟩) lb cb]).run Tryz.prog w = .ok (.value (.bool false)) w:=fun lb cb=>by
  rw[run_callFunc_extern Tryz.func223 (by kernel_rfl) (by kernel_rfl) (by kernel_rfl) (e:=Extern.SlicesOverlaps.overlaps #[70,70] #[4]) (by kernel_rfl),
   Lib.run_overlaps_apart w 70 4 85 Tryz.underlying70 7 z38 ⟨vb,voff,none⟩ ⟨b,(i+1) * 7,none⟩ 1 vc lb cb hvb tV T vcs.size cs.size (by simp[World.shape?,hvh]) (by simp[World.shape?,hh]) hkB (frozen_of_row _ _ _ _ _ hvh) (frozen_of_row _ _ _ _ _ hvh)]
  rfl
 have hw1:IntKind.i64.wrap ((n:Int)+1)=((n+1:Nat):Int):=by rw[IntKind.wrap_i64];omega
 have hw2:IntKind.i64.wrap ((i:Int)+1)=((i+1:Nat):Int):=by rw[IntKind.wrap_i64];omega
 have hne : ¬((i:Int)=(n:Int)):=by omega
 have mixed:=b9.mix
 have hb1:(0:Int)≤(i:Int)+1:=by omega
 have hin:i≤n:=by omega
 have hb2 : ¬(c=i+1):=by omega
 have hb3:(i:Int)≤(n:Int)+1:=by omega
 have hb4 : ¬(c=i):=by omega
 have htn:((i:Int)+1).toNat=i+1:=by omega
 go_enter Tryz.func193,Tryz.ntmps193
 go_wp2_with (simp only[hov])
 clear hov
 have htl:=U9 (i:=i) hs (show n≤c by omega)
 have hn5:(n+1) * 7≤c * 7:=Nat.mul_le_mul_right _ hroom
 have hsrc : ∀j v,((cs.toList.take (n * 7)).drop (i * 7))[j]? = some v→w.cell? ⟨b,i * 7+j,none⟩=some v:=fun j v hj=>by
  rw[List.getElem?_drop,List.getElem?_take]at hj
  rw[o9 hh]
  split at hj
  ·simpa using hj
  ·cases hj
 have hcp1 : ∀ty dc sc,(Builtin.copy_ #[70,70] ty #[.slice (some ⟨b,(i+1) * 7,none⟩) (n-i) dc,.slice (some ⟨b,i * 7,none⟩) (n+1-i) sc]).run Tryz.prog w.drew = .ok (goInt (n-i:Nat)) (wrote w.drew b ((i+1) * 7) cs ((cs.toList.take (n * 7)).drop (i * 7))):=fun ty dc sc =>
  C3 (k:=n-i) (us:=(cs.toList.take (n * 7)).drop (i * 7)) Tryz.underlying70 hinf (by simp only[Nat.min_def];split<;>omega) (by rw[hsz];exact htl) (fun j v hj=>by
   rw[v7]
   exact hsrc j v hj) hh (by rw[htl,hs];omega) (fun u hu=>h1c u (List.mem_of_mem_drop hu))
 go_region_law_o (refine step_copy_runI rfl _ _ 70 70 rfl _ _ (by simp[Act.eval,Act.put]) (by simp[Act.eval,Act.put]) (hcp1 _ _ _) ?_)
 have htl2:((cs.toList.take (n * 7)).drop (i * 7)).length=(n-i) * 7:=htl
 obtain⟨cs1,hcs1⟩ : ∃cs1,cs1=(putAt cs.toList ((i+1) * 7) ((cs.toList.take (n * 7)).drop (i * 7))).toArray:=⟨_,rfl⟩
 obtain⟨W1,hW1⟩ : ∃W1,W1=wrote w.drew b ((i+1) * 7) cs ((cs.toList.take (n * 7)).drop (i * 7)):=⟨_,rfl⟩
 have hh1:W1.heap[b]? = some (.cells cs1 T (0,0)):=by rw[hW1,hcs1];exact y5 hh
 have hv1:W1.heap[vb]? = some (.cells vcs tV (0,0)):=by rw[hW1,s4 hvb];exact hvh
 have hsz1:cs1.size=c * 7:=by rw[hcs1,List.size_toArray,o8 _ _ _ (by rw[htl2,Array.length_toList,hs];omega),Array.length_toList,hs]
 have hcp2 : ∀(W:World),W.heap=W1.heap → ∀ty dc,(Builtin.copy_ #[70,70] ty #[.slice (some ⟨b,i * 7,none⟩) (n+1-i) dc,.slice (some ⟨vb,voff,none⟩) 1 vc]).run Tryz.prog W = .ok (goInt (1:Nat)) (wrote W b (i * 7) cs1 us):=fun W hW ty dc =>
  C3 (k:=1) (us:=us) (T:=T) Tryz.underlying70 hinf (by simp only[Nat.min_def];split<;>omega) (by rw[hsz,hu]) (fun j v hj=>by
   rw[v7,o9 (cs:=vcs) (T:=tV) (by rw[hW];exact hv1)]
   have:=hvs j v hj
   rw[o9 hvh]at this
   exact this) (by rw[hW];exact hh1) (by rw[hu,hsz1];omega) h1
 rw[←hW1]
 go_wp2_with (at_builtin;refine wpList_copy_runI _ rfl _ _ 70 70 rfl _ _ rfl rfl (hcp2 _ rfl _ _) ?_)
 have hend:InsM w (wrote W1 b (i * 7) cs1 us) 7 (.slice (some ⟨b,0,none⟩) n c) (.slice (some ⟨b,0,none⟩) (n+1) c) n i 1 b c cs us b c (K6 cs 7 n i us).toArray T:=by
  refine InsM.room hh hs hroom hc hi hu ?_ (fun x hx => ?_) ?_ ?_ ?_ ?_
  ·rw[y5 hh1,K6,hcs1]
  ·rw[s4 hx,hW1,s4 hx];rfl
  ·rw[hW1];rfl
  ·rw[hW1];rfl
  ·rw[hW1];rfl
  ·rw[hW1];simp[wrote,World.setRow]
 subst hcs1
 subst hW1
 go_ret
 exact⟨.slice (some ⟨b,0,none⟩) (n+1) c,rfl,_,_,_,_,hend⟩
theorem c4x (w:World) (b n c i vb voff vc T tV:Nat) (cs vcs:Array Value) (us:List Value) (hi:i<n) (hnc:n≤c) (hroom:c<n+1) (hc:c≤maxLen) (hh:w.heap[b]? = some (.cells cs T (0,0))) (hs:cs.size=c * 7) (hu:us.length=7)
  (hvh:w.heap[vb]? = some (.cells vcs tV (0,0))) (hvs : ∀j v,us[j]? = some v→w.cell? ⟨vb,voff+j,none⟩=some v) (h1 : ∀u∈us,one u) (h1c : ∀u∈cs.toList.take (n * 7),one u) (hbig:(n+1) * 56≤140737488355328) :
  Calls Tryz.prog 193 #[.slice (some ⟨b,0,none⟩) n c,.int .i64 i,.slice (some ⟨vb,voff,none⟩) 1 vc] w fun e w' =>
   ∃v,e = .returned v∧InsE w w' 7 (.slice (some ⟨b,0,none⟩) n c) v n i 1 b c cs us:=by
 obtain⟨inf,z,hinf,hsz,hby,hz,hzc⟩:=a8L
 have u25:=run_underlying Tryz.underlying70
 have z38 : ∀w,(sizeOf 85).run Tryz.prog w = .ok 7 w:=fun w=>by simp[sizeOf,typeInfo,hinf,hsz]
 have mixed:=b9.mix
 have hc63:c≤9223372036854775807:=hc
 have hsrc : ∀j v,((cs.toList.take (n * 7)).drop (i * 7))[j]? = some v→w.cell? ⟨b,i * 7+j,none⟩=some v:=fun j v hj=>by
  rw[List.getElem?_drop,List.getElem?_take]at hj
  rw[o9 hh]
  split at hj
  ·simpa using hj
  ·cases hj
 have hi5:(i+1) * 7≤c * 7:=Nat.mul_le_mul_right _ (by omega)
 have hold:(Builtin.firstCells inf.size i (.slice (some ⟨b,0,none⟩) i c)).run Tryz.prog w.drew = .ok (cs.toList.take (i * 7)).toArray w.drew:=by
  rw[hsz]
  exact run_firstCells_some w.drew 7 i ⟨b,0,none⟩ i c (cs.toList.take (i * 7)) (by rw[List.length_take,Array.length_toList,hs];omega) (fun j v hj=>by
   rw[v7,Nat.zero_add,show w.drew.cell? ⟨b,j,none⟩=w.cell? ⟨b,j,none⟩from rfl,o9 hh]
   rw[List.getElem?_take]at hj
   split at hj
   ·simpa using hj
   ·cases hj)
 have hik:i+(n+1-i)=n+1:=by omega
 have hkk:(n:Int)+1-(i:Int)=((n+1-i:Nat):Int):=by omega
 have hrz : ∀ty,(Builtin.append_ #[70,3] ty #[.slice (some ⟨b,0,none⟩) i c,.int .i64 ((n:Int)+1-(i:Int))]).run Tryz.prog w =
   .ok (.slice (some ⟨w.heap.size,0,none⟩) (n+1) (grownCap w (n+1) c 85)) (w.drew.alloc (.cells ((cs.toList.take (i * 7)).toArray++Builtin.zeroCells z.cells (n+1-i)++Builtin.zeroCells z.cells (grownCap w (n+1) c 85-(n+1))) 85)):=fun ty=>by
  have h:=Lib.run_append_grow_zeros w 70 3 ty 85 inf z .i64 .i64 Tryz.underlying70 Tryz.underlying3 hinf hz (some ⟨b,0,none⟩) i c (cs.toList.take (i * 7)) hold (n+1-i) (by omega) (by omega) (by omega) (by omega) (by rw[hby];omega) (by rw[hby,hik];exact growslice_fits hroom hbig)
  rw[hik]at h
  rw[hkk]
  exact h
 obtain⟨G,hG⟩ : ∃G,G=grownCap w (n+1) c 85:=⟨_,rfl⟩
 have hGn:n+1≤G:=by rw[hG];exact grownCap_ge w _ _ _
 have hGm:G≤maxLen:=by rw[hG];exact grownCap_le_maxLen w (n+1) c _ (by unfold maxLen;omega)
 have hG63:G≤9223372036854775807:=hGm
 obtain⟨ROW,hROW⟩ : ∃ROW:Array Value,ROW=(cs.toList.take (i * 7)).toArray++Builtin.zeroCells z.cells (n+1-i)++Builtin.zeroCells z.cells (G-(n+1)):=⟨_,rfl⟩
 rw[←hG]at hrz
 rw[←hROW]at hrz
 have hRl:ROW.toList.length=G * 7:=by
  rw[hROW,Array.length_toList]
  simp only[Array.size_append,List.size_toArray,size_zeroCells,hzc,List.length_take,Array.length_toList,hs]
  omega
 have hR0 : ∀o,o<i * 7→ROW.toList[o]? = cs[o]? := fun o ho=>by
  have hl:(cs.toList.take (i * 7)).length=i * 7:=by rw[List.length_take,Array.length_toList,hs];omega
  rw[hROW]
  simp only[Array.toList_append]
  rw[List.append_assoc,List.getElem?_append_left (by rw[List.toList_toArray,hl];exact ho),List.toList_toArray,List.getElem?_take,if_pos ho]
  simp
 have htl:=U9 (i:=i) hs hnc
 have hbw:b<w.heap.size:=by
  rcases Nat.lt_or_ge b w.heap.size with h|h
  ·exact h
  ·rw[Array.getElem?_eq_none h]at hh;cases hh
 have hvw:vb<w.heap.size:=by
  rcases Nat.lt_or_ge vb w.heap.size with h|h
  ·exact h
  ·rw[Array.getElem?_eq_none h]at hvh;cases hvh
 obtain⟨W1,hW1⟩ : ∃W1,W1=w.drew.alloc (.cells ROW 85):=⟨_,rfl⟩
 rw[←hW1]at hrz
 have hN1:W1.heap[w.heap.size]? = some (.cells ROW 85 (0,0)):=by rw[hW1];exact a5o w _
 have hO1 : ∀x,x<w.heap.size→W1.heap[x]? = w.heap[x]? := fun x hx=>by rw[hW1];exact a5n w _ x hx
 obtain⟨R2,hR2⟩ : ∃R2,R2=(putAt ROW.toList (i * 7) us).toArray:=⟨_,rfl⟩
 have hG5:(n+1) * 7≤G * 7:=Nat.mul_le_mul_right _ hGn
 have hR2l:R2.size=G * 7:=by rw[hR2,List.size_toArray,o8 _ _ _ (by rw[hu,hRl];omega),hRl]
 have hcpA : ∀(W:World),W.heap=W1.heap → ∀ty dc,(Builtin.copy_ #[70,70] ty #[.slice (some ⟨w.heap.size,i * 7,none⟩) (n+1-i) dc,.slice (some ⟨vb,voff,none⟩) 1 vc]).run Tryz.prog W = .ok (goInt (1:Nat)) (wrote W w.heap.size (i * 7) ROW us):=fun W hW ty dc =>
  C3 (k:=1) (us:=us) (T:=85) Tryz.underlying70 hinf (by simp only[Nat.min_def];split<;>omega) (by rw[hsz,hu]) (fun j v hj=>by
   rw[v7,o9 (cs:=vcs) (T:=tV) (by rw[hW,hO1 _ hvw];exact hvh)]
   have:=hvs j v hj
   rw[o9 hvh]at this
   exact this) (by rw[hW];exact hN1) (by rw[hu,←Array.length_toList,hRl];omega) h1
 obtain⟨W2,hW2⟩ : ∃W2,W2=wrote W1 w.heap.size (i * 7) ROW us:=⟨_,rfl⟩
 have hcpB : ∀(W:World),W.heap=W2.heap → ∀ty dc sc,(Builtin.copy_ #[70,70] ty #[.slice (some ⟨w.heap.size,(i+1) * 7,none⟩) (n-i) dc,.slice (some ⟨b,i * 7,none⟩) (n-i) sc]).run Tryz.prog W = .ok (goInt (n-i:Nat)) (wrote W w.heap.size ((i+1) * 7) R2 ((cs.toList.take (n * 7)).drop (i * 7))):=fun W hW ty dc sc =>
  C3 (k:=n-i) (us:=(cs.toList.take (n * 7)).drop (i * 7)) (T:=85) Tryz.underlying70 hinf (by simp only[Nat.min_def];split<;>omega) (by rw[hsz,htl]) (fun j v hj=>by
   rw[v7,o9 (cs:=cs) (T:=T) (by rw[hW,hW2,s4 (by omega),hO1 _ hbw];exact hh)]
   have:=hsrc j v hj
   rw[o9 hh]at this
   exact this) (by rw[hW,hW2,hR2];exact y5 hN1) (by rw[htl,hR2l];omega) (fun u hu=>h1c u (List.mem_of_mem_drop hu))
 have hGi : ¬(G=i):=by omega
 have hGim : ¬(G=i+1):=by omega
 have hci : ¬(c=i):=by omega
 have hw1:IntKind.i64.wrap ((n:Int)+1)=((n+1:Nat):Int):=by rw[IntKind.wrap_i64];omega
 have hw2:IntKind.i64.wrap ((i:Int)+1)=((i+1:Nat):Int):=by rw[IntKind.wrap_i64];omega
 have hb1:(0:Int)≤(i:Int)+1:=by omega
 have hin:i≤n:=by omega
 have htn:((i:Int)+1).toNat=i+1:=by omega
 have hb3:(i:Int)≤(n:Int):=by omega
 have hne : ¬((i:Int)=(n:Int)):=by omega
 have hend : ∀W:World,W.heap=(wrote W2 w.heap.size ((i+1) * 7) R2 ((cs.toList.take (n * 7)).drop (i * 7))).heap→W.os=w.os→W.tape=w.tape→W.output=w.output→InsE w W 7 (.slice (some ⟨b,0,none⟩) n c) (.slice (some ⟨w.heap.size,0,none⟩) (n+1) G) n i 1 b c cs us:=fun W hW g1 g2 g3=>by
  refine⟨_,_,_,85,InsM.grow (row:=ROW.toList) hRl hs hnc hGn hGm hi hu hR0 ?_ rfl ?_ (fun x hx => ?_) g1 g2 g3⟩
  ·rw[hW,y5 (T:=85) (by rw[hW2,hR2];exact y5 hN1),Y4,hR2]
  ·rw[hW,hW2,hW1];simp[wrote,World.setRow,World.alloc]
  ·rw[hW,s4 (by omega),hW2,s4 (by omega)];exact hO1 x hx
 clear hkk hik hold hROW hG hRl hR0
 go_enter Tryz.func193,Tryz.ntmps193
 go_wp2_with (first
  |(at_builtin;refine Lib.wpList_append_run _ rfl _ _ _ _ rfl _ _ rfl rfl _ _ (hrz _) ?_)
  |(at_builtin;refine wpList_copy_runI _ rfl _ _ 70 70 rfl _ _ rfl rfl (hcpA _ rfl _ _) ?_))
 go_region_law_o (refine step_copy_runI rfl _ _ 70 70 rfl (.slice (some ⟨w.heap.size,(i+1) * 7,none⟩) (n-i) (G-(i+1))) (.slice (some ⟨b,i * 7,none⟩) (n-i) (c-i)) (by simp[Act.eval,Act.put]) (by simp[Act.eval,Act.put]) (hcpB _ (by rw[hW2,hW1];rfl) _ _ _) ?_)
 go_wp2
 go_ret
 exact⟨.slice (some ⟨w.heap.size,0,none⟩) (n+1) G,rfl,hend _ (by rw[hW2,hW1,hR2];rfl) rfl rfl rfl⟩
theorem c7R (w:World) (b n c vb voff vc T:Nat) (cs:Array Value) (us:List Value) (hn:n≤c) (hc:c≤maxLen) (hh:w.heap[b]? = some (.cells cs T (0,0))) (hs:cs.size=c * 7) (hu:us.length=7)
  (hvs : ∀j v,us[j]? = some v→w.cell? ⟨vb,voff+j,none⟩=some v) (h1 : ∀u∈us,one u) (hb:(n+1) * 56≤140737488355328) :
  Calls Tryz.prog 193 #[.slice (some ⟨b,0,none⟩) n c,.int .i64 n,.slice (some ⟨vb,voff,none⟩) 1 vc] w fun e w' =>
   ∃v,e = .returned v∧InsE w w' 7 (.slice (some ⟨b,0,none⟩) n c) v n n 1 b c cs us:=by
 obtain⟨inf,z,hinf,hsz,hby,hz,hzc⟩:=a8L
 have u25:=run_underlying Tryz.underlying70
 have z38 : ∀w,(sizeOf 85).run Tryz.prog w = .ok 7 w:=fun w=>by simp[sizeOf,typeInfo,hinf,hsz]
 have hc63:c≤9223372036854775807:=hc
 have mixed:=b9.mix
 rcases H8 (P:=Tryz.prog) (ty:=70) (w:=w) Tryz.underlying70 hinf hz hsz hby hzc (Old.row n b c cs T hh hn hc hs) (m:=1) (us:=us) ⟨by rw[hu],.inr (.inr ⟨vb,voff,vc,rfl,hvs⟩)⟩ h1 (by omega) (by simpa using hb)with ⟨_,h,_⟩|⟨v,w',b',cap',cs',T',hr,A⟩
 ·cases h
 ·have hend:InsE w w' 7 _ v _ _ 1 b _ cs us:=⟨_,_,_,_,A.ins⟩
  by_cases hcn:n=c
  ·subst hcn
   go_enter Tryz.func193,Tryz.ntmps193
   go_wp2_with (at_builtin;refine Lib.wpList_append_run _ rfl _ _ _ _ rfl _ _ rfl rfl _ _ hr ?_)
   go_ret
   exact⟨v,rfl,hend⟩
  ·have hcn2 : ¬(c=n):=fun h=>hcn h.symm
   go_enter Tryz.func193,Tryz.ntmps193
   go_wp2_with (at_builtin;refine Lib.wpList_append_run _ rfl _ _ _ _ rfl _ _ rfl rfl _ _ hr ?_)
   go_ret
   exact⟨v,rfl,hend⟩
theorem c7Q (w:World) (b vb voff vc T:Nat) (cs:Array Value) (us:List Value) (hcs:cs = #[]) (hu:us.length=7)
  (hvs : ∀j v,us[j]? = some v→w.cell? ⟨vb,voff+j,none⟩=some v) (h1 : ∀u∈us,one u) :
  Calls Tryz.prog 193 #[.slice none 0 0,.int .i64 0,.slice (some ⟨vb,voff,none⟩) 1 vc] w fun e w' =>
   ∃v,e = .returned v∧InsE w w' 7 (.slice none 0 0) v 0 0 1 b 0 cs us:=by
 obtain⟨inf,z,hinf,hsz,hby,hz,hzc⟩:=a8L
 have u25:=run_underlying Tryz.underlying70
 have z38 : ∀w,(sizeOf 85).run Tryz.prog w = .ok 7 w:=fun w=>by simp[sizeOf,typeInfo,hinf,hsz]
 have mixed:=b9.mix
 rcases H8 (P:=Tryz.prog) (ty:=70) (w:=w) Tryz.underlying70 hinf hz hsz hby hzc (Old.nil b 0 cs T hcs rfl) (m:=1) (us:=us) ⟨by rw[hu],.inr (.inr ⟨vb,voff,vc,rfl,hvs⟩)⟩ h1 (by omega) (by omega)with ⟨_,_,_,h⟩|⟨v,w',b',cap',cs',T',hr,A⟩
 ·cases h
 ·go_enter Tryz.func193,Tryz.ntmps193
  have hend:InsE w w' 7 _ v _ _ 1 b _ cs us:=⟨_,_,_,_,A.ins⟩
  go_wp2_with (at_builtin;refine Lib.wpList_append_run _ rfl _ _ _ _ rfl _ _ rfl rfl _ _ hr ?_)
  all_goals go_ret
  all_goals first|exact⟨v,rfl,hend⟩|(have hcn:c=n:=by(first|assumption|(symm;assumption)|omega);subst hcn;exact⟨v,rfl,hend⟩)
theorem d2T:b8n Tryz.prog 193 .gst:=by
 intro w s n b cap cs T i vb vcap vT vcs us hO hi hvb hvh hu hvs h1 h1c hL
 have hs5:RT.size .gst=7:=rfl
 have hb5:RT.bytes .gst=56:=rfl
 rw[hs5]at *
 rw[hb5]at hL
 cases hO with
 |nil _ _ _ _ hcs hcap =>
  have:i=0:=by omega
  subst this
  subst hcap
  exact c7Q w b vb 0 vcap T cs us hcs hu hvs h1
 |row _ _ _ _ _ hh hnc hcm hcs =>
  rcases Nat.lt_or_ge i n with hlt|hge
  ·rcases Nat.lt_or_ge cap (n+1)with hr|hr
   ·exact c4x w b n cap i vb 0 vcap T vT cs vcs us hlt hnc hr hcm hh hcs hu hvh hvs h1 h1c hL
   ·exact c4v w b n cap i vb 0 vcap T vT cs vcs us hlt hr hcm hh hcs hu hvh (hvb ⟨_,rfl⟩) hvs h1 h1c
  ·have:i=n:=by omega
   subst this
   exact c7R w b i cap vb 0 vcap T cs us hnc hcm hh hcs hu hvs h1 hL
theorem c4c:b6 Tryz.prog 193 (.raw (insM .gst)) :=
 b9H ⟨_,_,Tryz.func193,by kernel_rfl,rfl⟩ d2T
end Go.Proofs.YtiioognflecdgaaGreat
namespace Go.Proofs.YtiioognflecdgaaGreat
open Go.Sx Go.Proofs Go.Mo
noncomputable def c0U:Sx.Spec:=⟨false,true,[.list .gst,.row .gst],[[some .gst]],fun _ _ ⟨l,g,_⟩ => .ret (vW .gst fun _=>a2L (l ()) (g ()),fun _=>0)⟩
theorem c6X:b6 Tryz.prog 162 c0U:=j3 b9 (ss := [(110,b3T),(121,a1R),(193,(.raw (insM .gst)))]) ⟨b7d,c1I,c4c,trivial⟩ rfl rfl<|by
 intro(bs:Th (List Int)) (p:Th Int) ⟨(l:Th (List Gst)),(g:Th Gst),u⟩ K _ _ ho h
 obtain⟨l,rfl⟩:=a8 l;obtain⟨g,rfl⟩:=a8 g
 have hl:=okB (ho.1 _ (.head _))
 have hp:=fun(k:Nat) => @d0Z l g k
 refine⟨annL [(162,3,⟨Nat,[],fun σ k => σ.t 6 (vI fun _=>(k:Int)),fun _ k _=>k≤l.length∧l9 k (a7v l g)=true,fun _ k _=>l.length-k⟩)],noAnn,20,?_⟩
 cbv
 repeat' first|((with_reducible refine fun(k:Nat) => ?_);cbv)|((with_reducible intro _);cbv)|(with_reducible refine And.intro ?_ ?_)
 all_goals try((first|(with_reducible refine LoopIn.mk ((0:Nat)) ?_ ?_)|(with_reducible refine LoopBack.mk ((k+1:Nat)) ?_ ?_ ?_)) )
 all_goals try((with_reducible show l8 _ _);cbv;(try simp only[and_true,true_and]))
 all_goals try(repeat' with_reducible refine And.intro ?_ ?_)
 all_goals first|(refine retK h ?_;clear h;simp only[fin0])|(with_reducible refine Ob.mk ?_;clear h)|(clear h)
 all_goals(try simp only[eta0,RT.bytes]at *)
 all_goals(try(refine funext fun u => ?_;rw[B4]))
 all_goals(try simp only[Int.toNat_natCast]at *)
 all_goals grind(splits:=30) [j4,b8,a2L,a7v,n8,n3]
end Go.Proofs.YtiioognflecdgaaGreat
namespace Go.Proofs.YtiioognflecdgaaGreat
open Go.Sx Go.Proofs Go.RowKit
theorem c5e:(Tryz.prog.info? 76).map (fun i=>(i.zero,i.size,i.bytes))=some (some (.agg #[.int .i64 0,.int .i64 0,.int .i64 0,.slice none 0 0,.int .i64 0,.slice none 0 0,.slice none 0 0,.slice none 0 0]),8,128):=by kernel_rfl
theorem c8F (w:World) (n b c:Nat) (cs:Array Value) (T i:Nat) (hh:w.heap[b]? = some (.cells cs T (0,0))) (hnc:n≤c) (hc:c≤maxLen) (hs:cs.size=c * 8) (hi:i<n) (h1c : ∀u∈cs.toList.take (n * 8),one u) :
  Calls Tryz.prog 196 #[.slice (some ⟨b,0,none⟩) n c,.int .i64 i,.int .i64 ((i:Int)+1)] w fun e w' => ∃v cs',e = .returned v∧DelE w w' 8 v n i b c cs T cs':=by
 obtain⟨inf,hinf,hz,hsz,hby⟩:=info_parts c5e
 obtain⟨Z,hZ⟩ : ∃Z:Value,Z = .agg #[.int .i64 0,.int .i64 0,.int .i64 0,.slice none 0 0,.int .i64 0,.slice none 0 0,.slice none 0 0,.slice none 0 0]:=⟨_,rfl⟩
 rw[←hZ]at hz
 have hzc:(Value.cells Z).size=8:=by rw[hZ];rfl
 have hzv : ∀w,(zeroValue 76).run Tryz.prog w = .ok Z w:=fun w=>by simp[zeroValue,typeInfo,hinf,hz]
 have hz1 : ∀u∈(Value.cells Z).toList,one u:=by
  intro u hu
  rw[hZ]at hu
  simp[Value.cells]at hu
  first|(subst hu;rfl)|(rcases hu with rfl|rfl|rfl|rfl<;>rfl)
 clear hZ
 have u25:=run_underlying Tryz.underlying69
 have z38 : ∀w,(sizeOf 76).run Tryz.prog w = .ok 8 w:=fun w=>by simp[sizeOf,typeInfo,hinf,hsz]
 have mixed:=b9.mix
 have hc63:c≤9223372036854775807:=hc
 obtain⟨e1,e2,e3,e4,e5,e6,e7⟩:=a8s (cs:=cs) (zs:=(Value.cells Z).toList) hs hnc hi (by rw[Array.length_toList];exact hzc)
 obtain⟨us,hus⟩ : ∃us,us=(cs.toList.take (n * 8)).drop ((i+1) * 8):=⟨_,rfl⟩
 rw[←hus]at e1 e2 e3
 obtain⟨A,hA,hsrc⟩ : ∃A:Addr,(if c=i+1 then some (⟨b,0,none⟩:Addr)else some ⟨b,(i+1) * 8,none⟩)=some A∧(∀j v,us[j]? = some v→w.drew.cell? (A.add j)=some v):=by
  by_cases h:c=i+1
  ·refine⟨⟨b,0,none⟩,by simp[h],fun j v hj => ?_⟩
   have h0:us.length=0:=by rw[e1,show n-(i+1)=0 by omega,Nat.zero_mul]
   rw[List.length_eq_zero_iff.1 h0]at hj
   simp at hj
  ·refine⟨⟨b,(i+1) * 8,none⟩,by simp[h],fun j v hj => ?_⟩
   rw[hus,List.getElem?_drop,List.getElem?_take]at hj
   rw[v7,show w.drew.cell? ⟨b,(i+1) * 8+j,none⟩=w.cell? ⟨b,(i+1) * 8+j,none⟩from rfl,o9 hh]
   split at hj
   ·simpa using hj
   ·cases hj
 have h1u : ∀u∈us,one u:=fun u hu=>h1c u (by rw[hus]at hu;exact List.mem_of_mem_drop hu)
 obtain⟨W1,hW1⟩ : ∃W1,W1=wrote w.drew b (i * 8) cs us:=⟨_,rfl⟩
 have hap : ∀ty,(Builtin.append_ #[69,69] ty #[.slice (some ⟨b,0,none⟩) i c,.slice (some A) (n-(i+1)) (c-(i+1))]).run Tryz.prog w.drew = .ok (.slice (some ⟨b,0,none⟩) (i+(n-(i+1))) c) W1:=fun ty=>by
  have:=a4z (P:=Tryz.prog) (w:=w.drew) (ty:=ty) (T:=69) (b:=b) (n:=i) (cap:=c) (m:=n-(i+1)) (capx:=c-(i+1)) (a:=A) (cs:=cs) (us:=us) (T0:=T) Tryz.underlying69 hinf hh (by rw[hsz];exact e1) hsrc (by omega) (by rw[hsz];exact hs) h1u
  rw[this,hsz,hW1]
 have hh1:W1.heap[b]? = some (.cells (putAt cs.toList (i * 8) us).toArray T (0,0)):=by rw[hW1];exact y5 hh
 have hin:i+(n-(i+1))=n-1:=by omega
 rw[hin]at hap
 have hcl : ∀(W:World),W.heap=W1.heap → ∀ty cc,(Builtin.clear_ #[69] ty #[.slice (some ⟨b,(n-1) * 8,none⟩) 1 cc]).run Tryz.prog W = .ok (.tuple #[]) (wrote W b ((n-1) * 8) (putAt cs.toList (i * 8) us).toArray (Value.cells Z).toList):=fun W hW ty cc =>
  a4y (T0:=T) Tryz.underlying69 hzv (by rw[hW];exact hh1) (by rw[e3];rw[Array.length_toList]at e4;exact e4) hz1
 have hend : ∀W:World,W.heap=(wrote W1 b ((n-1) * 8) (putAt cs.toList (i * 8) us).toArray (Value.cells Z).toList).heap→W.os=w.os→W.tape=w.tape→W.output=w.output→DelE w W 8 (.slice (some ⟨b,0,none⟩) (n-1) c) n i b c cs T (closed cs 8 n i (Value.cells Z).toList):=fun W hW g1 g2 g3=>by
  refine⟨rfl,?_,e5,e6,e7,g1,g2,g3,?_,fun x hx => ?_⟩
  ·rw[hW,y5 hh1,closed,←hus]
  ·rw[hW,hW1];simp[wrote,World.setRow]
  ·rw[hW,s4 hx,hW1,s4 hx];rfl
 have hw2:IntKind.i64.wrap ((i:Int)+1)=((i+1:Nat):Int):=by rw[IntKind.wrap_i64];omega
 have hci : ¬(c=n-1):=by omega
 have hne : ¬((i:Int)=(i:Int)+1):=by omega
 have htn:((i:Int)+1).toNat=i+1:=by omega
 have hb1:(0:Int)≤(i:Int)+1:=by omega
 have hb2:(i:Int)+1≤(n:Int):=by omega
 have hb3:(i:Int)+1≤(c:Int):=by omega
 have hb4:i≤c:=by omega
 have hb5:(i:Int)≤(i:Int)+1:=by omega
 have hb6:n-(n-1)=1:=by omega
 have hb7:n-1≤n:=by omega
 have g1:W1.os=w.os:=by rw[hW1];rfl
 have g2:W1.tape=w.tape:=by rw[hW1];rfl
 have g3:W1.output=w.output:=by rw[hW1];rfl
 obtain⟨zs,hzs⟩ : ∃zs,zs=(Value.cells Z).toList:=⟨_,rfl⟩
 rw[←hzs]at hcl hend
 clear hzs hzv hz1 hzc hW1
 clear hinf hz hby e1 e2 e3 e4 e5 e6 e7 h1u hsrc hh1 h1c hus
 go_enter Tryz.func196,Tryz.ntmps196
 go_wp2_with fail
 go_region_law_o (refine a1L rfl (.tmp 22) (.tmp 25) 69 rfl _ _ (by simp[Act.eval,Act.put]) (by simp[Act.eval,Act.put]) (hap _) ?_)
 go_wp2_with (at_builtin;refine a1c _ rfl _ 69 rfl _ rfl (hcl _ rfl _ _) ?_)
 all_goals go_ret
 all_goals exact⟨.slice (some ⟨b,0,none⟩) (n-1) c,_,rfl,hend _ rfl g1 g2 g3⟩
theorem d3f:c2J Tryz.prog 196 .hld:=fun w n b cap cs T i hh h1 h2 h3 h4 h5 _=>c8F w n b cap cs T i hh h1 h2 h3 h4 h5
theorem c4f:b6 Tryz.prog 196 (.raw (delM .hld)) :=
 c8C ⟨_,_,Tryz.func196,by kernel_rfl,rfl⟩ d3f
end Go.Proofs.YtiioognflecdgaaGreat
namespace Go.Proofs.YtiioognflecdgaaGreat
open Go.Sx Go.Proofs Go.Mo
noncomputable def b2i:SpecX := .raw (b5v (insM .hld))
theorem b9q:b6 Tryz.prog 192 b2i:=b3B c4b ⟨_,_,Tryz.func192,by kernel_rfl,rfl⟩
noncomputable def b2m:SpecX := .raw (b5v (delM .hld))
theorem b9t:b6 Tryz.prog 196 b2m:=b3B c4f ⟨_,_,Tryz.func196,by kernel_rfl,rfl⟩
theorem c5c {l:List Hld} {c:Int} (hs:HSort l) (hp:0≤j5 l c):E0 l c=l.eraseIdx (j5 l c).toNat:=by
 have hlt:=a1s l c
 have hcc:=a2c hp
 have hj:(j5 l c).toNat<l.length:=by omega
 generalize (j5 l c).toNat=j at *
 unfold E0
 have hl:l=l.take j++nth .hld l j::l.drop (j+1):=by
  rw[l7 .hld l j hj,←List.drop_eq_getElem_cons hj,List.take_append_drop]
 have hs2:=hs
 rw[hl]at hs2
 obtain⟨a1,a2,a3⟩:=List.pairwise_append.1 hs2
 have b1:=List.pairwise_cons.1 a2
 have t1:(l.take j).filter (fun h=>decide (h.state.cell≠c))=l.take j:=List.filter_eq_self.2 fun y hy=>by
  have:=a3 y hy _ (List.mem_cons_self ..)
  simp only[ne_eq,decide_eq_true_eq]
  omega
 have t2:(l.drop (j+1)).filter (fun h=>decide (h.state.cell≠c))=l.drop (j+1):=List.filter_eq_self.2 fun y hy=>by
  have:=b1.1 y hy
  simp only[ne_eq,decide_eq_true_eq]
  omega
 rw[List.eraseIdx_eq_take_drop_succ]
 conv=>lhs;rw[hl]
 rw[List.filter_append,List.filter_cons,t1,t2]
 simp[hcc]
theorem b7C {m:PMap} {s:Srv} {st:List Sto} {v:Int} {x:Msg} (h1:A4 m s=true) (h2:z7 m st=true) (h4:u9 m v x=true) :
  s.holds.length≤4∧0≤x.cell∧x.cell<st.length∧j5 s.holds x.cell<s.holds.length∧A3 m (nth .sto st x.cell.toNat)=true ∧
  (0≤j5 s.holds x.cell→P1 m (nth .hld s.holds (j5 s.holds x.cell).toNat)=true∧(nth .hld s.holds (j5 s.holds x.cell).toNat).state.ins.length=2∧p9 m (nth .hld s.holds (j5 s.holds x.cell).toNat).state=true∧0≤(nth .hld s.holds (j5 s.holds x.cell).toNat).count∧(nth .hld s.holds (j5 s.holds x.cell).toNat).count≤250) ∧
  (0≤j5 s.holds x.cell → ∀(a b:Int) (c:Cll),c.cell=(nth .hld s.holds (j5 s.holds x.cell).toNat).state.cell→P0 s.holds ⟨a,b,c⟩=s.holds.set (j5 s.holds x.cell).toNat ⟨a,b,c⟩) ∧
  (0≤j5 s.holds x.cell → ∀(a b:Int),P0 s.holds ⟨a,b,o6 m (nth .sto st x.cell.toNat)⟩=s.holds.set (j5 s.holds x.cell).toNat ⟨a,b,o6 m (nth .sto st x.cell.toNat)⟩) ∧
  (¬0≤j5 s.holds x.cell → ∀(k:Nat) (a b:Int),k≤s.holds.length→l9 k (a3R s.holds x.cell)=true→(k<s.holds.length → ¬(nth .hld s.holds k).state.cell<x.cell)→P0 s.holds ⟨a,b,o6 m (nth .sto st x.cell.toNat)⟩=insL s.holds k [⟨a,b,o6 m (nth .sto st x.cell.toNat)⟩]) ∧
  (0≤j5 s.holds x.cell→E0 s.holds x.cell=s.holds.eraseIdx (j5 s.holds x.cell).toNat) ∧
  (x.kind=1→1≤x.n∧x.n≤900∧A3 m ⟨x.n,(nth .sto st x.cell.toNat).base,(nth .sto st x.cell.toNat).recs⟩=true∧o6 m ⟨x.n,(nth .sto st x.cell.toNat).base,(nth .sto st x.cell.toNat).recs⟩=o6 m (nth .sto st x.cell.toNat)) ∧
  (x.kind=5→(x.side=0∨x.side=1)∧0≤x.pcl.n) ∧
  (0≤j5 s.holds x.cell→x.side=0∨x.side=1 → @LE.le Int _ 0 (nth .int (nth .hld s.holds (j5 s.holds x.cell).toNat).state.ins x.side.toNat) ∧ @LE.le Int _ (nth .int (nth .hld s.holds (j5 s.holds x.cell).toNat).state.ins x.side.toNat) 5000):=by
 have hf:=b0G h1 h2 h4
 obtain⟨f1,f2,f3,f4,f5,f6,f7,f8,f9,f10⟩:=hf
 have hlt:=a1s s.holds x.cell
 have hb:(nth .sto st x.cell.toNat).base.cell=x.cell:=by
  have:=((C4.1 h2).2.2 x.cell.toNat (by omega)).2
  omega
 have hsc:(o6 m (nth .sto st x.cell.toNat)).cell=x.cell:=by rw[T5,hb]
 have hH:0≤j5 s.holds x.cell→u5 s x.cell=true∧e9 s x.cell=nth .hld s.holds (j5 s.holds x.cell).toNat:=fun hp=>⟨by simp[u5,hp],by unfold e9;rw[if_pos hp]⟩
 refine⟨a5x h1,f3,f4,hlt.2,f5,fun hp => ?_,fun hp a b c hc => ?_,fun hp a b => ?_,fun hp k a b hk ha hl => ?_,fun hp => ?_,fun hk => ?_,f9,fun hp hsd => ?_⟩
 ·have:=f6 (hH hp).1
  rw[(hH hp).2]at this
  have hh:=A6.1 this.1
  exact⟨this.1,this.2.2,hh.2.2,hh.2.1.1,hh.2.1.2⟩
 ·have hcc:=a2c hp
  unfold P0
  have e:(⟨a,b,c⟩:Hld).state.cell=x.cell:=by show c.cell=x.cell;rw[hc,hcc]
  rw[e,if_pos hp]
 ·unfold P0
  have e:(⟨a,b,o6 m (nth .sto st x.cell.toNat)⟩:Hld).state.cell=x.cell:=hsc
  rw[e,if_pos hp]
 ·unfold P0
  have e:(⟨a,b,o6 m (nth .sto st x.cell.toNat)⟩:Hld).state.cell=x.cell:=hsc
  rw[e,if_neg hp,d0S hk ha hl]
 ·exact c5c (b0C h1) hp
 ·have hn:=f8 hk
  have hso:=v8.1 f5
  exact⟨hn.1,hn.2,v8.2 ⟨⟨by show 0≤x.n;omega,by show x.n≤900;omega⟩,hso.2.1,hso.2.2.1,hso.2.2.2⟩,rfl⟩
 ·have:=f10 (hH hp).1 hsd
  rw[(hH hp).2]at this
  exact this
theorem b3F {m:PMap} {s:Sto} {a b:Int} {r:Rec} (h:A3 m s=true):y4 m s a b r=I3 m s a b r:=by rw[y4,if_pos h]
theorem d1w {m:PMap} {s:Sto} {a b:Int} {r:Rec} (h:(I3 m s a b r).n=1):E9 m r=true:=by
 unfold I3 at h
 split at h
 ·simp at h
 ·split at h
  ·simp at h
  ·split at h
   ·rename_i hh;exact hh.1
   ·simp at h
theorem d2P (n:Nat):(NatCast.natCast n:Int)=(n:Int):=rfl
noncomputable def b5S:Sx.Spec:=⟨false,true,[.map,.arb,.row .hld,.int .i64],[[some .msg]],fun _ _ ⟨m,t,h,s,_⟩ => .asrt (fun _=>P1 (m ()) (h ())=true∧0≤s ()∧s ()≤1) (.ret (vW .msg fun _=>a2t (m ()) (t ()) (h ()) (s ()),fun _=>0))⟩
theorem b4v:b6 Tryz.prog 184 b5S:=j3 b9 (ss := [(151,F9),(77,E6),(213,c6o)]) ⟨Y0,Q3,c6U,trivial⟩ rfl rfl<|by
 intro(bs:Th (List Int)) (p:Th Int) ⟨(m:Th PMap),(t:Th Arb),(h0:Th Hld),(s:Th Int),u⟩ K _ _ ho h
 obtain⟨m,rfl⟩:=a8 m;obtain⟨t,rfl⟩:=a8 t;obtain⟨h0,rfl⟩:=a8 h0;obtain⟨s,rfl⟩:=a8 s
 obtain⟨ha,h⟩:=h
 have ha:=ha.out
 have hh:P1 m h0=true:=ha.1
 have hs0:0≤s:=ha.2.1
 have hs1:s≤1:=ha.2.2
 clear ha
 have hf:=o7 (A6.1 hh).2.2
 have hw:=b8 (n:=1-s) (by omega) (by omega)
 have hz:=a9P m t h0 s
 have hy:=b0J m t h0 s
 have e1:=fun k => @b8X m t h0 s k
 have e2:=fun k => @b9T m t h0 s k
 have s1:=fun k => @b6E m t h0 s k
 have s2:=fun k => @b7J m t h0 s k
 refine⟨annL [(184,7,⟨Nat,[⟨.tmp 9 0,some 16,.msg⟩],fun σ k=>(((σ.fg 16).t 12 (vI fun _=>(k:Int))).t 9 (vO 16 1)).row 16 1 .msg (fun _=>a0L m t h0 s k),fun _ k _=>k≤(nth .pcls h0.state.outs s.toNat).length∧k≤4,fun _ k _=>4-k⟩),(184,12,⟨Nat,[⟨.tmp 9 0,some 16,.msg⟩],fun σ k=>(((σ.fg 16).t 14 (vI fun _=>(k:Int))).t 9 (vO 16 1)).row 16 1 .msg (fun _=>a0L m t h0 s 4++a1F m t h0 s k),fun _ k _=>k≤(n6 m h0 s).length∧k≤4,fun _ k _=>4-k⟩)],noAnn,20,?_⟩
 cbv
 repeat' first|((with_reducible refine fun(k:Nat) => ?_);cbv)|((with_reducible intro _);cbv)|(with_reducible refine And.intro ?_ ?_)
 all_goals try((first|(with_reducible refine LoopIn.mk ((0:Nat)) ?_ ?_)|(with_reducible refine LoopBack.mk ((k+1:Nat)) ?_ ?_ ?_)) )
 all_goals try((with_reducible show l8 _ _);cbv;(try simp only[and_true,true_and]))
 all_goals try(repeat' with_reducible refine And.intro ?_ ?_)
 all_goals first|(refine retK h ?_;clear h;simp only[fin0])|(with_reducible refine Ob.mk ?_;clear h)|(clear h)
 all_goals(try simp only[eta0,RT.bytes]at *)
 all_goals(try simp only[hw,hh,if_true]at *)
 all_goals grind(splits:=30) [j4,b8,b6D,b7I,b8Y,b9V,a2t,u6,A8,G5]
end Go.Proofs.YtiioognflecdgaaGreat
namespace Go.Sx
def oneC (v:V):C:=match v with
 | .one c=>c
 |_ => .unk
def St.tmB (σ : St) (d:Nat):Th Bool:=asB (oneC (σ.tm.get d))
end Go.Sx
namespace Go.Proofs.YtiioognflecdgaaGreat
open Go.Sx Go.Proofs Go.Mo
def d1P:Th Row:=fun _=>⟨0,0,false,⟨0,0,0,0,0⟩,0,0⟩
theorem b6Z:b6 Tryz.prog 58 b3S:=j3 b9 (ss := [(21,G0),(108,c1i)]) ⟨C1,b9v,trivial⟩ rfl rfl<|by
 intro(bs:Th (List Int)) (p:Th Int) ⟨(w:Th Wld),u⟩ K hb hp0 ho h
 obtain⟨w,rfl⟩:=a8 w;obtain⟨bs,rfl⟩:=a8 bs;obtain⟨p,rfl⟩:=a8 p
 obtain⟨hpre,h⟩:=h
 have hpre:True∧0≤p∧p≤999000000000:=hpre.out
 refine⟨noAnn,annL [(58,4,⟨Th Int×Th Int,[],fun σ g=>(σ.t 5 (.one (.att (.int .i64 g.1)))).v5 0 1 (.att (.int .i64 g.2)),fun _ g _=>Ob fun _=>p≤g.2 ()∧g.2 ()≤p+2,fun _ g _=>0⟩),
  (58,13,⟨Th Bool×Th Int,[],fun σ g => σ.t 37 (.one (.att (.bool (.of g.1)))),fun _ g _=>Ob fun _=>True,fun _ g _=>0⟩),
  (58,19,⟨Th Int×Th Bool,[],fun σ g => σ.t 47 (.one (.att (.bool (.of g.2)))),fun _ g _=>Ob fun _=>True,fun _ g _=>0⟩),
  (58,24,⟨Th Bool×Th Bool,[],fun σ g => σ.t 61 (.one (.att (.bool (.of g.1)))),fun _ g _=>Ob fun _=>True,fun _ g _=>0⟩),
  (58,28,⟨Th Bool×Th Row,[],fun σ g => σ.t 66 (.one (.att (.bool (.of g.1)))),fun _ g _=>Ob fun _=>True,fun _ g _=>0⟩)],20,?_⟩
 cbv
 repeat' first|((with_reducible refine fun(g:Th Int×Th Int) => ?_);obtain⟨i,q⟩:=g;obtain⟨i,rfl⟩:=a8 i;obtain⟨q,rfl⟩:=a8 q;(with_reducible refine ImpB.out ?_);cbv;(with_reducible refine ImpB.mk ?_);intro hq;obtain⟨hq⟩:=hq)|((with_reducible refine fun(g:Th Bool×Th Int) => ?_);obtain⟨b1,z1⟩:=g;obtain⟨b1,rfl⟩:=a8 b1;obtain⟨z1,rfl⟩:=a8 z1;(with_reducible refine ImpB.out ?_);cbv;(with_reducible refine ImpB.mk ?_);intro hq;obtain⟨hq⟩:=hq)|((with_reducible refine fun(g:Th Int×Th Bool) => ?_);obtain⟨z2,b2⟩:=g;obtain⟨z2,rfl⟩:=a8 z2;obtain⟨b2,rfl⟩:=a8 b2;(with_reducible refine ImpB.out ?_);cbv;(with_reducible refine ImpB.mk ?_);intro hq;obtain⟨hq⟩:=hq)|((with_reducible refine fun(g:Th Bool×Th Bool) => ?_);obtain⟨b3,z3⟩:=g;obtain⟨b3,rfl⟩:=a8 b3;obtain⟨z3,rfl⟩:=a8 z3;(with_reducible refine ImpB.out ?_);cbv;(with_reducible refine ImpB.mk ?_);intro hq;obtain⟨hq⟩:=hq)|((with_reducible refine fun(g:Th Bool×Th Row) => ?_);obtain⟨b4,z4⟩:=g;obtain⟨b4,rfl⟩:=a8 b4;obtain⟨z4,rfl⟩:=a8 z4;(with_reducible refine ImpB.out ?_);cbv;(with_reducible refine ImpB.mk ?_);intro hq;obtain⟨hq⟩:=hq)|((with_reducible intro _);cbv)|(with_reducible refine And.intro ?_ ?_)
 all_goals try((first|(with_reducible refine LoopIn.wf (fun σ => (σ.tmI 5,asI (σ.ce 0 1))) ?_ ?_)|(with_reducible refine LoopBack.wf (fun σ => (σ.tmI 5,asI (σ.ce 0 1))) ?_ ?_ ?_)|(with_reducible refine LoopIn.wf (fun σ => (σ.tmB 37,a0n)) ?_ ?_)|(with_reducible refine LoopBack.wf (fun σ => (σ.tmB 37,a0n)) ?_ ?_ ?_)|(with_reducible refine LoopIn.wf (fun σ => (a0n,σ.tmB 47)) ?_ ?_)|(with_reducible refine LoopBack.wf (fun σ => (a0n,σ.tmB 47)) ?_ ?_ ?_)|(with_reducible refine LoopIn.wf (fun σ => (σ.tmB 61,B6)) ?_ ?_)|(with_reducible refine LoopBack.wf (fun σ => (σ.tmB 61,B6)) ?_ ?_ ?_)|(with_reducible refine LoopIn.wf (fun σ => (σ.tmB 66,d1P)) ?_ ?_)|(with_reducible refine LoopBack.wf (fun σ => (σ.tmB 66,d1P)) ?_ ?_ ?_))<;>cbv)
 all_goals try(with_reducible show _∧_;(try simp only[and_true,true_and]))
 all_goals try(repeat' with_reducible refine And.intro ?_ ?_)
 all_goals try(with_reducible refine MeasB.mk ?_)
 all_goals first|(refine retK (h _ _ _ _ _ _ ?_) rfl;clear h)|(with_reducible refine Ob.mk ?_;clear h)|(clear h)
 all_goals(try simp only[eta0,RT.bytes]at *)
 all_goals(try dsimp only[RT.ty]at *)
 all_goals(try simp only[M1]at *)
 all_goals(first|rfl|omega|grind[b8])
end Go.Proofs.YtiioognflecdgaaGreat
