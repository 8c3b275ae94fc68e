/-
  Contract: an order done in the one world.
-/
import Derived.Test.YtmnapekfeenknaaGreatGvD
import Derived.Test.YtmnapekfeenknaaGreatM8
set_option linter.unusedVariables false
set_option linter.unusedSimpArgs false
set_option maxRecDepth 100000
set_option maxHeartbeats 8000000
namespace Go.Proofs.YtmnapekfeenknaaGreat
open Go.Sx Go.Proofs Go.Mo
theorem d7N {l:List OW} {k:Nat} {p c s la d:Int} {b:Bool} (hk:k<l.length):b8 (l.set k ⟨⟨(nth .ow l k).wlk.id,p,c,s,la⟩,b⟩) d=b8 l d:=a5W (by simp) fun i hi=>by
 rw[C3 .ow hk]
 split
 ·rename_i e;rw[e]
 ·rfl
theorem a1R {l:List OW} {i:Int} (h : ¬b8 l i<0):(b8 l i).toNat<l.length∧0≤b8 l i∧b8 l i<(l.length:Int):=by
 have:=V0 l i
 omega
theorem a2d {o:One} (h:r6 o=true) {i:Int} (h0 : ¬b8 o.wlks i<0):0≤(nth .ow o.wlks (b8 o.wlks i).toNat).wlk.pos∧(nth .ow o.wlks (b8 o.wlks i).toNat).wlk.pos≤31∧0≤(nth .ow o.wlks (b8 o.wlks i).toNat).wlk.j8∧(nth .ow o.wlks (b8 o.wlks i).toNat).wlk.j8≤99 ∧
  0≤e8 o.map (nth .ow o.wlks (b8 o.wlks i).toNat).wlk.pos∧e8 o.map (nth .ow o.wlks (b8 o.wlks i).toNat).wlk.pos<o.map.cells∧(o.ground.length:Int)=o.map.cells∧(o.air.length:Int)=o.map.cells∧o.map.cells≤4 ∧
  @LE.le Int _ 0 (nth .int o.ground (e8 o.map (nth .ow o.wlks (b8 o.wlks i).toNat).wlk.pos).toNat) ∧ @LE.le Int _ (nth .int o.ground (e8 o.map (nth .ow o.wlks (b8 o.wlks i).toNat).wlk.pos).toNat) 900:=by
 have hk:=(a1R h0).1
 have hw:=s8.1 (a1E h hk).1
 have hc:=C9 hw.2.2.1
 have hm:=a4g hc.1
 have hp:=n6.1 hc.1
 have hd:=G5 h
 have c0:0≤e8 o.map (nth .ow o.wlks (b8 o.wlks i).toNat).wlk.pos:=by rw[hc.2.2.2];exact Int.ediv_nonneg hc.2.1 (by omega)
 have c1:e8 o.map (nth .ow o.wlks (b8 o.wlks i).toNat).wlk.pos<o.map.cells:=by rw[hc.2.2.2];exact Int.ediv_lt_of_lt_mul (by omega) hc.2.2.1
 have hg:=hd.2.2.2.2 _ 0 c0 c1 (.inl rfl)
 exact⟨hc.2.1,by omega,hw.2.2.2.1,hw.2.2.2.2.1,c0,c1,hd.1,hd.2.1,hp.2.1,hg.2.1,hg.2.2.1⟩
theorem b8u {o:One} (h:r6 o=true) {p s:Int} (he:B4 o.map p s=true):(s=0∨s=1)∧0≤b7 o.map (e8 o.map p) s∧b7 o.map (e8 o.map p) s<(o.air.length:Int)∧((nth .ints o.air (b7 o.map (e8 o.map p) s).toNat).length:Int)=2 ∧
  @LE.le Int _ 0 (nth .int (nth .ints o.air (b7 o.map (e8 o.map p) s).toNat) (1-s).toNat) ∧ @LE.le Int _ (nth .int (nth .ints o.air (b7 o.map (e8 o.map p) s).toNat) (1-s).toNat) 100000:=by
 have e1:b7 o.map (e8 o.map p) s ≠ -1:=by
  unfold B4 at he
  simp only[decide_eq_true_eq]at he
  exact he.1
 have hb:=v7 e1
 have h2:=H6 e1
 have hd:=G5 h
 have hg:=hd.2.2.2.2 (b7 o.map (e8 o.map p) s) (1-s) hb.2.2.2.2.1 hb.2.2.2.2.2.1 (by omega)
 exact⟨by omega,hb.2.2.2.2.1,by have:=hb.2.2.2.2.2.1;omega,hg.1,hg.2.2.2.1,hg.2.2.2.2⟩
theorem b5k {o:One} {a b:Int} (ha : ¬b8 o.wlks a<0) (hb : ¬b8 o.wlks b<0) (h:b≠a):(b8 o.wlks a).toNat≠(b8 o.wlks b).toNat:=fun e=>by
 have h1:=a1w (l:=o.wlks) (id:=a) (by omega)
 have h2:=a1w (l:=o.wlks) (id:=b) (by omega)
 rw[e,h2]at h1
 exact h h1
theorem a0m {o:One} (h:r6 o=true) {i:Int} (h0 : ¬b8 o.wlks i<0):0≤e8 o.map (nth .ow o.wlks (b8 o.wlks i).toNat).wlk.pos∧e8 o.map (nth .ow o.wlks (b8 o.wlks i).toNat).wlk.pos<(o.ground.length:Int):=by
 have:=a2d h h0
 exact⟨this.2.2.2.2.1,by rw[this.2.2.2.2.2.2.1];exact this.2.2.2.2.2.1⟩
theorem c4p {s:Int} {n:Nat} (h:s=0∨s=1) (hn:(n:Int)=2):0≤1-s∧1-s<(n:Int):=by omega
section
variable {o:One} {r:Ord}
theorem b3B (h:r6 o=false):n9 o r=⟨a2u,0⟩:=by unfold n9;rw[if_neg (by simp[h])]
theorem b3A (h:y9 r=false):n9 o r=⟨a2u,0⟩:=by unfold n9;rw[if_neg (by simp[h])]
theorem a7q (h:r6 o=true) (hr:y9 r=true):n9 o r=s4 o r:=by unfold n9;rw[if_pos ⟨h,hr⟩]
theorem c9t (h:r6 o=true) (hr:y9 r=true) (h0:b8 o.wlks r.who<0):n9 o r=⟨o,9⟩:=by
 rw[a7q h hr];unfold s4;simp only;rw[if_pos (by omega)]
theorem c9s (h:r6 o=true) (hr:y9 r=true) (h0:(nth .ow o.wlks (b8 o.wlks r.who).toNat).here=false):n9 o r=⟨o,9⟩:=by
 rw[a7q h hr];unfold s4;simp only;rw[if_pos (by simp[h0])]
theorem c6y (h:r6 o=true) (hr:y9 r=true) (h0 : ¬b8 o.wlks r.who<0) (h1:(nth .ow o.wlks (b8 o.wlks r.who).toNat).here=true) (h2:r.seq<(nth .ow o.wlks (b8 o.wlks r.who).toNat).wlk.seq):n9 o r=⟨o,8⟩:=by
 rw[a7q h hr];unfold s4;simp only;rw[if_neg (fun q=>q ⟨by omega,h1⟩),if_pos h2]
theorem c1r (h:r6 o=true) (hr:y9 r=true) (h0 : ¬b8 o.wlks r.who<0) (h1:(nth .ow o.wlks (b8 o.wlks r.who).toNat).here=true) (h2:r.seq=(nth .ow o.wlks (b8 o.wlks r.who).toNat).wlk.seq):n9 o r=⟨o,(nth .ow o.wlks (b8 o.wlks r.who).toNat).wlk.last⟩:=by
 rw[a7q h hr];unfold s4;simp only;rw[if_neg (fun q=>q ⟨by omega,h1⟩),if_neg (by omega),if_pos h2]
theorem c6z (h:r6 o=true) (hr:y9 r=true) (h0 : ¬b8 o.wlks r.who<0) (h1:(nth .ow o.wlks (b8 o.wlks r.who).toNat).here=true) (h2 : ¬r.seq<(nth .ow o.wlks (b8 o.wlks r.who).toNat).wlk.seq) (h3 : ¬r.seq=(nth .ow o.wlks (b8 o.wlks r.who).toNat).wlk.seq) :
  n9 o r=a3H o (b8 o.wlks r.who).toNat (nth .ow o.wlks (b8 o.wlks r.who).toNat).wlk r:=by
 rw[a7q h hr];unfold s4;simp only;rw[if_neg (fun q=>q ⟨by omega,h1⟩),if_neg h2,if_neg h3]
end
noncomputable def a2U:Sx.Spec:=⟨false,true,[.one,.ord],[nOne,[none]],fun _ _ ⟨o,r,_⟩ => .ret (.tup [oOne fun _=>(n9 (o ()) (r ())).o,vI fun _=>(n9 (o ()) (r ())).code],fun _=>0)⟩
theorem a8p:b9 Tryz.prog 33 a2U:=j5 j3 (ss := [(31,U5),(92,Y5),(84,a2A),(85,b1N),(36,B6),(121,a2y),(168,O5),(68,E6)]) ⟨a6b,a6a,b2z,b5t,M7,a2f,a0Q,S9,trivial⟩ rfl rfl<|by
 intro(bs:Th (List Int)) (p:Th Int) ⟨(o:Th One),(r:Th Ord),u⟩ K _ _ ho h
 obtain⟨o,rfl⟩:=b6 o;obtain⟨r,rfl⟩:=b6 r
 refine⟨noAnn,noAnn,20,?_⟩
 cbv
 repeat' first|((with_reducible intro _);cbv)|(with_reducible refine And.intro ?_ ?_)
 all_goals first|(refine retK h ?_;clear h;simp only[fin0])|(with_reducible refine Ob.mk ?_;clear h)|(clear h)
 all_goals(try simp only[eta0,RT.bytes]at *)
 all_goals(try dsimp only[RT.ty]at *)
 all_goals(try simp only[M0]at *)
 all_goals(try have hpl:=a1R (l:=o.wlks) (i:=r.who) (by assumption))
 all_goals(try simp only[z8,a1L,a9i,j9 .ow hpl.1,List.set_set,List.length_set,d7N hpl.1]at *)
 all_goals(try dsimp only[RT.ty]at *)
 all_goals(try simp only[M0]at *)
 all_goals(try have hor:=G6.1 (by assumption))
 all_goals(try have hX:=a2d (o:=o) (i:=r.who) (by assumption) (by assumption))
 all_goals(try have hne:=b5k (o:=o) (a:=r.who) (b:=r.dest) (by assumption) (by assumption) (by omega))
 all_goals(try have hJ:=a2d (o:=o) (i:=r.dest) (by assumption) (by assumption))
 all_goals(try have hjl:=a1R (l:=o.wlks) (i:=r.dest) (by assumption))
 all_goals(try simp only[m5 .ow hne,m5 .ow hne.symm,a2a hne,j9 .ow hjl.1]at *)
 all_goals(try simp only[j9 .ow hpl.1,List.set_set]at *)
 all_goals(try rw[List.set_comm _ _ hne.symm])
 all_goals(try simp only[m5 .ow hne.symm,j9 .ow hpl.1]at *)
 all_goals(try have hT:=b8u (o:=o) (by assumption) (by assumption))
 all_goals(try simp(disch:=omega) only[e9]at *)
 all_goals(first|omega|exact hpl.2|exact hjl.2|exact a0m (by assumption) (by assumption)|exact⟨hT.2.1,hT.2.2.1⟩|exact c4p hT.1 hT.2.2.2.1|(rw[b3B (by assumption)];exact⟨⟨rfl,rfl,rfl,rfl,rfl⟩,rfl⟩)|(rw[b3A (by assumption)];exact⟨⟨rfl,rfl,rfl,rfl,rfl⟩,rfl⟩)|skip)
 all_goals(try first|(rw[c9t (by assumption) (by assumption) (by assumption)];exact⟨⟨rfl,rfl,rfl,rfl,rfl⟩,rfl⟩)|(rw[c9s (by assumption) (by assumption) (by assumption)];exact⟨⟨rfl,rfl,rfl,rfl,rfl⟩,rfl⟩)|(rw[c6y (by assumption) (by assumption) (by assumption) (by assumption) (by assumption)];exact⟨⟨rfl,rfl,rfl,rfl,rfl⟩,rfl⟩)|(rw[c1r (by assumption) (by assumption) (by assumption) (by assumption) (by assumption)];exact⟨⟨rfl,rfl,rfl,rfl,rfl⟩,rfl⟩))
 all_goals(try rw[c6z (by assumption) (by assumption) (by assumption) (by assumption) (by assumption) (by assumption)])
 all_goals(try(have hh:(nth .ow o.wlks (b8 o.wlks r.who).toNat).here=true:=by assumption);simp only[hh])
 all_goals grind[a3H,b0B,a8u,b0D,b0C,a5p,oFin,oSet,M5]
end Go.Proofs.YtmnapekfeenknaaGreat
