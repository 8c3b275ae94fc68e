/-
  Contracts: a record written at a store's end, by the program.
-/
import Derived.Test.YtihaeoicjglieaaGreatGrT
import Derived.Test.YtihaeoicjglieaaGreatM2
set_option linter.unusedVariables false
set_option linter.unusedSimpArgs false
set_option maxRecDepth 100000
set_option maxHeartbeats 16000000
namespace Go.Proofs.YtihaeoicjglieaaGreat
open Go.Sx Go.Proofs Go.Mo
theorem c3c {m:PMap} {s:Sto} {a b:Int} {r:Sx.Rec} (h:B1 m s=true):(¬a=s.age→A3 m s a b r=⟨s,2⟩)∧(a=s.age → ¬b=(s.recs.length:Int)∨b=250→A3 m s a b r=⟨s,3⟩) ∧
  (a=s.age→b=(s.recs.length:Int) → ¬b=250→H4 m r=false→A3 m s a b r=⟨s,4⟩)∧(a=s.age→b=(s.recs.length:Int) → ¬b=250→(l7 m (q9 m s) r).ok=false→A3 m s a b r=⟨s,4⟩) ∧
  (a=s.age→b=(s.recs.length:Int) → ¬b=250→H4 m r=true→(l7 m (q9 m s) r).ok=true→A3 m s a b r=⟨⟨s.age,s.base,s.recs ++ [r]⟩,1⟩):=by
 rw[a1S h]
 unfold L4
 refine⟨fun h1=>if_pos h1,fun h1 h2 => ?_,fun h1 h2 h3 h4 => ?_,fun h1 h2 h3 h4 => ?_,fun h1 h2 h3 h4 h5 => ?_⟩
 ·rw[if_neg (fun hh=>hh h1),if_pos h2]
 ·rw[if_neg (fun hh=>hh h1),if_neg (by omega),if_neg (by rw[h4];rintro⟨hh,_⟩;cases hh)]
 ·rw[if_neg (fun hh=>hh h1),if_neg (by omega),if_neg (by rw[h4];rintro⟨_,hh⟩;cases hh)]
 ·rw[if_neg (fun hh=>hh h1),if_neg (by omega),if_pos ⟨h4,h5⟩]
end Go.Proofs.YtihaeoicjglieaaGreat
