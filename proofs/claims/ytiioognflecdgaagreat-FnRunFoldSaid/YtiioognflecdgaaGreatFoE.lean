/-
  Contracts: a record written at a store's end, by the program.
-/
import Derived.Test.YtiioognflecdgaaGreatGnE
import Derived.Test.YtiioognflecdgaaGreatM2
set_option linter.unusedVariables false
set_option linter.unusedSimpArgs false
set_option maxRecDepth 100000
set_option maxHeartbeats 16000000
namespace Go.Proofs.YtiioognflecdgaaGreat
open Go.Sx Go.Proofs Go.Mo
theorem c0w {m:PMap} {s:Sto} {a b:Int} {r:Sx.Rec} (h:A3 m s=true):(¬a=s.age→y4 m s a b r=⟨s,2⟩)∧(a=s.age → ¬b=(s.recs.length:Int)∨b=250→y4 m s a b r=⟨s,3⟩) ∧
  (a=s.age→b=(s.recs.length:Int) → ¬b=250→E9 m r=false→y4 m s a b r=⟨s,4⟩)∧(a=s.age→b=(s.recs.length:Int) → ¬b=250→(j8 m (o6 m s) r).ok=false→y4 m s a b r=⟨s,4⟩) ∧
  (a=s.age→b=(s.recs.length:Int) → ¬b=250→E9 m r=true→(j8 m (o6 m s) r).ok=true→y4 m s a b r=⟨⟨s.age,s.base,s.recs ++ [r]⟩,1⟩):=by
 rw[a0X h]
 unfold I3
 refine⟨fun h1=>if_pos h1,fun h1 h2 => ?_,fun h1 h2 h3 h4 => ?_,fun h1 h2 h3 h4 => ?_,fun h1 h2 h3 h4 h5 => ?_⟩
 ·rw[if_neg (fun hh=>hh h1),if_pos h2]
 ·rw[if_neg (fun hh=>hh h1),if_neg (by omega),if_neg (by rw[h4];rintro⟨hh,_⟩;cases hh)]
 ·rw[if_neg (fun hh=>hh h1),if_neg (by omega),if_neg (by rw[h4];rintro⟨_,hh⟩;cases hh)]
 ·rw[if_neg (fun hh=>hh h1),if_neg (by omega),if_pos ⟨h4,h5⟩]
end Go.Proofs.YtiioognflecdgaaGreat
