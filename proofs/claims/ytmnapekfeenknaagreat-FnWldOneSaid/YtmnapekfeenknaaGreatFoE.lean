/-
  Contracts: a record written at a store's end, by the program.
-/
import Derived.Test.YtmnapekfeenknaaGreatFy
import Derived.Test.YtmnapekfeenknaaGreatMy
import Derived.Test.YtmnapekfeenknaaGreatGnE
import Derived.Test.YtmnapekfeenknaaGreatM2
set_option linter.unusedVariables false
set_option linter.unusedSimpArgs false
set_option maxRecDepth 100000
set_option maxHeartbeats 16000000
namespace Go.Proofs.YtmnapekfeenknaaGreat
open Go.Sx Go.Proofs Go.Mo
theorem c4b {m:PMap} {s:Sto} {a b:Int} {r:Sx.Rec} (h:B2 m s=true):(¬a=s.age→A7 m s a b r=⟨s,2⟩)∧(a=s.age → ¬b=(s.recs.length:Int)∨b=250→A7 m s a b r=⟨s,3⟩) ∧
  (a=s.age→b=(s.recs.length:Int) → ¬b=250→I4 m r=false→A7 m s a b r=⟨s,4⟩)∧(a=s.age→b=(s.recs.length:Int) → ¬b=250→(m0 m (r9 m s) r).ok=false→A7 m s a b r=⟨s,4⟩) ∧
  (a=s.age→b=(s.recs.length:Int) → ¬b=250→I4 m r=true→(m0 m (r9 m s) r).ok=true→A7 m s a b r=⟨⟨s.age,s.base,s.recs ++ [r]⟩,1⟩):=by
 rw[a2p h]
 unfold M3
 refine⟨fun h1=>if_pos h1,fun h1 h2 => ?_,fun h1 h2 h3 h4 => ?_,fun h1 h2 h3 h4 => ?_,fun h1 h2 h3 h4 h5 => ?_⟩
 ·rw[if_neg (fun hh=>hh h1),if_pos h2]
 ·rw[if_neg (fun hh=>hh h1),if_neg (by omega),if_neg (by rw[h4];rintro⟨hh,_⟩;cases hh)]
 ·rw[if_neg (fun hh=>hh h1),if_neg (by omega),if_neg (by rw[h4];rintro⟨_,hh⟩;cases hh)]
 ·rw[if_neg (fun hh=>hh h1),if_neg (by omega),if_pos ⟨h4,h5⟩]
end Go.Proofs.YtmnapekfeenknaaGreat
