/-
  One field of one element is written over.
-/
import Derived.Test.YteknclegacbpkaaDoorPlain
namespace Sg
open Go
theorem blit_one {cs : Array Value} {o r : Nat} {vs : List Value} {v : Value} (h : o + vs.length ≤ cs.size) (hr : r < vs.length) (hv : vs[r]? = some v) (hc : ∀ q, q < vs.length → q ≠ r → cs[o + q]? = vs[q]?) : cs.setIfInBounds (o + r) v = blit cs o vs := by
  have hl : cs.toList.length = cs.size := Array.length_toList
  apply Array.toList_inj.1
  rw [Array.toList_setIfInBounds]
  show cs.toList.set (o + r) v = cs.toList.take o ++ vs ++ cs.toList.drop (o + vs.length)
  refine List.ext_getElem? fun q => ?_
  rw [List.getElem?_set]
  by_cases h1 : q < o
  · rw [if_neg (by omega), List.append_assoc, List.getElem?_append_left (by rw [List.length_take]; omega), List.getElem?_take, if_pos h1]
  · by_cases h2 : q < o + vs.length
    · have e : (cs.toList.take o ++ vs ++ cs.toList.drop (o + vs.length))[q]? = vs[q - o]? := by
        rw [List.getElem?_append_left (by rw [List.length_append, List.length_take]; omega), List.getElem?_append_right (by rw [List.length_take]; omega), List.length_take, show min o cs.toList.length = o by omega]
      rw [e]
      by_cases h3 : o + r = q
      · rw [if_pos h3, if_pos (by omega), show q - o = r by omega, hv]
      · rw [if_neg h3, Array.getElem?_toList]
        have := hc (q - o) (by omega) (by omega)
        rwa [show o + (q - o) = q by omega] at this
    · rw [if_neg (by omega), List.getElem?_append_right (by rw [List.length_append, List.length_take]; omega), List.getElem?_drop, List.length_append, List.length_take]
      congr 1; omega
end Sg
