/-
  Small laws on byte arrays. Conditions: none.
-/
import Derived.Test.YtaphbajfjmhpnaaDoorLib
namespace Go.Proofs.YtaphbajfjmhpnaaDoor
theorem bsize_mk (l : List UInt8) : (⟨l.toArray⟩ : ByteArray).size = l.length := by simp [ByteArray.size]
theorem bsize_app (a b : ByteArray) : (a ++ b).size = a.size + b.size := ByteArray.size_append
theorem b_eq {a b : ByteArray} (h : a.data.toList = b.data.toList) : a = b := ByteArray.ext (Array.toList_inj.1 h)
theorem b_app (a b : ByteArray) : (a ++ b).data.toList = a.data.toList ++ b.data.toList := by simp
theorem b_mk (l : List UInt8) : (⟨l.toArray⟩ : ByteArray).data.toList = l := by simp
end Go.Proofs.YtaphbajfjmhpnaaDoor
