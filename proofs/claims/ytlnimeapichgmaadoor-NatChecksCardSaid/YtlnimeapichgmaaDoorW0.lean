/-
  Numbers in 32-bit words: what a list of words is worth.
-/
set_option linter.constructorNameAsVariable false
namespace Dv
def Wd (l : List Int) : Prop := ∀ x ∈ l, 0 ≤ x ∧ x < 4294967296
def wv : List Int → Int
  | [] => 0
  | x :: r => x + 4294967296 * wv r
theorem wv_app : ∀ (l m : List Int), wv (l ++ m) = wv l + 4294967296 ^ l.length * wv m
  | [], m => by simp [wv]
  | x :: l, m => by
    simp only [List.cons_append, wv, wv_app l m, List.length_cons, Int.pow_succ]
    rw [Int.mul_add, ← Int.mul_assoc, Int.mul_comm _ 4294967296, Int.add_assoc]
theorem wv_take {l : List Int} {i : Nat} (h : i < l.length) : wv (l.take (i + 1)) = wv (l.take i) + 4294967296 ^ i * l[i] := by
  rw [List.take_succ_eq_append_getElem h, wv_app]
  simp [wv, Nat.min_eq_left (Nat.le_of_lt h)]
theorem wv_bound : ∀ {l : List Int}, Wd l → 0 ≤ wv l ∧ wv l < 4294967296 ^ l.length
  | [], _ => by simp [wv]
  | x :: l, h => by
    have h1 := h x List.mem_cons_self
    have h2 := wv_bound (l := l) fun y hy => h y (List.mem_cons_of_mem _ hy)
    rw [wv, List.length_cons, Int.pow_succ]
    generalize (4294967296 : Int) ^ l.length = p at h2 ⊢
    omega
/-- No zero at the end. -/
def Nz (l : List Int) : Prop := ∀ h : l ≠ [], l.getLast h ≠ 0
theorem ipow_le {m n b : Nat} (hb : 0 < b) (h : m ≤ n) : (b : Int) ^ m ≤ (b : Int) ^ n := by
  have := Nat.pow_le_pow_right hb h
  rw [← Int.natCast_pow, ← Int.natCast_pow]
  exact Int.ofNat_le.2 this
theorem nz_pos : ∀ {l : List Int}, Wd l → Nz l → l ≠ [] → 0 < wv l
  | [], _, _, h => absurd rfl h
  | [x], hw, hn, _ => by
    have h1 := hw x (by simp)
    have h2 : x ≠ 0 := hn (by simp)
    simp only [wv]; omega
  | x :: y :: l, hw, hn, _ => by
    have h1 := hw x (by simp)
    have h2 : 0 < wv (y :: l) := nz_pos (fun z hz => hw z (List.mem_cons_of_mem _ hz)) (fun h => by
      have := hn (by simp)
      rwa [List.getLast_cons (by simp)] at this) (by simp)
    show 0 < x + 4294967296 * wv (y :: l)
    omega
end Dv
