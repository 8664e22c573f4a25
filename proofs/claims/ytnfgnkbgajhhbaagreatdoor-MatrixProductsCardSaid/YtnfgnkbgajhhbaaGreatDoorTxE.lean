/-
 Rows of own rows: a matrix behind the first rows of a heap; operations whose place is known by an equation; regions with light operations, one at a time.
-/
import Derived.Test.YtnfgnkbgajhhbaaGreatDoorTxB
set_option linter.constructorNameAsVariable false
set_option linter.unusedSimpArgs false
set_option linter.unusedVariables false
namespace Go.Tx
open Go.Am
section
variable {P : Program} {h : Hints} {T : TypeId → TI} {hp : List SM} {tm : TM}
theorem Zeh : ∀ e : CT, ceq e e = true
 | .i k => by cases k <;> rfl
 | .b => rfl
 | .s => rfl
 | .l e => Zeh e
 | .p a b => by simp only [ceq, Zeh a, Zeh b, Bool.and_true]
def Zbj {α : Type} : Nat → List (List α) → List SV
 | _, [] => []
 | p, x :: r => .ref p 0 x.length none :: Zbj (p + 1) r
def ZbJ (ct : CT) (xs : List (List ct.D)) : List SM := xs.map fun x => .row ct x true
theorem Za9 {α : Type} : ∀ (p : Nat) (xs : List (List α)), (Zbj p xs).length = xs.length
 | _, [] => rfl
 | p, x :: r => by rw [Zbj, List.length_cons, Za9, List.length_cons]
theorem ZdJ {α : Type} : ∀ {p : Nat} {xs : List (List α)} {i : Nat} (hi : i < xs.length), (Zbj p xs)[i]? = some (.ref (i + p) 0 xs[i].length none)
 | p, x :: r, 0, _ => by rw [Nat.zero_add]; rfl
 | p, x :: r, i + 1, hi => by
  have := ZdJ (p := p + 1) (xs := r) (i := i) (Nat.lt_of_succ_lt_succ hi)
  rw [Zbj, List.getElem?_cons_succ, this]
  simp only [List.getElem_cons_succ, Option.some.injEq, SV.ref.injEq, and_true]
  omega
theorem ZaN {ct : CT} (xs : List (List ct.D)) : (ZbJ ct xs).length = xs.length := List.length_map _
theorem Ze9 {ct : CT} {xs : List (List ct.D)} {i : Nat} (hi : i < xs.length) : (ZbJ ct xs)[i]? = some (.row ct xs[i] true) := by
 rw [ZbJ, List.getElem?_map, List.getElem?_eq_getElem hi]
 rfl
theorem ZpT {A : SM} {fr ex : List SM} {ct : CT} {xs : List (List ct.D)} {i p : Nat} (hi : i < xs.length) (hq : p = fr.length + 1) : nth (A :: (fr ++ (ZbJ ct xs ++ ex))) (i + p) = some (.row ct xs[i] true) := by
 rw [Zbl, hq, show i + (fr.length + 1) = (fr.length + i) + 1 by omega, List.getElem?_cons_succ, List.getElem?_append_right (by omega), Nat.add_sub_cancel_left, List.getElem?_append_left (by rw [ZaN]; exact hi), Ze9 hi]
theorem ZqX {A : SM} {fr ex : List SM} {ct : CT} {xs : List (List ct.D)} {j n : Nat} (hn : n = fr.length + 1 + xs.length + j) : nth (A :: (fr ++ (ZbJ ct xs ++ ex))) n = ex[j]? := by
 rw [Zbl, hn, show fr.length + 1 + xs.length + j = (fr.length + (xs.length + j)) + 1 by omega, List.getElem?_cons_succ, List.getElem?_append_right (by omega), Nat.add_sub_cancel_left, List.getElem?_append_right (by rw [ZaN]; omega), ZaN, Nat.add_sub_cancel_left]
theorem ZvX {A : SM} {fr ex : List SM} {ct : CT} {xs : List (List ct.D)} {i p : Nat} {x : SM} (hi : i < xs.length) (hq : p = fr.length + 1) : (A :: (fr ++ (ZbJ ct xs ++ ex))).set (i + p) x = A :: (fr ++ ((ZbJ ct xs).set i x ++ ex)) := by
 rw [hq, show i + (fr.length + 1) = (fr.length + i) + 1 by omega, List.set_cons_succ, List.set_append_right _ _ (by omega), Nat.add_sub_cancel_left, List.set_append_left _ _ (by rw [ZaN]; exact hi)]
theorem Zxj {A : SM} {fr ex : List SM} {ct : CT} {xs : List (List ct.D)} {j n : Nat} {x : SM} (hn : n = fr.length + 1 + xs.length + j) : (A :: (fr ++ (ZbJ ct xs ++ ex))).set n x = A :: (fr ++ (ZbJ ct xs ++ ex.set j x)) := by
 rw [hn, show fr.length + 1 + xs.length + j = (fr.length + (xs.length + j)) + 1 by omega, List.set_cons_succ, List.set_append_right _ _ (by omega), Nat.add_sub_cancel_left, List.set_append_right _ _ (by rw [ZaN]; omega), ZaN, Nat.add_sub_cancel_left]
theorem Zgs {A : SM} {fr ex : List SM} {ct : CT} {xs : List (List ct.D)} : (A :: (fr ++ (ZbJ ct xs ++ ex))).length = fr.length + 1 + xs.length + ex.length := by
 rw [List.length_cons, List.length_append, List.length_append, ZaN]; omega
theorem ZmA {A : SM} {fr ex : List SM} {ct : CT} {xs : List (List ct.D)} {x : SM} : (A :: (fr ++ (ZbJ ct xs ++ ex))) ++ [x] = A :: (fr ++ (ZbJ ct xs ++ (ex ++ [x]))) := by
 rw [List.cons_append, List.append_assoc, List.append_assoc]
def Znd : TK → Bool
 | .other => true
 | _ => false
theorem Zmd {t : TypeId} {id i r : Nat} {x : SV} {cs : List SV} {k : SV → List SM → Prop} (hn : nth hp id = some (.cell cs true)) (h1 : (Zbx x && Nat.beq (Zbn x).length (T t).sz) = true) (h2 : Nat.ble (r + (T t).sz) cs.length = true) (h3 : Znd (T t).k = false) (hi : i = 0) (hk : k (.tup []) (hp.set id (.cell (spl cs r (Zbn x)) true))) : Zlm T t hp (.ptr id i r) x k := by
 simp only [Zlm, h1, hn]
 refine ⟨hi, ?_⟩
 rw [h2]
 split
 ·rename_i h4; rw [h4] at h3; cases h3
 ·exact hk
 ·rename_i h4; exact (h4 rfl).elim
theorem Zpv {t : TypeId} {id i r : Nat} {cs : List SV} {V : SV} {m : Bool} {k : SV → Prop} (hn : nth hp id = some (.cell cs m)) (h1 : Zhz (T t) cs r = some V) (hi : i = 0) (hk : k V) : ZoW T t hp (.ptr id i r) k := by
 simp only [ZoW, hn]
 exact ⟨hi, by rw [h1]; exact hk⟩
theorem Zte {ct : CT} {id i n : Nat} {m : Option Nat} {l : List ct.D} {b : Bool} {k : List ct.D → Prop} (hn : nth hp id = some (.row ct l b)) (hl : i + n ≤ l.length) (hk : k (sub l i n)) : Zss ct hp (.ref id i n m) k := by
 simp only [Zss, hn]
 rw [dif_pos (Zeh ct)]
 exact ⟨hl, hk⟩
theorem Zs2 {ct : CT} {by_ id i n : Nat} {l : List ct.D} {x : ct.D} {r : List ct.D} {k : SV → List SM → Prop} (hn : nth hp id = some (.row ct l true)) (hl : i + n ≤ l.length) (hz : (n + (r.length + 1)) * by_ ≤ 140737488355328) (hk : k (.ref hp.length 0 (n + (r.length + 1)) none) (hp.set id .dead ++ [.row ct (sub l i n ++ x :: r) true])) : Zuq ct by_ hp (.ref id i n none) (x :: r) k := by
 simp only [Zuq, hn]
 rw [dif_pos (Zeh ct)]
 exact ⟨hl, hz, hk⟩
theorem Zqh {op : Op} {t : TypeId} {id i r : Nat} {x : SV} {cs : List SV} {k : SV → List SM → Prop} {a b : Operand} (ho : op = .store t a b) (ha : evS tm a = some (.ptr id i r)) (hb : evS tm b = some x) (hn : nth hp id = some (.cell cs true)) (h1 : (Zbx x && Nat.beq (Zbn x).length (T t).sz) = true) (h2 : Nat.ble (r + (T t).sz) cs.length = true) (h3 : Znd (T t).k = false) (hi : i = 0) (hk : k (.tup []) (hp.set id (.cell (spl cs r (Zbn x)) true))) : opT P h T op tm hp k := by
 simp only [ho, opT, ha, hb]
 exact Zmd hn h1 h2 h3 hi hk
theorem Zq3 {op : Op} {t : TypeId} {id i r : Nat} {cs : List SV} {V : SV} {m : Bool} {k : SV → List SM → Prop} {a : Operand} (ho : op = .load t a) (ha : evS tm a = some (.ptr id i r)) (hn : nth hp id = some (.cell cs m)) (h1 : Zhz (T t) cs r = some V) (hi : i = 0) (hk : k V hp) : opT P h T op tm hp k := by
 simp only [ho, opT, ha]
 exact Zpv hn h1 hi hk
theorem Zrs {op : Op} {A : SM} {fr ex : List SM} {ct : CT} {by_ i j p id2 n : Nat} {m2 : Option Nat} {b : Bool} {x : ct.D} {xs : List (List ct.D)} {k : SV → List SM → Prop}
 {c : Call} {t t2 e e2 : TypeId} {ts : List TypeId} (ho : op = .call c) (hc : c.callee = .builtin .append) (ha : evL tm c.args.toList = some [.ref (i + p) 0 n none, .ref id2 0 1 m2]) (ht : c.argTypes.toList = t :: t2 :: ts) (hk1 : (T t).k = .slice e) (hk2 : (T t2).k = .slice e2) (hct : (T e).ct = some ct) (hby : (T e).by_ = by_) (hok : (Znd (T e).k, Nat.ble 1 (T e).by_ && Nat.ble 1 (T e).sz, h.frz t) = (false, true, false))
 (eh : hp = A :: (fr ++ (ZbJ ct xs ++ ex))) (hq : p = fr.length + 1) (hi : i < xs.length) (hl : n = xs[i].length) (hj : id2 = fr.length + 1 + xs.length + j) (hx : ex[j]? = some (.row ct [x] b)) (hz : (n + 1) * by_ ≤ 140737488355328)
 (hk : k (.ref (fr.length + 1 + xs.length + ex.length) 0 (n + 1) none) (A :: (fr ++ ((ZbJ ct xs).set i .dead ++ (ex ++ [.row ct (xs[i] ++ [x]) true]))))) : opT P h T op tm hp k := by
 have hg : Zss ct hp (.ref id2 0 1 m2) (fun new => Zuq ct by_ hp (.ref (i + p) 0 n none) new k) := by
  subst eh
  refine Zte ((ZqX hj).trans hx) (Nat.le_refl 1) ?_
  refine Zs2 (ZpT hi hq) (by rw [hl]; omega) hz ?_
  have e1 : sub xs[i] 0 n = xs[i] := by rw [sub, List.drop_zero, List.take_of_length_le (by omega)]
  rw [e1, ZvX hi hq, Zgs]
  have e2 : (A :: (fr ++ ((ZbJ ct xs).set i .dead ++ ex))) ++ [SM.row ct (xs[i] ++ [x]) true] = A :: (fr ++ ((ZbJ ct xs).set i .dead ++ (ex ++ [.row ct (xs[i] ++ [x]) true]))) := by
   rw [List.cons_append, List.append_assoc, List.append_assoc]
  exact e2 ▸ hk
 simp only [Prod.mk.injEq] at hok
 obtain ⟨ok1, ok2, ok3⟩ := hok
 simp only [ho, opT, ZqB, ha, hc, Zkt, ht, hk1, hk2, hct, ok2, ok3]
 subst hby
 generalize (T e).k = kk at *
 cases kk <;> first | (cases ok1; done) | exact hg
variable {F N : Nat} {ls : List Nat} {o : Oper} {l : List Oper} {i dd : Nat} {ks : List (Nat × Nat × Bool)} {kk : TM → List SM → Prop} {V : SV}
theorem ZaT {c : Cx} {id j : Nat} {js : List Nat} {ops : Array Oper} {dr : Bool} {k : Ex → TM → List SM → Prop} (hl : h.light c.fid id = j :: js) (hg : noG ops.toList = true) (hk : ZaQ P h T c.N (j :: js) ops.toList 0 [] tm hp fun tm' hp' => k .normal tm' hp') : wp P h T F c (.region id ops dr) tm hp k := by
 simp only [wp, hl, hg]
 exact hk
theorem ZpV (hk : kk tm hp) : ZaQ P h T N ls [] i ks tm hp kk := hk
theorem Zry {hp' : List SM} (e : hp = hp') (hk : ZaQ P h T N ls l i ks tm hp' kk) : ZaQ P h T N ls l i ks tm hp kk := e ▸ hk
theorem ZgE {x : Operand} (hi : has i ls = true) (ho : o.op = .move x) (hx : evS tm x = some V) (hd : o.dst = some dd) (hN : Nat.ble (dd + 1) N = true) (hk : ZaQ P h T N ls l (i + 1) ks ((dd, V) :: tm) hp kk) : ZaQ P h T N ls (o :: l) i ks tm hp kk := by
 simp only [ZaQ, hi, ho, opT, hx, Zc5, hd, hN]
 exact hk
theorem Zua {t : TypeId} {x y : Operand} {id a n : Nat} {m : Option Nat} {C : Prop} (hi : has i ls = true) (ho : o.op = .indexAddr t x y) (hx : evS tm x = some (.ref id a n m)) (he : ∀ k, opT P h T (.indexAddr t x y) tm hp k = (C ∧ k V hp)) (hc : C) (hd : o.dst = some dd) (hN : Nat.ble (dd + 1) N = true) (hk : ZaQ P h T N ls l (i + 1) ((i, id, false) :: ks) ((dd, V) :: tm) hp kk) : ZaQ P h T N ls (o :: l) i ks tm hp kk := by
 simp only [ZaQ, hi, ho, hx, he, Zc5, hd, hN]
 exact ⟨hc, hk⟩
theorem Zuw {t : TypeId} {x : Operand} {id a r : Nat} {α : Type} {C : α → Prop} {W : α → SV} {z : α} (hi : has i ls = true) (ho : o.op = .load t x) (hx : evS tm x = some (.ptr id a r)) (he : ∀ k, opT P h T (.load t x) tm hp k = ∃ z, C z ∧ k (W z) hp) (hc : C z) (hd : o.dst = some dd) (hN : Nat.ble (dd + 1) N = true) (hk : ZaQ P h T N ls l (i + 1) ((i, id, true) :: ks) ((dd, W z) :: tm) hp kk) : ZaQ P h T N ls (o :: l) i ks tm hp kk := by
 simp only [ZaQ, hi, ho, hx, he, Zc5, hd, hN]
 exact ⟨z, hc, hk⟩
theorem Zfy (hi : has i ls = false) (hw : isW h o = false) (ho : opT P h T o.op tm hp fun V hp' => Zc5 N o.dst V tm fun tm' => ZaQ P h T N ls l (i + 1) ks tm' hp' kk) : ZaQ P h T N ls (o :: l) i ks tm hp kk := by
 simp only [ZaQ, hi, Zml, hw]
 split
 ·exact ho
 ·exact ho
theorem ZwF (hi : has i ls = false) (hd : Zml h o ks = []) (ho : opT P h T o.op tm hp fun V hp' => Zc5 N o.dst V tm fun tm' => ZaQ P h T N ls l (i + 1) [] tm' hp' kk) : ZaQ P h T N ls (o :: l) i ks tm hp kk := by
 simp only [ZaQ, hi, hd]
 exact ho
theorem ZwS {y : Nat × Nat × Bool} {ks' : List (Nat × Nat × Bool)} (hi : has i ls = false) (hd : Zml h o ks = y :: ks') (hw : isW h o = true) (hl : Zjl (y :: ks') = []) (ho : opT P h T o.op tm hp fun V hp' => ZrP (Zr8 hp hp' (y :: ks')) (Zc5 N o.dst V tm fun tm' => ZaQ P h T N ls l (i + 1) (y :: ks') tm' hp' kk)) : ZaQ P h T N ls (o :: l) i ks tm hp kk := by
 simp only [ZaQ, hi, hd, hw, hl]
 exact ho
theorem Zqe {b : Bool} {p : Prop} (hb : b = true) (hp : p) : ZrP b p := by rw [hb]; exact hp
theorem Zjt {c : TM → Prop} {dst : Option Tmp} (ho : dst = some dd) (hN : Nat.ble (dd + 1) N = true) (hk : c ((dd, V) :: tm)) : Zc5 N dst V tm c := by
 simp only [Zc5, ho, hN]
 exact hk
theorem Zjx {c : TM → Prop} {dst : Option Tmp} (ho : dst = none) (hk : c tm) : Zc5 N dst V tm c := by
 simp only [Zc5, ho]
 exact hk
variable {op : Op} {dst : Option Tmp} {c : TM → List SM → Prop}
theorem opv (he : ∀ k, opT P h T op tm hp k = k V hp) (ho : dst = some dd) (hN : Nat.ble (dd + 1) N = true) (hk : c ((dd, V) :: tm) hp) : opT P h T op tm hp fun V hp' => Zc5 N dst V tm fun tm' => c tm' hp' := by
 rw [he]
 simp only [Zc5, ho, hN]
 exact hk
theorem opm {hp' : List SM} (he : ∀ k, opT P h T op tm hp k = k V hp') (ho : dst = some dd) (hN : Nat.ble (dd + 1) N = true) (hk : c ((dd, V) :: tm) hp') : opT P h T op tm hp fun V hp' => Zc5 N dst V tm fun tm' => c tm' hp' := by
 rw [he]
 simp only [Zc5, ho, hN]
 exact hk
theorem opc {C : Prop} (he : ∀ k, opT P h T op tm hp k = (C ∧ k V hp)) (hc : C) (ho : dst = some dd) (hN : Nat.ble (dd + 1) N = true) (hk : c ((dd, V) :: tm) hp) : opT P h T op tm hp fun V hp' => Zc5 N dst V tm fun tm' => c tm' hp' := by
 rw [he]
 simp only [Zc5, ho, hN]
 exact ⟨hc, hk⟩
theorem Zwj {ds : List (Option Tmp)} {hp' : List SM} (e : hp = hp') (hk : wpOps P h T N ds l tm hp' kk) : wpOps P h T N ds l tm hp kk := e ▸ hk
def ZjY (p : Nat) : List Nat → Bool
 | [] => true
 | i :: r => Nat.ble (i + 1) p && ZjY p r
theorem Zhl {p id : Nat} : ∀ {l : List Nat}, ZjY p l = true → id ∈ l → id < p
 | i :: r, h, hm => by
  simp only [ZjY, Bool.and_eq_true] at h
  rcases List.mem_cons.1 hm with rfl | hm
  ·exact Nat.le_of_ble_eq_true h.1
  ·exact Zhl h.2 hm
def Zvu (p : Nat) (tm : TM) : TM → Prop
 | [] => True
 | (i, V') :: r => ZcX i tm = some V' ∧ ZjY p (ZdL V') = true ∧ Zvu p tm r
mutual
theorem ZuH {f : Nat → Nat} {p : Nat} (hf : ∀ j, j < p → f j = j) : ∀ V : SV, (∀ id ∈ ZdL V, id < p) → rnV f V = V
 | .ref id i n m, hb => by rw [rnV, hf id (hb id (by simp [ZdL]))]
 | .ptr id i r, hb => by rw [rnV, hf id (hb id (by simp [ZdL]))]
 | .func g a c, hb => by
  simp only [ZdL, List.mem_append] at hb
  rw [rnV, rnL_id hf a (fun id hi => hb id (.inl hi)), rnL_id hf c (fun id hi => hb id (.inr hi))]
 | .agg cs, hb => by rw [rnV, rnL_id hf cs (by simpa only [ZdL] using hb)]
 | .tup cs, hb => by rw [rnV, rnL_id hf cs (by simpa only [ZdL] using hb)]
 | .v _ _, _ | .nilp, _ | .nils, _ | .nilf, _ | .nili, _ | .box _ _ _, _ => rfl
theorem rnL_id {f : Nat → Nat} {p : Nat} (hf : ∀ j, j < p → f j = j) : ∀ l : List SV, (∀ id ∈ rchL l, id < p) → rnL f l = l
 | [], _ => rfl
 | V :: r, hb => by
  simp only [rchL, List.mem_append] at hb
  rw [rnL, ZuH hf V (fun id hi => hb id (.inl hi)), rnL_id hf r (fun id hi => hb id (.inr hi))]
end
theorem Zup {f : Nat → Nat} {p : Nat} (hf : ∀ j, j < p → f j = j) (m : SM) (hb : ∀ id ∈ Zso m, id < p) : rnM f m = m := by
 cases m with
 | row t l b => rfl
 | cell cs b => rw [rnM, rnL_id hf cs (by simpa only [Zso] using hb)]
 | many ct els b => rw [rnM, rnL_id hf els (by simpa only [Zso] using hb)]
 | dead => rfl
theorem ZhA {f : Nat → Nat} {p n : Nat} (hf : ∀ j, j < p → f j = j) (hn : p ≤ n) {tm : TM} : ∀ {tm' : TM}, Zvu p tm tm' → ZwU f n tm tm'
 | [], _ => trivial
 | (i, V') :: r, ⟨h1, h2, h3⟩ => ⟨by rw [ZuH hf V' fun id hi => Zhl h2 hi]; exact h1, fun id hi => Nat.lt_of_lt_of_le (Zhl h2 hi) hn, ZhA hf hn h3⟩
theorem Zp1 (f : Nat → Nat) : ∀ l : List SV, rnL f l = l.map (rnV f)
 | [] => rfl
 | v :: r => by rw [rnL, Zp1 f r]; rfl
theorem Zlb {α : Type} {id : Nat} : ∀ {p : Nat} {xs : List (List α)}, id ∈ rchL (Zbj p xs) → id < p + xs.length
 | p, x :: r, hm => by
  simp only [Zbj, rchL, ZdL, List.mem_append, List.mem_singleton] at hm
  rw [List.length_cons]
  rcases hm with rfl | hm
  ·omega
  ·have := Zlb (p := p + 1) (xs := r) hm
   omega
theorem Zt2 {α : Type} {f : Nat → Nat} {p i L : Nat} {xs : List (List α)} {y : List α} (hfi : f (i + p) = L) (hf : ∀ j, j ≠ i → j < xs.length → f (j + p) = j + p) : rnL f (Zbj p (xs.set i y)) = (Zbj p xs).set i (.ref L 0 y.length none) := by
 rw [Zp1]
 apply List.ext_getElem?
 intro j
 rw [List.getElem?_map]
 by_cases hj : j < xs.length
 ·rw [ZdJ (by rw [List.length_set]; exact hj)]
  show some (SV.ref (f (j + p)) 0 _ none) = _
  by_cases hji : j = i
  ·subst hji
   rw [List.getElem?_set_self (by rw [Za9]; exact hj), hfi, List.getElem_set_self]
  ·rw [List.getElem?_set_ne (fun e => hji e.symm), ZdJ hj, hf j hji hj]
   have e : (xs.set i y)[j]'(by rw [List.length_set]; exact hj) = xs[j] := by rw [List.getElem_set_ne (fun e => hji e.symm)]
   rw [e]
 ·rw [List.getElem?_eq_none (by rw [Za9, List.length_set]; omega), List.getElem?_eq_none (by rw [List.length_set, Za9]; omega)]
  rfl
theorem Zvf {F : Nat} {tm tm' : TM} {ct : CT} {fr ex : List SM} {xs : List (List ct.D)} {i e L p : Nat} {y : List ct.D} {d : SM} (hq : p = fr.length + 1) (hi : i < xs.length) (hL : L = fr.length + 1 + xs.length + e) (hx : ex[e]? = some (.row ct y true)) (hF : F ≤ p) (hfr : ∀ m ∈ fr, ∀ id ∈ Zso m, id < p) (htm : Zvu p tm tm') :
 Ent F tm (.many (.l ct) ((Zbj p xs).set i (.ref L 0 y.length none)) true :: (fr ++ ((ZbJ ct xs).set i d ++ ex))) tm' (.many (.l ct) (Zbj p (xs.set i y)) true :: (fr ++ (ZbJ ct (xs.set i y) ++ []))) := by
 have hee : e < ex.length := (List.getElem?_eq_some_iff.1 hx).1
 have hlen : (SM.many (.l ct) (Zbj p (xs.set i y)) true :: (fr ++ (ZbJ ct (xs.set i y) ++ []))).length = fr.length + 1 + xs.length := by
  rw [Zgs, List.length_set]; rfl
 have hlen0 : (SM.many (.l ct) ((Zbj p xs).set i (.ref L 0 y.length none)) true :: (fr ++ ((ZbJ ct xs).set i d ++ ex))).length = fr.length + 1 + xs.length + ex.length := by
  rw [List.length_cons, List.length_append, List.length_append, List.length_set, ZaN]; omega
 let f : Nat → Nat := fun j => if j = i + p then L else j
 have fi : f (i + p) = L := if_pos rfl
 have fn : ∀ j, j ≠ i + p → f j = j := fun j hj => if_neg hj
 have flt : ∀ j, j < p → f j = j := fun j hj => fn j (by omega)
 refine Zmw f ?_ ?_ ?_ ?_ ?_ ?_
 ·rw [hlen]; omega
 ·intro j hj; exact flt j (by omega)
 ·intro j hj
  rw [hlen] at hj
  rw [hlen0]
  by_cases h : j = i + p
  ·rw [h, fi]; omega
  ·rw [fn j h]; omega
 ·intro a b ha hb hab
  rw [hlen] at ha hb
  by_cases h1 : a = i + p
  ·by_cases h2 : b = i + p
   ·omega
   ·rw [h1, fi, fn b h2] at hab; omega
  ·by_cases h2 : b = i + p
   ·rw [h2, fi, fn a h1] at hab; omega
   ·rw [fn a h1, fn b h2] at hab; exact hab
 ·exact ZhA flt (by rw [hlen]; omega) htm
 ·intro j m hm
  right
  cases j with
  | zero =>
   have hm : some (SM.many (.l ct) (Zbj p (xs.set i y)) true) = some m := hm
   cases hm
   refine ⟨?_, fun id hid => ?_⟩
   ·rw [flt 0 (by omega)]
    show some (SM.many (.l ct) ((Zbj p xs).set i (.ref L 0 y.length none)) true) = some (SM.many (.l ct) (rnL f (Zbj p (xs.set i y))) true)
    rw [Zt2 fi fun j hj hjl => fn (j + p) (by omega)]
   ·have := Zlb (by simpa only [Zso] using hid)
    rw [List.length_set] at this
    rw [hlen]; omega
  | succ j =>
   rw [List.getElem?_cons_succ] at hm
   by_cases hj : j < fr.length
   ·rw [List.getElem?_append_left hj] at hm
    have hb := hfr m (List.mem_of_getElem? hm)
    refine ⟨?_, fun id hid => by have := hb id hid; rw [hlen]; omega⟩
    rw [flt (j + 1) (by omega), Zup flt m hb, List.getElem?_cons_succ, List.getElem?_append_left hj]
    exact hm
   ·rw [List.getElem?_append_right (by omega), List.append_nil] at hm
    have hjl : j - fr.length < xs.length := by
     have := (List.getElem?_eq_some_iff.1 hm).1
     rw [ZaN, List.length_set] at this
     exact this
    rw [Ze9 (by rw [List.length_set]; exact hjl)] at hm
    cases hm
    refine ⟨?_, fun id hid => by simp [Zso] at hid⟩
    by_cases hji : j - fr.length = i
    ·rw [show j + 1 = i + p by omega, fi, hL, show fr.length + 1 + xs.length + e = (fr.length + (xs.length + e)) + 1 by omega, List.getElem?_cons_succ, List.getElem?_append_right (by omega), Nat.add_sub_cancel_left, List.getElem?_append_right (by rw [List.length_set, ZaN]; omega), List.length_set, ZaN, Nat.add_sub_cancel_left, hx]
     simp only [hji, List.getElem_set_self]
     rfl
    ·rw [fn (j + 1) (by omega), List.getElem?_cons_succ, List.getElem?_append_right (by omega), List.getElem?_append_left (by rw [List.length_set, ZaN]; exact hjl), List.getElem?_set_ne (fun e => hji e.symm), Ze9 hjl]
     simp only [List.getElem_set_ne (fun e => hji e.symm)]
     rfl
theorem opy {α : Type} {A : Prop} {C : α → Prop} {W : α → SV} {x : α} (he : ∀ k, opT P h T op tm hp k = ∃ x, A ∧ C x ∧ k (W x) hp) (ha : A) (hc : C x) (ho : dst = some dd) (hN : Nat.ble (dd + 1) N = true) (hk : c ((dd, W x) :: tm) hp) : opT P h T op tm hp fun V hp' => Zc5 N dst V tm fun tm' => c tm' hp' := by
 rw [he]
 simp only [Zc5, ho, hN]
 exact ⟨x, ha, hc, hk⟩
theorem Zn7 {F : Nat} {tm tm' : TM} {ct : CT} {fr : List SM} {n p : Nat} (hq : p = fr.length + 1) (hF : F ≤ p) (htm : Zvu p tm tm') : Ent F tm (.many (.l ct) (List.replicate n .nils) true :: fr) tm' (.many (.l ct) (Zbj p (List.replicate n ([] : List ct.D))) true :: (fr ++ (ZbJ ct (List.replicate n []) ++ []))) := by
 refine ⟨fun φ st _ hs => ?_⟩
 have hlen : φ.length = p := by rw [hs.hp.len, List.length_cons, hq]
 let ψ : Ph := φ ++ List.replicate n none
 have hle : Le φ ψ := Le.app _ _
 have hψ : ∀ j, j < n → ψ[j + p]? = some none := fun j hj => by
  show (φ ++ List.replicate n none)[j + p]? = _
  rw [List.getElem?_append_right (by omega), hlen, Nat.add_sub_cancel, List.getElem?_replicate, if_pos hj]
 have hlt : ∀ id, id < p → ψ[id]? = φ[id]? := fun id hid => by
  show (φ ++ List.replicate n none)[id]? = _
  rw [List.getElem?_append_left (by omega)]
 have hl' : (SM.many (.l ct) (Zbj p (List.replicate n ([] : List ct.D))) true :: (fr ++ (ZbJ ct (List.replicate n []) ++ []))).length = p + n := by
  rw [Zgs, List.length_replicate, hq]; rfl
 have sub_get : ∀ {tm' : TM} {i : Nat} {V : SV}, Zvu p tm tm' → ZcX i tm' = some V → ZcX i tm = some V := by
  intro tm'
  induction tm' with
  | nil => intro i V _ h; cases h
  | cons a r ih =>
   obtain ⟨j, W⟩ := a
   rintro i V ⟨h1, _, h3⟩ h
   simp only [ZcX] at h
   cases hb : Nat.beq i j with
   | true => rw [hb] at h; cases h; rw [Nat.eq_of_beq_eq_true hb]; exact h1
   | false => rw [hb] at h; exact ih h3 h
 refine ⟨ψ, fun id hid => hlt id (by omega), ?_, ⟨by rw [hl']; show (φ ++ List.replicate n none).length = _; rw [List.length_append, List.length_replicate, hlen], ?_, ?_⟩⟩
 ·intro i V hi
  obtain ⟨q, h1, h2⟩ := hs.tm i V (sub_get htm hi)
  exact ⟨q, h1, RV.mono hle V q h2⟩
 ·intro id sm o hsm ho
  cases id with
  | zero =>
   have hsm : some (SM.many (.l ct) (Zbj p (List.replicate n ([] : List ct.D))) true) = some sm := hsm
   cases hsm
   rw [hlt 0 (by omega)] at ho
   have hm := hs.hp.row 0 _ o rfl ho
   cases o with
   | none =>
    simp only [RM] at hm ⊢
    cases n with
    | zero => rfl
    | succ n => cases hm
   | some a =>
    simp only [RM] at hm ⊢
    obtain ⟨es, m', g1, g2, g3⟩ := hm
    refine ⟨es, m', g1, ?_, g3⟩
    have gen : ∀ (k j : Nat) (es : List (List PV)), j + k ≤ n → All2 (fun V c => ∃ q, c = [q] ∧ RV φ V q) (List.replicate k SV.nils) es → All2 (fun V c => ∃ q, c = [q] ∧ RV ψ V q) (Zbj (p + j) (List.replicate k ([] : List ct.D))) es := by
     intro k
     induction k with
     | zero =>
      intro j es _ h
      cases es with
      | nil => exact trivial
      | cons _ _ => exact h.elim
     | succ k ih =>
      intro j es hjk h
      cases es with
      | nil => exact h.elim
      | cons c es =>
       obtain ⟨⟨q, e1, e2⟩, h2⟩ := h
       refine ⟨⟨q, e1, ?_⟩, ?_⟩
       ·simp only [RV] at e2 ⊢
        right
        refine ⟨?_, e2, trivial, rfl, rfl⟩
        rw [Nat.add_comm]
        exact hψ j (by omega)
       ·have := ih (j + 1) es (by omega) h2
        rw [← Nat.add_assoc] at this
        exact this
    have := gen n 0 es (by omega) g2
    rwa [Nat.add_zero] at this
  | succ id =>
   rw [List.getElem?_cons_succ] at hsm
   by_cases hid : id < fr.length
   ·rw [List.getElem?_append_left hid] at hsm
    rw [hlt (id + 1) (by omega)] at ho
    exact RM.mono hle (fun _ _ _ => rfl) (hs.hp.row (id + 1) sm o (by rw [List.getElem?_cons_succ]; exact hsm) ho)
   ·rw [List.getElem?_append_right (by omega), List.append_nil] at hsm
    have hb := (List.getElem?_eq_some_iff.1 hsm).1
    rw [ZaN, List.length_replicate] at hb
    rw [Ze9 (by rw [List.length_replicate]; exact hb), List.getElem_replicate] at hsm
    cases hsm
    rw [show id + 1 = (id - fr.length) + p by omega, hψ _ hb] at ho
    cases ho
    rfl
 ·intro id id' sm sm' a hne h1 h2 h3 h4 h5 h6
  have hb : ∀ {j : Nat} {sm : SM}, ψ[j]? = some (some a) → j < p := fun {j} {sm} hj => by
   by_cases h : j < p
   ·exact h
   ·exfalso
    have hj2 : (φ ++ List.replicate n none)[j]? = some (some a) := hj
    rw [List.getElem?_append_right (by omega), List.getElem?_replicate] at hj2
    split at hj2 <;> cases hj2
  have b1 := hb (sm := sm) h5
  have b2 := hb (sm := sm') h6
  rw [hlt _ b1] at h5
  rw [hlt _ b2] at h6
  have old : ∀ {j : Nat} {m : SM}, j < p → live m = true → (SM.many (.l ct) (Zbj p (List.replicate n ([] : List ct.D))) true :: (fr ++ (ZbJ ct (List.replicate n []) ++ [])))[j]? = some m → ∃ m', (SM.many (.l ct) (List.replicate n SV.nils) true :: fr)[j]? = some m' ∧ live m' = true := by
   intro j m hj hl hm
   cases j with
   | zero => exact ⟨_, rfl, rfl⟩
   | succ j =>
    rw [List.getElem?_cons_succ, List.getElem?_append_left (by omega)] at hm
    exact ⟨m, by rw [List.getElem?_cons_succ]; exact hm, hl⟩
  obtain ⟨m1, g1, g2⟩ := old b1 h3 h1
  obtain ⟨m2, g3, g4⟩ := old b2 h4 h2
  exact hs.hp.inj _ _ _ _ a hne g1 g3 g2 g4 h5 h6
theorem ZjE {ct : CT} : ∀ ys : List (List ct.D), ZvR (.l ct) (ys.map fun x => SV.v (.l ct) x) = some ys
 | [] => rfl
 | x :: r => by
  have e : Zci (.l ct) [.v (.l ct) x] = some x := by
   show (if h : ceq ct ct = true then some (Zg2 ct ct h x) else none) = some x
   rw [dif_pos (Zeh ct)]
   rfl
  rw [List.map_cons, ZvR, e, ZjE r]
theorem ZhN {ct : CT} {m : Nat} : ∀ {ys : List (List ct.D)} {q : Nat} {k : List SV → Prop}, (∀ j (hj : j < ys.length), nth hp (j + q) = some (.row ct ys[j] true)) → k (ys.map fun x => SV.v (.l ct) x) → ZfF (ZgW hp (m + 2)) (Zbj q ys) k
 | [], _, _, _, hk => hk
 | x :: r, q, k, hr, hk => by
  have h0 := hr 0 (Nat.succ_pos _)
  rw [Nat.zero_add] at h0
  have h0 : nth hp q = some (.row ct x true) := h0
  simp only [Zbj, ZfF, ZgW, h0]
  refine ⟨by omega, ?_⟩
  rw [show sub x 0 x.length = x by rw [sub, List.drop_zero, List.take_of_length_le (Nat.le_refl _)]]
  refine ZhN (ys := r) (q := q + 1) (fun j hj => ?_) hk
  have := hr (j + 1) (Nat.succ_lt_succ hj)
  rw [show j + (q + 1) = j + 1 + q by omega]
  exact this
theorem Znc {ct : CT} {fr ex : List SM} {xs : List (List ct.D)} {p n m : Nat} {b : Bool} {o : Option Nat} {k : SV → Prop} (hq : p = fr.length + 1) (hn : n = xs.length) (hk : k (.v (.l (.l ct)) xs)) : ZgW (.many (.l ct) (Zbj p xs) b :: (fr ++ (ZbJ ct xs ++ ex))) (m + 3) (.ref 0 0 n o) k := by
 simp only [ZgW, nth]
 refine ⟨by rw [Za9]; omega, ?_⟩
 rw [show sub (Zbj p xs) 0 n = Zbj p xs by rw [sub, List.drop_zero, List.take_of_length_le (by rw [Za9]; omega)]]
 refine ZhN (fun j hj => ZpT hj hq) ?_
 rw [ZjE]
 exact hk
theorem Zsy {f : FuncId} {V : SV} {k : SV → List SM → Prop} (ho : h.opn f = false) (hi : h.imp f = false) (hm : h.mem f = true) (he : ZgW hp 40 V fun v => PureOK P h f [v] fun W => k W (frzT hp (Zpc hp [V]))) : Zel P h f [V] hp k := by
 simp only [Zel, ho, hi, hm, Zx1, ZfF]
 exact he
theorem Zox {F : Nat} {tm tm' : TM} {ct : CT} {fr ex : List SM} {xs : List (List ct.D)} {i i' n' e L p : Nat} {y : List ct.D} {d : SM} (hi' : i' = i) (hn' : n' = y.length) (hq : p = fr.length + 1) (hi : i < xs.length) (hL : L = fr.length + 1 + xs.length + e) (hx : ex[e]? = some (.row ct y true)) (hF : F ≤ p) (hfr : ∀ m ∈ fr, ∀ id ∈ Zso m, id < p) (htm : Zvu p tm tm') :
 Ent F tm (.many (.l ct) ((Zbj p xs).set i' (.ref L 0 n' none)) true :: (fr ++ ((ZbJ ct xs).set i d ++ ex))) tm' (.many (.l ct) (Zbj p (xs.set i y)) true :: (fr ++ (ZbJ ct (xs.set i y) ++ []))) := by
 subst hi' hn'
 exact Zvf hq hi hL hx hF hfr htm
def ZxR (tm : TM) : TM → Prop
 | [] => True
 | (i, V') :: r => ZcX i tm = some V' ∧ ZxR tm r
theorem Zog {tm : TM} : ∀ {tm' : TM} {i : Nat} {V : SV}, ZxR tm tm' → ZcX i tm' = some V → ZcX i tm = some V
 | [], _, _, _, h => by cases h
 | (j, W) :: r, i, V, hs, h => by
  simp only [ZcX] at h
  cases hb : Nat.beq i j with
  | true => rw [hb] at h; cases h; rw [Nat.eq_of_beq_eq_true hb]; exact hs.1
  | false => rw [hb] at h; exact Zog hs.2 h
theorem Zbw {F : Nat} {tm tm' : TM} (htm : ZxR tm tm') : Ent F tm hp tm' hp :=
 ⟨fun φ st _ hs => ⟨φ, Fr.refl F φ, fun i V hi => hs.tm i V (Zog htm hi), hs.hp⟩⟩
theorem Ent.trans {F : Nat} {tm tm1 tm2 : TM} {hp hp1 hp2 : List SM} (h1 : Ent F tm hp tm1 hp1) (h2 : Ent F tm1 hp1 tm2 hp2) : Ent F tm hp tm2 hp2 := by
 refine ⟨fun φ st hF hs => ?_⟩
 obtain ⟨φ1, g1, g2⟩ := h1.out φ st hF hs
 obtain ⟨φ2, g3, g4⟩ := h2.out φ1 st (by
  cases F with
  | zero => exact Nat.zero_le _
  | succ n =>
   have e := g1 n (Nat.lt_succ_self n)
   rw [List.getElem?_eq_getElem (show n < φ.length from hF)] at e
   exact (List.getElem?_eq_some_iff.1 e).1) g2
 exact ⟨φ2, g1.trans g3, g4⟩
theorem ZoU {n : Nat} : rchL (List.replicate n SV.nils) = [] := by
 induction n with
 | zero => rfl
 | succ n ih => rw [List.replicate_succ, rchL, ih]; rfl
theorem ZtW {tm tm' : TM} {d : SM} {hp0 : List SM} (htm : ZwU (fun j => j + 1) hp0.length tm tm') (hrow : ∀ m ∈ hp0, Zso m = []) : Ent 0 tm (d :: hp0) tm' hp0 := by
 refine Zmw (fun j => j + 1) (Nat.zero_le _) (fun j hj => absurd hj (Nat.not_lt_zero j)) (fun j hj => Nat.succ_lt_succ hj) (fun i j _ _ h => Nat.succ.inj h) htm fun j m hm => ?_
 have hr := hrow m (List.mem_of_getElem? hm)
 refine .inr ⟨?_, fun id hid => by rw [hr] at hid; exact absurd hid List.not_mem_nil⟩
 rw [Zup (p := 0) (fun j hj => absurd hj (Nat.not_lt_zero j)) m (fun id hid => by rw [hr] at hid; exact absurd hid List.not_mem_nil), List.getElem?_cons_succ]
 exact hm
theorem Zi4 {c : Call} {f : FuncId} {V : SV} {k : SV → List SM → Prop} (ho : op = .call c) (hc : c.callee = .value (.func f)) (ha : evL tm c.args.toList = some [V]) (h1 : h.opn f = false) (h2 : h.imp f = false) (h3 : h.mem f = true) (he : ZgW hp 40 V fun v => PureOK P h f [v] fun W => k W (frzT hp (Zpc hp [V]))) : opT P h T op tm hp k := by
 subst ho
 simp only [opT, ZqB, ha, hc]
 exact Zsy h1 h2 h3 he
theorem Za7 {tm tm' : TM} (htm : Zvu 0 tm tm') : Ent 0 tm hp tm' [] := by
 refine Zmw id (Nat.le_refl 0) (fun _ _ => rfl) (fun j hj => absurd hj (Nat.not_lt_zero j)) (fun i j hi => absurd hi (Nat.not_lt_zero i)) (ZhA (fun _ _ => rfl) (Nat.le_refl 0) htm) fun j m hm => ?_
 simp at hm
structure CodeOK (P : Program) (h : Hints) (F : Nat) (c : Cx) (b : Code) (tm : TM) (hp : List SM) (k : Ex → TM → List SM → Prop) : Prop where
 out : ∀ φ st, F ≤ φ.length → SRep φ tm hp st → ∃ e st' φ' tm' hp', exS P h (lim P h) c b st = some (e, st') ∧ Fr F φ φ' ∧ SRep φ' tm' hp' st' ∧ k e tm' hp'
theorem ZaR (hT : TysOK P T) {c : Cx} {b : Code} {k : Ex → TM → List SM → Prop} (hw : wp P h T F c b tm hp k) : CodeOK P h F c b tm hp k := ⟨fun φ st hF hs => Zkx hT c b tm hp k φ st hw hF hs⟩
theorem ZaF {c : Cx} {a b : Code} {k : Ex → TM → List SM → Prop} (hw : CodeOK P h F c a tm hp (Zxr k fun tm' hp' => CodeOK P h F c b tm' hp' k)) : CodeOK P h F c (.seq a b) tm hp k := by
 refine ⟨fun φ st hF hs => ?_⟩
 obtain ⟨e, st1, φ1, tm1, hp1, h1, h2, h3, h4⟩ := hw.out φ st hF hs
 cases e with
 | normal =>
  obtain ⟨e, st', φ', tm', hp', g1, g2, g3, g4⟩ := CodeOK.out h4 φ1 st1 (h2.len hF) h3
  exact ⟨e, st', φ', tm', hp', by simp only [exS, h1, Option.bind_some, ZeB, g1], h2.trans g2, g3, g4⟩
 | exit j => exact ⟨_, st1, φ1, tm1, hp1, by simp only [exS, h1, Option.bind_some, ZeB], h2, h3, h4⟩
 | ret => exact ⟨_, st1, φ1, tm1, hp1, by simp only [exS, h1, Option.bind_some, ZeB], h2, h3, h4⟩
theorem CodeOK.ent {c : Cx} {b : Code} {k : Ex → TM → List SM → Prop} {tm' : TM} {hp' : List SM} (hl : CodeOK P h F c b tm' hp' k) (he : Ent F tm hp tm' hp') : CodeOK P h F c b tm hp k :=
 ⟨fun φ st hF hs => by
  obtain ⟨φ1, h1, h2⟩ := he.out φ st hF hs
  obtain ⟨e, st', φ', tm', hp', f1, f2, f3, f4⟩ := hl.out φ1 st (h1.len hF) h2
  exact ⟨e, st', φ', tm', hp', f1, h1.trans f2, f3, f4⟩⟩
theorem Zpd (hT : TysOK P T) {f : FuncId} {fn : Func} {code : Code} {Vs : List SV} {Q : SV → Prop} (hok : h.ok f = true) (hp : h.prim f = none) (hf : P.funcs[f]? = some fn) (hb : fn.body = some code) (hn : Vs.length ≤ fn.ntmps)
 (hw : CodeOK P h 0 ⟨f, 0, fn.ntmps⟩ code (Zcn 0 Vs) [] (ZuS T fn.results.toList fun V hp => ZgW hp 40 V Q)) : PureOK P h f Vs Q := by
 refine ⟨fun qs hr => ?_⟩
 obtain ⟨e, st', φ', tm', hp', h1, h2, h3, h4⟩ := hw.out [] ⟨Za4 0 qs, []⟩ (Nat.zero_le _) ⟨Zhd hr, RH.empty⟩
 obtain ⟨v, V, h5, h6, h7⟩ := ZrF hT h3 h4
 have hrn : (lim P h).rn f qs [] = some (v, st'.hp) := by
  refine Zt9 hok hf hb (by rw [← hr.len]; exact hn) ?_
  show (exS P h (lim P h) ⟨f, 0, fn.ntmps⟩ code ⟨Za4 0 qs, []⟩).bind _ = _
  rw [h1, Option.bind_some]
  exact h5
 obtain ⟨q', V', g1, g2, g3, _⟩ := Zkf h3.hp 40 V v Q h7 h6
 refine ⟨q', V', ?_, g2, g3⟩
 simp only [Zbk, hp, hrn, Option.bind_some]
 exact g1
def Zis : Nat → Code → Code
 | 0, c => c
 | n + 1, .seq _ b => Zis n b
 | _, c => c
end
end Go.Tx
