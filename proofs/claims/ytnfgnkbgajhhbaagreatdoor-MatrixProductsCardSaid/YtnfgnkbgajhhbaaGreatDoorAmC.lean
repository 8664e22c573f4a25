/-
 The evaluator of the model's code on plain values, with its soundness and its walking rules (part 3).
-/
import Derived.Test.YtnfgnkbgajhhbaaGreatDoorAmB
import Derived.IntWalk
set_option linter.constructorNameAsVariable false
set_option linter.unusedSimpArgs false
set_option linter.unusedVariables false
set_option linter.unusedSectionVars false
/-
 One rule for each operation.
-/
namespace Go.Am
section
variable {P : Program} {h : Hints} {E : Ev} {H : List Mem} {ρ : Operand → Option PV} {N : Nat} {ds : List (Option Tmp)}
noncomputable def ZpL (P : Program) (h : Hints) (E : Ev) (N : Nat) (ds : List (Option Tmp)) (dst : Option Tmp) (l : List Oper) (tm : List (Nat × PV)) (r : ZkB) : Option St :=
 r.bind fun x => (Zer N dst x.1 tm).bind fun tm' => Zc9 P h E N ds l ⟨tm', x.2⟩
noncomputable def Zxs (P : Program) (h : Hints) (E : Ev) (N : Nat) (ds : List (Option Tmp)) (dst : Option Tmp) (op : Op) (l : List Oper) (tm : List (Nat × PV)) (H : List Mem) (g : Option Bool) : Option St :=
 g.bind fun b => bif b then ZpL P h E N ds dst l tm (opE P h E H (ev tm) op) else ZpL P h E N ds dst l tm (some (.tup [], H))
theorem Zxd (dst : Option Tmp) (op : Op) (ty : TypeId) (pos : String) (after : Array Edge) (l : List Oper) (tm : List (Nat × PV)) :
 Zc9 P h E N ds (⟨dst, op, ty, pos, after, none⟩ :: l) ⟨tm, H⟩ = ZpL P h E N ds dst l tm (opE P h E H (ev tm) op) := by
 simp only [Zc9, ZpL]
 congr 1
 funext x
 cases Zer N dst x.1 tm <;> rfl
theorem Zrk (dst : Option Tmp) (op : Op) (ty : TypeId) (pos : String) (after : Array Edge) (j : Nat) (w : Bool) (l : List Oper) (tm : List (Nat × PV)) :
 Zc9 P h E N ds (⟨dst, op, ty, pos, after, some (j, w)⟩ :: l) ⟨tm, H⟩ = Zxs P h E N ds dst op l tm H (want ds tm j w) := by
 simp only [Zc9, Zxs]
 congr 1
 funext b
 cases b with
 | false =>
  simp only [cond_false, ZpL, Option.bind_some]
  cases Zer N dst (.tup []) tm <;> rfl
 | true =>
  simp only [cond_true, ZpL, Option.bind_assoc]
  congr 1
  funext x
  cases Zer N dst x.1 tm <;> rfl
theorem ZrK (dst : Option Tmp) (op : Op) (l : List Oper) (tm : List (Nat × PV)) : Zxs P h E N ds dst op l tm H (some true) = ZpL P h E N ds dst l tm (opE P h E H (ev tm) op) := rfl
theorem ZiE (dst : Option Tmp) (op : Op) (l : List Oper) (tm : List (Nat × PV)) : Zxs P h E N ds dst op l tm H (some false) = ZpL P h E N ds dst l tm (some (.tup [], H)) := rfl
noncomputable def Zuj : Option St → Option (Ex × St)
 | some s => some (.normal, s)
 | none => none
noncomputable def Zvh (w : Bool) : Option PV → Option Bool
 | some (.bool b) => some (b == w)
 | some (.tup []) => some false
 | _ => none
theorem ZuV (j : Nat) (w : Bool) (tm : List (Nat × PV)) : want ds tm j w = Zvh w (((ds[j]?).bind id).bind (get tm)) := by
 simp only [want]
 generalize ((ds[j]?).bind id).bind (get tm) = x
 cases x with
 | none => rfl
 | some v => cases v <;> first
  | rfl
  | (rename_i vs; cases vs <;> rfl)
theorem ZwM (f : FuncId) (args : Array Operand) (ts : Array TypeId) : opE P h E H ρ (.call ⟨.value (.func f), args, ts⟩) = (ZaO ρ args.toList).bind fun vs => Zcl h E f vs H := by
 show (if h.opn f then Zk9 h E H ρ f ⟨.value (.func f), args, ts⟩ else ZiB H (Zd2 h E H H.length ρ f ⟨.value (.func f), args, ts⟩)) = _
 cases ho : h.opn f with
 | true => rfl
 | false =>
  simp only [Bool.false_eq_true, if_false, Zd2, ho, Zcl]
  cases ZaO ρ args.toList with
  | none => rfl
  | some vs => rfl
theorem Zam {x : Int} (h1 : -9223372036854775808 ≤ x) (h2 : x ≤ 9223372036854775807) : IntKind.i64.wrap x = x := by
 rw [IntKind.wrap_i64]; omega
theorem ZnN {t : TypeId} {n : Nat} (ht : Zru P t = some true) (hn : ZaP P t = some n) (cs : List PV) (off : Nat) (hle : off + n ≤ cs.length) : ZcB P t cs off = some (.agg ((cs.drop off).take n)) := by
 simp only [ZcB, ht, hn, Option.bind_some]
 rw [if_pos hle]
noncomputable def ZmB (P : Program) (h : Hints) (E : Ev) (N : Nat) (ls : List Nat) : List Oper → Nat → List (Nat × Oper × List (Nat × PV) × PV) → St → Option St
 | [], _, _, s => some s
 | ⟨dst, op, ty, pos, after, none⟩ :: l, i, acc, s => bif has i ls
  then (ZaH P h E s.hp (ev s.tm) ⟨dst, op, ty, pos, after, none⟩).bind fun v => (Zer N dst v s.tm).bind fun tm => ZmB P h E N ls l (i + 1) ((i, ⟨dst, op, ty, pos, after, none⟩, s.tm, v) :: acc) ⟨tm, s.hp⟩
  else (opE P h E s.hp (ev s.tm) op).bind fun x => (Zer N dst x.1 s.tm).bind fun tm => (ZdA P h E (ZbH h ⟨dst, op, ty, pos, after, none⟩ acc) x.2).bind fun _ => ZmB P h E N ls l (i + 1) (ZbH h ⟨dst, op, ty, pos, after, none⟩ acc) ⟨tm, x.2⟩
 | _ :: _, _, _, _ => none
noncomputable def noG : List Oper → Bool
 | [] => true
 | ⟨_, _, _, _, _, none⟩ :: l => noG l
 | _ :: _ => false
theorem ZqL (N : Nat) (ops : Array Oper) (ls : List Nat) : ∀ (l : List Oper) (i : Nat) (acc : List (Nat × Oper × List (Nat × PV) × PV)) (s : St), noG l = true → ZaU P h E N ops ls l i acc s = ZmB P h E N ls l i acc s
 | [], _, _, s, _ => rfl
 | ⟨dst, op, ty, pos, after, some g⟩ :: l, i, acc, s, hg => by cases hg
 | ⟨dst, op, ty, pos, after, none⟩ :: l, i, acc, s, hg => by
  show (ZeM P h E N ops ls i ⟨dst, op, ty, pos, after, none⟩ s).bind (fun s' => bif has i ls then (ZtK P h E ops i ⟨dst, op, ty, pos, after, none⟩ s acc).bind fun acc' => ZaU P h E N ops ls l (i + 1) acc' s' else (ZdA P h E (ZbH h ⟨dst, op, ty, pos, after, none⟩ acc) s'.hp).bind fun _ => ZaU P h E N ops ls l (i + 1) (ZbH h ⟨dst, op, ty, pos, after, none⟩ acc) s') = _
  have ih := fun j acc s => ZqL N ops ls l j acc s hg
  cases hi : has i ls with
  | true =>
   simp only [ZmB, ZeM, hi, cond_true, ZrY, ZcZ, Option.bind_some, ZtK]
   cases hlo : ZaH P h E s.hp (ev s.tm) ⟨dst, op, ty, pos, after, none⟩ with
   | none => rfl
   | some v =>
    simp only [Option.bind_some, Option.map_some]
    cases Zer N dst v s.tm with
    | none => rfl
    | some tm => simp only [Option.map_some, Option.bind_some]; exact ih _ _ _
  | false =>
   simp only [ZmB, ZeM, hi, cond_false, Zco, ZcZ, Option.bind_some, Zqn, cond_true]
   cases opE P h E s.hp (ev s.tm) op with
   | none => rfl
   | some x =>
    simp only [Option.bind_some]
    cases Zer N dst x.1 s.tm with
    | none => rfl
    | some tm =>
     simp only [Option.map_some, Option.bind_some]
     cases ZdA P h E (ZbH h ⟨dst, op, ty, pos, after, none⟩ acc) x.2 with
     | none => rfl
     | some _ => simp only [Option.bind_some]; exact ih _ _ _
noncomputable def Zyb (P : Program) (h : Hints) (E : Ev) (N : Nat) (ls : List Nat) (ops : Array Oper) (s : St) : Option St := Zoc P h E N ls ops s
theorem Zqq (N : Nat) (j : Nat) (ls : List Nat) (ops : Array Oper) (s : St) (hg : noG ops.toList = true) : Zyb P h E N (j :: ls) ops s = ZmB P h E N (j :: ls) ops.toList 0 [] s := ZqL N ops _ _ _ _ _ hg
theorem ZsV (c : Cx) (i : Nat) (ops : Array Oper) (d : Bool) (s : St) : exS P h E c (.region i ops d) s = Zuj (Zyb P h E c.N (h.light c.fid i) ops s) := by
 show (Zoc P h E c.N (h.light c.fid i) ops s).map _ = _
 show _ = Zuj (Zoc P h E c.N (h.light c.fid i) ops s)
 cases Zoc P h E c.N (h.light c.fid i) ops s <;> rfl
noncomputable def Zwt (P : Program) (h : Hints) (E : Ev) (N : Nat) (ls : List Nat) (l : List Oper) (i : Nat) (acc : List (Nat × Oper × List (Nat × PV) × PV)) (s : St) : Option Unit → Option St
 | some _ => ZmB P h E N ls l i acc s
 | none => none
noncomputable def Zvs (P : Program) (h : Hints) (E : Ev) (N : Nat) (ls : List Nat) (dst : Option Tmp) (l : List Oper) (i : Nat) (acc : List (Nat × Oper × List (Nat × PV) × PV)) (tm : List (Nat × PV)) : ZkB → Option St
 | some x => (Zer N dst x.1 tm).bind fun tm' => Zwt P h E N ls l (i + 1) acc ⟨tm', x.2⟩ (ZdA P h E acc x.2)
 | none => none
noncomputable def Zwp (P : Program) (h : Hints) (E : Ev) (N : Nat) (ls : List Nat) (dst : Option Tmp) (o : Oper) (l : List Oper) (i : Nat) (acc : List (Nat × Oper × List (Nat × PV) × PV)) (tm : List (Nat × PV)) (H : List Mem) : Option PV → Option St
 | some v => (Zer N dst v tm).bind fun tm' => ZmB P h E N ls l (i + 1) ((i, o, tm, v) :: acc) ⟨tm', H⟩
 | none => none
theorem Zpu (ls : List Nat) (N : Nat) (dst : Option Tmp) (op : Op) (ty : TypeId) (pos : String) (after : Array Edge) (l : List Oper) (i : Nat) (acc : List (Nat × Oper × List (Nat × PV) × PV)) (tm : List (Nat × PV)) (H : List Mem) (hi : has i ls = false) : ZmB P h E N ls (⟨dst, op, ty, pos, after, none⟩ :: l) i acc ⟨tm, H⟩ = Zvs P h E N ls dst l i (ZbH h ⟨dst, op, ty, pos, after, none⟩ acc) tm (opE P h E H (ev tm) op) := by
 simp only [ZmB, hi, cond_false]
 cases opE P h E H (ev tm) op with
 | none => rfl
 | some x =>
  simp only [Option.bind_some, Zvs]
  congr 1
  funext tm'
  cases ZdA P h E (ZbH h ⟨dst, op, ty, pos, after, none⟩ acc) x.2 <;> rfl
theorem Zpr (ls : List Nat) (N : Nat) (dst : Option Tmp) (op : Op) (ty : TypeId) (pos : String) (after : Array Edge) (l : List Oper) (i : Nat) (acc : List (Nat × Oper × List (Nat × PV) × PV)) (tm : List (Nat × PV)) (H : List Mem) (hi : has i ls = true) : ZmB P h E N ls (⟨dst, op, ty, pos, after, none⟩ :: l) i acc ⟨tm, H⟩ = Zwp P h E N ls dst ⟨dst, op, ty, pos, after, none⟩ l i acc tm H (ZaH P h E H (ev tm) ⟨dst, op, ty, pos, after, none⟩) := by
 simp only [ZmB, hi, cond_true]
 cases ZaH P h E H (ev tm) ⟨dst, op, ty, pos, after, none⟩ with
 | none => rfl
 | some v => rfl
noncomputable def Zop (P : Program) (h : Hints) (E : Ev) (acc : List (Nat × Oper × List (Nat × PV) × PV)) (H : List Mem) (v : PV) : Option PV → Option Unit
 | some u => bif ZeD u v then ZdA P h E acc H else none
 | none => none
theorem Zpf (i : Nat) (o : Oper) (tm : List (Nat × PV)) (v : PV) (acc : List (Nat × Oper × List (Nat × PV) × PV)) (H : List Mem) : ZdA P h E ((i, o, tm, v) :: acc) H = Zop P h E acc H v (ZaH P h E H (ev tm) o) := by
 show (ZaH P h E H (ev tm) o).bind (fun u => bif ZeD u v then ZdA P h E acc H else none) = _
 cases ZaH P h E H (ev tm) o <;> rfl
theorem Zmf (acc : List (Nat × Oper × List (Nat × PV) × PV)) (H : List Mem) (u v : PV) (hs : ZeD u v = true) : Zop P h E acc H v (some u) = ZdA P h E acc H := by
 simp only [Zop, hs, cond_true]
theorem Zij (v : Option PV) : ((val v).bind fun x => match x with | (v, [], []) => some v | _ => none) = v := by cases v <;> rfl
section
variable (dst : Option Tmp) (ty : TypeId) (pos : String) (after : Array Edge) (g : Option (Nat × Bool))
theorem Zep (t : TypeId) (a : Operand) : ZaH P h E H ρ ⟨dst, .load t a, ty, pos, after, g⟩ = Ziw P H t (ρ a) := Zij _
theorem ZbO (t : TypeId) (x i : Operand) : ZaH P h E H ρ ⟨dst, .indexAddr t x i, ty, pos, after, g⟩ = Za2 P H t (ρ x) (ρ i) := Zij _
theorem ZiP (x : Operand) : ZaH P h E H ρ ⟨dst, .move x, ty, pos, after, g⟩ = ρ x := Zij _
end
noncomputable def ZcM (r : Nat) : Code → Option Code
 | .seq a b => match ZcM r a with
  | some c => some c
  | none => ZcM r b
 | .cond _ a b => match ZcM r a with
  | some c => some c
  | none => ZcM r b
 | .block _ b => ZcM r b
 | .loop b => bif Nat.beq (Zdp b) r then some b else ZcM r b
 | .scope b => ZcM r b
 | _ => none
noncomputable def Zcp (f : Func) : Code := match f.body with | some c => c | none => .skip
noncomputable def ZcO (f : Func) (r : Nat) : Code := match ZcM r (Zcp f) with | some c => c | none => .skip
def Flat (v : PV) : Prop := Zca v = [] ∧ Zbi v = true ∧ ∀ l, ren l v = v
theorem Zqy : Flat .nils := ⟨rfl, rfl, fun _ => rfl⟩
theorem ZtP (es : List (List PV)) : Flat (.lst es) := ⟨rfl, rfl, fun _ => rfl⟩
theorem Sl.flat {q : PV} {es : List (List PV)} (hq : Sl q es) : Flat q := by
 rcases hq with ⟨rfl, _⟩ | rfl
 ·exact Zqy
 ·exact ZtP _
end
end Go.Am
/-
 Rules for calls, for what is built, for strings and maps.
-/
namespace Go.Am
section
variable {P : Program} {h : Hints} {E : Ev} {H : List Mem} {ρ : Operand → Option PV}
theorem ZwC {s d : TypeId} (hs : (P.underlying s).isSome = true) (hd : P.underlying d = some .string) (k : IntKind) {n : Int} (h0 : 0 ≤ n) (h1 : n < 128) : Zcq P H s d (.int k n) = some (.str ⟨#[UInt8.ofNat n.toNat]⟩) := by
 unfold Zcq
 obtain ⟨x, hx⟩ := Option.isSome_iff_exists.1 hs
 rw [hx, hd]
 cases x <;> simp [h0, h1]
theorem ZoG (b : Bool) : exp ZaD H (.bool b) = some (.bool b) := rfl
def Plain (v : PV) : Prop := ∀ n H, exp (n + 1) H v = some v
theorem Zpb : Plain .nils := fun _ _ => rfl
theorem Zse (es : List (List PV)) : Plain (.lst es) := fun _ _ => rfl
theorem Sl.plain {q : PV} {es : List (List PV)} (hq : Sl q es) : Plain q := by
 rcases hq with ⟨rfl, _⟩ | rfl
 ·exact Zpb
 ·exact Zse _
theorem Plain.exp {v : PV} (hv : Plain v) : exp ZaD H v = some v := hv 39 H
theorem ZoU : rch ZaD H .nils = [] := rfl
theorem Sl.rch {q : PV} {es : List (List PV)} (hq : Sl q es) : rch ZaD H q = [] := by
 rcases hq with ⟨rfl, _⟩ | rfl <;> rfl
end
end Go.Am
/-
 Rules for own memory numbered anew.
-/
namespace Go.Am
section
variable {P : Program} {h : Hints} {E : Ev} {H : List Mem}
noncomputable def Znj (tm : List (Nat × PV)) (H : List Mem) (ids : List Nat) : Option St :=
 if tm.all (fun x => Zbi x.2) = true then
  (ZaO (fun i => (H[i]?).bind fun m => if (okM m && (Zl5 m).all ids.contains) = true then some (Zmn ids m) else none) ids).map fun H' => ⟨tm.map fun x => (x.1, ren ids x.2), H'⟩
 else none
noncomputable def ZxM (tm : List (Nat × PV)) : List Nat := (tm.flatMap fun x => Zca x.2).foldl ZbQ []
noncomputable def Zeb (H : List Mem) (ids : List Nat) : List Nat := (ids.flatMap (ZmR H)).foldl ZbQ ids
theorem Zma (tm : List (Nat × PV)) : ZdF tm H = Znj tm H (Zeb H (Zeb H (Zeb H (ZxM tm)))) := rfl
noncomputable def ZxZ : Option Mem → List Nat
 | some m => Zl5 m
 | none => []
theorem Ztp (i : Nat) : ZmR H i = ZxZ H[i]? := by
 unfold ZmR ZxZ
 cases H[i]? <;> rfl
theorem Zqw (m : Mem) : ZxZ (some m) = Zl5 m := rfl
theorem Zfh {m : Mem} (hm : ZeH m = true) : Zl5 m = [] := by simp [Zl5, hm]
theorem ZjG {m : Mem} (hm : ZeH m = true) : okM m = true := by simp [okM, hm]
theorem Zhp {m : Mem} (hm : ZeH m = true) (l : List Nat) : Zmn l m = m := by simp [Zmn, hm]
theorem ZrH (es : List (List PV)) (z : Nat) (m : Bool) : ZeH (.row es z m) = es.all fun c => c.all Zgd := rfl
theorem ZqW {es : List (List PV)} (he : ∀ c ∈ es, ∀ v ∈ c, Zgd v = true) (z : Nat) (m : Bool) : ZeH (.row es z m) = true := by
 rw [ZrH, List.all_eq_true]
 exact fun c hc => List.all_eq_true.2 (he c hc)
theorem Sl.ids {q : PV} {es : List (List PV)} (hq : Sl q es) : Zca q = [] ∧ Zbi q = true ∧ (∀ l, ren l q = q) ∧ ZbT q = [] ∧ ZcW q = true ∧ (∀ l, ZiF l q = q) ∧ Zgd q = true := by
 rcases hq with ⟨rfl, _⟩ | rfl <;> exact ⟨rfl, rfl, fun _ => rfl, rfl, rfl, fun _ => rfl, rfl⟩
theorem Flat.ids {v : PV} (hv : Flat v) : Zca v = [] ∧ Zbi v = true ∧ ∀ l, ren l v = v := hv
end
end Go.Am
/-
 What the evaluator's call gives, as a contract of the model: for walks in the kit's own calculus.
-/
namespace Go.Am
open Go.RowKit
section
variable [Laid] {P : Program} {h : Hints} {E : Ev}
end
end Go.Am
/-
 Hints with functions whose contracts were proved otherwise.
-/
namespace Go.Am
section
variable [Laid] {P : Program} {h : Hints}
noncomputable def withPrims (h : Hints) (p : FuncId → Option (List PV → Option PV)) : Hints := { h with prim := p }
variable {p : FuncId → Option (List PV → Option PV)}
theorem ZgI (ls : List Nat) : ∀ (os : List Oper) (i : Nat), ZdI (withPrims h p) ls os i = ZdI h ls os i
 | [], _ => rfl
 | o :: os, i => by
  simp only [ZdI, ZgI ls os]
  rfl
theorem ZlZ (ls : List Nat) (ops : Array Oper) : ZdR (withPrims h p) ls ops = ZdR h ls ops := by
 simp only [ZdR, ZgI]
theorem Zbp (f : FuncId) : ∀ c : Code, Za6 (withPrims h p) f c = Za6 h f c
 | .region _ _ _ => by simp only [Za6, ZlZ]; rfl
 | .seq a b => by simp only [Za6, Zbp f a, Zbp f b]
 | .cond _ a b => by simp only [Za6, Zbp f a, Zbp f b]
 | .block _ b => by simp only [Za6, Zbp f b]
 | .loop b => by simp only [Za6, Zbp f b]
 | .skip | .label _ | .exit _ | .ret | .goto _ | .refuse _ | .rangeFunc _ _ _ _ | .scope _ => rfl
theorem Zm4 (f : FuncId) : ZjF P (withPrims h p) f = ZjF P h f := by
 simp only [ZjF, Zbp]
theorem Zd3 (hS : Static P h) (hp : ∀ f, (p f).isSome = true → Zun P f) : Static P (withPrims h p) :=
 ⟨hS.mixed, fun f hf => by rw [Zm4]; exact hS.fns f hf, hp⟩
end
end Go.Am
