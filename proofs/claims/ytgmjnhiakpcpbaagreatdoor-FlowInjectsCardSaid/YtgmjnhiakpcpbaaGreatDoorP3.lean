/-
 strconv.ParseUint at base 10 and 32 bits, at one to nine digits: a primitive.
-/
import Derived.Test.YtgmjnhiakpcpbaaGreatDoorSh
import Derived.Test.YtgmjnhiakpcpbaaGreatDoorHints
set_option linter.constructorNameAsVariable false
set_option linter.unusedSimpArgs false
set_option linter.unusedVariables false
namespace Go.Proofs.YtgmjnhiakpcpbaaGreatDoor
open Go.Shelf Go.RowKit Dv Go.Am
theorem Zsg {s:List UInt8} (h:Zvv s=true):Dg s:=by
 intro c hc
 have:=List.all_eq_true.1 h c hc
 rw[Bool.and_eq_true]at this
 exact⟨Nat.le_of_ble_eq_true this.1,Nat.le_of_ble_eq_true this.2⟩
theorem Zkp: ∀ (s:List UInt8) (n:Nat),Dg s→Zmi n s≤4294967295→Lib.parseUintM 4294967295 n s= .ok (Zmi n s)
 | [],n,_,_=>rfl
 |c::s,n,h,h2=>by
  have hc:=h c List.mem_cons_self
  have hs:Dg s:=fun x hx=>h x (List.mem_cons_of_mem _ hx)
  have hge:10*n+(c.toNat-48)≤Zmi n (c::s):=by
   rw[Zdi,ZhC]
   have h1:(10*n+(c.toNat-48))*1≤(10*n+(c.toNat-48))*10^s.length:=Nat.mul_le_mul_left _ (Nat.one_le_pow _ _ (by decide))
   omega
  rw[Lib.parseUintM,if_pos hc,if_neg (by omega),if_neg (by omega),Zdi,show n*10+(c.toNat-48)=10*n+(c.toNat-48)by omega]
  exact Zkp s _ hs (by rw[←Zdi];exact h2)
theorem ZoK {s:List UInt8} (h:Dg s) (h1:1≤s.length) (h9:s.length≤9):Lib.parseUintB 32 s= .ok (dec s):=by
 have hne:s≠ []:=by rintro rfl;simp at h1
 have hlt:=ZrH h
 have:=Nat.pow_le_pow_right (show 0<10 by decide) h9
 rw[Lib.parseUintB,if_neg hne,show 2^32-1=4294967295 from rfl]
 exact Zkp s 0 h (by show dec s≤_;omega)
theorem Zg8: ∀qs v,parseG qs=some v→ ∀ (S:Nat→Prop) w vals,(∀b,S b→b<w.heap.size)→Laid.ok S w→LRel w S qs vals→
 Calls Tryz.prog 86 vals.toArray w fun e w'=> ∃u,e= .returned u∧Below w.heap.size w w'∧IRel w' (fun b=>S b∨(w.heap.size≤b∧b<w'.heap.size)) v u:=by
 intro qs v hv S w vals hS hL hr
 unfold parseG at hv
 split at hv
 ·rename_i s b z
  split at hv
  ·rename_i hb
   simp only[Bool.and_eq_true,decide_eq_true_eq]at hb
   obtain⟨⟨rfl,rfl⟩,⟨hd,h1⟩,h9⟩:=hb
   cases hv
   simp only[LRel,IRel]at hr
   obtain⟨_,_,rfl,rfl,_,_,rfl,rfl,_,_,rfl,rfl,rfl⟩:=hr
   have h9:=Nat.le_of_ble_eq_true h9
   have hsz:s.size=s.data.toList.length:=rfl
   refine(Any.strconv_ParseUint_10_at32_ok Tryz.laysPu14 s (by omega) _ (ZoK (Zsg hd) (Nat.le_of_ble_eq_true h1) h9) w).mono ?_
   rintro e w' ⟨rfl,hw⟩
   refine⟨_,rfl, ?_, ?_⟩
   ·rcases hw with rfl|rfl
    ·exact Below.refl _ _
    ·exact Lib.bytesWorld_below _ _ _
   ·simp only[IRel]
    exact⟨_,rfl,by simp[LRel,IRel]⟩
  ·cases hv
 ·cases hv
end Go.Proofs.YtgmjnhiakpcpbaaGreatDoor
