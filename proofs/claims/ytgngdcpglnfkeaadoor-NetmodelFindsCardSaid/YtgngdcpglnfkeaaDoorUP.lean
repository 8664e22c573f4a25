/-
 The lines of a network without a device. (Plain.)
-/
import Derived.Test.YtgngdcpglnfkeaaDoorUO
set_option linter.constructorNameAsVariable false
set_option linter.unusedSimpArgs false
set_option linter.unusedVariables false
namespace Go.Proofs.YtgngdcpglnfkeaaDoor
open Ne Go.Lib
set_option maxRecDepth 100000
def kNo:Txt:=[110,111,100,101]
def kSw:Txt:=[115,119,105,116,99,104]
def kBr:Txt:=[98,114,97,110,99,104]
def kGe:Txt:=[103,101,110]
def kLo:Txt:=[108,111,97,100]
def kSt:Txt:=[115,116,111,114,101]
def Zfq:Ne.Net:=⟨[],[],[],[],[],[]⟩
def Zol (n:Ne.Net) (k:Txt) (i:Nat):Ne.Net:=
 bif k==kSw then{n with sws:=n.sws.eraseIdx i}else bif k==kBr then{n with brs:=n.brs.eraseIdx i}else bif k==kGe then{n with gens:=n.gens.eraseIdx i}else bif k==kLo then{n with loads:=n.loads.eraseIdx i}else{n with stores:=n.stores.eraseIdx i}
theorem ZfI {α:Type} {f:α→Txt}: ∀ (l:List α) (i:Nat),(l.map f).eraseIdx i=(l.eraseIdx i).map f
 | [],_=>rfl
 |x::l,0=>rfl
 |x::l,i+1=>by rw[List.map_cons,List.eraseIdx_cons_succ,List.eraseIdx_cons_succ,List.map_cons,ZfI l i]
theorem ZkS {α:Type} {f:α→Txt} {L B:List Txt} {l:List α} {i:Nat} (hi:i<l.length):(L++(l.map f++B)).eraseIdx (L.length+i)=L++((l.eraseIdx i).map f++B):=by
 rw[List.eraseIdx_append_of_length_le (by omega),Nat.add_sub_cancel_left,List.eraseIdx_append_of_lt_length (by rw[List.length_map];exact hi),ZfI]
theorem ZlA {n m:Ne.Net} (h:big n=false) (h1:m.nodes.length≤n.nodes.length) (h2:m.sws.length≤n.sws.length) (h3:m.brs.length≤n.brs.length) (h4:m.gens.length≤n.gens.length) (h5:m.loads.length≤n.loads.length) (h6:m.stores.length≤n.stores.length):big m=false:=by
 simp only[big,Bool.or_eq_false_iff,decide_eq_false_iff_not]at h⊢
 omega
structure Gone (n:Ne.Net) (s k:Txt) (i:Nat):Prop where
 ex: ∃g:Nat,ZlQ (Zby s) (ZaE n) 0=(g:Int)∧g<(ZaE n).length∧ZaE (Zol n k i)=(ZaE n).eraseIdx g
 fit:Zi9 (Zol n k i)
 big:Ne.big (Zol n k i)=false
theorem ZpX {n:Ne.Net} (hf:Fine n) (s:Txt):ZlQ (Zby s) (ZaE n) 0=Zah s (n.sws.map (·.1)++(n.brs.map (·.1)++(n.gens.map (·.1)++(n.loads.map (·.1)++n.stores.map (·.1))))) n.nodes.length:=by
 rw[Znc,Zpo,Zn1 _ _ _ (ZkK hf),Zrd,Nat.zero_add]
theorem Ztw {n:Ne.Net} (hf:Fine n) {s:Txt} (h0:Zah s n.nodes 0<0) (hz:0≤(ZaF n s).2):Gone n s (ZaF n s).1 (ZaF n s).2.toNat:=by
 have hfit:=ZsD hf
 obtain⟨f1,f2,f3,f4,f5,f6⟩:=hfit
 have g0:decide (Zah s n.nodes 0≥0)=false:=by rw[decide_eq_false_iff_not];omega
 have hI:=ZpX hf s
 have lt: ∀ {z:Int},decide (z≥0)=false→z<0:=fun h=>by have:=of_decide_eq_false h;omega
 have ge: ∀ {z:Int},decide (z≥0)=true→0≤z:=fun h=>by have:=of_decide_eq_true h;omega
 have mm: ∀ {α:Type} {f:α→Txt} {l:List α},0≤Zah s (l.map f) 0→(Zah s (l.map f) 0).toNat<l.length:=fun h=>by have:=ZkV h;rwa[List.length_map]at this
 cases g1:decide (Zah s (n.sws.map (·.1)) 0≥0)with
 |true=>
  have e:ZaF n s=(kSw,Zah s (n.sws.map (·.1)) 0):=by simp only[ZaF,g0,g1];rfl
  rw[e]
  have hp:=ge g1
  have hi:=mm hp
  obtain⟨i,ei⟩: ∃i:Nat,Zah s (n.sws.map (·.1)) 0=i:=⟨_,(Int.toNat_of_nonneg hp).symm⟩
  rw[Zb7,if_neg (by omega)]at hI
  show Gone n s kSw (Zah s (n.sws.map (·.1)) 0).toNat
  rw[ei]at hI hi⊢
  rw[Int.toNat_natCast]at hi⊢
  have ed:Zol n kSw i={n with sws:=n.sws.eraseIdx i}:=rfl
  refine⟨⟨n.nodes.length+i,by rw[hI];omega, ?_, ?_⟩, ?_, ?_⟩
  ·rw[ZaE];simp only[List.length_append,List.length_map,List.length_nil];omega
  ·have e1:ZaE n=n.nodes.map Za3++(n.sws.map Zbe++(n.brs.map Zbl++(n.gens.map Zbr++(n.loads.map ZbB++n.stores.map ZbE)))):=by simp only[ZaE,List.append_assoc,List.nil_append]
   have h:=ZkS (f:=Zbe) (L:=n.nodes.map Za3) (B:=n.brs.map Zbl++(n.gens.map Zbr++(n.loads.map ZbB++n.stores.map ZbE))) hi
   simp only[List.length_append,List.length_map]at h
   rw[ed,e1,h]
   simp only[ZaE,List.append_assoc,List.nil_append]
  ·rw[ed];exact⟨f1,fun x hx=>f2 x (List.mem_of_mem_eraseIdx hx),f3,f4,f5,f6⟩
  ·rw[ed];exact ZlA hf.big (Nat.le_refl _) (List.length_eraseIdx_le _ _) (Nat.le_refl _) (Nat.le_refl _) (Nat.le_refl _) (Nat.le_refl _)
 |false=>
  have l1:=lt g1
  rw[Zb7,if_pos l1,List.length_map]at hI
  cases g2:decide (Zah s (n.brs.map (·.1)) 0≥0)with
  |true=>
   have e:ZaF n s=(kBr,Zah s (n.brs.map (·.1)) 0):=by simp only[ZaF,g0,g1,g2];rfl
   rw[e]
   have hp:=ge g2
   have hi:=mm hp
   obtain⟨i,ei⟩: ∃i:Nat,Zah s (n.brs.map (·.1)) 0=i:=⟨_,(Int.toNat_of_nonneg hp).symm⟩
   rw[Zb7,if_neg (by omega)]at hI
   show Gone n s kBr (Zah s (n.brs.map (·.1)) 0).toNat
   rw[ei]at hI hi⊢
   rw[Int.toNat_natCast]at hi⊢
   have ed:Zol n kBr i={n with brs:=n.brs.eraseIdx i}:=rfl
   refine⟨⟨n.nodes.length+n.sws.length+i,by rw[hI];omega, ?_, ?_⟩, ?_, ?_⟩
   ·rw[ZaE];simp only[List.length_append,List.length_map,List.length_nil];omega
   ·have e1:ZaE n=(n.nodes.map Za3++n.sws.map Zbe)++(n.brs.map Zbl++(n.gens.map Zbr++(n.loads.map ZbB++n.stores.map ZbE))):=by simp only[ZaE,List.append_assoc,List.nil_append]
    have h:=ZkS (f:=Zbl) (L:=n.nodes.map Za3++n.sws.map Zbe) (B:=n.gens.map Zbr++(n.loads.map ZbB++n.stores.map ZbE)) hi
    simp only[List.length_append,List.length_map]at h
    rw[ed,e1,h]
    simp only[ZaE,List.append_assoc,List.nil_append]
   ·rw[ed];exact⟨f1,f2,fun x hx=>f3 x (List.mem_of_mem_eraseIdx hx),f4,f5,f6⟩
   ·rw[ed];exact ZlA hf.big (Nat.le_refl _) (Nat.le_refl _) (List.length_eraseIdx_le _ _) (Nat.le_refl _) (Nat.le_refl _) (Nat.le_refl _)
  |false=>
   have l2:=lt g2
   rw[Zb7,if_pos l2,List.length_map]at hI
   cases g3:decide (Zah s (n.gens.map (·.1)) 0≥0)with
   |true=>
    have e:ZaF n s=(kGe,Zah s (n.gens.map (·.1)) 0):=by simp only[ZaF,g0,g1,g2,g3];rfl
    rw[e]
    have hp:=ge g3
    have hi:=mm hp
    obtain⟨i,ei⟩: ∃i:Nat,Zah s (n.gens.map (·.1)) 0=i:=⟨_,(Int.toNat_of_nonneg hp).symm⟩
    rw[Zb7,if_neg (by omega)]at hI
    show Gone n s kGe (Zah s (n.gens.map (·.1)) 0).toNat
    rw[ei]at hI hi⊢
    rw[Int.toNat_natCast]at hi⊢
    have ed:Zol n kGe i={n with gens:=n.gens.eraseIdx i}:=rfl
    refine⟨⟨n.nodes.length+n.sws.length+n.brs.length+i,by rw[hI];omega, ?_, ?_⟩, ?_, ?_⟩
    ·rw[ZaE];simp only[List.length_append,List.length_map,List.length_nil];omega
    ·have e1:ZaE n=(n.nodes.map Za3++n.sws.map Zbe++n.brs.map Zbl)++(n.gens.map Zbr++(n.loads.map ZbB++n.stores.map ZbE)):=by simp only[ZaE,List.append_assoc,List.nil_append]
     have h:=ZkS (f:=Zbr) (L:=n.nodes.map Za3++n.sws.map Zbe++n.brs.map Zbl) (B:=n.loads.map ZbB++n.stores.map ZbE) hi
     simp only[List.length_append,List.length_map]at h
     rw[ed,e1,h]
     simp only[ZaE,List.append_assoc,List.nil_append]
    ·rw[ed];exact⟨f1,f2,f3,fun x hx=>f4 x (List.mem_of_mem_eraseIdx hx),f5,f6⟩
    ·rw[ed];exact ZlA hf.big (Nat.le_refl _) (Nat.le_refl _) (Nat.le_refl _) (List.length_eraseIdx_le _ _) (Nat.le_refl _) (Nat.le_refl _)
   |false=>
    have l3:=lt g3
    rw[Zb7,if_pos l3,List.length_map]at hI
    cases g4:decide (Zah s (n.loads.map (·.1)) 0≥0)with
    |true=>
     have e:ZaF n s=(kLo,Zah s (n.loads.map (·.1)) 0):=by simp only[ZaF,g0,g1,g2,g3,g4];rfl
     rw[e]
     have hp:=ge g4
     have hi:=mm hp
     obtain⟨i,ei⟩: ∃i:Nat,Zah s (n.loads.map (·.1)) 0=i:=⟨_,(Int.toNat_of_nonneg hp).symm⟩
     rw[Zb7,if_neg (by omega)]at hI
     show Gone n s kLo (Zah s (n.loads.map (·.1)) 0).toNat
     rw[ei]at hI hi⊢
     rw[Int.toNat_natCast]at hi⊢
     have ed:Zol n kLo i={n with loads:=n.loads.eraseIdx i}:=rfl
     refine⟨⟨n.nodes.length+n.sws.length+n.brs.length+n.gens.length+i,by rw[hI];omega, ?_, ?_⟩, ?_, ?_⟩
     ·rw[ZaE];simp only[List.length_append,List.length_map,List.length_nil];omega
     ·have e1:ZaE n=(n.nodes.map Za3++n.sws.map Zbe++n.brs.map Zbl++n.gens.map Zbr)++(n.loads.map ZbB++n.stores.map ZbE):=by simp only[ZaE,List.append_assoc,List.nil_append]
      have h:=ZkS (f:=ZbB) (L:=n.nodes.map Za3++n.sws.map Zbe++n.brs.map Zbl++n.gens.map Zbr) (B:=n.stores.map ZbE) hi
      simp only[List.length_append,List.length_map]at h
      rw[ed,e1,h]
      simp only[ZaE,List.append_assoc,List.nil_append]
     ·rw[ed];exact⟨f1,f2,f3,f4,fun x hx=>f5 x (List.mem_of_mem_eraseIdx hx),f6⟩
     ·rw[ed];exact ZlA hf.big (Nat.le_refl _) (Nat.le_refl _) (Nat.le_refl _) (Nat.le_refl _) (List.length_eraseIdx_le _ _) (Nat.le_refl _)
    |false=>
     have l4:=lt g4
     rw[Zb7,if_pos l4,List.length_map]at hI
     cases g5:decide (Zah s (n.stores.map (·.1)) 0≥0)with
     |true=>
      have e:ZaF n s=(kSt,Zah s (n.stores.map (·.1)) 0):=by simp only[ZaF,g0,g1,g2,g3,g4,g5];rfl
      rw[e]
      have hp:=ge g5
      have hi:=mm hp
      obtain⟨i,ei⟩: ∃i:Nat,Zah s (n.stores.map (·.1)) 0=i:=⟨_,(Int.toNat_of_nonneg hp).symm⟩
      rw[Zd1,if_neg (by omega)]at hI
      show Gone n s kSt (Zah s (n.stores.map (·.1)) 0).toNat
      rw[ei]at hI hi⊢
      rw[Int.toNat_natCast]at hi⊢
      have ed:Zol n kSt i={n with stores:=n.stores.eraseIdx i}:=rfl
      refine⟨⟨n.nodes.length+n.sws.length+n.brs.length+n.gens.length+n.loads.length+i,by rw[hI];omega, ?_, ?_⟩, ?_, ?_⟩
      ·rw[ZaE];simp only[List.length_append,List.length_map,List.length_nil];omega
      ·have e1:ZaE n=(n.nodes.map Za3++n.sws.map Zbe++n.brs.map Zbl++n.gens.map Zbr++n.loads.map ZbB)++(n.stores.map ZbE++ []):=by simp only[ZaE,List.append_assoc,List.nil_append,List.append_nil]
       have h:=ZkS (f:=ZbE) (L:=n.nodes.map Za3++n.sws.map Zbe++n.brs.map Zbl++n.gens.map Zbr++n.loads.map ZbB) (B:=[]) hi
       simp only[List.length_append,List.length_map]at h
       rw[ed,e1,h]
       simp only[ZaE,List.append_assoc,List.nil_append,List.append_nil]
      ·rw[ed];exact⟨f1,f2,f3,f4,f5,fun x hx=>f6 x (List.mem_of_mem_eraseIdx hx)⟩
      ·rw[ed];exact ZlA hf.big (Nat.le_refl _) (Nat.le_refl _) (Nat.le_refl _) (Nat.le_refl _) (Nat.le_refl _) (List.length_eraseIdx_le _ _)
     |false=>
      have e:ZaF n s=([],-1):=by simp only[ZaF,g0,g1,g2,g3,g4,g5];rfl
      rw[e]at hz
      exact absurd hz (by decide)
end Go.Proofs.YtgngdcpglnfkeaaDoor
