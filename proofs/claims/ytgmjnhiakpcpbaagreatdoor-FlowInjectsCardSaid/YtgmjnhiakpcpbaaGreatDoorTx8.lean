/-
 The program logic: tables of types; results that are own memory.
-/
import Derived.Test.YtgmjnhiakpcpbaaGreatDoorTx7
set_option linter.constructorNameAsVariable false
set_option linter.unusedSimpArgs false
set_option linter.unusedVariables false
namespace Go.Tx
open Go.Am
def Zvu:TI:=⟨.other,0,0,[],none⟩
inductive Tr where
 |lf (k:Nat) (v:TI)
 |nd (k:Nat) (a b:Tr)
def Tr.find:Tr→Nat→TI
 | .lf k v,t=>match Nat.beq t k with
  |true=>v
  |false=>Zvu
 | .nd k a b,t=>match Nat.ble k t with
  |true=>b.find t
  |false=>a.find t
def Tr.all (p:Nat→TI→Bool):Tr→Bool
 | .lf k v=>p k v
 | .nd _ a b=>a.all p&&b.all p
theorem Tr.all_find {p:Nat→TI→Bool}: ∀ {tr:Tr},tr.all p=true→ ∀t,tr.find t=Zvu∨p t (tr.find t)=true
 | .lf k v,h,t=>by
  simp only[Tr.find]
  split
  ·rename_i hb
   rw[Nat.eq_of_beq_eq_true hb]
   exact .inr h
  ·exact .inl rfl
 | .nd k a b,h,t=>by
  simp only[Tr.all,Bool.and_eq_true]at h
  simp only[Tr.find]
  split
  ·exact Tr.all_find h.2 t
  ·exact Tr.all_find h.1 t
def zeq:SV→PV→Bool
 | .v (.i k) n, .int k' n'=>keq k k'&&(n==n')
 | .v .b b, .bool b'=>b==b'
 | .v .s s, .str s'=>s.isEmpty&&Nat.beq s'.size 0
 | .nils, .nils=>true
 | .nilp, .nilp=>true
 | .nilf, .nilf=>true
 | .nili, .nili=>true
 | .nilmp, .nilm=>true
 |_,_=>false
def ZuN:List SV→List PV→Bool
 | [],[]=>true
 |a::l,b::r=>zeq a b&&ZuN l r
 |_,_=>false
theorem Ziu {φ:Ph} {V:SV} {q:PV} (h:zeq V q=true):RV φ V q:=by
 unfold zeq at h
 split at h<;>first
  |(simp only[Bool.and_eq_true,beq_iff_eq]at h;rw[Zeu h.1,h.2];exact vi _ _)
  |(simp only[beq_iff_eq]at h;rw[h];exact vb _)
  |(simp only[RV];done)
  |(cases h;done)
  |skip
 rename_i s s'
 simp only[Bool.and_eq_true,List.isEmpty_iff]at h
 rw[h.1]
 have:s'=⟨([]:List UInt8).toArray⟩:=by
  have h2:=Nat.eq_of_beq_eq_true h.2
  apply ByteArray.ext
  exact Array.eq_empty_of_size_eq_zero h2
 rw[this]
 exact vs []
theorem Zo0 {φ:Ph}: ∀ {l:List SV} {qs:List PV},ZuN l qs=true→RL φ l qs
 | [],[],_=>by simp only[RL]
 |a::l,b::r,h=>by
  simp only[ZuN,Bool.and_eq_true]at h
  simp only[RL]
  exact⟨_,_,rfl,Ziu h.1,Zo0 h.2⟩
def zct:(c:CT)→List PV→Bool
 | .p a c,cs=>zct a (cs.take a.w)&&zct c (cs.drop a.w)
 | .i k,cs=>match cs with
  | [q]=>zeq (.v (.i k) (0:Int)) q
  |_=>false
 | .b,cs=>match cs with
  | [q]=>zeq (.v .b false) q
  |_=>false
 | .s,cs=>match cs with
  | [q]=>zeq (.v .s []) q
  |_=>false
 | .l _,cs=>match cs with
  | [q]=>zeq .nils q
  |_=>false
 | .any,cs=>match cs with
  | [q]=>zeq .nili q
  |_=>false
theorem ZoN: ∀ {c:CT} {cs:List PV},zct c cs=true→RR c c.z cs
 | .p a c,cs,h=>by
  simp only[zct,Bool.and_eq_true]at h
  exact⟨_,_,(List.take_append_drop a.w cs).symm,ZoN h.1,ZoN h.2⟩
 | .i k,cs,h=>by
  simp only[zct]at h
  split at h
  ·have:=Ziu (φ:=[]) h
   simp only[RV]at this
   exact this
  ·cases h
 | .b,cs,h=>by
  simp only[zct]at h
  split at h
  ·have:=Ziu (φ:=[]) h
   simp only[RV]at this
   exact this
  ·cases h
 | .s,cs,h=>by
  simp only[zct]at h
  split at h
  ·have:=Ziu (φ:=[]) h
   simp only[RV]at this
   exact this
  ·cases h
 | .any,cs,h=>by
  simp only[zct]at h
  split at h
  ·have:=Ziu (φ:=[]) h
   simp only[RV]at this
   subst this
   rfl
  ·cases h
 | .l e,cs,h=>by
  simp only[zct]at h
  split at h
  ·have:=Ziu (φ:=[]) h
   simp only[RV]at this
   subst this
   exact .inl ⟨rfl,rfl⟩
  ·cases h
noncomputable def ZqT (P:Program):List (Nat×TypeId×Nat)→List Field→Bool
 | [],[]=>true
 |(off,t,n)::r,f::fs=>Nat.beq off f.offset&&Nat.beq t f.type&&(match ZaR P t with|some m=>Nat.beq m n|none=>false)&&ZqT P r fs
 |_,_=>false
theorem Znd {P:Program}: ∀ {l:List (Nat×TypeId×Nat)} {fs:List Field},ZqT P l fs=true→(l.map fun x=>(x.1,x.2.1))=fs.map (fun f=>(f.offset,f.type))∧ ∀x∈l,ZaR P x.2.1=some x.2.2
 | [],[],_=>⟨rfl,by simp⟩
 | [],_::_,h=>by cases h
 |_::_,[],h=>by cases h
 |(off,t,n)::r,f::fs,h=>by
  simp only[ZqT,Bool.and_eq_true]at h
  obtain⟨⟨⟨h1,h2⟩,h3⟩,h4⟩:=h
  have e1:=Nat.eq_of_beq_eq_true h1
  have e2:t=f.type:=Nat.eq_of_beq_eq_true h2
  obtain⟨g1,g2⟩:=Znd h4
  refine⟨by simp only[List.map_cons,g1,e1,e2], ?_⟩
  intro x hx
  rcases List.mem_cons.1 hx with rfl|hx
  ·split at h3
   ·rename_i m hm
    rw[←Nat.eq_of_beq_eq_true h3]
    exact hm
   ·cases h3
  ·exact g2 x hx
noncomputable def Zvk (P:Program) (t:TypeId):TK→Bool
 | .int k=>match P.underlying t with|some (.int k')=>keq k k'|_=>false
 | .bool=>match P.underlying t with|some .bool=>true|_=>false
 | .str=>match P.underlying t with|some .string=>true|_=>false
 | .slice e=>match P.underlying t with|some (.slice e')=>Nat.beq e e'|_=>false
 | .arr n e=>match P.underlying t with|some (.array n' e')=>Nat.beq n n'&&Nat.beq e e'|_=>false
 | .struct fs=>match P.underlying t with|some (.struct a)=>ZqT P fs a.toList|_=>false
 | .ptr=>match P.underlying t with|some (.pointer _)=>true|_=>false
 | .func=>match P.underlying t with|some (.func _ _ _)=>true|_=>false
 | .smap=>match P.underlying t,ZhR P t with|some (.map _ e),some (.string,e')=>Nat.beq e e'&&(match Zcm P e with|some (.bool false)=>true|_=>false)|_,_=>false
 | .any=>match P.underlying t with|some (.interface _)=>true|_=>false
 | .other=>true
theorem Ztn {P:Program} {t:TypeId} {k:TK} (h:Zvk P t k=true):KM P t k:=by
 cases k<;>simp only[Zvk]at h<;>simp only[KM]<;>(try trivial)<;>(split at h<;>first|(cases h;done)|skip)
 ·rename_i hu;rw[Zeu h];exact hu
 ·rename_i hu;exact hu
 ·rename_i hu;exact hu
 ·rename_i hu;rw[hu,show _=_ from Nat.eq_of_beq_eq_true h]
 ·rename_i hu
  simp only[Bool.and_eq_true]at h
  rw[hu,show _=_ from Nat.eq_of_beq_eq_true h.1,show _=_ from Nat.eq_of_beq_eq_true h.2]
 ·rename_i hu
  obtain⟨h1,h2⟩:=Znd h
  exact⟨_,hu,h1,h2⟩
 ·rename_i hu;exact⟨_,hu⟩
 ·rename_i hu;exact⟨_,_,_,hu⟩
 ·rename_i hu hs
  simp only[Bool.and_eq_true]at h
  obtain⟨h1,h2⟩:=h
  have e1:=Nat.eq_of_beq_eq_true h1
  split at h2
  ·rename_i hz
   exact⟨_,_,hu,by rw[hs,e1],hz⟩
  ·cases h2
 ·rename_i hu;exact⟨_,hu⟩
noncomputable def Zvc (P:Program) (t:TypeId):TK→Bool
 | .int k=>match Zcm P t with|some (.int k' n)=>keq k k'&&(n==0)|_=>false
 | .str=>match Zcm P t with|some (.str s)=>Nat.beq s.size 0|_=>false
 |_=>true
noncomputable def Zsh (P:Program) (t:TypeId) (i:TI):Bool:=
 (Zvk P t i.k&&Zvc P t i.k)&&(match ZaR P t with|some n=>Nat.beq n i.sz|none=>false)&&(match Zhz P t with|some n=>Nat.beq n i.by_|none=>false)&&
 (match ZcI P t with|some zs=>ZuN i.zero zs&&Nat.beq zs.length i.sz&&(match i.ct with|some c=>Nat.beq c.w i.sz&&zct c zs|none=>true)|none=>false)
theorem Zqo {P:Program} {t:TypeId} {i:TI} (h:Zsh P t i=true):TIok P t i:=by
 simp only[Zsh,Bool.and_eq_true]at h
 obtain⟨⟨⟨⟨h1,h0⟩,h2⟩,h3⟩,h4⟩:=h
 split at h2
 ·rename_i n hn
  split at h3
  ·rename_i m hm
   split at h4
   ·rename_i zs hz
    simp only[Bool.and_eq_true]at h4
    obtain⟨⟨h5,h6⟩,h7⟩:=h4
    refine⟨Ztn h1,by rw[hn,Nat.eq_of_beq_eq_true h2],by rw[hm,Nat.eq_of_beq_eq_true h3],⟨zs,hz,fun φ=>Zo0 h5,Nat.eq_of_beq_eq_true h6⟩, ?_, ?_, ?_⟩
    rotate_left 1
    ·intro k hk
     rw[hk]at h0
     simp only[Zvc]at h0
     split at h0
     ·rename_i k' n hz0
      simp only[Bool.and_eq_true,beq_iff_eq]at h0
      rw[hz0,Zeu h0.1,h0.2]
     ·cases h0
    ·intro hk
     rw[hk]at h0
     simp only[Zvc]at h0
     split at h0
     ·rename_i s hz0
      have e:s=⟨#[]⟩:=by
       apply ByteArray.ext
       exact Array.eq_empty_of_size_eq_zero (Nat.eq_of_beq_eq_true h0)
      rw[hz0,e]
     ·cases h0
    intro c hc
    rw[hc]at h7
    simp only[Bool.and_eq_true]at h7
    refine⟨Nat.eq_of_beq_eq_true h7.1,fun zs' hz'=> ?_⟩
    rw[hz]at hz';cases hz'
    exact ZoN h7.2
   ·cases h4
  ·cases h3
 ·cases h2
theorem Zuc {P:Program} {tr:Tr} (h:tr.all (Zsh P)=true):TysOK P tr.find:=by
 intro t
 rcases Tr.all_find h t with h|h
 ·left;rw[h];rfl
 ·exact .inr (Zqo h)
section
variable {φ : Ph}
end
end Go.Tx
