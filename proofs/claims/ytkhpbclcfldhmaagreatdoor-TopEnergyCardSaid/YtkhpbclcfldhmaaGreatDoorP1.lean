/-
 Library functions under (large.Int).Text: strconv.FormatUint at base 10; strings.Builder (laid by the shelf).
-/
import Derived.Lib.Walk
import Derived.BigCall
import Derived.BigGuard
import Derived.Test.YtkhpbclcfldhmaaGreatDoorSh
import Derived.Test.YtkhpbclcfldhmaaGreatDoorTx9
set_option linter.constructorNameAsVariable false
set_option linter.unusedSimpArgs false
set_option linter.unusedVariables false
set_option linter.unusedSectionVars false
namespace Go.Proofs.YtkhpbclcfldhmaaGreatDoor
open Go.Shelf
theorem internal_strconv_small (i:Nat) (h:i<100) (w:World):
 Calls Tryz.prog 104 #[.int .i64 i] w fun e w'=>e= .returned (.string ⟨(Lib.decDigits i).toArray⟩)∧w'=w:=Any.internal_strconv_small Tryz.lays283 i h w
theorem internal_strconv_numDigits (u:Nat) (h1:1≤u) (h2:u<18446744073709551616) (w:World) (htab:Lib.TabIs Tryz.prog w "internal/strconv.uint64pow10" .u64 Lib.pow10Tab):
 Calls Tryz.prog 105 #[.int .u64 u] w fun e w'=>e= .returned (.int .i64 (Lib.nDigits u))∧w'=w:=Any.internal_strconv_numDigits Tryz.laysM284 u h1 h2 w htab
open Go.RowKit Go.Sort Go.Lib in
theorem internal_strconv_formatBase10 (blk off cap:Nat) (u:Nat) (d:Array UInt8) (w:World) (hH:Holds (fun(b:UInt8)=>Value.int .u8 (b.toNat:Int)) w blk off d) (hu:u<10^d.size) (hu64:u<18446744073709551616) (hsz:d.size<4611686018427387904):
 Calls Tryz.prog 106 #[.slice (some ⟨blk,off,none⟩) d.size cap, .int .u64 u] w fun e w'=>
  e= .returned (.tuple #[])∧ ∃ (n v':Nat) (dk:Array UInt8),w'=(putRow (fun(b:UInt8)=>Value.int .u8 (b.toNat:Int)) w blk off dk).drewN n∧FmtInv d.size u 0 v' dk:=Any.internal_strconv_formatBase10 Tryz.lays285 blk off cap u d w hH hu hu64 hsz
open Go.RowKit Go.Sort Go.Lib
theorem Znz (w:World) (T:TypeId) (nd:Nat) (hs:nd≤24):Holds (fun(b:UInt8)=>Value.int .u8 (b.toNat:Int)) (w.alloc (.cells zeros24 T)) w.heap.size 0 (Array.replicate nd (0:UInt8)):=fun j hj=>by
 have hj':j<nd:=by simpa using hj
 refine⟨?_,World.frozen?_alloc_new _ _ _ _⟩
 rw[World.cell?_alloc_new,zeros24_at _ (by omega),getElem!_pos _ j hj]
 simp
theorem Zuw (w:World) (o:Obj) (dk:Array UInt8) (k:Nat): ∃os,(putRow (fun(b:UInt8)=>Value.int .u8 (b.toNat:Int)) (w.alloc o) w.heap.size 0 dk).drewN k=grow (w.drewN k) os:=by
 rw[alloc_eq_grow]
 obtain⟨os',_,e⟩:=putRow_grow_new (fun(b:UInt8)=>Value.int .u8 (b.toNat:Int)) w #[o] w.heap.size 0 dk (Nat.le_refl _)
 exact⟨os',by rw[e];rfl⟩
set_option maxHeartbeats 6400000 in
set_option maxRecDepth 100000 in
theorem ZpE (u:Nat) (hu64:u<18446744073709551616) (w:World) (htab:Lib.TabIs Tryz.prog w "internal/strconv.uint64pow10" .u64 Lib.pow10Tab):
 Calls Tryz.prog 91 #[.int .u64 u, .int .i64 10] w fun e w'=>e= .returned (.string ⟨(Lib.decDigits u).toArray⟩)∧ ∃k os,w'=grow (w.drewN k) os:=by
 by_cases hs:u<100
 ·have hwr:IntKind.i64.wrap (u:Int)=u:=by rw[IntKind.wrap_i64];omega
  have hlt:(u:Int)<100:=by omega
  go_enter Tryz.func91,Tryz.ntmps91
  go_wp2_with (go_at_call 104;refine(internal_strconv_small u hs _).mono ?_;rintro e w' ⟨rfl,rfl⟩)
  go_ret
  exact⟨rfl,0, #[],by simp[World.drewN_zero]⟩
 ·have hu1:1≤u:=by omega
  have hnd20:Lib.nDigits u≤20:=by have:=Lib.numDigits_eq u hu1 hu64;split at this<;>omega
  have hal:Tryz.prog.arrayLen 176=24:=by kernel_rfl
  have hb3:Lib.nDigits u≤24:=by omega
  have hge: ¬ ((u:Int)<100):=by omega
  have hsl1: ∀W,(Instr.sliceAt 176 (.pointer (some ⟨w.heap.size,0,none⟩)) none (some (.int .i64 (Lib.nDigits u:Int))) none).run Tryz.prog W= .ok (.slice (some ⟨w.heap.size,0,none⟩) (Lib.nDigits u) 24) W:=fun W=>by
   rw[run_sliceAt_array_h W 176 ⟨w.heap.size,0,none⟩ (by kernel_rfl) .i64 (Lib.nDigits u:Int) (by omega) (by rw[hal];omega)]
   go_simp
  have hH0:=Znz w 176 (Lib.nDigits u) (by omega)
  have hfmt:=internal_strconv_formatBase10 w.heap.size 0 24 u (Array.replicate (Lib.nDigits u) 0) (w.alloc (.cells Lib.zeros24 176)) hH0 (by rw[Array.size_replicate];exact Lib.lt_pow_nDigits u) hu64 (by rw[Array.size_replicate];omega)
  rw[Array.size_replicate]at hfmt
  have HH0:=Lib.hid hH0
  clear hH0 hal
  go_enter Tryz.func91,Tryz.ntmps91
  go_wp2_with (go_at_call 105;refine(internal_strconv_numDigits u hu1 hu64 _ (Lib.tabIs_alloc htab _)).mono ?_;rintro e w' ⟨rfl,rfl⟩)
  go_at_call 106
  refine hfmt.mono ?_
  rintro e w' ⟨rfl,k,v',dk,rfl,hF⟩
  have hcv:(convert 119 9 (.slice (some ⟨w.heap.size,0,none⟩) (Lib.nDigits u) 24)).run Tryz.prog ((putRow (fun(b:UInt8)=>Value.int .u8 (b.toNat:Int)) (w.alloc (.cells Lib.zeros24 176)) w.heap.size 0 dk).drewN k)= .ok (.string ⟨(Lib.decDigits u).toArray⟩) ((putRow (fun(b:UInt8)=>Value.int .u8 (b.toNat:Int)) (w.alloc (.cells Lib.zeros24 176)) w.heap.size 0 dk).drewN k):=by
   have h:=run_convert_bytes_back (P:=Tryz.prog) ((putRow (fun(b:UInt8)=>Value.int .u8 (b.toNat:Int)) (w.alloc (.cells Lib.zeros24 176)) w.heap.size 0 dk).drewN k) 119 9 5 ⟨w.heap.size,0,none⟩ 24 (Lib.decDigits u) Tryz.underlying119 Tryz.underlying5 Tryz.underlying9 (fun j hj=>by
    rw[Lib.row_is_numeral hF j hj,Lib.add_plain,World.cell?_drewN]
    exact cell?_putRow (fun(b:UInt8)=>Value.int .u8 (b.toNat:Int)) _ w.heap.size 0 _ dk HH0.out (by rw[hF.size,Array.size_replicate]) j (by rw[hF.size];rw[Lib.decDigits_length]at hj;exact hj))
   rw[Lib.decDigits_length]at h
   exact h
  go_wp2
  go_ret
  obtain⟨os,eo⟩:=Zuw w (.cells Lib.zeros24 176) dk k
  exact⟨rfl,k,os,eo⟩
open Go.Shelf Go.RowKit
theorem Zta:(Tryz.prog.info? 152).map (·.size)=some 2:=by kernel_rfl
theorem Zv4:liesAt Tryz.prog Tryz.prog.depth 152 (2/Tryz.prog.cellsOf 152) 0 152 1=true:=by kernel_rfl
theorem Zq7:(Tryz.prog.info? 5).map (fun i=>(i.zero,i.size,i.bytes))=some (some (.int .u8 0),1,1):=by kernel_rfl
set_option maxHeartbeats 1000000 in
set_option maxRecDepth 100000 in
theorem Zjf (b:Nat) (w:World) (h0:w.cell? ⟨b,0,none⟩=some (.pointer (some ⟨b,0,none⟩))):
 Calls Tryz.prog 92 #[.pointer (some ⟨b,0,none⟩)] w fun e w'=>e= .returned (.tuple #[])∧w'=w:=by
 obtain⟨j,hj,_⟩:=Option.map_eq_some_iff.1 Zta
 go_enter Tryz.func92,Tryz.ntmps92
 go_wp2
 rw[Lib.run_neq_ptr_same w _ Tryz.underlying150 hj]
 go_wp2
 go_end0
 exact⟨rfl,rfl⟩
set_option maxHeartbeats 1000000 in
set_option maxRecDepth 100000 in
theorem Zif (b:Nat) (w:World) (h0:w.cell? ⟨b,0,none⟩=some (.pointer none)) (hsh:w.shape? b=some (152,2)) (hfz:w.frozen? ⟨b,0,none⟩=false):
 Calls Tryz.prog 92 #[.pointer (some ⟨b,0,none⟩)] w fun e w'=>e= .returned (.tuple #[])∧w'=w.setCell ⟨b,0,none⟩ (.pointer (some ⟨b,0,none⟩)):=by
 obtain⟨j,hj,hjs⟩:=Option.map_eq_some_iff.1 Zta
 go_enter Tryz.func92,Tryz.ntmps92
 go_wp2
 rw[Lib.run_to_unsafe w ⟨b,0,none⟩ Tryz.underlying150 Tryz.underlying181 hj (by rw[hjs];decide) hsh (Nat.zero_lt_succ 1)]
 simp only[Result.andThen]
 rw[Oper.upon_value]
 go_wp2
 rw[run_callFunc_extern Tryz.func108 (by kernel_rfl) (by kernel_rfl) (by kernel_rfl) (e:=Extern.AbiNoEscape.same) (by kernel_rfl)]
 rw[Lib.run_noEscape]
 simp only[Result.andThen]
 rw[Oper.upon_value]
 go_wp2
 rw[Lib.run_from_unsafe w ⟨b,0,none⟩ Tryz.underlying181 Tryz.underlying150 hj hsh Zv4]
 simp only[Result.andThen]
 rw[Oper.upon_value]
 go_wp2
 go_end0
 exact⟨rfl,rfl⟩
theorem Zm3 (B b:Nat) (bs:List Value) (w:World) (h:Lib.IsBuilderF 152 5 B b bs w):
 Calls Tryz.prog 92 #[.pointer (some ⟨b,0,none⟩)] w fun e w'=>e= .returned (.tuple #[])∧(Lib.BuilderAtF 152 5 B b (.pointer (some ⟨b,0,none⟩)) bs w'∧Below B w w'∧Lib.OthersKept 5 (some b) w w'):=by
 rcases h with h|h
 ·refine(Zif b w h.cell0 h.shape h.frozen0).mono ?_
  rintro e w' ⟨rfl,rfl⟩
  exact⟨rfl,h.used _,(Below.refl B w).setCell (p:=⟨b,0,none⟩) h.1 _,(Lib.OthersKept.refl _ _ w).setCell ⟨b,0,none⟩ rfl _⟩
 ·refine(Zjf b w h.cell0).mono ?_
  rintro e w' ⟨rfl,rfl⟩
  exact⟨rfl,h,Below.refl B _,Lib.OthersKept.refl _ _ _⟩
set_option maxHeartbeats 2000000 in
set_option maxRecDepth 100000 in
theorem Zed (B b:Nat) (bs:List Value) (s:ByteArray) (w:World) (h:Lib.IsBuilderF 152 5 B b bs w) (hlen:bs.length+s.size≤140737488355328) (hBw:B≤w.heap.size):
 Calls Tryz.prog 79 #[.pointer (some ⟨b,0,none⟩), .string s] w fun e w'=>e= .returned (.tuple #[.int .i64 s.size, .nilIface])∧(Lib.BuilderAtF 152 5 B b (.pointer (some ⟨b,0,none⟩)) (bs++Lib.strCells s) w'∧Below B w w'∧Lib.OthersKept 5 (some b) w w'):=by
 obtain⟨i0,hi,hz0,hz1,hz2⟩:=info_parts Zq7
 go_enter Tryz.func79,Tryz.ntmps79
 go_wp2_with (go_at_call 92;refine(Zm3 B b bs _ h).mono ?_)
 rintro e w1 ⟨rfl,h1,hb1,hk1⟩
 obtain⟨hB,v,hbk,hown,hne⟩:=h1
 have c0:w1.cell? ⟨b,0,none⟩=some (.pointer (some ⟨b,0,none⟩)):=by rw[Lib.cell_of_heap hbk];rfl
 have c1:w1.cell? ⟨b,1,none⟩=some v:=by rw[Lib.cell_of_heap hbk];rfl
 go_wp2_with (at_builtin;refine Lib.wpList_append_own_stringF _ rfl _ _ 119 9 rfl B 5 i0 Tryz.underlying119 Tryz.underlying9 hi hz0 hz1 hz2 _ _ _ rfl hown s rfl ?c3 ?c4 ?c5 ?_)
 case c3=>unfold maxLen;omega
 case c4=>omega
 case c5=>have:=hb1.size;omega
 intro v' w2 hown' hgrow _
 have hlt:b<w1.heap.size:=by
  rcases Nat.lt_or_ge b w1.heap.size with h'|h'
  ·exact h'
  ·simp[Array.getElem?_eq_none h']at hbk
 have hb2:w2.heap[b]? =some (.cells #[.pointer (some ⟨b,0,none⟩),v] 152 (0,0)):=by
  rw[hgrow.block b hlt (fun e=>hne e.symm)]
  exact hbk
 have d0:w2.cell? ⟨b,0,none⟩=some (.pointer (some ⟨b,0,none⟩)):=by rw[Lib.cell_of_heap hb2];rfl
 have d1:w2.cell? ⟨b,1,none⟩=some v:=by rw[Lib.cell_of_heap hb2];rfl
 have f1:w2.frozen? ⟨b,1,none⟩=false:=Lib.frozen_of_heap hb2 1
 obtain⟨ao,n',cap,rfl⟩: ∃ao n' cap,v'= .slice ao n' cap:=by
  rcases hown'.2 with⟨hv,_⟩|⟨g,cap,cur,fz,hv,_⟩
  ·exact⟨_,_,_,hv⟩
  ·exact⟨_,_,_,hv⟩
 go_wp2
 go_ret2
 refine⟨rfl, ?_, ?_,(hk1.grown hgrow (Lib.ownsRowF_kind hown)).setCell ⟨b,1,none⟩ rfl _⟩
 ·exact Lib.BuilderAtF.put (T:=152) (e:=5) hB hb2 (bs':=bs++Lib.strCells s) (by simpa[Lib.strCells_length]using hown') (by decide)
 ·exact(hb1.grown hgrow (by have:=hb1.size;omega) (fun k hk=>(hown.lt k hk).1)).setCell (p:=⟨b,1,none⟩) hB _
theorem Zn2:Builder.Extra Tryz.prog Tryz.lays169_ren where
 sizeBuilder:=by kernel_rfl
 liesBuilder:=by kernel_rfl
 t5:=Tryz.underlying5
 a5:=Tryz.isAgg5
 z5:=Tryz.sizeOf5
 v5:=Tryz.zeroValue5
 infoByte:=by kernel_rfl
 cellsByte:=by kernel_rfl
 sizeByte:=by kernel_rfl
 neB5:=by decide
theorem Zjj (B b:Nat) (l:List UInt8) (w:World) (h:Lib.IsBuilderF 152 5 B b (Lib.byteCells l) w) (hBw:B≤w.heap.size):
 Calls Tryz.prog 80 #[.pointer (some ⟨b,0,none⟩)] w fun e w'=>e= .returned (.string ⟨l.toArray⟩)∧(Lib.IsBuilderF 152 5 B b (Lib.byteCells l) w'∧Below B w w'∧Lib.OthersKept 5 (some b) w w'):=Any.Builder_String_any_k Tryz.lays169 Zn2 B b l w h hBw
set_option maxRecDepth 100000 in
theorem Zsk (u:Nat) (hu64:u<18446744073709551616) (w:World) (htab:Lib.TabIs Tryz.prog w "internal/strconv.uint64pow10" .u64 Lib.pow10Tab):
 Calls Tryz.prog 78 #[.int .u64 u, .int .i64 10] w fun e w'=>e= .returned (.string ⟨(Lib.decDigits u).toArray⟩)∧ ∃k os,w'=grow (w.drewN k) os:=by
 go_enter Tryz.func78,Tryz.ntmps78
 go_wp2_with (go_at_call 91;refine(ZpE u hu64 _ htab).mono ?_;rintro e w' ⟨rfl,k,os,rfl⟩)
 go_ret
 exact⟨rfl,k,os,rfl⟩
end Go.Proofs.YtkhpbclcfldhmaaGreatDoor
/-
 A number's text out of its digits to the base 10^9.
-/
namespace Dv
open Go Go.Lib
def pvN:List Nat→Nat
 | []=>0
 |p::r=>p+1000000000*pvN r
def Ztd (p:Nat):List UInt8:=List.replicate (9-(decDigits p).length) 48++decDigits p
def ZbB:List Nat→List UInt8
 | []=> []
 |p::r=>match r with
  | []=>decDigits p
  |_::_=>ZbB r++Ztd p
theorem ZlV (p:Nat):ZbB [p]=decDigits p:=rfl
theorem Zqs (p:Nat) {r:List Nat} (h:r≠ []):ZbB (p::r)=ZbB r++Ztd p:=by
 cases r with
 |nil=>exact absurd rfl h
 |cons _ _=>rfl
theorem Zs9 (k:Nat) (s:List UInt8):dec (List.replicate k 48++s)=dec s:=by
 induction k with
 |zero=>rfl
 |succ k ih=>rw[List.replicate_succ,List.cons_append,ZfX,ih];simp
theorem Zlx {p:Nat} (h:p<1000000000):(Ztd p).length=9∧Dg (Ztd p)∧dec (Ztd p)=p:=by
 have h9:=(ZcP (n:=p) (k:=9) (by decide)).2 h
 refine⟨by rw[Ztd,List.length_append,List.length_replicate];omega, ?_,by rw[Ztd,Zs9,Zbj]⟩
 refine Dg.app ?_ (ZbH p)
 intro c hc
 rw[List.eq_of_mem_replicate hc]
 decide
theorem Cn.head {s:List UInt8} (h:Cn s) (h1:1≤dec s):s.head?≠some 48:=by
 rcases s with _|⟨c,s⟩
 ·exact absurd rfl h.1
 ·rcases s with _|⟨d,s⟩
  ·rw[Zkh]at h1
   simp only[List.head?_cons,ne_eq,Option.some.injEq]
   rintro rfl
   exact absurd h1 (by decide)
  ·exact h.2.2 (by simp)
theorem ZjS: ∀ {ns:List Nat},ns≠ []→(∀p∈ns,p<1000000000)→(2≤ns.length→ns.getLast?≠some 0)→Cn (ZbB ns)∧dec (ZbB ns)=pvN ns
 | [],h,_,_=>absurd rfl h
 | [p],_,_,_=>by
  rw[ZlV,Zbj]
  exact⟨ZdG p,by simp[pvN]⟩
 |p::q::r,_,h2,h3=>by
  have h3':(q::r).getLast?≠some 0:=by
   have:=h3 (by simp)
   rwa[List.getLast?_cons_cons]at this
  obtain⟨h4,h5⟩:=ZjS (ns:=q::r) (by simp) (fun x hx=>h2 x (List.mem_cons_of_mem _ hx)) fun _=>h3'
  obtain⟨h6,h7,h8⟩:=Zlx (h2 p List.mem_cons_self)
  have hpos:1≤pvN (q::r):=by
   have: ∀l:List Nat,l≠ []→l.getLast?≠some 0→1≤pvN l:=by
    intro l
    induction l with
    |nil=>intro h;exact absurd rfl h
    |cons x l ih=>
     intro _ hl
     cases l with
     |nil=>
      have:x≠0:=fun e=>hl (by rw[e];rfl)
      simp only[pvN];omega
     |cons y l=>
      have:=ih (by simp) (by rwa[List.getLast?_cons_cons]at hl)
      simp only[pvN]at this⊢
      omega
   exact this _ (by simp) h3'
  have e:ZbB (p::q::r)=ZbB (q::r)++Ztd p:=rfl
  rw[e,ZmN,h5,h6,h8]
  refine⟨⟨by simp[h4.1],h4.2.1.app h7,fun _=> ?_⟩,by show _=p+1000000000*pvN (q::r);omega⟩
  have:=h4.head (by rw[h5];exact hpos)
  cases hj:ZbB (q::r)with
  |nil=>exact absurd hj h4.1
  |cons x t=>rw[hj]at this;simpa using this
theorem Ztx {ns:List Nat} (h1:ns≠ []) (h2: ∀p∈ns,p<1000000000) (h3:2≤ns.length→ns.getLast?≠some 0):ZbB ns=decDigits (pvN ns):=by
 obtain⟨h4,h5⟩:=ZjS h1 h2 h3
 rw[←h4.eq,h5]
theorem Zrj: ∀ (l:List Nat) (p:Nat),pvN (l++ [p])=pvN l+1000000000^l.length*p
 | [],p=>by simp[pvN]
 |x::l,p=>by
  rw[List.cons_append,pvN,Zrj l p,pvN,List.length_cons,Nat.pow_succ,Nat.mul_add,←Nat.mul_assoc,Nat.mul_comm 1000000000 (1000000000^l.length)]
  omega
theorem Zii: ∀ (ns:List Nat),(∀p∈ns,p<1000000000)→(ZbB ns).length≤9*ns.length
 | [],_=>by simp[ZbB]
 | [p],h=>by
  rw[ZlV]
  have:=(ZcP (n:=p) (k:=9) (by decide)).2 (h p (by simp))
  simpa using this
 |p::q::r,h=>by
  have h1:=Zii (q::r) fun x hx=>h x (List.mem_cons_of_mem _ hx)
  have h2:=(Zlx (h p (by simp))).1
  have e:ZbB (p::q::r)=ZbB (q::r)++Ztd p:=rfl
  rw[e,List.length_append,h2]
  simp only[List.length_cons]at h1⊢
  omega
end Dv
/-
 A function whose first part the program logic walks and whose last part the kit's calculus does.
-/
namespace Go.Tx
open Go.Am Go.RowKit
def Zvh:Nat→Code→Code
 |n+1, .seq a r=>match n with
  |0=>a
  |_+1=> .seq a (Zvh n r)
 |_,c=>c
def Zsp:Nat→Code→Code
 |n+1, .seq _ r=>match n with
  |0=>r
  |_+1=>Zsp n r
 |_,c=>c
def ZsE:Nat→Code→Bool
 |n+1, .seq _ r=>match n with
  |0=>true
  |_+1=>ZsE n r
 |_,_=>false
section
variable [Laid] {P : Program} {h : Hints}
theorem Zvb (hS:Static P h) (hP:Zca P h) {c:Cx} {code:Code} {s s':St} {e:Ex} (hx:exS P h (lim P h) c code s=some (e,s')) (hok:Zbf h c.fid code=true):Hyp c s e s' (fun Q a w=>code.wp P Q a w):=by
 have h1:=Zd4 c code s _ hx
 obtain⟨n,hn⟩:=Zge.ex _ _ _ _ h1
 exact((ZfD hS hP n).2.1 _ _ _ _ _ (hn n (Nat.le_refl _)) hok).1
theorem Zmm (hS:Static P h) (hP:Zca P h) {c:Cx}: ∀ (n:Nat) (code:Code) (s:St) (e:Ex) (s':St),ZsE n code=true→exS P h (lim P h) c (Zvh n code) s=some (e,s')→Zbf h c.fid (Zvh n code)=true→
 ∀φ S w a B,Inv φ s.hp w S B→TRel φ w S c.N s.tm a→c.base≤s.hp.length→ ∀Q:Exit→Act→World→Prop,
 (∀a' w' φ' S',Inv φ' s'.hp w' S' B→Evo c.base B φ S w φ' S' w'→TRel φ' w' S' c.N s'.tm a'→(e≠ .normal→Q (conv e) a' w')∧(e= .normal→(Zsp n code).wp P Q a' w'))→code.wp P Q a w
 |0,code,s,e,s',hi,_,_=>by cases code<;>cases hi
 |n+1,code,s,e,s',hi,hx,hok=>by
  intro φ S w a B hI hT hb Q hQ
  cases code with
  |seq x r=>
   cases n with
   |zero=>
    refine wp_seq (Zvb hS hP hx hok φ S w a B hI hT hb _ ?_)
    intro a' w' φ' S' h1 h2 h3 _
    obtain⟨q1,q2⟩:=hQ a' w' φ' S' h1 h2 h3
    cases e with
    |normal=>exact q2 rfl
    |exit j=>exact q1 (by simp)
    |ret=>exact q1 (by simp)
   |succ n=>
    have hx':(exS P h (lim P h) c x s).bind (Zim (exS P h (lim P h) c (Zvh (n+1) r)))=some (e,s'):=hx
    have hok':(Zbf h c.fid x&&Zbf h c.fid (Zvh (n+1) r))=true:=hok
    rw[Bool.and_eq_true]at hok'
    cases h1:exS P h (lim P h) c x s with
    |none=>rw[h1]at hx';cases hx'
    |some y=>
     obtain⟨e1,s1⟩:=y
     rw[h1,Option.bind_some]at hx'
     refine wp_seq (Zvb hS hP h1 hok'.1 φ S w a B hI hT hb _ ?_)
     intro a1 w1 φ1 S1 g1 g2 g3 g4
     cases e1 with
     |normal=>
      refine Zmm hS hP (n+1) r s1 e s' hi hx' hok'.2 φ1 S1 w1 a1 B g1 g3 g4 Q ?_
      intro a' w' φ' S' k1 k2 k3
      exact hQ a' w' φ' S' k1 (g2.trans k2) k3
     |exit j=>
      simp only[Zim,Option.some.injEq,Prod.mk.injEq]at hx'
      obtain⟨rfl,rfl⟩:=hx'
      exact(hQ a1 w1 φ1 S1 g1 g2 g3).1 (by simp)
     |ret=>
      simp only[Zim,Option.some.injEq,Prod.mk.injEq]at hx'
      obtain⟨rfl,rfl⟩:=hx'
      exact(hQ a1 w1 φ1 S1 g1 g2 g3).1 (by simp)
  |_=>cases hi
theorem Zrp (hS:Static P h) (hP:Zca P h) {T:TypeId→TI} (hT:TysOK P T) {f:FuncId} {fn:Func} {code:Code} (n:Nat) (hi:ZsE n code=true) (hf:P.funcs[f]? =some fn) (hb:fn.body=some code) {Vs:List SV} {qs:List PV} {vals:List Value}
 (hn:Vs.length≤fn.ntmps) (hok:Zbf h f (Zvh n code)=true) {K:Ex→TM→List SM→Prop} (hw:wp P h T 0 ⟨f,0,fn.ntmps⟩ (Zvh n code) (ZcB 0 Vs) [] K) (hr:RL [] Vs qs) {S:Nat→Prop} {w:World} (hst: ∀b,S b→b<w.heap.size) (hL:Laid.ok S w) (hv:LRel w S qs vals) {R:Ending→World→Prop}
 (hQ: ∀e st tm hp φp a' w' φ' S',K e tm hp→SRep φp tm hp st→Inv φ' st.hp w' S' w.heap.size→Evo 0 w.heap.size (fun _=>none) S w φ' S' w'→TRel φ' w' S' fn.ntmps st.tm a'→(e≠ .normal→bodyPost P fn R (conv e) a' w')∧(e= .normal→(Zsp n code).wp P (bodyPost P fn R) a' w')):
 Calls P f vals.toArray w R:=by
 obtain⟨e,st',φ',tm',hp',h1,_,h3,h4⟩:=Zmc hT _ _ _ _ _ [] ⟨Zbi 0 qs,[]⟩ hw (Nat.zero_le _) ⟨ZkG hr,RH.empty⟩
 have hvl:=Zf4 hv
 have hlen:=VL.length hvl
 have hq:=hr.len
 refine calls_of_wp hf hb (Zmm hS hP n code _ e st' hi h1 hok (fun _=>none) S w _ w.heap.size (Inv.empty S w hst hL) ?_ (Nat.le_refl _) _ fun a' w' φ' S' k1 k2 k3=>hQ e st' tm' hp' _ a' w' φ' S' h4 h3 k1 k2 k3)
 refine⟨by simp;omega,rfl, ?_⟩
 intro i p hp
 obtain⟨_,h5⟩:=ZeP qs 0 i p hp
 simp only[Nat.sub_zero]at h5
 obtain⟨u,h6,h7⟩:=VL.get hvl h5
 have hi:=(List.getElem?_eq_some_iff.1 h6).1
 refine⟨by show i<fn.ntmps;omega, ?_⟩
 have:(vals.toArray++Array.replicate (fn.ntmps-vals.toArray.size) undef).getD i undef=u:=by
  rw[Array.getD_eq_getD_getElem?,Array.getElem?_append_left (by simpa using hi)]
  simp[h6]
 rw[this];exact h7
end
end Go.Tx
