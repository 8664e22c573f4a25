/- Library functions under (large.Int).Text: strconv.FormatUint at base 10; strings.Builder (laid by the shelf). -/
import Derived.Lib.Walk
import Derived.BigCall
import Derived.BigGuard
import Derived.Test.YtapbiodcncnnfaaGreatDoorU7
import Derived.Lay
import Derived.LaidSub
import Derived.Handed
set_option linter.all false
set_option maxHeartbeats 16000000
set_option maxRecDepth 1000000
namespace Go.Proofs.YtapbiodcncnnfaaGreatDoor
open Go.Shelf
theorem internal_strconv_small (i:Nat) (h:i<100) (w:World):
 Calls Tryz.prog 134 #[.int .i64 i] w fun e w'=>e= .returned (.string ⟨(Lib.decDigits i).toArray⟩)∧w'=w:=Any.internal_strconv_small Tryz.lays283 i h w
theorem internal_strconv_numDigits (u:Nat) (C:1≤u) (I:u<18446744073709551616) (w:World) (j:Lib.TabIs Tryz.prog w "internal/strconv.uint64pow10" .u64 Lib.pow10Tab):
 Calls Tryz.prog 135 #[.int .u64 u] w fun e w'=>e= .returned (.int .i64 (Lib.nDigits u))∧w'=w:=Any.internal_strconv_numDigits Tryz.laysM284 u C I w j
open Go.RowKit Go.Sort Go.Lib in
theorem internal_strconv_formatBase10 (blk off cap:Nat) (u:Nat) (d:Array UInt8) (w:World) (J:Holds (fun(b:UInt8)=>Value.int .u8 (b.toNat:Int)) w blk off d) (hu:u<10^d.size) (j:u<18446744073709551616) (C:d.size<4611686018427387904):
 Calls Tryz.prog 136 #[.slice (some ⟨blk,off,none⟩) d.size cap, .int .u64 u] w fun e w'=>
  e= .returned (.tuple #[])∧ ∃ (n R:Nat) (I:Array UInt8),w'=(putRow (fun(b:UInt8)=>Value.int .u8 (b.toNat:Int)) w blk off I).drewN n∧FmtInv d.size u 0 R I:=Any.internal_strconv_formatBase10 Tryz.lays285 blk off cap u d w J hu j C
open Go.RowKit Go.Sort Go.Lib
theorem Znc (w:World) (T:TypeId) (nd:Nat) (J:nd≤24):Holds (fun(b:UInt8)=>Value.int .u8 (b.toNat:Int)) (w.alloc (.cells zeros24 T)) w.heap.size 0 (Array.replicate nd (0:UInt8)):=fun j C=>by
 have I:j<nd:=by simpa using C
 refine⟨?_,World.frozen?_alloc_new _ _ _ _⟩
 rw[World.cell?_alloc_new,zeros24_at _ (by omega),getElem!_pos _ j C]
 simp
theorem Zvz (w:World) (o:Obj) (C:Array UInt8) (k:Nat): ∃os,(putRow (fun(b:UInt8)=>Value.int .u8 (b.toNat:Int)) (w.alloc o) w.heap.size 0 C).drewN k=grow (w.drewN k) os:=by
 rw[alloc_eq_grow]
 obtain⟨j,_,e⟩:=putRow_grow_new (fun(b:UInt8)=>Value.int .u8 (b.toNat:Int)) w #[o] w.heap.size 0 C (Xan _)
 exact⟨j,by rw[e];rfl⟩
theorem Zqa (u:Nat) (R:u<18446744073709551616) (w:World) (ad:Lib.TabIs Tryz.prog w "internal/strconv.uint64pow10" .u64 Lib.pow10Tab):
 Calls Tryz.prog 130 #[.int .u64 u, .int .i64 10] w fun e w'=>e= .returned (.string ⟨(Lib.decDigits u).toArray⟩)∧ ∃k os,w'=grow (w.drewN k) os:=by
 by_cases hs:u<100
 ·have ak:IntKind.i64.wrap (u:Int)=u:=by rw[IntKind.wrap_i64];omega
  have al:(u:Int)<100:=by omega
  go_enter Tryz.func130,Tryz.ntmps130
  go_wp2_with (go_at_call 134;refine(internal_strconv_small u hs _).mono ?_;rintro e w' ⟨rfl,rfl⟩)
  go_ret
  exact⟨rfl,0, #[],by simp[World.drewN_zero]⟩
 ·have ae:1≤u:=by omega
  have ai:Lib.nDigits u≤20:=by have:=Lib.numDigits_eq u ae R;split at this<;>omega
  have af:Tryz.prog.arrayLen 191=24:=by kernel_rfl
  have an:Lib.nDigits u≤24:=by omega
  have ao: ¬ ((u:Int)<100):=by omega
  have aj: ∀W,(Instr.sliceAt 191 (.pointer (some ⟨w.heap.size,0,none⟩)) none (some (.int .i64 (Lib.nDigits u:Int))) none).run Tryz.prog W= .ok (.slice (some ⟨w.heap.size,0,none⟩) (Lib.nDigits u) 24) W:=fun W=>by
   rw[run_sliceAt_array_h W 191 ⟨w.heap.size,0,none⟩ (by kernel_rfl) .i64 (Lib.nDigits u:Int) (by omega) (by rw[af];omega)]
   go_simp
  have ab:=Znc w 191 (Lib.nDigits u) (by omega)
  have aa:=internal_strconv_formatBase10 w.heap.size 0 24 u (Array.replicate (Lib.nDigits u) 0) (w.alloc (.cells Lib.zeros24 191)) ab (by rw[Array.size_replicate];exact Lib.lt_pow_nDigits u) R (by rw[Array.size_replicate];omega)
  rw[Array.size_replicate]at aa
  have HH0:=Lib.hid ab
  clear ab af
  go_enter Tryz.func130,Tryz.ntmps130
  go_wp2_with (go_at_call 135;refine(internal_strconv_numDigits u ae R _ (Lib.tabIs_alloc ad _)).mono ?_;rintro e w' ⟨rfl,rfl⟩)
  go_at_call 136
  refine aa.mono ?_
  rintro e w' ⟨rfl,k,v',dk,rfl,hF⟩
  have aq:(convert 137 9 (.slice (some ⟨w.heap.size,0,none⟩) (Lib.nDigits u) 24)).run Tryz.prog ((putRow (fun(b:UInt8)=>Value.int .u8 (b.toNat:Int)) (w.alloc (.cells Lib.zeros24 191)) w.heap.size 0 dk).drewN k)= .ok (.string ⟨(Lib.decDigits u).toArray⟩) ((putRow (fun(b:UInt8)=>Value.int .u8 (b.toNat:Int)) (w.alloc (.cells Lib.zeros24 191)) w.heap.size 0 dk).drewN k):=by
   have h:=run_convert_bytes_back (P:=Tryz.prog) ((putRow (fun(b:UInt8)=>Value.int .u8 (b.toNat:Int)) (w.alloc (.cells Lib.zeros24 191)) w.heap.size 0 dk).drewN k) 137 9 5 ⟨w.heap.size,0,none⟩ 24 (Lib.decDigits u) Tryz.underlying137 Tryz.underlying5 Tryz.underlying9 (fun j hj=>by
    rw[Lib.row_is_numeral hF j hj,Lib.add_plain,World.cell?_drewN]
    exact cell?_putRow (fun(b:UInt8)=>Value.int .u8 (b.toNat:Int)) _ w.heap.size 0 _ dk HH0.out (by rw[hF.size,Array.size_replicate]) j (by rw[hF.size];rw[Lib.decDigits_length]at hj;exact hj))
   rw[Lib.decDigits_length]at h
   exact h
  go_wp2
  go_ret
  obtain⟨os,eo⟩:=Zvz w (.cells Lib.zeros24 191) dk k
  exact⟨rfl,k,os,eo⟩
open Go.Shelf Go.RowKit
theorem ZsF:(Tryz.prog.info? 179).map (·.size)=some 2:=by kernel_rfl
theorem ZxH:liesAt Tryz.prog Tryz.prog.depth 179 (2/Tryz.prog.cellsOf 179) 0 179 1=true:=by kernel_rfl
theorem Zto:(Tryz.prog.info? 5).map (fun i=>(i.zero,i.size,i.bytes))=some (some (.int .u8 0),1,1):=by kernel_rfl
theorem Zju (b:Nat) (w:World) (U:w.cell? ⟨b,0,none⟩=some (.pointer (some ⟨b,0,none⟩))):
 Calls Tryz.prog 131 #[.pointer (some ⟨b,0,none⟩)] w fun e w'=>e= .returned (.tuple #[])∧w'=w:=by
 obtain⟨j,R,_⟩:=Option.map_eq_some_iff.1 ZsF
 go_enter Tryz.func131,Tryz.ntmps131
 go_wp2
 rw[Lib.run_neq_ptr_same w _ Tryz.underlying177 R]
 go_wp2
 go_end0
 exact⟨rfl,rfl⟩
theorem Zi0 (b:Nat) (w:World) (h0:w.cell? ⟨b,0,none⟩=some (.pointer none)) (J:w.shape? b=some (179,2)) (aa:w.frozen? ⟨b,0,none⟩=false):
 Calls Tryz.prog 131 #[.pointer (some ⟨b,0,none⟩)] w fun e w'=>e= .returned (.tuple #[])∧w'=w.setCell ⟨b,0,none⟩ (.pointer (some ⟨b,0,none⟩)):=by
 obtain⟨j,hj,U⟩:=Option.map_eq_some_iff.1 ZsF
 go_enter Tryz.func131,Tryz.ntmps131
 go_wp2
 rw[Lib.run_to_unsafe w ⟨b,0,none⟩ Tryz.underlying177 Tryz.underlying196 hj (by rw[U];decide) J (Nat.zero_lt_succ 1)]
 simp only[Result.andThen]
 rw[Oper.upon_value]
 go_wp2
 rw[run_callFunc_extern Tryz.func138 (by kernel_rfl) (by kernel_rfl) (by kernel_rfl) (e:=Extern.AbiNoEscape.same) (by kernel_rfl)]
 rw[Lib.run_noEscape]
 simp only[Result.andThen]
 rw[Oper.upon_value]
 go_wp2
 rw[Lib.run_from_unsafe w ⟨b,0,none⟩ Tryz.underlying196 Tryz.underlying177 hj J ZxH]
 simp only[Result.andThen]
 rw[Oper.upon_value]
 go_wp2
 go_end0
 exact⟨rfl,rfl⟩
theorem Zof (B b:Nat) (j:List Value) (w:World) (h:Lib.IsBuilderF 179 5 B b j w):
 Calls Tryz.prog 131 #[.pointer (some ⟨b,0,none⟩)] w fun e w'=>e= .returned (.tuple #[])∧(Lib.BuilderAtF 179 5 B b (.pointer (some ⟨b,0,none⟩)) j w'∧Below B w w'∧Lib.OthersKept 5 (some b) w w'):=by
 rcases h with h|h
 ·refine(Zi0 b w h.cell0 h.shape h.frozen0).mono ?_
  rintro e w' ⟨rfl,rfl⟩
  exact⟨rfl,h.used _,(Below.refl B w).setCell (p:=⟨b,0,none⟩) h.1 _,(Lib.OthersKept.refl _ _ w).setCell ⟨b,0,none⟩ rfl _⟩
 ·refine(Zju b w h.cell0).mono ?_
  rintro e w' ⟨rfl,rfl⟩
  exact⟨rfl,h,Below.refl B _,Lib.OthersKept.refl _ _ _⟩
theorem Zeg (B b:Nat) (bs:List Value) (s:ByteArray) (w:World) (h:Lib.IsBuilderF 179 5 B b bs w) (hlen:bs.length+s.size≤140737488355328) (aq:B≤w.heap.size):
 Calls Tryz.prog 125 #[.pointer (some ⟨b,0,none⟩), .string s] w fun e w'=>e= .returned (.tuple #[.int .i64 s.size, .nilIface])∧(Lib.BuilderAtF 179 5 B b (.pointer (some ⟨b,0,none⟩)) (bs++Lib.strCells s) w'∧Below B w w'∧Lib.OthersKept 5 (some b) w w'):=by
 obtain⟨i0,hi,ah,ai,aj⟩:=info_parts Zto
 go_enter Tryz.func125,Tryz.ntmps125
 go_wp2_with (go_at_call 131;refine(Zof B b bs _ h).mono ?_)
 rintro e w1 ⟨rfl,h1,ad,ak⟩
 obtain⟨hB,v,R,I,al⟩:=h1
 have c0:w1.cell? ⟨b,0,none⟩=some (.pointer (some ⟨b,0,none⟩)):=by rw[Lib.cell_of_heap R];rfl
 have c1:w1.cell? ⟨b,1,none⟩=some v:=by rw[Lib.cell_of_heap R];rfl
 go_wp2_with (at_builtin;refine Lib.wpList_append_own_stringF _ rfl _ _ 137 9 rfl B 5 i0 Tryz.underlying137 Tryz.underlying9 hi ah ai aj _ _ _ rfl I s rfl ?c3 ?c4 ?c5 ?_)
 case c3=>unfold maxLen;omega
 case c4=>omega
 case c5=>have:=ad.size;omega
 intro v' w2 J C _
 have an:b<w1.heap.size:=by
  rcases XaO b w1.heap.size with h'|h'
  ·exact h'
  ·simp[Array.getElem?_eq_none h']at R
 have U:w2.heap[b]? =some (.cells #[.pointer (some ⟨b,0,none⟩),v] 179 (0,0)):=by
  rw[C.block b an (fun e=>al e.symm)]
  exact R
 have d0:w2.cell? ⟨b,0,none⟩=some (.pointer (some ⟨b,0,none⟩)):=by rw[Lib.cell_of_heap U];rfl
 have d1:w2.cell? ⟨b,1,none⟩=some v:=by rw[Lib.cell_of_heap U];rfl
 have f1:w2.frozen? ⟨b,1,none⟩=false:=Lib.frozen_of_heap U 1
 obtain⟨ao,n',cap,rfl⟩: ∃ao n' cap,v'= .slice ao n' cap:=by
  rcases J.2 with⟨hv,_⟩|⟨g,cap,cur,fz,hv,_⟩
  ·exact⟨_,_,_,hv⟩
  ·exact⟨_,_,_,hv⟩
 go_wp2
 go_ret2
 refine⟨rfl, ?_, ?_,(ak.grown C (Lib.ownsRowF_kind I)).setCell ⟨b,1,none⟩ rfl _⟩
 ·exact Lib.BuilderAtF.put (T:=179) (e:=5) hB U (bs':=bs++Lib.strCells s) (by simpa[Lib.strCells_length]using J) (by decide)
 ·exact(ad.grown C (by have:=ad.size;omega) (fun k hk=>(I.lt k hk).1)).setCell (p:=⟨b,1,none⟩) hB _
theorem Zol:Builder.Extra Tryz.prog Tryz.lays169_ren where
 sizeBuilder:=by kernel_rfl
 liesBuilder:=by kernel_rfl
 t5:=Tryz.underlying5
 a5:=Tryz.isAgg5
 z5:=Tryz.sizeOf5
 v5:=Tryz.zeroValue5
 infoByte:=by kernel_rfl
 cellsByte:=by kernel_rfl
 sizeByte:=by kernel_rfl
 neB5:=by decide
theorem ZjB (B b:Nat) (l:List UInt8) (w:World) (h:Lib.IsBuilderF 179 5 B b (Lib.byteCells l) w) (j:B≤w.heap.size):
 Calls Tryz.prog 126 #[.pointer (some ⟨b,0,none⟩)] w fun e w'=>e= .returned (.string ⟨l.toArray⟩)∧(Lib.IsBuilderF 179 5 B b (Lib.byteCells l) w'∧Below B w w'∧Lib.OthersKept 5 (some b) w w'):=Any.Builder_String_any_k Tryz.lays169 Zol B b l w h j
theorem Ztg (u:Nat) (J:u<18446744073709551616) (w:World) (R:Lib.TabIs Tryz.prog w "internal/strconv.uint64pow10" .u64 Lib.pow10Tab):
 Calls Tryz.prog 124 #[.int .u64 u, .int .i64 10] w fun e w'=>e= .returned (.string ⟨(Lib.decDigits u).toArray⟩)∧ ∃k os,w'=grow (w.drewN k) os:=by
 go_enter Tryz.func124,Tryz.ntmps124
 go_wp2_with (go_at_call 130;refine(Zqa u J _ R).mono ?_;rintro e w' ⟨rfl,k,os,rfl⟩)
 go_ret
 exact⟨rfl,k,os,rfl⟩
end Go.Proofs.YtapbiodcncnnfaaGreatDoor
namespace Dv
open Go Go.Lib
def pvN:List Nat→Nat
 | []=>0
 |p::r=>p+1000000000*pvN r
def Zt3 (p:Nat):List UInt8:=List.replicate (9-(decDigits p).length) 48++decDigits p
def ZbP:List Nat→List UInt8
 | []=> []
 |p::r=>match r with
  | []=>decDigits p
  |_::_=>ZbP r++Zt3 p
theorem Zl7 (p:Nat):ZbP [p]=decDigits p:=rfl
theorem ZqH (p:Nat) {r:List Nat} (h:r≠ []):ZbP (p::r)=ZbP r++Zt3 p:=by
 cases r with
 |nil=>exact absurd rfl h
 |cons _ _=>rfl
theorem ZsQ (k:Nat) (s:List UInt8):dec (List.replicate k 48++s)=dec s:=by
 induction k with
 |zero=>rfl
 |succ k j=>rw[List.replicate_succ,XbH,ZcF,j];simp
theorem ZmH {p:Nat} (h:p<1000000000):(Zt3 p).length=9∧Dg (Zt3 p)∧dec (Zt3 p)=p:=by
 have C:=(Zbt (n:=p) (k:=9) (by decide)).2 h
 refine⟨by rw[Zt3,Xaw,List.length_replicate];omega, ?_,by rw[Zt3,ZsQ,Zay]⟩
 refine Dg.app ?_ (ZaT p)
 intro c j
 rw[List.eq_of_mem_replicate j]
 decide
theorem Cn.head {s:List UInt8} (h:Cn s) (j:1≤dec s):s.head?≠some 48:=by
 rcases s with _|⟨c,s⟩
 ·exact absurd rfl h.1
 ·rcases s with _|⟨d,s⟩
  ·rw[Zjo]at j
   simp only[List.head?_cons,ne_eq,Xaf]
   rintro rfl
   exact absurd j (by decide)
  ·exact h.2.2 (by simp)
theorem Zkb: ∀ {ns:List Nat},ns≠ []→(∀p∈ns,p<1000000000)→(2≤ns.length→ns.getLast?≠some 0)→Cn (ZbP ns)∧dec (ZbP ns)=pvN ns
 | [],h,_,_=>absurd rfl h
 | [p],_,_,_=>by
  rw[Zl7,Zay]
  exact⟨Zbi p,by simp[pvN]⟩
 |p::q::r,_,J,h3=>by
  have j:(q::r).getLast?≠some 0:=by
   have:=h3 (by simp)
   rwa[List.getLast?_cons_cons]at this
  obtain⟨I,R⟩:=Zkb (ns:=q::r) (by simp) (fun x hx=>J x (Xai _ hx)) fun _=>j
  obtain⟨h6,h7,h8⟩:=ZmH (J p Xah)
  have C:1≤pvN (q::r):=by
   have: ∀l:List Nat,l≠ []→l.getLast?≠some 0→1≤pvN l:=by
    intro l
    induction l with
    |nil=>intro h;exact absurd rfl h
    |cons x l ih=>
     intro _ U
     cases l with
     |nil=>
      have:x≠0:=fun e=>U (by rw[e];rfl)
      simp only[pvN];omega
     |cons y l=>
      have:=ih (by simp) (by rwa[List.getLast?_cons_cons]at U)
      simp only[pvN]at this⊢
      omega
   exact this _ (by simp) j
  have e:ZbP (p::q::r)=ZbP (q::r)++Zt3 p:=rfl
  rw[e,Zk3,R,h6,h8]
  refine⟨⟨by simp[I.1],I.2.1.app h7,fun _=> ?_⟩,by show _=p+1000000000*pvN (q::r);omega⟩
  have:=I.head (by rw[R];exact C)
  cases hj:ZbP (q::r)with
  |nil=>exact absurd hj I.1
  |cons x t=>rw[hj]at this;simpa using this
theorem ZvK {ns:List Nat} (j:ns≠ []) (C: ∀p∈ns,p<1000000000) (I:2≤ns.length→ns.getLast?≠some 0):ZbP ns=decDigits (pvN ns):=by
 obtain⟨J,R⟩:=Zkb j C I
 rw[←J.eq,R]
theorem Zsw: ∀ (l:List Nat) (p:Nat),pvN (l++ [p])=pvN l+1000000000^l.length*p
 | [],p=>by simp[pvN]
 |x::l,p=>by
  rw[XbH,pvN,Zsw l p,pvN,Xap,Nat.pow_succ,Nat.mul_add,←Nat.mul_assoc,Nat.mul_comm 1000000000 (1000000000^l.length)]
  omega
theorem Ziz: ∀ (ns:List Nat),(∀p∈ns,p<1000000000)→(ZbP ns).length≤9*ns.length
 | [],_=>by simp[ZbP]
 | [p],h=>by
  rw[Zl7]
  have:=(Zbt (n:=p) (k:=9) (by decide)).2 (h p (by simp))
  simpa using this
 |p::q::r,h=>by
  have j:=Ziz (q::r) fun x C=>h x (Xai _ C)
  have I:=(ZmH (h p (by simp))).1
  have e:ZbP (p::q::r)=ZbP (q::r)++Zt3 p:=rfl
  rw[e,Xaw,I]
  simp only[Xap]at j⊢
  omega
end Dv
namespace Go.Tx
open Go.Am Go.RowKit
def Zwp:Nat→Code→Code
 |n+1, .seq a r=>match n with
  |0=>a
  |_+1=> .seq a (Zwp n r)
 |_,c=>c
def Zsc:Nat→Code→Code
 |n+1, .seq _ r=>match n with
  |0=>r
  |_+1=>Zsc n r
 |_,c=>c
def ZsY:Nat→Code→Bool
 |n+1, .seq _ r=>match n with
  |0=>true
  |_+1=>ZsY n r
 |_,_=>false
section
variable [Laid] {P : Program} {h : Hints}
theorem Zwt (I:Static P h) (J:Zck P h) {c:Cx} {code:Code} {s C:St} {e:Ex} (R:exS P h (lim P h) c code s=some (e,C)) (j:Zbk h c.fid code=true):Hyp c s e C (fun Q a w=>code.wp P Q a w):=by
 have U:=Zei c code s _ R
 obtain⟨n,hn⟩:=ZgH.ex _ _ _ _ U
 exact((ZfO I J n).2.1 _ _ _ _ _ (hn n (Xan _)) j).1
theorem ZlX (hS:Static P h) (hP:Zck P h) {c:Cx}: ∀ (n:Nat) (code:Code) (s:St) (e:Ex) (J:St),ZsY n code=true→exS P h (lim P h) c (Zwp n code) s=some (e,J)→Zbk h c.fid (Zwp n code)=true→
 ∀φ S w a B,Inv φ s.hp w S B→TRel φ w S c.N s.tm a→c.base≤s.hp.length→ ∀Q:Exit→Act→World→Prop,
 (∀R w' φ' S',Inv φ' J.hp w' S' B→Evo c.base B φ S w φ' S' w'→TRel φ' w' S' c.N J.tm R→(e≠ .normal→Q (conv e) R w')∧(e= .normal→(Zsc n code).wp P Q R w'))→code.wp P Q a w
 |0,code,s,e,J,hi,_,_=>by cases code<;>cases hi
 |n+1,code,s,e,J,hi,hx,aa=>by
  intro φ S w a B hI hT hb Q hQ
  cases code with
  |seq x r=>
   cases n with
   |zero=>
    refine wp_seq (Zwt hS hP hx aa φ S w a B hI hT hb _ ?_)
    intro R w' φ' S' h1 h2 h3 _
    obtain⟨q1,q2⟩:=hQ R w' φ' S' h1 h2 h3
    cases e with
    |normal=>exact q2 rfl
    |exit j=>exact q1 (by simp)
    |ret=>exact q1 (by simp)
   |succ n=>
    have C:(exS P h (lim P h) c x s).bind (Zfw (exS P h (lim P h) c (Zwp (n+1) r)))=some (e,J):=hx
    have I:(Zbk h c.fid x&&Zbk h c.fid (Zwp (n+1) r))=true:=aa
    rw[Xag]at I
    cases h1:exS P h (lim P h) c x s with
    |none=>rw[h1]at C;cases C
    |some y=>
     obtain⟨e1,s1⟩:=y
     rw[h1,Xab]at C
     refine wp_seq (Zwt hS hP h1 I.1 φ S w a B hI hT hb _ ?_)
     intro a1 w1 U S1 g1 g2 g3 g4
     cases e1 with
     |normal=>
      refine ZlX hS hP (n+1) r s1 e J hi C I.2 U S1 w1 a1 B g1 g3 g4 Q ?_
      intro R w' φ' S' k1 k2 k3
      exact hQ R w' φ' S' k1 (g2.trans k2) k3
     |exit j=>
      simp only[Zfw,Xaf,Prod.mk.injEq]at C
      obtain⟨rfl,rfl⟩:=C
      exact(hQ a1 w1 U S1 g1 g2 g3).1 (by simp)
     |ret=>
      simp only[Zfw,Xaf,Prod.mk.injEq]at C
      obtain⟨rfl,rfl⟩:=C
      exact(hQ a1 w1 U S1 g1 g2 g3).1 (by simp)
  |_=>cases hi
theorem Zs7 (hS:Static P h) (hP:Zck P h) {T:TypeId→TI} (hT:TysOK P T) {f:FuncId} {fn:Func} {code:Code} (n:Nat) (hi:ZsY n code=true) (hf:P.funcs[f]? =some fn) (hb:fn.body=some code) {Vs:List SV} {J:List PV} {vals:List Value}
 (hn:Vs.length≤fn.ntmps) (U:Zbk h f (Zwp n code)=true) {K:Ex→TM→List SM→Prop} (hw:wp P h T 0 ⟨f,0,fn.ntmps⟩ (Zwp n code) (ZcW 0 Vs) [] K) (hr:RL [] Vs J) {S:Nat→Prop} {w:World} (aa: ∀b,S b→b<w.heap.size) (hL:Laid.ok S w) (hv:LRel w S J vals) {R:Ending→World→Prop}
 (hQ: ∀e st tm hp ab j w' φ' S',K e tm hp→SRep ab tm hp st→Inv φ' st.hp w' S' w.heap.size→Evo 0 w.heap.size (fun _=>none) S w φ' S' w'→TRel φ' w' S' fn.ntmps st.tm j→(e≠ .normal→bodyPost P fn R (conv e) j w')∧(e= .normal→(Zsc n code).wp P (bodyPost P fn R) j w')):
 Calls P f vals.toArray w R:=by
 obtain⟨e,C,φ',tm',hp',h1,_,h3,h4⟩:=ZkR hT _ _ _ _ _ [] ⟨Zbq 0 J,[]⟩ hw (Xao _) ⟨ZkI hr,RH.empty⟩
 have I:=Zgq hv
 have hlen:=VL.length I
 have hq:=hr.len
 refine calls_of_wp hf hb (ZlX hS hP n code _ e C hi h1 U (fun _=>none) S w _ w.heap.size (Inv.empty S w aa hL) ?_ (Xan _) _ fun j w' φ' S' k1 k2 k3=>hQ e C tm' hp' _ j w' φ' S' h4 h3 k1 k2 k3)
 refine⟨by simp;omega,rfl, ?_⟩
 intro i p hp
 obtain⟨_,h5⟩:=Zfn J 0 i p hp
 simp only[Nat.sub_zero]at h5
 obtain⟨u,h6,h7⟩:=VL.get I h5
 have hi:=(Xae.1 h6).1
 refine⟨by show i<fn.ntmps;omega, ?_⟩
 have:(vals.toArray++Array.replicate (fn.ntmps-vals.toArray.size) undef).getD i undef=u:=by
  rw[Array.getD_eq_getD_getElem?,Array.getElem?_append_left (by simpa using hi)]
  simp[h6]
 rw[this];exact h7
end
end Go.Tx
namespace Go.Proofs.YtapbiodcncnnfaaGreatDoor
open Go.RowKit Go.Shelf Go.Lib Dv Go.Tx Go.Am Go.Sort
theorem Zgz {T e:TypeId} {B b:Nat} {j:List Value} {w w':World} (h:Lib.IsBuilderF T e B b j w) (J:Below w.heap.size w w'):Lib.IsBuilderF T e B b j w':=by
 have at_: ∀p,Lib.BuilderAtF T e B b p j w→Lib.BuilderAtF T e B b p j w':=by
  rintro p ⟨R,v,U,⟨h3,C⟩,h5⟩
  have lt: ∀ (k:Nat) (o:Obj),w.heap[k]? =some o→w'.heap[k]? =some o:=fun k o I=>by rw[J.block k (Xbo.1 I).1];exact I
  refine⟨R,v,lt _ _ U,⟨h3, ?_⟩,h5⟩
  rcases C with C|⟨g,cap,cur,fz,h6,h7,h8,h9⟩
  ·exact .inl C
  ·exact .inr ⟨g,cap,cur,fz,h6,h7,lt _ _ h8,h9⟩
 exact h.imp (at_ _) (at_ _)
theorem ZgY (w:World) (k:Nat) (os:Array Obj):Below w.heap.size w (grow (w.drewN k) os):=
 ⟨rfl,rfl,rfl,by simp[grow],fun i hi=>by simp only[grow,World.heap_drewN];rw[Array.getElem?_append_left hi]⟩
theorem ZsH (a b:List UInt8):(⟨a.toArray⟩++⟨b.toArray⟩:ByteArray)=⟨(a++b).toArray⟩:=by
 apply ByteArray.ext
 simp
theorem ZuT (m:Bool) (ns:List Nat) (da:ns≠ []) (h9: ∀p∈ns,p<1000000000) (hlen:ns.length≤300) (b1 o1 b4 o4 cap:Nat) (x0 x2 x3 x5 x6 x7 x8 x9 aq ar au av aw ax ay az a1 a6 a7 a8 ba bb bc bd bf bg bh bj bk bl bm bn bo bp bq br bs bt bu bw bx bz b0 b5 b6 b7 b8 b9 ca cb cc cd cf cg ch cj ck cl cm cn cp cq cr cu cv cw cx cy cz c0:Value) (J:World)
 (c1:b1<J.heap.size) (c2:b4<J.heap.size) (hm:J.cell? ⟨b1,o1,none⟩=some (.bool m)) (hc: ∀j (hj:j<ns.length),J.cell? ⟨b4,o4+j,none⟩=some (.int .u32 (ns[j]:Nat)))
 (g:Nat) (hg:Tryz.prog.globalNamed ZeW=some g) (c3:g<J.heap.size) (ak:Lib.TabIs Tryz.prog J ZeW .u64 Lib.pow10Tab):
 (Zsc 5 (Zbn Tryz.f115)).wp Tryz.prog (bodyPost Tryz.prog Tryz.f115 fun e w'=>e= .returned (.tuple #[.string ⟨((match m with|true=> [45]|false=> [])++ZbP ns).toArray⟩, .bool (Nat.ble (ZbP ns).length 2000)])∧Below J.heap.size J w')
  ⟨((x0:: .pointer (some ⟨b1,o1,none⟩)::x2::x3:: .slice (some ⟨b4,o4,none⟩) ns.length cap::x5::x6::x7::x8::x9::aq::ar::au::av::aw::ax::ay::az::a1::a6::a7::a8::ba::bb::bc::bd::bf::bg::bh::bj::bk::bl::bm::bn::bo::bp::bq::br::bs::bt::bu::bw::bx::bz::b0::b5::b6::b7::b8::b9::ca::cb::cc::cd::cf::cg::ch::cj::ck::cl::cm::cn::cp::cq::cr::cu::cv::cw::cx::cy::cz::c0::[]):List Value).toArray,[]⟩ J:=by
 conv=>arg 2;simp only[Zsc,Zbn,Tryz.f115]
 go_wp2
 go_loopw [9] (fun v wr=> ∃i:Nat,i≤ns.length∧v= .int .i64 ((i:Int)-1)∧Lib.IsBuilderF 179 5 J.heap.size J.heap.size (Lib.byteCells (ZbP (ns.drop i))) wr∧Below J.heap.size J wr∧J.heap.size≤wr.heap.size)
  (fun v _=>match v with| .int _ x=>(x+1).toNat|_=>0)
 case atStart=>
  refine⟨ns.length,Xan _, ?_, ?_,(Below.refl _ J).alloc (Xan _) _,by simp⟩
  ·rfl
  ·rw[Xbm]
   exact Lib.IsBuilderF.of (Lib.fresh_isBuilder 179 5 J)
 case round=>
  obtain⟨i,hi,rfl,hI,ae,al⟩:=hrel
  rcases i with _|j
  ·rw[XaB]at hI
   have an:=Ziz ns h9
   go_wp2_with (go_at_call 126;refine(ZjB J.heap.size J.heap.size (ZbP ns) _ hI al).mono ?_)
   rintro e W1 ⟨rfl,_,c4,_⟩
   have ag:=ae.trans c4
   have db:W1.cell? ⟨b1,o1,none⟩=some (.bool m):=(ag.cell c1).trans hm
   have dc:decide (((ZbP ns).length:Int)≤2000)=Nat.ble (ZbP ns).length 2000:=by
    cases hb:Nat.ble (ZbP ns).length 2000 with
    |true=>have:=Xal hb;exact decide_eq_true (by omega)
    |false=>
     refine decide_eq_false fun h=> ?_
     rw[Xbj (by omega)]at hb;cases hb
   cases m
   ·go_wp2
    go_ret2
    refine⟨?_,ag⟩
    show Ending.returned (.tuple #[.string ⟨(ZbP ns).toArray⟩, .bool (Nat.ble (ZbP ns).length 2000)])=_
    rfl
   ·go_wp2
    go_ret2
    refine⟨?_,ag⟩
    show Ending.returned (.tuple #[.string (⟨[45].toArray⟩++⟨(ZbP ns).toArray⟩), .bool (Nat.ble (ZbP ns).length 2000)])=_
    rw[ZsH];rfl
  ·have hj:j<ns.length:=by omega
   obtain⟨p,hp⟩: ∃p,ns[j]=p:=⟨_,rfl⟩
   have c5:p<1000000000:=hp▸h9 _ (Xax hj)
   have dd:wr.cell? ⟨b4,o4+j,none⟩=some (.int .u32 (p:Nat)):=by rw[ae.cell c2,hc j hj,hp]
   have ab:Lib.TabIs Tryz.prog wr ZeW .u64 Lib.pow10Tab:=Zos hg (ae.block g c3) ak
   have de:IntKind.u64.wrap (p:Int)=p:=by rw[IntKind.wrap_u64];omega
   have c6:(((j+1:Nat):Int)-1)=j:=by omega
   rw[c6]
   have c7:(decDigits p).length≤9:=(Zbt (by decide)).2 c5
   have df:((decDigits p).length:Int)≤9:=by omega
   have an:=Ziz (ns.drop (j+1)) fun x hx=>h9 x (Xbl hx)
   rw[XaZ]at an
   have ao:ns.drop j=p::ns.drop (j+1):=by rw[Xaz hj,hp]
   have ad: ∀k os,Below J.heap.size J (grow (wr.drewN k) os):=fun k os=>ae.trans ((ZgY wr k os).mono al)
   by_cases ah:j+1=ns.length
   ·have c8: ¬ ((j:Int)<(ns.length:Int)-1):=by omega
    go_wp2_with (go_at_call 124;refine(Ztg p (by omega) _ ab).mono ?_;rintro e W1 ⟨rfl,k,os,rfl⟩)
    go_at_call 125
    refine(Zeg J.heap.size J.heap.size _ _ _ (Zgz hI (ZgY wr k os)) ?_ ?_).mono ?_
    ·rw[Lib.byteCells_length]
     show _+(decDigits p).toArray.size≤_
     rw[List.size_toArray];omega
    ·exact(ad k os).size
    rintro e W2 ⟨rfl,h2,b2,_⟩
    go_wp2
    go_roundw
    case rel=>
     refine⟨j,by omega,by go_num, ?_,(ad k os).trans b2,((ad k os).trans b2).size⟩
     refine Or.inr ?_
     have e:ZbP (ns.drop j)=ZbP (ns.drop (j+1))++decDigits p:=by
      rw[ao,ah,Xbm];rfl
     rw[e,Lib.byteCells_append]
     exact h2
    case measure=>
     show((j:Int)-1+1).toNat<((j:Int)+1).toNat
     omega
   ·have c8:((j:Int)<(ns.length:Int)-1):=by omega
    go_wp2_with (go_at_call 124;refine(Ztg p (by omega) _ ab).mono ?_;rintro e W1 ⟨rfl,k,os,rfl⟩)
    have hz: ∀L,L≤9→(⟨#[48,48,48,48,48,48,48,48,48]⟩:ByteArray).extract L 9=⟨(List.replicate (9-L) 48).toArray⟩:=by
     intro L hL
     have: ∀L:Fin 10,(⟨#[48,48,48,48,48,48,48,48,48]⟩:ByteArray).extract L.val 9=⟨(List.replicate (9-L.val) 48).toArray⟩:=by decide+kernel
     exact this ⟨L,by omega⟩
    rw[hz _ c7]
    go_at_call 125
    refine(Zeg J.heap.size J.heap.size _ _ _ (Zgz hI (ZgY wr k os)) ?_ ?_).mono ?_
    ·rw[Lib.byteCells_length]
     show _+(List.replicate (9-(decDigits p).length) (48:UInt8)).toArray.size≤_
     rw[List.size_toArray,List.length_replicate];omega
    ·exact(ad k os).size
    rintro e W2 ⟨rfl,h2,b2,_⟩
    have e2:Lib.byteCells (ZbP (ns.drop (j+1)))++Lib.strCells ⟨(List.replicate (9-(decDigits p).length) (48:UInt8)).toArray⟩=Lib.byteCells (ZbP (ns.drop (j+1))++List.replicate (9-(decDigits p).length) 48):=by
     rw[Lib.byteCells_append];rfl
    rw[e2]at h2
    have ai:=(ad k os).trans b2
    go_wp2_with (go_at_call 125;refine(Zeg J.heap.size J.heap.size _ _ _ (Or.inr h2) ?_ ai.size).mono ?_)
    ·rw[Lib.byteCells_length,Xaw,List.length_replicate]
     show _+(decDigits p).toArray.size≤_
     rw[List.size_toArray];omega
    rintro e W3 ⟨rfl,h3,b3,_⟩
    go_wp2
    go_roundw
    case rel=>
     refine⟨j,by omega,by go_num, ?_,ai.trans b3,(ai.trans b3).size⟩
     refine Or.inr ?_
     have e:ZbP (ns.drop j)=(ZbP (ns.drop (j+1))++List.replicate (9-(decDigits p).length) 48)++decDigits p:=by
      rw[ao,ZqH p (by rw[ne_eq,List.drop_eq_nil_iff];omega),Zt3,Xbn]
     rw[e,Lib.byteCells_append]
     exact h3
    case measure=>
     show((j:Int)-1+1).toNat<((j:Int)+1).toNat
     omega
open Go.Am Go.Tx Dv
noncomputable def Zo0:Am.Hints:=Zo2 fun _=>none
def ZrG (ns:List Nat):List Int:=ns.map fun n:Nat=>(n:Int)
theorem Zrq {k:Nat} {A:Int} (h:(1000000000:Int)^k≤A) (j:A<4294967296^210):k≤299:=by
 rcases XaO k 300 with h1|h1
 ·omega
 ·have C:(1000000000:Int)^300≤1000000000^k:=ZgS (b:=1000000000) (by decide) h1
  have I:(4294967296:Int)^210<1000000000^300:=by decide+kernel
  exact absurd (Int.lt_of_lt_of_le I (Int.le_trans C (Int.le_trans h (Xa6 j)))) (Int.lt_irrefl _)
def ZyL (a:List Int) (ns:List Nat):Prop:=(a≠ []→ns≠ [])∧(∀p∈ns,p<1000000000)∧(2≤ns.length→ns.getLast?≠some 0)∧(pvN ns:Int)=wv a∧ns.length≤300
theorem Zuu (m:Bool) (a:List Int) (ha:Wd a) (hl:a.length≤210):LoopOK Tryz.prog Zo0 0 ⟨115,0,72⟩ (Za4 Tryz.f115 7) [(1, .ptr 0 0 0),(4, .nils),(5,Zby a)] [.cell [.v .b m,Zby a] true]
 (fun e tm hp=>e= .exit 0∧ ∃ns,ZyL a ns∧ZcD 1 tm=some (.ptr 0 0 0)∧ZcD 4 tm=some (.ref 1 0 ns.length none)∧hp=[.cell [.v .b m,Zby a] true, .row (.i .u32) (ZrG ns) true]):=by
 refine Zaw Zag rfl (fun(s:List Nat×List Int)=> [(1, .ptr 0 0 0),(4, .ref 1 0 s.1.length none),(5,Zby s.2)]) (fun s=> [.cell [.v .b m,Zby a] true, .row (.i .u32) (ZrG s.1) true])
  (fun s=>Wd s.2∧s.2.length≤210∧(s.1=[]→s.2=a)∧(s.1≠ []→Nz s.2)∧(∀p∈s.1,p<1000000000)∧(wv s.2=0→2≤s.1.length→s.1.getLast?≠some 0)∧(pvN s.1:Int)+1000000000^s.1.length*wv s.2=wv a∧s.1.length≤300) (fun s=>(wv s.2).toNat+s.2.length) ?_ ([],a) ?_ ?_
 ·rintro⟨ns,cur⟩ ⟨hw,ad,h1,h2,h3,h4,C,U⟩
  simp only at hw ad h1 h2 h3 h4 C U
  refine Xaa (fun h=> ?_) (fun h=> ?_)
  ·have I:cur≠ []:=by
    rintro rfl
    have h':(0:Int)<(([]:List Int).length:Int):=of_decide_eq_true h
    simp at h'
   have ak:=Zbc hw
   have al:0≤wv cur % 1000000000:=Int.emod_nonneg _ (by decide)
   have an:wv cur % 1000000000<1000000000:=Int.emod_lt_of_pos _ (by decide)
   obtain⟨r,hr⟩: ∃r:Nat,wv cur % 1000000000=r:=⟨(wv cur % 1000000000).toNat,by omega⟩
   have ae:=Zbc ha
   have hA:wv a<4294967296^210:=Int.lt_of_lt_of_le ae.2 (ZgS (b:=4294967296) (by decide) hl)
   have ao:ns.length≤299:=by
    by_cases j:ns=[]
    ·subst j;simp
    ·have h5:=Zml hw (h2 j) I
     refine Zrq (A:=wv a) ?_ hA
     have h6:(1000000000:Int)^ns.length*1≤1000000000^ns.length*wv cur:=Xbe (by omega) (Xa6 (XbB (by decide)))
     omega
   have aq:(ZrG ns).length=ns.length:=by simp[ZrG]
   refine(ZjN _ rfl cur 1000000000 hw (by decide) (by decide) (by omega)).mono ?_
   rintro _ ⟨q,rfl,af,ar,ag⟩
   refine Xaa (by show 0+1≤1;decide) ?_
   refine Xaa (by show 0+ns.length≤(ZrG ns).length;omega) ?_
   refine Xaa (by show(ns.length+(0+1))*4≤_;omega) ?_
   refine(Zv8 _ rfl false q af (by omega)).mono ?_
   rintro _ ⟨s,rfl,J,aa,au,ah⟩
   have av:=Zbc J
   have e1:wv s=wv cur/1000000000:=by rw[ah,ag]
   have e2:ZrG (ns++ [r])=sub (ZrG ns) 0 ns.length++ [wv cur % 1000000000]:=by
    rw[sub,XaB,Xay (by omega),hr];simp[ZrG]
   refine⟨(ns++ [r],s),⟨J, ?_, ?_, ?_, ?_, ?_, ?_, ?_⟩, ?_, ?_⟩
   ·show s.length≤210;omega
   ·intro h;simp at h
   ·intro _;exact aa
   ·intro p hp
    rcases XaA.1 hp with hp|hp
    ·exact h3 p hp
    ·rw[Xat.1 hp];omega
   ·intro h0 R
    have h0:wv s=0:=h0
    rw[List.getLast?_concat]
    have j:ns≠ []:=by rintro rfl;simp at R
    have:=Zml hw (h2 j) I
    intro e
    cases e
    omega
   ·show(pvN (ns++ [r]):Int)+1000000000^(ns++ [r]).length*wv s=wv a
    have e5:((pvN (ns++ [r]):Nat):Int)=pvN ns+1000000000^ns.length*(r:Int):=by
     rw[Zsw,Xa7,XaX,Xbs];rfl
    rw[e5,Xaw,List.length_singleton,Xba,e1,←C]
    have e3:=XaS (wv cur) 1000000000
    rw[hr]at e3
    have e4:(1000000000:Int)^ns.length*wv cur=1000000000^ns.length*(r:Int)+1000000000^ns.length*1000000000*(wv cur/1000000000):=by
     rw[←e3,XbI,Xbx,e3]
    rw[e4];omega
   ·show(ns++ [r]).length≤300
    simp;omega
   ·show(wv s).toNat+s.length<(wv cur).toNat+cur.length
    have aj:1≤cur.length:=by
     cases cur with
     |nil=>exact absurd rfl I
     |cons x l=>simp
    by_cases hz:wv cur=0
    ·have hs:s=[]:=by
      rcases s with _|⟨x,l⟩
      ·rfl
      ·have:=Zml J aa (by simp)
       omega
     subst hs
     simp[wv];omega
    ·omega
   ·refine Zas rfl rfl ?_ ?_
    ·exact⟨⟨rfl,rfl⟩,⟨rfl,(by simp:(ns++ [r]).length=ns.length+1),(by simp:(ns++ [r]).length=ns.length+1)⟩,rfl,trivial⟩
    ·exact⟨⟨⟨rfl,rfl,trivial⟩,fun _=>rfl⟩,⟨e2,fun _=>rfl⟩,trivial⟩
  ·have ai:cur=[]:=by
    cases cur with
    |nil=>rfl
    |cons x r=>
     have h': ¬ (0:Int)<((x::r).length:Int):=of_decide_eq_false h
     simp at h'
   subst ai
   refine⟨rfl,ns,⟨?_,h3,fun R=>h4 rfl R, ?_, ?_⟩,rfl,rfl,rfl⟩
   ·exact fun ab j=>ab (h1 j).symm
   ·simpa[wv]using C
   ·exact U
 ·exact⟨ha,hl,fun _=>rfl,fun h=>absurd rfl h,fun p hp=>by simp at hp,fun _ h=>by simp at h,by simp[pvN],by simp⟩
 ·refine Zas rfl rfl ?_ ?_
  ·exact⟨⟨rfl,rfl⟩,⟨rfl,rfl,rfl⟩,rfl,trivial⟩
  ·exact⟨⟨⟨rfl,rfl,trivial⟩,fun _=>rfl⟩,rfl,trivial⟩
def ZA2 (m:Bool) (a:List Int) (e:Ex) (tm:TM) (hp:List SM):Prop:=
 (e= .ret∧ ∃s f,ZcD 2 tm=some (.v .s s)∧ZcD 3 tm=some (.v .b f)∧s=Zfv m a∧f=Zew a)∨
 (e= .normal∧a≠ []∧a.length≤210∧ ∃ns,ZyL a ns∧ZcD 1 tm=some (.ptr 0 0 0)∧ZcD 4 tm=some (.ref 1 0 ns.length none)∧hp=[.cell [.v .b m,Zby a] true, .row (.i .u32) (ZrG ns) true])
theorem Zyg (m:Bool) (a:List Int) (U:Wd a):wp Tryz.prog Zo0 tys 0 ⟨115,0,72⟩ (Zwp 5 (Zbn Tryz.f115)) (ZcW 0 [.agg [.v .b m,Zby a]]) [] (ZA2 m a):=by
 refine Xaa rfl ?_
 refine Xaa (fun h=> ?_) (fun h=> ?_)
 ·have he:a=[]:=by
   have R:(a.length:Int)=0:=of_decide_eq_true h
   exact XaY.1 (by omega)
  subst he
  exact .inl ⟨rfl,_,_,rfl,rfl,rfl,rfl⟩
 ·have j:a≠ []:=by
   rintro rfl
   exact absurd rfl (of_decide_eq_false h: ¬ (([]:List Int).length:Int)=0)
  have he:a.isEmpty=false:=by simpa using j
  refine Xaa rfl ?_
  refine Xaa (fun I=> ?_) (fun I=> ?_)
  ·have J:210<a.length:=by
    have R:(210:Int)<(a.length:Int):=of_decide_eq_true I
    omega
   have C:Nat.ble a.length 210=false:=by
    cases C:Nat.ble a.length 210 with
    |false=>rfl
    |true=>have:=Xal C;omega
   exact .inl ⟨rfl,_,_,rfl,rfl,by simp only[Zfv,he,C],by simp only[Zew,he,C]⟩
  ·have J:a.length≤210:=by
    have R: ¬ (210:Int)<(a.length:Int):=of_decide_eq_false I
    omega
   refine Xaa rfl ?_
   refine((Zuu m a U J).ent ?_).mono ?_
   ·refine Zas rfl rfl ?_ ?_
    ·exact⟨⟨rfl,rfl⟩,trivial,rfl,trivial⟩
    ·exact⟨⟨⟨rfl,rfl,trivial⟩,fun _=>rfl⟩,trivial⟩
   ·rintro e tm hp ⟨rfl,ns,h3,h4,h5,h6⟩
    exact .inr ⟨rfl,j,J,ns,h3,h4,h5,h6⟩
open Go.RowKit Go.Shelf Go.Lib Dv Go.Tx Go.Am
theorem ZxB:Static Tryz.prog Zo0:=ZhD Ztj fun f j=>by cases j
theorem ZzH:Zck Tryz.prog Zo0:=fun f g j=>by cases j
theorem ZmX: ∀ {es:List (List PV)} {a:List Int},Ze0 es=some a→Wd a∧All2 (RR (.i .u32)) a es
 | [],a,h=>by cases h;exact⟨fun x I=>by simp at I,trivial⟩
 |c::r,a,h=>by
  unfold Ze0 at h
  split at h
  ·rename_i heq;cases heq
  ·rename_i x U heq
   cases heq
   split at h
   ·rename_i C
    simp only[Xag,decide_eq_true_eq]at C
    cases j:Ze0 r with
    |none=>rw[j]at h;cases h
    |some l=>
     rw[j]at h
     cases h
     obtain⟨J,R⟩:=ZmX j
     refine⟨fun y hy=> ?_,rfl,R⟩
     rcases Xav.1 hy with rfl|hy
     ·exact C
     ·exact J y hy
   ·cases h
  ·cases h
theorem ZjI {φ:Phi} {w:World} {S:Nat→Prop} {b:Nat}: ∀ {l:List Int} {es:List (List PV)} {o:Nat},All2 (RR (.i .u32)) l es→VE φ w S es b o→ ∀j (C:j<l.length),w.cell? ⟨b,o+j,none⟩=some (.int .u32 l[j])
 | [],_,_,_,_,j,C=>by simp at C
 |x::l,[],_,h,_,_,_=>by cases h
 |x::l,c::es,o,h,I,j,C=>by
  obtain⟨J,R⟩:=h
  simp only[RR]at J
  subst J
  simp only[VE,VC,VRel,Xap,XbG]at I
  obtain⟨⟨⟨_,v,U,rfl⟩,_⟩,h4⟩:=I
  cases j with
  |zero=>exact U
  |succ j=>
   have:=ZjI (o:=o+(0+1)) R h4 j (by simpa using C)
   rw[show o+(j+1)=o+(0+1)+j by omega]
   exact this
theorem Zy9: ∀l:List Value,l.length=72→ ∃x0 x1 x2 x3 x4 x5 x6 x7 x8 x9 C I J R U aa ab ad ae af ag ah ai aj ak al an ao aq ar au av aw ax ay az a1 a6 a7 a8 ba bb bc bd bf bg bh bj bk bl bm bn bo bp bq br bs bt bu bw bx bz b0 b1 b2 b3 b4 b5 b6 b7 b8 b9:Value,l=(x0::x1::x2::x3::x4::x5::x6::x7::x8::x9::C::I::J::R::U::aa::ab::ad::ae::af::ag::ah::ai::aj::ak::al::an::ao::aq::ar::au::av::aw::ax::ay::az::a1::a6::a7::a8::ba::bb::bc::bd::bf::bg::bh::bj::bk::bl::bm::bn::bo::bp::bq::br::bs::bt::bu::bw::bx::bz::b0::b1::b2::b3::b4::b5::b6::b7::b8::b9::[]):=by
 intro l j
 obtain⟨x0,l,rfl⟩: ∃x r,l=x::r:=by cases l with|nil=>simp at j|cons x r=>exact⟨x,r,rfl⟩
 have j:l.length=71:=by simpa using j
 obtain⟨x1,l,rfl⟩: ∃x r,l=x::r:=by cases l with|nil=>simp at j|cons x r=>exact⟨x,r,rfl⟩
 have j:l.length=70:=by simpa using j
 obtain⟨x2,l,rfl⟩: ∃x r,l=x::r:=by cases l with|nil=>simp at j|cons x r=>exact⟨x,r,rfl⟩
 have j:l.length=69:=by simpa using j
 obtain⟨x3,l,rfl⟩: ∃x r,l=x::r:=by cases l with|nil=>simp at j|cons x r=>exact⟨x,r,rfl⟩
 have j:l.length=68:=by simpa using j
 obtain⟨x4,l,rfl⟩: ∃x r,l=x::r:=by cases l with|nil=>simp at j|cons x r=>exact⟨x,r,rfl⟩
 have j:l.length=67:=by simpa using j
 obtain⟨x5,l,rfl⟩: ∃x r,l=x::r:=by cases l with|nil=>simp at j|cons x r=>exact⟨x,r,rfl⟩
 have j:l.length=66:=by simpa using j
 obtain⟨x6,l,rfl⟩: ∃x r,l=x::r:=by cases l with|nil=>simp at j|cons x r=>exact⟨x,r,rfl⟩
 have j:l.length=65:=by simpa using j
 obtain⟨x7,l,rfl⟩: ∃x r,l=x::r:=by cases l with|nil=>simp at j|cons x r=>exact⟨x,r,rfl⟩
 have j:l.length=64:=by simpa using j
 obtain⟨x8,l,rfl⟩: ∃x r,l=x::r:=by cases l with|nil=>simp at j|cons x r=>exact⟨x,r,rfl⟩
 have j:l.length=63:=by simpa using j
 obtain⟨x9,l,rfl⟩: ∃x r,l=x::r:=by cases l with|nil=>simp at j|cons x r=>exact⟨x,r,rfl⟩
 have j:l.length=62:=by simpa using j
 obtain⟨C,l,rfl⟩: ∃x r,l=x::r:=by cases l with|nil=>simp at j|cons x r=>exact⟨x,r,rfl⟩
 have j:l.length=61:=by simpa using j
 obtain⟨I,l,rfl⟩: ∃x r,l=x::r:=by cases l with|nil=>simp at j|cons x r=>exact⟨x,r,rfl⟩
 have j:l.length=60:=by simpa using j
 obtain⟨J,l,rfl⟩: ∃x r,l=x::r:=by cases l with|nil=>simp at j|cons x r=>exact⟨x,r,rfl⟩
 have j:l.length=59:=by simpa using j
 obtain⟨R,l,rfl⟩: ∃x r,l=x::r:=by cases l with|nil=>simp at j|cons x r=>exact⟨x,r,rfl⟩
 have j:l.length=58:=by simpa using j
 obtain⟨U,l,rfl⟩: ∃x r,l=x::r:=by cases l with|nil=>simp at j|cons x r=>exact⟨x,r,rfl⟩
 have j:l.length=57:=by simpa using j
 obtain⟨aa,l,rfl⟩: ∃x r,l=x::r:=by cases l with|nil=>simp at j|cons x r=>exact⟨x,r,rfl⟩
 have j:l.length=56:=by simpa using j
 obtain⟨ab,l,rfl⟩: ∃x r,l=x::r:=by cases l with|nil=>simp at j|cons x r=>exact⟨x,r,rfl⟩
 have j:l.length=55:=by simpa using j
 obtain⟨ad,l,rfl⟩: ∃x r,l=x::r:=by cases l with|nil=>simp at j|cons x r=>exact⟨x,r,rfl⟩
 have j:l.length=54:=by simpa using j
 obtain⟨ae,l,rfl⟩: ∃x r,l=x::r:=by cases l with|nil=>simp at j|cons x r=>exact⟨x,r,rfl⟩
 have j:l.length=53:=by simpa using j
 obtain⟨af,l,rfl⟩: ∃x r,l=x::r:=by cases l with|nil=>simp at j|cons x r=>exact⟨x,r,rfl⟩
 have j:l.length=52:=by simpa using j
 obtain⟨ag,l,rfl⟩: ∃x r,l=x::r:=by cases l with|nil=>simp at j|cons x r=>exact⟨x,r,rfl⟩
 have j:l.length=51:=by simpa using j
 obtain⟨ah,l,rfl⟩: ∃x r,l=x::r:=by cases l with|nil=>simp at j|cons x r=>exact⟨x,r,rfl⟩
 have j:l.length=50:=by simpa using j
 obtain⟨ai,l,rfl⟩: ∃x r,l=x::r:=by cases l with|nil=>simp at j|cons x r=>exact⟨x,r,rfl⟩
 have j:l.length=49:=by simpa using j
 obtain⟨aj,l,rfl⟩: ∃x r,l=x::r:=by cases l with|nil=>simp at j|cons x r=>exact⟨x,r,rfl⟩
 have j:l.length=48:=by simpa using j
 obtain⟨ak,l,rfl⟩: ∃x r,l=x::r:=by cases l with|nil=>simp at j|cons x r=>exact⟨x,r,rfl⟩
 have j:l.length=47:=by simpa using j
 obtain⟨al,l,rfl⟩: ∃x r,l=x::r:=by cases l with|nil=>simp at j|cons x r=>exact⟨x,r,rfl⟩
 have j:l.length=46:=by simpa using j
 obtain⟨an,l,rfl⟩: ∃x r,l=x::r:=by cases l with|nil=>simp at j|cons x r=>exact⟨x,r,rfl⟩
 have j:l.length=45:=by simpa using j
 obtain⟨ao,l,rfl⟩: ∃x r,l=x::r:=by cases l with|nil=>simp at j|cons x r=>exact⟨x,r,rfl⟩
 have j:l.length=44:=by simpa using j
 obtain⟨aq,l,rfl⟩: ∃x r,l=x::r:=by cases l with|nil=>simp at j|cons x r=>exact⟨x,r,rfl⟩
 have j:l.length=43:=by simpa using j
 obtain⟨ar,l,rfl⟩: ∃x r,l=x::r:=by cases l with|nil=>simp at j|cons x r=>exact⟨x,r,rfl⟩
 have j:l.length=42:=by simpa using j
 obtain⟨au,l,rfl⟩: ∃x r,l=x::r:=by cases l with|nil=>simp at j|cons x r=>exact⟨x,r,rfl⟩
 have j:l.length=41:=by simpa using j
 obtain⟨av,l,rfl⟩: ∃x r,l=x::r:=by cases l with|nil=>simp at j|cons x r=>exact⟨x,r,rfl⟩
 have j:l.length=40:=by simpa using j
 obtain⟨aw,l,rfl⟩: ∃x r,l=x::r:=by cases l with|nil=>simp at j|cons x r=>exact⟨x,r,rfl⟩
 have j:l.length=39:=by simpa using j
 obtain⟨ax,l,rfl⟩: ∃x r,l=x::r:=by cases l with|nil=>simp at j|cons x r=>exact⟨x,r,rfl⟩
 have j:l.length=38:=by simpa using j
 obtain⟨ay,l,rfl⟩: ∃x r,l=x::r:=by cases l with|nil=>simp at j|cons x r=>exact⟨x,r,rfl⟩
 have j:l.length=37:=by simpa using j
 obtain⟨az,l,rfl⟩: ∃x r,l=x::r:=by cases l with|nil=>simp at j|cons x r=>exact⟨x,r,rfl⟩
 have j:l.length=36:=by simpa using j
 obtain⟨a1,l,rfl⟩: ∃x r,l=x::r:=by cases l with|nil=>simp at j|cons x r=>exact⟨x,r,rfl⟩
 have j:l.length=35:=by simpa using j
 obtain⟨a6,l,rfl⟩: ∃x r,l=x::r:=by cases l with|nil=>simp at j|cons x r=>exact⟨x,r,rfl⟩
 have j:l.length=34:=by simpa using j
 obtain⟨a7,l,rfl⟩: ∃x r,l=x::r:=by cases l with|nil=>simp at j|cons x r=>exact⟨x,r,rfl⟩
 have j:l.length=33:=by simpa using j
 obtain⟨a8,l,rfl⟩: ∃x r,l=x::r:=by cases l with|nil=>simp at j|cons x r=>exact⟨x,r,rfl⟩
 have j:l.length=32:=by simpa using j
 obtain⟨ba,l,rfl⟩: ∃x r,l=x::r:=by cases l with|nil=>simp at j|cons x r=>exact⟨x,r,rfl⟩
 have j:l.length=31:=by simpa using j
 obtain⟨bb,l,rfl⟩: ∃x r,l=x::r:=by cases l with|nil=>simp at j|cons x r=>exact⟨x,r,rfl⟩
 have j:l.length=30:=by simpa using j
 obtain⟨bc,l,rfl⟩: ∃x r,l=x::r:=by cases l with|nil=>simp at j|cons x r=>exact⟨x,r,rfl⟩
 have j:l.length=29:=by simpa using j
 obtain⟨bd,l,rfl⟩: ∃x r,l=x::r:=by cases l with|nil=>simp at j|cons x r=>exact⟨x,r,rfl⟩
 have j:l.length=28:=by simpa using j
 obtain⟨bf,l,rfl⟩: ∃x r,l=x::r:=by cases l with|nil=>simp at j|cons x r=>exact⟨x,r,rfl⟩
 have j:l.length=27:=by simpa using j
 obtain⟨bg,l,rfl⟩: ∃x r,l=x::r:=by cases l with|nil=>simp at j|cons x r=>exact⟨x,r,rfl⟩
 have j:l.length=26:=by simpa using j
 obtain⟨bh,l,rfl⟩: ∃x r,l=x::r:=by cases l with|nil=>simp at j|cons x r=>exact⟨x,r,rfl⟩
 have j:l.length=25:=by simpa using j
 obtain⟨bj,l,rfl⟩: ∃x r,l=x::r:=by cases l with|nil=>simp at j|cons x r=>exact⟨x,r,rfl⟩
 have j:l.length=24:=by simpa using j
 obtain⟨bk,l,rfl⟩: ∃x r,l=x::r:=by cases l with|nil=>simp at j|cons x r=>exact⟨x,r,rfl⟩
 have j:l.length=23:=by simpa using j
 obtain⟨bl,l,rfl⟩: ∃x r,l=x::r:=by cases l with|nil=>simp at j|cons x r=>exact⟨x,r,rfl⟩
 have j:l.length=22:=by simpa using j
 obtain⟨bm,l,rfl⟩: ∃x r,l=x::r:=by cases l with|nil=>simp at j|cons x r=>exact⟨x,r,rfl⟩
 have j:l.length=21:=by simpa using j
 obtain⟨bn,l,rfl⟩: ∃x r,l=x::r:=by cases l with|nil=>simp at j|cons x r=>exact⟨x,r,rfl⟩
 have j:l.length=20:=by simpa using j
 obtain⟨bo,l,rfl⟩: ∃x r,l=x::r:=by cases l with|nil=>simp at j|cons x r=>exact⟨x,r,rfl⟩
 have j:l.length=19:=by simpa using j
 obtain⟨bp,l,rfl⟩: ∃x r,l=x::r:=by cases l with|nil=>simp at j|cons x r=>exact⟨x,r,rfl⟩
 have j:l.length=18:=by simpa using j
 obtain⟨bq,l,rfl⟩: ∃x r,l=x::r:=by cases l with|nil=>simp at j|cons x r=>exact⟨x,r,rfl⟩
 have j:l.length=17:=by simpa using j
 obtain⟨br,l,rfl⟩: ∃x r,l=x::r:=by cases l with|nil=>simp at j|cons x r=>exact⟨x,r,rfl⟩
 have j:l.length=16:=by simpa using j
 obtain⟨bs,l,rfl⟩: ∃x r,l=x::r:=by cases l with|nil=>simp at j|cons x r=>exact⟨x,r,rfl⟩
 have j:l.length=15:=by simpa using j
 obtain⟨bt,l,rfl⟩: ∃x r,l=x::r:=by cases l with|nil=>simp at j|cons x r=>exact⟨x,r,rfl⟩
 have j:l.length=14:=by simpa using j
 obtain⟨bu,l,rfl⟩: ∃x r,l=x::r:=by cases l with|nil=>simp at j|cons x r=>exact⟨x,r,rfl⟩
 have j:l.length=13:=by simpa using j
 obtain⟨bw,l,rfl⟩: ∃x r,l=x::r:=by cases l with|nil=>simp at j|cons x r=>exact⟨x,r,rfl⟩
 have j:l.length=12:=by simpa using j
 obtain⟨bx,l,rfl⟩: ∃x r,l=x::r:=by cases l with|nil=>simp at j|cons x r=>exact⟨x,r,rfl⟩
 have j:l.length=11:=by simpa using j
 obtain⟨bz,l,rfl⟩: ∃x r,l=x::r:=by cases l with|nil=>simp at j|cons x r=>exact⟨x,r,rfl⟩
 have j:l.length=10:=by simpa using j
 obtain⟨b0,l,rfl⟩: ∃x r,l=x::r:=by cases l with|nil=>simp at j|cons x r=>exact⟨x,r,rfl⟩
 have j:l.length=9:=by simpa using j
 obtain⟨b1,l,rfl⟩: ∃x r,l=x::r:=by cases l with|nil=>simp at j|cons x r=>exact⟨x,r,rfl⟩
 have j:l.length=8:=by simpa using j
 obtain⟨b2,l,rfl⟩: ∃x r,l=x::r:=by cases l with|nil=>simp at j|cons x r=>exact⟨x,r,rfl⟩
 have j:l.length=7:=by simpa using j
 obtain⟨b3,l,rfl⟩: ∃x r,l=x::r:=by cases l with|nil=>simp at j|cons x r=>exact⟨x,r,rfl⟩
 have j:l.length=6:=by simpa using j
 obtain⟨b4,l,rfl⟩: ∃x r,l=x::r:=by cases l with|nil=>simp at j|cons x r=>exact⟨x,r,rfl⟩
 have j:l.length=5:=by simpa using j
 obtain⟨b5,l,rfl⟩: ∃x r,l=x::r:=by cases l with|nil=>simp at j|cons x r=>exact⟨x,r,rfl⟩
 have j:l.length=4:=by simpa using j
 obtain⟨b6,l,rfl⟩: ∃x r,l=x::r:=by cases l with|nil=>simp at j|cons x r=>exact⟨x,r,rfl⟩
 have j:l.length=3:=by simpa using j
 obtain⟨b7,l,rfl⟩: ∃x r,l=x::r:=by cases l with|nil=>simp at j|cons x r=>exact⟨x,r,rfl⟩
 have j:l.length=2:=by simpa using j
 obtain⟨b8,l,rfl⟩: ∃x r,l=x::r:=by cases l with|nil=>simp at j|cons x r=>exact⟨x,r,rfl⟩
 have j:l.length=1:=by simpa using j
 obtain⟨b9,l,rfl⟩: ∃x r,l=x::r:=by cases l with|nil=>simp at j|cons x r=>exact⟨x,r,rfl⟩
 have j:l.length=0:=by simpa using j
 have:=XaY.1 j
 subst this
 exact⟨x0,x1,x2,x3,x4,x5,x6,x7,x8,x9,C,I,J,R,U,aa,ab,ad,ae,af,ag,ah,ai,aj,ak,al,an,ao,aq,ar,au,av,aw,ax,ay,az,a1,a6,a7,a8,ba,bb,bc,bd,bf,bg,bh,bj,bk,bl,bm,bn,bo,bp,bq,br,bs,bt,bu,bw,bx,bz,b0,b1,b2,b3,b4,b5,b6,b7,b8,b9,rfl⟩
theorem Zp6 (m:Bool) (a:List Int) (ha:Wd a) (qs:List PV) (hr:RL [] [.agg [.v .b m,Zby a]] qs) (S:Nat→Prop) (w:World) (vals:List Value) (ao: ∀b,S b→b<w.heap.size) (hL:Laid.ok S w) (hv:LRel w S qs vals):
 Calls Tryz.prog 115 vals.toArray w fun e w'=>e= .returned (.tuple #[.string ⟨(Zfv m a).toArray⟩, .bool (Zew a)])∧Below w.heap.size w w':=by
 refine Zs7 ZxB ZzH Zag (fn:=Tryz.f115) (code:=Zbn Tryz.f115) 5 (by kernel_rfl) Tryz.func115 (by kernel_rfl) (Xal (by kernel_rfl)) (by kernel_rfl) (Zyg m a ha) hr ao hL hv ?_
 intro e st tm hp da a' w' φ' S' hK hs hI hE hT
 refine⟨fun aq=> ?_,fun hn=> ?_⟩
 ·rcases hK with⟨rfl,s,f,J,h3,rfl,rfl⟩|⟨rfl,_⟩
  ·obtain⟨q2,g2,r2⟩:=hs.tm _ _ J
   obtain⟨q3,g3,r3⟩:=hs.tm _ _ h3
   simp only[RV,RR,List.cons.injEq,and_true]at r2 r3
   subst r2 r3
   obtain⟨u,h8,h9⟩:=Zgd (P:=Tryz.prog) (fn:=Tryz.f115) (vs:=[.str ⟨(Zfv m a).toArray⟩, .bool (Zew a)]) (tm:=st.tm) (H:=st.hp) (by
    show ZaV (ZiM Tryz.prog st.tm st.hp) [.tmp 2, .tmp 3]=_
    simp only[Za7,Zq9,ZiM,g2,g3,Xab]) hI hT
   simp only[Zbw,VRel,VL]at h9
   obtain⟨arr,rfl,_,_,ar,rfl,_,_,rfl,rfl,rfl⟩:=h9
   refine⟨hT.2.1,_,h8, ?_,hE.below⟩
   have:arr= #[.string ⟨(Zfv m a).toArray⟩, .bool (Zew a)]:=by
    apply Array.ext'
    rw[ar]
   rw[this]
  ·exact absurd rfl aq
 ·rcases hK with⟨rfl,_⟩|⟨_,R,ae,ns,⟨hp1,af,au,av,aw⟩,k1,k4,rfl⟩
  ·cases hn
  ·have aa:=hp1 R
   obtain⟨q1,g1,r1⟩:=hs.tm _ _ k1
   obtain⟨q4,g4,r4⟩:=hs.tm _ _ k4
   simp only[RV]at r1 r4
   obtain⟨p0,f0,rfl⟩:=r1
   have ag:ns.length≠0:=fun h=>aa (XaY.1 h)
   rcases r4 with⟨p1,f1,rfl⟩|⟨_,_,_,h0,_⟩
   ·have m0:=hs.hp.row 0 _ _ rfl f0
    have m1:=hs.hp.row 1 _ _ rfl f1
    simp only[RM,RL,RV,RR,List.cons.injEq,and_true]at m0 m1
    obtain⟨_,db,m',e0,c0,⟨_,_,rfl,rfl,qw,_,rfl,_,rfl⟩,_⟩:=m0
    cases e0
    obtain⟨es,dc,c1,ce,_⟩:=m1
    obtain⟨_,v1⟩:=hT.2.2 1 _ g1
    obtain⟨_,v4⟩:=hT.2.2 4 _ g4
    simp only[VRel,Option.getD_none]at v1 v4
    obtain⟨l0,e0,ah⟩:=v1
    obtain⟨U,ad,cap,e1,ai,_,_,aj⟩:=v4
    rcases aj with⟨h0,_⟩|⟨ax,_⟩
    ·exact absurd h0 ag
    ·subst ax
     have R0:=hI.row p0 l0 _ _ _ e0 c0
     have R1:=hI.row p1 U _ _ _ e1 c1
     have L0:=hI.live p0 l0 e0
     have L1:=hI.live p1 U e1
     obtain⟨⟨⟨_,vm,hm,ak⟩,_⟩,_⟩:=R0.cells
     simp only[VRel]at ak
     subst ak
     obtain⟨g,hg,ay,al⟩:=hI.laid
     obtain⟨tmps,az⟩:=a'
     have a1:az=[]:=hT.2.1
     subst a1
     obtain⟨l⟩:=tmps
     obtain⟨x0,x1,x2,x3,x4,x5,x6,x7,x8,x9,a6,a7,a8,ba,bb,bc,bd,bf,bg,bh,bj,bk,bl,bm,bn,bo,bp,bq,br,bs,bt,bu,bw,bx,bz,b0,b1,b2,b3,b4,b5,b6,b7,b8,b9,ca,cb,cc,cd,cf,cg,ch,cj,ck,cl,cm,cn,cp,cq,cr,cu,cv,cw,cx,cy,cz,c2,c3,c4,c5,c6,c7,rfl⟩:=Zy9 l hT.1
     have c8:x1= .pointer (some ⟨l0.b,l0.o,none⟩):=Eq.trans ah (by simp)
     have c9:x4= .slice (some ⟨U.b,U.o,none⟩) ns.length cap:=Eq.trans ai (by simp)
     clear ah ai
     subst c8 c9
     have I: ∀j (hj:j<ns.length),w'.cell? ⟨U.b,U.o+j,none⟩=some (.int .u32 (ns[j]:Nat)):=fun j hj=>by
      have:=ZjI ce R1.cells j (by simpa[ZrG]using hj)
      rw[this];simp[ZrG]
     refine wp_mono (ZuT m ns aa af aw l0.b l0.o U.b U.o cap x0 x2 x3 x5 x6 x7 x8 x9 a6 a7 a8 ba bb bc bd bf bg bh bj bk bl bm bn bo bp bq br bs bt bu bw bx bz b0 b1 b2 b3 b4 b5 b6 b7 b8 b9 ca cb cc cd cf cg ch cj ck cl cm cn cp cq cr cu cv cw cx cy cz c2 c3 c4 c5 c6 c7 w' L0.2.1 L1.2.1 hm I g hg (hI.stable g ay) al) ?_
     have C: ∀e w2,(e=Ending.returned (.tuple #[.string ⟨((match m with|true=> [45]|false=> [])++ZbP ns).toArray⟩, .bool (Nat.ble (ZbP ns).length 2000)])∧Below w'.heap.size w' w2)→e= .returned (.tuple #[.string ⟨(Zfv m a).toArray⟩, .bool (Zew a)])∧Below w.heap.size w w2:=by
      rintro e w2 ⟨rfl,hb⟩
      have hj:ZbP ns=Zw4 2100 (wv a).toNat:=by
       rw[ZvK aa af au,ZnH]
       ·rw[←av];simp
       ·decide
       ·have h1:=(Zbc ha).2
        have J:(4294967296:Int)^a.length≤4294967296^210:=ZgS (b:=4294967296) (by decide) ae
        have h3:(4294967296:Int)^210<((10^2100:Nat):Int):=by decide+kernel
        omega
      have ab:Nat.ble a.length 210=true:=Xbj ae
      have an:a.isEmpty=false:=by simpa using R
      refine⟨?_,hE.below.trans (hb.mono hE.below.size)⟩
      simp only[Zfv,Zew,an,ab,hj]
      cases m<;>rfl
     intro e a2 w2 hq
     cases e with
     |normal=>obtain⟨h1,v,J,h3⟩:=hq;exact⟨h1,v,J,C _ _ h3⟩
     |ret=>obtain⟨h1,v,J,h3⟩:=hq;exact⟨h1,v,J,C _ _ h3⟩
     |panic c=>obtain⟨h1,J⟩:=hq;exact⟨h1,C _ _ J⟩
     |outgrown=>exact C _ _ hq
     |_=>exact hq.elim
   ·exact absurd h0 ag
theorem ZqW: ∀C v,textG C=some v→ ∀ (S:Nat→Prop) w vals,(∀b,S b→b<w.heap.size)→Laid.ok S w→LRel w S C vals→
 Calls Tryz.prog 115 vals.toArray w fun e w'=> ∃u,e= .returned u∧Below w.heap.size w w'∧IRel w' (fun b=>S b∨(w.heap.size≤b∧b<w'.heap.size)) v u:=by
 intro C v j S w vals J R U
 have main: ∀m a,Wd a→RL [] [.agg [.v .b m,Zby a]] C→v= .tup [.str ⟨(Zfv m a).toArray⟩, .bool (Zew a)]→Calls Tryz.prog 115 vals.toArray w fun e w'=> ∃u,e= .returned u∧Below w.heap.size w w'∧IRel w' (fun b=>S b∨(w.heap.size≤b∧b<w'.heap.size)) v u:=by
  rintro m a ha I rfl
  refine(Zp6 m a ha C I S w vals J R U).mono ?_
  rintro e w' ⟨rfl,hb⟩
  refine⟨_,rfl,hb, ?_⟩
  simp only[IRel]
  exact⟨_,rfl,by simp[LRel,IRel]⟩
 unfold textG at j
 split at j
 ·rename_i m
  cases j
  refine main m [] (fun x hx=>by simp at hx) ?_ rfl
  simp only[RL,RV,RR]
  exact⟨_,_,rfl,⟨_,rfl,_,_,rfl,rfl,_,_,rfl, .inl ⟨rfl,trivial⟩,rfl⟩,rfl⟩
 ·rename_i m es
  cases hw:Ze0 es with
  |none=>rw[hw]at j;cases j
  |some a=>
   rw[hw]at j
   cases j
   obtain⟨h1,h2⟩:=ZmX hw
   refine main m a h1 ?_ rfl
   simp only[RL,RV,RR]
   exact⟨_,_,rfl,⟨_,rfl,_,_,rfl,rfl,_,_,rfl, .inr ⟨_,rfl,h2⟩,rfl⟩,rfl⟩
 ·cases j
open Go.Shelf Go.RowKit Dv Go.Am
theorem Znm: ∀C v,indexG C=some v→ ∀ (S:Nat→Prop) w vals,(∀b,S b→b<w.heap.size)→Laid.ok S w→LRel w S C vals→
 Calls Tryz.prog 86 vals.toArray w fun e w'=> ∃u,e= .returned u∧Below w.heap.size w w'∧IRel w' (fun b=>S b∨(w.heap.size≤b∧b<w'.heap.size)) v u:=by
 intro C v j S w vals hS hL I
 unfold indexG at j
 split at j
 ·rename_i s t
  split at j
  ·rename_i c J
   cases j
   simp only[LRel,IRel]at I
   obtain⟨_,_,rfl,rfl,_,_,rfl,rfl,rfl⟩:=I
   have R:t=⟨#[c]⟩:=by
    cases t with
    |mk d=>
     have U:d.toList=[c]:=J
     have h2:d= #[c]:=by rw[←Array.toList_inj,U]
     rw[h2]
   subst R
   refine(Any.stringslite_Index_one Tryz.lays219 s c w).mono ?_
   rintro e w' ⟨rfl,rfl⟩
   refine⟨_,rfl,Below.refl _ _, ?_⟩
   rw[ZyG]
   simp only[IRel]
  ·cases j
 ·cases j
theorem Zyw:Zck Tryz.prog Zao:=by
 intro f g j
 have j:prims f=some g:=j
 unfold prims at j
 split at j
 ·cases j;exact ZqW
 ·cases j;exact Zm7
 ·cases j;exact Znm
 ·cases j
theorem Zw3:Static Tryz.prog Zao:=ZhD Ztj fun f j=>by
 unfold prims at j
 split at j
 ·exact⟨_,Tryz.func115,by kernel_rfl,by kernel_rfl⟩
 ·exact⟨_,Tryz.func70,by kernel_rfl,by kernel_rfl⟩
 ·exact⟨_,Tryz.func86,by kernel_rfl,by kernel_rfl⟩
 ·cases j
open Go.Am Go.Tx Ne
theorem ZBK:ownKnob Tryz.prog.godebug=none:=by kernel_rfl
theorem ZvS:laidOutB Tryz.prog=true:=by kernel_rfl
abbrev Zfh:List (String×DataW Unit):=Rows.ratingStepsRow.laid
theorem ZxA {W:World} (h:laidMetH Tryz.prog Zfh W):Lib.TabIs Tryz.prog W ZeW .u64 Lib.pow10Tab:=by
 have j:=laidMetH.filter (fun x=>x.1==ZeW) h
 rw[MakeChecks.laidMetH_plain _ _ _ (by kernel_rfl)]at j
 exact Lib.tabIs_of_head (rest:=[]) (g:=3) (t:=199) (e:=126) (n:=20) (by kernel_rfl) (by kernel_rfl) (by kernel_rfl) (by kernel_rfl) (by kernel_rfl) (by kernel_rfl) j
theorem Zy7 {W:World} (h:laidMetH Tryz.prog Zfh W):natLaid.ok (fun b=>b<W.heap.size) W:=by
 have j:=ZxA h
 refine⟨3,by kernel_rfl, ?_,j⟩
 unfold Lib.TabIs World.var? at j
 have I:Tryz.prog.globalNamed ZeW=some 3:=by kernel_rfl
 rw[I,Xab]at j
 cases C:W.heap[3]? with
 |none=>rw[C]at j;simp at j
 |some o=>exact(Xbo.1 C).1
section
variable {H : Type} {enc : TypeId × Value → H}
theorem Zly {a:Assume} {C:Checked} {os:Os} {f:FuncId} {fn:Func} {s:ChangeSpec} {conds:List PathCond} {apart fresh handsOn Zdp:Bool} {X:World→Array Value→Prop}
 (hX: ∀ (w w':World) (args:Array Value),w.heap=w'.heap→X w args→X w' args)
 (own:ownKnob C.prog.godebug=none) (started:os.Started) (J:C.prog.inits.idxOf? f=none) (ab:C.prog.funcs[f]? =some fn)
 (witness: ∃ (w:World) (tape:Tape) (i:Input),w.os=os∧(w.forCall tape i).Shaped C.prog∧i.vars=[]∧Input.okWide C.prog (w.forCall tape i) .any w.heap.size f i∧
  ((s.pre enc C.prog fn conds apart (w.forCall tape i).memory i.args∧X (w.forCall tape i).memory i.args)∧sizedMet enc C.prog fn (OpenSpec.ofChange s) apart (w.forCall tape i).memory i.args)∧a.holds C.prog (lone (Frame.enter C.prog f i.args .normal) [] (w.forCall tape i)))
 (I: ∀ (W:World) (base:Nat) (args:Array Value) (ds gs:List (DataW H)) (before:List MemPlace),
  (∀ (j:Nat) t v,fn.params[j]? =some t→args[j]? =some v→Value.okWide C.prog W .any base t v)→
  DataW.Whole enc C.prog fn.params.toList s.vars apart W args.toList ds gs before→
  (DataW.weightsEach C.prog (fn.params.toList++s.plain.varTypes C.prog) (ds++gs)).all (· ≤reachBytes)=true→X W args→W.ShapedOpen C.prog→
  Calls C.prog f args W fun e W'=> ∃v,e= .returned v∧s.post enc C.prog fn apart fresh handsOn Zdp W args v W'):
 ReturnsInHanded a C os f .any (fun w args=>(s.pre enc C.prog fn conds apart w args∧X w args)∧sizedMet enc C.prog fn (OpenSpec.ofChange s) apart w args) (s.post enc C.prog fn apart fresh handsOn Zdp):=by
 refine returnsInHanded_of_calls own started J witness ?_
 intro w tape i _ ad _ ae R _
 obtain⟨_,_,_,af,U,_,_,_,_,aa⟩:=ae
 have e:af=fn:=XbF (U.symm.trans ab)
 subst e
 obtain⟨⟨⟨ds,gs,before,hw,_⟩,hx⟩,hz⟩:=R
 have ag:=DataW.Whole.of_heap (w':=w.forCall tape i) (by rfl) hw
 refine(I (w.forCall tape i) w.heap.size i.args ds gs before aa ag (hz.weights hw) (hX _ _ _ (by rfl) hx) ad).mono fun e W' ⟨v,he,hp⟩=> ?_
 subst he
 exact ChangeSpec.post_blind hp
end
theorem ZpJ {n:Nat} {H:List Mem} {v:PV} {b:Bool} (h:exp n H v=some (.bool b)):v= .bool b:=by
 cases n with
 |zero=>simp[exp]at h
 |succ n=>cases v<;>simp only[exp]at h<;>first|(exact XbF h)|(cases h;done)|(rename_i a b c d;cases j:H[a]? with
  |none=>rw[j]at h;cases h
  |some m=>cases m<;>rw[j]at h<;>simp only at h<;>first|(cases h;done)|(split at h<;>simp at h))|(rename_i a b c;cases j:H[a]? with
  |none=>rw[j]at h;cases h
  |some m=>cases m<;>rw[j]at h<;>simp only at h<;>first|(cases h;done)|(simp[Option.bind_eq_some_iff]at h))|(simp[Option.bind_eq_some_iff]at h)
theorem Zuy {f:FuncId} {Vs:List SV} {j:List PV} (hp:Zao.prim f=none) (h:PureOK Tryz.prog Zao f Vs (fun V=>V= .v .b true)) (R:RL [] Vs j): ∃n H',(Zdb Tryz.prog Zao n).rn f j []=some (.bool true,H'):=by
 obtain⟨q,V,C,I,rfl⟩:=h.out j R
 simp only[RV,RR]at I
 have U:q= .bool true:=by simpa using I
 subst U
 unfold Zb8 at C
 rw[hp]at C
 obtain⟨⟨v,H'⟩,h3,h4⟩:=Option.bind_eq_some_iff.1 C
 have J:=ZpJ h4
 simp only at J
 subst J
 obtain⟨k,hk⟩:=ZrO h3
 exact⟨k,H',hk⟩
theorem ZeH {cs:List PV} (h:ZbD .str cs): ∃s:Txt,RR .s s cs∧s.length≤9223372036854775806:=by
 simp only[ZbD]at h
 obtain⟨n,j,C⟩:=h
 refine⟨n.data.toList,by simp only[RR];exact j, ?_⟩
 have I:n.data.toList.length=n.size:=Array.length_toList
 have J:reachBytes=140737488351232:=rfl
 omega
theorem Zrm {cs:List PV} (h:ZbD .bool cs): ∃b:Bool,RR .b b cs:=by
 simp only[ZbD]at h
 obtain⟨b,j⟩:=h
 exact⟨b,by simp only[RR];exact j⟩
theorem Ze3 {k:IntKind} {cs:List PV} (h:ZbD (.int k) cs): ∃n:Int,RR (.i k) n cs:=by
 simp only[ZbD]at h
 obtain⟨n,j,_⟩:=h
 exact⟨n,by simp only[RR];exact j⟩
theorem ZaZ {t:Ty} {ts:List Ty} {cs:List PV} (h:HasTys (t::ts) cs): ∃a b,cs=a++b∧ZbD t a∧HasTys ts b:=by simpa only[HasTys]using h
theorem Zjh {t:Ty} {cs:List PV} (h:HasTys [t] cs):ZbD t cs:=by
 simp only[HasTys]at h
 obtain⟨a,b,rfl,j,rfl⟩:=h
 simpa using j
theorem Zpk {ps:List Ty} {cs:List PV} (h:ZbD (.agg ps) cs):HasTys ps cs:=by simpa only[ZbD]using h
theorem Zec {ct:CT} {e:Ty} {n:Nat} {Fit:ct.D→Prop} (I: ∀c,ZbD e c→ ∃x:ct.D,RR ct x c∧Fit x) {cs:List PV} (h:ZbD (.slice e n) cs): ∃l:List ct.D,RR (.l ct) l cs∧ ∀x∈l,Fit x:=by
 simp only[ZbD]at h
 rcases h with h|⟨es,J,_,_,R⟩
 ·exact⟨[], .inl ⟨h,rfl⟩,fun _ j=>absurd j XaU⟩
 ·have key: ∀es:List (List PV),(∀c∈es,ZbD e c)→ ∃l:List ct.D,All2 (RR ct) l es∧ ∀x∈l,Fit x:=by
   intro es
   induction es with
   |nil=>intro _;exact⟨[],trivial,fun _ j=>absurd j XaU⟩
   |cons c r U=>
    intro C
    obtain⟨x,g1,g2⟩:=I c (C c Xah)
    obtain⟨l,g3,g4⟩:=U (fun d hd=>C d (Xai _ hd))
    refine⟨x::l,⟨g1,g3⟩,fun y hy=> ?_⟩
    rcases Xav.1 hy with rfl|hy
    ·exact g2
    ·exact g4 y hy
  obtain⟨l,g1,g2⟩:=key es R
  exact⟨l, .inr ⟨es,J,g1⟩,g2⟩
abbrev ZBf:Ty:= .agg [.str, .str, .str, .bool, .bool]
abbrev ZBr:Ty:= .agg [.str, .str, .str, .int .i64, .int .i64, .int .i64, .int .i64, .int .i64, .int .i64]
abbrev ZA3:Ty:= .agg [.str, .str, .int .i64, .int .i64, .int .i64]
abbrev ZBu:Ty:= .agg [.str, .str, .int .i64]
abbrev Zyh:Ty:= .agg [.slice .str 16, .slice ZBf 56, .slice ZBr 96, .slice ZA3 56, .slice ZBu 40, .slice ZA3 56]
theorem ZA4 (c:List PV) (h:ZbD ZBf c): ∃x:Sw,RR ZlD x c∧x.1.length≤9223372036854775806:=by
 obtain⟨a1,r1,rfl,j,h⟩:=ZaZ (Zpk h)
 obtain⟨a2,r2,rfl,C,h⟩:=ZaZ h
 obtain⟨a3,r3,rfl,I,h⟩:=ZaZ h
 obtain⟨a4,r4,rfl,J,h⟩:=ZaZ h
 obtain⟨R,g1,f1⟩:=ZeH j
 obtain⟨U,g2,_⟩:=ZeH C
 obtain⟨x3,g3,_⟩:=ZeH I
 obtain⟨x4,g4⟩:=Zrm J
 obtain⟨x5,g5⟩:=Zrm (Zjh h)
 exact⟨(R,U,x3,x4,x5),⟨_,_,rfl,g1,_,_,rfl,g2,_,_,rfl,g3,_,_,rfl,g4,g5⟩,f1⟩
theorem ZAW (c:List PV) (h:ZbD ZBr c): ∃x:Br,RR Zhx x c∧x.1.length≤9223372036854775806:=by
 obtain⟨a1,r1,rfl,j,h⟩:=ZaZ (Zpk h)
 obtain⟨a2,r2,rfl,C,h⟩:=ZaZ h
 obtain⟨a3,r3,rfl,I,h⟩:=ZaZ h
 obtain⟨a4,r4,rfl,J,h⟩:=ZaZ h
 obtain⟨a5,r5,rfl,R,h⟩:=ZaZ h
 obtain⟨a6,r6,rfl,U,h⟩:=ZaZ h
 obtain⟨a7,r7,rfl,h7,h⟩:=ZaZ h
 obtain⟨a8,r8,rfl,h8,h⟩:=ZaZ h
 obtain⟨x1,g1,f1⟩:=ZeH j
 obtain⟨x2,g2,_⟩:=ZeH C
 obtain⟨x3,g3,_⟩:=ZeH I
 obtain⟨x4,g4⟩:=Ze3 J
 obtain⟨x5,g5⟩:=Ze3 R
 obtain⟨x6,g6⟩:=Ze3 U
 obtain⟨x7,g7⟩:=Ze3 h7
 obtain⟨x8,g8⟩:=Ze3 h8
 obtain⟨x9,g9⟩:=Ze3 (Zjh h)
 exact⟨(x1,x2,x3,x4,x5,x6,x7,x8,x9),⟨_,_,rfl,g1,_,_,rfl,g2,_,_,rfl,g3,_,_,rfl,g4,_,_,rfl,g5,_,_,rfl,g6,_,_,rfl,g7,_,_,rfl,g8,g9⟩,f1⟩
theorem Zzt (c:List PV) (h:ZbD ZA3 c): ∃x:Ge,RR (.p .s (.p .s (.p (.i .i64) (.p (.i .i64) (.i .i64))))) x c∧x.1.length≤9223372036854775806:=by
 obtain⟨a1,r1,rfl,j,h⟩:=ZaZ (Zpk h)
 obtain⟨a2,r2,rfl,C,h⟩:=ZaZ h
 obtain⟨a3,r3,rfl,I,h⟩:=ZaZ h
 obtain⟨a4,r4,rfl,J,h⟩:=ZaZ h
 obtain⟨R,g1,f1⟩:=ZeH j
 obtain⟨U,g2,_⟩:=ZeH C
 obtain⟨x3,g3⟩:=Ze3 I
 obtain⟨x4,g4⟩:=Ze3 J
 obtain⟨x5,g5⟩:=Ze3 (Zjh h)
 exact⟨(R,U,x3,x4,x5),⟨_,_,rfl,g1,_,_,rfl,g2,_,_,rfl,g3,_,_,rfl,g4,g5⟩,f1⟩
theorem ZAy (c:List PV) (h:ZbD ZBu c): ∃x:Lo,RR (.p .s (.p .s (.i .i64))) x c∧x.1.length≤9223372036854775806:=by
 obtain⟨U,r1,rfl,j,h⟩:=ZaZ (Zpk h)
 obtain⟨a2,r2,rfl,C,h⟩:=ZaZ h
 obtain⟨I,g1,f1⟩:=ZeH j
 obtain⟨J,g2,_⟩:=ZeH C
 obtain⟨R,g3⟩:=Ze3 (Zjh h)
 exact⟨(I,J,R),⟨_,_,rfl,g1,_,_,rfl,g2,g3⟩,f1⟩
theorem ZdY {ct:CT} {l:List ct.D} {e:Ty} {n:Nat} {cs:List PV} (h:ZbD (.slice e n) cs) (j:RR (.l ct) l cs): ∃q,cs=[q]∧RV [] (.v (.l ct) l) q:=by
 simp only[ZbD]at h
 rcases h with rfl|⟨es,rfl,_⟩
 ·exact⟨_,rfl,by simpa only[RV]using j⟩
 ·exact⟨_,rfl,by simpa only[RV]using j⟩
theorem ZwW {p:PV} (hs:ZmB Zyh p): ∃n:Ne.Net,RV [] (.agg (Zdo n)) p∧Zii n:=by
 obtain⟨cs,rfl,h⟩:=hs
 obtain⟨a1,r1,rfl,C,h⟩:=ZaZ h
 obtain⟨a2,r2,rfl,I,h⟩:=ZaZ h
 obtain⟨a3,r3,rfl,J,h⟩:=ZaZ h
 obtain⟨a4,r4,rfl,R,h⟩:=ZaZ h
 obtain⟨a5,r5,rfl,U,h⟩:=ZaZ h
 have h6:=Zjh h
 obtain⟨l1,g1,f1⟩:=Zec (ct:= .s) (Fit:=fun x:Txt=>x.length≤9223372036854775806) (fun c hc=>ZeH hc) C
 obtain⟨l2,g2,f2⟩:=Zec (ct:=ZlD) (Fit:=fun x:Sw=>x.1.length≤9223372036854775806) ZA4 I
 obtain⟨l3,g3,f3⟩:=Zec (ct:=Zhx) (Fit:=fun x:Br=>x.1.length≤9223372036854775806) ZAW J
 obtain⟨l4,g4,f4⟩:=Zec (ct:= .p .s (.p .s (.p (.i .i64) (.p (.i .i64) (.i .i64))))) (Fit:=fun x:Ge=>x.1.length≤9223372036854775806) Zzt R
 obtain⟨l5,g5,f5⟩:=Zec (ct:=(.p .s (.p .s (.i .i64)))) (Fit:=fun x:Lo=>x.1.length≤9223372036854775806) ZAy U
 obtain⟨l6,g6,f6⟩:=Zec (ct:= .p .s (.p .s (.p (.i .i64) (.p (.i .i64) (.i .i64))))) (Fit:=fun x:Sto=>x.1.length≤9223372036854775806) Zzt h6
 obtain⟨q1,rfl,e1⟩:=ZdY C g1
 obtain⟨q2,rfl,e2⟩:=ZdY I g2
 obtain⟨q3,rfl,e3⟩:=ZdY J g3
 obtain⟨q4,rfl,e4⟩:=ZdY R g4
 obtain⟨q5,rfl,e5⟩:=ZdY U g5
 obtain⟨q6,rfl,e6⟩:=ZdY h6 g6
 refine⟨⟨l1,l2,l3,l4,l5,l6⟩, ?_,f1,f2,f3,f4,f5,f6⟩
 show ∃j,_∧RL [] _ j
 refine⟨_,rfl, ?_⟩
 simp only[Zdo,RL]
 exact⟨_,_,rfl,e1,_,_,rfl,e2,_,_,rfl,e3,_,_,rfl,e4,_,_,rfl,e5,_,_,rfl,e6,rfl⟩
theorem Zu3 {p:PV} (j:ZmB (.slice (.int .i64) 8) p): ∃l:List Int,RV [] (.v (.l (.i .i64)) l) p:=by
 have h:ZbD (.slice (.int .i64) 8) [p]:=j
 obtain⟨l,C,_⟩:=Zec (ct:= .i .i64) (Fit:=fun _=>True) (fun c I=>by obtain⟨n,J⟩:=Ze3 I;exact⟨n,J,trivial⟩) h
 exact⟨l,by simpa only[RV]using C⟩
theorem ZvB {p:PV} (C:ZmB (.slice (.slice .str 16) 24) p): ∃l:List (List Txt),RV [] (.v (.l (.l .s)) l) p∧ ∀f∈l,∀a∈f,a.length≤9223372036854775806:=by
 have h:ZbD (.slice (.slice .str 16) 24) [p]:=C
 obtain⟨l,I,J⟩:=Zec (ct:= .l .s) (Fit:=fun f:List Txt=> ∀a∈f,a.length≤9223372036854775806) (fun c j=>Zec (ct:= .s) (Fit:=fun x:Txt=>x.length≤9223372036854775806) (fun c j=>ZeH j) j) h
 exact⟨l,by simpa only[RV]using I,J⟩
end Go.Proofs.YtapbiodcncnnfaaGreatDoor
