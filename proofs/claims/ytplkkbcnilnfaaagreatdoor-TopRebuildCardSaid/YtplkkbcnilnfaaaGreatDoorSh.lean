/- Library functions of the shelf at this dump (written by the kit's plain mode of its one command). -/
import Derived.Shelf.LaysM
import Derived.Shelf.Strconv.Itoa1
import Derived.Shelf.Strconv.Itoa2
import Derived.Shelf.Strings.BuilderK
import Derived.Shelf.Small.Bits
import Derived.Shelf.Strings.Search3
import Derived.Shelf.Pu.ParseUintPublic10
import Derived.Ground.FneProg
import Derived.Ground.MpProg
import Derived.Lib.Walk
import Derived.BigCall
import Derived.BigGuard
import Derived.Maps.RangeRun
import Derived.Test.YtplkkbcnilnfaaaGreatDoorU5
import Derived.Lay
import Derived.LaidSub
import Derived.Handed
set_option linter.all false
set_option maxHeartbeats 16000000
set_option maxRecDepth 1000000
open Go.Proofs.Tryz
namespace Go.Proofs
open Go.Shelf
def fK {α:Type} {x:Option α} {a b:α} (h:x=some a) (e:a=b:=by kernel_rfl):x=some b:=h.trans (congrArg some e)
def rK {p:Prop} (h:p:=by kernel_rfl):p:=h
def Tryz.lays283_ren:Go.Shelf.Ren:=⟨λ|283=>145|n=>n,λ|3=>3|9=>9|4=>4|n=>n,λ|n=>n⟩
def Tryz.lays283:Go.Proofs.Lays.n283 prog Tryz.lays283_ren:=⟨rK,fK func145,underlying3,isAgg3,sizeOf3,zeroValue3,underlying4,isAgg4,sizeOf4,zeroValue4,underlying9,isAgg9,sizeOf9,zeroValue9⟩
def Tryz.laysM284_ren:Go.Shelf.Ren:=⟨λ|284=>146|129=>152|317=>151|318=>153|n=>n,λ|53=>156|3=>3|212=>228|0=>0|4=>4|46=>163|5=>5|9=>9|n=>n,λ|17=>3|n=>n⟩
def Tryz.laysM284:Go.Proofs.LaysM.n284 prog Tryz.laysM284_ren:={
 mixed:=rK
 f129:=fK func152
 f284:=fK func146
 f317:=fK func151
 f318:=fK func153
 t0:=underlying0
 a0:=isAgg0
 z0:=sizeOf0
 v0:=zeroValue0
 t3:=underlying3
 a3:=isAgg3
 z3:=sizeOf3
 v3:=zeroValue3
 t4:=underlying4
 a4:=isAgg4
 z4:=sizeOf4
 v4:=zeroValue4
 t5:=underlying5
 a5:=isAgg5
 z5:=sizeOf5
 v5:=zeroValue5
 t9:=underlying9
 a9:=isAgg9
 z9:=sizeOf9
 v9:=zeroValue9
 t46:=underlying163
 a46:=isAgg163
 z46:=sizeOf163
 v46:=zeroValue163
 t53:=underlying156
 a53:=isAgg156
 z53:=sizeOf156
 v53:=zeroValue156
 t212:=underlying228
 a212:=isAgg228
 z212:=sizeOf228
 v212:=zeroValue228
 g17:=rK
 i0:=rK
 i3:=rK
 i4:=rK
 i5:=rK
 i9:=rK
 i46:=rK
 i53:=rK
 i212:=rK
 m17:=by kernel_rfl}
def Tryz.lays285_ren:Go.Shelf.Ren:=⟨λ|285=>147|n=>n,λ|37=>111|53=>156|3=>3|4=>4|51=>162|9=>9|5=>5|0=>0|n=>n,λ|n=>n⟩
def Tryz.lays285:Go.Proofs.Lays.n285 prog Tryz.lays285_ren:=⟨rK,fK func147,underlying0,isAgg0,sizeOf0,zeroValue0,underlying3,isAgg3,sizeOf3,zeroValue3,underlying4,isAgg4,sizeOf4,zeroValue4,underlying5,isAgg5,sizeOf5,zeroValue5,underlying9,isAgg9,sizeOf9,zeroValue9,underlying111,isAgg111,sizeOf111,zeroValue111,underlying162,isAgg162,sizeOf162,zeroValue162,underlying156,isAgg156,sizeOf156,zeroValue156⟩
def Tryz.lays169_ren:Go.Shelf.Ren:=⟨λ|169=>122|n=>n,λ|70=>191|9=>9|0=>0|72=>193|37=>111|127=>210|3=>3|5=>5|n=>n,λ|n=>n⟩
def Tryz.lays169:Go.Proofs.Lays.n169 prog Tryz.lays169_ren:=⟨rK,fK func122,underlying0,isAgg0,sizeOf0,zeroValue0,underlying3,isAgg3,sizeOf3,zeroValue3,underlying9,isAgg9,sizeOf9,zeroValue9,underlying111,isAgg111,sizeOf111,zeroValue111,underlying191,isAgg191,sizeOf191,zeroValue191,underlying193,isAgg193,sizeOf193,zeroValue193,underlying210,isAgg210,sizeOf210,zeroValue210⟩
def Tryz.laysPu14_ren:Go.Shelf.Ren:=⟨λ|14=>91|16=>111|17=>112|19=>127|20=>128|21=>129|22=>130|23=>131|24=>132|25=>141|27=>143|26=>142|28=>150|29=>156|30=>145|31=>146|32=>147|33=>148|35=>152|34=>151|36=>153|37=>154|38=>155|39=>157|40=>158|n=>n,λ|9=>9|3=>3|22=>156|24=>158|25=>159|4=>4|34=>199|5=>5|36=>163|37=>111|0=>0|39=>201|21=>21|44=>214|47=>210|50=>226|48=>224|2=>2|52=>217|55=>220|59=>228|60=>162|20=>20|61=>229|65=>232|66=>233|67=>197|n=>n,λ|0=>1|1=>2|2=>3|3=>4|4=>5|n=>n⟩
def Tryz.laysPu14:Go.Proofs.LaysPu.n14 prog Tryz.laysPu14_ren:=⟨rK,fK func91,fK func111,fK func112,fK func127,fK func128,fK func129,fK func130,fK func131,fK func132,fK func141,fK func142,fK func143,fK func150,fK func156,fK func145,fK func146,fK func147,fK func148,fK func151,fK func152,fK func153,fK func154,fK func155,fK func157,fK func158,underlying0,isAgg0,sizeOf0,zeroValue0,rK,underlying2,isAgg2,sizeOf2,zeroValue2,rK,underlying3,isAgg3,sizeOf3,zeroValue3,rK,underlying4,isAgg4,sizeOf4,zeroValue4,rK,underlying5,isAgg5,sizeOf5,zeroValue5,rK,underlying9,isAgg9,sizeOf9,zeroValue9,rK,underlying20,isAgg20,sizeOf20,zeroValue20,rK,underlying21,isAgg21,sizeOf21,zeroValue21,rK,underlying156,isAgg156,sizeOf156,zeroValue156,rK,underlying158,isAgg158,sizeOf158,zeroValue158,rK,underlying159,isAgg159,sizeOf159,zeroValue159,rK,underlying199,isAgg199,sizeOf199,zeroValue199,rK,rK,underlying163,isAgg163,sizeOf163,zeroValue163,rK,underlying111,isAgg111,sizeOf111,zeroValue111,rK,underlying201,isAgg201,sizeOf201,zeroValue201,rK,underlying214,isAgg214,sizeOf214,zeroValue214,rK,underlying210,isAgg210,sizeOf210,zeroValue210,rK,underlying224,isAgg224,sizeOf224,zeroValue224,rK,underlying226,isAgg226,sizeOf226,zeroValue226,rK,underlying217,isAgg217,sizeOf217,zeroValue217,rK,underlying220,isAgg220,sizeOf220,zeroValue220,rK,underlying228,isAgg228,sizeOf228,zeroValue228,rK,underlying162,isAgg162,sizeOf162,zeroValue162,rK,underlying229,isAgg229,sizeOf229,underlying232,isAgg232,sizeOf232,zeroValue232,rK,underlying233,isAgg233,sizeOf233,zeroValue233,rK,underlying197,isAgg197,sizeOf197,zeroValue197,rK,rK,rK,rK,rK,rK,rK,rK,rK,rK,by kernel_rfl⟩
def Tryz.lays219_ren:Go.Shelf.Ren:=⟨λ|219=>108|217=>123|225=>124|224=>125|267=>126|266=>139|314=>140|n=>n,λ|9=>9|3=>3|4=>4|5=>5|46=>163|146=>206|51=>162|n=>n,λ|1=>0|n=>n⟩
def Tryz.lays219:Go.Proofs.Lays.n219 prog Tryz.lays219_ren:=⟨rK,fK func123,fK func108,fK func125,fK func124,fK func139,fK func126,fK func140,underlying3,isAgg3,sizeOf3,zeroValue3,underlying4,isAgg4,sizeOf4,zeroValue4,underlying5,isAgg5,sizeOf5,zeroValue5,underlying9,isAgg9,sizeOf9,zeroValue9,underlying163,isAgg163,sizeOf163,zeroValue163,underlying162,isAgg162,sizeOf162,zeroValue162,underlying206,isAgg206,sizeOf206,zeroValue206,by kernel_rfl⟩
end Go.Proofs
namespace Go.Proofs.YtplkkbcnilnfaaaGreatDoor
open Go.Shelf Go.RowKit Dv Go.Am
def ZB4 {s:List UInt8} (h:ZIi s=true):Dg s:=by intro c j;have:=Xaw.1 h c j;rw[Xah]at this;exact⟨Xao this.1,Xao this.2⟩
def Zon: ∀ (s:List UInt8) (n:Nat),Dg s->ZsU n s<=4294967295->Lib.parseUintM 4294967295 n s= .ok (ZsU n s)
 | [],n,_,_=>rfl
 |c::s,n,h,j=>by have C:=h c Xai;have I:Dg s:=λx J=>h x (Xaj _ J);have R:10*n+(c.toNat-48)<=ZsU n (c::s):=(by rw[ZeF,ZkB];have U:(10*n+(c.toNat-48))*1<=(10*n+(c.toNat-48))*10^s.length:=Nat.mul_le_mul_left _ (Nat.one_le_pow _ _ (by decide));omega);rw[Lib.parseUintM,if_pos C,if_neg (by omega),if_neg (by omega),ZeF,show n*10+(c.toNat-48)=10*n+(c.toNat-48)by omega];exact Zon s _ I (by rw[<-ZeF];exact j)
def ZwA {s:List UInt8} (h:Dg s) (C:1<=s.length) (I:s.length<=9):Lib.parseUintB 32 s= .ok (dec s):=by
 have j:s≠ []:=by rintro rfl;simp at C
 have J:=ZoO h;have:=Nat.pow_le_pow_right (show 0<10 by decide) I;rw[Lib.parseUintB,if_neg j,show 2^32-1=4294967295 from rfl];exact Zon s 0 h (by show dec s<=_;omega)
def Zke: ∀qs v,parseG qs=some v-> ∀ (S:Nat->Prop) w vals,(∀b,S b->b<w.heap.size)->Laid.ok S w->LRel w S qs vals->
 Calls prog 91 vals.toArray w λe w'=> ∃u,e= .returned u/\Below w.heap.size w w'/\IRel w' (λb=>S b\/(w.heap.size<=b/\b<w'.heap.size)) v u:=by intro qs v j S w vals hS hL I;unfold parseG at j;split at j;rename_i s b z;split at j;rename_i J;simp only[Xah,decide_eq_true_eq]at J;obtain⟨⟨rfl,rfl⟩,⟨hd,R⟩,C⟩:=J;cases j;simp only[LRel,IRel]at I;obtain⟨_,_,rfl,rfl,_,_,rfl,rfl,_,_,rfl,rfl,rfl⟩:=I;have C:=Xao C;have U:s.size=s.data.toList.length:=rfl;refine(Any.strconv_ParseUint_10_at32_ok Tryz.laysPu14 s (by omega) _ (ZwA (ZB4 hd) (Xao R) C) w).mono ?_;rintro e w' ⟨rfl,hw⟩;refine⟨_,rfl, ?_, ?_⟩;rcases hw with rfl|rfl;exact Below.refl _ _;exact Lib.bytesWorld_below _ _ _;simp only[IRel];exact⟨_,rfl,by simp[LRel,IRel]⟩;cases j;cases j
def internal_strconv_small (i:Nat) (h:i<100) (w:World):
 Calls prog 145 #[.int .i64 i] w λe w'=>e= .returned (.string ⟨(Lib.decDigits i).toArray⟩)/\w'=w:=Any.internal_strconv_small Tryz.lays283 i h w
def internal_strconv_numDigits (u:Nat) (C:1<=u) (I:u<18446744073709551616) (w:World) (j:Lib.TabIs prog w "internal/strconv.uint64pow10" .u64 Lib.pow10Tab):
 Calls prog 146 #[.int .u64 u] w λe w'=>e= .returned (.int .i64 (Lib.nDigits u))/\w'=w:=Any.internal_strconv_numDigits Tryz.laysM284 u C I w j
open Go.RowKit Go.Sort Go.Lib in
def internal_strconv_formatBase10 (blk off cap:Nat) (u:Nat) (d:Array UInt8) (w:World) (J:Holds (λ(b:UInt8)=>Value.int .u8 (b.toNat:Int)) w blk off d) (hu:u<10^d.size) (j:u<18446744073709551616) (C:d.size<4611686018427387904):
 Calls prog 147 #[.slice (some ⟨blk,off,none⟩) d.size cap, .int .u64 u] w λe w'=>
  e= .returned (.tuple #[])/\ ∃ (n R:Nat) (I:Array UInt8),w'=(putRow (λ(b:UInt8)=>Value.int .u8 (b.toNat:Int)) w blk off I).drewN n/\FmtInv d.size u 0 R I:=Any.internal_strconv_formatBase10 Tryz.lays285 blk off cap u d w J hu j C
open Go.Sort Go.Lib
def Zre (w:World) (T:TypeId) (nd:Nat) (J:nd<=24):Holds (λ(b:UInt8)=>Value.int .u8 (b.toNat:Int)) (w.alloc (.cells zeros24 T)) w.heap.size 0 (Array.replicate nd (0:UInt8)):=λj C=>by
 have I:j<nd:=by simpa using C
 refine⟨?_,World.frozen?_alloc_new _ _ _ _⟩;rw[World.cell?_alloc_new,zeros24_at _ (by omega),getElem!_pos _ j C];simp
def Zy8 (w:World) (o:Obj) (C:Array UInt8) (k:Nat): ∃os,(putRow (λ(b:UInt8)=>Value.int .u8 (b.toNat:Int)) (w.alloc o) w.heap.size 0 C).drewN k=grow (w.drewN k) os:=by rw[alloc_eq_grow];obtain⟨j,_,e⟩:=putRow_grow_new (λ(b:UInt8)=>Value.int .u8 (b.toNat:Int)) w #[o] w.heap.size 0 C (Xag _);exact⟨j,by rw[e];rfl⟩
def Zud (u:Nat) (C:u<18446744073709551616) (w:World) (R:Lib.TabIs prog w "internal/strconv.uint64pow10" .u64 Lib.pow10Tab):
 Calls prog 137 #[.int .u64 u, .int .i64 10] w λe w'=>e= .returned (.string ⟨(Lib.decDigits u).toArray⟩)/\ ∃k os,w'=grow (w.drewN k) os:=by
 by_cases hs:u<100;have ae:IntKind.i64.wrap (u:Int)=u:=by rw[IntKind.wrap_i64];omega
 have af:(u:Int)<100:=by omega
 go_enter func137,ntmps137
 go_wp2_with (go_at_call 145;refine(internal_strconv_small u hs _).mono ?_;rintro e w' ⟨rfl,rfl⟩);go_ret;exact⟨rfl,0, #[],by simp[World.drewN_zero]⟩;have U:1<=u:=by omega
 have ab:Lib.nDigits u<=20:=by have:=Lib.numDigits_eq u U C;split at this<;>omega
 have aa:prog.arrayLen 217=24:=by kernel_rfl
 have ag:Lib.nDigits u<=24:=by omega
 have ah: ¬ ((u:Int)<100):=by omega
 have ad: ∀W,(Instr.sliceAt 217 (.pointer (some ⟨w.heap.size,0,none⟩)) none (some (.int .i64 (Lib.nDigits u:Int))) none).run prog W= .ok (.slice (some ⟨w.heap.size,0,none⟩) (Lib.nDigits u) 24) W:=λW=>by rw[run_sliceAt_array_h W 217 ⟨w.heap.size,0,none⟩ (by kernel_rfl) .i64 (Lib.nDigits u:Int) (by omega) (by rw[aa];omega)];go_simp
 have J:=Zre w 217 (Lib.nDigits u) (by omega);have I:=internal_strconv_formatBase10 w.heap.size 0 24 u (Array.replicate (Lib.nDigits u) 0) (w.alloc (.cells Lib.zeros24 217)) J (by rw[Array.size_replicate];exact Lib.lt_pow_nDigits u) C (by rw[Array.size_replicate];omega);rw[Array.size_replicate]at I;have HH0:=Lib.hid J;clear J aa;go_enter func137,ntmps137
 go_wp2_with (go_at_call 146;refine(internal_strconv_numDigits u U C _ (Lib.tabIs_alloc R _)).mono ?_;rintro e w' ⟨rfl,rfl⟩);go_at_call 147;refine I.mono ?_;rintro e w' ⟨rfl,k,v',dk,rfl,hF⟩;have ai:(convert 111 9 (.slice (some ⟨w.heap.size,0,none⟩) (Lib.nDigits u) 24)).run prog ((putRow (λ(b:UInt8)=>Value.int .u8 (b.toNat:Int)) (w.alloc (.cells Lib.zeros24 217)) w.heap.size 0 dk).drewN k)= .ok (.string ⟨(Lib.decDigits u).toArray⟩) ((putRow (λ(b:UInt8)=>Value.int .u8 (b.toNat:Int)) (w.alloc (.cells Lib.zeros24 217)) w.heap.size 0 dk).drewN k):=by have h:=run_convert_bytes_back (P:=prog) ((putRow (λ(b:UInt8)=>Value.int .u8 (b.toNat:Int)) (w.alloc (.cells Lib.zeros24 217)) w.heap.size 0 dk).drewN k) 111 9 5 ⟨w.heap.size,0,none⟩ 24 (Lib.decDigits u) underlying111 underlying5 underlying9 (λj hj=>by rw[Lib.row_is_numeral hF j hj,Lib.add_plain,World.cell?_drewN];exact cell?_putRow (λ(b:UInt8)=>Value.int .u8 (b.toNat:Int)) _ w.heap.size 0 _ dk HH0.out (by rw[hF.size,Array.size_replicate]) j (by rw[hF.size];rw[Lib.decDigits_length]at hj;exact hj));rw[Lib.decDigits_length]at h;exact h
 go_wp2;go_ret;obtain⟨os,eo⟩:=Zy8 w (.cells Lib.zeros24 217) dk k;exact⟨rfl,k,os,eo⟩
def Zwk:(prog.info? 193).map (·.size)=some 2:=by kernel_rfl
def ZDz:liesAt prog prog.depth 193 (2/prog.cellsOf 193) 0 193 1=true:=by kernel_rfl
def Zvj:(prog.info? 5).map (λi=>(i.zero,i.size,i.bytes))=some (some (.int .u8 0),1,1):=by kernel_rfl
def Zlj (b:Nat) (w:World) (I:w.cell? ⟨b,0,none⟩=some (.pointer (some ⟨b,0,none⟩))):
 Calls prog 138 #[.pointer (some ⟨b,0,none⟩)] w λe w'=>e= .returned (.tuple #[])/\w'=w:=by
 obtain⟨j,C,_⟩:=Option.map_eq_some_iff.1 Zwk;go_enter func138,ntmps138
 go_wp2;rw[Lib.run_neq_ptr_same w _ underlying191 C];go_wp2;go_end0;exact⟨rfl,rfl⟩
def Zkz (b:Nat) (w:World) (U:w.cell? ⟨b,0,none⟩=some (.pointer none)) (C:w.shape? b=some (193,2)) (R:w.frozen? ⟨b,0,none⟩=false):
 Calls prog 138 #[.pointer (some ⟨b,0,none⟩)] w λe w'=>e= .returned (.tuple #[])/\w'=w.setCell ⟨b,0,none⟩ (.pointer (some ⟨b,0,none⟩)):=by
 obtain⟨j,J,I⟩:=Option.map_eq_some_iff.1 Zwk;go_enter func138,ntmps138
 go_wp2;rw[Lib.run_to_unsafe w ⟨b,0,none⟩ underlying191 underlying222 J (by rw[I];decide) C (Nat.zero_lt_succ 1)];simp only[Result.andThen];rw[Oper.upon_value];go_wp2;rw[run_callFunc_extern func149 (by kernel_rfl) (by kernel_rfl) (by kernel_rfl) (e:=Extern.AbiNoEscape.same) (by kernel_rfl)];rw[Lib.run_noEscape];simp only[Result.andThen];rw[Oper.upon_value];go_wp2;rw[Lib.run_from_unsafe w ⟨b,0,none⟩ underlying222 underlying191 J C ZDz];simp only[Result.andThen];rw[Oper.upon_value];go_wp2;go_end0;exact⟨rfl,rfl⟩
def Zp4 (B b:Nat) (j:List Value) (w:World) (h:Lib.IsBuilderF 193 5 B b j w):
 Calls prog 138 #[.pointer (some ⟨b,0,none⟩)] w λe w'=>e= .returned (.tuple #[])/\(Lib.BuilderAtF 193 5 B b (.pointer (some ⟨b,0,none⟩)) j w'/\Below B w w'/\Lib.OthersKept 5 (some b) w w'):=by rcases h with h|h;refine(Zkz b w h.cell0 h.shape h.frozen0).mono ?_;rintro e w' ⟨rfl,rfl⟩;exact⟨rfl,h.used _,(Below.refl B w).setCell (p:=⟨b,0,none⟩) h.1 _,(Lib.OthersKept.refl _ _ w).setCell ⟨b,0,none⟩ rfl _⟩;refine(Zlj b w h.cell0).mono ?_;rintro e w' ⟨rfl,rfl⟩;exact⟨rfl,h,Below.refl B _,Lib.OthersKept.refl _ _ _⟩
def Zff (B b:Nat) (bs:List Value) (s:ByteArray) (w:World) (h:Lib.IsBuilderF 193 5 B b bs w) (hlen:bs.length+s.size<=140737488355328) (ah:B<=w.heap.size):
 Calls prog 121 #[.pointer (some ⟨b,0,none⟩), .string s] w λe w'=>e= .returned (.tuple #[.int .i64 s.size, .nilIface])/\(Lib.BuilderAtF 193 5 B b (.pointer (some ⟨b,0,none⟩)) (bs++Lib.strCells s) w'/\Below B w w'/\Lib.OthersKept 5 (some b) w w'):=by
 obtain⟨i0,hi,aa,ab,ad⟩:=info_parts Zvj;go_enter func121,ntmps121
 go_wp2_with (go_at_call 138;refine(Zp4 B b bs _ h).mono ?_);rintro e w1 ⟨rfl,h1,U,ae⟩;obtain⟨hB,v,J,C,af⟩:=h1;have c0:w1.cell? ⟨b,0,none⟩=some (.pointer (some ⟨b,0,none⟩)):=by rw[Lib.cell_of_heap J];rfl
 have c1:w1.cell? ⟨b,1,none⟩=some v:=by rw[Lib.cell_of_heap J];rfl
 go_wp2_with (at_builtin;refine Lib.wpList_append_own_stringF _ rfl _ _ 111 9 rfl B 5 i0 underlying111 underlying9 hi aa ab ad _ _ _ rfl C s rfl ?c3 ?c4 ?c5 ?_);case c3=>unfold maxLen;omega
 case c4=>omega
 case c5=>have:=U.size;omega
 intro v' w2 I j _;have ag:b<w1.heap.size:=by rcases Xa5 b w1.heap.size with h'|h';exact h';simp[Array.getElem?_eq_none h']at J
 have R:w2.heap[b]? =some (.cells #[.pointer (some ⟨b,0,none⟩),v] 193 (0,0)):=by rw[j.block b ag (λe=>af e.symm)];exact J
 have d0:w2.cell? ⟨b,0,none⟩=some (.pointer (some ⟨b,0,none⟩)):=by rw[Lib.cell_of_heap R];rfl
 have d1:w2.cell? ⟨b,1,none⟩=some v:=by rw[Lib.cell_of_heap R];rfl
 have f1:w2.frozen? ⟨b,1,none⟩=false:=Lib.frozen_of_heap R 1;obtain⟨ao,n',cap,rfl⟩: ∃ao n' cap,v'= .slice ao n' cap:=by rcases I.2 with⟨hv,_⟩|⟨g,cap,cur,fz,hv,_⟩;exact⟨_,_,_,hv⟩;exact⟨_,_,_,hv⟩
 go_wp2;go_ret2;refine⟨rfl, ?_, ?_,(ae.grown j (Lib.ownsRowF_kind C)).setCell ⟨b,1,none⟩ rfl _⟩;exact Lib.BuilderAtF.put (T:=193) (e:=5) hB R (bs':=bs++Lib.strCells s) (by simpa[Lib.strCells_length]using I) (by decide);exact(U.grown j (by have:=U.size;omega) (λk hk=>(C.lt k hk).1)).setCell (p:=⟨b,1,none⟩) hB _
def Zp8:Builder.Extra prog Tryz.lays169_ren where
 sizeBuilder:=by kernel_rfl
 liesBuilder:=by kernel_rfl
 t5:=underlying5
 a5:=isAgg5
 z5:=sizeOf5
 v5:=zeroValue5
 infoByte:=by kernel_rfl
 cellsByte:=by kernel_rfl
 sizeByte:=by kernel_rfl
 neB5:=by decide
def Zld (B b:Nat) (l:List UInt8) (w:World) (h:Lib.IsBuilderF 193 5 B b (Lib.byteCells l) w) (j:B<=w.heap.size):
 Calls prog 122 #[.pointer (some ⟨b,0,none⟩)] w λe w'=>e= .returned (.string ⟨l.toArray⟩)/\(Lib.IsBuilderF 193 5 B b (Lib.byteCells l) w'/\Below B w w'/\Lib.OthersKept 5 (some b) w w'):=Any.Builder_String_any_k Tryz.lays169 Zp8 B b l w h j
def Zxc (u:Nat) (j:u<18446744073709551616) (w:World) (C:Lib.TabIs prog w "internal/strconv.uint64pow10" .u64 Lib.pow10Tab):
 Calls prog 120 #[.int .u64 u, .int .i64 10] w λe w'=>e= .returned (.string ⟨(Lib.decDigits u).toArray⟩)/\ ∃k os,w'=grow (w.drewN k) os:=by
 go_enter func120,ntmps120
 go_wp2_with (go_at_call 137;refine(Zud u j _ C).mono ?_;rintro e w' ⟨rfl,k,os,rfl⟩);go_ret;exact⟨rfl,k,os,rfl⟩
end Go.Proofs.YtplkkbcnilnfaaaGreatDoor
namespace Dv
open Go Go.Lib
def pvN:List Nat->Nat
 | []=>0
 |p::r=>p+1000000000*pvN r
def ZyF (p:Nat):List UInt8:=List.replicate (9-(decDigits p).length) 48++decDigits p
def Zce:List Nat->List UInt8
 | []=> []
 |p::r=>match r with
  | []=>decDigits p
  |_::_=>Zce r++ZyF p
def ZpE (p:Nat):Zce [p]=decDigits p:=rfl
def Zuy (p:Nat) {r:List Nat} (h:r≠ []):Zce (p::r)=Zce r++ZyF p:=by cases r with|nil=>exact absurd rfl h|cons _ _=>rfl
def ZvB (k:Nat) (s:List UInt8):dec (List.replicate k 48++s)=dec s:=by induction k with|zero=>rfl|succ k j=>rw[List.replicate_succ,Xbs,Zhu,j];simp
def Zov {p:Nat} (h:p<1000000000):(ZyF p).length=9/\Dg (ZyF p)/\dec (ZyF p)=p:=by have C:=(Zgl (n:=p) (k:=9) (by decide)).2 h;refine⟨by rw[ZyF,Xas,XaM];omega, ?_,by rw[ZyF,ZvB,Zc3]⟩;refine Dg.app ?_ (ZcI p);intro c j;rw[List.eq_of_mem_replicate j];decide
def Cn.head {s:List UInt8} (h:Cn s) (j:1<=dec s):s.head?≠some 48:=by rcases s with _|⟨c,s⟩;exact absurd rfl h.1;rcases s with _|⟨d,s⟩;rw[Zny]at j;simp only[List.head?_cons,ne_eq,Xaf];rintro rfl;exact absurd j (by decide);exact h.2.2 (by simp)
def ZlY: ∀ {ns:List Nat},ns≠ []->(∀p∈ns,p<1000000000)->(2<=ns.length->ns.getLast?≠some 0)->Cn (Zce ns)/\dec (Zce ns)=pvN ns
 | [],h,_,_=>absurd rfl h
 | [p],_,_,_=>by rw[ZpE,Zc3];exact⟨ZkM p,by simp[pvN]⟩
 |p::q::r,_,J,h3=>by
  have j:(q::r).getLast?≠some 0:=(by have:=h3 (by simp);rwa[List.getLast?_cons_cons]at this);obtain⟨I,R⟩:=ZlY (ns:=q::r) (by simp) (λx hx=>J x (Xaj _ hx)) λ_=>j;obtain⟨h6,h7,h8⟩:=Zov (J p Xai);have C:1<=pvN (q::r):=by
   have: ∀l:List Nat,l≠ []->l.getLast?≠some 0->1<=pvN l:=by intro l;induction l with|nil=>intro h;exact absurd rfl h|cons x l ih=>intro _ U;cases l with|nil=>have:x≠0:=λe=>U (by rw[e];rfl);simp only[pvN];omega|cons y l=>have:=ih (by simp) (by rwa[List.getLast?_cons_cons]at U);simp only[pvN]at this|-;omega
   exact this _ (by simp) j
  have e:Zce (p::q::r)=Zce (q::r)++ZyF p:=rfl;rw[e,ZqP,R,h6,h8];refine⟨⟨by simp[I.1],I.2.1.app h7,λ_=> ?_⟩,by show _=p+1000000000*pvN (q::r);omega⟩;have:=I.head (by rw[R];exact C);cases hj:Zce (q::r)with|nil=>exact absurd hj I.1|cons x t=>rw[hj]at this;simpa using this
def ZAo {ns:List Nat} (j:ns≠ []) (C: ∀p∈ns,p<1000000000) (I:2<=ns.length->ns.getLast?≠some 0):Zce ns=decDigits (pvN ns):=by obtain⟨J,R⟩:=ZlY j C I;rw[<-J.eq,R]
def ZvG: ∀ (l:List Nat) (p:Nat),pvN (l++ [p])=pvN l+1000000000^l.length*p
 | [],p=>by simp[pvN]
 |x::l,p=>by rw[Xbs,pvN,ZvG l p,pvN,Xaq,Nat.pow_succ,Nat.mul_add,<-XbX,Nat.mul_comm 1000000000 (1000000000^l.length)];omega
def Zkn: ∀ (ns:List Nat),(∀p∈ns,p<1000000000)->(Zce ns).length<=9*ns.length
 | [],_=>by simp[Zce]
 | [p],h=>by rw[ZpE];have:=(Zgl (n:=p) (k:=9) (by decide)).2 (h p (by simp));simpa using this
 |p::q::r,h=>by have j:=Zkn (q::r) λx C=>h x (Xaj _ C);have I:=(Zov (h p (by simp))).1;have e:Zce (p::q::r)=Zce (q::r)++ZyF p:=rfl;rw[e,Xas,I];simp only[Xaq]at j|-;omega
end Dv
namespace Go.Proofs.YtplkkbcnilnfaaaGreatDoor
open Go.RowKit Go.Shelf Go.Lib Dv Go.Tx Go.Am Go.Sort
def ZhF {T e:TypeId} {B b:Nat} {j:List Value} {w w':World} (h:Lib.IsBuilderF T e B b j w) (J:Below w.heap.size w w'):Lib.IsBuilderF T e B b j w':=by
 have at_: ∀p,Lib.BuilderAtF T e B b p j w->Lib.BuilderAtF T e B b p j w':=by
  rintro p ⟨R,v,U,⟨h3,C⟩,h5⟩;have lt: ∀ (k:Nat) (o:Obj),w.heap[k]? =some o->w'.heap[k]? =some o:=λk o I=>by rw[J.block k (Xbk.1 I).1];exact I
  refine⟨R,v,lt _ _ U,⟨h3, ?_⟩,h5⟩;rcases C with C|⟨g,cap,cur,fz,h6,h7,h8,h9⟩;exact .inl C;exact .inr ⟨g,cap,cur,fz,h6,h7,lt _ _ h8,h9⟩
 exact h.imp (at_ _) (at_ _)
def Zit (w:World) (k:Nat) (os:Array Obj):Below w.heap.size w (grow (w.drewN k) os):=
 ⟨rfl,rfl,rfl,by simp[grow],λi hi=>by simp only[grow,World.heap_drewN];rw[Array.getElem?_append_left hi]⟩
def ZvM (a b:List UInt8):(⟨a.toArray⟩++⟨b.toArray⟩:ByteArray)=⟨(a++b).toArray⟩:=by apply ByteArray.ext;simp
def ZlH (f:Nat->Value):Nat->Nat->List Value
 |0,_=> []
 |n+1,i=>f i::ZlH f n (i+1)
def Zod (f:Nat->Value): ∀ (l:List Value) (i:Nat),(∀j,j<l.length->l[j]? =some (f (i+j)))->l=ZlH f l.length i
 | [],_,_=>rfl
 |x::l,i,h=>by show x::l=f i::ZlH f l.length (i+1);rw[<-Zod f l (i+1) λj C=>by have:=h (j+1) (Nat.succ_lt_succ C);rwa[show i+(j+1)=i+1+j by omega]at this];rw[Xbc (h 0 (Nat.succ_pos _))];rfl
def ZvS (l:List Value) {n:Nat} (h:l.length=n):l=ZlH (λi=>l.getD i undef) n 0:=by subst h;exact Zod _ l 0 λj C=>by rw[Xak,Xan,Xad C];rfl
def ZzU (m:Bool) (ns:List Nat) (aq:ns≠ []) (h9: ∀p∈ns,p<1000000000) (hlen:ns.length<=300) (b1 o1 b4 o4 cap:Nat) (f:Nat->Value) (f1:f 1= .pointer (some ⟨b1,o1,none⟩)) (f4:f 4= .slice (some ⟨b4,o4,none⟩) ns.length cap) (w1:World)
 (ag:b1<w1.heap.size) (ah:b4<w1.heap.size) (hm:w1.cell? ⟨b1,o1,none⟩=some (.bool m)) (hc: ∀j (hj:j<ns.length),w1.cell? ⟨b4,o4+j,none⟩=some (.int .u32 (ns[j]:Nat)))
 (g:Nat) (hg:prog.globalNamed ZfP=some g) (ai:g<w1.heap.size) (ab:Lib.TabIs prog w1 ZfP .u64 Lib.pow10Tab):
 (Zou 5 (bodyOf Tryz.f107)).wp prog (bodyPost prog Tryz.f107 λe w'=>e= .returned (.tuple #[.string ⟨((match m with|true=> [45]|false=> [])++Zce ns).toArray⟩, .bool (Nat.ble (Zce ns).length 2000)])/\Below w1.heap.size w1 w')
  ⟨(ZlH f 72 0).toArray,[]⟩ w1:=by
 simp only[ZlH,Nat.reduceAdd,f1,f4];conv=>arg 2;simp only[Zou,bodyOf,Tryz.f107]
 go_wp2;go_loopw [9] (λv wr=> ∃i:Nat,i<=ns.length/\v= .int .i64 ((i:Int)-1)/\Lib.IsBuilderF 193 5 w1.heap.size w1.heap.size (Lib.byteCells (Zce (ns.drop i))) wr/\Below w1.heap.size w1 wr/\w1.heap.size<=wr.heap.size)
  (λv _=>match v with| .int _ x=>(x+1).toNat|_=>0)
 case atStart=>
  refine⟨ns.length,Xag _, ?_, ?_,(Below.refl _ w1).alloc (Xag _) _,by simp⟩
  ·rfl
  ·rw[Xbt]
   exact Lib.IsBuilderF.of (Lib.fresh_isBuilder 193 5 w1)
 case round=>
  obtain⟨i,hi,rfl,hI,J,ad⟩:=hrel
  rcases i with _|j
  ·rw[XaV]at hI
   have ae:=Zkn ns h9
   go_wp2_with (go_at_call 122;refine(Zld w1.heap.size w1.heap.size (Zce ns) _ hI ad).mono ?_)
   rintro e W1 ⟨rfl,_,aj,_⟩
   have R:=J.trans aj
   have ar:W1.cell? ⟨b1,o1,none⟩=some (.bool m):=(R.cell ag).trans hm
   have au:decide (((Zce ns).length:Int)<=2000)=Nat.ble (Zce ns).length 2000:=by
    cases hb:Nat.ble (Zce ns).length 2000 with|true=>have:=Xao hb;exact decide_eq_true (by omega)|false=>refine decide_eq_false λh=> ?_;rw[Xb1 (by omega)]at hb;cases hb
   cases m
   ·go_wp2
    go_ret2
    refine⟨?_,R⟩
    show Ending.returned (.tuple #[.string ⟨(Zce ns).toArray⟩, .bool (Nat.ble (Zce ns).length 2000)])=_
    rfl
   ·go_wp2
    go_ret2
    refine⟨?_,R⟩
    show Ending.returned (.tuple #[.string (⟨[45].toArray⟩++⟨(Zce ns).toArray⟩), .bool (Nat.ble (Zce ns).length 2000)])=_
    rw[ZvM];rfl
  ·have hj:j<ns.length:=by omega
   obtain⟨p,hp⟩: ∃p,ns[j]=p:=⟨_,rfl⟩
   have ak:p<1000000000:=hp▸h9 _ (XaI hj)
   have av:wr.cell? ⟨b4,o4+j,none⟩=some (.int .u32 (p:Nat)):=by rw[J.cell ah,hc j hj,hp]
   have C:Lib.TabIs prog wr ZfP .u64 Lib.pow10Tab:=Zsl hg (J.block g ai) ab
   have aw:IntKind.u64.wrap (p:Int)=p:=by rw[IntKind.wrap_u64];omega
   have al:(((j+1:Nat):Int)-1)=j:=by omega
   rw[al]
   have an:(decDigits p).length<=9:=(Zgl (by decide)).2 ak
   have ax:((decDigits p).length:Int)<=9:=by omega
   have ae:=Zkn (ns.drop (j+1)) λx hx=>h9 x (XbD hx)
   rw[Xbo]at ae
   have af:ns.drop j=p::ns.drop (j+1):=by rw[XaL hj,hp]
   have I: ∀k os,Below w1.heap.size w1 (grow (wr.drewN k) os):=λk os=>J.trans ((Zit wr k os).mono ad)
   by_cases U:j+1=ns.length
   ·have ao: ¬ ((j:Int)<(ns.length:Int)-1):=by omega
    go_wp2_with (go_at_call 120;refine(Zxc p (by omega) _ C).mono ?_;rintro e W1 ⟨rfl,k,os,rfl⟩)
    go_at_call 121
    refine(Zff w1.heap.size w1.heap.size _ _ _ (ZhF hI (Zit wr k os)) ?_ ?_).mono ?_
    ·rw[Lib.byteCells_length]
     show _+(decDigits p).toArray.size<=_
     rw[List.size_toArray];omega
    ·exact(I k os).size
    rintro e W2 ⟨rfl,h2,b2,_⟩
    go_wp2
    go_roundw
    case rel=>
     refine⟨j,by omega,by go_num, ?_,(I k os).trans b2,((I k os).trans b2).size⟩
     refine Or.inr ?_
     have e:Zce (ns.drop j)=Zce (ns.drop (j+1))++decDigits p:=by
      rw[af,U,Xbt];rfl
     rw[e,Lib.byteCells_append]
     exact h2
    case measure=>
     show((j:Int)-1+1).toNat<((j:Int)+1).toNat
     omega
   ·have ao:((j:Int)<(ns.length:Int)-1):=by omega
    go_wp2_with (go_at_call 120;refine(Zxc p (by omega) _ C).mono ?_;rintro e W1 ⟨rfl,k,os,rfl⟩)
    have hz: ∀L,L<=9->(⟨#[48,48,48,48,48,48,48,48,48]⟩:ByteArray).extract L 9=⟨(List.replicate (9-L) 48).toArray⟩:=by
     intro L hL;have: ∀L:Fin 10,(⟨#[48,48,48,48,48,48,48,48,48]⟩:ByteArray).extract L.val 9=⟨(List.replicate (9-L.val) 48).toArray⟩:=by decide+kernel
     exact this ⟨L,by omega⟩
    rw[hz _ an]
    go_at_call 121
    refine(Zff w1.heap.size w1.heap.size _ _ _ (ZhF hI (Zit wr k os)) ?_ ?_).mono ?_
    ·rw[Lib.byteCells_length]
     show _+(List.replicate (9-(decDigits p).length) (48:UInt8)).toArray.size<=_
     rw[List.size_toArray,XaM];omega
    ·exact(I k os).size
    rintro e W2 ⟨rfl,h2,b2,_⟩
    have e2:Lib.byteCells (Zce (ns.drop (j+1)))++Lib.strCells ⟨(List.replicate (9-(decDigits p).length) (48:UInt8)).toArray⟩=Lib.byteCells (Zce (ns.drop (j+1))++List.replicate (9-(decDigits p).length) 48):=by
     rw[Lib.byteCells_append];rfl
    rw[e2]at h2
    have aa:=(I k os).trans b2
    go_wp2_with (go_at_call 121;refine(Zff w1.heap.size w1.heap.size _ _ _ (Or.inr h2) ?_ aa.size).mono ?_)
    ·rw[Lib.byteCells_length,Xas,XaM]
     show _+(decDigits p).toArray.size<=_
     rw[List.size_toArray];omega
    rintro e W3 ⟨rfl,h3,b3,_⟩
    go_wp2
    go_roundw
    case rel=>
     refine⟨j,by omega,by go_num, ?_,aa.trans b3,(aa.trans b3).size⟩
     refine Or.inr ?_
     have e:Zce (ns.drop j)=(Zce (ns.drop (j+1))++List.replicate (9-(decDigits p).length) 48)++decDigits p:=by
      rw[af,Zuy p (by rw[ne_eq,List.drop_eq_nil_iff];omega),ZyF,Xa2]
     rw[e,Lib.byteCells_append]
     exact h3
    case measure=>
     show((j:Int)-1+1).toNat<((j:Int)+1).toNat
     omega
noncomputable def Zrs:Am.Hints:=Zpb λ_=>none
def Zxj (ns:List Nat):List Int:=ns.map λn:Nat=>(n:Int)
def Zx8 {k:Nat} {A:Int} (h:(1000000000:Int)^k<=A) (j:A<4294967296^210):k<=299:=by
 rcases Xa5 k 300 with h1|h1;omega;have C:(1000000000:Int)^300<=1000000000^k:=ZiL (b:=1000000000) (by decide) h1;have I:(4294967296:Int)^210<1000000000^300:=by decide+kernel
 exact absurd (Int.lt_of_lt_of_le I (Int.le_trans C (Int.le_trans h (Xbq j)))) (Int.lt_irrefl _)
def ZGm (a:List Int) (ns:List Nat):Prop:=(a≠ []->ns≠ [])/\(∀p∈ns,p<1000000000)/\(2<=ns.length->ns.getLast?≠some 0)/\(pvN ns:Int)=wv a/\ns.length<=300
def Zz7 (m:Bool) (a:List Int) (ha:Wd a) (hl:a.length<=210):LoopOK prog Zrs 0 ⟨107,0,72⟩ (Za6 Tryz.f107 7) [(1, .ptr 0 0 0),(4, .nils),(5,Zby a)] [.cell [.v .b m,Zby a] true]
 (λe tm hp=>e= .exit 0/\ ∃ns,ZGm a ns/\Zck 1 tm=some (.ptr 0 0 0)/\Zck 4 tm=some (.ref 1 0 ns.length none)/\hp=[.cell [.v .b m,Zby a] true, .row (.i .u32) (Zxj ns) true]):=by
 refine Zap Zab rfl (λ(s:List Nat×List Int)=> [(1, .ptr 0 0 0),(4, .ref 1 0 s.1.length none),(5,Zby s.2)]) (λs=> [.cell [.v .b m,Zby a] true, .row (.i .u32) (Zxj s.1) true])
  (λs=>Wd s.2/\s.2.length<=210/\(s.1=[]->s.2=a)/\(s.1≠ []->Nz s.2)/\(∀p∈s.1,p<1000000000)/\(wv s.2=0->2<=s.1.length->s.1.getLast?≠some 0)/\(pvN s.1:Int)+1000000000^s.1.length*wv s.2=wv a/\s.1.length<=300) (λs=>(wv s.2).toNat+s.2.length) ?_ ([],a) ?_ ?_
 rintro⟨ns,cur⟩ ⟨hw,ad,h1,h2,h3,h4,C,U⟩;simp only at hw ad h1 h2 h3 h4 C U;refine Xab (λh=> ?_) (λh=> ?_);have I:cur≠ []:=by rintro rfl;have h':(0:Int)<(([]:List Int).length:Int):=of_decide_eq_true h;simp at h'
 have ak:=Zbu hw;have al:0<=wv cur % 1000000000:=Int.emod_nonneg _ (by decide);have an:wv cur % 1000000000<1000000000:=Int.emod_lt_of_pos _ (by decide);obtain⟨r,hr⟩: ∃r:Nat,wv cur % 1000000000=r:=⟨(wv cur % 1000000000).toNat,by omega⟩;have ae:=Zbu ha;have hA:wv a<4294967296^210:=Int.lt_of_lt_of_le ae.2 (ZiL (b:=4294967296) (by decide) hl);have ao:ns.length<=299:=by by_cases j:ns=[];subst j;simp;have h5:=ZoF hw (h2 j) I;refine Zx8 (A:=wv a) ?_ hA;have h6:(1000000000:Int)^ns.length*1<=1000000000^ns.length*wv cur:=XbB (by omega) (Xbq (Xb4 (by decide)));omega
 have aq:(Zxj ns).length=ns.length:=by simp[Zxj]
 refine(ZlZ _ rfl cur 1000000000 hw (by decide) (by decide) (by omega)).mono ?_;rintro _ ⟨q,rfl,af,ar,ag⟩;refine Xab (by show 0+1<=1;decide) ?_;refine Xab (by show 0+ns.length<=(Zxj ns).length;omega) ?_;refine Xab (by show(ns.length+(0+1))*4<=_;omega) ?_;refine(ZBg _ rfl false q af (by omega)).mono ?_;rintro _ ⟨s,rfl,J,aa,au,ah⟩;have av:=Zbu J;have e1:wv s=wv cur/1000000000:=by rw[ah,ag]
 have e2:Zxj (ns++ [r])=sub (Zxj ns) 0 ns.length++ [wv cur % 1000000000]:=by rw[sub,XaV,XaA (by omega),hr];simp[Zxj]
 refine⟨(ns++ [r],s),⟨J, ?_, ?_, ?_, ?_, ?_, ?_, ?_⟩, ?_, ?_⟩;show s.length<=210;omega;intro h;simp at h;intro _;exact aa;intro p hp;rcases XaJ.1 hp with hp|hp;exact h3 p hp;rw[Xat.1 hp];omega;intro h0 R;have h0:wv s=0:=h0;rw[List.getLast?_concat];have j:ns≠ []:=by rintro rfl;simp at R
 have:=ZoF hw (h2 j) I;intro e;cases e;omega;show(pvN (ns++ [r]):Int)+1000000000^(ns++ [r]).length*wv s=wv a;have e5:((pvN (ns++ [r]):Nat):Int)=pvN ns+1000000000^ns.length*(r:Int):=by rw[ZvG,Int.natCast_add,Int.natCast_mul,Int.natCast_pow];rfl
 rw[e5,Xas,List.length_singleton,XbR,e1,<-C];have e3:=Xbi (wv cur) 1000000000;rw[hr]at e3;have e4:(1000000000:Int)^ns.length*wv cur=1000000000^ns.length*(r:Int)+1000000000^ns.length*1000000000*(wv cur/1000000000):=by rw[<-e3,Int.mul_add,Int.mul_assoc,e3]
 rw[e4];omega;show(ns++ [r]).length<=300;simp;omega;show(wv s).toNat+s.length<(wv cur).toNat+cur.length;have aj:1<=cur.length:=by cases cur with|nil=>exact absurd rfl I|cons x l=>simp
 by_cases hz:wv cur=0;have hs:s=[]:=by rcases s with _|⟨x,l⟩;rfl;have:=ZoF J aa (by simp);omega
 subst hs;simp[wv];omega;omega;refine ZaH rfl rfl ?_ ?_;exact⟨⟨rfl,rfl⟩,⟨rfl,(by simp:(ns++ [r]).length=ns.length+1),(by simp:(ns++ [r]).length=ns.length+1)⟩,rfl,trivial⟩;exact⟨⟨⟨rfl,rfl,trivial⟩,λ_=>rfl⟩,⟨e2,λ_=>rfl⟩,trivial⟩;have ai:cur=[]:=by cases cur with|nil=>rfl|cons x r=>have h': ¬ (0:Int)<((x::r).length:Int):=of_decide_eq_false h;simp at h'
 subst ai;refine⟨rfl,ns,⟨?_,h3,λR=>h4 rfl R, ?_, ?_⟩,rfl,rfl,rfl⟩;exact λab j=>ab (h1 j).symm;simpa[wv]using C;exact U;exact⟨ha,hl,λ_=>rfl,λh=>absurd rfl h,λp hp=>by simp at hp,λ_ h=>by simp at h,by simp[pvN],by simp⟩;refine ZaH rfl rfl ?_ ?_;exact⟨⟨rfl,rfl⟩,⟨rfl,rfl,rfl⟩,rfl,trivial⟩;exact⟨⟨⟨rfl,rfl,trivial⟩,λ_=>rfl⟩,rfl,trivial⟩
def ZHY (m:Bool) (a:List Int) (e:Ex) (tm:TM) (hp:List SM):Prop:=
 (e= .ret/\ ∃s f,Zck 2 tm=some (.v .s s)/\Zck 3 tm=some (.v .b f)/\s=ZeH m a/\f=Zez a)\/
 (e= .normal/\a≠ []/\a.length<=210/\ ∃ns,ZGm a ns/\Zck 1 tm=some (.ptr 0 0 0)/\Zck 4 tm=some (.ref 1 0 ns.length none)/\hp=[.cell [.v .b m,Zby a] true, .row (.i .u32) (Zxj ns) true])
def ZDb (m:Bool) (a:List Int) (U:Wd a):wp prog Zrs tys 0 ⟨107,0,72⟩ (preC 5 (bodyOf Tryz.f107)) (Zch 0 [.agg [.v .b m,Zby a]]) [] (ZHY m a):=by
 refine Xab rfl ?_;refine Xab (λh=> ?_) (λh=> ?_);have he:a=[]:=by have R:(a.length:Int)=0:=of_decide_eq_true h;exact Xbg.1 (by omega)
 subst he;exact .inl ⟨rfl,_,_,rfl,rfl,rfl,rfl⟩;have j:a≠ []:=by rintro rfl;exact absurd rfl (of_decide_eq_false h: ¬ (([]:List Int).length:Int)=0)
 have he:a.isEmpty=false:=by simpa using j
 refine Xab rfl ?_;refine Xab (λI=> ?_) (λI=> ?_);have J:210<a.length:=by have R:(210:Int)<(a.length:Int):=of_decide_eq_true I;omega
 have C:Nat.ble a.length 210=false:=by cases C:Nat.ble a.length 210 with|false=>rfl|true=>have:=Xao C;omega
 exact .inl ⟨rfl,_,_,rfl,rfl,by simp only[ZeH,he,C],by simp only[Zez,he,C]⟩;have J:a.length<=210:=by have R: ¬ (210:Int)<(a.length:Int):=of_decide_eq_false I;omega
 refine Xab rfl ?_;refine((Zz7 m a U J).ent ?_).mono ?_;refine ZaH rfl rfl ?_ ?_;exact⟨⟨rfl,rfl⟩,trivial,rfl,trivial⟩;exact⟨⟨⟨rfl,rfl,trivial⟩,λ_=>rfl⟩,trivial⟩;rintro e tm hp ⟨rfl,ns,h3,h4,h5,h6⟩;exact .inr ⟨rfl,j,J,ns,h3,h4,h5,h6⟩
def ZCg:Static prog Zrs:=ZfE Zrn λf hf=>by cases hf
def ZFr:ZbX prog Zrs:=λf g j=>by cases j
def Zpj: ∀ {es:List (List PV)} {a:List Int},ZfO es=some a->Wd a/\All2 (RR (.i .u32)) a es
 | [],a,h=>by cases h;exact⟨λx I=>by simp at I,trivial⟩
 |c::r,a,h=>by unfold ZfO at h;split at h;rename_i heq;cases heq;rename_i x U heq;cases heq;split at h;rename_i C;simp only[Xah,decide_eq_true_eq]at C;(cases j:ZfO r with|none=>rw[j]at h;cases h|some l=>rw[j]at h;cases h;obtain⟨J,R⟩:=Zpj j;refine⟨λy hy=> ?_,rfl,R⟩;rcases Xau.1 hy with rfl|hy;exact C;exact J y hy);cases h;cases h
def Zl9 {φ:Phi} {w:World} {S:Nat->Prop} {b:Nat}: ∀ {l:List Int} {es:List (List PV)} {o:Nat},All2 (RR (.i .u32)) l es->VE φ w S es b o-> ∀j (C:j<l.length),w.cell? ⟨b,o+j,none⟩=some (.int .u32 l[j])
 | [],_,_,_,_,j,C=>by simp at C
 |x::l,[],_,h,_,_,_=>by cases h
 |x::l,c::es,o,h,I,j,C=>by obtain⟨J,R⟩:=h;simp only[RR]at J;subst J;simp only[VE,VC,VRel,Xaq,XbG]at I;obtain⟨⟨⟨_,v,U,rfl⟩,_⟩,h4⟩:=I;cases j with|zero=>exact U|succ j=>have:=Zl9 (o:=o+(0+1)) R h4 j (by simpa using C);rw[show o+(j+1)=o+(0+1)+j by omega];exact this
def Zut (m:Bool) (a:List Int) (ha:Wd a) (qs:List PV) (hr:RL [] [.agg [.v .b m,Zby a]] qs) (S:Nat->Prop) (w:World) (vals:List Value) (an: ∀b,S b->b<w.heap.size) (hL:Laid.ok S w) (hv:LRel w S qs vals):
 Calls prog 107 vals.toArray w λe w'=>e= .returned (.tuple #[.string ⟨(ZeH m a).toArray⟩, .bool (Zez a)])/\Below w.heap.size w w':=by
 refine Zyb ZCg ZFr Zab (fn:=Tryz.f107) (code:=bodyOf Tryz.f107) 5 (by kernel_rfl) func107 (by kernel_rfl) (Xao (by kernel_rfl)) (by kernel_rfl) (ZDb m a ha) hr an hL hv ?_;intro e st tm hp a7 a' w' φ' S' hK hs hI hE hT;refine⟨λao=> ?_,λhn=> ?_⟩;rcases hK with⟨rfl,s,f,R,h3,rfl,rfl⟩|⟨rfl,_⟩;obtain⟨q2,g2,r2⟩:=hs.tm _ _ R;obtain⟨q3,g3,r3⟩:=hs.tm _ _ h3;simp only[RV,RR,Xb3,and_true]at r2 r3;subst r2 r3;obtain⟨u,h8,h9⟩:=Ze7 (P:=prog) (fn:=Tryz.f107) (vs:=[.str ⟨(ZeH m a).toArray⟩, .bool (Zez a)]) (tm:=st.tm) (H:=st.hp) (by show Za4 (Zjp prog st.tm st.hp) [.tmp 2, .tmp 3]=_;simp only[Zbh,Zvd,Zjp,g2,g3,Xaa]) hI hT;simp only[ZbM,VRel,VL]at h9;obtain⟨arr,rfl,_,_,aq,rfl,_,_,rfl,rfl,rfl⟩:=h9;refine⟨hT.2.1,_,h8, ?_,hE.below⟩;have:arr= #[.string ⟨(ZeH m a).toArray⟩, .bool (Zez a)]:=by apply Array.ext';rw[aq]
 rw[this];exact absurd rfl ao;rcases hK with⟨rfl,_⟩|⟨_,U,ae,ns,⟨hp1,af,ar,au,av⟩,k1,k4,rfl⟩;cases hn;have aa:=hp1 U;obtain⟨q1,g1,r1⟩:=hs.tm _ _ k1;obtain⟨q4,g4,r4⟩:=hs.tm _ _ k4;simp only[RV]at r1 r4;obtain⟨p0,f0,rfl⟩:=r1;have ag:ns.length≠0:=λh=>aa (Xbg.1 h);rcases r4 with⟨p1,f1,rfl⟩|⟨_,_,_,h0,_⟩;have m0:=hs.hp.row 0 _ _ rfl f0;have m1:=hs.hp.row 1 _ _ rfl f1;simp only[RM,RL,RV,RR,Xb3,and_true]at m0 m1;obtain⟨_,a8,m',e0,c0,⟨_,_,rfl,rfl,qw,_,rfl,_,rfl⟩,_⟩:=m0;cases e0;obtain⟨es,ba,c1,ce,_⟩:=m1;obtain⟨_,v1⟩:=hT.2.2 1 _ g1;obtain⟨_,v4⟩:=hT.2.2 4 _ g4;simp only[VRel,Option.getD_none]at v1 v4;obtain⟨l0,e0,aw⟩:=v1;obtain⟨l1,ad,cap,e1,ax,_,_,ah⟩:=v4;rcases ah with⟨h0,_⟩|⟨ay,_⟩;exact absurd h0 ag;subst ay;have R0:=hI.row p0 l0 _ _ _ e0 c0;have R1:=hI.row p1 l1 _ _ _ e1 c1;have L0:=hI.live p0 l0 e0;have L1:=hI.live p1 l1 e1;obtain⟨⟨⟨_,vm,hm,ai⟩,_⟩,_⟩:=R0.cells;simp only[VRel]at ai;subst ai;obtain⟨g,hg,az,aj⟩:=hI.laid;obtain⟨tmps,a1⟩:=a';have a6:a1=[]:=hT.2.1;subst a6;obtain⟨l⟩:=tmps;have ak:=ZvS l hT.1;have I:(λi=>l.getD i undef) 1= .pointer (some ⟨l0.b,l0.o,none⟩):=Eq.trans (by simp) (Eq.trans aw (by simp));have h4:(λi=>l.getD i undef) 4= .slice (some ⟨l1.b,l1.o,none⟩) ns.length cap:=Eq.trans (by simp) (Eq.trans ax (by simp));generalize(λi=>l.getD i undef)=f at ak I h4;rw[ak];have J: ∀j (hj:j<ns.length),w'.cell? ⟨l1.b,l1.o+j,none⟩=some (.int .u32 (ns[j]:Nat)):=λj hj=>by have:=Zl9 ce R1.cells j (by simpa[Zxj]using hj);rw[this];simp[Zxj]
 refine wp_mono (ZzU m ns aa af av l0.b l0.o l1.b l1.o cap f I h4 w' L0.2.1 L1.2.1 hm J g hg (hI.stable g az) aj) ?_;have C: ∀e w2,(e=Ending.returned (.tuple #[.string ⟨((match m with|true=> [45]|false=> [])++Zce ns).toArray⟩, .bool (Nat.ble (Zce ns).length 2000)])/\Below w'.heap.size w' w2)->e= .returned (.tuple #[.string ⟨(ZeH m a).toArray⟩, .bool (Zez a)])/\Below w.heap.size w w2:=by rintro e w2 ⟨rfl,hb⟩;have hj:Zce ns=Zy9 2100 (wv a).toNat:=(by rw[ZAo aa af ar,Zq1];rw[<-au];simp;decide;have I:=(Zbu ha).2;have R:(4294967296:Int)^a.length<=4294967296^210:=ZiL (b:=4294967296) (by decide) ae;have h3:(4294967296:Int)^210<((10^2100:Nat):Int):=(by decide+kernel);omega);have ab:Nat.ble a.length 210=true:=Xb1 ae;have al:a.isEmpty=false:=(by simpa using U);refine⟨?_,hE.below.trans (hb.mono hE.below.size)⟩;simp only[ZeH,Zez,al,ab,hj];cases m<;>rfl
 intro e a2 w2 hq;cases e with|normal=>obtain⟨I,v,R,h3⟩:=hq;exact⟨I,v,R,C _ _ h3⟩|ret=>obtain⟨I,v,R,h3⟩:=hq;exact⟨I,v,R,C _ _ h3⟩|panic c=>obtain⟨I,R⟩:=hq;exact⟨I,C _ _ R⟩|outgrown=>exact C _ _ hq|_=>exact hq.elim
 exact absurd h0 ag
def Zl8: ∀qs v,textG qs=some v-> ∀ (S:Nat->Prop) w vals,(∀b,S b->b<w.heap.size)->Laid.ok S w->LRel w S qs vals->
 Calls prog 107 vals.toArray w λe w'=> ∃u,e= .returned u/\Below w.heap.size w w'/\IRel w' (λb=>S b\/(w.heap.size<=b/\b<w'.heap.size)) v u:=by
 intro qs v j S w vals hS I J;have main: ∀m a,Wd a->RL [] [.agg [.v .b m,Zby a]] qs->v= .tup [.str ⟨(ZeH m a).toArray⟩, .bool (Zez a)]->Calls prog 107 vals.toArray w λe w'=> ∃u,e= .returned u/\Below w.heap.size w w'/\IRel w' (λb=>S b\/(w.heap.size<=b/\b<w'.heap.size)) v u:=by rintro m a R C rfl;refine(Zut m a R qs C S w vals hS I J).mono ?_;rintro e w' ⟨rfl,U⟩;refine⟨_,rfl,U, ?_⟩;simp only[IRel];exact⟨_,rfl,by simp[LRel,IRel]⟩
 unfold textG at j;split at j;rename_i m;cases j;refine main m [] (λx hx=>by simp at hx) ?_ rfl;simp only[RL,RV,RR];exact⟨_,_,rfl,⟨_,rfl,_,_,rfl,rfl,_,_,rfl, .inl ⟨rfl,trivial⟩,rfl⟩,rfl⟩;rename_i m es;cases hw:ZfO es with|none=>rw[hw]at j;cases j|some a=>rw[hw]at j;cases j;obtain⟨h1,h2⟩:=Zpj hw;refine main m a h1 ?_ rfl;simp only[RL,RV,RR];exact⟨_,_,rfl,⟨_,rfl,_,_,rfl,rfl,_,_,rfl, .inr ⟨_,rfl,h2⟩,rfl⟩,rfl⟩
 cases j
def ZjU: ∀qs v,indexG qs=some v-> ∀ (S:Nat->Prop) w vals,(∀b,S b->b<w.heap.size)->Laid.ok S w->LRel w S qs vals->
 Calls prog 108 vals.toArray w λe w'=> ∃u,e= .returned u/\Below w.heap.size w w'/\IRel w' (λb=>S b\/(w.heap.size<=b/\b<w'.heap.size)) v u:=by
 intro qs v j S w vals hS hL C;unfold indexG at j;split at j;rename_i s t;split at j;rename_i c I;cases j;simp only[LRel,IRel]at C;obtain⟨_,_,rfl,rfl,_,_,rfl,rfl,rfl⟩:=C;have J:t=⟨#[c]⟩:=by cases t with|mk d=>have R:d.toList=[c]:=I;have U:d= #[c]:=(by rw[<-Array.toList_inj,R]);rw[U]
 subst J;refine(Any.stringslite_Index_one Tryz.lays219 s c w).mono ?_;rintro e w' ⟨rfl,rfl⟩;refine⟨_,rfl,Below.refl _ _, ?_⟩;rw[ZFl];simp only[IRel];cases j;cases j
open Go.ChangeMaps (setBlock)
def ZHF (es:Array MapEntry):Bool:=es.toList.all λx=>decide (valOf x.val=0)
def ZwP {w:World} {r:Nat} {m:Option Nat} {s c:Nat} {seen:Array Nat} (h:w.heap[r]? =some (.mapIter m s seen c)):w.iterSeen r=seen:=by unfold World.iterSeen;rw[h]
def ZuR {B:Nat} {w w1 j:World} {o:Obj} (h:Below B w w1) (hB:B<w1.heap.size) (hd:j=w1\/j=w1.drew):Below B w (setBlock j B o):=by
 have e:j.heap=w1.heap/\j.os=w1.os/\j.tape=w1.tape/\j.output=w1.output:=by rcases hd with rfl|rfl<;>exact⟨rfl,rfl,rfl,rfl⟩
 obtain⟨C,I,J,R⟩:=e;refine⟨?_, ?_, ?_, ?_,λi hi=> ?_⟩;show j.os=_;rw[I];exact h.os;show j.tape=_;rw[J];exact h.tape;show j.output=_;rw[R];exact h.output;show w.heap.size<=(j.heap.setIfInBounds B o).size;rw[Array.size_setIfInBounds,C];exact h.size;show(j.heap.setIfInBounds B o)[i]? =_;rw[Array.getElem?_setIfInBounds_ne (by omega),C];exact h.block i hi
def ZEP {j w1:World} {r:Nat} {o:Obj} (hB:r<w1.heap.size) (hd:j=w1\/j=w1.drew):(setBlock j r o).heap[r]? =some o:=by
 have C:j.heap=w1.heap:=by rcases hd with rfl|rfl<;>rfl
 show(j.heap.setIfInBounds r o)[r]? =_;rw[Array.getElem?_setIfInBounds_self_of_lt (by rw[C];exact hB)]
def Zyg (b clock:Nat) (es:Array MapEntry) (f:Nat->Value) (w1:World) (hb:w1.heap[b]? =some (.map es clock)) (aj: ∀x∈es.toList,x.born<clock) (ab:(es.toList.map (·.born)).Nodup) (hv: ∀x∈es.toList,∃v,x.val= .int .i64 v):
 (Zou 6 (bodyOf Tryz.f40)).wp prog (bodyPost prog Tryz.f40 λe' w'=>e'= .returned (.int .i64 (bif ZHF es then 0 else 14))/\Below w1.heap.size w1 w')
  ⟨(f 0::f 1::f 2::f 3::f 4::f 5::f 6:: .map (some b)::f 8::f 9::f 10::f 11::f 12::f 13::f 14::f 15::f 16::f 17::f 18::f 19::f 20::f 21::f 22::f 23::f 24::f 25::f 26::f 27::f 28::f 29::f 30::f 31::f 32::f 33::f 34::f 35::f 36::f 37::f 38::f 39::f 40::f 41::f 42::f 43::f 44::f 45::f 46::f 47::f 48::f 49::f 50::f 51::f 52::f 53::f 54::f 55::f 56::f 57::f 58::f 59::f 60::[]).toArray,[]⟩ w1:=by
 conv=>arg 2;simp only[Zou,bodyOf,Tryz.f40]
 have R:b<w1.heap.size:=(Xbk.1 hb).1;obtain⟨w2,J⟩: ∃w2,w1.alloc (.mapIter (some b) clock #[] clock)=w2:=⟨_,rfl⟩;have ad:=run_range_map (P:=prog) w1 122 3 3 b es clock underlying122 hb;rw[J]at ad;have r2:w2.heap[w1.heap.size]? =some (.mapIter (some b) clock #[] clock):=by rw[<-J];exact(MapKept.heap_alloc w1 _).1
 have ae:Below w1.heap.size w1 w2:=by rw[<-J];exact(Below.refl _ w1).alloc (Xag _) _
 obtain⟨ro,af⟩: ∃ro,w1.heap.size=ro:=⟨_,rfl⟩;rw[af]at r2 ae ad R;rw[af];clear J;go_wp2;go_loopw [] (λw'=> ∃ (seen:Array Nat) (c0:Nat),w'.heap[ro]? =some (.mapIter (some b) clock seen c0)/\clock<=c0/\Below ro w1 w'/\ ∀x∈es.toList,seen.contains x.born=true->valOf x.val=0) (λw'=>(leftOf es (w'.iterSeen ro)).size);case atStart=>exact⟨#[],clock,r2,Xag _,ae,λx _ h=>by simp at h⟩
 case round=>
  obtain⟨seen,c0,hr,hc,hB,ag⟩:=hrel
  have ak:wr.heap[b]? =some (.map es clock):=(hB.block b R).trans hb
  have ah:ro<wr.heap.size:=(Xbk.1 hr).1
  rcases run_next_at (P:=prog) wr 0 ro b clock c0 seen es clock hr ak aj hc with⟨h0,j⟩|⟨e,he,w3,hd,j⟩
  ·have al: ∀ty,(Instr.next (.pointer (some ⟨ro,0,none⟩)) false ty).run prog wr=_:=λ_=>j
   have I:ZHF es=true:=Xaw.2 λx hx=>decide_eq_true (ag x hx (all_seen es seen h0 x hx))
   go_wp2
   go_ret
   exact⟨by rw[I];rfl,hB⟩
  ·obtain⟨v,C⟩:=hv e (mem_left he).1
   obtain⟨w4,U⟩: ∃w4,setBlock w3 ro (.mapIter (some b) clock (seen.push e.born) clock)=w4:=⟨_,rfl⟩
   have aa:Below ro w1 w4:=U▸ZuR hB ah hd
   have r4:w4.heap[ro]? =some (.mapIter (some b) clock (seen.push e.born) clock):=U▸ZEP ah hd
   have b4:w4.heap[b]? =some (.map es clock):=(aa.block b R).trans hb
   have an:=run_entry_at (P:=prog) w4 ro b clock seen es clock e r4 b4 (mem_left he).1 ab
   rw[C]at an
   rw[C,U]at j
   have al: ∀ty,(Instr.next (.pointer (some ⟨ro,0,none⟩)) false ty).run prog wr=_:=λ_=>j
   go_wp2
   ·rename_i ao
    have h:v≠0:=by simpa using ao
    have I:ZHF es=false:=List.all_eq_false.2 ⟨e,(mem_left he).1,by rw[C];simp[valOf,h]⟩
    go_ret
    exact⟨by rw[I];rfl,aa⟩
   ·rename_i heq
    have h:v=0:=by simpa using heq
    go_roundw
    case rel=>
     refine⟨seen.push e.born,clock,r4,Xag _,aa,λx hx ai=> ?_⟩
     rw[contains_push]at ai
     rcases Xb2 _ _▸ai with h1|h1
     ·exact ag x hx h1
     ·have:x=e:=born_inj ab hx (mem_left he).1 (beq_iff_eq.1 h1)
      subst this
      rw[C]
      exact h
    case measure=>
     rw[ZwP r4,ZwP hr]
     exact left_shrinks es seen e he
def ZDO {f:Nat->Value} {b:Nat} (h:f 7= .map (some b)):(List.range 61).map f=f 0::f 1::f 2::f 3::f 4::f 5::f 6:: .map (some b)::f 8::f 9::f 10::f 11::f 12::f 13::f 14::f 15::f 16::f 17::f 18::f 19::f 20::f 21::f 22::f 23::f 24::f 25::f 26::f 27::f 28::f 29::f 30::f 31::f 32::f 33::f 34::f 35::f 36::f 37::f 38::f 39::f 40::f 41::f 42::f 43::f 44::f 45::f 46::f 47::f 48::f 49::f 50::f 51::f 52::f 53::f 54::f 55::f 56::f 57::f 58::f 59::f 60::[]:=by rw[<-h];rfl
section
variable [Laid] {P:Program} {h:Hints}
def Zlq (hS:Static P h) (hP:ZbX P h) {c:Cx}: ∀ (n N:Nat) (code:Code) (s:St) (e:Ex) (J:St),ZtB n code=true->(Zfh P h N).ex c (preC n code) s=some (e,J)->Zbq h c.fid (preC n code)=true->
 ∀φ S w a B,Inv φ s.hp w S B->TRel φ w S c.N s.tm a->c.base<=s.hp.length-> ∀Q:Exit->Act->World->Prop,
 (∀R w' φ' S',Inv φ' J.hp w' S' B->Evo c.base B φ S w φ' S' w'->TRel φ' w' S' c.N J.tm R->(e≠ .normal->Q (conv e) R w')/\(e= .normal->(Zou n code).wp P Q R w'))->code.wp P Q a w
 |0,_,code,s,e,J,hi,_,_=>by cases code<;>cases hi
 |n+1,N,code,s,e,J,hi,hx,aa=>by
  intro φ S w a B hI hT hb Q hQ;cases code with
  |seq x r=>
   cases n with
   |zero=>refine wp_seq (((ZdN hS hP N).2.1 _ _ _ _ _ hx aa).1 φ S w a B hI hT hb _ ?_);intro R w' φ' S' h1 h2 h3 _;obtain⟨q1,q2⟩:=hQ R w' φ' S' h1 h2 h3;cases e with|normal=>exact q2 rfl|exit j=>exact q1 (by simp)|ret=>exact q1 (by simp)
   |succ n=>
    cases N with
    |zero=>cases hx
    |succ N=>
     have C:(((Zfh P h N).ex c x s).bind λ(e,J)=>match e with
      | .normal=>(Zfh P h N).ex c (preC (n+1) r) J
      |e=>some (e,J))=some (e,J):=hx
     have I:(Zbq h c.fid x&&Zbq h c.fid (preC (n+1) r))=true:=aa;rw[Xah]at I;cases h1:(Zfh P h N).ex c x s with|none=>rw[h1]at C;cases C|some y=>obtain⟨e1,s1⟩:=y;rw[h1,Xaa]at C;refine wp_seq (((ZdN hS hP N).2.1 _ _ _ _ _ h1 I.1).1 φ S w a B hI hT hb _ ?_);intro a1 w1 U S1 g1 g2 g3 g4;cases e1 with|normal=>refine Zlq hS hP (n+1) N r s1 e J hi C I.2 U S1 w1 a1 B g1 g3 g4 Q ?_;intro R w' φ' S' k1 k2 k3;exact hQ R w' φ' S' k1 (g2.trans k2) k3|exit j=>simp only[Xaf,Prod.mk.injEq]at C;obtain⟨rfl,rfl⟩:=C;exact(hQ a1 w1 U S1 g1 g2 g3).1 (by simp)|ret=>simp only[Xaf,Prod.mk.injEq]at C;obtain⟨rfl,rfl⟩:=C;exact(hQ a1 w1 U S1 g1 g2 g3).1 (by simp)
  |_=>cases hi
end
def ZC1 (l:List Value) (n:Nat) (h:l.length=n):l=(List.range n).map λi=>l.getD i undef:=by apply XaW;intro i;rw[XaC];by_cases hi:i<n;rw[Xbf hi,Xad (by omega)];show _=some (l.getD i undef);rw[Xan,Xad (by omega)];rfl;rw[Xax (by omega),Xax (by rw[Xbe];omega)];rfl
abbrev ZFa (f:FuncId) (g:List PV->Option PV):Prop:= ∀qs v,g qs=some v-> ∀ (S:Nat->Prop) w vals,(∀b,S b->b<w.heap.size)->Laid.ok S w->LRel w S qs vals->
 Calls prog f vals.toArray w λe w'=> ∃u,e= .returned u/\Below w.heap.size w w'/\IRel w' (λb=>S b\/(w.heap.size<=b/\b<w'.heap.size)) v u
def Zvw {φ:Phi} {w:World} {S:Nat->Prop}: ∀ {es:List (PV×PV)} {l:List MapEntry} {b:Bool},VM φ w S es l->Zuq es=some b->(∀x∈l,∃v,x.val= .int .i64 v)/\b=l.all λx=>decide (valOf x.val=0)
 | [],l,b,h,j=>by simp only[VM]at h;subst h;cases j;exact⟨λx hx=>absurd hx Xav,rfl⟩
 |(k,u)::r,l,b,h,j=>by obtain⟨e,U,rfl,_,C,I⟩:=h;unfold Zuq at j;split at j;rename_i heq;cases heq;rename_i k' v r' heq;cases heq;obtain⟨c,J,R⟩:=Option.map_eq_some_iff.1 j;obtain⟨g1,g2⟩:=Zvw I J;have C:e.val= .int .i64 v:=(by simpa only[VRel]using C);refine⟨λx hx=> ?_, ?_⟩;rcases Xau.1 hx with rfl|hx;exact⟨v,C⟩;exact g1 x hx;rw[XbM,<-R,g2,C];rfl;cases j
def ZxT {h:Hints} (hS:Static prog h) (hP:ZbX prog h) (R:Zbq h 40 (preC 6 (bodyOf Tryz.f40))=true) {N:Nat} {qs:List PV} {r:Ex×St} {v:PV} (hq:qs.length<=61)
 (hr:(Zfh prog h N).ex ⟨40,0,61⟩ (preC 6 (bodyOf Tryz.f40)) ⟨enterT 0 qs,[]⟩=some r) (I:Zfc (some r)=some v) (S:Nat->Prop) (w:World) (vals:List Value) (ad: ∀b,S b->b<w.heap.size) (hL:Laid.ok S w) (hl:LRel w S qs vals):
 Calls prog 40 vals.toArray w λe w'=> ∃u,e= .returned u/\Below w.heap.size w w'/\IRel w' (λb=>S b\/(w.heap.size<=b/\b<w'.heap.size)) v u:=by
 obtain⟨e,s⟩:=r;have aa:=ZfW hl;have hlen:=VL.length aa;refine calls_of_wp (fn:=Tryz.f40) (c:=bodyOf Tryz.f40) func40 (by kernel_rfl) (Zlq hS hP 6 N _ _ e s (by kernel_rfl) hr R (λ_=>none) S w _ w.heap.size (Inv.empty S w ad hL) ?_ (Xag _) _ ?_);refine⟨by simp;omega,rfl, ?_⟩;intro i p hp;obtain⟨_,h5⟩:=ZeO qs 0 i p hp;simp only[Nat.sub_zero]at h5;obtain⟨u,h6,h7⟩:=VL.get aa h5;have hi:=(Xae.1 h6).1;refine⟨by show i<61;omega, ?_⟩;have:(vals.toArray++Array.replicate (61-vals.toArray.size) undef).getD i undef=u:=by rw[XbP,Array.getElem?_append_left (by simpa using hi)];simp[h6]
 rw[<-this]at h7;exact h7;intro a' w' φ' S' hI hE hT;obtain⟨tmps,ae⟩:=a';have af:ae=[]:=hT.2.1;subst af;obtain⟨l9⟩:=tmps;have ag:l9.length=61:=hT.1;refine⟨λah=> ?_,λhe=> ?_⟩;cases e with|normal=>exact absurd rfl ah|exit j=>cases I|ret=>simp only[Zfc]at I;split at I;rename_i z ai;cases I;obtain⟨u,h8,h9⟩:=Ze7 (P:=prog) (fn:=Tryz.f40) (vs:=[.int .i64 z]) (tm:=s.tm) (H:=s.hp) (by rw[show Tryz.f40.results.toList=[.tmp 4]from rfl];simp only[Za4,Zjp,ai];rfl) hI hT;simp only[ZbM,VRel]at h9;subst h9;exact⟨rfl, .int .i64 z,h8,_,rfl,hE.below,by simp only[IRel]⟩;cases I
 subst he;simp only[Zfc,Zmx]at I;split at I;rename_i id aj;split at I;rename_i es hid;obtain⟨c,hc,rfl⟩:=Option.map_eq_some_iff.1 I;obtain⟨_,v7⟩:=hT.2.2 7 _ aj;simp only[VRel]at v7;obtain⟨l,el,ak⟩:=v7;obtain⟨_,J,clock,hb,al,U,an⟩:=hI.map id l _ el hid;obtain⟨g1,g2⟩:=Zvw al hc;have ab:=ZC1 l9 61 ag;have h7:(λi=>l9.getD i undef) 7= .map (some l.b):=Eq.trans (by simp) ak;generalize(λi=>l9.getD i undef)=f at ab h7;rw[ab,ZDO h7];refine wp_mono (Zyg l.b clock J f w' hb U an g1) ?_;have C: ∀e w2,(e=Ending.returned (.int .i64 (bif ZHF J then 0 else 14))/\Below w'.heap.size w' w2)-> ∃u,e= .returned u/\Below w.heap.size w w2/\IRel w2 (λb=>S b\/(w.heap.size<=b/\b<w2.heap.size)) (.int .i64 (bif c then 0 else 14)) u:=by rintro e w2 ⟨rfl,hb⟩;exact⟨_,rfl,hE.below.trans (hb.mono hE.below.size),by rw[g2];simp only[IRel];rfl⟩
 intro e a2 w2 hq;cases e with|normal=>obtain⟨h1,v,h2,h3⟩:=hq;exact⟨h1,v,h2,C _ _ h3⟩|ret=>obtain⟨h1,v,h2,h3⟩:=hq;exact⟨h1,v,h2,C _ _ h3⟩|panic c=>obtain⟨h1,h2⟩:=hq;exact⟨h1,C _ _ h2⟩|outgrown=>exact C _ _ hq|_=>exact hq.elim
 cases I;cases I
def ZDP:ZbX prog ZeX:=by intro f g j;have j:Zn5 f=some g:=j;unfold Zn5 at j;split at j;cases j;exact Zl8;cases j;exact Zke;cases j;exact ZjU;cases j
def ZDk:Static prog ZeX:=ZfE Zrn λf hf=>by unfold Zn5 at hf;split at hf;exact⟨_,func107,by kernel_rfl,by kernel_rfl⟩;exact⟨_,func91,by kernel_rfl,by kernel_rfl⟩;exact⟨_,func108,by kernel_rfl,by kernel_rfl⟩;cases hf
def ZpP:ZFa 40 Zi6:=by intro qs v j S w vals I J R;unfold Zi6 at j;cases C:Nat.ble qs.length 61 with|false=>rw[C]at j;cases j|true=>rw[C,Bool.not_true,cond_false]at j;cases he:exS prog ZeX (lim prog ZeX) ⟨40,0,61⟩ (preC 6 (bodyOf Tryz.f40)) ⟨enterT 0 qs,[]⟩with|none=>rw[he]at j;cases j|some r=>rw[he]at j;obtain⟨N,U⟩:=ZfD.ex _ _ _ _ (Zep _ _ _ _ he);exact ZxT ZDk ZDP (by kernel_rfl) (Xao C) (U N (Xag _)) j S w vals I J R
def ZFk:ZbX prog Zaj:=by intro f g j;have j:Zl3 true f=some g:=j;unfold Zl3 at j;split at j;cases j;exact Zl8;cases j;exact Zke;cases j;exact ZjU;cases j;exact ZpP;cases j
def ZDN:Static prog Zaj:=ZfE Zrn λf hf=>by unfold Zl3 at hf;split at hf;exact⟨_,func107,by kernel_rfl,by kernel_rfl⟩;exact⟨_,func91,by kernel_rfl,by kernel_rfl⟩;exact⟨_,func108,by kernel_rfl,by kernel_rfl⟩;exact⟨_,func40,by kernel_rfl,by kernel_rfl⟩;cases hf
open Ne
def ZJv:ownKnob prog.godebug=none:=by kernel_rfl
def ZyV:laidOutB prog=true:=by kernel_rfl
abbrev Zgn:List (String×DataW Unit):=Rows.topRebuildRow.laid
def ZC4 {W:World} (h:laidMetH prog Zgn W):Lib.TabIs prog W ZfP .u64 Lib.pow10Tab:=by have j:=laidMetH.filter (λx=>x.1==ZfP) h;rw[MakeChecks.laidMetH_plain _ _ _ (by kernel_rfl)]at j;exact Lib.tabIs_of_head (rest:=[]) (g:=3) (t:=228) (e:=156) (n:=20) (by kernel_rfl) (by kernel_rfl) (by kernel_rfl) (by kernel_rfl) (by kernel_rfl) (by kernel_rfl) j
def ZF1 {W:World} (h:laidMetH prog Zgn W):natLaid.ok (λb=>b<W.heap.size) W:=by
 have j:=ZC4 h;refine⟨3,by kernel_rfl, ?_,j⟩;unfold Lib.TabIs World.var? at j;have I:prog.globalNamed ZfP=some 3:=by kernel_rfl
 rw[I,Xaa]at j;cases C:W.heap[3]? with|none=>rw[C]at j;simp at j|some o=>exact(Xbk.1 C).1
section
variable {H:Type} {enc:TypeId × Value->H}
def Znm {a:Assume} {C:Checked} {os:Os} {f:FuncId} {fn:Func} {s:ChangeSpec} {conds:List PathCond} {apart fresh handsOn ZdY:Bool} {X:World->Array Value->Prop}
 (hX: ∀ (w w':World) (args:Array Value),w.heap=w'.heap->X w args->X w' args)
 (own:ownKnob C.prog.godebug=none) (started:os.Started) (J:C.prog.inits.idxOf? f=none) (ab:C.prog.funcs[f]? =some fn)
 (witness: ∃ (w:World) (tape:Tape) (i:Input),w.os=os/\(w.forCall tape i).Shaped C.prog/\i.vars=[]/\Input.okWide C.prog (w.forCall tape i) .any w.heap.size f i/\
  ((s.pre enc C.prog fn conds apart (w.forCall tape i).memory i.args/\X (w.forCall tape i).memory i.args)/\sizedMet enc C.prog fn (OpenSpec.ofChange s) apart (w.forCall tape i).memory i.args)/\a.holds C.prog (lone (Frame.enter C.prog f i.args .normal) [] (w.forCall tape i)))
 (I: ∀ (W:World) (base:Nat) (args:Array Value) (ds gs:List (DataW H)) (before:List MemPlace),
  (∀ (j:Nat) t v,fn.params[j]? =some t->args[j]? =some v->Value.okWide C.prog W .any base t v)->
  DataW.Whole enc C.prog fn.params.toList s.vars apart W args.toList ds gs before->
  (DataW.weightsEach C.prog (fn.params.toList++s.plain.varTypes C.prog) (ds++gs)).all (· <=reachBytes)=true->X W args->W.ShapedOpen C.prog->
  Calls C.prog f args W λe W'=> ∃v,e= .returned v/\s.post enc C.prog fn apart fresh handsOn ZdY W args v W'):
 ReturnsInHanded a C os f .any (λw args=>(s.pre enc C.prog fn conds apart w args/\X w args)/\sizedMet enc C.prog fn (OpenSpec.ofChange s) apart w args) (s.post enc C.prog fn apart fresh handsOn ZdY):=by refine returnsInHanded_of_calls own started J witness ?_;intro w tape i _ ad _ ae R _;obtain⟨_,_,_,af,U,_,_,_,_,aa⟩:=ae;have e:af=fn:=Xbc (U.symm.trans ab);subst e;obtain⟨⟨⟨ds,gs,before,hw,_⟩,hx⟩,hz⟩:=R;have ag:=DataW.Whole.of_heap (w':=w.forCall tape i) (by rfl) hw;refine(I (w.forCall tape i) w.heap.size i.args ds gs before aa ag (hz.weights hw) (hX _ _ _ (by rfl) hx) ad).mono λe W' ⟨v,he,hp⟩=> ?_;subst he;exact ChangeSpec.post_blind hp
end
def Zr9 {n:Nat} {H:List Mem} {v:PV} {b:Bool} (h:exp n H v=some (.bool b)):v= .bool b:=by
 cases n with
 |zero=>simp[exp]at h
 |succ n=>cases v<;>simp only[exp]at h<;>first|(exact Xbc h)|(cases h;done)|(rename_i a b c d;cases j:H[a]? with
  |none=>rw[j]at h;cases h
  |some m=>cases m<;>rw[j]at h<;>simp only at h<;>first|(cases h;done)|(split at h<;>simp at h))|(rename_i a b c;cases j:H[a]? with
  |none=>rw[j]at h;cases h
  |some m=>cases m<;>rw[j]at h<;>simp only at h<;>first|(cases h;done)|(simp[Option.bind_eq_some_iff]at h))|(simp[Option.bind_eq_some_iff]at h)
def ZyT {f:FuncId} {Vs:List SV} {qs:List PV} (hp:Zaj.prim f=none) (h:PureOK prog Zaj f Vs (λV=>V= .v .b true)) (J:RL [] Vs qs): ∃n H',(Zfh prog Zaj n).rn f qs []=some (.bool true,H'):=by
 obtain⟨q,V,j,C,rfl⟩:=h.out qs J;simp only[RV,RR]at C;have R:q= .bool true:=by simpa using C
 subst R;unfold ZbT at j;rw[hp]at j;obtain⟨⟨v,H'⟩,U,h4⟩:=Option.bind_eq_some_iff.1 j;have I:=Zr9 h4;simp only at I;subst I;obtain⟨k,hk⟩:=ZvA U;exact⟨k,H',hk⟩
def ZfN {cs:List PV} (h:Zb5 .str cs): ∃s:Txt,RR .s s cs/\s.length<=9223372036854775806:=by simp only[Zb5]at h;obtain⟨n,j,C⟩:=h;refine⟨n.data.toList,by simp only[RR];exact j, ?_⟩;have I:n.data.toList.length=n.size:=Array.length_toList;have J:reachBytes=140737488351232:=rfl;omega
def ZxV {cs:List PV} (h:Zb5 .bool cs): ∃b:Bool,RR .b b cs:=by simp only[Zb5]at h;obtain⟨b,j⟩:=h;exact⟨b,by simp only[RR];exact j⟩
def ZgD {k:IntKind} {cs:List PV} (h:Zb5 (.int k) cs): ∃n:Int,RR (.i k) n cs:=by simp only[Zb5]at h;obtain⟨n,j,_⟩:=h;exact⟨n,by simp only[RR];exact j⟩
def Zba {t:Ty} {ts:List Ty} {cs:List PV} (h:HasTys (t::ts) cs): ∃a b,cs=a++b/\Zb5 t a/\HasTys ts b:=by simpa only[HasTys]using h
def Zj7 {t:Ty} {cs:List PV} (h:HasTys [t] cs):Zb5 t cs:=by simp only[HasTys]at h;obtain⟨a,b,rfl,j,rfl⟩:=h;simpa using j
def Zto {ps:List Ty} {cs:List PV} (h:Zb5 (.agg ps) cs):HasTys ps cs:=by simpa only[Zb5]using h
def ZiM {ct:CT} {e:Ty} {n:Nat} {Fit:ct.D->Prop} (I: ∀c,Zb5 e c-> ∃x:ct.D,RR ct x c/\Fit x) {cs:List PV} (h:Zb5 (.slice e n) cs): ∃l:List ct.D,RR (.l ct) l cs/\ ∀x∈l,Fit x:=by
 simp only[Zb5]at h;rcases h with h|⟨es,J,_,_,R⟩;exact⟨[], .inl ⟨h,rfl⟩,λ_ j=>absurd j Xav⟩;have key: ∀es:List (List PV),(∀c∈es,Zb5 e c)-> ∃l:List ct.D,All2 (RR ct) l es/\ ∀x∈l,Fit x:=by intro es;induction es with|nil=>intro _;exact⟨[],trivial,λ_ j=>absurd j Xav⟩|cons c r U=>intro C;obtain⟨x,g1,g2⟩:=I c (C c Xai);obtain⟨l,g3,g4⟩:=U (λd hd=>C d (Xaj _ hd));refine⟨x::l,⟨g1,g3⟩,λy hy=> ?_⟩;rcases Xau.1 hy with rfl|hy;exact g2;exact g4 y hy
 obtain⟨l,g1,g2⟩:=key es R;exact⟨l, .inr ⟨es,J,g1⟩,g2⟩
abbrev ZJh:Ty:= .agg [.str, .str, .str, .bool, .bool]
abbrev ZI1:Ty:= .agg [.str, .str, .str, .int .i64, .int .i64, .int .i64, .int .i64, .int .i64, .int .i64]
abbrev ZHO:Ty:= .agg [.str, .str, .int .i64, .int .i64, .int .i64]
abbrev ZIZ:Ty:= .agg [.str, .str, .int .i64]
abbrev ZCc:Ty:= .agg [.slice .str 16, .slice ZJh 56, .slice ZI1 96, .slice ZHO 56, .slice ZIZ 40, .slice ZHO 56]
def ZIw (c:List PV) (h:Zb5 ZJh c): ∃x:Sw,RR ZlS x c/\x.1.length<=9223372036854775806:=by obtain⟨a1,r1,rfl,j,h⟩:=Zba (Zto h);obtain⟨a2,r2,rfl,C,h⟩:=Zba h;obtain⟨a3,r3,rfl,I,h⟩:=Zba h;obtain⟨a4,r4,rfl,J,h⟩:=Zba h;obtain⟨R,g1,f1⟩:=ZfN j;obtain⟨U,g2,_⟩:=ZfN C;obtain⟨x3,g3,_⟩:=ZfN I;obtain⟨x4,g4⟩:=ZxV J;obtain⟨x5,g5⟩:=ZxV (Zj7 h);exact⟨(R,U,x3,x4,x5),⟨_,_,rfl,g1,_,_,rfl,g2,_,_,rfl,g3,_,_,rfl,g4,g5⟩,f1⟩
def ZIL (c:List PV) (h:Zb5 ZI1 c): ∃x:Br,RR ZiZ x c/\x.1.length<=9223372036854775806:=by obtain⟨a1,r1,rfl,j,h⟩:=Zba (Zto h);obtain⟨a2,r2,rfl,C,h⟩:=Zba h;obtain⟨a3,r3,rfl,I,h⟩:=Zba h;obtain⟨a4,r4,rfl,J,h⟩:=Zba h;obtain⟨a5,r5,rfl,R,h⟩:=Zba h;obtain⟨a6,r6,rfl,U,h⟩:=Zba h;obtain⟨a7,r7,rfl,h7,h⟩:=Zba h;obtain⟨a8,r8,rfl,h8,h⟩:=Zba h;obtain⟨x1,g1,f1⟩:=ZfN j;obtain⟨x2,g2,_⟩:=ZfN C;obtain⟨x3,g3,_⟩:=ZfN I;obtain⟨x4,g4⟩:=ZgD J;obtain⟨x5,g5⟩:=ZgD R;obtain⟨x6,g6⟩:=ZgD U;obtain⟨x7,g7⟩:=ZgD h7;obtain⟨x8,g8⟩:=ZgD h8;obtain⟨x9,g9⟩:=ZgD (Zj7 h);exact⟨(x1,x2,x3,x4,x5,x6,x7,x8,x9),⟨_,_,rfl,g1,_,_,rfl,g2,_,_,rfl,g3,_,_,rfl,g4,_,_,rfl,g5,_,_,rfl,g6,_,_,rfl,g7,_,_,rfl,g8,g9⟩,f1⟩
def ZFv (c:List PV) (h:Zb5 ZHO c): ∃x:Ge,RR (.p .s (.p .s (.p (.i .i64) (.p (.i .i64) (.i .i64))))) x c/\x.1.length<=9223372036854775806:=by obtain⟨a1,r1,rfl,j,h⟩:=Zba (Zto h);obtain⟨a2,r2,rfl,C,h⟩:=Zba h;obtain⟨a3,r3,rfl,I,h⟩:=Zba h;obtain⟨a4,r4,rfl,J,h⟩:=Zba h;obtain⟨R,g1,f1⟩:=ZfN j;obtain⟨U,g2,_⟩:=ZfN C;obtain⟨x3,g3⟩:=ZgD I;obtain⟨x4,g4⟩:=ZgD J;obtain⟨x5,g5⟩:=ZgD (Zj7 h);exact⟨(R,U,x3,x4,x5),⟨_,_,rfl,g1,_,_,rfl,g2,_,_,rfl,g3,_,_,rfl,g4,g5⟩,f1⟩
def ZHZ (c:List PV) (h:Zb5 ZIZ c): ∃x:Lo,RR (.p .s (.p .s (.i .i64))) x c/\x.1.length<=9223372036854775806:=by obtain⟨U,r1,rfl,j,h⟩:=Zba (Zto h);obtain⟨a2,r2,rfl,C,h⟩:=Zba h;obtain⟨I,g1,f1⟩:=ZfN j;obtain⟨J,g2,_⟩:=ZfN C;obtain⟨R,g3⟩:=ZgD (Zj7 h);exact⟨(I,J,R),⟨_,_,rfl,g1,_,_,rfl,g2,g3⟩,f1⟩
def Ze1 {ct:CT} {l:List ct.D} {e:Ty} {n:Nat} {cs:List PV} (h:Zb5 (.slice e n) cs) (j:RR (.l ct) l cs): ∃q,cs=[q]/\RV [] (.v (.l ct) l) q:=by simp only[Zb5]at h;rcases h with rfl|⟨es,rfl,_⟩;exact⟨_,rfl,by simpa only[RV]using j⟩;exact⟨_,rfl,by simpa only[RV]using j⟩
def ZDd {p:PV} (hs:Zyp ZCc p): ∃n:Ne.Net,RV [] (.agg (ZbC n)) p/\Zbb n:=by
 obtain⟨cs,rfl,h⟩:=hs;obtain⟨a1,r1,rfl,C,h⟩:=Zba h;obtain⟨a2,r2,rfl,I,h⟩:=Zba h;obtain⟨a3,r3,rfl,J,h⟩:=Zba h;obtain⟨a4,r4,rfl,R,h⟩:=Zba h;obtain⟨a5,r5,rfl,U,h⟩:=Zba h;have h6:=Zj7 h;obtain⟨l1,g1,f1⟩:=ZiM (ct:= .s) (Fit:=λx:Txt=>x.length<=9223372036854775806) (λc hc=>ZfN hc) C;obtain⟨l2,g2,f2⟩:=ZiM (ct:=ZlS) (Fit:=λx:Sw=>x.1.length<=9223372036854775806) ZIw I;obtain⟨l3,g3,f3⟩:=ZiM (ct:=ZiZ) (Fit:=λx:Br=>x.1.length<=9223372036854775806) ZIL J;obtain⟨l4,g4,f4⟩:=ZiM (ct:= .p .s (.p .s (.p (.i .i64) (.p (.i .i64) (.i .i64))))) (Fit:=λx:Ge=>x.1.length<=9223372036854775806) ZFv R;obtain⟨l5,g5,f5⟩:=ZiM (ct:=(.p .s (.p .s (.i .i64)))) (Fit:=λx:Lo=>x.1.length<=9223372036854775806) ZHZ U;obtain⟨l6,g6,f6⟩:=ZiM (ct:= .p .s (.p .s (.p (.i .i64) (.p (.i .i64) (.i .i64))))) (Fit:=λx:Sto=>x.1.length<=9223372036854775806) ZFv h6;obtain⟨q1,rfl,e1⟩:=Ze1 C g1;obtain⟨q2,rfl,e2⟩:=Ze1 I g2;obtain⟨q3,rfl,e3⟩:=Ze1 J g3;obtain⟨q4,rfl,e4⟩:=Ze1 R g4;obtain⟨q5,rfl,e5⟩:=Ze1 U g5;obtain⟨q6,rfl,e6⟩:=Ze1 h6 g6;refine⟨⟨l1,l2,l3,l4,l5,l6⟩, ?_,f1,f2,f3,f4,f5,f6⟩;show ∃j,_/\RL [] _ j
 refine⟨_,rfl, ?_⟩;simp only[ZbC,RL];exact⟨_,_,rfl,e1,_,_,rfl,e2,_,_,rfl,e3,_,_,rfl,e4,_,_,rfl,e5,_,_,rfl,e6,rfl⟩
end Go.Proofs.YtplkkbcnilnfaaaGreatDoor
