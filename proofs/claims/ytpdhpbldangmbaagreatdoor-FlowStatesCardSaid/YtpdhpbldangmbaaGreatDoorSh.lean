/- Library functions of the shelf at this dump. -/
import Derived.Shelf.LaysM
import Derived.Shelf.Strconv.Itoa1
import Derived.Shelf.Strconv.Itoa2
import Derived.Shelf.Strings.BuilderK
import Derived.Shelf.Small.Bits
import Derived.Shelf.Strings.Search3
import Derived.Shelf.Pu.ParseUintPublic10
import Derived.Ground.FneProg
import Derived.Ground.MpProg
import Derived.Test.YtpdhpbldangmbaaGreatDoorTxA
import Derived.Lib.Walk
import Derived.BigCall
import Derived.BigGuard
import Derived.Maps.RangeRun
set_option linter.all false
set_option maxHeartbeats 16000000
set_option maxRecDepth 1000000
open Go.Proofs.Tryz
namespace Go.Proofs
open Go.Shelf
def fK {α:Type} {x:Option α} {a b:α} (h:x=some a) (e:a=b:=by kernel_rfl):x=some b:=h.trans (congrArg some e)
def rK {p:Prop} (h:p:=by kernel_rfl):p:=h
def Tryz.lays283_ren:Go.Shelf.Ren:=⟨λ|283=>140|n=>n,λ|3=>3|9=>9|4=>4|n=>n,λ|n=>n⟩
def Tryz.lays283:Go.Proofs.Lays.n283 prog Tryz.lays283_ren:=⟨rK,fK func140,underlying3,isAgg3,sizeOf3,zeroValue3,underlying4,isAgg4,sizeOf4,zeroValue4,underlying9,isAgg9,sizeOf9,zeroValue9⟩
def Tryz.laysM284_ren:Go.Shelf.Ren:=⟨λ|284=>141|129=>152|317=>151|318=>153|n=>n,λ|53=>162|3=>3|212=>220|0=>0|4=>4|46=>164|5=>5|9=>9|n=>n,λ|17=>1|n=>n⟩
def Tryz.laysM284:Go.Proofs.LaysM.n284 prog Tryz.laysM284_ren:={
 mixed:=rK
 f129:=fK func152
 f284:=fK func141
 f317:=fK func151
 f318:=fK func153
 t0:=underlying0
 a0:=isAgg0
 z0:=sizeOf0
 v0:=zeroValue0
 t3:=underlying3
 a3:=isAgg3
 z3:=sizeOf3
 v3:=zeroValue3
 t4:=underlying4
 a4:=isAgg4
 z4:=sizeOf4
 v4:=zeroValue4
 t5:=underlying5
 a5:=isAgg5
 z5:=sizeOf5
 v5:=zeroValue5
 t9:=underlying9
 a9:=isAgg9
 z9:=sizeOf9
 v9:=zeroValue9
 t46:=underlying164
 a46:=isAgg164
 z46:=sizeOf164
 v46:=zeroValue164
 t53:=underlying162
 a53:=isAgg162
 z53:=sizeOf162
 v53:=zeroValue162
 t212:=underlying220
 a212:=isAgg220
 z212:=sizeOf220
 v212:=zeroValue220
 g17:=rK
 i0:=rK
 i3:=rK
 i4:=rK
 i5:=rK
 i9:=rK
 i46:=rK
 i53:=rK
 i212:=rK
 m17:=by kernel_rfl}
def Tryz.lays285_ren:Go.Shelf.Ren:=⟨λ|285=>142|n=>n,λ|37=>155|53=>162|3=>3|4=>4|51=>158|9=>9|5=>5|0=>0|n=>n,λ|n=>n⟩
def Tryz.lays285:Go.Proofs.Lays.n285 prog Tryz.lays285_ren:=⟨rK,fK func142,underlying0,isAgg0,sizeOf0,zeroValue0,underlying3,isAgg3,sizeOf3,zeroValue3,underlying4,isAgg4,sizeOf4,zeroValue4,underlying5,isAgg5,sizeOf5,zeroValue5,underlying9,isAgg9,sizeOf9,zeroValue9,underlying155,isAgg155,sizeOf155,zeroValue155,underlying158,isAgg158,sizeOf158,zeroValue158,underlying162,isAgg162,sizeOf162,zeroValue162⟩
def Tryz.lays169_ren:Go.Shelf.Ren:=⟨λ|169=>125|n=>n,λ|70=>186|9=>9|0=>0|72=>188|37=>155|127=>204|3=>3|5=>5|n=>n,λ|n=>n⟩
def Tryz.lays169:Go.Proofs.Lays.n169 prog Tryz.lays169_ren:=⟨rK,fK func125,underlying0,isAgg0,sizeOf0,zeroValue0,underlying3,isAgg3,sizeOf3,zeroValue3,underlying9,isAgg9,sizeOf9,zeroValue9,underlying155,isAgg155,sizeOf155,zeroValue155,underlying186,isAgg186,sizeOf186,zeroValue186,underlying188,isAgg188,sizeOf188,zeroValue188,underlying204,isAgg204,sizeOf204,zeroValue204⟩
def Tryz.laysPu14_ren:Go.Shelf.Ren:=⟨λ|14=>150|16=>158|17=>159|19=>162|20=>163|21=>164|22=>165|23=>166|24=>167|25=>168|27=>170|26=>169|28=>171|29=>172|30=>140|31=>141|32=>142|33=>143|35=>152|34=>151|36=>153|37=>154|38=>155|39=>160|40=>161|n=>n,λ|9=>9|3=>3|22=>162|24=>191|25=>217|4=>4|34=>225|5=>5|36=>164|37=>155|0=>0|39=>227|21=>21|44=>233|47=>204|50=>237|48=>235|2=>2|52=>209|55=>212|59=>220|60=>158|20=>20|61=>221|65=>230|66=>231|67=>194|n=>n,λ|0=>4|1=>5|2=>1|3=>2|4=>3|n=>n⟩
def Tryz.laysPu14:Go.Proofs.LaysPu.n14 prog Tryz.laysPu14_ren:=⟨rK,fK func150,fK func158,fK func159,fK func162,fK func163,fK func164,fK func165,fK func166,fK func167,fK func168,fK func169,fK func170,fK func171,fK func172,fK func140,fK func141,fK func142,fK func143,fK func151,fK func152,fK func153,fK func154,fK func155,fK func160,fK func161,underlying0,isAgg0,sizeOf0,zeroValue0,rK,underlying2,isAgg2,sizeOf2,zeroValue2,rK,underlying3,isAgg3,sizeOf3,zeroValue3,rK,underlying4,isAgg4,sizeOf4,zeroValue4,rK,underlying5,isAgg5,sizeOf5,zeroValue5,rK,underlying9,isAgg9,sizeOf9,zeroValue9,rK,underlying20,isAgg20,sizeOf20,zeroValue20,rK,underlying21,isAgg21,sizeOf21,zeroValue21,rK,underlying162,isAgg162,sizeOf162,zeroValue162,rK,underlying191,isAgg191,sizeOf191,zeroValue191,rK,underlying217,isAgg217,sizeOf217,zeroValue217,rK,underlying225,isAgg225,sizeOf225,zeroValue225,rK,rK,underlying164,isAgg164,sizeOf164,zeroValue164,rK,underlying155,isAgg155,sizeOf155,zeroValue155,rK,underlying227,isAgg227,sizeOf227,zeroValue227,rK,underlying233,isAgg233,sizeOf233,zeroValue233,rK,underlying204,isAgg204,sizeOf204,zeroValue204,rK,underlying235,isAgg235,sizeOf235,zeroValue235,rK,underlying237,isAgg237,sizeOf237,zeroValue237,rK,underlying209,isAgg209,sizeOf209,zeroValue209,rK,underlying212,isAgg212,sizeOf212,zeroValue212,rK,underlying220,isAgg220,sizeOf220,zeroValue220,rK,underlying158,isAgg158,sizeOf158,zeroValue158,rK,underlying221,isAgg221,sizeOf221,underlying230,isAgg230,sizeOf230,zeroValue230,rK,underlying231,isAgg231,sizeOf231,zeroValue231,rK,underlying194,isAgg194,sizeOf194,zeroValue194,rK,rK,rK,rK,rK,rK,rK,rK,rK,rK,by kernel_rfl⟩
def Tryz.lays219_ren:Go.Shelf.Ren:=⟨λ|219=>137|217=>145|225=>146|224=>147|267=>148|266=>156|314=>157|n=>n,λ|9=>9|3=>3|4=>4|5=>5|46=>164|146=>198|51=>158|n=>n,λ|1=>0|n=>n⟩
def Tryz.lays219:Go.Proofs.Lays.n219 prog Tryz.lays219_ren:=⟨rK,fK func145,fK func137,fK func147,fK func146,fK func156,fK func148,fK func157,underlying3,isAgg3,sizeOf3,zeroValue3,underlying4,isAgg4,sizeOf4,zeroValue4,underlying5,isAgg5,sizeOf5,zeroValue5,underlying9,isAgg9,sizeOf9,zeroValue9,underlying164,isAgg164,sizeOf164,zeroValue164,underlying158,isAgg158,sizeOf158,zeroValue158,underlying198,isAgg198,sizeOf198,zeroValue198,by kernel_rfl⟩
end Go.Proofs
namespace Go.Proofs.YtpdhpbldangmbaaGreatDoor
open Go.Shelf Go.RowKit Dv Go.Am
def ZFF {s:List UInt8} (h:ZJj s=true):Dg s:=by intro c j;have:=XaH.1 h c j;simp_all
theorem Zrf: ∀ (s:List UInt8) (n:Nat),Dg s->ZtT n s<=4294967295->Lib.parseUintM 4294967295 n s= .ok (ZtT n s)
 | [],n,_,_=>rfl
 |c::s,n,h,j=>by have C:=h c Xah;have I:Dg s:=λx J=>h x (Xai _ J);have R:10*n+(c.toNat-48)<=ZtT n (c::s):=(by rw[ZeG,Zly];have U:(10*n+(c.toNat-48))*1<=(10*n+(c.toNat-48))*10^s.length:=Nat.mul_le_mul_left _ (Nat.one_le_pow _ _ dC);omega);rw[Lib.parseUintM,if_pos C,if_neg oM,if_neg oM,ZeG,show n*10+(c.toNat-48)=10*n+(c.toNat-48)by omega];exact Zrf s _ I (by rw[<-ZeG];exact j)
def Zxm {s:List UInt8} (h:Dg s) (j:1<=s.length) (C:s.length<=9):Lib.parseUintB 32 s= .ok (dec s):=by have I:=ZcO h;have:=Xbd (show 0<10 by decide) C;rw[Lib.parseUintB,if_neg (by rintro rfl;simp at j),show 2^32-1=4294967295 from rfl];grind [Zrf,dec]
def Ze5: ∀C v,parseG C=some v-> ∀ (S:Nat->Prop) w vals,(∀b,S b->b<w.heap.size)->Laid.ok S w->LRel w S C vals->
 Calls prog 150 vals.toArray w λe w'=> ∃u,e= .returned u/\Below w.heap.size w w'/\IRel w' (λb=>S b\/(w.heap.size<=b/\b<w'.heap.size)) v u:=by intro C v j S w vals hS hL J;unfold parseG at j;split at j;rename_i s b z;split at j;rename_i R;simp only[Xas,decide_eq_true_eq]at R;obtain⟨⟨rfl,rfl⟩,⟨hd,U⟩,I⟩:=R;cases j;simp only[LRel,IRel]at J;obtain⟨_,_,rfl,rfl,_,_,rfl,rfl,_,_,rfl,rfl,rfl⟩:=J;have I:=Xam I;have aa:s.size=s.data.toList.length:=rfl;refine(Any.strconv_ParseUint_10_at32_ok Tryz.laysPu14 s (by omega) _ (Zxm (ZFF hd) (Xam U) I) w).mono ?_;rintro e w' ⟨rfl,hw⟩;refine⟨_,rfl, ?_, ?_⟩;rcases hw with rfl|rfl;exact Below.refl _ _;exact Lib.bytesWorld_below _ _ _;simp only[IRel];exact⟨_,rfl,by simp[LRel,IRel]⟩;cases j;cases j
def internal_strconv_small (i:Nat) (h:i<100) (w:World):
 Calls prog 140 #[.int .i64 i] w λe w'=>e= .returned (.string ⟨(Lib.decDigits i).toArray⟩)/\w'=w:=Any.internal_strconv_small Tryz.lays283 i h w
def internal_strconv_numDigits (u:Nat) (C:1<=u) (I:u<18446744073709551616) (w:World) (j:Lib.TabIs prog w "internal/strconv.uint64pow10" .u64 Lib.pow10Tab):
 Calls prog 141 #[.int .u64 u] w λe w'=>e= .returned (.int .i64 (Lib.nDigits u))/\w'=w:=Any.internal_strconv_numDigits Tryz.laysM284 u C I w j
open Go.RowKit Go.Sort Go.Lib in
def internal_strconv_formatBase10 (blk off cap:Nat) (u:Nat) (d:Array UInt8) (w:World) (J:Holds (λ(b:UInt8)=>Value.int .u8 (b.toNat:Int)) w blk off d) (hu:u<10^d.size) (j:u<18446744073709551616) (C:d.size<4611686018427387904):
 Calls prog 142 #[.slice (some ⟨blk,off,none⟩) d.size cap, .int .u64 u] w λe w'=>
  e= .returned (.tuple #[])/\ ∃ (n R:Nat) (I:Array UInt8),w'=(putRow (λ(b:UInt8)=>Value.int .u8 (b.toNat:Int)) w blk off I).drewN n/\FmtInv d.size u 0 R I:=Any.internal_strconv_formatBase10 Tryz.lays285 blk off cap u d w J hu j C
open Go.Sort Go.Lib
def ZrB (w:World) (T:TypeId) (nd:Nat) (J:nd<=24):Holds (λ(b:UInt8)=>Value.int .u8 (b.toNat:Int)) (w.alloc (.cells zeros24 T)) w.heap.size 0 (Array.replicate nd (0:UInt8)):=λj C=>by
 have I:j<nd:=by simpa using C
 refine⟨?_,World.frozen?_alloc_new _ _ _ _⟩;rw[World.cell?_alloc_new,zeros24_at _ oM,getElem!_pos _ j C];simp
def ZDF (w:World) o C k: ∃os,(putRow (λ(b:UInt8)=>Value.int .u8 (b.toNat:Int)) (w.alloc o) w.heap.size 0 C).drewN k=grow (w.drewN k) os:=by
 rw[alloc_eq_grow];let⟨j,_,e⟩:=putRow_grow_new (λb=>Value.int .u8 (b.toNat:Int)) w #[o] w.heap.size 0 C (Xae _)
 exact⟨j,by rw[e];rfl⟩
def Zv8 (u:Nat) (C:u<18446744073709551616) (w:World) (R:Lib.TabIs prog w "internal/strconv.uint64pow10" .u64 Lib.pow10Tab):
 Calls prog 134 #[.int .u64 u, .int .i64 10] w λe w'=>e= .returned (.string ⟨(Lib.decDigits u).toArray⟩)/\ ∃k os,w'=grow (w.drewN k) os:=by
 by_cases hs:u<100;have ae:IntKind.i64.wrap (u:Int)=u:=by rw[IntKind.wrap_i64];omega
 have af:(u:Int)<100:=oM;go_enter func134,ntmps134
 go_wp2_with (go_at_call 140;refine(internal_strconv_small u hs _).mono ?_;rintro e w' ⟨rfl,rfl⟩);go_ret;exact⟨rfl,0, #[],by simp[World.drewN_zero]⟩;have U:1<=u:=oM;have ab:Lib.nDigits u<=20:=by have:=Lib.numDigits_eq u U C;split at this<;>omega
 have aa:prog.arrayLen 209=24:=kR;have ag:Lib.nDigits u<=24:=oM;have ah: ¬ ((u:Int)<100):=oM;have ad: ∀W,(Instr.sliceAt 209 (.pointer (some ⟨w.heap.size,0,none⟩)) none (some (.int .i64 (Lib.nDigits u:Int))) none).run prog W= .ok (.slice (some ⟨w.heap.size,0,none⟩) (Lib.nDigits u) 24) W:=λW=>by rw[run_sliceAt_array_h W 209 ⟨w.heap.size,0,none⟩ kR .i64 (Lib.nDigits u:Int) oM (by rw[aa];omega)];go_simp
 have J:=ZrB w 209 (Lib.nDigits u) oM;have I:=internal_strconv_formatBase10 w.heap.size 0 24 u (Array.replicate (Lib.nDigits u) 0) (w.alloc (.cells Lib.zeros24 209)) J (by rw[Array.size_replicate];exact Lib.lt_pow_nDigits u) C (by rw[Array.size_replicate];omega);rw[Array.size_replicate]at I;have HH0:=Lib.hid J;clear J aa;go_enter func134,ntmps134
 go_wp2_with (go_at_call 141;refine(internal_strconv_numDigits u U C _ (Lib.tabIs_alloc R _)).mono ?_;rintro e w' ⟨rfl,rfl⟩);go_at_call 142;refine I.mono ?_;rintro e w' ⟨rfl,k,v',dk,rfl,hF⟩;have ai:(convert 155 9 (.slice (some ⟨w.heap.size,0,none⟩) (Lib.nDigits u) 24)).run prog ((putRow (λb=>Value.int .u8 (b.toNat:Int)) (w.alloc (.cells Lib.zeros24 209)) w.heap.size 0 dk).drewN k)= .ok (.string ⟨(Lib.decDigits u).toArray⟩) ((putRow (λb=>Value.int .u8 (b.toNat:Int)) (w.alloc (.cells Lib.zeros24 209)) w.heap.size 0 dk).drewN k):=by have h:=run_convert_bytes_back ((putRow (λ(b:UInt8)=>Value.int .u8 (b.toNat:Int)) (w.alloc (.cells Lib.zeros24 209)) w.heap.size 0 dk).drewN k) 155 9 5 ⟨w.heap.size,0,none⟩ 24 (Lib.decDigits u) underlying155 underlying5 underlying9 (λj hj=>by rw[Lib.row_is_numeral hF j hj,Lib.add_plain,World.cell?_drewN];exact cell?_putRow (λ(b:UInt8)=>Value.int .u8 (b.toNat:Int)) _ w.heap.size 0 _ dk HH0.out (by rw[hF.size,Array.size_replicate]) j (by rw[hF.size];rw[Lib.decDigits_length]at hj;exact hj));rw[Lib.decDigits_length]at h;exact h
 go_wp2;go_ret;obtain⟨os,eo⟩:=ZDF w (.cells Lib.zeros24 209) dk k;exact⟨rfl,k,os,eo⟩
def ZAo:(prog.info? 188).map (·.size)=some 2:=by kernel_rfl
def ZF8:liesAt prog prog.depth 188 (2/prog.cellsOf 188) 0 188 1=true:=by kernel_rfl
def Zyp:(prog.info? 5).map (λi=>(i.zero,i.size,i.bytes))=some (some (.int .u8 0),1,1):=kR
def Zmh (b:Nat) (w:World) (I:w.cell? ⟨b,0,none⟩=some (.pointer (some ⟨b,0,none⟩))):
 Calls prog 135 #[.pointer (some ⟨b,0,none⟩)] w λe w'=>e= .returned (.tuple #[])/\w'=w:=by
 obtain⟨j,C,_⟩:=Option.map_eq_some_iff.1 ZAo;go_enter func135,ntmps135
 go_wp2;rw[Lib.run_neq_ptr_same w _ underlying186 C];go_wp2;go_end0;exact⟨rfl,rfl⟩
def Zlo (b:Nat) (w:World) (U:w.cell? ⟨b,0,none⟩=some (.pointer none)) (C:w.shape? b=some (188,2)) (R:w.frozen? ⟨b,0,none⟩=false):
 Calls prog 135 #[.pointer (some ⟨b,0,none⟩)] w λe w'=>e= .returned (.tuple #[])/\w'=w.setCell ⟨b,0,none⟩ (.pointer (some ⟨b,0,none⟩)):=by
 let⟨j,J,I⟩:=Option.map_eq_some_iff.1 ZAo
 go_enter func135,ntmps135
 go_wp2;rw[Lib.run_to_unsafe w ⟨b,0,none⟩ underlying186 underlying214 J (by rw[I];decide) C (Nat.zero_lt_succ 1)];simp only[Result.andThen];rw[Oper.upon_value];go_wp2;rw[run_callFunc_extern func144 kR kR kR kR];rw[Lib.run_noEscape];simp only[Result.andThen];rw[Oper.upon_value];go_wp2;rw[Lib.run_from_unsafe w ⟨b,0,none⟩ underlying214 underlying186 J C ZF8];simp only[Result.andThen];rw[Oper.upon_value];go_wp2;go_end0;exact⟨rfl,rfl⟩
def Zsk (B b:Nat) (j:List Value) (w:World) (h:Lib.IsBuilderF 188 5 B b j w):
 Calls prog 135 #[.pointer (some ⟨b,0,none⟩)] w λe w'=>e= .returned (.tuple #[])/\(Lib.BuilderAtF 188 5 B b (.pointer (some ⟨b,0,none⟩)) j w'/\Below B w w'/\Lib.OthersKept 5 (some b) w w'):=by rcases h with h|h;refine(Zlo b w h.cell0 h.shape h.frozen0).mono ?_;rintro e w' ⟨rfl,rfl⟩;exact⟨rfl,h.used _,(Below.refl B w).setCell (p:=⟨b,0,none⟩) h.1 _,(Lib.OthersKept.refl _ _ w).setCell ⟨b,0,none⟩ rfl _⟩;refine(Zmh b w h.cell0).mono ?_;rintro e w' ⟨rfl,rfl⟩;exact⟨rfl,h,Below.refl B _,Lib.OthersKept.refl _ _ _⟩
def Ze7 (B b:Nat) (bs:List Value) (s:ByteArray) (w:World) (h:Lib.IsBuilderF 188 5 B b bs w) (hlen:bs.length+s.size<=140737488355328) (ai:B<=w.heap.size):
 Calls prog 124 #[.pointer (some ⟨b,0,none⟩), .string s] w λe w'=>e= .returned (.tuple #[.int .i64 s.size, .nilIface])/\(Lib.BuilderAtF 188 5 B b (.pointer (some ⟨b,0,none⟩)) (bs++Lib.strCells s) w'/\Below B w w'/\Lib.OthersKept 5 (some b) w w'):=by
 let⟨i0,hi,ab,ad,ae⟩:=info_parts Zyp
 go_enter func124,ntmps124
 go_wp2_with (go_at_call 135;refine(Zsk B b bs _ h).mono ?_);rintro e w1 ⟨rfl,h1,aa,af⟩;let⟨hB,v,J,C,ag⟩:=h1
 have c0:w1.cell? ⟨b,0,none⟩=some (.pointer (some ⟨b,0,none⟩)):=by rw[Lib.cell_of_heap J];rfl
 have c1:w1.cell? ⟨b,1,none⟩=some v:=by rw[Lib.cell_of_heap J];rfl
 go_wp2_with (at_builtin;refine Lib.wpList_append_own_stringF _ rfl _ _ 155 9 rfl B 5 i0 underlying155 underlying9 hi ab ad ae _ _ _ rfl C s rfl ?c3 ?c4 ?c5 ?_);case c3=>unfold maxLen;omega
 case c4=>omega
 case c5=>have:=aa.size;omega
 intro v' w2 I j _;have ah:b<w1.heap.size:=by rcases Xa8 b w1.heap.size with h'|h';exact h';simp[Array.getElem?_eq_none h']at J
 have R:w2.heap[b]? =some (.cells #[.pointer (some ⟨b,0,none⟩),v] 188 (0,0)):=by rw[j.block b ah (λe=>ag e.symm)];exact J
 have d0:w2.cell? ⟨b,0,none⟩=some (.pointer (some ⟨b,0,none⟩)):=by rw[Lib.cell_of_heap R];rfl
 have d1:w2.cell? ⟨b,1,none⟩=some v:=by rw[Lib.cell_of_heap R];rfl
 have f1:=Lib.frozen_of_heap R 1;obtain⟨ao,n',cap,rfl⟩: ∃ao n' cap,v'= .slice ao n' cap:=by rcases I.2 with⟨hv,_⟩|⟨g,cap,cur,fz,hv,_⟩;exact⟨_,_,_,hv⟩;exact⟨_,_,_,hv⟩
 go_wp2;go_ret2;refine⟨rfl, ?_, ?_,(af.grown j (Lib.ownsRowF_kind C)).setCell ⟨b,1,none⟩ rfl _⟩;exact Lib.BuilderAtF.put hB R (bs':=bs++Lib.strCells s) (by simpa[Lib.strCells_length]using I) dC;exact(aa.grown j (by have:=aa.size;omega) (λk hk=>(C.lt k hk).1)).setCell hB _
def ZsV:Builder.Extra prog Tryz.lays169_ren where
 sizeBuilder:=kR
 liesBuilder:=kR
 t5:=underlying5
 a5:=isAgg5
 z5:=sizeOf5
 v5:=zeroValue5
 infoByte:=kR
 cellsByte:=kR
 sizeByte:=kR
 neB5:=dC
def Zmb (B b:Nat) (l:List UInt8) (w:World) (h:Lib.IsBuilderF 188 5 B b (Lib.byteCells l) w) (j:B<=w.heap.size):
 Calls prog 125 #[.pointer (some ⟨b,0,none⟩)] w λe w'=>e= .returned (.string ⟨l.toArray⟩)/\(Lib.IsBuilderF 188 5 B b (Lib.byteCells l) w'/\Below B w w'/\Lib.OthersKept 5 (some b) w w'):=Any.Builder_String_any_k Tryz.lays169 ZsV B b l w h j
def Zzf (u:Nat) (j:u<18446744073709551616) (w:World) (C:Lib.TabIs prog w "internal/strconv.uint64pow10" .u64 Lib.pow10Tab):
 Calls prog 123 #[.int .u64 u, .int .i64 10] w λe w'=>e= .returned (.string ⟨(Lib.decDigits u).toArray⟩)/\ ∃k os,w'=grow (w.drewN k) os:=by
 go_enter func123,ntmps123
 go_wp2_with (go_at_call 134;refine(Zv8 u j _ C).mono ?_;rintro e w' ⟨rfl,k,os,rfl⟩);go_ret;exact⟨rfl,k,os,rfl⟩
end Go.Proofs.YtpdhpbldangmbaaGreatDoor
namespace Dv
open Go Go.Lib
def pvN:List Nat->Nat
 | []=>0
 |p::r=>p+1000000000*pvN r
def ZAT (p:Nat):List UInt8:=List.replicate (9-(decDigits p).length) 48++decDigits p
def Zco:List Nat->List UInt8
 | []=> []
 |p::r=>match r with
  | []=>decDigits p
  |_::_=>Zco r++ZAT p
theorem ZpH (p:Nat):Zco [p]=decDigits p:=rfl
def ZwH (p:Nat) {r:List Nat} (h:r≠ []):Zco (p::r)=Zco r++ZAT p:=by cases r with|nil=>exact absurd rfl h|cons _ _=>rfl
def Zzz (k:Nat) (s:List UInt8):dec (List.replicate k 48++s)=dec s:=by induction k with|zero=>rfl|succ k j=>rw[List.replicate_succ,Xa5,Zdd,j];simp
def Zqo {p:Nat} (h:p<1000000000):(ZAT p).length=9/\Dg (ZAT p)/\dec (ZAT p)=p:=by have j:=(Zcp (k:=9) dC).2 h;refine⟨by rw[ZAT,Xal,XaE];omega, ?_,by rw[ZAT,Zzz,Zaz]⟩;refine Dg.app ?_ (Zbj p);intro c C;simp_all
def Cn.head {s:List UInt8} (h:Cn s) (j:1<=dec s):s.head?≠some 48:=by rcases s with _|⟨c,s⟩;exact absurd rfl h.1;rcases s with _|⟨d,s⟩;rw[ZkQ]at j;simp[List.head?_cons,ne_eq,Xaj];rintro rfl;exact absurd j dC;exact h.2.2 sM
def ZmD: ∀ {j:List Nat},j≠ []->(∀p∈j,p<1000000000)->(2<=j.length->j.getLast?≠some 0)->Cn (Zco j)/\dec (Zco j)=pvN j
 | [],h,_,_=>absurd rfl h
 | [p],_,_,_=>by grind [ZpH,Zaz,Zb4,pvN]
 |p::q::r,_,R,h3=>by
  have C:(q::r).getLast?≠some 0:=(by grind);(let⟨J,U⟩:=ZmD sM (λx hx=>R x (Xai _ hx)) λ_=>C);(let⟨h6,h7,h8⟩:=Zqo (R p Xah));have I:1<=pvN (q::r):=by
   have: ∀l:List Nat,l≠ []->l.getLast?≠some 0->1<=pvN l:=by intro l;induction l with|nil=>intro h;exact absurd rfl h|cons x l ih=>intro _ hl;cases l with|nil=>grind [pvN]|cons y l=>grind [List.getLast,pvN]
   exact this _ sM C
  have e:Zco (p::q::r)=Zco (q::r)++ZAT p:=rfl;rw[e,Zr2,U,h6,h8];refine⟨⟨by simp[J.1],J.2.1.app h7,λ_=> ?_⟩,by show _=p+1000000000*pvN (q::r);omega⟩;have:=J.head (by rw[U];exact I);cases hj:Zco (q::r)with|nil=>exact absurd hj J.1|cons x t=>rw[hj]at this;simpa using this
def ZCr {j:List Nat} (C:j≠ []) (I: ∀p∈j,p<1000000000) (J:2<=j.length->j.getLast?≠some 0):Zco j=decDigits (pvN j):=by
 let⟨R,U⟩:=ZmD C I J
 rw[<-R.eq,U]
def ZzO: ∀ (l:List Nat) (p:Nat),pvN (l++ [p])=pvN l+1000000000^l.length*p
 | [],p=>by simp[pvN]
 |x::l,p=>by rw[Xa5,pvN,ZzO l p,pvN,Xao,XbY,Nat.mul_add,<-XbW,XbR 1000000000 (1000000000^l.length)];omega
def ZlS: ∀ (j:List Nat),(∀p∈j,p<1000000000)->(Zco j).length<=9*j.length
 | [],_=>by simp[Zco]
 | [p],h=>by rw[ZpH];have:=(Zcp (k:=9) dC).2 (h p sM);simpa using this
 |p::q::r,h=>by have C:=ZlS (q::r) λx I=>h x (Xai _ I);have J:=(Zqo (h p sM)).1;have e:Zco (p::q::r)=Zco (q::r)++ZAT p:=rfl;rw[e,Xal,J];simp only[Xao]at C|-;omega
end Dv
