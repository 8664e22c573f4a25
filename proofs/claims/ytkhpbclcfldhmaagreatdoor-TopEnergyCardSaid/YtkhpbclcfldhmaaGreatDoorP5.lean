/-
 (large.Int).Text as a primitive; the primitives are sound.
-/
import Derived.Test.YtkhpbclcfldhmaaGreatDoorP4
set_option linter.constructorNameAsVariable false
set_option linter.unusedSimpArgs false
set_option linter.unusedVariables false
namespace Go.Proofs.YtkhpbclcfldhmaaGreatDoor
open Go.RowKit Go.Shelf Go.Lib Dv Go.Tx Go.Am
set_option maxRecDepth 100000
theorem Zvu:Static Tryz.prog ZoJ:=Zhx Zs7 fun f hf=>by cases hf
theorem Zyl:Zca Tryz.prog ZoJ:=fun f g hg=>by cases hg
theorem Zl7: ∀ {es:List (List PV)} {a:List Int},Zex es=some a→Wd a∧All2 (RR (.i .u32)) a es
 | [],a,h=>by cases h;exact⟨fun x hx=>by simp at hx,trivial⟩
 |c::r,a,h=>by
  unfold Zex at h
  split at h
  ·rename_i heq;cases heq
  ·rename_i x r' heq
   cases heq
   split at h
   ·rename_i hb
    simp only[Bool.and_eq_true,decide_eq_true_eq]at hb
    cases hr:Zex r with
    |none=>rw[hr]at h;cases h
    |some l=>
     rw[hr]at h
     cases h
     obtain⟨h1,h2⟩:=Zl7 hr
     refine⟨fun y hy=> ?_,rfl,h2⟩
     rcases List.mem_cons.1 hy with rfl|hy
     ·exact hb
     ·exact h1 y hy
   ·cases h
  ·cases h
theorem Zj7 {φ:Phi} {w:World} {S:Nat→Prop} {b:Nat}: ∀ {l:List Int} {es:List (List PV)} {o:Nat},All2 (RR (.i .u32)) l es→VE φ w S es b o→ ∀j (hj:j<l.length),w.cell? ⟨b,o+j,none⟩=some (.int .u32 l[j])
 | [],_,_,_,_,j,hj=>by simp at hj
 |x::l,[],_,h,_,_,_=>by cases h
 |x::l,c::es,o,h,hv,j,hj=>by
  obtain⟨h1,h2⟩:=h
  simp only[RR]at h1
  subst h1
  simp only[VE,VC,VRel,List.length_cons,List.length_nil]at hv
  obtain⟨⟨⟨_,v,h3,rfl⟩,_⟩,h4⟩:=hv
  cases j with
  |zero=>exact h3
  |succ j=>
   have:=Zj7 (o:=o+(0+1)) h2 h4 j (by simpa using hj)
   rw[show o+(j+1)=o+(0+1)+j by omega]
   exact this
theorem Zyb: ∀l:List Value,l.length=72→ ∃x0 x1 x2 x3 x4 x5 x6 x7 x8 x9 x10 x11 x12 x13 x14 x15 x16 x17 x18 x19 x20 x21 x22 x23 x24 x25 x26 x27 x28 x29 x30 x31 x32 x33 x34 x35 x36 x37 x38 x39 x40 x41 x42 x43 x44 x45 x46 x47 x48 x49 x50 x51 x52 x53 x54 x55 x56 x57 x58 x59 x60 x61 x62 x63 x64 x65 x66 x67 x68 x69 x70 x71:Value,l=(x0::x1::x2::x3::x4::x5::x6::x7::x8::x9::x10::x11::x12::x13::x14::x15::x16::x17::x18::x19::x20::x21::x22::x23::x24::x25::x26::x27::x28::x29::x30::x31::x32::x33::x34::x35::x36::x37::x38::x39::x40::x41::x42::x43::x44::x45::x46::x47::x48::x49::x50::x51::x52::x53::x54::x55::x56::x57::x58::x59::x60::x61::x62::x63::x64::x65::x66::x67::x68::x69::x70::x71::[]):=by
 intro l hl
 obtain⟨x0,l,rfl⟩: ∃x r,l=x::r:=by cases l with|nil=>simp at hl|cons x r=>exact⟨x,r,rfl⟩
 have hl:l.length=71:=by simpa using hl
 obtain⟨x1,l,rfl⟩: ∃x r,l=x::r:=by cases l with|nil=>simp at hl|cons x r=>exact⟨x,r,rfl⟩
 have hl:l.length=70:=by simpa using hl
 obtain⟨x2,l,rfl⟩: ∃x r,l=x::r:=by cases l with|nil=>simp at hl|cons x r=>exact⟨x,r,rfl⟩
 have hl:l.length=69:=by simpa using hl
 obtain⟨x3,l,rfl⟩: ∃x r,l=x::r:=by cases l with|nil=>simp at hl|cons x r=>exact⟨x,r,rfl⟩
 have hl:l.length=68:=by simpa using hl
 obtain⟨x4,l,rfl⟩: ∃x r,l=x::r:=by cases l with|nil=>simp at hl|cons x r=>exact⟨x,r,rfl⟩
 have hl:l.length=67:=by simpa using hl
 obtain⟨x5,l,rfl⟩: ∃x r,l=x::r:=by cases l with|nil=>simp at hl|cons x r=>exact⟨x,r,rfl⟩
 have hl:l.length=66:=by simpa using hl
 obtain⟨x6,l,rfl⟩: ∃x r,l=x::r:=by cases l with|nil=>simp at hl|cons x r=>exact⟨x,r,rfl⟩
 have hl:l.length=65:=by simpa using hl
 obtain⟨x7,l,rfl⟩: ∃x r,l=x::r:=by cases l with|nil=>simp at hl|cons x r=>exact⟨x,r,rfl⟩
 have hl:l.length=64:=by simpa using hl
 obtain⟨x8,l,rfl⟩: ∃x r,l=x::r:=by cases l with|nil=>simp at hl|cons x r=>exact⟨x,r,rfl⟩
 have hl:l.length=63:=by simpa using hl
 obtain⟨x9,l,rfl⟩: ∃x r,l=x::r:=by cases l with|nil=>simp at hl|cons x r=>exact⟨x,r,rfl⟩
 have hl:l.length=62:=by simpa using hl
 obtain⟨x10,l,rfl⟩: ∃x r,l=x::r:=by cases l with|nil=>simp at hl|cons x r=>exact⟨x,r,rfl⟩
 have hl:l.length=61:=by simpa using hl
 obtain⟨x11,l,rfl⟩: ∃x r,l=x::r:=by cases l with|nil=>simp at hl|cons x r=>exact⟨x,r,rfl⟩
 have hl:l.length=60:=by simpa using hl
 obtain⟨x12,l,rfl⟩: ∃x r,l=x::r:=by cases l with|nil=>simp at hl|cons x r=>exact⟨x,r,rfl⟩
 have hl:l.length=59:=by simpa using hl
 obtain⟨x13,l,rfl⟩: ∃x r,l=x::r:=by cases l with|nil=>simp at hl|cons x r=>exact⟨x,r,rfl⟩
 have hl:l.length=58:=by simpa using hl
 obtain⟨x14,l,rfl⟩: ∃x r,l=x::r:=by cases l with|nil=>simp at hl|cons x r=>exact⟨x,r,rfl⟩
 have hl:l.length=57:=by simpa using hl
 obtain⟨x15,l,rfl⟩: ∃x r,l=x::r:=by cases l with|nil=>simp at hl|cons x r=>exact⟨x,r,rfl⟩
 have hl:l.length=56:=by simpa using hl
 obtain⟨x16,l,rfl⟩: ∃x r,l=x::r:=by cases l with|nil=>simp at hl|cons x r=>exact⟨x,r,rfl⟩
 have hl:l.length=55:=by simpa using hl
 obtain⟨x17,l,rfl⟩: ∃x r,l=x::r:=by cases l with|nil=>simp at hl|cons x r=>exact⟨x,r,rfl⟩
 have hl:l.length=54:=by simpa using hl
 obtain⟨x18,l,rfl⟩: ∃x r,l=x::r:=by cases l with|nil=>simp at hl|cons x r=>exact⟨x,r,rfl⟩
 have hl:l.length=53:=by simpa using hl
 obtain⟨x19,l,rfl⟩: ∃x r,l=x::r:=by cases l with|nil=>simp at hl|cons x r=>exact⟨x,r,rfl⟩
 have hl:l.length=52:=by simpa using hl
 obtain⟨x20,l,rfl⟩: ∃x r,l=x::r:=by cases l with|nil=>simp at hl|cons x r=>exact⟨x,r,rfl⟩
 have hl:l.length=51:=by simpa using hl
 obtain⟨x21,l,rfl⟩: ∃x r,l=x::r:=by cases l with|nil=>simp at hl|cons x r=>exact⟨x,r,rfl⟩
 have hl:l.length=50:=by simpa using hl
 obtain⟨x22,l,rfl⟩: ∃x r,l=x::r:=by cases l with|nil=>simp at hl|cons x r=>exact⟨x,r,rfl⟩
 have hl:l.length=49:=by simpa using hl
 obtain⟨x23,l,rfl⟩: ∃x r,l=x::r:=by cases l with|nil=>simp at hl|cons x r=>exact⟨x,r,rfl⟩
 have hl:l.length=48:=by simpa using hl
 obtain⟨x24,l,rfl⟩: ∃x r,l=x::r:=by cases l with|nil=>simp at hl|cons x r=>exact⟨x,r,rfl⟩
 have hl:l.length=47:=by simpa using hl
 obtain⟨x25,l,rfl⟩: ∃x r,l=x::r:=by cases l with|nil=>simp at hl|cons x r=>exact⟨x,r,rfl⟩
 have hl:l.length=46:=by simpa using hl
 obtain⟨x26,l,rfl⟩: ∃x r,l=x::r:=by cases l with|nil=>simp at hl|cons x r=>exact⟨x,r,rfl⟩
 have hl:l.length=45:=by simpa using hl
 obtain⟨x27,l,rfl⟩: ∃x r,l=x::r:=by cases l with|nil=>simp at hl|cons x r=>exact⟨x,r,rfl⟩
 have hl:l.length=44:=by simpa using hl
 obtain⟨x28,l,rfl⟩: ∃x r,l=x::r:=by cases l with|nil=>simp at hl|cons x r=>exact⟨x,r,rfl⟩
 have hl:l.length=43:=by simpa using hl
 obtain⟨x29,l,rfl⟩: ∃x r,l=x::r:=by cases l with|nil=>simp at hl|cons x r=>exact⟨x,r,rfl⟩
 have hl:l.length=42:=by simpa using hl
 obtain⟨x30,l,rfl⟩: ∃x r,l=x::r:=by cases l with|nil=>simp at hl|cons x r=>exact⟨x,r,rfl⟩
 have hl:l.length=41:=by simpa using hl
 obtain⟨x31,l,rfl⟩: ∃x r,l=x::r:=by cases l with|nil=>simp at hl|cons x r=>exact⟨x,r,rfl⟩
 have hl:l.length=40:=by simpa using hl
 obtain⟨x32,l,rfl⟩: ∃x r,l=x::r:=by cases l with|nil=>simp at hl|cons x r=>exact⟨x,r,rfl⟩
 have hl:l.length=39:=by simpa using hl
 obtain⟨x33,l,rfl⟩: ∃x r,l=x::r:=by cases l with|nil=>simp at hl|cons x r=>exact⟨x,r,rfl⟩
 have hl:l.length=38:=by simpa using hl
 obtain⟨x34,l,rfl⟩: ∃x r,l=x::r:=by cases l with|nil=>simp at hl|cons x r=>exact⟨x,r,rfl⟩
 have hl:l.length=37:=by simpa using hl
 obtain⟨x35,l,rfl⟩: ∃x r,l=x::r:=by cases l with|nil=>simp at hl|cons x r=>exact⟨x,r,rfl⟩
 have hl:l.length=36:=by simpa using hl
 obtain⟨x36,l,rfl⟩: ∃x r,l=x::r:=by cases l with|nil=>simp at hl|cons x r=>exact⟨x,r,rfl⟩
 have hl:l.length=35:=by simpa using hl
 obtain⟨x37,l,rfl⟩: ∃x r,l=x::r:=by cases l with|nil=>simp at hl|cons x r=>exact⟨x,r,rfl⟩
 have hl:l.length=34:=by simpa using hl
 obtain⟨x38,l,rfl⟩: ∃x r,l=x::r:=by cases l with|nil=>simp at hl|cons x r=>exact⟨x,r,rfl⟩
 have hl:l.length=33:=by simpa using hl
 obtain⟨x39,l,rfl⟩: ∃x r,l=x::r:=by cases l with|nil=>simp at hl|cons x r=>exact⟨x,r,rfl⟩
 have hl:l.length=32:=by simpa using hl
 obtain⟨x40,l,rfl⟩: ∃x r,l=x::r:=by cases l with|nil=>simp at hl|cons x r=>exact⟨x,r,rfl⟩
 have hl:l.length=31:=by simpa using hl
 obtain⟨x41,l,rfl⟩: ∃x r,l=x::r:=by cases l with|nil=>simp at hl|cons x r=>exact⟨x,r,rfl⟩
 have hl:l.length=30:=by simpa using hl
 obtain⟨x42,l,rfl⟩: ∃x r,l=x::r:=by cases l with|nil=>simp at hl|cons x r=>exact⟨x,r,rfl⟩
 have hl:l.length=29:=by simpa using hl
 obtain⟨x43,l,rfl⟩: ∃x r,l=x::r:=by cases l with|nil=>simp at hl|cons x r=>exact⟨x,r,rfl⟩
 have hl:l.length=28:=by simpa using hl
 obtain⟨x44,l,rfl⟩: ∃x r,l=x::r:=by cases l with|nil=>simp at hl|cons x r=>exact⟨x,r,rfl⟩
 have hl:l.length=27:=by simpa using hl
 obtain⟨x45,l,rfl⟩: ∃x r,l=x::r:=by cases l with|nil=>simp at hl|cons x r=>exact⟨x,r,rfl⟩
 have hl:l.length=26:=by simpa using hl
 obtain⟨x46,l,rfl⟩: ∃x r,l=x::r:=by cases l with|nil=>simp at hl|cons x r=>exact⟨x,r,rfl⟩
 have hl:l.length=25:=by simpa using hl
 obtain⟨x47,l,rfl⟩: ∃x r,l=x::r:=by cases l with|nil=>simp at hl|cons x r=>exact⟨x,r,rfl⟩
 have hl:l.length=24:=by simpa using hl
 obtain⟨x48,l,rfl⟩: ∃x r,l=x::r:=by cases l with|nil=>simp at hl|cons x r=>exact⟨x,r,rfl⟩
 have hl:l.length=23:=by simpa using hl
 obtain⟨x49,l,rfl⟩: ∃x r,l=x::r:=by cases l with|nil=>simp at hl|cons x r=>exact⟨x,r,rfl⟩
 have hl:l.length=22:=by simpa using hl
 obtain⟨x50,l,rfl⟩: ∃x r,l=x::r:=by cases l with|nil=>simp at hl|cons x r=>exact⟨x,r,rfl⟩
 have hl:l.length=21:=by simpa using hl
 obtain⟨x51,l,rfl⟩: ∃x r,l=x::r:=by cases l with|nil=>simp at hl|cons x r=>exact⟨x,r,rfl⟩
 have hl:l.length=20:=by simpa using hl
 obtain⟨x52,l,rfl⟩: ∃x r,l=x::r:=by cases l with|nil=>simp at hl|cons x r=>exact⟨x,r,rfl⟩
 have hl:l.length=19:=by simpa using hl
 obtain⟨x53,l,rfl⟩: ∃x r,l=x::r:=by cases l with|nil=>simp at hl|cons x r=>exact⟨x,r,rfl⟩
 have hl:l.length=18:=by simpa using hl
 obtain⟨x54,l,rfl⟩: ∃x r,l=x::r:=by cases l with|nil=>simp at hl|cons x r=>exact⟨x,r,rfl⟩
 have hl:l.length=17:=by simpa using hl
 obtain⟨x55,l,rfl⟩: ∃x r,l=x::r:=by cases l with|nil=>simp at hl|cons x r=>exact⟨x,r,rfl⟩
 have hl:l.length=16:=by simpa using hl
 obtain⟨x56,l,rfl⟩: ∃x r,l=x::r:=by cases l with|nil=>simp at hl|cons x r=>exact⟨x,r,rfl⟩
 have hl:l.length=15:=by simpa using hl
 obtain⟨x57,l,rfl⟩: ∃x r,l=x::r:=by cases l with|nil=>simp at hl|cons x r=>exact⟨x,r,rfl⟩
 have hl:l.length=14:=by simpa using hl
 obtain⟨x58,l,rfl⟩: ∃x r,l=x::r:=by cases l with|nil=>simp at hl|cons x r=>exact⟨x,r,rfl⟩
 have hl:l.length=13:=by simpa using hl
 obtain⟨x59,l,rfl⟩: ∃x r,l=x::r:=by cases l with|nil=>simp at hl|cons x r=>exact⟨x,r,rfl⟩
 have hl:l.length=12:=by simpa using hl
 obtain⟨x60,l,rfl⟩: ∃x r,l=x::r:=by cases l with|nil=>simp at hl|cons x r=>exact⟨x,r,rfl⟩
 have hl:l.length=11:=by simpa using hl
 obtain⟨x61,l,rfl⟩: ∃x r,l=x::r:=by cases l with|nil=>simp at hl|cons x r=>exact⟨x,r,rfl⟩
 have hl:l.length=10:=by simpa using hl
 obtain⟨x62,l,rfl⟩: ∃x r,l=x::r:=by cases l with|nil=>simp at hl|cons x r=>exact⟨x,r,rfl⟩
 have hl:l.length=9:=by simpa using hl
 obtain⟨x63,l,rfl⟩: ∃x r,l=x::r:=by cases l with|nil=>simp at hl|cons x r=>exact⟨x,r,rfl⟩
 have hl:l.length=8:=by simpa using hl
 obtain⟨x64,l,rfl⟩: ∃x r,l=x::r:=by cases l with|nil=>simp at hl|cons x r=>exact⟨x,r,rfl⟩
 have hl:l.length=7:=by simpa using hl
 obtain⟨x65,l,rfl⟩: ∃x r,l=x::r:=by cases l with|nil=>simp at hl|cons x r=>exact⟨x,r,rfl⟩
 have hl:l.length=6:=by simpa using hl
 obtain⟨x66,l,rfl⟩: ∃x r,l=x::r:=by cases l with|nil=>simp at hl|cons x r=>exact⟨x,r,rfl⟩
 have hl:l.length=5:=by simpa using hl
 obtain⟨x67,l,rfl⟩: ∃x r,l=x::r:=by cases l with|nil=>simp at hl|cons x r=>exact⟨x,r,rfl⟩
 have hl:l.length=4:=by simpa using hl
 obtain⟨x68,l,rfl⟩: ∃x r,l=x::r:=by cases l with|nil=>simp at hl|cons x r=>exact⟨x,r,rfl⟩
 have hl:l.length=3:=by simpa using hl
 obtain⟨x69,l,rfl⟩: ∃x r,l=x::r:=by cases l with|nil=>simp at hl|cons x r=>exact⟨x,r,rfl⟩
 have hl:l.length=2:=by simpa using hl
 obtain⟨x70,l,rfl⟩: ∃x r,l=x::r:=by cases l with|nil=>simp at hl|cons x r=>exact⟨x,r,rfl⟩
 have hl:l.length=1:=by simpa using hl
 obtain⟨x71,l,rfl⟩: ∃x r,l=x::r:=by cases l with|nil=>simp at hl|cons x r=>exact⟨x,r,rfl⟩
 have hl:l.length=0:=by simpa using hl
 have:=List.length_eq_zero_iff.1 hl
 subst this
 exact⟨x0,x1,x2,x3,x4,x5,x6,x7,x8,x9,x10,x11,x12,x13,x14,x15,x16,x17,x18,x19,x20,x21,x22,x23,x24,x25,x26,x27,x28,x29,x30,x31,x32,x33,x34,x35,x36,x37,x38,x39,x40,x41,x42,x43,x44,x45,x46,x47,x48,x49,x50,x51,x52,x53,x54,x55,x56,x57,x58,x59,x60,x61,x62,x63,x64,x65,x66,x67,x68,x69,x70,x71,rfl⟩
set_option maxHeartbeats 4000000 in
theorem Zp2 (m:Bool) (a:List Int) (ha:Wd a) (qs:List PV) (hr:RL [] [.agg [.v .b m,Za8 a]] qs) (S:Nat→Prop) (w:World) (vals:List Value) (hst: ∀b,S b→b<w.heap.size) (hL:Laid.ok S w) (hv:LRel w S qs vals):
 Calls Tryz.prog 61 vals.toArray w fun e w'=>e= .returned (.tuple #[.string ⟨(Zc8 m a).toArray⟩, .bool (ZcA a)])∧Below w.heap.size w w':=by
 refine Zrp Zvu Zyl Zah (fn:=Tryz.f61) (code:=Zdg Tryz.f61) 5 (by kernel_rfl) Tryz.func61 (by kernel_rfl) (Nat.le_of_ble_eq_true (by kernel_rfl)) (by kernel_rfl) (Zwd m a ha) hr hst hL hv ?_
 intro e st tm hp φp a' w' φ' S' hK hs hI hE hT
 refine⟨fun hne=> ?_,fun hn=> ?_⟩
 ·rcases hK with⟨rfl,s,f,h2,h3,rfl,rfl⟩|⟨rfl,_⟩
  ·obtain⟨q2,g2,r2⟩:=hs.tm _ _ h2
   obtain⟨q3,g3,r3⟩:=hs.tm _ _ h3
   simp only[RV,RR,List.cons.injEq,and_true]at r2 r3
   subst r2 r3
   obtain⟨u,h8,h9⟩:=Zf6 (P:=Tryz.prog) (fn:=Tryz.f61) (vs:=[.str ⟨(Zc8 m a).toArray⟩, .bool (ZcA a)]) (tm:=st.tm) (H:=st.hp) (by
    show ZaQ (Zir Tryz.prog st.tm st.hp) [.tmp 2, .tmp 3]=_
    simp only[Za2,ZsK,Zir,g2,g3,Option.bind_some]) hI hT
   simp only[Zbm,VRel,VL]at h9
   obtain⟨arr,rfl,_,_,h10,rfl,_,_,rfl,rfl,rfl⟩:=h9
   refine⟨hT.2.1,_,h8, ?_,hE.below⟩
   have:arr= #[.string ⟨(Zc8 m a).toArray⟩, .bool (ZcA a)]:=by
    apply Array.ext'
    rw[h10]
   rw[this]
  ·exact absurd rfl hne
 ·rcases hK with⟨rfl,_⟩|⟨_,hane,hal,ns,⟨hp1,hp2,hp3,hp4,hp5⟩,k1,k4,rfl⟩
  ·cases hn
  ·have hns:=hp1 hane
   obtain⟨q1,g1,r1⟩:=hs.tm _ _ k1
   obtain⟨q4,g4,r4⟩:=hs.tm _ _ k4
   simp only[RV]at r1 r4
   obtain⟨p0,f0,rfl⟩:=r1
   have hn0:ns.length≠0:=fun h=>hns (List.length_eq_zero_iff.1 h)
   rcases r4 with⟨p1,f1,rfl⟩|⟨_,_,_,h0,_⟩
   ·have m0:=hs.hp.row 0 _ _ rfl f0
    have m1:=hs.hp.row 1 _ _ rfl f1
    simp only[RM,RL,RV,RR,List.cons.injEq,and_true]at m0 m1
    obtain⟨_,cs',m',e0,c0,⟨_,_,rfl,rfl,qw,_,rfl,_,rfl⟩,_⟩:=m0
    cases e0
    obtain⟨es,m1',c1,ce,_⟩:=m1
    obtain⟨_,v1⟩:=hT.2.2 1 _ g1
    obtain⟨_,v4⟩:=hT.2.2 4 _ g4
    simp only[VRel,Option.getD_none]at v1 v4
    obtain⟨l0,e0,hv1⟩:=v1
    obtain⟨l1,ad,cap,e1,hv4,_,_,hv4'⟩:=v4
    rcases hv4' with⟨h0,_⟩|⟨had,_⟩
    ·exact absurd h0 hn0
    ·subst had
     have R0:=hI.row p0 l0 _ _ _ e0 c0
     have R1:=hI.row p1 l1 _ _ _ e1 c1
     have L0:=hI.live p0 l0 e0
     have L1:=hI.live p1 l1 e1
     obtain⟨⟨⟨_,vm,hm,hvm⟩,_⟩,_⟩:=R0.cells
     simp only[VRel]at hvm
     subst hvm
     obtain⟨g,hg,hgS,htab⟩:=hI.laid
     obtain⟨tmps,dfs⟩:=a'
     have hdf:dfs=[]:=hT.2.1
     subst hdf
     obtain⟨l⟩:=tmps
     obtain⟨x0,x1,x2,x3,x4,x5,x6,x7,x8,x9,x10,x11,x12,x13,x14,x15,x16,x17,x18,x19,x20,x21,x22,x23,x24,x25,x26,x27,x28,x29,x30,x31,x32,x33,x34,x35,x36,x37,x38,x39,x40,x41,x42,x43,x44,x45,x46,x47,x48,x49,x50,x51,x52,x53,x54,x55,x56,x57,x58,x59,x60,x61,x62,x63,x64,x65,x66,x67,x68,x69,x70,x71,rfl⟩:=Zyb l hT.1
     have hx1:x1= .pointer (some ⟨l0.b,l0.o,none⟩):=Eq.trans hv1 (by simp)
     have hx4:x4= .slice (some ⟨l1.b,l1.o,none⟩) ns.length cap:=Eq.trans hv4 (by simp)
     clear hv1 hv4
     subst hx1 hx4
     have hcells: ∀j (hj:j<ns.length),w'.cell? ⟨l1.b,l1.o+j,none⟩=some (.int .u32 (ns[j]:Nat)):=fun j hj=>by
      have:=Zj7 ce R1.cells j (by simpa[ZsM]using hj)
      rw[this];simp[ZsM]
     refine wp_mono (ZuG m ns hns hp2 hp5 l0.b l0.o l1.b l1.o cap x0 x2 x3 x5 x6 x7 x8 x9 x10 x11 x12 x13 x14 x15 x16 x17 x18 x19 x20 x21 x22 x23 x24 x25 x26 x27 x28 x29 x30 x31 x32 x33 x34 x35 x36 x37 x38 x39 x40 x41 x42 x43 x44 x45 x46 x47 x48 x49 x50 x51 x52 x53 x54 x55 x56 x57 x58 x59 x60 x61 x62 x63 x64 x65 x66 x67 x68 x69 x70 x71 w' L0.2.1 L1.2.1 hm hcells g hg (hI.stable g hgS) htab) ?_
     have hfit: ∀e w2,(e=Ending.returned (.tuple #[.string ⟨((match m with|true=> [45]|false=> [])++ZbB ns).toArray⟩, .bool (Nat.ble (ZbB ns).length 2000)])∧Below w'.heap.size w' w2)→e= .returned (.tuple #[.string ⟨(Zc8 m a).toArray⟩, .bool (ZcA a)])∧Below w.heap.size w w2:=by
      rintro e w2 ⟨rfl,hb⟩
      have hj:ZbB ns=ZtR 2100 (wv a).toNat:=by
       rw[Ztx hns hp2 hp3,ZnA]
       ·rw[←hp4];simp
       ·decide
       ·have h1:=(Za7 ha).2
        have h2:(4294967296:Int)^a.length≤4294967296^210:=ZgC (b:=4294967296) (by decide) hal
        have h3:(4294967296:Int)^210<((10^2100:Nat):Int):=by decide+kernel
        omega
      have hb210:Nat.ble a.length 210=true:=Nat.ble_eq_true_of_le hal
      have hemp:a.isEmpty=false:=by simpa using hane
      refine⟨?_,hE.below.trans (hb.mono hE.below.size)⟩
      simp only[Zc8,ZcA,hemp,hb210,hj]
      cases m<;>rfl
     intro e a2 w2 hq
     cases e with
     |normal=>obtain⟨h1,v,h2,h3⟩:=hq;exact⟨h1,v,h2,hfit _ _ h3⟩
     |ret=>obtain⟨h1,v,h2,h3⟩:=hq;exact⟨h1,v,h2,hfit _ _ h3⟩
     |panic c=>obtain⟨h1,h2⟩:=hq;exact⟨h1,hfit _ _ h2⟩
     |outgrown=>exact hfit _ _ hq
     |_=>exact hq.elim
   ·exact absurd h0 hn0
theorem Zqd: ∀qs v,textG qs=some v→ ∀ (S:Nat→Prop) w vals,(∀b,S b→b<w.heap.size)→Laid.ok S w→LRel w S qs vals→
 Calls Tryz.prog 61 vals.toArray w fun e w'=> ∃u,e= .returned u∧Below w.heap.size w w'∧IRel w' (fun b=>S b∨(w.heap.size≤b∧b<w'.heap.size)) v u:=by
 intro qs v hv S w vals hS hL hr
 have main: ∀m a,Wd a→RL [] [.agg [.v .b m,Za8 a]] qs→v= .tup [.str ⟨(Zc8 m a).toArray⟩, .bool (ZcA a)]→Calls Tryz.prog 61 vals.toArray w fun e w'=> ∃u,e= .returned u∧Below w.heap.size w w'∧IRel w' (fun b=>S b∨(w.heap.size≤b∧b<w'.heap.size)) v u:=by
  rintro m a ha hrl rfl
  refine(Zp2 m a ha qs hrl S w vals hS hL hr).mono ?_
  rintro e w' ⟨rfl,hb⟩
  refine⟨_,rfl,hb, ?_⟩
  simp only[IRel]
  exact⟨_,rfl,by simp[LRel,IRel]⟩
 unfold textG at hv
 split at hv
 ·rename_i m
  cases hv
  refine main m [] (fun x hx=>by simp at hx) ?_ rfl
  simp only[RL,RV,RR]
  exact⟨_,_,rfl,⟨_,rfl,_,_,rfl,rfl,_,_,rfl, .inl ⟨rfl,trivial⟩,rfl⟩,rfl⟩
 ·rename_i m es
  cases hw:Zex es with
  |none=>rw[hw]at hv;cases hv
  |some a=>
   rw[hw]at hv
   cases hv
   obtain⟨h1,h2⟩:=Zl7 hw
   refine main m a h1 ?_ rfl
   simp only[RL,RV,RR]
   exact⟨_,_,rfl,⟨_,rfl,_,_,rfl,rfl,_,_,rfl, .inr ⟨_,rfl,h2⟩,rfl⟩,rfl⟩
 ·cases hv
end Go.Proofs.YtkhpbclcfldhmaaGreatDoor
