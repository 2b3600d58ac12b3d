import Derived.Test.YtdjfbnoolfpcnaaGreatDoorG12
import Derived.Test.YtdjfbnoolfpcnaaGreatDoorG13
import Derived.Test.YtdjfbnoolfpcnaaGreatDoorG16
import Derived.Test.YtdjfbnoolfpcnaaGreatDoorG19
import Derived.Test.YtdjfbnoolfpcnaaGreatDoorG26
namespace Go.Proofs.YtdjfbnoolfpcnaaGreatDoor
open Go.RowKit
theorem survey_st0(sh:Sh):surveyP (st0 sh)=some ([],[]):=by
 have h:(st0 sh).ws 9=0:=by
  show putWs (fun _=>0) 0 (wordsOf sh) 9=0;unfold putWs;rw [if_neg];simp [wordsOf,headW]
 unfold surveyP;rw [if_pos h]
instance decIt:DecidableEq It:=fun a b=>
 if h:a.k=b.k∧a.v=b.v then isTrue (by cases a;cases b;simp at h;simp [h])else isFalse (fun e=>h (by rw [e];exact⟨rfl,rfl⟩))
set_option maxHeartbeats 4000000 in
theorem begin10_any{w:World}{L:Nat}{sh:Sh}(hL0:0<L)(hL:L≤1024)(hs:shapeOf L=some sh)(hT:Tabs w):Calls Tryz.prog 6 #[.int .i64 (L:Int)] w fun e w'=>∃d p x F,e= .returned (.tuple #[.pointer (some ⟨d,0,none⟩),.pointer (some ⟨p,0,none⟩),.pointer (some ⟨x,0,none⟩)])∧
 Ix w' x d p L (st0 sh) F∧Below w.heap.size w w'∧(∀b,F b→w.heap.size≤b)∧w.heap.size≤x:=by
 have HB0:=Lib.hid (begin_pool hL0 hL hs hT);clear hT hs;go_enter Tryz.func6,Tryz.ntmps6
 go_wp2_with fail
 refine HB0.out.mono ?_;rintro e w1⟨d,p,F,rfl,hs1,hb1,hF1⟩;have HO:=Lib.hid (open_index hs1);have HB1:=Lib.hid hb1;have HF1:=Lib.hid hF1;clear HB0 hs1 hb1 hF1
 go_wp2_with fail
 refine HO.out.mono ?_;rintro e w2⟨hb2,hp2⟩;rw [survey_st0]at hp2;obtain⟨x,rfl,hx2,hxw⟩:=hp2;have HB2:=Lib.hid (HB1.out.trans (hb2.mono HB1.out.size));have HX2:=Lib.hid hx2;have hxw':w.heap.size≤x:=Nat.le_trans HB1.out.size hxw;clear HO hb2 hx2 hxw
 go_wp2_with fail
 refine bodyPost_ret (v:= .tuple #[.pointer (some ⟨d,0,none⟩),.pointer (some ⟨p,0,none⟩),.pointer (some ⟨x,0,none⟩)]) (by simp [results,Tryz.results6,go_sem]) rfl ?_;exact⟨d,p,x,F,rfl,HX2.out,HB2.out,HF1.out,hxw'⟩
theorem Tryz.eqIdx(a b:ByteArray)(x y:Int)(w:World):(Op.equalIn 10000 61 (.agg #[.string a,.int .u64 x]) (.agg #[.string b,.int .u64 y])).run Tryz.prog w= .ok (a.toList==b.toList&&x==y) w:=by
 have hS:Tryz.prog.underlying 61=some (.struct (Tryz.prog.fieldsOf 61)):=by kernel_rfl
 rw [show(10000:Nat)=9999+1 from rfl]
 first
  | rw [run_equalIn_agg w 9999 61 _ _ hS (by kernel_rfl)]
  | rw [run_equalIn_agg w 9999 61 _ _ hS (fun w=>by kernel_rfl)]
 have u9:=Tryz.underlying9;have u31:=Tryz.underlying23;simp only [Program.fieldsOf,Tryz.underlying61];go_simp;by_cases h1:a.toList=b.toList<;>by_cases h2:x=y<;>simp [h1,h2]
def sh100:Sh:={lines:=100,slabs:=6,table:=128,data:=192}
theorem shape100:shapeOf 100=some sh100:=by decide+kernel
def kA:ByteArray:=⟨#[97]⟩
def kAB:ByteArray:=⟨#[97,98]⟩
def kQ:ByteArray:=⟨#[113]⟩
def s10a:St:=(putK (st0 sh100) kA.data.toList 7).1
def s10b:St:=(putK s10a kAB.data.toList 8).1
def s10c:St:=(putK s10b kQ.data.toList 9).1
def s10d:St:=(cutK s10c kA.data.toList).1
theorem put10a:(putK (st0 sh100) kA.data.toList 7).2=0:=by decide+kernel
theorem put10b:(putK s10a kAB.data.toList 8).2=0:=by decide+kernel
theorem put10c:(putK s10b kQ.data.toList 9).2=0:=by decide+kernel
theorem get10c:getP s10c kA.data.toList=(7,0):=by decide+kernel
def i10a:It:=⟨kA,7⟩
def i10b:It:=⟨kAB,8⟩
def i10c:It:=⟨kQ,9⟩
theorem eval10:(surveyP s10c).map (·.1)=some [([97],7),([97,98],8),([113],9)]:=by decide+kernel
theorem all10:allK s10c=some [i10a,i10b,i10c]:=by
 have h:=congrArg (fun o=>o.map (List.map toIt)) eval10;simp only [Option.map_map,Option.map_some]at h;exact h
theorem kids10:((pathP s10c kA.data.toList).bind fun wr=>(standsP wr.1 wr.2).map fun l=>l.nd.kids.length)=some 1:=by decide+kernel
theorem cut10:(cutK s10c kA.data.toList).2=(7,0):=by decide+kernel
theorem get10d:getP s10d kA.data.toList=(0,7):=by decide+kernel
theorem nodes10:(surveyP s10d).map (fun r=>r.2.length)=some (allP s10d).length:=by decide+kernel
set_option maxHeartbeats 8000000 in
set_option maxRecDepth 100000 in
theorem alive10{w:World}(hT:Tabs w):Calls Tryz.prog 4 #[] w fun e w'=>e= .returned (.bool true)∧Below w.heap.size w w':=by
 have HBg:=Lib.hid (begin10_any (w:=w) (L:=100) (by decide) (by decide) shape100 hT);clear hT;go_enter Tryz.func4,Tryz.ntmps4
 go_wp2_with fail
 refine HBg.out.mono ?_;rintro e w1⟨d,p,x,F1,rfl,hx1,hb1,hF1,_⟩;have HB1:=Lib.hid hb1;have HP1:=put_index hx1 kA (by decide) 7;unfold PutPost at HP1;rw [put10a]at HP1;have HP1:=Lib.hid HP1;have HF1:=Lib.hid hF1;clear HBg hx1 hb1 hF1
 go_wp2_with fail
 refine HP1.out.mono ?_;rintro e w2⟨rfl,F2,hx2,hm2⟩;have HB2:=Lib.hid (HB1.out.trans (hm2.touch.below HB1.out.size HF1.out));have HF2:Hid (∀b,F2 b→w.heap.size≤b):=Lib.hid (fun b hb=>(hm2.own b hb).elim (HF1.out b) (fun h=>Nat.le_trans HB1.out.size h));have HP2:=put_index (s:=s10a) hx2 kAB (by decide) 8;unfold PutPost at HP2;rw [put10b]at HP2;have HP2:=Lib.hid HP2;clear HP1 hx2 hm2
 go_wp2_with fail
 refine HP2.out.mono ?_;rintro e w3⟨rfl,F3,hx3,hm3⟩;have HB3:=Lib.hid (HB2.out.trans (hm3.touch.below HB2.out.size HF2.out));have HF3:Hid (∀b,F3 b→w.heap.size≤b):=Lib.hid (fun b hb=>(hm3.own b hb).elim (HF2.out b) (fun h=>Nat.le_trans HB2.out.size h));have HP3:=put_index (s:=s10b) hx3 kQ (by decide) 9;unfold PutPost at HP3;rw [put10c]at HP3;have HP3:=Lib.hid HP3;clear HP2 hx3 hm3
 go_wp2_with fail
 refine HP3.out.mono ?_;rintro e w4⟨rfl,F4,hx4,hm4⟩;have HB4:=Lib.hid (HB3.out.trans (hm4.touch.below HB3.out.size HF3.out));have HF4:Hid (∀b,F4 b→w.heap.size≤b):=Lib.hid (fun b hb=>(hm4.own b hb).elim (HF3.out b) (fun h=>Nat.le_trans HB3.out.size h));have HX4:Hid (Ix w4 x d p 100 s10c F4):=Lib.hid hx4;have HG:=get_index HX4.out kA (by decide);unfold GetPost at HG;rw [get10c]at HG;have HG:=Lib.hid HG;clear HP3 hx4 hm4
 go_wp2_with fail
 refine HG.out.mono ?_;rintro e w5⟨rfl,hb5⟩;have HB5:=Lib.hid (HB4.out.trans (hb5.mono HB4.out.size));have HX5:=Lib.hid (HX4.out.below hb5);have HAl:=Lib.hid (allK_own HX5.out);clear HG hb5 HX4
 go_wp2_with fail
 refine HAl.out.mono ?_;rintro e w6⟨hb6,hp6⟩;rw [all10]at hp6;obtain⟨A6,c6,he6,hc6,hr6,_,hn6⟩:=(hp6:∃A c,e= .returned (.tuple #[.slice A [i10a,i10b,i10c].length c,.int .i64 0])∧[i10a,i10b,i10c].length≤c∧ItR w6 A [i10a,i10b,i10c]∧[i10a,i10b,i10c].length≤65537∧∀a,A=some a→w5.heap.size≤a.block);rw [show [i10a,i10b,i10c].length=3 from rfl]at he6;subst he6;have HB6:=Lib.hid (HB5.out.trans (hb6.mono HB5.out.size));have HX6:=Lib.hid (HX5.out.below hb6);obtain⟨b,off,rfl,hbl,q1,q2⟩:=hr6.at 1 (by decide);rw [show [i10a,i10b,i10c][1].k=⟨#[97,98]⟩from rfl,Nat.one_mul]at q1;rw [show([i10a,i10b,i10c][1].v.toNat:Int)=8 from rfl,Nat.one_mul]at q2;have hnb:=hn6 _ rfl;simp only at hnb;have hFb:¬F4 b:=fun h=>by have:=HX5.out.sys.lt _ h;omega
 have HCt:=cut_index HX6.out kA (by decide) (fun way rest last h1 h2 _ _=>by
  have:=kids10;rw [h1]at this;simp only [Option.bind_some]at this;rw [h2]at this;simp only [Option.map_some,Option.some.injEq]at this;omega)
 unfold CutPost at HCt;rw [cut10]at HCt;have HCt:=Lib.hid HCt;have hs10d:(cutK s10c kA.data.toList).1=s10d:=rfl;rw [hs10d]at HCt;have HQ1:=Lib.hid q1;have HQ2:=Lib.hid q2;have HFb:=Lib.hid hFb;have hbl':=Lib.hid hbl;clear HAl hb6 hr6 hn6 hnb HX5 q1 q2 hFb hbl hs10d
 go_wp2_with fail
 refine HCt.out.mono ?_;rintro e w7⟨rfl,F7,hx7,hm7⟩;have HB7:=Lib.hid (HB6.out.trans (hm7.touch.below HB6.out.size HF4.out));have r1:=(World.cell?_of_block (a:=⟨b,off+2,none⟩) (hm7.touch.block b hbl'.out HFb.out)).trans HQ1.out;have r2:=(World.cell?_of_block (a:=⟨b,off+2+1,none⟩) (hm7.touch.block b hbl'.out HFb.out)).trans HQ2.out;have hbl7:b<w7.heap.size:=Nat.lt_of_lt_of_le hbl'.out hm7.touch.size;have HX7:=Lib.hid hx7;have HG2:=get_index hx7 kA (by decide);unfold GetPost at HG2;rw [get10d]at HG2;have HG2:=Lib.hid HG2;have HR1:=Lib.hid r1;have HR2:=Lib.hid r2;have HL7:=Lib.hid hbl7;clear HCt hx7 hm7 HX6 r1 r2 hbl7 HQ1 HQ2
 go_wp2_with fail
 refine HG2.out.mono ?_;rintro e w8⟨rfl,hb8⟩;have HB8:=Lib.hid (HB7.out.trans (hb8.mono HB7.out.size));have HX8:=Lib.hid (HX7.out.below hb8);have HN:=Lib.hid (nodes_index HX8.out);have HW78:=Lib.hid hb8;clear HG2 hb8 HX7
 go_wp2_with fail
 refine HN.out.mono ?_;rintro e w9⟨hb9,hp9⟩;have hn10:=nodes10;cases hsv:surveyP s10d with
 | none=>rw [hsv]at hn10;cases hn10
 | some im=>
   obtain⟨i9,m9⟩:=im;rw [hsv]at hn10 hp9;simp only [Option.map_some,Option.some.injEq]at hn10;obtain⟨v9,rfl,ho9,_⟩:=hp9;have hv9:∃A c,v9= .slice A m9.length c:=by
    rcases ho9.2 with⟨h1,h2⟩| ⟨g,cap,cur,h1,_⟩
    ·exact⟨none,0,by rw [h1,h2]⟩
    ·exact⟨_,_,h1⟩
   obtain⟨A9,c9,rfl⟩:=hv9;rw [hn10];have HB9:=Lib.hid (HB8.out.trans (hb9.mono HB8.out.size));have HX9:=Lib.hid (HX8.out.below hb9);have hb79:=HW78.out.trans (hb9.mono HW78.out.size);have HPA:Hid (Calls Tryz.prog 18 #[.pointer (some ⟨p,0,none⟩)] w9 fun e w'=>∃v,e= .returned v∧w'.ownsRow w9.heap.size 3 1 v (allP s10d).length (nvs (allP s10d))∧Below w9.heap.size w9 w'):=Lib.hid (by
    obtain⟨tb,hb',n,cT,cH,own,h,_⟩:=HX9.out.sys;exact all_pool h.at)
   have r1:=(hb79.cell (p:=⟨b,off+2,none⟩) HL7.out).trans HR1.out;have r2:=(hb79.cell (p:=⟨b,off+2+1,none⟩) HL7.out).trans HR2.out;have hm:Tryz.prog.eqGuardType Tryz.prog.depth 61=false:=by kernel_rfl
   have hq:=fun W=>Tryz.eqIdx ⟨#[97,98]⟩ ⟨#[97,98]⟩ 8 8 W
   rw [show(((⟨#[97,98]⟩:ByteArray).toList==(⟨#[97,98]⟩:ByteArray).toList)&&(8:Int)==8)=true by simp]at hq;generalize(allP s10d).length=na at*;clear HN hsv hn10 ho9 hb9 HX8 HX9 HR1 HR2 hb79
   go_wp2_with fail
   refine HPA.out.mono ?_;rintro e w10⟨v10,rfl,ho10,hb10⟩;have hv10:∃A c,v10= .slice A na c:=by
    rcases ho10.2 with⟨h1,h2⟩| ⟨g,cap,cur,h1,_⟩
    ·exact⟨none,0,by rw [h1,h2]⟩
    ·exact⟨_,_,h1⟩
   obtain⟨A10,c10,rfl⟩:=hv10;have HB10:=Lib.hid (HB9.out.trans (hb10.mono HB9.out.size));clear HPA ho10 hb10
   go_wp2_with fail
   go_ret;exact⟨rfl,HB10.out⟩
end Go.Proofs.YtdjfbnoolfpcnaaGreatDoor
