import Derived.Test.YtdjfbnoolfpcnaaGreatDoorRows
import Derived.Deep.AppendLies
import Derived.Deep.RegionLaw
import Derived.Outline
import Derived.Test.YtdjfbnoolfpcnaaGreatDoorG01
namespace Go.Proofs.YtdjfbnoolfpcnaaGreatDoor
open Go.RowKit
theorem Tryz.bytesTy:RowTy Tryz.prog 26 5 (.int .u8 0) 1:=⟨Tryz.underlying26,by kernel_rfl,rfl⟩
theorem Tryz.infoByte:(Tryz.prog.info? 5).map (fun i=>(i.zero,i.size,i.bytes))=some (some (.int .u8 0),1,1):=by kernel_rfl
theorem Tryz.wordsTy:RowTy Tryz.prog 70 23 (.int .u64 0) 8:=⟨Tryz.underlying70,by kernel_rfl,rfl⟩
set_option maxHeartbeats 400000 in
theorem cloneW_any (A : Option Addr) (n c : Nat) (l : List UInt64) (w : World) (hn : n ≤ 1000000) (h : Ws w A n l) :
    Calls Tryz.prog 115 #[.slice A n c] w fun e w' => ∃ v, e = .returned v ∧ w'.ownsRow w.heap.size 23 1 v n (l.map wv) ∧ Below w.heap.size w w' := by
  have hlen := h.len
  rcases A with _ | ad
  · have hn0 : n = 0 := by
      rcases Nat.eq_zero_or_pos n with h0 | h0
      · exact h0
      · obtain ⟨_, _, e, _⟩ := h.2 h0; cases e
    subst hn0
    have hl : l = [] := List.eq_nil_of_length_eq_zero hlen
    subst hl
    have q1 := fun W => Lib.run_eql_slice_nil (P := Tryz.prog) W 70 23 none 0 c 0 0 Tryz.underlying70
    go_enter Tryz.func115, Tryz.ntmps115
    go_wp2
    go_ret
    exact ⟨_, rfl, World.ownsRow_nil _ _ _ _, Below.refl _ _⟩
  · have q1 := fun W => Lib.run_eql_slice_nil (P := Tryz.prog) W 70 23 (some ad) n c 0 0 Tryz.underlying70
    go_enter Tryz.func115, Tryz.ntmps115
    go_wp2_with (at_builtin; refine wpList_app_rd rfl (.tmp 5) (.tmp 6) 70 rfl Tryz.wordsTy w.heap.size (.slice (some ⟨w.heap.size, 0, none⟩) 0 0) 0 [] (l.map wv) rfl (World.ownsRow_made w #[] 0 (Nat.le_refl _) (by decide) rfl) (some ad) n c rfl (h.below ((Below.refl _ _).alloc (Nat.le_refl _) _)) (oneCell_wv _) (by omega) (by decide) (by simp) ?_; intro v2 w2 hown2 hb2)
    go_ret
    exact ⟨v2, rfl, by simpa using hown2, ((Below.refl _ _).alloc (Nat.le_refl _) _).trans hb2⟩
set_option maxHeartbeats 400000 in
theorem cloneB_any (A : Option Addr) (n c : Nat) (l : List UInt8) (w : World) (hn : n ≤ 1000000) (h : Bs w A n l) :
    Calls Tryz.prog 114 #[.slice A n c] w fun e w' => ∃ v, e = .returned v ∧ w'.ownsRow w.heap.size 5 1 v n (l.map bv) ∧ Below w.heap.size w w' := by
  have hlen := h.len
  rcases A with _ | ad
  · have hn0 : n = 0 := by
      rcases Nat.eq_zero_or_pos n with h0 | h0
      · exact h0
      · obtain ⟨_, _, e, _⟩ := h.2 h0; cases e
    subst hn0
    have hl : l = [] := List.eq_nil_of_length_eq_zero hlen
    subst hl
    have q1 := fun W => Lib.run_eql_slice_nil (P := Tryz.prog) W 26 5 none 0 c 0 0 Tryz.underlying26
    go_enter Tryz.func114, Tryz.ntmps114
    go_wp2
    go_ret
    exact ⟨_, rfl, World.ownsRow_nil _ _ _ _, Below.refl _ _⟩
  · have q1 := fun W => Lib.run_eql_slice_nil (P := Tryz.prog) W 26 5 (some ad) n c 0 0 Tryz.underlying26
    go_enter Tryz.func114, Tryz.ntmps114
    go_wp2_with (at_builtin; refine wpList_app_rd rfl (.tmp 5) (.tmp 6) 26 rfl Tryz.bytesTy w.heap.size (.slice (some ⟨w.heap.size, 0, none⟩) 0 0) 0 [] (l.map bv) rfl (World.ownsRow_made w #[] 0 (Nat.le_refl _) (by decide) rfl) (some ad) n c rfl (h.below ((Below.refl _ _).alloc (Nat.le_refl _) _)) (oneCell_bv _) (by omega) (by decide) (by simp) ?_; intro v2 w2 hown2 hb2)
    go_ret
    exact ⟨v2, rfl, by simpa using hown2, ((Below.refl _ _).alloc (Nat.le_refl _) _).trans hb2⟩
set_option maxHeartbeats 400000 in
theorem right_any(A:Option Addr)(n c:Nat)(l:List UInt8)(w:World)(hn:n≤4294967296)(h:Bs w A n l):
 Calls Tryz.prog 136 #[.slice A n c] w fun e w'=>e= .returned (.bool (l.all isNib))∧w=w':=by
 have hlen:=h.len;go_enter Tryz.func136,Tryz.ntmps136;go_wp2
 go_loop [7](fun i=>∃k:Nat,k≤n∧i= .int .i64 k∧(l.take k).all isNib=true)(fun i=>n- (intOf i).toNat)
 case atStart=>exact⟨0,Nat.zero_le _,rfl,by simp⟩
 case round=>
  obtain⟨k,hk,rfl,hall⟩:=hrel;by_cases hlt:k<n
  ·obtain⟨hl,b,off,rfl,hb,hc⟩:=h.at hlt;by_cases h16:l[k].toNat<16
   ·have HS:=Lib.hid (all_take_succ isNib l k hl hall (isNib_yes h16));clear hall;go_wp2
    go_round
    case rel=>exact⟨k+1,by omega,by go_num,HS.out⟩
    case measure=>simp [intOf];omega
   ·have HS:=Lib.hid (all_false_of_get isNib l k hl (isNib_no h16));clear hall;go_wp2;go_ret;exact⟨by rw [HS.out];rfl,rfl⟩
  ·have hkn:k=n:=by omega
   subst hkn;go_wp2;go_ret;exact⟨ret_congr (by rw [←hlen]at hall;simpa using hall),rfl⟩
set_option maxHeartbeats 400000 in
theorem of_any(s:ByteArray)(w:World)(hs:s.size≤1000000):
 Calls Tryz.prog 43 #[.string s] w fun e w'=>∃v,e= .returned v∧w'.ownsRow w.heap.size 5 1 v (2*s.size) ((nibs s.data.toList).map bv)∧Below w.heap.size w w':=by
 obtain⟨i0,hi,hz0,hz1,hz2⟩:=info_parts Tryz.infoByte;go_enter Tryz.func43,Tryz.ntmps43
 go_wp2_with(at_make;refine wpList_make_own _ rfl _ _ 26 rfl w.heap.size 5 i0 (.int .u8 0) 1 Tryz.underlying26 hi hz0 hz1 .i64 .i64 _ (2*s.size) rfl rfl (by simp) (by rw [hz2];omega) (by unfold maxLen;omega) (Nat.le_refl _) ?_;intro w0 hown0 hgrow0)
 have hb0:Below w.heap.size w w0:=(Below.refl _ _).grown hgrow0 (Nat.le_refl _) (by simp);clear hgrow0
 go_loopw [3,11](fun v i wr=>∃k:Nat,k≤s.size∧i= .int .i64 k∧wr.ownsRow w.heap.size 5 1 v (2*k) ((nibs (s.data.toList.take k)).map bv)∧Below w.heap.size w wr)(fun _ i _=>s.size- (intOf i).toNat)
 case atStart=>exact⟨0,Nat.zero_le _,rfl,by simpa [nibs]using hown0,hb0⟩
 case round=>
  obtain⟨k,hk,rfl,hown,hb⟩:=hrel;clear hown0;have hsz:=hb.size;by_cases hlt:k<s.size
  ·have hl:k<s.data.toList.length:=by simpa using hlt
   have HS:=Lib.hid (nibs_take_succ_str s k hlt);go_wp2
   go_region_law(refine step_app_new rfl (.tmp 14) (.tmp 23) 26 rfl Tryz.bytesTy wr w.heap.size u3 (2*k) ((nibs (s.data.toList.take k)).map bv) [Value.int .u8 (IntKind.u8.wrap (↑s[k].toNat/16)),Value.int .u8 ((↑s[k].toNat:Int).tmod 16)] (by simp [Act.eval]) hown rfl rfl rfl rfl 2 2 (by simp [Act.eval]) rfl (by simp [Value.oneCell']) (by simp;omega) (by decide) hsz ?_;intro v2 w2 hown2 hb')
   all_goals
    have hb2:=hb.trans hb';rw [bv_div',bv_mod']at hown2;clear hown hb hb';go_wp2;go_roundw
    case rel=>exact⟨k+1,by omega,by go_num,by rw [HS.out,List.map_append];exact hown2,hb2⟩
    case measure=>simp [intOf];omega
  ·have hkn:k=s.size:=by omega
   subst hkn;go_wp2;go_ret;exact⟨_,rfl,by rw [List.take_of_length_le (by simp)]at hown;exact hown,hb⟩
set_option maxHeartbeats 400000 in
theorem common_any(A B:Option Addr)(n m ca cb:Nat)(a b:List UInt8)(w:World)(hn:n≤4294967296)(_hm:m≤4294967296)(ha:Bs w A n a)(hb:Bs w B m b):
 Calls Tryz.prog 46 #[.slice A n ca,.slice B m cb] w fun e w'=>e= .returned (.int .i64 (common a b:Nat))∧Dr w w':=by
 have hla:=ha.len;have hlb:=hb.len;go_enter Tryz.func46,Tryz.ntmps46;go_wp2
 go_loopw [5](fun i wr=>∃k:Nat,k≤n∧i= .int .i64 k∧alike k a b∧Dr w wr)(fun i _=>n- (intOf i).toNat)
 case atStart=>exact⟨0,Nat.zero_le _,rfl,alike_zero _ _,Dr.refl _⟩
 case round=>
  obtain⟨k,hk,rfl,hal,q,rfl⟩:=hrel;have hkm:=hal.2.1;by_cases hlt:k<n
  ·obtain⟨hl,p,off,rfl,hp,hc⟩:=ha.at hlt;by_cases hlt2:k<m
   ·obtain⟨hl2,p2,off2,rfl,hp2,hc2⟩:=hb.at hlt2;by_cases he:a[k]=b[k]
    ·have HS:=Lib.hid (alike_succ hal hl hl2 he);have hbq:=u8_beq_true he;clear hal he;go_wp2
     go_quiet(fail)
     go_wp2;go_roundw
     case rel=>exact⟨k+1,by omega,by go_num,HS.out,by first| exact Dr.one _ _| exact Dr.two _ _ _⟩
     case measure=>simp [intOf];omega
    ·have HS:=Lib.hid (common_eq_of_ne hal hl hl2 he);have hbq:=u8_beq_false he;clear hal he;go_wp2
     go_quiet(fail)
     go_wp2;go_ret;exact⟨by rw [HS.out];rfl,by first| exact Dr.one _ _| exact Dr.two _ _ _⟩
   ·have HS:=Lib.hid (common_eq_of_right hal (by omega));have hd:decide (k<m)=false:=by simpa using hlt2
    clear hal;go_wp2
    go_quiet(fail)
    go_wp2;go_ret;exact⟨by rw [HS.out];rfl,by first| exact Dr.one _ _| exact Dr.two _ _ _⟩
  ·have HS:=Lib.hid (common_eq_of_left hal (by omega));have hd:decide (k<n)=false:=by simpa using hlt
   clear hal;go_wp2
   go_quiet(fail)
   go_wp2;go_ret;exact⟨by rw [HS.out];rfl,by first| exact Dr.one _ _| exact Dr.two _ _ _⟩
set_option maxHeartbeats 400000 in
theorem pack_any(A:Option Addr)(n c:Nat)(l:List UInt8)(w:World)(hn:n≤15)(h:Bs w A n l)(hnib:l.all isNib=true):
 Calls Tryz.prog 112 #[.slice A n c] w fun e w'=>e= .returned (.tuple #[.int .u64 ((n+16*packN l:Nat):Int),.bool true])∧w=w':=by
 have hlen:=h.len;have hr:=right_any A n c l w (by omega) h;rw [hnib]at hr;go_enter Tryz.func112,Tryz.ntmps112
 go_wp2_with(go_at_call 136;refine hr.mono ?_;rintro e w'⟨rfl,rfl⟩)
 go_loop [4,20](fun v i=>∃k:Nat,k≤n∧i= .int .i64 k∧v= .int .u64 ((n+16*packN (l.take k):Nat):Int))(fun _ i=>n- (intOf i).toNat)
 case atStart=>exact⟨0,Nat.zero_le _,rfl,by simp [packN]⟩
 case round=>
  obtain⟨k,hk,rfl,rfl⟩:=hrel;by_cases hlt:k<n
  ·obtain⟨hl,b,off,rfl,hb,hc⟩:=h.at hlt;have HS:=Lib.hid (pack_step l n k hn hlt hl hnib);clear hr hnib;go_wp2
   go_round
   case rel=>exact⟨k+1,by omega,by go_num,HS.out⟩
   case measure=>simp [intOf];omega
  ·have hkn:k=n:=by omega
   subst hkn;go_wp2;go_ret2;exact⟨by simp [←hlen],rfl⟩
theorem pack_big(A:Option Addr)(n c:Nat)(w:World)(hn:15<n)(hn2:n≤4294967296):
 Calls Tryz.prog 112 #[.slice A n c] w fun e w'=>e= .returned (.tuple #[.int .u64 0,.bool false])∧w=w':=by
 go_enter Tryz.func112,Tryz.ntmps112;go_wp2;go_ret2;exact⟨rfl,rfl⟩
theorem pack_no(A:Option Addr)(n c:Nat)(l:List UInt8)(w:World)(hn:n≤15)(h:Bs w A n l)(hnib:l.all isNib=false):
 Calls Tryz.prog 112 #[.slice A n c] w fun e w'=>e= .returned (.tuple #[.int .u64 0,.bool false])∧w=w':=by
 have hr:=right_any A n c l w (by omega) h;rw [hnib]at hr;go_enter Tryz.func112,Tryz.ntmps112
 go_wp2_with(go_at_call 136;refine hr.mono ?_;rintro e w'⟨rfl,rfl⟩)
 go_ret2;exact⟨rfl,rfl⟩
def UnpackPost(x:Nat)(w:World)(e:Ending)(w':World):Prop:=
 Below w.heap.size w w'∧(if x/16/16^(x%16)=0 then∃v,e= .returned (.tuple #[v,.bool true])∧w'.ownsRow w.heap.size 5 1 v (x%16) ((digits (x%16) (x/16)).map bv)
  else e= .returned (.tuple #[.slice none 0 0,.bool false]))
set_option maxHeartbeats 400000 in
theorem unpack_any(x:Nat)(w:World)(hx:x<18446744073709551616):
 Calls Tryz.prog 111 #[.int .u64 (x:Int)] w (UnpackPost x w):=by
 obtain⟨i0,hi,hz0,hz1,hz2⟩:=info_parts Tryz.infoByte;have hm:x%16<16:=Nat.mod_lt _ (by decide);go_enter Tryz.func111,Tryz.ntmps111
 go_wp2_with(at_make;refine wpList_make_full _ rfl _ _ 26 rfl w.heap.size 5 i0 (.int .u8 0) 1 Tryz.underlying26 hi hz0 hz1 .i64 .i64 _ _ (x%16) rfl rfl (by simp) (by simp) (by rw [hz2];omega) (by unfold maxLen;omega) (Nat.le_refl _) ?_;intro w0 hown0 hgrow0)
 rw [made_bytes]at hown0;have hb0:Below w.heap.size w w0:=(Below.refl _ _).grown hgrow0 (Nat.le_refl _) (by simp);clear hgrow0;obtain⟨m,hmm⟩:∃m,m=x%16:=⟨_,rfl⟩;obtain⟨y,hyy⟩:∃y,y=x/16:=⟨_,rfl⟩;have em:((x:Int)%16)=(m:Int):=by omega
 have ey:((x:Int)/16)=(y:Int):=by omega
 have hy:y<18446744073709551616:=by omega
 have HM:=Lib.hid hmm;have HY:=Lib.hid hyy;rw [em,ey,←hmm];rw [←hmm]at hown0 hm;clear em ey hmm hyy
 go_loopw [0,16](fun v i wr=>∃k:Nat,k≤m∧i= .int .i64 k∧v= .int .u64 ((y/16^k:Nat):Int)∧wr.ownsRow w.heap.size 5 1 (.slice (some ⟨w.heap.size,0,none⟩) m m) m ((digits k y++List.replicate (m-k) (0:UInt8)).map bv)∧Below w.heap.size w wr)(fun _ i _=>m- (intOf i).toNat)
 case atStart=>exact⟨0,Nat.zero_le _,rfl,by simp,by simpa [digits]using hown0,hb0⟩
 case round=>
  clear hown0 hb0;obtain⟨k,hk,rfl,rfl,hown,hb⟩:=hrel;obtain⟨z,hz⟩:∃z,z=y/16^k:=⟨_,rfl⟩;have hzl:z<18446744073709551616:=by rw [hz];exact Nat.lt_of_le_of_lt (Nat.div_le_self _ _) hy
  by_cases hlt:k<m
  ·have hst:=digits_store k m y hlt;have hpw:((z:Int)/16)=((y/16^(k+1):Nat):Int):=by rw [Nat.pow_succ,←Nat.div_div_eq_div_mul,←hz];simp
   rw [←hz]at hst⊢;have HS:=Lib.hid hst;have HP:=Lib.hid hpw;clear hst hpw hz;obtain⟨u,hu⟩:=own_cell hown hlt;have hf:=hown.frozenAt k;have hown2:=(hown.stored k (bv (UInt8.ofNat (z%16)))).1;have hb2:=hb.setCell (p:=⟨w.heap.size,k,none⟩) (Nat.le_refl _) (bv (UInt8.ofNat (z%16)));rw [HS.out,←bv_of16]at hown2;rw [←bv_of16]at hb2;clear hown hb;go_wp2;go_roundw
   case rel=>exact⟨k+1,by omega,by go_num,by rw [HP.out],hown2,hb2⟩
   case measure=>simp [intOf];omega
  ·have hkn:k=m:=by omega
   subst hkn;rw [←hz];by_cases hz0:z=0
   ·have ht:((z:Int)!=0)=false:=by simp [hz0]
    have HZ:=Lib.hid hz;have HZ0:=Lib.hid hz0;clear hz hz0;go_wp2;go_ret2;refine⟨hb,?_⟩;rw [←HM.out,←HY.out,←HZ.out,if_pos HZ0.out];exact⟨_,rfl,by simpa using hown⟩
   ·have ht:((z:Int)!=0)=true:=by simp;omega
    have HZ:=Lib.hid hz;have HZ0:=Lib.hid hz0;clear hz hz0;go_wp2;go_ret2;refine⟨hb,?_⟩;rw [←HM.out,←HY.out,←HZ.out,if_neg HZ0.out];rfl
theorem key_no (A : Option Addr) (n c : Nat) (l : List UInt8) (w : World) (hn : n ≤ 1000000) (h : Bs w A n l) (hk : keyOk l = false) :
    Calls Tryz.prog 95 #[.slice A n c] w fun e w' => e = .returned (.tuple #[.string ⟨#[]⟩, .bool false]) ∧ w = w' := by
  have hlen := h.len
  have hr := right_any A n c l w (by omega) h
  by_cases h2 : n % 2 = 0
  · have hnib : l.all isNib = false := by
      simpa [keyOk, hlen, h2] using hk
    rw [hnib] at hr
    have t1 : ((n : Int) % 2 != 0) = false := by simp; omega
    clear hk hnib h2
    go_enter Tryz.func95, Tryz.ntmps95
    go_wp2_with (go_at_call 136; refine hr.mono ?_; rintro e w' ⟨rfl, rfl⟩)
    go_ret2
    exact ⟨rfl, rfl⟩
  · have t1 : ((n : Int) % 2 != 0) = true := by simp; omega
    clear hk h2 hr
    go_enter Tryz.func95, Tryz.ntmps95
    go_wp2
    go_ret2
    exact ⟨rfl, rfl⟩
set_option maxHeartbeats 400000 in
theorem key_yes(A:Option Addr)(n c:Nat)(l:List UInt8)(w:World)(hn:n≤1000000)(h:Bs w A n l)(hk:keyOk l=true):
 Calls Tryz.prog 95 #[.slice A n c] w fun e w'=>e= .returned (.tuple #[.string ⟨(pairs l).toArray⟩,.bool true])∧Below w.heap.size w w':=by
 obtain⟨i0,hi,hz0,hz1,hz2⟩:=info_parts Tryz.infoByte;have hlen:=h.len;have hr:=right_any A n c l w (by omega) h;simp only [keyOk,Bool.and_eq_true,decide_eq_true_eq]at hk;rw [hk.2]at hr;have h2:n%2=0:=by omega
 obtain⟨m,hm⟩:∃m,n=2*m:=⟨n/2,by omega⟩;have hmn:m=l.length/2:=by omega
 have t1:((n:Int)%2 !=0)=false:=by simp;omega
 have em:((n:Int)/2)=(m:Int):=by omega
 have HM:=Lib.hid hm;have HMN:=Lib.hid hmn;have hm1:m≤n:=by omega
 clear hk h2 hm hmn;go_enter Tryz.func95,Tryz.ntmps95
 go_wp2_with(first| (go_at_call 136;refine hr.mono ?_;rintro e w'⟨rfl,rfl⟩)| (at_make;refine wpList_make_full _ rfl _ _ 26 rfl w.heap.size 5 i0 (.int .u8 0) 1 Tryz.underlying26 hi hz0 hz1 .i64 .i64 _ _ m rfl rfl (by rfl) (by rfl) (by rw [hz2];omega) (by unfold maxLen;omega) (Nat.le_refl _) ?_;intro w0 hown0 hgrow0))
 rw [made_bytes]at hown0;have hb0:Below w.heap.size w w0:=(Below.refl _ _).grown hgrow0 (Nat.le_refl _) (by simp);clear hgrow0 hr
 go_loopw [21](fun i wr=>∃k:Nat,k≤m∧i= .int .i64 k∧wr.ownsRow w.heap.size 5 1 (.slice (some ⟨w.heap.size,0,none⟩) m m) m ((pairs (l.take (2*k))++List.replicate (m-k) (0:UInt8)).map bv)∧Below w.heap.size w wr)(fun i _=>m- (intOf i).toNat)
 case atStart=>exact⟨0,Nat.zero_le _,rfl,by simpa [pairs]using hown0,hb0⟩
 case round=>
  clear hown0 hb0;obtain⟨k,hk,rfl,hown,hb⟩:=hrel;by_cases hlt:k<m
  ·have hm:=HM.out;have hwr:=h.below hb;obtain⟨hl1,b,off,rfl,hp,hc1⟩:=Bs.at hwr (show 2*k<n by omega);obtain⟨hl2,b',off',e',_,hc2⟩:=Bs.at hwr (show 2*k+1<n by omega);injection e' with e'
   injection e' with e1 e2 e3
   subst e1 e2;have hnn:2*k+1<n:=by omega
   obtain⟨u,hu⟩:=own_cell hown hlt;have hf:=hown.frozenAt k;have hown2:=(hown.stored k (bv (l[2*k]*16+l[2*k+1]))).1;have hb2:=hb.setCell (p:=⟨w.heap.size,k,none⟩) (Nat.le_refl _) (bv (l[2*k]*16+l[2*k+1]));rw [pairs_store l k m hlt hl2 HMN.out]at hown2;have HO:=Lib.hid hown2;have HB:=Lib.hid hb2;clear hown hb hown2 hb2 hm hwr e3;go_wp2;go_region;go_wp2;go_roundw
   case rel=>
    refine⟨k+1,by omega,by go_num,?_,?_⟩
    ·rw [bv_pair];exact HO.out.drew
    ·rw [bv_pair];exact HB.out.drew
   case measure=>simp [intOf];omega
  ·have hkn:k=m:=by omega
   subst hkn;simp only [Nat.sub_self,List.replicate_zero,List.append_nil]at hown;have hall:pairs (l.take (2*k))=pairs l:=by rw [HMN.out];exact pairs_take_all l
   rw [hall]at hown;obtain⟨A',c',hv,_,hrd⟩:=rd_of_own hown;injection hv with hv1 hv2 hv3
   subst hv1;have hcv:=run_string_of_bs (P:=Tryz.prog) Tryz.underlying26 Tryz.underlying5 Tryz.underlying9 hrd k;clear hall hown hv3 hrd hv2;go_wp2;go_ret2;exact⟨rfl,hb⟩
theorem box4(w:World)(t:TypeId)(a b c d:Value):∃W,W=w.alloc (.cells #[a,b,c,d] t)∧W.cell? ⟨w.heap.size,0,none⟩=some a∧W.cell? ⟨w.heap.size,1,none⟩=some b∧W.cell? ⟨w.heap.size,2,none⟩=some c∧
 W.cell? ⟨w.heap.size,3,none⟩=some d∧Below w.heap.size w W∧W.heap.size=w.heap.size+1:=by
 refine⟨_,rfl,?_,?_,?_,?_,(Below.refl _ _).alloc (Nat.le_refl _) _,by simp⟩<;>
 ·rw [cell_of_row _ w.heap.size _ _ t (0,0) (heap_alloc_new w _)];rfl
theorem lines_any(c:Int)(w:World):Calls Tryz.prog 67 #[.int .i64 c] w fun e w'=>e= .returned (.int .i64 (if c=1 then 1 else if c=2 then 4 else 0))∧w=w':=by
 by_cases h1:c=1
 ·subst h1;go_enter Tryz.func67,Tryz.ntmps67;go_wp2;go_ret;exact⟨rfl,rfl⟩
 ·by_cases h2:c=2
  ·subst h2;go_enter Tryz.func67,Tryz.ntmps67;go_wp2;go_ret;exact⟨rfl,rfl⟩
  ·have t1:(c==1)=false:=by simp [h1]
   have t2:(c==2)=false:=by simp [h2]
   rw [if_neg h1,if_neg h2];go_enter Tryz.func67,Tryz.ntmps67;go_wp2;go_ret;exact⟨rfl,rfl⟩
def wordsN(c:Int):Int:=if c=1 then 8 else if c=2 then 32 else 0
theorem words_any(c:Int)(w:World):Calls Tryz.prog 73 #[.int .i64 c] w fun e w'=>e= .returned (.int .i64 (wordsN c))∧w=w':=by
 have hl:=lines_any c w;have hv:(8*(if c=1 then 1 else if c=2 then 4 else 0):Int)=wordsN c:=by unfold wordsN;split<;>(try split)<;>rfl
 have hb:(0:Int)≤(if c=1 then 1 else if c=2 then 4 else 0)∧(if c=1 then 1 else if c=2 then 4 else 0:Int)≤4:=by split<;>(try split)<;>decide
 generalize(if c=1 then 1 else if c=2 then 4 else 0:Int)=r at*;obtain⟨hb1,hb2⟩:=hb;have HV:=Lib.hid hv;clear hv;go_enter Tryz.func73,Tryz.ntmps73
 go_wp2_with(go_at_call 67;refine hl.mono ?_;rintro e w'⟨rfl,rfl⟩)
 go_ret;exact⟨by rw [←HV.out];rfl,rfl⟩
set_option maxHeartbeats 400000 in
theorem indexB_any(A:Option Addr)(n c:Nat)(l:List UInt8)(x:UInt8)(w:World)(hn:n≤4294967296)(h:Bs w A n l):
 Calls Tryz.prog 76 #[.slice A n c,.int .u8 (x.toNat:Int)] w fun e w'=>e= .returned (.int .i64 (placeOf (fun y=>y.toNat==x.toNat) l))∧w=w':=by
 have hlen:=h.len;go_enter Tryz.func76,Tryz.ntmps76;go_wp2
 go_loop [8](fun i=>∃k:Nat,k≤n∧i= .int .i64 k∧∀j(h:j<l.length),j<k→(l[j].toNat==x.toNat)=false)(fun i=>n- (intOf i).toNat)
 case atStart=>exact⟨0,Nat.zero_le _,rfl,fun j _ hj=>absurd hj (by omega)⟩
 case round=>
  obtain⟨k,hk,rfl,hno⟩:=hrel;by_cases hlt:k<n
  ·obtain⟨hl,b,off,rfl,hb,hc⟩:=h.at hlt;by_cases he:l[k].toNat=x.toNat
   ·have t1:((x.toNat:Int)==(l[k].toNat:Int))=true:=by simp [he]
    have HP:=Lib.hid (placeOf_hit (fun y:UInt8=>y.toNat==x.toNat) l k hl (fun j hj=>hno j (by omega) hj) (by simp [he]));clear hno he;go_wp2;go_ret;exact⟨by rw [HP.out];rfl,rfl⟩
   ·have t1:((x.toNat:Int)==(l[k].toNat:Int))=false:=by simp;omega
    have HN:Hid (∀j(h:j<l.length),j<k+1→(l[j].toNat==x.toNat)=false):=Lib.hid fun j hj hjk=>by
     by_cases e:j=k
     ·subst e;simp [he]
     ·exact hno j hj (by omega)
    clear hno he;go_wp2
    go_round
    case rel=>exact⟨k+1,by omega,by go_num,HN.out⟩
    case measure=>simp [intOf];omega
  ·have hkn:k=n:=by omega
   subst hkn;have HP:=Lib.hid (placeOf_miss (fun y:UInt8=>y.toNat==x.toNat) l (fun j hj=>hno j hj (by omega)));clear hno;go_wp2;go_ret;exact⟨by rw [HP.out];rfl,rfl⟩
set_option maxHeartbeats 400000 in
theorem indexW_any(A:Option Addr)(n c:Nat)(l:List UInt64)(x:UInt64)(w:World)(hn:n≤4294967296)(h:Ws w A n l):
 Calls Tryz.prog 152 #[.slice A n c,.int .u64 (x.toNat:Int)] w fun e w'=>e= .returned (.int .i64 (placeOf (fun y=>y.toNat==x.toNat) l))∧w=w':=by
 have hlen:=h.len;go_enter Tryz.func152,Tryz.ntmps152;go_wp2
 go_loop [8](fun i=>∃k:Nat,k≤n∧i= .int .i64 k∧∀j(h:j<l.length),j<k→(l[j].toNat==x.toNat)=false)(fun i=>n- (intOf i).toNat)
 case atStart=>exact⟨0,Nat.zero_le _,rfl,fun j _ hj=>absurd hj (by omega)⟩
 case round=>
  obtain⟨k,hk,rfl,hno⟩:=hrel;by_cases hlt:k<n
  ·obtain⟨hl,b,off,rfl,hb,hc⟩:=h.at hlt;by_cases he:l[k].toNat=x.toNat
   ·have t1:((x.toNat:Int)==(l[k].toNat:Int))=true:=by simp [he]
    have HP:=Lib.hid (placeOf_hit (fun y:UInt64=>y.toNat==x.toNat) l k hl (fun j hj=>hno j (by omega) hj) (by simp [he]));clear hno he;go_wp2;go_ret;exact⟨by rw [HP.out];rfl,rfl⟩
   ·have t1:((x.toNat:Int)==(l[k].toNat:Int))=false:=by simp;omega
    have HN:Hid (∀j(h:j<l.length),j<k+1→(l[j].toNat==x.toNat)=false):=Lib.hid fun j hj hjk=>by
     by_cases e:j=k
     ·subst e;simp [he]
     ·exact hno j hj (by omega)
    clear hno he;go_wp2
    go_round
    case rel=>exact⟨k+1,by omega,by go_num,HN.out⟩
    case measure=>simp [intOf];omega
  ·have hkn:k=n:=by omega
   subst hkn;have HP:=Lib.hid (placeOf_miss (fun y:UInt64=>y.toNat==x.toNat) l (fun j hj=>hno j hj (by omega)));clear hno;go_wp2;go_ret;exact⟨by rw [HP.out];rfl,rfl⟩
theorem placeOf_pos{α:Type}(p:α→Bool)(l:List α):(0≤placeOf p l)↔l.any p=true:=by
 unfold placeOf;cases h:l.findIdx? p with
 | none=>
   rw [List.findIdx?_eq_none_iff]at h;constructor
   ·intro h0;simp at h0
   ·intro ha;obtain⟨x,hx,hp⟩:=List.any_eq_true.1 ha;rw [h x hx]at hp;cases hp
 | some i=>
   rw [List.findIdx?_eq_some_iff_getElem]at h;obtain⟨hi,hp,_⟩:=h;constructor
   ·intro _;exact List.any_eq_true.2 ⟨_,List.getElem_mem hi,hp⟩
   ·intro _;exact Int.natCast_nonneg i
theorem placeOf_range{α:Type}(p:α→Bool)(l:List α): -1≤placeOf p l∧placeOf p l<max 1 l.length:=by
 unfold placeOf;cases h:l.findIdx? p with
 | none=>simp;omega
 | some i=>
   rw [List.findIdx?_eq_some_iff_getElem]at h;obtain⟨hi,_⟩:=h;simp;omega
theorem containsW_any(A:Option Addr)(n c:Nat)(l:List UInt64)(w:World)(hn:n≤4294967296)(h:Ws w A n l):
 Calls Tryz.prog 113 #[.slice A n c,.int .u64 0] w fun e w'=>e= .returned (.bool (l.any fun y=>y.toNat==0))∧w=w':=by
 have hi:Calls Tryz.prog 152 #[.slice A n c,.int .u64 0] w fun e w'=>e= .returned (.int .i64 (placeOf (fun y=>y.toNat==0) l))∧w=w':=indexW_any A n c l 0 w hn h
 have hp:=placeOf_pos (fun y:UInt64=>y.toNat==0) l;have hr:=placeOf_range (fun y:UInt64=>y.toNat==0) l;generalize placeOf (fun y:UInt64=>y.toNat==0) l=r at*;cases ha:l.any (fun y=>y.toNat==0)with
 | true=>
   have h0:0≤r:=hp.2 ha;clear hp ha;go_enter Tryz.func113,Tryz.ntmps113
   go_wp2_with(go_at_call 152;refine hi.mono ?_;rintro e w'⟨rfl,rfl⟩)
   go_ret;exact⟨rfl,rfl⟩
 | false=>
   have h0:r<0:=by
    rcases Int.lt_or_le r 0 with h| h
    ·exact h
    ·rw [hp.1 h]at ha;cases ha
   clear hp ha;go_enter Tryz.func113,Tryz.ntmps113
   go_wp2_with(go_at_call 152;refine hi.mono ?_;rintro e w'⟨rfl,rfl⟩)
   go_ret;exact⟨by simp;omega,rfl⟩
theorem class_any(v1 v2 v3:Value)(A3:Option Addr)(n3 c3:Nat)(w:World)(hn:n3≤4294967296):
 Calls Tryz.prog 78 #[.agg #[v1,v2,v3,.slice A3 n3 c3]] w fun e w'=>e= .returned (.int .i64 (if n3≤4 then 1 else 2))∧Below w.heap.size w w':=by
 by_cases h4:n3≤4
 ·rw [if_pos h4];go_enter Tryz.func78,Tryz.ntmps78;go_wp2;go_ret;exact⟨rfl,(Below.refl _ _).alloc (Nat.le_refl _) _⟩
 ·rw [if_neg h4];go_enter Tryz.func78,Tryz.ntmps78;go_wp2;go_ret;exact⟨rfl,(Below.refl _ _).alloc (Nat.le_refl _) _⟩
set_option maxHeartbeats 1000000 in
theorem right_node (A1 A2 A3 : Option Addr) (n1 c1 n2 c2 n3 c3 : Nat) (x : Nd) (w : World) (b1 : n1 ≤ 1000000) (b2 : n2 ≤ 1000000) (b3 : n3 ≤ 1000000) (h1 : Bs w A1 n1 x.pre) (h2 : Bs w A2 n2 x.labels) (h3 : Ws w A3 n3 x.kids) :
    Calls Tryz.prog 77 #[.agg #[.slice A1 n1 c1, .int .u64 (x.val.toNat : Int), .slice A2 n2 c2, .slice A3 n3 c3]] w fun e w' => e = .returned (.bool (rightB x)) ∧ Below w.heap.size w w' := by
  have hl1 := h1.len
  have hl2 := h2.len
  have hl3 := h3.len
  obtain ⟨W, hW, e0, e1, e2, e3, hb, hs⟩ := box4 w 72 (.slice A1 n1 c1) (.int .u64 (x.val.toNat : Int)) (.slice A2 n2 c2) (.slice A3 n3 c3)
  have g1 := h1.below hb
  have g2 := h2.below hb
  have g3 := h3.below hb
  have HW := Lib.hid hW
  clear hW
  have HR := Lib.hid (rightB_iff x)
  by_cases hp : n1 ≤ 15 ∧ x.pre.all isNib = true
  · have hpk := pack_any A1 n1 c1 x.pre W hp.1 g1 hp.2
    have HPK := Lib.hid hpk
    clear hpk
    by_cases hl : n2 = n3
    · subst hl
      have t1 : ((n2 : Int) != (n2 : Int)) = false := by simp
      go_enter Tryz.func77, Tryz.ntmps77
      go_wp2_with fail
      rw [← HW.out]
      refine HPK.out.mono ?_
      rintro e w' ⟨rfl, rfl⟩
      clear HPK h1 h2 h3
      go_wp2_with fail
      go_loop [27] (fun i => ∃ k : Nat, k ≤ n2 ∧ i = .int .i64 k ∧ (x.labels.take k).all isNib = true ∧ risingB (x.labels.take k) = true) (fun i => n2 - (intOf i).toNat)
      case atStart => exact ⟨0, Nat.zero_le _, rfl, by simp, by simp [risingB]⟩
      case round =>
        obtain ⟨k, hk, rfl, hall, hris⟩ := hrel
        by_cases hlt : k < n2
        · obtain ⟨hq, p, off, rfl, hp2, hc⟩ := g2.at hlt
          by_cases h16 : x.labels[k].toNat < 16
          · have t2 : decide (16 ≤ (x.labels[k].toNat : Int)) = false := by simp; omega
            have HA := Lib.hid (all_take_succ isNib x.labels k hq hall (isNib_yes h16))
            rcases k with _ | j
            · have HS := Lib.hid (rising_take_succ x.labels 0 hq hris (fun j hj => by omega))
              have t3 : decide ((0 : Int) < 0) = false := rfl
              clear hall hris
              rw [show ((0 : Nat) : Int) = 0 from rfl]
              simp only [Nat.add_zero] at hc
              go_wp2
              go_round
              case rel => exact ⟨1, by omega, by go_num, HA.out, HS.out⟩
              case measure => simp [intOf]; omega
            · obtain ⟨hq', p', off', e', hp2', hc'⟩ := g2.at (show j < n2 by omega)
              injection e' with e'
              injection e' with e1' e2' e3'
              subst e1' e2'
              by_cases hr : x.labels[j].toNat < x.labels[j + 1].toNat
              · have t3 : decide ((x.labels[j + 1].toNat : Int) ≤ (x.labels[j].toNat : Int)) = false := by simp; omega
                have HS := Lib.hid (rising_step x.labels j hq hris hr)
                clear hall hris e3'
                go_wp2
                go_round
                case rel => exact ⟨j + 1 + 1, by omega, by go_num, HA.out, HS.out⟩
                case measure => simp [intOf]; omega
              · have t3 : decide ((x.labels[j + 1].toNat : Int) ≤ (x.labels[j].toNat : Int)) = true := by simp; omega
                have HF := Lib.hid (right_no_rise x j hq hr)
                clear hall hris e3'
                go_wp2
                go_ret
                exact ⟨by rw [HF.out]; rfl, hb⟩
          · have t2 : decide (16 ≤ (x.labels[k].toNat : Int)) = true := by simp; omega
            have HF := Lib.hid (right_no_nib x k hq h16)
            clear hall hris
            go_wp2
            go_ret
            exact ⟨by rw [HF.out]; rfl, hb⟩
        · have hkn : k = n2 := by omega
          subst hkn
          rw [← hl2, List.take_length] at hall hris
          have HF := Lib.hid (right_rest x (by omega) hp.2 (by omega) hall hris)
          have hcn := containsW_any A3 k c3 x.kids W (by omega) g3
          clear hall hris hp
          go_wp2_with (go_at_call 113; refine hcn.mono ?_; rintro e w' ⟨rfl, rfl⟩)
          go_ret
          exact ⟨by rw [HF.out]; rfl, hb⟩
    · have HF := Lib.hid (right_no_len x (by omega))
      have t1 : ((n2 : Int) != (n3 : Int)) = true := by simp; omega
      go_enter Tryz.func77, Tryz.ntmps77
      go_wp2_with fail
      rw [← HW.out]
      refine HPK.out.mono ?_
      rintro e w' ⟨rfl, rfl⟩
      clear HPK h1 h2 h3
      go_wp2_with fail
      go_ret
      exact ⟨by rw [HF.out]; rfl, hb⟩
  · have HF := Lib.hid (right_no_pre x (by rw [hl1]; exact hp))
    have hpk : Calls Tryz.prog 112 #[.slice A1 n1 c1] W fun e w' => e = .returned (.tuple #[.int .u64 0, .bool false]) ∧ W = w' := by
      by_cases h15 : n1 ≤ 15
      · have hnib : x.pre.all isNib = false := by
          cases hh : x.pre.all isNib with
          | false => rfl
          | true => exact absurd ⟨h15, hh⟩ hp
        exact pack_no A1 n1 c1 x.pre W h15 g1 hnib
      · exact pack_big A1 n1 c1 W (by omega) (by omega)
    have HPK := Lib.hid hpk
    clear hpk hp
    go_enter Tryz.func77, Tryz.ntmps77
    go_wp2_with fail
    rw [← HW.out]
    refine HPK.out.mono ?_
    rintro e w' ⟨rfl, rfl⟩
    clear HPK h1 h2 h3
    go_wp2_with fail
    go_ret
    exact ⟨by rw [HF.out]; rfl, hb⟩
end Go.Proofs.YtdjfbnoolfpcnaaGreatDoor
