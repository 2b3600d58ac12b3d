import Derived.Test.YtkimaejoeapmnaaGreatDoorRows
import Derived.Test.YtkimaejoeapmnaaGreatDoorG03
set_option maxHeartbeats 32000000
set_option maxRecDepth 100000
open Nat renaming eq_zero_or_pos->Ho,le_refl->Ad,zero_le->BK
open List renaming eq_nil_of_length_eq_zero->Ce,replicate->BB,any_eq_true->Yp,findIdx?_eq_some_iff_getElem->KD
open Go.Lib renaming run_eql_slice_nil->IZ,hid->Aa
open Go.World renaming ownsRow_nil->Fj,ownsRow_made->xR
namespace Go.Proofs.YtkimaejoeapmnaaGreatDoor
open Go.RowKit
theorem Tryz.Gi:LK Tryz.prog 22 5 (.int .u8 0) 1:=⟨Tryz.underlying22,by kernel_rfl,rfl⟩
theorem Tryz.infoByte:(Tryz.prog.info? 5).map (fun i=>(i.zero,i.size,i.bytes))=some (some (.int .u8 0),1,1):=by kernel_rfl
theorem Tryz.Je:LK Tryz.prog 91 28 (.int .u64 0) 8:=⟨Tryz.underlying91,by kernel_rfl,rfl⟩
theorem YB (A : Option Addr) (n c : Nat) (l : List UInt64) (w : World) (hn : n <= 1000000) (h : Ws w A n l) :
    Calls Tryz.prog 201 #[.slice A n c] w fun e w' => ∃ v, e = .returned v /\ w'.ownsRow w.heap.size 28 1 v n (l.map wv) /\ Below w.heap.size w w' := by
  have hlen := h.len
  rcases A with _ | ad
  · have hn0 : n = 0 := by
      rcases Ho n with h0 | h0
      · exact h0
      · obtain ⟨_, _, e, _⟩ := h.2 h0; cases e
    subst hn0
    have hl : l = [] := Ce hlen
    subst hl
    have q1 := fun W => IZ (P := Tryz.prog) W 91 28 none 0 c 0 0 Tryz.underlying91
    go_enter Tryz.func201, Tryz.ntmps201
    go_wp2
    go_ret
    exact ⟨_, rfl, Fj _ _ _ _, Below.refl _ _⟩
  · have q1 := fun W => IZ (P := Tryz.prog) W 91 28 (some ad) n c 0 0 Tryz.underlying91
    go_enter Tryz.func201, Tryz.ntmps201
    go_wp2_with (at_builtin; refine Td rfl (.tmp 5) (.tmp 6) 91 rfl Tryz.Je w.heap.size (.slice (some ⟨w.heap.size, 0, none⟩) 0 0) 0 [] (l.map wv) rfl (xR w #[] 0 (Ad _) (by decide) rfl) (some ad) n c rfl (h.below ((Below.refl _ _).alloc (Ad _) _)) (P9 _) (by omega) (by decide) (by simp) ?_; intro v2 w2 hown2 hb2)
    go_ret
    exact ⟨v2, rfl, by simpa using hown2, ((Below.refl _ _).alloc (Ad _) _).trans hb2⟩
theorem TJ (A : Option Addr) (n c : Nat) (l : List UInt8) (w : World) (hn : n <= 1000000) (h : Bs w A n l) :
    Calls Tryz.prog 119 #[.slice A n c] w fun e w' => ∃ v, e = .returned v /\ w'.ownsRow w.heap.size 5 1 v n (l.map bv) /\ Below w.heap.size w w' := by
  have hlen := h.len
  rcases A with _ | ad
  · have hn0 : n = 0 := by
      rcases Ho n with h0 | h0
      · exact h0
      · obtain ⟨_, _, e, _⟩ := h.2 h0; cases e
    subst hn0
    have hl : l = [] := Ce hlen
    subst hl
    have q1 := fun W => IZ (P := Tryz.prog) W 22 5 none 0 c 0 0 Tryz.underlying22
    go_enter Tryz.func119, Tryz.ntmps119
    go_wp2
    go_ret
    exact ⟨_, rfl, Fj _ _ _ _, Below.refl _ _⟩
  · have q1 := fun W => IZ (P := Tryz.prog) W 22 5 (some ad) n c 0 0 Tryz.underlying22
    go_enter Tryz.func119, Tryz.ntmps119
    go_wp2_with (at_builtin; refine Td rfl (.tmp 5) (.tmp 6) 22 rfl Tryz.Gi w.heap.size (.slice (some ⟨w.heap.size, 0, none⟩) 0 0) 0 [] (l.map bv) rfl (xR w #[] 0 (Ad _) (by decide) rfl) (some ad) n c rfl (h.below ((Below.refl _ _).alloc (Ad _) _)) (Gu _) (by omega) (by decide) (by simp) ?_; intro v2 w2 hown2 hb2)
    go_ret
    exact ⟨v2, rfl, by simpa using hown2, ((Below.refl _ _).alloc (Ad _) _).trans hb2⟩
theorem Su(A:Option Addr)(n c:Nat)(l:List UInt8)(w:World)(hn:n<=4294967296)(h:Bs w A n l):
 Calls Tryz.prog 192 #[.slice A n c] w fun e w'=>e= .returned (.bool (l.all DL))/\w=w':=by
 have hlen:=h.len;go_enter Tryz.func192,Tryz.ntmps192;go_wp2
 go_loop [7](fun i=>∃k:Nat,k<=n/\i= .int .i64 k/\(l.take k).all DL=true)(fun i=>n- (intOf i).toNat)
 case atStart=>exact⟨0,BK _,rfl,by simp⟩
 case round=>
  obtain⟨k,hk,rfl,hall⟩:=hrel;by_cases hlt:k<n
  ·obtain⟨hl,b,off,rfl,hb,hc⟩:=h.at hlt;by_cases h16:l[k].toNat<16
   ·have HS:=Aa (Tf DL l k hl hall (V3 h16));clear hall;go_wp2
    go_round
    case rel=>exact⟨k+1,by omega,by go_num,HS.out⟩
    case measure=>simp [intOf];omega
   ·have HS:=Aa (Vz DL l k hl (Ad4 h16));clear hall;go_wp2;go_ret;exact⟨by rw [HS.out];rfl,rfl⟩
  ·have hkn:k=n:=by omega
   subst hkn;go_wp2;go_ret;exact⟨Aah (by rw [<-hlen]at hall;simpa using hall),rfl⟩
theorem Alp(s:ByteArray)(w:World)(hs:s.size<=1000000):
 Calls Tryz.prog 153 #[.string s] w fun e w'=>∃v,e= .returned v/\w'.ownsRow w.heap.size 5 1 v (2*s.size) ((DR s.data.toList).map bv)/\Below w.heap.size w w':=by
 obtain⟨i0,hi,hz0,hz1,hz2⟩:=info_parts Tryz.infoByte;go_enter Tryz.func153,Tryz.ntmps153
 go_wp2_with(at_make;refine wpList_make_own _ rfl _ _ 22 rfl w.heap.size 5 i0 (.int .u8 0) 1 Tryz.underlying22 hi hz0 hz1 .i64 .i64 _ (2*s.size) rfl rfl (by simp) (by rw [hz2];omega) (by unfold maxLen;omega) (Ad _) ?_;intro w0 hown0 hgrow0)
 have hb0:Below w.heap.size w w0:=(Below.refl _ _).grown hgrow0 (Ad _) (by simp);clear hgrow0
 go_loopw [3,11](fun v i wr=>∃k:Nat,k<=s.size/\i= .int .i64 k/\wr.ownsRow w.heap.size 5 1 v (2*k) ((DR (s.data.toList.take k)).map bv)/\Below w.heap.size w wr)(fun _ i _=>s.size- (intOf i).toNat)
 case atStart=>exact⟨0,BK _,rfl,by simpa [DR]using hown0,hb0⟩
 case round=>
  obtain⟨k,hk,rfl,hown,hb⟩:=hrel;clear hown0;have hsz:=hb.size;by_cases hlt:k<s.size
  ·have hl:k<s.data.toList.length:=by simpa using hlt
   have HS:=Aa (TB s k hlt);go_wp2
   go_region_law(refine gQ rfl (.tmp 14) (.tmp 23) 22 rfl Tryz.Gi wr w.heap.size u3 (2*k) ((DR (s.data.toList.take k)).map bv) [Value.int .u8 (IntKind.u8.wrap (↑s[k].toNat/16)),Value.int .u8 ((↑s[k].toNat:Int).tmod 16)] (by simp [Act.eval]) hown rfl rfl rfl rfl 2 2 (by simp [Act.eval]) rfl (by simp [Value.oneCell']) (by simp;omega) (by decide) hsz ?_;intro v2 w2 hown2 hb')
   all_goals
    have hb2:=hb.trans hb';rw [Ahz,Ah0]at hown2;clear hown hb hb';go_wp2;go_roundw
    case rel=>exact⟨k+1,by omega,by go_num,by rw [HS.out,List.map_append];exact hown2,hb2⟩
    case measure=>simp [intOf];omega
  ·have hkn:k=s.size:=by omega
   subst hkn;go_wp2;go_ret;exact⟨_,rfl,by rw [List.take_of_length_le (by simp)]at hown;exact hown,hb⟩
theorem KX(A B:Option Addr)(n m ca cb:Nat)(a b:List UInt8)(w:World)(hn:n<=4294967296)(_hm:m<=4294967296)(ha:Bs w A n a)(hb:Bs w B m b):
 Calls Tryz.prog 155 #[.slice A n ca,.slice B m cb] w fun e w'=>e= .returned (.int .i64 (common a b:Nat))/\Dr w w':=by
 have hla:=ha.len;have hlb:=hb.len;go_enter Tryz.func155,Tryz.ntmps155;go_wp2
 go_loopw [5](fun i wr=>∃k:Nat,k<=n/\i= .int .i64 k/\alike k a b/\Dr w wr)(fun i _=>n- (intOf i).toNat)
 case atStart=>exact⟨0,BK _,rfl,sQ _ _,Dr.refl _⟩
 case round=>
  obtain⟨k,hk,rfl,hal,q,rfl⟩:=hrel;have hkm:=hal.2.1;by_cases hlt:k<n
  ·obtain⟨hl,p,off,rfl,hp,hc⟩:=ha.at hlt;by_cases hlt2:k<m
   ·obtain⟨hl2,p2,Ah1,rfl,hp2,hc2⟩:=hb.at hlt2;by_cases he:a[k]=b[k]
    ·have HS:=Aa (sS hal hl hl2 he);have hbq:=lu he;clear hal he;go_wp2
     go_quiet(fail)
     go_wp2;go_roundw
     case rel=>exact⟨k+1,by omega,by go_num,HS.out,by first| exact Dr.one _ _| exact Dr.two _ _ _⟩
     case measure=>simp [intOf];omega
    ·have HS:=Aa (X0 hal hl hl2 he);have hbq:=gU he;clear hal he;go_wp2
     go_quiet(fail)
     go_wp2;go_ret;exact⟨by rw [HS.out];rfl,by first| exact Dr.one _ _| exact Dr.two _ _ _⟩
   ·have HS:=Aa (TC hal (by omega));have hd:decide (k<m)=false:=by simpa using hlt2
    clear hal;go_wp2
    go_quiet(fail)
    go_wp2;go_ret;exact⟨by rw [HS.out];rfl,by first| exact Dr.one _ _| exact Dr.two _ _ _⟩
  ·have HS:=Aa (NU hal (by omega));have hd:decide (k<n)=false:=by simpa using hlt
   clear hal;go_wp2
   go_quiet(fail)
   go_wp2;go_ret;exact⟨by rw [HS.out];rfl,by first| exact Dr.one _ _| exact Dr.two _ _ _⟩
theorem U9(A:Option Addr)(n c:Nat)(l:List UInt8)(w:World)(hn:n<=15)(h:Bs w A n l)(TD:l.all DL=true):
 Calls Tryz.prog 199 #[.slice A n c] w fun e w'=>e= .returned (.tuple #[.int .u64 ((n+16*EY l:Nat):Int),.bool true])/\w=w':=by
 have hlen:=h.len;have hr:=Su A n c l w (by omega) h;rw [TD]at hr;go_enter Tryz.func199,Tryz.ntmps199
 go_wp2_with(go_at_call 192;refine hr.mono ?_;rintro e w'⟨rfl,rfl⟩)
 go_loop [4,20](fun v i=>∃k:Nat,k<=n/\i= .int .i64 k/\v= .int .u64 ((n+16*EY (l.take k):Nat):Int))(fun _ i=>n- (intOf i).toNat)
 case atStart=>exact⟨0,BK _,rfl,by simp [EY]⟩
 case round=>
  obtain⟨k,hk,rfl,rfl⟩:=hrel;by_cases hlt:k<n
  ·obtain⟨hl,b,off,rfl,hb,hc⟩:=h.at hlt;have HS:=Aa (Aal l n k hn hlt hl TD);clear hr TD;go_wp2
   go_round
   case rel=>exact⟨k+1,by omega,by go_num,HS.out⟩
   case measure=>simp [intOf];omega
  ·have hkn:k=n:=by omega
   subst hkn;go_wp2;go_ret2;exact⟨by simp [<-hlen],rfl⟩
theorem Ad9(A:Option Addr)(n c:Nat)(w:World)(hn:15<n)(hn2:n<=4294967296):
 Calls Tryz.prog 199 #[.slice A n c] w fun e w'=>e= .returned (.tuple #[.int .u64 0,.bool false])/\w=w':=by
 go_enter Tryz.func199,Tryz.ntmps199;go_wp2;go_ret2;exact⟨rfl,rfl⟩
theorem Ah2(A:Option Addr)(n c:Nat)(l:List UInt8)(w:World)(hn:n<=15)(h:Bs w A n l)(TD:l.all DL=false):
 Calls Tryz.prog 199 #[.slice A n c] w fun e w'=>e= .returned (.tuple #[.int .u64 0,.bool false])/\w=w':=by
 have hr:=Su A n c l w (by omega) h;rw [TD]at hr;go_enter Tryz.func199,Tryz.ntmps199
 go_wp2_with(go_at_call 192;refine hr.mono ?_;rintro e w'⟨rfl,rfl⟩)
 go_ret2;exact⟨rfl,rfl⟩
def uf(x:Nat)(w:World)(e:Ending)(w':World):Prop:=
 Below w.heap.size w w'/\(if x/16/16^(x%16)=0 then∃v,e= .returned (.tuple #[v,.bool true])/\w'.ownsRow w.heap.size 5 1 v (x%16) ((digits (x%16) (x/16)).map bv)
  else e= .returned (.tuple #[.slice none 0 0,.bool false]))
theorem YC(x:Nat)(w:World)(hx:x<18446744073709551616):
 Calls Tryz.prog 198 #[.int .u64 (x:Int)] w (uf x w):=by
 obtain⟨i0,hi,hz0,hz1,hz2⟩:=info_parts Tryz.infoByte;have hm:x%16<16:=Nat.mod_lt _ (by decide);go_enter Tryz.func198,Tryz.ntmps198
 go_wp2_with(at_make;refine wpList_make_full _ rfl _ _ 22 rfl w.heap.size 5 i0 (.int .u8 0) 1 Tryz.underlying22 hi hz0 hz1 .i64 .i64 _ _ (x%16) rfl rfl (by simp) (by simp) (by rw [hz2];omega) (by unfold maxLen;omega) (Ad _) ?_;intro w0 hown0 hgrow0)
 rw [PD]at hown0;have hb0:Below w.heap.size w w0:=(Below.refl _ _).grown hgrow0 (Ad _) (by simp);clear hgrow0;obtain⟨m,hmm⟩:∃m,m=x%16:=⟨_,rfl⟩;obtain⟨y,hyy⟩:∃y,y=x/16:=⟨_,rfl⟩;have em:((x:Int)%16)=(m:Int):=by omega
 have ey:((x:Int)/16)=(y:Int):=by omega
 have hy:y<18446744073709551616:=by omega
 have HM:=Aa hmm;have HY:=Aa hyy;rw [em,ey,<-hmm];rw [<-hmm]at hown0 hm;clear em ey hmm hyy
 go_loopw [0,16](fun v i wr=>∃k:Nat,k<=m/\i= .int .i64 k/\v= .int .u64 ((y/16^k:Nat):Int)/\wr.ownsRow w.heap.size 5 1 (.slice (some ⟨w.heap.size,0,none⟩) m m) m ((digits k y++BB (m-k) (0:UInt8)).map bv)/\Below w.heap.size w wr)(fun _ i _=>m- (intOf i).toNat)
 case atStart=>exact⟨0,BK _,rfl,by simp,by simpa [digits]using hown0,hb0⟩
 case round=>
  clear hown0 hb0;obtain⟨k,hk,rfl,rfl,hown,hb⟩:=hrel;obtain⟨z,hz⟩:∃z,z=y/16^k:=⟨_,rfl⟩;have hzl:z<18446744073709551616:=by rw [hz];exact Nat.lt_of_le_of_lt (Nat.div_le_self _ _) hy
  by_cases hlt:k<m
  ·have hst:=gV k m y hlt;have hpw:((z:Int)/16)=((y/16^(k+1):Nat):Int):=by rw [Nat.pow_succ,<-Nat.div_div_eq_div_mul,<-hz];simp
   rw [<-hz]at hst⊢;have HS:=Aa hst;have HP:=Aa hpw;clear hst hpw hz;obtain⟨u,hu⟩:=Yt hown hlt;have hf:=hown.frozenAt k;have hown2:=(hown.stored k (bv (UInt8.ofNat (z%16)))).1;have hb2:=hb.setCell (p:=⟨w.heap.size,k,none⟩) (Ad _) (bv (UInt8.ofNat (z%16)));rw [HS.out,<-yt]at hown2;rw [<-yt]at hb2;clear hown hb;go_wp2;go_roundw
   case rel=>exact⟨k+1,by omega,by go_num,by rw [HP.out],hown2,hb2⟩
   case measure=>simp [intOf];omega
  ·have hkn:k=m:=by omega
   subst hkn;rw [<-hz];by_cases hz0:z=0
   ·have ht:((z:Int)!=0)=false:=by simp [hz0]
    have HZ:=Aa hz;have HZ0:=Aa hz0;clear hz hz0;go_wp2;go_ret2;refine⟨hb,?_⟩;rw [<-HM.out,<-HY.out,<-HZ.out,if_pos HZ0.out];exact⟨_,rfl,by simpa using hown⟩
   ·have ht:((z:Int)!=0)=true:=by simp;omega
    have HZ:=Aa hz;have HZ0:=Aa hz0;clear hz hz0;go_wp2;go_ret2;refine⟨hb,?_⟩;rw [<-HM.out,<-HY.out,<-HZ.out,if_neg HZ0.out];rfl
theorem Alq (A : Option Addr) (n c : Nat) (l : List UInt8) (w : World) (hn : n <= 1000000) (h : Bs w A n l) (hk : Jl l = false) :
    Calls Tryz.prog 163 #[.slice A n c] w fun e w' => e = .returned (.tuple #[.string ⟨#[]⟩, .bool false]) /\ w = w' := by
  have hlen := h.len
  have hr := Su A n c l w (by omega) h
  by_cases h2 : n % 2 = 0
  · have TD : l.all DL = false := by
      simpa [Jl, hlen, h2] using hk
    rw [TD] at hr
    have t1 : ((n : Int) % 2 != 0) = false := by simp; omega
    clear hk TD h2
    go_enter Tryz.func163, Tryz.ntmps163
    go_wp2_with (go_at_call 192; refine hr.mono ?_; rintro e w' ⟨rfl, rfl⟩)
    go_ret2
    exact ⟨rfl, rfl⟩
  · have t1 : ((n : Int) % 2 != 0) = true := by simp; omega
    clear hk h2 hr
    go_enter Tryz.func163, Tryz.ntmps163
    go_wp2
    go_ret2
    exact ⟨rfl, rfl⟩
theorem Ah3(A:Option Addr)(n c:Nat)(l:List UInt8)(w:World)(hn:n<=1000000)(h:Bs w A n l)(hk:Jl l=true):
 Calls Tryz.prog 163 #[.slice A n c] w fun e w'=>e= .returned (.tuple #[.string ⟨(pairs l).toArray⟩,.bool true])/\Below w.heap.size w w':=by
 obtain⟨i0,hi,hz0,hz1,hz2⟩:=info_parts Tryz.infoByte;have hlen:=h.len;have hr:=Su A n c l w (by omega) h;simp only [Jl,Bool.and_eq_true,decide_eq_true_eq]at hk;rw [hk.2]at hr;have h2:n%2=0:=by omega
 obtain⟨m,hm⟩:∃m,n=2*m:=⟨n/2,by omega⟩;have hmn:m=l.length/2:=by omega
 have t1:((n:Int)%2 !=0)=false:=by simp;omega
 have em:((n:Int)/2)=(m:Int):=by omega
 have HM:=Aa hm;have HMN:=Aa hmn;have hm1:m<=n:=by omega
 clear hk h2 hm hmn;go_enter Tryz.func163,Tryz.ntmps163
 go_wp2_with(first| (go_at_call 192;refine hr.mono ?_;rintro e w'⟨rfl,rfl⟩)| (at_make;refine wpList_make_full _ rfl _ _ 22 rfl w.heap.size 5 i0 (.int .u8 0) 1 Tryz.underlying22 hi hz0 hz1 .i64 .i64 _ _ m rfl rfl (by rfl) (by rfl) (by rw [hz2];omega) (by unfold maxLen;omega) (Ad _) ?_;intro w0 hown0 hgrow0))
 rw [PD]at hown0;have hb0:Below w.heap.size w w0:=(Below.refl _ _).grown hgrow0 (Ad _) (by simp);clear hgrow0 hr
 go_loopw [21](fun i wr=>∃k:Nat,k<=m/\i= .int .i64 k/\wr.ownsRow w.heap.size 5 1 (.slice (some ⟨w.heap.size,0,none⟩) m m) m ((pairs (l.take (2*k))++BB (m-k) (0:UInt8)).map bv)/\Below w.heap.size w wr)(fun i _=>m- (intOf i).toNat)
 case atStart=>exact⟨0,BK _,rfl,by simpa [pairs]using hown0,hb0⟩
 case round=>
  clear hown0 hb0;obtain⟨k,hk,rfl,hown,hb⟩:=hrel;by_cases hlt:k<m
  ·have hm:=HM.out;have hwr:=h.below hb;obtain⟨hl1,b,off,rfl,hp,hc1⟩:=Bs.at hwr (show 2*k<n by omega);obtain⟨hl2,b',off',e',_,hc2⟩:=Bs.at hwr (show 2*k+1<n by omega);injection e' with e'
   injection e' with e1 e2 e3
   subst e1 e2;have hnn:2*k+1<n:=by omega
   obtain⟨u,hu⟩:=Yt hown hlt;have hf:=hown.frozenAt k;have hown2:=(hown.stored k (bv (l[2*k]*16+l[2*k+1]))).1;have hb2:=hb.setCell (p:=⟨w.heap.size,k,none⟩) (Ad _) (bv (l[2*k]*16+l[2*k+1]));rw [l7 l k m hlt hl2 HMN.out]at hown2;have HO:=Aa hown2;have HB:=Aa hb2;clear hown hb hown2 hb2 hm hwr e3;go_wp2;go_region;go_wp2;go_roundw
   case rel=>
    refine⟨k+1,by omega,by go_num,?_,?_⟩
    ·rw [yu];exact HO.out.drew
    ·rw [yu];exact HB.out.drew
   case measure=>simp [intOf];omega
  ·have hkn:k=m:=by omega
   subst hkn;simp only [Nat.sub_self,List.replicate_zero,List.append_nil]at hown;have hall:pairs (l.take (2*k))=pairs l:=by rw [HMN.out];exact Yv l
   rw [hall]at hown;obtain⟨A',c',hv,_,hrd⟩:=CO hown;injection hv with hv1 hv2 hv3
   subst hv1;have hcv:=KQ (P:=Tryz.prog) Tryz.underlying22 Tryz.underlying5 Tryz.underlying9 hrd k;clear hall hown hv3 hrd hv2;go_wp2;go_ret2;exact⟨rfl,hb⟩
theorem Aea(w:World)(t:TypeId)(a b c d:Value):∃W,W=w.alloc (.cells #[a,b,c,d] t)/\W.cell? ⟨w.heap.size,0,none⟩=some a/\W.cell? ⟨w.heap.size,1,none⟩=some b/\W.cell? ⟨w.heap.size,2,none⟩=some c/\
 W.cell? ⟨w.heap.size,3,none⟩=some d/\Below w.heap.size w W/\W.heap.size=w.heap.size+1:=by
 refine⟨_,rfl,?_,?_,?_,?_,(Below.refl _ _).alloc (Ad _) _,by simp⟩<;>
 ·rw [cell_of_row _ w.heap.size _ _ t (0,0) (heap_alloc_new w _)];rfl
theorem lines_any(c:Int)(w:World):Calls Tryz.prog 96 #[.int .i64 c] w fun e w'=>e= .returned (.int .i64 (if c=1 then 1 else if c=2 then 4 else 0))/\w=w':=by
 by_cases h1:c=1
 ·subst h1;go_enter Tryz.func96,Tryz.ntmps96;go_wp2;go_ret;exact⟨rfl,rfl⟩
 ·by_cases h2:c=2
  ·subst h2;go_enter Tryz.func96,Tryz.ntmps96;go_wp2;go_ret;exact⟨rfl,rfl⟩
  ·have t1:(c==1)=false:=by simp [h1]
   have t2:(c==2)=false:=by simp [h2]
   rw [if_neg h1,if_neg h2];go_enter Tryz.func96,Tryz.ntmps96;go_wp2;go_ret;exact⟨rfl,rfl⟩
def KY(c:Int):Int:=if c=1 then 8 else if c=2 then 32 else 0
theorem Jf(c:Int)(w:World):Calls Tryz.prog 180 #[.int .i64 c] w fun e w'=>e= .returned (.int .i64 (KY c))/\w=w':=by
 have hl:=lines_any c w;have hv:(8*(if c=1 then 1 else if c=2 then 4 else 0):Int)=KY c:=by unfold KY;split<;>(try split)<;>rfl
 have hb:(0:Int)<=(if c=1 then 1 else if c=2 then 4 else 0)/\(if c=1 then 1 else if c=2 then 4 else 0:Int)<=4:=by split<;>(try split)<;>decide
 generalize(if c=1 then 1 else if c=2 then 4 else 0:Int)=r at*;obtain⟨hb1,hb2⟩:=hb;have HV:=Aa hv;clear hv;go_enter Tryz.func180,Tryz.ntmps180
 go_wp2_with(go_at_call 96;refine hl.mono ?_;rintro e w'⟨rfl,rfl⟩)
 go_ret;exact⟨by rw [<-HV.out];rfl,rfl⟩
theorem TK(A:Option Addr)(n c:Nat)(l:List UInt8)(x:UInt8)(w:World)(hn:n<=4294967296)(h:Bs w A n l):
 Calls Tryz.prog 182 #[.slice A n c,.int .u8 (x.toNat:Int)] w fun e w'=>e= .returned (.int .i64 (placeOf (fun y=>y.toNat==x.toNat) l))/\w=w':=by
 have hlen:=h.len;go_enter Tryz.func182,Tryz.ntmps182;go_wp2
 go_loop [8](fun i=>∃k:Nat,k<=n/\i= .int .i64 k/\∀j(h:j<l.length),j<k->(l[j].toNat==x.toNat)=false)(fun i=>n- (intOf i).toNat)
 case atStart=>exact⟨0,BK _,rfl,fun j _ hj=>absurd hj (by omega)⟩
 case round=>
  obtain⟨k,hk,rfl,hno⟩:=hrel;by_cases hlt:k<n
  ·obtain⟨hl,b,off,rfl,hb,hc⟩:=h.at hlt;by_cases he:l[k].toNat=x.toNat
   ·have t1:((x.toNat:Int)==(l[k].toNat:Int))=true:=by simp [he]
    have HP:=Aa (WM (fun y:UInt8=>y.toNat==x.toNat) l k hl (fun j hj=>hno j (by omega) hj) (by simp [he]));clear hno he;go_wp2;go_ret;exact⟨by rw [HP.out];rfl,rfl⟩
   ·have t1:((x.toNat:Int)==(l[k].toNat:Int))=false:=by simp;omega
    have HN:Hid (∀j(h:j<l.length),j<k+1->(l[j].toNat==x.toNat)=false):=Aa fun j hj hjk=>by
     by_cases e:j=k
     ·subst e;simp [he]
     ·exact hno j hj (by omega)
    clear hno he;go_wp2
    go_round
    case rel=>exact⟨k+1,by omega,by go_num,HN.out⟩
    case measure=>simp [intOf];omega
  ·have hkn:k=n:=by omega
   subst hkn;have HP:=Aa (U5 (fun y:UInt8=>y.toNat==x.toNat) l (fun j hj=>hno j hj (by omega)));clear hno;go_wp2;go_ret;exact⟨by rw [HP.out];rfl,rfl⟩
theorem ug(A:Option Addr)(n c:Nat)(l:List UInt64)(x:UInt64)(w:World)(hn:n<=4294967296)(h:Ws w A n l):
 Calls Tryz.prog 208 #[.slice A n c,.int .u64 (x.toNat:Int)] w fun e w'=>e= .returned (.int .i64 (placeOf (fun y=>y.toNat==x.toNat) l))/\w=w':=by
 have hlen:=h.len;go_enter Tryz.func208,Tryz.ntmps208;go_wp2
 go_loop [8](fun i=>∃k:Nat,k<=n/\i= .int .i64 k/\∀j(h:j<l.length),j<k->(l[j].toNat==x.toNat)=false)(fun i=>n- (intOf i).toNat)
 case atStart=>exact⟨0,BK _,rfl,fun j _ hj=>absurd hj (by omega)⟩
 case round=>
  obtain⟨k,hk,rfl,hno⟩:=hrel;by_cases hlt:k<n
  ·obtain⟨hl,b,off,rfl,hb,hc⟩:=h.at hlt;by_cases he:l[k].toNat=x.toNat
   ·have t1:((x.toNat:Int)==(l[k].toNat:Int))=true:=by simp [he]
    have HP:=Aa (WM (fun y:UInt64=>y.toNat==x.toNat) l k hl (fun j hj=>hno j (by omega) hj) (by simp [he]));clear hno he;go_wp2;go_ret;exact⟨by rw [HP.out];rfl,rfl⟩
   ·have t1:((x.toNat:Int)==(l[k].toNat:Int))=false:=by simp;omega
    have HN:Hid (∀j(h:j<l.length),j<k+1->(l[j].toNat==x.toNat)=false):=Aa fun j hj hjk=>by
     by_cases e:j=k
     ·subst e;simp [he]
     ·exact hno j hj (by omega)
    clear hno he;go_wp2
    go_round
    case rel=>exact⟨k+1,by omega,by go_num,HN.out⟩
    case measure=>simp [intOf];omega
  ·have hkn:k=n:=by omega
   subst hkn;have HP:=Aa (U5 (fun y:UInt64=>y.toNat==x.toNat) l (fun j hj=>hno j hj (by omega)));clear hno;go_wp2;go_ret;exact⟨by rw [HP.out];rfl,rfl⟩
theorem lK{α:Type}(p:α->Bool)(l:List α):(0<=placeOf p l)<->l.any p=true:=by
 unfold placeOf;cases h:l.findIdx? p with
 | none=>
   rw [List.findIdx?_eq_none_iff]at h;constructor
   ·intro h0;simp at h0
   ·intro ha;obtain⟨x,hx,hp⟩:=Yp.1 ha;rw [h x hx]at hp;cases hp
 | some i=>
   rw [KD]at h;obtain⟨hi,hp,_⟩:=h;constructor
   ·intro _;exact Yp.2 ⟨_,List.getElem_mem hi,hp⟩
   ·intro _;exact Int.natCast_nonneg i
theorem aN{α:Type}(p:α->Bool)(l:List α): -1<=placeOf p l/\placeOf p l<max 1 l.length:=by
 unfold placeOf;cases h:l.findIdx? p with
 | none=>simp;omega
 | some i=>
   rw [KD]at h;obtain⟨hi,_⟩:=h;simp;omega
theorem aO(A:Option Addr)(n c:Nat)(l:List UInt64)(w:World)(hn:n<=4294967296)(h:Ws w A n l):
 Calls Tryz.prog 200 #[.slice A n c,.int .u64 0] w fun e w'=>e= .returned (.bool (l.any fun y=>y.toNat==0))/\w=w':=by
 have hi:Calls Tryz.prog 208 #[.slice A n c,.int .u64 0] w fun e w'=>e= .returned (.int .i64 (placeOf (fun y=>y.toNat==0) l))/\w=w':=ug A n c l 0 w hn h
 have hp:=lK (fun y:UInt64=>y.toNat==0) l;have hr:=aN (fun y:UInt64=>y.toNat==0) l;generalize placeOf (fun y:UInt64=>y.toNat==0) l=r at*;cases ha:l.any (fun y=>y.toNat==0)with
 | true=>
   have h0:0<=r:=hp.2 ha;clear hp ha;go_enter Tryz.func200,Tryz.ntmps200
   go_wp2_with(go_at_call 208;refine hi.mono ?_;rintro e w'⟨rfl,rfl⟩)
   go_ret;exact⟨rfl,rfl⟩
 | false=>
   have h0:r<0:=by
    rcases Int.lt_or_le r 0 with h| h
    ·exact h
    ·rw [hp.1 h]at ha;cases ha
   clear hp ha;go_enter Tryz.func200,Tryz.ntmps200
   go_wp2_with(go_at_call 208;refine hi.mono ?_;rintro e w'⟨rfl,rfl⟩)
   go_ret;exact⟨by simp;omega,rfl⟩
theorem V7(v1 v2 v3:Value)(A3:Option Addr)(n3 c3:Nat)(w:World)(hn:n3<=4294967296):
 Calls Tryz.prog 184 #[.agg #[v1,v2,v3,.slice A3 n3 c3]] w fun e w'=>e= .returned (.int .i64 (if n3<=4 then 1 else 2))/\Below w.heap.size w w':=by
 by_cases h4:n3<=4
 ·rw [if_pos h4];go_enter Tryz.func184,Tryz.ntmps184;go_wp2;go_ret;exact⟨rfl,(Below.refl _ _).alloc (Ad _) _⟩
 ·rw [if_neg h4];go_enter Tryz.func184,Tryz.ntmps184;go_wp2;go_ret;exact⟨rfl,(Below.refl _ _).alloc (Ad _) _⟩
theorem KZ (A1 A2 A3 : Option Addr) (n1 c1 n2 c2 n3 c3 : Nat) (x : Nd) (w : World) (b1 : n1 <= 1000000) (b2 : n2 <= 1000000) (b3 : n3 <= 1000000) (h1 : Bs w A1 n1 x.pre) (h2 : Bs w A2 n2 x.labels) (h3 : Ws w A3 n3 x.kids) :
    Calls Tryz.prog 183 #[.agg #[.slice A1 n1 c1, .int .u64 (x.val.toNat : Int), .slice A2 n2 c2, .slice A3 n3 c3]] w fun e w' => e = .returned (.bool (Ci x)) /\ Below w.heap.size w w' := by
  have hl1 := h1.len
  have hl2 := h2.len
  have hl3 := h3.len
  obtain ⟨W, hW, e0, e1, e2, e3, hb, hs⟩ := Aea w 212 (.slice A1 n1 c1) (.int .u64 (x.val.toNat : Int)) (.slice A2 n2 c2) (.slice A3 n3 c3)
  have g1 := h1.below hb
  have g2 := h2.below hb
  have g3 := h3.below hb
  have HW := Aa hW
  clear hW
  have HR := Aa (Bo x)
  by_cases hp : n1 <= 15 /\ x.pre.all DL = true
  · have hpk := U9 A1 n1 c1 x.pre W hp.1 g1 hp.2
    have HPK := Aa hpk
    clear hpk
    by_cases hl : n2 = n3
    · subst hl
      have t1 : ((n2 : Int) != (n2 : Int)) = false := by simp
      go_enter Tryz.func183, Tryz.ntmps183
      go_wp2_with fail
      rw [<- HW.out]
      refine HPK.out.mono ?_
      rintro e w' ⟨rfl, rfl⟩
      clear HPK h1 h2 h3
      go_wp2_with fail
      go_loop [27] (fun i => ∃ k : Nat, k <= n2 /\ i = .int .i64 k /\ (x.labels.take k).all DL = true /\ DT (x.labels.take k) = true) (fun i => n2 - (intOf i).toNat)
      case atStart => exact ⟨0, BK _, rfl, by simp, by simp [DT]⟩
      case round =>
        obtain ⟨k, hk, rfl, hall, hris⟩ := hrel
        by_cases hlt : k < n2
        · obtain ⟨hq, p, off, rfl, hp2, hc⟩ := g2.at hlt
          by_cases h16 : x.labels[k].toNat < 16
          · have t2 : decide (16 <= (x.labels[k].toNat : Int)) = false := by simp; omega
            have HA := Aa (Tf DL x.labels k hq hall (V3 h16))
            rcases k with _ | j
            · have HS := Aa (OE x.labels 0 hq hris (fun j hj => by omega))
              have t3 : decide ((0 : Int) < 0) = false := rfl
              clear hall hris
              rw [show ((0 : Nat) : Int) = 0 from rfl]
              simp only [Nat.add_zero] at hc
              go_wp2
              go_round
              case rel => exact ⟨1, by omega, by go_num, HA.out, HS.out⟩
              case measure => simp [intOf]; omega
            · obtain ⟨hq', p', off', e', hp2', hc'⟩ := g2.at (show j < n2 by omega)
              injection e' with e'
              injection e' with e1' e2' e3'
              subst e1' e2'
              by_cases hr : x.labels[j].toNat < x.labels[j + 1].toNat
              · have t3 : decide ((x.labels[j + 1].toNat : Int) <= (x.labels[j].toNat : Int)) = false := by simp; omega
                have HS := Aa (lG x.labels j hq hris hr)
                clear hall hris e3'
                go_wp2
                go_round
                case rel => exact ⟨j + 1 + 1, by omega, by go_num, HA.out, HS.out⟩
                case measure => simp [intOf]; omega
              · have t3 : decide ((x.labels[j + 1].toNat : Int) <= (x.labels[j].toNat : Int)) = true := by simp; omega
                have HF := Aa (aK x j hq hr)
                clear hall hris e3'
                go_wp2
                go_ret
                exact ⟨by rw [HF.out]; rfl, hb⟩
          · have t2 : decide (16 <= (x.labels[k].toNat : Int)) = true := by simp; omega
            have HF := Aa (gY x k hq h16)
            clear hall hris
            go_wp2
            go_ret
            exact ⟨by rw [HF.out]; rfl, hb⟩
        · have hkn : k = n2 := by omega
          subst hkn
          rw [<- hl2, List.take_length] at hall hris
          have HF := Aa (tq x (by omega) hp.2 (by omega) hall hris)
          have hcn := aO A3 k c3 x.kids W (by omega) g3
          clear hall hris hp
          go_wp2_with (go_at_call 200; refine hcn.mono ?_; rintro e w' ⟨rfl, rfl⟩)
          go_ret
          exact ⟨by rw [HF.out]; rfl, hb⟩
    · have HF := Aa (ig x (by omega))
      have t1 : ((n2 : Int) != (n3 : Int)) = true := by simp; omega
      go_enter Tryz.func183, Tryz.ntmps183
      go_wp2_with fail
      rw [<- HW.out]
      refine HPK.out.mono ?_
      rintro e w' ⟨rfl, rfl⟩
      clear HPK h1 h2 h3
      go_wp2_with fail
      go_ret
      exact ⟨by rw [HF.out]; rfl, hb⟩
  · have HF := Aa (gZ x (by rw [hl1]; exact hp))
    have hpk : Calls Tryz.prog 199 #[.slice A1 n1 c1] W fun e w' => e = .returned (.tuple #[.int .u64 0, .bool false]) /\ W = w' := by
      by_cases h15 : n1 <= 15
      · have TD : x.pre.all DL = false := by
          cases hh : x.pre.all DL with
          | false => rfl
          | true => exact absurd ⟨h15, hh⟩ hp
        exact Ah2 A1 n1 c1 x.pre W h15 g1 TD
      · exact Ad9 A1 n1 c1 W (by omega) (by omega)
    have HPK := Aa hpk
    clear hpk hp
    go_enter Tryz.func183, Tryz.ntmps183
    go_wp2_with fail
    rw [<- HW.out]
    refine HPK.out.mono ?_
    rintro e w' ⟨rfl, rfl⟩
    clear HPK h1 h2 h3
    go_wp2_with fail
    go_ret
    exact ⟨by rw [HF.out]; rfl, hb⟩
