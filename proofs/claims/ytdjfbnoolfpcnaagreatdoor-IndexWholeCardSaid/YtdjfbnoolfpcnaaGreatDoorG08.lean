import Derived.IntWalk
import Derived.Deep.RegionWith
import Derived.Deep.RegionLaw
import Derived.Test.YtdjfbnoolfpcnaaGreatDoorG01
import Derived.Test.YtdjfbnoolfpcnaaGreatDoorG03
import Derived.Test.YtdjfbnoolfpcnaaGreatDoorG04
import Derived.Test.YtdjfbnoolfpcnaaGreatDoorG05
import Derived.Test.YtdjfbnoolfpcnaaGreatDoorG06
import Derived.Test.YtdjfbnoolfpcnaaGreatDoorG07
namespace Go.Proofs.YtdjfbnoolfpcnaaGreatDoor
open Go.RowKit
theorem blk7{w:World}{g:Nat}{e:TypeId}{a b c d e' f i:Value}(h:Blk w g e [a,b,c,d,e',f,i]):
 w.cell? ⟨g,0,none⟩=some a∧w.cell? ⟨g,1,none⟩=some b∧w.cell? ⟨g,2,none⟩=some c∧w.cell? ⟨g,3,none⟩=some d∧w.cell? ⟨g,4,none⟩=some e'∧w.cell? ⟨g,5,none⟩=some f∧w.cell? ⟨g,6,none⟩=some i:=
 ⟨h.cell 0,h.cell 1,h.cell 2,h.cell 3,h.cell 4,h.cell 5,h.cell 6⟩
theorem q_dr{P:Program}{f:FuncId}{args:Array Value}{W:World}{n:Nat}{v:Value}(h:Calls P f args (W.drewN n) fun e w'=>e= .returned v∧Dr (W.drewN n) w'):
 Calls P f args (W.drewN n) fun e w''=>e= .returned v∧∃m,w''=W.drewN m:=
 h.mono fun _ _⟨he,m,hm⟩=>⟨he,n+m,by rw [hm,World.drewN_drewN]⟩
theorem q_eq{P:Program}{f:FuncId}{args:Array Value}{W:World}{n:Nat}{v:Value}(h:Calls P f args (W.drewN n) fun e w'=>e= .returned v∧W.drewN n=w'):
 Calls P f args (W.drewN n) fun e w''=>e= .returned v∧∃m,w''=W.drewN m:=
 h.mono fun _ _⟨he,hm⟩=>⟨he,n,hm.symm⟩
structure PoolAt(w:World)(d p L:Nat)(s:St)(tb hb n cT cH:Nat):Prop where
 y0:w.cell? ⟨p,0,none⟩=some (.pointer (some ⟨d,0,none⟩))
 y1:w.cell? ⟨p,1,none⟩=some (.int .i64 (s.sh.lines:Nat))
 y2:w.cell? ⟨p,2,none⟩=some (.int .i64 (s.sh.slabs:Nat))
 y3:w.cell? ⟨p,3,none⟩=some (.int .i64 (s.sh.table:Nat))
 y4:w.cell? ⟨p,4,none⟩=some (.int .i64 (s.sh.data:Nat))
 y5:w.cell? ⟨p,5,none⟩=some (.slice (some ⟨tb,0,none⟩) n cT)
 y6:w.cell? ⟨p,6,none⟩=some (.slice (some ⟨hb,0,none⟩) n cH)
 tk:∀i,i<n→w.cell? ⟨tb,i,none⟩=some (.int .u64 (tkN s i:Nat))
 hd:∀i,i<n→w.cell? ⟨hb,i,none⟩=some (.int .u64 (hdN s i:Nat))
 ok:ShOk L s.sh
 L1:L≤1024
 nsh:n=s.sh.slabs
 ntk:s.tk.length=n
theorem getD_at(xs:List UInt64)(i:Nat)(h:i<xs.length):xs.getD i 0=xs[i]:=by
 rw [List.getD_eq_getElem?_getD,List.getElem?_eq_getElem h];rfl
theorem SysRepL.at{len:SMode}{w:World}{d p L:Nat}{s:St}{tb hb n cT cH:Nat}{own:Nat→Prop}(h:SysRepL len w d p L s tb hb n cT cH own):PoolAt w d p L s tb hb n cT cH:=by
 obtain⟨y0,y1,y2,y3,y4,y5,y6⟩:=blk7 h.box;refine⟨y0,y1,y2,y3,y4,y5,y6,fun i hi=> ?_,fun i hi=> ?_,shape_ok h.shape,h.L1,h.nsh,h.ntk⟩
 ·have hl:i<s.tk.length:=by rw [h.ntk];exact hi
  rw [h.tk.cell i hl,tkN,getD_at _ _ hl]
 ·have hl:i<s.hd.length:=by rw [h.nhd];exact hi
  rw [h.hd.cell i hl,hdN,getD_at _ _ hl]
theorem tkN_lt(s:St)(i:Nat):tkN s i<18446744073709551616:=UInt64.toNat_lt _
theorem hdN_lt(s:St)(i:Nat):hdN s i<18446744073709551616:=UInt64.toNat_lt _
theorem bothN_lt(s:St)(i:Nat):bothN s i<18446744073709551616:=Nat.or_lt_two_pow (n:=64) (tkN_lt s i) (hdN_lt s i)
section
variable{w:World}{d p L:Nat}{s:St}{tb hb n cT cH:Nat}
theorem none_pool(h:PoolAt w d p L s tb hb n cT cH):Calls Tryz.prog 37 #[.pointer (some ⟨p,0,none⟩)] w fun e w'=>e= .returned (.bool false)∧w=w':=by
 have y0:=h.y0;clear h;go_enter Tryz.func37,Tryz.ntmps37;go_wp2;go_ret;exact⟨rfl,rfl⟩
theorem entry_pool(h:PoolAt w d p L s tb hb n cT cH)(i:Nat)(hi:i<n):Calls Tryz.prog 60 #[.pointer (some ⟨p,0,none⟩),.int .i64 (i:Int)] w fun e w'=>e= .returned (.int .i64 ((8*(s.sh.table/8+i):Nat):Int))∧w=w':=by
 have y3:=h.y3;have ht:=h.ok.table;have hs:=h.nsh;have hf:=h.ok.fits;have hL:=h.L1;rw [ht]at y3;rw [show 8*(s.sh.table/8+i)=128+8*i by omega];clear h;go_enter Tryz.func60,Tryz.ntmps60;go_wp2;go_ret;exact⟨by go_num,rfl⟩
theorem both_pool(h:PoolAt w d p L s tb hb n cT cH)(i:Nat)(hi:i<n):Calls Tryz.prog 120 #[.pointer (some ⟨p,0,none⟩),.int .i64 (i:Int)] w fun e w'=>e= .returned (.int .u64 (bothN s i:Nat))∧Dr w w':=by
 have y5:=h.y5;have y6:=h.y6;have c1:=h.tk i hi;have c2:=h.hd i hi;have HE:=Lib.hid (u64_or_nat (tkN s i) (hdN s i) (tkN_lt s i) (hdN_lt s i));clear h;go_enter Tryz.func120,Tryz.ntmps120
 go_wp2_with fail
 go_quiet(fail)
 go_wp2_with fail
 rw [HE.out];go_ret;exact⟨rfl,_,rfl⟩
theorem place_pool(h:PoolAt w d p L s tb hb n cT cH)(i c a:Nat)(hi:i<n)(hc:c<4)(ha:a≤16):Calls Tryz.prog 39 #[.pointer (some ⟨p,0,none⟩),.int .i64 (i:Int),.int .i64 (c:Int),.int .i64 (a:Int)] w fun e w'=>e= .returned (.int .i64 (placeN s.sh i c a:Nat))∧Dr w w':=by
 have y4:=h.y4;have hs:=h.nsh;have hf:=h.ok.fits;have hL:=h.L1;have hl:=linesN_le c;have hm:64*linesN c*a≤256*16:=Nat.mul_le_mul (by omega) ha;have HP:Hid (((placeN s.sh i c a:Nat):Int)=(s.sh.data:Int)+1024*(i:Int)+64*((linesN c:Nat):Int)*(a:Int)):=Lib.hid (by unfold placeN;rw [Int.natCast_add,Int.natCast_add,Int.natCast_mul,Int.natCast_mul,Int.natCast_mul];rfl);have e0:(64:Int)*((linesN c:Nat):Int)*(a:Int)=((64*linesN c*a:Nat):Int):=by rw [Int.natCast_mul,Int.natCast_mul];rfl
 have HL:=Lib.hid (slabLines_any c · (by omega));generalize linesN c=lc at*;have s1:IntKind.i64.wrap (1024*(i:Int))=1024*(i:Int):=IntWalk.i64_in _ (by omega);have s2:IntKind.i64.wrap ((s.sh.data:Int)+1024*(i:Int))=(s.sh.data:Int)+1024*(i:Int):=IntWalk.i64_in _ (by omega);have s3:IntKind.i64.wrap (64*(lc:Int))=64*(lc:Int):=IntWalk.i64_in _ (by omega);have s4:IntKind.i64.wrap (64*(lc:Int)*(a:Int))=64*(lc:Int)*(a:Int):=IntWalk.i64_in _ (by rw [e0];omega);have s5:IntKind.i64.wrap ((s.sh.data:Int)+1024*(i:Int)+64*(lc:Int)*(a:Int))=(s.sh.data:Int)+1024*(i:Int)+64*(lc:Int)*(a:Int):=IntWalk.i64_in _ (by rw [e0];omega);clear h e0;go_enter Tryz.func39,Tryz.ntmps39
 go_wp2_with fail
 go_quiet((go_at_call 67;exact q_eq (HL.out _)))
 go_wp2_with fail
 rw [HP.out];go_ret;exact⟨rfl,_,rfl⟩
theorem PoolAt.dr{w':World}(h:PoolAt w d p L s tb hb n cT cH)(k:Dr w w'):PoolAt w' d p L s tb hb n cT cH:=by
 obtain⟨q,rfl⟩:=k;exact⟨h.y0,h.y1,h.y2,h.y3,h.y4,h.y5,h.y6,h.tk,h.hd,h.ok,h.L1,h.nsh,h.ntk⟩
def findV(s:St)(off:Int):Value:=match findP s off with
 | some (i,a)=> .tuple #[.int .i64 (i:Int),.int .i64 (a:Int),.bool true]
 | none=> .tuple #[.int .i64 0,.int .i64 0,.bool false]
set_option maxHeartbeats 1000000 in
theorem find_pool(h:PoolAt w d p L s tb hb n cT cH)(off:Int)(ho: -9223372036854775808≤off∧off≤9223372036854775807):Calls Tryz.prog 89 #[.pointer (some ⟨p,0,none⟩),.int .i64 off] w fun e w'=>e= .returned (findV s off)∧Dr w w':=by
 have y4:=h.y4;have y5:=h.y5;have hs:=h.nsh;have hn:=h.ntk;have hf:=h.ok.fits;have hL:=h.L1;have hd:=Dr.refl w;have H:=Lib.hid h;by_cases h1:off<(s.sh.data:Int)
 ·have t1:decide (off<(s.sh.data:Int))=true:=decide_eq_true h1;have HV:Hid (findV s off= .tuple #[.int .i64 0,.int .i64 0,.bool false]):=Lib.hid (by rw [findV,findP,if_pos (.inl h1)]);clear h h1 hs hn hf hL;go_enter Tryz.func89,Tryz.ntmps89
  go_wp2_with fail
  go_quiet(fail)
  go_wp2_with fail
  go_ret3
  exact⟨by rw [HV.out];rfl,_,rfl⟩
 ·have t1:decide (off<(s.sh.data:Int))=false:=decide_eq_false h1;have s1:IntKind.i64.wrap (1024*(n:Int))=1024*(n:Int):=IntWalk.i64_in _ (by omega);have s2:IntKind.i64.wrap ((s.sh.data:Int)+1024*(n:Int))=(s.sh.data:Int)+1024*(n:Int):=IntWalk.i64_in _ (by omega);by_cases h2:(s.sh.data:Int)+1024*(n:Int)≤off
  ·have t2:decide ((s.sh.data:Int)+1024*(n:Int)≤off)=true:=decide_eq_true h2;have HV:Hid (findV s off= .tuple #[.int .i64 0,.int .i64 0,.bool false]):=Lib.hid (by rw [findV,findP,if_pos (.inr (by rw [hn];omega))]);clear h h1 h2 hs hn hf hL;go_enter Tryz.func89,Tryz.ntmps89
   go_wp2_with fail
   go_quiet(fail)
   go_wp2_with fail
   go_ret3
   exact⟨by rw [HV.out];rfl,_,rfl⟩
  ·have t2:decide ((s.sh.data:Int)+1024*(n:Int)≤off)=false:=decide_eq_false h2;have HF:Hid (findP s off=if linesN (classW (bothN s ((off.toNat-s.sh.data)/1024)))=0∨(off.toNat-s.sh.data)%1024%(64*linesN (classW (bothN s ((off.toNat-s.sh.data)/1024))))≠0 then none else
    some ((off.toNat-s.sh.data)/1024,(off.toNat-s.sh.data)%1024/(64*linesN (classW (bothN s ((off.toNat-s.sh.data)/1024)))))):=Lib.hid (by rw [findP,if_neg (by rw [hn];omega)])
   obtain⟨o,ho2,e9⟩:∃o:Nat,off.toNat-s.sh.data=o∧off=(s.sh.data:Int)+(o:Int):=⟨off.toNat-s.sh.data,rfl,by omega⟩;rw [ho2]at HF;have ho3:o<1024*n:=by omega
   have e1:IntKind.i64.wrap (off- (s.sh.data:Int))=(o:Int):=by rw [IntWalk.i64_in _ (by omega)];omega
   have e2:(o:Int).tdiv 1024=((o/1024:Nat):Int):=by rw [Int.tdiv_eq_ediv_of_nonneg (by omega)];omega
   have e3:(o:Int).tmod 1024=((o%1024:Nat):Int):=by rw [Int.tmod_eq_emod_of_nonneg (by omega)];omega
   have hi:o/1024<n:=by omega
   have hr:o%1024<1024:=Nat.mod_lt _ (by decide);generalize o/1024=i at*;generalize o%1024=r at*;have e4:IntKind.i64.wrap (i:Int)=(i:Int):=IntWalk.i64_in _ (by omega);have e5:IntKind.i64.wrap (r:Int)=(r:Int):=IntWalk.i64_in _ (by omega);have hcl:=classW_lt (bothN s i);have hll:=linesN_le (classW (bothN s i));clear h h1 h2 ho2 e9 hs hn hf hL;by_cases c1:linesN (classW (bothN s i))=0
   ·have HV:Hid (findV s off= .tuple #[.int .i64 0,.int .i64 0,.bool false]):=Lib.hid (by rw [findV,HF.out,if_pos (.inl c1)]);have HL:=Lib.hid (slabLines_any (classW (bothN s i)) · (by omega));rw [c1]at HL;clear c1 hll HF;go_enter Tryz.func89,Tryz.ntmps89
    go_wp2_with fail
    go_quiet(fail)
    go_wp2_with fail
    go_quiet(fail)
    go_wp2_with fail
    refine(both_pool (H.out.dr (Dr.one w _)) i hi).mono ?_;rintro e w1⟨rfl,hd1⟩;replace hd1:=(Dr.one w _).trans hd1
    go_wp2_with fail
    refine(classS_any (bothN s i) _ (bothN_lt s i)).mono ?_;rintro e w2⟨rfl,hd2⟩;replace hd2:=hd1.trans hd2
    go_wp2_with fail
    refine(HL.out _).mono ?_;rintro e w3⟨rfl,rfl⟩
    go_wp2_with fail
    go_ret3
    exact⟨by rw [HV.out];rfl,hd2⟩
   ·have HL:=Lib.hid (slabLines_any (classW (bothN s i)) · (by omega));have q1:((64:Int)*((linesN (classW (bothN s i)):Nat):Int)==0)=false:=by rw [beq_eq_false_iff_ne];omega
    have hm:(r:Int)%(64*((linesN (classW (bothN s i)):Nat):Int))=((r%(64*linesN (classW (bothN s i))):Nat):Int):=by rw [Int.natCast_emod,Int.natCast_mul];rfl
    by_cases c2:r%(64*linesN (classW (bothN s i)))=0
    ·have HV:Hid (findV s off= .tuple #[.int .i64 (i:Int),.int .i64 ((r/(64*linesN (classW (bothN s i))):Nat):Int),.bool true]):=Lib.hid (by rw [findV,HF.out,if_neg (by rintro(h| h);exact c1 h;exact h c2)]);have q2:((r:Int)%(64*((linesN (classW (bothN s i)):Nat):Int))!=0)=false:=by rw [hm,c2];rfl
     have q3:(r:Int).tdiv (64*((linesN (classW (bothN s i)):Nat):Int))=((r/(64*linesN (classW (bothN s i))):Nat):Int):=by rw [Int.tdiv_eq_ediv_of_nonneg (by omega),Int.natCast_ediv,Int.natCast_mul];rfl
     have hq:r/(64*linesN (classW (bothN s i)))≤r:=Nat.div_le_self _ _;generalize r/(64*linesN (classW (bothN s i)))=qt at*;have q4:IntKind.i64.wrap (qt:Int)=(qt:Int):=IntWalk.i64_in _ (by omega);generalize linesN (classW (bothN s i))=lc at*;clear hm HF c2;go_enter Tryz.func89,Tryz.ntmps89
     go_wp2_with fail
     go_quiet(fail)
     go_wp2_with fail
     go_quiet(fail)
     go_wp2_with fail
     refine(both_pool (H.out.dr (Dr.one w _)) i hi).mono ?_;rintro e w1⟨rfl,hd1⟩;replace hd1:=(Dr.one w _).trans hd1
     go_wp2_with fail
     refine(classS_any (bothN s i) _ (bothN_lt s i)).mono ?_;rintro e w2⟨rfl,hd2⟩;replace hd2:=hd1.trans hd2
     go_wp2_with fail
     refine(HL.out _).mono ?_;rintro e w3⟨rfl,rfl⟩
     go_wp2_with fail
     go_quiet(fail)
     go_wp2_with fail
     go_ret3
     exact⟨by rw [HV.out];rfl,hd2.trans (Dr.one _ _)⟩
    ·have HV:Hid (findV s off= .tuple #[.int .i64 0,.int .i64 0,.bool false]):=Lib.hid (by rw [findV,HF.out,if_pos (.inr c2)]);have q2:((r:Int)%(64*((linesN (classW (bothN s i)):Nat):Int))!=0)=true:=by rw [hm,bne_iff_ne];omega
     generalize linesN (classW (bothN s i))=lc at*;clear hm HF c2;go_enter Tryz.func89,Tryz.ntmps89
     go_wp2_with fail
     go_quiet(fail)
     go_wp2_with fail
     go_quiet(fail)
     go_wp2_with fail
     refine(both_pool (H.out.dr (Dr.one w _)) i hi).mono ?_;rintro e w1⟨rfl,hd1⟩;replace hd1:=(Dr.one w _).trans hd1
     go_wp2_with fail
     refine(classS_any (bothN s i) _ (bothN_lt s i)).mono ?_;rintro e w2⟨rfl,hd2⟩;replace hd2:=hd1.trans hd2
     go_wp2_with fail
     refine(HL.out _).mono ?_;rintro e w3⟨rfl,rfl⟩
     go_wp2_with fail
     go_ret3
     exact⟨by rw [HV.out];rfl,hd2⟩
end
inductive Pw where
 | up(lf:Int)
 | down(P:(Nat→UInt64)→Prop)
def Pw.mode:Pw→SMode
 | .up lf=> .up (MU lf)
 | .down P=> .down P
structure Ms where
 pw:Pw
 s:St
def wrM(q:Ms)(N:Nat)(ws2:Nat→UInt64):Ms×Int:=
 match q.pw with
 | .up lf=>if lf<0∨(N:Int)≤lf then(⟨if lfN lf N=0 then .down (fun ws'=>ws'=ws2)else .up (lfN lf N),{q.s with ws:=ws2}⟩,0)else(⟨.down (Half q.s.ws ws2),{q.s with ws:=ws2}⟩,12)
 | .down P=>(⟨.down P,{q.s with ws:=ws2}⟩,12)
abbrev SysM(w:World)(d p L:Nat)(q:Ms)(F:Nat→Prop):Prop:=SysL q.pw.mode w d p L q.s F
theorem wrM_s(q:Ms)(N:Nat)(ws2:Nat→UInt64):(wrM q N ws2).1.s={q.s with ws:=ws2}:=by
 unfold wrM;cases q.pw with
 | up lf=>simp only;split<;>rfl
 | down P=>rfl
theorem wrM_end(s:St)(N:Nat)(ws2:Nat→UInt64):wrM ⟨.up (-1),s⟩ N ws2=(⟨.up (-1),{s with ws:=ws2}⟩,0):=by
 unfold wrM;simp only;rw [if_pos (.inl (by decide)),lfN_end,if_neg (by decide)]
section
variable{w w':World}{d p L:Nat}{s:St}{F:Nat→Prop}{q:Ms}
theorem SysL.downWs{P:(Nat→UInt64)→Prop}(h:SysL (.down P) w d p L s F)(ws2:Nat→UInt64):SysL (.down P) w d p L {s with ws:=ws2} F:=by
 obtain⟨tb,hb,n,cT,cH,own,h,hF⟩:=h;exact⟨tb,hb,n,cT,cH,own,⟨h.dev,h.L0,h.L1,h.shape,h.box,h.tk,h.hd,h.ntk,h.nhd,h.nsh,h.cT,h.cH,h.dp,h.dt,h.dh,h.pt,h.ph,h.th,h.tabs,h.g1,h.g2⟩,hF⟩
theorem DevDown.blk{P:(Nat→UInt64)→Prop}{own:Nat→Prop}(h:DevDown w d L P own):∃g v2 v3,Blk w d 93 [.slice (some ⟨g,0,none⟩) L L,.bool true,v2,v3]:=by
 obtain⟨m,ws,mark,h1,⟨g,hb,hr,_⟩,_⟩:=h;obtain⟨st,hbx⟩:=hr.box;rw [decide_eq_true h1]at hbx;exact⟨g,_,_,hbx⟩
theorem SysRepL.outM {lf : Int} {N : Nat} {tb hb n cT cH g : Nat} {own : Nat → Prop} {hb0 : Nat → Option Nat} {j : Nat} {xs : List UInt64} {c : Int} (h : SysRepL (.up (MU lf)) w d p L s tb hb n cT cH own) (hF : ∀ b, F b ↔ (own b ∨ b = p ∨ b = tb ∨ b = hb)) (ho : ∀ b, own b ↔ devOwn d L g hb0 b)
    (hd : Wrote lf N w d L g hb0 s.ws j xs c w') : c = (wrM ⟨.up lf, s⟩ N (putWs s.ws j xs)).2 ∧ ∃ F', SysM w' d p L (wrM ⟨.up lf, s⟩ N (putWs s.ws j xs)).1 F' ∧ Moved F F' w w' := by
  have hlf := h.dev.2
  change lf ≠ 0 at hlf
  rcases hd with ⟨h1, h2, h3⟩ | ⟨h1, h2, h3, len, ws1, mark, h4, h5, h6, h7, h8⟩
  · have e : wrM ⟨.up lf, s⟩ N (putWs s.ws j xs) = (⟨if lfN lf N = 0 then .down (fun ws' => ws' = putWs s.ws j xs) else .up (lfN lf N), { s with ws := putWs s.ws j xs }⟩, 0) := by
      unfold wrM; simp only; rw [if_pos h2]
    rw [e]
    refine ⟨h1, ?_⟩
    by_cases hz : lfN lf N = 0
    · obtain ⟨F', hs, hm⟩ := h.cut (P := fun ws' => ws' = putWs s.ws j xs) hF ho h3 hz (fun _ => Nat.zero_le _) (fun _ _ h => nomatch h) (fun pick _ => by funext q; unfold undoD; rw [show ((MU (lfN lf N)).chg (q / 8)) = [] from rfl, List.drop_nil]; rfl) (putWs s.ws j xs)
      refine ⟨F', ?_, hm⟩
      unfold SysM
      simp only [if_pos hz]
      exact hs
    · obtain ⟨F', hs, hm⟩ := h.wrote hF ho h3 hz
      refine ⟨F', ?_, hm⟩
      unfold SysM
      simp only [if_neg hz]
      exact hs
  · have e : wrM ⟨.up lf, s⟩ N (putWs s.ws j xs) = (⟨.down (Half s.ws (putWs s.ws j xs)), { s with ws := putWs s.ws j xs }⟩, 12) := by
      unfold wrM; simp only; rw [if_neg (by omega)]
    rw [e]
    obtain ⟨F', hs, hm⟩ := h.cut (P := Half s.ws (putWs s.ws j xs)) hF ho h8 h4 h5 (fun i c hc => by
      obtain ⟨t, t1, t2, _⟩ := h6 i c hc
      exact ⟨t, t1, t2⟩) (fun pick _ => chgIn_half h6 h7 pick) (putWs s.ws j xs)
    exact ⟨h1, F', hs, hm⟩
theorem sys_putM(h:SysM w d p L q F)(j:Nat)(x:UInt64)(hj:j<8*L):
 Calls Tryz.prog 51 #[.pointer (some ⟨d,0,none⟩),.int .i64 ((8*j:Nat):Int),.int .u64 (x.toNat:Int)] w fun e w'=>e= .returned (.int .i64 (wrM q 3 (put1 q.s.ws j x)).2)∧
  ∃F',SysM w' d p L (wrM q 3 (put1 q.s.ws j x)).1 F'∧Moved F F' w w':=by
 obtain⟨pw,s⟩:=q;have hs:=h;obtain⟨tb,hb,n,cT,cH,own,h,hF⟩:=h;cases pw with
 | up lf=>
   obtain⟨⟨g,hb0,hr,ho⟩,hu⟩:=h.dev;refine(put_devU lf d L g hb0 s.ws j x w h.L0 h.L1 hr hj).mono ?_;rintro e w'⟨c,rfl,hd⟩;have:=h.outM hF ho hd;rw [putWs_one]at this;exact⟨by rw [this.1],this.2⟩
 | down P=>
   obtain⟨g,v2,v3,hB⟩:=DevDown.blk h.dev;refine(put_down d L g j x v2 v3 own w h.L0 h.L1 hB).mono ?_;rintro e w'⟨rfl,hb⟩;exact⟨rfl,F,SysL.downWs (SysL.below hs hb) _,Moved.of_below hb⟩
theorem sys_putAllM(h:SysM w d p L q F)(j n c:Nat)(A:Option Addr)(xs:List UInt64)(hj:j+n≤8*L)(hn0:0<n)(hx:Ws w A n xs):
 Calls Tryz.prog 71 #[.pointer (some ⟨d,0,none⟩),.int .i64 ((8*j:Nat):Int),.slice A n c] w fun e w'=>e= .returned (.int .i64 (wrM q (n+((j+n-1)/8-j/8+1)+1) (putWs q.s.ws j xs)).2)∧
  ∃F',SysM w' d p L (wrM q (n+((j+n-1)/8-j/8+1)+1) (putWs q.s.ws j xs)).1 F'∧Moved F F' w w':=by
 obtain⟨pw,s⟩:=q;have hs:=h;obtain⟨tb,hb,n',cT,cH,own,h,hF⟩:=h;cases pw with
 | up lf=>
   obtain⟨⟨g,hb0,hr,ho⟩,hu⟩:=h.dev;refine(putAll_devU lf d L g hb0 s.ws j n c A xs w h.L0 h.L1 hr hj hn0 hx).mono ?_;rintro e w'⟨c,rfl,hd⟩;have:=h.outM hF ho hd;exact⟨by rw [this.1],this.2⟩
 | down P=>
   obtain⟨g,v2,v3,hB⟩:=DevDown.blk h.dev;refine(putAll_down d L g j n c A xs v2 v3 w h.L0 h.L1 hB hj hn0 hx).mono ?_;rintro e w'⟨rfl,hb⟩;exact⟨rfl,F,SysL.downWs (SysL.below hs hb) _,Moved.of_below hb⟩
end
def putPM(q:Ms)(i:Nat)(x:UInt64):Ms×Int:=
 match wrM q 3 (put1 q.s.ws (q.s.sh.table/8+i) x)with
 | (r,e)=>if e=0 then(⟨r.pw,putP q.s i x⟩,0)else(r,e)
def takeM(q:Ms)(off:Int):Ms×Int:=
 match findP q.s off with
 | none=>(q,7)
 | some (i,a)=>if hasW (hdN q.s i) a then
  match putPM q i (UInt64.ofNat (takeW (tkN q.s i) (classW (hdN q.s i)) a).1)with
  | (r,e)=>if e=0 then(⟨r.pw,{r.s with hd:=q.s.hd.set i (UInt64.ofNat (dropW (hdN q.s i) a).1)}⟩,0)else(r,e)
   else(q,7)
def dropM(q:Ms)(off:Int):Ms×Int:=
 match findP q.s off with
 | none=>(q,7)
 | some (i,a)=>
   if(dropW (hdN q.s i) a).2 then(⟨q.pw,{q.s with hd:=q.s.hd.set i (UInt64.ofNat (dropW (hdN q.s i) a).1)}⟩,0)
   else if(dropW (tkN q.s i) a).2 then putPM q i (UInt64.ofNat (dropW (tkN q.s i) a).1)
   else(q,7)
theorem putPM_end(s:St)(i:Nat)(x:UInt64):putPM ⟨.up (-1),s⟩ i x=(⟨.up (-1),putP s i x⟩,0):=by
 unfold putPM;rw [wrM_end];rfl
theorem putPM_ok{q r:Ms}{i:Nat}{x:UInt64}(h:putPM q i x=(r,0)):r.s=putP q.s i x:=by
 unfold putPM at h;split at h;split at h
 ·injection h with h _;rw [←h]
 ·rename_i h0;injection h with _ h;exact absurd h h0
theorem takeM_end(s:St)(off:Int):takeM ⟨.up (-1),s⟩ off=(⟨.up (-1),(takeP s off).1⟩,(takeP s off).2):=by
 unfold takeM takeP;cases findP s off with
 | none=>rfl
 | some ia=>
   obtain⟨i,a⟩:=ia;simp only [putPM_end];cases hasW (hdN s i) a<;>rfl
theorem dropM_end(s:St)(off:Int):dropM ⟨.up (-1),s⟩ off=(⟨.up (-1),(dropP s off).1⟩,(dropP s off).2):=by
 unfold dropM dropP;cases findP s off with
 | none=>rfl
 | some ia=>
   obtain⟨i,a⟩:=ia;simp only [putPM_end];cases(dropW (hdN s i) a).2
   ·cases(dropW (tkN s i) a).2<;>rfl
   ·rfl
theorem findP_some{s:St}{off:Int}{i a:Nat}(h:findP s off=some (i,a)):i<s.tk.length∧a<16∧off=((placeN s.sh i (classW (bothN s i)) a:Nat):Int)∧1≤linesN (classW (bothN s i))∧linesN (classW (bothN s i))*a+linesN (classW (bothN s i))≤16:=by
 unfold findP at h;split at h
 ·cases h
 ·rename_i h1;obtain⟨o,ho⟩:∃o,off.toNat-s.sh.data=o:=⟨_,rfl⟩;rw [ho]at h;have hoff:off=((s.sh.data+o:Nat):Int):=by omega
  have ho2:o<1024*s.tk.length:=by omega
  split at h
  ·cases h
  ·rename_i h2;injection h with h
   injection h with hi ha
   rw [hi]at h2 ha;have hl1:linesN (classW (bothN s i))≠0:=fun e=>h2 (.inl e)
   have hm:o%1024%(64*linesN (classW (bothN s i)))=0:=Classical.byContradiction fun e=>h2 (.inr e)
   have hlc:linesN (classW (bothN s i))=1∨linesN (classW (bothN s i))=4:=by
    unfold linesN at hl1⊢;split at hl1<;>simp_all
   unfold placeN;rcases hlc with e| e
   ·rw [e]at hm ha⊢;refine⟨by omega,by omega,by omega,by omega,by omega⟩
   ·rw [e]at hm ha⊢;refine⟨by omega,by omega,by omega,by omega,by omega⟩
section
variable{w:World}{d p L:Nat}{s:St}{tb hb n cT cH:Nat}{own:Nat→Prop}
set_option maxHeartbeats 1000000 in
theorem class_pool(h:PoolAt w d p L s tb hb n cT cH)(off:Int)(ho: -9223372036854775808≤off∧off≤9223372036854775807):Calls Tryz.prog 74 #[.pointer (some ⟨p,0,none⟩),.int .i64 off] w fun e w'=>e= .returned (.int .i64 (classP s off:Nat))∧Dr w w':=by
 have H:=Lib.hid h;cases hf:findP s off with
 | none=>
   have HV:Hid (classP s off=0):=Lib.hid (by rw [classP,hf]);have HF:Hid (findV s off= .tuple #[.int .i64 0,.int .i64 0,.bool false]):=Lib.hid (by rw [findV,hf]);clear h hf;go_enter Tryz.func74,Tryz.ntmps74
   go_wp2_with fail
   refine(none_pool H.out).mono ?_;rintro e w'⟨rfl,rfl⟩
   go_wp2_with fail
   refine(find_pool H.out off ho).mono ?_;rintro e w1⟨rfl,hd⟩;rw [HF.out]
   go_wp2_with fail
   go_ret;exact⟨by rw [HV.out];rfl,hd⟩
 | some ia=>
   obtain⟨i,a⟩:=ia;obtain⟨hi,ha, -⟩:=findP_some hf;rw [h.ntk]at hi;have HF:Hid (findV s off= .tuple #[.int .i64 (i:Int),.int .i64 (a:Int),.bool true]):=Lib.hid (by rw [findV,hf]);have HH:=Lib.hid (hasS_any (tkN s i) a · (tkN_lt s i) (by omega));have HC:=Lib.hid (classS_any (tkN s i) · (tkN_lt s i));have hv:classP s off=if hasW (tkN s i) a then classW (tkN s i)else 0:=by rw [classP,hf]
   cases hh:hasW (tkN s i) a
   ·rw [hh]at hv HH;have HV:=Lib.hid hv;clear h hf hv hh;go_enter Tryz.func74,Tryz.ntmps74
    go_wp2_with fail
    refine(none_pool H.out).mono ?_;rintro e w'⟨rfl,rfl⟩
    go_wp2_with fail
    refine(find_pool H.out off ho).mono ?_;rintro e w1⟨rfl,hd⟩;rw [HF.out];have h1:=H.out.dr hd;have y5:=h1.y5;have c1:=h1.tk i hi;clear h1
    go_wp2_with fail
    refine(HH.out _).mono ?_;rintro e w2⟨rfl,hd2⟩;clear y5 c1
    go_wp2_with fail
    go_ret;exact⟨by rw [HV.out];rfl,hd.trans hd2⟩
   ·rw [hh]at hv HH;have HV:=Lib.hid hv;clear h hf hv hh;go_enter Tryz.func74,Tryz.ntmps74
    go_wp2_with fail
    refine(none_pool H.out).mono ?_;rintro e w'⟨rfl,rfl⟩
    go_wp2_with fail
    refine(find_pool H.out off ho).mono ?_;rintro e w1⟨rfl,hd⟩;rw [HF.out];have h1:=H.out.dr hd;have y5:=h1.y5;have c1:=h1.tk i hi;clear h1
    go_wp2_with fail
    refine(HH.out _).mono ?_;rintro e w2⟨rfl,hd2⟩;clear y5 c1;replace hd:=hd.trans hd2;have h1:=H.out.dr hd;have y5:=h1.y5;have c1:=h1.tk i hi;clear h1
    go_wp2_with fail
    refine(HC.out _).mono ?_;rintro e w3⟨rfl,hd3⟩;clear y5 c1
    go_wp2_with fail
    go_ret;exact⟨by rw [HV.out];rfl,hd.trans hd3⟩
theorem Tabs.set{w:World}(h:Tabs w){b:Nat}(h1:b≠0)(h2:b≠1)(k:Nat)(u:Value):Tabs (w.setCell ⟨b,k,none⟩ u):=
 h.keep (Below.heap_setCell w ⟨b,k,none⟩ u _ (fun e=>h1 e.symm)) (Below.heap_setCell w ⟨b,k,none⟩ u _ (fun e=>h2 e.symm))
theorem SysRepL.setTk{len:SMode}(h:SysRepL len w d p L s tb hb n cT cH own)(i:Nat)(x:UInt64):SysRepL len (w.setCell ⟨tb,i,none⟩ (wv x)) d p L {s with tk:=s.tk.set i x} tb hb n cT cH own:=by
 have keep:∀b,b≠tb→(w.setCell ⟨tb,i,none⟩ (wv x)).heap[b]? =w.heap[b]? :=fun b hb'=>Below.heap_setCell w ⟨tb,i,none⟩ _ b hb'
 exact⟨h.dev.touch ((Touch.refl (fun b=>b=tb) w).setCell (p:=⟨tb,i,none⟩) (.inl rfl) _) (fun b hb' e=>h.dt (e▸hb')),h.L0,h.L1,h.shape,(keep p h.pt).trans h.box,h.tk.set i x,h.hd.keep (keep hb (fun e=>h.th e.symm)),
  by rw [List.length_set];exact h.ntk,h.nhd,h.nsh,h.cT,h.cH,h.dp,h.dt,h.dh,h.pt,h.ph,h.th,h.tabs.set (fun e=>h.g1 (.inr (.inr (.inl e.symm)))) (fun e=>h.g2 (.inr (.inr (.inl e.symm)))) _ _,h.g1,h.g2⟩
theorem SysRepL.setHd{len:SMode}(h:SysRepL len w d p L s tb hb n cT cH own)(i:Nat)(x:UInt64):SysRepL len (w.setCell ⟨hb,i,none⟩ (wv x)) d p L {s with hd:=s.hd.set i x} tb hb n cT cH own:=by
 have keep:∀b,b≠hb→(w.setCell ⟨hb,i,none⟩ (wv x)).heap[b]? =w.heap[b]? :=fun b hb'=>Below.heap_setCell w ⟨hb,i,none⟩ _ b hb'
 exact⟨h.dev.touch ((Touch.refl (fun b=>b=hb) w).setCell (p:=⟨hb,i,none⟩) (.inl rfl) _) (fun b hb' e=>h.dh (e▸hb')),h.L0,h.L1,h.shape,(keep p h.ph).trans h.box,h.tk.keep (keep tb h.th),h.hd.set i x,
  h.ntk,by rw [List.length_set];exact h.nhd,h.nsh,h.cT,h.cH,h.dp,h.dt,h.dh,h.pt,h.ph,h.th,h.tabs.set (fun e=>h.g1 (.inr (.inr (.inr e.symm)))) (fun e=>h.g2 (.inr (.inr (.inr e.symm)))) _ _,h.g1,h.g2⟩
theorem Dr.drew(w:World):Dr w w.drew:=⟨1,rfl⟩
theorem SysL.dr{len:SMode}{F:Nat→Prop}{w':World}(h:SysL len w d p L s F)(k:Dr w w'):SysL len w' d p L s F:=h.below (k.below _)
theorem Moved.dr{F F':Nat→Prop}{w w' w'':World}(h:Moved F F' w w')(k:Dr w' w''):Moved F F' w w'':=h.below (k.below _)
theorem wv_ofN(x:Nat)(hx:x<18446744073709551616):wv (UInt64.ofNat x)= .int .u64 (x:Int):=by
 simp only [wv,UInt64.toNat_ofNat'];rw [Nat.mod_eq_of_lt hx]
set_option maxHeartbeats 1000000 in
theorem put_poolM{F:Nat→Prop}{q:Ms}(h:SysM w d p L q F)(i x:Nat)(hi:i<q.s.tk.length)(hx:x<18446744073709551616):
 Calls Tryz.prog 91 #[.pointer (some ⟨p,0,none⟩),.int .i64 (i:Int),.int .u64 (x:Int)] w fun e w'=>e= .returned (.int .i64 (putPM q i (UInt64.ofNat x)).2)∧∃F',SysM w' d p L (putPM q i (UInt64.ofNat x)).1 F'∧Moved F F' w w':=by
 have H:=Lib.hid h;obtain⟨tb,hb,n,cT,cH,own,hr,hF⟩:=h;have h1:=hr.at;have hin:i<n:=by rw [←h1.ntk];exact hi
 have y0:=h1.y0;have HE:=Lib.hid (fun W(hW:Dr w W)=>entry_pool (h1.dr hW) i hin);have hent:q.s.sh.table/8+i<8*L:=by
  have:=h1.ok.table;have:=h1.ok.fits;have:=h1.ok.tfits;have:=h1.nsh;omega
 have HP:=fun W(hW:Dr w W)=>sys_putM (H.out.dr hW) (q.s.sh.table/8+i) (UInt64.ofNat x) hent
 rw [show((UInt64.ofNat x).toNat:Int)=(x:Int)by rw [UInt64.toNat_ofNat',Nat.mod_eq_of_lt hx]]at HP;have hsw:=wrM_s q 3 (put1 q.s.ws (q.s.sh.table/8+i) (UInt64.ofNat x));obtain⟨⟨r,c⟩,hrc⟩:∃r,wrM q 3 (put1 q.s.ws (q.s.sh.table/8+i) (UInt64.ofNat x))=r:=⟨_,rfl⟩;have HV:Hid (putPM q i (UInt64.ofNat x)=if c=0 then(⟨r.pw,putP q.s i (UInt64.ofNat x)⟩,0)else(r,c)):=Lib.hid (by unfold putPM;rw [hrc]);rw [hrc]at HP hsw;simp only at hsw;have HP:=Lib.hid HP;have HSw:=Lib.hid hsw;clear h1 hr hF hent hrc hsw;go_enter Tryz.func91,Tryz.ntmps91
 go_wp2_with fail
 go_region_with(first
  | (go_at_call 60;go_loud(refine(HE.out _ (Dr.drew _)).mono ?_;rintro e w'⟨rfl,rfl⟩))
  | (go_at_call 51;go_loud(refine(HP.out _ (Dr.drew _)).mono ?_;rintro e w1⟨rfl,F1,hs1,hm1⟩)))
 all_goals(replace hm1:=(Moved.of_below ((Dr.drew w).below _)).trans hm1)
 all_goals(clear y0 HE HP)
 all_goals(by_cases hc0:c=0)
 all_goals first
  | (subst hc0
     rw [if_pos rfl]at HV;obtain⟨tb1,hb1,n1,cT1,cH1,own1,hr1,hF1⟩:=hs1;have h1:=hr1.at;have hin1:i<n1:=by rw [←h1.ntk,HSw.out];exact hi
     have y5:=h1.y5;have c1:=h1.tk i hin1;have f1:=hr1.tk.frozen i;have HR:=Lib.hid (hr1.setTk i (UInt64.ofNat x));rw [wv_ofN x hx,HSw.out]at HR;have HM:=Lib.hid (hm1.set (p:=⟨tb1,i,none⟩) (hm1.own tb1 ((hF1 tb1).2 (.inr (.inr (.inl rfl))))) (.int .u64 (x:Int)));clear h1 hr1 hm1
     go_wp2_with fail
     go_ret;rw [HV.out];exact⟨rfl,F1,⟨tb1,hb1,n1,cT1,cH1,own1,HR.out,hF1⟩,HM.out⟩)
  | (rw [if_neg hc0]at HV
     have t9:(c==0)=false:=by rw [beq_eq_false_iff_ne];exact hc0
     have HS1:=Lib.hid hs1;have HM1:=Lib.hid hm1;clear hs1 hm1 hc0
     go_wp2_with fail
     go_ret;rw [HV.out];exact⟨rfl,F1,HS1.out,HM1.out⟩)
end
section
variable{w:World}{d p L:Nat}{s:St}{tb hb n cT cH:Nat}{own:Nat→Prop}{F:Nat→Prop}
theorem SysRepL.dr{len:SMode}{w':World}(h:SysRepL len w d p L s tb hb n cT cH own)(k:Dr w w'):SysRepL len w' d p L s tb hb n cT cH own:=by
 obtain⟨q,rfl⟩:=k;exact⟨h.dev.below ((Dr.one w q).below _),h.L0,h.L1,h.shape,h.box,h.tk,h.hd,h.ntk,h.nhd,h.nsh,h.cT,h.cH,h.dp,h.dt,h.dh,h.pt,h.ph,h.th,h.tabs.below ((Dr.one w q).below _),h.g1,h.g2⟩
theorem SysRepL.held{m:SMode}(h:SysRepL m w d p L s tb hb n cT cH own)(hF:∀b,F b↔(own b∨b=p∨b=tb∨b=hb))(i x:Nat)(hx:x<18446744073709551616){W:World}(k:Dr w W):
 SysL m (W.setCell ⟨hb,i,none⟩ (.int .u64 (x:Int))) d p L {s with hd:=s.hd.set i (UInt64.ofNat x)} F∧Moved F F w (W.setCell ⟨hb,i,none⟩ (.int .u64 (x:Int))):=by
 have h1:=(h.dr k).setHd i (UInt64.ofNat x);rw [wv_ofN x hx]at h1;exact⟨⟨tb,hb,n,cT,cH,own,h1,hF⟩,((Moved.refl F w).dr k).set (p:=⟨hb,i,none⟩) (.inl ((hF hb).2 (.inr (.inr (.inr rfl))))) _⟩
set_option maxHeartbeats 4000000 in
theorem take_poolM{q:Ms}(h:SysM w d p L q F)(off:Int)(ho: -9223372036854775808≤off∧off≤9223372036854775807):
 Calls Tryz.prog 84 #[.pointer (some ⟨p,0,none⟩),.int .i64 off] w fun e w'=>e= .returned (.int .i64 (takeM q off).2)∧∃F',SysM w' d p L (takeM q off).1 F'∧Moved F F' w w':=by
 obtain⟨pw,s⟩:=q;have ht:=h;obtain⟨tb,hb,n,cT,cH,own,hr,hF⟩:=h;have HA:=Lib.hid hr.at;have hn:=hr.ntk;cases hf:findP s off with
 | none=>
   have HV:Hid (takeM ⟨pw,s⟩ off=(⟨pw,s⟩,7)):=Lib.hid (by rw [takeM,hf]);have HF:Hid (findV s off= .tuple #[.int .i64 0,.int .i64 0,.bool false]):=Lib.hid (by rw [findV,hf]);have HS:=Lib.hid ht;clear ht hf hn hr hF;go_enter Tryz.func84,Tryz.ntmps84
   go_wp2_with fail
   refine(none_pool HA.out).mono ?_;rintro e w'⟨rfl,rfl⟩
   go_wp2_with fail
   refine(find_pool HA.out off ho).mono ?_;rintro e w1⟨rfl,hd⟩;rw [HF.out]
   go_wp2_with fail
   go_ret;rw [HV.out];exact⟨rfl,F,HS.out.dr hd,(Moved.refl _ _).dr hd⟩
 | some ia=>
   obtain⟨i,a⟩:=ia;obtain⟨hi,hx, -⟩:=findP_some hf;have hil:=hi;rw [hn]at hi;have HF:Hid (findV s off= .tuple #[.int .i64 (i:Int),.int .i64 (a:Int),.bool true]):=Lib.hid (by rw [findV,hf]);have HS:=Lib.hid ht;have HR:=Lib.hid hr;have HFF:=Lib.hid hF;have HH:=Lib.hid (hasS_any (hdN s i) a · (hdN_lt s i) (by omega));cases hh:hasW (hdN s i) a
   ·rw [hh]at HH;have HV:Hid (takeM ⟨pw,s⟩ off=(⟨pw,s⟩,7)):=Lib.hid (by rw [takeM,hf];simp [hh]);clear ht hf hn hr hF hh;go_enter Tryz.func84,Tryz.ntmps84
    go_wp2_with fail
    refine(none_pool HA.out).mono ?_;rintro e w'⟨rfl,rfl⟩
    go_wp2_with fail
    refine(find_pool HA.out off ho).mono ?_;rintro e w1⟨rfl,hd⟩;rw [HF.out];have ha:=HA.out.dr hd;have y5:=ha.y5;have y6:=ha.y6;have c1:=ha.tk i hi;have c2:=ha.hd i hi;clear ha
    go_wp2_with fail
    refine(HH.out _).mono ?_;rintro e w'⟨rfl,hd'⟩;replace hd:=hd.trans hd';clear y5 y6 c1 c2 hd'
    go_wp2_with fail
    go_ret;rw [HV.out];exact⟨rfl,F,HS.out.dr hd,(Moved.refl _ _).dr hd⟩
   ·rw [hh]at HH;obtain⟨x,hx1⟩:∃x,(takeW (tkN s i) (classW (hdN s i)) a).1=x:=⟨_,rfl⟩;obtain⟨y,hy1⟩:∃y,(dropW (hdN s i) a).1=y:=⟨_,rfl⟩;have hxl:x<18446744073709551616:=by rw [←hx1];exact takeW_lt _ _ _ (tkN_lt s i) (by omega)
    have hyl:y<18446744073709551616:=by rw [←hy1];exact dropW_lt _ _ (hdN_lt s i) (by omega)
    have hok:=fun(r:Ms)(h:putPM ⟨pw,s⟩ i (UInt64.ofNat x)=(r,0))=>putPM_ok h
    obtain⟨⟨r,c⟩,hrc⟩:∃r,putPM ⟨pw,s⟩ i (UInt64.ofNat x)=r:=⟨_,rfl⟩;have HV:Hid (takeM ⟨pw,s⟩ off=if c=0 then(⟨r.pw,{r.s with hd:=s.hd.set i (UInt64.ofNat y)}⟩,0)else(r,c)):=Lib.hid (by rw [takeM,hf];simp [hh,hx1,hy1,hrc]);have HC:=Lib.hid (classS_any (hdN s i) · (hdN_lt s i));have HT:=Lib.hid (take_any (tkN s i) (classW (hdN s i)) a · (tkN_lt s i) (classW_lt _) (by omega));have HD:=Lib.hid (drop_any (hdN s i) a · (hdN_lt s i) (by omega));rw [hx1]at HT;rw [hy1]at HD;have HP:=fun W(k:Dr w W)=>put_poolM (q:=⟨pw,s⟩) (ht.dr k) i x hil hxl
    rw [hrc]at HP hok;have HP:=Lib.hid HP;have HOk:Hid (c=0→r.s=putP s i (UInt64.ofNat x)):=Lib.hid (fun e=>hok r (by rw [e]));generalize(takeW (tkN s i) (classW (hdN s i)) a).2=bx at*;generalize(dropW (hdN s i) a).2=by_ at*;clear ht hf hn hr hF hh hx1 hy1 hrc hok;go_enter Tryz.func84,Tryz.ntmps84
    go_wp2_with fail
    refine(none_pool HA.out).mono ?_;rintro e w'⟨rfl,rfl⟩
    go_wp2_with fail
    refine(find_pool HA.out off ho).mono ?_;rintro e w1⟨rfl,hd⟩;rw [HF.out];have ha:=HA.out.dr hd;have y5:=ha.y5;have y6:=ha.y6;have c1:=ha.tk i hi;have c2:=ha.hd i hi;clear ha
    go_wp2_with fail
    refine(HH.out _).mono ?_;rintro e w'⟨rfl,hd'⟩;replace hd:=hd.trans hd';clear y5 y6 c1 c2 hd';have ha:=HA.out.dr hd;have y5:=ha.y5;have y6:=ha.y6;have c1:=ha.tk i hi;have c2:=ha.hd i hi;clear ha
    go_wp2_with fail
    go_quiet(first
     | (go_at_call 40;exact q_dr (HC.out _))
     | (go_at_call 121;exact q_dr (HT.out _)))
    clear y5 y6 c1 c2;replace hd:=hd.trans (Dr.one _ nq)
    go_wp2_with fail
    refine(HP.out _ hd).mono ?_;rintro e w2⟨rfl,F2,hs2,hm2⟩;have hm3:=((Moved.refl F w).dr hd).trans hm2;by_cases hc0:c=0
    ·have hrs:=HOk.out hc0;subst hc0;rw [if_pos rfl]at HV;obtain⟨rp,rs⟩:=r;simp only at hrs;subst hrs;simp only at HV;obtain⟨tb2,hb2,n2,cT2,cH2,own2,hr2,hF2⟩:=hs2;have ha2:=hr2.at;have hi2:i<n2:=by rw [←ha2.ntk,putP];simpa using hil
     have z6:=ha2.y6;have z2:=ha2.hd i hi2;rw [show hdN (putP s i (UInt64.ofNat x)) i=hdN s i from rfl]at z2;have z3:=hr2.hd.frozen i;have HR2:=Lib.hid (fun W(k:Dr w2 W)=>hr2.held hF2 i y hyl k);clear hm2 ha2 hr2 HP HR HS HA HC HT HOk
     go_wp2_with fail
     go_region_with(go_at_call 90;go_loud(refine(HD.out _).mono ?_;rintro e w3⟨rfl,q,rfl⟩))
     all_goals(clear z6 z2 z3 HD)
     all_goals(go_wp2_with fail)
     all_goals(go_ret)
     all_goals(rw [HV.out])
     all_goals(first
      | exact⟨rfl,F2,(HR2.out _ (Dr.one w2 _)).1,hm3.trans (HR2.out _ (Dr.one w2 _)).2⟩)
    ·rw [if_neg hc0]at HV;have t9:(c !=0)=true:=by rw [bne_iff_ne];exact hc0
     have HS2:=Lib.hid hs2;have HM3:=Lib.hid hm3;clear hs2 hm3 hm2 hc0 HP HR HS HA HC HT HD HOk
     go_wp2_with fail
     go_ret;rw [HV.out];exact⟨rfl,F2,HS2.out,HM3.out⟩
set_option maxHeartbeats 4000000 in
theorem drop_held{m:SMode}(h:SysL m w d p L s F)(off:Int)(ho: -9223372036854775808≤off∧off≤9223372036854775807){i a:Nat}(hf:findP s off=some (i,a))(hb1:(dropW (hdN s i) a).2=true):
 Calls Tryz.prog 53 #[.pointer (some ⟨p,0,none⟩),.int .i64 off] w fun e w'=>e= .returned (.int .i64 0)∧SysL m w' d p L {s with hd:=s.hd.set i (UInt64.ofNat (dropW (hdN s i) a).1)} F∧Moved F F w w':=by
 obtain⟨tb,hb,n,cT,cH,own,hr,hF⟩:=h;have HA:=Lib.hid hr.at;have hn:=hr.ntk;obtain⟨hi,hx, -⟩:=findP_some hf;rw [hn]at hi;have HF:Hid (findV s off= .tuple #[.int .i64 (i:Int),.int .i64 (a:Int),.bool true]):=Lib.hid (by rw [findV,hf]);have HR:=Lib.hid hr;have HFF:=Lib.hid hF;obtain⟨y,hy1⟩:∃y,(dropW (hdN s i) a).1=y:=⟨_,rfl⟩;have hyl:y<18446744073709551616:=by rw [←hy1];exact dropW_lt _ _ (hdN_lt s i) (by omega)
 have HD:=Lib.hid (drop_any (hdN s i) a · (hdN_lt s i) (by omega));rw [hy1,hb1]at HD;rw [hy1];clear hf hn hr hF hb1 hy1;go_enter Tryz.func53,Tryz.ntmps53
 go_wp2_with fail
 refine(none_pool HA.out).mono ?_;rintro e w'⟨rfl,rfl⟩
 go_wp2_with fail
 refine(find_pool HA.out off ho).mono ?_;rintro e w1⟨rfl,hd⟩;rw [HF.out];have ha:=HA.out.dr hd;have y5:=ha.y5;have y6:=ha.y6;have c1:=ha.tk i hi;have c2:=ha.hd i hi;clear ha
 go_wp2_with fail
 refine(HD.out _).mono ?_;rintro e w'⟨rfl,hd'⟩;replace hd:=hd.trans hd';clear y5 y6 c1 c2 hd';have ha:=HA.out.dr hd;have y6:=ha.y6;have c2:=ha.hd i hi;have f2:=(HR.out.dr hd).hd.frozen i;have HR2:=Lib.hid (HR.out.held HFF.out i y hyl hd);clear ha
 go_wp2_with fail
 go_ret;exact⟨rfl,HR2.out.1,HR2.out.2⟩
set_option maxHeartbeats 4000000 in
theorem drop_poolM{q:Ms}(h:SysM w d p L q F)(off:Int)(ho: -9223372036854775808≤off∧off≤9223372036854775807):
 Calls Tryz.prog 53 #[.pointer (some ⟨p,0,none⟩),.int .i64 off] w fun e w'=>e= .returned (.int .i64 (dropM q off).2)∧∃F',SysM w' d p L (dropM q off).1 F'∧Moved F F' w w':=by
 obtain⟨pw,s⟩:=q;have ht:=h;obtain⟨tb,hb,n,cT,cH,own,hr,hF⟩:=h;have HA:=Lib.hid hr.at;have hn:=hr.ntk;cases hf:findP s off with
 | none=>
   have HV:Hid (dropM ⟨pw,s⟩ off=(⟨pw,s⟩,7)):=Lib.hid (by rw [dropM,hf]);have HF:Hid (findV s off= .tuple #[.int .i64 0,.int .i64 0,.bool false]):=Lib.hid (by rw [findV,hf]);have HS:=Lib.hid ht;clear ht hf hn hr hF;go_enter Tryz.func53,Tryz.ntmps53
   go_wp2_with fail
   refine(none_pool HA.out).mono ?_;rintro e w'⟨rfl,rfl⟩
   go_wp2_with fail
   refine(find_pool HA.out off ho).mono ?_;rintro e w1⟨rfl,hd⟩;rw [HF.out]
   go_wp2_with fail
   go_ret;rw [HV.out];exact⟨rfl,F,HS.out.dr hd,(Moved.refl _ _).dr hd⟩
 | some ia=>
   obtain⟨i,a⟩:=ia;obtain⟨hi,hx, -⟩:=findP_some hf;have hil:=hi;rw [hn]at hi;have HF:Hid (findV s off= .tuple #[.int .i64 (i:Int),.int .i64 (a:Int),.bool true]):=Lib.hid (by rw [findV,hf]);have HS:=Lib.hid ht;have HR:=Lib.hid hr;have HFF:=Lib.hid hF;obtain⟨y,hy1⟩:∃y,(dropW (hdN s i) a).1=y:=⟨_,rfl⟩;have hyl:y<18446744073709551616:=by rw [←hy1];exact dropW_lt _ _ (hdN_lt s i) (by omega)
   have HD:=Lib.hid (drop_any (hdN s i) a · (hdN_lt s i) (by omega));rw [hy1]at HD;cases hb1:(dropW (hdN s i) a).2
   ·rw [hb1]at HD;obtain⟨x,hx1⟩:∃x,(dropW (tkN s i) a).1=x:=⟨_,rfl⟩;have hxl:x<18446744073709551616:=by rw [←hx1];exact dropW_lt _ _ (tkN_lt s i) (by omega)
    have HE:=Lib.hid (drop_any (tkN s i) a · (tkN_lt s i) (by omega));rw [hx1]at HE;cases hb2:(dropW (tkN s i) a).2
    ·rw [hb2]at HE;have HV:Hid (dropM ⟨pw,s⟩ off=(⟨pw,s⟩,7)):=Lib.hid (by rw [dropM,hf];simp [hb1,hb2]);clear ht hf hn hr hF hb1 hb2 hx1 hy1;go_enter Tryz.func53,Tryz.ntmps53
     go_wp2_with fail
     refine(none_pool HA.out).mono ?_;rintro e w'⟨rfl,rfl⟩
     go_wp2_with fail
     refine(find_pool HA.out off ho).mono ?_;rintro e w1⟨rfl,hd⟩;rw [HF.out];have ha:=HA.out.dr hd;have y5:=ha.y5;have y6:=ha.y6;have c1:=ha.tk i hi;have c2:=ha.hd i hi;clear ha
     go_wp2_with fail
     refine(HD.out _).mono ?_;rintro e w'⟨rfl,hd'⟩;replace hd:=hd.trans hd';clear y5 y6 c1 c2 hd';have ha:=HA.out.dr hd;have y5:=ha.y5;have y6:=ha.y6;have c1:=ha.tk i hi;have c2:=ha.hd i hi;clear ha
     go_wp2_with fail
     refine(HE.out _).mono ?_;rintro e w'⟨rfl,hd'⟩;replace hd:=hd.trans hd';clear y5 y6 c1 c2 hd'
     go_wp2_with fail
     go_ret;rw [HV.out];exact⟨rfl,F,HS.out.dr hd,(Moved.refl _ _).dr hd⟩
    ·rw [hb2]at HE;have HV:Hid (dropM ⟨pw,s⟩ off=putPM ⟨pw,s⟩ i (UInt64.ofNat x)):=Lib.hid (by rw [dropM,hf];simp [hb1,hb2,hx1]);have HP:=Lib.hid (fun W(k:Dr w W)=>put_poolM (q:=⟨pw,s⟩) (ht.dr k) i x hil hxl);clear ht hf hn hr hF hb1 hb2 hx1 hy1;go_enter Tryz.func53,Tryz.ntmps53
     go_wp2_with fail
     refine(none_pool HA.out).mono ?_;rintro e w'⟨rfl,rfl⟩
     go_wp2_with fail
     refine(find_pool HA.out off ho).mono ?_;rintro e w1⟨rfl,hd⟩;rw [HF.out];have ha:=HA.out.dr hd;have y5:=ha.y5;have y6:=ha.y6;have c1:=ha.tk i hi;have c2:=ha.hd i hi;clear ha
     go_wp2_with fail
     refine(HD.out _).mono ?_;rintro e w'⟨rfl,hd'⟩;replace hd:=hd.trans hd';clear y5 y6 c1 c2 hd';have ha:=HA.out.dr hd;have y5:=ha.y5;have y6:=ha.y6;have c1:=ha.tk i hi;have c2:=ha.hd i hi;clear ha
     go_wp2_with fail
     refine(HE.out _).mono ?_;rintro e w'⟨rfl,hd'⟩;replace hd:=hd.trans hd';clear y5 y6 c1 c2 hd'
     go_wp2_with fail
     refine(HP.out _ hd).mono ?_;rintro e w2⟨rfl,F2,hs2,hm2⟩
     go_wp2_with fail
     go_ret;rw [HV.out];exact⟨rfl,F2,hs2,((Moved.refl F w).dr hd).trans hm2⟩
   ·have HV:Hid (dropM ⟨pw,s⟩ off=(⟨pw,{s with hd:=s.hd.set i (UInt64.ofNat y)}⟩,0)):=Lib.hid (by rw [dropM,hf];simp [hb1,hy1]);refine(drop_held ht off ho hf hb1).mono ?_;rintro e w'⟨rfl,h1,h2⟩;rw [HV.out];rw [hy1]at h1;exact⟨rfl,F,h1,h2⟩
end
theorem ahead_any(k:Nat)(w:World)(hk:k≤10000):Calls Tryz.prog 106 #[.int .i64 (k:Int)] w fun e w'=>e= .returned (.int .i64 (aheadN k:Nat))∧w=w':=by
 have e1:((k:Int)+8-1)/8=(((k+7)/8:Nat):Int):=by omega
 have e2:(2:Int)+(((k+7)/8:Nat):Int)=(aheadN k:Nat):=by unfold aheadN;omega
 have hb:(k+7)/8≤2000:=by omega
 generalize(k+7)/8=q at*;go_enter Tryz.func106,Tryz.ntmps106;go_wp2;go_ret;exact⟨by rw [←e2];simp [e1],rfl⟩
theorem need_any(k b:Nat)(w:World)(hk:k≤10000)(hb:w.cell? ⟨b,0,none⟩=some (.func (.func 106) #[] #[])):
 Calls Tryz.prog 107 #[.int .i64 (k:Int),.pointer (some ⟨b,0,none⟩)] w fun e w'=>e= .returned (.int .i64 (needN k:Nat))∧w=w':=by
 have hq:aheadN k≤3000:=by unfold aheadN;omega
 have HA:=Lib.hid (ahead_any k w hk);have e2:((aheadN k:Nat):Int)+16*(k:Int)=(needN k:Nat):=by unfold needN;omega
 generalize aheadN k=q at*;go_enter Tryz.func107,Tryz.ntmps107
 go_wp2_with fail
 refine HA.out.mono ?_;rintro e w'⟨rfl,rfl⟩
 go_wp2_with fail
 go_ret;exact⟨by rw [←e2];rfl,rfl⟩
def ofV(L:Nat):Value:=match shapeOf L with
 | some sh=> .tuple #[.agg #[.int .i64 (sh.lines:Nat),.int .i64 (sh.slabs:Nat),.int .i64 (sh.table:Nat),.int .i64 (sh.data:Nat)],.bool true]
 | none=> .tuple #[.agg #[.int .i64 0,.int .i64 0,.int .i64 0,.int .i64 0],.bool false]
theorem slabsGo_step(L k:Nat)(hk:k<L)(h:needN (k+1)≤L):slabsGo L (L-k) k=slabsGo L (L- (k+1)) (k+1):=by
 obtain⟨f,hf⟩:∃f,L-k=f+1:=⟨L-k-1,by omega⟩;rw [hf,show L- (k+1)=f by omega,slabsGo,if_pos h]
theorem slabsGo_stop(L k:Nat)(h:¬needN (k+1)≤L):slabsGo L (L-k) k=k:=by
 cases hf:L-k with
 | zero=>rfl
 | succ f=>rw [slabsGo,if_neg h]
theorem store_func{P:Program}(a:Addr)(F:Fn)(fs cs:Array Value)(w:World):(store a (.func F fs cs)).run P w=stored P w a (.func F fs cs) .plain:=run_store P w a _ .plain rfl
theorem shape_ret{Q:Ending→World→Prop}{W:World}{tmps:Array Value}(g:Nat){a b c d:Value}(h:Blk W g 109 [a,b,c,d])(v:Value)(h2:tmps[2]? =some (.pointer (some ⟨g,0,none⟩)))(h3:tmps[3]? =some v)
 (hq:Q (.returned (.tuple #[.agg #[a,b,c,d],v])) W):bodyPost Tryz.prog Tryz.f69 Q Exit.ret {tmps:=tmps,defers:=[]} W:=by
 obtain⟨y0,y1,y2,y3,f0,f1,f2,f3⟩:=blk4' h;have hu:=run_underlying (P:=Tryz.prog) Tryz.underlying109;refine bodyPost_ret (v:= .tuple #[.agg #[a,b,c,d],v]) (by simp [results,Tryz.results69,go_sem,h2,h3,y0,y1,y2,y3]) rfl hq
set_option maxHeartbeats 4000000 in
set_option maxRecDepth 100000 in
theorem headOf_any(L:Nat)(w:World)(hL:L≤1024):Calls Tryz.prog 69 #[.int .i64 (L:Int)] w fun e w'=>e= .returned (ofV L)∧Below w.heap.size w w':=by
 have t1:decide ((1024:Int)<(L:Int))=false:=decide_eq_false (by omega);have B0:Blk (w.alloc (.cells #[.int .i64 0,.int .i64 0,.int .i64 0,.int .i64 0] 109)) w.heap.size 109 [.int .i64 0,.int .i64 0,.int .i64 0,.int .i64 0]:=heap_alloc_new _ _;have hs0:(w.alloc (.cells #[.int .i64 0,.int .i64 0,.int .i64 0,.int .i64 0] 109)).heap.size=w.heap.size+1:=by simp
 have B1:Blk ((w.alloc (.cells #[.int .i64 0,.int .i64 0,.int .i64 0,.int .i64 0] 109)).alloc (.cells #[.nilFunc] 144)) (w.heap.size+1) 144 [.nilFunc]:=by rw [←hs0];exact heap_alloc_new _ _
 have c1:=B1.cell 0;have f1:=B1.frozen 0;simp only [List.getElem?_cons_zero]at c1;have sf:=fun a fs cs W=>store_func (P:=Tryz.prog) a (.func 106) fs cs W
 go_enter Tryz.func69,Tryz.ntmps69
 go_wp2_with fail
 obtain⟨W,hW⟩:∃W,W=((w.alloc (.cells #[.int .i64 0,.int .i64 0,.int .i64 0,.int .i64 0] 109)).alloc (.cells #[.func (.func 106) #[] #[]] 144)):=⟨_,rfl⟩;rw [←hW];have k1:Blk W (w.heap.size+1) 144 [.func (.func 106) #[] #[]]:=by rw [hW,←hs0];exact heap_alloc_new _ _
 have k0:Blk W w.heap.size 109 [.int .i64 0,.int .i64 0,.int .i64 0,.int .i64 0]:=by
  rw [hW];exact(heap_alloc_old _ _ (by omega)).trans B0
 have hbW:Below w.heap.size w W:=by rw [hW];exact(((Below.refl _ _).alloc (Nat.le_refl _) _).alloc (by simp) _)
 have K1:=Lib.hid (k1.cell 0);have K0:=Lib.hid k0;have HB:=Lib.hid hbW;clear B0 B1 c1 f1 hW k1 k0 hs0 hbW
 go_loopw [6](fun i wr=>∃k,k≤L∧i= .int .i64 (k:Nat)∧wr=W∧slabsGo L (L-k) k=slabsN L)(fun i _=>L- (intOf i).toNat)
 case atStart=>exact⟨0,Nat.zero_le _,rfl,rfl,by rw [Nat.sub_zero];rfl⟩
 case round=>
  obtain⟨k,hk,rfl,rfl,hS⟩:=hrel;have HN:=Lib.hid (need_any (k+1) (w.heap.size+1) wr (by omega) (by have:=K1.out;simpa using this));by_cases h1:needN (k+1)≤L
  ·have hk1:k<L:=by unfold needN at h1;omega
   have t2:decide (((needN (k+1):Nat):Int)≤(L:Int))=true:=decide_eq_true (by omega);have t2':decide (needN (k+1)≤L)=true:=decide_eq_true (by omega);have HS:Hid (slabsGo L (L- (k+1)) (k+1)=slabsN L):=Lib.hid (by rw [←slabsGo_step L k hk1 h1];exact hS);generalize needN (k+1)=nd at*;clear hS
   go_wp2_with fail
   rw [show(k:Int)+1=((k+1:Nat):Int)by omega];refine HN.out.mono ?_;rintro e w'⟨rfl,rfl⟩
   go_wp2_with fail
   go_roundw
   case rel=>exact⟨k+1,by omega,by go_num,trivial,HS.out⟩
   case measure=>simp [intOf];omega
  ·have hkS:slabsN L=k:=by rw [←hS];exact slabsGo_stop L k h1
   obtain⟨nd,hnd⟩:∃nd,needN (k+1)=nd:=⟨_,rfl⟩;rw [hnd]at HN h1;have t2:decide ((nd:Int)≤(L:Int))=false:=decide_eq_false (by omega);have t2':decide (nd≤L)=false:=decide_eq_false (by omega);clear hS h1 hnd;have HA:=Lib.hid (ahead_any k wr (by omega));obtain⟨y0,y1,y2,y3,f0,f1,f2,f3⟩:=blk4' K0.out;by_cases h0:k=0
   ·subst h0;have HV:Hid (ofV L= .tuple #[.agg #[.int .i64 0,.int .i64 0,.int .i64 0,.int .i64 0],.bool false]):=Lib.hid (by
     unfold ofV shapeOf;rw [if_neg (by omega)];simp [hkS])
    have HN0:=HN.out;rw [show(((0+1:Nat)):Int)=1 from rfl]at HN0;have HN0:=Lib.hid HN0;clear hkS
    go_wp2_with fail
    refine HN0.out.mono ?_;rintro e w'⟨rfl,rfl⟩
    go_wp2_with fail
    have k9:=(((K0.out.set_ 0 (.int .i64 0)).set_ 1 (.int .i64 0)).set_ 2 (.int .i64 0)).set_ 3 (.int .i64 0);have b9:=(((HB.out.setCell (p:=⟨w.heap.size,0,none⟩) (Nat.le_refl _) (.int .i64 0)).setCell (p:=⟨w.heap.size,1,none⟩) (Nat.le_refl _) (.int .i64 0)).setCell (p:=⟨w.heap.size,2,none⟩) (Nat.le_refl _) (.int .i64 0)).setCell (p:=⟨w.heap.size,3,none⟩) (Nat.le_refl _) (.int .i64 0);refine shape_ret w.heap.size k9 (.bool false) rfl rfl ?_;exact⟨by rw [HV.out],b9⟩
   ·have HV:Hid (ofV L= .tuple #[.agg #[.int .i64 (L:Nat),.int .i64 (k:Nat),.int .i64 128,.int .i64 ((64*aheadN k:Nat):Int)],.bool true]):=Lib.hid (by
    unfold ofV shapeOf;rw [if_neg (by omega)];simp [hkS,h0,Nat.mul_comm])
    have t3:((k:Int)==0)=false:=by rw [beq_eq_false_iff_ne];omega
    have hah:aheadN k≤3000:=by unfold aheadN;omega
    have k1:wr.cell? ⟨w.heap.size+1,0,none⟩=some (.func (.func 106) #[] #[]):=by have:=K1.out;simpa using this
    generalize aheadN k=ah at*;clear hkS
    go_wp2_with fail
    rw [show(k:Int)+1=((k+1:Nat):Int)by omega];refine HN.out.mono ?_;rintro e w'⟨rfl,rfl⟩
    go_wp2_with fail
    refine HA.out.mono ?_;rintro e w'⟨rfl,rfl⟩
    go_wp2_with fail
    have k9:=(((K0.out.set_ 0 (.int .i64 (L:Int))).set_ 1 (.int .i64 (k:Int))).set_ 2 (.int .i64 128)).set_ 3 (.int .i64 ((ah:Int)*64));have b9:=(((HB.out.setCell (p:=⟨w.heap.size,0,none⟩) (Nat.le_refl _) (.int .i64 (L:Int))).setCell (p:=⟨w.heap.size,1,none⟩) (Nat.le_refl _) (.int .i64 (k:Int))).setCell (p:=⟨w.heap.size,2,none⟩) (Nat.le_refl _) (.int .i64 128)).setCell (p:=⟨w.heap.size,3,none⟩) (Nat.le_refl _) (.int .i64 ((ah:Int)*64));refine shape_ret w.heap.size k9 (.bool true) rfl rfl ?_;exact⟨by rw [HV.out];simp [Int.mul_comm],b9⟩
def shV(sh:Sh):Value:= .agg #[.int .i64 (sh.lines:Nat),.int .i64 (sh.slabs:Nat),.int .i64 (sh.table:Nat),.int .i64 (sh.data:Nat)]
theorem wv_ofNat'(x:Nat)(hx:x<18446744073709551616):wv (UInt64.ofNat x)= .int .u64 (x:Int):=by
 simp only [wv,UInt64.toNat_ofNat'];rw [Nat.mod_eq_of_lt hx]
theorem leBytes_zeros:∀n,leBytes (List.replicate n (0:UInt64))=List.replicate (8*n) (0:UInt8)
 | 0=>rfl
 | n+1=>by
   rw [List.replicate_succ,leBytes,leBytes_zeros n,show leWord 0=List.replicate 8 (0:UInt8)by decide,List.replicate_append_replicate,show 8+8*n=8*(n+1)by omega]
def partH(H:List UInt64)(k:Nat):List UInt64:=H.take k++List.replicate (H.length-k) 0
theorem partH_length(H:List UInt64)(k:Nat)(hk:k≤H.length):(partH H k).length=H.length:=by simp [partH];omega
theorem partH_set(H:List UInt64)(k:Nat)(hk:k<H.length):(partH H k).set k H[k]=partH H (k+1):=by
 obtain⟨r,hr⟩:∃r,H.length-k=r+1:=⟨H.length-k-1,by omega⟩;unfold partH;rw [hr,show H.length- (k+1)=r by omega,List.set_append_right _ _ (by simp;omega)];simp only [List.length_take,Nat.min_eq_left (Nat.le_of_lt hk),Nat.sub_self,List.replicate_succ,List.set_cons_zero];rw [List.take_succ_eq_append_getElem hk,List.append_assoc];rfl
theorem partH_all(H:List UInt64):partH H H.length=H:=by simp [partH]
set_option maxHeartbeats 4000000 in
set_option maxRecDepth 100000 in
theorem headWords_any(sh:Sh)(w:World)(hL:sh.lines≤1024)(hs:shapeOf sh.lines=some sh)(hT:TabF w):Calls Tryz.prog 72 #[shV sh] w fun e w'=>∃v,e= .returned v∧w'.ownsRow w.heap.size 23 1 v 8 ((wordsOf sh).map wv)∧Below w.heap.size w w':=by
 have hOf:=fun W=>headOf_any sh.lines W hL
 have HV:Hid (ofV sh.lines= .tuple #[shV sh,.bool true]):=Lib.hid (by rw [ofV,hs];rfl);have HOf:=Lib.hid hOf;have ok:=shape_ok hs;have b1:=ok.fits;obtain⟨sl,hsl⟩:∃x,sh.slabs=x:=⟨_,rfl⟩;obtain⟨tb,htb⟩:∃x,sh.table=x:=⟨_,rfl⟩;obtain⟨dt,hdt⟩:∃x,sh.data=x:=⟨_,rfl⟩;obtain⟨li,hli⟩:∃x,sh.lines=x:=⟨_,rfl⟩;have hv:shV sh= .agg #[.int .i64 (li:Int),.int .i64 (sl:Int),.int .i64 (tb:Int),.int .i64 (dt:Int)]:=by rw [shV,hsl,htb,hdt,hli]
 rw [hv]at HV⊢;rw [hli]at HV HOf hL;clear hOf hv;go_enter Tryz.func72,Tryz.ntmps72
 go_wp2_with fail
 have B0:Blk (w.alloc (.cells #[.int .i64 (li:Int),.int .i64 (sl:Int),.int .i64 (tb:Int),.int .i64 (dt:Int)] 109)) w.heap.size 109 [.int .i64 (li:Int),.int .i64 (sl:Int),.int .i64 (tb:Int),.int .i64 (dt:Int)]:=heap_alloc_new _ _;refine(HOf.out _).mono ?_;rintro e w1⟨rfl,hb1⟩;have B1:=B0.below hb1 (by simp);have hb01:Below w.heap.size w w1:=((Below.refl _ _).alloc (Nat.le_refl _) _).trans (hb1.mono (by simp));have hg1:w.heap.size<w1.heap.size:=B1.lt;obtain⟨y0,y1,y2,y3,f0,f1,f2,f3⟩:=blk4' B1;clear hb1 B0 f0 f1 f2 f3;rw [HV.out];obtain⟨i0,hi,hz0,hz1,hz2⟩:=info_parts Tryz.infoByte;obtain⟨H,hH⟩:∃H,headW sh=H:=⟨_,rfl⟩;have hHl:H.length=6:=by rw [←hH];rfl
 have hrow:[Value.int .u64 465675318387,.int .u64 1,.int .u64 (li:Int),.int .u64 (sl:Int),.int .u64 (tb:Int),.int .u64 (dt:Int),.int .u64 0,.int .u64 0]=(H++[0,0]).map wv:=by
  have e:∀x:Nat,x<1000000→((UInt64.ofNat x).toNat:Int)=(x:Int):=fun x hx=>by rw [UInt64.toNat_ofNat',Nat.mod_eq_of_lt (by omega)]
  have h1:=e li (by omega);have h2:=e sl (by have:=ok.fits;omega);have h3:=e tb (by have:=ok.table;omega);have h4:=e dt (by have:=ok.fits;omega);rw [←hH,headW,hli,hsl,htb,hdt];simp only [List.cons_append,List.nil_append,List.map_cons,List.map_nil,wv,h1,h2,h3,h4];rfl
 have hb2:sl≤1000000:=by have:=ok.fits;omega
 have hb3:tb≤1000000:=by have:=ok.table;omega
 have hb4:dt≤1000000:=by have:=ok.fits;omega
 have HRow:=Lib.hid hrow;have HHd:=Lib.hid hH;clear hrow hH ok b1 hsl htb hdt hs
 go_wp2_with(at_make;go_loud(refine wpList_make_full _ rfl _ _ 26 rfl w.heap.size 5 i0 (.int .u8 0) 1 Tryz.underlying26 hi hz0 hz1 .i64 .i64 _ _ 48 rfl rfl rfl rfl (by rw [hz2];decide) (by decide) (by simp;omega) ?_);intro w0 hown0 hgrow0)
 obtain⟨W2,hW2⟩:∃W2,W2=(w1.alloc (.cells #[.int .i64 (li:Int),.int .i64 (sl:Int),.int .i64 (tb:Int),.int .i64 (dt:Int)] 109)).alloc (.cells #[.int .u64 465675318387,.int .u64 1,.int .u64 (li:Int),.int .u64 (sl:Int),.int .u64 (tb:Int),.int .u64 (dt:Int),.int .u64 0,.int .u64 0] 23):=⟨_,rfl⟩;have hL0:Blk W2 (w1.heap.size+1) 23 ((H++[0,0]).map wv):=by
  have e:(w1.alloc (.cells #[.int .i64 (li:Int),.int .i64 (sl:Int),.int .i64 (tb:Int),.int .i64 (dt:Int)] 109)).heap.size=w1.heap.size+1:=by simp
  rw [←HRow.out,←e,hW2];exact heap_alloc_new _ _
 have hbW2:Below w.heap.size w W2:=by rw [hW2];exact(hb01.alloc (by omega) _).alloc (by simp;omega) _
 rw [←hW2]at hgrow0 hown0;have hs2:W2.heap.size=w1.heap.size+1+1:=by rw [hW2];simp
 rw [hs2]at hown0;have hlt0:=hL0.lt;have hb20:Below W2.heap.size W2 w0:=(Below.refl _ _).grown hgrow0 (Nat.le_refl _) (by simp);rw [made_bytes,show List.replicate 48 (0:UInt8)=leBytes (partH H 0)by rw [partH,List.take_zero,List.nil_append,hHl,leBytes_zeros]]at hown0;have HL0:=Lib.hid hL0;have HB2:=Lib.hid hbW2;clear hL0 hbW2 hgrow0 hW2 y0 y1 y2 y3 B1 hb01
 go_loopw [6,39](fun b i wr=>∃k g c,k≤6∧i= .int .i64 (k:Nat)∧b= .slice (some ⟨g,0,none⟩) 48 c∧wr.ownsRow w.heap.size 5 1 (.slice (some ⟨g,0,none⟩) 48 c) 48 ((leBytes (partH H k)).map bv)∧Below W2.heap.size W2 wr)(fun _ i _=>6- (intOf i).toNat)
 case atStart=>
  refine⟨0,_,_,Nat.zero_le _,rfl,rfl,hown0,hb20⟩
 case round=>
  obtain⟨k,g,c,hk,rfl,rfl,hown,hbr⟩:=hrel;clear hown0 hb20;have hL1:=HL0.out.below hbr hlt0;by_cases hlt:k<6
  ·have hkH:k<H.length:=by omega
   have c1:=hL1.cell k;have ek:((H++[0,0]).map wv)[k]? =some (.int .u64 (H[k].toNat:Int)):=by
    rw [List.getElem?_map,List.getElem?_append_left hkH,List.getElem?_eq_getElem hkH];rfl
   rw [ek]at c1;have HPut:=Lib.hid (wordPut_any (some ⟨g,0,none⟩) 48 c k (partH H k) H[k] wr (by decide) (rd_own hown).2 (by rw [partH_length H k (by omega)];omega));have HSet:=Lib.hid (partH_set H k hkH);generalize H[k]=x at*;have HBr:=Lib.hid hbr;clear hL1 ek hown hbr
   go_wp2_with fail
   refine HPut.out.mono ?_;rintro e w2⟨g2,c2,rfl,hown2,hb2'⟩;rw [HSet.out]at hown2;have HO2:=Lib.hid (own_mono (base':=w.heap.size) hown2 (Nat.le_trans HB2.out.size HBr.out.size));have HB3:=Lib.hid (HBr.out.trans (hb2'.mono HBr.out.size));clear hown2 hb2' HPut
   go_wp2_with fail
   go_roundw
   case rel=>exact⟨k+1,g2,c2,by omega,by go_num,rfl,HO2.out,HB3.out⟩
   case measure=>simp [intOf];omega
  ·have hk6:k=6:=by omega
   subst hk6;rw [show partH H 6=H by rw [←hHl];exact partH_all H]at hown;have hTw:TabF wr:=fun j hj=>(hbr.cell (p:=⟨0,j,none⟩) (Nat.lt_of_lt_of_le (World.block_lt_of_cell? w _ (hT j hj)) HB2.out.size)).trans ((HB2.out.cell (p:=⟨0,j,none⟩) (World.block_lt_of_cell? w _ (hT j hj))).trans (hT j hj))
   have HSum:=Lib.hid (crcSum_any (some ⟨g,0,none⟩) 48 c (leBytes H) wr (by decide) (rd_own hown).2 hTw);have hcr:crcNext 0 (leBytes H)<4294967296:=by
    unfold crcNext;have:=crcTo_lt 0 (leBytes H) (by decide) (leBytes H).length (Nat.le_refl _);rw [crcTo,List.take_length]at this;exact Nat.xor_lt_two_pow (n:=32) this (by decide)
   have HWo:Hid (wordsOf sh=H++[UInt64.ofNat (crcNext 0 (leBytes H)),0]):=Lib.hid (by rw [wordsOf,HHd.out]);generalize crcNext 0 (leBytes H)=cr at*;have hL1':=hL1;have c6:=hL1.cell 6;rw [List.getElem?_map,List.getElem?_append_right (by omega),hHl]at c6;have f6:=hL1.frozen 6;have HL1:=Lib.hid hL1;have HBr:=Lib.hid hbr;clear hL1 hL1' hown hbr hTw
   go_wp2_with fail
   refine HSum.out.mono ?_;rintro e w'⟨rfl,rfl⟩
   go_wp2_with fail
   trace_state
   go_ret;have hL2:=HL1.out.set_ 6 (.int .u64 (cr:Int));have e1:((H++[0,0]).map wv).set 6 (.int .u64 (cr:Int))=(wordsOf sh).map wv:=by
    rw [HWo.out,←wv_ofNat' cr (by omega),←List.map_set,List.set_append_right _ _ (by omega),hHl];rfl
   rw [e1]at hL2;have hown9:=hL2.own (B:=w.heap.size) (by omega) (by rw [List.length_map,HWo.out];simp [hHl];decide);have hl8:((wordsOf sh).map wv).length=8:=by rw [List.length_map,HWo.out];simp [hHl]
   rw [hl8]at hown9;exact⟨_,rfl,hown9,(HB2.out.trans (HBr.out.mono HB2.out.size)).setCell (p:=⟨w1.heap.size+1,6,none⟩) (by show w.heap.size≤w1.heap.size+1;omega) _⟩
theorem shape_ret'{Q:Ending→World→Prop}{W:World}{tmps:Array Value}{fn:Func}(hr:fn.results= #[.cell 2 109,.tmp 3])(g:Nat){a b c d:Value}(h:Blk W g 109 [a,b,c,d])(v:Value)(h2:tmps[2]? =some (.pointer (some ⟨g,0,none⟩)))(h3:tmps[3]? =some v)
 (hq:Q (.returned (.tuple #[.agg #[a,b,c,d],v])) W):bodyPost Tryz.prog fn Q Exit.ret {tmps:=tmps,defers:=[]} W:=by
 obtain⟨y0,y1,y2,y3,f0,f1,f2,f3⟩:=blk4' h;have hu:=run_underlying (P:=Tryz.prog) Tryz.underlying109;refine bodyPost_ret (v:= .tuple #[.agg #[a,b,c,d],v]) (by simp [results,hr,go_sem,h2,h3,y0,y1,y2,y3]) rfl hq
theorem Dev.box{w:World}{d L:Nat}{ws:Nat→UInt64}{len:Mode}{mark:Nat→Nat}{own:Nat→Prop}(h:Dev w d L ws len mark own):∃g v1 v2 v3,Blk w d 93 [.slice (some ⟨g,0,none⟩) L L,v1,v2,v3]:=by
 obtain⟨g,hb,hr,_⟩:=h;obtain⟨st,hbx⟩:=hr.box;exact⟨g,_,_,_,hbx⟩
theorem Dev.size{w:World}{d L:Nat}{ws:Nat→UInt64}{len:Mode}{mark:Nat→Nat}{own:Nat→Prop}(h:Dev w d L ws len mark own)(hL:L≤1024):Calls Tryz.prog 31 #[.pointer (some ⟨d,0,none⟩)] w fun e w'=>e= .returned (.int .i64 ((L*64:Nat):Int))∧w=w':=by
 obtain⟨g,_,_,_,hbx⟩:=h.box;exact size_dev d L g _ _ _ w hL hbx
set_option maxHeartbeats 4000000 in
set_option maxRecDepth 100000 in
theorem format_dev{w:World}{d L:Nat}{ws:Nat→UInt64}{own:Nat→Prop}{sh:Sh}(hL0:0<L)(hL:L≤1024)(hs:shapeOf L=some sh)(h:Dev w d L ws M0 (fun _=>0) own)(hT:Tabs w)(g1:¬own 0)(g2:¬own 1):
 Calls Tryz.prog 42 #[.pointer (some ⟨d,0,none⟩)] w fun e w'=>e= .returned (.tuple #[shV sh,.int .i64 0])∧
  ∃own',Dev w' d L (putWs (putWs ws 0 (List.replicate (8*L) 0)) 0 (wordsOf sh)) M0 (fun _=>0) own'∧Moved own own' w w':=by
 have ok:=shape_ok hs;have hli:=ok.lines;have hlt:=h.lt;obtain⟨N,hN⟩:∃N,N=L*64:=⟨_,rfl⟩;have HSz:=Lib.hid (fun W(h:Dev W d L ws M0 (fun _=>0) own)=>by have:=h.size hL;rw [←hN]at this;exact this);have e1:(N:Int)/64=(L:Int):=by omega
 have t1:((L:Int)==0)=false:=by rw [beq_eq_false_iff_ne];omega
 have HOf:=Lib.hid (fun W=>headOf_any L W hL);have HV:Hid (ofV L= .tuple #[shV sh,.bool true]):=Lib.hid (by rw [ofV,hs];rfl);obtain⟨v0,v1,v2,v3,hsv⟩:∃v0 v1 v2 v3:Nat,shV sh= .agg #[.int .i64 (v0:Int),.int .i64 (v1:Int),.int .i64 (v2:Int),.int .i64 (v3:Int)]:=⟨_,_,_,_,rfl⟩;have HSV:=Lib.hid hsv;rw [hsv]at HV;have B0:Blk (w.alloc (.cells #[.int .i64 0,.int .i64 0,.int .i64 0,.int .i64 0] 109)) w.heap.size 109 [.int .i64 0,.int .i64 0,.int .i64 0,.int .i64 0]:=heap_alloc_new _ _;have hb0:Below w.heap.size w (w.alloc (.cells #[.int .i64 0,.int .i64 0,.int .i64 0,.int .i64 0] 109)):=(Below.refl _ _).alloc (Nat.le_refl _) _;have HD:=Lib.hid h;clear h hN hsv;go_enter Tryz.func42,Tryz.ntmps42
 go_wp2_with fail
 obtain⟨W0,hW0⟩:∃W0,W0=w.alloc (.cells #[.int .i64 0,.int .i64 0,.int .i64 0,.int .i64 0] 109):=⟨_,rfl⟩;rw [←hW0]at B0 hb0⊢;have hlt0:w.heap.size<W0.heap.size:=B0.lt;clear hW0;refine(HSz.out _ (HD.out.below hb0)).mono ?_;rintro e w'⟨rfl,rfl⟩
 go_wp2_with fail
 refine(HOf.out _).mono ?_;rintro e w1⟨rfl,hb1⟩;rw [HV.out];have hb01:=hb0.trans (hb1.mono hb0.size);have B1:=B0.below hb1 hlt0;have HB1:=Lib.hid hb01;have HBk1:=Lib.hid B1;clear hb0 hb1 B0 B1 hb01
 go_wp2_with fail
 obtain⟨W2,hW2⟩:∃W2,W2=w1.alloc (.cells #[.int .i64 (v0:Int),.int .i64 (v1:Int),.int .i64 (v2:Int),.int .i64 (v3:Int)] 109):=⟨_,rfl⟩;have hS2:Blk W2 w1.heap.size 109 [.int .i64 (v0:Int),.int .i64 (v1:Int),.int .i64 (v2:Int),.int .i64 (v3:Int)]:=by rw [hW2];exact heap_alloc_new _ _
 have hb12:Below w1.heap.size w1 W2:=by rw [hW2];exact(Below.refl _ _).alloc (Nat.le_refl _) _
 have hR2:=HBk1.out.below hb12 HBk1.out.lt;have hb02:=HB1.out.trans (hb12.mono HB1.out.size);have hw1:w.heap.size≤w1.heap.size:=HB1.out.size;have hD2:=HD.out.below hb02;have hT2:=hT.below hb02;rw [←hW2];clear hW2 hb12;have HR2:=Lib.hid hR2;have HS2:=Lib.hid hS2;have HB2:=Lib.hid hb02;have HT2:=Lib.hid hT2;have HCl:=Lib.hid (clear_dev hL0 hL hD2);clear hR2 hS2 hb02 hT2 hD2;refine HCl.out.mono ?_;rintro e w3⟨rfl,own1,hD3,ht3,ho3⟩;have nr:¬own w.heap.size:=fun h=>by have:=hlt _ h;omega
 have ns:¬own w1.heap.size:=fun h=>by have:=hlt _ h;omega
 have hR3:=HR2.out.touch ht3 nr;have hS3:=HS2.out.touch ht3 ns;have hT3:=HT2.out.keep (ht3.block _ HT2.out.lt.1 g1) (ht3.block _ HT2.out.lt.2 g2);have hM3:Moved own own1 w w3:=(Moved.of_below HB2.out).trans ⟨ht3,ho3⟩;obtain⟨y0,y1,y2,y3,_,_,_,_⟩:=blk4' hS3;have n1:∀b,b<W2.heap.size→¬own b→¬own1 b:=fun b hlt hn h=>(ho3 b h).elim hn (fun h=>by omega)
 have n1r:=n1 _ HR2.out.lt nr;have n1s:=n1 _ HS2.out.lt ns;have HR3:=Lib.hid hR3;have HS3:=Lib.hid hS3;have HD3:=Lib.hid hD3;have HM3:=Lib.hid hM3;have HWo:=headWords_any sh w3 (by omega) (by rw [hli];exact hs) hT3.fours;rw [HSV.out]at HWo;have HWo:=Lib.hid HWo;clear hD3 ht3 ho3 hR3 hS3 hT3 hM3 HCl
 go_wp2_with fail
 refine HWo.out.mono ?_;rintro e w4⟨v4,rfl,hown4,hb4⟩;obtain⟨A4,c4,rfl,hc4,hr4⟩:=rd_of_own hown4;obtain⟨gd,hbd,hrd,hod⟩:=HD3.out;have hD4:Dev w4 d L (putWs ws 0 (List.replicate (8*L) 0)) M0 (fun _=>0) own1:=⟨gd,hbd,hrd.below hb4,hod⟩;have HP:=dev_putAll hL0 hL hD4 0 8 c4 A4 (wordsOf sh) (by omega) (by decide) hr4;rw [show((8*0:Nat):Int)=0 from rfl]at HP;have HP:=Lib.hid HP;have hR4:=HR3.out.below hb4 HR3.out.lt;have hS4:=HS3.out.below hb4 HS3.out.lt;have HR4:=Lib.hid hR4;have HS4:=Lib.hid hS4;have HM4:=Lib.hid (HM3.out.below hb4);clear hD4 hrd hod hown4 hr4 hb4 hR4 hS4 y0 y1 y2 y3 HWo
 go_wp2_with fail
 refine HP.out.mono ?_;rintro e w5⟨rfl,own2,hD5,ht5,ho5⟩;have hR5:=HR4.out.touch ht5 n1r;have hS5:=HS4.out.touch ht5 n1s;have HM5:=Lib.hid (HM4.out.trans ⟨ht5,ho5⟩);have n2r:¬own2 w.heap.size:=fun h=>(ho5 _ h).elim n1r (fun h=>by have:=HR4.out.lt;omega)
 have HD5:=Lib.hid hD5;obtain⟨y0,y1,y2,y3,_,_,_,_⟩:=blk4' hS5;obtain⟨z0,z1,z2,z3,f0,f1,f2,f3⟩:=blk4' hR5;have HR5:=Lib.hid hR5;clear hD5 ht5 ho5 hR5 hS5 HP
 go_wp2_with fail
 have k9:=(((HR5.out.set_ 0 (.int .i64 (v0:Int))).set_ 1 (.int .i64 (v1:Int))).set_ 2 (.int .i64 (v2:Int))).set_ 3 (.int .i64 (v3:Int));have t9:Touch (fun b=>b=w.heap.size) w5 ((((w5.setCell ⟨w.heap.size,0,none⟩ (.int .i64 (v0:Int))).setCell ⟨w.heap.size,1,none⟩ (.int .i64 (v1:Int))).setCell ⟨w.heap.size,2,none⟩ (.int .i64 (v2:Int))).setCell ⟨w.heap.size,3,none⟩ (.int .i64 (v3:Int))):=
  ((((Touch.refl (fun b=>b=w.heap.size) w5).setCell (p:=⟨w.heap.size,0,none⟩) (.inl rfl) _).setCell (p:=⟨w.heap.size,1,none⟩) (.inl rfl) _).setCell (p:=⟨w.heap.size,2,none⟩) (.inl rfl) _).setCell (p:=⟨w.heap.size,3,none⟩) (.inl rfl) _
 refine shape_ret' rfl w.heap.size k9 (.int .i64 0) rfl rfl ?_;refine⟨by rw [HSV.out],own2,HD5.out.touch t9 (fun b hb e=>n2r (e▸hb)),⟨?_,HM5.out.own⟩⟩;exact(HM5.out.touch.trans t9 (fun b hb=> .inr (by omega)))
def openV(ws:Nat→UInt64)(sh:Sh):Value:=if wordsAt ws 0 8=wordsOf sh then .tuple #[shV sh,.int .i64 0]else .tuple #[.agg #[.int .i64 0,.int .i64 0,.int .i64 0,.int .i64 0],.int .i64 5]
set_option maxHeartbeats 4000000 in
set_option maxRecDepth 100000 in
theorem open_head{len:Mode}{w:World}{d L:Nat}{ws:Nat→UInt64}{own:Nat→Prop}{sh:Sh}(hL0:0<L)(hL:L≤1024)(hs:shapeOf L=some sh)(hu:len.lf≠0)(h:Dev w d L ws len (fun _=>0) own)(hT:Tabs w):
 Calls Tryz.prog 58 #[.pointer (some ⟨d,0,none⟩)] w fun e w'=>e= .returned (openV ws sh)∧Below w.heap.size w w':=by
 have ok:=shape_ok hs;have hli:=ok.lines;obtain⟨N,hN⟩:∃N,N=L*64:=⟨_,rfl⟩;have HSz:=Lib.hid (fun W(h:Dev W d L ws len (fun _=>0) own)=>by have:=h.size hL;rw [←hN]at this;exact this);have e1:(N:Int)/64=(L:Int):=by omega
 have t1:((L:Int)==0)=false:=by rw [beq_eq_false_iff_ne];omega
 have HOf:=Lib.hid (fun W=>headOf_any L W hL);have HV:Hid (ofV L= .tuple #[shV sh,.bool true]):=Lib.hid (by rw [ofV,hs];rfl);obtain⟨v0,v1,v2,v3,hsv⟩:∃v0 v1 v2 v3:Nat,shV sh= .agg #[.int .i64 (v0:Int),.int .i64 (v1:Int),.int .i64 (v2:Int),.int .i64 (v3:Int)]:=⟨_,_,_,_,rfl⟩;have HSV:=Lib.hid hsv;rw [hsv]at HV;have B0:Blk (w.alloc (.cells #[.int .i64 0,.int .i64 0,.int .i64 0,.int .i64 0] 109)) w.heap.size 109 [.int .i64 0,.int .i64 0,.int .i64 0,.int .i64 0]:=heap_alloc_new _ _;have hb0:Below w.heap.size w (w.alloc (.cells #[.int .i64 0,.int .i64 0,.int .i64 0,.int .i64 0] 109)):=(Below.refl _ _).alloc (Nat.le_refl _) _;have HD:=Lib.hid h;have HDb:=Lib.hid (fun W(k:Below w.heap.size w W)=>(h.below k:Dev W d L ws len (fun _=>0) own));clear h hN hsv;go_enter Tryz.func58,Tryz.ntmps58
 go_wp2_with fail
 obtain⟨W0,hW0⟩:∃W0,W0=w.alloc (.cells #[.int .i64 0,.int .i64 0,.int .i64 0,.int .i64 0] 109):=⟨_,rfl⟩;rw [←hW0]at B0 hb0⊢;have hlt0:w.heap.size<W0.heap.size:=B0.lt;clear hW0;refine(HSz.out _ (HDb.out _ hb0)).mono ?_;rintro e w'⟨rfl,rfl⟩;obtain⟨gd,hbd,hrd,hod⟩:=HDb.out _ hb0;have HG:=get_dev d L ws _ _ gd hbd 0 8 W0 hL0 hL hu hrd (by omega);rw [show((8*0:Nat):Int)=0 from rfl]at HG;have HG:=Lib.hid HG;clear hrd hod
 go_wp2_with fail
 refine HG.out.mono ?_;rintro e w1⟨v1',rfl,ho1,hb1⟩;obtain⟨A1,c1,rfl,hc1,hr1⟩:=rd_of_own ho1;have hb01:=hb0.trans (hb1.mono hb0.size);have B1:=B0.below hb1 hlt0;have HR1:Hid (Ws w1 A1 8 (wordsAt ws 0 8)):=Lib.hid hr1;have HB1:=Lib.hid hb01;have HBk1:=Lib.hid B1;clear hb0 hb1 B0 B1 hb01 ho1 hr1 HG
 go_wp2_with fail
 refine(HOf.out _).mono ?_;rintro e w2⟨rfl,hb2⟩;rw [HV.out];have hb02:=HB1.out.trans (hb2.mono HB1.out.size);have hlt1:=HBk1.out.lt;have hBk2:=HBk1.out.below hb2 hlt1;have hr2:=HR1.out.below hb2;obtain⟨W3,hW3⟩:∃W3,W3=w2.alloc (.cells #[.int .i64 (v0:Int),.int .i64 (v1:Int),.int .i64 (v2:Int),.int .i64 (v3:Int)] 109):=⟨_,rfl⟩;have hb23:Below w2.heap.size w2 W3:=by rw [hW3];exact(Below.refl _ _).alloc (Nat.le_refl _) _
 have hS3:Blk W3 w2.heap.size 109 [.int .i64 (v0:Int),.int .i64 (v1:Int),.int .i64 (v2:Int),.int .i64 (v3:Int)]:=by rw [hW3];exact heap_alloc_new _ _
 have hBk3:=hBk2.below hb23 hBk2.lt;have hb03:=hb02.trans (hb23.mono hb02.size);have HWo:=headWords_any sh W3 (by omega) (by rw [hli];exact hs) (hT.below hb03).fours;rw [HSV.out]at HWo;have HWo:=Lib.hid HWo;have HR3:=Lib.hid (hr2.below hb23);have HS3:=Lib.hid hS3;have HBk3:=Lib.hid hBk3;have HB3:=Lib.hid hb03;have HW3:=Lib.hid hW3;clear hb02 hBk2 hr2 hb23 hS3 hBk3 hb03 hb2 hW3 HBk1 HR1
 go_wp2_with fail
 rw [←HW3.out];refine HWo.out.mono ?_;rintro e w4⟨v4,rfl,hown4,hb4⟩;obtain⟨A4,c4,rfl,hc4,hr4⟩:=rd_of_own hown4;have HEq:=Lib.hid (equalW_any A1 A4 8 8 c1 c4 (wordsAt ws 0 8) (wordsOf sh) w4 (by decide) (by decide) (HR3.out.below hb4) hr4);have HS4:=Lib.hid (HS3.out.below hb4 HS3.out.lt);have HBk4:=Lib.hid (HBk3.out.below hb4 HBk3.out.lt);have HB4:=Lib.hid (HB3.out.trans (hb4.mono HB3.out.size));clear hown4 hr4 hb4 HWo;by_cases he:wordsAt ws 0 8=wordsOf sh
 ·rw [decide_eq_true he]at HEq;have HVV:Hid (openV ws sh= .tuple #[shV sh,.int .i64 0]):=Lib.hid (by rw [openV,if_pos he]);clear he
  go_wp2_with fail
  refine HEq.out.mono ?_;rintro e w5⟨rfl,q,rfl⟩;have hS5:=HS4.out.below ((Dr.one w4 q).below _) HS4.out.lt;have hR5:=HBk4.out.below ((Dr.one w4 q).below _) HBk4.out.lt;obtain⟨W5,hW5⟩:∃W5,W5=w4.drewN q:=⟨_,rfl⟩;have hb5:Below w.heap.size w W5:=HB4.out.trans ((by rw [hW5];exact(Dr.one w4 q).below _));rw [←hW5]at hS5 hR5⊢;clear hW5;obtain⟨y0,y1,y2,y3,_,_,_,_⟩:=blk4' hS5;obtain⟨z0,z1,z2,z3,f0,f1,f2,f3⟩:=blk4' hR5;have HR5:=Lib.hid hR5;have HB5:=Lib.hid hb5;clear hR5 hS5 hb5
  go_wp2_with fail
  have k9:=(((HR5.out.set_ 0 (.int .i64 (v0:Int))).set_ 1 (.int .i64 (v1:Int))).set_ 2 (.int .i64 (v2:Int))).set_ 3 (.int .i64 (v3:Int));have b9:=(((HB5.out.setCell (p:=⟨w.heap.size,0,none⟩) (Nat.le_refl _) (.int .i64 (v0:Int))).setCell (p:=⟨w.heap.size,1,none⟩) (Nat.le_refl _) (.int .i64 (v1:Int))).setCell (p:=⟨w.heap.size,2,none⟩) (Nat.le_refl _) (.int .i64 (v2:Int))).setCell (p:=⟨w.heap.size,3,none⟩) (Nat.le_refl _) (.int .i64 (v3:Int));refine shape_ret' rfl w.heap.size k9 (.int .i64 0) rfl rfl ?_;exact⟨by rw [HVV.out,HSV.out],b9⟩
 ·rw [decide_eq_false he]at HEq;have HVV:Hid (openV ws sh= .tuple #[.agg #[.int .i64 0,.int .i64 0,.int .i64 0,.int .i64 0],.int .i64 5]):=Lib.hid (by rw [openV,if_neg he]);clear he
  go_wp2_with fail
  refine HEq.out.mono ?_;rintro e w5⟨rfl,q,rfl⟩;have hR5:=HBk4.out.below ((Dr.one w4 q).below _) HBk4.out.lt;obtain⟨W5,hW5⟩:∃W5,W5=w4.drewN q:=⟨_,rfl⟩;have hb5:Below w.heap.size w W5:=HB4.out.trans ((by rw [hW5];exact(Dr.one w4 q).below _));rw [←hW5]at hR5⊢;clear hW5;obtain⟨z0,z1,z2,z3,f0,f1,f2,f3⟩:=blk4' hR5;have HR5:=Lib.hid hR5;have HB5:=Lib.hid hb5;clear hR5 hb5
  go_wp2_with fail
  have k9:=(((HR5.out.set_ 0 (.int .i64 0)).set_ 1 (.int .i64 0)).set_ 2 (.int .i64 0)).set_ 3 (.int .i64 0);have b9:=(((HB5.out.setCell (p:=⟨w.heap.size,0,none⟩) (Nat.le_refl _) (.int .i64 0)).setCell (p:=⟨w.heap.size,1,none⟩) (Nat.le_refl _) (.int .i64 0)).setCell (p:=⟨w.heap.size,2,none⟩) (Nat.le_refl _) (.int .i64 0)).setCell (p:=⟨w.heap.size,3,none⟩) (Nat.le_refl _) (.int .i64 0);refine shape_ret' rfl w.heap.size k9 (.int .i64 5) rfl rfl ?_;exact⟨by rw [HVV.out],b9⟩
theorem Tryz.wordsTyK:RowTyK Tryz.prog 70 23 (.int .u64 0) 1 8:=⟨Tryz.underlying70,by kernel_rfl,rfl⟩
theorem entry_any(p t i:Nat)(w:World)(y3:w.cell? ⟨p,3,none⟩=some (.int .i64 (t:Int)))(ht:t≤100000)(hi:i≤100000):Calls Tryz.prog 60 #[.pointer (some ⟨p,0,none⟩),.int .i64 (i:Int)] w fun e w'=>e= .returned (.int .i64 ((t:Int)+8*(i:Int)))∧w=w':=by
 go_enter Tryz.func60,Tryz.ntmps60;go_wp2;go_ret;exact⟨by go_num,rfl⟩
theorem wordsAt_succ(ws:Nat→UInt64)(j k:Nat):(wordsAt ws j (k+1)).map wv=(wordsAt ws j k).map wv++[.int .u64 ((ws (j+k)).toNat:Int)]:=by
 simp [wordsAt,List.range_succ,wv]
theorem open_round{W4 w5 w6:World}{p0 k g6 c6 base:Nat}{v a0 a1 a2 a3 a4 a6:Value}{ws:Nat→UInt64}{j:Nat}{x:UInt64}(hx:ws (j+k)=x)(_:base≤p0)
 (hP:Blk w5 p0 111 [a0,a1,a2,a3,a4,v,a6])(hv:(k=0∧v= .slice none 0 0)∨∃g c,v= .slice (some ⟨g,0,none⟩) k c∧p0<g)(hbl:Below p0 W4 w5)(_:W4.heap.size≤w5.heap.size)
 (hO:w6.ownsRow base 23 1 (.slice (some ⟨g6,0,none⟩) (k+1) c6) (k+1) ((wordsAt ws j k).map wv++[.int .u64 (x.toNat:Int)]))(hB:Below base w5 w6)(hK:Kept w5 w6 v.ownBlock)(hg:v.ownBlock=some g6∨w5.heap.size≤g6):
 Blk (w6.setCell ⟨p0,5,none⟩ (.slice (some ⟨g6,0,none⟩) (k+1) c6)) p0 111 [a0,a1,a2,a3,a4,.slice (some ⟨g6,0,none⟩) (k+1) c6,a6]∧p0<g6∧
  (w6.setCell ⟨p0,5,none⟩ (.slice (some ⟨g6,0,none⟩) (k+1) c6)).ownsRow base 23 1 (.slice (some ⟨g6,0,none⟩) (k+1) c6) (k+1) ((wordsAt ws j (k+1)).map wv)∧Below p0 W4 (w6.setCell ⟨p0,5,none⟩ (.slice (some ⟨g6,0,none⟩) (k+1) c6)):=by
 have hne:some p0≠v.ownBlock:=fun e=>by rcases hv with⟨_,h⟩| ⟨g,c,h,hlt⟩<;>(subst h;simp [Value.ownBlock]at e);omega
 have hpg:p0<g6:=by
  rcases hg with h| h
  ·rcases hv with⟨_,h'⟩| ⟨g,c,h',hlt⟩<;>(subst h';simp [Value.ownBlock]at h);omega
  ·have:=hP.lt;omega
 have hP6:Blk w6 p0 111 [a0,a1,a2,a3,a4,v,a6]:=(hK.2 p0 hP.lt hne).trans hP;refine⟨hP6.set_ 5 _,hpg,?_,?_⟩
 ·rw [wordsAt_succ,hx];refine own_touch hO ((Touch.refl (fun b=>b=p0) w6).setCell (p:=⟨p0,5,none⟩) (.inl rfl) _) (fun b hb e=> ?_);have:g6=b:=by simpa [Value.ownBlock]using hb
  omega
 ·have hplt:=hP.lt;have hb6:Below p0 w5 w6:=⟨hB.os,hB.tape,hB.output,hK.1,fun b hb=>hK.2 b (Nat.lt_trans hb hplt) (fun e=>by
   rcases hv with⟨_,h'⟩| ⟨g,c,h',hlt⟩
   ·subst h';simp [Value.ownBlock]at e
   ·subst h';have:b=g:=by simpa [Value.ownBlock]using e
    omega)⟩
  exact(hbl.trans hb6).setCell (p:=⟨p0,5,none⟩) (Nat.le_refl _) _
def OpPost(len:Mode)(d L:Nat)(ws:Nat→UInt64)(own:Nat→Prop)(sh:Sh)(w:World)(e:Ending)(w':World):Prop:=
 Below w.heap.size w w'∧((∀i,i<sh.slabs→rightW (ws (sh.table/8+i)).toNat=true)→∃p F,e= .returned (.tuple #[.pointer (some ⟨p,0,none⟩),.int .i64 0])∧
  SysL len w' d p L {sh:=sh,ws:=ws,tk:=wordsAt ws (sh.table/8) sh.slabs,hd:=List.replicate sh.slabs 0} F∧∀b,F b→own b∨w.heap.size≤b)∧
  ((∃i,i<sh.slabs∧¬rightW (ws (sh.table/8+i)).toNat=true)→e= .returned (.tuple #[.pointer none,.int .i64 5]))
set_option maxHeartbeats 8000000 in
set_option maxRecDepth 100000 in
theorem open_pool_any{len:Mode}{w:World}{d L:Nat}{ws:Nat→UInt64}{own:Nat→Prop}{sh:Sh}(hL0:0<L)(hL:L≤1024)(hs:shapeOf L=some sh)(hu:len.lf≠0)(h:Dev w d L ws len (fun _=>0) own)(hT:Tabs w)(g1:¬own 0)(g2:¬own 1)
 (h8:wordsAt ws 0 8=wordsOf sh):
 Calls Tryz.prog 34 #[.pointer (some ⟨d,0,none⟩)] w (OpPost len d L ws own sh w):=by
 have ok:=shape_ok hs;have HO:=Lib.hid (open_head hL0 hL hs hu h hT);have HV:Hid (openV ws sh= .tuple #[shV sh,.int .i64 0]):=Lib.hid (by rw [openV,if_pos h8]);obtain⟨n,hn⟩:∃x,sh.slabs=x:=⟨_,rfl⟩;obtain⟨tb,htb⟩:∃x,sh.table=x:=⟨_,rfl⟩;obtain⟨dt,hdt⟩:∃x,sh.data=x:=⟨_,rfl⟩;obtain⟨li,hli⟩:∃x,sh.lines=x:=⟨_,rfl⟩;have hsv:shV sh= .agg #[.int .i64 (li:Int),.int .i64 (n:Int),.int .i64 (tb:Int),.int .i64 (dt:Int)]:=by rw [shV,hn,htb,hdt,hli]
 rw [hsv]at HV;have hn64:n≤64:=by have:=ok.fits;omega
 have htb8:tb=128:=by rw [←htb];exact ok.table
 obtain⟨i0,hi,hz0,hz1,hz2⟩:=info_parts Tryz.wordsTy.hi;have hmk:∀W:World,(Instr.makeSlice 70 (.int .i64 (n:Int)) (.int .i64 (n:Int))).run Tryz.prog W= .ok (.slice (some ⟨W.heap.size,0,none⟩) n n) (W.alloc (.cells (madeCells (Value.int .u64 0).cells (n*1)) 23)):=fun W=>by
  have:=run_make (P:=Tryz.prog) (w:=W) 70 23 i0 (.int .u64 0) Tryz.underlying70 hi hz0 .i64 .i64 (n:Int) (n:Int) (by omega) (by omega) (by rw [hz2];omega) (by omega);rw [hz1]at this;simpa using this
 obtain⟨zc,hzc⟩:∃zc,madeCells (Value.int .u64 0).cells (n*1)=zc:=⟨_,rfl⟩;rw [hzc]at hmk;have HDb:=Lib.hid (fun W(k:Below w.heap.size w W)=>(h.below k:Dev W d L ws len (fun _=>0) own));have HOk:=Lib.hid ok;have HLt:=Lib.hid h.lt;have HSh:=Lib.hid hs;have htbb:tb≤100000:=by omega
 have HTB8:=Lib.hid htb8;have HTb:=Lib.hid htb;clear h ok hsv h8 hi hz0 hz1 hz2 htb8 htb;go_enter Tryz.func34,Tryz.ntmps34
 go_wp2_with fail
 refine HO.out.mono ?_;rintro e w1⟨rfl,hb1⟩;rw [HV.out]
 go_wp2_with fail
 obtain⟨W2,hW2⟩:∃W2,W2=w1.alloc (.cells #[.int .i64 (li:Int),.int .i64 (n:Int),.int .i64 (tb:Int),.int .i64 (dt:Int)] 109):=⟨_,rfl⟩;have hS2:Blk W2 w1.heap.size 109 [.int .i64 (li:Int),.int .i64 (n:Int),.int .i64 (tb:Int),.int .i64 (dt:Int)]:=by rw [hW2];exact heap_alloc_new _ _
 have hb2:Below w.heap.size w W2:=by rw [hW2];exact hb1.alloc hb1.size _
 rw [←hW2];obtain⟨y0,y1,y2,y3,f0,f1,f2,f3⟩:=blk4' hS2;have hS2':Blk (W2.alloc (.cells zc 23)) w1.heap.size 109 [.int .i64 (li:Int),.int .i64 (n:Int),.int .i64 (tb:Int),.int .i64 (dt:Int)]:=(heap_alloc_old _ _ hS2.lt).trans hS2;obtain⟨x0,x1,x2,x3,_,_,_,_⟩:=blk4' hS2';have HS2:=Lib.hid hS2;have HB2:=Lib.hid hb2;clear hW2 hS2 hS2' hb2 hb1 HO;go_region;obtain⟨W4,hW4⟩:∃W4,W4=((W2.alloc (.cells zc 23)).alloc (.cells #[.pointer (some ⟨d,0,none⟩),.int .i64 (li:Int),.int .i64 (n:Int),.int .i64 (tb:Int),.int .i64 (dt:Int),.slice none 0 0,.slice (some ⟨W2.heap.size,0,none⟩) n n] 111)).drew:=⟨_,rfl⟩;have e1:(W2.alloc (.cells zc 23)).heap.size=W2.heap.size+1:=by simp
 have hP4:Blk W4 (W2.heap.size+1) 111 [.pointer (some ⟨d,0,none⟩),.int .i64 (li:Int),.int .i64 (n:Int),.int .i64 (tb:Int),.int .i64 (dt:Int),.slice none 0 0,.slice (some ⟨W2.heap.size,0,none⟩) n n]:=by
  rw [hW4,←e1];exact heap_alloc_new _ _
 have hZ4:W4.heap[W2.heap.size]? =some (.cells zc 23 (0,0)):=by
  rw [hW4];exact(heap_alloc_old _ _ (by omega)).trans (heap_alloc_new _ _)
 have hS4:Blk W4 w1.heap.size 109 [.int .i64 (li:Int),.int .i64 (n:Int),.int .i64 (tb:Int),.int .i64 (dt:Int)]:=by
  have:=HS2.out.lt;rw [hW4];exact(heap_alloc_old _ _ (by omega)).trans ((heap_alloc_old _ _ this).trans HS2.out)
 have hb4:Below w.heap.size w W4:=by
  have:=HB2.out.size;rw [hW4];exact((HB2.out.alloc this _).alloc (by omega) _).trans ((Dr.drew _).below _)
 rw [←hW4];have hws:=HB2.out.size;have hs2:=HS2.out.lt;have hsz4:W4.heap.size=W2.heap.size+1+1:=by rw [hW4];show(Array.size _)=_;simp
 clear hW4 x0 x1 x2 x3 y0 y1 y2 y3 f0 f1 f2 f3 e1;obtain⟨p0,hp0⟩:∃p0,W2.heap.size+1=p0:=⟨_,rfl⟩;obtain⟨h0,hh0⟩:∃h0,W2.heap.size=h0:=⟨_,rfl⟩;obtain⟨s0,hs0⟩:∃s0,w1.heap.size=s0:=⟨_,rfl⟩;rw [hp0]at hP4 hsz4⊢;rw [hh0]at hP4 hZ4 hws hs2 hp0⊢;rw [hs0]at hS4 hs2⊢;obtain⟨y0,y1,y2,y3,f0,f1,f2,f3⟩:=blk4' hS4;have HP4:=Lib.hid hP4;have HZ4:=Lib.hid hZ4;have HS4:=Lib.hid hS4;have HB4:=Lib.hid hb4;clear hP4 hZ4 hS4 hb4 HS2 HB2 HV
 go_wp2_with fail
 go_loopw [27](fun i wr=>∃k v,k≤n∧i= .int .i64 (k:Nat)∧Blk wr p0 111 [.pointer (some ⟨d,0,none⟩),.int .i64 (li:Int),.int .i64 (n:Int),.int .i64 (tb:Int),.int .i64 (dt:Int),v,.slice (some ⟨h0,0,none⟩) n n]∧
  ((k=0∧v= .slice none 0 0)∨∃g c,v= .slice (some ⟨g,0,none⟩) k c∧p0<g)∧wr.ownsRow w.heap.size 23 1 v k ((wordsAt ws (tb/8) k).map wv)∧Below p0 W4 wr∧∀i,i<k→rightW (ws (tb/8+i)).toNat=true)(fun i _=>n- (intOf i).toNat)
 case atStart=>exact⟨0,_,Nat.zero_le _,rfl,HP4.out,.inl ⟨rfl,rfl⟩,World.ownsRow_nil _ _ _ _,Below.refl _ _,fun i hi=>absurd hi (Nat.not_lt_zero _)⟩
 case round=>
  obtain⟨k,v,hk,rfl,hP,hv,hrow,hbl,hal⟩:=hrel;have hbw:Below w.heap.size w wr:=HB4.out.trans (hbl.mono (by omega));have y3':=hP.cell 3;simp only [List.getElem?_cons_succ,List.getElem?_cons_zero]at y3';have HEn:=Lib.hid (entry_any p0 tb k wr y3' htbb (by omega));have HPk:=Lib.hid hP;have HVk:=Lib.hid hv;have HRw:=Lib.hid hrow;have HBl:=Lib.hid hbl;have HBw:=Lib.hid hbw;have HAl:=Lib.hid hal;clear hP hv hrow hbl y3' hal;by_cases hlt:k<n
  ·obtain⟨gd,hbd,hrd,hod⟩:=HDb.out _ hbw;have HG:=get_dev d L ws _ _ gd hbd (tb/8+k) 1 wr hL0 hL hu hrd (by have:=HOk.out.fits;have:=HOk.out.tfits;have:=HTB8.out;omega);rw [show((8*(tb/8+k):Nat):Int)=(tb:Int)+8*(k:Int)by have:=HTB8.out;omega]at HG;have HG:=Lib.hid HG;clear hrd hod hbw
   go_wp2_with fail
   refine HEn.out.mono ?_;rintro e w'⟨rfl,rfl⟩
   go_wp2_with fail
   refine HG.out.mono ?_;rintro e w3⟨v3,rfl,ho3,hb3⟩;obtain⟨A3,c3,rfl,hc3,hr3⟩:=rd_of_own ho3;obtain⟨g3,rfl,hg3,hg3l⟩:=own_addr ho3 (by omega);have hc0:w3.cell? ⟨g3,0,none⟩=some (.int .u64 ((ws (tb/8+k)).toNat:Int)):=by
    obtain⟨b,off,e,_,hc⟩:=hr3.2 (by omega);injection e with e;injection e with e1 e2;subst e1 e2
    rw [hc 0 (by omega)];simp [wordsFrom,wv]
   have HRt:=Lib.hid (rightS_any (ws (tb/8+k)).toNat · (UInt64.toNat_lt _));by_cases hR:rightW (ws (tb/8+k)).toNat=true
   case neg=>
    have hRf:rightW (ws (tb/8+k)).toNat=false:=by simpa using hR
    rw [hRf]at HRt;have HNR:=Lib.hid hR;have HB3:=Lib.hid (HBw.out.trans (hb3.mono HBw.out.size));obtain⟨x,hx⟩:∃x,ws (tb/8+k)=x:=⟨_,rfl⟩;rw [hx]at hc0 HRt;clear ho3 hr3 hb3 hx hR hRf HG HEn
    go_wp2_with fail
    refine(HRt.out _).mono ?_;rintro e w5⟨rfl,hd5⟩;have HB5:=Lib.hid (HB3.out.trans ((hd5.below _).mono HB3.out.size));clear hd5 HB3 HRt hc0
    go_wp2_with fail
    go_ret2;have e1:sh.table/8=tb/8:=by rw [HTb.out]
    exact⟨HB5.out,fun h=>absurd (by have:=h k (by rw [hn];exact hlt);rw [e1]at this;exact this) HNR.out,fun _=>rfl⟩
   rw [hR]at HRt;have hP3:=HPk.out.below hb3 HPk.out.lt;have hg3p:p0<g3:=by have:=HPk.out.lt;omega
   have hrow3:=own_below HRw.out hb3;have hbl3:=HBl.out.trans (hb3.mono (Nat.le_of_lt HPk.out.lt));have HP3:=Lib.hid hP3;have HRw3:=Lib.hid hrow3;have HBl3:=Lib.hid hbl3;obtain⟨x,hx⟩:∃x,ws (tb/8+k)=x:=⟨_,rfl⟩;rw [hx]at hc0 HRt;have HX:=Lib.hid hx;have HAk:Hid (∀i,i<k+1→rightW (ws (tb/8+i)).toNat=true):=Lib.hid (fun i hi=>by
    rcases Nat.lt_succ_iff_lt_or_eq.1 hi with h| h
    ·exact HAl.out i h
    ·subst h;rw [hx];rw [←hx];exact hR)
   clear ho3 hr3 hb3 hP3 hrow3 hbl3 hx hR HG HEn
   go_wp2_with fail
   refine(HRt.out _).mono ?_;rintro e w5⟨rfl,hd5⟩;have hb5:=hd5.below w3.heap.size;have hP5:=HP3.out.below hb5 HP3.out.lt;have hc5:=(hb5.cell (p:=⟨g3,0,none⟩) hg3l).trans hc0;have hrow5:=own_below HRw3.out hb5;have hbl5:=HBl3.out.trans (hb5.mono (Nat.le_of_lt HP3.out.lt));have z5:=hP5.cell 5;have f5:=hP5.frozen 5;have hp5:=hP5.lt;simp only [List.getElem?_cons_succ,List.getElem?_cons_zero]at z5;have HP5:=Lib.hid hP5;have HRw5:=Lib.hid hrow5;have HBl5:=Lib.hid hbl5;have hw5:w.heap.size≤w5.heap.size:=by omega
   clear hd5 hb5 hP5 hrow5 hbl5 hc0 HP3 HRw3 HBl3 HRt;obtain⟨wd,hwd⟩:∃wd,wd=w5.drew:=⟨_,rfl⟩
   go_wp2_with fail
   go_region_law(refine step_app_one rfl (.tmp 50) (.tmp 54) 70 rfl Tryz.wordsTyK w5 w.heap.size v k ((wordsAt ws (tb/8) k).map wv) [.int .u64 (x.toNat:Int)] rfl HRw5.out rfl rfl rfl rfl w5.heap.size 1 rfl rfl rfl (by decide) (by intro u hu;simp at hu;subst hu;rfl) (by omega) (by decide) hw5 ?_;intro g6 c6 w6 hO6 hB6 hK6 hg6;have hng:some p0≠v.ownBlock:=(fun e=>by rcases HVk.out with⟨_,h⟩| ⟨g,c,h,hlt⟩<;>(subst h;simp [Value.ownBlock]at e);omega);have z6:=(World.cell?_of_block (w:=w5) (a:=⟨p0,5,none⟩) (hK6.2 p0 hp5 hng)).trans z5;have f6:=(World.frozen?_of_block (w:=w5) (a:=⟨p0,5,none⟩) (hK6.2 p0 hp5 hng)).trans f5)
   all_goals(obtain⟨q1,q2,q3,q4⟩:=open_round HX.out (by omega) HP5.out HVk.out HBl5.out HBl5.out.size hO6 hB6 hK6 hg6)
   all_goals(have Q1:=Lib.hid q1)
   all_goals(have Q3:=Lib.hid q3)
   all_goals(have Q4:=Lib.hid q4)
   all_goals(clear q1 q3 q4 hO6 hB6 hK6 hg6 hng z6 f6 z5 f5 hc5)
   all_goals(go_wp2_with fail)
   all_goals(go_roundw)
   all_goals(try(case rel=>exact⟨k+1,_,by omega,by go_num,Q1.out,.inr ⟨g6,c6,rfl,q2⟩,Q3.out,Q4.out,HAk.out⟩))
   all_goals(try(simp [intOf];omega))
  ·have hkn:k=n:=by omega
   subst hkn
   go_wp2_with fail
   go_ret2;have hn0:0<k:=by rw [←hn];exact HOk.out.slabs
   rcases HVk.out with⟨h0',_⟩| ⟨g,c,rfl,hgp⟩
   ·omega
   have hlt:=HLt.out;have hrow:=HRw.out;have hZ:=(HBl.out.block h0 (by omega)).trans HZ4.out;have hgl:=own_addr hrow hn0;have htl:=hT.lt;have e1:sh.table/8=tb/8:=by rw [HTb.out]
   refine⟨HBw.out,fun _=> ?_,fun⟨i,hi,hni⟩=>absurd (by rw [e1];exact HAl.out i (by rw [←hn];exact hi)) hni⟩;refine⟨p0,fun b=>own b∨b=p0∨b=g∨b=h0,rfl,⟨g,h0,k,c,k,own,⟨⟨HDb.out _ HBw.out,hu⟩,hL0,hL,HSh.out,?_,?_,?_,?_,?_,?_,(rd_own hrow).1,Nat.le_refl _,fun h=> ?_,fun h=> ?_,fun h=> ?_,by omega,by omega,by omega,hT.below HBw.out,?_,?_⟩,fun _=>Iff.rfl⟩,fun b hb=> ?_⟩
   ·show Blk wr p0 _ _;rw [hli,hn,HTb.out,hdt];exact HPk.out
   ·rw [hn,e1];exact RowB.of_own hrow
   ·refine⟨zc,hZ,fun t ht=> ?_⟩;have ht':t<k:=by rw [List.length_replicate,hn]at ht;exact ht
    rw [←Array.getElem?_toList,←hzc,made_words,List.getElem?_map,List.getElem?_replicate,if_pos ht',List.getElem_replicate];rfl
   ·simp [wordsAt,hn]
   ·simp [hn]
   ·exact hn.symm
   ·have:=hlt _ h;omega
   ·have:=hlt _ h;omega
   ·have:=hlt _ h;omega
   ·rintro(h| h| h| h)
    ·exact g1 h
    ·omega
    ·omega
    ·omega
   ·rintro(h| h| h| h)
    ·exact g2 h
    ·omega
    ·omega
    ·omega
   ·rcases hb with h| h| h| h
    ·exact .inl h
    ·right;omega
    ·right;omega
    ·right;omega
theorem open_pool{len:Mode}{w:World}{d L:Nat}{ws:Nat→UInt64}{own:Nat→Prop}{sh:Sh}(hL0:0<L)(hL:L≤1024)(hs:shapeOf L=some sh)(hu:len.lf≠0)(h:Dev w d L ws len (fun _=>0) own)(hT:Tabs w)(g1:¬own 0)(g2:¬own 1)
 (h8:wordsAt ws 0 8=wordsOf sh)(hall:∀i,i<sh.slabs→rightW (ws (sh.table/8+i)).toNat=true):
 Calls Tryz.prog 34 #[.pointer (some ⟨d,0,none⟩)] w fun e w'=>∃p F,e= .returned (.tuple #[.pointer (some ⟨p,0,none⟩),.int .i64 0])∧
  SysL len w' d p L {sh:=sh,ws:=ws,tk:=wordsAt ws (sh.table/8) sh.slabs,hd:=List.replicate sh.slabs 0} F∧Below w.heap.size w w'∧∀b,F b→own b∨w.heap.size≤b:=by
 refine(open_pool_any hL0 hL hs hu h hT g1 g2 h8).mono ?_;rintro e w'⟨hb,h1,_⟩;obtain⟨p,F,he,hS,ho⟩:=h1 hall;exact⟨p,F,he,hS,hb,ho⟩
theorem putWs_zero(j n:Nat):putWs (fun _=>0) j (List.replicate n 0)=fun _=>0:=by
 funext i;unfold putWs;split
 ·rw [List.getD_eq_getElem?_getD,List.getElem?_replicate];split<;>rfl
 ·rfl
theorem wordsOf_length(sh:Sh):(wordsOf sh).length=8:=rfl
theorem format_head(sh:Sh):wordsAt (formatW sh) 0 8=wordsOf sh:=by
 apply List.ext_getElem
 ·rfl
 ·intro i h1 h2;have hi:i<8:=by simpa [wordsAt]using h1
  have h8:=wordsOf_length sh;simp only [wordsAt,List.getElem_map,List.getElem_range];unfold formatW putWs;rw [if_pos (by omega),List.getD_eq_getElem?_getD,show 0+i-0=i by omega,List.getElem?_eq_getElem h2];rfl
theorem format_above(sh:Sh)(i:Nat)(hi:8≤i):formatW sh i=0:=by
 unfold formatW putWs;have h8:=wordsOf_length sh;rw [if_neg (by omega)]
def st0(sh:Sh):St:={sh:=sh,ws:=formatW sh,tk:=List.replicate sh.slabs 0,hd:=List.replicate sh.slabs 0}
theorem format_taken(sh:Sh)(h:sh.table=128):wordsAt (formatW sh) (sh.table/8) sh.slabs=List.replicate sh.slabs 0:=by
 apply List.ext_getElem
 ·simp [wordsAt]
 ·intro i h1 h2;simp only [wordsAt,List.getElem_map,List.getElem_range,List.getElem_replicate];exact format_above sh _ (by omega)
set_option maxHeartbeats 4000000 in
set_option maxRecDepth 100000 in
theorem begin_pool{w:World}{L:Nat}{sh:Sh}(hL0:0<L)(hL:L≤1024)(hs:shapeOf L=some sh)(hT:Tabs w):
 Calls Tryz.prog 20 #[.int .i64 (L:Int)] w fun e w'=>∃d p F,e= .returned (.tuple #[.pointer (some ⟨d,0,none⟩),.pointer (some ⟨p,0,none⟩)])∧
  Sys w' d p L (st0 sh) F∧Below w.heap.size w w'∧∀b,F b→w.heap.size≤b:=by
 have htl:=hT.lt;obtain⟨v0,v1,v2,v3,hsv⟩:∃v0 v1 v2 v3:Nat,shV sh= .agg #[.int .i64 (v0:Int),.int .i64 (v1:Int),.int .i64 (v2:Int),.int .i64 (v3:Int)]:=⟨_,_,_,_,rfl⟩;have HSV:=Lib.hid hsv;have HTb:=Lib.hid (shape_ok hs).table;clear hsv;go_enter Tryz.func20,Tryz.ntmps20
 go_wp2_with fail
 refine(new_dev L w hL0 hL).mono ?_;rintro e w1⟨d,g,rfl,hr,hd1,hg1,hb1⟩;have hD1:Dev w1 d L (fun _=>0) M0 (fun _=>0) (devOwn d L g (fun _=>none)):=⟨g,_,hr,fun _=>Iff.rfl⟩;have ho1:∀b,devOwn d L g (fun _=>none) b→w.heap.size≤b:=fun b h=>by
  rcases h with h| h| ⟨_,_,h⟩
  ·omega
  ·omega
  ·cases h
 have HF:=format_dev hL0 hL hs hD1 (hT.below hb1) (fun h=>by have:=ho1 _ h;omega) (fun h=>by have:=ho1 _ h;omega);rw [putWs_zero,show putWs (fun _=>0) 0 (wordsOf sh)=formatW sh from rfl,HSV.out]at HF;have HF:=Lib.hid HF;clear hr hD1
 go_wp2_with fail
 refine HF.out.mono ?_;rintro e w2⟨rfl,own2,hD2,hM2⟩;have hb2:Below w.heap.size w w2:=hb1.trans (hM2.touch.below hb1.size ho1);have ho2:∀b,own2 b→w.heap.size≤b:=fun b h=>(hM2.own b h).elim (ho1 b) (fun h=>Nat.le_trans hb1.size h)
 have hb23:Below w2.heap.size w2 (w2.alloc (.cells #[.int .i64 (v0:Int),.int .i64 (v1:Int),.int .i64 (v2:Int),.int .i64 (v3:Int)] 109)):=(Below.refl _ _).alloc (Nat.le_refl _) _;have hb3:=hb2.trans (hb23.mono hb2.size);have HO:=open_pool hL0 hL hs (by decide) (hD2.below hb23) (hT.below hb3) (fun h=>by have:=ho2 _ h;omega) (fun h=>by have:=ho2 _ h;omega) (format_head sh) (fun i hi=>by rw [format_above sh _ (by rw [HTb.out];omega)];rfl);rw [format_taken sh HTb.out]at HO;have HO:=Lib.hid HO;have HB3:=Lib.hid hb3;clear hb2 hb23 hD2 hM2 HF hb3
 go_wp2_with fail
 refine HO.out.mono ?_;rintro e w4⟨p,F,rfl,hs4,hb4,hF4⟩;have HS4:Hid (Sys w4 d p L (st0 sh) F):=Lib.hid hs4;have HB4:=Lib.hid (HB3.out.trans (hb4.mono HB3.out.size));clear hs4 hb4 HO;have hsz:=HB3.out.size
 go_wp2_with fail
 go_ret2;refine⟨d,p,F,rfl,HS4.out,HB4.out,fun b hb=>(hF4 b hb).elim (ho2 b) (fun h=>Nat.le_trans hsz h)⟩
structure Jm where
 s:Ms
 made:List Int
def stepsN(j n:Nat):Nat:=n+((j+n-1)/8-j/8+1)+1
def buildM(j:Jm)(n:Nd):Jm×UInt64×Int:=
 if !rightB n then(j,0,5)else
 match reserveP j.s.s (classN n)with
 | none=>(j,0,6)
 | some (off,s1)=>
   match wrM ⟨j.s.pw,s1⟩ (stepsN (off/8) (encW n).length) (putWs s1.ws (off/8) (encW n))with
   | (r,c)=>if c=0 then
       match takeM r off with
       | (s2,e)=>if e=0 then(⟨s2,j.made++[(off:Int)]⟩,UInt64.ofNat off,0)else(⟨s2,j.made++[(off:Int)]⟩,0,e)
     else(⟨r,j.made++[(off:Int)]⟩,0,c)
def aboveM(j:Jm)(n:Nd)(label:UInt8)(kid:UInt64)(e:Int):Jm×UInt64×Int:=
 if e≠0 then(j,0,e)else
 if withOkP n label kid then buildM j (withP n label kid)else(j,0,5)
def leafM:Nat→Jm→List UInt8→UInt64→Jm×UInt64×Int
 | 0,j,_,_=>(j,0,5)
 | f+1,j,l,value=>
   if l.length≤15 then buildM j ⟨l,value,[],[]⟩else
   match leafM f j (l.drop 16) value with
   | (j1,kid,e)=>aboveM j1 ⟨l.take 15,0,[],[]⟩ (l.getD 15 0) kid e
def growM(j:Jm)(x:Nd)(rest:List UInt8)(value:UInt64):Jm×UInt64×Int:=
 if common x.pre rest=x.pre.length then
  match leafM (rest.length+1) j (rest.drop (common x.pre rest+1)) value with
  | (j1,kid,e)=>aboveM j1 x (rest.getD (common x.pre rest) 0) kid e
 else
  match buildM j {x with pre:=x.pre.drop (common x.pre rest+1)}with
  | (j1,kid,e)=>
    if common x.pre rest=rest.length then aboveM j1 ⟨x.pre.take (common x.pre rest),value,[],[]⟩ (x.pre.getD (common x.pre rest) 0) kid e else
    if e≠0 then(j1,0,e)else
    if withOkP ⟨x.pre.take (common x.pre rest),0,[],[]⟩ (x.pre.getD (common x.pre rest) 0) kid then
     match leafM (rest.length+1) j1 (rest.drop (common x.pre rest+1)) value with
     | (j2,kid2,e2)=>aboveM j2 (withP ⟨x.pre.take (common x.pre rest),0,[],[]⟩ (x.pre.getD (common x.pre rest) 0) kid) (rest.getD (common x.pre rest) 0) kid2 e2
    else(j1,0,5)
def dropsM(q:Ms)(l:List Int):Ms:=l.foldl (fun q off=>(dropM q off).1) q
def dropsEM:Ms→List Int→Int→Ms×Int
 | q,[],e=>(q,e)
 | q,off::l,e=>dropsEM (dropM q off).1 l (if e=0 then(dropM q off).2 else e)
def finishM(j:Jm)(e:Int)(word:Int)(name:UInt64)(old:List Int):Ms×Int:=
 if e≠0 then(dropsM j.s j.made,e)else
 match wrM j.s 3 (put1 j.s.s.ws (word.toNat/8) name)with
 | (r,c)=>if c=0 then dropsEM r old 0 else(dropsM r j.made,c)
def valueM(q:Ms)(at_:Pl)(n:UInt64):Ms×Int:=wrM q 3 (put1 q.s.ws (at_.off.toNat/8+2) n)
def putM(q:Ms)(key:List UInt8)(value:UInt64):Ms×Int:=
 if 16<key.length then(q,3)else if value=0 then(q,2)else
 match pathP q.s key with
 | none=>(q,5)
 | some (way,rest)=>match standsP way rest with
   | some last=>valueM q last value
   | none=>match way.getLast? with
     | none=>match leafM (rest.length+1) ⟨q,[]⟩ rest value with
       | (j,name,e)=>finishM j e 72 name []
     | some last=>match growM ⟨q,[]⟩ last.nd rest value with
       | (j,name,e)=>finishM j e last.word name [last.off]
def pruneM(j:Jm)(way:List Pl):Ms×Int:=
 match pruneGo way (way.length-1) [(way.getLast?.map (·.off)).getD 0]with
 | (0,old)=>finishM j 0 72 0 old
 | (a+1,old)=>match way[a]?,way[a+1]? with
   | some up,some at_=>match findLb up.nd.labels at_.label with
     | some i=>if rightB up.nd then match buildM j (outP up.nd i)with
      | (j1,name,e)=>finishM j1 e up.word name (old++[up.off])
       else(j.s,5)
     | none=>(j.s,5)
   | _,_=>(j.s,5)
def cutM(q:Ms)(key:List UInt8):Ms×UInt64×Int:=
 if 16<key.length then(q,0,3)else
 match pathP q.s key with
 | none=>(q,0,5)
 | some (way,rest)=>match standsP way rest with
   | none=>(q,0,7)
   | some last=>if last.nd.val=0 then(q,0,7)else
     match(if last.nd.kids.length=0 then pruneM ⟨q,[]⟩ way else(q,6))with
     | (q1,e)=>if e=6 then match valueM q1 last 0 with
      | (q2,c)=>if c=0 then(q2,last.nd.val,0)else(q2,0,c)
       else if e=0 then(q1,last.nd.val,0)else(q1,0,e)
def jm0(j:Jb):Jm:=⟨⟨.up (-1),j.s⟩,j.made⟩
theorem buildM_end(j:Jb)(n:Nd):buildM (jm0 j) n=(jm0 (buildP j n).1,(buildP j n).2):=by
 unfold buildM buildP;cases rightB n
 ·rfl
 ·simp only [Bool.not_true,Bool.false_eq_true,if_false,jm0];cases reserveP j.s (classN n)with
  | none=>rfl
  | some os=>
    obtain⟨off,s1⟩:=os;simp only [wrM_end,takeM_end,if_true];split<;>rfl
theorem aboveM_end(j:Jb)(n:Nd)(label:UInt8)(kid:UInt64)(e:Int):aboveM (jm0 j) n label kid e=(jm0 (aboveP j n label kid e).1,(aboveP j n label kid e).2):=by
 unfold aboveM aboveP;split
 ·rfl
 ·split
  ·exact buildM_end _ _
  ·rfl
theorem leafM_end:∀(f:Nat)(j:Jb)(l:List UInt8)(value:UInt64),leafM f (jm0 j) l value=(jm0 (leafP f j l value).1,(leafP f j l value).2)
 | 0,j,l,value=>rfl
 | f+1,j,l,value=>by
   unfold leafM leafP;split
   ·exact buildM_end _ _
   ·rw [leafM_end f];exact aboveM_end _ _ _ _ _
theorem growM_end(j:Jb)(x:Nd)(rest:List UInt8)(value:UInt64):growM (jm0 j) x rest value=(jm0 (growP j x rest value).1,(growP j x rest value).2):=by
 unfold growM growP;split
 ·rw [leafM_end];exact aboveM_end _ _ _ _ _
 ·rw [buildM_end];generalize buildP j {x with pre:=x.pre.drop (common x.pre rest+1)}=r;obtain⟨j1,kid,e⟩:=r;simp only;split
  ·exact aboveM_end _ _ _ _ _
  ·split
   ·rfl
   ·split
    ·rw [leafM_end];exact aboveM_end _ _ _ _ _
    ·rfl
theorem dropsM_end:∀(l:List Int)(s:St),dropsM ⟨.up (-1),s⟩ l=⟨.up (-1),dropsP s l⟩
 | [],s=>rfl
 | off::l,s=>by
   show dropsM (dropM ⟨.up (-1),s⟩ off).1 l=_;rw [dropM_end];exact dropsM_end l _
theorem dropsEM_end:∀(l:List Int)(s:St)(e:Int),dropsEM ⟨.up (-1),s⟩ l e=(⟨.up (-1),(dropsE s l e).1⟩,(dropsE s l e).2)
 | [],s,e=>rfl
 | off::l,s,e=>by
   unfold dropsEM dropsE;rw [dropM_end];exact dropsEM_end l _ _
theorem finishM_end(j:Jb)(e word:Int)(name:UInt64)(old:List Int):finishM (jm0 j) e word name old=(⟨.up (-1),(finishP j e word name old).1⟩,(finishP j e word name old).2):=by
 unfold finishM finishP;split
 ·simp only [jm0,dropsM_end]
 ·simp only [jm0,wrM_end,if_true,dropsEM_end]
theorem valueM_end(s:St)(pl:Pl)(n:UInt64):valueM ⟨.up (-1),s⟩ pl n=(⟨.up (-1),valueP s pl n⟩,0):=wrM_end _ _ _
theorem putM_end(s:St)(key:List UInt8)(value:UInt64):putM ⟨.up (-1),s⟩ key value=(⟨.up (-1),(putK s key value).1⟩,(putK s key value).2):=by
 unfold putM putK;split
 ·rfl
 ·split
  ·rfl
  ·cases pathP s key with
   | none=>rfl
   | some wr=>
     obtain⟨way,rest⟩:=wr;simp only;cases standsP way rest with
     | some last=>exact valueM_end _ _ _
     | none=>
       simp only;cases way.getLast? with
       | none=>
         simp only;rw [show(⟨⟨.up (-1),s⟩,[]⟩:Jm)=jm0 ⟨s,[]⟩from rfl,leafM_end];exact finishM_end _ _ _ _ _
       | some last=>
         simp only;rw [show(⟨⟨.up (-1),s⟩,[]⟩:Jm)=jm0 ⟨s,[]⟩from rfl,growM_end];exact finishM_end _ _ _ _ _
theorem pruneM_end(j:Jb)(way:List Pl):pruneM (jm0 j) way=(⟨.up (-1),(pruneP j way).1⟩,(pruneP j way).2):=by
 unfold pruneM pruneP;generalize pruneGo way (way.length-1) [(way.getLast?.map (·.off)).getD 0]=r;obtain⟨a,old⟩:=r;cases a with
 | zero=>exact finishM_end _ _ _ _ _
 | succ a=>
   simp only;cases way[a]? with
   | none=>rfl
   | some up=>
     cases way[a+1]? with
     | none=>rfl
     | some at_=>
       simp only;cases findLb up.nd.labels at_.label with
       | none=>rfl
       | some i=>
         simp only;split
         ·rw [buildM_end];exact finishM_end _ _ _ _ _
         ·rfl
theorem cutM_end(s:St)(key:List UInt8):cutM ⟨.up (-1),s⟩ key=(⟨.up (-1),(cutK s key).1⟩,(cutK s key).2):=by
 unfold cutM cutK;split
 ·rfl
 ·cases pathP s key with
  | none=>rfl
  | some wr=>
    obtain⟨way,rest⟩:=wr;simp only;cases standsP way rest with
    | none=>rfl
    | some last=>
      simp only;split
      ·rfl
      ·split
       ·rw [show(⟨⟨.up (-1),s⟩,[]⟩:Jm)=jm0 ⟨s,[]⟩from rfl,pruneM_end];generalize pruneP ⟨s,[]⟩ way=r;obtain⟨s1,e⟩:=r;simp only;split
        ·rw [valueM_end];rfl
        ·split<;>rfl
       ·simp only [if_true,valueM_end]
theorem lowN_no{n many k:Nat}(h:lowN n many=some k):n.testBit k=false:=by
 unfold lowN at h;have:=List.find?_some h;simpa using this
structure PoolOk(L:Nat)(s:St):Prop where
 sh:ShOk L s.sh
 L1:L≤1024
 ntk:s.tk.length=s.sh.slabs
 nhd:s.hd.length=s.sh.slabs
 tk:∀i,i<s.sh.slabs→OkW (tkN s i)
 hd:∀i,i<s.sh.slabs→OkW (hdN s i)
 cls:∀i,i<s.sh.slabs→tkN s i=0∨hdN s i=0∨classW (tkN s i)=classW (hdN s i)
 dis:∀i a,i<s.sh.slabs→hasW (tkN s i) a=true→hasW (hdN s i) a=false
 tab:∀i,i<s.sh.slabs→s.ws (16+i)=s.tk.getD i 0
def TakenAt(s:St)(off c:Nat):Prop:=∃i a,i<s.sh.slabs∧hasW (tkN s i) a=true∧classW (tkN s i)=c∧off=placeN s.sh i c a
def HeldAt(s:St)(off c:Nat):Prop:=∃i a,i<s.sh.slabs∧hasW (hdN s i) a=true∧classW (hdN s i)=c∧off=placeN s.sh i c a
theorem lines_blocks{c:Nat}(h:c=1∨c=2):linesN c*blocksN c=16∧0<linesN c∧0<blocksN c∧linesN c≤4:=by
 rcases h with rfl| rfl<;>decide
theorem place_in{sh:Sh}{i c a:Nat}(hc:c=1∨c=2)(ha:a<blocksN c):sh.data+1024*i≤placeN sh i c a∧placeN sh i c a+64*linesN c≤sh.data+1024*(i+1):=by
 obtain⟨h1,h2,h3,_⟩:=lines_blocks hc;unfold placeN;have h4:linesN c*(a+1)≤16:=by rw [←h1];exact Nat.mul_le_mul_left _ ha
 rw [Nat.mul_add,Nat.mul_one]at h4;rw [Nat.mul_assoc];omega
theorem place_inj{sh:Sh}{i j c d a b:Nat}(hc:c=1∨c=2)(hd:d=1∨d=2)(ha:a<blocksN c)(hb:b<blocksN d)(h:placeN sh i c a=placeN sh j d b):i=j:=by
 have h1:=place_in (sh:=sh) (i:=i) hc ha;have h2:=place_in (sh:=sh) (i:=j) hd hb;have h3:=(lines_blocks hc).2.1;have h4:=(lines_blocks hd).2.1;rcases Nat.lt_trichotomy i j with h5| h5| h5
 ·omega
 ·exact h5
 ·omega
theorem place_inj'{sh:Sh}{i c a b:Nat}(hc:c=1∨c=2)(h:placeN sh i c a=placeN sh i c b):a=b:=by
 unfold placeN at h;have h2:=(lines_blocks hc).2.1;have:64*linesN c*a=64*linesN c*b:=by omega
 exact Nat.eq_of_mul_eq_mul_left (by omega) this
theorem place_apart{sh:Sh}{i j c d a b:Nat}(hc:c=1∨c=2)(hd:d=1∨d=2)(ha:a<blocksN c)(hb:b<blocksN d)(hcd:i=j→c=d)(h:placeN sh i c a≠placeN sh j d b):
 placeN sh i c a+64*linesN c≤placeN sh j d b∨placeN sh j d b+64*linesN d≤placeN sh i c a:=by
 have h1:=place_in (sh:=sh) (i:=i) hc ha;have h2:=place_in (sh:=sh) (i:=j) hd hb;rcases Nat.lt_trichotomy i j with h5| h5| h5
 ·omega
 ·subst h5;obtain rfl:=hcd rfl;have hab:a≠b:=fun e=>h (by rw [e])
  unfold placeN;rcases Nat.lt_or_gt_of_ne hab with h6| h6
  ·have:=Nat.mul_le_mul_left (64*linesN c) h6;rw [Nat.succ_eq_add_one,Nat.mul_add,Nat.mul_one]at this;omega
  ·have:=Nat.mul_le_mul_left (64*linesN c) h6;rw [Nat.succ_eq_add_one,Nat.mul_add,Nat.mul_one]at this;omega
 ·omega
section
variable{L:Nat}{s:St}
theorem PoolOk.both(ok:PoolOk L s){i:Nat}(hi:i<s.sh.slabs):OkW (tkN s i||| hdN s i)∧(∀a,hasW (tkN s i||| hdN s i) a=(hasW (tkN s i) a|| hasW (hdN s i) a))∧(tkN s i≠0→classW (tkN s i||| hdN s i)=classW (tkN s i))∧(hdN s i≠0→classW (tkN s i||| hdN s i)=classW (hdN s i)):=both_word (ok.tk i hi) (ok.hd i hi) (ok.cls i hi)
theorem PoolOk.tk_cls(ok:PoolOk L s){i a:Nat}(hi:i<s.sh.slabs)(ha:hasW (tkN s i) a=true):∃c,SW (tkN s i) c∧classW (bothN s i)=c∧a<blocksN c:=by
 obtain⟨c,hS,hb,_⟩:=(ok.tk i hi).has_lt ha;exact⟨c,hS,by unfold bothN;rw [(ok.both hi).2.2.1 hS.ne,hS.class],hb⟩
theorem PoolOk.hd_cls(ok:PoolOk L s){i a:Nat}(hi:i<s.sh.slabs)(ha:hasW (hdN s i) a=true):∃c,SW (hdN s i) c∧classW (bothN s i)=c∧a<blocksN c:=by
 obtain⟨c,hS,hb,_⟩:=(ok.hd i hi).has_lt ha;exact⟨c,hS,by unfold bothN;rw [(ok.both hi).2.2.2 hS.ne,hS.class],hb⟩
theorem find_place(ok:PoolOk L s){i c a:Nat}(hi:i<s.sh.slabs)(hc:classW (bothN s i)=c)(h12:c=1∨c=2)(ha:a<blocksN c):findP s (placeN s.sh i c a:Nat)=some (i,a):=by
 have h1:=place_in (sh:=s.sh) (i:=i) h12 ha;obtain⟨h2,h3,h4,h5⟩:=lines_blocks h12;have hlen:=ok.ntk;have e1:(placeN s.sh i c a-s.sh.data)/1024=i:=by omega
 have e2:(placeN s.sh i c a-s.sh.data)%1024=64*linesN c*a:=by
  have:placeN s.sh i c a-s.sh.data=1024*i+64*linesN c*a:=by unfold placeN;omega
  omega
 unfold findP;rw [if_neg (by omega)];simp only [Int.toNat_natCast,e1,e2,hc];rw [if_neg (by rw [Nat.mul_mod_right];omega),Nat.mul_div_cancel_left _ (by omega)]
theorem find_inv(ok:PoolOk L s){off:Int}{i a:Nat}(h:findP s off=some (i,a)):i<s.sh.slabs∧(classW (bothN s i)=1∨classW (bothN s i)=2)∧a<blocksN (classW (bothN s i))∧off=(placeN s.sh i (classW (bothN s i)) a:Nat):=by
 have hlen:=ok.ntk;unfold findP at h;split at h
 ·cases h
 ·rename_i h1;split at h
  ·cases h
  ·rename_i h2;simp only [Option.some.injEq,Prod.mk.injEq]at h;obtain⟨rfl,rfl⟩:=h;have hi:(off.toNat-s.sh.data)/1024<s.sh.slabs:=by omega
   generalize hc:classW (bothN s ((off.toNat-s.sh.data)/1024))=c at h2⊢;have h12:c=1∨c=2:=by
    unfold linesN at h2;split at h2
    ·exact .inl rfl
    ·exact .inr rfl
    ·simp at h2
   obtain⟨h3,h4,h5,h6⟩:=lines_blocks h12;have hdm:=Nat.div_add_mod ((off.toNat-s.sh.data)%1024) (64*linesN c);have hmod:(off.toNat-s.sh.data)%1024%(64*linesN c)=0:=by omega
   have hlt:(off.toNat-s.sh.data)%1024<1024:=Nat.mod_lt _ (by decide);refine⟨hi,h12,?_,?_⟩
   ·refine Nat.div_lt_of_lt_mul ?_;rw [Nat.mul_assoc,h3];exact hlt
   ·unfold placeN;rw [hmod,Nat.add_zero]at hdm;rw [hdm];omega
theorem TakenAt.cls(ok:PoolOk L s){off c:Nat}(h:TakenAt s off c):c=1∨c=2:=by
 obtain⟨i,a,hi,ha,rfl,_⟩:=h;obtain⟨c,hS,_,_⟩:=ok.tk_cls hi ha;rw [hS.class];exact hS.cls
theorem TakenAt.class(ok:PoolOk L s){off c:Nat}(h:TakenAt s off c):classP s off=c:=by
 have h12:=h.cls ok;obtain⟨i,a,hi,ha,hc,rfl⟩:=h;obtain⟨d,hS,hb,hlt⟩:=ok.tk_cls hi ha;have e:c=d:=by rw [←hc,hS.class]
 subst e;unfold classP;rw [find_place ok hi hb h12 hlt];simp only [ha,if_true,hc]
theorem taken_of_class(ok:PoolOk L s){off:Int}{c:Nat}(h:classP s off=c)(h0:c≠0):∃o:Nat,off=o∧TakenAt s o c:=by
 unfold classP at h;split at h
 ·exact absurd h.symm h0
 ·rename_i i a hf;obtain⟨hi,h12,hlt,he⟩:=find_inv ok hf;split at h
  ·rename_i ha;obtain⟨d,hS,hb,_⟩:=ok.tk_cls hi ha;refine⟨_,he,i,a,hi,ha,h,?_⟩;rw [hb,←h,hS.class]
  ·exact absurd h.symm h0
theorem TakenAt.bounds(ok:PoolOk L s){off c:Nat}(h:TakenAt s off c):s.sh.data≤off∧off+64*linesN c≤64*L∧off%64=0:=by
 have h12:=h.cls ok;obtain⟨i,a,hi,ha,hc,rfl⟩:=h;obtain⟨d,hS,hb,hlt⟩:=ok.tk_cls hi ha;have e:c=d:=by rw [←hc,hS.class]
 subst e;have h1:=place_in (sh:=s.sh) (i:=i) h12 hlt;have:=ok.sh.fits;have:=ok.sh.data;refine⟨by omega,by omega,?_⟩;unfold placeN;rw [Nat.mul_assoc];omega
theorem HeldAt.cls(ok:PoolOk L s){off c:Nat}(h:HeldAt s off c):c=1∨c=2:=by
 obtain⟨i,a,hi,ha,rfl,_⟩:=h;obtain⟨c,hS,_,_⟩:=ok.hd_cls hi ha;rw [hS.class];exact hS.cls
theorem HeldAt.bounds(ok:PoolOk L s){off c:Nat}(h:HeldAt s off c):s.sh.data≤off∧off+64*linesN c≤64*L∧off%64=0:=by
 have h12:=h.cls ok;obtain⟨i,a,hi,ha,hc,rfl⟩:=h;obtain⟨d,hS,hb,hlt⟩:=ok.hd_cls hi ha;have e:c=d:=by rw [←hc,hS.class]
 subst e;have h1:=place_in (sh:=s.sh) (i:=i) h12 hlt;have:=ok.sh.fits;have:=ok.sh.data;refine⟨by omega,by omega,?_⟩;unfold placeN;rw [Nat.mul_assoc];omega
theorem taken_apart(ok:PoolOk L s){o p c d:Nat}(h:TakenAt s o c)(k:TakenAt s p d)(hne:o≠p):o+64*linesN c≤p∨p+64*linesN d≤o:=by
 have h12:=h.cls ok;have k12:=k.cls ok;obtain⟨i,a,hi,ha,hc,rfl⟩:=h;obtain⟨j,b,hj,hb,hd,rfl⟩:=k;obtain⟨c',hS,_,hlt⟩:=ok.tk_cls hi ha;obtain⟨d',hS',_,hlt'⟩:=ok.tk_cls hj hb;rw [hS.class]at hc;rw [hS'.class]at hd;subst hc hd;refine place_apart h12 k12 hlt hlt' (fun e=> ?_) hne;subst e;rw [←hS.class,←hS'.class]
theorem held_apart(ok:PoolOk L s){o p c d:Nat}(h:HeldAt s o c)(k:TakenAt s p d):o≠p∧(o+64*linesN c≤p∨p+64*linesN d≤o):=by
 have h12:=h.cls ok;have k12:=k.cls ok;obtain⟨i,a,hi,ha,hc,rfl⟩:=h;obtain⟨j,b,hj,hb,hd,rfl⟩:=k;obtain⟨c',hS,hbo,hlt⟩:=ok.hd_cls hi ha;obtain⟨d',hS',hbo',hlt'⟩:=ok.tk_cls hj hb;rw [hS.class]at hc;rw [hS'.class]at hd;subst hc hd;have hcd:i=j→c'=d':=fun e=>by subst e;rw [←hbo,←hbo']
 have hne:placeN s.sh i c' a≠placeN s.sh j d' b:=fun e=>by
  obtain rfl:=place_inj h12 k12 hlt hlt' e;obtain rfl:=hcd rfl;obtain rfl:=place_inj' h12 e;rw [ok.dis i a hi hb]at ha;cases ha
 exact⟨hne,place_apart h12 k12 hlt hlt' hcd hne⟩
end
theorem ofNat_toNat_lt{n:Nat}(h:n<2^64):(UInt64.ofNat n).toNat=n:=by
 rw [UInt64.toNat_ofNat'];exact Nat.mod_eq_of_lt h
theorem getD_set{α:Type}(l:List α)(i j:Nat)(x z:α)(hi:i<l.length):(l.set i x).getD j z=if j=i then x else l.getD j z:=by
 rw [List.getD_eq_getElem?_getD,List.getD_eq_getElem?_getD,List.getElem?_set];by_cases h:i=j
 ·subst h;simp [hi]
 ·rw [if_neg h,if_neg (fun e=>h e.symm)]
section
variable{L:Nat}{s:St}
theorem PoolOk.table(ok:PoolOk L s):s.sh.table=128:=ok.sh.table
theorem PoolOk.words(ok:PoolOk L s){ws':Nat→UInt64}(h:∀i,i<s.sh.slabs→ws' (16+i)=s.ws (16+i)):PoolOk L {s with ws:=ws'}:=
 ⟨ok.sh,ok.L1,ok.ntk,ok.nhd,ok.tk,ok.hd,ok.cls,ok.dis,fun i hi=>(h i hi).trans (ok.tab i hi)⟩
def inBlk(off c j:Nat):Prop:=off/8≤j∧j<off/8+8*linesN c
theorem apart_words{o p c d j:Nat}(h:o+64*linesN c≤p∨p+64*linesN d≤o)(ho:o%64=0)(hp:p%64=0)(k:inBlk o c j):¬inBlk p d j:=by
 unfold inBlk at*;omega
theorem PoolOk.table_words(ok:PoolOk L s){off c j:Nat}(h1:s.sh.data≤off)(h2:inBlk off c j):16+s.sh.slabs≤j:=by
 have:=ok.sh.tfits;unfold inBlk at h2;omega
theorem slabFor_pick{c i a:Nat}(h:slabFor s c=some i)(h2:nextW (bothN s i) c=some a):i<s.tk.length∧(classW (bothN s i)=c∨classW (bothN s i)=0):=by
 unfold slabFor at h;split at h
 ·rename_i j hj;injection h with h;subst h
  unfold firstP at hj;have h3:=List.find?_some hj;have h4:=List.mem_of_find?_eq_some hj;rw [Bool.and_eq_true,decide_eq_true_eq]at h3;exact⟨List.mem_range.1 h4,.inl h3.1⟩
 ·unfold firstP at h;have h3:=List.find?_some h;have h4:=List.mem_of_find?_eq_some h;rw [Bool.and_eq_true,decide_eq_true_eq]at h3;exact⟨List.mem_range.1 h4,.inr h3.1⟩
theorem reserve_ok(ok:PoolOk L s){c off:Nat}{s1:St}(hc:c=1∨c=2)(h:reserveP s c=some (off,s1)):
 PoolOk L s1∧s1.ws=s.ws∧s1.sh=s.sh∧s1.tk=s.tk∧HeldAt s1 off c∧(∀o d,HeldAt s o d→HeldAt s1 o d)∧(∀o d,HeldAt s1 o d→HeldAt s o d∨o=off)∧∀o d,TakenAt s1 o d↔TakenAt s o d:=by
 unfold reserveP at h;split at h
 ·cases h
 ·rename_i i hi;split at h
  ·cases h
  ·rename_i a ha;simp only [Option.some.injEq,Prod.mk.injEq]at h;obtain⟨rfl,rfl⟩:=h;obtain⟨hilt,hcl⟩:=slabFor_pick hi ha;have hil:i<s.sh.slabs:=by rw [←ok.ntk];exact hilt
   obtain⟨hbo,hbh,hbt,hbh2⟩:=ok.both hil;have hab:a<blocksN c∧(takenN (bothN s i)).testBit a=false:=by
    unfold nextW at ha;split at ha
    ·exact⟨lowN_lt ha,lowN_no ha⟩
    ·cases ha
   have hb16:blocksN c≤16:=by rcases hc with rfl| rfl<;>decide
   have hbit:(bothN s i).testBit a=false:=by
    have:=hab.2;unfold takenN at this;rw [tb_fieldN,Nat.zero_add,Bool.and_eq_false_iff,decide_eq_false_iff_not]at this;rcases this with h| h
    ·omega
    ·exact h
   have hnb:hasW (bothN s i) a=false:=by
    unfold hasW;rw [field1,hbit,Bool.and_false]
   have hnn:=hbh a;rw [show tkN s i||| hdN s i=bothN s i from rfl,hnb]at hnn;obtain⟨hnt,hnh⟩:hasW (tkN s i) a=false∧hasW (hdN s i) a=false:=by
    cases h1:hasW (tkN s i) a<;>cases h2:hasW (hdN s i) a<;>rw [h1,h2]at hnn<;>first| exact⟨rfl,rfl⟩| cases hnn
   have hdc:hdN s i=0∨SW (hdN s i) c:=by
    rcases ok.hd i hil with h1| ⟨d,h1⟩
    ·exact .inl h1
    ·have e:=hbh2 h1.ne;rw [show tkN s i||| hdN s i=bothN s i from rfl,h1.class]at e;have:=h1.cls;rcases hcl with h2| h2
     ·rw [e]at h2;subst h2;exact .inr h1
     ·omega
   have htc:tkN s i=0∨classW (tkN s i)=c:=by
    rcases ok.tk i hil with h1| ⟨d,h1⟩
    ·exact .inl h1
    ·have e:=hbt h1.ne;rw [show tkN s i||| hdN s i=bothN s i from rfl,h1.class]at e;have:=h1.cls;rcases hcl with h2| h2
     ·rw [e]at h2;subst h2;exact .inr h1.class
     ·omega
   obtain⟨_,hS,hhas⟩:=take_word (ok.hd i hil) hc hdc hab.1 hnh;have hu:=ofNat_toNat_lt hS.lt;have hhd:∀j,hdN {s with hd:=s.hd.set i (UInt64.ofNat (takeW (hdN s i) c a).1)} j=if j=i then(takeW (hdN s i) c a).1 else hdN s j:=fun j=>by
    show((s.hd.set i _).getD j 0).toNat=_;rw [getD_set _ _ _ _ _ (by rw [ok.nhd];exact hil)];split
    ·exact hu
    ·rfl
   have htk:∀j,tkN {s with hd:=s.hd.set i (UInt64.ofNat (takeW (hdN s i) c a).1)} j=tkN s j:=fun j=>rfl
   refine⟨⟨ok.sh,ok.L1,ok.ntk,by simp [ok.nhd],ok.tk,fun j hj=> ?_,fun j hj=> ?_,fun j b hj hb=> ?_,ok.tab⟩,rfl,rfl,rfl,⟨i,a,hil,?_,?_,rfl⟩,?_,?_,fun o d=>Iff.rfl⟩
   ·rw [hhd];split
    ·exact .inr ⟨c,hS⟩
    ·exact ok.hd j hj
   ·rw [hhd,htk];by_cases e:j=i
    ·subst e;rw [if_pos rfl,hS.class];exact htc.imp id .inr
    ·rw [if_neg e];exact ok.cls j hj
   ·rw [hhd];rw [htk]at hb;by_cases e:j=i
    ·subst e;rw [if_pos rfl,hhas b,ok.dis j b hj hb,Bool.false_or,decide_eq_false_iff_not];intro e2;subst e2;rw [hnt]at hb;cases hb
    ·rw [if_neg e];exact ok.dis j b hj hb
   ·rw [hhd,if_pos rfl,hhas a];simp
   ·rw [hhd,if_pos rfl,hS.class]
   ·rintro o d⟨j,b,hj,hb,hd,ho⟩;refine⟨j,b,hj,?_,?_,ho⟩
    ·rw [hhd];by_cases e:j=i
     ·subst e;rw [if_pos rfl,hhas b,hb];rfl
     ·rw [if_neg e];exact hb
    ·rw [hhd];by_cases e:j=i
     ·subst e;obtain⟨d',hS',_,_⟩:=(ok.hd j hj).has_lt hb;rw [if_pos rfl,hS.class,←hd];rcases hdc with h0| h0
      ·exact absurd h0 hS'.ne
      ·exact h0.class.symm
     ·rw [if_neg e];exact hd
   ·rintro o d⟨j,b,hj,hb,hd,ho⟩;rw [hhd]at hb hd;by_cases e:j=i
    ·subst e;rw [if_pos rfl]at hb hd;rw [hhas b,Bool.or_eq_true,decide_eq_true_eq]at hb;rw [hS.class]at hd;subst hd;rcases hb with hb| rfl
     ·obtain⟨d',hS',_,_⟩:=(ok.hd j hj).has_lt hb;refine .inl ⟨j,b,hj,hb,?_,ho⟩;rcases hdc with h0| h0
      ·exact absurd h0 hS'.ne
      ·exact h0.class
     ·exact .inr ho
    ·rw [if_neg e]at hb hd;exact .inl ⟨j,b,hj,hb,hd,ho⟩
theorem take_ok(ok:PoolOk L s){c off:Nat}(h:HeldAt s off c):
 ∃s1,takeP s off=(s1,0)∧PoolOk L s1∧s1.sh=s.sh∧(∀j,(j<16∨16+s.sh.slabs≤j)→s1.ws j=s.ws j)∧
  (∀o d,TakenAt s1 o d↔TakenAt s o d∨(o=off∧d=c))∧(∀o d,HeldAt s1 o d↔HeldAt s o d∧o≠off):=by
 have h12:=h.cls ok;have h':=h;obtain⟨i,a,hi,ha,hc,rfl⟩:=h';obtain⟨c',hS,hbo,hlt⟩:=ok.hd_cls hi ha;have e:c'=c:=by rw [←hc,hS.class]
 subst e;have hnt:hasW (tkN s i) a=false:=by
  cases hb:hasW (tkN s i) a
  ·rfl
  ·rw [ok.dis i a hi hb]at ha;cases ha
 have htc:tkN s i=0∨SW (tkN s i) c':=by
  rcases ok.tk i hi with h1| ⟨d,h1⟩
  ·exact .inl h1
  ·rcases ok.cls i hi with h2| h2| h2
   ·exact absurd h2 h1.ne
   ·exact absurd h2 hS.ne
   ·rw [h1.class,hS.class]at h2;subst h2;exact .inr h1
 obtain⟨_,hT,hThas⟩:=take_word (ok.tk i hi) h12 htc hlt hnt;obtain⟨_,hD,hDhas,hDcl⟩:=drop_word (ok.hd i hi) ha;have hu1:=ofNat_toNat_lt hT.lt;have hu2:=ofNat_toNat_lt hD.lt;have hil1:i<s.tk.length:=by rw [ok.ntk];exact hi
 have hil2:i<s.hd.length:=by rw [ok.nhd];exact hi
 obtain⟨s1,hs1⟩:∃s1,s1=({putP s i (UInt64.ofNat (takeW (tkN s i) (classW (hdN s i)) a).1)with hd:=s.hd.set i (UInt64.ofNat (dropW (hdN s i) a).1)}:St):=⟨_,rfl⟩;have htk:∀j,tkN s1 j=if j=i then(takeW (tkN s i) c' a).1 else tkN s j:=fun j=>by
  rw [hs1];show((s.tk.set i _).getD j 0).toNat=_;rw [getD_set _ _ _ _ _ hil1,hc];split
  ·exact hu1
  ·rfl
 have hhd:∀j,hdN s1 j=if j=i then(dropW (hdN s i) a).1 else hdN s j:=fun j=>by
  rw [hs1];show((s.hd.set i _).getD j 0).toNat=_;rw [getD_set _ _ _ _ _ hil2];split
  ·exact hu2
  ·rfl
 have hsh:s1.sh=s.sh:=by rw [hs1];rfl
 have hws:∀j,s1.ws j=if j=16+i then UInt64.ofNat (takeW (tkN s i) c' a).1 else s.ws j:=fun j=>by
  rw [hs1];show put1 s.ws (s.sh.table/8+i) _ j=_;rw [ok.table,hc];rfl
 refine⟨s1,?_,⟨by rw [hsh];exact ok.sh,ok.L1,by rw [hs1];show(s.tk.set i _).length=_;rw [List.length_set];exact ok.ntk,by rw [hs1];show(s.hd.set i _).length=_;rw [List.length_set];exact ok.nhd,fun j hj=> ?_,fun j hj=> ?_,fun j hj=> ?_,fun j b hj hb=> ?_,fun j hj=> ?_⟩,hsh,fun j hj=> ?_,fun o d=> ?_,fun o d=> ?_⟩
 ·unfold takeP;rw [find_place ok hi hbo h12 hlt];simp only [ha,if_true];rw [hs1]
 ·rw [htk];split
  ·exact .inr ⟨_,hT⟩
  ·exact ok.tk j (by rw [←hsh];exact hj)
 ·rw [hhd];split
  ·exact hD
  ·exact ok.hd j (by rw [←hsh];exact hj)
 ·rw [htk,hhd];by_cases e:j=i
  ·rw [if_pos e,if_pos e,hT.class];rcases hDcl with h1| h1
   ·exact .inr (.inr (by rw [h1,hS.class]))
   ·exact .inr (.inl h1)
  ·rw [if_neg e,if_neg e];exact ok.cls j (by rw [←hsh];exact hj)
 ·rw [htk]at hb;rw [hhd];by_cases e:j=i
  ·subst e;rw [if_pos rfl]at hb⊢;rw [hThas,Bool.or_eq_true,decide_eq_true_eq]at hb;rw [hDhas];rcases hb with hb| rfl
   ·rw [ok.dis j b hi hb];rfl
   ·simp
  ·rw [if_neg e]at hb⊢;exact ok.dis j b (by rw [←hsh];exact hj) hb
 ·rw [hws,hs1];show _=(s.tk.set i _).getD j 0;rw [getD_set _ _ _ _ _ hil1,hc];by_cases e:j=i
  ·rw [if_pos (by omega),if_pos e]
  ·rw [if_neg (by omega),if_neg e];exact ok.tab j (by rw [←hsh];exact hj)
 ·rw [hws,if_neg (by omega)]
 ·constructor
  ·rintro⟨j,b,hj,hb,hd,ho⟩;rw [hsh]at hj ho;rw [htk]at hb hd;by_cases e:j=i
   ·subst e;rw [if_pos rfl]at hb hd;rw [hT.class]at hd;subst hd;rw [hThas,Bool.or_eq_true,decide_eq_true_eq]at hb;rcases hb with hb| rfl
    ·left;refine⟨j,b,hj,hb,?_,ho⟩;rcases htc with h0| h0
     ·rw [h0,has_zero]at hb;cases hb
     ·exact h0.class
    ·exact .inr ⟨ho,rfl⟩
   ·rw [if_neg e]at hb hd;exact .inl ⟨j,b,hj,hb,hd,ho⟩
  ·rintro(⟨j,b,hj,hb,hd,ho⟩| ⟨rfl,rfl⟩)
   ·refine⟨j,b,by rw [hsh];exact hj,?_,?_,by rw [hsh];exact ho⟩
    ·rw [htk];by_cases e:j=i
     ·subst e;rw [if_pos rfl,hThas,hb];rfl
     ·rw [if_neg e];exact hb
    ·rw [htk];by_cases e:j=i
     ·subst e;rw [if_pos rfl,hT.class,←hd];rcases htc with h0| h0
      ·rw [h0,has_zero]at hb;cases hb
      ·exact h0.class.symm
     ·rw [if_neg e];exact hd
   ·exact⟨i,a,by rw [hsh];exact hi,by rw [htk,if_pos rfl,hThas];simp,by rw [htk,if_pos rfl,hT.class],by rw [hsh]⟩
 ·constructor
  ·rintro⟨j,b,hj,hb,hd,ho⟩;rw [hsh]at hj ho;rw [hhd]at hb hd;by_cases e:j=i
   ·subst e;rw [if_pos rfl]at hb hd;rw [hDhas,Bool.and_eq_true,Bool.not_eq_true',decide_eq_false_iff_not]at hb;have hd':d=c':=by
     rcases hDcl with h1| h1
     ·rw [h1,hS.class]at hd;exact hd.symm
     ·have:=hDhas b;rw [h1,has_zero,hb.1]at this;simp [hb.2]at this
    subst hd';refine⟨⟨j,b,hj,hb.1,hS.class,ho⟩,fun e2=> ?_⟩;rw [ho]at e2;exact hb.2 (place_inj' h12 e2)
   ·rw [if_neg e]at hb hd;refine⟨⟨j,b,hj,hb,hd,ho⟩,fun e2=> ?_⟩;obtain⟨d',hS',hbo',hlt'⟩:=ok.hd_cls hj hb;have e3:d'=d:=by rw [←hd,hS'.class]
    subst e3;rw [ho]at e2;exact e (place_inj hS'.cls h12 hlt' hlt e2)
  ·rintro⟨⟨j,b,hj,hb,hd,ho⟩,hne⟩;have hbi:j=i→b≠a:=fun e e2=>by
    subst e e2;have e3:d=c':=by rw [←hd,hS.class]
    subst e3;exact hne ho
   refine⟨j,b,by rw [hsh];exact hj,?_,?_,by rw [hsh];exact ho⟩
   ·rw [hhd];by_cases e:j=i
    ·subst e;rw [if_pos rfl,hDhas,hb];simp [hbi rfl]
    ·rw [if_neg e];exact hb
   ·rw [hhd];by_cases e:j=i
    ·subst e;rw [if_pos rfl];rcases hDcl with h1| h1
     ·rw [h1];exact hd
     ·have:=hDhas b;rw [h1,has_zero,hb]at this;simp [hbi rfl]at this
    ·rw [if_neg e];exact hd
theorem drop_ok(ok:PoolOk L s){c off:Nat}(h:TakenAt s off c):
 ∃s1,dropP s off=(s1,0)∧PoolOk L s1∧s1.sh=s.sh∧s1.hd=s.hd∧(∀j,(j<16∨16+s.sh.slabs≤j)→s1.ws j=s.ws j)∧
  (∀o d,TakenAt s1 o d↔TakenAt s o d∧o≠off):=by
 have h12:=h.cls ok;obtain⟨i,a,hi,ha,hc,rfl⟩:=h;obtain⟨c',hS,hbo,hlt⟩:=ok.tk_cls hi ha;have e:c'=c:=by rw [←hc,hS.class]
 subst e;have hnh:hasW (hdN s i) a=false:=ok.dis i a hi ha;obtain⟨hD2,hD,hDhas,hDcl⟩:=drop_word (ok.tk i hi) ha;have hu2:=ofNat_toNat_lt hD.lt;have hil1:i<s.tk.length:=by rw [ok.ntk];exact hi
 obtain⟨s1,hs1⟩:∃s1,s1=putP s i (UInt64.ofNat (dropW (tkN s i) a).1):=⟨_,rfl⟩;have htk:∀j,tkN s1 j=if j=i then(dropW (tkN s i) a).1 else tkN s j:=fun j=>by
  rw [hs1];show((s.tk.set i _).getD j 0).toNat=_;rw [getD_set _ _ _ _ _ hil1];split
  ·exact hu2
  ·rfl
 have hhd:∀j,hdN s1 j=hdN s j:=fun j=>by rw [hs1];rfl
 have hsh:s1.sh=s.sh:=by rw [hs1];rfl
 have hws:∀j,s1.ws j=if j=16+i then UInt64.ofNat (dropW (tkN s i) a).1 else s.ws j:=fun j=>by
  rw [hs1];show put1 s.ws (s.sh.table/8+i) _ j=_;rw [ok.table];rfl
 refine⟨s1,?_,⟨by rw [hsh];exact ok.sh,ok.L1,by rw [hs1];show(s.tk.set i _).length=_;rw [List.length_set];exact ok.ntk,by rw [hs1];exact ok.nhd,fun j hj=> ?_,fun j hj=> ?_,fun j hj=> ?_,fun j b hj hb=> ?_,fun j hj=> ?_⟩,hsh,by rw [hs1];rfl,fun j hj=> ?_,fun o d=> ?_⟩
 ·unfold dropP;rw [find_place ok hi hbo h12 hlt];have h0:(dropW (hdN s i) a).2=false:=by unfold dropW;rw [hnh];rfl
  simp only [h0,hD2,if_true,Bool.false_eq_true,if_false];rw [hs1]
 ·rw [htk];split
  ·exact hD
  ·exact ok.tk j (by rw [←hsh];exact hj)
 ·rw [hhd];exact ok.hd j (by rw [←hsh];exact hj)
 ·rw [htk,hhd];by_cases e:j=i
  ·rw [if_pos e,e];rcases hDcl with h1| h1
   ·rw [h1];rcases ok.cls i hi with h2| h2| h2
    ·exact absurd h2 hS.ne
    ·exact .inr (.inl h2)
    ·exact .inr (.inr h2)
   ·exact .inl h1
  ·rw [if_neg e];exact ok.cls j (by rw [←hsh];exact hj)
 ·rw [htk]at hb;rw [hhd];by_cases e:j=i
  ·subst e;rw [if_pos rfl,hDhas,Bool.and_eq_true]at hb;exact ok.dis j b hi hb.1
  ·rw [if_neg e]at hb;exact ok.dis j b (by rw [←hsh];exact hj) hb
 ·rw [hws,hs1];show _=(s.tk.set i _).getD j 0;rw [getD_set _ _ _ _ _ hil1];by_cases e:j=i
  ·rw [if_pos (by omega),if_pos e]
  ·rw [if_neg (by omega),if_neg e];exact ok.tab j (by rw [←hsh];exact hj)
 ·rw [hws,if_neg (by omega)]
 ·constructor
  ·rintro⟨j,b,hj,hb,hd,ho⟩;rw [hsh]at hj ho;rw [htk]at hb hd;by_cases e:j=i
   ·subst e;rw [if_pos rfl]at hb hd;rw [hDhas,Bool.and_eq_true,Bool.not_eq_true',decide_eq_false_iff_not]at hb;have hd':d=c':=by
     rcases hDcl with h1| h1
     ·rw [h1,hS.class]at hd;exact hd.symm
     ·have:=hDhas b;rw [h1,has_zero,hb.1]at this;simp [hb.2]at this
    subst hd';refine⟨⟨j,b,hj,hb.1,hS.class,ho⟩,fun e2=> ?_⟩;rw [ho]at e2;exact hb.2 (place_inj' h12 e2)
   ·rw [if_neg e]at hb hd;refine⟨⟨j,b,hj,hb,hd,ho⟩,fun e2=> ?_⟩;obtain⟨d',hS',hbo',hlt'⟩:=ok.tk_cls hj hb;have e3:d'=d:=by rw [←hd,hS'.class]
    subst e3;rw [ho]at e2;exact e (place_inj hS'.cls h12 hlt' hlt e2)
  ·rintro⟨⟨j,b,hj,hb,hd,ho⟩,hne⟩;have hbi:j=i→b≠a:=fun e e2=>by
    subst e e2;have e3:d=c':=by rw [←hd,hS.class]
    subst e3;exact hne ho
   refine⟨j,b,by rw [hsh];exact hj,?_,?_,by rw [hsh];exact ho⟩
   ·rw [htk];by_cases e:j=i
    ·subst e;rw [if_pos rfl,hDhas,hb];simp [hbi rfl]
    ·rw [if_neg e];exact hb
   ·rw [htk];by_cases e:j=i
    ·subst e;rw [if_pos rfl];rcases hDcl with h1| h1
     ·rw [h1];exact hd
     ·have:=hDhas b;rw [h1,has_zero,hb]at this;simp [hbi rfl]at this
    ·rw [if_neg e];exact hd
end
end Go.Proofs.YtdjfbnoolfpcnaaGreatDoor
