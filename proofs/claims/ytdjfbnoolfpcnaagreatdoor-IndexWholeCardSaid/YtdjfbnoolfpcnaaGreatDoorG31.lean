import Derived.Test.YtdjfbnoolfpcnaaGreatDoorG02
import Derived.Test.YtdjfbnoolfpcnaaGreatDoorG05
import Derived.Test.YtdjfbnoolfpcnaaGreatDoorG30
namespace Go.Proofs.YtdjfbnoolfpcnaaGreatDoor
open Go.RowKit
section
variable{w w':World}{d L:Nat}{ws:Nat→UInt64}{m:Mode}{mark:Nat→Nat}{g:Nat}{hb:Nat→Option Nat}
theorem DevRep.setLf(h:DevRep w d L ws m mark g hb)(t:Touch (fun b=>b=d) w w')(lf:Int)(h1: -1≤lf)(h2:lf≤1000000000){st:Int}(hB:Blk w' d 93 [.slice (some ⟨g,0,none⟩) L L,.bool (decide (lf=0)),.int .i64 lf,.int .i64 st]):DevRep w' d L ws ⟨m.chg,lf⟩ mark g hb:=by
 have hk:∀b,b<w.heap.size→b≠d→w'.heap[b]? =w.heap[b]? :=fun b hl hb'=>t.block b hl hb'
 obtain⟨cur,hg,hs,h3,h4⟩:=h.blk;exact⟨⟨st,hB⟩,⟨h1,h2⟩,h.gd,⟨cur,(hk g h.glt h.gd).trans hg,hs,h3,fun i hi=>by
  obtain⟨A,c,e1,e2,hc⟩:=h4 i hi;exact⟨A,c,e1,e2,hc.keep (fun b hb' hl=>hk b hl (h.bd i hi b hb').2)⟩⟩,h.bd,h.inj,h.mrk⟩
set_option maxHeartbeats 1000000 in
theorem stop_dev(hL0:0<L)(hL:L≤1024)(hu:m.lf≠0)(h:DevRep w d L ws m mark g hb)(n:Nat)(hn:n≤1000000000):
 Calls Tryz.prog 10 #[.pointer (some ⟨d,0,none⟩),.int .i64 (n:Int)] w fun e w'=>(∃v,e= .returned v)∧DevRep w' d L ws ⟨m.chg,n⟩ mark g hb∧Touch (devOwn d L g hb) w w':=by
 obtain⟨st,hbx⟩:=h.box;rw [decide_eq_false hu]at hbx;obtain⟨y0,y1,y2,y3,f0,f1,f2,f3⟩:=blk4' hbx;have HS:=Lib.hid (size_dev d L g (.bool false) (.int .i64 m.lf) (.int .i64 st) w hL hbx);have t0:(((L*64:Nat):Int)==0)=false:=by rw [beq_eq_false_iff_ne];omega
 have H:=Lib.hid h;have KEY:Hid (∀x:Int,x=(n:Int)→DevRep ((w.setCell ⟨d,2,none⟩ (.int .i64 x)).setCell ⟨d,1,none⟩ (.bool (x==0))) d L ws ⟨m.chg,n⟩ mark g hb∧Touch (devOwn d L g hb) w ((w.setCell ⟨d,2,none⟩ (.int .i64 x)).setCell ⟨d,1,none⟩ (.bool (x==0)))):=Lib.hid (fun x hx=>by
  subst hx;have t:Touch (fun b=>b=d) w ((w.setCell ⟨d,2,none⟩ (.int .i64 (n:Int))).setCell ⟨d,1,none⟩ (.bool ((n:Int)==0))):=((Touch.refl (fun b=>b=d) w).setCell (p:=⟨d,2,none⟩) (.inl rfl) _).setCell (p:=⟨d,1,none⟩) (.inl rfl) _;exact⟨H.out.setLf t n (by omega) (by omega) (st:=st) ((hbx.set_ 2 (.int .i64 (n:Int))).set_ 1 (.bool ((n:Int)==0))),t.mono (fun b e=> .inl e)⟩)
 have hmx:(if(n:Int)<0 then(0:Int)else(n:Int))=(n:Int):=if_neg (by omega);have hm2:decide ((n:Int)<0)=false:=decide_eq_false (by omega);generalize L*64=sz at HS t0;clear h hbx;go_enter Tryz.func10,Tryz.ntmps10
 go_wp2_with fail
 refine HS.out.mono ?_;rintro e w'⟨rfl,rfl⟩;clear HS
 go_wp2_with fail
 go_end0;exact⟨⟨_,rfl⟩,KEY.out _ (by first| rfl| simp)⟩
def crsM(k:Nat)(m:Mode):Mode:=⟨fun i=>if i<k then []else m.chg i, -1⟩
def crsN(k:Nat)(mark:Nat→Nat)(i:Nat):Nat:=if i<k then 0 else mark i
def crsH(k:Nat)(hb:Nat→Option Nat)(i:Nat):Option Nat:=if i<k then none else hb i
def crsW(k:Nat)(m:Mode)(pick:Nat→Nat)(ws:Nat→UInt64)(q:Nat):UInt64:=if q/8<k then undoD m pick ws q else ws q
theorem undoW_far{i:Nat}:∀{l:List (Nat×UInt64)}{ws:Nat→UInt64}{q:Nat},(∀c∈l,∃t,t<8∧c.1=8*t)→q/8≠i→undoW i l ws q=ws q
 | [],_,_,_,_=>rfl
 | c::l,ws,q,h,hq=>by
   obtain⟨t,t1,t2⟩:=h c (List.mem_cons_self ..);unfold undoW;rw [if_neg (by omega),undoW_far (fun x hx=>h x (List.mem_cons_of_mem _ hx)) hq]
theorem undoW_near{i:Nat}:∀{l:List (Nat×UInt64)}{ws ws':Nat→UInt64}{q:Nat},ws q=ws' q→undoW i l ws q=undoW i l ws' q
 | [],_,_,_,h=>h
 | c::l,ws,ws',q,h=>by
   unfold undoW;rw [undoW_near h]
theorem crs_step{k:Nat}{m:Mode}{pick:Nat→Nat}{ws:Nat→UInt64}(hwf:∀i,∀c∈m.chg i,∃t,t<8∧c.1=8*t)(a:Nat):
 undoW k ((m.chg k).drop a) (crsW k m pick ws)=crsW (k+1) m (fun i=>if i=k then a else pick i) ws:=by
 funext q;unfold crsW;by_cases h1:q/8=k
 ·rw [if_pos (by omega)];unfold undoD;rw [h1];simp only [if_true];exact undoW_near (by rw [if_neg (by omega)])
 ·rw [undoW_far (fun c hc=>hwf k c (List.mem_of_mem_drop hc)) h1];by_cases h2:q/8<k
  ·rw [if_pos h2,if_pos (by omega)];unfold undoD;simp only [if_neg h1]
  ·rw [if_neg h2,if_neg (by omega)]
set_option maxHeartbeats 8000000 in
theorem crash_any(hL0:0<L)(hL:L≤1024)(h:DevRep w d L ws m mark g hb)(hlen:∀i,m i≤1000000)(hwf:∀i,∀c∈m.chg i,∃t,t<8∧c.1=8*t)(A:Option Addr)(n c:Nat)(l:List UInt8)(hn:n≤1000000000)
 (hA:(∀i,m i=0)∨(n≤c∧Bs w A n l∧∀a,A=some a→¬devOwn d L g hb a.block)):
 Calls Tryz.prog 14 #[.pointer (some ⟨d,0,none⟩),.slice A n c] w fun e w'=>(∃v,e= .returned v)∧
  ∃pick hb',(∀i,pick i≤m i)∧DevRep w' d L (crsW L m pick ws) (crsM L m) (crsN L mark) g hb'∧(∀i h,hb' i=some h→hb i=some h)∧Touch (devOwn d L g hb) w w':=by
 obtain⟨st,hbx⟩:=h.box;obtain⟨y0,y1,y2,y3,f0,f1,f2,f3⟩:=blk4' hbx;have HS:=Lib.hid (size_dev d L g _ _ _ w hL hbx);have hlt:=h.lt;have H:=Lib.hid h;have HBx:=Lib.hid hbx;have HWf:=Lib.hid hwf;have HLen:=Lib.hid hlen;have HA:=Lib.hid hA;obtain⟨W2,hW2⟩:∃W2,W2=(w.setCell ⟨d,1,none⟩ (.bool false)).setCell ⟨d,2,none⟩ (.int .i64 (-1)):=⟨_,rfl⟩;have t2:Touch (fun b=>b=d) w W2:=hW2▸((Touch.refl (fun b=>b=d) w).setCell (p:=⟨d,1,none⟩) (.inl rfl) _).setCell (p:=⟨d,2,none⟩) (.inl rfl) _;have hbx2:Blk W2 d 93 [.slice (some ⟨g,0,none⟩) L L,.bool false,.int .i64 (-1),.int .i64 st]:=hW2▸(hbx.set_ 1 (.bool false)).set_ 2 (.int .i64 (-1));have h2:=h.setLf t2 (-1) (by omega) (by omega) (st:=st) (by rw [show decide ((-1:Int)=0)=false by decide];exact hbx2);have HA2:Hid ((∀i,m i=0)∨(n≤c∧Bs W2 A n l)):=Lib.hid (hA.imp id (fun⟨h1,h3,h4⟩=>⟨h1,h3.touch t2 (fun a ea e=>h4 a ea (.inl e))⟩));have H2:=Lib.hid h2;have HT2:=Lib.hid (t2.mono (G:=devOwn d L g hb) (fun b e=> .inl e));have HW2:=Lib.hid hW2;clear h hbx hwf hlen hA h2 t2 hW2 hbx2;go_enter Tryz.func14,Tryz.ntmps14
 go_wp2_with fail
 refine HS.out.mono ?_;rintro e w'⟨rfl,rfl⟩;have hz:((L:Int)*64==0)=false:=by rw [beq_eq_false_iff_ne];omega
 clear HS
 go_wp2_with fail
 rw [←HW2.out];clear y0 y1 y2 y3 f0 f1 f2 f3
 go_loopw [1,22](fun q i wr=>∃(k:Nat)(pick:Nat→Nat)(A':Option Addr)(n' c':Nat)(l':List UInt8),k≤L∧q= .slice A' n' c'∧i= .int .i64 k∧n'≤1000000000∧((∀i,m i=0)∨(n'≤c'∧Bs wr A' n' l'∧∀a,A'=some a→∃a0,A=some a0∧a0.block=a.block))∧(∀i,pick i≤m i)∧
  DevRep wr d L (crsW k m pick ws) (crsM k m) (crsN k mark) g (crsH k hb)∧Touch (devOwn d L g hb) w wr)(fun _ i _=>L- (intOf i).toNat)
 case atStart=>exact⟨0,fun _=>0,A,n,c,l,Nat.zero_le _,rfl,rfl,hn,HA2.out.imp id (fun⟨a,b⟩=>⟨a,b,fun a ea=>⟨a,ea,rfl⟩⟩),fun _=>Nat.zero_le _,H2.out,HT2.out⟩
 case round=>
  obtain⟨k,pick,A',n',c',l',hk,rfl,rfl,hn',hA',hp,hr,ht⟩:=hrel;obtain⟨st2,hbx2⟩:=hr.box;obtain⟨y0,y1,y2,y3,f0,f1,f2,f3⟩:=blk4' hbx2;have HT:=Lib.hid ht;have HR:=Lib.hid hr;have HP:=Lib.hid hp;have HA':=Lib.hid hA';by_cases hlt2:k<L
  ·obtain⟨cur,hg,hs,h1,h2⟩:=hr.blk;obtain⟨Ak,ck,e1,e2,hc⟩:=h2 k hlt2;have hmk:(crsM k m).len k=m k:=by unfold crsM Mode.len;simp only;rw [if_neg (by omega)]
   have hmc:(crsM k m).chg k=m.chg k:=if_neg (by omega);rw [hmk]at e1;have z1:wr.cell? ⟨g,k*66+64,none⟩=some (.slice Ak (m k) ck):=by rw [cell_of_row wr g _ cur _ (0,0) hg,show k*66+64=66*k+64 by omega];exact e1
   have hx1:(k:Int)<(L:Int):=by omega
   have hx2:decide ((k:Int)<(L:Int))=true:=decide_eq_true hx1;have hx5:decide (k<L)=true:=decide_eq_true hlt2;have hwk:IntKind.i64.wrap ((k:Int)+1)=(k:Int)+1:=IntWalk.i64_in _ (by omega);have hmb:=HLen.out k;have HC:Hid (∀(wq:World)(a:Nat),wq=wr→a≤m k→Calls Tryz.prog 33 #[.pointer (some ⟨g,66*k,none⟩),.int .i64 (a:Int)] wq fun e w'=>(∃v,e= .returned v)∧
    DevRep w' d L (crsW (k+1) m (fun i=>if i=k then a else pick i) ws) (crsM (k+1) m) (crsN (k+1) mark) g (crsH (k+1) hb)∧Touch (devOwn d L g hb) w w'∧((∀i,m i=0)∨∀(B:Option Addr)(x:Nat)(lx:List UInt8),Bs wr B x lx→(∀a,B=some a→∃a0,A=some a0∧a0.block=a.block)→Bs w' B x lx)):=Lib.hid (fun wq a hq ha=>by
    subst hq;refine(line_crashU HR.out k a hlt2 hL (by rw [hmk];exact ha) (by rw [hmk];exact hmb) (by rw [hmc];exact HWf.out k)).mono ?_;rintro e w'⟨he,hD,hT⟩;have e1:undoW k (((crsM k m).chg k).drop a) (crsW k m pick ws)=crsW (k+1) m (fun i=>if i=k then a else pick i) ws:=by rw [hmc];exact crs_step HWf.out a
    have e2:(crsM k m).wipe k=crsM (k+1) m:=by
     unfold crsM Mode.wipe;simp only;congr 1;funext i;by_cases hi:i=k
     ·rw [if_pos hi,if_pos (by omega)]
     ·rw [if_neg hi];simp only [show(i<k+1)=(i<k)by apply propext;omega]
    have e3:(fun q=>if q=k then 0 else crsN k mark q)=crsN (k+1) mark:=by
     funext i;unfold crsN;by_cases hi:i=k
     ·rw [if_pos hi,if_pos (by omega)]
     ·rw [if_neg hi];simp only [show(i<k+1)=(i<k)by apply propext;omega]
    have e4:(fun q=>if q=k then none else crsH k hb q)=crsH (k+1) hb:=by
     funext i;unfold crsH;by_cases hi:i=k
     ·rw [if_pos hi,if_pos (by omega)]
     ·rw [if_neg hi];simp only [show(i<k+1)=(i<k)by apply propext;omega]
    rw [e1,e2,e3,e4]at hD;have hown:∀b,devOwn d L g (crsH k hb) b→devOwn d L g hb b:=fun b hb'=>by
     rcases hb' with h| h| ⟨i,hi,h⟩
     ·exact .inl h
     ·exact .inr (.inl h)
     ·refine .inr (.inr ⟨i,hi,?_⟩);unfold crsH at h;split at h
      ·cases h
      ·exact h
    have hT':=hT.mono hown;refine⟨he,hD,HT.out.trans hT' (fun b h=> .inl h),HA.out.imp id (fun⟨_,_,h4⟩B x lx hB hBA=>Rd.touch hB hT' (fun a ea ho=> ?_))⟩;obtain⟨a0,h0,h0b⟩:=hBA a ea;exact h4 a0 h0 (by rw [h0b];exact ho))
   clear hr hp ht hA' hg hs h1 h2 e1 e2 hc hbx2;obtain⟨N,hN⟩:∃N,N=m k:=⟨_,rfl⟩;rw [←hN]at z1 HC;have HN:=Lib.hid hN;clear hN hmk hmc;have hP2:Hid (∀a,a≤N→∀i,(fun i=>if i=k then a else pick i) i≤m i):=Lib.hid (fun a ha i=>by
    show(if i=k then a else pick i)≤m i;split
    ·rename_i e;rw [e,←HN.out];exact ha
    ·exact HP.out i)
   have hNb:N≤1000000:=by rw [HN.out];exact hmb
   have hw1:IntKind.i64.wrap ((N:Int)+1)=(N:Int)+1:=IntWalk.i64_in _ (by omega);by_cases hN0:N=0
   ·have t1:decide ((1:Int)<(N:Int)+1)=false:=decide_eq_false (by omega);have t2:decide (0<N)=false:=decide_eq_false (by omega);clear hN0
    go_wp2_with fail
    rw [show k*66=66*k by omega];refine(HC.out _ 0 rfl (Nat.zero_le _)).mono ?_;rintro e w4⟨⟨v,rfl⟩,hD4,hT4,hB4⟩;have HD4:=Lib.hid hD4;have HT4:=Lib.hid hT4;have HB4:=Lib.hid hB4;clear hD4 hT4 hB4 z1 y0 y1 y2 y3 f0 f1 f2 f3
    go_wp2_with fail
    go_roundw
    case rel=>exact⟨k+1,_,A',n',c',l',by omega,rfl,by go_num,hn',HB4.out.elim .inl (fun hb=>HA'.out.imp id (fun⟨h1,h2,h3⟩=>⟨h1,hb _ _ _ h2 h3,h3⟩)),hP2.out 0 (Nat.zero_le _),HD4.out,HT4.out⟩
    case measure=>simp [intOf];omega
   ·have t1:decide ((1:Int)<(N:Int)+1)=true:=decide_eq_true (by omega);have t2:decide (0<N)=true:=decide_eq_true (by omega);by_cases hn0:n'=0
    ·have t3:decide ((0:Int)<(n':Int))=false:=decide_eq_false (by omega);have t4:decide (0<n')=false:=decide_eq_false (by omega);clear hN0 hn0
     go_wp2_with fail
     rw [show k*66=66*k by omega];refine(HC.out _ 0 rfl (Nat.zero_le _)).mono ?_;rintro e w4⟨⟨v,rfl⟩,hD4,hT4,hB4⟩;have HD4:=Lib.hid hD4;have HT4:=Lib.hid hT4;have HB4:=Lib.hid hB4;clear hD4 hT4 hB4 z1 y0 y1 y2 y3 f0 f1 f2 f3
     go_wp2_with fail
     go_roundw
     case rel=>exact⟨k+1,_,A',n',c',l',by omega,rfl,by go_num,hn',HB4.out.elim .inl (fun hb=>HA'.out.imp id (fun⟨h1,h2,h3⟩=>⟨h1,hb _ _ _ h2 h3,h3⟩)),hP2.out 0 (Nat.zero_le _),HD4.out,HT4.out⟩
     case measure=>simp [intOf];omega
    ·obtain⟨hnc,hBl,hsub⟩:=HA'.out.resolve_left (fun h=>by have:=h k;have:=HN.out;omega);obtain⟨hl0,b,off,rfl,hbl,hc0⟩:=hBl.at (show 0<n' by omega);obtain⟨x,hx⟩:∃x,x=l'[0]:=⟨_,rfl⟩;rw [←hx,Nat.add_zero]at hc0;have hxl:=x.toNat_lt;have t3:decide ((0:Int)<(n':Int))=true:=decide_eq_true (by omega);have t4:decide (0<n')=true:=decide_eq_true (by omega);have t5:(0:Int)<(n':Int):=by omega
     have t6:0<n':=by omega
     have hsl:=fun W=>run_from Tryz.bytesTy (some ⟨b,off,none⟩) n' c' .i64 1 (by omega) W
     rw [show((1:Nat):Int)=1 from rfl]at hsl;have HBt:Hid (Bs wr (subA (some ⟨b,off,none⟩) c' 1) (n'-1) (l'.drop 1)):=Lib.hid (by
      have h1:=Rd.sub hBl (lo:=1) (hi:=n') (by omega) (Nat.le_refl _) hnc;have hll:l'.length=n':=hBl.len;rw [List.take_of_length_le (by simp [hll])]at h1;rw [←List.map_drop]at h1;exact h1)
     have HSb:Hid (∀a,subA (some (⟨b,off,none⟩:Addr)) c' 1=some a→∃a0,A=some a0∧a0.block=a.block):=Lib.hid (fun a ea=>by
      obtain⟨a0,h0,h1⟩:=hsub _ rfl;refine⟨a0,h0,h1.trans ?_⟩;unfold subA at ea;split at ea
      ·injection ea with ea;rw [←ea]
      ·simp only [Option.map_some,Option.some.injEq]at ea;rw [←ea,Addr.add_lit])
     have hrm:((x.toNat:Int)%((N:Int)+1))=((x.toNat%(N+1):Nat):Int):=by rw [Int.natCast_emod];rfl
     have hne:((N:Int)+1==0)=false:=by rw [beq_eq_false_iff_ne];omega
     have HRm:=Lib.hid hrm;clear hN0 hn0 hBl hsub hx hrm
     go_wp2_with fail
     rw [show k*66=66*k by omega,HRm.out];have hmod:x.toNat%(N+1)≤N:=by have:=Nat.mod_lt x.toNat (show 0<N+1 by omega);omega
     refine(HC.out _ (x.toNat%(N+1)) rfl hmod).mono ?_;rintro e w4⟨⟨v,rfl⟩,hD4,hT4,hB4⟩;have HD4:=Lib.hid hD4;have HT4:=Lib.hid hT4;have HB4:=Lib.hid hB4;have HP4:=Lib.hid (hP2.out _ hmod);clear hD4 hT4 hB4 z1 y0 y1 y2 y3 f0 f1 f2 f3 hsl hmod
     go_wp2_with fail
     go_roundw
     case rel=>exact⟨k+1,_,_,n'-1,c'-1,_,by omega,rfl,by go_num,by omega,HB4.out.elim .inl (fun hb=> .inr ⟨by omega,hb _ _ _ HBt.out HSb.out,HSb.out⟩),HP4.out,HD4.out,HT4.out⟩
     case measure=>simp [intOf];omega
  ·have hkn:k=L:=by omega
   subst hkn;clear hr hp ht hA' hbx2
   go_wp2_with fail
   go_end0;refine⟨⟨_,rfl⟩,pick,_,HP.out,HR.out,fun i h hi=> ?_,HT.out⟩;unfold crsH at hi;split at hi
   ·cases hi
   ·exact hi
end
theorem DevRep.congr {w : World} {d L : Nat} {ws ws' : Nat → UInt64} {m m' : Mode} {mark mark' : Nat → Nat} {g : Nat} {hb : Nat → Option Nat} (h : DevRep w d L ws m mark g hb) (h1 : ∀ q, q < 8 * L → ws' q = ws q) (h2 : ∀ i, i < L → m'.chg i = m.chg i) (h3 : m'.lf = m.lf) (h4 : ∀ i, i < L → mark' i = mark i) : DevRep w d L ws' m' mark' g hb := by
  obtain ⟨cur, hg, hs, a, b⟩ := h.blk
  have hl : ∀ i, i < L → m' i = m i := fun i hi => by show (m'.chg i).length = (m.chg i).length; rw [h2 i hi]
  refine ⟨by rw [h3]; exact h.box, by rw [h3]; exact h.lfr, h.gd, ⟨cur, hg, hs, fun i hi k hk => ?_, fun i hi => ?_⟩, h.bd, h.inj, fun i hi => by rw [h4 i hi, hl i hi]; exact h.mrk i hi⟩
  · have e : lineW ws' i = lineW ws i := by
      apply List.ext_getElem
      · simp [lineW]
      · intro t t1 t2
        have : t < 8 := by simpa [lineW] using t1
        rw [lineW_get, lineW_get, h1 _ (by omega)]
    rw [e]; exact a i hi k hk
  · obtain ⟨A, c, e1, e2, hc⟩ := b i hi
    exact ⟨A, c, by rw [hl i hi]; exact e1, by rw [h4 i hi]; exact e2, by rw [h2 i hi]; exact hc⟩
section
variable{w:World}{d p L:Nat}{s:St}{F:Nat→Prop}
def SMode.may(m:SMode)(ws ws':Nat→UInt64):Prop:=match m with
 | .up _=>ws'=ws
 | .down P=>P ws'
theorem crash_mode{m:SMode}(hm:(∃lf,m= .up (MU lf))∨∃P,m= .down P)(h:SysL m w d p L s F)(A:Option Addr)(n c:Nat)(l:List UInt8)(hn:n≤1000000000)(hA:n≤c∧Bs w A n l∧∀a,A=some a→¬F a.block):
 Calls Tryz.prog 14 #[.pointer (some ⟨d,0,none⟩),.slice A n c] w fun e w'=>(∃v,e= .returned v)∧
  ∃ws' own,m.may s.ws ws'∧Dev w' d L ws' M0 (fun _=>0) own∧(∀b,own b→F b)∧Touch F w w'∧Tabs w'∧¬own 0∧¬own 1:=by
 obtain⟨tb,hbl,n',cT,cH,own,hr,hF⟩:=h;have q1:¬own 0:=fun h=>hr.g1 (.inl h)
 have q2:¬own 1:=fun h=>hr.g2 (.inl h)
 have key:∀(md:Mode)(ws:Nat→UInt64)(mark:Nat→Nat),Dev w d L ws md mark own→(∀i,md i≤1000000)→(∀i,∀c∈md.chg i,∃t,t<8∧c.1=8*t)→(∀pick:Nat→Nat,(∀i,pick i≤md i)→m.may s.ws (undoD md pick ws))→
  Calls Tryz.prog 14 #[.pointer (some ⟨d,0,none⟩),.slice A n c] w fun e w'=>(∃v,e= .returned v)∧
   ∃ws' own,m.may s.ws ws'∧Dev w' d L ws' M0 (fun _=>0) own∧(∀b,own b→F b)∧Touch F w w'∧Tabs w'∧¬own 0∧¬own 1:=fun md ws mark hd hlen hwf hP=>by
  obtain⟨g,hbk,hd,ho⟩:=hd;refine(crash_any hr.L0 hr.L1 hd hlen hwf A n c l hn (.inr ⟨hA.1,hA.2.1,fun a ea h=>hA.2.2 a ea ((hF _).2 (.inl ((ho _).2 h)))⟩)).mono ?_;rintro e w1⟨he,pick,hb',hp,h1,h2,h3⟩;have hsub:∀b,devOwn d L g hb' b→own b:=fun b hb=>(ho b).2 (by
   rcases hb with h| h| ⟨i,hi,h⟩
   ·exact .inl h
   ·exact .inr (.inl h)
   ·exact .inr (.inr ⟨i,hi,h2 i b h⟩))
  have ht:Touch own w w1:=h3.mono (fun b hb=>(ho b).2 hb);have h4:DevRep w1 d L (undoD md pick ws) M0 (fun _=>0) g hb':=h1.congr (fun q hq=>by unfold crsW;rw [if_pos (by omega)]) (fun i hi=>by show []=(if i<L then []else md.chg i);rw [if_pos hi]) rfl (fun i hi=>by unfold crsN;rw [if_pos hi]);exact⟨he,_,devOwn d L g hb',hP pick hp,⟨g,hb',h4,fun _=>Iff.rfl⟩,fun b hb=>(hF b).2 (.inl (hsub b hb)),ht.mono (fun b hb=>(hF b).2 (.inl hb)),hr.tabs.keep (ht.block _ hr.tabs.lt.1 q1) (ht.block _ hr.tabs.lt.2 q2),fun h=>q1 (hsub _ h),fun h=>q2 (hsub _ h)⟩
 have hdev:=hr.dev;rcases hm with⟨lf,rfl⟩| ⟨P,rfl⟩
 ·exact key (MU lf) s.ws _ hdev.1 (fun _=>Nat.zero_le _) (fun _ _ h=>nomatch h) (fun pick _=>by
  show undoD (MU lf) pick s.ws=s.ws;funext q;unfold undoD;rw [show(MU lf).chg (q/8)=[]from rfl,List.drop_nil];rfl)
 ·obtain⟨md,ws,mark,_,h2,h3,h4,h5⟩:=hdev;exact key md ws mark h2 h3 h4 h5
theorem stop_sys{lf:Int}(h:SysL (.up (MU lf)) w d p L s F)(n:Nat)(hn:n≤1000000000):
 Calls Tryz.prog 10 #[.pointer (some ⟨d,0,none⟩),.int .i64 (n:Int)] w fun e w'=>(∃v,e= .returned v)∧
  ∃m' F',SysL m' w' d p L s F'∧Moved F F' w w'∧((n≠0∧m'= .up (MU n))∨(n=0∧m'= .down (fun ws'=>ws'=s.ws))):=by
 obtain⟨tb,hb,n',cT,cH,own,h,hF⟩:=h;obtain⟨⟨g,hb0,hr,ho⟩,hu⟩:=h.dev;refine(stop_dev h.L0 h.L1 hu hr n hn).mono ?_;rintro e w'⟨he,hD,hT⟩;refine⟨he,?_⟩;have hv:Dv w d L g hb0 s.ws (MU n) (fun _=>0) w':=⟨hb0,fun b h=> .inl h,hD,hT⟩;by_cases hz:n=0
 ·obtain⟨F',hs,hm⟩:=h.cut (P:=fun ws'=>ws'=s.ws) hF ho hv (by show((n:Nat):Int)=0;omega) (fun _=>Nat.zero_le _) (fun _ _ h=>nomatch h) (fun pick _=>by
  funext q;unfold undoD;rw [show(MU n).chg (q/8)=[]from rfl,List.drop_nil];rfl) s.ws
  exact⟨_,F',hs,hm,.inr ⟨hz,rfl⟩⟩
 ·obtain⟨F',hs,hm⟩:=h.wrote hF ho hv (by show((n:Nat):Int)≠0;omega);exact⟨_,F',hs,hm,.inl ⟨hz,rfl⟩⟩
end
end Go.Proofs.YtdjfbnoolfpcnaaGreatDoor
