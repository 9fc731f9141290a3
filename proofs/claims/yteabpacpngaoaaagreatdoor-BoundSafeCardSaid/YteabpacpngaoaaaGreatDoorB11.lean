import Derived.Test.YteabpacpngaoaaaGreatDoorB08
import Derived.Deep.RegionWith
import Derived.Deep.QuietTactic
import Derived.BigQuiet
namespace Go.Proofs.YteabpacpngaoaaaGreatDoor
open Lib renaming hid→oh
set_option maxHeartbeats 400000
open Go.RowKit
theorem chainP_le(size:Int)(x:PairB)(h:x.2.size≤4096):0≤chainP size x∧chainP size x≤4096:=by
 have:=needN_le x.2.size size (by omega);unfold chainP;split <;> omega
theorem chains_le(size:Int)(l:List PairB)(hr:∀p∈l,p.1.size≤32∧p.2.size≤4096):0≤sumBy (chainP size) l∧sumBy (chainP size) l≤4096 * l.length :=
 sumBy_le _ 4096 l (λx hx=>chainP_le size x (hr x hx).2)
theorem most_any{F:Nat→Prop}(lv:Value)(l:List PairB)(size:Int)(w:World)(hl:Sl F w 2 encP lv l)(hr:∀p∈l,p.1.size≤32∧p.2.size≤4096) :
  Calls Tryz.prog 99 #[lv,.int .i64 size] w λe w'=>e=.returned (.int .i64 (mostN l size))∧Ext w w':=by
 have hl0:=oh hl;obtain⟨a,cap,rfl,h1,h2,h3,h4⟩:=hl;unfold maxLen at h2;have hb:=chains_le size l hr;obtain⟨hb1,hb2⟩:=hb;have HR:=oh hr;clear hr h4;by_cases he:l=[]
 ·have HM:Hid (mostN l size=0):=oh (by unfold mostN;rw[if_pos he]);have hz:((l.length:Int) == 0)=true:=by rw[he];rfl
  clear he
  go_enter Tryz.func99, Tryz.ntmps99
  go_wp2
  go_ret;exact⟨ret_int HM.out.symm,Mods.refl _ _⟩
 ·have HM:Hid (mostN l size=2 * l.length-1+sumBy (chainP size) l):=oh (by unfold mostN;rw[if_neg he]);have hn:1≤l.length:=by cases l;exact absurd rfl he;simp
  clear he
  go_enter Tryz.func99, Tryz.ntmps99
  go_wp2_with (go_at_call 158;refine (chains_any _ l size _ hl0.out HR.out).mono ?_;rintro e w' ⟨rfl,hm⟩);go_ret;exact⟨ret_int HM.out.symm,hm⟩
def NumPost(F:Nat→Prop)(ad:Nat→Addr)(w:World)(c:Nat)(n:Int)(e:Ending)(w':World):Prop :=
 ∃v ev,e=.returned (.tuple #[.int .i64 v,ev])∧(v=if c=0 then n else 0)∧IsRes F ad w' c ev∧Ext w w'
theorem listsOf(F:Nat→Prop){w:World}{lv:Value}{l:List PairB}(hl:Sl F w 2 encP lv l):∀(i:Nat) (v:Value) (x:List PairB),[lv][i]? = some v→[l][i]? = some x→Sl F w 2 encP v x:=by
 intro i v x h1 h2;match i,h1,h2 with
 | 0,h1,h2=>simp at h1 h2;subst h1 h2;exact hl
theorem code_one(size:Int)(l:List PairB)(h:codeN size [l]=0):256≤size∧size≤1024∧rightP l=true:=by
 unfold codeN at h;split at h
 ·omega
 ·split at h
  ·rename_i h1 h2;simp at h2;exact⟨by omega,by omega,h2⟩
  ·omega
theorem Most_any{F:Nat→Prop}{ad:Nat→Addr}{w:World}(hL:Env F ad w)(lv:Value)(l:List PairB)(size:Int)(hl:Sl F w 2 encP lv l) :
  Calls Tryz.prog 61 #[lv,.int .i64 size] w (NumPost F ad w (codeN size [l]) (mostN l size)):=by
 have HS:Hid (Sl F (w.alloc (.cells #[lv] 22)) 1 encV (.slice (some ⟨w.heap.size,0,none⟩) 1 1) [lv]):=oh (Sl.one (by exact heap_at rfl) hL.new);have HL:=oh (hL.mods ((Mods.refl F w).alloc (.cells #[lv] 22)));have HV:=oh (listsOf F (hl.mods ((Mods.refl F w).alloc (.cells #[lv] 22))));have hl0:=oh hl;have hx:∃a n c,lv=.slice a n c:=by obtain⟨a,c,h,_⟩:=hl;exact⟨a,_,c,h⟩
 obtain⟨a,n,c,rfl⟩:=hx;clear hl hL
 go_enter Tryz.func61, Tryz.ntmps61
 go_wp2_with fail;refine (check_any HL.out _ size _ _ [l] HS.out rfl HV.out).mono ?_;rintro e w1 ⟨ev,rfl,hres,hm⟩;have hm2:Ext w w1:=((Mods.refl _ w).alloc _).trans hm;rcases hres with ⟨hc,rfl⟩|⟨hc,b,q,rfl,hE⟩
 ·have HC:=oh hc;clear hc;go_wp2_with (go_at_call 99;refine (most_any _ l size _ (hl0.out.mods (Mods.ext hm2)) (rightFrom_mem l _ (code_one size l HC.out).2.2)).mono ?_;rintro e w' ⟨rfl,hm3⟩);go_ret2
  exact⟨_,_,rfl,by rw[if_pos HC.out],.inl ⟨HC.out,rfl⟩,hm2.trans hm3⟩
 ·have HC:=oh hc;have HE:=oh hE;clear hc hE;go_wp2
  go_ret2
  exact⟨_,_,rfl,by rw[if_neg HC.out],.inr ⟨HC.out,_,_,rfl,HE.out⟩,hm2⟩
theorem depth_big{n:Int}(w:World)(h0:0≤n)(h1:n≤9223372036854775807) :
  Calls Tryz.prog 62 #[.int .i64 n] w λe w'=>e=.returned (.int .i64 (if n<1 then 0 else (Lib.bitLen n.toNat:Int)))∧w=w':=by
 by_cases h:n<1
 ·go_enter Tryz.func62, Tryz.ntmps62
  go_wp2
  go_ret;exact⟨rfl,rfl⟩
 ·go_enter Tryz.func62, Tryz.ntmps62
  go_wp2_with (go_at_call 100;refine (Tryz.bits_Len n _ (by omega) (by omega)).mono ?_;rintro e w' ⟨rfl,rfl⟩);go_ret;exact⟨rfl,rfl⟩
def longFrom(m:Int):List PairB→Int
 | []=>m
 | p :: r=>longFrom (max m (p.2.size:Int)) r
def worstN(depth value size:Int):Int :=
 if depth<0∨16<depth∨value<0∨4096<value∨size<256∨1024<size then 0
 else 2 * max depth 1+1+(if 24<value then needN value size else 0)
theorem longest_any{F:Nat→Prop}(lv:Value)(l:List PairB)(w:World)(hl:Sl F w 2 encP lv l)(hr:∀p∈l,p.1.size≤32∧p.2.size≤4096) :
  Calls Tryz.prog 141 #[lv] w λe w'=>e=.returned (.int .i64 (longFrom 0 l))∧Ext w w':=by
 obtain⟨a,cap,rfl,h1,h2,h3,h4⟩:=hl;unfold maxLen at h2;have HR:=oh hr;clear hr
 go_enter Tryz.func141, Tryz.ntmps141
 go_wp2
 go_loopg [3,8] l.length (λn t i wr=>∃k:Nat,∃z:Int,k+n=l.length∧i=.int .i64 k∧t=.int .i64 z∧Hid (longFrom z (l.drop k)=longFrom 0 l)∧Ext w wr)
 case atStart=>exact⟨0,0,by omega,rfl,rfl,oh rfl,Mods.refl _ _⟩
 case round =>
  obtain⟨k,z,hk,rfl,rfl,HZ,hm⟩:=hrel;by_cases hlt:k<l.length
  ·obtain⟨b,off,rfl,hb,hF,hc⟩:=Sl.atE h4 hm k hlt;have c0:=hc 0 _ rfl;have c1:=hc 1 _ rfl;simp only[Nat.add_zero] at c0;clear hc h4;have hz:=HZ.out;rw[List.drop_eq_getElem_cons hlt] at hz;have HZ2:Hid (longFrom (max z (l[k].2.size:Int)) (l.drop (k+1))=longFrom 0 l):=oh hz;clear hz HZ;go_wp2
   all_goals
    go_roundg (gk-1)
    case measure=>omega
    case rel=>exact⟨k+1,_,by omega,by go_num,rfl,by first|exact HZ2|(refine oh ?_;rw[← HZ2.out];congr 1;omega),hm.alloc _⟩
  ·have hke:k=l.length:=by omega
   have hzz:Hid (z=longFrom 0 l):=oh (by have:=HZ.out;rw[hke,List.drop_length] at this;exact this);clear HZ hke h4;go_wp2
   go_ret;exact⟨ret_int hzz.out,hm⟩
theorem Worst_any(value size:Int)(w:World)(h0:0≤value)(h1:value≤4096)(h2:256≤size)(h3:size≤1024) :
  Calls Tryz.prog 140 #[.int .i64 16,.int .i64 value,.int .i64 size] w λe w'=>e=.returned (.int .i64 (worstN 16 value size))∧w=w':=by
 have hb:=needN_le value size h1;obtain⟨hb1,hb2⟩:=hb;by_cases hv:24<value
 ·have HR:Hid (33+needN value size=worstN 16 value size):=oh (by unfold worstN;rw[if_neg (by omega),if_pos hv,show max (16:Int) 1=16 from rfl];omega)
  go_enter Tryz.func140, Tryz.ntmps140
  go_wp2_with (go_at_call 209;refine (need_any _ _ _ (by omega) (by omega)).mono ?_;rintro e w' ⟨rfl,rfl⟩);go_ret;exact⟨ret_int HR.out,rfl⟩
 ·have HR:Hid (33=worstN 16 value size):=oh (by unfold worstN;rw[if_neg (by omega),if_neg hv,show max (16:Int) 1=16 from rfl];omega)
  go_enter Tryz.func140, Tryz.ntmps140
  go_wp2
  go_ret;exact⟨ret_int HR.out,rfl⟩
def batchN(was is:List PairB)(size:Int):Int:=6+mostN was size+mostN is size+worstN 16 (longFrom 0 is) size
theorem longFrom_le(l:List PairB)(hr:∀p∈l,p.1.size≤32∧p.2.size≤4096):∀m:Int,0≤m→m≤4096→0≤longFrom m l∧longFrom m l≤4096:=by
 induction l with
 | nil=>intro m h0 h1;exact⟨h0,h1⟩
 | cons p r ih =>
  intro m h0 h1;have:=hr p (by simp);exact ih (λq hq=>hr q (by simp[hq])) _ (by omega) (by omega)
theorem mostN_le(l:List PairB)(size:Int)(hr:∀p∈l,p.1.size≤32∧p.2.size≤4096):0≤mostN l size∧mostN l size≤4098 * l.length:=by
 have h:=chains_le size l hr;unfold mostN;split
 ·rename_i e;subst e;simp
 ·rename_i e;have:1≤l.length:=by cases l;exact absurd rfl e;simp
  omega
theorem worstN_le(value size:Int)(h1:value≤4096):0≤worstN 16 value size∧worstN 16 value size≤5000:=by
 have h:=needN_le value size h1;unfold worstN;split
 ·omega
 ·rw[show max (16:Int) 1=16 from rfl];split <;> omega
theorem batch_any{F:Nat→Prop}(wv iv:Value)(was is:List PairB)(size:Int)(w:World)(hw:Sl F w 2 encP wv was)(hi:Sl F w 2 encP iv is)
  (hrw:∀p∈was,p.1.size≤32∧p.2.size≤4096) (hri:∀p∈is,p.1.size≤32∧p.2.size≤4096) (h2:256≤size) (h3:size≤1024) :
  Calls Tryz.prog 89 #[wv,iv,.int .i64 size] w λe w'=>e=.returned (.int .i64 (batchN was is size))∧Ext w w':=by
 obtain⟨b1,b2⟩:=mostN_le was size hrw;obtain⟨b3,b4⟩:=mostN_le is size hri;obtain⟨b5,b6⟩:=longFrom_le is hri 0 (by omega) (by omega);obtain⟨b7,b8⟩:=worstN_le (longFrom 0 is) size b6;have hx:∃a c,wv=.slice a was.length c∧was.length≤140737488355328:=by obtain⟨a,c,h,_,_,h3,_⟩:=hw;exact⟨a,c,h,h3⟩
 have hy:∃a c,iv=.slice a is.length c∧is.length≤140737488355328:=by obtain⟨a,c,h,_,_,h3,_⟩:=hi;exact⟨a,c,h,h3⟩
 have HW:=oh hw;have HI:=oh hi;obtain⟨a,c,rfl,hl1⟩:=hx;obtain⟨a',c',rfl,hl2⟩:=hy;have HRW:=oh hrw;have HRI:=oh hri;clear hw hi hrw hri
 go_enter Tryz.func89, Tryz.ntmps89
 go_wp2_with fail;refine (most_any _ was size _ HW.out HRW.out).mono ?_;rintro e w1 ⟨rfl,hm1⟩;go_wp2_with fail;refine (most_any _ is size _ (HI.out.mods (Mods.ext hm1)) HRI.out).mono ?_;rintro e w2 ⟨rfl,hm2⟩;have hm12:=hm1.trans hm2;go_wp2_with fail;refine (longest_any _ is _ (HI.out.mods (Mods.ext hm12)) HRI.out).mono ?_;rintro e w3 ⟨rfl,hm3⟩;have hm13:=hm12.trans hm3;go_wp2_with fail;refine (Worst_any _ size _ b5 b6 h2 h3).mono ?_;rintro e w4 ⟨rfl,rfl⟩;go_wp2
 go_ret;exact⟨rfl,hm13⟩
theorem Sl.twoB{α:Type}{F:Nat→Prop}{w:World}{sz:Nat}{enc:α→List Value}{x y:α}{b:Nat}{t:TypeId}{fz:Nat × Nat}(h:w.heap[b]? = some (.cells (enc x++enc y).toArray t fz))(hx:(enc x).length=sz)(hF:¬ F b) :
  Sl F w sz enc (.slice (some ⟨b,0,none⟩) 2 2) [x,y]:=by
 refine⟨_,2,rfl,Nat.le_refl _,by simp[maxLen],by simp,.inr ⟨b,0,rfl,(Array.getElem?_eq_some_iff.1 h).1,hF,λi z hi j u hu=>?_⟩⟩;match i,hi with
 | 0,hi =>
  simp at hi;subst hi;rw[cells_of_block h];have hj:j<(enc x).length:=(List.getElem?_eq_some_iff.1 hu).1;simp only[List.getElem?_toArray,Nat.zero_mul,Nat.zero_add,List.getElem?_append_left hj];exact hu
 | 1,hi =>
  simp at hi;subst hi;rw[cells_of_block h];simp only[List.getElem?_toArray,Nat.one_mul,Nat.zero_add];rw[List.getElem?_append_right (by omega)];rw[← hu];congr 1;omega
theorem listsOf2(F:Nat→Prop){w:World}{lv kv:Value}{l k:List PairB}(hl:Sl F w 2 encP lv l)(hk:Sl F w 2 encP kv k) :
  ∀(i:Nat) (v:Value) (x:List PairB),[lv,kv][i]? = some v→[l,k][i]? = some x→Sl F w 2 encP v x:=by
 intro i v x h1 h2;match i,h1,h2 with
 | 0,h1,h2=>simp at h1 h2;subst h1 h2;exact hl
 | 1,h1,h2=>simp at h1 h2;subst h1 h2;exact hk
theorem code_two(size:Int)(l k:List PairB)(h:codeN size [l,k]=0):256≤size∧size≤1024∧rightP l=true∧rightP k=true:=by
 unfold codeN at h;split at h
 ·omega
 ·split at h
  ·rename_i h1 h2;simp at h2;exact⟨by omega,by omega,h2⟩
  ·omega
theorem Batch_any{F:Nat→Prop}{ad:Nat→Addr}{w:World}(hL:Env F ad w)(lv kv:Value)(l k:List PairB)(size:Int)(hl:Sl F w 2 encP lv l)(hk:Sl F w 2 encP kv k) :
  Calls Tryz.prog 52 #[lv,kv,.int .i64 size] w (NumPost F ad w (codeN size [l,k]) (batchN l k size)):=by
 have m0:Mods F w (w.alloc (.cells #[lv,kv] 22)):=(Mods.refl F w).alloc _;have HS:Hid (Sl F (w.alloc (.cells #[lv,kv] 22)) 1 encV (.slice (some ⟨w.heap.size,0,none⟩) 2 2) [lv,kv]):=oh (Sl.twoB (by exact heap_at rfl) rfl hL.new);have HL:=oh (hL.mods m0);have HV:=oh (listsOf2 F (hl.mods m0) (hk.mods m0));have hl0:=oh hl;have hk0:=oh hk;have hx:∃a n c,lv=.slice a n c:=by obtain⟨a,c,h,_⟩:=hl;exact⟨a,_,c,h⟩
 have hy:∃a n c,kv=.slice a n c:=by obtain⟨a,c,h,_⟩:=hk;exact⟨a,_,c,h⟩
 obtain⟨a,n,c,rfl⟩:=hx;obtain⟨a',n',c',rfl⟩:=hy;clear hl hL hk m0
 go_enter Tryz.func52, Tryz.ntmps52
 go_wp2_with fail;refine (check_any HL.out _ size _ _ [l,k] HS.out rfl HV.out).mono ?_;rintro e w1 ⟨ev,rfl,hres,hm⟩;have hm2:Ext w w1:=((Mods.refl _ w).alloc _).trans hm;rcases hres with ⟨hc,rfl⟩|⟨hc,b,q,rfl,hE⟩
 ·have HC:=oh (code_two size l k hc);have HC0:=oh hc;clear hc;go_wp2_with (go_at_call 89;refine (batch_any _ _ l k size _ (hl0.out.mods (Mods.ext hm2)) (hk0.out.mods (Mods.ext hm2)) (rightFrom_mem l _ HC.out.2.2.1) (rightFrom_mem k _ HC.out.2.2.2) HC.out.1 HC.out.2.1).mono ?_;rintro e w' ⟨rfl,hm3⟩);go_ret2
  exact⟨_,_,rfl,by rw[if_pos HC0.out],.inl ⟨HC0.out,rfl⟩,hm2.trans hm3⟩
 ·have HC:=oh hc;have HE:=oh hE;clear hc hE;go_wp2
  go_ret2
  exact⟨_,_,rfl,by rw[if_neg HC.out],.inr ⟨HC.out,_,_,rfl,HE.out⟩,hm2⟩
def rightG(blocks size:Int):Bool:=decide (8≤blocks) && decide (blocks≤256) && decide (256≤size) && decide (size≤1024)
theorem Right4_any(b s:Int)(w:World) : Calls Tryz.prog 42 #[.agg #[.int .i64 b,.int .i64 s]] w λe w'=>e=.returned (.bool (rightG b s))∧Ext w w':=by
 by_cases h1:8≤b
 ·by_cases h2:b≤256
  ·by_cases h3:256≤s
   ·have HR:Hid (rightG b s=(decide (8≤b) && decide (b≤256) && decide (256≤s) && decide (s≤1024))):=oh rfl
    go_enter Tryz.func42, Tryz.ntmps42
    go_wp2
    go_ret;exact⟨ret_bool (by rw[HR.out];simp;try omega),(Mods.refl _ w).alloc _⟩
   ·have HR:Hid (rightG b s=(decide (8≤b) && decide (b≤256) && decide (256≤s) && decide (s≤1024))):=oh rfl
    go_enter Tryz.func42, Tryz.ntmps42
    go_wp2
    go_ret;exact⟨ret_bool (by rw[HR.out];simp;try omega),(Mods.refl _ w).alloc _⟩
  ·have HR:Hid (rightG b s=(decide (8≤b) && decide (b≤256) && decide (256≤s) && decide (s≤1024))):=oh rfl
   go_enter Tryz.func42, Tryz.ntmps42
   go_wp2
   go_ret;exact⟨ret_bool (by rw[HR.out];simp;try omega),(Mods.refl _ w).alloc _⟩
 ·have HR:Hid (rightG b s=(decide (8≤b) && decide (b≤256) && decide (256≤s) && decide (s≤1024))):=oh rfl
  go_enter Tryz.func42, Tryz.ntmps42
  go_wp2
  go_ret;exact⟨ret_bool (by rw[HR.out];simp;try omega),(Mods.refl _ w).alloc _⟩
def YesPost(F:Nat→Prop)(ad:Nat→Addr)(w:World)(c:Nat)(y:Bool)(e:Ending)(w':World):Prop :=
 ∃v ev,e=.returned (.tuple #[.bool v,ev])∧(v=if c=0 then y else false)∧IsRes F ad w' c ev∧Ext w w'
def codeG(b s:Int)(ls:List (List PairB)):Nat:=if rightG b s then codeN s ls else 2
theorem Safe_any{F:Nat→Prop}{ad:Nat→Addr}{w:World}(hL:Env F ad w)(gb gs:Int)(lv kv:Value)(l k:List PairB)(hl:Sl F w 2 encP lv l)(hk:Sl F w 2 encP kv k) :
  Calls Tryz.prog 14 #[.agg #[.int .i64 gb,.int .i64 gs],lv,kv] w (YesPost F ad w (codeG gb gs [l,k]) (decide (batchN l k gs≤gb))):=by
 have m0:Ext w (w.alloc (.cells #[.int .i64 gb,.int .i64 gs] 24)):=(Mods.refl _ w).alloc _;have HL:=oh hL;have hl0:=oh hl;have hk0:=oh hk;have hx:∃a n c,lv=.slice a n c:=by obtain⟨a,c,h,_⟩:=hl;exact⟨a,_,c,h⟩
 have hy:∃a n c,kv=.slice a n c:=by obtain⟨a,c,h,_⟩:=hk;exact⟨a,_,c,h⟩
 obtain⟨a,n,c,rfl⟩:=hx;obtain⟨a',n',c',rfl⟩:=hy;clear hl hk hL
 go_enter Tryz.func14, Tryz.ntmps14
 go_wp2_with fail;refine (Right4_any gb gs _).mono ?_;rintro e w1 ⟨rfl,hm⟩;have hm2:Ext w w1:=m0.trans hm;have hm3:=oh hm2;have hgb:w1.cell? ⟨w.heap.size,0,none⟩=some (.int .i64 gb):=by rw[hm.cell (by simp) (λf=>f)];simp
 have hgs:w1.cell? ⟨w.heap.size,1,none⟩=some (.int .i64 gs):=by rw[hm.cell (by simp) (λf=>f)];simp
 have g2:=(HL.out.mods (Mods.ext hm2)).c2;clear hm hm2 m0;cases hg:rightG gb gs
 ·have HC:Hid (codeG gb gs [l,k]=2):=oh (by unfold codeG;rw[hg];rfl);go_wp2_with (go_at_call 43;refine (new_any (HL.out.mods (Mods.ext hm3.out)) _ _ _ 2 (.sent 2 (by omega) (by omega))).mono ?_;rintro e w' ⟨b,rfl,hE,hM⟩);go_ret2
  exact⟨_,_,rfl,by rw[HC.out];rfl,by rw[HC.out];exact .inr ⟨by omega,_,_,rfl,hE⟩,hm3.out.trans hM⟩
 ·have HC:Hid (codeG gb gs [l,k]=codeN gs [l,k]):=oh (by unfold codeG;rw[hg];rfl);go_wp2_with fail;refine (Batch_any (HL.out.mods (Mods.ext hm3.out)) _ _ l k gs (hl0.out.mods (Mods.ext hm3.out)) (hk0.out.mods (Mods.ext hm3.out))).mono ?_;rintro e w2 ⟨v,ev,rfl,hv,hres,hm4⟩;have hb2:w.heap.size<w1.heap.size:=cell_lt hgb;have hgb2:w2.cell? ⟨w.heap.size,0,none⟩=some (.int .i64 gb):=(hm4.cell hb2 (λf=>f)).trans hgb;have HV:=oh hv;clear hv hgb;rcases hres with ⟨hc,rfl⟩|⟨hc,b,q,rfl,hE⟩
  ·have HC0:=oh hc;clear hc;go_wp2
   go_ret2
   exact⟨_,_,rfl,by rw[HC.out,if_pos HC0.out];have:=HV.out;rw[if_pos HC0.out] at this;rw[this],by rw[HC.out];exact .inl ⟨HC0.out,rfl⟩,hm3.out.trans hm4⟩
  ·have HC0:=oh hc;have HE:=oh hE;clear hc hE;go_wp2_with (go_at_call 48;refine (wrap_any (HL.out.mods (Mods.ext (hm3.out.trans hm4))) _ _ _ _ HE.out).mono ?_;rintro e w' ⟨b,rfl,hE,hM⟩);go_ret2
   exact⟨_,_,rfl,by rw[HC.out,if_neg HC0.out],by rw[HC.out];exact .inr ⟨HC0.out,_,_,rfl,hE⟩,(hm3.out.trans hm4).trans hM⟩
end Go.Proofs.YteabpacpngaoaaaGreatDoor
