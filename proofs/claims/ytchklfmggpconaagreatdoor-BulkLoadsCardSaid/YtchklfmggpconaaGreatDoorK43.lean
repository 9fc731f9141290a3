import Derived.Test.YtchklfmggpconaaGreatDoorK42
import Derived.Test.YtchklfmggpconaaGreatDoorK40
import Derived.BigQuiet
import Derived.Maps.RangeWalk
namespace Go.Proofs.YtchklfmggpconaaGreatDoor
open Lib renaming hid→oh
set_option maxHeartbeats 4000000
set_option maxRecDepth 100000
open Go.RowKit
attribute [local go_sem ↓] Go.wp_at_zero Go.wp_at_succ
theorem Own.take{α:Type}{F:Nat→Prop}{w:World}{base:Nat}{e:TypeId}{sz:Nat}{enc:α→List Value}{a:Option Addr}{n c:Nat}{l:List α}(h:Own F w base e sz enc (.slice a n c) l)(henc:∀x,(enc x).length=sz)(k:Nat)(hk:k≤l.length):Own F w base e sz enc (.slice a k c) (l.take k):=by
 have hlen:(l.take k).length=k:=by rw[List.length_take];omega
 rcases h.1.2 with ⟨hv,h0⟩|⟨g,cap,cur,hv,hb,hg,hcap,hm,hs,htake⟩
 ·injection hv with h1 h2 h3;subst h1;subst h3;have:k=0:=by omega
  subst this;rw[List.take_zero];exact Own.nil _ _ _ _ _ _
 ·injection hv with h1 h2 h3;subst h1;subst h3;have hF:=h.2 g rfl;have:=Own.made (F:=F) (base:=base) (e:=e) (enc:=enc) (sz:=sz) (l:=l.take k) (cap:=c) hg hb hF (by omega) hm hs (by
   rw[hlen];have h4:cur.toList.take (k * sz)=(cur.toList.take (l.length * sz)).take (k * sz):=by rw[List.take_take,Nat.min_eq_left (Nat.mul_le_mul_right sz hk)]
   rw[h4,htake];have h5:l.flatMap enc=(l.take k).flatMap enc++(l.drop k).flatMap enc:=by rw[← List.flatMap_append,List.take_append_drop]
   rw[h5,List.take_append_of_le_length (by rw[flatMap_len henc,hlen];exact Nat.le_refl _),List.take_of_length_le (by rw[flatMap_len henc,hlen];exact Nat.le_refl _)]) henc
  rwa [hlen] at this
theorem Own.cellI{F:Nat→Prop}{w:World}{base:Nat}{e:TypeId}{g n c:Nat}{l:List Int}(h:Own F w base e 1 encI (.slice (Option.some ⟨g,0,none⟩) n c) l){i:Nat}{x:Int}(hi:l[i]? = Option.some x):w.cell? ⟨g,i,none⟩=Option.some (Value.int .i64 x):=by
 have h1:=h.1.cells (g:=g) rfl (i * 1+0) (Value.int .i64 x) (flatMap_at encI_ok.len l i x 0 _ hi rfl);rw[Nat.mul_one,Nat.add_zero] at h1;unfold Addr.add at h1;split at h1
 ·rename_i hz;rw[hz];exact h1
 ·simpa using h1
theorem runW_step{z:Int}{ws:List Int}{i m:Nat}(hi:i+m<ws.length) :
  runW z (2+addW ((ws.drop i).take m)) (ws.drop (i+m))=if 2+addW ((ws.drop i).take (m+1))≤z then runW z (2+addW ((ws.drop i).take (m+1))) (ws.drop (i+(m+1)))+1 else 0:=by
 rw[List.drop_eq_getElem_cons hi,runW];have h1:addW ((ws.drop i).take (m+1))=addW ((ws.drop i).take m)+ws[i+m]:=addW_take (by rw[List.getElem?_drop,List.getElem?_eq_getElem hi]);rw[h1,show (2:Int)+(addW ((ws.drop i).take m)+ws[i+m])=2+addW ((ws.drop i).take m)+ws[i+m] by omega];rfl
theorem lensW_step{z:Int}{ws:List Int}{i m f:Nat}(hi:i<ws.length)(hr:runW z (2+addW ((ws.drop i).take 1)) (ws.drop (i+1))+1=m):lensW z (f+1) (ws.drop i)=m :: lensW z f (ws.drop (i+m)):=by
 rw[List.drop_eq_getElem_cons hi,lensW];have h1:addW ((ws.drop i).take 1)=ws[i]:=by rw[List.drop_eq_getElem_cons hi,List.take_succ_cons,List.take_zero];simp[addW]
 rw[h1] at hr;rw[hr,List.drop_drop,show i+1+runW z (2+ws[i]) (ws.drop (i+1))=i+m by omega]
theorem lensW_sum(z:Int):∀(f:Nat) (ws:List Int),ws.length≤f→(lensW z f ws).sum=ws.length∧∀x∈lensW z f ws,1≤x
 | 0,ws,h=>by
  have:ws=[]:=List.length_eq_zero_iff.1 (by omega);subst this;simp[lensW]
 | f+1,[],_=>by simp[lensW]
 | f+1,x :: l,h=>by
  simp only[List.length_cons] at h;have hr:=runW_le z l (2+x);obtain⟨h1,h2⟩:=lensW_sum z f (l.drop (runW z (2+x) l)) (by rw[List.length_drop];omega);rw[lensW,List.sum_cons,h1,List.length_drop,List.length_cons];refine⟨by omega,λy hy=>?_⟩;rcases List.mem_cons.1 hy with rfl|hy
  ·omega
  ·exact h2 y hy
theorem evenW_short{z:Int}{ws:List Int}{o:List Nat}(h:o.length<2):evenW z ws o=o:=by
 match o,h with
 | [],_=>rfl
 | [_],_=>rfl
theorem evenW_two(z : Int)(ws : List Int)(r : List Nat)(a b : Nat) : evenW z ws (r ++ [a, b]) = if z ≤ 3 * (2 + addW (ws.drop (ws.length - b))) then r ++ [a, b] else
      if 2+addW (ws.drop (ws.length-b-a))≤z then r++[(ws.drop (ws.length-b-a)).length] else r++[cutW (ws.drop (ws.length-b-a)),(ws.drop (ws.length-b-a)).length-cutW (ws.drop (ws.length-b-a))]:=by
  unfold evenW
  rw[List.reverse_append]
  simp only[List.reverse_cons,List.reverse_nil,List.nil_append,List.cons_append,List.reverse_reverse]
theorem two_ends{l:List Nat}(h:2≤l.length):∃r a b,l=r++[a,b]:=by
 refine⟨l.take (l.length-2),l[l.length-2],l[l.length-1],?_⟩;have h1:l.drop (l.length-2)=[l[l.length-2],l[l.length-1]]:=by
  rw[List.drop_eq_getElem_cons (by omega),List.drop_eq_getElem_cons (by omega)];congr 1
  rw[List.drop_eq_nil_of_le (by omega)];congr 2
  omega
 rw[← h1,List.take_append_drop]
section
variable {F:Nat→Prop}{w w':World}
theorem leaves15_any(l:List PairS)(lv:Value)(z:Int)(hl:Sl F w 2 encP lv l)(hs:ShortP l)(hz:24≤z)(hz2:z≤100000) : Calls Tryz.prog 23 #[lv,.int .i64 z] w λe w'=>∃v,e=.returned v∧Own NoF w' w.heap.size 3 1 encI v ((leavesW (z-24) (wtsP l)).map λn:Nat=>(n:Int))∧Ext w w':=by
 have HL:=oh hl;have HS:=oh hs;obtain⟨hs1,_⟩:=hs;obtain⟨la,lc,rfl,h1,h2,h3, -⟩:=hl;unfold maxLen at h2;have hwl:(wtsP l).length=l.length:=by unfold wtsP;rw[List.length_map]
 have HWL:=oh hwl;clear hwl;have HB:Hid (∀i k,0≤addW (((wtsP l).drop i).take k)∧addW (((wtsP l).drop i).take k)≤30000000):=oh (λi k=>by
  have a1:=addW_lim (l:=(l.drop i).take k) (λx hx=>HS.out.2 x (List.mem_of_mem_drop (List.mem_of_mem_take hx)));unfold wtsP at a1 ⊢;rw[List.map_take,List.map_drop,List.length_take,List.length_drop] at a1;omega)
 have HT:Hid (∀(W:World) (i k:Nat),Ext w W→i<l.length→i+k≤l.length → Calls Tryz.prog 50 #[.slice (la.map (·.add (i * 2))) k (lc-i)] W λe w'=>e=.returned (.int .i64 (2+addW (((wtsP l).drop i).take k)))∧Ext W w'):=oh (λW i k m hi hk=>by
  have h5:=(HL.out.ext m).tail_ i (by omega);rw[if_neg (by omega)] at h5;have:=sum15_any ((l.drop i).take k) _ (h5.pre k (by rw[List.length_drop];omega)) ⟨by rw[List.length_take,List.length_drop];have:=HS.out.1;omega,λx hx=>HS.out.2 x (List.mem_of_mem_drop (List.mem_of_mem_take hx))⟩;unfold wtsP at this ⊢;rwa [List.map_take,List.map_drop] at this)
 have HD:Hid (∀(W:World) (i:Nat),Ext w W→i<l.length → Calls Tryz.prog 50 #[.slice (la.map (·.add (i * 2))) (l.length-i) (lc-i)] W λe w'=>e=.returned (.int .i64 (2+addW ((wtsP l).drop i)))∧Ext W w'):=oh (λW i m hi=>by
  have:=HT.out W i (l.length-i) m hi (by omega);rwa [List.take_of_length_le (by rw[List.length_drop,HWL.out];exact Nat.le_refl _)] at this)
 go_enter Tryz.func23, Tryz.ntmps23
 go_wp2_with fail;go_loopg [5,6] l.length (λm v5 v6 wr=>∃(out:List Int) (oa:Option Addr) (oc k:Nat),k+m=l.length∧v5=.slice oa out.length oc∧v6=.int .i64 (k:Int)∧out.length≤k∧Hid (Own NoF wr w.heap.size 3 1 encI (.slice oa out.length oc) out∧Ext w wr∧out++(lensW (z-24) (l.length-k) ((wtsP l).drop k)).map (λn:Nat=>(n:Int))=(lensW (z-24) l.length (wtsP l)).map (λn:Nat=>(n:Int))))
 case atStart=>exact⟨[],some ⟨w.heap.size,0,none⟩,0,0,by omega,rfl,rfl,Nat.le_refl _,oh ⟨Own.lit 1 encI encI_ok.len (heap_at (by simp)) (Nat.le_refl _),(Mods.refl _ _).alloc _,by simp⟩⟩
 case round =>
  obtain⟨out,oa,oc,k,hkm,rfl,rfl,hok,HR⟩:=hrel;by_cases hlt:k<l.length
  ·have i1:(0:Int)≤(k:Int):=by omega
   obtain⟨wo,hwo⟩:∃wo:World,wo=wr:=⟨_,rfl⟩;have HR0:Hid (Own NoF wo w.heap.size 3 1 encI (.slice oa out.length oc) out∧Ext w wo∧out++(lensW (z-24) (l.length-k) ((wtsP l).drop k)).map (λn:Nat=>(n:Int))=(lensW (z-24) l.length (wtsP l)).map (λn:Nat=>(n:Int))):=oh (by rw[hwo];exact HR.out);go_wp2_with fail;go_loopg [7] (l.length-k) (λq v7 wr2=>∃(m:Nat),m+q=l.length-k+1∧v7=.int .i64 (m:Int)∧1≤m∧k+m≤l.length∧Hid (runW (z-24) (2+addW (((wtsP l).drop k).take 1)) ((wtsP l).drop (k+1))+1=m+runW (z-24) (2+addW (((wtsP l).drop k).take m)) ((wtsP l).drop (k+m))∧Ext wo wr2))
   case atStart=>exact⟨1,by omega,by go_num,by omega,by omega,oh ⟨by omega,by rw[hwo];exact Mods.refl _ _⟩⟩
   case round =>
    obtain⟨m,hmq,rfl,hm1,hmk,HM⟩:=hrel;by_cases hmn:k+m<l.length
    ·have hmm:k+m+1-k=m+1:=by omega
     have HA:Hid (∀W,Ext w W → Calls Tryz.prog 50 #[.slice (la.map (·.add (k * 2))) (k+m+1-k) (lc-k)] W λe w'=>e=.returned (.int .i64 (2+addW (((wtsP l).drop k).take (m+1))))∧Ext W w'):=oh (λW x=>by rw[hmm];exact HT.out W k (m+1) x hlt (by omega));have HRS:=oh (runW_step (z:=z-24) (ws:=wtsP l) (i:=k) (m:=m) (by rw[HWL.out];exact hmn));obtain⟨A,hA⟩:∃A,A=addW (((wtsP l).drop k).take (m+1)):=⟨_,rfl⟩;rw[← hA] at HA HRS;have hb:=HB.out k (m+1);rw[← hA] at hb;obtain⟨b1,b2⟩:=hb;have j1:(0:Int)≤(m:Int):=by omega
     have j2:(k:Int)+(m:Int)<(l.length:Int):=by omega
     have j3:(k:Int)+(m:Int)+1≤(lc:Int):=by omega
     have j4:(k:Int)≤(k:Int)+(m:Int)+1:=by omega
     have HAA:=oh hA;clear hA hmm;go_wp2_with fail;refine (HA.out _ (HR0.out.2.1.trans HM.out.2)).mono ?_;rintro e w4 ⟨rfl,hm4⟩;have HM4:Hid (Ext wo w4):=oh (HM.out.2.trans hm4);clear hm4;by_cases hle:2+A≤z-24
     ·go_wp2_with fail;go_roundg (gk-1)
      case measure=>omega
      case rel=>exact⟨m+1,by omega,by go_num,by omega,by omega,oh ⟨by rw[HM.out.1,HRS.out,if_pos hle,HAA.out];omega,HM4.out⟩⟩
     ·have HRU:Hid (runW (z-24) (2+addW (((wtsP l).drop k).take 1)) ((wtsP l).drop (k+1))+1=m):=oh (by rw[HM.out.1,HRS.out,if_neg hle];omega);have HOx:Hid (Own NoF w4 w.heap.size 3 1 encI (.slice oa out.length oc) out∧Ext w w4):=oh ⟨HR0.out.1.ext HM4.out,HR0.out.2.1.trans HM4.out⟩;have HEQ:Hid ((out++[(m:Int)])++(lensW (z-24) (l.length-(k+m)) ((wtsP l).drop (k+m))).map (λn:Nat=>(n:Int))=(lensW (z-24) l.length (wtsP l)).map (λn:Nat=>(n:Int))):=oh (by
       rw[← HR0.out.2.2,show l.length-k=(l.length-k-1)+1 by omega,lensW_step (z:=z-24) (m:=m) (by rw[HWL.out];exact hlt) (HRU.out),List.map_cons,List.append_assoc,List.singleton_append];rw[lensW_fuel (z-24) (l.length-k-1) (l.length-(k+m)) _ (by rw[List.length_drop,HWL.out];omega) (by rw[List.length_drop,HWL.out];omega)])
      go_wp2_with (at_builtin;refine wpl_app2 Tryz.elI encI_ok rfl _ _ rfl w.heap.size (.slice oa out.length oc) (.slice (some ⟨w4.heap.size,0,none⟩) 1 1) out [(m:Int)] rfl rfl (HOx.out.1.ext ((Mods.refl _ _).alloc _)) (Sl.one (F:=λ_=>False) (x:=(m:Int)) (t := 3) (fz:=(0,0)) (heap_at rfl) (λf=>f)) (by simp only[List.length_cons,List.length_nil];omega) (Nat.le_trans HOx.out.2.size (by simp)) (λf=>f) ?_;simp only[List.length_cons,List.length_nil,Nat.zero_add];intro a6 c6 w6 hO6 hm6 hat6);have HX6:Hid (Ext w w6):=oh (Mods.past (HOx.out.2.alloc _) (hm6.mono (λk hk=>(HOx.out.1.lt k hk).1)));have HO6:Hid (Own NoF w6 w.heap.size 3 1 encI (.slice a6 (out++[(m:Int)]).length c6) (out++[(m:Int)])):=oh (by rw[List.length_append,List.length_singleton];exact hO6);have hlen:(out++[(m:Int)]).length=out.length+1:=by rw[List.length_append,List.length_singleton]
      have HLEN:=oh hlen;clear hO6 hm6 hat6 hlen;go_wp2_with fail;go_roundg (l.length-(k+m))
      case measure=>omega
      case rel=>exact⟨out++[(m:Int)],a6,c6,k+m,by omega,by rw[HLEN.out],by go_num,by rw[HLEN.out];omega,oh ⟨HO6.out,HX6.out,HEQ.out⟩⟩
    ·have HRU:Hid (runW (z-24) (2+addW (((wtsP l).drop k).take 1)) ((wtsP l).drop (k+1))+1=m):=oh (by rw[HM.out.1,List.drop_eq_nil_of_le (by rw[HWL.out];omega:(wtsP l).length≤k+m)];rfl);have HOx:Hid (Own NoF wr w.heap.size 3 1 encI (.slice oa out.length oc) out∧Ext w wr):=oh ⟨HR0.out.1.ext HM.out.2,HR0.out.2.1.trans HM.out.2⟩;have HEQ:Hid ((out++[(m:Int)])++(lensW (z-24) (l.length-(k+m)) ((wtsP l).drop (k+m))).map (λn:Nat=>(n:Int))=(lensW (z-24) l.length (wtsP l)).map (λn:Nat=>(n:Int))):=oh (by
      rw[← HR0.out.2.2,show l.length-k=(l.length-k-1)+1 by omega,lensW_step (z:=z-24) (m:=m) (by rw[HWL.out];exact hlt) (HRU.out),List.map_cons,List.append_assoc,List.singleton_append];rw[lensW_fuel (z-24) (l.length-k-1) (l.length-(k+m)) _ (by rw[List.length_drop,HWL.out];omega) (by rw[List.length_drop,HWL.out];omega)])
     go_wp2_with (at_builtin;refine wpl_app2 Tryz.elI encI_ok rfl _ _ rfl w.heap.size (.slice oa out.length oc) (.slice (some ⟨wr.heap.size,0,none⟩) 1 1) out [(m:Int)] rfl rfl (HOx.out.1.ext ((Mods.refl _ _).alloc _)) (Sl.one (F:=λ_=>False) (x:=(m:Int)) (t := 3) (fz:=(0,0)) (heap_at rfl) (λf=>f)) (by simp only[List.length_cons,List.length_nil];omega) (Nat.le_trans HOx.out.2.size (by simp)) (λf=>f) ?_;simp only[List.length_cons,List.length_nil,Nat.zero_add];intro a6 c6 w6 hO6 hm6 hat6);have HX6:Hid (Ext w w6):=oh (Mods.past (HOx.out.2.alloc _) (hm6.mono (λk hk=>(HOx.out.1.lt k hk).1)));have HO6:Hid (Own NoF w6 w.heap.size 3 1 encI (.slice a6 (out++[(m:Int)]).length c6) (out++[(m:Int)])):=oh (by rw[List.length_append,List.length_singleton];exact hO6);have hlen:(out++[(m:Int)]).length=out.length+1:=by rw[List.length_append,List.length_singleton]
     have HLEN:=oh hlen;clear hO6 hm6 hat6 hlen;go_wp2_with fail;go_roundg (l.length-(k+m))
     case measure=>omega
     case rel=>exact⟨out++[(m:Int)],a6,c6,k+m,by omega,by rw[HLEN.out],by go_num,by rw[HLEN.out];omega,oh ⟨HO6.out,HX6.out,HEQ.out⟩⟩
  ·have hk:k=l.length:=by omega
   have HOUT:Hid (out=(lensW (z-24) l.length (wtsP l)).map (λn:Nat=>(n:Int))):=oh (by
    rw[← HR.out.2.2,List.drop_eq_nil_of_le (by rw[HWL.out];omega)];cases l.length-k <;> simp[lensW])
   obtain⟨L,hL⟩:∃L,L=lensW (z-24) l.length (wtsP l):=⟨_,rfl⟩;have HLS:Hid (L.sum=l.length∧∀x∈L,1≤x):=oh (by rw[hL];have:=lensW_sum (z-24) l.length (wtsP l) (by rw[HWL.out];exact Nat.le_refl _);rwa [HWL.out] at this);have HEV:Hid (leavesW (z-24) (wtsP l)=evenW (z-24) (wtsP l) L):=oh (by unfold leavesW;rw[hL,HWL.out]);rw[← hL] at HOUT;have hlo:out.length=L.length:=by rw[HOUT.out,List.length_map]
   clear hL;by_cases h2l:out.length<2
   ·have h2i:(out.length:Int)<2:=by omega
    have HEV2:=oh (HEV.out.trans (evenW_short (z:=z-24) (ws:=wtsP l) (o:=L) (by omega)));clear hlo;go_wp2_with fail;go_ret;exact⟨_,rfl,by rw[HEV2.out,← HOUT.out];exact HR.out.1,HR.out.2.1⟩
   ·obtain⟨r,a,b,hr⟩:=two_ends (l:=L) (by omega);obtain⟨R,hR⟩:∃R,R=r.map (λn:Nat=>(n:Int)):=⟨_,rfl⟩;have HRR:=oh hR;obtain⟨p,hp⟩:∃p,p=R.length:=⟨_,rfl⟩;have HO2:Hid (out=R++[(a:Int),(b:Int)]):=oh (by rw[HOUT.out,hr,hR];simp);clear hR;have hol:out.length=p+2:=by rw[HO2.out,hp];simp
    obtain⟨qb,hqa⟩:=HR.out.1.some' (by intro h;rw[h] at hol;simp at hol);subst hqa;have cb:wr.cell? ⟨qb,p+1,none⟩=some (.int .i64 (b:Int)):=HR.out.1.cellI (by rw[HO2.out,hp];simp);have ca:wr.cell? ⟨qb,p,none⟩=some (.int .i64 (a:Int)):=HR.out.1.cellI (by rw[HO2.out,hp];simp);have hsum:a+b≤l.length∧1≤a∧1≤b:=by
     have h5:=HLS.out;rw[hr] at h5;have h6:=h5.2 a (by simp);have h7:=h5.2 b (by simp);have h8:=h5.1;simp only[List.sum_append,List.sum_cons,List.sum_nil] at h8;omega
    obtain⟨hab,ha1,hb1⟩:=hsum;have hev:=evenW_two (z-24) (wtsP l) r a b;rw[← hr,HWL.out] at hev;have HEV2:=oh (HEV.out.trans hev);have HP:=oh hp;clear hr hlo hp h2l hev;rw[hol];rw[hol] at HR;have pb:(p:Int)≤1000:=by omega
    have t1:((p:Int)+2-1).toNat=p+1:=by omega
    have e1:(0:Int)≤(p:Int)+2-1:=by omega
    have e2:(p:Int)+2-1<(p:Int)+2:=by omega
    have e3:(0:Int)≤(l.length:Int)-(b:Int):=by omega
    have e4:(l.length:Int)-(b:Int)≤(l.length:Int):=by omega
    have t2:((l.length:Int)-(b:Int)).toNat=l.length-b:=by omega
    have t3:¬ (p:Int)+2<2:=by omega
    clear hol;go_wp2_with fail;refine (HD.out _ (l.length-b) HR.out.2.1 (by omega)).mono ?_;rintro e w4 ⟨rfl,hm4⟩;have HX4:Hid (Ext w w4):=oh (HR.out.2.1.trans hm4);have HO4:=oh (HR.out.1.ext hm4);have cb4:=cellE hm4 cb;have ca4:=cellE hm4 ca;obtain⟨B,hB⟩:∃B,B=addW ((wtsP l).drop (l.length-b)):=⟨_,rfl⟩;rw[← hB];have hbb:0≤B∧B≤30000000:=by rw[hB];have:=HB.out (l.length-b) (l.length-(l.length-b));rwa [List.take_of_length_le (by rw[List.length_drop,HWL.out];exact Nat.le_refl _)] at this
    obtain⟨bb1,bb2⟩:=hbb;rw[← hB] at HEV2;clear hm4 hB cb ca;by_cases h3:z-24≤3 * (2+B)
    ·have HE3:=oh (HEV2.out.trans (if_pos h3));go_wp2_with fail;go_ret;exact⟨_,rfl,by rw[HE3.out,← HOUT.out];exact HO4.out,HX4.out⟩
    ·have HE3:=oh (HEV2.out.trans (if_neg h3));clear HEV2;have t4:((p:Int)+2-2).toNat=p:=by omega
     have e5:(0:Int)≤(p:Int)+2-2:=by omega
     have e6:(p:Int)+2-2<(p:Int)+2:=by omega
     have t5:((l.length:Int)-(b:Int)-(a:Int)).toNat=l.length-b-a:=by omega
     have e7:(0:Int)≤(l.length:Int)-(b:Int)-(a:Int):=by omega
     have e8:(l.length:Int)-(b:Int)-(a:Int)≤(l.length:Int):=by omega
     go_wp2_with fail;go_quiet (skip)
     go_wp2_with fail;have hpo:p+2≤oc:=by obtain⟨a',c',he,hc1,_⟩:=HO4.out.form;injection he with _ h6 h7;rw[← h6,← h7] at hc1;exact hc1
     obtain⟨q,hq⟩:∃q,q=l.length-b-a:=⟨_,rfl⟩;have HQ:Hid (∀W,Ext w W→Sl F W 2 encP (.slice (la.map (·.add (q * 2))) (l.length-q) (lc-q)) (l.drop q)):=oh (λW m=>by
      have h5:=(HL.out.ext m).tail_ q (by omega);rwa [if_neg (by omega)] at h5)
     have HSH:Hid (ShortP (l.drop q)):=oh ⟨by rw[List.length_drop];have:=HS.out.1;omega,λx hx=>HS.out.2 x (List.mem_of_mem_drop hx)⟩;have HWD:Hid (wtsP (l.drop q)=(wtsP l).drop q):=oh (by unfold wtsP;rw[List.map_drop]);refine (HD.out _ (l.length-b-a) (HX4.out.drewN nq) (by omega)).mono ?_;rintro e w5 ⟨rfl,hm5⟩;have HM5:Hid (Ext w4 w5):=oh (((Mods.refl _ w4).drewN nq).trans hm5);have HX5:Hid (Ext w w5):=oh (HX4.out.trans HM5.out);rw[← hq] at HE3 ⊢;have hqn:l.length-q≤l.length∧2≤l.length-q:=by omega
     obtain⟨C,hC⟩:∃C,C=addW ((wtsP l).drop q):=⟨_,rfl⟩;rw[← hC] at HE3 ⊢;have hcc:0≤C∧C≤30000000:=by rw[hC];have:=HB.out q (l.length-q);rwa [List.take_of_length_le (by rw[List.length_drop,HWL.out];exact Nat.le_refl _)] at this
     obtain⟨cc1,cc2⟩:=hcc;obtain⟨q1,q2⟩:=hqn;have hdl:((wtsP l).drop q).length=l.length-q:=by rw[List.length_drop,HWL.out]
     rw[hdl] at HE3;have hp:=HP.out;subst hp;have HOT:Hid (Own NoF w5 w.heap.size 3 1 encI (.slice (some ⟨qb,0,none⟩) R.length oc) R):=oh (by
      have h5:=(HO4.out.ext HM5.out).take encI_ok.len R.length (by rw[HO2.out,List.length_append];omega);rwa [HO2.out,List.take_left] at h5)
     have e9:(R.length:Int)+2-2≤(oc:Int):=by omega
     have hRl:R.length≤1000:=by omega
     clear hm5 hq hC hdl;by_cases h4:2+C≤z-24
     ·have HE4:=oh (HE3.out.trans (if_pos h4));clear HE3;go_wp2_with (at_builtin;refine wpl_app2 Tryz.elI encI_ok rfl _ _ rfl w.heap.size (.slice (some ⟨qb,0,none⟩) R.length oc) (.slice (some ⟨w5.heap.size,0,none⟩) 1 1) R [((l.length-q:Nat):Int)] rfl rfl (HOT.out.ext ((Mods.refl _ _).alloc _)) (Sl.one (F:=λ_=>False) (x:=((l.length-q:Nat):Int)) (t := 3) (fz:=(0,0)) (heap_at rfl) (λf=>f)) (by simp only[List.length_cons,List.length_nil];omega) (Nat.le_trans HX5.out.size (by simp)) (λf=>f) ?_;simp only[List.length_cons,List.length_nil,Nat.zero_add];intro a6 c6 w6 hO6 hm6 hat6);go_ret;exact⟨_,rfl,by rw[HE4.out,List.map_append,← HRR.out];exact hO6,Mods.past (HX5.out.alloc _) (hm6.mono (λk hk=>(HOT.out.lt k hk).1))⟩
     ·have HE4:=oh (HE3.out.trans (if_neg h4));clear HE3;have HCT:Hid (∀W,Ext w W → Calls Tryz.prog 51 #[.slice (la.map (·.add (q * 2))) (l.length-q) (lc-q)] W λe w'=>e=.returned (.int .i64 (cutW ((wtsP l).drop q):Int))∧Ext W w'):=oh (λW m=>by rw[← HWD.out];exact cut15_any (l.drop q) _ (HQ.out W m) HSH.out);obtain⟨D,hDD⟩:∃D,D=cutW ((wtsP l).drop q):=⟨_,rfl⟩;have hdb:D≤l.length-q:=by
       rw[hDD];unfold cutW;have hl5:((wtsP l).drop q).length=l.length-q:=by rw[List.length_drop,HWL.out]
       have:=firstMin_in (unlikeW ((wtsP l).drop q)) (((wtsP l).drop q).length-1) 1 1 1 (l.length-q) (by omega) (by omega) (by omega) (by omega);omega
      rw[← hDD] at HCT HE4;clear hDD;have hds:((l.length-q:Nat):Int)-(D:Int)=((l.length-q-D:Nat):Int):=by omega
      have HDS:=oh hds;clear hds;go_wp2_with fail;go_cut [4] (λv4 wx=>∃a6 c6,v4=.slice a6 (R.length+2) c6∧Hid (Own NoF wx w.heap.size 3 1 encI (.slice a6 (R.length+2) c6) (R++[(D:Int),((l.length-q-D:Nat):Int)])∧Ext w wx))
      case first =>
       have w9:IntKind.i64.wrap (R.length:Int)=(R.length:Int):=IntWalk.i64_in _ (by omega);have e10:(R.length:Int)≤(oc:Int):=by omega
       have e11:(0:Int)≤(R.length:Int):=by omega
       have w10:IntKind.i64.wrap (((l.length-q:Nat):Int)-(D:Int))=((l.length-q:Nat):Int)-(D:Int):=IntWalk.i64_in _ (by omega);refine wp_region_held_drew (S:=(λ_=>True)) (by kernel_rfl) trivial (λhHeld=>?_);obtain⟨Wd,hWd⟩:∃W,W=w5.drew:=⟨_,rfl⟩;rw[← hWd];have xWd:Ext w5 Wd:=by rw[hWd];exact (Mods.refl _ _).drew
       clear hWd;refine wpAnyH_take (i:=0) (oi:=⟨some 94,_,_,_,_,_⟩) (v:=?_) rfl (by kernel_rfl) (by kernel_rfl) (by kernel_rfl) (λ_ _ _ h=>h) (Or.inl ⟨by rfl,?_⟩) (by assumption) ?_;rotate_left
       ·intro w hSw;(try dsimp only at hSw);go_simp;(try (with_reducible rfl))
       rotate_left;try go_frame
       refine wpAnyH_take (i:=1) (oi:=⟨some 95,_,_,_,_,_⟩) (v:=?_) rfl (by kernel_rfl) (by kernel_rfl) (by kernel_rfl) (λ_ _ _ h=>h) (Or.inl ⟨by rfl,?_⟩) (by assumption) ?_;rotate_left
       ·intro w hSw;(try dsimp only at hSw);go_simp;(try (with_reducible rfl))
       rotate_left;try go_frame
       refine wpAnyH_take (i:=2) (oi:=⟨some 96,_,_,_,_,_⟩) (v:=?_) rfl (by kernel_rfl) (by kernel_rfl) (by kernel_rfl) (λ_ _ _ h=>h) (Or.inl ⟨by rfl,?_⟩) (by assumption) ?_;rotate_left
       ·intro w hSw;(try dsimp only at hSw);go_simp;(try (with_reducible rfl))
       rotate_left;try go_frame
       refine wpAnyH_take (i:=3) (oi:=⟨some 97,_,_,_,_,_⟩) (v:=?_) rfl (by kernel_rfl) (by kernel_rfl) (by kernel_rfl) (λ_ _ _ h=>h) (Or.inl ⟨by rfl,?_⟩) (by assumption) ?_;rotate_left
       ·intro w hSw;(try dsimp only at hSw);go_simp;(try (with_reducible rfl))
       rotate_left;try go_frame
       refine wpAnyH_take (i:=4) (oi:=⟨some 98,_,_,_,_,_⟩) (v:=?_) rfl (by kernel_rfl) (by kernel_rfl) (by kernel_rfl) (λ_ _ _ h=>h) (Or.inl ⟨by rfl,?_⟩) (by assumption) ?_;rotate_left
       ·intro w hSw;(try dsimp only at hSw);go_simp;(try (with_reducible rfl))
       rotate_left;try go_frame
       refine wpAnyH_take (i:=6) (oi:=⟨some 100,_,_,_,_,_⟩) (v:=?_) rfl (by kernel_rfl) (by kernel_rfl) (by kernel_rfl) (λ_ _ _ h=>h) (Or.inl ⟨by rfl,?_⟩) (by assumption) ?_;rotate_left
       ·intro w hSw;(try dsimp only at hSw);go_simp;(try (with_reducible rfl))
       rotate_left;try go_frame
       refine wpAnyH_take (i:=7) (oi:=⟨some 101,_,_,_,_,_⟩) (v:=?_) rfl (by kernel_rfl) (by kernel_rfl) (by kernel_rfl) (λ_ _ _ h=>h) (Or.inl ⟨by rfl,?_⟩) (by assumption) ?_;rotate_left
       ·intro w hSw;(try dsimp only at hSw);go_simp;(try (with_reducible rfl))
       rotate_left;try go_frame
       refine wpAnyH_take (i:=8) (oi:=⟨some 102,_,_,_,_,_⟩) (v:=?_) rfl (by kernel_rfl) (by kernel_rfl) (by kernel_rfl) (λ_ _ _ h=>h) (Or.inl ⟨by rfl,?_⟩) (by assumption) ?_;rotate_left
       ·intro w hSw;(try dsimp only at hSw);go_simp;(try (with_reducible rfl))
       rotate_left;try go_frame
       refine wpAnyH_ready (rs:=[5]) (by kernel_rfl) (by simp) ?_;refine AllReadyH.cons (o:=⟨some 99,_,_,_,_,_⟩) rfl (λK hK=>?_) AllReadyH.nil;go_simp;go_at_call 51;(with_reducible refine (HCT.out _ (HX5.out.trans xWd)).mono ?_);rintro e W1 ⟨rfl,mW1⟩;have xW1:=xWd.trans mW1;refine hK.out _ _ trivial (λhHeld=>?_);clear hK;try go_frame
       refine wpAnyH_ready (rs:=[9]) (by kernel_rfl) (by simp) ?_;refine AllReadyH.cons (o:=⟨some 103,_,_,_,_,_⟩) rfl (λK hK=>?_) AllReadyH.nil;go_simp;go_at_call 51;(with_reducible refine (HCT.out _ (HX5.out.trans xW1)).mono ?_);rintro e W2 ⟨rfl,mW2⟩;have xW2:=xW1.trans mW2;refine hK.out _ _ trivial (λhHeld=>?_);clear hK;try go_frame
       refine wpAnyH_take (i:=10) (oi:=⟨some 104,_,_,_,_,_⟩) (v:=?_) rfl (by kernel_rfl) (by kernel_rfl) (by kernel_rfl) (λ_ _ _ h=>h) (Or.inl ⟨by rfl,?_⟩) (by assumption) ?_;rotate_left
       ·intro w hSw;(try dsimp only at hSw);go_simp;(try (with_reducible rfl))
       rotate_left;try go_frame
       refine wpAnyH_ready (rs:=[11]) (by kernel_rfl) (by simp) ?_;refine AllReadyH.cons (o:=⟨some 105,_,_,_,_,_⟩) rfl (λK hK=>?_) AllReadyH.nil;go_simp;refine hK.out _ _ trivial (λhHeld=>?_);clear hK;try go_frame
       obtain⟨W3,hW3⟩:∃W,W=W2.alloc (.cells #[.int .i64 (D:Int),.int .i64 (((l.length-q:Nat):Int)-(D:Int))] 3):=⟨_,rfl⟩;rw[← hW3];have xW3:Ext w5 W3:=by rw[hW3];exact xW2.alloc _
       have hL3:Blk W3 W2.heap.size #[.int .i64 (D:Int),.int .i64 ((l.length-q-D:Nat):Int)] 3:=by rw[← HDS.out,hW3];exact Blk.new W2 _ _
       clear hW3;refine wpAnyH_ready (rs:=[12]) (by kernel_rfl) (by simp) ?_;refine AllReadyH.cons (o:=⟨some 106,_,_,_,_,_⟩) rfl (λK hK=>?_) AllReadyH.nil;refine step_app2 Tryz.elI encI_ok (by rfl) _ _ (by rfl) w.heap.size (.slice (some ⟨qb,0,none⟩) R.length oc) (.slice (some ⟨W2.heap.size,0,none⟩) 2 2) R [(D:Int),((l.length-q-D:Nat):Int)] (by rfl) (by rfl) (HOT.out.ext xW3) (Sl.duo (F:=λ_=>False) (x:=(D:Int)) (y:=((l.length-q-D:Nat):Int)) hL3 rfl (λf=>f)) (by simp only[List.length_cons,List.length_nil];omega) (by have:=HX5.out.size;have:=xW3.size;omega) (λf=>f) ?_;simp only[List.length_cons,List.length_nil,Nat.zero_add];intro a6 c6 w6 hO6 hm6 hat6;refine hK.out _ _ trivial (λhHeld=>?_);clear hK;try go_frame
       refine wpAnyH_take (i:=13) (oi:=⟨some 4,_,_,_,_,_⟩) (v:=?_) rfl (by kernel_rfl) (by kernel_rfl) (by kernel_rfl) (λ_ _ _ h=>h) (Or.inl ⟨by rfl,?_⟩) (by assumption) ?_;rotate_left
       ·intro w hSw;(try dsimp only at hSw);go_simp;(try (with_reducible rfl))
       rotate_left;try go_frame
       refine wpAnyH_done (by kernel_rfl) ?_ _;go_wp2_with fail;go_meet;exact⟨a6,c6,rfl,oh ⟨hO6,Mods.past (HX5.out.trans xW3) (hm6.mono (λk hk=>(HOT.out.lt k hk).1))⟩⟩
      case rest =>
       obtain⟨a6,c6,rfl,HFIN⟩:=hcut;go_wp2_with fail;go_ret;exact⟨_,rfl,by rw[HE4.out,List.map_append,← HRR.out];exact HFIN.out.1,HFIN.out.2⟩
end
section
variable {F:Nat→Prop}{w w' wr w2:World}
theorem tame15_any(l:List PairS)(lv:Value)(hl:Sl NoF w 2 encP lv l) :
  Calls Tryz.prog 8 #[lv] w λe w'=>∃v,e=.returned v∧Own NoF w' w.heap.size 25 2 encP v (tameP 200 l)∧Ext w w':=by
 obtain⟨la,lc,rfl,h1,h2,h3,hll⟩:=hl;unfold maxLen at h2;obtain⟨q,hq⟩:∃q,q=min l.length 24:=⟨_,rfl⟩;have hmin:min (l.length:Int) 24=(q:Int):=by omega
 have i1:(0:Int)≤(q:Int):=by omega
 have i2:(q:Int)≤(lc:Int):=by omega
 have HSL:Hid (Sl NoF w 2 encP (.slice la q lc) (l.take 24)):=oh ⟨la,lc,by rw[List.length_take,hq,Nat.min_comm],by rw[List.length_take];omega,by unfold maxLen;omega,by rw[List.length_take];omega,by
  rcases hll with hll|⟨b,off,e,hb,hF,hc⟩
  ·left;rw[hll];rfl
  ·right
   refine⟨b,off,e,hb,hF,λi x hx j u hu=>hc i x ?_ j u hu⟩;rw[List.getElem?_take] at hx;split at hx
   ·exact hx
   ·cases hx⟩
 have HPR:=oh (λW (m:Ext w W)=>pairs_any (w:=W) (l.take 24) (.slice la q lc) (HSL.out.ext m) (by rw[List.length_take];omega));clear hq hll
 go_enter Tryz.func8, Tryz.ntmps8
 go_wp2_with fail;refine (HPR.out _ (by first|exact Mods.refl _ _|exact (Mods.refl _ _).alloc _|fail)).mono ?_;rintro e w1 ⟨v,rfl,hO,hm1⟩;obtain⟨p0,hp0⟩:∃p0,p0=pairsP (l.take 24):=⟨_,rfl⟩;rw[← hp0] at hO;have HP0:=oh hp0;obtain⟨va,vc,rfl,hv1,hv2⟩:=hO.form;unfold maxLen at hv2;have HP24:Hid (p0.length≤24):=oh (by have:=(pairsP_ok (l.take 24)).2.2;rw[← hp0,List.length_take] at this;omega);have hp24:=HP24.out;have HS1:Hid (Own NoF w1 w.heap.size 25 2 encP (.slice va p0.length vc) (cutK 200 0 p0)∧Ext w w1) :=
  oh ⟨by rw[cutK_zero];exact hO.rebase (by simp),by first|exact hm1|exact ((Mods.refl _ w).alloc _).trans hm1⟩
 clear hO hm1 hp0 hmin i1 i2;go_wp2_with fail;go_loopg [3] p0.length (λm v5 wr=>∃(k:Nat),k+m=p0.length∧v5=.int .i64 (k:Int)∧Hid (Own NoF wr w.heap.size 25 2 encP (.slice va p0.length vc) (cutK 200 k p0)∧Ext w wr))
 case atStart=>exact⟨0,by omega,rfl,HS1⟩
 case round =>
  obtain⟨k,hkm,rfl,HS⟩:=hrel;by_cases hlt:k<p0.length
  ·obtain⟨g,c',hgs, -, -,hg3,hg4,hgf⟩:=HS.out.1.some (by intro e;have:=congrArg List.length e;rw[cutK_len,List.length_nil] at this;omega);injection hgs with hgs hgn hgc;subst hgs hgc;clear hgn;obtain⟨x,hx⟩:∃x,p0[k]? = some x:=⟨_,List.getElem?_eq_getElem hlt⟩;have HX:=oh hx;obtain⟨xk,xv⟩:=x;have hsl:=HS.out.1.sl encP_ok.len (by rw[cutK_len];omega);have c1:=hsl.cellsAt (cutK_at (n:=200) hx) 1 _ rfl;simp only[Nat.zero_add] at c1;obtain⟨z,hz⟩:∃z,z=min xv.size 200:=⟨_,rfl⟩;have hmin:min (xv.size:Int) 200=(z:Int):=by omega
   have hz1:(0:Int)≤(z:Int):=by omega
   have hz2:(z:Int)≤(xv.size:Int):=by omega
   have hzf:=hgf (k * 2+1);have hzd:wr.drew.frozen? ⟨g,k * 2+1,none⟩=false:=hzf;have HZ:Hid (cutS 200 xv=xv.extract 0 z):=oh (by unfold cutS;rw[hz]);have HS4:Hid (Own NoF (wr.drew.setCell ⟨g,k * 2+1,none⟩ (.string (xv.extract 0 z))) w.heap.size 25 2 encP (.slice (some ⟨g,0,none⟩) p0.length vc) (cutK 200 (k+1) p0)∧Ext w (wr.drew.setCell ⟨g,k * 2+1,none⟩ (.string (xv.extract 0 z)))):=oh (by
    obtain⟨k1,k4⟩:=HS.out;refine⟨?_,k4.drew.setCell (.inl (by show w.heap.size≤g;have:=k1.lt g rfl;omega)) _⟩;rw[← cutK_set HX.out,HZ.out];exact (k1.ext (Mods.refl _ wr).drew).set encP_ok.len (cutK_at (n:=200) HX.out) (j:=1) (by omega) rfl)
   have i1:(0:Int)≤(k:Int):=by omega
   have i2:(k:Int)<(p0.length:Int):=by omega
   clear hsl hx hz hgf;go_wp2_with fail;go_region_law (fail)
   all_goals
    go_wp2_with fail;go_roundg (gk-1)
    case measure=>omega
    case rel=>exact⟨k+1,by omega,by go_num,HS4⟩
  ·have hk:k=p0.length:=by omega
   subst hk;have HCT:Hid (cutK 200 p0.length p0=tameP 200 l):=oh (by rw[cutK_all,HP0.out];rfl);go_wp2_with fail;go_ret;exact⟨_,rfl,by rw[← HCT.out];exact HS.out.1,HS.out.2⟩
end
theorem keys11_any{F:Nat→Prop}{w:World}(q:List PairS)(qv:Value)(hq:Sl F w 2 encP qv q)(hlen:q.length≤100000) :
  Calls Tryz.prog 20 #[qv] w λe w'=>∃kv,e=.returned kv∧Own (λ_=>False) w' w.heap.size 9 1 encS kv (q.map (·.1))∧Ext w w':=by
 have HQ:=oh hq;obtain⟨qa,qc,rfl,b1,b2,b3, -⟩:=hq;unfold maxLen at b2;have HO0:Hid (Own (λ_=>False) (w.alloc (.cells #[] 9)) w.heap.size 9 1 encS (.slice (some ⟨w.heap.size,0,none⟩) 0 0) (([]:List PairS).map (·.1))):=oh (Own.empty (λk f=>f.elim) _ _ _ encS_ok.len);have HM0:Hid (Ext w (w.alloc (.cells #[] 9))):=oh ((Mods.refl _ w).alloc _)
 go_enter Tryz.func20, Tryz.ntmps20
 go_wp2_with fail;go_loopg [3,4] q.length (λm v3 v4 wr=>∃(k:Nat) (kv:Value),k+m=q.length∧kv=v3∧v4=.int .i64 (k:Int)∧Hid (Own (λ_=>False) wr w.heap.size 9 1 encS kv ((q.take k).map (·.1))∧Ext w wr))
 case atStart=>exact⟨0,_,by omega,rfl,rfl,oh ⟨HO0.out,HM0.out⟩⟩
 case round =>
  obtain⟨k,v3,hk,rfl,rfl,HR⟩:=hrel;by_cases hlt:k<q.length
  ·obtain⟨x,hx⟩:∃x,x=q[k]:=⟨_,rfl⟩;obtain⟨pa,pc,hv, -, -⟩:=_root_.id HR.out.1.form;have hl:((q.take k).map (·.1)).length=k:=by rw[List.length_map,List.length_take];omega
   rw[hl] at hv;obtain⟨qb,qoff,hqa,hc⟩:=HQ.out.elem hlt HR.out.2;have d0:=hc 0 (.string x.1) (by rw[hx];rfl);simp only[Nat.add_zero] at d0;have HX:Hid ((q.take (k+1)).map (·.1)=(q.take k).map (·.1)++[x.1]):=oh (by rw[take_one _ _ _ (List.getElem?_eq_getElem hlt),List.map_append,hx];rfl);have HLN:=oh hl;have HOW:=oh (HR.out.1.ext ((Mods.refl _ wr).alloc (.cells #[.string x.1] 9)));have HSZ:=oh HR.out.2.size;subst hv;have i1:(0:Int)≤(k:Int):=by omega
   have i2:(k:Int)<(q.length:Int):=by omega
   subst hqa;clear hc hx hl;go_wp2_with (first
    | (at_builtin;refine wpl_app2 Tryz.elS encS_ok rfl _ _ rfl w.heap.size (.slice pa k pc) (.slice (some ⟨wr.heap.size,0,none⟩) 1 1) ((q.take k).map (·.1)) [x.1] rfl rfl HOW.out (Sl.one (F:=λ_=>False) (x:=x.1) (t := 9) (fz:=(0,0)) (heap_at rfl) (λf=>f)) (by rw[HLN.out];simp only[List.length_cons,List.length_nil];omega) (Nat.le_trans HSZ.out (by simp)) (λf=>f) ?_;intro a' c' w4 hown4 hmod4 hat4;rw[HLN.out] at hown4 ⊢;simp only[List.length_cons,List.length_nil,Nat.zero_add] at hown4 ⊢;have HO4:=oh hown4;have HM4:=oh hmod4;have HA4:=oh HR.out.1.lt;clear hown4 hmod4 hat4)
    | fail)
   go_roundg (gk-1)
   case measure=>omega
   case rel =>
    refine⟨k+1,_,by omega,rfl,by go_num,oh ⟨by rw[HX.out];exact HO4.out,(HR.out.2.alloc (.cells #[.string x.1] 9)).trans' HM4.out (λi hi hg=>?_)⟩⟩;have:=(HA4.out i hg).1;omega
  ·have hkq:k=q.length:=by omega
   have HF:Hid (Own (λ_=>False) wr w.heap.size 9 1 encS v3 (q.map (·.1))):=oh (by have:=HR.out.1;rw[hkq,List.take_length] at this;exact this);have HM:=oh HR.out.2;clear hkq;go_wp2_with fail;go_ret;exact⟨_,rfl,HF.out,HM.out⟩
end Go.Proofs.YtchklfmggpconaaGreatDoor
