import Derived.Test.YtchklfmggpconaaGreatDoorK39
namespace Go.Proofs.YtchklfmggpconaaGreatDoor
open Lib renaming hid->oh
section
open Go.RowKit
attribute [local go_sem ↓] Go.wp_at_zero Go.wp_at_succ
structure zNF(G:GA)(l:List Nat)(gen old:Nat)(n:zF)(key v:ByteArray):Prop where
 leaf:n.leaf=true
 nk:n.keys=[]/\n.kids=[]
 few:n.entries.length<=100000
 erase:∀e,n.entries[vY key n.entries]? = some e->zAt key n.entries=true->e.chain≠0->zAj G e.size.toNat e.chain e.size/\jY G e.chain e.size=none/\(yY G e.size.toNat e.chain e.size).1.map (·.1)=(qX G n key).map (λk:Nat=>(k:Int))/\zBM l (qX G n key)/\0<=e.chain/\e.chain<256/\25<=e.size/\e.size<=4096
 fr:FrG G l (qM G (qX G n key)) (qU l (qX G n key))
 low:zGK l
 len:l.length=G.blocks
 cost:G.cost+200<=1000000
 v4096:v.size<=4096
 ent:∀G1 l1 e,jF (qM G (qX G n key)) (qU l (qX G n key)) gen key v=.inl (G1,l1,e)->zH0 G1 l1 old (zEt n key e)/\FrG G l G1 l1/\G1.cost<=G.cost+20
def zF2(key:ByteArray)(n:zF):Nat:=if zAt key n.entries=true then 1 else 0
def zRk(F P:Nat->Prop)(ad:Nat->Addr)(w:World)(c s gen:Nat)(nd:Array Value)(ev:Value)(es:List zI)(G:GA)(l:List Nat)(wx:World):Prop :=
 ∃P' F',yS F' wx P' c s G l/\zR P P' F F' ad w wx/\jN F' P' w wx w.heap.size (gP c s gen) 31 /\ jN F' P' w wx (w.heap.size+1) nd 118 /\ jN F' P' w wx (w.heap.size+1+1) zAD 113 /\ Sl F' wx 4 vA ev es/\(∀k,F' k->k<wx.heap.size)
section
variable {P P' F F':Nat->Prop}{ad:Nat->Addr}{w w':World}{c s:Nat}{G:GA}{l:List Nat}
theorem Sl.void{α:Type}{F G:Nat->Prop}{w w':World}{sz:Nat}{enc:α->List Value}{v:Value}{l:List α}(h:Sl F w sz enc v l)(hl:l=[]):Sl G w' sz enc v l:=by
 obtain⟨a,cap,e,h1,h2,h3,_⟩:=h;exact⟨a,cap,e,h1,h2,h3,.inl hl⟩
theorem zQT{α:Type}{sz:Nat}{enc:α->List Value}{ea:Option Addr}{n ec:Nat}{es:List α}(h:Sl F w sz enc (.slice ea n ec) es){i:Nat}{x:α}(hx:es[i]? = some x):∃b off,ea=some ⟨b,off,none⟩/\b<w.heap.size/\∀j u,(enc x)[j]? = some u->w.cell? ⟨b,off+i * sz+j,none⟩=some u:=by
 obtain⟨a,cap,e,_,_,_,h4⟩:=h;injection e with e1 e2 e3;subst e1;rcases h4 with h4|⟨b,off,ha,hb,_,hc⟩
 .rw[h4] at hx;simp at hx
 .exact⟨b,off,ha,hb,λj u hu=>hc i x hx j u hu⟩
set_option maxRecDepth 100000 in
set_option maxHeartbeats 4000000 in
theorem zGs(n:zF)(key v:ByteArray)(hL:yW F ad w)(hP:∀k,P k->F k)(h:yS F w P c s G l)(gen old:Nat)(hgen:gen<18446744073709551616)(ve vk vi:Value)(hve:Sl F w 4 vA ve n.entries)(hvk:Sl F w 1 qK vk n.keys)(hvi:Sl F w 1 yB vi n.kids)(hok:zNF G l gen old n key v) :
  Calls Tryz.prog 53 #[qR c s gen,.int .i64 (old:Int),.agg #[.bool true,ve,vk,vi],.string key,.string v] w (zMs F P ad w c s G l (zCk G l gen old n key v)):=by
 obtain⟨w1,hw1⟩:∃w1,w1=((w.alloc (gP c s gen)).alloc (.cells #[.bool true,ve,vk,vi] 118)).alloc (.cells zAD 113):=⟨_,rfl⟩;have m0:zJ w w1:=by rw[hw1];exact (((zA.refl _ w).alloc _).alloc _).alloc _
 have hz:w1.heap.size=w.heap.size+3:=by rw[hw1];simp
 have hN:zR P P F (λk=>F k\/(w.heap.size<=k/\k<w1.heap.size)) ad w w1:=zR.new hL hP (Q:=λk=>w.heap.size<=k/\k<w1.heap.size) m0 (λk hk=>hk.1) (λk hk=>hk.2);have HB:=oh (show jN (λk=>F k\/(w.heap.size<=k/\k<w1.heap.size)) P w w1 w.heap.size (gP c s gen) 31 from ⟨by rw[hw1];exact ((zL.new w _ _).alloc _).alloc _,.inr ⟨by omega,by omega⟩,λhp=>by have:=h.bd _ hp;omega,by omega⟩);have HD:=oh (show jN (λk=>F k\/(w.heap.size<=k/\k<w1.heap.size)) P w w1 (w.heap.size+1) #[.bool true,ve,vk,vi] 118 from ⟨by rw[hw1];exact (show zL ((w.alloc _).alloc (.cells #[.bool true,ve,vk,vi] 118)) (w.heap.size+1) #[.bool true,ve,vk,vi] 118 from zK (by simp)).alloc _,.inr ⟨by omega,by omega⟩,λhp=>by have:=h.bd _ hp;omega,by omega⟩);have HR:=oh (show jN (λk=>F k\/(w.heap.size<=k/\k<w1.heap.size)) P w w1 (w.heap.size+1+1) zAD 113 from ⟨by rw[hw1];exact zK (by simp),.inr ⟨by omega,by omega⟩,λhp=>by have:=h.bd _ hp;omega,by omega⟩);have HG:=oh (h.plusNew hP (Q:=λk=>w.heap.size<=k/\k<w1.heap.size) m0 (λk hk=>hk.1));have HVE:=oh (hN.sl hP hve);have HVK:=oh (hN.sl hP hvk);have HVI:=oh (hN.sl hP hvi);have HN:=oh hN;have HOK:=oh hok;have HLF:=oh hok.leaf;obtain⟨ea,ec,rfl,he1, -, -, -⟩:=hve;obtain⟨ka,kc,rfl, -, -, -, -⟩:=hvk;obtain⟨ia,ic,rfl, -, -, -, -⟩:=hvi;obtain⟨at_,hat⟩:∃at_,at_=vY key n.entries:=⟨_,rfl⟩
 obtain⟨is_,his⟩:∃is_,is_=zAt key n.entries:=⟨_,rfl⟩;have hal:at_<=n.entries.length:=by rw[hat];exact zQM _ _
 have HAT:=oh hat;have HIS:=oh his;have b0:=HB.out.blk.cell (o:=0) rfl;have b1:=HB.out.blk.cell (o:=1) rfl;have b2:=HB.out.blk.cell (o:=2) rfl;have n0:=HD.out.blk.cell (o:=0) rfl;have n1:=HD.out.blk.cell (o:=1) rfl;have n2:=HD.out.blk.cell (o:=2) rfl;have n3:=HD.out.blk.cell (o:=3) rfl;have HW1:=oh hw1;have HFD:=zDc n key _ _ (.slice ia n.kids.length ic) HVE.out HVK.out;rw[hok.leaf,zE9 hok.leaf key,<- his,<- hat] at HFD;have HFD:=oh HFD;have HFEW:=oh hok.few;clear hL hP h m0 hN hok hw1 hat his;unfold qR
 go_enter Tryz.func53, Tryz.ntmps53
 go_wp2_with fail;rw[<- HW1.out];refine HFD.out.mono ?_;rintro e w2 ⟨rfl,hm2⟩;have HX2:=oh hm2;have HB2:=oh (HB.out.ext hm2);have HD2:=oh (HD.out.ext hm2);have HR2:=oh (HR.out.ext hm2);have HG2:=oh (HG.out.at hm2);have HN2:=oh (HN.out.trans (zR.ext HN.out.env HN.out.sub hm2));have HVE2:=oh (HVE.out.ext hm2);have b0:=zC hm2 b0;have b1:=zC hm2 b1;have b2:=zC hm2 b2;have n1:=zC hm2 n1;clear hm2 n0 n2 n3;go_upto_if 26 with fail
 go_cut [14] (λv14 wx=>v14=.int .i64 ((zF2 key n:Nat):Int)/\Hid (zRk F P ad w c s gen #[.bool true,.slice ea n.entries.length ec,.slice ka n.keys.length kc,.slice ia n.kids.length ic] (.slice ea n.entries.length ec) n.entries (qM G (qX G n key)) (qU l (qX G n key)) wx))
 case first =>
  have HST:Hid (∀W,zJ w2 W->qX G n key=[]->zRk F P ad w c s gen #[.bool true,.slice ea n.entries.length ec,.slice ka n.keys.length kc,.slice ia n.kids.length ic] (.slice ea n.entries.length ec) n.entries (qM G (qX G n key)) (qU l (qX G n key)) W):=oh (λW m h0=>by
   rw[h0];have hNW:=HN2.out.trans (zR.ext HN2.out.env HN2.out.sub m);exact⟨P,_,HG2.out.at m,hNW,HB2.out.ext m,HD2.out.ext m,HR2.out.ext m,HVE2.out.ext m,hNW.env.lt⟩)
  cases is_ with
  | false =>
   have HMA:Hid ((zF2 key n:Nat)=0):=oh (by unfold zF2;rw[<- HIS.out];rfl);have HO0:Hid (qX G n key=[]):=oh (by
    unfold qX;rw[<- HIS.out];split
    .rfl
    .simp)
   go_wp2_with fail;go_meet;exact⟨by rw[HMA.out];rfl,oh (HST.out _ (zA.refl _ _) HO0.out)⟩
  | true =>
   have HMA:Hid ((zF2 key n:Nat)=1):=oh (by unfold zF2;rw[<- HIS.out];rfl);have HIT:Hid (zAt key n.entries=true):=oh HIS.out.symm;obtain⟨x,hx⟩:∃x,n.entries[at_]? = some x:=by
    have h1:=HIT.out;unfold zAt at h1;rw[<- HAT.out] at h1;cases hq:n.entries[at_]? with
    | none=>rw[hq] at h1;cases h1
    | some x=>exact⟨x,rfl⟩
   have hlt:=(uB.1 hx).1;have i1:(0:Int)<=(at_:Int):=by omega
   have i2:(at_:Int)<(n.entries.length:Int):=by omega
   obtain⟨bb,off,rfl,hbb,hc⟩:=zQT HVE2.out hx;have c0:w2.cell? ⟨bb,off+at_ * 4,none⟩=some (.string x.key):=hc 0 _ rfl;have c1:w2.cell? ⟨bb,off+at_ * 4+1,none⟩=some (.string x.value):=hc 1 _ rfl;have c2:w2.cell? ⟨bb,off+at_ * 4+2,none⟩=some (.int .i64 x.chain):=hc 2 _ rfl;have c3:w2.cell? ⟨bb,off+at_ * 4+3,none⟩=some (.int .i64 x.size):=hc 3 _ rfl;have HX:=oh hx;clear hc hx;by_cases hch:x.chain=0
   .have HO0:Hid (qX G n key=[]):=oh (by
     unfold qX;rw[<- HAT.out,HX.out];simp[hch])
    go_wp2_with fail;go_meet;exact⟨by rw[HMA.out];rfl,oh (HST.out _ ((zA.refl _ _).alloc _) HO0.out)⟩
   .have HER:=HOK.out.erase x (by rw[<- HAT.out];exact HX.out) HIT.out hch;have mA:zJ w2 (w2.alloc (.cells (zC6 x) 141)):=(zA.refl _ _).alloc _;have hNA:=HN2.out.trans (zR.ext HN2.out.env HN2.out.sub mA);have HEC:=oh (zKm hNA.env hNA.sub (HG2.out.at mA) gen x.chain x.size (by omega) (λ_ _=>HER.1) (qX G n key) (λ_=>⟨HER.2.2.1,HER.2.2.2.1⟩));have HCE:=oh HER.2.1;have HNA:=oh hNA;have HMA2:=oh mA;unfold qR at HEC;have b0c:=zH b0 (.cells (zC6 x) 141);have b1c:=zH b1 (.cells (zC6 x) 141);have b2c:=zH b2 (.cells (zC6 x) 141);clear HER mA hNA;go_wp2_with fail;refine HEC.out.mono ?_;rintro e w3 ⟨P3,F3,G3,l3,hG3,hN3,⟨_,rfl,rfl,rfl⟩|⟨er,f,he,_⟩⟩
    .have HS3:Hid (zRk F P ad w c s gen #[.bool true,.slice (some ⟨bb,off,none⟩) n.entries.length ec,.slice ka n.keys.length kc,.slice ia n.kids.length ic] (.slice (some ⟨bb,off,none⟩) n.entries.length ec) n.entries (qM G (qX G n key)) (qU l (qX G n key)) w3):=oh (by
      exact⟨P3,F3,hG3,HNA.out.trans hN3,(HB2.out.ext HMA2.out).nxt hN3,(HD2.out.ext HMA2.out).nxt hN3,(HR2.out.ext HMA2.out).nxt hN3,hN3.sl HNA.out.sub (HVE2.out.ext HMA2.out),hN3.env.lt⟩)
     clear hG3 hN3;go_wp2_with fail;go_meet;exact⟨by rw[HMA.out];rfl,HS3⟩
    .rw[HCE.out] at he;cases he
 obtain⟨rfl,HLS⟩:=hcut;obtain⟨P3,F3,hG3,hN3,hB3,hD3,hR3,hE3,hlt3⟩:=HLS.out;obtain⟨w3,hw3⟩:∃w3,w3=wc:=⟨_,rfl⟩;rw[<- hw3] at hG3 hN3 hB3 hD3 hR3 hE3 hlt3 ⊢;have b0:=hB3.blk.cell (o:=0) rfl;have b1:=hB3.blk.cell (o:=1) rfl;have b2:=hB3.blk.cell (o:=2) rfl;have HLW:=oh (HOK.out.fr.lowL HOK.out.low);have HENT:=zO1 hN3.env hN3.sub hG3 gen hgen key v HOK.out.v4096 HLW.out (by rw[HOK.out.fr.len,HOK.out.fr.bl];exact HOK.out.len) (by have:=(zBw (qX G n key) G).2.2.1;have:=HOK.out.cost;omega);unfold qR at HENT;have HENT:=oh HENT;have HG3:=oh hG3;have HN3:=oh hN3;have HB3:=oh hB3;have HD3:=oh hD3;have HR3:=oh hR3;have HE3:=oh hE3;clear hG3 hN3 hB3 hD3 hR3 hE3 hlt3 hw3 n1;go_wp2_with fail;refine HENT.out.mono ?_;rintro e w4 ⟨P4,F4,G4,l4,hG4,hN4,hr⟩;have HG4:=oh hG4;have HN4:=oh (HN3.out.trans hN4);have HB4:=oh (HB3.out.nxt hN4);have HD4:=oh (HD3.out.nxt hN4);have HR4:=oh (HR3.out.nxt hN4);have HE4:=oh (hN4.sl HN3.out.sub HE3.out);clear hG4 hN4;rcases hr with ⟨en,hs,rfl⟩|⟨k,en,f,el,hs,hfr,hco,rfl,hE⟩
 .have HS:=oh hs;have HLA:Hid (zCk G l gen old n key v=zRH (!is_) (vF G4 l4 gen old (zEt n key en))):=oh (by
   unfold zCk zRH;rw[hs];simp only;rw[HIS.out];cases vF G4 l4 gen old (zEt n key en) <;> rfl)
  obtain⟨S1,S2, -⟩:=HOK.out.ent _ _ _ hs;have HS1:=oh S1;have HS2:=oh S2;obtain⟨w5,hw5⟩:∃w5,w5=(w4.alloc (.cells (zC6 en) 141)).alloc (.cells (zC6 en) 141):=⟨_,rfl⟩;have hm5:zJ w4 w5:=by rw[hw5];exact ((zA.refl _ _).alloc _).alloc _
  have HM5:=oh hm5;have n1:=HD4.out.blk.cell (o:=1) rfl;have n1c:=zH n1 (.cells (zC6 en) 141);have n1b:w5.cell? ⟨w.heap.size+1,1,none⟩=some (.slice ea n.entries.length ec):=(HD4.out.ext hm5).blk.cell (o:=1) rfl;have HSL1:Hid (Sl F4 w5 4 vA (.slice (some ⟨w4.heap.size+1,0,none⟩) 1 1) [en]):=oh (Sl.one (by rw[hw5];exact zK (by simp)) (λf=>by
   have:=HN4.out.env.lt _ f;omega))
  have ham:at_+zF2 key n<=n.entries.length:=by
   unfold zF2;split
   .rename_i h1;unfold zAt at h1;cases hq:n.entries[vY key n.entries]? with
    | none=>rw[hq] at h1;cases h1
    | some x =>
     have:=(uB.1 hq).1;rw[HAT.out];omega
   .omega
  have HW5:=oh hw5;clear hs hm5 hw5 S1 S2;go_wp2_with fail;rw[<- HW5.out];refine (zGI _ _ n.entries [en] (HE4.out.ext HM5.out) HSL1.out at_ (zF2 key n) ham (by have:=HFEW.out;omega) (by simp)).mono ?_;rintro e w6 ⟨ev,rfl,hO6,hm6⟩;obtain⟨oa,oc,rfl, -, -⟩:=hO6.form;have HL6:Hid ((n.entries.take at_++[en]++n.entries.drop (at_+zF2 key n))=(zEt n key en).entries):=oh (by rw[HAT.out];rfl);rw[HL6.out] at hO6 ⊢;have HM6:=oh (HM5.out.trans hm6);have HO6:=oh (hO6.rebase (base':=w4.heap.size) HM5.out.size);have hD6:=HD4.out.ext HM6.out;have d0:=hD6.blk.cell (o:=0) (v:=.bool true) rfl;have d1:=hD6.blk.cell (o:=1) (v:=.slice ea n.entries.length ec) rfl;have d2:=hD6.blk.cell (o:=2) (v:=.slice ka n.keys.length kc) rfl;have d3:=hD6.blk.cell (o:=3) (v:=.slice ia n.kids.length ic) rfl;have df:=hD6.blk.frozen;have b0:=(HB4.out.ext HM6.out).blk.cell (o:=0) rfl;have b1:=(HB4.out.ext HM6.out).blk.cell (o:=1) rfl;have b2:=(HB4.out.ext HM6.out).blk.cell (o:=2) rfl;obtain⟨n',hn'⟩:∃n',n'=zEt n key en:=⟨_,rfl⟩;have HN':Hid (n'.leaf=true/\n'.keys=n.keys/\n'.kids=n.kids):=oh (by rw[hn'];exact⟨HLF.out,rfl,rfl⟩);rw[<- hn'] at HO6 HS1 HL6 HLA ⊢;have mD:zA (λk=>k=w.heap.size+1) w6 (w6.setCell ⟨w.heap.size+1,1,none⟩ (.slice oa n'.entries.length oc)):=zA.at _ w6 _ 1 _ rfl;have HGD:=oh ((HG4.out.at HM6.out).var hD6 mD);have HND:=oh ((HN4.out.trans (zR.ext HN4.out.env HN4.out.sub HM6.out)).var hD6 mD);have HRD:=oh ((HR4.out.ext HM6.out).other mD (by omega));have hmF:=hD6.mF mD;have HSE:Hid (Sl F4 (w6.setCell ⟨w.heap.size+1,1,none⟩ (.slice oa n'.entries.length oc)) 4 vA (.slice oa n'.entries.length oc) n'.entries):=oh ((HO6.out.slF (λk hk=>HN4.out.env.lt k hk) yU.len (by have:=HS1.out.few.1;omega)).mods hmF);have HSK:Hid (Sl F4 (w6.setCell ⟨w.heap.size+1,1,none⟩ (.slice oa n'.entries.length oc)) 1 qK (.slice ka n.keys.length kc) n'.keys):=oh (by rw[HN'.out.2.1];exact HVK.out.void HOK.out.nk.1);have HSI:Hid (Sl F4 (w6.setCell ⟨w.heap.size+1,1,none⟩ (.slice oa n'.entries.length oc)) 1 yB (.slice ia n.kids.length ic) n'.kids):=oh (by rw[HN'.out.2.2];exact HVI.out.void HOK.out.nk.2);have HST:=zH8 n' HND.out.env HND.out.sub HGD.out gen old hgen _ _ _ HSE.out HSK.out HSI.out HS1.out;rw[HN'.out.1] at HST;unfold qR at HST;have HST:=oh HST;have HNN:=oh hn';clear hO6 hm6 hD6 mD hmF hn' n1 n1c n1b;go_wp2_with fail;refine HST.out.mono ?_;rintro e w7 ⟨P7,F7,G7,l7,hG7,hN7,hr⟩;have HR7:=oh (HRD.out.nxt hN7);have HG7:=oh hG7;have HN7:=oh (HND.out.trans hN7);have hlt7:w.heap.size+1+1<w7.heap.size:=HR7.out.blk.lt;have hne7:w7.heap.size≠w.heap.size+1+1:=by omega
  clear hG7 hN7;rcases hr with ⟨o,hs,rfl⟩|⟨k,o,f,el,hs,hfr,rfl,hE⟩
  .have HS:=oh hs;clear hs;unfold zIX;have q0:=HR7.out.blk.cell (o:=0) rfl;have q1:=HR7.out.blk.cell (o:=1) rfl;have q2:=HR7.out.blk.cell (o:=2) rfl;have q3:=HR7.out.blk.cell (o:=3) rfl;have q4:=HR7.out.blk.cell (o:=4) rfl;have qf:=HR7.out.blk.frozen;go_wp2_with fail;have mR:=zA.set5 (F:=λk=>k=w.heap.size+1+1) (zA.refl _ w7) (R:=w.heap.size+1+1) (.inr rfl) (.int .i64 (o.id0:Int)) (.int .i64 (o.id1:Int)) (.string o.key) (.bool o.two) (.bool (!is_));have bR:=HR7.out.blk.set5 (.int .i64 (o.id0:Int)) (.int .i64 (o.id1:Int)) (.string o.key) (.bool o.two) (.bool (!is_));have gR:=HG7.out.var HR7.out mR;have nR:=HN7.out.var HR7.out mR;have mA:=(zA.refl (λ_=>False) (((((w7.setCell ⟨w.heap.size+1+1,0,none⟩ (.int .i64 (o.id0:Int))).setCell ⟨w.heap.size+1+1,1,none⟩ (.int .i64 (o.id1:Int))).setCell ⟨w.heap.size+1+1,2,none⟩ (.string o.key)).setCell ⟨w.heap.size+1+1,3,none⟩ (.bool o.two)).setCell ⟨w.heap.size+1+1,4,none⟩ (.bool (!is_)))).alloc (.cells #[.int .i64 (o.id0:Int),.int .i64 (o.id1:Int),.string o.key,.bool o.two,.bool (!is_)] 113);refine bodyPost_ret (zG rfl _ _ (w.heap.size+1+1) 113 _ _ rfl (bR.ext mA) Tryz.underlying113 rfl Tryz.outSz) rfl ?_;exact⟨P7,F7,G7,l7,gR.at mA,nR.trans (zR.ext nR.env nR.sub mA),.inl ⟨{ o with news:=!is_ },by rw[HLA.out,HS.out];rfl,rfl⟩⟩
  .have HS:=oh hs;have HE:=oh hE;have HFR:=oh (HS2.out.trans hfr);clear hs hE hfr;unfold zIX;have q0:=HR7.out.blk.cell (o:=0) rfl;have q1:=HR7.out.blk.cell (o:=1) rfl;have q2:=HR7.out.blk.cell (o:=2) rfl;have q3:=HR7.out.blk.cell (o:=3) rfl;have q4:=HR7.out.blk.cell (o:=4) rfl;have qf:=HR7.out.blk.frozen;go_wp2_with fail;have mR:=zA.set5 (F:=λk=>k=w.heap.size+1+1) (zA.refl _ w7) (R:=w.heap.size+1+1) (.inr rfl) (.int .i64 (o.id0:Int)) (.int .i64 (o.id1:Int)) (.string o.key) (.bool o.two) (.bool (!is_));have bR:=HR7.out.blk.set5 (.int .i64 (o.id0:Int)) (.int .i64 (o.id1:Int)) (.string o.key) (.bool o.two) (.bool (!is_));have gR:=HG7.out.var HR7.out mR;have nR:=HN7.out.var HR7.out mR;have mA:=(zA.refl (λ_=>False) (((((w7.setCell ⟨w.heap.size+1+1,0,none⟩ (.int .i64 (o.id0:Int))).setCell ⟨w.heap.size+1+1,1,none⟩ (.int .i64 (o.id1:Int))).setCell ⟨w.heap.size+1+1,2,none⟩ (.string o.key)).setCell ⟨w.heap.size+1+1,3,none⟩ (.bool o.two)).setCell ⟨w.heap.size+1+1,4,none⟩ (.bool (!is_)))).alloc (.cells #[.int .i64 (o.id0:Int),.int .i64 (o.id1:Int),.string o.key,.bool o.two,.bool (!is_)] 113);refine bodyPost_ret (zG rfl _ _ (w.heap.size+1+1) 113 _ _ rfl (bR.ext mA) Tryz.underlying113 rfl Tryz.outSz) rfl ?_;exact⟨P7,F7,G7,l7,gR.at mA,nR.trans (zR.ext nR.env nR.sub mA),.inr ⟨k,{ o with news:=!is_ },f,el,by rw[HLA.out,HS.out];rfl,HFR.out,rfl,(HE.out.mods (HR7.out.mF mR)).mods mA.ext⟩⟩
 .have HLA:Hid (zCk G l gen old n key v=.inr k):=oh (by unfold zCk;rw[hs]);have HFR:=oh (HOK.out.fr.trans hfr);have HE:=oh hE;have r0:=HR4.out.blk.cell (o:=0) rfl;have r1:=HR4.out.blk.cell (o:=1) rfl;have r2:=HR4.out.blk.cell (o:=2) rfl;have r3:=HR4.out.blk.cell (o:=3) rfl;have r4:=HR4.out.blk.cell (o:=4) rfl;have rf:=HR4.out.blk.frozen;have hlt4:w.heap.size+1+1<w4.heap.size:=HR4.out.blk.lt;have hne4:w4.heap.size≠w.heap.size+1+1:=by omega
  clear hs hfr hE;go_wp2_with fail;have mR:=zA.set5 (F:=λk=>k=w.heap.size+1+1) (zA.refl _ w4) (R:=w.heap.size+1+1) (.inr rfl) (.int .i64 0) (.int .i64 0) (.string ⟨#[]⟩) (.bool false) (.bool false);have bR:=HR4.out.blk.set5 (.int .i64 0) (.int .i64 0) (.string ⟨#[]⟩) (.bool false) (.bool false);have gR:=HG4.out.var HR4.out mR;have nR:=HN4.out.var HR4.out mR;have mA:=(zA.refl (λ_=>False) (((((w4.setCell ⟨w.heap.size+1+1,0,none⟩ (.int .i64 0)).setCell ⟨w.heap.size+1+1,1,none⟩ (.int .i64 0)).setCell ⟨w.heap.size+1+1,2,none⟩ (.string ⟨#[]⟩)).setCell ⟨w.heap.size+1+1,3,none⟩ (.bool false)).setCell ⟨w.heap.size+1+1,4,none⟩ (.bool false))).alloc (.cells (zC6 en) 141);trace_state
  refine bodyPost_ret (zG rfl _ _ (w.heap.size+1+1) 113 _ _ rfl (bR.ext mA) Tryz.underlying113 rfl Tryz.outSz) rfl ?_;exact⟨P4,F4,G4,l4,gR.at mA,nR.trans (zR.ext nR.env nR.sub mA),.inr ⟨k,zRd,f,el,HLA.out,HFR.out,rfl,(HE.out.mods (HR4.out.mF mR)).mods mA.ext⟩⟩
end
end
section
open Go.RowKit
section
variable {G G' G1:GA}{l l' l1:List Nat}{gen:Nat}{lo:ByteArray}{hi:Option ByteArray}{ps:List zE}{q:List Nat}
theorem zLp:∀es:List ByteArray,5 * (es.length:Int)<=yA es
 | []=>by simp[yA]
 | e :: es=>by
  have h2:=zLp es;rw[yA,uD];omega
theorem zGW{n:zF}(hr:zM n=true)(hw:zD n<=2000):n.entries.length<=1000/\n.keys.length<=1000/\n.kids.length<=1000:=by
 have h1:=zBj n.entries;have h2:=zLp n.keys;have h3:=vO n.entries;have h4:=qS n.keys;have hf:=qD hr;unfold zAo at hf;unfold zD at hw;cases hl:n.leaf with
 | true =>
  rw[if_pos hl] at hf;rw[hl] at hw;simp only[t8] at hw;rw[hf.2];simp only[uE];omega
 | false =>
  rw[if_neg (by rw[hl];simp)] at hf;rw[hl] at hw;simp only[wG,tP] at hw;omega
theorem zLq{old:Nat}{n:zF}(hc:zAK G l)(ho:vG l old)(hr:zM n=true)(hw:zD n<=(G.size:Int)-24+77)(hco:G.cost+10<=1000000):zH0 G l old n:=by
 have hs:=hc.s1024;have hs2:=hc.s256;have hf:=zGW hr (by omega);refine⟨ho,hc.low,Nat.le_of_eq hc.len,hco,by omega,λ_=>?_,λhn=>?_,by omega⟩
 .have:=vW (qD hr);omega
 .obtain⟨a,_,h2,h3,h4⟩:=zNk hr (W:=(G.size:Int)-24) (by omega) (by omega) (by omega);exact⟨_,_,_,h2,h3,h4⟩
theorem vM.nth{es:List zI}(h:vM G gen es ps q):∀(i:Nat) (e:zI),es[i]? = some e->∃v ids,zGL G gen e v ids/\ids.Sublist q:=by
 induction h with
 | nil=>intro i e he;simp at he
 | @cons e x ids es l q h1 h2 _ ih =>
  intro i f hf;match i,hf with
  | 0,hf =>
   simp at hf;subst hf;exact⟨_,_,h2,List.sublist_append_left _ _⟩
  | i+1,hf =>
   obtain⟨v,ids',a1,a2⟩:=ih i f (by simpa using hf);exact⟨v,ids',a1,a2.trans (tZ _ _)⟩
theorem zQU{old:Nat}{n:zF}{key v:ByteArray}(hc:zAK G l)(ho:vG l old)(hl:n.leaf=true)(hr:zM n=true)(hw:zD n<=(G.size:Int)-24)(he:vM G gen n.entries ps q)(hkb:qC key=true)(hv:v.size<=4096)
  (hq:q.Nodup) (hu:vX l (λk=>k∈q)) (hoq:old≠0->old ∉ q):FrG G l (qM G (qX G n key)) (qU l (qX G n key))/\∀Gw lw e,jF (qM G (qX G n key)) (qU l (qX G n key)) gen key v=.inl (Gw,lw,e) ->
   zAK Gw lw/\vG lw old/\zM (zEt n key e)=true/\zD (zEt n key e)<=(Gw.size:Int)-24+77/\FrG G l Gw lw/\Gw.cost<=G.cost+18:=by
 have hpw:=zB9 hr hl;have h2q:∀i∈q,2<=i:=λi hi=>(he.lt i hi).1
 obtain⟨l1,lm,l2,q1,qm,q2,e1,e2,rfl,rfl,hlow,hhigh,his,hlm,hold,hsum⟩:=he.at_ hpw key hc.s256 hc.b256;have hsort:yZ (l1++(lm++l2)):=by
  rw[he.keys] at hpw;exact wW.1 hpw
 have hnd:=wD.1 hq;have hnd2:=wD.1 hnd.2.1;have hum:vX l (λk=>k∈qm):=λk hk=>hu k (by simp[hk])
 obtain⟨u1,u2,u3⟩:=zDL (G:=G) qm l hnd2.1 (λi hi=>h2q i (by simp[hi])) hum;have hA2:∀k,k∈qm->2<=k:=λk hk=>h2q k (by simp[hk])
 have hcg:=hc.upd u1 hA2;rw[hold n rfl];have hszg:(qM G qm).size=G.size:=u1.sz;refine⟨u1.fr hA2,λGw lw e hE=>?_⟩;rcases zHr (gen:=gen) hcg hkb hv with ⟨f1,f2⟩|⟨Gw',lw',e',ids,f1,f2,f3,f4,f5,f6,f7,f8⟩
 .rw[f1] at hE;cases hE
 .rw[f1] at hE;injection hE with hE;injection hE with hE1 hE2;injection hE2 with hE2 hE3;subst hE1 hE2 hE3;have u4:=u1.trans f2 hum;have hcw:=hc.upd u4 hA2;have how:=zCx u4 ho (λhz hm=>hoq hz (by simp[hm]));have hszw:Gw'.size=G.size:=u4.sz;have hd1:∀k∈q1++q2,¬ (k∈qm):=λk hk hm=>by
   rcases uG.1 hk with hk|hk
   .exact hnd.2.2 k hk k (by simp[hm]) rfl
   .exact hnd2.2.2 k hm k hk rfl
  obtain⟨z1,z2⟩:=u4.views hd1 (λk hk=>hu k (by rcases uG.1 hk with hk|hk <;> simp[hk]));have hE:vM Gw' gen (n.entries.take (vY key n.entries)++[e']++n.entries.drop (vY key n.entries+if zAt key n.entries=true then 1 else 0)) (l1++([(key,v)]++l2)) (q1++(ids++q2)):=by
   rw[uS];exact (e1.mono (uJ _) u4.bl hszw (λi hi=>(z1 i (by simp[hi])).1)).append ((vM.one f5 f6).append (e2.mono (uJ _) u4.bl hszw (λi hi=>(z1 i (by simp[hi])).1)))
  obtain⟨n',hn'⟩:∃n',n'=zEt n key e':=⟨_,rfl⟩;have hent':n'.entries=n.entries.take (vY key n.entries)++[e']++n.entries.drop (vY key n.entries+if zAt key n.entries=true then 1 else 0):=by rw[hn'];rfl
  have hform:=qD hr;unfold zAo at hform;rw[if_pos hl] at hform;have hleaf':n'.leaf=true:=by rw[hn'];exact hl
  have hkeys':n'.keys=[]:=by rw[hn'];exact hform.1
  have hkids':n'.kids=[]:=by rw[hn'];exact hform.2
  have hse':zY n'.entries<=zY n.entries+59:=by
   rw[hent',yM,yM];have:=zBS f7;simp only[zY];omega
  have hwt:zD n=2+zY n.entries:=by unfold zD;rw[hl,hform.1];simp[yA]
  have hwt':zD n'=2+zY n'.entries:=by unfold zD;rw[hleaf',hkeys'];simp[yA]
  have hwp:qL key v true (l1++(lm++l2))=l1++([(key,v)]++l2):=by
   rw[zEc _ hlow,zDm hhigh];congr 1
   congr 1
   rcases hlm with rfl|⟨ov,rfl⟩
   .rfl
   .simp[qL,jJ]
  have hsort':yZ (l1++([(key,v)]++l2)):=by rw[<- hwp];exact zCY hsort
  have hr':zM n'=true:=by
   have e:n'=⟨true,n'.entries,[],[]⟩:=by rw[<- hleaf',<- hkeys',<- hkids']
   rw[e];refine zCH (λx hx=>?_) ?_ ?_
   .rw[hent'] at hx;rcases uG.1 hx with hx|hx
    .rcases uG.1 hx with hx|hx
     .exact zAQ hr x (tC hx)
     .rw[wS.1 hx];exact f7
    .exact zAQ hr x (rV hx)
   .rw[hent',hE.keys];exact wW.2 hsort'
   .have:=zBj n'.entries;have:=hc.s1024;omega
  rw[<- hn'];refine⟨hcw,how,hr',by rw[hszw,hwt'];omega,u4.fr hA2,?_⟩;have hgc:(qM G qm).cost=G.cost:=(zBw qm G).2.2.1;unfold jF at f1;split at f1
  .injection f1 with f1;injection f1 with f1 _;rw[<- f1];omega
  .split at f1
   .rename_i ids2 l2' ht;injection f1 with f1;injection f1 with f1 _;rw[<- f1,(qV _ _ _ _ _ _).2.2,hgc];have h1:=(zA0 _ _ _ _ ht).len;have h2:=zFo (qM G qm).size v.size (by omega) hcg.s256 hcg.s1024;have h3:=zMj (qM G qm).size v.size hv hcg.s256;rw[h2,uL] at h1;omega
   .cases f1
theorem zJO{old:Nat}{n:zF}{key v:ByteArray}(hc:zAK G l)(ho:vG l old)(hl:n.leaf=true)(hr:zM n=true)(hw:zD n<=(G.size:Int)-24)(he:vM G gen n.entries ps q)(hkb:qC key=true)(hv:v.size<=4096)
  (hq:q.Nodup) (hu:vX l (λk=>k∈q)) (hoq:old≠0->old ∉ q) (hco:G.cost+200<=1000000):zNF G l gen old n key v:=by
 obtain⟨m1,m2⟩:=zQU hc ho hl hr hw he hkb hv hq hu hoq;have hs:=hc.s1024;have hf:=zGW hr (by omega);have hform:=qD hr;unfold zAo at hform;rw[if_pos hl] at hform;refine⟨hl,hform,by omega,λe hea his hce=>?_,m1,hc.low,hc.len,hco,hv,λG1 l1 e hE=>?_⟩
 .obtain⟨x,ids,h1,h2⟩:=he.nth _ e hea;rcases h1 with ⟨h1,_⟩|⟨_,h1⟩
  .exact absurd h1 hce
  .obtain⟨w1,w2,w3,_⟩:=h1.walk hc.s256 hc.b256;have hold:qX G n key=ids:=by
    unfold qX;rw[hea];simp only;rw[if_pos ⟨his,hce⟩];have:=congrArg (List.map Int.toNat) w3;simp only[p7] at this;rw[show (λx:Int × List UInt8=>x.1.toNat)=Int.toNat ∘ (·.1) from rfl,this];rw[show (Int.toNat ∘ λk:Nat=>(k:Int))=id from funext λk=>uL k,List.map_id]
   have hids:∀i∈ids,i∈q:=λi hi=>h2.subset hi
   obtain⟨_,u2,_⟩:=zDL (G:=G) ids l (hq.sublist h2) (λi hi=>(h1.lt i hi).1) (λi hi=>hu i (hids i hi));have hlo:=h1.lo;have hhi:=h1.hi;have hsz:=h1.size;have hpos:0<ids.length:=by rw[h1.len];exact Nat.succ_pos _
   have hin:=h1.lt _ (zCw hpos);have hb:=hc.b256;have hfst:=h1.first;rw[hold];exact⟨w2,w1,w3,u2,by omega,by omega,by omega,by omega⟩
 .obtain⟨a1,a2,a3,a4,a5,a6⟩:=m2 G1 l1 e hE;exact⟨zLq a1 a2 a3 a4 (by omega),a5,by omega⟩
theorem zGt{old:Nat}{n:zF}{o:zBY}(h:vF G l gen old n=.inl (G',l',o)):G'.cost<=G.cost+2:=by
 unfold vF at h;split at h
 .split at h
  .injection h with h;injection h with h _;rw[<- h];have:=(zCe G l gen old n).2.2;omega
  .cases h
 .split at h
  .cases h
  .rename_i a k b _;split at h
   .split at h
    .cases h
    .split at h
     .cases h
     .injection h with h;injection h with h _;rw[<- h];have:=(zCe G l gen old a).2.2;have:=(zCe (yD G l gen old a) (yO G l old a) gen 0 b).2.2;omega
   .cases h
theorem zNG{key v:ByteArray}{e:zI}(hv:v.size<=4096)(h1:256<=G.size)(h2:G.size<=1024)(h:jF G l gen key v=.inl (G',l',e)):G'.cost<=G.cost+18:=by
 unfold jF at h;split at h
 .injection h with h;injection h with h _;rw[<- h];omega
 .split at h
  .rename_i ids2 l2' ht;injection h with h;injection h with h _;rw[<- h,(qV _ _ _ _ _ _).2.2];have h3:=(zA0 _ _ _ _ ht).len;have h4:=zFo G.size v.size (by omega) h1 h2;have h5:=zMj G.size v.size hv h1;rw[h4,uL] at h3;omega
  .cases h
theorem zJP{old:Nat}{n:zF}{key v:ByteArray}{o:zBY}(hv:v.size<=4096)(h1:256<=G.size)(h2:G.size<=1024)(h:zCk G l gen old n key v=.inl (G',l',o)):G'.cost<=G.cost+20:=by
 unfold zCk at h;split at h
 .cases h
 .rename_i G1 l1 e hE;obtain⟨s1,s2,s3,_⟩:=zBw (qX G n key) G;have h3:=zNG hv (by rw[s2];exact h1) (by rw[s2];exact h2) hE;split at h
  .cases h
  .rename_i G2 l2 o2 hS;injection h with h;injection h with h _;rw[<- h];have:=zGt hS;omega
theorem zH9{key v:ByteArray}(hv:v.size<=4096):∀(f:Nat) (G:GA) (l:List Nat) (id:Nat) {G':GA} {l':List Nat} {o:zBY},256<=G.size->G.size<=1024->zC4 gen key v f G l id=.inl (G',l',o)->G'.cost<=G.cost+20+2 * f
 | 0,_,_,_,_,_,_,_,_,h=>by cases h
 | f+1,G,l,id,G',l',o,h1,h2,h=>by
  rw[zC4] at h;split at h
  .cases h
  .rename_i n hn;split at h
   .have:=zJP hv h1 h2 h;omega
   .split at h
    .cases h
    .rename_i G1 l1 o1 hP;have h3:=zH9 hv f G l _ h1 h2 hP;split at h
     .cases h
     .rename_i G2 l2 o2 hS;injection h with h;injection h with h _;rw[<- h];have:=zGt hS;omega
end
section
variable {G G' G1:GA}{l l' l1:List Nat}{gen:Nat}{lo:ByteArray}{hi:Option ByteArray}{ps:List zE}{q:List Nat}
theorem zQ4{d f id:Nat}{n:zF}{key v:ByteArray}(hc:zAK G l)(hp:PgN G gen id n)(hr:zM n=true)(hl:n.leaf=false)(hkd:qF (vJ G gen d) lo hi n.keys n.kids ps q)(hn:(id :: q).Nodup)(hu:vX l (λk=>k∈id :: q))(hk:inB lo hi key)(hd:d<=f)(hf16:f<=16)(hkb:qC key=true)(hv:v.size<=4096)(hco:G.cost+200<=1000000){G1:GA}{l1':List Nat}{o:zBY}
  (hP:zC4 gen key v f G l (n.kids.getD (zAY key n.keys) 0).toNat=.inl (G1,l1',o)):zH0 G1 l1' id (zDw n (zAY key n.keys) o)/\FrG G l G1 l1':=by
 have hid:id ∉ q/\q.Nodup:=tN.1 hn;have hqid:id≠0:=by have:=hp.lo;omega
 have huq:vX l (λk=>k∈q):=λk hk=>hu k (uI _ hk)
 have hpl:vG l id:=.inr ⟨hp.lo,hu id uF⟩;obtain⟨k1,k2,c1,c,c2,l1,lm,l2,q1,qm,q2,lo',hi',e1,e2,e3,e4,rfl,rfl,e7,e8,e9,e10,e11⟩:=hkd.at_ (vJ.bounds d) hk;have hkd0:n.kids.getD (zAY key n.keys) 0=(c:Int):=by
  rw[e4,e2,<- e3];simp[List.getD]
 rw[hkd0,uL] at hP;have hnd:=wD.1 hid.2;have hnd2:=wD.1 hnd.2.1;have hum:vX l (λk=>k∈qm):=λk hk=>huq k (by simp[hk])
 have hcost:=zH9 hv f G l c hc.s256 hc.s1024 hP;rcases zKB (gen:=gen) hkb hv d f G l c lo' hi' lm qm hc e7 hnd2.1 hum e8 hd with ⟨a1,_⟩|⟨G1',l1'',o',qm',a1,a2,a3,a4⟩
 .rw[a1] at hP;cases hP
 .rw[a1] at hP;injection hP with hP;injection hP with hE1 hE2;injection hE2 with hE2 hE3;subst hE1 hE2 hE3;have u4:=a3.upd;have hA2:∀k,k∈qm->2<=k:=λk hk=>(e7 |> vJ.ltq d lo' hi' c lm qm) k hk |>.1
  have hd1:∀k∈q1++q2,¬ (k∈qm):=λk hk hm=>by
   rcases uG.1 hk with hk|hk
   .exact hnd.2.2 k hk k (by simp[hm]) rfl
   .exact hnd2.2.2 k hm k hk rfl
  obtain⟨z1,z2⟩:=u4.views hd1 (λk hk=>huq k (by rcases uG.1 hk with hk|hk <;> simp[hk]));have how:=zCx u4 hpl (λ_ hm=>hid.1 (by simp[hm]));obtain⟨n',hn'⟩:∃n',n'=zDw n (zAY key n.keys) o':=⟨_,rfl⟩;have hK:=e11 (vJ G1' gen d) _ _ _ _ a3.kids (λlo hi c l p hp h=>vJ.mono (uJ _) u4.bl u4.sz d lo hi c l p (λi hi=>(z1 i (by rcases hp i hi with h|h <;> simp[h])).1) h);have hj:n' = { n with kids:=c1++(zAu o'++c2),keys:=k1++(vS o'++k2) }:=by
   rw[hn',zLQ,e1,e2,show zAY key (k1++k2)=k1.length by rw[<- e1];exact e4];have t1:(c1++(c:Int) :: c2).take k1.length=c1:=by rw[<- e3];simp
   have t2:(c1++(c:Int) :: c2).drop (k1.length+1)=c2:=by rw[<- e3];simp
   rw[t1,t2];simp
  have hleaf':n'.leaf=false:=by rw[hj];exact hl
  have hents':n'.entries=n.entries:=by rw[hj]
  have hform:=qD hr;unfold zAo at hform;rw[if_neg (by rw[hl];simp)] at hform;have hkeys':n'.keys=k1++(vS o'++k2):=by rw[hj]
  have hkids':n'.kids=c1++(zAu o'++c2):=by rw[hj]
  have hsk:yA n'.keys<=yA n.keys+37:=by
   rw[hkeys',e1,qI,qI,qI];have:yA (vS o')<=37:=by
    unfold vS;split
    .rename_i h2;have:=a3.keys o'.key (by unfold vS;rw[if_pos h2];simp);have:=(vC _).1 this;simp[yA];omega
    .simp[yA]
   omega
  have hwt:zD n=6+yA n.keys:=by unfold zD;rw[hl,hform.1];simp[zY]
  have hwt':zD n'=6+yA n'.keys:=by unfold zD;rw[hleaf',hents',hform.1];simp[zY]
  have hd2:∀i∈qm',i ∉ q1++q2/\i≠id:=λi hi=>by
   refine⟨λhm=>(z1 i hm).2.2 hi,λe=>?_⟩;subst e;exact (u4.view (i:=i) (λhm=>hid.1 (by simp[hm])) (hu.ne0 uF)).2.2 hi
  have hq':(q1++(qm'++q2)).Nodup:=by
   refine wD.2 ⟨hnd.1,wD.2 ⟨a3.nodup,hnd2.2.1,λa ha b hb e=>?_⟩,λa ha b hb e=>?_⟩
   .subst e;exact (hd2 a ha).1 (by simp[hb])
   .subst e;rcases uG.1 hb with hb|hb
    .exact (hd2 a hb).1 (by simp[ha])
    .exact hnd.2.2 a ha a (by simp[hb]) rfl
  have hr':zM n'=true:=by
   have e:n'=⟨false,[],n'.keys,n'.kids⟩:=by rw[hj];simp[hl,hform.1]
   rw[e,hkeys',hkids'];refine hK.right hq' (λs hs=>?_) ?_ a3.ctx.b256
   .rcases uG.1 hs with hs|hs
    .exact zBT hr s (by rw[e1];simp[hs])
    .rcases uG.1 hs with hs|hs
     .exact a3.keys s hs
     .exact zBT hr s (by rw[e1];simp[hs])
   .have h2:2<=n.kids.length:=(zDM hr).2.2 hl;rw[e2] at h2;have:1<=(zAu o').length:=by unfold zAu;split <;> simp
    simp at h2 ⊢;omega
  rw[<- hn'];exact⟨zLq a3.ctx how hr' (by rw[u4.sz,hwt'];have:=hp.fit;omega) (by omega),u4.fr hA2⟩
end
end
end Go.Proofs.YtchklfmggpconaaGreatDoor
