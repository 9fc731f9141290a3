import Derived.Deep.RegionHeld3
import Derived.Test.YtdnbmdghmmpgcaaGreatDoorK26
namespace Go.Proofs.YtdnbmdghmmpgcaaGreatDoor
open Lib renaming hid→oh
section
open Go.RowKit
attribute [local go_sem ↓] Go.wp_at_zero Go.wp_at_succ
section
variable {P P' F F':Nat→Prop}{ad:Nat→Addr}{w w':World}{c s:Nat}{G:GA}{l:List Nat}
theorem fits_any(n:NodeA)(ve vk vi:Value)(w:World)(hve:Sl F w 4 encE ve n.entries)(hvk:Sl F w 1 encS vk n.keys)(hb:weightN n≤4611686018427387904)(z:Int)(hz : -4611686018427387904≤z)(hz2:z≤9223372036854775807) :
  Calls Tryz.prog 232 #[.agg #[.bool n.leaf,ve,vk,vi],.int .i64 z] w λe w'=>e=.returned (.bool (decide (weightN n≤z-24)))∧Ext w w':=by
 have HW:=λW (m:Ext w W)=>weight_any (vi:=vi) n ve vk W (hve.ext m) (hvk.ext m) hb
 obtain⟨ea,ec,rfl,_,_,_,_⟩:=hve;obtain⟨ka,kc,rfl,_,_,_,_⟩:=hvk;have HWL:=oh HW;have hz3:IntKind.i64.wrap (z-24)=z-24:=by rw[IntWalk.i64_in _ (by omega)]
 clear HW
 go_enter Tryz.func232, Tryz.ntmps232
 go_wp2_with fail;refine (HWL.out _ ?_).mono ?_
 ·first|exact Mods.refl _ _|exact (Mods.refl _ _).alloc _
 rintro e w1 ⟨rfl,hm⟩;have HM:=oh hm;clear hm;go_wp2_with fail;go_ret;exact⟨rfl,by first|exact HM.out|exact ((Mods.refl _ w).alloc _).trans HM.out⟩
theorem inSize_any(h:PgR F w P c s G l)(gen:Nat) : Calls Tryz.prog 233 #[pgV c s gen] w λe w'=>e=.returned (.int .i64 (G.size:Int))∧Ext w w':=by
 unfold pgV;have m0:Ext w (w.alloc (.cells #[.pointer (some ⟨c,0,none⟩),.pointer (some ⟨s,0,none⟩),.int .u64 (gen:Int)] 142)):=(Mods.refl _ w).alloc _;obtain⟨d,HH,h1,h2⟩:=pgDisk (h.at m0);have gf1:=Tryz.geoF1;have H1:=oh h1;have H2:=oh h2;have M0:=oh m0;clear h1 h2 h m0
 go_enter Tryz.func233, Tryz.ntmps233
 go_wp2_with fail;refine H1.out.mono ?_;rintro e w1 ⟨rfl,rfl⟩;go_wp2_with fail;refine (H2.out _ (Mods.refl _ _)).mono ?_;rintro e w2 ⟨rfl,hm⟩;have HM:=oh hm;clear hm;go_wp2_with fail;go_ret;exact⟨rfl,M0.out.trans HM.out⟩
def placeG(G:GA)(l:List Nat)(old:Nat):GA :=
 if old=0∨spFresh l old=true then G else if spFree l=none then G else G.drop old
def placeL(l:List Nat)(old:Nat):List Nat :=
 if old=0 then spTake l else if spFresh l old=true then l else match spFree l with
  | none=>l
  | some i=>(spGive (l.set i 2) old).1
def placeI(l:List Nat)(old:Nat):Option Nat:=if old≠0∧spFresh l old=true then some old else spFree l
def placeOk(l:List Nat)(old:Nat):Prop:=old=0∨l[old]? = some 1∨l[old]? = some 2
def PlaceP(ad:Nat→Addr)(o:Option Nat)(F':Nat→Prop)(w':World)(e:Ending):Prop :=
 (∃i,o=some i∧e=.returned (.tuple #[.int .i64 (i:Int),.nilIface]))∨(o=none∧∃f,e=.returned (.tuple #[.int .i64 0,faultV f])∧ErrC F' ad w' (faultV f) [-1] 3)
theorem spGive_ok{l:List Nat}{i old:Nat}(hi:spFree l=some i)(h2:2≤old)(h1:l[old]? = some 1):(spGive (l.set i 2) old).2=none:=by
 have hne:i≠old:=λe=>by
  have:=(spFree_at hi).1;rw[e,h1] at this;simp at this
 have hlt:=(List.getElem?_eq_some_iff.1 h1).1;have hc:spCheck (l.set i 2) (old:Int)=none:=by
  unfold spCheck;rw[if_neg (by rw[List.length_set];omega)]
 unfold spGive;rw[hc];simp only[Int.toNat_natCast,List.getElem?_set_ne hne,h1];simp
set_option maxRecDepth 100000 in
theorem place_any(hL:Env F ad w)(hP:∀k,P k→F k)(h:PgR F w P c s G l)(gen old:Nat)(hok:placeOk l old)(ho2:old=0∨2≤old)(hob:old<256) :
  Calls Tryz.prog 234 #[pgV c s gen,.int .i64 (old:Int)] w (PgDone F P ad w c s (placeG G l old) (placeL l old) (PlaceP ad (placeI l old))):=by
 have m0:Ext w (w.alloc (.cells #[.pointer (some ⟨c,0,none⟩),.pointer (some ⟨s,0,none⟩),.int .u64 (gen:Int)] 142)):=(Mods.refl _ w).alloc _;have HB0:=oh (Blk.new w #[.pointer (some ⟨c,0,none⟩),.pointer (some ⟨s,0,none⟩),.int .u64 (gen:Int)] 142);have HM0:=oh m0;have HP:=oh hP;have HG:=oh (h.at m0);have HL:=oh (hL.mods m0.ext);have HN0:Hid (Nxt P P F F ad w _):=oh (Nxt.ext hL hP m0);have HBP:Hid (¬ P w.heap.size):=oh (λhp=>by have:=h.bd _ hp;omega);have HOK:=oh hok;clear hL hP h m0 hok;unfold pgV;by_cases hz:old=0
 ·subst hz;have HT:=oh (pgTake HL.out HP.out HG.out);have HE:Hid (placeG G l 0=G∧placeL l 0=spTake l∧placeI l 0=spFree l):=oh ⟨by unfold placeG;rw[if_pos (.inl rfl)],by unfold placeL;rw[if_pos rfl],by unfold placeI;rw[if_neg (by simp)]⟩;clear ho2 hob
  go_enter Tryz.func234, Tryz.ntmps234
  go_wp2_with fail;refine HT.out.mono ?_;rintro e w1 ⟨P1,F1,hG1,hN1,hr⟩;have HG1:=oh hG1;have HN1:=oh hN1;clear hG1 hN1;rcases hr with ⟨i,hi,hil,rfl⟩|⟨hi,f,rfl,hE⟩
  ·have HI:=oh hi;clear hi;go_wp2_with fail;go_ret2
   refine⟨P1,F1,?_,HN0.out.trans HN1.out,?_⟩
   ·rw[HE.out.1,HE.out.2.1];exact HG1.out
   ·rw[HE.out.2.2];exact .inl ⟨i,HI.out,rfl⟩
  ·have HI:=oh hi;have HEE:=oh hE;clear hi hE;go_wp2_with fail;go_ret2
   refine⟨P1,F1,?_,HN0.out.trans HN1.out,?_⟩
   ·rw[HE.out.1,HE.out.2.1];exact HG1.out
   ·rw[HE.out.2.2];exact .inr ⟨HI.out,f,rfl,HEE.out⟩
 ·have hz1:¬ (old:Int)=0:=by omega
  have h2:2≤old:=by omega
  have HF:=oh (pgFresh HG.out (old:Int));cases hfr:spFresh l (old:Int) with
  | true =>
   rw[hfr] at HF;have HE:Hid (placeG G l old=G∧placeL l old=l∧placeI l old=some old):=oh ⟨by unfold placeG;rw[if_pos (.inr hfr)],by unfold placeL;rw[if_neg hz,if_pos hfr],by unfold placeI;rw[if_pos ⟨hz,hfr⟩]⟩;clear hfr hz ho2
   go_enter Tryz.func234, Tryz.ntmps234
   go_wp2_with fail;refine HF.out.mono ?_;rintro e w1 ⟨rfl,rfl⟩;go_wp2_with fail;go_ret2
   refine⟨P,F,?_,HN0.out,?_⟩
   ·rw[HE.out.1,HE.out.2.1];exact HG.out
   ·rw[HE.out.2.2];exact .inl ⟨old,rfl,rfl⟩
  | false =>
   rw[hfr] at HF;have h1:l[old]? = some 1:=by
    rcases HOK.out with h|h|h
    ·exact absurd h hz
    ·exact h
    ·unfold spFresh at hfr;rw[Int.toNat_natCast,h] at hfr;simp at hfr
   have HE:Hid (placeG G l old=(if spFree l=none then G else G.drop old)∧placeL l old=(match spFree l with|none=>l|some i=>(spGive (l.set i 2) old).1)∧placeI l old=spFree l):=oh
    ⟨by unfold placeG;rw[if_neg (by rw[hfr];simp[hz])],by unfold placeL;rw[if_neg hz,if_neg (by rw[hfr];simp)],by unfold placeI;rw[if_neg (by rw[hfr];simp)]⟩
   have H1:=oh h1;have HT:=oh (pgTake HL.out HP.out HG.out);clear hfr hz ho2 h1
   go_enter Tryz.func234, Tryz.ntmps234
   go_wp2_with fail;refine HF.out.mono ?_;rintro e w1 ⟨rfl,rfl⟩;go_wp2_with fail;refine HT.out.mono ?_;rintro e w1 ⟨P1,F1,hG1,hN1,hr⟩;have HB1:=oh (hN1.blk HB0.out HBP.out);have HBP1:Hid (¬ P1 w.heap.size):=oh (hN1.not HB0.out.lt HBP.out);have HG1:=oh hG1;have HN1:=oh (HN0.out.trans hN1);clear hG1 hN1;rcases hr with ⟨i,hi,hil,rfl⟩|⟨hi,f,rfl,hE⟩
   ·have HTK:Hid (spTake l=l.set i 2):=oh (by unfold spTake;rw[hi]);have HGV:Hid ((spGive (spTake l) (old:Int)).2=none):=oh (by rw[HTK.out];exact spGive_ok hi h2 H1.out);have HI:=oh hi;clear hi;have b0:=HB1.out.cell (o:=0) (v:=.pointer (some ⟨c,0,none⟩)) rfl;go_wp2_with fail;refine (pgDrop HN1.out.env HN1.out.sub HG1.out old).mono ?_;rintro e w2 ⟨P2,F2,hG2,hN2,bb,rfl⟩;have HB2:=oh (hN2.blk HB1.out HBP1.out);have b1:=HB2.out.cell (o:=1) (v:=.pointer (some ⟨s,0,none⟩)) rfl;have HG2:=oh hG2;have HN2:=oh (HN1.out.trans hN2);clear hG2 hN2;go_wp2_with fail;refine (pgGive HN2.out.env HN2.out.sub HG2.out (old:Int)).mono ?_;rintro e w3 ⟨P3,F3,hG3,hN3,ev,rfl,hev⟩;rw[HGV.out] at hev;cases hev
    have HG3:=oh hG3;have HN3:=oh (HN2.out.trans hN3);clear hG3 hN3;go_wp2_with fail;go_ret2
    refine⟨P3,F3,?_,HN3.out,?_⟩
    ·rw[HE.out.1,HE.out.2.1,HI.out,if_neg (by simp)];simp only;rw[← HTK.out];exact HG3.out
    ·rw[HE.out.2.2];exact .inl ⟨i,HI.out,rfl⟩
   ·have HI:=oh hi;have HEE:=oh hE;clear hi hE;go_wp2_with fail;go_ret2
    refine⟨P1,F1,?_,HN1.out,?_⟩
    ·rw[HE.out.1,HE.out.2.1,HI.out,if_pos rfl];have:spTake l=l:=by unfold spTake;rw[HI.out]
     rw[← this];exact HG1.out
    ·rw[HE.out.2.2];exact .inr ⟨HI.out,f,rfl,HEE.out⟩
end
end
section
open Go.RowKit
def GA.total(G:GA):Prop:=∀i,i<G.blocks→∃r,G.view i=some r
theorem GA.total.knows{G:GA}(h:G.total)(id:Int):G.knows id:=λhc=>by
 unfold GA.check at hc;split at hc
 ·cases hc
 ·exact h _ (by omega)
theorem put_total{G:GA}(h:G.total)(p:PageA):(G.put p).total:=λi hi=>by
 show ∃r,upd G.view p.id.toNat (some (.inl p)) i=some r;by_cases e:i=p.id.toNat
 ·subst e;rw[upd_self];exact⟨_,rfl⟩
 ·rw[upd_ne _ _ e];exact h i hi
structure LeafOf(R:Int→Int→Option ByteArray)(m:NodeA)(p:List PairS):Prop where
 leaf:m.leaf=true
 right:rightN m=true
 len:m.entries.length=p.length
 tells:∀(i:Nat) (e:EntryA) (x:PairS),m.entries[i]? = some e→p[i]? = some x→e.key=x.1∧tellsE R e=some x.2
noncomputable def GA.R2 (G:GA) (c s:Int):Option ByteArray:=open Classical in if walkOk G s.toNat c s then G.R c s else none
theorem GA.R2_some{G:GA}{c s:Int}{v:ByteArray}(h:G.R2 c s=some v):walkOk G s.toNat c s∧G.R c s=some v:=by
 unfold GA.R2 at h;split at h
 ·rename_i hw;exact⟨hw,h⟩
 ·cases h
theorem value_tells{G:GA}{e:EntryA}{v:ByteArray}(h:tellsE G.R2 e=some v):valueA G e=.inl v∧valueOk G e:=by
 unfold tellsE at h;unfold valueA valueOk;by_cases hc:e.chain=0
 ·rw[if_pos hc] at h ⊢;exact⟨by rw[Option.some.inj h],λhn=>absurd hc hn⟩
 ·rw[if_neg hc] at h ⊢;obtain⟨h1,h2⟩:=GA.R2_some h;refine⟨?_,λ_ _ _=>h1⟩;unfold GA.R at h2;split at h2
  ·rename_i h3;rw[h3];simp only;rw[Option.some.inj h2]
  ·cases h2
theorem inB_all(k:ByteArray):inB e0 none k:=by
 refine⟨?_,λh hh=>by cases hh⟩;unfold ltS;have:e0.toList=[]:=by simp[ByteArray.toList_eq]
 rw[this];cases k.toList <;> rfl
def TreeG(G:GA)(root d:Nat)(l:List PairS):Prop :=
 (l=[]∧root=0∧d=0)∨(2≤root∧root<256∧d≤16∧Tr G.node G.R2 e0 none root d l)
abbrev StC:=List (NodeA × Int)
def endsA(n:NodeA):Nat:=if n.leaf then n.entries.length else n.kids.length
def lastI(n:NodeA):Int:=max 0 ((endsA n:Int)-1)
def pushA(G:GA)(st:StC)(id:Int):StC ⊕ Err :=
 if 16≤st.length then .inr ([pgOf id],5) else match G.load id with
  | .inr e=>.inr e
  | .inl n=>.inl ((n,0) :: st)
def edgeTop(last:Bool)(st:StC):StC:=match st with
 | []=>[]
 | (n,a) :: r=>if last=true then (n,lastI n) :: r else (n,a) :: r
def downA(G:GA)(last:Bool):Nat→StC→StC ⊕ Err
 | 0,st=>.inl st
 | _+1,[]=>.inl []
 | f+1,(n,a) :: r=>if n.leaf=true then .inl ((n,a) :: r) else
  match pushA G ((n,a) :: r) (n.kids.getD a.toNat 0) with
  | .inr e=>.inr e
  | .inl st=>downA G last f (edgeTop last st)
def downF(G:GA)(last:Bool)(st:StC):StC ⊕ Err:=downA G last (18-st.length) st
def moveA(G:GA)(by_:Int):StC→StC ⊕ Err
 | []=>.inl []
 | (n,a) :: r=>if 0≤a+by_∧a+by_<(endsA n:Int) then downF G (decide (by_<0)) ((n,a+by_) :: r) else moveA G by_ r
def topNone(st:StC):Bool:=match st with
 | []=>false
 | (n,_) :: _=>n.entries.isEmpty
def edgeA(G:GA)(root:Int)(last:Bool):StC ⊕ Err :=
 if root=0 then .inl [] else match pushA G [] root with
  | .inr e=>.inr e
  | .inl st=>match downF G last (edgeTop last st) with
   | .inr e=>.inr e
   | .inl st1=>if topNone st1=true then .inl [] else .inl st1
def seekDown(G:GA)(key:ByteArray):Nat→StC→Int→StC ⊕ Err
 | 0,_,id=>.inr ([pgOf id],5)
 | f+1,st,id=>match pushA G st id with
  | .inr e=>.inr e
  | .inl []=>.inl []
  | .inl ((n,_) :: r)=>if n.leaf=true then .inl ((n,((findN n key).1:Int)) :: r) else seekDown G key f ((n,((findN n key).1:Int)) :: r) (n.kids.getD (findN n key).1 0)
def seekA(G:GA)(root:Int)(key:ByteArray):StC ⊕ Err :=
 if root=0 then .inl [] else match seekDown G key 17 [] root with
  | .inr e=>.inr e
  | .inl []=>.inl []
  | .inl ((n,a) :: r)=>if a<(n.entries.length:Int) then .inl ((n,a) :: r) else moveA G 1 ((n,a-1) :: r)
def FrOkA(x:NodeA × Int):Prop:=rightN x.1=true ∧ -2≤x.2∧x.2≤65537
def TopOk(x:NodeA × Int):Prop:=x.1.leaf=false→0≤x.2∧x.2<(x.1.kids.length:Int)
def StOk(st:StC):Prop:=(∀x∈st,FrOkA x)∧st.length≤16
section
variable {G:GA}{st st1:StC}{id:Int}{last:Bool}
theorem rightN_few{n:NodeA}(h:rightN n=true):n.entries.length≤65535∧n.kids.length≤256∧(n.leaf=false→2≤n.kids.length):=by
 unfold rightN at h;split at h
 ·rename_i hl;simp only[Bool.and_eq_true,decide_eq_true_eq,List.isEmpty_iff] at h;refine⟨h.2,by rw[h.1.1.2];simp,λhf=>by rw[hl] at hf;cases hf⟩
 ·simp only[Bool.and_eq_true,decide_eq_true_eq,List.isEmpty_iff] at h;obtain⟨⟨⟨⟨⟨⟨⟨h1,h2⟩,h3⟩,h4⟩,h5⟩,h6⟩,h7⟩,h8⟩:=h;exact⟨by rw[h1];simp,h4,λ_=>h2⟩
theorem lastI_ok{n:NodeA}(h:rightN n=true):FrOkA (n,lastI n)∧TopOk (n,lastI n):=by
 obtain⟨h1,h2,h3⟩:=rightN_few h;have he:(endsA n:Int)≤65535:=by unfold endsA;split <;> omega
 refine⟨⟨h,by show (-2:Int)≤max 0 ((endsA n:Int)-1);omega,by show max 0 ((endsA n:Int)-1)≤65537;omega⟩,λhl=>?_⟩;have:=h3 hl;show 0≤lastI n∧lastI n<(n.kids.length:Int);unfold lastI endsA;rw[if_neg (by rw[show n.leaf=false from hl];simp)];omega
theorem zero_ok{n:NodeA}(h:rightN n=true):FrOkA (n,0)∧TopOk (n,0):=by
 obtain⟨h1,h2,h3⟩:=rightN_few h;refine⟨⟨h,by show (-2:Int)≤0;omega,by show (0:Int)≤65537;omega⟩,λhl=>?_⟩;have:=h3 hl;show (0:Int)≤0∧(0:Int)<(n.kids.length:Int);omega
theorem pushA_ok(h:StOk st)(hp:pushA G st id=.inl st1):StOk st1∧∃n,st1=(n,0) :: st∧G.load id=.inl n:=by
 unfold pushA at hp;split at hp
 ·cases hp
 ·rename_i hl;split at hp
  ·cases hp
  ·rename_i n hn;injection hp with hp;subst hp;refine⟨⟨λx hx=>?_,by simp;omega⟩,n,rfl,hn⟩;rcases List.mem_cons.1 hx with rfl|hx
   ·exact (zero_ok (GA.load_right hn)).1
   ·exact h.1 x hx
theorem edgeTop_len(last:Bool)(st:StC):(edgeTop last st).length=st.length:=by
 unfold edgeTop;cases st with
 | nil=>rfl
 | cons x r=>obtain⟨n,a⟩:=x;simp only;split <;> rfl
theorem findN_le{n:NodeA}(hr:rightN n=true)(key:ByteArray):(findN n key).1≤65535∧(n.leaf=true→(findN n key).1≤n.entries.length)∧(n.leaf=false→(findN n key).1<n.kids.length):=by
 obtain⟨h1,h2,h3⟩:=rightN_few hr;cases hl:n.leaf with
 | true =>
  rw[findN_leaf hl];have:entAt key n.entries≤n.entries.length:=List.findIdx_le_length;exact⟨by show entAt key n.entries≤_;omega,λ_=>this,λh=>by cases h⟩
 | false =>
  have hk:=(rightN_inner hr hl).2.1;rw[findN_inner hl];have:kidAt key n.keys≤n.keys.length:=List.findIdx_le_length;exact⟨by show kidAt key n.keys≤_;omega,λh=>(by cases h),λ_=>(by show kidAt key n.keys<_;omega)⟩
theorem downF_step{n:NodeA}{a:Int}{r:StC}(hl:n.leaf=false)(hlen:r.length+1≤16):downF G last ((n,a) :: r)=match pushA G ((n,a) :: r) (n.kids.getD a.toNat 0) with | .inr e=>.inr e | .inl st=>downF G last (edgeTop last st):=by
 unfold downF;have e:18-((n,a) :: r).length=(16-r.length)+1:=by simp only[List.length_cons];omega
 rw[e,downA,if_neg (by rw[hl];simp)];cases hp:pushA G ((n,a) :: r) (n.kids.getD a.toNat 0) with
 | inr e=>rfl
 | inl st =>
  simp only;have hst:st.length=r.length+2:=by
   unfold pushA at hp;split at hp
   ·cases hp
   ·split at hp
    ·cases hp
    ·injection hp with hp;subst hp;simp
  rw[edgeTop_len,hst];congr 1
  omega
theorem downF_leaf{n:NodeA}{a:Int}{r:StC}(hl:n.leaf=true)(hlen:r.length+1≤16):downF G last ((n,a) :: r)=.inl ((n,a) :: r):=by
 unfold downF;have e:18-((n,a) :: r).length=(16-r.length)+1:=by simp only[List.length_cons];omega
 rw[e,downA,if_pos hl]
end
inductive TrE (V:Nat→Option NodeA):Nat→Nat→Prop
 | leaf {id n}:V id=some n→n.leaf=true→n.entries≠[]→TrE V id 1
 | inner {id n d}:V id=some n→n.leaf=false→(∀k∈n.kids,TrE V k.toNat d)→TrE V id (d+1)
inductive Ctx (G:GA) (L:List PairS) (D:Nat):StC→List PairS→List PairS→List PairS→Nat→ByteArray→Option ByteArray→Prop
 | nil:Ctx G L D [] [] L [] D e0 none
 | cons {n:NodeA} {j:Nat} {r pre suf d lo hi} {parts:List (List PairS)} {p:List PairS}:Ctx G L D r pre parts.flatten suf (d+1) lo hi→n.leaf=false→rightN n=true→parts.length=n.kids.length →
   (∀(i:Nat) (k:Int) (p:List PairS),n.kids[i]? = some k→parts[i]? = some p→Tr G.node G.R2 (loAt lo n.keys i) (hiAt hi n.keys i) k.toNat d p)→(∀k∈n.kids,TrE G.node k.toNat d)→(∀s∈n.keys,inB lo hi s)→parts[j]? = some p →
   Ctx G L D ((n,(j:Int)) :: r) (pre++(parts.take j).flatten) p ((parts.drop (j+1)).flatten++suf) d (loAt lo n.keys j) (hiAt hi n.keys j)
def AtPos(G:GA)(L:List PairS)(D:Nat)(st:StC)(i:Nat):Prop :=
 ∃(n:NodeA) (a:Nat) (r:StC) (pre p suf:List PairS) (lo:ByteArray) (hi:Option ByteArray),st=(n,(a:Int)) :: r∧Ctx G L D r pre p suf 1 lo hi∧LeafOf G.R2 n p∧a<p.length∧i=pre.length+a
def OnPos(G:GA)(L:List PairS)(D:Nat)(st:StC)(i:Int):Prop:=(0≤i∧i<(L.length:Int)∧AtPos G L D st i.toNat)∨((i<0∨(L.length:Int)≤i)∧st=[])
section
variable {G:GA}{L pre f suf p:List PairS}{D d id:Nat}{st r:StC}{lo:ByteArray}{hi:Option ByteArray}{n:NodeA}
theorem split_at{α:Type}{l:List α}{j:Nat}{x:α}(h:l[j]? = some x):l=l.take j++x :: l.drop (j+1):=by
 obtain⟨hj,rfl⟩:=List.getElem?_eq_some_iff.1 h;rw[List.getElem_cons_drop,List.take_append_drop]
theorem flat_at{parts:List (List PairS)}{j:Nat}(h:parts[j]? = some p):parts.flatten=(parts.take j).flatten++p++(parts.drop (j+1)).flatten:=by
 conv=>lhs;rw[split_at h]
 simp
theorem flat_take{parts:List (List PairS)}{j:Nat}(h:parts[j]? = some p):(parts.take (j+1)).flatten.length=(parts.take j).flatten.length+p.length:=by
 rw[List.take_add_one,h,List.flatten_append,List.length_append];simp only[Option.toList_some,List.flatten_cons,List.flatten_nil,List.append_nil]
theorem Ctx.whole(h:Ctx G L D r pre f suf d lo hi):L=pre++f++suf:=by
 induction h with
 | nil=>simp
 | cons _ _ _ _ _ _ _ h8 ih=>rw[ih,flat_at h8];simp
theorem Ctx.deep(h:Ctx G L D r pre f suf d lo hi):r.length+d=D:=by
 induction h with
 | nil=>simp
 | cons _ _ _ _ _ _ _ _ ih=>simp only[List.length_cons];omega
theorem TrE.ne{R:Int→Int→Option ByteArray}{V:Nat→Option NodeA}(h:Tr V R lo hi id d f):TrE V id d→f≠[]:=by
 induction h with
 | @leaf lo hi id n l h1 h2 h3 h4 h5 h6 =>
  intro he;cases he with
  | leaf k1 k2 k3 =>
   rw[h1] at k1;injection k1 with k1;subst k1;rintro rfl;exact k3 (List.length_eq_zero_iff.1 h4)
  | inner k1 k2 k3=>rw[h1] at k1;injection k1 with k1;subst k1;rw[h2] at k2;cases k2
 | @inner lo hi id n d parts h1 h2 h3 h4 h5 h6 ih =>
  intro he hf;cases he with
  | leaf k1 k2 k3=>rw[h1] at k1;injection k1 with k1;subst k1;rw[h2] at k2;cases k2
  | inner k1 k2 k3 =>
   rw[h1] at k1;injection k1 with k1;subst k1;have h7:=(rightN_few h3).2.2 h2;have hk:0<n.kids.length:=by omega
   have hp:0<parts.length:=by omega
   have:=ih 0 n.kids[0] parts[0] (List.getElem?_eq_getElem hk) (List.getElem?_eq_getElem hp) (k3 _ (List.getElem_mem hk));exact this (List.flatten_eq_nil_iff.1 hf _ (List.getElem_mem hp))
def goA(G:GA)(last:Bool)(r:StC)(id:Int):StC ⊕ Err:=match pushA G r id with
 | .inr e=>.inr e
 | .inl st=>downF G last (edgeTop last st)
theorem edge_top(last:Bool)(n:NodeA)(r:StC):edgeTop last ((n,0) :: r)=(n,if last=true then lastI n else 0) :: r:=by
 unfold edgeTop;cases last <;> rfl
theorem kid_at{n:NodeA}(hn:rightN n=true)(hl:n.leaf=false){j:Nat}(hj:j<n.kids.length):n.kids.getD j 0=((n.kids[j].toNat:Nat):Int):=by
 have:=((rightN_inner hn hl).2.2 _ (List.getElem_mem hj)).1;rw[List.getD_eq_getElem?_getD,List.getElem?_eq_getElem hj];simp only[Option.getD_some];omega
theorem go_tr(last:Bool)(h:Tr G.node G.R2 lo hi id d f):∀{r:StC} {pre suf:List PairS},TrE G.node id d→Ctx G L D r pre f suf d lo hi→D≤16 →
  ∃st',goA G last r (id:Int)=.inl st'∧AtPos G L D st' (if last=true then pre.length+f.length-1 else pre.length):=by
 induction h with
 | @leaf lo hi id n l h1 h2 h3 h4 h5 h6 =>
  intro r pre suf hE hC hD;have hdp:=hC.deep;have hne:=TrE.ne (.leaf h1 h2 h3 h4 h5 h6:Tr G.node G.R2 lo hi id 1 l) hE;have hpos:0<l.length:=List.length_pos_iff.2 hne;have hp:pushA G r (id:Int)=.inl ((n,0) :: r):=by
   unfold pushA;rw[if_neg (by omega),(GA.node_load h1).2]
  unfold goA;rw[hp];simp only;rw[edge_top,downF_leaf h2 (by omega)];cases last with
  | false=>exact⟨_,rfl,n,0,r,pre,l,suf,lo,hi,rfl,hC,⟨h2,h3,h4,h5⟩,hpos,by simp⟩
  | true =>
   refine⟨_,rfl,n,l.length-1,r,pre,l,suf,lo,hi,?_,hC,⟨h2,h3,h4,h5⟩,by omega,by simp;omega⟩;simp only[if_true];congr 2
   unfold lastI endsA;rw[if_pos h2,h4];omega
 | @inner lo hi id n d parts h1 h2 h3 h4 h5 h6 ih =>
  intro r pre suf hE hC hD;have hdp:=hC.deep;have hkids:=(rightN_few h3).2.2 h2;cases hE with
  | leaf k1 k2 k3=>rw[h1] at k1;injection k1 with k1;subst k1;rw[h2] at k2;cases k2
  | inner k1 k2 k3 =>
   rw[h1] at k1;injection k1 with k1;subst k1;have hp:pushA G r (id:Int)=.inl ((n,0) :: r):=by
    unfold pushA;rw[if_neg (by omega),(GA.node_load h1).2]
   unfold goA;rw[hp];simp only;obtain⟨j,hj,hjt,hjl⟩:∃j:Nat,(if last=true then lastI n else 0)=(j:Int)∧j<n.kids.length∧(j=if last=true then n.kids.length-1 else 0):=by
    cases last with
    | false=>exact⟨0,rfl,by omega,rfl⟩
    | true =>
     refine⟨n.kids.length-1,?_,by omega,rfl⟩;simp only[if_true];unfold lastI endsA;rw[if_neg (by rw[h2];simp)];omega
   rw[edge_top,hj,downF_step h2 (by omega),Int.toNat_natCast,kid_at h3 h2 hjt];have hjp:j<parts.length:=by omega
   have hpj:parts[j]? = some parts[j]:=List.getElem?_eq_getElem hjp;have hCj:=Ctx.cons hC h2 h3 h4 h5 k3 h6 hpj;obtain⟨st',e1,e2⟩:=ih j n.kids[j] parts[j] (List.getElem?_eq_getElem hjt) hpj (k3 _ (List.getElem_mem hjt)) hCj hD;refine⟨st',e1,?_⟩;have hfl:=congrArg List.length (flat_at hpj);simp only[List.length_append] at hfl e2 ⊢;cases last with
   | false =>
    simp only[if_false,Bool.false_eq_true] at hjl e2 ⊢;rw[hjl] at e2;simpa using e2
   | true =>
    simp only[if_true] at hjl e2 ⊢;have hd:parts.drop (j+1)=[]:=List.drop_eq_nil_of_le (by omega);rw[hd] at hfl;simp only[List.flatten_nil,List.length_nil,Nat.add_zero] at hfl;rw[hfl];rwa [Nat.add_assoc] at e2
theorem next_ctx(hD:D≤16)(h:Ctx G L D r pre f suf d lo hi):(suf=[]∧moveA G 1 r=.inl [])∨(suf≠[]∧∃st',moveA G 1 r=.inl st'∧AtPos G L D st' (pre.length+f.length)):=by
 induction h with
 | nil=>exact .inl ⟨rfl,rfl⟩
 | @cons n j r pre suf d lo hi parts p h1 h2 h3 h4 h5 h6 h7 h8 ih =>
  have hdp:=h1.deep;have hj:=(List.getElem?_eq_some_iff.1 h8).1;have hfl:=congrArg List.length (flat_at h8);simp only[List.length_append] at hfl;by_cases hn:j+1<n.kids.length
  ·have hjp:j+1<parts.length:=by omega
   have hpj:parts[j+1]? = some parts[j+1]:=List.getElem?_eq_getElem hjp;have hCj:=Ctx.cons h1 h2 h3 h4 h5 h6 h7 hpj;have hT:=h5 (j+1) n.kids[j+1] parts[j+1] (List.getElem?_eq_getElem hn) hpj;have hE:=h6 _ (List.getElem_mem hn);obtain⟨st',e1,e2⟩:=go_tr false hT hE hCj hD;refine .inr ⟨?_,st',?_,?_⟩
   ·intro hs;have:=TrE.ne hT hE;rw[List.drop_eq_getElem_cons hjp,List.flatten_cons] at hs;exact this (List.append_eq_nil_iff.1 (List.append_eq_nil_iff.1 hs).1).1
   ·unfold moveA;rw[if_pos (by unfold endsA;rw[if_neg (by rw[h2];simp)];omega),show decide ((1:Int)<0)=false from rfl,show ((j:Int)+1)=((j+1:Nat):Int) by omega,downF_step h2 (by omega),Int.toNat_natCast,kid_at h3 h2 hn];exact e1
   ·simp only[Bool.false_eq_true,if_false,List.length_append] at e2 ⊢;have hs:(parts.take (j+1)).flatten.length=(parts.take j).flatten.length+p.length:=flat_take h8;rw[hs] at e2;rwa [Nat.add_assoc]
  ·have hd:parts.drop (j+1)=[]:=List.drop_eq_nil_of_le (by omega);have hm:moveA G 1 ((n,(j:Int)) :: r)=moveA G 1 r:=by
    conv=>lhs;unfold moveA
    rw[if_neg (by unfold endsA;rw[if_neg (by rw[h2];simp)];omega)]
   rw[hm,hd];rw[hd] at hfl;simp only[List.flatten_nil,List.nil_append,List.length_append,List.length_nil,Nat.add_zero] at hfl ⊢;rcases ih with ⟨i1,i2⟩|⟨i1,st',i2,i3⟩
   ·exact .inl ⟨i1,i2⟩
   ·refine .inr ⟨i1,st',i2,?_⟩;rw[hfl] at i3;rwa [Nat.add_assoc]
theorem prev_ctx(hD:D≤16)(h:Ctx G L D r pre f suf d lo hi):(pre=[]∧moveA G (-1) r=.inl [])∨(pre≠[]∧∃st',moveA G (-1) r=.inl st'∧AtPos G L D st' (pre.length-1)):=by
 induction h with
 | nil=>exact .inl ⟨rfl,rfl⟩
 | @cons n j r pre suf d lo hi parts p h1 h2 h3 h4 h5 h6 h7 h8 ih =>
  have hdp:=h1.deep;have hj:=(List.getElem?_eq_some_iff.1 h8).1;by_cases hn:1≤j
  ·have hjp:j-1<parts.length:=by omega
   have hjk:j-1<n.kids.length:=by omega
   have hpj:parts[j-1]? = some parts[j-1]:=List.getElem?_eq_getElem hjp;have hCj:=Ctx.cons h1 h2 h3 h4 h5 h6 h7 hpj;have hT:=h5 (j-1) n.kids[j-1] parts[j-1] (List.getElem?_eq_getElem hjk) hpj;have hE:=h6 _ (List.getElem_mem hjk);have hne:=TrE.ne hT hE;obtain⟨st',e1,e2⟩:=go_tr true hT hE hCj hD;have hs:(parts.take j).flatten.length=(parts.take (j-1)).flatten.length+parts[j-1].length:=by
    obtain⟨q,rfl⟩:∃q,j=q+1:=⟨j-1,by omega⟩;exact flat_take hpj
   have hpos:0<parts[j-1].length:=List.length_pos_iff.2 hne;refine .inr ⟨?_,st',?_,?_⟩
   ·intro hs2;have:=congrArg List.length hs2;simp only[List.length_append,List.length_nil] at this;omega
   ·unfold moveA;rw[if_pos (by unfold endsA;rw[if_neg (by rw[h2];simp)];omega),show decide ((-1:Int)<0)=true from rfl,show ((j:Int) + -1)=((j-1:Nat):Int) by omega,downF_step h2 (by omega),Int.toNat_natCast,kid_at h3 h2 hjk];exact e1
   ·simp only[if_true,List.length_append] at e2 ⊢;rw[hs];have e3:pre.length+(parts.take (j-1)).flatten.length+parts[j-1].length-1=pre.length+((parts.take (j-1)).flatten.length+parts[j-1].length)-1:=by omega
    rwa [e3] at e2
  ·have hj0:j=0:=by omega
   subst hj0;have hm:moveA G (-1) ((n,((0:Nat):Int)) :: r)=moveA G (-1) r:=by
    conv=>lhs;unfold moveA
    rw[if_neg (by omega)]
   rw[hm];simp only[List.take_zero,List.flatten_nil,List.append_nil];exact ih
end
def TreeE(G:GA)(root d:Nat)(l:List PairS):Prop:=TreeG G root d l∧(root≠0→TrE G.node root d)
def seekP(key:ByteArray)(l:List PairS):Nat:=l.findIdx λx=>!ltS x.1 key
section
variable {G:GA}{L pre f suf p:List PairS}{D d id i root:Nat}{st r:StC}{lo:ByteArray}{hi:Option ByteArray}{n:NodeA}{key:ByteArray}
theorem AtPos.lt(h:AtPos G L D st i):i<L.length:=by
 obtain⟨n,a,r,pre,p,suf,lo,hi,rfl,hC,hl,ha,rfl⟩:=h;have:=congrArg List.length hC.whole;simp only[List.length_append] at this;omega
theorem AtPos.on(h:AtPos G L D st i):OnPos G L D st (i:Int):=.inl ⟨by omega,by have:=h.lt;omega,by rwa [Int.toNat_natCast]⟩
theorem AtPos.pair(h:AtPos G L D st i):∃(n:NodeA) (a:Nat) (r:StC) (e:EntryA) (x:PairS),st=(n,(a:Int)) :: r∧n.entries[a]? = some e∧L[i]? = some x∧e.key=x.1∧valueA G e=.inl x.2∧valueOk G e∧rightN n=true∧n.leaf=true:=by
 obtain⟨n,a,r,pre,p,suf,lo,hi,rfl,hC,hl,ha,rfl⟩:=h;have hea:a<n.entries.length:=by rw[hl.len];exact ha
 have h1:=hl.tells a n.entries[a] p[a] (List.getElem?_eq_getElem hea) (List.getElem?_eq_getElem ha);refine⟨n,a,r,n.entries[a],p[a],rfl,List.getElem?_eq_getElem hea,?_,h1.1,(value_tells h1.2).1,(value_tells h1.2).2,hl.right,hl.leaf⟩;rw[hC.whole,List.append_assoc,List.getElem?_append_right (by omega),Nat.add_sub_cancel_left,List.getElem?_append_left ha,List.getElem?_eq_getElem ha]
theorem Ctx.small(h:Ctx G L D r pre f suf d lo hi):∀y∈r,0≤y.2∧y.2≤65535:=by
 induction h with
 | nil=>intro y hy;simp at hy
 | @cons n j r pre suf d lo hi parts p h1 h2 h3 h4 h5 h6 h7 h8 ih =>
  intro y hy;rcases List.mem_cons.1 hy with rfl|hy
  ·have hj:=(List.getElem?_eq_some_iff.1 h8).1;have:=(rightN_few h3).2.1;show 0≤(j:Int)∧(j:Int)≤65535;omega
  ·exact ih y hy
theorem OnPos.small{i:Int}(h:OnPos G L D st i):∀y∈st,0≤y.2∧y.2≤65535:=by
 rcases h with ⟨_,_,n,a,r,pre,p,suf,lo,hi,rfl,hC,hl,ha,_⟩|⟨_,rfl⟩
 ·intro y hy;rcases List.mem_cons.1 hy with rfl|hy
  ·have:=(rightN_few hl.right).1;have:=hl.len;show 0≤(a:Int)∧(a:Int)≤65535;omega
  ·exact hC.small y hy
 ·intro y hy;simp at hy
theorem next_pos(hD:D≤16)(h:AtPos G L D st i):∃st',moveA G 1 st=.inl st'∧OnPos G L D st' ((i:Int)+1):=by
 obtain⟨n,a,r,pre,p,suf,lo,hi,rfl,hC,hl,ha,rfl⟩:=h;have hw:=congrArg List.length hC.whole;have hdp:=hC.deep;simp only[List.length_append] at hw;by_cases hn:a+1<p.length
 ·refine⟨(n,((a+1:Nat):Int)) :: r,?_,?_⟩
  ·unfold moveA;rw[if_pos (by unfold endsA;rw[if_pos hl.leaf,hl.len];omega),show ((a:Int)+1)=((a+1:Nat):Int) by omega,downF_leaf hl.leaf (by omega)]
  ·have:AtPos G L D ((n,((a+1:Nat):Int)) :: r) (pre.length+a+1):=⟨n,a+1,r,pre,p,suf,lo,hi,rfl,hC,hl,hn,by omega⟩;exact this.on
 ·have hm:moveA G 1 ((n,(a:Int)) :: r)=moveA G 1 r:=by
   conv=>lhs;unfold moveA
   rw[if_neg (by unfold endsA;rw[if_pos hl.leaf,hl.len];omega)]
  rw[hm];rcases next_ctx hD hC with ⟨k1,k2⟩|⟨k1,st',k2,k3⟩
  ·refine⟨[],k2,.inr ⟨.inr ?_,rfl⟩⟩;subst k1;simp only[List.length_nil] at hw;omega
  ·refine⟨st',k2,?_⟩;have:=k3.on;rwa [show ((pre.length+p.length:Nat):Int)=((pre.length+a:Nat):Int)+1 by omega] at this
theorem prev_pos(hD:D≤16)(h:AtPos G L D st i):∃st',moveA G (-1) st=.inl st'∧OnPos G L D st' ((i:Int)-1):=by
 obtain⟨n,a,r,pre,p,suf,lo,hi,rfl,hC,hl,ha,rfl⟩:=h;have hdp:=hC.deep;by_cases hn:1≤a
 ·refine⟨(n,((a-1:Nat):Int)) :: r,?_,?_⟩
  ·unfold moveA;rw[if_pos (by unfold endsA;rw[if_pos hl.leaf,hl.len];omega),show ((a:Int) + -1)=((a-1:Nat):Int) by omega,downF_leaf hl.leaf (by omega)]
  ·have:AtPos G L D ((n,((a-1:Nat):Int)) :: r) (pre.length+a-1):=⟨n,a-1,r,pre,p,suf,lo,hi,rfl,hC,hl,by omega,by omega⟩;have:=this.on;rwa [show ((pre.length+a-1:Nat):Int)=((pre.length+a:Nat):Int)-1 by omega] at this
 ·have ha0:a=0:=by omega
  subst ha0;have hm:moveA G (-1) ((n,((0:Nat):Int)) :: r)=moveA G (-1) r:=by
   conv=>lhs;unfold moveA
   rw[if_neg (by omega)]
  rw[hm];rcases prev_ctx hD hC with ⟨k1,k2⟩|⟨k1,st',k2,k3⟩
  ·refine⟨[],k2,.inr ⟨.inl ?_,rfl⟩⟩;subst k1;simp only[List.length_nil];omega
  ·refine⟨st',k2,?_⟩;have hp:0<pre.length:=List.length_pos_iff.2 k1;have:=k3.on;rwa [show ((pre.length-1:Nat):Int)=((pre.length+0:Nat):Int)-1 by omega] at this
theorem edge_pos(last:Bool)(h:TreeE G root d L):∃st',edgeA G (root:Int) last=.inl st'∧OnPos G L d st' (if last=true then (L.length:Int)-1 else 0):=by
 obtain⟨h1,h2⟩:=h;rcases h1 with ⟨rfl,rfl,rfl⟩|⟨h1,_,h3,h4⟩
 ·refine⟨[],by unfold edgeA;exact if_pos rfl,.inr ⟨?_,rfl⟩⟩;cases last
  ·exact .inr (by simp)
  ·exact .inl (by simp)
 ·have hE:=h2 (by omega);have hv:L≠[]:=TrE.ne h4 hE;have hpos:0<L.length:=List.length_pos_iff.2 hv;obtain⟨st',e1,e2⟩:=go_tr (L:=L) (D:=d) last h4 hE .nil h3;have he:edgeA G (root:Int) last=.inl st':=by
   unfold edgeA;rw[if_neg (by omega)];unfold goA at e1;cases hp:pushA G [] (root:Int) with
   | inr e=>rw[hp] at e1;cases e1
   | inl st =>
    rw[hp] at e1;simp only at e1 ⊢;rw[e1];simp only;obtain⟨n,a,r,pre,p,suf,lo,hi,rfl,hC,hl,ha,_⟩:=e2;rw[if_neg];unfold topNone;simp only;rw[List.isEmpty_iff];intro hne;have:=hl.len;rw[hne] at this;simp at this;omega
  refine⟨st',he,?_⟩;have:=e2.on;cases last with
  | false=>simpa using this
  | true =>
   simp only[if_true,List.length_nil,Nat.zero_add] at this ⊢;rwa [show ((L.length-1:Nat):Int)=(L.length:Int)-1 by omega] at this
theorem Ctx.ahead(h:Ctx G L D r pre f suf d lo hi):(∀x∈pre,ltS x.1 lo=true)∧(∀x∈suf,∃h,hi=some h∧ltS x.1 h=false):=by
 induction h with
 | nil=>exact⟨λx hx=>by simp at hx,λx hx=>by simp at hx⟩
 | @cons n j r pre suf d lo hi parts p h1 h2 h3 h4 h5 h6 h7 h8 ih =>
  obtain⟨i1,i2⟩:=ih;obtain⟨q1,q2, -⟩:=rightN_inner h3 h2;have hj:=(List.getElem?_eq_some_iff.1 h8).1;refine⟨λx hx=>?_,λx hx=>?_⟩
  ·unfold loAt;by_cases hj0:j=0
   ·subst hj0;rw[if_pos rfl];simp only[List.take_zero,List.flatten_nil,List.append_nil] at hx;exact i1 x hx
   ·have hjk:j-1<n.keys.length:=by omega
    rw[if_neg hj0];have e:n.keys.getD (j-1) lo=n.keys[j-1]:=by simp[List.getD,hjk]
    rw[e];rcases List.mem_append.1 hx with hx|hx
    ·exact lt_of_lt_not (i1 x hx) (h7 _ (List.getElem_mem hjk)).1
    ·obtain⟨q,hq,hx⟩:=List.mem_flatten.1 hx;obtain⟨i,hi',e2⟩:=List.getElem_of_mem hq;rw[List.length_take] at hi';have hip:i<parts.length:=by omega
     have hik:i<n.kids.length:=by omega
     have hie:i<n.keys.length:=by omega
     rw[List.getElem_take] at e2;have hT:=h5 i n.kids[i] parts[i] (List.getElem?_eq_getElem hik) (List.getElem?_eq_getElem hip);have hb:=(hT.keys x (by rw[e2];exact hx)).2 n.keys[i] (by unfold hiAt;rw[List.getElem?_eq_getElem hie]);by_cases hij:i=j-1
     ·subst hij;exact hb
     ·exact ltS_trans hb (pw_at q1 (by omega) (List.getElem?_eq_getElem hie) (List.getElem?_eq_getElem hjk))
  ·unfold hiAt;rcases List.mem_append.1 hx with hx|hx
   ·obtain⟨q,hq,hx⟩:=List.mem_flatten.1 hx;obtain⟨i,hi',e2⟩:=List.getElem_of_mem hq;rw[List.length_drop] at hi';rw[List.getElem_drop] at e2;have hip:j+1+i<parts.length:=by omega
    have hik:j+1+i<n.kids.length:=by omega
    have hjk:j<n.keys.length:=by omega
    have hie:j+i<n.keys.length:=by omega
    have hT:=h5 (j+1+i) n.kids[j+1+i] parts[j+1+i] (List.getElem?_eq_getElem hik) (List.getElem?_eq_getElem hip);have hb:=(hT.keys x (by rw[e2];exact hx)).1;unfold loAt at hb;rw[if_neg (by omega)] at hb;have e:n.keys.getD (j+1+i-1) lo=n.keys[j+i]:=by
     rw[show j+1+i-1=j+i by omega];simp[List.getD,hie]
    rw[e] at hb;refine⟨n.keys[j],by rw[List.getElem?_eq_getElem hjk],?_⟩;by_cases hi0:i=0
    ·subst hi0;exact hb
    ·have:=pw_at q1 (show j<j+i by omega) (List.getElem?_eq_getElem hjk) (List.getElem?_eq_getElem hie);cases hc:ltS x.1 n.keys[j] with
     | false=>rfl
     | true=>have:=ltS_trans hc this;rw[hb] at this;cases this
   ·obtain⟨h,rfl,hh⟩:=i2 x hx;cases hk:n.keys[j]? with
    | none=>exact⟨h,rfl,hh⟩
    | some s =>
     obtain⟨hjk,rfl⟩:=List.getElem?_eq_some_iff.1 hk;refine⟨n.keys[j],rfl,?_⟩;have:=(h7 _ (List.getElem_mem hjk)).2 h rfl;cases hc:ltS x.1 n.keys[j] with
     | false=>rfl
     | true=>have:=ltS_trans hc this;rw[hh] at this;cases this
theorem seekDown_tr(h:Tr G.node G.R2 lo hi id d f)(key:ByteArray):∀{fuel:Nat} {r:StC} {pre suf:List PairS},TrE G.node id d→Ctx G L D r pre f suf d lo hi→D≤16→d≤fuel→inB lo hi key →
  ∃(n:NodeA) (r':StC) (pre' p suf':List PairS) (lo':ByteArray) (hi':Option ByteArray),seekDown G key fuel r (id:Int)=.inl ((n,(entAt key n.entries:Int)) :: r')∧Ctx G L D r' pre' p suf' 1 lo' hi'∧LeafOf G.R2 n p∧inB lo' hi' key:=by
 induction h with
 | @leaf lo hi id n l h1 h2 h3 h4 h5 h6 =>
  intro fuel r pre suf hE hC hD hf hk;have hdp:=hC.deep;obtain⟨fuel,rfl⟩:∃q,fuel=q+1:=⟨fuel-1,by omega⟩;have hp:pushA G r (id:Int)=.inl ((n,0) :: r):=by
   unfold pushA;rw[if_neg (by omega),(GA.node_load h1).2]
  refine⟨n,r,pre,l,suf,lo,hi,?_,hC,⟨h2,h3,h4,h5⟩,hk⟩;rw[seekDown,hp];simp only;rw[if_pos h2,findN_leaf h2]
 | @inner lo hi id n d parts h1 h2 h3 h4 h5 h6 ih =>
  intro fuel r pre suf hE hC hD hf hk;have hdp:=hC.deep;obtain⟨fuel,rfl⟩:∃q,fuel=q+1:=⟨fuel-1,by omega⟩;cases hE with
  | leaf k1 k2 k3=>rw[h1] at k1;injection k1 with k1;subst k1;rw[h2] at k2;cases k2
  | inner k1 k2 k3 =>
   rw[h1] at k1;injection k1 with k1;subst k1;obtain⟨r1,r2,_⟩:=rightN_inner h3 h2;obtain⟨k,p,q1,q2,q3,q4⟩:=inner_find r1 r2 h4 h5 hk;have hp:pushA G r (id:Int)=.inl ((n,0) :: r):=by
    unfold pushA;rw[if_neg (by omega),(GA.node_load h1).2]
   have hCj:=Ctx.cons hC h2 h3 h4 h5 k3 h6 q2;obtain⟨hjt,rfl⟩:=List.getElem?_eq_some_iff.1 q1;obtain⟨n',r',pre',p',suf',lo',hi',e1,e2⟩:=ih _ _ p q1 q2 (k3 _ (List.getElem_mem hjt)) hCj hD (by omega:d≤fuel) q3;refine⟨n',r',pre',p',suf',lo',hi',?_,e2⟩;rw[seekDown,hp];simp only;rw[if_neg (by rw[h2];simp),findN_inner h2];simp only;rw[kid_at h3 h2 hjt];exact e1
theorem findIdx_cut{α:Type}{q:α→Bool}{A B:List α}(hA:∀x∈A,q x=false)(hB:∀x,B[0]? = some x→q x=true):(A++B).findIdx q=A.length:=by
 induction A with
 | nil =>
  cases B with
  | nil=>rfl
  | cons b B=>simp only[List.nil_append,List.findIdx_cons,hB b rfl,cond_true,List.length_nil]
 | cons a A ih =>
  rw[List.cons_append,List.findIdx_cons,hA a List.mem_cons_self];simp only[cond_false,List.length_cons];rw[ih (λx hx=>hA x (List.mem_cons_of_mem _ hx))]
theorem seek_pos(key:ByteArray)(h:TreeE G root d L):∃st',seekA G (root:Int) key=.inl st'∧OnPos G L d st' (seekP key L:Int):=by
 obtain⟨h1,h2⟩:=h;rcases h1 with ⟨rfl,rfl,rfl⟩|⟨h1,_,h3,h4⟩
 ·exact⟨[],by unfold seekA;exact if_pos rfl,.inr ⟨.inr (by simp[seekP]),rfl⟩⟩
 ·have hE:=h2 (by omega);obtain⟨n,r,pre,p,suf,lo,hi,e1,hC,hl,hk⟩:=seekDown_tr (L:=L) (D:=d) (fuel:=17) h4 key hE .nil h3 (by omega) (inB_all key);have hw:=hC.whole;have hdp:=hC.deep;obtain⟨b1,b2⟩:=hC.ahead;obtain⟨a,ha⟩:∃a,a=entAt key n.entries:=⟨_,rfl⟩;rw[← ha] at e1;have hal:a≤n.entries.length:=by rw[ha];exact List.findIdx_le_length
  have hpl:=hl.len;have hpre:∀x∈pre,(!ltS x.1 key)=false:=λx hx=>by
   rw[lt_of_lt_not (b1 x hx) hk.1];rfl
  have hsuf:∀x∈suf,(!ltS x.1 key)=true:=λx hx=>by
   obtain⟨h,e,hh⟩:=b2 x hx;have:=hk.2 h e;cases hc:ltS x.1 key with
   | false=>rfl
   | true=>have:=ltS_trans hc this;rw[hh] at this;cases this
  have hlow:∀x∈p.take a,(!ltS x.1 key)=false:=λx hx=>by
   obtain⟨i,hi',e⟩:=List.getElem_of_mem hx;rw[List.length_take] at hi';rw[List.getElem_take] at e;have hie:i<n.entries.length:=by omega
   have hip:i<p.length:=by omega
   have k1:=(hl.tells i n.entries[i] p[i] (List.getElem?_eq_getElem hie) (List.getElem?_eq_getElem hip)).1;have k2:=findIdx_lt (f:=λe:EntryA=>!ltS e.key key) (i:=i) (by show i<entAt key n.entries;omega) (List.getElem?_eq_getElem hie);rw[k1,e] at k2;exact k2
  have hseek:seekP key L=pre.length+a:=by
   unfold seekP;have hL:L=(pre++p.take a)++(p.drop a++suf):=by
    rw[hw,List.append_assoc,List.append_assoc,← List.append_assoc (p.take a),List.take_append_drop]
   have hAl:(pre++p.take a).length=pre.length+a:=by rw[List.length_append,List.length_take];omega
   rw[hL,← hAl];refine findIdx_cut (λx hx=>?_) (λx hx=>?_)
   ·rcases List.mem_append.1 hx with hx|hx
    ·exact hpre x hx
    ·exact hlow x hx
   ·by_cases hap:a<p.length
    ·have hie:a<n.entries.length:=by omega
     rw[List.getElem?_append_left (by rw[List.length_drop];omega),List.getElem?_drop,Nat.add_zero,List.getElem?_eq_getElem hap] at hx;injection hx with hx;have k1:=(hl.tells a n.entries[a] p[a] (List.getElem?_eq_getElem hie) (List.getElem?_eq_getElem hap)).1;have k2:(!ltS n.entries[a].key key)=true:=findIdx_at (f:=λe:EntryA=>!ltS e.key key) (l:=n.entries) (by
      have:n.entries.findIdx (λe:EntryA=>!ltS e.key key)=a:=ha.symm;rw[this];exact List.getElem?_eq_getElem hie)
     rw[k1,hx] at k2;exact k2
    ·rw[List.drop_eq_nil_of_le (by omega),List.nil_append] at hx;exact hsuf x (List.mem_of_getElem? hx)
  rw[hseek];unfold seekA;rw[if_neg (by omega),e1];simp only;by_cases hap:a<p.length
  ·rw[if_pos (by omega)];have:AtPos G L d ((n,(a:Int)) :: r) (pre.length+a):=⟨n,a,r,pre,p,suf,lo,hi,rfl,hC,hl,hap,rfl⟩;exact⟨_,rfl,this.on⟩
  ·rw[if_neg (by omega)];have hm:moveA G 1 ((n,(a:Int)-1) :: r)=moveA G 1 r:=by
    conv=>lhs;unfold moveA
    rw[if_neg (by unfold endsA;rw[if_pos hl.leaf];omega)]
   rw[hm];have hwl:=congrArg List.length hw;simp only[List.length_append] at hwl;rcases next_ctx h3 hC with ⟨k1,k2⟩|⟨k1,st',k2,k3⟩
   ·refine⟨[],k2,.inr ⟨.inr ?_,rfl⟩⟩;subst k1;simp only[List.length_nil] at hwl;omega
   ·refine⟨st',k2,?_⟩;have:=k3.on;rwa [show pre.length+p.length=pre.length+a by omega] at this
end
end
end Go.Proofs.YtdnbmdghmmpgcaaGreatDoor
